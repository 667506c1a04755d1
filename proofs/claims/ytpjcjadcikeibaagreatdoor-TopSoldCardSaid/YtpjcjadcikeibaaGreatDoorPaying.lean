import Derived.Test.YtpjcjadcikeibaaGreatDoorTerms
namespace Go.Proofs.YtpjcjadcikeibaaGreatDoor
open Go.RowKit
set_option maxRecDepth 100000 in
set_option maxHeartbeats 3200000 in
theorem ffee_any (lo hi : Nat) (T : Tar) (fa ra ea : Option Addr) (fm fc rm rc em ec : Nat) (k l f : Nat) (w : World)
    (hT : TarIn lo hi w (.agg #[.int .i64 T.kinds, .slice fa fm fc, .slice ra rm rc, .slice ea em ec]) T) (hV : T.Valid) (hhi : hi ≤ w.heap.size) (hk : k < T.kinds) (hlf : l ≤ f) (hf : f ≤ 119) :
    Calls Tryz.prog 37 #[.agg #[.int .i64 T.kinds, .slice fa fm fc, .slice ra rm rc, .slice ea em ec], .int .i64 k, .int .i64 l, .int .i64 f] w fun e w' => e = .returned (.tuple #[.int .i64 (T.fee k l f), .int .i64 0]) ∧ w.grownBy w' none := by
  obtain ⟨wx, hwx⟩ : ∃ wx, wx = (w.alloc (.cells #[.int .i64 T.kinds, .slice fa fm fc, .slice ra rm rc, .slice ea em ec] 27)).alloc (.cells #[.int .i64 l, .int .i64 f] 73) := ⟨_, rfl⟩
  have hG : w.grownBy wx none := by rw [hwx]; exact (World.grownBy_alloc _ _ _).trans (World.grownBy_alloc _ _ _)
  obtain ⟨P, hP⟩ : ∃ P, P = w.heap.size := ⟨_, rfl⟩
  have hr : wx.heap[P]? = some (.cells #[.int .i64 T.kinds, .slice fa fm fc, .slice ra rm rc, .slice ea em ec] 27 (0, 0)) := by rw [hwx, hP]; exact blk_alloc (heap_alloc_new w _)
  have hx : ∀ o, wx.cell? ⟨P + 1, o, none⟩ = (#[.int .i64 l, .int .i64 f] : Array Value)[o]? := by
    intro o
    rw [hwx, hP]
    have := cell_new (w.alloc (.cells #[.int .i64 T.kinds, .slice fa fm fc, .slice ra rm rc, .slice ea em ec] 27)) #[.int .i64 l, .int .i64 f] 73 o
    rw [show (w.alloc (.cells #[.int .i64 T.kinds, .slice fa fm fc, .slice ra rm rc, .slice ea em ec] 27)).heap.size = w.heap.size + 1 from by simp] at this
    exact this
  have x0 : wx.cell? ⟨P + 1, 0, none⟩ = some (.int .i64 l) := by rw [hx]; rfl
  have x1 : wx.cell? ⟨P + 1, 1, none⟩ = some (.int .i64 f) := by rw [hx]; rfl
  obtain ⟨b0, b1, b2, b3⟩ := four rfl hr
  have TM := Lib.hid (term_any lo hi T fa ra ea fm fc rm rc em ec k l f wx (hT.kept hG (by simp)) hV hk hlf hf)
  have HV := Lib.hid hV
  have HT := Lib.hid hT
  have HG := Lib.hid hG
  have HP := Lib.hid hP
  have HWX := Lib.hid hwx
  clear hwx hG hr hx hP hT hV
  go_enter Tryz.func37, Tryz.ntmps37
  go_upto_region 2 with (fail)
  rw [← HWX.out, ← HP.out]
  go_upto_region 3 with (first | (go_at_call 45; go_must (refine TM.out.mono ?_); rintro e w2 ⟨Q, rfl, hq, htw, hg⟩))
  have y0 : w2.cell? ⟨P + 1, 0, none⟩ = some (.int .i64 l) := hg.cell x0 (by simp)
  have y1 : w2.cell? ⟨P + 1, 1, none⟩ = some (.int .i64 f) := hg.cell x1 (by simp)
  have hQw : w.heap.size ≤ Q := Nat.le_trans HG.out.size hq
  have FEE := Lib.hid (tfee_any lo hi Q k l f T _ _ _ w2 htw (HT.out.kept (HG.out.trans hg) (by simp)) HV.out (Nat.le_trans hhi hQw) hk hlf hf)
  have HG2 := Lib.hid (HG.out.trans hg)
  clear b0 b1 b2 b3 x0 x1 hg htw hq TM HWX HP
  generalize P + 1 = R at *
  go_wp2_with
    (first
      | (go_at_call 22; go_must (refine FEE.out.mono ?_); rintro e w3 ⟨rfl, hg3, htw3⟩)
      | (go_at_call 23; go_must (refine (int_any _ _).mono ?_); rintro e w4 ⟨rfl, rfl⟩))
  go_ret2
  exact ⟨rfl, HG2.out.andThen hg3 (by rintro j e; cases e; exact .inl hQw)⟩
theorem dem_one (p : Int) (w : World) (hp0 : 0 ≤ p) (hp1 : p ≤ 999) : DemIn (w.alloc (.cells #[.int .i64 p, .int .i64 999, .int .i64 3] 136)) w.heap.size 0 1 := by
  intro i hi
  obtain rfl : i = 0 := by omega
  refine ⟨p, 999, 3, hp0, hp1, ?_, ?_, ?_⟩
  · exact cell_new w #[.int .i64 p, .int .i64 999, .int .i64 3] 136 0
  · exact cell_new w #[.int .i64 p, .int .i64 999, .int .i64 3] 136 1
  · exact cell_new w #[.int .i64 p, .int .i64 999, .int .i64 3] 136 2
theorem stay_new (w : World) (s : Sty) (n : Nat) (hs : s.Ok n) : StayAt (w.alloc (.cells #[.int .i64 s.kind, .int .i64 s.lmin, .int .i64 s.lmax, .int .i64 s.fmin, .int .i64 s.fmax] 41)) (.slice (some ⟨w.heap.size, 0, none⟩) 1 1) 1 n := by
  refine ⟨_, _, rfl, by omega, fun _ => ⟨w.heap.size, 0, s, rfl, by simp, hs, ?_, ?_, ?_, ?_, ?_⟩⟩
  · exact cell_new w #[.int .i64 s.kind, .int .i64 s.lmin, .int .i64 s.lmax, .int .i64 s.fmin, .int .i64 s.fmax] 41 0
  · exact cell_new w #[.int .i64 s.kind, .int .i64 s.lmin, .int .i64 s.lmax, .int .i64 s.fmin, .int .i64 s.fmax] 41 1
  · exact cell_new w #[.int .i64 s.kind, .int .i64 s.lmin, .int .i64 s.lmax, .int .i64 s.fmin, .int .i64 s.fmax] 41 2
  · exact cell_new w #[.int .i64 s.kind, .int .i64 s.lmin, .int .i64 s.lmax, .int .i64 s.fmin, .int .i64 s.fmax] 41 3
  · exact cell_new w #[.int .i64 s.kind, .int .i64 s.lmin, .int .i64 s.lmax, .int .i64 s.fmin, .int .i64 s.fmax] 41 4
set_option maxRecDepth 100000 in
set_option maxHeartbeats 3200000 in
theorem opened_any (lo hi : Nat) (T : Tar) (fa ra ea : Option Addr) (fm fc rm rc em ec : Nat) (sb : Option Addr) (sc : Nat) (p : Int) (w : World)
    (hT : TarIn lo hi w (.agg #[.int .i64 T.kinds, .slice fa fm fc, .slice ra rm rc, .slice ea em ec]) T) (hV : T.Valid) (hv : StayAt w (.slice sb 1 sc) 1 T.kinds) (hp0 : 0 ≤ p) (hp1 : p ≤ 999) :
    Calls Tryz.prog 32 #[.agg #[.int .i64 T.kinds, .slice fa fm fc, .slice ra rm rc, .slice ea em ec], .slice sb 1 sc, .int .i64 p] w fun e w' => ∃ Q, e = .returned (.tuple #[.pointer (some ⟨Q, 0, none⟩), .int .i64 0]) ∧ w.heap.size ≤ Q ∧ TW w' Q T (.slice fa fm fc) (.slice ra rm rc) (.slice ea em ec) ∧ w.grownBy w' none := by
  obtain ⟨P, hP⟩ : ∃ P, P = w.heap.size := ⟨_, rfl⟩
  obtain ⟨row, hrow⟩ : ∃ row, row = Obj.cells #[.int .i64 T.kinds, .slice fa fm fc, .slice ra rm rc, .slice ea em ec] 27 (0, 0) := ⟨_, rfl⟩
  have hB0 : (w.alloc row).heap[P]? = some row := by rw [hP]; exact heap_alloc_new w _
  have hG0 : w.grownBy (w.alloc row) none := World.grownBy_alloc w _ _
  have HP := Lib.hid hP
  have HV := Lib.hid hV
  have HT := Lib.hid hT
  have HS := Lib.hid hv
  clear hV hT hv
  go_enter Tryz.func32, Tryz.ntmps32
  go_upto_region 1 with (fail)
  rw [← hrow, ← HP.out]
  clear hP
  have HG0 := Lib.hid hG0
  have HB0 := Lib.hid hB0
  have HROW := Lib.hid hrow
  clear hG0 hB0 hrow
  revert HG0 HB0
  generalize w.alloc row = wx
  intro HG0 HB0
  obtain ⟨b0, b1, b2, b3⟩ := four HROW.out HB0.out
  go_upto_region 2 with (first | (go_at_call 38; go_must (refine (check_any lo hi _ T _ (by exact HT.out.kept HG0.out (by simp)) HV.out).mono ?_); rintro e w2 ⟨rfl, hgr⟩; have HGR := Lib.hid hgr; clear hgr))
  have HG2 := Lib.hid (HG0.out.trans HGR.out)
  have HB2 := Lib.hid (blk HGR.out (by simp) HB0.out)
  clear b0 b1 b2 b3 HG0 HB0 HGR
  obtain ⟨b0, b1, b2, b3⟩ := four HROW.out HB2.out
  go_upto_region 7 with (first | (go_at_call 40; go_must (refine (fopen_any lo hi T fa ra ea fm fc rm rc em ec 1 _ _ (by exact HT.out.kept HG2.out (by simp)) HV.out (by exact HS.out.kept HG2.out)).mono ?_); rintro e w3 ⟨Q, rfl, hq, htw, hg⟩))
  have hQw : w.heap.size ≤ Q := Nat.le_trans HG2.out.size hq
  have HTW := Lib.hid htw
  have HG3 := Lib.hid (HG2.out.trans hg)
  clear b0 b1 b2 b3 htw hg hq HG2 HB2
  go_upto_region 9 with (fail)
  go_wp2_with
    (first
      | (go_at_call 42; go_must (refine (asked_any w3.heap.size 0 1 _ _ (by exact dem_one _ _ hp0 hp1) (by omega)).mono ?_); rintro e w4 ⟨rfl, hg4⟩)
      | (go_at_call 41; go_must (refine (errno_any _).mono ?_); rintro e w5 ⟨rfl, hg5⟩))
  go_ret2
  exact ⟨Q, rfl, hQw, ((HTW.out.kept (World.grownBy_alloc _ _ none) (by simp)).kept hg4 (by simp)).kept hg5 (by simp), ((HG3.out.trans (World.grownBy_alloc _ _ none)).trans hg4).trans hg5⟩
set_option maxRecDepth 100000 in
set_option maxHeartbeats 3200000 in
theorem paying_any (lo hi : Nat) (T : Tar) (fa ra ea : Option Addr) (fm fc rm rc em ec : Nat) (s : Sty) (p : Int) (w : World)
    (hT : TarIn lo hi w (.agg #[.int .i64 T.kinds, .slice fa fm fc, .slice ra rm rc, .slice ea em ec]) T) (hV : T.Valid) (hs : s.Ok T.kinds) (hp0 : 0 ≤ p) (hp1 : p ≤ 999) :
    Calls Tryz.prog 19 #[.agg #[.int .i64 T.kinds, .slice fa fm fc, .slice ra rm rc, .slice ea em ec], .agg #[.int .i64 s.kind, .int .i64 s.lmin, .int .i64 s.lmax, .int .i64 s.fmin, .int .i64 s.fmax], .int .i64 p] w fun e w' => ∃ Q, e = .returned (.tuple #[.pointer (some ⟨Q, 0, none⟩), .int .i64 0]) ∧ w.heap.size ≤ Q ∧ TW w' Q T (.slice fa fm fc) (.slice ra rm rc) (.slice ea em ec) ∧ w.grownBy w' none := by
  obtain ⟨w1, hw1⟩ : ∃ w1, w1 = (w.alloc (.cells #[.int .i64 T.kinds, .slice fa fm fc, .slice ra rm rc, .slice ea em ec] 27)).alloc (.cells #[.int .i64 s.kind, .int .i64 s.lmin, .int .i64 s.lmax, .int .i64 s.fmin, .int .i64 s.fmax] 41) := ⟨_, rfl⟩
  have hg1 : w.grownBy w1 none := by rw [hw1]; exact (World.grownBy_alloc _ _ none).trans (World.grownBy_alloc _ _ none)
  obtain ⟨P, hP⟩ : ∃ P, P = w.heap.size := ⟨_, rfl⟩
  have hr : w1.heap[P]? = some (.cells #[.int .i64 T.kinds, .slice fa fm fc, .slice ra rm rc, .slice ea em ec] 27 (0, 0)) := by rw [hw1, hP]; exact blk_alloc (heap_alloc_new w _)
  obtain ⟨b0, b1, b2, b3⟩ := four rfl hr
  have hx : ∀ o, w1.cell? ⟨P + 1, o, none⟩ = (#[.int .i64 s.kind, .int .i64 s.lmin, .int .i64 s.lmax, .int .i64 s.fmin, .int .i64 s.fmax] : Array Value)[o]? := by
    intro o
    rw [hw1, hP]
    have := cell_new (w.alloc (.cells #[.int .i64 T.kinds, .slice fa fm fc, .slice ra rm rc, .slice ea em ec] 27)) #[.int .i64 s.kind, .int .i64 s.lmin, .int .i64 s.lmax, .int .i64 s.fmin, .int .i64 s.fmax] 41 o
    rw [show (w.alloc (.cells #[.int .i64 T.kinds, .slice fa fm fc, .slice ra rm rc, .slice ea em ec] 27)).heap.size = w.heap.size + 1 from by simp] at this
    exact this
  have x0 : w1.cell? ⟨P + 1, 0, none⟩ = some (.int .i64 s.kind) := by rw [hx]; rfl
  have x1 : w1.cell? ⟨P + 1, 1, none⟩ = some (.int .i64 s.lmin) := by rw [hx]; rfl
  have x2 : w1.cell? ⟨P + 1, 2, none⟩ = some (.int .i64 s.lmax) := by rw [hx]; rfl
  have x3 : w1.cell? ⟨P + 1, 3, none⟩ = some (.int .i64 s.fmin) := by rw [hx]; rfl
  have x4 : w1.cell? ⟨P + 1, 4, none⟩ = some (.int .i64 s.fmax) := by rw [hx]; rfl
  have HP := Lib.hid hP
  clear hx hr hP
  have hst := stay_new w1 s T.kinds hs
  have OP := Lib.hid (opened_any lo hi T fa ra ea fm fc rm rc em ec _ _ p _ ((hT.kept hg1 (by simp)).kept (World.grownBy_alloc w1 _ none) (by simp)) hV hst hp0 hp1)
  have HG := Lib.hid (hg1.trans (World.grownBy_alloc w1 (.cells #[.int .i64 s.kind, .int .i64 s.lmin, .int .i64 s.lmax, .int .i64 s.fmin, .int .i64 s.fmax] 41) none))
  have HW1 := Lib.hid hw1
  clear hw1 hg1 hst hT hV hs
  go_enter Tryz.func19, Tryz.ntmps19
  go_upto_region 1 with (fail)
  rw [← HW1.out]
  rw [← HP.out]
  clear HW1 HP
  go_wp2_with (first | (go_at_call 32; go_must (refine OP.out.mono ?_); rintro e w3 ⟨Q, rfl, hq, htw, hg⟩))
  go_ret2
  exact ⟨Q, rfl, Nat.le_trans HG.out.size hq, htw, HG.out.trans hg⟩
end Go.Proofs.YtpjcjadcikeibaaGreatDoor
