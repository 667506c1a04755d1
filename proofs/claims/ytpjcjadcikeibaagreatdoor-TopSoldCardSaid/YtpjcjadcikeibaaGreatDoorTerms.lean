import Derived.Test.YtpjcjadcikeibaaGreatDoorTfee
import Derived.StillTailTactics
namespace Go.Proofs.YtpjcjadcikeibaaGreatDoor
open Go.RowKit
set_option maxRecDepth 100000 in
theorem as_nil (v : Value) (w : World) : Calls Tryz.prog 50 #[.nilIface, v] w fun e w' => e = .returned (.bool false) ∧ w = w' := by
  go_enter Tryz.func50, Tryz.ntmps50
  go_wp2
  go_ret
  exact ⟨rfl, rfl⟩
set_option maxRecDepth 100000 in
theorem errno_any (w : World) : Calls Tryz.prog 41 #[.nilIface] w fun e w' => e = .returned (.int .i64 0) ∧ w.grownBy w' none := by
  go_enter Tryz.func41, Tryz.ntmps41
  go_wp2_with (first | (go_at_call 50; go_must (refine (as_nil _ _).mono ?_); rintro e w' ⟨rfl, rfl⟩))
  go_ret
  exact ⟨rfl, World.grownBy_alloc _ _ _⟩
set_option maxRecDepth 100000 in
theorem hours_any (a b : Int) (w : World) (h0 : 0 ≤ a) (h1 : a ≤ b) (h2 : b ≤ 119) : Calls Tryz.prog 54 #[.agg #[.int .i64 a, .int .i64 b]] w fun e w' => e = .returned (.int .i64 0) ∧ w.grownBy w' none := by
  go_enter Tryz.func54, Tryz.ntmps54
  go_wp2_with (first | (go_at_call 46; go_must (refine (fwithin_any _ _ _ _ (by omega) (by omega)).mono ?_); rintro e w' ⟨rfl, rfl⟩))
  go_ret
  exact ⟨rfl, World.grownBy_alloc _ _ _⟩
/-- A stay. -/
structure Sty where
  kind : Nat
  lmin : Nat
  lmax : Nat
  fmin : Nat
  fmax : Nat
structure Sty.Ok (s : Sty) (n : Nat) : Prop where
  k : s.kind < n
  l : s.lmin ≤ s.lmax
  L : s.lmax ≤ 119
  f : s.fmin ≤ s.fmax
  F : s.fmax ≤ 119
  lf : s.lmin ≤ s.fmax
def Sty.arr (s : Sty) : Array Value := #[.int .i64 s.kind, .int .i64 s.lmin, .int .i64 s.lmax, .int .i64 s.fmin, .int .i64 s.fmax]
def SK (w0 w : World) (i : Value) (wr : World) : Prop := ∃ k : Nat, i = .int .i64 k ∧ k ≤ 2 ∧ w0.grownBy wr none
set_option maxRecDepth 100000 in
set_option maxHeartbeats 1600000 in
theorem stay_any (n : Nat) (fa ra ea : Option Addr) (fm fc rm rc em ec : Nat) (s : Sty) (w : World) (hs : s.Ok n) (hn : n ≤ 3) :
    Calls Tryz.prog 49 #[.agg #[.int .i64 n, .slice fa fm fc, .slice ra rm rc, .slice ea em ec], .agg #[.int .i64 s.kind, .int .i64 s.lmin, .int .i64 s.lmax, .int .i64 s.fmin, .int .i64 s.fmax]] w fun e w' => e = .returned (.int .i64 0) ∧ w.grownBy w' none := by
  obtain ⟨k, a, b, c, d⟩ := s
  obtain ⟨h1, h2, h3, h4, h5, h6⟩ := hs
  simp only at h1 h2 h3 h4 h5 h6 ⊢
  go_enter Tryz.func49, Tryz.ntmps49
  go_wp2_with (first | (go_at_call 46; go_must (refine (fwithin_any _ _ _ _ (by omega) (by omega)).mono ?_); rintro e w' ⟨rfl, rfl⟩))
  obtain ⟨P, hP⟩ : ∃ P, P = w.heap.size := ⟨_, rfl⟩
  obtain ⟨wx, hwx⟩ : ∃ wx, wx = ((w.alloc (.cells #[.int .i64 n, .slice fa fm fc, .slice ra rm rc, .slice ea em ec] 27)).alloc (.cells #[.int .i64 k, .int .i64 a, .int .i64 b, .int .i64 c, .int .i64 d] 41)).alloc (.cells #[.int .i64 a, .int .i64 b, .int .i64 c, .int .i64 d] 34) := ⟨_, rfl⟩
  have hG : w.grownBy wx none := by rw [hwx]; exact ((World.grownBy_alloc _ _ _).trans (World.grownBy_alloc _ _ _)).trans (World.grownBy_alloc _ _ _)
  have x1 : ∀ o, wx.cell? ⟨P + 1, o, none⟩ = (#[.int .i64 k, .int .i64 a, .int .i64 b, .int .i64 c, .int .i64 d] : Array Value)[o]? := by
    intro o
    rw [hwx, hP]
    have := cell_new (w.alloc (.cells #[.int .i64 n, .slice fa fm fc, .slice ra rm rc, .slice ea em ec] 27)) #[.int .i64 k, .int .i64 a, .int .i64 b, .int .i64 c, .int .i64 d] 41 o
    rw [show (w.alloc (.cells #[.int .i64 n, .slice fa fm fc, .slice ra rm rc, .slice ea em ec] 27)).heap.size = w.heap.size + 1 from by simp] at this
    rw [World.cell?_alloc_old _ _ _ (by simp)]
    exact this
  have x2 : ∀ o, wx.cell? ⟨P + 1 + 1, o, none⟩ = (#[.int .i64 a, .int .i64 b, .int .i64 c, .int .i64 d] : Array Value)[o]? := by
    intro o
    rw [hwx, hP]
    have := cell_new ((w.alloc (.cells #[.int .i64 n, .slice fa fm fc, .slice ra rm rc, .slice ea em ec] 27)).alloc (.cells #[.int .i64 k, .int .i64 a, .int .i64 b, .int .i64 c, .int .i64 d] 41)) #[.int .i64 a, .int .i64 b, .int .i64 c, .int .i64 d] 34 o
    rw [show ((w.alloc (.cells #[.int .i64 n, .slice fa fm fc, .slice ra rm rc, .slice ea em ec] 27)).alloc (.cells #[.int .i64 k, .int .i64 a, .int .i64 b, .int .i64 c, .int .i64 d] 41)).heap.size = w.heap.size + 1 + 1 from by simp] at this
    exact this
  rw [← hP, ← hwx]
  have HG := Lib.hid hG
  have X1 := Lib.hid x1
  have X2 := Lib.hid x2
  clear hwx hP hG x1 x2
  generalize hQ : P + 1 + 1 = Q
  rw [hQ] at X2
  generalize hR : P + 1 = R
  rw [hR] at X1
  clear hQ hR
  go_loopw [21] (SK wx wx) (fun i _ => (2 - intOf i).toNat)
  case atStart => exact ⟨0, rfl, by omega, World.grownBy.refl _ _⟩
  case round =>
    obtain ⟨j, rfl, hj, hg⟩ := hrel
    have HJ := Lib.hid hg
    have q0 : wr.cell? ⟨Q, 0, none⟩ = some (.int .i64 a) := hg.cell (by rw [X2.out]; rfl) (by simp)
    have q1 : wr.cell? ⟨Q, 1, none⟩ = some (.int .i64 b) := hg.cell (by rw [X2.out]; rfl) (by simp)
    have q2 : wr.cell? ⟨Q, 2, none⟩ = some (.int .i64 c) := hg.cell (by rw [X2.out]; rfl) (by simp)
    have q3 : wr.cell? ⟨Q, 3, none⟩ = some (.int .i64 d) := hg.cell (by rw [X2.out]; rfl) (by simp)
    have r1 : wr.cell? ⟨R, 1, none⟩ = some (.int .i64 a) := hg.cell (by rw [X1.out]; rfl) (by simp)
    have r4 : wr.cell? ⟨R, 4, none⟩ = some (.int .i64 d) := hg.cell (by rw [X1.out]; rfl) (by simp)
    clear hg
    obtain rfl | rfl | rfl : j = 0 ∨ j = 1 ∨ j = 2 := by omega
    · go_wp2_with (first | (go_at_call 54; go_must (refine (hours_any _ _ _ (by omega) (by omega) (by omega)).mono ?_); rintro e w3 ⟨rfl, hg⟩; have HG3 := Lib.hid hg; clear hg))
      go_roundw
      case rel => exact ⟨1, rfl, by omega, (HJ.out.trans (World.grownBy_alloc _ _ _)).trans HG3.out⟩
      case measure => simp [intOf]
    · go_wp2_with (first | (go_at_call 54; go_must (refine (hours_any _ _ _ (by omega) (by omega) (by omega)).mono ?_); rintro e w3 ⟨rfl, hg⟩; have HG3 := Lib.hid hg; clear hg))
      go_roundw
      case rel => exact ⟨2, rfl, by omega, (HJ.out.trans (World.grownBy_alloc _ _ _)).trans HG3.out⟩
      case measure => simp [intOf]
    · go_wp2
      go_ret
      exact ⟨rfl, HG.out.trans HJ.out⟩
theorem four {w : World} {P ty : Nat} {fr : Nat × Nat} {a b c d : Value} {row : Obj} (hrow : row = .cells #[a, b, c, d] ty fr) (h : w.heap[P]? = some row) :
    w.cell? ⟨P, 0, none⟩ = some a ∧ w.cell? ⟨P, 1, none⟩ = some b ∧ w.cell? ⟨P, 2, none⟩ = some c ∧ w.cell? ⟨P, 3, none⟩ = some d := by
  subst hrow
  refine ⟨?_, ?_, ?_, ?_⟩ <;> simp [World.cell?, h]
/-- At most one stay. -/
def StayAt (w : World) (v : Value) (m : Nat) (n : Nat) : Prop := ∃ base cap, v = .slice base m cap ∧ m ≤ 1 ∧ (m = 1 → ∃ (B o : Nat) (s : Sty), base = some ⟨B, o, none⟩ ∧ B < w.heap.size ∧ s.Ok n ∧
  w.cell? ⟨B, o, none⟩ = some (.int .i64 s.kind) ∧ w.cell? ⟨B, o + 1, none⟩ = some (.int .i64 s.lmin) ∧ w.cell? ⟨B, o + 2, none⟩ = some (.int .i64 s.lmax) ∧ w.cell? ⟨B, o + 3, none⟩ = some (.int .i64 s.fmin) ∧ w.cell? ⟨B, o + 4, none⟩ = some (.int .i64 s.fmax))
theorem StayAt.kept {w w' : World} {v : Value} {m n : Nat} (h : StayAt w v m n) (hg : w.grownBy w' none) : StayAt w' v m n := by
  obtain ⟨base, cap, rfl, hm, hr⟩ := h
  refine ⟨base, cap, rfl, hm, fun e => ?_⟩
  obtain ⟨B, o, s, rfl, hB, hs, h0, h1, h2, h3, h4⟩ := hr e
  exact ⟨B, o, s, rfl, Nat.lt_of_lt_of_le hB hg.size, hs, hg.cell h0 (by simp), hg.cell h1 (by simp), hg.cell h2 (by simp), hg.cell h3 (by simp), hg.cell h4 (by simp)⟩
theorem TQ.fresh {w : World} {Q : Nat} {T : Tar} {fv rv ev : Value} (h : w.heap[Q]? = some (.cells #[.int .i64 T.kinds, fv, rv, ev, .int .u32 0, .int .i32 0, .int .u32 0, .int .u32 0, .int .i32 0, .int .u32 0, .int .u32 0, .int .i32 0, .int .u32 0, .int .i64 0, .int .i64 0, .int .i64 0, .int .i64 0, .int .i64 0, .int .i64 0, .int .i64 0, .int .i64 0, .int .i64 0, .int .i64 0, .int .i64 0, .int .i64 0, .int .i64 0, .int .i64 0, .int .i64 0] 117 (0, 0))) : TW w Q T fv rv ev := by
  refine ⟨fun _ => false, _, h, rfl, rfl, rfl, rfl, rfl, fun j hj => ?_⟩
  obtain rfl | rfl | rfl : j = 0 ∨ j = 1 ∨ j = 2 := by omega
  all_goals exact ⟨rfl, rfl, by simp⟩
set_option maxRecDepth 100000 in
set_option maxHeartbeats 1600000 in
theorem fopen_any (lo hi : Nat) (T : Tar) (fa ra ea : Option Addr) (fm fc rm rc em ec : Nat) (m : Nat) (v : Value) (w : World)
    (hT : TarIn lo hi w (.agg #[.int .i64 T.kinds, .slice fa fm fc, .slice ra rm rc, .slice ea em ec]) T) (hV : T.Valid) (hv : StayAt w v m T.kinds) :
    Calls Tryz.prog 40 #[.agg #[.int .i64 T.kinds, .slice fa fm fc, .slice ra rm rc, .slice ea em ec], v] w fun e w' => ∃ Q, e = .returned (.tuple #[.pointer (some ⟨Q, 0, none⟩), .int .i64 0]) ∧ w.heap.size ≤ Q ∧ TW w' Q T (.slice fa fm fc) (.slice ra rm rc) (.slice ea em ec) ∧ w.grownBy w' none := by
  obtain ⟨P, hP⟩ : ∃ P, P = w.heap.size := ⟨_, rfl⟩
  obtain ⟨row, hrow⟩ : ∃ row, row = Obj.cells #[.int .i64 T.kinds, .slice fa fm fc, .slice ra rm rc, .slice ea em ec] 27 (0, 0) := ⟨_, rfl⟩
  have hB0 : (w.alloc row).heap[P]? = some row := by rw [hP]; exact heap_alloc_new w _
  have hG0 : w.grownBy (w.alloc row) none := World.grownBy_alloc w _ _
  have HP := Lib.hid hP
  have hk2 := hV.k2
  have HV := Lib.hid hV
  have HT := Lib.hid hT
  have HS := Lib.hid hv
  obtain ⟨base, cap, rfl, hm1, hst⟩ := hv
  clear hV hT hst
  go_enter Tryz.func40, Tryz.ntmps40
  go_upto_region 1 with (fail)
  rw [← hrow, ← HP.out]
  clear hP
  have HG0 := Lib.hid hG0
  have HB0 := Lib.hid hB0
  have HROW := Lib.hid hrow
  clear hG0 hB0 hrow
  revert HG0 HB0
  generalize w.alloc row = wx
  intro HG0 HB0
  obtain ⟨b0, b1, b2, b3⟩ := four HROW.out HB0.out
  go_upto_region 2 with (first | (go_at_call 38; go_must (refine (check_any lo hi _ T _ (by exact HT.out.kept HG0.out (by simp)) HV.out).mono ?_); rintro e w2 ⟨rfl, hgr⟩; have HGR := Lib.hid hgr; clear hgr))
  have HG2 := Lib.hid (HG0.out.trans HGR.out)
  have HB2 := Lib.hid (blk HGR.out (by simp) HB0.out)
  clear b0 b1 b2 b3 HG0 HB0 HGR
  go_wp2
  go_loopw [17] (CK P m row w) (fun i _ => (m - intOf i).toNat)
  case atStart => exact ⟨0, rfl, by omega, HG2.out, HB2.out⟩
  case round =>
    clear HG2 HB2
    obtain ⟨j, rfl, hj, hg, hb⟩ := hrel
    obtain ⟨b0, b1, b2, b3⟩ := four HROW.out hb
    have hst := HS.out.kept hg
    have HG := Lib.hid hg
    have HB := Lib.hid hb
    clear hg hb
    obtain rfl | rfl : j = 0 ∨ j = 1 := by omega
    · by_cases hm : 0 < m
      · obtain ⟨base', cap', he, -, hr⟩ := hst
        obtain ⟨B, o, s, rfl, hBs, hs, s0, s1, s2, s3, s4⟩ := hr (by omega)
        obtain ⟨rfl, -⟩ : base = some ⟨B, o, none⟩ ∧ cap = cap' := by simpa using he
        have HSO := Lib.hid hs
        clear hr hs he
        go_upto_region 7 with (fail)
        obtain ⟨N, hN⟩ : ∃ N, N = wr.heap.size := ⟨_, rfl⟩
        obtain ⟨wn, hwn⟩ : ∃ wn, wn = wr.alloc (.cells #[.int .i64 s.kind, .int .i64 s.lmin, .int .i64 s.lmax, .int .i64 s.fmin, .int .i64 s.fmax] 41) := ⟨_, rfl⟩
        have n0 : wn.cell? ⟨N, 0, none⟩ = some (.int .i64 s.kind) := by rw [hwn, hN, cell_new]; rfl
        have n1 : wn.cell? ⟨N, 1, none⟩ = some (.int .i64 s.lmin) := by rw [hwn, hN, cell_new]; rfl
        have n2 : wn.cell? ⟨N, 2, none⟩ = some (.int .i64 s.lmax) := by rw [hwn, hN, cell_new]; rfl
        have n3 : wn.cell? ⟨N, 3, none⟩ = some (.int .i64 s.fmin) := by rw [hwn, hN, cell_new]; rfl
        have n4 : wn.cell? ⟨N, 4, none⟩ = some (.int .i64 s.fmax) := by rw [hwn, hN, cell_new]; rfl
        have hgn : wr.grownBy wn none := by rw [hwn]; exact World.grownBy_alloc _ _ _
        have HGN := Lib.hid (HG.out.trans hgn)
        have HBN := Lib.hid (blk hgn (by simp) HB.out)
        clear b0 b1 b2 b3
        obtain ⟨b0, b1, b2, b3⟩ := four HROW.out HBN.out
        rw [← hN, ← hwn]
        clear hwn hN hgn HG HB s0 s1 s2 s3 s4 hBs
        go_wp2_with (first | (go_at_call 49; go_must (refine (stay_any _ _ _ _ _ _ _ _ _ _ s _ HSO.out (by omega)).mono ?_); rintro e w3 ⟨rfl, hg⟩; have HG3 := Lib.hid hg; clear hg))
        go_roundw
        case rel => exact ⟨1, rfl, by omega, HGN.out.trans HG3.out, blk HG3.out (by simp) HBN.out⟩
        case measure => simp [intOf]; omega
      · clear hst
        go_wp2
        go_ret2
        exact ⟨_, rfl, HG.out.size, TQ.fresh (heap_alloc_new _ _), HG.out.trans (World.grownBy_alloc _ _ _)⟩
    · have hm : ¬ 1 < m := by omega
      clear hst
      go_wp2
      go_ret2
      exact ⟨_, rfl, HG.out.size, TQ.fresh (heap_alloc_new _ _), HG.out.trans (World.grownBy_alloc _ _ _)⟩
/-- Demands that are met. -/
def DemIn (w : World) (B o n : Nat) : Prop := ∀ i, i < n → ∃ x m f : Int, 0 ≤ x ∧ x ≤ m ∧ w.cell? ⟨B, o + i * 3, none⟩ = some (.int .i64 x) ∧ w.cell? ⟨B, o + i * 3 + 1, none⟩ = some (.int .i64 m) ∧ w.cell? ⟨B, o + i * 3 + 2, none⟩ = some (.int .i64 f)
theorem DemIn.kept {w w' : World} {B o n : Nat} (h : DemIn w B o n) (hg : w.grownBy w' none) : DemIn w' B o n := by
  intro i hi
  obtain ⟨x, m, f, h1, h2, h3, h4, h5⟩ := h i hi
  exact ⟨x, m, f, h1, h2, hg.cell h3 (by simp), hg.cell h4 (by simp), hg.cell h5 (by simp)⟩
def NK (n : Nat) (w : World) (i : Value) (wr : World) : Prop := ∃ k : Nat, i = .int .i64 k ∧ k ≤ n ∧ w.grownBy wr none
set_option maxRecDepth 100000 in
set_option maxHeartbeats 1600000 in
theorem asked_any (B o n cap : Nat) (w : World) (hd : DemIn w B o n) (hn : n ≤ 3) :
    Calls Tryz.prog 42 #[.slice (some ⟨B, o, none⟩) n cap] w fun e w' => e = .returned .nilIface ∧ w.grownBy w' none := by
  have HD := Lib.hid hd
  clear hd
  go_enter Tryz.func42, Tryz.ntmps42
  go_wp2
  go_loopw [7] (NK n w) (fun i _ => (n - intOf i).toNat)
  case atStart => exact ⟨0, rfl, by omega, World.grownBy.refl _ _⟩
  case round =>
    obtain ⟨j, rfl, hj, hg⟩ := hrel
    have HG := Lib.hid hg
    by_cases hlt : j < n
    · obtain ⟨x, m, f, h1, h2, h3, h4, h5⟩ := HD.out.kept hg j hlt
      clear hg
      go_wp2_with (first | (go_at_call 46; go_must (refine (fwithin_any _ _ _ _ (by omega) (by omega)).mono ?_); rintro e w' ⟨rfl, rfl⟩))
      go_roundw
      case rel => exact ⟨j + 1, by simp, by omega, HG.out.trans (World.grownBy_alloc _ _ _)⟩
      case measure => simp [intOf]; omega
    · go_wp2
      go_ret
      exact ⟨rfl, HG.out⟩
set_option maxRecDepth 100000 in
set_option maxHeartbeats 3200000 in
theorem term_any (lo hi : Nat) (T : Tar) (fa ra ea : Option Addr) (fm fc rm rc em ec : Nat) (k l f : Nat) (w : World)
    (hT : TarIn lo hi w (.agg #[.int .i64 T.kinds, .slice fa fm fc, .slice ra rm rc, .slice ea em ec]) T) (hV : T.Valid) (hk : k < T.kinds) (hlf : l ≤ f) (hf : f ≤ 119) :
    Calls Tryz.prog 45 #[.agg #[.int .i64 T.kinds, .slice fa fm fc, .slice ra rm rc, .slice ea em ec], .int .i64 k, .agg #[.int .i64 l, .int .i64 f], .slice none 0 0] w fun e w' => ∃ Q, e = .returned (.tuple #[.pointer (some ⟨Q, 0, none⟩), .int .i64 0]) ∧ w.heap.size ≤ Q ∧ TW w' Q T (.slice fa fm fc) (.slice ra rm rc) (.slice ea em ec) ∧ w.grownBy w' none := by
  have hk2 := hV.k2
  have HV := Lib.hid hV
  have HT := Lib.hid hT
  clear hV hT
  obtain ⟨wx, hwx⟩ : ∃ wx, wx = (w.alloc (.cells #[.int .i64 T.kinds, .slice fa fm fc, .slice ra rm rc, .slice ea em ec] 27)).alloc (.cells #[.int .i64 l, .int .i64 f] 73) := ⟨_, rfl⟩
  have hG : w.grownBy wx none := by rw [hwx]; exact (World.grownBy_alloc _ _ _).trans (World.grownBy_alloc _ _ _)
  obtain ⟨P, hP⟩ : ∃ P, P = w.heap.size := ⟨_, rfl⟩
  have hr : wx.heap[P]? = some (.cells #[.int .i64 T.kinds, .slice fa fm fc, .slice ra rm rc, .slice ea em ec] 27 (0, 0)) := by rw [hwx, hP]; exact blk_alloc (heap_alloc_new w _)
  have hx : ∀ o, wx.cell? ⟨P + 1, o, none⟩ = (#[.int .i64 l, .int .i64 f] : Array Value)[o]? := by
    intro o
    rw [hwx, hP]
    have := cell_new (w.alloc (.cells #[.int .i64 T.kinds, .slice fa fm fc, .slice ra rm rc, .slice ea em ec] 27)) #[.int .i64 l, .int .i64 f] 73 o
    rw [show (w.alloc (.cells #[.int .i64 T.kinds, .slice fa fm fc, .slice ra rm rc, .slice ea em ec] 27)).heap.size = w.heap.size + 1 from by simp] at this
    exact this
  have x0 : wx.cell? ⟨P + 1, 0, none⟩ = some (.int .i64 l) := by rw [hx]; rfl
  have x1 : wx.cell? ⟨P + 1, 1, none⟩ = some (.int .i64 f) := by rw [hx]; rfl
  obtain ⟨b0, b1, b2, b3⟩ := four rfl hr
  have OP := Lib.hid (fopen_any lo hi T fa ra ea fm fc rm rc em ec 0 (.slice none 0 0) wx (HT.out.kept hG (by simp)) HV.out ⟨none, 0, rfl, by omega, fun e => by omega⟩)
  have HG := Lib.hid hG
  have HP := Lib.hid hP
  have HWX := Lib.hid hwx
  clear hwx hG hr hx hP
  go_enter Tryz.func45, Tryz.ntmps45
  go_upto_region 1 with (fail)
  rw [← HWX.out, ← HP.out]
  go_upto_region 4 with (first | (go_at_call 40; go_must (refine OP.out.mono ?_); rintro e w2 ⟨Q, rfl, hq, htw, hg⟩))
  have q0 : w2.cell? ⟨Q, 0, none⟩ = some (.int .i64 T.kinds) := by
    obtain ⟨D, cs, r, -, c0, -⟩ := htw
    exact row_cell r c0
  have y0 : w2.cell? ⟨P + 1, 0, none⟩ = some (.int .i64 l) := hg.cell x0 (by simp)
  have y1 : w2.cell? ⟨P + 1, 1, none⟩ = some (.int .i64 f) := hg.cell x1 (by simp)
  have hkk : IntKind.i64.wrap ((T.kinds : Int) - 1) = T.kinds - 1 := IntWalk.i64_in _ (by omega)
  have hQw : w.heap.size ≤ Q := Nat.le_trans HG.out.size hq
  have HTW := Lib.hid htw
  have HG2 := Lib.hid (HG.out.trans hg)
  clear b0 b1 b2 b3 x0 x1 hg htw hq OP HWX HP
  generalize P + 1 = R at *
  go_still_tail 14, (by kernel_rfl)
  change wpList _ _ _ _ _ w2.drew
  have HTW3 := Lib.hid (HTW.out.kept (grownBy_drew w2 none) (by simp))
  have HG3 := Lib.hid (HG2.out.trans (grownBy_drew w2 none))
  have Y0 : w2.drew.cell? ⟨R, 0, none⟩ = some (.int .i64 l) := y0
  have Y1 : w2.drew.cell? ⟨R, 1, none⟩ = some (.int .i64 f) := y1
  clear y0 y1 q0 HTW HG2 hkk
  revert HTW3 HG3 Y0 Y1
  generalize w2.drew = w3
  intro HTW3 HG3 Y0 Y1
  go_upto_region 5 with (fail)
  obtain ⟨N, hN⟩ : ∃ N, N = w3.heap.size := ⟨_, rfl⟩
  obtain ⟨w4, hw4⟩ : ∃ w4, w4 = w3.alloc (.cells #[.int .i64 k, .int .i64 (T.kinds - 1), .int .i64 0, .int .i64 l, .int .i64 119, .int .i64 2, .int .i64 f, .int .i64 119, .int .i64 2] 136) := ⟨_, rfl⟩
  have hc : ∀ o, w4.cell? ⟨N, o, none⟩ = (#[.int .i64 k, .int .i64 (T.kinds - 1), .int .i64 0, .int .i64 l, .int .i64 119, .int .i64 2, .int .i64 f, .int .i64 119, .int .i64 2] : Array Value)[o]? := by
    intro o; rw [hw4, hN, cell_new]
  have hg4 : w3.grownBy w4 none := by rw [hw4]; exact World.grownBy_alloc _ _ _
  have hdem : DemIn w4 N 0 3 := by
    intro i hi
    obtain rfl | rfl | rfl : i = 0 ∨ i = 1 ∨ i = 2 := by omega
    · exact ⟨k, T.kinds - 1, 0, by omega, by omega, by rw [hc]; rfl, by rw [hc]; rfl, by rw [hc]; rfl⟩
    · exact ⟨l, 119, 2, by omega, by omega, by rw [hc]; rfl, by rw [hc]; rfl, by rw [hc]; rfl⟩
    · exact ⟨f, 119, 2, by omega, by omega, by rw [hc]; rfl, by rw [hc]; rfl, by rw [hc]; rfl⟩
  have HDEM := Lib.hid hdem
  have HTW4 := Lib.hid (HTW3.out.kept hg4 (by simp))
  have HG4 := Lib.hid (HG3.out.trans hg4)
  have A0 : w4.cell? ⟨R, 0, none⟩ = some (.int .i64 l) := hg4.cell Y0 (by simp)
  have A1 : w4.cell? ⟨R, 1, none⟩ = some (.int .i64 f) := hg4.cell Y1 (by simp)
  rw [← hN, ← hw4]
  clear hc hw4 hN hg4 hdem HTW3 HG3 Y0 Y1
  go_upto_region 6 with (first | (go_at_call 42; go_must (refine (asked_any N 0 3 _ _ HDEM.out (by omega)).mono ?_); rintro e w5 ⟨rfl, hg⟩))
  have HTW5 := Lib.hid (HTW4.out.kept hg (by simp))
  have HG5 := Lib.hid (HG4.out.trans hg)
  have B0 : w5.cell? ⟨R, 0, none⟩ = some (.int .i64 l) := hg.cell A0 (by simp)
  have B1 : w5.cell? ⟨R, 1, none⟩ = some (.int .i64 f) := hg.cell A1 (by simp)
  clear hg A0 A1 HTW4 HG4 HDEM
  go_wp2_with (first | (go_at_call 41; go_must (refine (errno_any _).mono ?_); rintro e w6 ⟨rfl, hg⟩))
  go_ret2
  exact ⟨Q, rfl, hQw, HTW5.out.kept hg (by simp), HG5.out.trans hg⟩
end Go.Proofs.YtpjcjadcikeibaaGreatDoor
