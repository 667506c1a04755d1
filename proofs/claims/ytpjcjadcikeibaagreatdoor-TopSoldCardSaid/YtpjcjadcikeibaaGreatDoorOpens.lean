import Derived.Test.YtpjcjadcikeibaaGreatDoorChecks
import Derived.Laws.CopyOwn
import Derived.Deep.RegionLaw
namespace Go.Proofs.YtpjcjadcikeibaaGreatDoor
open Go.RowKit
/-- A sale at work, at Q, with nothing known yet, at M. -/
def StallAt (w : World) (Q M : Nat) (a b c d e f : Value) : Prop :=
  (∃ cs : Array Value, w.heap[Q]? = some (.cells cs 97 (0, 0)) ∧ cs.size = 16 ∧ cs[0]? = some a ∧ cs[1]? = some b ∧ cs[2]? = some c ∧ cs[3]? = some d ∧ cs[4]? = some e ∧ cs[5]? = some f ∧ cs[15]? = some (.map (some M))) ∧ w.heap[M]? = some (.map #[] 0)
theorem StallAt.cell {w : World} {Q M : Nat} {a b c d e f : Value} (h : StallAt w Q M a b c d e f) : w.cell? ⟨Q, 0, none⟩ = some a ∧ w.cell? ⟨Q, 1, none⟩ = some b ∧ w.cell? ⟨Q, 2, none⟩ = some c ∧ w.cell? ⟨Q, 3, none⟩ = some d ∧ w.cell? ⟨Q, 4, none⟩ = some e ∧ w.cell? ⟨Q, 5, none⟩ = some f ∧ w.cell? ⟨Q, 15, none⟩ = some (.map (some M)) := by
  obtain ⟨⟨cs, h0, hs, h1, h2, h3, h4, h5, h6, h7⟩, -⟩ := h
  refine ⟨?_, ?_, ?_, ?_, ?_, ?_, ?_⟩ <;> simp [World.cell?, h0, h1, h2, h3, h4, h5, h6, h7]
theorem StallAt.kept {w w' : World} {Q M : Nat} {a b c d e f : Value} {row : Option Nat} (h : StallAt w Q M a b c d e f) (hg : w.grownBy w' row) (hr : ∀ R, row = some R → R ≠ Q ∧ R ≠ M) : StallAt w' Q M a b c d e f := by
  obtain ⟨⟨cs, h0, hr'⟩, hm⟩ := h
  exact ⟨⟨cs, blk hg (fun e => by exact (hr Q e.symm).1 rfl) h0, hr'⟩, blk hg (fun e => by exact (hr M e.symm).2 rfl) hm⟩
theorem StallAt.plan {w : World} {Q M o : Nat} {a b c d e f v : Value} (h : StallAt w Q M a b c d e f) (h1 : 6 ≤ o) (h2 : o < 15) (hQ : Q ≠ M) : StallAt (w.setCell ⟨Q, o, none⟩ v) Q M a b c d e f := by
  obtain ⟨⟨cs, h0, hs, h3⟩, hm⟩ := h
  refine ⟨⟨cs.setIfInBounds o v, row_setCell h0, by simpa using hs, ?_⟩, blk (grownBy_set w Q o v) (by simp; omega) hm⟩
  have hne : ∀ j, j ≠ o → (cs.setIfInBounds o v)[j]? = cs[j]? := fun j hj => by rw [Array.getElem?_setIfInBounds_ne (by omega)]
  rw [hne 0 (by omega), hne 1 (by omega), hne 2 (by omega), hne 3 (by omega), hne 4 (by omega), hne 5 (by omega), hne 15 (by omega)]
  exact h3
theorem StallAt.any {w : World} {Q M o : Nat} {a b c d e f : Value} (h : StallAt w Q M a b c d e f) (ho : o < 16) : ∃ v, w.cell? ⟨Q, o, none⟩ = some v := by
  obtain ⟨⟨cs, h0, hs, h3⟩, hm⟩ := h
  exact ⟨cs[o], by simp [World.cell?, h0, hs, ho]⟩
theorem StallAt.thaw {w : World} {Q M : Nat} {a b c d e f : Value} (h : StallAt w Q M a b c d e f) (o : Nat) : w.frozen? ⟨Q, o, none⟩ = false := by
  obtain ⟨⟨cs, h0, hs, h3⟩, hm⟩ := h
  simp [World.frozen?, h0]
def SR (Q M : Nat) (a b c d e f : Value) (w : World) (i : Value) (wr : World) : Prop := ∃ k : Nat, i = .int .i64 k ∧ k ≤ 4 ∧ w.grownBy wr none ∧ StallAt wr Q M a b c d e f
set_option maxRecDepth 100000 in
set_option maxHeartbeats 1600000 in
theorem open_any (k : Int) (fa ra ea pa la : Option Addr) (fm fc rm rc em ec pc lm lc : Nat) (lo hi : Nat) (l : List Int) (w : World) (hI : IntsIn lo hi w (.slice pa 5 pc) l) :
    Calls Tryz.prog 31 #[.agg #[.int .i64 k, .slice fa fm fc, .slice ra rm rc, .slice ea em ec, .slice pa 5 pc, .slice la lm lc]] w fun e w' => ∃ Q M, e = .returned (.pointer (some ⟨Q, 0, none⟩)) ∧ w.heap.size ≤ Q ∧ w.heap.size ≤ M ∧ Q ≠ M ∧
      StallAt w' Q M (.int .i64 k) (.slice fa fm fc) (.slice ra rm rc) (.slice ea em ec) (.slice pa 5 pc) (.slice la lm lc) ∧ w.grownBy w' none := by
  have hmm := @run_makeMap Tryz.prog
  obtain ⟨base, cap, he, -, hr⟩ := hI
  obtain ⟨rfl, hl, rfl⟩ : pa = base ∧ 5 = l.length ∧ pc = cap := by simpa using he
  obtain ⟨B, o, cs, fr, rfl, hB1, hB2, hBr, hBc⟩ := hr (by rintro rfl; simp at hl)
  have hx := fun j (hj : j < 5) => hBc j (by omega)
  have hBw := (Array.getElem?_eq_some_iff.1 hBr).1
  have X0 := hx 0 (by omega)
  have X1 := hx 1 (by omega)
  have X2 := hx 2 (by omega)
  have X3 := hx 3 (by omega)
  have X4 := hx 4 (by omega)
  clear hBc hr hx hl he
  generalize l[0]?.getD 0 = x0 at X0
  generalize l[1]?.getD 0 = x1 at X1
  generalize l[2]?.getD 0 = x2 at X2
  generalize l[3]?.getD 0 = x3 at X3
  generalize l[4]?.getD 0 = x4 at X4
  have HBr := Lib.hid hBr
  have XX := Lib.hid (And.intro X0 (And.intro X1 (And.intro X2 (And.intro X3 X4))))
  clear hBr X0 X1 X2 X3 X4
  go_enter Tryz.func31, Tryz.ntmps31
  go_upto_region 2 with (fail)
  obtain ⟨P, hP⟩ : ∃ P, P = w.heap.size := ⟨_, rfl⟩
  rw [← hP]
  obtain ⟨wx, hwx⟩ : ∃ wx, wx = ((w.alloc (.cells #[.int .i64 k, .slice fa fm fc, .slice ra rm rc, .slice ea em ec, .slice (some ⟨B, o, none⟩) 5 pc, .slice la lm lc] 30)).alloc (.map #[] 0)).alloc (.cells #[.int .i64 k, .slice fa fm fc, .slice ra rm rc, .slice ea em ec, .slice (some ⟨B, o, none⟩) 5 pc, .slice la lm lc, .int .i64 0, .int .i64 0, .int .i64 0, .int .i64 0, .int .i64 0, .int .i64 0, .int .i64 0, .int .i64 0, .int .i64 0, .map (some (P + 1))] 97) := ⟨_, rfl⟩
  rw [← hwx]
  have hG : w.grownBy wx none := by rw [hwx]; exact ((World.grownBy_alloc _ _ _).trans (World.grownBy_alloc _ _ _)).trans (World.grownBy_alloc _ _ _)
  have hZ : wx.heap.size = P + 3 := by rw [hwx, hP]; simp
  have hP1 : wx.heap[P]? = some (.cells #[.int .i64 k, .slice fa fm fc, .slice ra rm rc, .slice ea em ec, .slice (some ⟨B, o, none⟩) 5 pc, .slice la lm lc] 30) := by rw [hwx, hP]; exact blk_alloc (blk_alloc (heap_alloc_new w _))
  have hM1 : wx.heap[P + 1]? = some (.map #[] 0) := by
    rw [hwx, hP]
    have := heap_alloc_new (w.alloc (.cells #[.int .i64 k, .slice fa fm fc, .slice ra rm rc, .slice ea em ec, .slice (some ⟨B, o, none⟩) 5 pc, .slice la lm lc] 30)) (.map #[] 0)
    rw [show (w.alloc (.cells #[.int .i64 k, .slice fa fm fc, .slice ra rm rc, .slice ea em ec, .slice (some ⟨B, o, none⟩) 5 pc, .slice la lm lc] 30)).heap.size = w.heap.size + 1 from by simp] at this
    exact blk_alloc this
  have hQ1 : wx.heap[P + 2]? = some (.cells #[.int .i64 k, .slice fa fm fc, .slice ra rm rc, .slice ea em ec, .slice (some ⟨B, o, none⟩) 5 pc, .slice la lm lc, .int .i64 0, .int .i64 0, .int .i64 0, .int .i64 0, .int .i64 0, .int .i64 0, .int .i64 0, .int .i64 0, .int .i64 0, .map (some (P + 1))] 97) := by
    rw [hwx, hP]
    have := heap_alloc_new ((w.alloc (.cells #[.int .i64 k, .slice fa fm fc, .slice ra rm rc, .slice ea em ec, .slice (some ⟨B, o, none⟩) 5 pc, .slice la lm lc] 30)).alloc (.map #[] 0)) (.cells #[.int .i64 k, .slice fa fm fc, .slice ra rm rc, .slice ea em ec, .slice (some ⟨B, o, none⟩) 5 pc, .slice la lm lc, .int .i64 0, .int .i64 0, .int .i64 0, .int .i64 0, .int .i64 0, .int .i64 0, .int .i64 0, .int .i64 0, .int .i64 0, .map (some (w.heap.size + 1))] 97)
    rw [show ((w.alloc (.cells #[.int .i64 k, .slice fa fm fc, .slice ra rm rc, .slice ea em ec, .slice (some ⟨B, o, none⟩) 5 pc, .slice la lm lc] 30)).alloc (.map #[] 0)).heap.size = w.heap.size + 2 from by simp] at this
    exact this
  obtain ⟨b0, b1, b2, b3, b4, b5⟩ := six rfl hP1
  have hBx : wx.heap[B]? = some (.cells cs 3 fr) := blk hG (by simp) HBr.out
  have hBP : B < P := by omega
  clear hwx
  have HP := Lib.hid hP
  have HG := Lib.hid hG
  have HZ := Lib.hid hZ
  have HP1 := Lib.hid hP1
  have HM1 := Lib.hid hM1
  have HQ1 := Lib.hid hQ1
  have HBX := Lib.hid hBx
  clear hP hG hZ hP1 hM1 hQ1 hBx
  have hn : (P + 1 + 1) = P + 2 := rfl
  rw [hn]
  clear hn
  generalize hM : P + 1 = M at *
  generalize hQ : P + 2 = Q at *
  have HM := Lib.hid hM
  have HQ := Lib.hid hQ
  have hPQ : P < Q := by omega
  have hMQ : M < Q := by omega
  clear hM hQ
  have hsrc : ∀ (w' : World), w'.heap[B]? = some (.cells cs 3 fr) → ∀ j v, ([.int .i64 x0, .int .i64 x1, .int .i64 x2, .int .i64 x3, .int .i64 x4] : List Value)[j]? = some v → w'.cell? ((⟨B, o, none⟩ : Addr).add j) = some v := by
    intro w' hb' j v hj
    obtain ⟨c0, c1, c2, c3, c4⟩ := XX.out
    have hj5 : j < 5 := by have := (List.getElem?_eq_some_iff.1 hj).1; simpa using this
    obtain rfl | rfl | rfl | rfl | rfl : j = 0 ∨ j = 1 ∨ j = 2 ∨ j = 3 ∨ j = 4 := by omega
    all_goals (simp at hj; subst hj; simp [World.cell?, Addr.add, hb']; assumption)
  have HSRC := Lib.hid hsrc
  clear hsrc
  go_region_law (refine step_copy_splice rfl (.tmp 12) (.tmp 14) 22 22 rfl 3 (by kernel_rfl) (by kernel_rfl) (some ⟨Q, 6, none⟩) (some ⟨B, o, none⟩) 5 5 5 pc rfl rfl Q 6 [.int .i64 k, .slice fa fm fc, .slice ra rm rc, .slice ea em ec, .slice (some ⟨B, o, none⟩) 5 pc, .slice la lm lc, .int .i64 0, .int .i64 0, .int .i64 0, .int .i64 0, .int .i64 0, .int .i64 0, .int .i64 0, .int .i64 0, .int .i64 0, .map (some M)] 97 (by exact HQ1.out) [.int .i64 x0, .int .i64 x1, .int .i64 x2, .int .i64 x3, .int .i64 x4] rfl (fun _ => ⟨rfl, _, rfl, by exact HSRC.out _ HBX.out⟩) (by simp) (by simp [Value.oneCell']) Q wx (by first | exact Below.refl _ _ | exact (Below.refl _ _).drew) (Nat.le_refl _) ?_; intro w4 hg4 hb4)
  have hGw : w.grownBy w4 none := ⟨hb4.os.trans HG.out.os, hb4.tape.trans HG.out.tape, hb4.output.trans HG.out.output, Nat.le_trans HG.out.size hb4.size, fun j hj _ => (hb4.block j (by have := HP.out; omega)).trans (HG.out.block j hj (by simp))⟩
  have hST : StallAt w4 Q M (.int .i64 k) (.slice fa fm fc) (.slice ra rm rc) (.slice ea em ec) (.slice (some ⟨B, o, none⟩) 5 pc) (.slice la lm lc) := by
    refine ⟨⟨_, hg4.out, by simp [splice], by simp [splice], by simp [splice], by simp [splice], by simp [splice], by simp [splice], by simp [splice], by simp [splice]⟩, ?_⟩
    rw [hb4.block M hMQ]; exact HM1.out
  have HGW := Lib.hid hGw
  have HST := Lib.hid hST
  have hQw : w.heap.size ≤ Q := by have := HP.out; omega
  have hMw : w.heap.size ≤ M := by have := HP.out; have := HM.out; omega
  clear hGw hST hb4 hg4 b0 b1 b2 b3 b4 b5 HG HZ HP1 HBX HM1 HQ1 HM HQ HSRC XX HP hBP HBr hPQ
  go_wp2
  go_loopw [16] (SR Q M (.int .i64 k) (.slice fa fm fc) (.slice ra rm rc) (.slice ea em ec) (.slice (some ⟨B, o, none⟩) 5 pc) (.slice la lm lc) w) (fun i _ => (4 - intOf i).toNat)
  case atStart => exact ⟨0, rfl, by omega, HGW.out, HST.out⟩
  case round =>
    clear HGW HST
    obtain ⟨j, rfl, hj, hG, hS⟩ := hrel
    have fz : ∀ o, wr.frozen? ⟨Q, o, none⟩ = false := hS.thaw
    obtain ⟨y0, z0⟩ := hS.any (o := 11) (by omega)
    obtain ⟨y1, z1⟩ := hS.any (o := 12) (by omega)
    obtain ⟨y2, z2⟩ := hS.any (o := 13) (by omega)
    obtain ⟨y3, z3⟩ := hS.any (o := 14) (by omega)
    have HG := Lib.hid hG
    have HS := Lib.hid hS
    clear hG hS
    have step : ∀ o' v, 6 ≤ o' → o' < 15 → StallAt (wr.setCell ⟨Q, o', none⟩ v) Q M (.int .i64 k) (.slice fa fm fc) (.slice ra rm rc) (.slice ea em ec) (.slice (some ⟨B, o, none⟩) 5 pc) (.slice la lm lc) ∧ w.grownBy (wr.setCell ⟨Q, o', none⟩ v) none := fun o' v h1 h2 => ⟨HS.out.plan h1 h2 (by omega), HG.out.andThen (grownBy_set wr Q o' v) (by rintro j e; cases e; exact .inl hQw)⟩
    have STEP := Lib.hid step
    clear step
    obtain rfl | rfl | rfl | rfl | rfl : j = 0 ∨ j = 1 ∨ j = 2 ∨ j = 3 ∨ j = 4 := by omega
    · go_wp2
      go_roundw
      case rel => exact ⟨1, rfl, by omega, (STEP.out _ _ (by omega) (by omega)).2, (STEP.out _ _ (by omega) (by omega)).1⟩
      case measure => simp [intOf]
    · go_wp2
      go_roundw
      case rel => exact ⟨2, rfl, by omega, (STEP.out _ _ (by omega) (by omega)).2, (STEP.out _ _ (by omega) (by omega)).1⟩
      case measure => simp [intOf]
    · go_wp2
      go_roundw
      case rel => exact ⟨3, rfl, by omega, (STEP.out _ _ (by omega) (by omega)).2, (STEP.out _ _ (by omega) (by omega)).1⟩
      case measure => simp [intOf]
    · go_wp2
      go_roundw
      case rel => exact ⟨4, rfl, by omega, (STEP.out _ _ (by omega) (by omega)).2, (STEP.out _ _ (by omega) (by omega)).1⟩
      case measure => simp [intOf]
    · go_wp2
      go_ret
      exact ⟨Q, M, rfl, hQw, hMw, by omega, HS.out, HG.out⟩
end Go.Proofs.YtpjcjadcikeibaaGreatDoor
