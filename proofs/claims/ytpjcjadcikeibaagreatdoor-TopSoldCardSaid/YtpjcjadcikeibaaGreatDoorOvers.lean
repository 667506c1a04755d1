import Derived.Test.YtpjcjadcikeibaaGreatDoorOwed
import Derived.Test.YtpjcjadcikeibaaGreatDoorOns
namespace Go.Proofs.YtpjcjadcikeibaaGreatDoor
open Go.RowKit
theorem fin34 {w w4 : World} {Z : Nat} (h : w4.heap[Z]? = some (.cells #[.int .i64 0, .int .i64 0] 34 (0, 0))) (hg : w.grownBy w4 none) (hZ : w.heap.size ≤ Z) (p q : Int) :
    ((w4.setCell ⟨Z, 0, none⟩ (.int .i64 p)).setCell ⟨Z, 1, none⟩ (.int .i64 q)).heap[Z]? = some (.cells #[.int .i64 p, .int .i64 q] 34 (0, 0)) ∧ w.grownBy ((w4.setCell ⟨Z, 0, none⟩ (.int .i64 p)).setCell ⟨Z, 1, none⟩ (.int .i64 q)) none :=
  ⟨by rw [row_setCell (row_setCell h)]; rfl, hg.andThen (row' := some Z) ((grownBy_set _ _ _ _).trans (grownBy_set _ _ _ _)) (by rintro j e; cases e; exact .inl hZ)⟩
set_option maxRecDepth 100000 in
set_option maxHeartbeats 3200000 in
theorem sowed_any (lo hi : Nat) (S : Sal) (fa ra ea pa la : Option Addr) (fm fc rm rc em ec pc lc : Nat) (i d f K a b : Nat) (t x X : Int) (w : World) (hS : SaleIn lo hi w (.agg #[.int .i64 S.tar.kinds, .slice fa fm fc, .slice ra rm rc, .slice ea em ec, .slice pa 5 pc, .slice la S.lots.length lc]) S) (hV : S.Valid) (hhi : hi ≤ w.heap.size)
    (hl : S.lots[i]? = some ⟨K, a, b, t, x, X⟩) (hf : Lt.first ⟨K, a, b, t, x, X⟩ = f) (hfd : f ≤ d) (hbd : b < 24 * d) (hd : d ≤ 4) :
    Calls Tryz.prog 10 #[.agg #[.int .i64 S.tar.kinds, .slice fa fm fc, .slice ra rm rc, .slice ea em ec, .slice pa 5 pc, .slice la S.lots.length lc], .int .i64 i, .int .i64 d] w fun e w' => e = .returned (.tuple #[.agg #[.int .i64 (S.tar.fee K b (24 * d)), .int .i64 (S.tar.fee K a (24 * d))], .int .i64 0]) ∧ w.grownBy w' none := by
  obtain ⟨P, hP⟩ : ∃ P, P = w.heap.size := ⟨_, rfl⟩
  obtain ⟨wx, hwx⟩ : ∃ wx, wx = (w.alloc (.cells #[.int .i64 S.tar.kinds, .slice fa fm fc, .slice ra rm rc, .slice ea em ec, .slice pa 5 pc, .slice la S.lots.length lc] 30)).alloc (.cells #[.int .i64 0, .int .i64 0] 34) := ⟨_, rfl⟩
  have hG : w.grownBy wx none := by rw [hwx]; exact (World.grownBy_alloc _ _ _).trans (World.grownBy_alloc _ _ _)
  have rp : wx.heap[P]? = some (.cells #[.int .i64 S.tar.kinds, .slice fa fm fc, .slice ra rm rc, .slice ea em ec, .slice pa 5 pc, .slice la S.lots.length lc] 30 (0, 0)) := by rw [hwx, hP]; exact blk_alloc (heap_alloc_new w _)
  have rz : wx.heap[P + 1]? = some (.cells #[.int .i64 0, .int .i64 0] 34 (0, 0)) := by
    rw [hwx, hP]
    have := heap_alloc_new (w.alloc (.cells #[.int .i64 S.tar.kinds, .slice fa fm fc, .slice ra rm rc, .slice ea em ec, .slice pa 5 pc, .slice la S.lots.length lc] 30)) (.cells #[.int .i64 0, .int .i64 0] 34)
    rw [World.size_alloc] at this
    exact this
  obtain ⟨b0, b1, b2, b3, b4, b5⟩ := six rfl rp
  have ON := Lib.hid (on_any lo hi S _ _ _ _ _ _ _ _ _ _ _ _ _ i f d _ wx (hS.kept hG (by simp)) hV hl hf hfd hd)
  have OW := Lib.hid fun Q M W (hg : w.grownBy W none) (hst : StallAt W Q M (.int .i64 S.tar.kinds) (.slice fa fm fc) (.slice ra rm rc) (.slice ea em ec) (.slice pa 5 pc) (.slice la S.lots.length lc)) => owed_any lo hi S _ _ _ _ _ _ _ _ _ _ _ _ _ Q M i d K a b t x X W (hS.kept hg (by simp)) hV hst (Nat.le_trans hhi hg.size) hl hbd hd
  have HG := Lib.hid hG
  have HP := Lib.hid hP
  have HWX := Lib.hid hwx
  have RZ := Lib.hid rz
  clear hS hV hhi hl hf hfd hbd hd hG hwx rp rz hP
  go_enter Tryz.func10, Tryz.ntmps10
  go_upto_region 1 with (fail)
  rw [← HP.out, ← HWX.out]
  go_upto_region 2 with (first | (go_at_call 24; go_must (refine ON.out.mono ?_); rintro e w2 ⟨Q, M, rfl, hq, hm, hqm, hst, hg⟩))
  have OW2 := Lib.hid (OW.out Q M w2 (HG.out.trans hg) hst)
  have HG2 := Lib.hid (HG.out.trans hg)
  have RZ2 := Lib.hid (blk hg (by simp) RZ.out)
  clear hq hm hqm hst hg ON OW b0 b1 b2 b3 b4 b5 RZ
  generalize hZ : P + 1 = Z at *
  have hZw : w.heap.size ≤ Z := by have := HP.out; omega
  clear hZ HWX HG
  go_upto_region 4 with (fail)
  go_wp2_with (first | (go_at_call 25; go_must (refine OW2.out.mono ?_); rintro e w4 ⟨rfl, hg4⟩; have RZ4 := blk hg4 (by simp) RZ2.out; have z0 : w4.cell? ⟨Z, 0, none⟩ = some (.int .i64 0) := row_cell RZ4 rfl; have z1 : w4.cell? ⟨Z, 1, none⟩ = some (.int .i64 0) := row_cell RZ4 rfl; have fz : ∀ o, w4.frozen? ⟨Z, o, none⟩ = false := (fun o => row_thaw RZ4); have R4 := Lib.hid RZ4; have HG4 := Lib.hid (HG2.out.trans hg4); clear RZ4 hg4))
  obtain ⟨hRW, hGW⟩ := fin34 R4.out HG4.out hZw (S.tar.fee K b (24 * d)) (S.tar.fee K a (24 * d))
  revert hRW hGW
  generalize (w4.setCell ⟨Z, 0, none⟩ (.int .i64 (S.tar.fee K b (24 * d)))).setCell ⟨Z, 1, none⟩ (.int .i64 (S.tar.fee K a (24 * d))) = W
  intro hRW hGW
  exact bodyPost_ret (v := .tuple #[.agg #[.int .i64 (S.tar.fee K b (24 * d)), .int .i64 (S.tar.fee K a (24 * d))], .int .i64 0]) (by simp [results, Tryz.results10, go_sem, World.cell?, hRW]) rfl ⟨rfl, hGW⟩
theorem heap_alloc_new2 (w : World) (o o' : Obj) : ((w.alloc o).alloc o').heap[w.heap.size + 1]? = some o' := by
  have := heap_alloc_new (w.alloc o) o'
  rw [World.size_alloc] at this
  exact this
theorem alloc_kept {W w4 : World} {A : Nat} (hg : W.grownBy w4 none) (h : W.heap[A]? = some (.cells #[.int .i64 0, .int .i64 0] 34 (0, 0))) : w4.cell? ⟨A, 0, none⟩ = some (.int .i64 0) ∧ w4.cell? ⟨A, 1, none⟩ = some (.int .i64 0) ∧ (∀ o, w4.frozen? ⟨A, o, none⟩ = false) ∧ Hid (w4.heap[A]? = some (.cells #[.int .i64 0, .int .i64 0] 34 (0, 0))) :=
  ⟨row_cell (blk hg (by simp) h) rfl, row_cell (blk hg (by simp) h) rfl, fun _ => row_thaw (blk hg (by simp) h), Lib.hid (blk hg (by simp) h)⟩
theorem heap_alloc_set (w : World) (p q : Addr) (u v : Value) (o : Obj) : (((w.setCell p u).setCell q v).alloc o).heap[w.heap.size]? = some o := by
  have := heap_alloc_new ((w.setCell p u).setCell q v) o
  rwa [show ((w.setCell p u).setCell q v).heap.size = w.heap.size from by simp [World.setCell]] at this
theorem set2 {W : World} {A : Nat} (p q : Int) (h : W.heap[A]? = some (.cells #[.int .i64 0, .int .i64 0] 34 (0, 0))) : ((W.setCell ⟨A, 0, none⟩ (.int .i64 p)).setCell ⟨A, 1, none⟩ (.int .i64 q)).heap[A]? = some (.cells #[.int .i64 p, .int .i64 q] 34 (0, 0)) := by rw [row_setCell (row_setCell h)]; rfl
theorem blk_set_other {w : World} {Z A o : Nat} {v : Value} {x : Obj} (hne : ¬ Z = A) (h : w.heap[Z]? = some x) : (w.setCell ⟨A, o, none⟩ v).heap[Z]? = some x := blk (grownBy_set w A o v) (by simp; omega) h
structure OE (w W : World) (Z A B : Nat) (fb fa x X : Int) : Prop where
  a : W.heap[A]? = some (.cells #[.int .i64 fb, .int .i64 fa] 34 (0, 0))
  b : W.heap[B]? = some (.cells #[.int .i64 x, .int .i64 X] 34 (0, 0))
  z : W.heap[Z]? = some (.cells #[.int .i64 0, .int .i64 0] 34 (0, 0))
  g : w.grownBy W none
theorem wp_at {P : Program} {c : Code} {Q : Exit → Act → World → Prop} {tmps : Array Value} {ds : List Deferred} {W : World} (w : World) (Z : Nat) (fb fa x X : Int) {A B : Nat}
    (hA : tmps.getD 10 undef = .pointer (some ⟨A, 0, none⟩)) (hB : tmps.getD 11 undef = .pointer (some ⟨B, 0, none⟩)) (h : OE w W Z A B fb fa x X)
    (rest : ∀ W', OE w W' Z A B fb fa x X → c.wp P Q { tmps := tmps, defers := ds } W') : c.wp P Q { tmps := tmps, defers := ds } W := rest W h
def pos (y : Int) : Int := if 0 < y then y else 0
set_option maxRecDepth 100000 in
set_option maxHeartbeats 3200000 in
theorem sover_any (lo hi : Nat) (S : Sal) (fa ra ea pa la : Option Addr) (fm fc rm rc em ec pc lc : Nat) (i d f K a b : Nat) (t x X : Int) (w : World) (hS : SaleIn lo hi w (.agg #[.int .i64 S.tar.kinds, .slice fa fm fc, .slice ra rm rc, .slice ea em ec, .slice pa 5 pc, .slice la S.lots.length lc]) S) (hV : S.Valid) (hhi : hi ≤ w.heap.size)
    (hl : S.lots[i]? = some ⟨K, a, b, t, x, X⟩) (hf : Lt.first ⟨K, a, b, t, x, X⟩ = f) (hfd : f ≤ d) (hbd : b < 24 * d) (hd : d ≤ 4) :
    Calls Tryz.prog 9 #[.agg #[.int .i64 S.tar.kinds, .slice fa fm fc, .slice ra rm rc, .slice ea em ec, .slice pa 5 pc, .slice la S.lots.length lc], .int .i64 i, .int .i64 d] w fun e w' => e = .returned (.tuple #[.agg #[.int .i64 (pos (x - S.tar.fee K a (24 * d))), .int .i64 (pos (X - S.tar.fee K b (24 * d)))], .int .i64 0]) ∧ w.grownBy w' none := by
  obtain ⟨P, hP⟩ : ∃ P, P = w.heap.size := ⟨_, rfl⟩
  obtain ⟨wx, hwx⟩ : ∃ wx, wx = (w.alloc (.cells #[.int .i64 S.tar.kinds, .slice fa fm fc, .slice ra rm rc, .slice ea em ec, .slice pa 5 pc, .slice la S.lots.length lc] 30)).alloc (.cells #[.int .i64 0, .int .i64 0] 34) := ⟨_, rfl⟩
  have hG : w.grownBy wx none := by rw [hwx]; exact (World.grownBy_alloc _ _ _).trans (World.grownBy_alloc _ _ _)
  have rp : wx.heap[P]? = some (.cells #[.int .i64 S.tar.kinds, .slice fa fm fc, .slice ra rm rc, .slice ea em ec, .slice pa 5 pc, .slice la S.lots.length lc] 30 (0, 0)) := by rw [hwx, hP]; exact blk_alloc (heap_alloc_new w _)
  have rz : wx.heap[P + 1]? = some (.cells #[.int .i64 0, .int .i64 0] 34 (0, 0)) := by
    rw [hwx, hP]
    have := heap_alloc_new (w.alloc (.cells #[.int .i64 S.tar.kinds, .slice fa fm fc, .slice ra rm rc, .slice ea em ec, .slice pa 5 pc, .slice la S.lots.length lc] 30)) (.cells #[.int .i64 0, .int .i64 0] 34)
    rw [World.size_alloc] at this
    exact this
  obtain ⟨b0, b1, b2, b3, b4, b5⟩ := six rfl rp
  have ON := Lib.hid (on_any lo hi S _ _ _ _ _ _ _ _ _ _ _ _ _ i f d _ wx (hS.kept hG (by simp)) hV hl hf hfd hd)
  have OW := Lib.hid fun Q M W (hg : w.grownBy W none) (hst : StallAt W Q M (.int .i64 S.tar.kinds) (.slice fa fm fc) (.slice ra rm rc) (.slice ea em ec) (.slice pa 5 pc) (.slice la S.lots.length lc)) => owed_any lo hi S _ _ _ _ _ _ _ _ _ _ _ _ _ Q M i d K a b t x X W (hS.kept hg (by simp)) hV hst (Nat.le_trans hhi hg.size) hl hbd hd
  have HG := Lib.hid hG
  have HP := Lib.hid hP
  have HWX := Lib.hid hwx
  have RZ := Lib.hid rz
  have hi1 : i < S.lots.length := (List.getElem?_eq_some_iff.1 hl).1
  have hlot := hS.parts.2.2.1
  obtain ⟨la', lc', he, hlen, hcell⟩ := hlot.cell
  cases he
  obtain ⟨LB, o, rfl, hB1, hB2, hB3, hB4⟩ := hcell (by intro e; rw [e] at hi1; simp at hi1)
  obtain ⟨-, -, -, -, d4, d5⟩ := hB4 i _ hl
  simp only at d4 d5
  have D4 := Lib.hid d4
  have D5 := Lib.hid d5
  have RP := Lib.hid rp
  obtain ⟨-, -, -, -, -, -, -, hx0, hxX, hX4⟩ := hV.lot _ (List.mem_of_getElem? hl)
  simp only at hx0 hxX hX4
  have hfa := hV.tar.fee_bound (k := K) (by have := (hV.lot _ (List.mem_of_getElem? hl)).k1; simp only at this; omega) a (24 * d) (by omega)
  have hfb := hV.tar.fee_bound (k := K) (by have := (hV.lot _ (List.mem_of_getElem? hl)).k1; simp only at this; omega) b (24 * d) (by omega)
  clear hS hV hhi hl hf hfd hbd hd hG hwx rp rz hP hcell hB4 hlot d4 d5
  go_enter Tryz.func9, Tryz.ntmps9
  go_upto_region 1 with (fail)
  rw [← HP.out, ← HWX.out]
  go_upto_region 2 with (first | (go_at_call 24; go_must (refine ON.out.mono ?_); rintro e w2 ⟨Q, M, rfl, hq, hm, hqm, hst, hg⟩))
  have OW2 := Lib.hid (fun W (hW : w2.grownBy W none) => (OW.out Q M W ((HG.out.trans hg).trans hW) (hst.kept hW (by simp))).mono (R' := fun e w' => e = .returned (.agg #[.int .i64 (S.tar.fee K b (24 * d)), .int .i64 (S.tar.fee K a (24 * d))]) ∧ w2.grownBy w' none ∧ W.grownBy w' none) (by rintro e w' ⟨h1, h2⟩; exact ⟨h1, hW.trans h2, h2⟩))
  have HG2 := Lib.hid (HG.out.trans hg)
  have RZ2 := Lib.hid (blk hg (by simp) RZ.out)
  have q5 : w2.cell? ⟨P, 5, none⟩ = some (.slice (some ⟨LB, o, none⟩) S.lots.length lc) := row_cell (o := 5) (blk hg (by simp) RP.out) rfl
  have qx := hg.cell (HG.out.cell D4.out (by simp)) (by simp)
  have qX := hg.cell (HG.out.cell D5.out (by simp)) (by simp)
  have hPs : P < w2.heap.size := block_lt_of_cell q5
  have hLs : LB < w2.heap.size := block_lt_of_cell qx
  have hn1 : ¬ P = w2.heap.size := Nat.ne_of_lt hPs
  have hn2 : ¬ w2.heap.size = P := fun e => hn1 e.symm
  have hn3 : ¬ LB = w2.heap.size := Nat.ne_of_lt hLs
  have hn4 : ¬ w2.heap.size = LB := fun e => hn3 e.symm
  have hn5 : ¬ P = w2.heap.size + 1 := by omega
  have hn6 : ¬ w2.heap.size + 1 = P := by omega
  have hn7 : ¬ LB = w2.heap.size + 1 := by omega
  have hn8 : ¬ w2.heap.size + 1 = LB := by omega
  have hZs : P + 1 < w2.heap.size := (Array.getElem?_eq_some_iff.1 (blk hg (by simp) RZ.out)).1
  clear RP D4 D5
  clear hq hm hqm hst hg ON OW b0 b1 b2 b3 b4 b5 RZ
  generalize hZ : P + 1 = Z at *
  have hZw : w.heap.size ≤ Z := by have := HP.out; omega
  clear hZ HWX HG
  have hz1 : ¬ Z = w2.heap.size := Nat.ne_of_lt hZs
  have hz2 : ¬ w2.heap.size = Z := fun e => hz1 e.symm
  have hz3 : ¬ Z = w2.heap.size + 1 := by omega
  have hz4 : ¬ w2.heap.size + 1 = Z := by omega
  have hww : w.heap.size ≤ w2.heap.size := HG2.out.size
  obtain ⟨hfa1, hfa2⟩ := hfa
  obtain ⟨hfb1, hfb2⟩ := hfb
  generalize hfa' : S.tar.fee K a (24 * d) = fa' at *
  generalize hfb' : S.tar.fee K b (24 * d) = fb' at *
  have HFA' := Lib.hid hfa'
  have HFB' := Lib.hid hfb'
  clear hfa' hfb'
  have hw1 : IntKind.i64.wrap (x - fa') = x - fa' := IntWalk.i64_in _ (by omega)
  have hw2 : IntKind.i64.wrap (X - fb') = X - fb' := IntWalk.i64_in _ (by omega)
  go_upto_region 4 with (fail)
  go_region_held3 (fun w' => w'.cell? ⟨P, 5, none⟩ = some (.slice (some ⟨LB, o, none⟩) S.lots.length lc) ∧ w'.cell? ⟨LB, o + i * 6 + 4, none⟩ = some (.int .i64 x) ∧ w'.cell? ⟨LB, o + i * 6 + 5, none⟩ = some (.int .i64 X))
    (first | go_keep | exact ⟨q5, qx, qX⟩ | exact ⟨p5, px, pX⟩)
    (first
      | (go_at_call 25; refine (OW2.out _ (by first | exact grownBy_drew _ _ | exact (World.grownBy_alloc _ _ none).trans (grownBy_drew _ _) | exact ((World.grownBy_alloc _ _ none).trans (World.grownBy_alloc _ _ none)).trans (grownBy_drew _ _) | exact (grownBy_drew _ _).trans (World.grownBy_alloc _ _ none) | exact ((grownBy_drew _ _).trans (World.grownBy_alloc _ _ none)).trans (World.grownBy_alloc _ _ none))).mono ?_; rintro e w4 ⟨rfl, hgA, hgB⟩; have p5 := hgA.cell q5 (by simp); have px := hgA.cell qx (by simp); have pX := hgA.cell qX (by simp); (first | (have hk := alloc_kept (A := w2.heap.size) hgB (heap_alloc_new w2 _); obtain ⟨ka, kb, kc, KA⟩ := hk; have kl : w2.heap.size < w4.heap.size := block_lt_of_cell ka; have kn : ¬ w2.heap.size = w4.heap.size := Nat.ne_of_lt kl; have kn' : ¬ w4.heap.size = w2.heap.size := fun e => kn e.symm) | (have hk := alloc_kept (A := w2.heap.size) hgB (blk_alloc (heap_alloc_new w2 _)); obtain ⟨ka, kb, kc, KA⟩ := hk; have kl : w2.heap.size < w4.heap.size := block_lt_of_cell ka; have kn : ¬ w2.heap.size = w4.heap.size := Nat.ne_of_lt kl; have kn' : ¬ w4.heap.size = w2.heap.size := fun e => kn e.symm) | skip); (first | (have hk := alloc_kept (A := w2.heap.size + 1) hgB (heap_alloc_new2 w2 _ _); obtain ⟨la, lb, lc', LA⟩ := hk; have ll : w2.heap.size + 1 < w4.heap.size := block_lt_of_cell la; have ln : ¬ w2.heap.size + 1 = w4.heap.size := Nat.ne_of_lt ll; have ln' : ¬ w4.heap.size = w2.heap.size + 1 := fun e => ln e.symm) | skip); have z0 : w4.cell? ⟨Z, 0, none⟩ = some (.int .i64 0) := row_cell (blk hgA (by simp) RZ2.out) rfl; have z1 : w4.cell? ⟨Z, 1, none⟩ = some (.int .i64 0) := row_cell (blk hgA (by simp) RZ2.out) rfl; have fz : ∀ o, w4.frozen? ⟨Z, o, none⟩ = false := (fun o => row_thaw (blk hgA (by simp) RZ2.out)); have HGA := Lib.hid hgA; have HGB := Lib.hid hgB; clear hgA hgB))
  all_goals
    have HG4 := Lib.hid (HG2.out.trans HGA.out)
    have R4 := Lib.hid (blk HGA.out (by simp) RZ2.out)
    go_upto_region 5 with (fail)
    refine wp_at w Z fb' fa' x X rfl rfl ⟨?_, ?_, ?_, ?_⟩ ?_
    · repeat first
        | with_reducible exact heap_alloc_new _ _
        | with_reducible exact heap_alloc_new2 _ _ _
        | with_reducible exact heap_alloc_set w4 _ _ _ _ _
        | with_reducible refine blk_alloc ?_
        | (with_reducible refine blk_set_other ?_ ?_; omega)
        | with_reducible refine set2 _ _ ?_
        | with_reducible exact KA.out
        | with_reducible exact LA.out
    · repeat first
        | with_reducible exact heap_alloc_new _ _
        | with_reducible exact heap_alloc_new2 _ _ _
        | with_reducible exact heap_alloc_set w4 _ _ _ _ _
        | with_reducible refine blk_alloc ?_
        | (with_reducible refine blk_set_other ?_ ?_; omega)
        | with_reducible refine set2 _ _ ?_
        | with_reducible exact KA.out
        | with_reducible exact LA.out
    · repeat first
        | with_reducible exact R4.out
        | with_reducible refine blk_alloc ?_
        | (with_reducible refine blk_set_other ?_ ?_; omega)
    · repeat first
        | with_reducible exact HG4.out
        | with_reducible refine World.grownBy.trans ?_ (World.grownBy_alloc _ _ _)
        | (with_reducible refine World.grownBy.andThen (row' := some _) ?_ (grownBy_set _ _ _ _) ?_; rotate_left; (rintro j e; cases e; left; omega))
    rintro w5 ⟨oa, ob, o4, o5⟩
    have o0 := row_cell (o := 0) oa rfl
    have o1 := row_cell (o := 1) oa rfl
    have o2 := row_cell (o := 0) ob rfl
    have o3 := row_cell (o := 1) ob rfl
    clear oa ob
    simp only [List.getElem_toArray, List.getElem_cons_zero, List.getElem_cons_succ] at o0 o1 o2 o3
    clear p5 px pX z0 z1 fz q5 qx qX
    have z0 : w5.cell? ⟨Z, 0, none⟩ = some (.int .i64 0) := row_cell o4 rfl
    have z1 : w5.cell? ⟨Z, 1, none⟩ = some (.int .i64 0) := row_cell o4 rfl
    have fz : ∀ o, w5.frozen? ⟨Z, o, none⟩ = false := fun o => row_thaw o4
    have O4 := Lib.hid o4
    have O5 := Lib.hid o5
    clear o4 o5 hn1 hn2 hn3 hn4 hn5 hn6 hn7 hn8 hz1 hz2 hz3 hz4
    clear HGA HGB HG4 R4 RZ2 OW2 HG2
    go_wp2
    all_goals
      first
        | (obtain ⟨hRW, hGW⟩ := fin34 O4.out O5.out hZw (x - fa') (X - fb'); revert hRW hGW; generalize (w5.setCell ⟨Z, 0, none⟩ (.int .i64 (x - fa'))).setCell ⟨Z, 1, none⟩ (.int .i64 (X - fb')) = W; intro hRW hGW; have e1 : pos (x - fa') = (x - fa') := if_pos (by omega); have e2 : pos (X - fb') = (X - fb') := if_pos (by omega); rw [HFA'.out, HFB'.out, e1, e2]; exact bodyPost_ret (v := .tuple #[.agg #[.int .i64 (x - fa'), .int .i64 (X - fb')], .int .i64 0]) (by simp [results, Tryz.results9, go_sem, World.cell?, hRW]) rfl ⟨rfl, hGW⟩)
        | (obtain ⟨hRW, hGW⟩ := fin34 O4.out O5.out hZw (x - fa') 0; revert hRW hGW; generalize (w5.setCell ⟨Z, 0, none⟩ (.int .i64 (x - fa'))).setCell ⟨Z, 1, none⟩ (.int .i64 0) = W; intro hRW hGW; have e1 : pos (x - fa') = (x - fa') := if_pos (by omega); have e2 : pos (X - fb') = 0 := if_neg (by omega); rw [HFA'.out, HFB'.out, e1, e2]; exact bodyPost_ret (v := .tuple #[.agg #[.int .i64 (x - fa'), .int .i64 0], .int .i64 0]) (by simp [results, Tryz.results9, go_sem, World.cell?, hRW]) rfl ⟨rfl, hGW⟩)
        | (obtain ⟨hRW, hGW⟩ := fin34 O4.out O5.out hZw 0 (X - fb'); revert hRW hGW; generalize (w5.setCell ⟨Z, 0, none⟩ (.int .i64 0)).setCell ⟨Z, 1, none⟩ (.int .i64 (X - fb')) = W; intro hRW hGW; have e1 : pos (x - fa') = 0 := if_neg (by omega); have e2 : pos (X - fb') = (X - fb') := if_pos (by omega); rw [HFA'.out, HFB'.out, e1, e2]; exact bodyPost_ret (v := .tuple #[.agg #[.int .i64 0, .int .i64 (X - fb')], .int .i64 0]) (by simp [results, Tryz.results9, go_sem, World.cell?, hRW]) rfl ⟨rfl, hGW⟩)
        | (obtain ⟨hRW, hGW⟩ := fin34 O4.out O5.out hZw 0 0; revert hRW hGW; generalize (w5.setCell ⟨Z, 0, none⟩ (.int .i64 0)).setCell ⟨Z, 1, none⟩ (.int .i64 0) = W; intro hRW hGW; have e1 : pos (x - fa') = 0 := if_neg (by omega); have e2 : pos (X - fb') = 0 := if_neg (by omega); rw [HFA'.out, HFB'.out, e1, e2]; exact bodyPost_ret (v := .tuple #[.agg #[.int .i64 0, .int .i64 0], .int .i64 0]) (by simp [results, Tryz.results9, go_sem, World.cell?, hRW]) rfl ⟨rfl, hGW⟩)
end Go.Proofs.YtpjcjadcikeibaaGreatDoor
