import Derived.Test.YtpjcjadcikeibaaGreatDoorOvers
import Derived.Test.YtpjcjadcikeibaaGreatDoorTakes
import Derived.StillTailTactics
namespace Go.Proofs.YtpjcjadcikeibaaGreatDoor
open Go.RowKit
theorem ck1 (i d : Int) (w : World) : (Instr.checkKey true 10000 126 (.agg #[.int .i64 i, .int .i64 d])).run Tryz.prog w = .ok () w := by kernel_rfl
theorem ck2 (i d : Int) (w : World) : (Instr.checkKey false 10000 126 (.agg #[.int .i64 i, .int .i64 d])).run Tryz.prog w = .ok () w := by kernel_rfl
theorem fk (i d : Int) (w : World) : (Instr.findKey 126 (.agg #[.int .i64 i, .int .i64 d]) []).run Tryz.prog w = .ok none w := by kernel_rfl
theorem getm {M : Nat} {w : World} (h : w.heap[M]? = some (.map #[] 0)) : (getObj M).run Tryz.prog w = .ok (.map #[] 0) w := by simp [getObj, Sem.run, h]
theorem setm {M : Nat} {w : World} (h : w.heap[M]? = some (.map #[] 0)) (o : Obj) : (setObj M o).run Tryz.prog w = .ok () { w with heap := w.heap.setIfInBounds M o } := by simp [setObj, Sem.run, h]
theorem lookup_new (M : Nat) (i d : Int) (w : World) (h : w.heap[M]? = some (.map #[] 0)) :
    (Instr.lookup 95 (.map (some M)) (.agg #[.int .i64 i, .int .i64 d]) true).run Tryz.prog w = .ok (.tuple #[.agg #[.int .i64 0, .int .i64 0], .bool false]) w := by
  have h1 := ck1 i d
  have h2 := fk i d
  have hu : Tryz.prog.underlying 95 = some (.map 126 81) := by kernel_rfl
  have hz := Tryz.zeroValue81
  have hg := getm h
  simp [Instr.lookup, run_underlying hu, hg, h1, h2, hz]
theorem update_new (M : Nat) (i d : Int) (v : Value) (w : World) (h : w.heap[M]? = some (.map #[] 0)) :
    (Instr.mapUpdate 95 (.map (some M)) (.agg #[.int .i64 i, .int .i64 d]) v).run Tryz.prog w = .ok () { w with heap := w.heap.setIfInBounds M (.map #[{ key := .agg #[.int .i64 i, .int .i64 d], val := v, born := 0 }] 1) } := by
  have h1 := ck2 i d
  have h2 := fk i d
  have hu : Tryz.prog.underlying 95 = some (.map 126 81) := by kernel_rfl
  have hg := getm h
  have hs := setm h
  simp [Instr.mapUpdate, run_underlying hu, hg, hs, h1, h2]
structure OB (w W : World) (Z M A B : Nat) (cs : Array Value) (Q : Nat) (fb fa x X : Int) : Prop where
  a : W.heap[A]? = some (.cells #[.int .i64 fb, .int .i64 fa] 34 (0, 0))
  b : W.heap[B]? = some (.cells #[.int .i64 x, .int .i64 X] 34 (0, 0))
  z : W.heap[Z]? = some (.cells #[.int .i64 0, .int .i64 0] 81 (0, 0))
  m : W.heap[M]? = some (.map #[] 0)
  q : W.heap[Q]? = some (.cells cs 97 (0, 0))
  g : w.grownBy W none
theorem wp_at9 {P : Program} {c : Code} {Q' : Exit → Act → World → Prop} {tmps : Array Value} {ds : List Deferred} {W : World} (w : World) (Z M : Nat) (cs : Array Value) (Q : Nat) (fb fa x X : Int) {A B : Nat}
    (hA : tmps.getD 9 undef = .pointer (some ⟨A, 0, none⟩)) (hB : tmps.getD 10 undef = .pointer (some ⟨B, 0, none⟩)) (h : OB w W Z M A B cs Q fb fa x X)
    (rest : ∀ W', OB w W' Z M A B cs Q fb fa x X → c.wp P Q' { tmps := tmps, defers := ds } W') : c.wp P Q' { tmps := tmps, defers := ds } W := rest W h
theorem fin81 {w w4 : World} {Z M : Nat} (h : w4.heap[Z]? = some (.cells #[.int .i64 0, .int .i64 0] 81 (0, 0))) (hg : w.grownBy w4 (some M)) (hZ : w.heap.size ≤ Z) (p q : Int) :
    ((w4.setCell ⟨Z, 0, none⟩ (.int .i64 p)).setCell ⟨Z, 1, none⟩ (.int .i64 q)).heap[Z]? = some (.cells #[.int .i64 p, .int .i64 q] 81 (0, 0)) ∧ w.grownBy ((w4.setCell ⟨Z, 0, none⟩ (.int .i64 p)).setCell ⟨Z, 1, none⟩ (.int .i64 q)) (some M) :=
  ⟨by rw [row_setCell (row_setCell h)]; rfl, hg.andThen (row' := some Z) ((grownBy_set _ _ _ _).trans (grownBy_set _ _ _ _)) (by rintro j e; cases e; exact .inl hZ)⟩
set_option maxRecDepth 100000 in
set_option maxHeartbeats 3200000 in
theorem brings_any (lo hi : Nat) (S : Sal) (fa ra ea pa la : Option Addr) (fm fc rm rc em ec pc lc : Nat) (Q M i d K a b : Nat) (t x X : Int) (w : World) (hS : SaleIn lo hi w (.agg #[.int .i64 S.tar.kinds, .slice fa fm fc, .slice ra rm rc, .slice ea em ec, .slice pa 5 pc, .slice la S.lots.length lc]) S) (hV : S.Valid) (hQ : StallAt w Q M (.int .i64 S.tar.kinds) (.slice fa fm fc) (.slice ra rm rc) (.slice ea em ec) (.slice pa 5 pc) (.slice la S.lots.length lc)) (hQM : Q ≠ M) (hhi : hi ≤ w.heap.size)
    (hl : S.lots[i]? = some ⟨K, a, b, t, x, X⟩) (hbd : b < 24 * d) (hd : d ≤ 4) :
    Calls Tryz.prog 26 #[.pointer (some ⟨Q, 0, none⟩), .int .i64 i, .int .i64 d] w fun e w' => e = .returned (.agg #[.int .i64 (imin (S.tar.fee K b (24 * d)) x), .int .i64 (imin (S.tar.fee K a (24 * d)) X)]) ∧ w.grownBy w' (some M) := by
  have hi1 : i < S.lots.length := (List.getElem?_eq_some_iff.1 hl).1
  have hlot := hS.parts.2.2.1
  obtain ⟨la', lc', he, hlen, hcell⟩ := hlot.cell
  cases he
  obtain ⟨LB, o, rfl, hB1, hB2, hB3, hB4⟩ := hcell (by intro e; rw [e] at hi1; simp at hi1)
  obtain ⟨-, -, -, -, d4, d5⟩ := hB4 i _ hl
  simp only at d4 d5
  obtain ⟨w1, hw1⟩ : ∃ w1, w1 = w.alloc (.cells #[.int .i64 0, .int .i64 0] 81) := ⟨_, rfl⟩
  obtain ⟨Z, hZ⟩ : ∃ Z, Z = w.heap.size := ⟨_, rfl⟩
  have hg1 : w.grownBy w1 none := by rw [hw1]; exact World.grownBy_alloc _ _ _
  have rz : w1.heap[Z]? = some (.cells #[.int .i64 0, .int .i64 0] 81 (0, 0)) := by rw [hw1, hZ]; exact heap_alloc_new _ _
  have hst1 := hQ.kept hg1 (by simp)
  obtain ⟨-, -, -, -, -, -, c6⟩ := hst1.cell
  have hlk := lookup_new M i d w1 hst1.2
  have hQs : Q < w1.heap.size := block_lt_of_cell c6
  have OW := Lib.hid fun W (hg : w.grownBy W none) => owed_any lo hi S _ _ _ _ _ _ _ _ _ _ _ _ _ Q M i d K a b t x X W (hS.kept hg (by simp)) hV (hQ.kept hg (by simp)) (Nat.le_trans hhi hg.size) hl hbd hd
  have HZ := Lib.hid hZ
  have HW1 := Lib.hid hw1
  have HG1 := Lib.hid hg1
  have RZ1 := Lib.hid rz
  have HST1 := Lib.hid hst1
  have D4 := Lib.hid d4
  have D5 := Lib.hid d5
  clear hS hV hQ hl hlot hcell hB4 hZ hw1 hg1 rz hst1 d4 d5
  go_enter Tryz.func26, Tryz.ntmps26
  go_upto_region 1 with (fail)
  rw [← HZ.out, ← HW1.out]
  go_upto_region 4 with (fail)
  obtain ⟨w2, hw2⟩ : ∃ w2, w2 = w1.alloc (.cells #[.int .i64 0, .int .i64 0] 81) := ⟨_, rfl⟩
  rw [← hw2]
  have hg2 : w1.grownBy w2 none := by rw [hw2]; exact World.grownBy_alloc _ _ _
  have hst2 := HST1.out.kept hg2 (by simp)
  obtain ⟨⟨cs, hqr, hqs, -, -, -, -, -, hq5, hq15⟩, hmr⟩ := hst2
  have q5 : w2.cell? ⟨Q, 5, none⟩ = some (.slice (some ⟨LB, o, none⟩) S.lots.length lc) := row_cell hqr hq5
  have qx := hg2.cell (HG1.out.cell D4.out (by simp)) (by simp)
  have qX := hg2.cell (HG1.out.cell D5.out (by simp)) (by simp)
  have hPs : Q < w2.heap.size := block_lt_of_cell q5
  have hLs : LB < w2.heap.size := block_lt_of_cell qx
  have hMs : M < w2.heap.size := (Array.getElem?_eq_some_iff.1 hmr).1
  have RZ2 := Lib.hid (blk hg2 (by simp) RZ1.out)
  have hZs : Z < w2.heap.size := (Array.getElem?_eq_some_iff.1 RZ2.out).1
  have hn1 : ¬ Q = w2.heap.size := Nat.ne_of_lt hPs
  have hn2 : ¬ w2.heap.size = Q := fun e => hn1 e.symm
  have hn3 : ¬ LB = w2.heap.size := Nat.ne_of_lt hLs
  have hn4 : ¬ w2.heap.size = LB := fun e => hn3 e.symm
  have hn5 : ¬ Q = w2.heap.size + 1 := by omega
  have hn6 : ¬ w2.heap.size + 1 = Q := by omega
  have hn7 : ¬ LB = w2.heap.size + 1 := by omega
  have hn8 : ¬ w2.heap.size + 1 = LB := by omega
  have HG2 := Lib.hid (HG1.out.trans hg2)
  have hww : w.heap.size ≤ w2.heap.size := HG2.out.size
  have hZw : w.heap.size ≤ Z := Nat.le_of_eq HZ.out.symm
  have OW2 := Lib.hid (fun W (hW : w2.grownBy W none) => (OW.out W (HG2.out.trans hW)).mono (R' := fun e w' => e = .returned (.agg #[.int .i64 (S.tar.fee K b (24 * d)), .int .i64 (S.tar.fee K a (24 * d))]) ∧ w2.grownBy w' none ∧ W.grownBy w' none) (by rintro e w' ⟨h1, h2⟩; exact ⟨h1, hW.trans h2, h2⟩))
  have HQR := Lib.hid hqr
  have HMR := Lib.hid hmr
  have HQC := Lib.hid (And.intro hqs (And.intro hq5 hq15))
  generalize hfa' : S.tar.fee K a (24 * d) = fa' at *
  generalize hfb' : S.tar.fee K b (24 * d) = fb' at *
  have HFA' := Lib.hid hfa'
  have HFB' := Lib.hid hfb'
  clear hfa' hfb'
  clear hqr hqs hq5 hq15 hmr hw2 hg2 HST1 RZ1 OW HW1 hlk c6 hQs D4 D5 HG1
  go_region_held3 (fun w' => w'.cell? ⟨Q, 5, none⟩ = some (.slice (some ⟨LB, o, none⟩) S.lots.length lc) ∧ w'.cell? ⟨LB, o + i * 6 + 4, none⟩ = some (.int .i64 x) ∧ w'.cell? ⟨LB, o + i * 6 + 5, none⟩ = some (.int .i64 X))
    (first | go_keep | exact ⟨q5, qx, qX⟩ | exact ⟨p5, px, pX⟩)
    (first
      | (go_at_call 25; refine (OW2.out _ (by first | exact grownBy_drew _ _ | exact (World.grownBy_alloc _ _ none).trans (grownBy_drew _ _) | exact ((World.grownBy_alloc _ _ none).trans (World.grownBy_alloc _ _ none)).trans (grownBy_drew _ _) | exact (grownBy_drew _ _).trans (World.grownBy_alloc _ _ none) | exact ((grownBy_drew _ _).trans (World.grownBy_alloc _ _ none)).trans (World.grownBy_alloc _ _ none))).mono ?_; rintro e w4 ⟨rfl, hgA, hgB⟩; have p5 := hgA.cell q5 (by simp); have px := hgA.cell qx (by simp); have pX := hgA.cell qX (by simp); (first | (have hk := alloc_kept (A := w2.heap.size) hgB (heap_alloc_new w2 _); obtain ⟨ka, kb, kc, KA⟩ := hk; have kl : w2.heap.size < w4.heap.size := block_lt_of_cell ka; have kn : ¬ w2.heap.size = w4.heap.size := Nat.ne_of_lt kl; have kn' : ¬ w4.heap.size = w2.heap.size := fun e => kn e.symm) | (have hk := alloc_kept (A := w2.heap.size) hgB (blk_alloc (heap_alloc_new w2 _)); obtain ⟨ka, kb, kc, KA⟩ := hk; have kl : w2.heap.size < w4.heap.size := block_lt_of_cell ka; have kn : ¬ w2.heap.size = w4.heap.size := Nat.ne_of_lt kl; have kn' : ¬ w4.heap.size = w2.heap.size := fun e => kn e.symm) | skip); (first | (have hk := alloc_kept (A := w2.heap.size + 1) hgB (heap_alloc_new2 w2 _ _); obtain ⟨la, lb, lc', LA⟩ := hk; have ll : w2.heap.size + 1 < w4.heap.size := block_lt_of_cell la; have ln : ¬ w2.heap.size + 1 = w4.heap.size := Nat.ne_of_lt ll; have ln' : ¬ w4.heap.size = w2.heap.size + 1 := fun e => ln e.symm) | skip); have HGA := Lib.hid hgA; have HGB := Lib.hid hgB; clear hgA hgB))
  all_goals
    have HG4 := Lib.hid (HG2.out.trans HGA.out)
    have R4 := Lib.hid (blk HGA.out (by simp) RZ2.out)
    have M4 := Lib.hid (blk HGA.out (by simp) HMR.out)
    have Q4 := Lib.hid (blk HGA.out (by simp) HQR.out)
    go_upto_region 5 with (fail)
    refine wp_at9 w Z M cs Q fb' fa' x X rfl rfl ⟨?_, ?_, ?_, ?_, ?_, ?_⟩ ?_
    · repeat first
        | with_reducible exact heap_alloc_new _ _
        | with_reducible exact heap_alloc_new2 _ _ _
        | with_reducible exact heap_alloc_set w4 _ _ _ _ _
        | with_reducible refine blk_alloc ?_
        | (with_reducible refine blk_set_other ?_ ?_; omega)
        | with_reducible refine set2 _ _ ?_
        | with_reducible exact KA.out
        | with_reducible exact LA.out
    · repeat first
        | with_reducible exact heap_alloc_new _ _
        | with_reducible exact heap_alloc_new2 _ _ _
        | with_reducible exact heap_alloc_set w4 _ _ _ _ _
        | with_reducible refine blk_alloc ?_
        | (with_reducible refine blk_set_other ?_ ?_; omega)
        | with_reducible refine set2 _ _ ?_
        | with_reducible exact KA.out
        | with_reducible exact LA.out
    · repeat first
        | with_reducible exact R4.out
        | with_reducible refine blk_alloc ?_
        | (with_reducible refine blk_set_other ?_ ?_; omega)
    · repeat first
        | with_reducible exact M4.out
        | with_reducible refine blk_alloc ?_
        | (with_reducible refine blk_set_other ?_ ?_; omega)
    · repeat first
        | with_reducible exact Q4.out
        | with_reducible refine blk_alloc ?_
        | (with_reducible refine blk_set_other ?_ ?_; omega)
    · repeat first
        | with_reducible exact HG4.out
        | with_reducible refine World.grownBy.trans ?_ (World.grownBy_alloc _ _ _)
        | (with_reducible refine World.grownBy.andThen (row' := some _) ?_ (grownBy_set _ _ _ _) ?_; rotate_left; (rintro j e; cases e; left; omega))
    rintro w5 ⟨oa, ob, oz, om, oq, og⟩
    have o0 := row_cell (o := 0) oa rfl
    have o1 := row_cell (o := 1) oa rfl
    have o2 := row_cell (o := 0) ob rfl
    have o3 := row_cell (o := 1) ob rfl
    simp only [List.getElem_toArray, List.getElem_cons_zero, List.getElem_cons_succ] at o0 o1 o2 o3
    have OZ := Lib.hid oz
    have OM := Lib.hid om
    have OQ := Lib.hid oq
    have OG := Lib.hid og
    clear oa ob oz om oq og p5 px pX q5 qx qX hn1 hn2 hn3 hn4 hn5 hn6 hn7 hn8
    clear HGA HGB HG4 R4 M4 Q4 RZ2 OW2 HG2 HQR HMR
    obtain ⟨m1, hm1⟩ : ∃ m, (if x < fb' then x else fb') = m := ⟨_, rfl⟩
    obtain ⟨m2, hm2⟩ : ∃ m, (if X < fa' then X else fa') = m := ⟨_, rfl⟩
    have HM1 := Lib.hid hm1
    have HM2 := Lib.hid hm2
    go_upto_region 6 with (fail)
    clear hm1 hm2
    obtain ⟨D, hD⟩ : ∃ D, D = w5.heap.size := ⟨_, rfl⟩
    obtain ⟨w6, hw6⟩ : ∃ w6, w6 = w5.alloc (.cells #[.int .i64 m1, .int .i64 m2] 81) := ⟨_, rfl⟩
    rw [← hD, ← hw6]
    have hg6 : w5.grownBy w6 none := by rw [hw6]; exact World.grownBy_alloc _ _ _
    have rd : w6.heap[D]? = some (.cells #[.int .i64 m1, .int .i64 m2] 81 (0, 0)) := by rw [hw6, hD]; exact heap_alloc_new _ _
    have d0 : w6.cell? ⟨D, 0, none⟩ = some (.int .i64 m1) := row_cell rd rfl
    have d1 : w6.cell? ⟨D, 1, none⟩ = some (.int .i64 m2) := row_cell rd rfl
    have m6 := blk hg6 (by simp) OM.out
    have q15 : w6.cell? ⟨Q, 15, none⟩ = some (.map (some M)) := row_cell (blk hg6 (by simp) OQ.out) HQC.out.2.2
    have z6 := blk hg6 (by simp) OZ.out
    have hDM : ¬ D = M := by have := (Array.getElem?_eq_some_iff.1 OM.out).1; omega
    have hZM : ¬ Z = M := by intro e; have h1 := OZ.out; have h2 := OM.out; rw [e, h2] at h1; cases h1
    obtain ⟨w7, hw7⟩ : ∃ w7 : World, w7 = { w6.drew with heap := w6.drew.heap.setIfInBounds M (.map #[{ key := .agg #[.int .i64 i, .int .i64 d], val := .agg #[.int .i64 m1, .int .i64 m2], born := 0 }] 1) } := ⟨_, rfl⟩
    have hup := update_new M i d (.agg #[.int .i64 m1, .int .i64 m2]) w6.drew m6
    rw [← hw7] at hup
    have hb7 : ∀ k, ¬ k = M → w7.heap[k]? = w6.heap[k]? := by intro k hk; rw [hw7]; exact Array.getElem?_setIfInBounds_ne (fun e => hk e.symm)
    have hg7 : w6.grownBy w7 (some M) := ⟨by rw [hw7]; rfl, by rw [hw7]; rfl, by rw [hw7]; rfl, by rw [hw7]; exact Nat.le_of_eq Array.size_setIfInBounds.symm, fun k _ hk => hb7 k (fun e => hk (by rw [e]))⟩
    have HRD := Lib.hid ((hb7 D hDM).trans rd)
    have HRZ := Lib.hid ((hb7 Z hZM).trans z6)
    have HG7 := Lib.hid (((OG.out.trans hg6).but (some M)).trans hg7)
    clear hw7 hw6 hD hg6 rd m6 z6 hb7 hg7 OM OQ OZ OG HQC o0 o1 o2 o3
    go_still_tail 8, (by kernel_rfl)
    change wpList _ _ _ _ _ w6.drew
    clear d0 d1 q15
    revert hup
    generalize w6.drew = w6'
    intro hup
    go_upto_region 7 with (fail)
    clear hup
    have e0 : w7.cell? ⟨D, 0, none⟩ = some (.int .i64 m1) := row_cell HRD.out rfl
    have e1 : w7.cell? ⟨D, 1, none⟩ = some (.int .i64 m2) := row_cell HRD.out rfl
    have z0 : w7.cell? ⟨Z, 0, none⟩ = some (.int .i64 0) := row_cell HRZ.out rfl
    have z1 : w7.cell? ⟨Z, 1, none⟩ = some (.int .i64 0) := row_cell HRZ.out rfl
    have fz : ∀ o, w7.frozen? ⟨Z, o, none⟩ = false := fun o => row_thaw HRZ.out
    obtain ⟨hRW, hGW⟩ := fin81 HRZ.out HG7.out hZw m1 m2
    have HRW := Lib.hid hRW
    have HGW := Lib.hid hGW
    clear hRW hGW
    go_wp2
    have hRW := HRW.out
    have hGW := HGW.out
    clear HRW HGW z0 z1 fz
    revert hRW hGW
    generalize (w7.setCell ⟨Z, 0, none⟩ (.int .i64 m1)).setCell ⟨Z, 1, none⟩ (.int .i64 m2) = W
    intro hRW hGW
    rw [HFA'.out, HFB'.out, show imin fb' x = m1 from HM1.out, show imin fa' X = m2 from HM2.out]
    exact bodyPost_ret (v := .agg #[.int .i64 m1, .int .i64 m2]) (by simp [results, Tryz.results26, go_sem, World.cell?, hRW]) rfl ⟨rfl, hGW⟩
end Go.Proofs.YtpjcjadcikeibaaGreatDoor
