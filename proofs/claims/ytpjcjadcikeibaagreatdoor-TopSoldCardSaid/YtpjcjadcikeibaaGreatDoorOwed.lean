import Derived.Test.YtpjcjadcikeibaaGreatDoorPaying
namespace Go.Proofs.YtpjcjadcikeibaaGreatDoor
open Go.RowKit
set_option maxRecDepth 100000 in
set_option maxHeartbeats 3200000 in
theorem owed_any (lo hi : Nat) (S : Sal) (fa ra ea pa la : Option Addr) (fm fc rm rc em ec pc lc : Nat) (Q M i d K a b : Nat) (t x X : Int) (w : World) (hS : SaleIn lo hi w (.agg #[.int .i64 S.tar.kinds, .slice fa fm fc, .slice ra rm rc, .slice ea em ec, .slice pa 5 pc, .slice la S.lots.length lc]) S) (hV : S.Valid) (hQ : StallAt w Q M (.int .i64 S.tar.kinds) (.slice fa fm fc) (.slice ra rm rc) (.slice ea em ec) (.slice pa 5 pc) (.slice la S.lots.length lc)) (hhi : hi ≤ w.heap.size)
    (hl : S.lots[i]? = some ⟨K, a, b, t, x, X⟩) (hbd : b < 24 * d) (hd : d ≤ 4) :
    Calls Tryz.prog 25 #[.pointer (some ⟨Q, 0, none⟩), .int .i64 i, .int .i64 d] w fun e w' => e = .returned (.agg #[.int .i64 (S.tar.fee K b (24 * d)), .int .i64 (S.tar.fee K a (24 * d))]) ∧ w.grownBy w' none := by
  obtain ⟨c0, c1, c2, c3, c4, c5, c6⟩ := hQ.cell
  have hi1 : i < S.lots.length := (List.getElem?_eq_some_iff.1 hl).1
  obtain ⟨hT, -, hL, -⟩ := hS.parts
  obtain ⟨la', lc', he, hlen, hcell⟩ := hL.cell
  cases he
  obtain ⟨LB, o, rfl, hB1, hB2, hB3, hB4⟩ := hcell (by intro e; rw [e] at hi1; simp at hi1)
  obtain ⟨d0, d1, d2, d3, d4, d5⟩ := hB4 i _ hl
  have ho := hV.lot _ (List.mem_of_getElem? hl)
  obtain ⟨h1, h2, h3, h4, h5, h6, h7, h8, h9, h10⟩ := ho
  simp only at d0 d1 d2 d3 d4 d5 h1 h2 h3 h4 h5
  have hK : K < S.tar.kinds := by omega
  have hQs := (block_lt_of_cell c0)
  simp only at hQs
  have HT := Lib.hid hT
  have HV := Lib.hid hV
  clear hcell hB4 hQ hL hS hl hT hV
  go_enter Tryz.func25, Tryz.ntmps25
  go_upto_region 2 with (fail)
  obtain ⟨Z, hZ⟩ : ∃ Z, Z = w.heap.size := ⟨_, rfl⟩
  obtain ⟨wx, hwx⟩ : ∃ wx, wx = (w.alloc (.cells #[.int .i64 0, .int .i64 0] 34)).alloc (.cells #[.int .i64 K, .int .i64 a, .int .i64 b, .int .i64 t, .int .i64 x, .int .i64 X] 36) := ⟨_, rfl⟩
  have hG : w.grownBy wx none := by rw [hwx]; exact (World.grownBy_alloc _ _ _).trans (World.grownBy_alloc _ _ _)
  have rz : wx.heap[Z]? = some (.cells #[.int .i64 0, .int .i64 0] 34 (0, 0)) := by rw [hwx, hZ]; exact blk_alloc (heap_alloc_new w _)
  have rl : wx.heap[Z + 1]? = some (.cells #[.int .i64 K, .int .i64 a, .int .i64 b, .int .i64 t, .int .i64 x, .int .i64 X] 36 (0, 0)) := by
    rw [hwx, hZ]
    have := heap_alloc_new (w.alloc (.cells #[.int .i64 0, .int .i64 0] 34)) (.cells #[.int .i64 K, .int .i64 a, .int .i64 b, .int .i64 t, .int .i64 x, .int .i64 X] 36)
    rw [World.size_alloc] at this
    exact this
  have q0 := hG.cell c0 (by simp)
  have q1 := hG.cell c1 (by simp)
  have q2 := hG.cell c2 (by simp)
  have q3 := hG.cell c3 (by simp)
  obtain ⟨l0, l1, l2, -⟩ := six rfl rl
  have hmul : IntKind.i64.wrap (24 * (d : Int)) = 24 * d := IntWalk.i64_in _ (by omega)
  have fee := fun (k : Nat) (hk : k ≤ b) W (hg : w.grownBy W none) => ffee_any lo hi S.tar fa ra ea fm fc rm rc em ec K k (24 * d) W (HT.out.kept hg (by simp)) HV.out.tar (Nat.le_trans hhi hg.size) hK (by omega) (by omega)
  rw [show ((24 * d : Nat) : Int) = 24 * (d : Int) from by simp] at fee
  have FEE := Lib.hid fee
  rw [← hZ, ← hwx]
  have HZ := Lib.hid hZ
  have HG := Lib.hid hG
  have RZ := Lib.hid rz
  have RL := Lib.hid rl
  have H10 := Lib.hid (And.intro h6 (And.intro h7 (And.intro h8 (And.intro h9 h10))))
  clear hZ hwx hG rz rl c0 c1 c2 c3 c4 c5 c6 d0 d1 d2 d3 d4 d5 fee h6 h7 h8 h9 h10
  generalize hL : Z + 1 = L at *
  have HL := Lib.hid hL
  clear hL
  go_region_held3 (fun w' => w'.cell? ⟨Q, 0, none⟩ = some (.int .i64 S.tar.kinds) ∧ w'.cell? ⟨Q, 1, none⟩ = some (.slice fa fm fc) ∧ w'.cell? ⟨Q, 2, none⟩ = some (.slice ra rm rc) ∧ w'.cell? ⟨Q, 3, none⟩ = some (.slice ea em ec) ∧ w'.cell? ⟨L, 0, none⟩ = some (.int .i64 K) ∧ w'.cell? ⟨L, 2, none⟩ = some (.int .i64 b))
    (first | exact ⟨q0, q1, q2, q3, l0, l2⟩ | exact ⟨HG2.out.cell q0 (by simp), HG2.out.cell q1 (by simp), HG2.out.cell q2 (by simp), HG2.out.cell q3 (by simp), HG2.out.cell l0 (by simp), HG2.out.cell l2 (by simp)⟩)
    (first
      | (go_at_call 37; refine (FEE.out b (Nat.le_refl _) _ (by first | exact HG.out.trans (grownBy_drew _ _) | exact HG.out)).mono ?_; rintro e w2 ⟨rfl, hg2⟩; have HG2 := Lib.hid (World.grownBy.trans (grownBy_drew wx none) hg2); clear hg2))
  have p0 := HG2.out.cell q0 (by simp)
  have p1 := HG2.out.cell q1 (by simp)
  have p2 := HG2.out.cell q2 (by simp)
  have p3 := HG2.out.cell q3 (by simp)
  have m0 := HG2.out.cell l0 (by simp)
  have m1 := HG2.out.cell l1 (by simp)
  have RZ2 := Lib.hid (blk HG2.out (by simp) RZ.out)
  have HGA := Lib.hid (HG.out.trans HG2.out)
  clear q0 q1 q2 q3 l0 l1 l2 RZ RL HG HG2
  go_wp2
  go_region_held3 (fun w' => w'.cell? ⟨Q, 0, none⟩ = some (.int .i64 S.tar.kinds) ∧ w'.cell? ⟨Q, 1, none⟩ = some (.slice fa fm fc) ∧ w'.cell? ⟨Q, 2, none⟩ = some (.slice ra rm rc) ∧ w'.cell? ⟨Q, 3, none⟩ = some (.slice ea em ec) ∧ w'.cell? ⟨L, 0, none⟩ = some (.int .i64 K) ∧ w'.cell? ⟨L, 1, none⟩ = some (.int .i64 a))
    (first | exact ⟨p0, p1, p2, p3, m0, m1⟩ | exact ⟨HG3.out.cell p0 (by simp), HG3.out.cell p1 (by simp), HG3.out.cell p2 (by simp), HG3.out.cell p3 (by simp), HG3.out.cell m0 (by simp), HG3.out.cell m1 (by simp)⟩)
    (first
      | (go_at_call 37; refine (FEE.out a (by omega) _ (by first | exact HGA.out.trans (grownBy_drew _ _) | exact HGA.out)).mono ?_; rintro e w3 ⟨rfl, hg3⟩; have HG3 := Lib.hid (World.grownBy.trans (grownBy_drew w2 none) hg3); clear hg3))
  have RZ3 := blk HG3.out (by simp) RZ2.out
  have z0 : w3.cell? ⟨Z, 0, none⟩ = some (.int .i64 0) := row_cell RZ3 rfl
  have z1 : w3.cell? ⟨Z, 1, none⟩ = some (.int .i64 0) := row_cell RZ3 rfl
  have fz : ∀ o, w3.frozen? ⟨Z, o, none⟩ = false := fun o => row_thaw RZ3
  obtain ⟨W, hW⟩ : ∃ W, W = (w3.setCell ⟨Z, 0, none⟩ (.int .i64 (S.tar.fee K b (24 * d)))).setCell ⟨Z, 1, none⟩ (.int .i64 (S.tar.fee K a (24 * d))) := ⟨_, rfl⟩
  have hRW : W.heap[Z]? = some (.cells #[.int .i64 (S.tar.fee K b (24 * d)), .int .i64 (S.tar.fee K a (24 * d))] 34 (0, 0)) := by rw [hW, row_setCell (row_setCell RZ3)]; rfl
  have hGW : w.grownBy W none := (HGA.out.trans HG3.out).andThen (row' := some Z) (by rw [hW]; exact (grownBy_set _ _ _ _).trans (grownBy_set _ _ _ _)) (by rintro j e; cases e; exact .inl (Nat.le_of_eq HZ.out.symm))
  have HRW := Lib.hid hRW
  have HGW := Lib.hid hGW
  have HW := Lib.hid hW
  clear hRW hGW hW RZ3 RZ2 HGA HG3
  go_wp2
  rw [← HW.out]
  exact bodyPost_ret (v := .agg #[.int .i64 (S.tar.fee K b (24 * d)), .int .i64 (S.tar.fee K a (24 * d))]) (by simp [results, Tryz.results25, go_sem, World.cell?, HRW.out]) rfl ⟨rfl, HGW.out⟩
end Go.Proofs.YtpjcjadcikeibaaGreatDoor
