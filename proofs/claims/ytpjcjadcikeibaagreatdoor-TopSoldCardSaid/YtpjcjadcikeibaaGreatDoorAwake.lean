import Derived.Test.YtpjcjadcikeibaaGreatDoorOvers
import Derived.Test.YtpjcjadcikeibaaGreatDoorFover
namespace Go.Proofs.YtpjcjadcikeibaaGreatDoor
open Go.RowKit
/-- The tin is new. -/
theorem newtin_any (base : Option Addr) (len cap : Nat) (w : World) (hl : (len : Int) ≤ 9223372036854775807) (hr : 0 < len → ∃ lb lo, base = some ⟨lb, lo, none⟩ ∧ ∀ i, i < len → ∃ x, w.cell? ⟨lb, lo + i, none⟩ = some (.int .i64 x)) :
    Calls Tryz.prog 4 #[.slice base len cap] w fun e w' => e = .returned (.pointer (some ⟨w.heap.size, 0, none⟩)) ∧ w.grownBy w' none ∧ TinAt w' w.heap.size 0 := by
  have HR := Lib.hid hr
  clear hr
  go_enter Tryz.func4, Tryz.ntmps4
  go_wp2
  go_ret
  refine ⟨rfl, World.grownBy_alloc _ _ _, base, len, cap, 0, 7640891576956012809, Nat.le_refl _, heap_alloc_new _ _, hl, fun hp => ?_⟩
  obtain ⟨lb, lo, e, h⟩ := HR.out hp
  obtain ⟨x0, hx0⟩ := h 0 hp
  have hlt : lb < w.heap.size := block_lt_of_cell hx0
  refine ⟨lb, lo, e, hlt, fun i hi => ?_⟩
  obtain ⟨x, hx⟩ := h i hi
  exact ⟨x, (World.grownBy_alloc w _ none).cell hx (by simp)⟩
theorem alloc2' (w : World) (o0 o1 : Obj) : ((w.alloc o0).alloc o1).heap[w.heap.size]? = some o0 ∧ ((w.alloc o0).alloc o1).heap[w.heap.size + 1]? = some o1 ∧ ((w.alloc o0).alloc o1).heap.size = w.heap.size + 2 ∧ w.grownBy ((w.alloc o0).alloc o1) none :=
  ⟨blk_alloc (heap_alloc_new _ _), heap_alloc_new2 _ _ _, by simp, (World.grownBy_alloc _ _ _).trans (World.grownBy_alloc _ _ _)⟩
theorem alloc5 (w : World) (o0 o1 o2 o3 o4 : Obj) : ∀ W, W = ((((w.alloc o0).alloc o1).alloc o2).alloc o3).alloc o4 →
    W.heap[w.heap.size]? = some o0 ∧ W.heap[w.heap.size + 1]? = some o1 ∧ W.heap[w.heap.size + 2]? = some o2 ∧ W.heap[w.heap.size + 3]? = some o3 ∧ W.heap[w.heap.size + 4]? = some o4 ∧ W.heap.size = w.heap.size + 5 ∧ w.grownBy W none := by
  rintro W rfl
  obtain ⟨a1, a2, a3, a4⟩ := alloc2' w o0 o1
  obtain ⟨b1, b2, b3, b4⟩ := alloc2' ((w.alloc o0).alloc o1) o2 o3
  rw [a3] at b1 b2 b3
  have c1 := heap_alloc_new ((((w.alloc o0).alloc o1).alloc o2).alloc o3) o4
  rw [b3] at c1
  exact ⟨blk_alloc (blk b4 (by simp) a1), blk_alloc (blk b4 (by simp) a2), blk_alloc b1, blk_alloc b2, c1, by simp, (a4.trans b4).trans (World.grownBy_alloc _ _ _)⟩
/-- What soldAwake sells. -/
def S0 : Sal := ⟨⟨1, [1], [(0, [2])], []⟩, [0, 1, 0, 0, 0], [⟨0, 0, 0, 1, 7, 7⟩]⟩
theorem S0_valid : S0.Valid := by
  refine ⟨⟨by decide, by decide, ⟨rfl, by decide⟩, by decide, by decide, ?_, by decide, ?_⟩, rfl, by decide, by decide, ?_⟩
  · intro i d l h
    match i, h with
    | 0, h =>
      simp [S0] at h
      obtain ⟨rfl, rfl⟩ := h
      exact ⟨by decide, by decide, ⟨rfl, by decide⟩, fun _ => rfl, fun j _ _ hj => by omega⟩
    | i + 1, h => simp [S0] at h
  · intro i d h
    simp [S0] at h
  · intro l hl
    simp [S0] at hl
    subst hl
    exact ⟨by decide, by decide, by decide, by decide, by decide, by decide, by decide, by decide, by decide, by decide⟩
theorem S0_in {w : World} {B lo hi : Nat} (hlo : lo ≤ B) (hhi : B + 7 ≤ hi) (r0 : w.heap[B]? = some (.cells #[.int .i64 1] 3 (0, 0))) (r1 : w.heap[B + 1]? = some (.cells #[.int .i64 2] 3 (0, 0))) (r2 : w.heap[B + 2]? = some (.cells #[.int .i64 0, .slice (some ⟨B + 1, 0, none⟩) 1 1] 84 (0, 0)))
    (r5 : w.heap[B + 5]? = some (.cells #[.int .i64 0, .int .i64 1, .int .i64 0, .int .i64 0, .int .i64 0] 3 (0, 0))) (r6 : w.heap[B + 6]? = some (.cells #[.int .i64 0, .int .i64 0, .int .i64 0, .int .i64 1, .int .i64 7, .int .i64 7] 36 (0, 0))) :
    SaleIn lo hi w (.agg #[.int .i64 S0.tar.kinds, .slice (some ⟨B, 0, none⟩) 1 1, .slice (some ⟨B + 2, 0, none⟩) 1 1, .slice none 0 0, .slice (some ⟨B + 5, 0, none⟩) 5 5, .slice (some ⟨B + 6, 0, none⟩) S0.lots.length 1]) S0 := by
  refine ⟨_, _, _, _, _, rfl, ⟨_, _, _, rfl, ⟨_, _, rfl, by decide, fun _ => ⟨B, 0, _, _, rfl, hlo, by omega, r0, ?_⟩⟩, ⟨_, _, rfl, by decide, fun _ => ⟨B + 2, 0, _, _, rfl, by omega, by omega, r2, ?_⟩⟩, IntsIn.nil _ _ _⟩, ⟨_, _, rfl, by decide, fun _ => ⟨B + 5, 0, _, _, rfl, by omega, by omega, r5, ?_⟩⟩, ⟨_, _, rfl, by decide, fun _ => ⟨B + 6, 0, _, _, rfl, by omega, by omega, r6, ?_⟩⟩⟩
  · intro i hi
    obtain rfl : i = 0 := by simp [S0] at hi; omega
    rfl
  · intro i hi
    obtain rfl : i = 0 := by simp [S0] at hi; omega
    exact ⟨0, [2], _, rfl, rfl, rfl, _, _, rfl, by decide, fun _ => ⟨B + 1, 0, _, _, rfl, by omega, by omega, r1, fun j hj => (by have h1 : j < 1 := hj; have h2 : j = 0 := (by omega); subst h2; rfl)⟩⟩
  · intro i hi
    have h5 : i < 5 := hi
    obtain rfl | rfl | rfl | rfl | rfl : i = 0 ∨ i = 1 ∨ i = 2 ∨ i = 3 ∨ i = 4 := by omega
    all_goals rfl
  · intro i l hl
    match i, hl with
    | 0, hl =>
      simp [S0] at hl
      subst hl
      exact ⟨rfl, rfl, rfl, rfl, rfl, rfl⟩
    | i + 1, hl => simp [S0] at hl
theorem S0_fee : S0.tar.fee 0 0 24 = 3 := by decide
set_option maxRecDepth 100000 in
set_option maxHeartbeats 3200000 in
theorem awake_any (w : World) : Calls Tryz.prog 12 #[] w fun e w' => e = .returned (.bool true) ∧ w.grownBy w' none := by
  go_enter Tryz.func12, Tryz.ntmps12
  go_upto_region 3 with (fail)
  obtain ⟨B, hB⟩ : ∃ B, B = w.heap.size := ⟨_, rfl⟩
  rw [← hB]
  obtain ⟨w5, hw5⟩ : ∃ w5, w5 = ((((w.alloc (.cells #[.int .i64 1] 3)).alloc (.cells #[.int .i64 2] 3)).alloc (.cells #[.int .i64 0, .slice (some ⟨B + 1, 0, none⟩) 1 1] 84)).alloc (.cells #[.int .i64 1, .slice (some ⟨B, 0, none⟩) 1 1, .slice (some ⟨B + 1 + 1, 0, none⟩) 1 1, .slice none 0 0] 27)).alloc (.cells #[.int .i64 24, .int .i64 24] 34) := ⟨_, rfl⟩
  rw [← hw5]
  obtain ⟨r0, r1, r2, r3, r4, hs5, hg5⟩ := alloc5 w _ _ _ _ _ w5 hw5
  rw [← hB] at r0 r1 r2 r3 r4 hs5
  have SO := fun (W : World) (hg : w5.grownBy W none) (r5 : W.heap[B + 5]? = some (.cells #[.int .i64 0, .int .i64 1, .int .i64 0, .int .i64 0, .int .i64 0] 3 (0, 0))) (r6 : W.heap[B + 6]? = some (.cells #[.int .i64 0, .int .i64 0, .int .i64 0, .int .i64 1, .int .i64 7, .int .i64 7] 36 (0, 0))) (hsz : B + 7 ≤ W.heap.size) =>
    sover_any B (B + 7) S0 _ _ _ _ _ _ _ _ _ _ _ _ _ 0 1 1 0 0 0 1 7 7 W (S0_in (Nat.le_refl _) (Nat.le_refl _) (blk hg (by simp) r0) (blk hg (by simp) r1) (blk hg (by simp) r2) r5 r6) S0_valid hsz rfl (by decide) (by decide) (by decide) (by decide)
  have b0 := row_cell (o := 0) r3 rfl
  have b1 := row_cell (o := 1) r3 rfl
  have b2 := row_cell (o := 2) r3 rfl
  have b3 := row_cell (o := 3) r3 rfl
  simp only [List.getElem_toArray, List.getElem_cons_zero, List.getElem_cons_succ] at b0 b1 b2 b3
  obtain ⟨w7, hw7⟩ : ∃ w7, w7 = (w5.alloc (.cells #[.int .i64 0, .int .i64 1, .int .i64 0, .int .i64 0, .int .i64 0] 3)).alloc (.cells #[.int .i64 0, .int .i64 0, .int .i64 0, .int .i64 1, .int .i64 7, .int .i64 7] 36) := ⟨_, rfl⟩
  obtain ⟨r5, r6, hs7, hg7⟩ := alloc2' w5 (.cells #[.int .i64 0, .int .i64 1, .int .i64 0, .int .i64 0, .int .i64 0] 3) (.cells #[.int .i64 0, .int .i64 0, .int .i64 0, .int .i64 1, .int .i64 7, .int .i64 7] 36)
  rw [← hw7] at r5 r6 hs7 hg7
  rw [hs5] at r5 r6 hs7
  have so := SO w7 hg7 r5 r6 (by omega)
  rw [S0_fee] at so
  have sov : Calls Tryz.prog 9 #[.agg #[.int .i64 1, .slice (some ⟨B, 0, none⟩) 1 1, .slice (some ⟨B + 1 + 1, 0, none⟩) 1 1, .slice none 0 0, .slice (some ⟨B + 5, 0, none⟩) 5 5, .slice (some ⟨B + 5 + 1, 0, none⟩) 1 1], .int .i64 0, .int .i64 1] w7 (fun e w' => e = .returned (.tuple #[.agg #[.int .i64 4, .int .i64 4], .int .i64 0]) ∧ w7.grownBy w' none) := so
  have fov := fun (W : World) (hg : w7.grownBy W none) => fover_any B (B + 7) S0.tar _ _ _ _ _ _ _ _ _ 0 0 0 24 7 W ((S0_in (w := w7) (Nat.le_refl _) (Nat.le_refl _) (blk hg7 (by simp) r0) (blk hg7 (by simp) r1) (blk hg7 (by simp) r2) r5 r6).parts.1.kept hg (by simp)) S0_valid.tar (by have := hg.size; omega) (by decide) (by decide) (by decide) (by decide) (by decide)
  rw [S0_fee] at fov
  have fov' : ∀ (W : World), w7.grownBy W none → Calls Tryz.prog 8 #[.agg #[.int .i64 1, .slice (some ⟨B, 0, none⟩) 1 1, .slice (some ⟨B + 1 + 1, 0, none⟩) 1 1, .slice none 0 0], .agg #[.int .i64 0, .int .i64 0, .int .i64 0, .int .i64 24, .int .i64 24], .int .i64 7] W (fun e w' => e = .returned (.tuple #[.agg #[.int .i64 4, .int .i64 4], .int .i64 0]) ∧ W.grownBy w' none) := fov
  have HFO := Lib.hid fov'
  have HG7 := Lib.hid (hg5.trans hg7)
  have c0 := hg7.cell b0 (by simp)
  have c1 := hg7.cell b1 (by simp)
  have c2 := hg7.cell b2 (by simp)
  have c3 := hg7.cell b3 (by simp)
  have e0 := hg7.cell (row_cell (o := 0) r4 rfl) (by simp)
  have e1 := hg7.cell (row_cell (o := 1) r4 rfl) (by simp)
  simp only [List.getElem_toArray, List.getElem_cons_zero, List.getElem_cons_succ] at e0 e1
  have HW7 := Lib.hid hw7
  rw [hw7] at sov
  have SOV := Lib.hid sov
  clear SO so sov fov fov' hw7 hw5 r0 r1 r2 r3 r4 r5 r6 hs7 hg5 hg7 hB
  rw [show B + 1 + 1 + 1 = B + 3 from rfl, show B + 3 + 1 = B + 4 from rfl]
  go_upto_region 4 with (first | (go_at_call 9; go_must (refine SOV.out.mono ?_); rintro e w8 ⟨rfl, hg8⟩; rw [← HW7.out] at hg8; have HG8 := Lib.hid hg8; clear hg8))
  obtain ⟨w9, hw9⟩ : ∃ w9, w9 = w8.alloc (.cells #[.int .i64 4, .int .i64 4] 34) := ⟨_, rfl⟩
  obtain ⟨N, hN⟩ : ∃ N, N = w8.heap.size := ⟨_, rfl⟩
  have hg9 : w8.grownBy w9 none := by rw [hw9]; exact World.grownBy_alloc _ _ _
  have n0 : w9.cell? ⟨N, 0, none⟩ = some (.int .i64 4) := by rw [hw9, hN, cell_new]; rfl
  have n1 : w9.cell? ⟨N, 1, none⟩ = some (.int .i64 4) := by rw [hw9, hN, cell_new]; rfl
  have hga := HG8.out.trans hg9
  have k0 := hga.cell c0 (by simp)
  have k1 := hga.cell c1 (by simp)
  have k2 := hga.cell c2 (by simp)
  have k3 := hga.cell c3 (by simp)
  have j0 := hga.cell e0 (by simp)
  have j1 := hga.cell e1 (by simp)
  rw [← hN, ← hw9]
  have FO := Lib.hid (HFO.out w9 hga)
  have HG9 := Lib.hid (HG7.out.trans hga)
  clear hw9 hN hg9 hga c0 c1 c2 c3 e0 e1 HFO b0 b1 b2 b3 hs5 HW7 SOV HG8 HG7
  go_upto_region 5 with (first | (go_at_call 8; go_must (refine FO.out.mono ?_); rintro e w10 ⟨rfl, hg10⟩; have HG10 := Lib.hid hg10; clear hg10))
  obtain ⟨w11, hw11⟩ : ∃ w11, w11 = w10.alloc (.cells #[.int .i64 4, .int .i64 4] 34) := ⟨_, rfl⟩
  obtain ⟨N', hN'⟩ : ∃ N', N' = w10.heap.size := ⟨_, rfl⟩
  have hg11 : w10.grownBy w11 none := by rw [hw11]; exact World.grownBy_alloc _ _ _
  have p0 : w11.cell? ⟨N', 0, none⟩ = some (.int .i64 4) := by rw [hw11, hN', cell_new]; rfl
  have p1 : w11.cell? ⟨N', 1, none⟩ = some (.int .i64 4) := by rw [hw11, hN', cell_new]; rfl
  have q0 := (HG10.out.trans hg11).cell n0 (by simp)
  have q1 := (HG10.out.trans hg11).cell n1 (by simp)
  have HGE := Lib.hid ((HG9.out.trans HG10.out).trans hg11)
  rw [← hN', ← hw11]
  clear hw11 hN' hg11 n0 n1 k0 k1 k2 k3 j0 j1 FO HG9 HG10
  go_wp2
  go_ret
  exact ⟨rfl, HGE.out⟩
end Go.Proofs.YtpjcjadcikeibaaGreatDoor
