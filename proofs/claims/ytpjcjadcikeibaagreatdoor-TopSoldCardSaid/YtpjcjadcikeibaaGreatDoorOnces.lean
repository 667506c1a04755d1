import Derived.Test.YtpjcjadcikeibaaGreatDoorPaint
namespace Go.Proofs.YtpjcjadcikeibaaGreatDoor
open Go.RowKit
/-- Once more than before: kind k's rates are laid, at c stands its mark. -/
def Done (T : Tar) (k c : Nat) (cs cs' : Array Value) : Prop :=
  cs'.size = 28 ∧ cs'[c]? = some (.int .u32 1) ∧ ∀ o, o ≠ c → cs'[o]? = if 13 + k * 5 ≤ o ∧ o < 18 + k * 5 then some (.int .i64 (T.rate k (o - (13 + k * 5)))) else cs[o]?
theorem row_cell {w : World} {Q o ty : Nat} {cs : Array Value} {fr : Nat × Nat} {v : Value} (h : w.heap[Q]? = some (.cells cs ty fr)) (hv : cs[o]? = some v) : w.cell? ⟨Q, o, none⟩ = some v := by simp [World.cell?, h, hv]
theorem row_thaw {w : World} {Q o ty : Nat} {cs : Array Value} (h : w.heap[Q]? = some (.cells cs ty (0, 0))) : w.frozen? ⟨Q, o, none⟩ = false := by simp [World.frozen?, h]
set_option maxRecDepth 100000 in
set_option maxHeartbeats 3200000 in
theorem slow_any (lo hi b2 b3 Q k c : Nat) (T : Tar) (fv rv ev : Value) (w : World) (cs : Array Value) (hQ : w.heap[Q]? = some (.cells cs 117 (0, 0))) (hsz : cs.size = 28) (hc4 : 4 ≤ c) (hc : c + 1 < 13)
    (k0 : cs[c]? = some (.int .u32 0)) (k1 : cs[c + 1]? = some (.int .i32 0)) (c2 : cs[2]? = some rv) (c3 : cs[3]? = some ev)
    (h2 : w.cell? ⟨b2, 0, none⟩ = some (.pointer (some ⟨Q, 0, none⟩))) (h3 : w.cell? ⟨b3, 0, none⟩ = some (.int .i64 k)) (n2 : b2 ≠ Q) (n3 : b3 ≠ Q)
    (hT : TarIn lo hi w (.agg #[.int .i64 T.kinds, fv, rv, ev]) T) (hV : T.Valid) (hhi : hi ≤ Q) (hk : k < T.kinds) :
    Calls Tryz.prog 53 #[.pointer (some ⟨Q, c, none⟩), .func (.func 44) #[] #[.pointer (some ⟨b2, 0, none⟩), .pointer (some ⟨b3, 0, none⟩)]] w fun e w' => e = .returned (.tuple #[]) ∧ w.grownBy w' (some Q) ∧ ∃ cs', w'.heap[Q]? = some (.cells cs' 117 (0, 0)) ∧ Done T k c cs cs' := by
  have hQw : Q < w.heap.size := (Array.getElem?_eq_some_iff.1 hQ).1
  have hl := run_call_load (P := Tryz.prog) Tryz.func59 (by kernel_rfl) (by kernel_rfl) (by kernel_rfl) .u32 (by kernel_rfl) (w := w.setCell ⟨Q, c + 1, none⟩ (.int .i32 1)) (a := ⟨Q, c, none⟩) (x := 0) ((World.cell?_setCell_other _ ⟨Q, c + 1, none⟩ ⟨Q, c, none⟩ _ (by simp)).trans (row_cell hQ k0))
  have hnot : ∀ (x : Bool) (w : World), (Op.unary .not (.bool x)).run Tryz.prog w = .ok (.bool (!x)) w := fun _ _ => rfl
  have L1 := row_cell hQ k1
  have f1 := row_thaw (o := c + 1) hQ
  have hg1 : w.grownBy (w.setCell ⟨Q, c + 1, none⟩ (.int .i32 1)) (some Q) := grownBy_set _ _ _ _
  have CLO := Lib.hid (closure_any lo hi b2 b3 Q k T fv rv ev (w.setCell ⟨Q, c + 1, none⟩ (.int .i32 1)) (hg1.cell h2 (by simp; omega)) (hg1.cell h3 (by simp; omega))
    (row_cell (row_setCell hQ) (by rw [Array.getElem?_setIfInBounds_ne (by omega)]; exact c2)) (row_cell (row_setCell hQ) (by rw [Array.getElem?_setIfInBounds_ne (by omega)]; exact c3))
    (hT.kept hg1 (by rintro R e; cases e; exact .inr hhi)) hV (Nat.le_trans hhi (Nat.le_trans (Nat.le_of_lt hQw) hg1.size)) hk _ (row_setCell hQ) (by simpa using hsz))
  have HQ := Lib.hid hQ
  have HK := Lib.hid (And.intro hsz (And.intro k0 k1))
  clear h2 h3 hT hg1 hQ k0 k1 c2 c3 hsz
  go_enter_defers Tryz.func53, Tryz.ntmps53
  go_wp2_with
    (first
      | (go_at_call 60; go_must (refine (Go.MuLone.lock_free Tryz.muLib ⟨Q, c + 1, none⟩ _ (by exact L1) (by exact f1)).mono ?_); rintro e w' ⟨rfl, rfl⟩)
      | (go_at_call 52; go_in)
      | (go_at_call 44; go_must (refine CLO.out.mono ?_); rintro e w2 ⟨rfl, hG2, cs2, hR2, hP2⟩))
  obtain ⟨hs2, hp2⟩ := hP2
  obtain ⟨hsz, k0, k1⟩ := HK.out
  have e0 : cs2[c]? = some (.int .u32 0) := by rw [hp2, if_neg (by omega), Array.getElem?_setIfInBounds_ne (by omega)]; exact k0
  have e1 : cs2[c + 1]? = some (.int .i32 1) := by rw [hp2, if_neg (by omega), Array.getElem?_setIfInBounds_self_of_lt (by omega)]
  have hR2d : w2.drew.heap[Q]? = some (.cells cs2 117 (0, 0)) := hR2
  refine leaves_cons (f := 62) (args := #[.pointer (some ⟨Q, c, none⟩), .bool true]) (by simp) (by simp [go_sem]) ?_
  refine (store_deferred ⟨Q, c, none⟩ (.int .u32 0) .returning _ (row_cell hR2 e0) (row_thaw hR2)).mono ?_
  rintro e u' w'' ⟨rfl, rfl, rfl⟩
  refine leaves_cons (f := 61) (args := #[.pointer (some ⟨Q, c + 1, none⟩)]) (by simp [settle]) (by simp [go_sem]) ?_
  refine (Go.MuLone.unlock_deferred Tryz.muLib ⟨Q, c + 1, none⟩ _ _ (row_cell (row_setCell hR2d) (by rw [Array.getElem?_setIfInBounds_ne (by omega)]; exact e1)) (row_thaw (row_setCell hR2d))).mono ?_
  rintro e u' w'' ⟨rfl, rfl, rfl⟩
  have HEND : w.grownBy ((w2.drew.setCell ⟨Q, c, none⟩ (.int .u32 1)).setCell ⟨Q, c + 1, none⟩ (.int .i32 0)) (some Q) ∧ ∃ cs', ((w2.drew.setCell ⟨Q, c, none⟩ (.int .u32 1)).setCell ⟨Q, c + 1, none⟩ (.int .i32 0)).heap[Q]? = some (.cells cs' 117 (0, 0)) ∧ Done T k c cs cs' := by
    refine ⟨((((grownBy_set w Q (c + 1) (.int .i32 1)).trans hG2).trans (grownBy_drew _ _)).trans (grownBy_set _ _ _ _)).trans (grownBy_set _ _ _ _), _, row_setCell (row_setCell hR2d), by simpa using hs2, ?_, fun o ho => ?_⟩
    · rw [Array.getElem?_setIfInBounds_ne (by omega), Array.getElem?_setIfInBounds_self_of_lt (by omega)]
    · by_cases h1 : o = c + 1
      · subst h1
        rw [Array.getElem?_setIfInBounds_self_of_lt (by simp; omega), if_neg (by omega), k1]
      · rw [Array.getElem?_setIfInBounds_ne (by omega), Array.getElem?_setIfInBounds_ne (by omega), hp2]
        by_cases h2 : 13 + k * 5 ≤ o ∧ o < 18 + k * 5
        · rw [if_pos h2, if_pos h2]
        · rw [if_neg h2, if_neg h2, Array.getElem?_setIfInBounds_ne (by omega)]
  refine ⟨.tuple #[], ?_, rfl, HEND⟩
  simp [results, Tryz.results53]
set_option maxRecDepth 100000 in
set_option maxHeartbeats 1600000 in
theorem do_first (lo hi b2 b3 Q k c : Nat) (T : Tar) (fv rv ev : Value) (w : World) (cs : Array Value) (hQ : w.heap[Q]? = some (.cells cs 117 (0, 0))) (hsz : cs.size = 28) (hc4 : 4 ≤ c) (hc : c + 1 < 13)
    (k0 : cs[c]? = some (.int .u32 0)) (k1 : cs[c + 1]? = some (.int .i32 0)) (c2 : cs[2]? = some rv) (c3 : cs[3]? = some ev)
    (h2 : w.cell? ⟨b2, 0, none⟩ = some (.pointer (some ⟨Q, 0, none⟩))) (h3 : w.cell? ⟨b3, 0, none⟩ = some (.int .i64 k)) (n2 : b2 ≠ Q) (n3 : b3 ≠ Q)
    (hT : TarIn lo hi w (.agg #[.int .i64 T.kinds, fv, rv, ev]) T) (hV : T.Valid) (hhi : hi ≤ Q) (hk : k < T.kinds) :
    Calls Tryz.prog 43 #[.pointer (some ⟨Q, c, none⟩), .func (.func 44) #[] #[.pointer (some ⟨b2, 0, none⟩), .pointer (some ⟨b3, 0, none⟩)]] w fun e w' => e = .returned (.tuple #[]) ∧ w.grownBy w' (some Q) ∧ ∃ cs', w'.heap[Q]? = some (.cells cs' 117 (0, 0)) ∧ Done T k c cs cs' := by
  have hl := run_call_load (P := Tryz.prog) Tryz.func59 (by kernel_rfl) (by kernel_rfl) (by kernel_rfl) .u32 (by kernel_rfl) (w := w) (a := ⟨Q, c, none⟩) (x := 0) (row_cell hQ k0)
  have hnot : ∀ (x : Bool) (w : World), (Op.unary .not (.bool x)).run Tryz.prog w = .ok (.bool (!x)) w := fun _ _ => rfl
  have SLOW := Lib.hid (slow_any lo hi b2 b3 Q k c T fv rv ev w cs hQ hsz hc4 hc k0 k1 c2 c3 h2 h3 n2 n3 hT hV hhi hk)
  clear hQ hsz hc4 hc k0 k1 c2 c3 h2 h3 n2 n3 hT hV hhi hk
  go_enter Tryz.func43, Tryz.ntmps43
  go_wp2_with
    (first
      | (go_at_call 52; go_in)
      | (go_at_call 53; go_must (refine SLOW.out.mono ?_); rintro e w2 ⟨rfl, hG2, cs2, hR2, hP2⟩))
  go_end0
  exact ⟨rfl, hG2, cs2, hR2, hP2⟩
set_option maxRecDepth 100000 in
theorem do_done (Q c : Nat) (fn : Value) (w : World) (k0 : w.cell? ⟨Q, c, none⟩ = some (.int .u32 1)) :
    Calls Tryz.prog 43 #[.pointer (some ⟨Q, c, none⟩), fn] w fun e w' => e = .returned (.tuple #[]) ∧ w = w' := by
  have hl := run_call_load (P := Tryz.prog) Tryz.func59 (by kernel_rfl) (by kernel_rfl) (by kernel_rfl) .u32 (by kernel_rfl) (w := w) (a := ⟨Q, c, none⟩) (x := 1) k0
  have hnot : ∀ (x : Bool) (w : World), (Op.unary .not (.bool x)).run Tryz.prog w = .ok (.bool (!x)) w := fun _ _ => rfl
  go_enter Tryz.func43, Tryz.ntmps43
  go_wp2
  go_end0
  exact ⟨rfl, rfl⟩
/-- A tariff at work, at Q; of the kinds that D names the rates are known. -/
def TQ (w : World) (Q : Nat) (T : Tar) (fv rv ev : Value) (D : Nat → Bool) : Prop :=
  ∃ cs, w.heap[Q]? = some (.cells cs 117 (0, 0)) ∧ cs.size = 28 ∧ cs[0]? = some (.int .i64 T.kinds) ∧ cs[1]? = some fv ∧ cs[2]? = some rv ∧ cs[3]? = some ev ∧
    ∀ j, j < 3 → cs[4 + j * 3]? = some (.int .u32 (if D j then 1 else 0)) ∧ cs[4 + j * 3 + 1]? = some (.int .i32 0) ∧ (D j = true → ∀ d, d < 5 → cs[13 + j * 5 + d]? = some (.int .i64 (T.rate j d)))
def TW (w : World) (Q : Nat) (T : Tar) (fv rv ev : Value) : Prop := ∃ D, TQ w Q T fv rv ev D
theorem TQ.kept {w w' : World} {Q : Nat} {T : Tar} {fv rv ev : Value} {D : Nat → Bool} {row : Option Nat} (h : TQ w Q T fv rv ev D) (hg : w.grownBy w' row) (hr : ∀ R, row = some R → R ≠ Q) : TQ w' Q T fv rv ev D := by
  obtain ⟨cs, h0, h1⟩ := h
  exact ⟨cs, blk hg (fun e => hr Q e.symm rfl) h0, h1⟩
theorem TW.kept {w w' : World} {Q : Nat} {T : Tar} {fv rv ev : Value} {row : Option Nat} (h : TW w Q T fv rv ev) (hg : w.grownBy w' row) (hr : ∀ R, row = some R → R ≠ Q) : TW w' Q T fv rv ev := by
  obtain ⟨D, h⟩ := h
  exact ⟨D, h.kept hg hr⟩
/-- Its rates are known: the call of Do leaves them so. -/
def Known (w : World) (Q : Nat) (T : Tar) (fv rv ev : Value) (k : Nat) : Prop := ∃ D, TQ w Q T fv rv ev D ∧ D k = true
theorem do_any (lo hi b2 b3 Q k : Nat) (T : Tar) (fv rv ev : Value) (w : World) (hQ : TW w Q T fv rv ev)
    (h2 : w.cell? ⟨b2, 0, none⟩ = some (.pointer (some ⟨Q, 0, none⟩))) (h3 : w.cell? ⟨b3, 0, none⟩ = some (.int .i64 k)) (n2 : b2 ≠ Q) (n3 : b3 ≠ Q)
    (hT : TarIn lo hi w (.agg #[.int .i64 T.kinds, fv, rv, ev]) T) (hV : T.Valid) (hhi : hi ≤ Q) (hk : k < T.kinds) :
    Calls Tryz.prog 43 #[.pointer (some ⟨Q, 4 + k * 3, none⟩), .func (.func 44) #[] #[.pointer (some ⟨b2, 0, none⟩), .pointer (some ⟨b3, 0, none⟩)]] w fun e w' => e = .returned (.tuple #[]) ∧ w.grownBy w' (some Q) ∧ Known w' Q T fv rv ev k := by
  obtain ⟨D, cs, r, hs, c0, c1, c2, c3, hj⟩ := hQ
  have hk3 : k < 3 := by have := hV.k2; omega
  obtain ⟨k0, k1, kd⟩ := hj k hk3
  cases hD : D k with
  | true =>
    rw [hD] at k0
    refine (do_done Q _ _ w (row_cell r k0)).mono ?_
    rintro e w' ⟨rfl, rfl⟩
    exact ⟨rfl, World.grownBy.refl _ _, D, ⟨cs, r, hs, c0, c1, c2, c3, hj⟩, hD⟩
  | false =>
    rw [hD] at k0
    refine (do_first lo hi b2 b3 Q k (4 + k * 3) T fv rv ev w cs r hs (by omega) (by omega) k0 k1 c2 c3 h2 h3 n2 n3 hT hV hhi hk).mono ?_
    rintro e w' ⟨rfl, hg, cs', r', hs', m', hd'⟩
    refine ⟨rfl, hg, fun j => D j || j == k, ⟨cs', r', hs', ?_, ?_, ?_, ?_, fun j hj3 => ?_⟩, by simp⟩
    · rw [hd' _ (by omega), if_neg (by omega)]; exact c0
    · rw [hd' _ (by omega), if_neg (by omega)]; exact c1
    · rw [hd' _ (by omega), if_neg (by omega)]; exact c2
    · rw [hd' _ (by omega), if_neg (by omega)]; exact c3
    · obtain ⟨j0, j1, jd⟩ := hj j hj3
      by_cases hjk : j = k
      · subst hjk
        refine ⟨by simp [m'], by rw [hd' _ (by omega), if_neg (by omega)]; exact j1, fun _ d hd => ?_⟩
        rw [hd' _ (by omega), if_pos (by omega)]
        congr 3
        omega
      · refine ⟨by rw [hd' _ (by omega), if_neg (by omega), j0]; simp [hjk], by rw [hd' _ (by omega), if_neg (by omega)]; exact j1, fun h d hd => ?_⟩
        rw [hd' _ (by omega), if_neg (by omega)]
        exact jd (by simpa [hjk] using h) d hd
end Go.Proofs.YtpjcjadcikeibaaGreatDoor
