import Derived.Test.YtpjcjadcikeibaaGreatDoorTinb
namespace Go.Proofs.YtpjcjadcikeibaaGreatDoor
open Go.RowKit

/-! ### slices in memory, with the range of blocks in which they lie -/
/-- v reads as the numbers l; its memory is a row of ints in a block from lo on, below hi. -/
def IntsIn (lo hi : Nat) (w : World) (v : Value) (l : List Int) : Prop :=
  ∃ base cap, v = .slice base l.length cap ∧ (l.length : Int) ≤ 1000000 ∧
    (l ≠ [] → ∃ B o cs fr, base = some ⟨B, o, none⟩ ∧ lo ≤ B ∧ B < hi ∧ w.heap[B]? = some (.cells cs 3 fr) ∧ ∀ i, i < l.length → cs[o + i]? = some (.int .i64 (l[i]?.getD 0)))
theorem IntsIn.nil (lo hi : Nat) (w : World) : IntsIn lo hi w (.slice none 0 0) [] := ⟨none, 0, rfl, by decide, fun h => absurd rfl h⟩
theorem IntsIn.mono {lo hi lo' hi' : Nat} {w : World} {v : Value} {l : List Int} (h : IntsIn lo hi w v l) (h1 : lo' ≤ lo) (h2 : hi ≤ hi') : IntsIn lo' hi' w v l := by
  obtain ⟨base, cap, rfl, hl, hr⟩ := h
  refine ⟨base, cap, rfl, hl, fun hne => ?_⟩
  obtain ⟨B, o, cs, fr, e1, e2, e3, e4, e5⟩ := hr hne
  exact ⟨B, o, cs, fr, e1, by omega, by omega, e4, e5⟩
/-- It stands where what is written lies outside its blocks. -/
theorem IntsIn.kept {lo hi : Nat} {w w' : World} {v : Value} {l : List Int} {row : Option Nat} (h : IntsIn lo hi w v l) (hg : w.grownBy w' row) (hr : ∀ R, row = some R → R < lo ∨ hi ≤ R) : IntsIn lo hi w' v l := by
  obtain ⟨base, cap, rfl, hl, hr'⟩ := h
  refine ⟨base, cap, rfl, hl, fun hne => ?_⟩
  obtain ⟨B, o, cs, fr, e1, e2, e3, e4, e5⟩ := hr' hne
  exact ⟨B, o, cs, fr, e1, e2, e3, blk hg (fun e => by have := hr B e.symm; omega) e4, e5⟩
/-- .. or in a row of another type. -/
theorem IntsIn.kept_ty {lo hi : Nat} {w w' : World} {v : Value} {l : List Int} {row : Option Nat} (h : IntsIn lo hi w v l) (hg : w.grownBy w' row) (hr : ∀ R, row = some R → ∃ cs ty fr, w.heap[R]? = some (.cells cs ty fr) ∧ ty ≠ 3) : IntsIn lo hi w' v l := by
  obtain ⟨base, cap, rfl, hl, hr'⟩ := h
  refine ⟨base, cap, rfl, hl, fun hne => ?_⟩
  obtain ⟨B, o, cs, fr, e1, e2, e3, e4, e5⟩ := hr' hne
  refine ⟨B, o, cs, fr, e1, e2, e3, blk hg (fun e => ?_) e4, e5⟩
  obtain ⟨cs', ty, fr', h1, h2⟩ := hr B e.symm
  rw [e4] at h1
  cases h1
  exact h2 rfl
theorem IntsIn.alloc {lo hi : Nat} {w : World} {v : Value} {l : List Int} (h : IntsIn lo hi w v l) (o : Obj) : IntsIn lo hi (w.alloc o) v l := h.kept (World.grownBy_alloc w o none) (by simp)
/-- Out of a row that the call owns. -/
theorem IntsIn.own {lo n : Nat} {w : World} {v : Value} {l : List Int} (h : w.ownsRow lo 3 1 v n (l.map (Value.int .i64))) (hl : (l.length : Int) ≤ 1000000) : IntsIn lo w.heap.size w v l := by
  obtain ⟨h1, h2⟩ := h
  have hn : l.length = n := by simpa using h1
  subst hn
  rcases h2 with ⟨rfl, h0⟩ | ⟨g, cap, cur, rfl, hb, hg, hc, hm, hs, ht⟩
  · exact ⟨none, 0, by rw [h0], hl, fun hne => absurd (List.eq_nil_of_length_eq_zero h0) hne⟩
  · refine ⟨_, cap, rfl, hl, fun _ => ⟨g, 0, cur, (0, 0), rfl, hb, (Array.getElem?_eq_some_iff.1 hg).1, hg, fun i hi => ?_⟩⟩
    have h3 : (cur.toList.take (l.length * 1))[i]? = some (.int .i64 (l[i]?.getD 0)) := by
      rw [ht]; simp [List.getElem?_eq_getElem hi]
    rw [List.getElem?_take] at h3
    simpa [hi] using h3
theorem IntsIn.cell {lo hi : Nat} {w : World} {v : Value} {l : List Int} (h : IntsIn lo hi w v l) : ∃ base cap, v = .slice base l.length cap ∧ (l.length : Int) ≤ 1000000 ∧
    (l ≠ [] → ∃ B o, base = some ⟨B, o, none⟩ ∧ lo ≤ B ∧ B < hi ∧ B < w.heap.size ∧ ∀ i, i < l.length → w.cell? ⟨B, o + i, none⟩ = some (.int .i64 (l[i]?.getD 0))) := by
  obtain ⟨base, cap, rfl, hl, hr'⟩ := h
  refine ⟨base, cap, rfl, hl, fun hne => ?_⟩
  obtain ⟨B, o, cs, fr, e1, e2, e3, e4, e5⟩ := hr' hne
  exact ⟨B, o, e1, e2, e3, (Array.getElem?_eq_some_iff.1 e4).1, fun i hi => by simp [World.cell?, e4, e5 i hi]⟩

/-- v reads as the rates rs: each a day, and pennies. -/
def RatesIn (lo hi : Nat) (w : World) (v : Value) (rs : List (Int × List Int)) : Prop :=
  ∃ base cap, v = .slice base rs.length cap ∧ (rs.length : Int) ≤ 1000000 ∧
    (rs ≠ [] → ∃ B o cs fr, base = some ⟨B, o, none⟩ ∧ lo ≤ B ∧ B < hi ∧ w.heap[B]? = some (.cells cs 84 fr) ∧
      ∀ i, i < rs.length → ∃ d l pv, rs[i]? = some (d, l) ∧ cs[o + i * 2]? = some (.int .i64 d) ∧ cs[o + (i * 2 + 1)]? = some pv ∧ IntsIn lo hi w pv l)
theorem RatesIn.kept {lo hi : Nat} {w w' : World} {v : Value} {rs : List (Int × List Int)} {row : Option Nat} (h : RatesIn lo hi w v rs) (hg : w.grownBy w' row) (hr : ∀ R, row = some R → R < lo ∨ hi ≤ R) : RatesIn lo hi w' v rs := by
  obtain ⟨base, cap, rfl, hl, hr'⟩ := h
  refine ⟨base, cap, rfl, hl, fun hne => ?_⟩
  obtain ⟨B, o, cs, fr, e1, e2, e3, e4, e5⟩ := hr' hne
  refine ⟨B, o, cs, fr, e1, e2, e3, blk hg (fun e => by have := hr B e.symm; omega) e4, fun i hi => ?_⟩
  obtain ⟨d, l, pv, h1, h2, h3, h4⟩ := e5 i hi
  exact ⟨d, l, pv, h1, h2, h3, h4.kept hg hr⟩

/-- A tariff. -/
structure Tar where
  kinds : Nat
  first : List Int
  rates : List (Int × List Int)
  free : List Int
def Digits (n : Nat) (l : List Int) : Prop := l.length = n ∧ ∀ x ∈ l, 0 ≤ x ∧ x ≤ 9
structure Tar.Valid (T : Tar) : Prop where
  k1 : 1 ≤ T.kinds
  k2 : T.kinds ≤ 3
  first : Digits T.kinds T.first
  r1 : 1 ≤ T.rates.length
  r2 : T.rates.length ≤ 3
  rate : ∀ (i : Nat) (d : Int) (l : List Int), T.rates[i]? = some (d, l) → 0 ≤ d ∧ d ≤ 4 ∧ Digits T.kinds l ∧ (i = 0 → d = 0) ∧ (∀ j d' l', j < i → T.rates[j]? = some (d', l') → d' < d)
  f1 : T.free.length ≤ 5
  free : ∀ (i : Nat) (d : Int), T.free[i]? = some d → 0 ≤ d ∧ d ≤ 4 ∧ ∀ j d', j < i → T.free[j]? = some d' → d' < d
def TarIn (lo hi : Nat) (w : World) (v : Value) (T : Tar) : Prop :=
  ∃ fv rv ev, v = .agg #[.int .i64 T.kinds, fv, rv, ev] ∧ IntsIn lo hi w fv T.first ∧ RatesIn lo hi w rv T.rates ∧ IntsIn lo hi w ev T.free
theorem TarIn.kept {lo hi : Nat} {w w' : World} {v : Value} {T : Tar} {row : Option Nat} (h : TarIn lo hi w v T) (hg : w.grownBy w' row) (hr : ∀ R, row = some R → R < lo ∨ hi ≤ R) : TarIn lo hi w' v T := by
  obtain ⟨fv, rv, ev, rfl, h1, h2, h3⟩ := h
  exact ⟨fv, rv, ev, rfl, h1.kept hg hr, h2.kept hg hr, h3.kept hg hr⟩
end Go.Proofs.YtpjcjadcikeibaaGreatDoor
