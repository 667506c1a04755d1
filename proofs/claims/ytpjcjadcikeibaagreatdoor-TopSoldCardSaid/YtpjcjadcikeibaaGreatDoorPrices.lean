import Derived.Test.YtpjcjadcikeibaaGreatDoorSaleof
namespace Go.Proofs.YtpjcjadcikeibaaGreatDoor
open Go.RowKit
theorem SaleIn.form {lo hi : Nat} {w : World} {v : Value} {S : Sal} (h : SaleIn lo hi w v S) (hV : S.Valid) : ∃ (fa ra ea pa la : Option Addr) (fm fc rm rc em ec pc lc : Nat), v = .agg #[.int .i64 S.tar.kinds, .slice fa fm fc, .slice ra rm rc, .slice ea em ec, .slice pa 5 pc, .slice la S.lots.length lc] := by
  obtain ⟨fv, rv, ev, pv, lv, rfl, hT, ⟨pa, pc, rfl, -⟩, ⟨la, lc, rfl, -⟩⟩ := h
  obtain ⟨fa, fm, fc, ra, rm, rc, ea, em, ec, he⟩ := hT.form
  obtain ⟨rfl, rfl, rfl⟩ : fv = .slice fa fm fc ∧ rv = .slice ra rm rc ∧ ev = .slice ea em ec := by simpa using he
  rw [hV.r]
  exact ⟨_, _, _, _, _, _, _, _, _, _, _, _, _, rfl⟩
theorem RatesIn.kept_ty {lo hi : Nat} {w w' : World} {v : Value} {rs : List (Int × List Int)} {row : Option Nat} (h : RatesIn lo hi w v rs) (hg : w.grownBy w' row) (hr : ∀ R, row = some R → ∃ cs fr, w.heap[R]? = some (.cells cs 36 fr)) : RatesIn lo hi w' v rs := by
  obtain ⟨base, cap, rfl, hl, hr'⟩ := h
  refine ⟨base, cap, rfl, hl, fun hne => ?_⟩
  obtain ⟨B, o, cs, fr, e1, e2, e3, e4, e5⟩ := hr' hne
  refine ⟨B, o, cs, fr, e1, e2, e3, blk hg (fun e => ?_) e4, fun i hi => ?_⟩
  · obtain ⟨cs', fr', h1⟩ := hr B e.symm
    rw [e4] at h1
    cases h1
  · obtain ⟨d, l, pv, h1, h2, h3, h4⟩ := e5 i hi
    exact ⟨d, l, pv, h1, h2, h3, h4.kept_ty hg (fun R e => by obtain ⟨cs', fr', h1⟩ := hr R e; exact ⟨cs', 36, fr', h1, by decide⟩)⟩
theorem TarIn.kept_ty {lo hi : Nat} {w w' : World} {v : Value} {T : Tar} {row : Option Nat} (h : TarIn lo hi w v T) (hg : w.grownBy w' row) (hr : ∀ R, row = some R → ∃ cs fr, w.heap[R]? = some (.cells cs 36 fr)) : TarIn lo hi w' v T := by
  obtain ⟨fv, rv, ev, rfl, h1, h2, h3⟩ := h
  have hr' : ∀ R, row = some R → ∃ cs ty fr, w.heap[R]? = some (.cells cs ty fr) ∧ ty ≠ 3 := fun R e => by obtain ⟨cs', fr', h1⟩ := hr R e; exact ⟨cs', 36, fr', h1, by decide⟩
  exact ⟨fv, rv, ev, rfl, h1.kept_ty hg hr', h2.kept_ty hg hr, h3.kept_ty hg hr'⟩
theorem Sal.Valid.price {T : Tar} {rooms : List Int} {ls : List Lt} (h : (Sal.mk T rooms ls).Valid) {k : Nat} {l : Lt} (hl : ls[k]? = some l) {u : Int} (h0 : 0 ≤ u) (h1 : u ≤ 40) : (Sal.mk T rooms (ls.set k { l with wmin := u, wmax := u })).Valid := by
  refine ⟨h.tar, h.r, h.room, by simpa using h.n, fun x hx => ?_⟩
  rcases List.mem_or_eq_of_mem_set hx with h2 | h2
  · exact h.lot x h2
  · subst h2
    obtain ⟨a1, a2, a3, a4, a5, a6, a7, a8, a9, a10⟩ := h.lot l (List.mem_of_getElem? hl)
    exact ⟨a1, a2, a3, a4, a5, a6, a7, h0, Int.le_refl _, h1⟩
theorem LotsIn.price {lo hi LB o lc k : Nat} {w : World} {ls : List Lt} {l : Lt} (h : LotsIn lo hi w (.slice (some ⟨LB, o, none⟩) ls.length lc) ls) (hz : ∃ cs, w.heap[LB]? = some (.cells cs 36 (0, 0))) (hl : ls[k]? = some l) (u : Int) :
    LotsIn lo hi ((w.setCell ⟨LB, o + k * 6 + 4, none⟩ (.int .i64 u)).setCell ⟨LB, o + k * 6 + 5, none⟩ (.int .i64 u)) (.slice (some ⟨LB, o, none⟩) ls.length lc) (ls.set k { l with wmin := u, wmax := u }) ∧
      ∃ cs, ((w.setCell ⟨LB, o + k * 6 + 4, none⟩ (.int .i64 u)).setCell ⟨LB, o + k * 6 + 5, none⟩ (.int .i64 u)).heap[LB]? = some (.cells cs 36 (0, 0)) := by
  obtain ⟨cs, hz⟩ := hz
  obtain ⟨base, cap, he, hlen, hr⟩ := h
  have hk : k < ls.length := (List.getElem?_eq_some_iff.1 hl).1
  obtain ⟨B, o', cs', fr, e1, e2, e3, e4, e5⟩ := hr (by rintro rfl; simp at hk)
  cases he
  cases e1
  rw [hz] at e4
  cases e4
  have hrow := row_setCell (o := o + k * 6 + 5) (v := .int .i64 u) (row_setCell (o := o + k * 6 + 4) (v := .int .i64 u) hz)
  refine ⟨⟨_, _, by rw [List.length_set], by rw [List.length_set]; exact hlen, fun _ => ⟨LB, o, _, _, rfl, e2, e3, hrow, fun i x hx => ?_⟩⟩, _, hrow⟩
  have hne : ∀ (m j : Nat), j < 6 → (¬ m = k ∨ j < 4) → ((cs.setIfInBounds (o + k * 6 + 4) (.int .i64 u)).setIfInBounds (o + k * 6 + 5) (.int .i64 u))[o + (m * 6 + j)]? = cs[o + (m * 6 + j)]? := by
    intro m j hj hmj
    rw [Array.getElem?_setIfInBounds_ne (by omega), Array.getElem?_setIfInBounds_ne (by omega)]
  have hne0 : ∀ (m : Nat), ((cs.setIfInBounds (o + k * 6 + 4) (.int .i64 u)).setIfInBounds (o + k * 6 + 5) (.int .i64 u))[o + m * 6]? = cs[o + m * 6]? := by
    intro m
    rw [Array.getElem?_setIfInBounds_ne (by omega), Array.getElem?_setIfInBounds_ne (by omega)]
  by_cases hik : i = k
  · subst hik
    rw [List.getElem?_set_self hk] at hx
    cases hx
    obtain ⟨f0, f1, f2, f3, f4, f5⟩ := e5 i l hl
    have hb5 : o + (i * 6 + 5) < cs.size := (Array.getElem?_eq_some_iff.1 f5).1
    refine ⟨by rw [hne0]; exact f0, by rw [hne i 1 (by omega) (by omega)]; exact f1, by rw [hne i 2 (by omega) (by omega)]; exact f2, by rw [hne i 3 (by omega) (by omega)]; exact f3, ?_, ?_⟩
    · rw [Array.getElem?_setIfInBounds_ne (by omega), show o + (i * 6 + 4) = o + i * 6 + 4 from by omega, Array.getElem?_setIfInBounds_self_of_lt (by omega)]
    · rw [show o + (i * 6 + 5) = o + i * 6 + 5 from by omega, Array.getElem?_setIfInBounds_self_of_lt (by simp; omega)]
  · rw [List.getElem?_set_ne (fun e => hik e.symm)] at hx
    obtain ⟨f0, f1, f2, f3, f4, f5⟩ := e5 i x hx
    exact ⟨by rw [hne0]; exact f0, by rw [hne i 1 (by omega) (.inl hik)]; exact f1, by rw [hne i 2 (by omega) (.inl hik)]; exact f2, by rw [hne i 3 (by omega) (.inl hik)]; exact f3, by rw [hne i 4 (by omega) (.inl hik)]; exact f4, by rw [hne i 5 (by omega) (.inl hik)]; exact f5⟩
end Go.Proofs.YtpjcjadcikeibaaGreatDoor
