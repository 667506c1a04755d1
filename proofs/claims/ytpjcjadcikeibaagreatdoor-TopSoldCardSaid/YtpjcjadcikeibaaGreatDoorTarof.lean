import Derived.Test.YtpjcjadcikeibaaGreatDoorMem
namespace Go.Proofs.YtpjcjadcikeibaaGreatDoor
open Go.RowKit
theorem Tryz.info3p : (Tryz.prog.info? 3).map (fun i => (i.zero, i.size, i.bytes)) = some (some (.int .i64 0), 1, 8) := by kernel_rfl
theorem Tryz.info84p : (Tryz.prog.info? 84).map (fun i => (i.zero, i.size, i.bytes)) = some (some (.agg #[.int .i64 0, .slice none 0 0]), 2, 32) := by kernel_rfl

/-- The variable at X: a tariff in the making. -/
def XAt (X : Nat) (u : Int) (fv rv ev : Value) (w : World) : Prop := w.heap[X]? = some (.cells #[.int .i64 u, fv, rv, ev] 27 (0, 0))
/-- A row of ints that grows by one. -/
structure Grow (b X base : Nat) (w : World) (v : Value) (l : List Int) : Prop where
  own : w.ownsRow base 3 1 v l.length (l.map (Value.int .i64))
  ne : b < X ∧ X < base

theorem ub9 {u3 u2 : Int} (h : u3 ∈ ([0, 1, 2, u2] : List Int)) (h1 : 0 ≤ u2) (h2 : u2 ≤ 9) : 0 ≤ u3 ∧ u3 ≤ 9 := by
  simp at h; omega
theorem RatesIn.mono {lo hi lo' hi' : Nat} {w : World} {v : Value} {rs : List (Int × List Int)} (h : RatesIn lo hi w v rs) (h1 : lo' ≤ lo) (h2 : hi ≤ hi') : RatesIn lo' hi' w v rs := by
  obtain ⟨base, cap, rfl, hl, hr⟩ := h
  refine ⟨base, cap, rfl, hl, fun hne => ?_⟩
  obtain ⟨B, o, cs, fr, e1, e2, e3, e4, e5⟩ := hr hne
  refine ⟨B, o, cs, fr, e1, by omega, by omega, e4, fun i hi => ?_⟩
  obtain ⟨d, l, pv, h3, h4, h5, h6⟩ := e5 i hi
  exact ⟨d, l, pv, h3, h4, h5, h6.mono h1 h2⟩
def TR1 (b g X : Nat) (u : Int) (w : World) (i : Value) (wr : World) : Prop :=
  ∃ (k : Nat) (fv : Value) (l : List Int), i = .int .i64 k ∧ (k : Int) ≤ u ∧ l.length = k ∧ (∀ x ∈ l, 0 ≤ x ∧ x ≤ 9) ∧
    wr.heap[X]? = some (.cells #[.int .i64 u, fv, .slice none 0 0, .slice none 0 0] 27 (0, 0)) ∧ wr.ownsRow (X + 1) 3 1 fv k (l.map (Value.int .i64)) ∧ TinAt wr b (g + 2 * k) ∧ w.grownBy wr (some b) ∧ X < wr.heap.size
theorem TR1.step {b g X k gg cap : Nat} {u u3 : Int} {w w5 : World} {fv : Value} {l : List Int} (hk : (k : Int) < u) (hl : l.length = k) (hd : ∀ x ∈ l, 0 ≤ x ∧ x ≤ 9) (hu : 0 ≤ u3 ∧ u3 ≤ 9)
    (hB : w5.heap[X]? = some (.cells #[.int .i64 u, fv, .slice none 0 0, .slice none 0 0] 27 (0, 0))) (hO : w5.ownsRow (X + 1) 3 1 (.slice (some ⟨gg, 0, none⟩) (k + 1) cap) (k + 1) (l.map (Value.int .i64) ++ [.int .i64 u3]))
    (hT : TinAt w5 b (g + 2 * k + 2)) (hG : w.grownBy w5 (some b)) (hX : w.heap.size ≤ X) (hb : b < X) :
    TR1 b g X u w (.int .i64 (k + 1)) (w5.setCell ⟨X, 1, none⟩ (.slice (some ⟨gg, 0, none⟩) (k + 1) cap)) := by
  have hn : gg ≠ X := by have := (hO.lt gg rfl).1; omega
  refine ⟨k + 1, _, l ++ [u3], by simp, by omega, by simp [hl], ?_, by rw [row_setCell hB]; rfl, ?_, ?_, gown hG (grownBy_set _ X 1 _) (by rintro j e; cases e; exact hX), ?_⟩
  · intro x hx
    rcases List.mem_append.1 hx with h | h
    · exact hd x h
    · simp at h; subst h; exact hu
  · have h := hO.kept (grownBy_set w5 X 1 (.slice (some ⟨gg, 0, none⟩) (k + 1) cap)) (.inr (by simp [Value.ownBlock, hn]))
    simpa using h
  · exact (hT.mono (by omega)).set hb
  · simpa [World.setCell] using (Array.getElem?_eq_some_iff.1 hB).1
theorem ub9' {u3 u2 : Int} (h : u3 ∈ ([0, 1, 2, 3, u2] : List Int)) (h1 : 0 ≤ u2) (h2 : u2 ≤ 9) : 0 ≤ u3 ∧ u3 ≤ 9 := by
  simp at h; omega
theorem own_ty {w : World} {base size n : Nat} {e : TypeId} {v : Value} {xs : List Value} (h : w.ownsRow base e size v n xs) (R : Nat) (hR : v.ownBlock = some R) : ∃ cs, w.heap[R]? = some (.cells cs e (0, 0)) := by
  rcases h.2 with ⟨rfl, _⟩ | ⟨g, cap, cur, rfl, _, hg, _⟩
  · cases hR
  · cases hR; exact ⟨cur, hg⟩
theorem own_form {w : World} {base size n : Nat} {e : TypeId} {v : Value} {xs : List Value} (h : w.ownsRow base e size v n xs) : ∃ a m c, v = .slice a m c := by
  rcases h.2 with ⟨rfl, _⟩ | ⟨g, cap, cur, rfl, _⟩ <;> exact ⟨_, _, _, rfl⟩
theorem own_one {w : World} {base k : Nat} {e : TypeId} {v : Value} {xs : List Value} {f : Int} (h : w.ownsRow base e 1 v k xs) : ∀ x ∈ ([.int .i64 f, v] : List Value), x.oneCell' = true := by
  intro x hx
  simp at hx
  rcases hx with rfl | rfl
  · rfl
  · rcases h.2 with ⟨rfl, _⟩ | ⟨g, cap, cur, rfl, _⟩ <;> rfl
abbrev Q3 := Int × Value × List Int
def flatQ (q : List Q3) : List Value := q.flatMap fun t => [.int .i64 t.1, t.2.1]
/-- What holds of the rates that were made. -/
structure QOk (u : Int) (q : List Q3) (fr : Int) : Prop where
  dig : ∀ t ∈ q, 0 ≤ t.1 ∧ t.1 ≤ 4 ∧ (t.2.2.length : Int) = u ∧ ∀ x ∈ t.2.2, 0 ≤ x ∧ x ≤ 9
  inc : ∀ (i j : Nat) (s t : Q3), i < j → q[i]? = some s → q[j]? = some t → s.1 < t.1
  top : ∀ t ∈ q, t.1 < fr
  zero : ∀ t, q[0]? = some t → t.1 = 0
  empty : q = [] → fr = 0
  lo : 0 ≤ fr
  hi : fr ≤ 7
def TR2 (b g X H : Nat) (u U : Int) (fv : Value) (L : List Int) (w : World) (fr i : Value) (wr : World) : Prop :=
  ∃ (f iv : Int) (rv : Value) (q : List Q3), fr = .int .i64 f ∧ i = .int .i64 iv ∧ 0 ≤ iv ∧ (q.length : Int) + iv = U ∧ wr.heap[X]? = some (.cells #[.int .i64 u, fv, rv, .slice none 0 0] 27 (0, 0)) ∧
    wr.ownsRow H 84 2 rv q.length (flatQ q) ∧ (∀ t ∈ q, IntsIn H wr.heap.size wr t.2.1 t.2.2) ∧ QOk u q f ∧ TinAt wr b (g + 10 * q.length) ∧ w.grownBy wr (some b) ∧ H ≤ wr.heap.size ∧ IntsIn (X + 1) H wr fv L
def TR3 (b g R : Nat) (u f : Int) (w0 : World) (i : Value) (wr : World) : Prop :=
  ∃ (k : Nat) (pv : Value) (l : List Int), i = .int .i64 k ∧ (k : Int) ≤ u ∧ l.length = k ∧ (∀ x ∈ l, 0 ≤ x ∧ x ≤ 9) ∧
    wr.heap[R]? = some (.cells #[.int .i64 f, pv] 84 (0, 0)) ∧ wr.ownsRow (R + 1) 3 1 pv k (l.map (Value.int .i64)) ∧ TinAt wr b (g + 2 * k) ∧ w0.grownBy wr (some b) ∧ R < wr.heap.size
theorem QOk.snoc {u f u6 : Int} {q : List Q3} {pv : Value} {l : List Int} (h : QOk u q f) (hf : f < 5) (hl : (l.length : Int) = u) (hd : ∀ x ∈ l, 0 ≤ x ∧ x ≤ 9) (h1 : 1 ≤ u6) (h3 : u6 ≤ 3) : QOk u (q ++ [(f, pv, l)]) (f + u6) := by
  have hlo := h.lo
  refine ⟨?_, ?_, ?_, ?_, by simp, by omega, by omega⟩
  · intro t ht
    rcases List.mem_append.1 ht with ht | ht
    · exact h.dig t ht
    · simp at ht; subst ht; exact ⟨hlo, by simp; omega, hl, hd⟩
  · intro i j s t hij hs ht
    have hj : j < (q ++ [(f, pv, l)]).length := (List.getElem?_eq_some_iff.1 ht).1
    simp at hj
    have hi : i < q.length := by omega
    rw [List.getElem?_append_left hi] at hs
    by_cases hjl : j < q.length
    · rw [List.getElem?_append_left hjl] at ht
      exact h.inc i j s t hij hs ht
    · obtain rfl : j = q.length := by omega
      simp at ht
      subst ht
      exact h.top s (List.mem_of_getElem? hs)
  · intro t ht
    rcases List.mem_append.1 ht with ht | ht
    · have := h.top t ht; omega
    · simp at ht; subst ht; simp; omega
  · intro t ht
    by_cases hq : q = []
    · subst hq; simp at ht; subst ht; exact h.empty rfl
    · rw [List.getElem?_append_left (List.length_pos_iff.2 hq)] at ht
      exact h.zero t ht
theorem TR2.step {b g X H gg cap : Nat} {u U f iv u6 : Int} {w w6 : World} {fv rv pv : Value} {q : List Q3} {l : List Int} (hq : (q.length : Int) + iv = U) (h : QOk u q f) (hf : f < 5) (hl : (l.length : Int) = u)
    (hd : ∀ x ∈ l, 0 ≤ x ∧ x ≤ 9) (h1 : 1 ≤ u6) (h3 : u6 ≤ 3) (hi : 0 < iv) (hB : w6.heap[X]? = some (.cells #[.int .i64 u, fv, rv, .slice none 0 0] 27 (0, 0)))
    (hO : w6.ownsRow H 84 2 (.slice (some ⟨gg, 0, none⟩) (q.length + 1) cap) (q.length + 1) (flatQ q ++ [.int .i64 f, pv])) (hI : ∀ t ∈ q, IntsIn H w6.heap.size w6 t.2.1 t.2.2) (hP : IntsIn H w6.heap.size w6 pv l)
    (hT : TinAt w6 b (g + 10 * q.length + 10)) (hG : w.grownBy w6 (some b)) (hX : w.heap.size ≤ X) (hb : b < X) (hXH : X < H) (hH : H ≤ w6.heap.size) {L : List Int} (hF : IntsIn (X + 1) H w6 fv L) :
    TR2 b g X H u U fv L w (.int .i64 (f + u6)) (.int .i64 (iv - 1)) (w6.setCell ⟨X, 2, none⟩ (.slice (some ⟨gg, 0, none⟩) (q.length + 1) cap)) := by
  have hn : gg ≠ X := by have := (hO.lt gg rfl).1; omega
  have hz : (w6.setCell ⟨X, 2, none⟩ (.slice (some ⟨gg, 0, none⟩) (q.length + 1) cap)).heap.size = w6.heap.size := by simp [World.setCell]
  have hk := grownBy_set w6 X 2 (.slice (some ⟨gg, 0, none⟩) (q.length + 1) cap)
  refine ⟨f + u6, iv - 1, _, q ++ [(f, pv, l)], rfl, rfl, by omega, by simp; omega, by rw [row_setCell hB]; rfl, ?_, ?_, h.snoc hf hl hd h1 h3, ?_, gown hG hk (by rintro j e; cases e; exact hX), by rw [hz]; exact hH, hF.kept hk (by rintro R e; cases e; omega)⟩
  · have h := hO.kept hk (.inr (by simp [Value.ownBlock, hn]))
    simpa [flatQ] using h
  · intro t ht
    rw [hz]
    rcases List.mem_append.1 ht with ht | ht
    · exact (hI t ht).kept hk (by rintro R e; cases e; omega)
    · simp at ht; subst ht; exact hP.kept hk (by rintro R e; cases e; omega)
  · exact (hT.mono (by simp; omega)).set hb
/-- What TariffOf gives. -/
def TarRes (b g : Nat) (w : World) (e : Ending) (w' : World) : Prop := ∃ v T, e = .returned v ∧ T.Valid ∧ TarIn w.heap.size w'.heap.size w' v T ∧ Tn b (g + 100) w w'
theorem valid_of {u f : Int} {q : List Q3} {l el : List Int} {d : Nat} (h : QOk u q f) (hu1 : 1 ≤ u) (hu3 : u ≤ 3) (hl : (l.length : Int) = u) (hd : ∀ x ∈ l, 0 ≤ x ∧ x ≤ 9) (hq1 : 1 ≤ q.length) (hq3 : q.length ≤ 3)
    (he : ∀ (j : Nat) (x : Int), el[j]? = some x → 0 ≤ x ∧ x < d ∧ x ≤ 4 ∧ ∀ (i : Nat) (y : Int), i < j → el[i]? = some y → y < x) (hel : el.length ≤ 5) :
    Tar.Valid ⟨u.toNat, l, q.map fun t => (t.1, t.2.2), el⟩ := by
  refine ⟨by simp; omega, by simp; omega, ⟨by simp; omega, hd⟩, by simpa using hq1, by simpa using hq3, ?_, hel, ?_⟩
  · intro i d' l' hi
    simp only [List.getElem?_map, Option.map_eq_some_iff] at hi
    obtain ⟨t, ht, e⟩ := hi
    cases e
    have h1 := h.dig t (List.mem_of_getElem? ht)
    refine ⟨h1.1, h1.2.1, ⟨by simp; omega, h1.2.2.2⟩, fun hi0 => by subst hi0; exact h.zero t ht, fun j d' l' hj hd' => ?_⟩
    simp only [List.getElem?_map, Option.map_eq_some_iff] at hd'
    obtain ⟨t', ht', e'⟩ := hd'
    cases e'
    exact h.inc j i t' t hj ht' ht
  · intro i x hx
    have h1 := he i x hx
    exact ⟨h1.1, h1.2.2.1, fun j y hj hy => h1.2.2.2 j y hj hy⟩
theorem rates_of {H X hi n cap gg : Nat} {w : World} {q : List Q3} {rv : Value} (h : w.ownsRow H 84 2 rv q.length (flatQ q)) (hq : q.length ≤ 3) (hi' : w.heap.size ≤ hi) (hI : ∀ t ∈ q, IntsIn H hi w t.2.1 t.2.2) : RatesIn H hi w rv (q.map fun t => (t.1, t.2.2)) := by
  obtain ⟨h1, h2⟩ := h
  rcases h2 with ⟨rfl, h0⟩ | ⟨g, cap, cur, rfl, hb, hg, hc, hm, hs, ht⟩
  · exact ⟨none, 0, by simp [h0], by simp [h0], fun hne => absurd (by simp [List.eq_nil_of_length_eq_zero h0]) hne⟩
  · refine ⟨_, cap, by simp, by simp; omega, fun _ => ⟨g, 0, cur, (0, 0), rfl, hb, Nat.lt_of_lt_of_le (Array.getElem?_eq_some_iff.1 hg).1 hi', hg, fun i hi => ?_⟩⟩
    have hiq : i < q.length := by simpa using hi
    have hc : ∀ j, j < 2 → cur[i * 2 + j]? = (flatQ q)[i * 2 + j]? := fun j hj => by
      rw [← ht, List.getElem?_take, if_pos (by omega)]; simp
    have hf : ∀ (q : List Q3) (i : Nat) (t : Q3), q[i]? = some t → (flatQ q)[i * 2]? = some (.int .i64 t.1) ∧ (flatQ q)[i * 2 + 1]? = some t.2.1 := by
      intro q
      induction q with
      | nil => intro i t h; simp at h
      | cons x r ih =>
        intro i t h
        cases i with
        | zero => simp at h; subst h; exact ⟨rfl, rfl⟩
        | succ i =>
          have h' := ih i t (by simpa using h)
          have e : ∀ k, (flatQ (x :: r))[k + 2]? = (flatQ r)[k]? := fun k => rfl
          exact ⟨by rw [show (i + 1) * 2 = i * 2 + 2 by omega, e]; exact h'.1, by rw [show (i + 1) * 2 + 1 = i * 2 + 1 + 2 by omega, e]; exact h'.2⟩
    have ht' : q[i]? = some q[i] := List.getElem?_eq_getElem hiq
    obtain ⟨hx, hy⟩ := hf q i _ ht'
    have hc0 := hc 0 (by omega)
    have hc1 := hc 1 (by omega)
    refine ⟨q[i].1, q[i].2.2, q[i].2.1, by simp [ht'], by rw [Nat.zero_add]; exact hc0.trans hx, by rw [Nat.zero_add]; exact hc1.trans hy, hI _ (List.getElem_mem hiq)⟩
theorem TarRes.fin {b g X H Z d : Nat} {u f : Int} {w wr : World} {l el : List Int} {q : List Q3} {fa ra ea : Option Addr} {fm fc rm rc em ec : Nat} {hz : Array Value} (hq : QOk u q f) (hu1 : 1 ≤ u) (hu3 : u ≤ 3) (hl : (l.length : Int) = u) (hd : ∀ x ∈ l, 0 ≤ x ∧ x ≤ 9) (hq1 : 1 ≤ q.length) (hq3 : q.length ≤ 3)
    (he : ∀ (j : Nat) (x : Int), el[j]? = some x → 0 ≤ x ∧ x < d ∧ x ≤ 4 ∧ ∀ (i : Nat) (y : Int), i < j → el[i]? = some y → y < x) (hel : el.length ≤ 5)
    (hZ : Z = w.heap.size) (hBZ : wr.heap[Z]? = some (.cells hz 27 (0, 0))) (hzs : hz.size = 4) (hF : IntsIn (Z + 1) wr.heap.size wr (.slice fa fm fc) l) (hR : RatesIn (Z + 1) wr.heap.size wr (.slice ra rm rc) (q.map fun t => (t.1, t.2.2))) (hE : IntsIn (Z + 1) wr.heap.size wr (.slice ea em ec) el)
    (hT : TinAt wr b (g + 100)) (hG : w.grownBy wr (some b)) (hb : b < Z) :
    ∃ W, W = ((((wr.setCell ⟨Z, 0, none⟩ (.int .i64 u)).setCell ⟨Z, 1, none⟩ (.slice fa fm fc)).setCell ⟨Z, 2, none⟩ (.slice ra rm rc)).setCell ⟨Z, 3, none⟩ (.slice ea em ec)) ∧
      W.heap[Z]? = some (.cells #[.int .i64 u, .slice fa fm fc, .slice ra rm rc, .slice ea em ec] 27 (0, 0)) ∧ TarRes b g w (.returned (.agg #[.int .i64 u, .slice fa fm fc, .slice ra rm rc, .slice ea em ec])) W := by
  match hz, hzs with
  | ⟨[y0, y1, y2, y3]⟩, _ =>
  have hk := (((grownBy_set wr Z 0 (.int .i64 u)).trans (grownBy_set _ Z 1 (.slice fa fm fc))).trans (grownBy_set _ Z 2 (.slice ra rm rc))).trans (grownBy_set _ Z 3 (.slice ea em ec))
  have hzz : ((((wr.setCell ⟨Z, 0, none⟩ (.int .i64 u)).setCell ⟨Z, 1, none⟩ (.slice fa fm fc)).setCell ⟨Z, 2, none⟩ (.slice ra rm rc)).setCell ⟨Z, 3, none⟩ (.slice ea em ec)).heap.size = wr.heap.size := by simp [World.setCell]
  refine ⟨_, rfl, by rw [row_setCell (row_setCell (row_setCell (row_setCell hBZ)))]; rfl, _, ⟨u.toNat, l, q.map fun t => (t.1, t.2.2), el⟩, rfl, valid_of hq hu1 hu3 hl hd hq1 hq3 he hel, ?_, gown hG hk (by rintro j e; cases e; omega), hT.kept hk (by rintro B e; cases e; exact hb)⟩
  have hrow : ∀ R, some Z = some R → R < Z + 1 ∨ wr.heap.size ≤ R := by rintro R e; cases e; omega
  rw [hzz]
  refine ⟨_, _, _, by rw [Int.toNat_of_nonneg (by omega)], (hF.kept hk hrow).mono (by omega) (Nat.le_refl _), ?_, (hE.kept hk hrow).mono (by omega) (Nat.le_refl _)⟩
  exact (hR.kept hk hrow).mono (by omega) (Nat.le_refl _)
def TR4 (b g X G H : Nat) (u : Int) (fv rv : Value) (L : List Int) (rs : List (Int × List Int)) (w0 : World) (i : Value) (wr : World) : Prop :=
  ∃ (d : Nat) (ev : Value) (el : List Int), i = .int .i64 d ∧ d ≤ 5 ∧ wr.heap[X]? = some (.cells #[.int .i64 u, fv, rv, ev] 27 (0, 0)) ∧ wr.ownsRow G 3 1 ev el.length (el.map (Value.int .i64)) ∧
    (∀ (j : Nat) (x : Int), el[j]? = some x → 0 ≤ x ∧ x < d ∧ x ≤ 4 ∧ ∀ (i : Nat) (y : Int), i < j → el[i]? = some y → y < x) ∧ (el.length ≤ d) ∧ TinAt wr b (g + d) ∧ w0.grownBy wr (some b) ∧
    IntsIn (X + 1) H wr fv L ∧ RatesIn H G wr rv rs ∧ G ≤ wr.heap.size
theorem TR4.no {b g X G H d : Nat} {u : Int} {fv rv ev : Value} {L : List Int} {rs : List (Int × List Int)} {w0 wr w2 : World} {el : List Int} (hd : d < 5) (hB : w2.heap[X]? = some (.cells #[.int .i64 u, fv, rv, ev] 27 (0, 0))) (hO : wr.ownsRow G 3 1 ev el.length (el.map (Value.int .i64)))
    (he : ∀ (j : Nat) (x : Int), el[j]? = some x → 0 ≤ x ∧ x < d ∧ x ≤ 4 ∧ ∀ (i : Nat) (y : Int), i < j → el[i]? = some y → y < x) (hl : el.length ≤ d) (hN : Tn b (g + d + 1) wr w2) (hG : w0.grownBy wr (some b)) (hb : b < X) (hXH : X < H) (hHG : H ≤ G)
    (hF : IntsIn (X + 1) H wr fv L) (hR : RatesIn H G wr rv rs) (hz : G ≤ wr.heap.size) :
    TR4 b g X G H u fv rv L rs w0 (.int .i64 (d + 1)) w2 :=
  ⟨d + 1, ev, el, by simp, by omega, hB, tn_own hN.1 hO (by omega), fun j x hx => by
    have := he j x hx
    exact ⟨this.1, by omega, this.2.2⟩, by omega, hN.2, hG.trans hN.1, hF.kept hN.1 (by rintro R e; cases e; omega), hR.kept hN.1 (by rintro R e; cases e; omega), Nat.le_trans hz hN.1.size⟩
theorem TR4.yes {b g X G H d gg cap : Nat} {u : Int} {fv rv ev : Value} {L : List Int} {rs : List (Int × List Int)} {w0 w5 : World} {el : List Int} (hd : d < 5) (hB : w5.heap[X]? = some (.cells #[.int .i64 u, fv, rv, ev] 27 (0, 0)))
    (hO : w5.ownsRow G 3 1 (.slice (some ⟨gg, 0, none⟩) (el.length + 1) cap) (el.length + 1) (el.map (Value.int .i64) ++ [.int .i64 d]))
    (he : ∀ (j : Nat) (x : Int), el[j]? = some x → 0 ≤ x ∧ x < d ∧ x ≤ 4 ∧ ∀ (i : Nat) (y : Int), i < j → el[i]? = some y → y < x) (hl : el.length ≤ d) (hT : TinAt w5 b (g + d + 1)) (hG : w0.grownBy w5 (some b)) (hX : w0.heap.size ≤ X) (hb : b < X) (hXH : X < H) (hHG : H ≤ G)
    (hF : IntsIn (X + 1) H w5 fv L) (hR : RatesIn H G w5 rv rs) (hz : G ≤ w5.heap.size) :
    TR4 b g X G H u fv rv L rs w0 (.int .i64 (d + 1)) (w5.setCell ⟨X, 3, none⟩ (.slice (some ⟨gg, 0, none⟩) (el.length + 1) cap)) := by
  have hn : gg ≠ X := by have := (hO.lt gg rfl).1; omega
  have hk := grownBy_set w5 X 3 (.slice (some ⟨gg, 0, none⟩) (el.length + 1) cap)
  refine ⟨d + 1, _, el ++ [(d : Int)], by simp, by omega, by rw [row_setCell hB]; rfl, ?_, ?_, by simp; omega, hT.set hb, gown hG hk (by rintro j e; cases e; exact hX), hF.kept hk (by rintro R e; cases e; omega), hR.kept hk (by rintro R e; cases e; omega), by simpa [World.setCell] using hz⟩
  · have h := hO.kept hk (.inr (by simp [Value.ownBlock, hn]))
    simpa using h
  · intro j x hx
    have hj : j < (el ++ [(d : Int)]).length := (List.getElem?_eq_some_iff.1 hx).1
    simp at hj
    by_cases hjl : j < el.length
    · rw [List.getElem?_append_left hjl] at hx
      have := he j x hx
      refine ⟨this.1, by omega, this.2.2.1, fun i y hi hy => ?_⟩
      rw [List.getElem?_append_left (by omega)] at hy
      exact this.2.2.2 i y hi hy
    · obtain rfl : j = el.length := by omega
      simp at hx
      subst hx
      refine ⟨by omega, by omega, by omega, fun i y hi hy => ?_⟩
      rw [List.getElem?_append_left hi] at hy
      have := he i y hy
      omega
theorem TR3.step {b g R k gg cap : Nat} {u f u3 : Int} {w w5 : World} {fv : Value} {l : List Int} (hk : (k : Int) < u) (hl : l.length = k) (hd : ∀ x ∈ l, 0 ≤ x ∧ x ≤ 9) (hu : 0 ≤ u3 ∧ u3 ≤ 9)
    (hB : w5.heap[R]? = some (.cells #[.int .i64 f, fv] 84 (0, 0))) (hO : w5.ownsRow (R + 1) 3 1 (.slice (some ⟨gg, 0, none⟩) (k + 1) cap) (k + 1) (l.map (Value.int .i64) ++ [.int .i64 u3]))
    (hT : TinAt w5 b (g + 2 * k + 2)) (hG : w.grownBy w5 (some b)) (hX : w.heap.size ≤ R) (hb : b < R) :
    TR3 b g R u f w (.int .i64 (k + 1)) (w5.setCell ⟨R, 1, none⟩ (.slice (some ⟨gg, 0, none⟩) (k + 1) cap)) := by
  have hn : gg ≠ R := by have := (hO.lt gg rfl).1; omega
  refine ⟨k + 1, _, l ++ [u3], by simp, by omega, by simp [hl], ?_, by rw [row_setCell hB]; rfl, ?_, ?_, gown hG (grownBy_set _ R 1 _) (by rintro j e; cases e; exact hX), ?_⟩
  · intro x hx
    rcases List.mem_append.1 hx with h | h
    · exact hd x h
    · simp at h; subst h; exact hu
  · have h := hO.kept (grownBy_set w5 R 1 (.slice (some ⟨gg, 0, none⟩) (k + 1) cap)) (.inr (by simp [Value.ownBlock, hn]))
    simpa using h
  · exact (hT.mono (by omega)).set hb
  · simpa [World.setCell] using (Array.getElem?_eq_some_iff.1 hB).1
set_option maxRecDepth 100000 in
set_option maxHeartbeats 1600000 in
theorem tariff_any (b g : Nat) (w : World) (ht : TinAt w b g) (hg : g < 1000000) :
    Calls Tryz.prog 13 #[.pointer (some ⟨b, 0, none⟩)] w fun e w' => TarRes b g w e w' := by
  obtain ⟨i0, hi0, hz0, hz1, hz2⟩ := info_parts Tryz.info3p
  obtain ⟨i1, hj0, hy0, hy1, hy2⟩ := info_parts Tryz.info84p
  have HT := Lib.hid ht
  clear ht
  go_enter Tryz.func13, Tryz.ntmps13
  go_wp2_with (first | (go_at_call 27; go_must (refine (within_any b g _ _ _ (by exact HT.out.alloc _) (by omega) (by omega) (by omega) (by omega) (by omega) (by omega)).mono ?_); rintro e w1 ⟨u, ⟨hu1, hu2⟩, rfl, HN, HS⟩; have HN'0 := Lib.hid HN; have HS'0 := Lib.hid HS; clear HN HS))
  · have hu3 : u ≤ 3 := by omega
    obtain ⟨wz, hwz⟩ : ∃ wz, wz = w.alloc (.cells #[.int .i64 0, .slice none 0 0, .slice none 0 0, .slice none 0 0] 27) := ⟨_, rfl⟩
    rw [← hwz] at HN'0 HS'0
    have hwzs : wz.heap.size = w.heap.size + 1 := by rw [hwz]; simp
    have hwz1 : w.heap.size < wz.heap.size := by omega
    have hWZ := Lib.hid hwz
    have hWS := Lib.hid hwzs
    clear hwz hwzs
    obtain ⟨X, hX⟩ : ∃ X, X = w1.heap.size := ⟨_, rfl⟩
    rw [← hX]
    have HX := Lib.hid hX
    clear hX
    go_loopw [4] (TR1 b (g + 1) X u wz) (fun i _ => (u - intOf i).toNat)
    case atStart =>
      refine ⟨0, .slice none 0 0, [], rfl, by omega, rfl, by simp, ?_, World.ownsRow_nil _ _ _ _, ?_, ?_, by simp; have := HX.out; omega⟩
      · rw [HX.out]; exact heap_alloc_new w1 _
      · exact HN'0.out.2.alloc _
      · exact HN'0.out.1.trans (World.grownBy_alloc w1 _ _)
    case round =>
      obtain ⟨k, fv, l, rfl, h1, h2, h3, h4, h5, h6, h7, h8⟩ := hrel
      have c0 : wr.cell? ⟨X, 0, none⟩ = some (.int .i64 u) := by simp [World.cell?, h4]
      have c1 : wr.cell? ⟨X, 1, none⟩ = some fv := by simp [World.cell?, h4]
      have H4 := Lib.hid h4
      have H5 := Lib.hid h5
      have H6 := Lib.hid h6
      have H7 := Lib.hid h7
      have H2 := Lib.hid h2
      have H3 := Lib.hid h3
      clear h4 h5 h6 h7 h2 h3
      by_cases hlt : (k : Int) < u
      · go_wp2
        have hbX : b < X := by have h0 := HX.out; have h1 := HT.out.lt; have h2 := HS'0.out; have h3 := hWS.out; omega
        have hbX' : b < X + 1 := by omega
        have hfX : some X ≠ fv.ownBlock := fun e => by have := (H5.out.lt X e.symm).1; omega
        have fX : wr.frozen? ⟨X, 1, none⟩ = false := by simp [World.frozen?, H4.out]
        go_region_law
          (first
            | (go_simp; go_at_call 6; refine (upto_any b (g + 1 + 2 * k) _ _ (by exact H6.out) (by omega) (by omega)).mono ?_; rintro e w2 ⟨u2, ⟨hv1, hv2⟩, rfl, HN, HS⟩; have hs2 : wr.heap.size ≤ w2.heap.size := HN.1.size; have hx2 : X < w2.heap.size := (by omega); have cx2 : w2.cell? ⟨X, 1, none⟩ = some fv := (by simp [World.cell?, blk HN.1 (by simp; omega) H4.out]); have HN' := Lib.hid HN; have HS' := Lib.hid HS; clear HN HS)
            | (go_simp; go_at_call 14; refine (either_any b (g + 1 + 2 * k + 1) _ [0, 1, 2, u2] _ (by exact HN'.out.2.alloc _) (by omega) (by exact Ints.laid _ [0, 1, 2, u2] 4 rfl (by have := HN'.out.2.lt; omega) (by simp)) (by simp) (by simp)).mono ?_; rintro e w3 ⟨u3, hm3, rfl, HM, HS3⟩; have hs3 := HM.1.size; have hx3 : X < w3.heap.size := (by simp at hs3; omega); have cx3 : w3.cell? ⟨X, 1, none⟩ = some fv := (by simp [World.cell?, blk HM.1 (by simp; omega) (blk_alloc (blk HN'.out.1 (by simp; omega) H4.out))]); have HM' := Lib.hid HM; have HS3' := Lib.hid HS3; have Hm3 := Lib.hid hm3; clear HM HS3 hm3)
            | (refine step_append_lies _ (by rfl) _ _ _ (by rfl) (X + 1) 3 i0 _ 1 8 Tryz.underlying22 hi0 hz0 hz1 hz2 rfl (by omega) fv k (l.map (Value.int .i64)) (by rfl) (by exact (tn_own HM'.out.1 ((tn_own HN'.out.1 H5.out hbX').alloc _) hbX').alloc _) ⟨w3.heap.size, 0, none⟩ 1 1 [.int .i64 u3] (by rfl) (by rfl) (World.news_of_block (cs := #[.int .i64 u3]) (t := 3) (fr := (0, 0)) (heap_alloc_new w3 _)) (by simp [Value.oneCell']) (by omega) (by unfold maxLen; omega) (by omega) (by simp at hs3 ⊢; omega) (w3.heap.size + 1) (by simp) ?_; intro gg cap w5 hown1 hgrow hat hgl; have B5 := blk hgrow hfX (blk_alloc (blk HM'.out.1 (by simp; omega) (blk_alloc (blk HN'.out.1 (by simp; omega) H4.out)))); have cx5 : w5.cell? ⟨X, 1, none⟩ = some fv := (by simp [World.cell?, B5]); have c5 : w5.frozen? ⟨X, 1, none⟩ = false := (by simp [World.frozen?, B5]); have HB5 := Lib.hid B5; have HG := Lib.hid hgrow; have HO := Lib.hid hown1; clear B5 hown1))
        all_goals
          have hwX : wz.heap.size ≤ X := by have h0 := HX.out; have h2 := HS'0.out; omega
          have hgG := gown ((((((H7.out.trans (grownBy_drew _ _)).trans HN'.out.1).trans (World.grownBy_alloc w2 _ _)).trans HM'.out.1).trans (World.grownBy_alloc w3 _ _))) HG.out (fun j e => by have := (H5.out.lt j e).1; omega)
          have HT5 : TinAt w5 b (g + 1 + 2 * k + 2) := ((HM'.out.2.alloc _).kept HG.out (fun j e => by have := (H5.out.lt j e).1; omega))
          have FIN := TR1.step (g := g + 1) (w := wz) hlt H2.out H3.out (ub9 Hm3.out hv1 (by omega)) HB5.out HO.out HT5 hgG hwX hbX
          have FF := Lib.hid FIN
          clear FIN hgG HT5
          go_wp2
          go_roundw
          case rel => exact FF.out
          case measure => simp [intOf]; omega
      · have hge : u ≤ (k : Int) := by omega
        obtain ⟨H, hH⟩ : ∃ H, H = wr.heap.size := ⟨_, rfl⟩
        have HH := Lib.hid hH
        clear hH
        go_wp2_with (first | (go_at_call 27; go_must (refine (within_any b (g + 10) _ _ _ (by exact H6.out.mono (by omega)) (by omega) (by omega) (by omega) (by omega) (by omega) (by omega)).mono ?_); rintro e wa ⟨U, ⟨hU1, hU2⟩, rfl, HN, HS⟩; have HNa := Lib.hid HN; have HSa := Lib.hid HS; clear HN HS))
        have hHw : H = wr.heap.size := HH.out
        have hbw : b < w.heap.size := HT.out.lt
        have hwX : wz.heap.size ≤ X := by have h0 := HX.out; have h2 := HS'0.out; have h3 := hWS.out; omega
        have hXH : X < H := by omega
        clear hHw
        go_loopw [5, 6] (TR2 b (g + 11) X H u U fv l wz) (fun _ i _ => (intOf i).toNat)
        case atStart =>
          refine ⟨0, U, .slice none 0 0, [], rfl, rfl, by omega, by simp, blk HNa.out.1 (by simp; omega) H4.out, World.ownsRow_nil _ _ _ _, by simp, ⟨by simp, by simp, by simp, by simp, by simp, by omega, by omega⟩, HNa.out.2, H7.out.trans HNa.out.1, by rw [HH.out]; exact HNa.out.1.size, by rw [HH.out]; exact (IntsIn.own H5.out (by have := H2.out; omega)).kept HNa.out.1 (by rintro R e; cases e; omega)⟩
        case round =>
          obtain ⟨wq, rfl⟩ : ∃ wq : World, wq = wr := ⟨_, rfl⟩
          obtain ⟨f, iv, rv, q, rfl, rfl, j1, j2, j3, j4, j5, j6, j7, j8, j9, j10⟩ := hrel
          have hq3 : q.length ≤ 3 := by omega
          have hiv3 : iv ≤ 3 := by omega
          have J3 := Lib.hid j3
          have J4 := Lib.hid j4
          have J5 := Lib.hid j5
          have J6 := Lib.hid j6
          have J7 := Lib.hid j7
          have J8 := Lib.hid j8
          have J2 := Lib.hid j2
          have J10 := Lib.hid j10
          clear j3 j4 j5 j6 j7 j8 j2 j10
          by_cases hi : 0 < iv
          · by_cases hf : f < 5
            · go_wp2
              obtain ⟨R, hR⟩ : ∃ R, R = wq.heap.size := ⟨_, rfl⟩
              obtain ⟨wo, hwo⟩ : ∃ wo, wo = wq.alloc (.cells #[.int .i64 f, .slice none 0 0] 84) := ⟨_, rfl⟩
              rw [← hR, ← hwo]
              have hHR : H ≤ R := by omega
              have BX0 : wo.heap[X]? = some (.cells #[.int .i64 u, fv, rv, .slice none 0 0] 27 (0, 0)) := by rw [hwo]; exact blk_alloc J3.out
              have BR0 : wo.heap[R]? = some (.cells #[.int .i64 f, .slice none 0 0] 84 (0, 0)) := by rw [hwo, hR]; exact heap_alloc_new wq _
              have T0 : TinAt wo b (g + 11 + 10 * q.length) := by rw [hwo]; exact J7.out.alloc _
              have hRo : wo.heap.size = R + 1 := by rw [hwo, hR]; simp
              have hqo : wq.grownBy wo (some b) := by rw [hwo]; exact World.grownBy_alloc _ _ _
              have HQO := Lib.hid hqo
              have HR := Lib.hid hR
              have HWO := Lib.hid hwo
              have HBX0 := Lib.hid BX0
              have HBR0 := Lib.hid BR0
              have HT0 := Lib.hid T0
              have HRo := Lib.hid hRo
              clear hqo hR hwo BX0 BR0 T0 hRo
              go_loopw [8] (TR3 b (g + 11 + 10 * q.length) R u f wq) (fun i _ => (u - intOf i).toNat)
              case atStart =>
                exact ⟨0, _, [], rfl, by omega, rfl, by simp, HBR0.out, World.ownsRow_nil _ _ _ _, HT0.out, HQO.out, by have := HRo.out; omega⟩
              case round =>
                obtain ⟨k2, pv, l2, rfl, m1, m2, m3, m4, m5, m6, m7, m8⟩ := hrel
                have BX := blk m7 (by simp; omega) J3.out
                have c0 : wr.cell? ⟨X, 0, none⟩ = some (.int .i64 u) := by simp [World.cell?, BX]
                have c1 : wr.cell? ⟨R, 1, none⟩ = some pv := by simp [World.cell?, m4]
                have HBX := Lib.hid BX
                have M4 := Lib.hid m4
                have M5 := Lib.hid m5
                have M6 := Lib.hid m6
                have M7 := Lib.hid m7
                have M2 := Lib.hid m2
                have M3 := Lib.hid m3
                clear m4 m5 m6 m7 m2 m3 BX
                by_cases hlt2 : (k2 : Int) < u
                · go_wp2
                  have hbR : b < R := by omega
                  have hbR' : b < R + 1 := by omega
                  have hfR : some R ≠ pv.ownBlock := fun e => by have := (M5.out.lt R e.symm).1; omega
                  have fR : wr.frozen? ⟨R, 1, none⟩ = false := by simp [World.frozen?, M4.out]
                  go_region_law
                    (first
                      | (go_simp; go_at_call 6; refine (upto_any b (g + 11 + 10 * q.length + 2 * k2) _ _ (by exact M6.out) (by omega) (by omega)).mono ?_; rintro e w2 ⟨u2, ⟨hv1, hv2⟩, rfl, HN, HS⟩; have hs2 : wr.heap.size ≤ w2.heap.size := HN.1.size; have hx2 : R < w2.heap.size := (by omega); have cx2 : w2.cell? ⟨R, 1, none⟩ = some pv := (by simp [World.cell?, blk HN.1 (by simp; omega) M4.out]); have HN' := Lib.hid HN; have HS' := Lib.hid HS; clear HN HS)
                      | (go_simp; go_at_call 14; refine (either_any b (g + 11 + 10 * q.length + 2 * k2 + 1) _ [0, 1, 2, 3, u2] _ (by exact HN'.out.2.alloc _) (by omega) (by exact Ints.laid _ [0, 1, 2, 3, u2] 5 rfl (by have := HN'.out.2.lt; omega) (by simp)) (by simp) (by simp)).mono ?_; rintro e w3 ⟨u3, hm3, rfl, HM, HS3⟩; have hs3 := HM.1.size; have hx3 : R < w3.heap.size := (by simp at hs3; omega); have cx3 : w3.cell? ⟨R, 1, none⟩ = some pv := (by simp [World.cell?, blk HM.1 (by simp; omega) (blk_alloc (blk HN'.out.1 (by simp; omega) M4.out))]); have HM' := Lib.hid HM; have HS3' := Lib.hid HS3; have Hm3 := Lib.hid hm3; clear HM HS3 hm3)
                      | (refine step_append_lies _ (by rfl) _ _ _ (by rfl) (R + 1) 3 i0 _ 1 8 Tryz.underlying22 hi0 hz0 hz1 hz2 rfl (by omega) pv k2 (l2.map (Value.int .i64)) (by rfl) (by exact (tn_own HM'.out.1 ((tn_own HN'.out.1 M5.out hbR').alloc _) hbR').alloc _) ⟨w3.heap.size, 0, none⟩ 1 1 [.int .i64 u3] (by rfl) (by rfl) (World.news_of_block (cs := #[.int .i64 u3]) (t := 3) (fr := (0, 0)) (heap_alloc_new w3 _)) (by simp [Value.oneCell']) (by omega) (by unfold maxLen; omega) (by omega) (by simp at hs3 ⊢; omega) (w3.heap.size + 1) (by simp) ?_; intro gg cap w5 hown1 hgrow hat hgl; have B5 := blk hgrow hfR (blk_alloc (blk HM'.out.1 (by simp; omega) (blk_alloc (blk HN'.out.1 (by simp; omega) M4.out)))); have cx5 : w5.cell? ⟨R, 1, none⟩ = some pv := (by simp [World.cell?, B5]); have c5 : w5.frozen? ⟨R, 1, none⟩ = false := (by simp [World.frozen?, B5]); have HB5 := Lib.hid B5; have HG := Lib.hid hgrow; have HO := Lib.hid hown1; clear B5 hown1))
                  all_goals
                    have hgG := gown ((((((M7.out.trans (grownBy_drew _ _)).trans HN'.out.1).trans (World.grownBy_alloc w2 _ _)).trans HM'.out.1).trans (World.grownBy_alloc w3 _ _))) HG.out (fun j e => by have := (M5.out.lt j e).1; have := HR.out; omega)
                    have HT5 : TinAt w5 b (g + 11 + 10 * q.length + 2 * k2 + 2) := ((HM'.out.2.alloc _).kept HG.out (fun j e => by have := (M5.out.lt j e).1; omega))
                    have FIN := TR3.step (g := g + 11 + 10 * q.length) (w := wq) hlt2 M2.out M3.out (ub9' Hm3.out hv1 (by omega)) HB5.out HO.out HT5 hgG (by have := HR.out; omega) hbR
                    have FF := Lib.hid FIN
                    clear FIN hgG HT5
                    go_wp2
                    go_roundw
                    case rel => exact FF.out
                    case measure => simp [intOf]; omega
                · have hge2 : u ≤ (k2 : Int) := by omega
                  have cX2 : wr.cell? ⟨X, 2, none⟩ = some rv := by simp [World.cell?, HBX.out]
                  have cR0 : wr.cell? ⟨R, 0, none⟩ = some (.int .i64 f) := by simp [World.cell?, M4.out]
                  have hrvR : rv.ownBlock ≠ some R := fun e => by have := (J4.out.lt R e).2; have := HR.out; omega
                  have hrvX : rv.ownBlock ≠ some X := fun e => by have := (J4.out.lt X e).1; omega
                  have hrvb : rv.ownBlock ≠ some b := fun e => by have := (J4.out.lt b e).1; omega
                  have OWN : wr.ownsRow H 84 2 rv q.length (flatQ q) := J4.out.kept M7.out (.inr hrvb)
                  have HOWN := Lib.hid OWN
                  clear OWN
                  have hf0 : 0 ≤ f := J6.out.lo
                  go_wp2_with (first
                    | (at_builtin; go_must (refine wpList_append_lies _ (by rfl) _ _ _ (by rfl) H 84 i1 _ 2 32 Tryz.underlying25 hj0 hy0 hy1 hy2 rfl (by omega) rv q.length (flatQ q) (by rfl) (by exact HOWN.out.alloc _) ⟨wr.heap.size, 0, none⟩ 1 1 [.int .i64 f, pv] (by rfl) (by rfl) (World.news_of_block (cs := #[.int .i64 f, pv]) (t := 84) (fr := (0, 0)) (heap_alloc_new wr _)) (own_one M5.out) (by omega) (by unfold maxLen; omega) (by omega) (by simp; omega) (wr.heap.size + 1) (by simp) ?_); intro gg cap w5 hown1 hgrow hat hgl; have HG := Lib.hid hgrow; have HO := Lib.hid hown1; have HAT := Lib.hid hat; clear hgrow hown1 hat)
                    | (go_at_call 27; go_must (refine (within_any b (g + 11 + 10 * q.length + 6) _ _ _ (by exact ((M6.out.alloc _).kept HG.out (fun j e => by have := (J4.out.lt j e).1; omega)).mono (by omega)) (by omega) (by omega) (by omega) (by omega) (by omega) (by omega)).mono ?_); rintro e w6 ⟨u6, ⟨hU6, hU6'⟩, rfl, HN, HS⟩; have B6 := blk HN.1 (by simp; omega) (blk HG.out (fun e => hrvX e.symm) (blk_alloc HBX.out)); have hu63 : u6 ≤ 3 := (by omega); have c6 : w6.cell? ⟨X, 2, none⟩ = some rv := (by simp [World.cell?, B6]); have f6 : w6.frozen? ⟨X, 2, none⟩ = false := (by simp [World.frozen?, B6]); have HB6 := Lib.hid B6; have HN6 := Lib.hid HN; have HS6 := Lib.hid HS; clear HN HS B6))
                  go_roundw
                  case rel => 
                    have hgr : ∀ R', rv.ownBlock = some R' → ∃ cs ty fr, wr.heap[R']? = some (.cells cs ty fr) ∧ ty ≠ 3 := fun R' e => (own_ty HOWN.out R' e).imp fun cs h => ⟨84, (0, 0), h, by decide⟩
                    have hgr' : ∀ R', rv.ownBlock = some R' → ∃ cs ty fr, (wr.alloc (.cells #[.int .i64 f, pv] 84)).heap[R']? = some (.cells cs ty fr) ∧ ty ≠ 3 := fun R' e => by
                      obtain ⟨cs, ty, fr, h1, h2⟩ := hgr R' e
                      exact ⟨cs, ty, fr, blk_alloc h1, h2⟩
                    have keep6 : ∀ {pv' : Value} {l' : List Int} {hi' : Nat}, hi' ≤ wr.heap.size → IntsIn H hi' wr pv' l' → IntsIn H w6.heap.size w6 pv' l' := fun hle h =>
                      (((h.alloc _).kept_ty HG.out hgr').kept HN6.out.1 (by rintro R' e; cases e; omega)).mono (Nat.le_refl _) (by have h1 := HG.out.size; have h2 := HN6.out.1.size; simp at h1; omega)
                    exact TR2.step (q := q) (l := l2) (pv := pv) J2.out J6.out hf (by have := M2.out; omega) M3.out hU6 hu63 hi HB6.out (tn_own HN6.out.1 HO.out (by omega))
                      (fun t ht => keep6 (by have := M7.out.size; exact this) ((J5.out t ht).kept M7.out (by rintro R' e; cases e; omega)))
                      (keep6 (Nat.le_refl _) ((IntsIn.own M5.out (by have := M2.out; omega)).mono (by omega) (Nat.le_refl _)))
                      (HN6.out.2.mono (by omega)) ((gown (((J8.out.trans M7.out).trans (World.grownBy_alloc _ _ _))) HG.out (fun j e => by have := (J4.out.lt j e).1; omega)).trans HN6.out.1) hwX (by omega) hXH (by have h1 := HG.out.size; have h2 := HN6.out.1.size; simp at h1; omega) ((((J10.out.kept M7.out (by rintro R' e; cases e; omega)).alloc _).kept HG.out (fun R' e => by have := (J4.out.lt R' e).1; omega)).kept HN6.out.1 (by rintro R' e; cases e; omega))
                  case measure => simp [intOf]; omega
            · have hf' : 5 ≤ f := by omega
              have hq1 : 1 ≤ q.length := by
                rcases Nat.eq_zero_or_pos q.length with h0 | h0
                · have := J6.out.empty (List.eq_nil_of_length_eq_zero h0); omega
                · exact h0
              obtain ⟨G, hG⟩ : ∃ G, G = wq.heap.size := ⟨_, rfl⟩
              have HG := Lib.hid hG
              have hHG : H ≤ G := by omega
              clear hG
              go_wp2
              go_loopw [9] (TR4 b (g + 11 + 10 * q.length) X G H u fv rv l (q.map fun t => (t.1, t.2.2)) wz) (fun i _ => (5 - intOf i).toNat)
              case atStart =>
                exact ⟨0, .slice none 0 0, [], rfl, by omega, J3.out, World.ownsRow_nil _ _ _ _, by simp, by simp, J7.out, J8.out, J10.out, by rw [HG.out]; exact rates_of (n := 0) (cap := 0) (gg := 0) (X := 0) J4.out hq3 (Nat.le_refl _) J5.out, by have := HG.out; omega⟩
              case round =>
                obtain ⟨d, ev, el, rfl, m1, m2, m3, m4, m5, m6, m7, m8, m9, m10⟩ := hrel
                have M2 := Lib.hid m2
                have M3 := Lib.hid m3
                have M4 := Lib.hid m4
                have M6 := Lib.hid m6
                have M7 := Lib.hid m7
                have M8 := Lib.hid m8
                have M9 := Lib.hid m9
                clear m2 m3 m4 m6 m7 m8 m9
                by_cases hd5 : d < 5
                · go_wp2_with (first
                    | (go_at_call 28; go_must (refine (rarely_any b (g + 11 + 10 * q.length + d) _ _ (by exact M6.out) (by omega) (by omega) (by omega)).mono ?_); rintro e w2 ⟨⟨t, rfl⟩, HN, HS⟩; have B2 := blk HN.1 (by simp; omega) M2.out; have c2 : w2.cell? ⟨X, 3, none⟩ = some ev := (by simp [World.cell?, B2]); have hs2 : wr.heap.size ≤ w2.heap.size := HN.1.size; have HB2 := Lib.hid B2; have HN2 := Lib.hid HN; clear HN HS B2; cases t)
                    | (at_builtin; go_must (refine wpList_append_lies _ (by rfl) _ _ _ (by rfl) G 3 i0 _ 1 8 Tryz.underlying22 hi0 hz0 hz1 hz2 rfl (by omega) ev el.length (el.map (Value.int .i64)) (by rfl) (by exact (tn_own HN2.out.1 M3.out (by omega)).alloc _) ⟨w2.heap.size, 0, none⟩ 1 1 [.int .i64 d] (by rfl) (by rfl) (World.news_of_block (cs := #[.int .i64 d]) (t := 3) (fr := (0, 0)) (heap_alloc_new w2 _)) (by simp [Value.oneCell']) (by omega) (by unfold maxLen; omega) (by omega) (by simp; omega) (w2.heap.size + 1) (by simp) ?_); intro gg cap w5 hown1 hgrow hat hgl; have hfX : some X ≠ ev.ownBlock := (fun e => by have := (M3.out.lt X e.symm).1; omega); have B5 := blk hgrow hfX (blk_alloc HB2.out); have c5 : w5.cell? ⟨X, 3, none⟩ = some ev := (by simp [World.cell?, B5]); have f5 : w5.frozen? ⟨X, 3, none⟩ = false := (by simp [World.frozen?, B5]); have HB5 := Lib.hid B5; have HGR := Lib.hid hgrow; have HO := Lib.hid hown1; clear hgrow hown1 B5))
                  · go_roundw
                    case rel => exact TR4.no hd5 HB2.out M3.out M4.out m5 HN2.out M7.out (by omega) hXH hHG M8.out M9.out m10
                    case measure => simp [intOf]; omega
                  · go_roundw
                    case rel =>
                      have hgr : ∀ R', ev.ownBlock = some R' → G ≤ R' := fun R' e => (M3.out.lt R' e).1
                      exact TR4.yes hd5 HB5.out HO.out M4.out m5 ((HN2.out.2.alloc _).kept HGR.out (fun j e => by have := hgr j e; omega)) (gown ((M7.out.trans HN2.out.1).trans (World.grownBy_alloc _ _ _)) HGR.out (fun j e => by have := hgr j e; omega)) hwX (by omega) hXH hHG
                        (((M8.out.kept HN2.out.1 (by rintro R e; cases e; omega)).alloc _).kept HGR.out (fun R e => by have := hgr R e; omega)) (((M9.out.kept HN2.out.1 (by rintro R e; cases e; omega)).kept (World.grownBy_alloc _ _ none) (by simp)).kept HGR.out (fun R e => by have := hgr R e; omega)) (by have h1 := HGR.out.size; simp at h1; omega)
                    case measure => simp [intOf]; omega
                · have hd5' : 5 ≤ d := by omega
                  have d5 : d = 5 := by omega
                  have D5 := Lib.hid d5
                  clear d5
                  have BZ : wr.heap[w.heap.size]? = some (.cells #[.int .i64 0, .slice none 0 0, .slice none 0 0, .slice none 0 0] 27 (0, 0)) := blk M7.out (by simp; omega) (by rw [hWZ.out]; exact heap_alloc_new w _)
                  have x0 : wr.cell? ⟨X, 0, none⟩ = some (.int .i64 u) := by simp [World.cell?, M2.out]
                  have x1 : wr.cell? ⟨X, 1, none⟩ = some fv := by simp [World.cell?, M2.out]
                  have x2 : wr.cell? ⟨X, 2, none⟩ = some rv := by simp [World.cell?, M2.out]
                  have x3 : wr.cell? ⟨X, 3, none⟩ = some ev := by simp [World.cell?, M2.out]
                  have z0 : wr.cell? ⟨w.heap.size, 0, none⟩ = some (.int .i64 0) := by simp [World.cell?, BZ]
                  have z1 : wr.cell? ⟨w.heap.size, 1, none⟩ = some (.slice none 0 0) := by simp [World.cell?, BZ]
                  have z2 : wr.cell? ⟨w.heap.size, 2, none⟩ = some (.slice none 0 0) := by simp [World.cell?, BZ]
                  have z3 : wr.cell? ⟨w.heap.size, 3, none⟩ = some (.slice none 0 0) := by simp [World.cell?, BZ]
                  have fz : ∀ o, wr.frozen? ⟨w.heap.size, o, none⟩ = false := fun o => by simp [World.frozen?, BZ]
                  have HBZ := Lib.hid BZ
                  clear BZ
                  obtain ⟨fa, fm, fcap, rfl⟩ := own_form H5.out
                  obtain ⟨ra, rm, rcap, rfl⟩ := own_form J4.out
                  obtain ⟨ea, em, ecap, rfl⟩ := own_form M3.out
                  obtain ⟨W, hW, BW, hRES⟩ := TarRes.fin (b := b) (g := g) (w := w) (wr := wr) (X := X) (H := H) (hz := #[.int .i64 0, .slice none 0 0, .slice none 0 0, .slice none 0 0]) J6.out hu1 hu3 (by have := H2.out; omega) H3.out hq1 hq3 M4.out (by omega) rfl HBZ.out rfl
                    (M8.out.mono (by omega) (by omega))
                    (M9.out.mono (by omega) m10)
                    ((IntsIn.own M3.out (by omega)).mono (by omega) (Nat.le_refl _)) (M6.out.mono (by omega))
                    (by have h0 := World.grownBy_alloc w (.cells #[.int .i64 0, .slice none 0 0, .slice none 0 0, .slice none 0 0] 27) (some b); rw [← hWZ.out] at h0; exact h0.trans M7.out) hbw
                  have HRES := Lib.hid hRES
                  have HBW := Lib.hid BW
                  have HW := Lib.hid hW
                  clear hRES BW hW
                  go_wp2
                  rw [← HW.out]
                  refine bodyPost_ret (v := .agg #[.int .i64 u, .slice fa fm fcap, .slice ra rm rcap, .slice ea em ecap]) (by simp [results, Tryz.results13, go_sem, World.cell?, HBW.out]) rfl ?_
                  exact HRES.out
          · have hi' : iv ≤ 0 := by omega
            have hq1 : 1 ≤ q.length := by have := J2.out; omega
            obtain ⟨G, hG⟩ : ∃ G, G = wq.heap.size := ⟨_, rfl⟩
            have HG := Lib.hid hG
            have hHG : H ≤ G := by omega
            clear hG
            go_wp2
            go_loopw [9] (TR4 b (g + 11 + 10 * q.length) X G H u fv rv l (q.map fun t => (t.1, t.2.2)) wz) (fun i _ => (5 - intOf i).toNat)
            case atStart =>
              exact ⟨0, .slice none 0 0, [], rfl, by omega, J3.out, World.ownsRow_nil _ _ _ _, by simp, by simp, J7.out, J8.out, J10.out, by rw [HG.out]; exact rates_of (n := 0) (cap := 0) (gg := 0) (X := 0) J4.out hq3 (Nat.le_refl _) J5.out, by have := HG.out; omega⟩
            case round =>
              obtain ⟨d, ev, el, rfl, m1, m2, m3, m4, m5, m6, m7, m8, m9, m10⟩ := hrel
              have M2 := Lib.hid m2
              have M3 := Lib.hid m3
              have M4 := Lib.hid m4
              have M6 := Lib.hid m6
              have M7 := Lib.hid m7
              have M8 := Lib.hid m8
              have M9 := Lib.hid m9
              clear m2 m3 m4 m6 m7 m8 m9
              by_cases hd5 : d < 5
              · go_wp2_with (first
                  | (go_at_call 28; go_must (refine (rarely_any b (g + 11 + 10 * q.length + d) _ _ (by exact M6.out) (by omega) (by omega) (by omega)).mono ?_); rintro e w2 ⟨⟨t, rfl⟩, HN, HS⟩; have B2 := blk HN.1 (by simp; omega) M2.out; have c2 : w2.cell? ⟨X, 3, none⟩ = some ev := (by simp [World.cell?, B2]); have hs2 : wr.heap.size ≤ w2.heap.size := HN.1.size; have HB2 := Lib.hid B2; have HN2 := Lib.hid HN; clear HN HS B2; cases t)
                  | (at_builtin; go_must (refine wpList_append_lies _ (by rfl) _ _ _ (by rfl) G 3 i0 _ 1 8 Tryz.underlying22 hi0 hz0 hz1 hz2 rfl (by omega) ev el.length (el.map (Value.int .i64)) (by rfl) (by exact (tn_own HN2.out.1 M3.out (by omega)).alloc _) ⟨w2.heap.size, 0, none⟩ 1 1 [.int .i64 d] (by rfl) (by rfl) (World.news_of_block (cs := #[.int .i64 d]) (t := 3) (fr := (0, 0)) (heap_alloc_new w2 _)) (by simp [Value.oneCell']) (by omega) (by unfold maxLen; omega) (by omega) (by simp; omega) (w2.heap.size + 1) (by simp) ?_); intro gg cap w5 hown1 hgrow hat hgl; have hfX : some X ≠ ev.ownBlock := (fun e => by have := (M3.out.lt X e.symm).1; omega); have B5 := blk hgrow hfX (blk_alloc HB2.out); have c5 : w5.cell? ⟨X, 3, none⟩ = some ev := (by simp [World.cell?, B5]); have f5 : w5.frozen? ⟨X, 3, none⟩ = false := (by simp [World.frozen?, B5]); have HB5 := Lib.hid B5; have HGR := Lib.hid hgrow; have HO := Lib.hid hown1; clear hgrow hown1 B5))
                · go_roundw
                  case rel => exact TR4.no hd5 HB2.out M3.out M4.out m5 HN2.out M7.out (by omega) hXH hHG M8.out M9.out m10
                  case measure => simp [intOf]; omega
                · go_roundw
                  case rel =>
                    have hgr : ∀ R', ev.ownBlock = some R' → G ≤ R' := fun R' e => (M3.out.lt R' e).1
                    exact TR4.yes hd5 HB5.out HO.out M4.out m5 ((HN2.out.2.alloc _).kept HGR.out (fun j e => by have := hgr j e; omega)) (gown ((M7.out.trans HN2.out.1).trans (World.grownBy_alloc _ _ _)) HGR.out (fun j e => by have := hgr j e; omega)) hwX (by omega) hXH hHG
                      (((M8.out.kept HN2.out.1 (by rintro R e; cases e; omega)).alloc _).kept HGR.out (fun R e => by have := hgr R e; omega)) (((M9.out.kept HN2.out.1 (by rintro R e; cases e; omega)).kept (World.grownBy_alloc _ _ none) (by simp)).kept HGR.out (fun R e => by have := hgr R e; omega)) (by have h1 := HGR.out.size; simp at h1; omega)
                  case measure => simp [intOf]; omega
              · have hd5' : 5 ≤ d := by omega
                have d5 : d = 5 := by omega
                have D5 := Lib.hid d5
                clear d5
                have BZ : wr.heap[w.heap.size]? = some (.cells #[.int .i64 0, .slice none 0 0, .slice none 0 0, .slice none 0 0] 27 (0, 0)) := blk M7.out (by simp; omega) (by rw [hWZ.out]; exact heap_alloc_new w _)
                have x0 : wr.cell? ⟨X, 0, none⟩ = some (.int .i64 u) := by simp [World.cell?, M2.out]
                have x1 : wr.cell? ⟨X, 1, none⟩ = some fv := by simp [World.cell?, M2.out]
                have x2 : wr.cell? ⟨X, 2, none⟩ = some rv := by simp [World.cell?, M2.out]
                have x3 : wr.cell? ⟨X, 3, none⟩ = some ev := by simp [World.cell?, M2.out]
                have z0 : wr.cell? ⟨w.heap.size, 0, none⟩ = some (.int .i64 0) := by simp [World.cell?, BZ]
                have z1 : wr.cell? ⟨w.heap.size, 1, none⟩ = some (.slice none 0 0) := by simp [World.cell?, BZ]
                have z2 : wr.cell? ⟨w.heap.size, 2, none⟩ = some (.slice none 0 0) := by simp [World.cell?, BZ]
                have z3 : wr.cell? ⟨w.heap.size, 3, none⟩ = some (.slice none 0 0) := by simp [World.cell?, BZ]
                have fz : ∀ o, wr.frozen? ⟨w.heap.size, o, none⟩ = false := fun o => by simp [World.frozen?, BZ]
                have HBZ := Lib.hid BZ
                clear BZ
                obtain ⟨fa, fm, fcap, rfl⟩ := own_form H5.out
                obtain ⟨ra, rm, rcap, rfl⟩ := own_form J4.out
                obtain ⟨ea, em, ecap, rfl⟩ := own_form M3.out
                obtain ⟨W, hW, BW, hRES⟩ := TarRes.fin (b := b) (g := g) (w := w) (wr := wr) (X := X) (H := H) (hz := #[.int .i64 0, .slice none 0 0, .slice none 0 0, .slice none 0 0]) J6.out hu1 hu3 (by have := H2.out; omega) H3.out hq1 hq3 M4.out (by omega) rfl HBZ.out rfl
                  (M8.out.mono (by omega) (by omega))
                  (M9.out.mono (by omega) m10)
                  ((IntsIn.own M3.out (by omega)).mono (by omega) (Nat.le_refl _)) (M6.out.mono (by omega))
                  (by have h0 := World.grownBy_alloc w (.cells #[.int .i64 0, .slice none 0 0, .slice none 0 0, .slice none 0 0] 27) (some b); rw [← hWZ.out] at h0; exact h0.trans M7.out) hbw
                have HRES := Lib.hid hRES
                have HBW := Lib.hid BW
                have HW := Lib.hid hW
                clear hRES BW hW
                go_wp2
                rw [← HW.out]
                refine bodyPost_ret (v := .agg #[.int .i64 u, .slice fa fm fcap, .slice ra rm rcap, .slice ea em ecap]) (by simp [results, Tryz.results13, go_sem, World.cell?, HBW.out]) rfl ?_
                exact HRES.out
end Go.Proofs.YtpjcjadcikeibaaGreatDoor
