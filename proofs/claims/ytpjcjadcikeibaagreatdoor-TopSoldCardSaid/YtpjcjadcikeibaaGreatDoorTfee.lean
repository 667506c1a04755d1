import Derived.Test.YtpjcjadcikeibaaGreatDoorRates
namespace Go.Proofs.YtpjcjadcikeibaaGreatDoor
open Go.RowKit
theorem afterRates_bound {T : Tar} (hV : T.Valid) {k : Nat} (hk : k < T.kinds) : ∀ (j d : Nat), 0 ≤ afterRates T.rates k j d ∧ afterRates T.rates k j d ≤ 9 := by
  intro j
  induction j with
  | zero => intro d; simp [afterRates]
  | succ j ih =>
    intro d
    unfold afterRates
    cases h : T.rates[j]? with
    | none => exact ih d
    | some r =>
      obtain ⟨f, l⟩ := r
      obtain ⟨-, -, ⟨hl, hd⟩, -⟩ := hV.rate j f l h
      simp only
      by_cases hf : f ≤ (d : Int)
      · rw [if_pos hf]
        exact hd _ (by rw [List.getElem?_eq_getElem (by omega)]; simp)
      · rw [if_neg hf]; exact ih d
theorem afterFree_bound {g : Nat → Int} {fs : List Int} (hg : ∀ d, 0 ≤ g d ∧ g d ≤ 9) : ∀ (j d : Nat), 0 ≤ afterFree g fs j d ∧ afterFree g fs j d ≤ 9 := by
  intro j
  induction j with
  | zero => exact hg
  | succ j ih =>
    intro d
    unfold afterFree
    by_cases h : fs[j]? = some (d : Int)
    · rw [if_pos h]; omega
    · rw [if_neg h]; exact ih d
theorem Tar.Valid.rate_bound {T : Tar} (hV : T.Valid) {k : Nat} (hk : k < T.kinds) (d : Nat) : 0 ≤ T.rate k d ∧ T.rate k d ≤ 9 := afterFree_bound (afterRates_bound hV hk _) _ d
def sumFrom (g : Nat → Int) (a : Nat) : Nat → Int
  | 0 => 0
  | n + 1 => sumFrom g a n + g (a + n)
theorem sumFrom_bound {g : Nat → Int} (hg : ∀ d, 0 ≤ g d ∧ g d ≤ 9) (a : Nat) : ∀ n : Nat, 0 ≤ sumFrom g a n ∧ sumFrom g a n ≤ 9 * n := by
  intro n
  induction n with
  | zero => simp [sumFrom]
  | succ n ih => have := hg (a + n); unfold sumFrom; omega
/-- What a piece costs. -/
def Tar.fee (T : Tar) (k l f : Nat) : Int := T.first[k]?.getD 0 + sumFrom (T.rate k) (l / 24 + 1) (f / 24 - l / 24)
theorem Tar.Valid.first_bound {T : Tar} (hV : T.Valid) {k : Nat} (hk : k < T.kinds) : 0 ≤ T.first[k]?.getD 0 ∧ T.first[k]?.getD 0 ≤ 9 := by
  obtain ⟨hl, hd⟩ := hV.first
  exact hd _ (by rw [List.getElem?_eq_getElem (by omega)]; simp)
theorem Tar.Valid.fee_bound {T : Tar} (hV : T.Valid) {k : Nat} (hk : k < T.kinds) (l f : Nat) (hf : f ≤ 119) : 0 ≤ T.fee k l f ∧ T.fee k l f ≤ 45 := by
  have h1 := hV.first_bound hk
  have h2 := sumFrom_bound (hV.rate_bound hk) (l / 24 + 1) (f / 24 - l / 24)
  unfold Tar.fee
  omega
set_option maxRecDepth 100000 in
theorem plus_any (x y : Int) (w : World) (h1 : 0 ≤ x) (h2 : x ≤ 1000) (h3 : 0 ≤ y) (h4 : y ≤ 1000) :
    Calls Tryz.prog 35 #[.int .i64 x, .int .i64 y] w fun e w' => e = .returned (.int .i64 (x + y)) ∧ w = w' := by
  go_enter Tryz.func35, Tryz.ntmps35
  go_wp2
  go_ret
  exact ⟨rfl, rfl⟩
set_option maxRecDepth 100000 in
theorem int_any (x : Int) (w : World) : Calls Tryz.prog 23 #[.int .i64 x] w fun e w' => e = .returned (.int .i64 x) ∧ w = w' := by
  go_enter Tryz.func23, Tryz.ntmps23
  go_wp2
  go_ret
  exact ⟨rfl, rfl⟩
set_option maxRecDepth 100000 in
set_option maxHeartbeats 3200000 in
theorem tfee_any (lo hi Q k l f : Nat) (T : Tar) (fv rv ev : Value) (w : World) (hQ : TW w Q T fv rv ev)
    (hT : TarIn lo hi w (.agg #[.int .i64 T.kinds, fv, rv, ev]) T) (hV : T.Valid) (hhi : hi ≤ Q) (hk : k < T.kinds) (hlf : l ≤ f) (hf : f ≤ 119) :
    Calls Tryz.prog 22 #[.pointer (some ⟨Q, 0, none⟩), .int .i64 k, .agg #[.int .i64 l, .int .i64 f]] w fun e w' => e = .returned (.int .i64 (T.fee k l f)) ∧ w.grownBy w' (some Q) ∧ TW w' Q T fv rv ev := by
  have HQ := Lib.hid hQ
  have HT := Lib.hid hT
  obtain ⟨D, cs, hr, hs, c0, c1, c2, c3, hj⟩ := hQ
  have hQw : Q < w.heap.size := (Array.getElem?_eq_some_iff.1 hr).1
  have x1 := row_cell hr c1
  obtain ⟨fv', rv', ev', he, hF, -, -⟩ := hT
  obtain ⟨rfl, rfl, rfl⟩ : fv = fv' ∧ rv = rv' ∧ ev = ev' := by simpa using he
  obtain ⟨fa, fc, rfl, -, hfc⟩ := hF.cell
  have hk3 : k < T.first.length := by have := hV.first.1; omega
  obtain ⟨FB, fo, rfl, hF1, hF2, hF3, hF4⟩ := hfc (by rintro e; rw [e] at hk3; simp at hk3)
  have y1 := hF4 k hk3
  have hb := hV.first_bound hk
  have hsb := sumFrom_bound (hV.rate_bound hk) (l / 24 + 1)
  have hrb := hV.rate_bound hk
  have hfee : T.fee k l f = T.first[k]?.getD 0 + sumFrom (T.rate k) (l / 24 + 1) (f / 24 - l / 24) := rfl
  generalize T.first[k]?.getD 0 = p at y1 hb hfee
  obtain ⟨hb1, hb2⟩ := hb
  have HSB := Lib.hid hsb
  have HRB := Lib.hid hrb
  have HFEE := Lib.hid hfee
  have HV := Lib.hid hV
  clear hr hs c0 c1 c2 c3 hj hF4 hfc hsb hrb hfee hV he hF
  obtain ⟨b, hbe⟩ : ∃ b, b = w.heap.size := ⟨_, rfl⟩
  obtain ⟨wx, hwx⟩ : ∃ wx, wx = w.alloc (.cells #[.int .i64 l, .int .i64 f] 73) := ⟨_, rfl⟩
  have hG : w.grownBy wx none := by rw [hwx]; exact World.grownBy_alloc _ _ _
  have X1 : wx.cell? ⟨Q, 1, none⟩ = some (.slice (some ⟨FB, fo, none⟩) T.first.length fc) := hG.cell x1 (by simp)
  have Y1 : wx.cell? ⟨FB, fo + k, none⟩ = some (.int .i64 p) := hG.cell y1 (by simp)
  have B0 : wx.cell? ⟨b, 0, none⟩ = some (.int .i64 l) := by rw [hwx, hbe, cell_new]; rfl
  have B1 : wx.cell? ⟨b, 1, none⟩ = some (.int .i64 f) := by rw [hwx, hbe, cell_new]; rfl
  have ra := rates_any lo hi Q k T _ rv ev wx (HQ.out.kept hG (by simp)) (HT.out.kept hG (by simp)) HV.out hhi hk
  unfold rateV at ra
  have RA := Lib.hid ra
  clear ra
  have HG := Lib.hid hG
  have HWX := Lib.hid hwx
  have HBE := Lib.hid hbe
  have hQb : Q < b := by omega
  clear hG hwx hbe x1 y1 HQ HT
  go_enter Tryz.func22, Tryz.ntmps22
  go_upto_region 1 with (fail)
  rw [← HBE.out, ← HWX.out]
  go_upto_region 2 with (fail)
  clear X1 Y1
  go_upto_region 3 with (first | (go_at_call 34; go_must (refine RA.out.mono ?_); rintro e w2 ⟨rfl, hG2, hTW2⟩))
  obtain ⟨A, hA⟩ : ∃ A, A = w2.heap.size := ⟨_, rfl⟩
  obtain ⟨w3, hw3⟩ : ∃ w3, w3 = w2.alloc (rowG (T.rate k)) := ⟨_, rfl⟩
  have hAr : w3.heap[A]? = some (rowG (T.rate k)) := by rw [hw3, hA]; exact heap_alloc_new _ _
  have hg3 : w2.grownBy w3 none := by rw [hw3]; exact World.grownBy_alloc _ _ _
  have C0 : w3.cell? ⟨b, 0, none⟩ = some (.int .i64 l) := hg3.cell (hG2.cell B0 (by simp; omega)) (by simp)
  have C1 : w3.cell? ⟨b, 1, none⟩ = some (.int .i64 f) := hg3.cell (hG2.cell B1 (by simp; omega)) (by simp)
  have HTW := Lib.hid (hTW2.kept hg3 (by simp))
  have HGW := Lib.hid (((HG.out.but (some Q)).trans hG2).trans (hg3.but (some Q)))
  have HAR := Lib.hid hAr
  rw [← hA, show w2.alloc (.cells #[.int .i64 (T.rate k 0), .int .i64 (T.rate k 1), .int .i64 (T.rate k 2), .int .i64 (T.rate k 3), .int .i64 (T.rate k 4)] 114) = w3 from hw3.symm]
  clear hA hw3 hAr hg3 hG2 hTW2 B0 B1 RA HG HWX HBE
  go_upto_region 5 with (fail)
  go_loopw [7, 10] (fun s i wr => ∃ n : Nat, i = .int .i64 ((l / 24 + 1 + n : Nat) : Int) ∧ s = .int .i64 (p + sumFrom (T.rate k) (l / 24 + 1) n) ∧ n ≤ f / 24 - l / 24 ∧ w3 = wr) (fun _ i _ => (5 - intOf i).toNat)
  case atStart => exact ⟨0, by simp, by simp [sumFrom], by omega, rfl⟩
  case round =>
    obtain ⟨n, rfl, rfl, hn, rfl⟩ := hrel
    have hs := HSB.out n
    by_cases hlt : l / 24 + 1 + n ≤ f / 24
    · have hd4 : l / 24 + 1 + n ≤ 4 := by omega
      have xa := rowG_cell HAR.out (show l / 24 + 1 + n < 5 by omega)
      have hr := HRB.out (l / 24 + 1 + n)
      have hnext : sumFrom (T.rate k) (l / 24 + 1) (n + 1) = sumFrom (T.rate k) (l / 24 + 1) n + T.rate k (l / 24 + 1 + n) := rfl
      generalize T.rate k (l / 24 + 1 + n) = y at xa hr hnext
      generalize sumFrom (T.rate k) (l / 24 + 1) n = x at hs hnext
      obtain ⟨d, hd⟩ : ∃ d, d = l / 24 + 1 + n := ⟨_, rfl⟩
      rw [← hd] at xa hd4 hlt
      rw [← hd]
      have hlt' : (d : Int) ≤ (f : Int) / 24 := by omega
      have HD := Lib.hid hd
      have HNEXT := Lib.hid hnext
      have hd5 : (d : Int) < 5 := by omega
      clear hd hnext
      go_wp2_with (first | (go_at_call 35; go_must (refine (plus_any _ _ _ (by omega) (by omega) (by omega) (by omega)).mono ?_); rintro e w' ⟨rfl, rfl⟩))
      go_roundw
      case rel => exact ⟨n + 1, by rw [HD.out]; simp; omega, by rw [HNEXT.out, Int.add_assoc], by have := HD.out; omega, by first | rfl | trivial⟩
      case measure => simp [intOf]; omega
    · obtain rfl : n = f / 24 - l / 24 := by omega
      have hlt' : ¬ ((l / 24 + 1 + (f / 24 - l / 24) : Nat) : Int) ≤ (f : Int) / 24 := by omega
      rw [← HFEE.out]
      generalize ((l / 24 + 1 + (f / 24 - l / 24) : Nat) : Int) = d at hlt'
      go_wp2
      go_ret
      exact ⟨rfl, HGW.out, HTW.out⟩
end Go.Proofs.YtpjcjadcikeibaaGreatDoor
