import Derived.Test.YtpjcjadcikeibaaGreatDoorCasesf
namespace Go.Proofs.YtpjcjadcikeibaaGreatDoor
open Go.RowKit Go.Shelf
/-- What the bounds are when some hours have come. -/
def bfold (p : Nat) (T : Tar) (K h : Nat) {a b : Nat} (pre : List (Hr a b)) : Int × Int × Bool := (pre.map fun x => (p : Int) - T.fee K x.1 h).foldl bstep (0, 0, false)
theorem bfold_snoc (p : Nat) (T : Tar) (K h : Nat) {a b : Nat} (pre : List (Hr a b)) (x : Hr a b) : bfold p T K h (pre ++ [x]) = bstep (bfold p T K h pre) (p - T.fee K x.1 h) := by simp [bfold]
theorem sumFrom_shift (g : Nat → Int) (a : Nat) : ∀ n : Nat, sumFrom g a (n + 1) = g a + sumFrom g (a + 1) n := by
  intro n
  induction n with
  | zero => simp [sumFrom]
  | succ n ih =>
    rw [show sumFrom g a (n + 1 + 1) = sumFrom g a (n + 1) + g (a + (n + 1)) from rfl, ih, show sumFrom g (a + 1) (n + 1) = sumFrom g (a + 1) n + g (a + 1 + n) from rfl, show a + 1 + n = a + (n + 1) from by omega]
    omega
theorem Tar.Valid.fee_step {T : Tar} (hV : T.Valid) {K : Nat} (hk : K < T.kinds) (l f : Nat) (hlf : l + 1 ≤ f) : T.fee K (l + 1) f ≤ T.fee K l f := by
  unfold Tar.fee
  by_cases h : (l + 1) / 24 = l / 24
  · rw [h]; omega
  · have h2 : (l + 1) / 24 = l / 24 + 1 := by omega
    obtain ⟨n, hn⟩ : ∃ n, f / 24 - l / 24 = n + 1 := ⟨f / 24 - l / 24 - 1, by omega⟩
    rw [h2, show f / 24 - (l / 24 + 1) = n from by omega, hn, sumFrom_shift]
    have := (hV.rate_bound hk (l / 24 + 1)).1
    omega
theorem Tar.Valid.fee_anti {T : Tar} (hV : T.Valid) {K : Nat} (hk : K < T.kinds) (l f : Nat) : ∀ j : Nat, l + j ≤ f → T.fee K (l + j) f ≤ T.fee K l f := by
  intro j
  induction j with
  | zero => intro _; exact Int.le_refl _
  | succ j ih => intro h; exact Int.le_trans (hV.fee_step hk (l + j) f h) (ih (by omega))
theorem bfold_range {T : Tar} (hV : T.Valid) {K : Nat} (hk : K < T.kinds) (p a h : Nat) : ∀ k : Nat, a + k ≤ h → ((List.range (k + 1)).map fun j => (p : Int) - T.fee K (a + j) h).foldl bstep (0, 0, false) = ((p : Int) - T.fee K a h, (p : Int) - T.fee K (a + k) h, true) := by
  intro k
  induction k with
  | zero => intro _; simp [bstep]
  | succ k ih =>
    intro hle
    rw [List.range_succ, List.map_append, List.foldl_append, ih (by omega)]
    have h1 := hV.fee_anti hk a h (k + 1) hle
    have h2 := hV.fee_step hk (a + k) h (by omega)
    rw [show a + k + 1 = a + (k + 1) from rfl] at h2
    simp only [List.map_cons, List.map_nil, List.foldl_cons, List.foldl_nil, bstep, if_true, imin, imax]
    rw [if_neg (by omega)]
    congr 2
    by_cases h3 : (p : Int) - T.fee K (a + k) h < p - T.fee K (a + (k + 1)) h
    · rw [if_pos h3]
    · rw [if_neg h3]; omega
theorem bfold_come {T : Tar} (hV : T.Valid) {K : Nat} (hk : K < T.kinds) (p a b h : Nat) (hab : a ≤ b) (hbh : b ≤ h) (xs : List (Hr a b)) (hC : Come a b xs (b - a + 1)) : bfold p T K h xs = ((p : Int) - T.fee K a h, (p : Int) - T.fee K b h, true) := by
  have h1 := bfold_range hV hk p a h (b - a) (by omega)
  rw [show a + (b - a) = b from by omega] at h1
  rw [← h1]
  unfold bfold
  congr 1
  have h2 : xs.map (fun x => (p : Int) - T.fee K x.1 h) = (xs.map (·.1)).map fun y => (p : Int) - T.fee K y h := by simp
  rw [h2, show xs.map (·.1) = _ from hC]
  simp
end Go.Proofs.YtpjcjadcikeibaaGreatDoor
