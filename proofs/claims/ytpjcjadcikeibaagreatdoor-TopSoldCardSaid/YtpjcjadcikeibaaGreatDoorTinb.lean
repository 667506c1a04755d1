import Derived.Test.YtpjcjadcikeibaaGreatDoorTina
namespace Go.Proofs.YtpjcjadcikeibaaGreatDoor
open Go.RowKit

/-- The value v is a slice that reads as the numbers l; none of its memory is block b's. -/
def Ints (b : Nat) (w : World) (v : Value) (l : List Int) : Prop :=
  ∃ base cap, v = .slice base l.length cap ∧ (l.length : Int) ≤ 9223372036854775807 ∧ (l ≠ [] → ∃ B o, base = some ⟨B, o, none⟩ ∧ B ≠ b ∧ B < w.heap.size ∧ ∀ i, i < l.length → w.cell? ⟨B, o + i, none⟩ = some (.int .i64 (l[i]?.getD 0)))

theorem Ints.nil (b : Nat) (w : World) : Ints b w (.slice none 0 0) [] := ⟨none, 0, rfl, by decide, fun h => absurd rfl h⟩
theorem Ints.kept {b : Nat} {w w' : World} {v : Value} {l : List Int} (h : Ints b w v l) (hg : w.grownBy w' (some b)) : Ints b w' v l := by
  obtain ⟨base, cap, rfl, hl, hr⟩ := h
  refine ⟨base, cap, rfl, hl, fun hne => ?_⟩
  obtain ⟨B, o, e1, e2, e3, e4⟩ := hr hne
  exact ⟨B, o, e1, e2, Nat.lt_of_lt_of_le e3 hg.size, fun i hi => hg.cell (e4 i hi) (fun e => e2 (by cases e; rfl))⟩

/-- A slice literal of numbers, just laid. -/
theorem Ints.laid {b : Nat} (w : World) (l : List Int) (n : Nat) (hn : n = l.length) (hb : b < w.heap.size) (hl : l.length ≤ 1000) (fr : Nat × Nat := (0, 0)) :
    Ints b (w.alloc (.cells (l.map (Value.int .i64)).toArray 3 fr)) (.slice (some ⟨w.heap.size, 0, none⟩) n n) l := by
  subst hn
  refine ⟨_, _, rfl, by omega, fun _ => ⟨w.heap.size, 0, rfl, by omega, by simp, fun i hi => ?_⟩⟩
  have := heap_alloc_new w (.cells (l.map (Value.int .i64)).toArray 3 fr)
  unfold World.cell?
  rw [this]
  simp [List.getElem?_eq_getElem hi]
theorem rem_fit {u n : Int} (_ : 0 ≤ u) (hn : 0 ≤ n) : 0 ≤ u % (n + 1) ∧ u % (n + 1) ≤ n := by
  have h1 := Int.emod_nonneg u (show n + 1 ≠ 0 by omega)
  have h2 := Int.emod_lt_of_pos u (show 0 < n + 1 by omega)
  omega

set_option maxHeartbeats 400000 in
theorem upto_lo (b g : Nat) (n : Int) (w : World) (ht : TinAt w b g) (hg : g < 4611686018427387904) (hn : n < 1) :
    Calls Tryz.prog 6 #[.pointer (some ⟨b, 0, none⟩), .int .i64 n] w (TnInt .i64 b (g + 1) w fun r => r = 0) := by
  have HT := Lib.hid ht
  clear ht
  go_enter Tryz.func6, Tryz.ntmps6
  go_wp2_with (go_at_call 16; refine (next_any b g _ HT.out hg).mono ?_; rintro e w' ⟨u, ⟨hu1, hu2⟩, rfl, HN, HS⟩; have HN' := Lib.hid HN; have HS' := Lib.hid HS; clear HN HS)
  go_ret
  exact ⟨0, rfl, rfl, HN'.out, HS'.out⟩
set_option maxHeartbeats 400000 in
theorem upto_hi (b g : Nat) (n : Int) (w : World) (ht : TinAt w b g) (hg : g < 4611686018427387904) (hn : 1 ≤ n) (hm : n ≤ 1000000000) :
    Calls Tryz.prog 6 #[.pointer (some ⟨b, 0, none⟩), .int .i64 n] w (TnInt .i64 b (g + 1) w fun r => 0 ≤ r ∧ r ≤ n) := by
  have HT := Lib.hid ht
  clear ht
  go_enter Tryz.func6, Tryz.ntmps6
  go_wp2_with (go_at_call 16; refine (next_any b g _ HT.out hg).mono ?_; rintro e w' ⟨u, ⟨hu1, hu2⟩, rfl, HN, HS⟩; have HN' := Lib.hid HN; have HS' := Lib.hid HS; clear HN HS)
  go_ret
  have hf := rem_fit hu1 (show 0 ≤ n by omega)
  refine ⟨_, ?_, rfl, HN'.out, HS'.out⟩
  rw [IntWalk.wrap64_in (u % (n + 1)) ⟨by omega, by omega⟩]
  exact hf

/-- (*Tin).Upto: a number from 0 to n; 0 if n is less than 1. -/
theorem upto_any (b g : Nat) (n : Int) (w : World) (ht : TinAt w b g) (hg : g < 4611686018427387904) (hm : n ≤ 1000000000) :
    Calls Tryz.prog 6 #[.pointer (some ⟨b, 0, none⟩), .int .i64 n] w (TnInt .i64 b (g + 1) w fun r => 0 ≤ r ∧ (r ≤ n ∨ r = 0)) := by
  by_cases hn : n < 1
  · refine (upto_lo b g n w ht hg hn).mono ?_
    rintro e w' ⟨r, h1, h2⟩
    exact ⟨r, by omega, h2⟩
  · refine (upto_hi b g n w ht hg (by omega) hm).mono ?_
    rintro e w' ⟨r, h1, h2⟩
    exact ⟨r, by omega, h2⟩

set_option maxHeartbeats 400000 in
/-- (*Tin).Within: a number from lo to hi; lo if hi is not greater. -/
theorem within_any (b g : Nat) (lo hi : Int) (w : World) (ht : TinAt w b g) (hg : g < 4611686018427387904) (h1 : -1000000000 ≤ lo) (h2 : lo ≤ 400000000) (h3 : -400000000 ≤ hi) (h4 : hi ≤ 400000000) (h5 : hi - lo ≤ 1000000000) :
    Calls Tryz.prog 27 #[.pointer (some ⟨b, 0, none⟩), .int .i64 lo, .int .i64 hi] w (TnInt .i64 b (g + 1) w fun r => lo ≤ r ∧ (r ≤ hi ∨ r = lo)) := by
  have HT := Lib.hid ht
  clear ht
  go_enter Tryz.func27, Tryz.ntmps27
  go_wp2_with (go_at_call 6; refine (upto_any b g _ _ HT.out hg (by omega)).mono ?_; rintro e w' ⟨u, ⟨hu1, hu2⟩, rfl, HN, HS⟩; have HN' := Lib.hid HN; have HS' := Lib.hid HS; clear HN HS; have hu3 : u ≤ 1400000000 := by omega)
  go_ret
  refine ⟨_, ?_, rfl, HN'.out, HS'.out⟩
  omega

set_option maxHeartbeats 400000 in
/-- (*Tin).Either: one of the numbers. -/
theorem either_any (b g : Nat) (v : Value) (l : List Int) (w : World) (ht : TinAt w b g) (hg : g < 4611686018427387904) (hl : Ints b w v l) (hne : 0 < l.length) (hm : l.length ≤ 1000) :
    Calls Tryz.prog 14 #[.pointer (some ⟨b, 0, none⟩), v] w (TnInt .i64 b (g + 1) w fun r => r ∈ l) := by
  obtain ⟨base, cap, rfl, hl1, hr⟩ := hl
  obtain ⟨B, o, rfl, e2, e3, e4⟩ := hr (by intro e; rw [e] at hne; simp at hne)
  have HT := Lib.hid ht
  have E4 := Lib.hid e4
  clear ht e4 hr
  go_enter Tryz.func14, Tryz.ntmps14
  go_wp2_with (first | (go_at_call 6; go_must (refine (upto_any b g _ _ HT.out hg (by omega)).mono ?_); rintro e w' ⟨u, ⟨hu1, hu2⟩, rfl, HN, HS⟩; have HN' := Lib.hid HN; have HS' := Lib.hid HS; clear HN HS; go_must (obtain ⟨k, rfl⟩ := Int.eq_ofNat_of_zero_le hu1); go_must (have hk : k < l.length := by omega); go_must (have hki : (k : Int) < (l.length : Int) := by omega); go_must (have hc : w'.cell? ⟨B, o + k, none⟩ = some (.int .i64 (l[k]?.getD 0)) := HN'.out.1.cell (E4.out k hk) (fun e => e2 (by cases e; rfl)))))
  go_ret
  refine ⟨_, ?_, rfl, HN'.out, HS'.out⟩
  simp [List.getElem?_eq_getElem hk]

set_option maxHeartbeats 400000 in
/-- (*Tin).Rarely. -/
theorem rarely_any (b g : Nat) (n : Int) (w : World) (ht : TinAt w b g) (hg : g < 4611686018427387904) (h1 : 1 ≤ n) (h2 : n ≤ 1000) :
    Calls Tryz.prog 28 #[.pointer (some ⟨b, 0, none⟩), .int .i64 n] w fun e w' => (∃ t : Bool, e = .returned (.bool t)) ∧ Tn b (g + 1) w w' ∧ w'.heap.size = w.heap.size := by
  have HT := Lib.hid ht
  clear ht
  go_enter Tryz.func28, Tryz.ntmps28
  go_wp2_with (go_at_call 6; refine (upto_any b g _ _ HT.out hg (by omega)).mono ?_; rintro e w' ⟨u, ⟨hu1, hu2⟩, rfl, HN, HS⟩; have HN' := Lib.hid HN; have HS' := Lib.hid HS; clear HN HS)
  go_ret
  exact ⟨⟨_, rfl⟩, HN'.out, HS'.out⟩
end Go.Proofs.YtpjcjadcikeibaaGreatDoor
