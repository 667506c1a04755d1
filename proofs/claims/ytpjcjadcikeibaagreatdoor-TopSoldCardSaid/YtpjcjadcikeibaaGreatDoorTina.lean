import Derived.Test.YtpjcjadcikeibaaGreatDoorProg
import Derived.WalkKit
import Derived.WalkSpells
import Derived.WalkLawsBesides
import Derived.RegionTactic
import Derived.ChangeAlike
import Derived.Deep.QuietTactic
import Derived.BigQuiet
import Derived.OneCell
import Derived.Maps.AppendAt
import Derived.Lib.Hide
import Derived.Maps.Range
import Derived.Deep.AppendLies
import Derived.Deep.RegionHeld3
import Derived.Deep.RegionLawGrows
import Derived.LoopTactic
namespace Go.Proofs.YtpjcjadcikeibaaGreatDoor
open Go.RowKit

/-- A tin at block b, of which at most g numbers were asked. -/
def TinAt (w : World) (b g : Nat) : Prop :=
  ∃ (base : Option Addr) (len cap : Nat) (g' : Nat) (s : Int), g' ≤ g ∧ w.heap[b]? = some (.cells #[.slice base len cap, .int .i64 g', .int .u64 s] 49 (0, 0)) ∧ (len : Int) ≤ 9223372036854775807 ∧
    (0 < len → ∃ lb lo, base = some ⟨lb, lo, none⟩ ∧ lb < b ∧ ∀ i, i < len → ∃ x, w.cell? ⟨lb, lo + i, none⟩ = some (.int .i64 x))

theorem TinAt.mono {w : World} {b g g' : Nat} (h : TinAt w b g) (hg : g ≤ g') : TinAt w b g' := by
  obtain ⟨base, len, cap, k, s, hk, r⟩ := h
  exact ⟨base, len, cap, k, s, by omega, r⟩

theorem row_setCell {w : World} {b : Nat} {cs : Array Value} {e : TypeId} {o : Nat} {v : Value} (h : w.heap[b]? = some (.cells cs e (0, 0))) :
    (w.setCell ⟨b, o, none⟩ v).heap[b]? = some (.cells (cs.setIfInBounds o v) e (0, 0)) := by
  simp [World.setCell, Array.getElem?_modify, h]
theorem grownBy_set (w : World) (b o : Nat) (v : Value) : w.grownBy (w.setCell ⟨b, o, none⟩ v) (some b) :=
  ⟨rfl, rfl, rfl, by simp [World.setCell], fun k _ hk => Below.heap_setCell _ _ _ _ (fun e => hk (by rw [e]))⟩
theorem grownBy_drewN (w : World) (n : Nat) (row : Option Nat) : w.grownBy (w.drewN n) row := ⟨rfl, rfl, rfl, Nat.le_refl _, fun _ _ _ => rfl⟩
theorem grownBy_drew (w : World) (row : Option Nat) : w.grownBy w.drew row := ⟨rfl, rfl, rfl, Nat.le_refl _, fun _ _ _ => rfl⟩
theorem tin_post {w : World} {b g : Nat} {base : Option Addr} {len cap : Nat} {s s' : Int} {z : Value}
    (hb : w.heap[b]? = some (.cells #[.slice base len cap, .int .i64 g, .int .u64 s] 49 (0, 0))) (hl : (len : Int) ≤ 9223372036854775807)
    (hr : 0 < len → ∃ lb lo, base = some ⟨lb, lo, none⟩ ∧ lb < b ∧ ∀ i, i < len → ∃ x, w.cell? ⟨lb, lo + i, none⟩ = some (.int .i64 x)) (nq : Nat) :
    w.grownBy ((((w.drewN nq).setCell ⟨b, 1, none⟩ (.int .i64 (g + 1))).setCell ⟨b, 2, none⟩ z).setCell ⟨b, 2, none⟩ (.int .u64 s')).drew (some b) ∧
    TinAt ((((w.drewN nq).setCell ⟨b, 1, none⟩ (.int .i64 (g + 1))).setCell ⟨b, 2, none⟩ z).setCell ⟨b, 2, none⟩ (.int .u64 s')).drew b (g + 1) ∧
    ((((w.drewN nq).setCell ⟨b, 1, none⟩ (.int .i64 (g + 1))).setCell ⟨b, 2, none⟩ z).setCell ⟨b, 2, none⟩ (.int .u64 s')).drew.heap.size = w.heap.size := by
  refine ⟨((((grownBy_drewN w nq _).trans (grownBy_set _ b 1 _)).trans (grownBy_set _ b 2 _)).trans (grownBy_set _ b 2 _)).trans (grownBy_drew _ _), ?_, by simp [World.setCell, World.drewN, World.drew]⟩
  have h1 : (w.drewN nq).heap[b]? = some (.cells #[.slice base len cap, .int .i64 g, .int .u64 s] 49 (0, 0)) := hb
  have h2 := row_setCell (o := 2) (v := .int .u64 s') (row_setCell (o := 2) (v := z) (row_setCell (o := 1) (v := .int .i64 (g + 1)) h1))
  refine ⟨base, len, cap, g + 1, s', Nat.le_refl _, by simpa [World.drew] using h2, hl, fun hp => ?_⟩
  obtain ⟨lb, lo, e1, e2, e4⟩ := hr hp
  refine ⟨lb, lo, e1, e2, fun i hi => ?_⟩
  obtain ⟨x, hx⟩ := e4 i hi
  refine ⟨x, ?_⟩
  have hne : ∀ o, (⟨b, o, none⟩ : Addr) ≠ ⟨lb, lo + i, none⟩ := fun o e => by cases e; omega
  show World.cell? ((((w.drewN nq).setCell ⟨b, 1, none⟩ (.int .i64 (g + 1))).setCell ⟨b, 2, none⟩ z).setCell ⟨b, 2, none⟩ (.int .u64 s')) _ = _
  rw [World.cell?_setCell_other _ _ _ _ (hne _), World.cell?_setCell_other _ _ _ _ (hne _), World.cell?_setCell_other _ _ _ _ (hne _)]
  exact hx

theorem TinAt.lt {w : World} {b g : Nat} (h : TinAt w b g) : b < w.heap.size := by
  obtain ⟨_, _, _, _, _, _, hb, _⟩ := h
  exact (Array.getElem?_eq_some_iff.1 hb).1
/-- Nobody has written to the tin, nor to what it lists. -/
theorem TinAt.kept {w w' : World} {b g : Nat} {row : Option Nat} (h : TinAt w b g) (hg : w.grownBy w' row) (hr : ∀ B, row = some B → b < B) : TinAt w' b g := by
  have hlt := h.lt
  have hne : some b ≠ row := fun e => by have := hr b e.symm; omega
  obtain ⟨base, len, cap, g', s, hk, hb, hl, hr'⟩ := h
  refine ⟨base, len, cap, g', s, hk, (hg.block b hlt hne).trans hb, hl, fun hp => ?_⟩
  obtain ⟨lb, lo, e1, e2, e4⟩ := hr' hp
  exact ⟨lb, lo, e1, e2, fun i hi => (e4 i hi).imp fun x hx => hg.cell hx (fun e => by have := hr lb e.symm; omega)⟩
theorem TinAt.alloc {w : World} {b g : Nat} (h : TinAt w b g) (o : Obj) : TinAt (w.alloc o) b g := h.kept (World.grownBy_alloc w o none) (by simp)
theorem TinAt.set {w : World} {b g X o : Nat} {v : Value} (h : TinAt w b g) (hX : b < X) : TinAt (w.setCell ⟨X, o, none⟩ v) b g := h.kept (grownBy_set w X o v) (by rintro B e; cases e; exact hX)
theorem blk {w w' : World} {row : Option Nat} {X : Nat} {o : Obj} (hg : w.grownBy w' row) (hne : some X ≠ row) (h : w.heap[X]? = some o) : w'.heap[X]? = some o :=
  (hg.block X (Array.getElem?_eq_some_iff.1 h).1 hne).trans h
theorem blk_alloc {w : World} {X : Nat} {o p : Obj} (h : w.heap[X]? = some o) : (w.alloc p).heap[X]? = some o := blk (World.grownBy_alloc w p none) (by simp) h
theorem tn_own {w w' : World} {b B e size n : Nat} {v : Value} {xs : List Value} (hg : w.grownBy w' (some b)) (h : w.ownsRow B e size v n xs) (hb : b < B) : w'.ownsRow B e size v n xs :=
  h.kept hg (by
    by_cases e : v.ownBlock = some b
    · have := (h.lt b e).1; omega
    · exact .inr e)
/-- A write to a block that is the call's own. -/
theorem gown {w w1 w2 : World} {b : Nat} {row : Option Nat} (h : w.grownBy w1 (some b)) (k : w1.grownBy w2 row) (hr : ∀ j, row = some j → w.heap.size ≤ j) : w.grownBy w2 (some b) :=
  h.andThen k fun j e => .inl (hr j e)

/-- What a tin's function leaves: the tin's own block alone has turned. -/
def Tn (b g : Nat) (w w' : World) : Prop := w.grownBy w' (some b) ∧ TinAt w' b g
/-- It returns a number that is so. -/
def TnInt (k : IntKind) (b g : Nat) (w : World) (p : Int → Prop) (e : Ending) (w' : World) : Prop := ∃ r, p r ∧ e = .returned (.int k r) ∧ Tn b g w w' ∧ w'.heap.size = w.heap.size


theorem wrap_lt (x : Int) : 0 ≤ IntKind.u64.wrap x ∧ IntKind.u64.wrap x < 18446744073709551616 := by
  have h : IntKind.u64.bits = 64 := rfl
  have hs : IntKind.u64.signed = false := rfl
  simp only [IntKind.wrap, h, hs]
  constructor
  · simp; omega
  · simp; omega
theorem bits_lt (op : BinOp) (x y : Int) : 0 ≤ bits op .u64 x y ∧ bits op .u64 x y < 18446744073709551616 := by
  unfold bits; exact wrap_lt _

theorem xdiv (x y : Int) : 0 ≤ bits .xor .u64 x y / 512 ∧ bits .xor .u64 x y / 512 < 36028797018963968 := by
  have := bits_lt .xor x y; omega

set_option maxHeartbeats 1000000 in
theorem next_lo (b : Nat) (lb lo : Nat) (len cap : Nat) (g : Nat) (s x : Int) (w : World) (hg : g < 4611686018427387904)
   (hb : w.heap[b]? = some (.cells #[.slice (some ⟨lb, lo, none⟩) len cap, .int .i64 g, .int .u64 s] 49 (0, 0))) (hl : (len : Int) ≤ 9223372036854775807) (hlt : g < len)
   (hr : 0 < len → ∃ lb' lo', (some ⟨lb, lo, none⟩ : Option Addr) = some ⟨lb', lo', none⟩ ∧ lb' < b ∧ ∀ i, i < len → ∃ x, w.cell? ⟨lb', lo' + i, none⟩ = some (.int .i64 x))
   (cx : w.cell? ⟨lb, lo + g, none⟩ = some (.int .i64 x)) :
    Calls Tryz.prog 16 #[.pointer (some ⟨b, 0, none⟩)] w (TnInt .u64 b (g + 1) w fun u => 0 ≤ u ∧ u < 36028797018963968) := by
  have c0 : w.cell? ⟨b, 0, none⟩ = some (.slice (some ⟨lb, lo, none⟩) len cap) := by simp [World.cell?, hb]
  have c1 : w.cell? ⟨b, 1, none⟩ = some (.int .i64 g) := by simp [World.cell?, hb]
  have c2 : w.cell? ⟨b, 2, none⟩ = some (.int .u64 s) := by simp [World.cell?, hb]
  have f1 : w.frozen? ⟨b, 1, none⟩ = false := by simp [World.frozen?, hb]
  have f2 : w.frozen? ⟨b, 2, none⟩ = false := by simp [World.frozen?, hb]
  have hlt' : (g : Int) < (len : Int) := by omega
  have hs : ∀ (nq : Nat) (u v z : Value), ((((w.drewN nq).setCell ⟨b,1,none⟩ u).setCell ⟨b,2,none⟩ v).setCell ⟨b,2,none⟩ z).cell? ⟨b,2,none⟩ = some z := by
    intro nq u v z
    refine World.cell?_setCell_same _ _ _ (u := v) ?_
    refine World.cell?_setCell_same _ _ _ (u := .int .u64 s) ?_
    rw [World.cell?_setCell_other _ _ _ _ (by simp)]; simpa using c2
  have HP := fun nq z s' => tin_post (z := z) (s' := s') hb hl hr nq
  have HB := Lib.hid HP
  have HL := Lib.hid hb
  have HR := Lib.hid hr
  clear HP hb hr
  go_enter Tryz.func16, Tryz.ntmps16
  go_wp2
  go_quiet (fail)
  go_wp2
  go_quiet (fail)
  go_wp2
  go_region
  all_goals go_wp2
  all_goals go_ret
  all_goals exact ⟨_, xdiv _ _, rfl, ⟨(HB.out _ _ _).1, (HB.out _ _ _).2.1⟩, (HB.out _ _ _).2.2⟩

set_option maxHeartbeats 1000000 in
theorem next_hi (b : Nat) (base : Option Addr) (len cap : Nat) (g : Nat) (s : Int) (w : World) (hg : g < 4611686018427387904)
   (hb : w.heap[b]? = some (.cells #[.slice base len cap, .int .i64 g, .int .u64 s] 49 (0, 0))) (hl : (len : Int) ≤ 9223372036854775807) (hlt : ¬ g < len)
   (hr : 0 < len → ∃ lb' lo', base = some ⟨lb', lo', none⟩ ∧ lb' < b ∧ ∀ i, i < len → ∃ x, w.cell? ⟨lb', lo' + i, none⟩ = some (.int .i64 x)) :
    Calls Tryz.prog 16 #[.pointer (some ⟨b, 0, none⟩)] w (TnInt .u64 b (g + 1) w fun u => 0 ≤ u ∧ u < 36028797018963968) := by
  have c0 : w.cell? ⟨b, 0, none⟩ = some (.slice base len cap) := by simp [World.cell?, hb]
  have c1 : w.cell? ⟨b, 1, none⟩ = some (.int .i64 g) := by simp [World.cell?, hb]
  have c2 : w.cell? ⟨b, 2, none⟩ = some (.int .u64 s) := by simp [World.cell?, hb]
  have f1 : w.frozen? ⟨b, 1, none⟩ = false := by simp [World.frozen?, hb]
  have f2 : w.frozen? ⟨b, 2, none⟩ = false := by simp [World.frozen?, hb]
  have hlt' : (len : Int) ≤ (g : Int) := by omega
  have hs : ∀ (nq : Nat) (u v z : Value), ((((w.drewN nq).setCell ⟨b,1,none⟩ u).setCell ⟨b,2,none⟩ v).setCell ⟨b,2,none⟩ z).cell? ⟨b,2,none⟩ = some z := by
    intro nq u v z
    refine World.cell?_setCell_same _ _ _ (u := v) ?_
    refine World.cell?_setCell_same _ _ _ (u := .int .u64 s) ?_
    rw [World.cell?_setCell_other _ _ _ _ (by simp)]; simpa using c2
  have HP := fun nq z s' => tin_post (z := z) (s' := s') hb hl hr nq
  have HB := Lib.hid HP
  have HL := Lib.hid hb
  have HR := Lib.hid hr
  clear HP hb hr
  go_enter Tryz.func16, Tryz.ntmps16
  go_wp2
  go_quiet (fail)
  go_wp2
  go_region
  all_goals go_wp2
  all_goals go_ret
  all_goals exact ⟨_, xdiv _ _, rfl, ⟨(HB.out _ _ _).1, (HB.out _ _ _).2.1⟩, (HB.out _ _ _).2.2⟩

/-- (*Tin).next: a number below 2^55. -/
theorem next_any (b g : Nat) (w : World) (ht : TinAt w b g) (hg : g < 4611686018427387904) :
    Calls Tryz.prog 16 #[.pointer (some ⟨b, 0, none⟩)] w (TnInt .u64 b (g + 1) w fun u => 0 ≤ u ∧ u < 36028797018963968) := by
  obtain ⟨base, len, cap, g', s, hk, hb, hl, hr⟩ := ht
  have fin : ∀ e w', TnInt .u64 b (g' + 1) w (fun u => 0 ≤ u ∧ u < 36028797018963968) e w' → TnInt .u64 b (g + 1) w (fun u => 0 ≤ u ∧ u < 36028797018963968) e w' := by
    rintro e w' ⟨r, h1, h2, h3, h4⟩
    exact ⟨r, h1, h2, ⟨h3.1, h3.2.mono (by omega)⟩, h4⟩
  by_cases hlt : g' < len
  · obtain ⟨lb, lo, rfl, e2, e4⟩ := hr (by omega)
    obtain ⟨x, hx⟩ := e4 g' hlt
    exact (next_lo b lb lo len cap g' s x w (by omega) hb hl hlt hr hx).mono fin
  · exact (next_hi b base len cap g' s w (by omega) hb hl hlt hr).mono fin
end Go.Proofs.YtpjcjadcikeibaaGreatDoor
