import Derived.Test.YtpjcjadcikeibaaGreatDoorPaying
import Derived.BigRegion
namespace Go.Proofs.YtpjcjadcikeibaaGreatDoor
open Go.RowKit
def imin (a x : Int) : Int := if x < a then x else a
def imax (b x : Int) : Int := if b < x then x else b
def bndV (a b : Int) (s : Bool) : Obj := .cells #[.int .i64 a, .int .i64 b, .bool s] 68 (0, 0)
theorem bnd_cells {w : World} {B : Nat} {a b : Int} {s : Bool} (h : w.heap[B]? = some (bndV a b s)) : w.cell? ⟨B, 0, none⟩ = some (.int .i64 a) ∧ w.cell? ⟨B, 1, none⟩ = some (.int .i64 b) ∧ w.cell? ⟨B, 2, none⟩ = some (.bool s) ∧ ∀ o, w.frozen? ⟨B, o, none⟩ = false := by
  unfold bndV at h
  refine ⟨?_, ?_, ?_, fun o => ?_⟩ <;> simp [World.cell?, World.frozen?, h]
set_option maxRecDepth 100000 in
set_option maxHeartbeats 1600000 in
theorem take_more (B : Nat) (a b x : Int) (w : World) (h : w.heap[B]? = some (bndV a b true)) :
    Calls Tryz.prog 21 #[.pointer (some ⟨B, 0, none⟩), .int .i64 x] w fun e w' => e = .returned (.tuple #[]) ∧ w.grownBy w' (some B) ∧ w'.heap[B]? = some (bndV (imin a x) (imax b x) true) := by
  obtain ⟨c0, c1, c2, fz⟩ := bnd_cells h
  have H := Lib.hid h
  clear h
  have hnot : ∀ (x : Bool) (w : World), (Op.unary .not (.bool x)).run Tryz.prog w = .ok (.bool (!x)) w := fun _ _ => rfl
  go_enter Tryz.func21, Tryz.ntmps21
  go_wp2
  go_region
  go_end0
  exact ⟨rfl, ((grownBy_set w B 0 _).trans (grownBy_set _ B 1 _)).trans (grownBy_drew _ _), row_setCell (row_setCell H.out)⟩
set_option maxRecDepth 100000 in
set_option maxHeartbeats 1600000 in
theorem take_first (B : Nat) (a b x : Int) (w : World) (h : w.heap[B]? = some (bndV a b false)) :
    Calls Tryz.prog 21 #[.pointer (some ⟨B, 0, none⟩), .int .i64 x] w fun e w' => e = .returned (.tuple #[]) ∧ w.grownBy w' (some B) ∧ w'.heap[B]? = some (bndV x x true) := by
  obtain ⟨c0, c1, c2, fz⟩ := bnd_cells h
  have H := Lib.hid h
  clear h
  have hnot : ∀ (x : Bool) (w : World), (Op.unary .not (.bool x)).run Tryz.prog w = .ok (.bool (!x)) w := fun _ _ => rfl
  go_enter Tryz.func21, Tryz.ntmps21
  go_upto_region 2 with (fail)
  have hr : (((w.setCell ⟨B, 0, none⟩ (.int .i64 x)).setCell ⟨B, 1, none⟩ (.int .i64 x)).setCell ⟨B, 2, none⟩ (.bool true)).heap[B]? = some (bndV x x true) := row_setCell (row_setCell (row_setCell H.out))
  have hg := Lib.hid (((grownBy_set w B 0 (.int .i64 x)).trans (grownBy_set _ B 1 (.int .i64 x))).trans (grownBy_set _ B 2 (.bool true)))
  clear c0 c1 c2 fz
  revert hr hg
  generalize ((w.setCell ⟨B, 0, none⟩ (.int .i64 x)).setCell ⟨B, 1, none⟩ (.int .i64 x)).setCell ⟨B, 2, none⟩ (.bool true) = w2
  intro hr hg
  obtain ⟨c0, c1, c2, fz⟩ := bnd_cells hr
  have HR := Lib.hid hr
  clear hr
  go_region
  go_end0
  exact ⟨rfl, ((hg.out.trans (grownBy_set w2 B 0 _)).trans (grownBy_set _ B 1 _)).trans (grownBy_drew _ _), row_setCell (row_setCell HR.out)⟩
/-- What bounds hold. -/
def bstep (t : Int × Int × Bool) (x : Int) : Int × Int × Bool := if t.2.2 then (imin t.1 x, imax t.2.1 x, true) else (x, x, true)
def bndR (t : Int × Int × Bool) : Obj := bndV t.1 t.2.1 t.2.2
theorem take_any (B : Nat) (t : Int × Int × Bool) (x : Int) (w : World) (h : w.heap[B]? = some (bndR t)) :
    Calls Tryz.prog 21 #[.pointer (some ⟨B, 0, none⟩), .int .i64 x] w fun e w' => e = .returned (.tuple #[]) ∧ w.grownBy w' (some B) ∧ w'.heap[B]? = some (bndR (bstep t x)) := by
  obtain ⟨a, b, s⟩ := t
  cases s with
  | true => exact take_more B a b x w h
  | false => exact take_first B a b x w h
end Go.Proofs.YtpjcjadcikeibaaGreatDoor
