import Derived.Test.YtpjcjadcikeibaaGreatDoorTakes
import Derived.RangeFuncNested
import Derived.RangeFuncBound
import Derived.RangeFuncCalls
import Derived.RangeFuncLeaves
import Derived.Shelf.Abstract
import Derived.Shelf.RegionOpen
import Derived.OwnWalkIn
import Derived.TacticsInMore
import Derived.LoopNIn
import Derived.LoopIn
namespace Go.Proofs.YtpjcjadcikeibaaGreatDoor
open Go.RowKit Go.Shelf
attribute [local go_sem] Oper.semAt_some
/-- An hour at which a piece can have been left. -/
abbrev Hr (a b : Nat) : Type := { x : Nat // a ≤ x ∧ x ≤ b }
def Sty.row (s : Sty) : Obj := .cells #[.int .i64 s.kind, .int .i64 s.lmin, .int .i64 s.lmax, .int .i64 s.fmin, .int .i64 s.fmax] 41 (0, 0)
theorem sty_cells {w : World} {B : Nat} {s : Sty} (h : w.heap[B]? = some s.row) : w.cell? ⟨B, 0, none⟩ = some (.int .i64 s.kind) ∧ w.cell? ⟨B, 1, none⟩ = some (.int .i64 s.lmin) ∧ w.cell? ⟨B, 2, none⟩ = some (.int .i64 s.lmax) ∧ w.cell? ⟨B, 3, none⟩ = some (.int .i64 s.fmin) ∧ w.cell? ⟨B, 4, none⟩ = some (.int .i64 s.fmax) := by
  unfold Sty.row at h
  refine ⟨?_, ?_, ?_, ?_, ?_⟩ <;> simp [World.cell?, h]
/-- What the iterator reads stands as it stood. -/
def KpB (Bn : Nat) (A B : World) : Prop := ∀ o, A.heap[Bn]? = some o → B.heap[Bn]? = some o
/-- The first k hours have come. -/
def Come (a b : Nat) (pre : List (Hr a b)) (k : Nat) : Prop := pre.map (·.1) = (List.range k).map (a + ·)
theorem Come.length {a b : Nat} {pre : List (Hr a b)} {k : Nat} (h : Come a b pre k) : pre.length = k := by
  have := congrArg List.length h
  simpa using this
theorem Come.snoc {a b : Nat} {pre : List (Hr a b)} {k : Nat} (h : Come a b pre k) (x : Hr a b) (hx : x.1 = a + k) : Come a b (pre ++ [x]) (k + 1) := by
  unfold Come at h ⊢
  rw [List.map_append, h, List.range_succ, List.map_append]
  simp [hx]
set_option maxRecDepth 100000 in
set_option maxHeartbeats 4000000 in
theorem cases1_in (F : Fence) (n : Nat) (h33 : F.fn 33) (hro : F.round = none) (hn : 1 ≤ n) (l Bn : Nat) (s : Sty) (hs1 : s.lmin ≤ s.lmax) (hs2 : s.lmax < s.fmin) (hs3 : s.fmin = s.fmax) (hs4 : s.fmax ≤ 119)
    (J Jx : List (Hr s.lmin s.lmax) → World → Prop)
    (hY : ∀ pre (x : Hr s.lmin s.lmax) W, J pre W → pre.length < s.lmax - s.lmin + 1 → YieldAt F (n - 1) Tryz.prog l #[.agg #[.int .i64 x.1, .int .i64 s.fmax]] W fun e W' =>
      (e = .returned (.bool true) ∧ J (pre ++ [x]) W' ∧ KpB Bn W W') ∨ (e = .returned (.bool false) ∧ Jx (pre ++ [x]) W'))
    (W : World) (hrow : W.heap[Bn]? = some s.row) (h0 : J [] W) :
    CallsIn F n Tryz.prog 33 #[.func (.yield l) #[] #[], .pointer (some ⟨Bn, 0, none⟩)] W fun e W' => (∃ v, e = .returned v) ∧
      ((∃ ys, Come s.lmin s.lmax ys (s.lmax - s.lmin + 1) ∧ J ys W') ∨ (∃ pre : List (Hr s.lmin s.lmax), True ∧ Jx pre W')) := by
  have hnot : ∀ (x : Bool) (w : World), (Op.unary .not (.bool x)).run Tryz.prog w = .ok (.bool (!x)) w := fun _ _ => rfl
  refine callsIn_of_wp Tryz.func33 rfl h33 ?_ hro
  obtain ⟨x0, x1, x2, x3, x4⟩ := sty_cells hrow
  have HROW := Lib.hid hrow
  have H0 := Lib.hid h0
  have HY := Lib.hid hY
  clear hrow h0 hY
  simp only [Tryz.ntmps33, List.size_toArray, List.length_cons, List.length_nil, Nat.reduceAdd, Nat.reduceSub, Array.replicate_succ, Array.replicate_zero, List.push_toArray, List.append_toArray, List.nil_append, List.cons_append]
  gi_wp2
  gi_loopw [14] (fun i wr => ∃ (k : Nat) (pre : List (Hr s.lmin s.lmax)), i = .int .i64 k ∧ k ≤ s.lmax - s.lmin + 1 ∧ Come s.lmin s.lmax pre k ∧ J pre wr ∧ wr.heap[Bn]? = some s.row) (fun i _ => (s.lmax - s.lmin + 1 - intOf i).toNat)
  case atStart => exact ⟨0, [], rfl, by omega, rfl, H0.out, HROW.out⟩
  case round =>
    clear x0 x1 x2 x3 x4 H0 HROW
    obtain ⟨k, pre, rfl, hk, hC, hJ, hrow⟩ := hrel
    obtain ⟨x0, x1, x2, x3, x4⟩ := sty_cells hrow
    by_cases hlt : k < s.lmax - s.lmin + 1
    · have hlt' : (k : Int) < s.lmax - s.lmin + 1 := by omega
      have HC := Lib.hid hC
      have HJ := Lib.hid hJ
      have HROW := Lib.hid hrow
      clear hC hJ hrow
      obtain ⟨L, hL⟩ : ∃ L, L = s.lmin + k := ⟨_, rfl⟩
      have hL1 : L ≤ s.lmax := by omega
      have hL2 : s.lmin ≤ L := by omega
      have hLe : (s.lmin : Int) + k = L := by omega
      have hLh : (L : Int) < s.fmax := by omega
      have HL := Lib.hid hL
      clear hL
      gi_wp2
      gi_loopw [5] (fun i wq => ((i = .int .i64 s.fmax ∧ J pre wq) ∨ (i = .int .i64 (s.fmax + 1) ∧ J (pre ++ [⟨L, hL2, hL1⟩]) wq)) ∧ wq.heap[Bn]? = some s.row) (fun i _ => (s.fmax + 1 - intOf i).toNat)
      case atStart => exact ⟨.inl ⟨rfl, HJ.out⟩, HROW.out⟩
      case round =>
        obtain ⟨wq, rfl⟩ : ∃ wq : World, wq = wr := ⟨_, rfl⟩
        clear HJ HROW x0 x1 x2 x3 x4
        obtain ⟨hJ, hrow⟩ := hrel
        obtain ⟨x0, x1, x2, x3, x4⟩ := sty_cells hrow
        have HROW := Lib.hid hrow
        clear hrow
        rcases hJ with ⟨rfl, hJ⟩ | ⟨rfl, hJ⟩
        · obtain ⟨fn, tmps, assign, body, hy, hR⟩ := HY.out pre ⟨L, hL2, hL1⟩ wq hJ (by rw [HC.out.length]; exact hlt)
          have HR := Lib.hid hR
          clear hR hJ
          dsimp only at hy
          gi_wp2
          refine HR.out.mono ?_
          rintro e W3 (⟨rfl, hJ3, hk3⟩ | ⟨rfl, hJx3⟩)
          · have HJ3 := Lib.hid hJ3
            have HR3 := Lib.hid (hk3 _ HROW.out)
            clear hJ3 hk3 x0 x1 x2 x3 x4
            gi_wp2
            go_roundw
            case rel => exact ⟨.inr ⟨by simp, HJ3.out⟩, HR3.out⟩
            case measure => simp [intOf]
          · have HJ3 := Lib.hid hJx3
            clear hJx3
            gi_wp2
            refine bodyPost_ret (results_none rfl _ _ _) rfl ?_
            exact ⟨⟨_, rfl⟩, .inr ⟨_, trivial, HJ3.out⟩⟩
        · have HJ := Lib.hid hJ
          clear hJ
          have hn1 : ¬ ((s.fmax : Int) + 1 ≤ s.fmax) := by omega
          gi_wp2
          go_roundw
          case rel => exact ⟨k + 1, _, by simp, by omega, HC.out.snoc _ HL.out, HJ.out, HROW.out⟩
          case measure => simp [intOf]; omega
    · have hlt' : ¬ (k : Int) < s.lmax - s.lmin + 1 := by omega
      gi_wp2
      go_end0
      obtain rfl : k = s.lmax - s.lmin + 1 := by omega
      exact ⟨⟨_, rfl⟩, .inl ⟨pre, hC, hJ⟩⟩
set_option maxHeartbeats 1000000 in
theorem cases_in (F : Fence) (n : Nat) (h20 : F.fn 20) (hro : F.round = none) (s : Sty) (w : World) :
    CallsIn F n Tryz.prog 20 #[.agg #[.int .i64 s.kind, .int .i64 s.lmin, .int .i64 s.lmax, .int .i64 s.fmin, .int .i64 s.fmax]] w fun e w' => e = .returned (.func (.func 33) #[] #[.pointer (some ⟨w.heap.size, 0, none⟩)]) ∧ w' = w.alloc s.row := by
  have hmf : ∀ (fn : Fn) (first cap : Array Value) (w : World), (Instr.makeFunc fn first cap).run Tryz.prog w = .ok (.func fn first cap) w := fun _ _ _ _ => rfl
  refine callsIn_of_wp Tryz.func20 rfl h20 ?_ hro
  simp only [Tryz.ntmps20, List.size_toArray, List.length_cons, List.length_nil, Nat.reduceAdd, Nat.reduceSub, Array.replicate_succ, Array.replicate_zero, List.push_toArray, List.append_toArray, List.nil_append, List.cons_append]
  gi_wp2
  go_ret
  exact ⟨rfl, rfl⟩
theorem cases_stops (F : Fence) (n : Nat) (h33 : F.fn 33) (hro : F.round = none) (hn : 1 ≤ n) (Bn : Nat) (s : Sty) (hs1 : s.lmin ≤ s.lmax) (hs2 : s.lmax < s.fmin) (hs3 : s.fmin = s.fmax) (hs4 : s.fmax ≤ 119) (w : World)
    (hBn : Bn < w.heap.size) (hrow : w.heap[Bn]? = some s.row) :
    SeqStopsK F n Tryz.prog 33 #[.pointer (some ⟨Bn, 0, none⟩)] (fun x : Hr s.lmin s.lmax => #[Value.agg #[.int .i64 x.1, .int .i64 s.fmax]]) (KpB Bn) (fun ys => Come s.lmin s.lmax ys (s.lmax - s.lmin + 1)) (fun _ => True) (s.lmax - s.lmin + 1) w := fun l J Jx W hW _ _ hY h0 =>
  cases1_in F n h33 hro hn l Bn s hs1 hs2 hs3 hs4 J Jx hY W ((hW.block Bn hBn).trans hrow) h0
end Go.Proofs.YtpjcjadcikeibaaGreatDoor
