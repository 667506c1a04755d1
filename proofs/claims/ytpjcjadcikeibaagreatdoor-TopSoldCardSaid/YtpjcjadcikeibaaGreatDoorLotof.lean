import Derived.Test.YtpjcjadcikeibaaGreatDoorTarof
import Derived.Deep.DeepCutAuto
namespace Go.Proofs.YtpjcjadcikeibaaGreatDoor
open Go.RowKit

def lotRow (k m M t x X : Int) : Obj := .cells #[.int .i64 k, .int .i64 m, .int .i64 M, .int .i64 t, .int .i64 x, .int .i64 X] 36 (0, 0)
/-- A lot in the making, at L; the place of the result at Z. -/
structure LW (b g L Z : Nat) (k m M t x X : Int) (w wr : World) : Prop where
  row : wr.heap[L]? = some (lotRow k m M t x X)
  res : wr.heap[Z]? = some (lotRow 0 0 0 0 0 0)
  tin : TinAt wr b g
  grown : w.grownBy wr (some b)
  z : Z = w.heap.size
  zl : Z < L
  bz : b < Z
theorem LW.tn {b g g' L Z : Nat} {k m M t x X : Int} {w w1 w2 : World} (h : LW b g L Z k m M t x X w w1) (hn : Tn b g' w1 w2) : LW b g' L Z k m M t x X w w2 :=
  ⟨blk hn.1 (by have := h.zl; have := h.bz; simp; omega) h.row, blk hn.1 (by have := h.bz; simp; omega) h.res, hn.2, h.grown.trans hn.1, h.z, h.zl, h.bz⟩
theorem LW.alloc {b g L Z : Nat} {k m M t x X : Int} {w w1 : World} (h : LW b g L Z k m M t x X w w1) (o : Obj) : LW b g L Z k m M t x X w (w1.alloc o) :=
  ⟨blk_alloc h.row, blk_alloc h.res, h.tin.alloc o, h.grown.trans (World.grownBy_alloc _ _ _), h.z, h.zl, h.bz⟩
theorem LW.drew {b g L Z : Nat} {k m M t x X : Int} {w w1 : World} (h : LW b g L Z k m M t x X w w1) : LW b g L Z k m M t x X w w1.drew :=
  ⟨h.row, h.res, h.tin, h.grown.trans (grownBy_drew _ _), h.z, h.zl, h.bz⟩
theorem LW.set {b g L Z o : Nat} {k m M t x X k' m' M' t' x' X' v : Int} {w w1 : World} (h : LW b g L Z k m M t x X w w1)
    (he : (#[.int .i64 k, .int .i64 m, .int .i64 M, .int .i64 t, .int .i64 x, .int .i64 X] : Array Value).setIfInBounds o (.int .i64 v) = #[.int .i64 k', .int .i64 m', .int .i64 M', .int .i64 t', .int .i64 x', .int .i64 X']) :
    LW b g L Z k' m' M' t' x' X' w (w1.setCell ⟨L, o, none⟩ (.int .i64 v)) := by
  have hz := h.zl
  refine ⟨by rw [row_setCell h.row, he]; rfl, blk (grownBy_set w1 L o _) (by simp; omega) h.res, h.tin.set (by have := h.bz; omega), gown h.grown (grownBy_set _ _ _ _) (by rintro j e; cases e; have := h.z; omega), h.z, h.zl, h.bz⟩
theorem LW.cells {b g L Z : Nat} {k m M t x X : Int} {w w1 : World} (h : LW b g L Z k m M t x X w w1) :
    w1.cell? ⟨L, 0, none⟩ = some (.int .i64 k) ∧ w1.cell? ⟨L, 1, none⟩ = some (.int .i64 m) ∧ w1.cell? ⟨L, 2, none⟩ = some (.int .i64 M) ∧ w1.cell? ⟨L, 3, none⟩ = some (.int .i64 t) ∧ w1.cell? ⟨L, 4, none⟩ = some (.int .i64 x) ∧ w1.cell? ⟨L, 5, none⟩ = some (.int .i64 X) := by
  have := h.row
  unfold lotRow at this
  refine ⟨?_, ?_, ?_, ?_, ?_, ?_⟩ <;> simp [World.cell?, this]
theorem LW.thaw {b g L Z : Nat} {k m M t x X : Int} {w w1 : World} (h : LW b g L Z k m M t x X w w1) (o : Nat) : w1.frozen? ⟨L, o, none⟩ = false := by
  have := h.row
  unfold lotRow at this
  simp [World.frozen?, this]

/-- What LotOf gives. -/
structure LotOk (n : Int) (k m M t x X : Int) : Prop where
  k0 : 0 ≤ k
  k1 : k < n
  m0 : 0 ≤ m
  mM : m ≤ M
  M1 : M ≤ 119
  t0 : 1 ≤ t
  t1 : t ≤ 4
  x0 : 0 ≤ x
  xX : x ≤ X
  X1 : X ≤ 40
def LotRes (b g : Nat) (n : Int) (w : World) (e : Ending) (w' : World) : Prop := ∃ k m M t x X, e = .returned (.agg #[.int .i64 k, .int .i64 m, .int .i64 M, .int .i64 t, .int .i64 x, .int .i64 X]) ∧ LotOk n k m M t x X ∧ Tn b (g + 11) w w'

theorem LW.fin {b g L Z : Nat} {n k m M t x X : Int} {w wr : World} (h : LW b (g + 11) L Z k m M t x X w wr) (ho : LotOk n k m M t x X) :
    ∃ W, W = ((((((wr.setCell ⟨Z, 0, none⟩ (.int .i64 k)).setCell ⟨Z, 1, none⟩ (.int .i64 m)).setCell ⟨Z, 2, none⟩ (.int .i64 M)).setCell ⟨Z, 3, none⟩ (.int .i64 t)).setCell ⟨Z, 4, none⟩ (.int .i64 x)).setCell ⟨Z, 5, none⟩ (.int .i64 X)) ∧
      W.heap[Z]? = some (.cells #[.int .i64 k, .int .i64 m, .int .i64 M, .int .i64 t, .int .i64 x, .int .i64 X] 36 (0, 0)) ∧ LotRes b g n w (.returned (.agg #[.int .i64 k, .int .i64 m, .int .i64 M, .int .i64 t, .int .i64 x, .int .i64 X])) W := by
  have BZ := h.res
  have hk := (((((grownBy_set wr Z 0 (.int .i64 k)).trans (grownBy_set _ Z 1 (.int .i64 m))).trans (grownBy_set _ Z 2 (.int .i64 M))).trans (grownBy_set _ Z 3 (.int .i64 t))).trans (grownBy_set _ Z 4 (.int .i64 x))).trans (grownBy_set _ Z 5 (.int .i64 X))
  refine ⟨_, rfl, by rw [row_setCell (row_setCell (row_setCell (row_setCell (row_setCell (row_setCell BZ)))))]; rfl, _, _, _, _, _, _, rfl, ho, gown h.grown hk (by rintro j e; cases e; have := h.z; omega), ?_⟩
  exact h.tin.kept hk (by rintro B e; cases e; exact h.bz)

set_option maxRecDepth 100000 in
set_option maxHeartbeats 1600000 in
theorem lotof_any (b g : Nat) (n : Int) (w : World) (ht : TinAt w b g) (hg : g < 1000000) (hn1 : 1 ≤ n) (hn3 : n ≤ 3) :
    Calls Tryz.prog 15 #[.pointer (some ⟨b, 0, none⟩), .int .i64 n] w (LotRes b g n w) := by
  have hbw := ht.lt
  have HN : Hid (TinAt w b g) := Lib.hid ht
  clear ht
  go_enter Tryz.func15, Tryz.ntmps15
  go_upto_region 2 with (first
    | (go_at_call 6; go_must (refine (upto_any b g _ _ (by exact HN.out.alloc _) (by omega) (by omega)).mono ?_); rintro e w1 ⟨u1, ⟨ha1, hb1⟩, rfl, HN0, HS0⟩; have hz1 := HN0.1.size; have HN1 := Lib.hid HN0; clear HN0 HS0)
    | (go_at_call 27; go_must (refine (within_any b _ _ _ _ (by exact HN1.out.2) (by omega) (by omega) (by omega) (by omega) (by omega) (by omega)).mono ?_); rintro e w2 ⟨u2, ⟨ha2, hb2⟩, rfl, HN0, HS0⟩; have hz2 := HN0.1.size; have HN2 := Lib.hid HN0; clear HN0 HS0)
    | (go_at_call 14; go_must (refine (either_any b _ _ [1, 1, 2, 2, u2] _ (by exact HN2.out.2.alloc _) (by omega) (by exact Ints.laid _ [1, 1, 2, 2, u2] 5 rfl (by have := HN2.out.2.lt; omega) (by simp)) (by simp) (by simp)).mono ?_); rintro e w3 ⟨u3, hm3, rfl, HN0, HS0⟩; have hz3 := HN0.1.size; have hu3 : 1 ≤ u3 ∧ u3 ≤ 4 := (by simp at hm3; omega); have HN3 := Lib.hid HN0; clear HN0 HS0 hm3))
  have hz0 : w.heap.size < w3.heap.size := by have := HN3.out.1.size; have := HN2.out.1.size; have := HN1.out.1.size; simp at *; omega
  obtain ⟨L, hL⟩ : ∃ L, L = w3.heap.size := ⟨_, rfl⟩
  have LA : LW b (g + 3) L w.heap.size u1 0 0 u3 0 0 w (w3.alloc (lotRow u1 0 0 u3 0 0)) := by
    have hbb : some w.heap.size ≠ some b := by simp; omega
    refine ⟨by rw [hL]; exact heap_alloc_new w3 _, ?_, HN3.out.2.alloc _, ?_, rfl, by omega, hbw⟩
    · exact blk_alloc (blk HN3.out.1 hbb (blk_alloc (blk HN2.out.1 hbb (blk HN1.out.1 hbb (heap_alloc_new w _)))))
    · exact ((((((World.grownBy_alloc w _ _).trans HN1.out.1).trans HN2.out.1).trans (World.grownBy_alloc _ _ _)).trans HN3.out.1)).trans (World.grownBy_alloc _ _ _)
  have hbL : b < L := by have := LA.bz; have := LA.zl; omega
  rw [← hL]
  unfold lotRow at LA
  have HLA := Lib.hid LA
  clear LA hL
  revert HLA
  generalize w3.alloc (.cells #[.int .i64 u1, .int .i64 0, .int .i64 0, .int .i64 u3, .int .i64 0, .int .i64 0] 36) = wa
  intro HLA
  clear HN1 HN2 HN3 hz1 hz2 hz3 hz0
  go_upto_region 3 with (first
    | (go_at_call 14; go_must (refine (either_any b _ _ [20, 60, 119] _ (by exact (HLA.out.alloc _).tin) (by omega) (by exact Ints.laid _ [20, 60, 119] 3 rfl (by have := HLA.out.tin.lt; omega) (by simp)) (by simp) (by simp)).mono ?_); rintro e w4 ⟨u4, hm4, rfl, HN0, HS0⟩; have hu4 : 20 ≤ u4 ∧ u4 ≤ 119 := (by simp at hm4; omega); have HL4 := Lib.hid ((HLA.out.alloc _).tn HN0); clear HN0 HS0 hm4)
    | (go_at_call 6; go_must (refine (upto_any b _ _ _ (by exact HL4.out.tin) (by omega) (by omega)).mono ?_); rintro e w5 ⟨u5, ⟨ha5, hb5⟩, rfl, HN0, HS0⟩; have hf5 := (HL4.out.tn HN0).thaw 1; have hc5 := (HL4.out.tn HN0).cells.2.1; have HL5 := Lib.hid (HL4.out.tn HN0); clear HN0 HS0))
  have HLB := Lib.hid (HL5.out.set (o := 1) (v := u5) (k' := u1) (m' := u5) (M' := 0) (t' := u3) (x' := 0) (X' := 0) rfl)
  revert HLB
  generalize w5.setCell ⟨L, 1, none⟩ (.int .i64 u5) = wb
  intro HLB
  clear HL4 HL5 HLA
  have hu5 : u5 ≤ 119 := by omega
  have cb : wb.cell? ⟨L, 1, none⟩ = some (.int .i64 u5) := HLB.out.cells.2.1
  go_region_held3 (fun w' => w'.cell? ⟨L, 1, none⟩ = some (.int .i64 u5)) (first | go_keep | (exact HL6.out.cells.2.1) | (exact HL7.out.cells.2.1) | (rw [World.cell?_setCell_other _ _ _ _ (by simp)]; assumption) | (rw [World.cell?_setCell_other _ _ _ _ (by simp)]; exact HL7.out.cells.2.1))
    (first
      | (go_at_call 6; refine (upto_any b _ _ _ (by exact HLB.out.drew.tin) (by omega) (by omega)).mono ?_; rintro e w6 ⟨u6, ⟨ha6, hb6⟩, rfl, HN0, HS0⟩; have HL6 := Lib.hid (HLB.out.drew.tn HN0); clear HN0 HS0)
      | (go_at_call 14; refine (either_any b _ _ [0, 0, u6] _ (by exact (HL6.out.alloc _).tin) (by omega) (by exact Ints.laid _ [0, 0, u6] 3 rfl (by have := HL6.out.tin.lt; omega) (by simp)) (by simp) (by simp)).mono ?_; rintro e w7 ⟨u7, hm7, rfl, HN0, HS0⟩; have hu7 : 0 ≤ u7 ∧ u7 ≤ 30 := (by simp at hm7; omega); have HL7 := Lib.hid ((HL6.out.alloc _).tn HN0); have hf7 := HL7.out.thaw 2; have hc7 := HL7.out.cells.2.2.1; have hw7 : IntKind.i64.wrap (u5 + u7) = u5 + u7 := IntWalk.i64_in _ (by omega); clear HN0 HS0 hm7))
  have hu8 : u5 ≤ (if u5 + u7 < 119 then u5 + u7 else 119) ∧ (if u5 + u7 < 119 then u5 + u7 else 119) ≤ 119 := by split <;> omega
  revert hu8 hc7 hf7
  generalize (if u5 + u7 < 119 then u5 + u7 else 119) = u8
  intro hc7 hf7 hu8
  have HLC := Lib.hid (HL7.out.set (o := 2) (v := u8) (k' := u1) (m' := u5) (M' := u8) (t' := u3) (x' := 0) (X' := 0) rfl)
  revert HLC
  clear hw7 hc7 hf7
  generalize w7.setCell ⟨L, 2, none⟩ (.int .i64 u8) = wc
  intro HLC
  clear HL6 HL7 HLB cb
  go_upto_region 5 with (first
    | (go_at_call 14; go_must (refine (either_any b _ _ [5, 15, 40] _ (by exact (HLC.out.alloc _).tin) (by omega) (by exact Ints.laid _ [5, 15, 40] 3 rfl (by have := HLC.out.tin.lt; omega) (by simp)) (by simp) (by simp)).mono ?_); rintro e w9 ⟨u9, hm9, rfl, HN0, HS0⟩; have hu9 : 5 ≤ u9 ∧ u9 ≤ 40 := (by simp at hm9; omega); have HL9 := Lib.hid ((HLC.out.alloc _).tn HN0); clear HN0 HS0 hm9)
    | (go_at_call 6; go_must (refine (upto_any b _ _ _ (by exact HL9.out.tin) (by omega) (by omega)).mono ?_); rintro e w10 ⟨u10, ⟨ha10, hb10⟩, rfl, HN0, HS0⟩; have hf10 := (HL9.out.tn HN0).thaw 4; have hc10 := (HL9.out.tn HN0).cells.2.2.2.2.1; have HL10 := Lib.hid (HL9.out.tn HN0); clear HN0 HS0))
  have HLD := Lib.hid (HL10.out.set (o := 4) (v := u10) (k' := u1) (m' := u5) (M' := u8) (t' := u3) (x' := u10) (X' := 0) rfl)
  revert HLD
  generalize w10.setCell ⟨L, 4, none⟩ (.int .i64 u10) = wd
  intro HLD
  clear HL9 HL10 HLC hf10 hc10
  have hu10 : u10 ≤ 40 := by omega
  have cd : wd.cell? ⟨L, 4, none⟩ = some (.int .i64 u10) := HLD.out.cells.2.2.2.2.1
  go_region_held3 (fun w' => w'.cell? ⟨L, 4, none⟩ = some (.int .i64 u10)) (first | go_keep | (exact HL11.out.cells.2.2.2.2.1) | (exact HL12.out.cells.2.2.2.2.1) | (rw [World.cell?_setCell_other _ _ _ _ (by simp)]; assumption) | (rw [World.cell?_setCell_other _ _ _ _ (by simp)]; exact HL12.out.cells.2.2.2.2.1))
    (first
      | (go_at_call 6; refine (upto_any b _ _ _ (by exact HLD.out.drew.tin) (by omega) (by omega)).mono ?_; rintro e w11 ⟨u11, ⟨ha11, hb11⟩, rfl, HN0, HS0⟩; have HL11 := Lib.hid (HLD.out.drew.tn HN0); clear HN0 HS0)
      | (go_at_call 14; refine (either_any b _ _ [0, u11] _ (by exact (HL11.out.alloc _).tin) (by omega) (by exact Ints.laid _ [0, u11] 2 rfl (by have := HL11.out.tin.lt; omega) (by simp)) (by simp) (by simp)).mono ?_; rintro e w12 ⟨u12, hm12, rfl, HN0, HS0⟩; have hu12 : 0 ≤ u12 ∧ u12 ≤ 6 := (by simp at hm12; omega); have HL12 := Lib.hid ((HL11.out.alloc _).tn HN0); have hf12 := HL12.out.thaw 5; have hc12 := HL12.out.cells.2.2.2.2.2; have hw12 : IntKind.i64.wrap (u10 + u12) = u10 + u12 := IntWalk.i64_in _ (by omega); clear HN0 HS0 hm12))
  have hu13 : u10 ≤ (if u10 + u12 < 40 then u10 + u12 else 40) ∧ (if u10 + u12 < 40 then u10 + u12 else 40) ≤ 40 := by split <;> omega
  revert hu13 hc12 hf12
  generalize (if u10 + u12 < 40 then u10 + u12 else 40) = u13
  intro hc12 hf12 hu13
  have HLE := Lib.hid (HL12.out.set (o := 5) (v := u13) (k' := u1) (m' := u5) (M' := u8) (t' := u3) (x' := u10) (X' := u13) rfl)
  revert HLE
  clear hw12 hc12 hf12
  generalize w12.setCell ⟨L, 5, none⟩ (.int .i64 u13) = we
  intro HLE
  clear HL11 HL12 HLD cd
  have BZ := HLE.out.res
  unfold lotRow at BZ
  obtain ⟨c0, c1, c2, c3, c4, c5⟩ := HLE.out.cells
  have z0 : we.cell? ⟨w.heap.size, 0, none⟩ = some (.int .i64 0) := by simp [World.cell?, BZ]
  have z1 : we.cell? ⟨w.heap.size, 1, none⟩ = some (.int .i64 0) := by simp [World.cell?, BZ]
  have z2 : we.cell? ⟨w.heap.size, 2, none⟩ = some (.int .i64 0) := by simp [World.cell?, BZ]
  have z3 : we.cell? ⟨w.heap.size, 3, none⟩ = some (.int .i64 0) := by simp [World.cell?, BZ]
  have z4 : we.cell? ⟨w.heap.size, 4, none⟩ = some (.int .i64 0) := by simp [World.cell?, BZ]
  have z5 : we.cell? ⟨w.heap.size, 5, none⟩ = some (.int .i64 0) := by simp [World.cell?, BZ]
  have fz : ∀ o, we.frozen? ⟨w.heap.size, o, none⟩ = false := fun o => by simp [World.frozen?, BZ]
  clear BZ
  obtain ⟨W, hW, BW, hRES⟩ := LW.fin (n := n) (g := g) HLE.out (by constructor <;> omega)
  have HRES := Lib.hid hRES
  have HBW := Lib.hid BW
  have HW := Lib.hid hW
  clear hRES BW hW
  go_wp2
  rw [← HW.out]
  refine bodyPost_ret (v := .agg #[.int .i64 u1, .int .i64 u5, .int .i64 u8, .int .i64 u3, .int .i64 u10, .int .i64 u13]) (by simp [results, Tryz.results15, go_sem, World.cell?, HBW.out]) rfl ?_
  exact HRES.out
end Go.Proofs.YtpjcjadcikeibaaGreatDoor
