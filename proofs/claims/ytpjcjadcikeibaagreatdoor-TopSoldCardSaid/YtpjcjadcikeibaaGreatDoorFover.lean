import Derived.Test.YtpjcjadcikeibaaGreatDoorFoldf
namespace Go.Proofs.YtpjcjadcikeibaaGreatDoor
open Go.RowKit Go.Shelf
attribute [local go_sem] Oper.semAt_some
/-- What stands between two rounds. -/
def OvI (w : World) (B N Q p K a b h : Nat) (T : Tar) (fv rv ev : Value) (pre : List (Hr a b)) (W : World) : Prop :=
  ((W.heap[B + 1]? = some (Sty.row ⟨K, a, b, h, h⟩) ∧ W.heap[B + 1 + 1]? = some (.cells #[.int .i64 p] 3 (0, 0))) ∧ (W.heap[B + 1 + 1 + 1]? = some (.cells #[.int .i64 0, .int .i64 0] 34 (0, 0)) ∧ W.heap[N]? = some (.cells #[.pointer (some ⟨Q, 0, none⟩)] 64 (0, 0)))) ∧ (W.heap[N + 1]? = some (bndR (bfold p T K h pre)) ∧ TW W Q T fv rv ev) ∧ (W.heap[N + 2]? = some (Sty.row ⟨K, a, b, h, h⟩) ∧ w.grownBy W none)
theorem OvI.keep {w W W' : World} {B N Q p K a b h : Nat} {T : Tar} {fv rv ev : Value} {pre : List (Hr a b)} {row : Option Nat} (H : OvI w B N Q p K a b h T fv rv ev pre W) (hg : W.grownBy W' row) (hr : ∀ r, row = some r → N + 3 ≤ r) (hB : B = w.heap.size) (hBQ : B + 4 ≤ Q) (hQN : Q < N) : OvI w B N Q p K a b h T fv rv ev pre W' := by
  obtain ⟨⟨⟨h1, h2⟩, h3, h4⟩, ⟨h5, h6⟩, h7, h8⟩ := H
  have ne : ∀ k, k < N + 3 → some k ≠ row := fun k hk e => by have := hr k e.symm; omega
  refine ⟨⟨⟨blk hg (ne _ (by omega)) h1, blk hg (ne _ (by omega)) h2⟩, blk hg (ne _ (by omega)) h3, blk hg (ne _ (by omega)) h4⟩, ⟨blk hg (ne _ (by omega)) h5, h6.kept hg (fun R e => by have := hr R e; omega)⟩, blk hg (ne _ (by omega)) h7, h8.andThen hg (fun j e => .inl (by have := hr j e; omega))⟩
theorem OvI.own (w : World) (B N Q p K a b h : Nat) (T : Tar) (fv rv ev : Value) (hB : B = w.heap.size) (hBQ : B + 4 ≤ Q) (hQN : Q < N) : OwnFrom (N + 3) (OvI w B N Q p K a b h T fv rv ev) :=
  fun _ _ _ _ H hg hr => OvI.keep H hg (fun r e => (hr r e).1) hB hBQ hQN
theorem OvI.step {w W W2 W4 : World} {B N Q p K a b h : Nat} {T : Tar} {fv rv ev : Value} {pre : List (Hr a b)} (x : Hr a b) (H : OvI w B N Q p K a b h T fv rv ev pre W) (hg2 : W.drew.grownBy W2 (some Q)) (ht2 : TW W2 Q T fv rv ev)
    (fe : Int) (hfe : fe = T.fee K x.1 h) (h0 : 0 ≤ fe) (h1 : fe ≤ 45) (hp : p ≤ 999)
    (hg4 : W2.grownBy W4 (some (N + 1))) (hr4 : W4.heap[N + 1]? = some (bndR (bstep (bfold p T K h pre) (IntKind.i64.wrap (p - fe))))) (hB : B = w.heap.size) (hBQ : B + 4 ≤ Q) (hQN : Q < N) :
    KeepsFrom (N + 3) W W4 ∧ KpB (N + 2) W W4 ∧ OvI w B N Q p K a b h T fv rv ev (pre ++ [x]) W4 := by
  have hg : W.grownBy W2 (some Q) := (grownBy_drew W _).trans hg2
  have hw : IntKind.i64.wrap ((p : Int) - fe) = p - fe := IntWalk.i64_in _ (by omega)
  rw [hw, hfe, ← bfold_snoc] at hr4
  obtain ⟨⟨⟨a1, a2⟩, a3, a4⟩, ⟨a5, a6⟩, a7, a8⟩ := H
  have mv : ∀ {k : Nat} {o : Obj}, k ≠ Q → k ≠ N + 1 → W.heap[k]? = some o → W4.heap[k]? = some o := fun h2 h3 h4 => blk hg4 (by simp; omega) (blk hg (by simp; omega) h4)
  refine ⟨(KeepsFrom.of_grownBy hg (by rintro j e; cases e; omega)).trans (KeepsFrom.of_grownBy hg4 (by rintro j e; cases e; omega)), fun o ho => mv (by omega) (by omega) ho,
    ⟨⟨mv (by omega) (by omega) a1, mv (by omega) (by omega) a2⟩, mv (by omega) (by omega) a3, mv (by omega) (by omega) a4⟩, ⟨hr4, ht2.kept hg4 (by rintro R e; cases e; omega)⟩, mv (by omega) (by omega) a7,
    (a8.andThen hg (by rintro j e; cases e; exact .inl (by omega))).andThen hg4 (by rintro j e; cases e; exact .inl (by omega))⟩
set_option maxRecDepth 100000 in
set_option maxHeartbeats 4000000 in
theorem fover_any (lo hi : Nat) (T : Tar) (fa ra ea : Option Addr) (fm fc rm rc em ec : Nat) (K a b h : Nat) (p : Nat) (w : World)
    (hT : TarIn lo hi w (.agg #[.int .i64 T.kinds, .slice fa fm fc, .slice ra rm rc, .slice ea em ec]) T) (hV : T.Valid) (hhi : hi ≤ w.heap.size) (hk : K < T.kinds) (hab : a ≤ b) (hbh : b < h) (hh : h ≤ 119) (hp1 : p ≤ 999) :
    Calls Tryz.prog 8 #[.agg #[.int .i64 T.kinds, .slice fa fm fc, .slice ra rm rc, .slice ea em ec], .agg #[.int .i64 K, .int .i64 a, .int .i64 b, .int .i64 h, .int .i64 h], .int .i64 p] w fun e w' =>
      e = .returned (.tuple #[.agg #[.int .i64 (p - T.fee K a h), .int .i64 (p - T.fee K b h)], .int .i64 0]) ∧ w.grownBy w' none := by
  refine (callsIn_wide (n := 6)).1 ?_
  have h1 : 1 ≤ 6 := by omega
  refine callsIn_of_wp_marks Tryz.func8 rfl trivial ?_ rfl
  simp only [Tryz.ntmps8, List.size_toArray, List.length_cons, List.length_nil, Nat.reduceAdd, Nat.reduceSub, Array.replicate_succ, Array.replicate_zero, List.push_toArray, List.append_toArray, List.nil_append, List.cons_append]
  have HT := Lib.hid hT
  have HV := Lib.hid hV
  clear hT hV
  gi_wp2_with (fail)
  obtain ⟨w4, hw4⟩ : ∃ w4, w4 = (((w.alloc (.cells #[.int .i64 T.kinds, .slice fa fm fc, .slice ra rm rc, .slice ea em ec] 27)).alloc (.cells #[.int .i64 K, .int .i64 a, .int .i64 b, .int .i64 h, .int .i64 h] 41)).alloc (.cells #[.int .i64 p] 3)).alloc (.cells #[.int .i64 0, .int .i64 0] 34) := ⟨_, rfl⟩
  obtain ⟨B, hB⟩ : ∃ B, B = w.heap.size := ⟨_, rfl⟩
  have hg4 : w.grownBy w4 none := by rw [hw4]; exact (((World.grownBy_alloc _ _ _).trans (World.grownBy_alloc _ _ _)).trans (World.grownBy_alloc _ _ _)).trans (World.grownBy_alloc _ _ _)
  have r1 : w4.heap[B + 1]? = some (Sty.row ⟨K, a, b, h, h⟩) := by
    rw [hw4, hB]
    have := heap_alloc_new (w.alloc (.cells #[.int .i64 T.kinds, .slice fa fm fc, .slice ra rm rc, .slice ea em ec] 27)) (.cells #[.int .i64 K, .int .i64 a, .int .i64 b, .int .i64 h, .int .i64 h] 41)
    rw [World.size_alloc] at this
    exact blk_alloc (blk_alloc this)
  have r2 : w4.heap[B + 1 + 1]? = some (.cells #[.int .i64 p] 3 (0, 0)) := by
    rw [hw4, hB]
    have := heap_alloc_new ((w.alloc (.cells #[.int .i64 T.kinds, .slice fa fm fc, .slice ra rm rc, .slice ea em ec] 27)).alloc (.cells #[.int .i64 K, .int .i64 a, .int .i64 b, .int .i64 h, .int .i64 h] 41)) (.cells #[.int .i64 p] 3)
    rw [World.size_alloc, World.size_alloc] at this
    exact blk_alloc this
  have r3 : w4.heap[B + 1 + 1 + 1]? = some (.cells #[.int .i64 0, .int .i64 0] 34 (0, 0)) := by
    rw [hw4, hB]
    have := heap_alloc_new (((w.alloc (.cells #[.int .i64 T.kinds, .slice fa fm fc, .slice ra rm rc, .slice ea em ec] 27)).alloc (.cells #[.int .i64 K, .int .i64 a, .int .i64 b, .int .i64 h, .int .i64 h] 41)).alloc (.cells #[.int .i64 p] 3)) (.cells #[.int .i64 0, .int .i64 0] 34)
    rw [World.size_alloc, World.size_alloc, World.size_alloc] at this
    exact this
  have hs4 : w4.heap.size = B + 4 := by rw [hw4, hB]; simp
  rw [← hB, ← hw4]
  refine ⟨trivial, callsIn_wide.2 ((paying_any lo hi T fa ra ea fm fc rm rc em ec ⟨K, a, b, h, h⟩ p w4 (HT.out.kept hg4 (by simp)) HV.out ⟨hk, hab, Nat.le_trans (Nat.le_of_lt hbh) hh, Nat.le_refl _, hh, Nat.le_trans hab (Nat.le_of_lt hbh)⟩ (by omega) (by omega)).mono ?_)⟩
  rintro e w5 ⟨Q, rfl, hq, htw, hg5⟩
  have hQB : B + 4 ≤ Q := by omega
  have HB := Lib.hid hB
  have HG5 := Lib.hid (hg4.trans hg5)
  have R1 := Lib.hid (blk hg5 (by simp) r1)
  have R2 := Lib.hid (blk hg5 (by simp) r2)
  have R3 := Lib.hid (blk hg5 (by simp) r3)
  have HTW := Lib.hid htw
  clear hw4 hB hg4 r1 r2 r3 hs4 htw hg5 hq
  have hG6 : w5.grownBy ((w5.alloc (.cells #[.pointer (some ⟨Q, 0, none⟩)] 64)).alloc (.cells #[.int .i64 0, .int .i64 0, .bool false] 68)) none := (World.grownBy_alloc _ _ _).trans (World.grownBy_alloc _ _ _)
  obtain ⟨x0, x1, x2, x3, x4⟩ := sty_cells (blk hG6 (by simp) R1.out)
  have HG6 := Lib.hid hG6
  clear hG6
  gi_wp2_with (fail)
  obtain ⟨N, hN⟩ : ∃ N, N = w5.heap.size := ⟨_, rfl⟩
  obtain ⟨w6, hw6⟩ : ∃ w6, w6 = (w5.alloc (.cells #[.pointer (some ⟨Q, 0, none⟩)] 64)).alloc (.cells #[.int .i64 0, .int .i64 0, .bool false] 68) := ⟨_, rfl⟩
  have hg6 : w5.grownBy w6 none := by rw [hw6]; exact HG6.out
  have hQN : Q < N := by
    obtain ⟨D, cs, r, -⟩ := HTW.out
    have := (Array.getElem?_eq_some_iff.1 r).1
    omega
  have s6 : w6.heap.size = N + 2 := by rw [hw6, hN]; simp
  have rn : w6.heap[N]? = some (.cells #[.pointer (some ⟨Q, 0, none⟩)] 64 (0, 0)) := by rw [hw6, hN]; exact blk_alloc (heap_alloc_new w5 _)
  have rb : w6.heap[N + 1]? = some (bndR (0, 0, false)) := by
    rw [hw6, hN]
    have := heap_alloc_new (w5.alloc (.cells #[.pointer (some ⟨Q, 0, none⟩)] 64)) (.cells #[.int .i64 0, .int .i64 0, .bool false] 68)
    rw [World.size_alloc] at this
    exact this
  have HGW := Lib.hid (HG5.out.trans hg6)
  have S1 := Lib.hid (blk hg6 (by simp) R1.out)
  have S2 := Lib.hid (blk hg6 (by simp) R2.out)
  have S3 := Lib.hid (blk hg6 (by simp) R3.out)
  have SN := Lib.hid rn
  have SB := Lib.hid rb
  have HT6 := Lib.hid (HTW.out.kept hg6 (by simp))
  have HS6 := Lib.hid s6
  rw [← hN, ← hw6]
  clear x0 x1 x2 x3 x4 HG6 hN hw6 hg6 s6 rn rb R1 R2 R3 HTW HG5
  refine ⟨trivial, (cases_in Fence.wide 5 trivial rfl ⟨K, a, b, h, h⟩ w6).mono ?_⟩
  rintro e w' ⟨rfl, rfl⟩
  gi_wp2_with (fail)
  obtain ⟨W0, hW0⟩ : ∃ W0, W0 = w6.alloc (Sty.row ⟨K, a, b, h, h⟩) := ⟨_, rfl⟩
  rw [HS6.out, ← hW0]
  have hg0 : w6.grownBy W0 none := by rw [hW0]; exact World.grownBy_alloc _ _ _
  have s0 : W0.heap.size = N + 3 := by rw [hW0]; simp [HS6.out]
  have rcs : W0.heap[N + 2]? = some (Sty.row ⟨K, a, b, h, h⟩) := by rw [hW0, ← HS6.out]; exact heap_alloc_new _ _
  have HI0 : OvI w B N Q p K a b h T (.slice fa fm fc) (.slice ra rm rc) (.slice ea em ec) [] W0 :=
    ⟨⟨⟨blk hg0 (by simp) S1.out, blk hg0 (by simp) S2.out⟩, blk hg0 (by simp) S3.out, blk hg0 (by simp) SN.out⟩, ⟨blk hg0 (by simp) SB.out, HT6.out.kept hg0 (by simp)⟩, rcs, HGW.out.trans hg0⟩
  clear hW0 hg0 S1 S2 S3 SN SB HT6 HS6 HGW
  have hst := cases_stops Fence.wide (6 - 1) trivial rfl (by omega) (N + 2) ⟨K, a, b, h, h⟩ hab hbh rfl hh W0 (by omega) rcs
  refine wpIn_rangeFunc_ownH (F := Fence.wide) rfl h1 (gf := 33) (lb := #[.pointer (some ⟨N + 2, 0, none⟩)]) rfl trivial (enters_of Tryz.func33 (by kernel_rfl) rfl)
    hst (fun h k o ho => k o (h o ho)) (fun W l o o' hl _ _ _ o2 ho2 => (World.putObj_heap_other (by omega)).trans ho2) (Below.refl _ _) (fun _ => rfl)
    (OvI w B N Q p K a b h T (.slice fa fm fc) (.slice ra rm rc) (.slice ea em ec))
    (fun _ _ _ => False)
    (by rw [s0]; exact OvI.own w B N Q p K a b h T _ _ _ HB.out hQB hQN)
    (fun _ _ _ _ _ hs _ _ => hs)
    HI0
    (fun x a' W => ∃ C, N + 2 < C ∧ W.heap[C]? = some (.cells #[.int .i64 x.1, .int .i64 h] 73 (0, 0)) ∧ a' = { tmps := #[.agg #[.int .i64 T.kinds, .slice fa fm fc, .slice ra rm rc, .slice ea em ec], .agg #[.int .i64 K, .int .i64 a, .int .i64 b, .int .i64 h, .int .i64 h], .int .i64 p, .pointer (some ⟨B, 0, none⟩), .pointer (some ⟨B + 1, 0, none⟩), .pointer (some ⟨B + 1 + 1, 0, none⟩), .pointer (some ⟨B + 1 + 1 + 1, 0, none⟩), .int .i64 0, .pointer (some ⟨N, 0, none⟩), .int .i64 0, .pointer (some ⟨N + 1, 0, none⟩), .pointer (some ⟨C, 0, none⟩), .tuple #[.pointer (some ⟨Q, 0, none⟩), .int .i64 0], .agg #[.int .i64 T.kinds, .slice fa fm fc, .slice ra rm rc, .slice ea em ec], .agg #[.int .i64 K, .int .i64 a, .int .i64 b, .int .i64 h, .int .i64 h], .int .i64 p, .tuple #[.pointer (some ⟨Q, 0, none⟩), .int .i64 0], .pointer (some ⟨Q, 0, none⟩), .int .i64 0, .int .i64 0, .bool false, undef, undef, .agg #[.int .i64 K, .int .i64 a, .int .i64 b, .int .i64 h, .int .i64 h], .func (.func 33) #[] #[.pointer (some ⟨N + 2, 0, none⟩)], .agg #[.int .i64 x.1, .int .i64 h], undef, undef, undef, undef, undef, undef, undef, undef, undef, undef, undef], defers := [] })
    (fun x a' _ X Y row hs hg hr => by obtain ⟨C, h1, h2, h3⟩ := hs; exact ⟨C, h1, blk hg (fun e => by obtain ⟨o, ho, hc⟩ := (hr C e.symm).2; rw [h2] at ho; cases ho; cases hc) h2, h3⟩)
    ?assign ?body ?done ?stop
  case assign =>
    rintro l pre x W Kn hi hK
    gi_wp2
    exact hK _ _ ((KeepsOthers.alloc _ _).from _) (fun o ho => blk_alloc ho) (hi.keep (World.grownBy_alloc _ _ none) (by simp) HB.out hQB hQN) ⟨W.heap.size, (Array.getElem?_eq_some_iff.1 hi.2.2.1).1, heap_alloc_new _ _, rfl⟩
  case body =>
    rintro l pre x a' W hl ⟨r, hr⟩ hI ⟨C, hC, rC, rfl⟩ hlt
    have hI' := hI
    obtain ⟨⟨⟨j1, j2⟩, j3, j4⟩, ⟨j5, j6⟩, j7, j8⟩ := hI'
    obtain ⟨y0, -⟩ := sty_cells j1
    have y1 : W.cell? ⟨B + 1 + 1, 0, none⟩ = some (.int .i64 p) := row_cell j2 rfl
    have y2 : W.cell? ⟨N, 0, none⟩ = some (.pointer (some ⟨Q, 0, none⟩)) := row_cell j4 rfl
    have y3 : W.cell? ⟨C, 0, none⟩ = some (.int .i64 x.1) := row_cell rC rfl
    have y4 : W.cell? ⟨C, 1, none⟩ = some (.int .i64 h) := row_cell rC rfl
    have HI := Lib.hid hI
    clear hI j1 j2 j3 j4 j5 j6 j7 j8 rC hr hl hlt
    simp only at y0
    have hgw := HI.out.2.2.2
    have fee := fun W' (hg : W.grownBy W' none) => tfee_any lo hi Q K x.1 h T _ _ _ W' (HI.out.2.1.2.kept hg (by simp)) (HT.out.kept (hgw.trans hg) (by simp)) HV.out (by have := HB.out; omega) hk (Nat.le_of_lt (Nat.lt_of_le_of_lt x.2.2 hbh)) hh
    have hfb := HV.out.fee_bound hk x.1 h hh
    obtain ⟨fe, hfe⟩ : ∃ fe, fe = T.fee K x.1 h := ⟨_, rfl⟩
    rw [← hfe] at fee hfb
    obtain ⟨hfb1, hfb2⟩ := hfb
    have FEE := Lib.hid fee
    have HFE := Lib.hid hfe
    clear fee hfe hgw
    gi_wp2
    gi_region_with (first
      | (refine ⟨trivial, ?_⟩; gi_at_call 22; refine (CallsIn.inRound l (callsIn_wide.2 (FEE.out _ (by first | exact World.grownBy.refl _ _ | exact grownBy_drew _ _)))).mono ?_; rintro e W2 ⟨rfl, hg2, ht2⟩; have v1 : W2.cell? ⟨B + 1 + 1, 0, none⟩ = some (.int .i64 p) := hg2.cell y1 (by simp; omega); have HG2 := Lib.hid hg2; have HT2 := Lib.hid ht2; clear hg2 ht2)
      | (refine ⟨trivial, ?_⟩; gi_at_call 23; refine (CallsIn.inRound l (callsIn_wide.2 (int_any _ _))).mono ?_; rintro e W3 ⟨rfl, rfl⟩)
      | (refine ⟨trivial, ?_⟩; gi_at_call 21; refine (CallsIn.inRound l (callsIn_wide.2 (take_any (N + 1) (bfold p T K h pre) _ _ (by exact blk HG2.out (by simp; omega) HI.out.2.1.1)))).mono ?_; rintro e W4 ⟨rfl, hg4, hr4⟩))
    all_goals
      gi_wp2
      have hfin := OvI.step x HI.out HG2.out HT2.out fe HFE.out hfb1 hfb2 hp1 hg4 hr4 HB.out hQB hQN
      exact hfin
  case done =>
    rintro D xs W hD hS hI hK
    obtain ⟨⟨⟨j1, j2⟩, j3, j4⟩, ⟨j5, j6⟩, j7, j8⟩ := hI
    rw [bfold_come HV.out hk p a b h hab (Nat.le_of_lt hbh) xs hS] at j5
    obtain ⟨c0, c1, -, -⟩ := bnd_cells (s := true) j5
    have z0 : W.cell? ⟨B + 1 + 1 + 1, 0, none⟩ = some (.int .i64 0) := row_cell j3 rfl
    have z1 : W.cell? ⟨B + 1 + 1 + 1, 1, none⟩ = some (.int .i64 0) := row_cell j3 rfl
    have fz : ∀ o, W.frozen? ⟨B + 1 + 1 + 1, o, none⟩ = false := fun o => row_thaw j3
    have J3 := Lib.hid j3
    have J8 := Lib.hid j8
    have HK := Lib.hid hK
    have HS := Lib.hid hS
    have hD3 : N + 3 ≤ D := by rw [← s0]; exact hD
    clear j1 j2 j3 j4 j5 j6 j7 j8 hK hS hD hst HI0 rcs
    gi_wp2
    obtain ⟨W3, hW3⟩ : ∃ W3, W3 = (W.setCell ⟨B + 1 + 1 + 1, 0, none⟩ (.int .i64 (p - T.fee K a h))).setCell ⟨B + 1 + 1 + 1, 1, none⟩ (.int .i64 (p - T.fee K b h)) := ⟨_, rfl⟩
    rw [← hW3]
    have hset : W.grownBy W3 (some (B + 1 + 1 + 1)) := by rw [hW3]; exact (grownBy_set _ _ _ _).trans (grownBy_set _ _ _ _)
    have hK3 : W3.heap[D]? = some (.deferred (some [])) := blk hset (by simp; omega) HK.out
    have hR3 : W3.heap[B + 1 + 1 + 1]? = some (.cells #[.int .i64 (p - T.fee K a h), .int .i64 (p - T.fee K b h)] 34 (0, 0)) := by rw [hW3, row_setCell (row_setCell J3.out)]; rfl
    have hR4 : (W3.putObj D (.deferred none)).heap[B + 1 + 1 + 1]? = some (.cells #[.int .i64 (p - T.fee K a h), .int .i64 (p - T.fee K b h)] 34 (0, 0)) := (World.putObj_heap_other (by omega)).trans hR3
    have hG3 : w.grownBy W3 none := J8.out.andThen hset (by rintro j e; cases e; exact .inl (by have := HB.out; omega))
    have hG4 : w.grownBy (W3.putObj D (.deferred none)) none := hG3.andThen (grownBy_putObj' W3 D (.deferred none)) (by rintro j e; cases e; exact .inl (by have := HB.out; omega))
    refine ⟨by simp, .inl ⟨_, _, rfl, run_takeDeferred hK3, ?_⟩⟩
    refine ⟨.tuple #[.agg #[.int .i64 (p - T.fee K a h), .int .i64 (p - T.fee K b h)], .int .i64 0], ?_, rfl, hG4⟩
    simp [results, Tryz.results8, go_sem, World.cell?, hR4]
  case stop =>
    rintro D c pre W _ _ hf _
    exact hf.elim
end Go.Proofs.YtpjcjadcikeibaaGreatDoor
