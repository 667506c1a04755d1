import Derived.Test.YtpjcjadcikeibaaGreatDoorOns
import Derived.Conc.MuLone
import Derived.Laws.LoneSync
import Derived.Defers
import Derived.RegionCalls
namespace Go.Proofs.YtpjcjadcikeibaaGreatDoor
open Go.RowKit
abbrev Tryz.muLink : Go.Conc.Locks.MuLink := { lock := 60, unlock := 61, ilock := 66, iunlock := 67, lockSlow := 74, unlockSlow := 77, disable := 70, enable := 72, acquire := 73, relMerge := 75, cas32 := 71, add32 := 76, tMutex := 110, tIMutex := 108, tPMutex := 181, tPIMutex := 184, tPI32 := 186, tUP := 151, tNoCopy := 102, tU32 := 104 }
theorem Tryz.muLib : Go.Conc.Locks.MuLib Tryz.prog Tryz.muLink :=
  ⟨Tryz.func60, Tryz.func61, Tryz.func66, Tryz.func67, Tryz.func70, Tryz.func72, Tryz.func73, Tryz.func75, Tryz.func71, Tryz.func76, Tryz.underlying108, Tryz.runUnderlying108, Tryz.sizeOf108, Tryz.isAgg108, Tryz.zeroValue108, Tryz.underlying110, Tryz.runUnderlying110, Tryz.sizeOf110, Tryz.isAgg110, Tryz.zeroValue110, Tryz.underlying181, Tryz.runUnderlying181, Tryz.sizeOf181, Tryz.isAgg181, Tryz.zeroValue181, Tryz.underlying184, Tryz.runUnderlying184, Tryz.sizeOf184, Tryz.isAgg184, Tryz.zeroValue184, Tryz.underlying186, Tryz.runUnderlying186, Tryz.sizeOf186, Tryz.isAgg186, Tryz.zeroValue186, Tryz.underlying151, Tryz.runUnderlying151, Tryz.sizeOf151, Tryz.isAgg151, Tryz.zeroValue151, Tryz.underlying102, Tryz.runUnderlying102, Tryz.sizeOf102, Tryz.isAgg102, Tryz.zeroValue102, Tryz.underlying21, Tryz.runUnderlying21, Tryz.sizeOf21, Tryz.isAgg21, Tryz.zeroValue21, by kernel_rfl⟩
theorem store_deferred (a : Addr) (x : Value) (u : FrameMode) (w : World) (hc : w.cell? a = some x) (hz : w.frozen? a = false) :
    CallsD Tryz.prog 62 #[.pointer (some a), .bool true] u w fun e u' w' => u' = u ∧ (e = .returned (.tuple #[]) ∧ w' = w.drew.setCell a (.int .u32 1)) := by
  have hc' : w.drew.cell? a = some x := by go_simp
  have hz' : w.drew.frozen? a = false := by go_simp
  have hst := run_call_store (P := Tryz.prog) Tryz.func68 (by kernel_rfl) (by kernel_rfl) (by kernel_rfl) (by kernel_rfl) (k := .u32) (y := 1) hc' hz'
  go_enter_d Tryz.func62, Tryz.ntmps62
  go_wp2
  go_region_calls
  all_goals (go_end0; exact ⟨rfl, rfl⟩)

/-! ### the rates of a kind -/
def afterRates (rs : List (Int × List Int)) (kind : Nat) : Nat → Nat → Int
  | 0 => fun _ => 0
  | k + 1 => fun d => match rs[k]? with
    | some (f, l) => if f ≤ (d : Int) then l[kind]?.getD 0 else afterRates rs kind k d
    | none => afterRates rs kind k d
def afterFree (g : Nat → Int) (fs : List Int) : Nat → Nat → Int
  | 0 => g
  | k + 1 => fun d => if fs[k]? = some (d : Int) then 0 else afterFree g fs k d
/-- What a day costs. -/
def Tar.rate (T : Tar) (kind : Nat) : Nat → Int := afterFree (afterRates T.rates kind T.rates.length) T.free T.free.length
def rowG (g : Nat → Int) : Obj := .cells #[.int .i64 (g 0), .int .i64 (g 1), .int .i64 (g 2), .int .i64 (g 3), .int .i64 (g 4)] 114 (0, 0)
theorem rowG_set {w : World} {A : Nat} {g : Nat → Int} {e : Nat} {v : Int} (h : w.heap[A]? = some (rowG g)) (he : e < 5) : (w.setCell ⟨A, e, none⟩ (.int .i64 v)).heap[A]? = some (rowG fun d => if d = e then v else g d) := by
  unfold rowG at h ⊢
  rw [row_setCell h]
  obtain rfl | rfl | rfl | rfl | rfl : e = 0 ∨ e = 1 ∨ e = 2 ∨ e = 3 ∨ e = 4 := by omega
  all_goals simp
theorem rowG_cell {w : World} {A : Nat} {g : Nat → Int} {e : Nat} (h : w.heap[A]? = some (rowG g)) (he : e < 5) : w.cell? ⟨A, e, none⟩ = some (.int .i64 (g e)) := by
  unfold rowG at h
  obtain rfl | rfl | rfl | rfl | rfl : e = 0 ∨ e = 1 ∨ e = 2 ∨ e = 3 ∨ e = 4 := by omega
  all_goals simp [World.cell?, h]
theorem rowG_thaw {w : World} {A : Nat} {g : Nat → Int} (h : w.heap[A]? = some (rowG g)) (e : Nat) : w.frozen? ⟨A, e, none⟩ = false := by
  unfold rowG at h
  simp [World.frozen?, h]
theorem rowG_congr {g g' : Nat → Int} (h : ∀ d, d < 5 → g d = g' d) : rowG g = rowG g' := by
  unfold rowG
  rw [h 0 (by omega), h 1 (by omega), h 2 (by omega), h 3 (by omega), h 4 (by omega)]
/-- The rates of a kind have been laid. -/
def Painted (T : Tar) (k : Nat) (cs cs' : Array Value) : Prop := cs'.size = 28 ∧ ∀ o, cs'[o]? = if 13 + k * 5 ≤ o ∧ o < 18 + k * 5 then some (.int .i64 (T.rate k (o - (13 + k * 5)))) else cs[o]?
theorem painted_of (T : Tar) (k t : Nat) (cs : Array Value) (hs : cs.size = 28) (ht : t = 13 + k * 5) (hk : k < 3) :
    Painted T k cs (((((cs.setIfInBounds t (.int .i64 (T.rate k 0))).setIfInBounds (t + 1) (.int .i64 (T.rate k 1))).setIfInBounds (t + 2) (.int .i64 (T.rate k 2))).setIfInBounds (t + 3) (.int .i64 (T.rate k 3))).setIfInBounds (t + 4) (.int .i64 (T.rate k 4))) := by
  refine ⟨by simp [hs], fun o => ?_⟩
  simp only [Array.getElem?_setIfInBounds, Array.size_setIfInBounds, hs]
  by_cases h : 13 + k * 5 ≤ o ∧ o < 18 + k * 5
  · rw [if_pos h]
    obtain ⟨e, he, rfl⟩ : ∃ e, e < 5 ∧ o = t + e := ⟨o - t, by omega, by omega⟩
    obtain rfl | rfl | rfl | rfl | rfl : e = 0 ∨ e = 1 ∨ e = 2 ∨ e = 3 ∨ e = 4 := by omega
    all_goals
      subst ht
      simp
      try omega
  · rw [if_neg h, if_neg (by omega), if_neg (by omega), if_neg (by omega), if_neg (by omega), if_neg (by omega)]
def R1 (A : Nat) (rs : List (Int × List Int)) (k : Nat) (w : World) (i : Value) (wr : World) : Prop :=
  ∃ j : Nat, i = .int .i64 j ∧ j ≤ rs.length ∧ w.grownBy wr (some A) ∧ wr.heap[A]? = some (rowG (afterRates rs k j))
def R2 (A d : Nat) (p : Int) (g : Nat → Int) (w : World) (i : Value) (wr : World) : Prop :=
  ∃ e : Nat, i = .int .i64 e ∧ d ≤ e ∧ e ≤ 5 ∧ w.grownBy wr (some A) ∧ wr.heap[A]? = some (rowG fun x => if d ≤ x ∧ x < e then p else g x)
def R3 (A : Nat) (g : Nat → Int) (fs : List Int) (w : World) (i : Value) (wr : World) : Prop :=
  ∃ j : Nat, i = .int .i64 j ∧ j ≤ fs.length ∧ w.grownBy wr (some A) ∧ wr.heap[A]? = some (rowG (afterFree g fs j))
set_option maxRecDepth 100000 in
set_option maxHeartbeats 3200000 in
theorem closure_any (lo hi b2 b3 Q k : Nat) (T : Tar) (fv rv ev : Value) (w : World) (h2 : w.cell? ⟨b2, 0, none⟩ = some (.pointer (some ⟨Q, 0, none⟩))) (h3 : w.cell? ⟨b3, 0, none⟩ = some (.int .i64 k))
    (c2 : w.cell? ⟨Q, 2, none⟩ = some rv) (c3 : w.cell? ⟨Q, 3, none⟩ = some ev) (hT : TarIn lo hi w (.agg #[.int .i64 T.kinds, fv, rv, ev]) T) (hV : T.Valid) (hhi : hi ≤ w.heap.size) (hk : k < T.kinds) (cs : Array Value) (hQ : w.heap[Q]? = some (.cells cs 117 (0, 0))) (hsz : cs.size = 28) :
    Calls Tryz.prog 44 #[.pointer (some ⟨b2, 0, none⟩), .pointer (some ⟨b3, 0, none⟩)] w fun e w' => e = .returned (.tuple #[]) ∧ w.grownBy w' (some Q) ∧ ∃ cs', w'.heap[Q]? = some (.cells cs' 117 (0, 0)) ∧ Painted T k cs cs' := by
  obtain ⟨fv', rv', ev', he, hF, hR, hE⟩ := hT
  obtain ⟨rfl, rfl, rfl⟩ : fv = fv' ∧ rv = rv' ∧ ev = ev' := by simpa using he
  obtain ⟨ra, rc, rfl, -⟩ := hR.cell
  obtain ⟨ea, ec, rfl, -⟩ := hE.cell
  have hb2 : b2 < w.heap.size := block_lt_of_cell h2
  have hb3 : b3 < w.heap.size := block_lt_of_cell h3
  have hbQ : Q < w.heap.size := block_lt_of_cell c2
  have hk3 := hV.k2
  have hr2 := hV.r2
  have hf1 := hV.f1
  have HV := Lib.hid hV
  have HR := Lib.hid hR
  have HE := Lib.hid hE
  have HQ := Lib.hid hQ
  have HSZ := Lib.hid hsz
  clear he hF hV hR hE hQ hsz
  obtain ⟨A, hA⟩ : ∃ A, A = w.heap.size := ⟨_, rfl⟩
  obtain ⟨w1, hw1⟩ : ∃ w1, w1 = w.alloc (rowG (afterRates T.rates k 0)) := ⟨_, rfl⟩
  have hA1 : w1.heap[A]? = some (rowG (afterRates T.rates k 0)) := by rw [hw1, hA]; exact heap_alloc_new w _
  have hG1 : w.grownBy w1 none := by rw [hw1]; exact World.grownBy_alloc _ _ _
  have HA := Lib.hid hA
  have HW1 := Lib.hid hw1
  have HG1 := Lib.hid hG1
  have HA1 := Lib.hid hA1
  clear hw1 hG1 hA1
  have hAb2 : b2 < A := by omega
  have hAb3 : b3 < A := by omega
  have hAQ : Q < A := by omega
  have hAhi : hi ≤ A := by omega
  clear hA
  go_enter Tryz.func44, Tryz.ntmps44
  go_upto_region 1 with (fail)
  rw [← HA.out, show (w.alloc (.cells #[.int .i64 0, .int .i64 0, .int .i64 0, .int .i64 0, .int .i64 0] 114)) = w1 from HW1.out.symm]
  have g2 : w1.cell? ⟨b2, 0, none⟩ = some (.pointer (some ⟨Q, 0, none⟩)) := HG1.out.cell h2 (by simp)
  have g3 : w1.cell? ⟨b3, 0, none⟩ = some (.int .i64 k) := HG1.out.cell h3 (by simp)
  have e2 : w1.cell? ⟨Q, 2, none⟩ = some (.slice ra T.rates.length rc) := HG1.out.cell c2 (by simp)
  have e3 : w1.cell? ⟨Q, 3, none⟩ = some (.slice ea T.free.length ec) := HG1.out.cell c3 (by simp)
  have HR1 := Lib.hid (HR.out.kept HG1.out (by simp))
  have HE1 := Lib.hid (HE.out.kept HG1.out (by simp))
  clear h2 h3 c2 c3 HR HE HW1
  go_wp2
  go_loopw [14] (R1 A T.rates k w1) (fun i _ => (T.rates.length - intOf i).toNat)
  case atStart => exact ⟨0, rfl, by omega, World.grownBy.refl _ _, HA1.out⟩
  case round =>
    obtain ⟨j, rfl, hj, hG, hB⟩ := hrel
    have HG := Lib.hid hG
    have HB := Lib.hid hB
    have m2 : wr.cell? ⟨b2, 0, none⟩ = some (.pointer (some ⟨Q, 0, none⟩)) := hG.cell g2 (by simp; omega)
    have m3 : wr.cell? ⟨b3, 0, none⟩ = some (.int .i64 k) := hG.cell g3 (by simp; omega)
    have n3 : wr.cell? ⟨Q, 3, none⟩ = some (.slice ea T.free.length ec) := hG.cell e3 (by simp; omega)
    have HR' := HR1.out.kept hG (by rintro R e; cases e; exact .inr hAhi)
    clear hG hB
    by_cases hlt : j < T.rates.length
    · obtain ⟨ra', rc', he, -, hcell⟩ := HR'.cell
      cases he
      obtain ⟨B, o, rfl, hB1, hB2, hB3, hB4⟩ := hcell (by intro e; rw [e] at hlt; simp at hlt)
      obtain ⟨d, l, pv, hi1, hi2, hi3, hi4⟩ := hB4 j hlt
      obtain ⟨hd0, hd4, hDl, hz, hinc⟩ := HV.out.rate j d l hi1
      obtain ⟨pa, pc, rfl, -, hpc⟩ := hi4.cell
      obtain ⟨PB, po, rfl, hp1, hp2, hp3, hp4⟩ := hpc (by have := hDl.1; intro e; rw [e] at this; simp at this; omega)
      have hkl : k < l.length := by have := hDl.1; omega
      have hp := hp4 k hkl
      obtain ⟨dn, rfl⟩ : ∃ dn : Nat, d = dn := ⟨d.toNat, by omega⟩
      generalize hpe : l[k]?.getD 0 = p at hp
      have HPE := Lib.hid hpe
      have HI1 := Lib.hid hi1
      clear hB4 hcell HR' hinc hz hDl hi4 hp4 hpc hpe hi1
      go_upto_region 4 with (fail)
      obtain ⟨N, hN⟩ : ∃ N, N = wr.heap.size := ⟨_, rfl⟩
      have hAN : A < N := by rw [hN]; exact (Array.getElem?_eq_some_iff.1 HB.out).1
      have q3 : (wr.alloc (.cells #[.int .i64 dn, .slice (some ⟨PB, po, none⟩) l.length pc] 84)).cell? ⟨b3, 0, none⟩ = some (.int .i64 k) := (World.grownBy_alloc _ _ none).cell m3 (by simp)
      have qp : (wr.alloc (.cells #[.int .i64 dn, .slice (some ⟨PB, po, none⟩) l.length pc] 84)).cell? ⟨PB, po + k, none⟩ = some (.int .i64 p) := (World.grownBy_alloc _ _ none).cell hp (by simp)
      have q0 : (wr.alloc (.cells #[.int .i64 dn, .slice (some ⟨PB, po, none⟩) l.length pc] 84)).cell? ⟨N, 0, none⟩ = some (.int .i64 dn) := by rw [hN, cell_new]; rfl
      have q1 : (wr.alloc (.cells #[.int .i64 dn, .slice (some ⟨PB, po, none⟩) l.length pc] 84)).cell? ⟨N, 1, none⟩ = some (.slice (some ⟨PB, po, none⟩) l.length pc) := by rw [hN, cell_new]; rfl
      have HGI := Lib.hid (HG.out.trans (World.grownBy_alloc wr (.cells #[.int .i64 dn, .slice (some ⟨PB, po, none⟩) l.length pc] 84) (some A)))
      have HBI := Lib.hid (blk_alloc (p := .cells #[.int .i64 dn, .slice (some ⟨PB, po, none⟩) l.length pc] 84) HB.out)
      rw [← hN]
      clear hN HG HB m2 m3 n3 hp hi2 hi3 hB3 hp3
      revert q3 qp q0 q1 HGI HBI
      generalize wr.alloc (.cells #[.int .i64 dn, .slice (some ⟨PB, po, none⟩) l.length pc] 84) = wi
      intro q3 qp q0 q1 HGI HBI
      go_wp2
      go_loopw [5] (R2 A dn p (afterRates T.rates k j) wi) (fun i _ => (5 - intOf i).toNat)
      case atStart => exact ⟨dn, rfl, by omega, by omega, World.grownBy.refl _ _, by rw [HBI.out]; congr 1; exact rowG_congr fun d _ => by rw [if_neg (by omega)]⟩
      case round =>
        obtain ⟨wq, rfl⟩ : ∃ wq : World, wq = wr := ⟨_, rfl⟩
        obtain ⟨e, rfl, he1, he2, hG, hB⟩ := hrel
        have x3 : wq.cell? ⟨b3, 0, none⟩ = some (.int .i64 k) := hG.cell q3 (by simp; omega)
        have xp : wq.cell? ⟨PB, po + k, none⟩ = some (.int .i64 p) := hG.cell qp (by simp; omega)
        have x1 : wq.cell? ⟨N, 1, none⟩ = some (.slice (some ⟨PB, po, none⟩) l.length pc) := hG.cell q1 (by simp; omega)
        have HG := Lib.hid hG
        have HB := Lib.hid hB
        by_cases hl5 : e < 5
        · have xa := rowG_cell hB hl5
          have fa := rowG_thaw hB e
          clear hG hB q3 qp q0 q1 g2 g3 e2 e3
          generalize (if dn ≤ e ∧ e < e then p else afterRates T.rates k j e) = y at xa
          go_wp2
          go_roundw
          case rel =>
            refine ⟨e + 1, by simp, by omega, by omega, HG.out.trans (grownBy_set _ _ _ _), ?_⟩
            rw [rowG_set HB.out hl5]
            congr 1
            refine rowG_congr fun d _ => ?_
            by_cases h1 : d = e
            · rw [if_pos h1, if_pos (by omega)]
            · rw [if_neg h1]
              by_cases h2 : dn ≤ d ∧ d < e
              · rw [if_pos h2, if_pos (by omega)]
              · rw [if_neg h2, if_neg (by omega)]
          case measure => simp [intOf]; omega
        · clear hG hB q3 qp q0 q1 g2 g3 e2 e3 x3 xp x1
          go_wp2
          go_roundw
          case rel =>
            refine ⟨j + 1, by simp, by omega, HGI.out.trans HG.out, ?_⟩
            rw [HB.out]
            congr 1
            refine rowG_congr fun d hd => ?_
            have hi := HI1.out
            have hpe := HPE.out
            simp only [afterRates, hi]
            by_cases h2 : dn ≤ d ∧ d < e
            · rw [if_pos h2, if_pos (by omega), hpe]
            · rw [if_neg h2, if_neg (by omega)]
          case measure => simp [intOf]; omega
    · have hje : T.rates.length ≤ j := by omega
      clear HR' hlt
      go_wp2
      obtain ⟨wb, rfl⟩ : ∃ wb : World, wb = wr := ⟨_, rfl⟩
      obtain rfl : j = T.rates.length := by omega
      have HE' := Lib.hid (HE1.out.kept HG.out (by rintro R e; cases e; exact .inr hAhi))
      clear hj hje g2 g3 e2 e3 HR1 HE1 HA1
      go_loopw [38] (R3 A (afterRates T.rates k T.rates.length) T.free wb) (fun i _ => (T.free.length - intOf i).toNat)
      case atStart => exact ⟨0, rfl, by omega, World.grownBy.refl _ _, HB.out⟩
      case round =>
        obtain ⟨wq, rfl⟩ : ∃ wq : World, wq = wr := ⟨_, rfl⟩
        obtain ⟨j, rfl, hj, hG, hB⟩ := hrel
        have HG3 := Lib.hid hG
        have HB3 := Lib.hid hB
        have HE3 := HE'.out.kept hG (by rintro R e; cases e; exact .inr hAhi)
        by_cases hlt : j < T.free.length
        · obtain ⟨ea', ec', he, -, hcell⟩ := HE3.cell
          cases he
          obtain ⟨B, o, rfl, hB1, hB2, hB3, hB4⟩ := hcell (by intro e; rw [e] at hlt; simp at hlt)
          have hx := hB4 j hlt
          obtain ⟨x, hxe⟩ : ∃ x, T.free[j]? = some x := ⟨_, List.getElem?_eq_getElem hlt⟩
          obtain ⟨hx0, hx4, -⟩ := HV.out.free j x hxe
          rw [hxe] at hx
          obtain ⟨xn, rfl⟩ : ∃ xn : Nat, x = xn := ⟨x.toNat, by omega⟩
          simp only [Option.getD_some] at hx
          have xa := rowG_cell hB (show xn < 5 by omega)
          have fa := rowG_thaw hB xn
          generalize afterFree (afterRates T.rates k T.rates.length) T.free j xn = y at xa
          have HX := Lib.hid hxe
          clear hG hB HE3 hB4 hcell m2 m3 n3 hxe
          go_wp2
          go_roundw
          case rel =>
            refine ⟨j + 1, by simp, by omega, HG3.out.trans (grownBy_set _ _ _ _), ?_⟩
            rw [rowG_set HB3.out (by omega)]
            congr 1
            refine rowG_congr fun d _ => ?_
            have hxx := HX.out
            simp only [afterFree, hxx]
            by_cases h1 : d = xn
            · rw [if_pos h1, if_pos (by rw [h1])]
            · rw [if_neg h1, if_neg (by intro e; apply h1; injection e with e; omega)]
          case measure => simp [intOf]; omega
        · obtain rfl : j = T.free.length := by omega
          have y2 : wq.cell? ⟨b2, 0, none⟩ = some (.pointer (some ⟨Q, 0, none⟩)) := hG.cell m2 (by simp; omega)
          have y3 : wq.cell? ⟨b3, 0, none⟩ = some (.int .i64 k) := hG.cell m3 (by simp; omega)
          have hQ3 : wq.heap[Q]? = some (.cells cs 117 (0, 0)) := blk hG (by simp; omega) (blk HG.out (by simp; omega) (blk HG1.out (by simp) HQ.out))
          have a0 := rowG_cell hB (show 0 < 5 by omega)
          have a1 := rowG_cell hB (show 1 < 5 by omega)
          have a2 := rowG_cell hB (show 2 < 5 by omega)
          have a3 := rowG_cell hB (show 3 < 5 by omega)
          have a4 := rowG_cell hB (show 4 < 5 by omega)
          rw [show afterFree (afterRates T.rates k T.rates.length) T.free T.free.length = T.rate k from rfl] at a0 a1 a2 a3 a4
          generalize hr0 : T.rate k 0 = r0 at *
          generalize hr1 : T.rate k 1 = r1 at *
          generalize hr2 : T.rate k 2 = r2 at *
          generalize hr3 : T.rate k 3 = r3 at *
          generalize hr4 : T.rate k 4 = r4 at *
          have fz : ∀ o, wq.frozen? ⟨Q, o, none⟩ = false := fun o => by simp [World.frozen?, hQ3]
          have hc : ∀ o, o < 28 → ∃ v, wq.cell? ⟨Q, o, none⟩ = some v := fun o ho => ⟨cs[o]'(by rw [HSZ.out]; exact ho), by simp [World.cell?, hQ3, HSZ.out, ho]⟩
          have HQ3 := Lib.hid hQ3
          have hne : Q ≠ A := by omega
          have HRR := Lib.hid (And.intro hr0 (And.intro hr1 (And.intro hr2 (And.intro hr3 hr4))))
          clear hG hB HE3 m2 m3 n3 hQ3 hr0 hr1 hr2 hr3 hr4
          have HBQ := Lib.hid hbQ
          clear hbQ
          obtain rfl | rfl | rfl : k = 0 ∨ k = 1 ∨ k = 2 := by omega
          · obtain ⟨v0, z0⟩ := hc 13 (by omega)
            obtain ⟨v1, z1⟩ := hc 14 (by omega)
            obtain ⟨v2, z2⟩ := hc 15 (by omega)
            obtain ⟨v3, z3⟩ := hc 16 (by omega)
            obtain ⟨v4, z4⟩ := hc 17 (by omega)
            clear hc
            go_wp2
            go_region
            go_end0
            refine ⟨rfl, ?_, _, row_setCell (row_setCell (row_setCell (row_setCell (row_setCell (o := 13) HQ3.out)))), ?_⟩
            · exact ((((((((HG1.out.but (some Q)).andThen HG.out (by rintro j e; cases e; exact .inl (Nat.le_of_eq HA.out.symm))).andThen HG3.out (by rintro j e; cases e; exact .inl (Nat.le_of_eq HA.out.symm))).trans (grownBy_set _ Q 13 _)).trans (grownBy_set _ Q 14 _)).trans (grownBy_set _ Q 15 _)).trans (grownBy_set _ Q 16 _)).trans (grownBy_set _ Q 17 _)).trans (grownBy_drew _ _)
            · obtain ⟨hr0, hr1, hr2, hr3, hr4⟩ := HRR.out
              rw [← hr0, ← hr1, ← hr2, ← hr3, ← hr4]
              exact painted_of T 0 13 cs HSZ.out rfl (by omega)
          · obtain ⟨v0, z0⟩ := hc 18 (by omega)
            obtain ⟨v1, z1⟩ := hc 19 (by omega)
            obtain ⟨v2, z2⟩ := hc 20 (by omega)
            obtain ⟨v3, z3⟩ := hc 21 (by omega)
            obtain ⟨v4, z4⟩ := hc 22 (by omega)
            clear hc
            go_wp2
            go_region
            go_end0
            refine ⟨rfl, ?_, _, row_setCell (row_setCell (row_setCell (row_setCell (row_setCell (o := 18) HQ3.out)))), ?_⟩
            · exact ((((((((HG1.out.but (some Q)).andThen HG.out (by rintro j e; cases e; exact .inl (Nat.le_of_eq HA.out.symm))).andThen HG3.out (by rintro j e; cases e; exact .inl (Nat.le_of_eq HA.out.symm))).trans (grownBy_set _ Q 18 _)).trans (grownBy_set _ Q 19 _)).trans (grownBy_set _ Q 20 _)).trans (grownBy_set _ Q 21 _)).trans (grownBy_set _ Q 22 _)).trans (grownBy_drew _ _)
            · obtain ⟨hr0, hr1, hr2, hr3, hr4⟩ := HRR.out
              rw [← hr0, ← hr1, ← hr2, ← hr3, ← hr4]
              exact painted_of T 1 18 cs HSZ.out rfl (by omega)
          · obtain ⟨v0, z0⟩ := hc 23 (by omega)
            obtain ⟨v1, z1⟩ := hc 24 (by omega)
            obtain ⟨v2, z2⟩ := hc 25 (by omega)
            obtain ⟨v3, z3⟩ := hc 26 (by omega)
            obtain ⟨v4, z4⟩ := hc 27 (by omega)
            clear hc
            go_wp2
            go_region
            go_end0
            refine ⟨rfl, ?_, _, row_setCell (row_setCell (row_setCell (row_setCell (row_setCell (o := 23) HQ3.out)))), ?_⟩
            · exact ((((((((HG1.out.but (some Q)).andThen HG.out (by rintro j e; cases e; exact .inl (Nat.le_of_eq HA.out.symm))).andThen HG3.out (by rintro j e; cases e; exact .inl (Nat.le_of_eq HA.out.symm))).trans (grownBy_set _ Q 23 _)).trans (grownBy_set _ Q 24 _)).trans (grownBy_set _ Q 25 _)).trans (grownBy_set _ Q 26 _)).trans (grownBy_set _ Q 27 _)).trans (grownBy_drew _ _)
            · obtain ⟨hr0, hr1, hr2, hr3, hr4⟩ := HRR.out
              rw [← hr0, ← hr1, ← hr2, ← hr3, ← hr4]
              exact painted_of T 2 23 cs HSZ.out rfl (by omega)
end Go.Proofs.YtpjcjadcikeibaaGreatDoor
