import Derived.Test.YtpjcjadcikeibaaGreatDoorOpens
namespace Go.Proofs.YtpjcjadcikeibaaGreatDoor
open Go.RowKit
theorem SaleIn.parts {lo hi : Nat} {w : World} {S : Sal} {a b c d e f : Value} (h : SaleIn lo hi w (.agg #[a, b, c, d, e, f]) S) : TarIn lo hi w (.agg #[a, b, c, d]) S.tar ∧ IntsIn lo hi w e S.rooms ∧ LotsIn lo hi w f S.lots ∧ a = .int .i64 S.tar.kinds := by
  obtain ⟨fv, rv, ev, pv, lv, he, h1, h2, h3⟩ := h
  obtain ⟨rfl, rfl, rfl, rfl, rfl, rfl⟩ : a = .int .i64 S.tar.kinds ∧ b = fv ∧ c = rv ∧ d = ev ∧ e = pv ∧ f = lv := by simpa using he
  exact ⟨h1, h2, h3, rfl⟩
set_option maxRecDepth 100000 in
set_option maxHeartbeats 1600000 in
theorem begin_any (lo hi : Nat) (S : Sal) (fa ra ea pa la : Option Addr) (fm fc rm rc em ec pc lc : Nat) (i : Nat) (w : World) (hS : SaleIn lo hi w (.agg #[.int .i64 S.tar.kinds, .slice fa fm fc, .slice ra rm rc, .slice ea em ec, .slice pa 5 pc, .slice la S.lots.length lc]) S) (hV : S.Valid) (hi1 : i < S.lots.length) :
    Calls Tryz.prog 17 #[.agg #[.int .i64 S.tar.kinds, .slice fa fm fc, .slice ra rm rc, .slice ea em ec, .slice pa 5 pc, .slice la S.lots.length lc], .int .i64 i] w fun e w' => ∃ Q M, e = .returned (.tuple #[.pointer (some ⟨Q, 0, none⟩), .int .i64 0]) ∧ w.heap.size ≤ Q ∧ w.heap.size ≤ M ∧ Q ≠ M ∧ StallAt w' Q M (.int .i64 S.tar.kinds) (.slice fa fm fc) (.slice ra rm rc) (.slice ea em ec) (.slice pa 5 pc) (.slice la S.lots.length lc) ∧ w.grownBy w' none := by
  obtain ⟨P, hP⟩ : ∃ P, P = w.heap.size := ⟨_, rfl⟩
  obtain ⟨row, hrow⟩ : ∃ row, row = Obj.cells #[.int .i64 S.tar.kinds, .slice fa fm fc, .slice ra rm rc, .slice ea em ec, .slice pa 5 pc, .slice la S.lots.length lc] 30 (0, 0) := ⟨_, rfl⟩
  have hB0 : (w.alloc row).heap[P]? = some row := by rw [hP]; exact heap_alloc_new w _
  have hG0 : w.grownBy (w.alloc row) none := World.grownBy_alloc w _ _
  have HP := Lib.hid hP
  have hn := hV.n
  have HV := Lib.hid hV
  have HI := Lib.hid hS.parts.2.1
  have HS := Lib.hid hS
  clear hV hS
  go_enter Tryz.func17, Tryz.ntmps17
  go_upto_region 1 with (fail)
  rw [← hrow, ← HP.out]
  clear hP
  have HG0 := Lib.hid hG0
  have HB0 := Lib.hid hB0
  have HROW := Lib.hid hrow
  clear hG0 hB0 hrow
  revert HG0 HB0
  generalize w.alloc row = wx
  intro HG0 HB0
  obtain ⟨b0, b1, b2, b3, b4, b5⟩ := six HROW.out HB0.out
  go_upto_region 2 with (first | (go_at_call 29; go_must (refine (salecheck_any lo hi _ S _ (by exact HS.out.kept HG0.out (by simp)) HV.out).mono ?_); rintro e w2 ⟨rfl, hgr⟩; have HGR := Lib.hid hgr; clear hgr))
  clear b0 b1 b2 b3 b4 b5
  obtain ⟨b0, b1, b2, b3, b4, b5⟩ := six HROW.out (blk HGR.out (by simp) HB0.out)
  have HG2 := Lib.hid (HG0.out.trans HGR.out)
  clear HGR HG0 HB0
  go_wp2_with
    (first
      | (go_at_call 30; go_must (refine (outside_any _ _ _ _ (by omega) (by omega)).mono ?_); rintro e w' ⟨rfl, rfl⟩)
      | (go_at_call 31; go_must (refine (open_any _ _ _ _ _ _ _ _ _ _ _ _ _ _ _ lo hi S.rooms _ (by exact HI.out.kept HG2.out (by simp))).mono ?_); rintro e w3 ⟨Q, M, rfl, hq1, hq2, hq3, hst, hgr⟩; have HST := Lib.hid hst; have HGR := Lib.hid hgr; clear hst hgr))
  go_ret2
  exact ⟨Q, M, rfl, Nat.le_trans HG2.out.size hq1, Nat.le_trans HG2.out.size hq2, hq3, HST.out, HG2.out.trans HGR.out⟩
/-- The first day of a lot. -/
def Lt.first (l : Lt) : Int := l.lmax / 24 + l.wait
def goodsV (l : Lt) : Value := if l.first < 5 then .iface 61 (.agg #[.int .i64 l.first]) else .iface 63 (.agg #[])
theorem Lt.Ok.first {n : Int} {l : Lt} (h : l.Ok n) : 1 ≤ l.first ∧ l.first ≤ 8 ∧ l.lmax < 24 * l.first := by
  obtain ⟨h1, h2, h3, h4, h5, h6, h7, h8, h9, h10⟩ := h
  unfold Lt.first
  omega
set_option maxRecDepth 100000 in
set_option maxHeartbeats 1600000 in
theorem goods_any (Q M lo hi : Nat) (a b c d e : Value) (la : Option Addr) (lc : Nat) (ls : List Lt) (i : Nat) (l : Lt) (n : Int) (w : World) (hS : StallAt w Q M a b c d e (.slice la ls.length lc)) (hL : LotsIn lo hi w (.slice la ls.length lc) ls) (hl : ls[i]? = some l) (ho : l.Ok n) :
    Calls Tryz.prog 18 #[.pointer (some ⟨Q, 0, none⟩), .int .i64 i] w fun e w' => e = .returned (goodsV l) ∧ w.grownBy w' none := by
  obtain ⟨c0, c1, c2, c3, c4, c5, c6⟩ := hS.cell
  have hi1 : i < ls.length := (List.getElem?_eq_some_iff.1 hl).1
  obtain ⟨la', lc', he, hlen, hcell⟩ := hL.cell
  cases he
  obtain ⟨B, o, rfl, hB1, hB2, hB3, hB4⟩ := hcell (by rintro rfl; simp at hl)
  obtain ⟨d0, d1, d2, d3, d4, d5⟩ := hB4 i l hl
  have hf := ho.first
  have hok := Lib.hid ho
  obtain ⟨h1, h2, h3, h4, h5, h6, h7, h8, h9, h10⟩ := ho
  clear hS hL hB4 hcell hl
  go_enter Tryz.func18, Tryz.ntmps18
  go_wp2
  all_goals
    go_ret
    refine ⟨?_, World.grownBy_alloc _ _ _⟩
    unfold goodsV Lt.first
    first
      | (rw [if_pos (by omega)]; rfl)
      | (rw [if_neg (by omega)]; rfl)
theorem goods_ripe (Q M lo hi : Nat) (a b c d e : Value) (la : Option Addr) (lc : Nat) (ls : List Lt) (i : Nat) (l : Lt) (n : Int) (w : World) (hS : StallAt w Q M a b c d e (.slice la ls.length lc)) (hL : LotsIn lo hi w (.slice la ls.length lc) ls) (hl : ls[i]? = some l) (ho : l.Ok n) (hf : l.first < 5) :
    Calls Tryz.prog 18 #[.pointer (some ⟨Q, 0, none⟩), .int .i64 i] w fun e w' => e = .returned (.iface 61 (.agg #[.int .i64 l.first])) ∧ w.grownBy w' none :=
  (goods_any Q M lo hi a b c d e la lc ls i l n w hS hL hl ho).mono (by rintro e w' ⟨rfl, h⟩; exact ⟨by simp [goodsV, hf], h⟩)
theorem goods_kept (Q M lo hi : Nat) (a b c d e : Value) (la : Option Addr) (lc : Nat) (ls : List Lt) (i : Nat) (l : Lt) (n : Int) (w : World) (hS : StallAt w Q M a b c d e (.slice la ls.length lc)) (hL : LotsIn lo hi w (.slice la ls.length lc) ls) (hl : ls[i]? = some l) (ho : l.Ok n) (hf : ¬ l.first < 5) :
    Calls Tryz.prog 18 #[.pointer (some ⟨Q, 0, none⟩), .int .i64 i] w fun e w' => e = .returned (.iface 63 (.agg #[])) ∧ w.grownBy w' none :=
  (goods_any Q M lo hi a b c d e la lc ls i l n w hS hL hl ho).mono (by rintro e w' ⟨rfl, h⟩; exact ⟨by simp [goodsV, hf], h⟩)
theorem as61_61 (v : Value) (w : World) : (Instr.typeAssert (.iface 61 v) 58 61 true).run Tryz.prog w = .ok (.tuple #[v, .bool true]) w := by kernel_rfl
theorem as63_61 (v : Value) (w : World) : (Instr.typeAssert (.iface 63 v) 58 61 true).run Tryz.prog w = .ok (.tuple #[.agg #[.int .i64 0], .bool false]) w := by kernel_rfl
theorem as63_63 (v : Value) (w : World) : (Instr.typeAssert (.iface 63 v) 58 63 true).run Tryz.prog w = .ok (.tuple #[v, .bool true]) w := by kernel_rfl
/-- Earliest. -/
def earV (l : Lt) : Value := if l.first < 5 then .tuple #[.int .i64 l.first, .int .i64 0] else .tuple #[.int .i64 0, .int .i64 11]
set_option maxRecDepth 100000 in
set_option maxHeartbeats 1600000 in
theorem earliest_any (lo hi : Nat) (S : Sal) (fa ra ea pa la : Option Addr) (fm fc rm rc em ec pc lc : Nat) (i : Nat) (l : Lt) (w : World) (hS : SaleIn lo hi w (.agg #[.int .i64 S.tar.kinds, .slice fa fm fc, .slice ra rm rc, .slice ea em ec, .slice pa 5 pc, .slice la S.lots.length lc]) S) (hV : S.Valid) (hl : S.lots[i]? = some l) :
    Calls Tryz.prog 7 #[.agg #[.int .i64 S.tar.kinds, .slice fa fm fc, .slice ra rm rc, .slice ea em ec, .slice pa 5 pc, .slice la S.lots.length lc], .int .i64 i] w fun e w' => e = .returned (earV l) ∧ w.grownBy w' none := by
  have hi1 : i < S.lots.length := (List.getElem?_eq_some_iff.1 hl).1
  have ho := hV.lot l (List.mem_of_getElem? hl)
  have HO := Lib.hid ho
  have HS := Lib.hid hS
  have HV := Lib.hid hV
  have HL := Lib.hid hl
  clear ho hS hV hl
  go_enter Tryz.func7, Tryz.ntmps7
  go_upto_region 2 with (first | (go_at_call 17; go_must (refine (begin_any lo hi S _ _ _ _ _ _ _ _ _ _ _ _ _ i _ (by exact HS.out.kept (World.grownBy_alloc _ _ none) (by simp)) HV.out hi1).mono ?_); rintro e w1 ⟨Q, M, rfl, hq1, hq2, hq3, hst, hgr⟩; have HST := Lib.hid hst; have HGR := Lib.hid hgr; clear hst hgr))
  have HG1 := Lib.hid ((World.grownBy_alloc w _ none).trans HGR.out)
  clear HGR hq1 hq2
  have a1 := as61_61
  have a2 := as63_61
  have a3 := as63_63
  by_cases hf : l.first < 5
  · have HF := Lib.hid hf
    clear hf
    go_wp2_with
      (first
        | (go_at_call 18; go_must (refine (goods_ripe Q M lo hi _ _ _ _ _ _ _ S.lots i l S.tar.kinds _ HST.out (HS.out.parts.2.2.1.kept HG1.out (by simp)) HL.out HO.out HF.out).mono ?_); rintro e w2 ⟨rfl, hgr⟩; have HGR := Lib.hid hgr; clear hgr))
    go_ret2
    exact ⟨by simp [earV, HF.out], (HG1.out.trans HGR.out).trans (World.grownBy_alloc _ _ _)⟩
  · have HF := Lib.hid hf
    clear hf
    go_wp2_with
      (first
        | (go_at_call 18; go_must (refine (goods_kept Q M lo hi _ _ _ _ _ _ _ S.lots i l S.tar.kinds _ HST.out (HS.out.parts.2.2.1.kept HG1.out (by simp)) HL.out HO.out HF.out).mono ?_); rintro e w2 ⟨rfl, hgr⟩; have HGR := Lib.hid hgr; clear hgr))
    go_ret2
    exact ⟨by simp [earV, HF.out], (HG1.out.trans HGR.out).trans (World.grownBy_alloc _ _ _)⟩
end Go.Proofs.YtpjcjadcikeibaaGreatDoor
