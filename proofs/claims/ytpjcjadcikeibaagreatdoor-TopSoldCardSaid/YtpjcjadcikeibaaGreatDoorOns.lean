import Derived.Test.YtpjcjadcikeibaaGreatDoorBegins
import Derived.ScopeJumps
import Derived.WalkMore
namespace Go.Proofs.YtpjcjadcikeibaaGreatDoor
open Go.RowKit
theorem goods_ripen (Q M lo hi : Nat) (a b c d e : Value) (la : Option Addr) (lc : Nat) (ls : List Lt) (i f : Nat) (l : Lt) (n : Int) (w : World) (hS : StallAt w Q M a b c d e (.slice la ls.length lc)) (hL : LotsIn lo hi w (.slice la ls.length lc) ls) (hl : ls[i]? = some l) (ho : l.Ok n) (hf : l.first = f) (hf4 : f ≤ 4) :
    Calls Tryz.prog 18 #[.pointer (some ⟨Q, 0, none⟩), .int .i64 i] w fun e w' => e = .returned (.iface 61 (.agg #[.int .i64 f])) ∧ w.grownBy w' none := by
  have h := goods_ripe Q M lo hi a b c d e la lc ls i l n w hS hL hl ho (by omega)
  rwa [hf] at h
def mask (f d : Nat) : Int := ((2 ^ d - 2 ^ f : Nat) : Int)
set_option maxRecDepth 100000 in
theorem with_any (f d : Nat) (w : World) (h1 : 1 ≤ f) (h2 : f ≤ d) (h3 : d ≤ 4) :
    Calls Tryz.prog 105 #[.int .u8 (mask f d), .int .i64 d] w fun e w' => e = .returned (.int .u8 (mask f (d + 1))) ∧ w = w' := by
  obtain rfl | rfl | rfl | rfl : d = 1 ∨ d = 2 ∨ d = 3 ∨ d = 4 := by omega
  all_goals
    have hf : f = 1 ∨ f = 2 ∨ f = 3 ∨ f = 4 := by omega
    rcases hf with rfl | rfl | rfl | rfl
    all_goals first | omega | skip
  all_goals
    go_enter Tryz.func105, Tryz.ntmps105
    go_wp2
    go_ret
    exact ⟨by rfl, rfl⟩
theorem with_any0 (f : Nat) (w : World) (h1 : 1 ≤ f) (h3 : f ≤ 4) :
    Calls Tryz.prog 105 #[.int .u8 0, .int .i64 f] w fun e w' => e = .returned (.int .u8 (mask f (f + 1))) ∧ w = w' := by
  have h := with_any f f w h1 (Nat.le_refl _) h3
  rwa [show mask f f = 0 from by unfold mask; simp] at h
set_option maxRecDepth 100000 in
theorem has_any (f n : Nat) (w : World) (h1 : 1 ≤ f) (h2 : f ≤ n) (h3 : n ≤ 4) :
    Calls Tryz.prog 36 #[.int .u8 (mask f 5), .int .i64 n] w fun e w' => e = .returned (.bool true) ∧ w.grownBy w' none := by
  obtain rfl | rfl | rfl | rfl : n = 1 ∨ n = 2 ∨ n = 3 ∨ n = 4 := by omega
  all_goals
    have hf : f = 1 ∨ f = 2 ∨ f = 3 ∨ f = 4 := by omega
    rcases hf with rfl | rfl | rfl | rfl
    all_goals first | omega | skip
  all_goals
    go_enter Tryz.func36, Tryz.ntmps36
    go_wp2
    go_ret
    exact ⟨by rfl, World.grownBy.refl _ _⟩
set_option maxRecDepth 100000 in
theorem ripeon_any (f : Nat) (w : World) (h1 : 1 ≤ f) (h2 : f ≤ 4) :
    Calls Tryz.prog 104 #[.agg #[.int .i64 f]] w fun e w' => e = .returned (.int .u8 (mask f 5)) ∧ w.grownBy w' none := by
  obtain ⟨wb, hwb⟩ : ∃ wb, wb = w.alloc (.cells #[.int .i64 f] 61) := ⟨_, rfl⟩
  have hG : w.grownBy wb none := by rw [hwb]; exact World.grownBy_alloc _ _ _
  obtain ⟨P, hP⟩ : ∃ P, P = w.heap.size := ⟨_, rfl⟩
  have hc : wb.cell? ⟨P, 0, none⟩ = some (.int .i64 f) := by rw [hwb, hP]; exact cell_new w #[.int .i64 f] 61 0
  have HWB := Lib.hid hwb
  have HP := Lib.hid hP
  have HG := Lib.hid hG
  clear hwb hP hG
  go_enter Tryz.func104, Tryz.ntmps104
  go_wp2
  rw [← HWB.out, ← HP.out]
  refine wp_scope_jumps 0 (fun a' w' => wb = w' ∧ ∃ (d : Nat) (u7 u8 u9 u10 u11 u12 u13 : Value), a' = { tmps := #[.agg #[.int .i64 f], .pointer (some ⟨P, 0, none⟩), .int .u8 0, .int .u8 (mask f d), .int .i64 d, .pointer (some ⟨P, 0, none⟩), .int .i64 f, u7, u8, u9, u10, u11, u12, u13, undef], defers := [] } ∧ f ≤ d ∧ d ≤ 5) (fun a' _ => (5 - intOf (a'.tmps.getD 4 undef)).toNat) rfl ?_ ?_
  · go_wp2
    go_step3
    go_wp2_with (first | (go_at_call 105; go_must (refine (with_any0 f _ (by omega) (by omega)).mono ?_); rintro e w' ⟨rfl, rfl⟩))
    go_step3
    exact ⟨rfl, rfl, f + 1, _, _, _, _, _, _, _, rfl, by omega, by omega⟩
  · rintro a' w' ⟨rfl, d, u7, u8, u9, u10, u11, u12, u13, rfl, hd1, hd2⟩
    go_wp2_with (first | (go_at_call 105; go_must (refine (with_any f d _ (by omega) (by omega) (by omega)).mono ?_); rintro e w' ⟨rfl, rfl⟩))
    · go_step3
      refine ⟨rfl, ⟨rfl, d + 1, _, _, _, _, _, _, _, rfl, by omega, by omega⟩, ?_⟩
      simp [intOf]
      omega
    · simp only [Exit.jump]
      go_ret
      obtain rfl : d = 5 := by omega
      exact ⟨rfl, HG.out⟩
theorem ripe_method (v : Value) (w : World) : (method 323 61 v "gladstone/sale.on").run Tryz.prog w = .ok (104, v) w := by kernel_rfl
set_option maxRecDepth 100000 in
set_option maxHeartbeats 1600000 in
theorem on_any (lo hi : Nat) (S : Sal) (fa ra ea pa la : Option Addr) (fm fc rm rc em ec pc lc : Nat) (i f d : Nat) (l : Lt) (w : World) (hS : SaleIn lo hi w (.agg #[.int .i64 S.tar.kinds, .slice fa fm fc, .slice ra rm rc, .slice ea em ec, .slice pa 5 pc, .slice la S.lots.length lc]) S) (hV : S.Valid) (hl : S.lots[i]? = some l) (hf : l.first = f) (hfd : f ≤ d) (hd : d ≤ 4) :
    Calls Tryz.prog 24 #[.agg #[.int .i64 S.tar.kinds, .slice fa fm fc, .slice ra rm rc, .slice ea em ec, .slice pa 5 pc, .slice la S.lots.length lc], .int .i64 i, .int .i64 d] w fun e w' => ∃ Q M, e = .returned (.tuple #[.pointer (some ⟨Q, 0, none⟩), .int .i64 0]) ∧ w.heap.size ≤ Q ∧ w.heap.size ≤ M ∧ Q ≠ M ∧ StallAt w' Q M (.int .i64 S.tar.kinds) (.slice fa fm fc) (.slice ra rm rc) (.slice ea em ec) (.slice pa 5 pc) (.slice la S.lots.length lc) ∧ w.grownBy w' none := by
  have hi1 : i < S.lots.length := (List.getElem?_eq_some_iff.1 hl).1
  have ho := hV.lot l (List.mem_of_getElem? hl)
  have hf1 : 1 ≤ f := by have := ho.first.1; omega
  have HO := Lib.hid ho
  have HS := Lib.hid hS
  have HV := Lib.hid hV
  have HL := Lib.hid hl
  have HF := Lib.hid hf
  clear ho hS hV hl hf
  have hm := ripe_method
  go_enter Tryz.func24, Tryz.ntmps24
  go_upto_region 2 with (first | (go_at_call 17; go_must (refine (begin_any lo hi S _ _ _ _ _ _ _ _ _ _ _ _ _ i _ (by exact HS.out.kept (World.grownBy_alloc _ _ none) (by simp)) HV.out hi1).mono ?_); rintro e w1 ⟨Q, M, rfl, hq1, hq2, hq3, hst, hgr⟩; have HST := Lib.hid hst; have HGR := Lib.hid hgr; clear hst hgr))
  have HG1 := Lib.hid ((World.grownBy_alloc w _ none).trans HGR.out)
  have hq1' : w.heap.size ≤ Q := Nat.le_trans (by simp) hq1
  have hq2' : w.heap.size ≤ M := Nat.le_trans (by simp) hq2
  clear HGR hq1 hq2
  go_wp2_with
    (first
      | (go_at_call 30; go_must (refine (outside_any _ _ _ _ (by omega) (by omega)).mono ?_); rintro e w' ⟨rfl, rfl⟩)
      | (go_at_call 18; go_must (refine (goods_ripen Q M lo hi _ _ _ _ _ _ _ S.lots i f l S.tar.kinds _ HST.out (HS.out.parts.2.2.1.kept HG1.out (by simp)) HL.out HO.out HF.out (by omega)).mono ?_); rintro e w2 ⟨rfl, hgr⟩; have HGR2 := Lib.hid hgr; clear hgr)
      | (go_at_call 104; go_must (refine (ripeon_any f _ (by omega) (by omega)).mono ?_); rintro e w3 ⟨rfl, hgr⟩; have HGR3 := Lib.hid hgr; clear hgr)
      | (go_at_call 36; go_must (refine (has_any f d _ (by omega) (by omega) (by omega)).mono ?_); rintro e w4 ⟨rfl, hgr⟩; have HGR4 := Lib.hid hgr; clear hgr))
  go_ret2
  exact ⟨Q, M, rfl, hq1', hq2', hq3, ((HST.out.kept HGR2.out (by simp)).kept HGR3.out (by simp)).kept HGR4.out (by simp), ((HG1.out.trans HGR2.out).trans HGR3.out).trans HGR4.out⟩
end Go.Proofs.YtpjcjadcikeibaaGreatDoor
