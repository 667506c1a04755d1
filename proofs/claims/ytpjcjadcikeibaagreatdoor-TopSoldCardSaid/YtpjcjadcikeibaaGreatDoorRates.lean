import Derived.Test.YtpjcjadcikeibaaGreatDoorOnces
import Derived.StillTailTactics
namespace Go.Proofs.YtpjcjadcikeibaaGreatDoor
open Go.RowKit
def rateV (T : Tar) (k : Nat) : Value := .agg #[.int .i64 (T.rate k 0), .int .i64 (T.rate k 1), .int .i64 (T.rate k 2), .int .i64 (T.rate k 3), .int .i64 (T.rate k 4)]
set_option maxRecDepth 100000 in
set_option maxHeartbeats 3200000 in
theorem rates_any (lo hi Q k : Nat) (T : Tar) (fv rv ev : Value) (w : World) (hQ : TW w Q T fv rv ev)
    (hT : TarIn lo hi w (.agg #[.int .i64 T.kinds, fv, rv, ev]) T) (hV : T.Valid) (hhi : hi ≤ Q) (hk : k < T.kinds) :
    Calls Tryz.prog 34 #[.pointer (some ⟨Q, 0, none⟩), .int .i64 k] w fun e w' => e = .returned (rateV T k) ∧ w.grownBy w' (some Q) ∧ TW w' Q T fv rv ev := by
  have hmf : ∀ (fn : Fn) (first cap : Array Value) (w : World), (Instr.makeFunc fn first cap).run Tryz.prog w = .ok (.func fn first cap) w := fun _ _ _ _ => rfl
  have hQw : Q < w.heap.size := by obtain ⟨D, cs, r, -⟩ := hQ; exact (Array.getElem?_eq_some_iff.1 r).1
  have hk3 : k < 3 := by have := hV.k2; omega
  have HQ := Lib.hid hQ
  have HT := Lib.hid hT
  clear hQ hT
  go_enter Tryz.func34, Tryz.ntmps34
  go_upto_region 1 with (fail)
  obtain ⟨b, hb⟩ : ∃ b, b = w.heap.size := ⟨_, rfl⟩
  obtain ⟨wx, hwx⟩ : ∃ wx, wx = ((w.alloc (.cells #[.pointer (some ⟨Q, 0, none⟩)] 64)).alloc (.cells #[.int .i64 k] 3)).alloc (.cells #[.int .i64 0, .int .i64 0, .int .i64 0, .int .i64 0, .int .i64 0] 114) := ⟨_, rfl⟩
  rw [← hb, ← hwx]
  have hG : w.grownBy wx none := by rw [hwx]; exact ((World.grownBy_alloc _ _ _).trans (World.grownBy_alloc _ _ _)).trans (World.grownBy_alloc _ _ _)
  have x2 : wx.cell? ⟨b, 0, none⟩ = some (.pointer (some ⟨Q, 0, none⟩)) := by
    rw [hwx, hb]
    exact (World.grownBy_alloc _ _ none).cell ((World.grownBy_alloc _ _ none).cell (by rw [cell_new]; rfl) (by simp)) (by simp)
  have x3 : wx.cell? ⟨b + 1, 0, none⟩ = some (.int .i64 k) := by
    rw [hwx, hb]
    have := cell_new (w.alloc (.cells #[.pointer (some ⟨Q, 0, none⟩)] 64)) #[.int .i64 k] 3 0
    rw [show (w.alloc (.cells #[.pointer (some ⟨Q, 0, none⟩)] 64)).heap.size = w.heap.size + 1 from by simp] at this
    exact (World.grownBy_alloc _ _ none).cell (by rw [this]; rfl) (by simp)
  have xz : wx.heap[b + 1 + 1]? = some (rowG fun _ => 0) := by
    rw [hwx, hb]
    have := heap_alloc_new ((w.alloc (.cells #[.pointer (some ⟨Q, 0, none⟩)] 64)).alloc (.cells #[.int .i64 k] 3)) (.cells #[.int .i64 0, .int .i64 0, .int .i64 0, .int .i64 0, .int .i64 0] 114)
    rw [show ((w.alloc (.cells #[.pointer (some ⟨Q, 0, none⟩)] 64)).alloc (.cells #[.int .i64 k] 3)).heap.size = w.heap.size + 1 + 1 from by simp] at this
    exact this
  have HG := Lib.hid hG
  have XZ := Lib.hid xz
  have HB := Lib.hid hb
  have hQb : Q < b := by omega
  have DO := Lib.hid fun w' (hg : wx.grownBy w' none) => do_any lo hi b (b + 1) Q k T fv rv ev w' ((HQ.out.kept hG (by simp)).kept hg (by simp)) (hg.cell x2 (by simp)) (hg.cell x3 (by simp)) (by omega) (by omega) ((HT.out.kept hG (by simp)).kept hg (by simp)) hV hhi hk
  clear hwx hG xz hb HQ HT
  have hki : (k : Int) < 3 := by omega
  have hk0 : (0 : Int) ≤ k := by omega
  go_still_tail 6, (by kernel_rfl)
  change wpList _ _ _ _ _ wx.drew
  go_upto_region 2 with (first | (go_at_call 43; go_must (refine (DO.out _ (grownBy_drew _ _)).mono ?_); rintro e w2 ⟨rfl, hG2, hK2⟩))
  obtain ⟨D, ⟨cs, hr, hs, c0, c1, c2, c3, hj⟩, hD⟩ := hK2
  have y2 : w2.cell? ⟨b, 0, none⟩ = some (.pointer (some ⟨Q, 0, none⟩)) := hG2.cell x2 (by simp; omega)
  have y3 : w2.cell? ⟨b + 1, 0, none⟩ = some (.int .i64 k) := hG2.cell x3 (by simp; omega)
  have yz : w2.heap[b + 1 + 1]? = some (rowG fun _ => 0) := blk hG2 (by simp; omega) XZ.out
  have td := (hj k hk3).2.2 hD
  have t0 := row_cell hr (td 0 (by omega))
  have t1 := row_cell hr (td 1 (by omega))
  have t2 := row_cell hr (td 2 (by omega))
  have t3 := row_cell hr (td 3 (by omega))
  have t4 := row_cell hr (td 4 (by omega))
  have z0 := rowG_cell yz (show 0 < 5 by omega)
  have z1 := rowG_cell yz (show 1 < 5 by omega)
  have z2 := rowG_cell yz (show 2 < 5 by omega)
  have z3 := rowG_cell yz (show 3 < 5 by omega)
  have z4 := rowG_cell yz (show 4 < 5 by omega)
  have fz : ∀ o, w2.frozen? ⟨b + 1 + 1, o, none⟩ = false := fun o => rowG_thaw yz o
  have HTW := Lib.hid (show TW w2 Q T fv rv ev from ⟨D, cs, hr, hs, c0, c1, c2, c3, hj⟩)
  have HG2 := Lib.hid ((HG.out.but (some Q)).trans ((grownBy_drew wx (some Q)).trans hG2))
  have YZ := Lib.hid yz
  generalize hZ : b + 1 + 1 = Z at *
  have HZ := Lib.hid hZ
  clear hr hs c0 c1 c2 c3 hj hD td yz DO hG2 hZ x2 x3 HG XZ
  simp only [Nat.add_zero] at t0
  go_still_tail 6, (by kernel_rfl)
  change wpList _ _ _ _ _ w2.drew
  have Z0 : w2.drew.cell? ⟨Z, 0, none⟩ = some (.int .i64 0) := z0
  have Z1 : w2.drew.cell? ⟨Z, 1, none⟩ = some (.int .i64 0) := z1
  have Z2 : w2.drew.cell? ⟨Z, 2, none⟩ = some (.int .i64 0) := z2
  have Z3 : w2.drew.cell? ⟨Z, 3, none⟩ = some (.int .i64 0) := z3
  have Z4 : w2.drew.cell? ⟨Z, 4, none⟩ = some (.int .i64 0) := z4
  have FZ : ∀ o, w2.drew.frozen? ⟨Z, o, none⟩ = false := fz
  have YZ3 := Lib.hid (show w2.drew.heap[Z]? = some (rowG fun _ => 0) from YZ.out)
  have HG3 := Lib.hid (HG2.out.trans (grownBy_drew w2 _))
  have HT3 := Lib.hid (HTW.out.kept (grownBy_drew w2 none) (by simp))
  clear z0 z1 z2 z3 z4 fz YZ HG2 HTW t0 t1 t2 t3 t4 y2 y3
  revert Z0 Z1 Z2 Z3 Z4 FZ YZ3 HG3 HT3
  generalize w2.drew = w3
  intro Z0 Z1 Z2 Z3 Z4 FZ YZ3 HG3 HT3
  generalize hr0 : T.rate k 0 = r0
  generalize hr1 : T.rate k 1 = r1
  generalize hr2 : T.rate k 2 = r2
  generalize hr3 : T.rate k 3 = r3
  generalize hr4 : T.rate k 4 = r4
  have HRR := Lib.hid (And.intro hr0 (And.intro hr1 (And.intro hr2 (And.intro hr3 hr4))))
  clear hr0 hr1 hr2 hr3 hr4
  obtain ⟨W, hW⟩ : ∃ W, W = ((((w3.setCell ⟨Z, 0, none⟩ (.int .i64 r0)).setCell ⟨Z, 1, none⟩ (.int .i64 r1)).setCell ⟨Z, 2, none⟩ (.int .i64 r2)).setCell ⟨Z, 3, none⟩ (.int .i64 r3)).setCell ⟨Z, 4, none⟩ (.int .i64 r4) := ⟨_, rfl⟩
  have BW : W.heap[Z]? = some (.cells #[.int .i64 r0, .int .i64 r1, .int .i64 r2, .int .i64 r3, .int .i64 r4] 114 (0, 0)) := by
    have yz := YZ3.out
    unfold rowG at yz
    rw [hW, row_setCell (row_setCell (row_setCell (row_setCell (row_setCell yz))))]
    rfl
  have hZw : w.heap.size ≤ Z := by have := HB.out; have := HZ.out; omega
  have hset : w3.grownBy W (some Z) := by rw [hW]; exact ((((grownBy_set _ _ _ _).trans (grownBy_set _ _ _ _)).trans (grownBy_set _ _ _ _)).trans (grownBy_set _ _ _ _)).trans (grownBy_set _ _ _ _)
  have HGW := Lib.hid (HG3.out.andThen hset (by rintro j e; cases e; exact .inl hZw))
  have HTW := Lib.hid (HT3.out.kept hset (by rintro R e; cases e; omega))
  have HBW := Lib.hid BW
  have HW := Lib.hid hW
  clear BW hW hset HG3 HT3 YZ3
  go_wp2
  rw [← HW.out]
  obtain ⟨hr0, hr1, hr2, hr3, hr4⟩ := HRR.out
  subst hr0 hr1 hr2 hr3 hr4
  exact bodyPost_ret (v := rateV T k) (by simp [results, Tryz.results34, go_sem, World.cell?, HBW.out, rateV]) rfl ⟨rfl, HGW.out, HTW.out⟩
end Go.Proofs.YtpjcjadcikeibaaGreatDoor
