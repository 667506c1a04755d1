import Derived.Test.YtpjcjadcikeibaaGreatDoorBrings
namespace Go.Proofs.YtpjcjadcikeibaaGreatDoor
open Go.RowKit
set_option maxRecDepth 100000 in
set_option maxHeartbeats 3200000 in
theorem sgain_any (lo hi : Nat) (S : Sal) (fa ra ea pa la : Option Addr) (fm fc rm rc em ec pc lc : Nat) (i d f K a b : Nat) (t x X : Int) (w : World) (hS : SaleIn lo hi w (.agg #[.int .i64 S.tar.kinds, .slice fa fm fc, .slice ra rm rc, .slice ea em ec, .slice pa 5 pc, .slice la S.lots.length lc]) S) (hV : S.Valid) (hhi : hi ≤ w.heap.size)
    (hl : S.lots[i]? = some ⟨K, a, b, t, x, X⟩) (hf : Lt.first ⟨K, a, b, t, x, X⟩ = f) (hfd : f ≤ d) (hbd : b < 24 * d) (hd : d ≤ 4) :
    Calls Tryz.prog 11 #[.agg #[.int .i64 S.tar.kinds, .slice fa fm fc, .slice ra rm rc, .slice ea em ec, .slice pa 5 pc, .slice la S.lots.length lc], .int .i64 i, .int .i64 d] w fun e w' => e = .returned (.tuple #[.agg #[.int .i64 (imin (S.tar.fee K b (24 * d)) x), .int .i64 (imin (S.tar.fee K a (24 * d)) X)], .int .i64 0]) ∧ w.grownBy w' none := by
  obtain ⟨P, hP⟩ : ∃ P, P = w.heap.size := ⟨_, rfl⟩
  obtain ⟨wx, hwx⟩ : ∃ wx, wx = (w.alloc (.cells #[.int .i64 S.tar.kinds, .slice fa fm fc, .slice ra rm rc, .slice ea em ec, .slice pa 5 pc, .slice la S.lots.length lc] 30)).alloc (.cells #[.int .i64 0, .int .i64 0] 34) := ⟨_, rfl⟩
  have hG : w.grownBy wx none := by rw [hwx]; exact (World.grownBy_alloc _ _ _).trans (World.grownBy_alloc _ _ _)
  have rp : wx.heap[P]? = some (.cells #[.int .i64 S.tar.kinds, .slice fa fm fc, .slice ra rm rc, .slice ea em ec, .slice pa 5 pc, .slice la S.lots.length lc] 30 (0, 0)) := by rw [hwx, hP]; exact blk_alloc (heap_alloc_new w _)
  have rz : wx.heap[P + 1]? = some (.cells #[.int .i64 0, .int .i64 0] 34 (0, 0)) := by
    rw [hwx, hP]
    have := heap_alloc_new (w.alloc (.cells #[.int .i64 S.tar.kinds, .slice fa fm fc, .slice ra rm rc, .slice ea em ec, .slice pa 5 pc, .slice la S.lots.length lc] 30)) (.cells #[.int .i64 0, .int .i64 0] 34)
    rw [World.size_alloc] at this
    exact this
  obtain ⟨b0, b1, b2, b3, b4, b5⟩ := six rfl rp
  have ON := Lib.hid (on_any lo hi S _ _ _ _ _ _ _ _ _ _ _ _ _ i f d _ wx (hS.kept hG (by simp)) hV hl hf hfd hd)
  have OW := Lib.hid fun Q M W (hg : w.grownBy W none) (hst : StallAt W Q M (.int .i64 S.tar.kinds) (.slice fa fm fc) (.slice ra rm rc) (.slice ea em ec) (.slice pa 5 pc) (.slice la S.lots.length lc)) (hqm : Q ≠ M) => brings_any lo hi S _ _ _ _ _ _ _ _ _ _ _ _ _ Q M i d K a b t x X W (hS.kept hg (by simp)) hV hst hqm (Nat.le_trans hhi hg.size) hl hbd hd
  have HG := Lib.hid hG
  have HP := Lib.hid hP
  have HWX := Lib.hid hwx
  have RZ := Lib.hid rz
  clear hS hV hhi hl hf hfd hbd hd hG hwx rp rz hP
  go_enter Tryz.func11, Tryz.ntmps11
  go_upto_region 1 with (fail)
  rw [← HP.out, ← HWX.out]
  go_upto_region 2 with (first | (go_at_call 24; go_must (refine ON.out.mono ?_); rintro e w2 ⟨Q, M, rfl, hq, hm, hqm, hst, hg⟩))
  have OW2 := Lib.hid (OW.out Q M w2 (HG.out.trans hg) hst hqm)
  have HG2 := Lib.hid (HG.out.trans hg)
  have RZ2 := Lib.hid (blk hg (by simp) RZ.out)
  have hMw : w.heap.size ≤ M := Nat.le_trans HG.out.size hm
  have hZM : P + 1 ≠ M := by have := (Array.getElem?_eq_some_iff.1 RZ.out).1; omega
  clear hq hm hqm hst hg ON OW b0 b1 b2 b3 b4 b5 RZ
  generalize hZ : P + 1 = Z at *
  have hZw : w.heap.size ≤ Z := by have := HP.out; omega
  clear hZ HWX HG
  go_upto_region 4 with (fail)
  generalize hm1 : imin (S.tar.fee K b (24 * d)) x = m1 at *
  generalize hm2 : imin (S.tar.fee K a (24 * d)) X = m2 at *
  have HM1 := Lib.hid hm1
  have HM2 := Lib.hid hm2
  clear hm1 hm2
  go_upto_region 5 with (first | (go_at_call 26; go_must (refine OW2.out.mono ?_); rintro e w4 ⟨rfl, hg4⟩; have R4 := Lib.hid (blk hg4 (by simp; omega) RZ2.out); have HG4 := Lib.hid (HG2.out.andThen hg4 (by rintro j e; cases e; exact .inl hMw)); clear hg4))
  have hg5 := World.grownBy_alloc w4 (.cells #[.int .i64 m1, .int .i64 m2] 81) none
  have n0 : (w4.alloc (.cells #[.int .i64 m1, .int .i64 m2] 81)).cell? ⟨w4.heap.size, 0, none⟩ = some (.int .i64 m1) := by rw [cell_new]; rfl
  have n1 : (w4.alloc (.cells #[.int .i64 m1, .int .i64 m2] 81)).cell? ⟨w4.heap.size, 1, none⟩ = some (.int .i64 m2) := by rw [cell_new]; rfl
  have R5 := Lib.hid (blk hg5 (by simp) R4.out)
  have HG5 := Lib.hid (HG4.out.trans hg5)
  clear hg5 R4 HG4
  revert n0 n1 R5 HG5
  generalize w4.alloc (.cells #[.int .i64 m1, .int .i64 m2] 81) = w5
  generalize w4.heap.size = N
  intro n0 n1 R5 HG5
  have z0 : w5.cell? ⟨Z, 0, none⟩ = some (.int .i64 0) := row_cell R5.out rfl
  have z1 : w5.cell? ⟨Z, 1, none⟩ = some (.int .i64 0) := row_cell R5.out rfl
  have fz : ∀ o, w5.frozen? ⟨Z, o, none⟩ = false := fun o => row_thaw R5.out
  go_wp2
  obtain ⟨hRW, hGW⟩ := fin34 R5.out HG5.out hZw m1 m2
  revert hRW hGW
  generalize (w5.setCell ⟨Z, 0, none⟩ (.int .i64 m1)).setCell ⟨Z, 1, none⟩ (.int .i64 m2) = W
  intro hRW hGW
  rw [HM1.out, HM2.out]
  exact bodyPost_ret (v := .tuple #[.agg #[.int .i64 m1, .int .i64 m2], .int .i64 0]) (by simp [results, Tryz.results11, go_sem, World.cell?, hRW]) rfl ⟨rfl, hGW⟩
end Go.Proofs.YtpjcjadcikeibaaGreatDoor
