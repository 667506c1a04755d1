import Derived.Test.YtpjcjadcikeibaaGreatDoorCheckf
namespace Go.Proofs.YtpjcjadcikeibaaGreatDoor
open Go.RowKit
set_option maxRecDepth 100000 in
theorem outside_any (x lo hi : Int) (w : World) (h1 : lo ≤ x) (h2 : x ≤ hi) :
    Calls Tryz.prog 30 #[.int .i64 x, .int .i64 lo, .int .i64 hi] w fun e w' => e = .returned (.bool false) ∧ w = w' := by
  go_enter Tryz.func30, Tryz.ntmps30
  go_wp2
  go_ret
  exact ⟨by simp; omega, rfl⟩
set_option maxRecDepth 100000 in
set_option maxHeartbeats 1600000 in
theorem checklot_any (k : Nat) (fa ra ea pa la : Option Addr) (fm fc rm rc em ec pm pc lm lc : Nat) (K m M t x X : Int) (w : World) (hk : k ≤ 3) (hl : LotOk k K m M t x X) :
    Calls Tryz.prog 39 #[.agg #[.int .i64 k, .slice fa fm fc, .slice ra rm rc, .slice ea em ec, .slice pa pm pc, .slice la lm lc], .agg #[.int .i64 K, .int .i64 m, .int .i64 M, .int .i64 t, .int .i64 x, .int .i64 X]] w
      fun e w' => e = .returned (.int .i64 0) ∧ w.grownBy w' none := by
  obtain ⟨h1, h2, h3, h4, h5, h6, h7, h8, h9, h10⟩ := hl
  go_enter Tryz.func39, Tryz.ntmps39
  have hkk : IntKind.i64.wrap ((k : Int) - 1) = k - 1 := IntWalk.i64_in _ (by omega)
  have hW := Lib.hid hkk
  go_wp2_with (first | (go_at_call 30; go_must (refine (outside_any _ _ _ _ (by omega) (by omega)).mono ?_); rintro e w' ⟨rfl, rfl⟩))
  go_ret
  exact ⟨rfl, (World.grownBy_alloc _ _ none).trans (World.grownBy_alloc _ _ none)⟩

theorem LotsIn.cell {lo hi : Nat} {w : World} {v : Value} {l : List Lt} (h : LotsIn lo hi w v l) : ∃ base cap, v = .slice base l.length cap ∧ (l.length : Int) ≤ 1000000 ∧
    (l ≠ [] → ∃ B o, base = some ⟨B, o, none⟩ ∧ lo ≤ B ∧ B < hi ∧ B < w.heap.size ∧ ∀ i x, l[i]? = some x → w.cell? ⟨B, o + i * 6, none⟩ = some (.int .i64 x.kind) ∧ w.cell? ⟨B, o + i * 6 + 1, none⟩ = some (.int .i64 x.lmin) ∧ w.cell? ⟨B, o + i * 6 + 2, none⟩ = some (.int .i64 x.lmax) ∧ w.cell? ⟨B, o + i * 6 + 3, none⟩ = some (.int .i64 x.wait) ∧ w.cell? ⟨B, o + i * 6 + 4, none⟩ = some (.int .i64 x.wmin) ∧ w.cell? ⟨B, o + i * 6 + 5, none⟩ = some (.int .i64 x.wmax)) := by
  obtain ⟨base, cap, rfl, hl, hr'⟩ := h
  refine ⟨base, cap, rfl, hl, fun hne => ?_⟩
  obtain ⟨B, o, cs, fr, e1, e2, e3, e4, e5⟩ := hr' hne
  refine ⟨B, o, e1, e2, e3, (Array.getElem?_eq_some_iff.1 e4).1, fun i x hi => ?_⟩
  obtain ⟨a1, a2, a3, a4, a5, a6⟩ := e5 i x hi
  refine ⟨?_, ?_, ?_, ?_, ?_, ?_⟩ <;> simp [World.cell?, e4, Nat.add_assoc, a1, a2, a3, a4, a5, a6]
theorem six {w : World} {P ty : Nat} {fr : Nat × Nat} {a b c d e f : Value} {row : Obj} (hrow : row = .cells #[a, b, c, d, e, f] ty fr) (h : w.heap[P]? = some row) :
    w.cell? ⟨P, 0, none⟩ = some a ∧ w.cell? ⟨P, 1, none⟩ = some b ∧ w.cell? ⟨P, 2, none⟩ = some c ∧ w.cell? ⟨P, 3, none⟩ = some d ∧ w.cell? ⟨P, 4, none⟩ = some e ∧ w.cell? ⟨P, 5, none⟩ = some f := by
  subst hrow
  refine ⟨?_, ?_, ?_, ?_, ?_, ?_⟩ <;> simp [World.cell?, h]
set_option maxRecDepth 100000 in
set_option maxHeartbeats 3200000 in
theorem salecheck_any (lo hi : Nat) (v : Value) (S : Sal) (w : World) (hS : SaleIn lo hi w v S) (hV : S.Valid) :
    Calls Tryz.prog 29 #[v] w fun e w' => e = .returned (.int .i64 0) ∧ w.grownBy w' none := by
  obtain ⟨fv, rv, ev, pv, lv, rfl, hT, hR, hL⟩ := hS
  obtain ⟨fa, fm, fc, ra, rm, rc, ea, em, ec, hform⟩ := hT.form
  obtain ⟨rfl, rfl, rfl⟩ : fv = .slice fa fm fc ∧ rv = .slice ra rm rc ∧ ev = .slice ea em ec := by simpa using hform
  clear hform
  obtain ⟨pa, pc, rfl, -⟩ := hR.cell
  obtain ⟨la, lc, rfl, -⟩ := hL.cell
  have hk1 := hV.tar.k1
  have hk2 := hV.tar.k2
  have hr1 : 5 ≤ S.rooms.length := by have := hV.r; omega
  have hr2 : S.rooms.length ≤ 5 := by have := hV.r; omega
  have hn := hV.n
  have HV := Lib.hid hV
  have HT := Lib.hid hT
  have HR := Lib.hid hR
  have HL := Lib.hid hL
  clear hV hT hR hL
  obtain ⟨P, hP⟩ : ∃ P, P = w.heap.size := ⟨_, rfl⟩
  obtain ⟨row, hrow⟩ : ∃ row, row = Obj.cells #[.int .i64 S.tar.kinds, .slice fa fm fc, .slice ra rm rc, .slice ea em ec, .slice pa S.rooms.length pc, .slice la S.lots.length lc] 30 (0, 0) := ⟨_, rfl⟩
  have hB0 : (w.alloc row).heap[P]? = some row := by rw [hP]; exact heap_alloc_new w _
  have hG0 : w.grownBy (w.alloc row) none := World.grownBy_alloc w _ _
  have HP := Lib.hid hP
  go_enter Tryz.func29, Tryz.ntmps29
  go_upto_region 1 with (fail)
  rw [← hrow, ← HP.out]
  clear hP
  have HG0 := Lib.hid hG0
  have HB0 := Lib.hid hB0
  have HROW := Lib.hid hrow
  have HT0 := Lib.hid (HT.out.kept (World.grownBy_alloc w row none) (by simp))
  clear hG0 hB0 hrow
  revert HG0 HB0 HT0
  generalize w.alloc row = wx
  intro HG0 HB0 HT0
  obtain ⟨b0, b1, b2, b3, b4, b5⟩ := six HROW.out HB0.out
  go_upto_region 2 with (first | (go_at_call 38; go_must (refine (check_any lo hi _ S.tar _ (by exact HT0.out) HV.out.tar).mono ?_); rintro e w2 ⟨rfl, hgr⟩; have HGR := Lib.hid hgr; clear hgr))
  have HG1 := Lib.hid (HG0.out.trans HGR.out)
  have HB1 := Lib.hid (blk HGR.out (by simp) HB0.out)
  clear HGR HG0 HB0 HT0 b0 b1 b2 b3 b4 b5
  obtain ⟨b0, b1, b2, b3, b4, b5⟩ := six HROW.out HB1.out
  have HR' := Lib.hid (HR.out.kept HG1.out (by simp)).cell
  have HX := Lib.hid HV.out.room
  go_wp2
  go_loopw [28] (fun i wr => ∃ k : Nat, i = .int .i64 k ∧ k ≤ S.rooms.length ∧ w2 = wr) (fun i _ => (S.rooms.length - intOf i).toNat)
  case atStart => exact ⟨0, rfl, by omega, rfl⟩
  case round =>
    obtain ⟨k, rfl, hk, rfl⟩ := hrel
    by_cases hlt : k < S.rooms.length
    · obtain ⟨pa', pc', he, -, hcell⟩ := HR'.out
      cases he
      obtain ⟨B, o, rfl, hB1, hB2, hB3, hB4⟩ := hcell (by intro e; rw [e] at hlt; simp at hlt)
      have hk' := hB4 k hlt
      have hm := HX.out (S.rooms[k]?.getD 0) (by simp [List.getElem?_eq_getElem hlt])
      generalize S.rooms[k]?.getD 0 = x at hk' hm
      clear hB4 hcell
      go_wp2_with (first | (go_at_call 30; go_must (refine (outside_any _ _ _ _ (by omega) (by omega)).mono ?_); rintro e w' ⟨rfl, rfl⟩))
      go_roundw
      case rel => exact ⟨k + 1, by simp, by omega, by first | rfl | trivial⟩
      case measure => simp [intOf]; omega
    · clear HR'
      go_wp2
      clear b0 b1 b2 b3 b4 b5
      go_loopw [42] (CK P S.lots.length row w) (fun i _ => (S.lots.length - intOf i).toNat)
      case atStart => exact ⟨0, rfl, by omega, HG1.out, HB1.out⟩
      case round =>
        obtain ⟨wq, rfl⟩ : ∃ wq : World, wq = wr := ⟨_, rfl⟩
        clear HG1 HB1 hlt hk HX
        obtain ⟨k, rfl, hk, hG, hB⟩ := hrel
        have HL' := HL.out.kept hG (by simp)
        obtain ⟨b0, b1, b2, b3, b4, b5⟩ := six HROW.out hB
        have HG := Lib.hid hG
        have HB := Lib.hid hB
        clear hG hB
        by_cases hlt : k < S.lots.length
        · obtain ⟨la', lc', he, -, hcell⟩ := HL'.cell
          cases he
          obtain ⟨B, o, rfl, hB1, hB2, hB3, hB4⟩ := hcell (by intro e; rw [e] at hlt; simp at hlt)
          clear HL'
          obtain rfl | rfl | rfl : k = 0 ∨ k = 1 ∨ k = 2 := by omega
          · have hN := Lib.hid hlt
            obtain ⟨l, hl⟩ : ∃ l, S.lots[0]? = some l := ⟨_, List.getElem?_eq_getElem hlt⟩
            obtain ⟨c0, c1, c2, c3, c4, c5⟩ := hB4 0 l hl
            have hok := Lib.hid (HV.out.lot l (List.mem_of_getElem? hl))
            simp at c0 c1 c2 c3 c4 c5
            clear hB4 hcell hl
            go_upto_region 20 with (fail)
            have b0' := blk_alloc (p := .cells #[.int .i64 l.kind, .int .i64 l.lmin, .int .i64 l.lmax, .int .i64 l.wait, .int .i64 l.wmin, .int .i64 l.wmax] 36) HB.out
            obtain ⟨d0, d1, d2, d3, d4, d5⟩ := six (w := wq.alloc (.cells #[.int .i64 l.kind, .int .i64 l.lmin, .int .i64 l.lmax, .int .i64 l.wait, .int .i64 l.wmin, .int .i64 l.wmax] 36)) rfl (heap_alloc_new wq _)
            obtain ⟨b0, b1, b2, b3, b4, b5⟩ := six HROW.out b0'
            have G4 := Lib.hid (HG.out.trans (World.grownBy_alloc wq (.cells #[.int .i64 l.kind, .int .i64 l.lmin, .int .i64 l.lmax, .int .i64 l.wait, .int .i64 l.wmin, .int .i64 l.wmax] 36) none))
            have B4 := Lib.hid b0'
            clear HG HB b0'
            revert b0 b1 b2 b3 b4 b5 d0 d1 d2 d3 d4 d5 G4 B4
            generalize wq.alloc (.cells #[.int .i64 l.kind, .int .i64 l.lmin, .int .i64 l.lmax, .int .i64 l.wait, .int .i64 l.wmin, .int .i64 l.wmax] 36) = wx
            intro b0 b1 b2 b3 b4 b5 d0 d1 d2 d3 d4 d5 G4 B4
            go_wp2_with (first | (go_at_call 39; go_must (refine (checklot_any S.tar.kinds _ _ _ _ _ _ _ _ _ _ _ _ _ _ _ _ _ _ _ _ _ _ (by omega) hok.out).mono ?_); rintro e w' ⟨rfl, hgr⟩; have HGR := Lib.hid hgr; clear hgr))
            go_roundw
            case rel => exact ⟨1, rfl, by omega, G4.out.trans HGR.out, blk HGR.out (by simp) B4.out⟩
            case measure => simp [intOf]; omega
          · have hN := Lib.hid hlt
            obtain ⟨l, hl⟩ : ∃ l, S.lots[1]? = some l := ⟨_, List.getElem?_eq_getElem hlt⟩
            obtain ⟨c0, c1, c2, c3, c4, c5⟩ := hB4 1 l hl
            have hok := Lib.hid (HV.out.lot l (List.mem_of_getElem? hl))
            simp at c0 c1 c2 c3 c4 c5
            clear hB4 hcell hl
            go_upto_region 20 with (fail)
            have b0' := blk_alloc (p := .cells #[.int .i64 l.kind, .int .i64 l.lmin, .int .i64 l.lmax, .int .i64 l.wait, .int .i64 l.wmin, .int .i64 l.wmax] 36) HB.out
            obtain ⟨d0, d1, d2, d3, d4, d5⟩ := six (w := wq.alloc (.cells #[.int .i64 l.kind, .int .i64 l.lmin, .int .i64 l.lmax, .int .i64 l.wait, .int .i64 l.wmin, .int .i64 l.wmax] 36)) rfl (heap_alloc_new wq _)
            obtain ⟨b0, b1, b2, b3, b4, b5⟩ := six HROW.out b0'
            have G4 := Lib.hid (HG.out.trans (World.grownBy_alloc wq (.cells #[.int .i64 l.kind, .int .i64 l.lmin, .int .i64 l.lmax, .int .i64 l.wait, .int .i64 l.wmin, .int .i64 l.wmax] 36) none))
            have B4 := Lib.hid b0'
            clear HG HB b0'
            revert b0 b1 b2 b3 b4 b5 d0 d1 d2 d3 d4 d5 G4 B4
            generalize wq.alloc (.cells #[.int .i64 l.kind, .int .i64 l.lmin, .int .i64 l.lmax, .int .i64 l.wait, .int .i64 l.wmin, .int .i64 l.wmax] 36) = wx
            intro b0 b1 b2 b3 b4 b5 d0 d1 d2 d3 d4 d5 G4 B4
            go_wp2_with (first | (go_at_call 39; go_must (refine (checklot_any S.tar.kinds _ _ _ _ _ _ _ _ _ _ _ _ _ _ _ _ _ _ _ _ _ _ (by omega) hok.out).mono ?_); rintro e w' ⟨rfl, hgr⟩; have HGR := Lib.hid hgr; clear hgr))
            go_roundw
            case rel => exact ⟨2, rfl, by omega, G4.out.trans HGR.out, blk HGR.out (by simp) B4.out⟩
            case measure => simp [intOf]; omega
          · have hN := Lib.hid hlt
            obtain ⟨l, hl⟩ : ∃ l, S.lots[2]? = some l := ⟨_, List.getElem?_eq_getElem hlt⟩
            obtain ⟨c0, c1, c2, c3, c4, c5⟩ := hB4 2 l hl
            have hok := Lib.hid (HV.out.lot l (List.mem_of_getElem? hl))
            simp at c0 c1 c2 c3 c4 c5
            clear hB4 hcell hl
            go_upto_region 20 with (fail)
            have b0' := blk_alloc (p := .cells #[.int .i64 l.kind, .int .i64 l.lmin, .int .i64 l.lmax, .int .i64 l.wait, .int .i64 l.wmin, .int .i64 l.wmax] 36) HB.out
            obtain ⟨d0, d1, d2, d3, d4, d5⟩ := six (w := wq.alloc (.cells #[.int .i64 l.kind, .int .i64 l.lmin, .int .i64 l.lmax, .int .i64 l.wait, .int .i64 l.wmin, .int .i64 l.wmax] 36)) rfl (heap_alloc_new wq _)
            obtain ⟨b0, b1, b2, b3, b4, b5⟩ := six HROW.out b0'
            have G4 := Lib.hid (HG.out.trans (World.grownBy_alloc wq (.cells #[.int .i64 l.kind, .int .i64 l.lmin, .int .i64 l.lmax, .int .i64 l.wait, .int .i64 l.wmin, .int .i64 l.wmax] 36) none))
            have B4 := Lib.hid b0'
            clear HG HB b0'
            revert b0 b1 b2 b3 b4 b5 d0 d1 d2 d3 d4 d5 G4 B4
            generalize wq.alloc (.cells #[.int .i64 l.kind, .int .i64 l.lmin, .int .i64 l.lmax, .int .i64 l.wait, .int .i64 l.wmin, .int .i64 l.wmax] 36) = wx
            intro b0 b1 b2 b3 b4 b5 d0 d1 d2 d3 d4 d5 G4 B4
            go_wp2_with (first | (go_at_call 39; go_must (refine (checklot_any S.tar.kinds _ _ _ _ _ _ _ _ _ _ _ _ _ _ _ _ _ _ _ _ _ _ (by omega) hok.out).mono ?_); rintro e w' ⟨rfl, hgr⟩; have HGR := Lib.hid hgr; clear hgr))
            go_roundw
            case rel => exact ⟨3, rfl, by omega, G4.out.trans HGR.out, blk HGR.out (by simp) B4.out⟩
            case measure => simp [intOf]; omega
        · clear HL'
          go_wp2
          go_ret
          exact ⟨rfl, HG.out⟩
end Go.Proofs.YtpjcjadcikeibaaGreatDoor
