import Derived.Test.YtpjcjadcikeibaaGreatDoorSaleof
namespace Go.Proofs.YtpjcjadcikeibaaGreatDoor
open Go.RowKit
set_option maxRecDepth 100000 in
theorem fwithin_any (x lo hi : Int) (w : World) (h1 : lo ≤ x) (h2 : x ≤ hi) :
    Calls Tryz.prog 46 #[.int .i64 x, .int .i64 lo, .int .i64 hi] w fun e w' => e = .returned (.bool true) ∧ w = w' := by
  go_enter Tryz.func46, Tryz.ntmps46
  go_wp2
  go_ret
  exact ⟨rfl, rfl⟩
set_option maxRecDepth 100000 in
theorem sized_any (x lo hi : Int) (w : World) (h1 : lo ≤ x) (h2 : x ≤ hi) :
    Calls Tryz.prog 48 #[.int .i64 x, .int .i64 lo, .int .i64 hi] w fun e w' => e = .returned (.int .i64 0) ∧ w = w' := by
  go_enter Tryz.func48, Tryz.ntmps48
  go_wp2
  go_ret
  exact ⟨rfl, rfl⟩
set_option maxRecDepth 100000 in
theorem pennies_any (lo hi : Nat) (v : Value) (l : List Int) (n : Nat) (w : World) (hI : IntsIn lo hi w v l) (hd : Digits n l) (hn : n ≤ 3) :
    Calls Tryz.prog 47 #[v, .int .i64 n] w fun e w' => e = .returned (.int .i64 0) ∧ w = w' := by
  obtain ⟨base, cap, rfl, hl, hc⟩ := hI.cell
  obtain ⟨hl', hx⟩ := hd
  subst hl'
  go_enter Tryz.func47, Tryz.ntmps47
  go_wp2_with (first | (go_at_call 48; go_must (refine (sized_any _ _ _ _ (by omega) (by omega)).mono ?_); rintro e w' ⟨rfl, rfl⟩))
  have HC := Lib.hid hc
  have HX := Lib.hid hx
  clear hc hx
  go_loopw [18] (fun i wr => ∃ k : Nat, i = .int .i64 k ∧ k ≤ l.length ∧ w = wr) (fun i _ => (l.length - intOf i).toNat)
  case atStart => exact ⟨0, rfl, by omega, rfl⟩
  case round =>
    obtain ⟨k, rfl, hk, rfl⟩ := hrel
    by_cases hlt : k < l.length
    · obtain ⟨B, o, rfl, hB1, hB2, hB3, hB4⟩ := HC.out (by intro e; rw [e] at hlt; simp at hlt)
      have hk' := hB4 k hlt
      have hm := HX.out (l[k]?.getD 0) (by simp [List.getElem?_eq_getElem hlt])
      generalize l[k]?.getD 0 = x at hk' hm
      clear hB4
      go_wp2_with (first | (go_at_call 46; go_must (refine (fwithin_any _ _ _ _ (by omega) (by omega)).mono ?_); rintro e w' ⟨rfl, rfl⟩))
      go_roundw
      case rel => exact ⟨k + 1, by simp, by omega, by first | rfl | trivial⟩
      case measure => simp [intOf]; omega
    · go_wp2
      go_ret
      exact ⟨rfl, rfl⟩
theorem RatesIn.cell {lo hi : Nat} {w : World} {v : Value} {rs : List (Int × List Int)} (h : RatesIn lo hi w v rs) : ∃ base cap, v = .slice base rs.length cap ∧ (rs.length : Int) ≤ 1000000 ∧
    (rs ≠ [] → ∃ B o, base = some ⟨B, o, none⟩ ∧ lo ≤ B ∧ B < hi ∧ B < w.heap.size ∧ ∀ i, i < rs.length → ∃ d l pv, rs[i]? = some (d, l) ∧ w.cell? ⟨B, o + i * 2, none⟩ = some (.int .i64 d) ∧ w.cell? ⟨B, o + i * 2 + 1, none⟩ = some pv ∧ IntsIn lo hi w pv l) := by
  obtain ⟨base, cap, rfl, hl, hr'⟩ := h
  refine ⟨base, cap, rfl, hl, fun hne => ?_⟩
  obtain ⟨B, o, cs, fr, e1, e2, e3, e4, e5⟩ := hr' hne
  refine ⟨B, o, e1, e2, e3, (Array.getElem?_eq_some_iff.1 e4).1, fun i hi => ?_⟩
  obtain ⟨d, l, pv, h1, h2, h3, h4⟩ := e5 i hi
  exact ⟨d, l, pv, h1, by simp [World.cell?, e4, h2], by simp [World.cell?, e4, Nat.add_assoc, h3], h4⟩
theorem cell_new (w : World) (cs : Array Value) (ty : TypeId) (k : Nat) : (w.alloc (.cells cs ty)).cell? ⟨w.heap.size, k, none⟩ = cs[k]? := by
  unfold World.cell?; rw [show (w.alloc (.cells cs ty)).heap[(⟨w.heap.size, k, none⟩ : Addr).block]? = some (.cells cs ty) from heap_alloc_new w _]; simp
def CK (P n : Nat) (row : Obj) (w : World) (i : Value) (wr : World) : Prop := ∃ k : Nat, i = .int .i64 k ∧ k ≤ n ∧ w.grownBy wr none ∧ wr.heap[P]? = some row
set_option maxRecDepth 100000 in
set_option maxHeartbeats 1600000 in
theorem check_any (lo hi : Nat) (v : Value) (T : Tar) (w : World) (hT : TarIn lo hi w v T) (hV : T.Valid) :
    Calls Tryz.prog 38 #[v] w fun e w' => e = .returned (.int .i64 0) ∧ w.grownBy w' none := by
  obtain ⟨fv, rv, ev, rfl, hF, hR, hE⟩ := hT
  obtain ⟨fa, fc, rfl, -⟩ := hF.cell
  obtain ⟨ra, rc, rfl, -⟩ := hR.cell
  obtain ⟨ea, ec, rfl, -⟩ := hE.cell
  have hk1 := hV.k1
  have hk2 := hV.k2
  have hr1 := hV.r1
  have hr2 := hV.r2
  have hf1 := hV.f1
  have hfl := hV.first
  have HV := Lib.hid hV
  have HF := Lib.hid hF
  have HR := Lib.hid hR
  have HE := Lib.hid hE
  have HFL := Lib.hid hfl
  clear hV hF hR hE hfl
  obtain ⟨P, hP⟩ : ∃ P, P = w.heap.size := ⟨_, rfl⟩
  obtain ⟨row, hrow⟩ : ∃ row, row = Obj.cells #[.int .i64 T.kinds, .slice fa T.first.length fc, .slice ra T.rates.length rc, .slice ea T.free.length ec] 27 (0, 0) := ⟨_, rfl⟩
  have hB0 : (w.alloc row).heap[P]? = some row := by rw [hP]; exact heap_alloc_new w _
  have hG0 : w.grownBy (w.alloc row) none := World.grownBy_alloc w _ _
  go_enter Tryz.func38, Tryz.ntmps38
  go_wp2_with
    (first
      | (go_at_call 46; go_must (refine (fwithin_any _ _ _ _ (by omega) (by omega)).mono ?_); rintro e w' ⟨rfl, rfl⟩)
      | (go_at_call 48; go_must (refine (sized_any _ _ _ _ (by omega) (by omega)).mono ?_); rintro e w' ⟨rfl, rfl⟩)
      | (go_at_call 47; go_must (refine (pennies_any lo hi _ T.first T.kinds _ (by exact HF.out.kept (World.grownBy_alloc _ _ none) (by simp)) HFL.out (by omega)).mono ?_); rintro e w' ⟨rfl, rfl⟩))
  rw [← hP]
  have HP := Lib.hid hP
  clear hP
  go_loopw [32] (CK P T.rates.length row w) (fun i _ => (T.rates.length - intOf i).toNat)
  case atStart => exact ⟨0, rfl, by omega, by rw [hrow] at hG0; exact hG0, by rw [hrow] at hB0 ⊢; exact hB0⟩
  case round =>
    obtain ⟨k, rfl, hk, hG, hB⟩ := hrel
    have hbox := hB
    rw [hrow] at hbox
    have b0 : wr.cell? ⟨P, 0, none⟩ = some (.int .i64 T.kinds) := by simp [World.cell?, hbox]
    have b1 : wr.cell? ⟨P, 1, none⟩ = some (.slice fa T.first.length fc) := by simp [World.cell?, hbox]
    have b2 : wr.cell? ⟨P, 2, none⟩ = some (.slice ra T.rates.length rc) := by simp [World.cell?, hbox]
    have b3 : wr.cell? ⟨P, 3, none⟩ = some (.slice ea T.free.length ec) := by simp [World.cell?, hbox]
    have hPw : P < wr.heap.size := (Array.getElem?_eq_some_iff.1 hbox).1
    have HR' := HR.out.kept hG (by simp)
    have HG := Lib.hid hG
    have HB := Lib.hid hB
    clear hG hB hbox
    by_cases hlt : k < T.rates.length
    · obtain ⟨ra', rc', he, -, hcell⟩ := HR'.cell
      cases he
      obtain ⟨B, o, rfl, hB1, hB2, hB3, hB4⟩ := hcell (by intro e; rw [e] at hlt; simp at hlt)
      obtain ⟨d, l, pv, hi1, hi2, hi3, hi4⟩ := hB4 k hlt
      obtain ⟨hd0, hd4, hDl, hz, hinc⟩ := HV.out.rate k d l hi1
      obtain ⟨pa, pc, rfl, -⟩ := hi4.cell
      have HI4 := Lib.hid hi4
      have HDl := Lib.hid hDl
      have HI1 := Lib.hid hi1
      clear hi4 hDl hi1
      obtain rfl | rfl | rfl : k = 0 ∨ k = 1 ∨ k = 2 := by omega
      · have hN := Lib.hid hlt
        obtain rfl := hz rfl
        simp only [Nat.zero_mul, Nat.add_zero] at hi2 hi3
        clear hB4 hinc hcell hz
        go_wp2_with
          (first
            | (go_at_call 46; go_must (refine (fwithin_any _ _ _ _ (by omega) (by omega)).mono ?_); rintro e w' ⟨rfl, rfl⟩)
            | (go_at_call 48; go_must (refine (sized_any _ _ _ _ (by omega) (by omega)).mono ?_); rintro e w' ⟨rfl, rfl⟩))
        have b0' : (wr.alloc (.cells #[.int .i64 0, .slice pa l.length pc] 84)).cell? ⟨P, 0, none⟩ = some (.int .i64 T.kinds) := by simp [World.cell?, blk_alloc HB.out, hrow]
        have n0 : (wr.alloc (.cells #[.int .i64 0, .slice pa l.length pc] 84)).cell? ⟨wr.heap.size, 0, none⟩ = some (.int .i64 0) := by rw [cell_new]; rfl
        have n1 : (wr.alloc (.cells #[.int .i64 0, .slice pa l.length pc] 84)).cell? ⟨wr.heap.size, 1, none⟩ = some (.slice pa l.length pc) := by rw [cell_new]; rfl
        have I4 := Lib.hid (HI4.out.alloc (.cells #[.int .i64 0, .slice pa l.length pc] 84))
        have G4 := Lib.hid (HG.out.trans (World.grownBy_alloc wr (.cells #[.int .i64 0, .slice pa l.length pc] 84) none))
        have B4 := Lib.hid (blk_alloc (p := .cells #[.int .i64 0, .slice pa l.length pc] 84) HB.out)
        clear b0 b1 b2 b3 HI4 HG HB HR'
        revert b0' n0 n1 I4 G4 B4
        generalize wr.alloc (.cells #[.int .i64 0, .slice pa l.length pc] 84) = wx
        intro b0' n0 n1 I4 G4 B4
        go_quiet (fail)
        go_wp2_with
          (first
            | (go_at_call 47; go_must (refine (pennies_any lo hi _ l T.kinds _ (by exact I4.out) HDl.out (by omega)).mono ?_); rintro e w' ⟨rfl, rfl⟩))
        go_roundw
        case rel => exact ⟨1, rfl, by omega, G4.out.trans (grownBy_drewN _ _ _), B4.out⟩
        case measure => simp [intOf]; omega
      · have hN := Lib.hid hlt
        obtain ⟨d', l', pv', hj1, hj2, -, -⟩ := hB4 0 (by omega)
        have hdd : d' < d := hinc 0 d' l' (by omega) hj1
        simp at hi2 hi3 hj2
        clear hB4 hinc hcell hz
        go_wp2_with
          (first
            | (go_at_call 46; go_must (refine (fwithin_any _ _ _ _ (by omega) (by omega)).mono ?_); rintro e w' ⟨rfl, rfl⟩)
            | (go_at_call 48; go_must (refine (sized_any _ _ _ _ (by omega) (by omega)).mono ?_); rintro e w' ⟨rfl, rfl⟩))
        have b0' : (wr.alloc (.cells #[.int .i64 d, .slice pa l.length pc] 84)).cell? ⟨P, 0, none⟩ = some (.int .i64 T.kinds) := by simp [World.cell?, blk_alloc HB.out, hrow]
        have b2' : (wr.alloc (.cells #[.int .i64 d, .slice pa l.length pc] 84)).cell? ⟨P, 2, none⟩ = some (.slice (some ⟨B, o, none⟩) T.rates.length rc) := by simp [World.cell?, blk_alloc HB.out, hrow]
        have j2' : (wr.alloc (.cells #[.int .i64 d, .slice pa l.length pc] 84)).cell? ⟨B, o, none⟩ = some (.int .i64 d') := by rw [World.cell?_alloc_old _ _ _ (by simp; omega)]; exact hj2
        have n0 : (wr.alloc (.cells #[.int .i64 d, .slice pa l.length pc] 84)).cell? ⟨wr.heap.size, 0, none⟩ = some (.int .i64 d) := by rw [cell_new]; rfl
        have n1 : (wr.alloc (.cells #[.int .i64 d, .slice pa l.length pc] 84)).cell? ⟨wr.heap.size, 1, none⟩ = some (.slice pa l.length pc) := by rw [cell_new]; rfl
        have I4 := Lib.hid (HI4.out.alloc (.cells #[.int .i64 d, .slice pa l.length pc] 84))
        have G4 := Lib.hid (HG.out.trans (World.grownBy_alloc wr (.cells #[.int .i64 d, .slice pa l.length pc] 84) none))
        have B4 := Lib.hid (blk_alloc (p := .cells #[.int .i64 d, .slice pa l.length pc] 84) HB.out)
        clear b0 b1 b2 b3 HI4 HG HB HR'
        revert b0' b2' j2' n0 n1 I4 G4 B4
        generalize wr.alloc (.cells #[.int .i64 d, .slice pa l.length pc] 84) = wx
        intro b0' b2' j2' n0 n1 I4 G4 B4
        have hx1 : (0 : Int) < (T.rates.length : Int) := by omega
        have hx2 : decide (d ≤ d') = false := by simp; omega
        go_quiet (fail)
        go_wp2_with
          (first
            | (go_at_call 47; go_must (refine (pennies_any lo hi _ l T.kinds _ (by exact I4.out) HDl.out (by omega)).mono ?_); rintro e w' ⟨rfl, rfl⟩))
        go_roundw
        case rel => exact ⟨2, rfl, by omega, G4.out.trans (grownBy_drewN _ _ _), B4.out⟩
        case measure => simp [intOf]; omega
      · have hN := Lib.hid hlt
        obtain ⟨d', l', pv', hj1, hj2, -, -⟩ := hB4 1 (by omega)
        have hdd : d' < d := hinc 1 d' l' (by omega) hj1
        simp at hi2 hi3 hj2
        clear hB4 hinc hcell hz
        go_wp2_with
          (first
            | (go_at_call 46; go_must (refine (fwithin_any _ _ _ _ (by omega) (by omega)).mono ?_); rintro e w' ⟨rfl, rfl⟩)
            | (go_at_call 48; go_must (refine (sized_any _ _ _ _ (by omega) (by omega)).mono ?_); rintro e w' ⟨rfl, rfl⟩))
        have b0' : (wr.alloc (.cells #[.int .i64 d, .slice pa l.length pc] 84)).cell? ⟨P, 0, none⟩ = some (.int .i64 T.kinds) := by simp [World.cell?, blk_alloc HB.out, hrow]
        have b2' : (wr.alloc (.cells #[.int .i64 d, .slice pa l.length pc] 84)).cell? ⟨P, 2, none⟩ = some (.slice (some ⟨B, o, none⟩) T.rates.length rc) := by simp [World.cell?, blk_alloc HB.out, hrow]
        have j2' : (wr.alloc (.cells #[.int .i64 d, .slice pa l.length pc] 84)).cell? ⟨B, o + 2, none⟩ = some (.int .i64 d') := by rw [World.cell?_alloc_old _ _ _ (by simp; omega)]; exact hj2
        have n0 : (wr.alloc (.cells #[.int .i64 d, .slice pa l.length pc] 84)).cell? ⟨wr.heap.size, 0, none⟩ = some (.int .i64 d) := by rw [cell_new]; rfl
        have n1 : (wr.alloc (.cells #[.int .i64 d, .slice pa l.length pc] 84)).cell? ⟨wr.heap.size, 1, none⟩ = some (.slice pa l.length pc) := by rw [cell_new]; rfl
        have I4 := Lib.hid (HI4.out.alloc (.cells #[.int .i64 d, .slice pa l.length pc] 84))
        have G4 := Lib.hid (HG.out.trans (World.grownBy_alloc wr (.cells #[.int .i64 d, .slice pa l.length pc] 84) none))
        have B4 := Lib.hid (blk_alloc (p := .cells #[.int .i64 d, .slice pa l.length pc] 84) HB.out)
        clear b0 b1 b2 b3 HI4 HG HB HR'
        revert b0' b2' j2' n0 n1 I4 G4 B4
        generalize wr.alloc (.cells #[.int .i64 d, .slice pa l.length pc] 84) = wx
        intro b0' b2' j2' n0 n1 I4 G4 B4
        have hx1 : (1 : Int) < (T.rates.length : Int) := by omega
        have hx2 : decide (d ≤ d') = false := by simp; omega
        go_quiet (fail)
        go_wp2_with
          (first
            | (go_at_call 47; go_must (refine (pennies_any lo hi _ l T.kinds _ (by exact I4.out) HDl.out (by omega)).mono ?_); rintro e w' ⟨rfl, rfl⟩))
        go_roundw
        case rel => exact ⟨3, rfl, by omega, G4.out.trans (grownBy_drewN _ _ _), B4.out⟩
        case measure => simp [intOf]; omega
    · have hke : T.rates.length ≤ k := by omega
      clear HR'
      go_wp2
      clear b0 b1 b2 b3
      go_loopw [76] (CK P T.free.length row w) (fun i _ => (T.free.length - intOf i).toNat)
      case atStart => exact ⟨0, rfl, by omega, HG.out, HB.out⟩
      case round =>
        obtain ⟨wq, rfl⟩ : ∃ wq : World, wq = wr := ⟨_, rfl⟩
        clear HG HB hPw hlt hk hke
        obtain ⟨k, rfl, hk, hG, hB⟩ := hrel
        have hbox := hB
        rw [hrow] at hbox
        have b3 : wq.cell? ⟨P, 3, none⟩ = some (.slice ea T.free.length ec) := by simp [World.cell?, hbox]
        have HE' := HE.out.kept hG (by simp)
        have HG := Lib.hid hG
        have HB := Lib.hid hB
        clear hG hB hbox
        by_cases hlt : k < T.free.length
        · obtain ⟨ea', ec', he, -, hcell⟩ := HE'.cell
          cases he
          obtain ⟨B, o, rfl, hB1, hB2, hB3, hB4⟩ := hcell (by intro e; rw [e] at hlt; simp at hlt)
          obtain rfl | rfl | rfl | rfl | rfl : k = 0 ∨ k = 1 ∨ k = 2 ∨ k = 3 ∨ k = 4 := by omega
          · have hi2 := hB4 0 hlt
            obtain ⟨hd0, hd4, hinc⟩ := HV.out.free 0 (T.free[0]?.getD 0) (by simp [List.getElem?_eq_getElem hlt])
            generalize T.free[0]?.getD 0 = x at *
            try simp only [Nat.add_zero] at hi2
            clear hB4 hinc
            go_wp2_with
              (first
                | (go_at_call 46; go_must (refine (fwithin_any _ _ _ _ (by omega) (by omega)).mono ?_); rintro e w' ⟨rfl, rfl⟩))
            go_roundw
            case rel => exact ⟨1, rfl, by omega, HG.out, HB.out⟩
            case measure => simp [intOf]; omega
          · have hi2 := hB4 1 hlt
            obtain ⟨hd0, hd4, hinc⟩ := HV.out.free 1 (T.free[1]?.getD 0) (by simp [List.getElem?_eq_getElem hlt])
            have hinc' := hinc 0 (T.free[0]?.getD 0) (by omega) (by simp [List.getElem?_eq_getElem (show 0 < T.free.length by omega)])
            have hp := hB4 0 (by omega)
            generalize T.free[0]?.getD 0 = x' at hp hinc'
            try simp only [Nat.add_zero] at hp
            generalize T.free[1]?.getD 0 = x at *
            try simp only [Nat.add_zero] at hi2
            clear hB4 hinc
            go_wp2_with
              (first
                | (go_at_call 46; go_must (refine (fwithin_any _ _ _ _ (by omega) (by omega)).mono ?_); rintro e w' ⟨rfl, rfl⟩))
            go_roundw
            case rel => exact ⟨2, rfl, by omega, HG.out, HB.out⟩
            case measure => simp [intOf]; omega
          · have hi2 := hB4 2 hlt
            obtain ⟨hd0, hd4, hinc⟩ := HV.out.free 2 (T.free[2]?.getD 0) (by simp [List.getElem?_eq_getElem hlt])
            have hinc' := hinc 1 (T.free[1]?.getD 0) (by omega) (by simp [List.getElem?_eq_getElem (show 1 < T.free.length by omega)])
            have hp := hB4 1 (by omega)
            generalize T.free[1]?.getD 0 = x' at hp hinc'
            try simp only [Nat.add_zero] at hp
            generalize T.free[2]?.getD 0 = x at *
            try simp only [Nat.add_zero] at hi2
            clear hB4 hinc
            go_wp2_with
              (first
                | (go_at_call 46; go_must (refine (fwithin_any _ _ _ _ (by omega) (by omega)).mono ?_); rintro e w' ⟨rfl, rfl⟩))
            go_roundw
            case rel => exact ⟨3, rfl, by omega, HG.out, HB.out⟩
            case measure => simp [intOf]; omega
          · have hi2 := hB4 3 hlt
            obtain ⟨hd0, hd4, hinc⟩ := HV.out.free 3 (T.free[3]?.getD 0) (by simp [List.getElem?_eq_getElem hlt])
            have hinc' := hinc 2 (T.free[2]?.getD 0) (by omega) (by simp [List.getElem?_eq_getElem (show 2 < T.free.length by omega)])
            have hp := hB4 2 (by omega)
            generalize T.free[2]?.getD 0 = x' at hp hinc'
            try simp only [Nat.add_zero] at hp
            generalize T.free[3]?.getD 0 = x at *
            try simp only [Nat.add_zero] at hi2
            clear hB4 hinc
            go_wp2_with
              (first
                | (go_at_call 46; go_must (refine (fwithin_any _ _ _ _ (by omega) (by omega)).mono ?_); rintro e w' ⟨rfl, rfl⟩))
            go_roundw
            case rel => exact ⟨4, rfl, by omega, HG.out, HB.out⟩
            case measure => simp [intOf]; omega
          · have hi2 := hB4 4 hlt
            obtain ⟨hd0, hd4, hinc⟩ := HV.out.free 4 (T.free[4]?.getD 0) (by simp [List.getElem?_eq_getElem hlt])
            have hinc' := hinc 3 (T.free[3]?.getD 0) (by omega) (by simp [List.getElem?_eq_getElem (show 3 < T.free.length by omega)])
            have hp := hB4 3 (by omega)
            generalize T.free[3]?.getD 0 = x' at hp hinc'
            try simp only [Nat.add_zero] at hp
            generalize T.free[4]?.getD 0 = x at *
            try simp only [Nat.add_zero] at hi2
            clear hB4 hinc
            go_wp2_with
              (first
                | (go_at_call 46; go_must (refine (fwithin_any _ _ _ _ (by omega) (by omega)).mono ?_); rintro e w' ⟨rfl, rfl⟩))
            go_roundw
            case rel => exact ⟨5, rfl, by omega, HG.out, HB.out⟩
            case measure => simp [intOf]; omega
        · go_wp2
          go_ret
          exact ⟨rfl, HG.out⟩
end Go.Proofs.YtpjcjadcikeibaaGreatDoor
