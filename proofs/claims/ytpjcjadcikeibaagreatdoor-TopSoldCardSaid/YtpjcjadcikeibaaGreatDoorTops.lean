import Derived.Test.YtpjcjadcikeibaaGreatDoorGains
import Derived.Test.YtpjcjadcikeibaaGreatDoorAwake
import Derived.Test.YtpjcjadcikeibaaGreatDoorSalez
import Derived.Test.YtpjcjadcikeibaaGreatDoorPrices
namespace Go.Proofs.YtpjcjadcikeibaaGreatDoor
open Go.RowKit
/-- The lots up to i have their prices. -/
def TS (w : World) (b lo hi P n : Nat) (T : Tar) (rooms : List Int) (row : Obj) (a1 a2 a3 a4 : Value) (la : Option Addr) (lc : Nat) (i : Value) (wr : World) : Prop :=
  ∃ (k : Nat) (ls : List Lt), i = .int .i64 k ∧ k ≤ n ∧ ls.length = n ∧ (Sal.mk T rooms ls).Valid ∧ SaleIn lo hi wr (.agg #[.int .i64 T.kinds, a1, a2, a3, a4, .slice la n lc]) ⟨T, rooms, ls⟩ ∧ LotsZ wr (.slice la n lc) ∧ TinAt wr b (160 + k) ∧ wr.heap[P]? = some row ∧ w.grownBy wr none
set_option maxRecDepth 100000 in
set_option maxHeartbeats 6400000 in
theorem topsold_any (base : Option Addr) (len cap : Nat) (w : World) (hl : (len : Int) ≤ 9223372036854775807) (hr : 0 < len → ∃ lb lo, base = some ⟨lb, lo, none⟩ ∧ ∀ i, i < len → ∃ x, w.cell? ⟨lb, lo + i, none⟩ = some (.int .i64 x)) :
    Calls Tryz.prog 3 #[.slice base len cap] w fun e w' => e = .returned (.bool true) ∧ w.grownBy w' none := by
  obtain ⟨b, hb⟩ : ∃ b, b = w.heap.size := ⟨_, rfl⟩
  have NT := Lib.hid (newtin_any base len cap w hl hr)
  have HB := Lib.hid hb
  clear hr
  rw [← hb] at NT
  clear hb
  go_enter Tryz.func3, Tryz.ntmps3
  go_upto_region 2 with (first | (go_at_call 4; go_must (refine NT.out.mono ?_); rintro e w1 ⟨rfl, hg1, ht1⟩; have HG1 := Lib.hid hg1; have HT1 := Lib.hid ht1; clear hg1 ht1))
  go_upto_region 3 with (first | (go_at_call 5; go_must (refine (sale_anyz b 0 3 _ HT1.out (by omega) (by omega) (by omega)).mono ?_); rintro e w2 ⟨v, S, rfl, hV, hS, hTn, hz⟩; obtain ⟨fa, ra, ea, pa, la, fm, fc, rm, rc, em, ec, pc, lc, rfl⟩ := hS.form hV; have HV := Lib.hid hV; have HS := Lib.hid hS; have HTn := Lib.hid hTn; have HZ := Lib.hid hz; clear hV hS hTn hz))
  obtain ⟨T, rooms, ls0⟩ := S
  simp only at HV HS HZ ⊢
  obtain ⟨n, hn⟩ : ∃ n, n = ls0.length := ⟨_, rfl⟩
  rw [← hn] at HS HZ
  rw [← hn]
  obtain ⟨P, hP⟩ : ∃ P, P = w2.heap.size := ⟨_, rfl⟩
  obtain ⟨row, hrow⟩ : ∃ row, row = Obj.cells #[.int .i64 T.kinds, .slice fa fm fc, .slice ra rm rc, .slice ea em ec, .slice pa 5 pc, .slice la n lc] 30 (0, 0) := ⟨_, rfl⟩
  obtain ⟨lo, hlo⟩ : ∃ lo, lo = w1.heap.size := ⟨_, rfl⟩
  rw [← hlo, ← hP] at HS
  have hn3 : n ≤ 3 := by have := HV.out.n; simp only at this; omega
  have hlz : LotsZ w2 (.slice la n lc) := by
    obtain ⟨fv, rv, ev, pv, lv, he, hz⟩ := HZ.out
    have h5 : (Value.slice la n lc) = lv := by simpa using (by simpa using he : _ ∧ _ ∧ _ ∧ _ ∧ _).2.2.2.2
    rw [h5]; exact hz
  have hbw : b < lo := by have := HT1.out.lt; omega
  have hlP : lo ≤ P := by have := HTn.out.1.size; omega
  have hST : TS w b lo P P n T rooms row (.slice fa fm fc) (.slice ra rm rc) (.slice ea em ec) (.slice pa 5 pc) la lc (.int .i64 0) (w2.alloc row) := by
    refine ⟨0, ls0, rfl, by omega, hn.symm, HV.out, HS.out.kept (World.grownBy_alloc _ _ none) (by simp), hlz.kept (World.grownBy_alloc _ _ none) (by simp), HTn.out.2.alloc _, by rw [hP]; exact heap_alloc_new _ _, (HG1.out.andThen HTn.out.1 (by rintro j e; cases e; exact .inl (Nat.le_of_eq HB.out.symm))).trans (World.grownBy_alloc _ _ _)⟩
  rw [← hrow, ← hP]
  have HST := Lib.hid hST
  have HROW := Lib.hid hrow
  have hBw : w.heap.size ≤ b := Nat.le_of_eq HB.out.symm
  clear HV HS HZ HTn HT1 HG1 NT hST hrow hP hlo hlz hn
  revert HST
  generalize w2.alloc row = w3
  intro HST
  go_wp2
  go_loopw [5] (TS w b lo P P n T rooms row (.slice fa fm fc) (.slice ra rm rc) (.slice ea em ec) (.slice pa 5 pc) la lc) (fun i _ => (n - intOf i).toNat)
  case atStart => exact HST.out
  case round =>
    clear HST
    obtain ⟨k, ls, rfl, hk, hls, hV, hS, hZ, hT, hR, hG⟩ := hrel
    obtain ⟨b0, b1, b2, b3, b4, b5⟩ := six HROW.out hR
    have hPw : P < wr.heap.size := (Array.getElem?_eq_some_iff.1 hR).1
    by_cases hlt : k < n
    · obtain ⟨l, hl⟩ : ∃ l, ls[k]? = some l := ⟨_, List.getElem?_eq_getElem (by omega)⟩
      obtain ⟨-, -, hL, -⟩ := hS.parts
      simp only at hL
      obtain ⟨la', lc', he, -, hcell⟩ := hL.cell
      obtain ⟨rfl, -, rfl⟩ : la = la' ∧ n = ls.length ∧ lc = lc' := by simpa using he
      obtain ⟨LB, o, rfl, hB1, hB2, hB3, hB4⟩ := hcell (by intro e; rw [e] at hl; simp at hl)
      have hok := hV.lot l (List.mem_of_getElem? hl)
      obtain ⟨K, a, c, t, x, X, rfl⟩ : ∃ (K a c : Nat) (t x X : Int), l = ⟨K, a, c, t, x, X⟩ := by
        obtain ⟨k0, -, m0, mM, -⟩ := hok
        obtain ⟨kk, mm, MM, t, x, X⟩ := l
        simp only at k0 m0 mM
        exact ⟨kk.toNat, mm.toNat, MM.toNat, t, x, X, by simp only [Lt.mk.injEq, and_true]; omega⟩
      obtain ⟨g0, g1, g2, g3, g4, g5⟩ := hB4 k _ hl
      have HSW := Lib.hid hS
      have HVV := Lib.hid hV
      have HZZ := Lib.hid hZ
      have HTT := Lib.hid hT
      have HRR := Lib.hid hR
      have HGG := Lib.hid hG
      have HLL := Lib.hid hl
      have HOK := Lib.hid hok
      have HLS := Lib.hid hls
      clear hS hV hZ hT hR hG hl hok hls hcell hB4 hL he
      go_upto_region 7 with (first | (go_at_call 6; go_must (refine (upto_any b (160 + k) 40 _ HTT.out (by omega) (by omega)).mono ?_); rintro e w4 ⟨u, ⟨hu1, hu2⟩, rfl, hTn, hsz⟩))
      have hu3 : u ≤ 40 := by omega
      have hbne : ∀ R, some b = some R → R < lo ∨ P ≤ R := by rintro R e; cases e; exact .inl hbw
      have f5 := hTn.1.cell b5 (by simp; omega)
      have i4 := hTn.1.cell g4 (by simp; omega)
      have i5 := hTn.1.cell g5 (by simp; omega)
      obtain ⟨csz, hrz⟩ := HZZ.out.kept hTn.1 (by intro B o n' c' e e2; cases e; cases e2; omega) LB o n lc rfl
      have fz : ∀ o', w4.frozen? ⟨LB, o', none⟩ = false := fun o' => row_thaw hrz
      have S4 := Lib.hid (HSW.out.kept hTn.1 hbne)
      have Z4 := Lib.hid hrz
      have T4 := Lib.hid hTn.2
      have R4 := Lib.hid (blk hTn.1 (by simp; omega) HRR.out)
      have G4 := Lib.hid (HGG.out.andThen hTn.1 (by rintro j e; cases e; exact .inl hBw))
      clear b0 b1 b2 b3 b4 b5 g0 g1 g2 g3 g4 g5 hrz HSW HZZ HTT HRR HGG hTn hsz hbne hB3 hPw
      go_upto_region 8 with (fail)
      rw [show o + k * 6 + 4 + 1 = o + k * 6 + 5 from rfl]
      have hset : w4.grownBy ((w4.setCell ⟨LB, o + k * 6 + 4, none⟩ (.int .i64 u)).setCell ⟨LB, o + k * 6 + 5, none⟩ (.int .i64 u)) (some LB) := (grownBy_set _ _ _ _).trans (grownBy_set _ _ _ _)
      obtain ⟨ls', hls'⟩ : ∃ ls', ls' = ls.set k ⟨K, a, c, t, u, u⟩ := ⟨_, rfl⟩
      have hlen : ls'.length = n := by rw [hls', List.length_set]; exact HLS.out
      have hl' : ls'[k]? = some ⟨K, a, c, t, u, u⟩ := by rw [hls', List.getElem?_set_self (by rw [HLS.out]; exact hlt)]
      have hV' : (Sal.mk T rooms ls').Valid := by rw [hls']; exact HVV.out.price HLL.out hu1 hu3
      obtain ⟨hT4, hI4, hL4, -⟩ := S4.out.parts
      simp only at hT4 hI4 hL4
      rw [← HLS.out] at hL4
      have hpr := hL4.price ⟨_, Z4.out⟩ HLL.out u
      rw [HLS.out, ← hls'] at hpr
      have hty : ∀ R, some LB = some R → ∃ cs fr, w4.heap[R]? = some (.cells cs 36 fr) := by rintro R e; cases e; exact ⟨_, _, Z4.out⟩
      have hS5 : SaleIn lo P ((w4.setCell ⟨LB, o + k * 6 + 4, none⟩ (.int .i64 u)).setCell ⟨LB, o + k * 6 + 5, none⟩ (.int .i64 u)) (.agg #[.int .i64 T.kinds, .slice fa fm fc, .slice ra rm rc, .slice ea em ec, .slice pa 5 pc, .slice (some ⟨LB, o, none⟩) n lc]) ⟨T, rooms, ls'⟩ :=
        ⟨_, _, _, _, _, rfl, hT4.kept_ty hset hty, hI4.kept_ty hset (fun R e => by obtain ⟨cs, fr, h⟩ := hty R e; exact ⟨cs, 36, fr, h, by decide⟩), hpr.1⟩
      have hZ5 : LotsZ ((w4.setCell ⟨LB, o + k * 6 + 4, none⟩ (.int .i64 u)).setCell ⟨LB, o + k * 6 + 5, none⟩ (.int .i64 u)) (.slice (some ⟨LB, o, none⟩) n lc) := by
        intro B o2 n2 c2 e
        cases e
        exact hpr.2
      have hT5 : TinAt ((w4.setCell ⟨LB, o + k * 6 + 4, none⟩ (.int .i64 u)).setCell ⟨LB, o + k * 6 + 5, none⟩ (.int .i64 u)) b (160 + k + 1) := (T4.out.set (by omega)).set (by omega)
      have hR5 := blk hset (by simp; omega) R4.out
      have hG5 := G4.out.andThen hset (by rintro j e; cases e; exact .inl (by omega))
      have HS5 := Lib.hid hS5
      have HZ5 := Lib.hid hZ5
      have HT5 := Lib.hid hT5
      have HR5 := Lib.hid hR5
      have HG5 := Lib.hid hG5
      have HV5 := Lib.hid hV'
      have HL5 := Lib.hid hl'
      have HN5 := Lib.hid hlen
      have hcK : K < T.kinds := by have := HOK.out.k1; simp only at this; omega
      have hac : a ≤ c := by have := HOK.out.mM; simp only at this; omega
      have hc119 : c ≤ 119 := by have := HOK.out.M1; simp only at this; omega
      clear hset hls' hlen hl' hV' hT4 hI4 hL4 hpr hty hS5 hZ5 hT5 hR5 hG5 S4 Z4 T4 R4 G4 HVV HLL HLS f5 i4 i5 fz
      revert HS5 HZ5 HT5 HR5 HG5
      generalize (w4.setCell ⟨LB, o + k * 6 + 4, none⟩ (.int .i64 u)).setCell ⟨LB, o + k * 6 + 5, none⟩ (.int .i64 u) = w5
      intro HS5 HZ5 HT5 HR5 HG5
      obtain ⟨p, rfl⟩ : ∃ p : Nat, u = p := ⟨u.toNat, by omega⟩
      obtain ⟨b0, b1, b2, b3, b4, b5⟩ := six HROW.out HR5.out
      have hS6 := HS5.out
      rw [← HN5.out] at hS6
      have er := earliest_any lo P ⟨T, rooms, ls'⟩ _ _ _ _ _ _ _ _ _ _ _ _ _ k _ w5 hS6 HV5.out HL5.out
      simp only [HN5.out] at er
      clear hS6
      by_cases hf : Lt.first ⟨K, a, c, t, p, p⟩ < 5
      · obtain ⟨f, hff⟩ : ∃ f : Nat, Lt.first ⟨K, a, c, t, p, p⟩ = f := ⟨(Lt.first ⟨K, a, c, t, p, p⟩).toNat, by have := (HV5.out.lot _ (List.mem_of_getElem? HL5.out)).first; simp only at this; omega⟩
        have hf1 := (HV5.out.lot _ (List.mem_of_getElem? HL5.out)).first
        unfold earV at er
        rw [if_pos hf, hff] at er
        rw [hff] at hf hf1
        simp only at hf1
        have ER := Lib.hid er
        have HFF := Lib.hid hff
        clear er hff
        go_upto_region 13 with (first | (go_at_call 7; go_must (refine ER.out.mono ?_); rintro e w6 ⟨rfl, hg6⟩))
        have HS6 := Lib.hid (HS5.out.kept hg6 (by simp))
        have HZ6 := Lib.hid (HZ5.out.kept hg6 (by simp))
        have HT6 := Lib.hid (HT5.out.kept hg6 (by simp))
        have HR6 := Lib.hid (blk hg6 (by simp) HR5.out)
        have HG6 := Lib.hid (HG5.out.trans hg6)
        clear hg6 b0 b1 b2 b3 b4 b5 HS5 HZ5 HT5 HR5 HG5 ER
        go_loopw [9] (fun i wr => ∃ d : Nat, i = .int .i64 d ∧ f ≤ d ∧ d ≤ 5 ∧ w6.grownBy wr none) (fun i _ => (5 - intOf i).toNat)
        case atStart => exact ⟨f, rfl, by omega, by omega, World.grownBy.refl _ _⟩
        case round =>
          obtain ⟨wq, rfl⟩ : ∃ wq : World, wq = wr := ⟨_, rfl⟩
          obtain ⟨d, rfl, hd1, hd2, hg⟩ := hrel
          have HQ := Lib.hid hg
          by_cases hd5 : d < 5
          · have hR := blk hg (by simp) HR6.out
            obtain ⟨b0, b1, b2, b3, b4, b5⟩ := six HROW.out hR
            obtain ⟨-, -, hL6, -⟩ := (HS6.out.kept hg (by simp)).parts
            simp only at hL6
            rw [← HN5.out] at hL6
            obtain ⟨la', lc', he, -, hcell⟩ := hL6.cell
            obtain ⟨rfl, rfl⟩ : some (⟨LB, o, none⟩ : Addr) = la' ∧ lc = lc' := by simpa using he
            obtain ⟨LB', o', he2, -, -, -, hB4⟩ := hcell (by intro e; have := HN5.out; rw [e] at this; simp at this; omega)
            obtain ⟨rfl, rfl⟩ : LB = LB' ∧ o = o' := by simpa using he2
            obtain ⟨g0, g1, g2, -, -, -⟩ := hB4 k _ HL5.out
            simp only at g0 g1 g2
            clear hcell hB4 he he2 hL6 hR hg
            have hmul : IntKind.i64.wrap (24 * (d : Int)) = 24 * d := IntWalk.i64_in _ (by omega)
            go_wp2
            go_region_held3 (fun w' => w'.cell? ⟨P, 5, none⟩ = some (.slice (some ⟨LB, o, none⟩) n lc) ∧ w'.cell? ⟨LB, o + k * 6, none⟩ = some (.int .i64 K) ∧ w'.cell? ⟨LB, o + k * 6 + 1, none⟩ = some (.int .i64 a) ∧ w'.cell? ⟨LB, o + k * 6 + 2, none⟩ = some (.int .i64 c))
              (first | go_keep | exact ⟨b5, g0, g1, g2⟩)
              (fail)
            go_upto_region 16 with (fail)
            have hcd : c < 24 * d := by have := hf1.2.2; omega
            have h119 : 24 * d ≤ 119 := by omega
            have hfa : 0 ≤ T.fee K a (24 * d) ∧ T.fee K a (24 * d) ≤ 45 := HV5.out.tar.fee_bound hcK a (24 * d) h119
            have hfb : 0 ≤ T.fee K c (24 * d) ∧ T.fee K c (24 * d) ≤ 45 := HV5.out.tar.fee_bound hcK c (24 * d) h119
            have fo := fun (W : World) (hg : w6.grownBy W none) => fover_any lo P T fa ra ea fm fc rm rc em ec K a c (24 * d) p W ((HS6.out.kept hg (by simp)).parts.1) HV5.out.tar (by have := (Array.getElem?_eq_some_iff.1 (blk hg (by simp) HR6.out)).1; omega) hcK hac hcd h119 (by omega)
            have hSn : ∀ (W : World) (hg : w6.grownBy W none), SaleIn lo P W (.agg #[.int .i64 T.kinds, .slice fa fm fc, .slice ra rm rc, .slice ea em ec, .slice pa 5 pc, .slice (some ⟨LB, o, none⟩) ls'.length lc]) ⟨T, rooms, ls'⟩ := fun W hg => by rw [HN5.out]; exact HS6.out.kept hg (by simp)
            have ov := fun (W : World) (hg : w6.grownBy W none) => sover_any lo P ⟨T, rooms, ls'⟩ _ _ _ _ _ _ _ _ _ _ _ _ _ k d f K a c t p p W (hSn W hg) HV5.out (by have := (Array.getElem?_eq_some_iff.1 (blk hg (by simp) HR6.out)).1; omega) HL5.out HFF.out hd1 hcd (by omega)
            have ow := fun (W : World) (hg : w6.grownBy W none) => sowed_any lo P ⟨T, rooms, ls'⟩ _ _ _ _ _ _ _ _ _ _ _ _ _ k d f K a c t p p W (hSn W hg) HV5.out (by have := (Array.getElem?_eq_some_iff.1 (blk hg (by simp) HR6.out)).1; omega) HL5.out HFF.out hd1 hcd (by omega)
            have ga := fun (W : World) (hg : w6.grownBy W none) => sgain_any lo P ⟨T, rooms, ls'⟩ _ _ _ _ _ _ _ _ _ _ _ _ _ k d f K a c t p p W (hSn W hg) HV5.out (by have := (Array.getElem?_eq_some_iff.1 (blk hg (by simp) HR6.out)).1; omega) HL5.out HFF.out hd1 hcd (by omega)
            simp only [HN5.out] at ov ow ga
            rw [show ((24 * d : Nat) : Int) = 24 * (d : Int) from by simp] at fo
            obtain ⟨y1, hy1⟩ : ∃ y, y = (p : Int) - T.fee K a (24 * d) := ⟨_, rfl⟩
            obtain ⟨y2, hy2⟩ : ∃ y, y = (p : Int) - T.fee K c (24 * d) := ⟨_, rfl⟩
            rw [← hy1, ← hy2] at fo ov
            have hy1b : -45 ≤ y1 ∧ y1 ≤ 40 := by omega
            have hy2b : -45 ≤ y2 ∧ y2 ≤ 40 := by omega
            have e1 : T.fee K a (24 * d) = p - y1 := by omega
            have e2 : T.fee K c (24 * d) = p - y2 := by omega
            have e3 : imin (p - y1) (p : Int) = p - pos y1 := by unfold imin pos; split <;> split <;> omega
            have e4 : imin (p - y2) (p : Int) = p - pos y2 := by unfold imin pos; split <;> split <;> omega
            rw [e1, e2] at ow ga
            rw [e3, e4] at ga
            have hq1 : 0 ≤ pos y1 ∧ pos y1 ≤ 40 := by unfold pos; split <;> omega
            have hq2 : 0 ≤ pos y2 ∧ pos y2 ≤ 40 := by unfold pos; split <;> omega
            have hp1 : (if 0 < y1 then y1 else 0) = pos y1 := rfl
            have hp2 : (if 0 < y2 then y2 else 0) = pos y2 := rfl
            have hy2q : (y2 ≤ 0 ∧ pos y2 = 0) ∨ (0 < y2 ∧ pos y2 = y2) := by unfold pos; split <;> omega
            generalize pos y1 = q1 at *
            generalize pos y2 = q2 at *
            have FO := Lib.hid fo
            have OV := Lib.hid ov
            have OW := Lib.hid ow
            have GA := Lib.hid ga
            have HP1 := Lib.hid hp1
            have HP2 := Lib.hid hp2
            have HY2Q := Lib.hid hy2q
            obtain ⟨hy1a, hy1b⟩ := hy1b
            obtain ⟨hy2a, hy2b⟩ := hy2b
            obtain ⟨hq1a, hq1b⟩ := hq1
            obtain ⟨hq2a, hq2b⟩ := hq2
            clear fo ov ow ga hSn e1 e2 e3 e4 hy1 hy2 hfa hfb hp1 hp2 hy2q hmul
            obtain ⟨NA, hNA⟩ : ∃ N, N = wq.heap.size := ⟨_, rfl⟩
            obtain ⟨wA, hwA⟩ : ∃ W, W = (wq.alloc (.cells #[.int .i64 K, .int .i64 a, .int .i64 c, .int .i64 (24 * d), .int .i64 (24 * d)] 41)).drew := ⟨_, rfl⟩
            have hgA : wq.grownBy wA none := by rw [hwA]; exact (World.grownBy_alloc _ _ none).trans (grownBy_drew _ _)
            have rA : wA.heap[NA]? = some (.cells #[.int .i64 K, .int .i64 a, .int .i64 c, .int .i64 (24 * d), .int .i64 (24 * d)] 41 (0, 0)) := by rw [hwA, hNA]; exact heap_alloc_new wq _
            have a0 : wA.cell? ⟨NA, 0, none⟩ = some (.int .i64 K) := row_cell rA rfl
            have a1 : wA.cell? ⟨NA, 1, none⟩ = some (.int .i64 a) := row_cell rA rfl
            have a2 : wA.cell? ⟨NA, 2, none⟩ = some (.int .i64 c) := row_cell rA rfl
            have a3 : wA.cell? ⟨NA, 3, none⟩ = some (.int .i64 (24 * d)) := row_cell rA rfl
            have a4 : wA.cell? ⟨NA, 4, none⟩ = some (.int .i64 (24 * d)) := row_cell rA rfl
            have HwA := Lib.hid (HQ.out.trans hgA)
            have hRwA := blk hgA (by simp) (blk HQ.out (by simp) HR6.out)
            rw [← hNA, ← hwA]
            clear b0 b1 b2 b3 b4 b5 hwA hNA hgA rA g0 g1 g2
            obtain ⟨b0, b1, b2, b3, b4, b5⟩ := six HROW.out hRwA
            have HRwA := Lib.hid hRwA
            clear hRwA
            go_upto_region 17 with (first | (go_at_call 8; go_must (refine (FO.out _ HwA.out).mono ?_); rintro e wB0 ⟨rfl, hgwB⟩; have HGwB := Lib.hid hgwB; clear hgwB))
            obtain ⟨NwB, hNwB⟩ : ∃ N, N = wB0.heap.size := ⟨_, rfl⟩
            obtain ⟨wB, hwwB⟩ : ∃ W, W = wB0.alloc (.cells #[.int .i64 y1, .int .i64 y2] 34) := ⟨_, rfl⟩
            have hggwB : wA.grownBy wB none := by rw [hwwB]; exact HGwB.out.trans (World.grownBy_alloc _ _ _)
            have m0 : wB.cell? ⟨NwB, 0, none⟩ = some (.int .i64 y1) := by rw [hwwB, hNwB, cell_new]; rfl
            have m1 : wB.cell? ⟨NwB, 1, none⟩ = some (.int .i64 y2) := by rw [hwwB, hNwB, cell_new]; rfl
            have HwB := Lib.hid (HwA.out.trans hggwB)
            have hRwB := blk hggwB (by simp) HRwA.out
            rw [← hNwB, ← hwwB]
            clear b0 b1 b2 b3 b4 b5 hwwB hNwB HGwB hggwB HRwA HwA
            obtain ⟨b0, b1, b2, b3, b4, b5⟩ := six HROW.out hRwB
            have HRwB := Lib.hid hRwB
            clear hRwB
            clear a0 a1 a2 a3 a4
            go_upto_region 18 with (first | (go_at_call 9; go_must (refine (OV.out _ HwB.out).mono ?_); rintro e wC0 ⟨rfl, hgwC⟩; have HGwC := Lib.hid hgwC; clear hgwC))
            obtain ⟨NwC, hNwC⟩ : ∃ N, N = wC0.heap.size := ⟨_, rfl⟩
            obtain ⟨wC, hwwC⟩ : ∃ W, W = wC0.alloc (.cells #[.int .i64 q1, .int .i64 q2] 34) := ⟨_, rfl⟩
            have hggwC : wB.grownBy wC none := by rw [hwwC]; exact HGwC.out.trans (World.grownBy_alloc _ _ _)
            have n0 : wC.cell? ⟨NwC, 0, none⟩ = some (.int .i64 q1) := by rw [hwwC, hNwC, cell_new]; rfl
            have n1 : wC.cell? ⟨NwC, 1, none⟩ = some (.int .i64 q2) := by rw [hwwC, hNwC, cell_new]; rfl
            have HwC := Lib.hid (HwB.out.trans hggwC)
            have hRwC := blk hggwC (by simp) HRwB.out
            replace m0 := hggwC.cell m0 (by simp)
            replace m1 := hggwC.cell m1 (by simp)
            rw [← hNwC, ← hwwC]
            clear b0 b1 b2 b3 b4 b5 hwwC hNwC HGwC hggwC HRwB HwB
            obtain ⟨b0, b1, b2, b3, b4, b5⟩ := six HROW.out hRwC
            have HRwC := Lib.hid hRwC
            clear hRwC
            go_upto_region 19 with (first | (go_at_call 10; go_must (refine (OW.out _ HwC.out).mono ?_); rintro e wD0 ⟨rfl, hgwD⟩; have HGwD := Lib.hid hgwD; clear hgwD))
            obtain ⟨NwD, hNwD⟩ : ∃ N, N = wD0.heap.size := ⟨_, rfl⟩
            obtain ⟨wD, hwwD⟩ : ∃ W, W = wD0.alloc (.cells #[.int .i64 (p - y2), .int .i64 (p - y1)] 34) := ⟨_, rfl⟩
            have hggwD : wC.grownBy wD none := by rw [hwwD]; exact HGwD.out.trans (World.grownBy_alloc _ _ _)
            have r0 : wD.cell? ⟨NwD, 0, none⟩ = some (.int .i64 (p - y2)) := by rw [hwwD, hNwD, cell_new]; rfl
            have r1 : wD.cell? ⟨NwD, 1, none⟩ = some (.int .i64 (p - y1)) := by rw [hwwD, hNwD, cell_new]; rfl
            have HwD := Lib.hid (HwC.out.trans hggwD)
            have hRwD := blk hggwD (by simp) HRwC.out
            replace m0 := hggwD.cell m0 (by simp)
            replace m1 := hggwD.cell m1 (by simp)
            replace n0 := hggwD.cell n0 (by simp)
            replace n1 := hggwD.cell n1 (by simp)
            rw [← hNwD, ← hwwD]
            clear b0 b1 b2 b3 b4 b5 hwwD hNwD HGwD hggwD HRwC HwC
            obtain ⟨b0, b1, b2, b3, b4, b5⟩ := six HROW.out hRwD
            have HRwD := Lib.hid hRwD
            clear hRwD
            go_upto_region 20 with (first | (go_at_call 11; go_must (refine (GA.out _ HwD.out).mono ?_); rintro e wE0 ⟨rfl, hgwE⟩; have HGwE := Lib.hid hgwE; clear hgwE))
            obtain ⟨NwE, hNwE⟩ : ∃ N, N = wE0.heap.size := ⟨_, rfl⟩
            obtain ⟨wE, hwwE⟩ : ∃ W, W = wE0.alloc (.cells #[.int .i64 (p - q2), .int .i64 (p - q1)] 34) := ⟨_, rfl⟩
            have hggwE : wD.grownBy wE none := by rw [hwwE]; exact HGwE.out.trans (World.grownBy_alloc _ _ _)
            have v0 : wE.cell? ⟨NwE, 0, none⟩ = some (.int .i64 (p - q2)) := by rw [hwwE, hNwE, cell_new]; rfl
            have v1 : wE.cell? ⟨NwE, 1, none⟩ = some (.int .i64 (p - q1)) := by rw [hwwE, hNwE, cell_new]; rfl
            have HwE := Lib.hid (HwD.out.trans hggwE)
            have hRwE := blk hggwE (by simp) HRwD.out
            replace m0 := hggwE.cell m0 (by simp)
            replace m1 := hggwE.cell m1 (by simp)
            replace n0 := hggwE.cell n0 (by simp)
            replace n1 := hggwE.cell n1 (by simp)
            replace r0 := hggwE.cell r0 (by simp)
            replace r1 := hggwE.cell r1 (by simp)
            rw [← hNwE, ← hwwE]
            clear b0 b1 b2 b3 b4 b5 hwwE hNwE HGwE hggwE HRwD HwD
            obtain ⟨b0, b1, b2, b3, b4, b5⟩ := six HROW.out hRwE
            have HRwE := Lib.hid hRwE
            clear hRwE
            clear b0 b1 b2 b3 b4 b5
            have hp1 := HP1.out
            have hp2 := HP2.out
            rcases HY2Q.out with ⟨hy2n, hq2z⟩ | ⟨hy2p, hq2y⟩
            · go_wp2
              refine ⟨⟨d + 1, by simp, by omega, by omega, HwE.out⟩, ?_⟩
              simp [intOf]
              omega
            · have hz1 : ((p : Int) - y2 == p) = false := by simp; omega
              have hz2 : decide (y2 ≤ 0) = false := by simp; omega
              go_wp2
              refine ⟨⟨d + 1, by simp, by omega, by omega, HwE.out⟩, ?_⟩
              simp [intOf]
              omega
          · go_wp2
            go_roundw
            case rel => exact ⟨k + 1, ls', by simp, by omega, HN5.out, HV5.out, HS6.out.kept HQ.out (by simp), HZ6.out.kept HQ.out (by simp), HT6.out.kept HQ.out (by simp), blk HQ.out (by simp) HR6.out, HG6.out.trans HQ.out⟩
            case measure => simp [intOf]; omega
      · unfold earV at er
        rw [if_neg hf] at er
        have ER := Lib.hid er
        clear er hf
        go_wp2_with (first | (go_at_call 7; go_must (refine ER.out.mono ?_); rintro e w6 ⟨rfl, hg6⟩; have HG6 := Lib.hid hg6; clear hg6))
        go_roundw
        case rel => exact ⟨k + 1, ls', by simp, by omega, HN5.out, HV5.out, HS5.out.kept HG6.out (by simp), HZ5.out.kept HG6.out (by simp), HT5.out.kept HG6.out (by simp), blk HG6.out (by simp) HR5.out, HG5.out.trans HG6.out⟩
        case measure => simp [intOf]; omega
    · have HG := Lib.hid hG
      clear hV hS hZ hT hR hG
      go_wp2_with (first | (go_at_call 12; go_must (refine (awake_any _).mono ?_); rintro e w9 ⟨rfl, hg9⟩))
      go_ret
      exact ⟨rfl, HG.out.trans hg9⟩
end Go.Proofs.YtpjcjadcikeibaaGreatDoor
