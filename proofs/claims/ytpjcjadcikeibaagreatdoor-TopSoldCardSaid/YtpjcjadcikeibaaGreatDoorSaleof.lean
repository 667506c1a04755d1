import Derived.Test.YtpjcjadcikeibaaGreatDoorLotof
import Derived.Test.YtpjcjadcikeibaaGreatDoorTarof
namespace Go.Proofs.YtpjcjadcikeibaaGreatDoor
open Go.RowKit
theorem Tryz.info36p : (Tryz.prog.info? 36).map (fun i => (i.zero, i.size, i.bytes)) = some (some (.agg #[.int .i64 0, .int .i64 0, .int .i64 0, .int .i64 0, .int .i64 0, .int .i64 0]), 6, 48) := by kernel_rfl

/-- A lot of a sale. -/
structure Lt where
  kind : Int
  lmin : Int
  lmax : Int
  wait : Int
  wmin : Int
  wmax : Int
def Lt.vals (l : Lt) : List Value := [.int .i64 l.kind, .int .i64 l.lmin, .int .i64 l.lmax, .int .i64 l.wait, .int .i64 l.wmin, .int .i64 l.wmax]
def Lt.Ok (n : Int) (l : Lt) : Prop := LotOk n l.kind l.lmin l.lmax l.wait l.wmin l.wmax
def flatL (ls : List Lt) : List Value := ls.flatMap Lt.vals
/-- v reads as the lots ls. -/
def LotsIn (lo hi : Nat) (w : World) (v : Value) (ls : List Lt) : Prop :=
  ∃ base cap, v = .slice base ls.length cap ∧ (ls.length : Int) ≤ 1000000 ∧
    (ls ≠ [] → ∃ B o cs fr, base = some ⟨B, o, none⟩ ∧ lo ≤ B ∧ B < hi ∧ w.heap[B]? = some (.cells cs 36 fr) ∧
      ∀ i l, ls[i]? = some l → cs[o + i * 6]? = some (.int .i64 l.kind) ∧ cs[o + (i * 6 + 1)]? = some (.int .i64 l.lmin) ∧ cs[o + (i * 6 + 2)]? = some (.int .i64 l.lmax) ∧
        cs[o + (i * 6 + 3)]? = some (.int .i64 l.wait) ∧ cs[o + (i * 6 + 4)]? = some (.int .i64 l.wmin) ∧ cs[o + (i * 6 + 5)]? = some (.int .i64 l.wmax))
theorem LotsIn.kept {lo hi : Nat} {w w' : World} {v : Value} {l : List Lt} {row : Option Nat} (h : LotsIn lo hi w v l) (hg : w.grownBy w' row) (hr : ∀ R, row = some R → R < lo ∨ hi ≤ R) : LotsIn lo hi w' v l := by
  obtain ⟨base, cap, rfl, hl, hr'⟩ := h
  refine ⟨base, cap, rfl, hl, fun hne => ?_⟩
  obtain ⟨B, o, cs, fr, e1, e2, e3, e4, e5⟩ := hr' hne
  exact ⟨B, o, cs, fr, e1, e2, e3, blk hg (fun e => by have := hr B e.symm; omega) e4, e5⟩
theorem LotsIn.mono {lo hi lo' hi' : Nat} {w : World} {v : Value} {l : List Lt} (h : LotsIn lo hi w v l) (h1 : lo' ≤ lo) (h2 : hi ≤ hi') : LotsIn lo' hi' w v l := by
  obtain ⟨base, cap, rfl, hl, hr⟩ := h
  refine ⟨base, cap, rfl, hl, fun hne => ?_⟩
  obtain ⟨B, o, cs, fr, e1, e2, e3, e4, e5⟩ := hr hne
  exact ⟨B, o, cs, fr, e1, by omega, by omega, e4, e5⟩
theorem flatL_length (ls : List Lt) : (flatL ls).length = ls.length * 6 := by
  unfold flatL
  induction ls with
  | nil => rfl
  | cons x r ih => rw [List.flatMap_cons, List.length_append, ih]; simp [Lt.vals]; omega
theorem flatL_get : ∀ (ls : List Lt) (i : Nat) (l : Lt), ls[i]? = some l → ∀ j, j < 6 → (flatL ls)[i * 6 + j]? = l.vals[j]? := by
  intro ls
  induction ls with
  | nil => intro i l h; simp at h
  | cons x r ih =>
    intro i l h j hj
    have e : flatL (x :: r) = x.vals ++ flatL r := rfl
    cases i with
    | zero => simp at h; subst h; rw [e, List.getElem?_append_left (by simp [Lt.vals]; omega)]; simp
    | succ i =>
      rw [e, List.getElem?_append_right (by simp [Lt.vals]; omega)]
      have h' := ih i l (by simpa using h) j hj
      rw [← h']
      congr 1
      simp [Lt.vals]; omega
theorem lots_of {H hi : Nat} {w : World} {ls : List Lt} {lv : Value} (h : w.ownsRow H 36 6 lv ls.length (flatL ls)) (hq : ls.length ≤ 3) (hi' : w.heap.size ≤ hi) : LotsIn H hi w lv ls := by
  obtain ⟨h1, h2⟩ := h
  rcases h2 with ⟨rfl, h0⟩ | ⟨g, cap, cur, rfl, hb, hg, hc, hm, hs, ht⟩
  · exact ⟨none, 0, by simp [h0], by simp [h0], fun hne => absurd (List.eq_nil_of_length_eq_zero h0) hne⟩
  · refine ⟨_, cap, rfl, by omega, fun _ => ⟨g, 0, cur, (0, 0), rfl, hb, Nat.lt_of_lt_of_le (Array.getElem?_eq_some_iff.1 hg).1 hi', hg, fun i l hi => ?_⟩⟩
    have hiq : i < ls.length := (List.getElem?_eq_some_iff.1 hi).1
    have hc : ∀ j, j < 6 → cur[i * 6 + j]? = l.vals[j]? := fun j hj => by
      rw [← flatL_get ls i l hi j hj, ← ht, List.getElem?_take, if_pos (by omega)]; simp
    have hz : ∀ k, (⟨g, 0, none⟩ : Addr).off + k = k := fun k => Nat.zero_add k
    exact ⟨by rw [Nat.zero_add]; exact hc 0 (by omega), by rw [Nat.zero_add]; exact hc 1 (by omega), by rw [Nat.zero_add]; exact hc 2 (by omega), by rw [Nat.zero_add]; exact hc 3 (by omega), by rw [Nat.zero_add]; exact hc 4 (by omega), by rw [Nat.zero_add]; exact hc 5 (by omega)⟩

/-- A sale. -/
structure Sal where
  tar : Tar
  rooms : List Int
  lots : List Lt
structure Sal.Valid (S : Sal) : Prop where
  tar : S.tar.Valid
  r : S.rooms.length = 5
  room : ∀ x ∈ S.rooms, 0 ≤ x ∧ x ≤ 3
  n : S.lots.length ≤ 3
  lot : ∀ l ∈ S.lots, l.Ok S.tar.kinds
def SaleIn (lo hi : Nat) (w : World) (v : Value) (S : Sal) : Prop :=
  ∃ fv rv ev pv lv, v = .agg #[.int .i64 S.tar.kinds, fv, rv, ev, pv, lv] ∧ TarIn lo hi w (.agg #[.int .i64 S.tar.kinds, fv, rv, ev]) S.tar ∧ IntsIn lo hi w pv S.rooms ∧ LotsIn lo hi w lv S.lots
theorem SaleIn.kept {lo hi : Nat} {w w' : World} {v : Value} {S : Sal} {row : Option Nat} (h : SaleIn lo hi w v S) (hg : w.grownBy w' row) (hr : ∀ R, row = some R → R < lo ∨ hi ≤ R) : SaleIn lo hi w' v S := by
  obtain ⟨fv, rv, ev, pv, lv, rfl, h1, h2, h3⟩ := h
  exact ⟨fv, rv, ev, pv, lv, rfl, h1.kept hg hr, h2.kept hg hr, h3.kept hg hr⟩
theorem TarIn.mono {lo hi lo' hi' : Nat} {w : World} {v : Value} {T : Tar} (h : TarIn lo hi w v T) (h1 : lo' ≤ lo) (h2 : hi ≤ hi') : TarIn lo' hi' w v T := by
  obtain ⟨fv, rv, ev, rfl, a, b, c⟩ := h
  exact ⟨fv, rv, ev, rfl, a.mono h1 h2, b.mono h1 h2, c.mono h1 h2⟩
def saleRow (k : Int) (fv rv ev pv lv : Value) : Obj := .cells #[.int .i64 k, fv, rv, ev, pv, lv] 30 (0, 0)
/-- A sale in the making, at X; the place of the result at Z. -/
structure SX (b g X Z : Nat) (T : Tar) (fv rv ev pv lv : Value) (w wr : World) : Prop where
  row : wr.heap[X]? = some (saleRow T.kinds fv rv ev pv lv)
  res : wr.heap[Z]? = some (saleRow 0 (.slice none 0 0) (.slice none 0 0) (.slice none 0 0) (.slice none 0 0) (.slice none 0 0))
  tin : TinAt wr b g
  grown : w.grownBy wr (some b)
  tar : TarIn (Z + 1) X wr (.agg #[.int .i64 T.kinds, fv, rv, ev]) T
  z : Z = w.heap.size
  zx : Z < X
  bz : b < Z
  xs : X < wr.heap.size
theorem SX.tn {b g g' X Z : Nat} {T : Tar} {fv rv ev pv lv : Value} {w w1 w2 : World} (h : SX b g X Z T fv rv ev pv lv w w1) (hn : Tn b g' w1 w2) : SX b g' X Z T fv rv ev pv lv w w2 :=
  ⟨blk hn.1 (by have := h.zx; have := h.bz; simp; omega) h.row, blk hn.1 (by have := h.bz; simp; omega) h.res, hn.2, h.grown.trans hn.1, h.tar.kept hn.1 (by rintro R e; cases e; have := h.bz; omega), h.z, h.zx, h.bz, Nat.lt_of_lt_of_le h.xs hn.1.size⟩
theorem SX.alloc {b g X Z : Nat} {T : Tar} {fv rv ev pv lv : Value} {w w1 : World} (h : SX b g X Z T fv rv ev pv lv w w1) (o : Obj) : SX b g X Z T fv rv ev pv lv w (w1.alloc o) :=
  ⟨blk_alloc h.row, blk_alloc h.res, h.tin.alloc o, h.grown.trans (World.grownBy_alloc _ _ _), h.tar.kept (World.grownBy_alloc w1 o none) (by simp), h.z, h.zx, h.bz, by have := h.xs; simp; omega⟩
theorem SX.drew {b g X Z : Nat} {T : Tar} {fv rv ev pv lv : Value} {w w1 : World} (h : SX b g X Z T fv rv ev pv lv w w1) : SX b g X Z T fv rv ev pv lv w w1.drew :=
  ⟨h.row, h.res, h.tin, h.grown.trans (grownBy_drew _ _), h.tar, h.z, h.zx, h.bz, h.xs⟩
theorem SX.grow {b g X Z : Nat} {T : Tar} {fv rv ev pv lv : Value} {w w1 w2 : World} {row : Option Nat} (h : SX b g X Z T fv rv ev pv lv w w1) (hg : w1.grownBy w2 row) (hr : ∀ R, row = some R → X < R) : SX b g X Z T fv rv ev pv lv w w2 := by
  have hx := h.zx
  have hb := h.bz
  refine ⟨blk hg (fun e => by have := hr X e.symm; omega) h.row, blk hg (fun e => by have := hr Z e.symm; omega) h.res, h.tin.kept hg (fun R e => by have := hr R e; omega), gown h.grown hg (fun R e => by have := hr R e; have := h.z; omega), h.tar.kept hg (fun R e => by have := hr R e; omega), h.z, h.zx, h.bz, Nat.lt_of_lt_of_le h.xs hg.size⟩
theorem SX.set {b g X Z o : Nat} {T : Tar} {fv rv ev pv lv pv' lv' v : Value} {w w1 : World} (h : SX b g X Z T fv rv ev pv lv w w1)
    (he : (#[.int .i64 T.kinds, fv, rv, ev, pv, lv] : Array Value).setIfInBounds o v = #[.int .i64 T.kinds, fv, rv, ev, pv', lv']) :
    SX b g X Z T fv rv ev pv' lv' w (w1.setCell ⟨X, o, none⟩ v) := by
  have hz := h.zx
  have hb := h.bz
  refine ⟨by rw [row_setCell h.row, he]; rfl, blk (grownBy_set w1 X o _) (by simp; omega) h.res, h.tin.set (by omega), gown h.grown (grownBy_set _ _ _ _) (by rintro j e; cases e; have := h.z; omega), h.tar.kept (grownBy_set _ _ _ _) (by rintro R e; cases e; omega), h.z, h.zx, h.bz, by have := h.xs; simpa [World.setCell] using this⟩
theorem SX.cells {b g X Z : Nat} {T : Tar} {fv rv ev pv lv : Value} {w w1 : World} (h : SX b g X Z T fv rv ev pv lv w w1) :
    w1.cell? ⟨X, 0, none⟩ = some (.int .i64 T.kinds) ∧ w1.cell? ⟨X, 1, none⟩ = some fv ∧ w1.cell? ⟨X, 2, none⟩ = some rv ∧ w1.cell? ⟨X, 3, none⟩ = some ev ∧ w1.cell? ⟨X, 4, none⟩ = some pv ∧ w1.cell? ⟨X, 5, none⟩ = some lv := by
  have := h.row
  unfold saleRow at this
  refine ⟨?_, ?_, ?_, ?_, ?_, ?_⟩ <;> simp [World.cell?, this]
theorem SX.thaw {b g X Z : Nat} {T : Tar} {fv rv ev pv lv : Value} {w w1 : World} (h : SX b g X Z T fv rv ev pv lv w w1) (o : Nat) : w1.frozen? ⟨X, o, none⟩ = false := by
  have := h.row
  unfold saleRow at this
  simp [World.frozen?, this]
theorem SX.more {b g g' X Z : Nat} {T : Tar} {fv rv ev pv lv : Value} {w w1 : World} (h : SX b g X Z T fv rv ev pv lv w w1) (hg : g ≤ g') : SX b g' X Z T fv rv ev pv lv w w1 :=
  ⟨h.row, h.res, h.tin.mono hg, h.grown, h.tar, h.z, h.zx, h.bz, h.xs⟩
/-- The rooms. -/
def TS1 (b g X Z : Nat) (T : Tar) (fv rv ev : Value) (w : World) (i : Value) (wr : World) : Prop :=
  ∃ (k : Nat) (pv : Value) (l : List Int), i = .int .i64 k ∧ k ≤ 5 ∧ l.length = k ∧ (∀ x ∈ l, 0 ≤ x ∧ x ≤ 3) ∧ SX b (g + 2 * k) X Z T fv rv ev pv (.slice none 0 0) w wr ∧ wr.ownsRow (X + 1) 3 1 pv k (l.map (Value.int .i64))
theorem TS1.step {b g X Z k gg cap : Nat} {T : Tar} {fv rv ev pv : Value} {u3 : Int} {w w5 : World} {l : List Int} (hk : k < 5) (hl : l.length = k) (hd : ∀ x ∈ l, 0 ≤ x ∧ x ≤ 3) (hu : 0 ≤ u3 ∧ u3 ≤ 3)
    (h : SX b (g + 2 * k + 2) X Z T fv rv ev pv (.slice none 0 0) w w5) (hO : w5.ownsRow (X + 1) 3 1 (.slice (some ⟨gg, 0, none⟩) (k + 1) cap) (k + 1) (l.map (Value.int .i64) ++ [.int .i64 u3])) :
    TS1 b g X Z T fv rv ev w (.int .i64 (k + 1)) (w5.setCell ⟨X, 4, none⟩ (.slice (some ⟨gg, 0, none⟩) (k + 1) cap)) := by
  have hn : gg ≠ X := by have := (hO.lt gg rfl).1; omega
  refine ⟨k + 1, _, l ++ [u3], by simp, by omega, by simp [hl], ?_, h.set rfl, ?_⟩
  · intro x hx
    rcases List.mem_append.1 hx with h | h
    · exact hd x h
    · simp at h; subst h; exact hu
  · have h := hO.kept (grownBy_set w5 X 4 (.slice (some ⟨gg, 0, none⟩) (k + 1) cap)) (.inr (by simp [Value.ownBlock, hn]))
    simpa using h
/-- The lots. -/
def TS2 (b g X Z H : Nat) (T : Tar) (fv rv ev pv : Value) (L : List Int) (U : Int) (w : World) (i : Value) (wr : World) : Prop :=
  ∃ (iv : Int) (lv : Value) (q : List Lt), i = .int .i64 iv ∧ 0 ≤ iv ∧ (q.length : Int) + iv = U ∧ (∀ l ∈ q, l.Ok T.kinds) ∧ SX b (g + 11 * q.length) X Z T fv rv ev pv lv w wr ∧ wr.ownsRow H 36 6 lv q.length (flatL q) ∧ IntsIn (X + 1) H wr pv L ∧ H ≤ wr.heap.size
theorem TS2.step {b g X Z H gg cap : Nat} {T : Tar} {fv rv ev pv lv : Value} {L : List Int} {U iv : Int} {w w5 : World} {q : List Lt} {k m M t x Y : Int} (hi : 0 < iv) (hq : (q.length : Int) + iv = U) (hd : ∀ l ∈ q, l.Ok T.kinds) (ho : LotOk T.kinds k m M t x Y)
    (h : SX b (g + 11 * q.length + 11) X Z T fv rv ev pv lv w w5) (hO : w5.ownsRow H 36 6 (.slice (some ⟨gg, 0, none⟩) (q.length + 1) cap) (q.length + 1) (flatL q ++ [.int .i64 k, .int .i64 m, .int .i64 M, .int .i64 t, .int .i64 x, .int .i64 Y]))
    (hI : IntsIn (X + 1) H w5 pv L) (hXH : X < H) (hH : H ≤ w5.heap.size) :
    TS2 b g X Z H T fv rv ev pv L U w (.int .i64 (iv - 1)) (w5.setCell ⟨X, 5, none⟩ (.slice (some ⟨gg, 0, none⟩) (q.length + 1) cap)) := by
  have hn : gg ≠ X := by have := (hO.lt gg rfl).1; omega
  have hk := grownBy_set w5 X 5 (.slice (some ⟨gg, 0, none⟩) (q.length + 1) cap)
  refine ⟨iv - 1, .slice (some ⟨gg, 0, none⟩) (q.length + 1) cap, q ++ [⟨k, m, M, t, x, Y⟩], rfl, by omega, by simp; omega, ?_, ?_, ?_, hI.kept hk (by rintro R e; cases e; omega), by simpa [World.setCell] using hH⟩
  · intro l hl
    rcases List.mem_append.1 hl with h | h
    · exact hd l h
    · simp at h; subst h; exact ho
  · have := SX.set (o := 5) (pv' := pv) (v := .slice (some ⟨gg, 0, none⟩) (q.length + 1) cap) h rfl
    rwa [show g + 11 * (q ++ [(⟨k, m, M, t, x, Y⟩ : Lt)]).length = g + 11 * q.length + 11 by simp; omega]
  · have h := hO.kept hk (.inr (by simp [Value.ownBlock, hn]))
    simpa [flatL, Lt.vals] using h
def SaleRes (b g : Nat) (w : World) (e : Ending) (w' : World) : Prop := ∃ v S, e = .returned v ∧ S.Valid ∧ SaleIn w.heap.size w'.heap.size w' v S ∧ Tn b (g + 160) w w'
theorem SX.fin {b g X Z H : Nat} {T : Tar} {fv rv ev : Value} {w wr : World} {L : List Int} {q : List Lt} {pa la : Option Addr} {pm pc lm lc : Nat} (h : SX b (g + 160) X Z T fv rv ev (.slice pa pm pc) (.slice la lm lc) w wr) (hT : T.Valid)
    (hL : L.length = 5) (hd : ∀ x ∈ L, 0 ≤ x ∧ x ≤ 3) (hq : q.length ≤ 3) (hl : ∀ l ∈ q, l.Ok T.kinds) (hI : IntsIn (X + 1) H wr (.slice pa pm pc) L) (hO : wr.ownsRow H 36 6 (.slice la lm lc) q.length (flatL q)) (hXH : X < H) (hH : H ≤ wr.heap.size) :
    ∃ W, W = ((((((wr.setCell ⟨Z, 0, none⟩ (.int .i64 T.kinds)).setCell ⟨Z, 1, none⟩ fv).setCell ⟨Z, 2, none⟩ rv).setCell ⟨Z, 3, none⟩ ev).setCell ⟨Z, 4, none⟩ (.slice pa pm pc)).setCell ⟨Z, 5, none⟩ (.slice la lm lc)) ∧
      W.heap[Z]? = some (.cells #[.int .i64 T.kinds, fv, rv, ev, .slice pa pm pc, .slice la lm lc] 30 (0, 0)) ∧ SaleRes b g w (.returned (.agg #[.int .i64 T.kinds, fv, rv, ev, .slice pa pm pc, .slice la lm lc])) W := by
  have BZ := h.res
  have hk := (((((grownBy_set wr Z 0 (.int .i64 T.kinds)).trans (grownBy_set _ Z 1 fv)).trans (grownBy_set _ Z 2 rv)).trans (grownBy_set _ Z 3 ev)).trans (grownBy_set _ Z 4 (.slice pa pm pc))).trans (grownBy_set _ Z 5 (.slice la lm lc))
  have hzz : ((((((wr.setCell ⟨Z, 0, none⟩ (.int .i64 T.kinds)).setCell ⟨Z, 1, none⟩ fv).setCell ⟨Z, 2, none⟩ rv).setCell ⟨Z, 3, none⟩ ev).setCell ⟨Z, 4, none⟩ (.slice pa pm pc)).setCell ⟨Z, 5, none⟩ (.slice la lm lc)).heap.size = wr.heap.size := by simp [World.setCell]
  have hz := h.z
  have hb := h.bz
  have hzx := h.zx
  have hxs := h.xs
  refine ⟨_, rfl, by rw [row_setCell (row_setCell (row_setCell (row_setCell (row_setCell (row_setCell BZ)))))]; rfl, _, ⟨T, L, q⟩, rfl, ⟨hT, hL, hd, hq, hl⟩, ⟨fv, rv, ev, _, _, rfl, ?_, ?_, ?_⟩, gown h.grown hk (by rintro j e; cases e; omega), h.tin.kept hk (by rintro B e; cases e; exact h.bz)⟩
  · rw [hzz]; exact (h.tar.kept hk (by rintro R e; cases e; omega)).mono (by omega) (by omega)
  · rw [hzz]; exact (hI.kept hk (by rintro R e; cases e; omega)).mono (by omega) (by omega)
  · rw [hzz]; exact ((lots_of hO hq (Nat.le_refl _)).kept hk (by rintro R e; cases e; omega)).mono (by omega) (by omega)
theorem TarIn.form {lo hi : Nat} {w : World} {v : Value} {T : Tar} (h : TarIn lo hi w v T) : ∃ fa fm fc ra rm rc ea em ec, v = .agg #[.int .i64 T.kinds, .slice fa fm fc, .slice ra rm rc, .slice ea em ec] := by
  obtain ⟨fv, rv, ev, rfl, ⟨f1, f2, rfl, hf⟩, ⟨r1, r2, rfl, hr⟩, ⟨e1, e2, rfl, he⟩⟩ := h
  exact ⟨_, _, _, _, _, _, _, _, _, rfl⟩
theorem ub3 {u3 u2 : Int} (h : u3 ∈ ([0, 1, 1, 2, u2] : List Int)) (h1 : 0 ≤ u2) (h2 : u2 ≤ 3) : 0 ≤ u3 ∧ u3 ≤ 3 := by
  simp at h; omega
set_option maxRecDepth 100000 in
set_option maxHeartbeats 1600000 in
theorem sale_any (b g : Nat) (n : Int) (w : World) (ht : TinAt w b g) (hg : g < 900000) (hn1 : 0 ≤ n) (hn3 : n ≤ 3) :
    Calls Tryz.prog 5 #[.pointer (some ⟨b, 0, none⟩), .int .i64 n] w (SaleRes b g w) := by
  obtain ⟨i0, hi0, hz0, hz1, hz2⟩ := info_parts Tryz.info3p
  obtain ⟨i1, hj0, hy0, hy1, hy2⟩ := info_parts Tryz.info36p
  have hbw := ht.lt
  have HT := Lib.hid ht
  clear ht
  go_enter Tryz.func5, Tryz.ntmps5
  go_upto_region 2 with (first | (go_at_call 13; go_must (refine (tariff_any b g _ (by exact HT.out.alloc _) (by omega)).mono ?_); rintro e w1 ⟨tv, T, rfl, hTV, hTI, hTn⟩; obtain ⟨fa, fm, fc, ra, rm, rc, ea, em, ec, rfl⟩ := hTI.form; have HTI := Lib.hid hTI; have HTn := Lib.hid hTn; have HTV := Lib.hid hTV; clear hTI hTn hTV))
  obtain ⟨X, hX⟩ : ∃ X, X = w1.heap.size := ⟨_, rfl⟩
  obtain ⟨Z, hZ⟩ : ∃ Z, Z = w.heap.size := ⟨_, rfl⟩
  have hs1 := HTn.out.1.size
  have hZX : Z < X := by simp at hs1; omega
  have hbZ : b < Z := by omega
  have S0 : SX b (g + 100) X Z T (.slice fa fm fc) (.slice ra rm rc) (.slice ea em ec) (.slice none 0 0) (.slice none 0 0) w (w1.alloc (saleRow T.kinds (.slice fa fm fc) (.slice ra rm rc) (.slice ea em ec) (.slice none 0 0) (.slice none 0 0))) := by
    refine ⟨by rw [hX]; exact heap_alloc_new w1 _, blk_alloc (blk HTn.out.1 (by simp; omega) (by rw [hZ]; exact heap_alloc_new w _)), HTn.out.2.alloc _, ((World.grownBy_alloc w _ _).trans HTn.out.1).trans (World.grownBy_alloc _ _ _), ?_, hZ, hZX, hbZ, by simp; omega⟩
    have h1 := HTI.out.kept (World.grownBy_alloc w1 (saleRow T.kinds (.slice fa fm fc) (.slice ra rm rc) (.slice ea em ec) (.slice none 0 0) (.slice none 0 0)) none) (by simp)
    exact h1.mono (by simp; omega) (by omega)
  rw [← hX, ← hZ]
  unfold saleRow at S0
  have HS0 := Lib.hid S0
  clear S0 hs1
  revert HS0
  generalize w1.alloc (.cells #[.int .i64 T.kinds, .slice fa fm fc, .slice ra rm rc, .slice ea em ec, .slice none 0 0, .slice none 0 0] 30) = wa
  intro HS0
  have HZ := Lib.hid hZ
  clear HTn HTI hX hZ
  go_wp2
  go_loopw [6] (TS1 b (g + 100) X Z T (.slice fa fm fc) (.slice ra rm rc) (.slice ea em ec) w) (fun i _ => (5 - intOf i).toNat)
  case atStart => exact ⟨0, .slice none 0 0, [], rfl, by omega, rfl, by simp, HS0.out, World.ownsRow_nil _ _ _ _⟩
  case round =>
    obtain ⟨k, pv, l, rfl, h1, h2, h3, h4, h5⟩ := hrel
    obtain ⟨pa, pm, pc, rfl⟩ := own_form h5
    have c4 : wr.cell? ⟨X, 4, none⟩ = some (.slice pa pm pc) := h4.cells.2.2.2.2.1
    have hxw : X < wr.heap.size := h4.xs
    have H2 := Lib.hid h2
    have H3 := Lib.hid h3
    have H4 := Lib.hid h4
    have H5 := Lib.hid h5
    clear h2 h3 h4 h5
    by_cases hlt : k < 5
    · go_wp2
      have hbX : b < X := by omega
      have hbX' : b < X + 1 := by omega
      have hfX : some X ≠ (Value.slice pa pm pc).ownBlock := fun e => by have := (H5.out.lt X e.symm).1; omega
      have fX : wr.frozen? ⟨X, 4, none⟩ = false := H4.out.thaw 4
      go_region_law
        (first
          | (go_simp; go_at_call 6; refine (upto_any b (g + 100 + 2 * k) _ _ (by exact H4.out.tin) (by omega) (by omega)).mono ?_; rintro e w2 ⟨u2, ⟨hv1, hv2⟩, rfl, HN, HS⟩; have HX2 := Lib.hid (H4.out.drew.tn HN); have hx2 : X < w2.heap.size := HX2.out.xs; have cx2 : w2.cell? ⟨X, 4, none⟩ = some (.slice pa pm pc) := HX2.out.cells.2.2.2.2.1; have HN' := Lib.hid HN; clear HN HS)
          | (go_simp; go_at_call 14; refine (either_any b (g + 100 + 2 * k + 1) _ [0, 1, 1, 2, u2] _ (by exact HN'.out.2.alloc _) (by omega) (by exact Ints.laid _ [0, 1, 1, 2, u2] 5 rfl (by have := HN'.out.2.lt; omega) (by simp)) (by simp) (by simp)).mono ?_; rintro e w3 ⟨u3, hm3, rfl, HM, HS3⟩; have HX3 := Lib.hid ((HX2.out.alloc _).tn HM); have hx3 : X < w3.heap.size := HX3.out.xs; have cx3 : w3.cell? ⟨X, 4, none⟩ = some (.slice pa pm pc) := HX3.out.cells.2.2.2.2.1; have HM' := Lib.hid HM; have Hm3 := Lib.hid hm3; clear HM HS3 hm3)
          | (refine step_append_lies _ (by rfl) _ _ _ (by rfl) (X + 1) 3 i0 _ 1 8 Tryz.underlying22 hi0 hz0 hz1 hz2 rfl (by omega) (.slice pa pm pc) k (l.map (Value.int .i64)) (by rfl) (by exact (tn_own HM'.out.1 ((tn_own HN'.out.1 H5.out hbX').alloc _) hbX').alloc _) ⟨w3.heap.size, 0, none⟩ 1 1 [.int .i64 u3] (by rfl) (by rfl) (World.news_of_block (cs := #[.int .i64 u3]) (t := 3) (fr := (0, 0)) (heap_alloc_new w3 _)) (by simp [Value.oneCell']) (by omega) (by unfold maxLen; omega) (by omega) (by simp at hx3 ⊢; omega) (w3.heap.size + 1) (by simp) ?_; intro gg cap w5 hown1 hgrow hat hgl; have HX5 := Lib.hid ((HX3.out.alloc _).grow hgrow (fun R e => (H5.out.lt R e).1)); have cx5 : w5.cell? ⟨X, 4, none⟩ = some (.slice pa pm pc) := HX5.out.cells.2.2.2.2.1; have c5 : w5.frozen? ⟨X, 4, none⟩ = false := HX5.out.thaw 4; have HO := Lib.hid hown1; clear hown1 hgrow hat hgl))
      all_goals
        have FIN := TS1.step (g := g + 100) hlt H2.out H3.out (ub3 Hm3.out hv1 (by omega)) HX5.out HO.out
        have FF := Lib.hid FIN
        clear FIN
        go_wp2
        go_roundw
        case rel => exact FF.out
        case measure => simp [intOf]; omega
    · have hk5 : 5 ≤ k := by omega
      obtain ⟨H, hH⟩ : ∃ H, H = wr.heap.size := ⟨_, rfl⟩
      have hXH : X < H := by omega
      have HH := Lib.hid hH
      clear hH
      go_wp2_with (first | (go_at_call 6; go_must (refine (upto_any b (g + 100 + 2 * k) _ _ (by exact H4.out.tin) (by omega) (by omega)).mono ?_); rintro e w7 ⟨U, ⟨hU1, hU2⟩, rfl, HN, HS⟩; have HX7 := Lib.hid (H4.out.tn HN); have HN7 := Lib.hid HN; clear HN HS))
      have HI7 : Hid (IntsIn (X + 1) H w7 (.slice pa pm pc) l) := Lib.hid (by rw [HH.out]; exact (IntsIn.own H5.out (by have := H2.out; omega)).kept HN7.out.1 (by rintro R e; cases e; omega))
      have HH7 : Hid (H ≤ w7.heap.size) := Lib.hid (by rw [HH.out]; exact HN7.out.1.size)
      clear c4 hxw H4 H5 HN7
      go_loopw [7] (TS2 b (g + 120) X Z H T (.slice fa fm fc) (.slice ra rm rc) (.slice ea em ec) (.slice pa pm pc) l U w) (fun i _ => (intOf i).toNat)
      case atStart =>
        refine ⟨U, .slice none 0 0, [], rfl, by omega, by simp, by simp, ?_, World.ownsRow_nil _ _ _ _, HI7.out, HH7.out⟩
        exact HX7.out.more (by simp; omega)
      case round =>
        obtain ⟨wq, rfl⟩ : ∃ wq : World, wq = wr := ⟨_, rfl⟩
        obtain ⟨iv, lv, q, rfl, j1, j2, j3, j4, j5, j6, j7⟩ := hrel
        obtain ⟨la, lm, lc, rfl⟩ := own_form j5
        have c0 : wq.cell? ⟨X, 0, none⟩ = some (.int .i64 T.kinds) := j4.cells.1
        have c5 : wq.cell? ⟨X, 5, none⟩ = some (.slice la lm lc) := j4.cells.2.2.2.2.2
        have hxw : X < wq.heap.size := j4.xs
        have hq3 : q.length ≤ 3 := by omega
        have hiv : iv ≤ 3 := by omega
        have J2 := Lib.hid j2
        have J3 := Lib.hid j3
        have J4 := Lib.hid j4
        have J5 := Lib.hid j5
        have J6 := Lib.hid j6
        clear j3 j4 j5 j6
        by_cases hi : 0 < iv
        · go_wp2
          have hbH : b < H := by omega
          have hk1 : (1 : Int) ≤ T.kinds := by have := HTV.out.k1; omega
          have hk3 : (T.kinds : Int) ≤ 3 := by have := HTV.out.k2; omega
          have fX : wq.frozen? ⟨X, 5, none⟩ = false := J4.out.thaw 5
          clear j2
          go_region_law
            (first
              | (go_simp; go_at_call 15; refine (lotof_any b (g + 120 + 11 * q.length) _ _ (by exact J4.out.tin) (by omega) (by exact hk1) (by exact hk3)).mono ?_; rintro e w2 ⟨lk, l1, l2, l3, l4, l5, rfl, hLO, HN⟩; have HX2 := Lib.hid (J4.out.drew.tn HN); have hx2 : X < w2.heap.size := HX2.out.xs; have cx0 : w2.cell? ⟨X, 0, none⟩ = some (.int .i64 T.kinds) := HX2.out.cells.1; have cx2 : w2.cell? ⟨X, 5, none⟩ = some (.slice la lm lc) := HX2.out.cells.2.2.2.2.2; have hh2 : H ≤ w2.heap.size := Nat.le_trans j7 HN.1.size; have HN' := Lib.hid HN; have HLO := Lib.hid hLO; clear HN hLO)
              | (refine step_append_lies _ (by rfl) _ _ _ (by rfl) H 36 i1 _ 6 48 Tryz.underlying28 hj0 hy0 hy1 hy2 rfl (by omega) (.slice la lm lc) q.length (flatL q) (by rfl) (by exact (tn_own HN'.out.1 J5.out hbH).alloc _) ⟨w2.heap.size, 0, none⟩ 1 1 [.int .i64 lk, .int .i64 l1, .int .i64 l2, .int .i64 l3, .int .i64 l4, .int .i64 l5] (by rfl) (by rfl) (World.news_of_block (cs := #[.int .i64 lk, .int .i64 l1, .int .i64 l2, .int .i64 l3, .int .i64 l4, .int .i64 l5]) (t := 36) (fr := (0, 0)) (heap_alloc_new w2 _)) (by simp [Value.oneCell']) (by omega) (by unfold maxLen; omega) (by omega) (by simp at hx2 ⊢; omega) (w2.heap.size + 1) (by simp) ?_; intro gg cap w5 hown1 hgrow hat hgl; have HX5 := Lib.hid ((HX2.out.alloc _).grow hgrow (fun R e => by have := (J5.out.lt R e).1; omega)); have cx5 : w5.cell? ⟨X, 5, none⟩ = some (.slice la lm lc) := HX5.out.cells.2.2.2.2.2; have c5 : w5.frozen? ⟨X, 5, none⟩ = false := HX5.out.thaw 5; have HO := Lib.hid hown1; have HG := Lib.hid hgrow; clear hown1 hgrow hat hgl))
          all_goals
            have HI5 : IntsIn (X + 1) H w5 (.slice pa pm pc) l := (((J6.out.kept (grownBy_drew wq none) (by simp)).kept HN'.out.1 (by rintro R e; cases e; omega)).kept (World.grownBy_alloc w2 _ none) (by simp)).kept HG.out (fun R e => by have := (J5.out.lt R e).1; omega)
            have FIN := TS2.step (g := g + 120) hi J2.out J3.out HLO.out HX5.out HO.out HI5 hXH (by have := HG.out.size; simp at this; omega)
            have FF := Lib.hid FIN
            clear FIN HI5
            go_wp2
            go_roundw
            case rel => exact FF.out
            case measure => simp [intOf]; omega
        · have hi0 : iv ≤ 0 := by omega
          obtain ⟨d0, d1, d2, d3, d4, d5⟩ := J4.out.cells
          have BZ := J4.out.res
          unfold saleRow at BZ
          have z0 : wq.cell? ⟨Z, 0, none⟩ = some (.int .i64 0) := by simp [World.cell?, BZ]
          have z1 : wq.cell? ⟨Z, 1, none⟩ = some (.slice none 0 0) := by simp [World.cell?, BZ]
          have z2 : wq.cell? ⟨Z, 2, none⟩ = some (.slice none 0 0) := by simp [World.cell?, BZ]
          have z3 : wq.cell? ⟨Z, 3, none⟩ = some (.slice none 0 0) := by simp [World.cell?, BZ]
          have z4 : wq.cell? ⟨Z, 4, none⟩ = some (.slice none 0 0) := by simp [World.cell?, BZ]
          have z5 : wq.cell? ⟨Z, 5, none⟩ = some (.slice none 0 0) := by simp [World.cell?, BZ]
          have fz : ∀ o, wq.frozen? ⟨Z, o, none⟩ = false := fun o => by simp [World.frozen?, BZ]
          clear BZ
          obtain ⟨W, hW, BW, hRES⟩ := SX.fin (g := g) (J4.out.more (by omega)) HTV.out (by have := H2.out; omega) H3.out hq3 J3.out J6.out J5.out hXH j7
          have HRES := Lib.hid hRES
          have HBW := Lib.hid BW
          have HW := Lib.hid hW
          clear hRES BW hW
          go_wp2
          rw [← HW.out]
          refine bodyPost_ret (v := .agg #[.int .i64 T.kinds, .slice fa fm fc, .slice ra rm rc, .slice ea em ec, .slice pa pm pc, .slice la lm lc]) (by simp [results, Tryz.results5, go_sem, World.cell?, HBW.out]) rfl ?_
          exact HRES.out
end Go.Proofs.YtpjcjadcikeibaaGreatDoor
