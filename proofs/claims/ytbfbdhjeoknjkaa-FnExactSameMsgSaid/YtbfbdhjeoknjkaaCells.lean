/-
  Lists of the record Cell: copied, compared, marked, held.
-/
import Derived.Test.YtbfbdhjeoknjkaaInts
import Derived.Test.YtbfbdhjeoknjkaaSmall
import Derived.StillTailTactics
namespace Go.Proofs.Ytbfbdhjeoknjkaa
open Go.RowKit

structure CellD where
  key : Int
  value : Int
deriving DecidableEq
def eCell (x : CellD) : List Value := [.int .i64 x.key, .int .i64 x.value]
theorem eCell_len (x : CellD) : (eCell x).length = 2 := rfl
theorem oneCell_Cell (l : List CellD) : ∀ u ∈ l.flatMap eCell, u.oneCell' = true := by
  intro u hu
  obtain ⟨b, _, hb⟩ := List.mem_flatMap.1 hu
  simp only [eCell, List.mem_cons, List.not_mem_nil, or_false] at hb
  rcases hb with rfl | rfl <;> rfl
theorem info_Cell : (Try.prog.info? 86).map (fun i => (i.zero, i.size, i.bytes)) = some (some (.agg #[.int .i64 0, .int .i64 0]), 2, 16) := by kernel_rfl
theorem Rd.Cell {w : World} {B n : Nat} {A : Option Addr} {l : List CellD} (h : Rd w B 2 A n (l.flatMap eCell)) (hn : l.length = n) {k : Nat} (hk : k < n) :
    ∃ b off x, A = some ⟨b, off, none⟩ ∧ b < B ∧ l[k]? = some x ∧ w.cell? ⟨b, off + k * 2, none⟩ = some (.int .i64 x.key) ∧ w.cell? ⟨b, off + k * 2 + 1, none⟩ = some (.int .i64 x.value) := by
  obtain ⟨b, off, x, e, hb, hx, hc⟩ := h.elem eCell_len hn hk
  exact ⟨b, off, x, e, hb, hx, by have := hc 0 (by omega); rw [← Nat.add_assoc] at this; simpa [eCell] using this, by have := hc 1 (by omega); rw [← Nat.add_assoc] at this; simpa [eCell] using this⟩

set_option maxRecDepth 100000 in
set_option maxHeartbeats 400000 in
theorem eqCell_any (x y : CellD) (w : World) : Calls Try.prog 127 #[.agg #[.int .i64 x.key, .int .i64 x.value], .agg #[.int .i64 y.key, .int .i64 y.value]] w fun e w' => e = .returned (.bool (decide (x = y))) ∧ Ext w w' := by
  obtain ⟨x0, x1⟩ := x
  obtain ⟨y0, y1⟩ := y
  dsimp only
  go_enter Try.func127, Try.ntmps127
  go_wp2
  all_goals go_ret
  all_goals refine ⟨?_, by repeat' (first | with_reducible exact Ext.refl _ | with_reducible assumption | with_reducible refine Ext.set ?_ ?_ _ _ | with_reducible refine Ext.alloc ?_ _ | with_reducible refine Ext.drew ?_ | with_reducible refine Ext.drewN ?_ _ | with_reducible refine Ext.trans ?_ (by with_reducible assumption) | omega | (simp; done) | (simp; omega))⟩
  all_goals (simp_all <;> try omega)

set_option maxHeartbeats 400000 in
theorem toCell_any (a0 a1 : Int) (w : World) : Calls Try.prog 121 #[.agg #[.int .i64 a0, .int .i64 a1]] w fun e w' => e = .returned (.agg #[.int .i64 a0, .int .i64 a1]) ∧ Ext w w' := by
  go_enter Try.func121, Try.ntmps121
  go_wp2
  exact bodyPost_ret (v := .agg #[.int .i64 a0, .int .i64 a1]) (by simp [results, Try.results121, go_sem]) rfl ⟨rfl, by repeat' (first | with_reducible exact Ext.refl _ | with_reducible assumption | with_reducible refine Ext.set ?_ ?_ _ _ | with_reducible refine Ext.alloc ?_ _ | with_reducible refine Ext.drew ?_ | with_reducible refine Ext.drewN ?_ _ | with_reducible refine Ext.trans ?_ (by with_reducible assumption) | omega | (simp; done) | (simp; omega))⟩

set_option maxRecDepth 100000 in
set_option maxHeartbeats 1000000 in
theorem toCellS_any (A : Option Addr) (n c : Nat) (l : List CellD) (w : World) (B : Nat) (hr : Rd w B 2 A n (l.flatMap eCell)) (hB : B ≤ w.heap.size) (hl : l.length = n) (hn : n ≤ 2097152) :
    Calls Try.prog 91 #[.slice A n c] w fun e w' => ∃ A' c', e = .returned (.slice A' n c') ∧ Own w' w.heap.size w'.heap.size 86 2 (.slice A' n c') n (l.flatMap eCell) ∧ Ext w w' := by
  obtain ⟨i0, hi0, hz0, hz1, hz2⟩ := info_parts info_Cell
  have hmk := fun W => run_make_rows (P := Try.prog) 36 86 i0 _ Try.underlying36 hi0 hz0 .i64 .i64 n (by rw [hz2]; omega) (by omega) W
  rw [hz1] at hmk
  have hl' := Lib.hid hl
  clear hl
  go_enter Try.func91, Try.ntmps91
  go_wp2
  go_loopw [4] (fun i wr => ∃ (k : Nat) (rest : List Value), k ≤ n ∧ i = .int .i64 k ∧ Own wr w.heap.size (w.heap.size + 1) 86 2 (.slice (some ⟨w.heap.size, 0, none⟩) n n) n ((l.take k).flatMap eCell ++ rest) ∧ Ext w wr ∧ w.heap.size < wr.heap.size) (fun i _ => n - (intOf i).toNat)
  case atStart =>
    obtain ⟨rest, h⟩ := own_start w (madeCells #[.int .i64 0, .int .i64 0] (n * 2)) n 86 2 (by unfold maxLen; omega) (by simp [size_madeCells])
    exact ⟨0, rest, by omega, rfl, by simpa using h, by repeat' (first | with_reducible exact Ext.refl _ | with_reducible assumption | with_reducible refine Ext.set ?_ ?_ _ _ | with_reducible refine Ext.alloc ?_ _ | with_reducible refine Ext.drew ?_ | with_reducible refine Ext.drewN ?_ _ | with_reducible refine Ext.trans ?_ (by with_reducible assumption) | omega | (simp; done) | (simp; omega)), by simp⟩
  case round =>
    obtain ⟨k, rest, hk, rfl, hown, hext, hsz⟩ := hrel
    by_cases hlt : k < n
    · obtain ⟨b, off, x, rfl, hb, hx, hc0, hc1⟩ := (hext.rd hr hB).Cell hl'.out hlt
      have hx' := Lib.hid hx
      clear hx
      obtain ⟨u, rfl⟩ : ∃ u : CellD, u = x := ⟨_, rfl⟩
      go_wp2_with fail
      refine (toCell_any u.key u.value _).mono ?_
      rintro e w1 ⟨rfl, hb1⟩
      have hz := hb1.size
      have ho0 := hb1.own hown (by omega)
      obtain ⟨⟨v0, hs0⟩, hf0⟩ := ho0.spot (j := k * 2) (by omega)
      obtain ⟨⟨v1, hs1⟩, hf1⟩ := ho0.spot (j := k * 2 + 1) (by omega)
      obtain ⟨rest1, ho1⟩ := ho0.put1 (m := k * 2) (by rw [flat_take_length eCell_len (show k ≤ l.length by rw [hl'.out]; omega)]) (by omega) (.int .i64 u.key)
      obtain ⟨rest2, ho2⟩ := ho1.put1 (m := k * 2 + 1) (by simp only [List.length_append, List.length_singleton, flat_take_length eCell_len (show k ≤ l.length by rw [hl'.out]; omega)]) (by omega) (.int .i64 u.value)
      clear hown ho0
      go_wp2
      go_roundw
      case rel => exact ⟨k + 1, rest2, by omega, by go_num, by rw [flat_snoc hx'.out]; simpa [eCell] using ho2, by repeat' (first | with_reducible exact Ext.refl _ | with_reducible assumption | with_reducible refine Ext.set ?_ ?_ _ _ | with_reducible refine Ext.alloc ?_ _ | with_reducible refine Ext.drew ?_ | with_reducible refine Ext.drewN ?_ _ | with_reducible refine Ext.trans ?_ (by with_reducible assumption) | omega | (simp; done) | (simp; omega)), by simp; omega⟩
      case measure => simp [intOf]; omega
    · obtain rfl : k = n := by omega
      go_wp2
      go_ret
      refine ⟨_, _, rfl, ?_, hext⟩
      have := hown.full (flat_take_length eCell_len (by rw [hl'.out]; omega))
      rw [List.take_of_length_le (by rw [hl'.out]; omega)] at this
      exact this.wide (Nat.le_refl _) hsz

set_option maxRecDepth 100000 in
set_option maxHeartbeats 1000000 in
theorem eqCellS_any (A B : Option Addr) (n c m d : Nat) (xs ys : List CellD) (w : World) (X Y : Nat) (hx : Rd w X 2 A n (xs.flatMap eCell)) (hX : X ≤ w.heap.size) (hxl : xs.length = n) (hy : Rd w Y 2 B m (ys.flatMap eCell)) (hY : Y ≤ w.heap.size) (hyl : ys.length = m) (hn : n ≤ 9223372036854775807) (hm : m ≤ 9223372036854775807) :
    Calls Try.prog 99 #[.slice A n c, .slice B m d] w fun e w' => e = .returned (.bool (decide (xs = ys))) ∧ Ext w w' := by
  by_cases hnm : n = m
  · subst hnm
    have Hx := Lib.hid hxl
    have Hy := Lib.hid hyl
    clear hxl hyl
    go_enter Try.func99, Try.ntmps99
    go_wp2
    go_loopw [5] (fun i wr => ∃ k : Nat, k ≤ n ∧ i = .int .i64 k ∧ Hid (xs.take k = ys.take k) ∧ Ext w wr) (fun i _ => n - (intOf i).toNat)
    case atStart => exact ⟨0, by omega, rfl, by simp [Hid], Ext.refl _⟩
    case round =>
      obtain ⟨k, hk, rfl, hpre, hst⟩ := hrel
      by_cases hlt : k < n
      · obtain ⟨b, off, x, rfl, _, hx1, hc0, hc1⟩ := (hst.rd hx hX).Cell Hx.out hlt
        obtain ⟨b', off', y, rfl, _, hy1, hd0, hd1⟩ := (hst.rd hy hY).Cell Hy.out hlt
        have Hx1 := Lib.hid hx1
        have Hy1 := Lib.hid hy1
        have hlt' : (k : Int) < (n : Int) := by omega
        clear hx1 hy1 hx hy
        go_wp2
        go_still_tail 8, (by kernel_rfl)
        change wpList _ _ _ _ _ wr.drew
        have hst1 := hst.drew
        generalize wr.drew = w2 at hst1 ⊢
        go_wp2_with fail
        refine (eqCell_any x y _).mono ?_
        rintro e w3 ⟨rfl, hb3⟩
        have hst3 := hst1.trans hb3
        by_cases he : x = y
        · have hd : decide (x = y) = true := decide_eq_true he
          rw [hd]
          go_wp2
          go_roundw
          case rel => exact ⟨k + 1, by omega, by go_num, by
            subst he
            show _ = _
            rw [take_snoc Hx1.out, take_snoc Hy1.out, hpre.out], hst3⟩
          case measure => simp [intOf]; omega
        · have hd : decide (x = y) = false := decide_eq_false he
          rw [hd]
          go_wp2
          go_ret
          refine ⟨?_, hst3⟩
          rw [decide_eq_false]
          · rfl
          · rintro rfl
            have h1 := Hx1.out.symm.trans Hy1.out
            injection h1 with h1
            exact he h1
      · go_wp2
        go_ret
        obtain rfl : k = n := by omega
        have h := hpre.out
        rw [List.take_of_length_le (by rw [Hx.out]; omega), List.take_of_length_le (by rw [Hy.out]; omega)] at h
        exact ⟨by simp [h], hst⟩
  · go_enter Try.func99, Try.ntmps99
    go_wp2
    go_ret
    refine ⟨?_, Ext.refl _⟩
    rw [decide_eq_false]
    · rfl
    · rintro rfl
      omega

/-- The records from k on, as they are marked. -/
def marksCell (k : Int) (n : Nat) : List CellD := (List.range n).map fun i : Nat => ⟨k + 2 * (i : Int), k + 2 * (i : Int) + 1⟩
theorem marksCell_succ (k : Int) (n : Nat) : marksCell k (n + 1) = marksCell k n ++ [(fun i : Nat => (⟨k + 2 * (i : Int), k + 2 * (i : Int) + 1⟩ : CellD)) n] := by simp [marksCell, List.range_succ]
theorem marksCell_length (k : Int) (n : Nat) : (marksCell k n).length = n := by simp [marksCell]
set_option maxRecDepth 100000 in
set_option maxHeartbeats 1000000 in
theorem markCellS_any (A : Option Addr) (n c : Nat) (xs : List CellD) (k0 : Int) (lo hi : Nat) (w : World) (hown : Own w lo hi 86 2 (.slice A n c) n (xs.flatMap eCell)) (h0 : 0 ≤ k0) (hn : k0 + 2 * n ≤ 4611686018427387904) :
    Calls Try.prog 102 #[.slice A n c, .int .i64 k0] w fun e w' => e = .returned (.int .i64 (k0 + 2 * n)) ∧ Own w' lo hi 86 2 (.slice A n c) n ((marksCell k0 n).flatMap eCell) ∧ Fr lo hi w w' ∧ w.grownBy w' (blk (.slice A n c)) := by
  go_enter Try.func102, Try.ntmps102
  go_wp2
  go_loopw [1, 5] (fun q i wr => ∃ (j : Nat) (rest : List Value), j ≤ n ∧ i = .int .i64 j ∧ q = .int .i64 (k0 + 2 * j) ∧ Own wr lo hi 86 2 (.slice A n c) n ((marksCell k0 j).flatMap eCell ++ rest) ∧ Fr lo hi w wr ∧ w.grownBy wr (blk (.slice A n c))) (fun _ i _ => n - (intOf i).toNat)
  case atStart => exact ⟨0, xs.flatMap eCell, by omega, rfl, by go_num, by simpa [marksCell] using hown, Fr.of_below (Below.refl _ _), World.grownBy.refl _ _⟩
  case round =>
    obtain ⟨j, rest, hj, rfl, rfl, ho0, hfr, hgr⟩ := hrel
    by_cases hlt : j < n
    · obtain ⟨g, cap, hv, hg1, hg2, hnc, -⟩ := ho0.row (by omega)
      injection hv with hA _ hcap
      subst hA hcap
      have hrow : blk (.slice (some ⟨g, 0, none⟩) n c) = some g := blk_row (by omega)
      rw [hrow] at hgr
      have HR := Lib.hid hrow
      clear hrow
      obtain ⟨⟨v0, hs0⟩, hf0⟩ := ho0.spot (j := j * 2) (by omega)
      obtain ⟨⟨v1, hs1⟩, hf1⟩ := ho0.spot (j := j * 2 + 1) (by omega)
      obtain ⟨rest1, ho1⟩ := ho0.put1 (m := j * 2) (by rw [flat_length eCell_len, marksCell_length]) (by omega) (.int .i64 (k0 + 2 * (j : Int)))
      obtain ⟨rest2, ho2⟩ := ho1.put1 (m := j * 2 + 1) (by simp only [List.length_append, List.length_singleton, flat_length eCell_len, marksCell_length]) (by omega) (.int .i64 (k0 + 2 * (j : Int) + 1))
      have hin : ∀ g', some g = some g' → lo ≤ g' ∧ g' < hi := by intro g' h; injection h with h; subst h; exact ⟨hg1, hg2⟩
      have hfr' := (hfr.trans (Fr.of_grown (grownBy_setCell g (j * 2) (.int .i64 (k0 + 2 * (j : Int))) rfl) hin)).trans (Fr.of_grown (grownBy_setCell g (j * 2 + 1) (.int .i64 (k0 + 2 * (j : Int) + 1)) rfl) hin)
      have HF := Lib.hid hfr'
      have hgr' := grownBy_trans (grownBy_trans (hgr) (grownBy_setCell g (j * 2) (.int .i64 (k0 + 2 * (j : Int))) rfl)) (grownBy_setCell g (j * 2 + 1) (.int .i64 (k0 + 2 * (j : Int) + 1)) rfl)
      have HG := Lib.hid hgr'
      clear ho0 hown hfr hfr' hin hgr hgr'
      go_wp2
      go_roundw
      case rel =>
        refine ⟨j + 1, rest2, by omega, by go_num, by go_num, ?_, HF.out, by rw [HR.out]; exact HG.out⟩
        rw [marksCell_succ, List.flatMap_append]
        simpa [eCell] using ho2
      case measure => simp [intOf]; omega
    · obtain rfl : j = n := by omega
      go_wp2
      go_ret
      exact ⟨rfl, ho0.full (by rw [flat_length eCell_len, marksCell_length]), hfr, hgr⟩

set_option maxRecDepth 100000 in
set_option maxHeartbeats 1000000 in
theorem heldCellS_any (A : Option Addr) (n c : Nat) (k0 : Int) (B : Nat) (w : World) (hr : Rd w B 2 A n ((marksCell k0 n).flatMap eCell)) (h0 : 0 ≤ k0) (hn : k0 + 2 * n ≤ 4611686018427387904) :
    Calls Try.prog 113 #[.slice A n c, .int .i64 k0] w fun e w' => e = .returned (.int .i64 (k0 + 2 * n)) ∧ Still w w' := by
  go_enter Try.func113, Try.ntmps113
  go_wp2
  go_loopw [1, 5] (fun q i wr => ∃ (j : Nat), j ≤ n ∧ i = .int .i64 j ∧ q = .int .i64 (k0 + 2 * j) ∧ Still w wr) (fun _ i _ => n - (intOf i).toNat)
  case atStart => exact ⟨0, by omega, rfl, by go_num, Still.refl _⟩
  case round =>
    obtain ⟨j, hj, rfl, rfl, hst⟩ := hrel
    by_cases hlt : j < n
    · obtain ⟨b, off, x, rfl, _, hx1, hc0, hc1⟩ := (hst.rd hr).Cell (marksCell_length k0 n) hlt
      obtain rfl : x = ⟨k0 + 2 * (j : Int), k0 + 2 * (j : Int) + 1⟩ := by
        simp only [marksCell, List.getElem?_map, List.getElem?_range hlt, Option.map_some] at hx1
        injection hx1 with hx1
        exact hx1.symm
      clear hx1
      dsimp only at hc0 hc1
      go_wp2
      go_roundw
      case rel => exact ⟨j + 1, by omega, by go_num, by go_num, by repeat' (first | with_reducible exact Still.refl _ | with_reducible assumption | with_reducible refine Still.drewN ?_ _ | with_reducible refine Still.drew ?_ | with_reducible refine Still.trans ?_ (by with_reducible assumption))⟩
      case measure => simp [intOf]; omega
    · obtain rfl : j = n := by omega
      go_wp2
      go_ret
      exact ⟨rfl, hst⟩

/-! ### the same, for whole values -/

def R_CellS (w : World) (B : Nat) (v : Value) (l : List CellD) : Prop := RdS w B 2 eCell v l
def O_CellS (w : World) (lo hi : Nat) (v : Value) (l : List CellD) : Prop := OwnS w lo hi 86 2 eCell v l
def MK_CellS (k : Int) (l : List CellD) : List CellD := marksCell k l.length
def NK_CellS (l : List CellD) : Nat := 2 * l.length
theorem R_CellS.keep {w w' : World} {B : Nat} {v : Value} {l : List CellD} (h : R_CellS w B v l) (hk : ∀ k, k < B → w'.heap[k]? = w.heap[k]?) : R_CellS w' B v l := RdS.keep h hk
theorem O_CellS.keep {w w' : World} {lo hi : Nat} {v : Value} {l : List CellD} (h : O_CellS w lo hi v l) (hk : ∀ k, lo ≤ k → k < hi → w'.heap[k]? = w.heap[k]?) : O_CellS w' lo hi v l := OwnS.keep h hk
theorem O_CellS.rd {w : World} {lo hi : Nat} {v : Value} {l : List CellD} (h : O_CellS w lo hi v l) : R_CellS w hi v l := OwnS.rd h
theorem O_CellS.wide {w : World} {lo hi lo' hi' : Nat} {v : Value} {l : List CellD} (h : O_CellS w lo hi v l) (h1 : lo' ≤ lo) (h2 : hi ≤ hi') : O_CellS w lo' hi' v l := OwnS.wide h h1 h2
theorem R_CellS.more {w : World} {B B' : Nat} {v : Value} {l : List CellD} (h : R_CellS w B v l) (hB : B ≤ B') : R_CellS w B' v l := RdS.more h hB
theorem R_CellS.len {w : World} {B : Nat} {v : Value} {l : List CellD} (h : R_CellS w B v l) : l.length ≤ 9223372036854775807 := by
  obtain ⟨A, n, c, _, rfl, h1, h2, _⟩ := h
  unfold maxLen at h2
  omega
/-- What a write to one row leaves of a row of another element type. -/
theorem O_CellS.apart {w w' : World} {lo hi lo' hi' : Nat} {v v' : Value} {l : List CellD} {e : TypeId} {sz : Nat} {α : Type} {enc : α → List Value} {l' : List α} (h : O_CellS w lo hi v l) (h' : OwnS w lo' hi' e sz enc v' l') (hne : 86 ≠ e) (hb : w.grownBy w' (blk v')) : O_CellS w' lo hi v l := by
  obtain ⟨A, n, c, rfl, hl, ho⟩ := h
  obtain ⟨A', n', c', rfl, hl', ho'⟩ := h'
  exact ⟨A, n, c, rfl, hl, ho.apart ho' hne hb⟩

theorem toCellS_v (v : Value) (l : List CellD) (w : World) (B : Nat) (h : R_CellS w B v l) (hB : B ≤ w.heap.size) (hn : l.length ≤ 2097152) :
    Calls Try.prog 91 #[v] w fun e w' => ∃ v', e = .returned v' ∧ O_CellS w' w.heap.size w'.heap.size v' l ∧ Ext w w' := by
  obtain ⟨A, n, c, rfl, hl, _, _, hr⟩ := h
  refine (toCellS_any A n c l w B hr hB hl (by omega)).mono ?_
  rintro e w' ⟨A', c', rfl, ho, hE⟩
  exact ⟨_, rfl, OwnS.of ho hl, hE⟩
theorem eqCellS_v (u v : Value) (x y : List CellD) (w : World) (X Y : Nat) (hu : R_CellS w X u x) (hX : X ≤ w.heap.size) (hv : R_CellS w Y v y) (hY : Y ≤ w.heap.size) :
    Calls Try.prog 99 #[u, v] w fun e w' => e = .returned (.bool (decide (x = y))) ∧ Ext w w' := by
  have h1 := hu.len
  have h2 := hv.len
  obtain ⟨A, n, c, rfl, hl, _, _, hr⟩ := hu
  obtain ⟨B, m, d, rfl, hm, _, _, hs⟩ := hv
  exact eqCellS_any A B n c m d x y w X Y hr hX hl hs hY hm (by omega) (by omega)
theorem markCellS_g (v : Value) (l : List CellD) (k0 : Int) (lo hi : Nat) (w : World) (ho : O_CellS w lo hi v l) (h0 : 0 ≤ k0) (hn : k0 + (NK_CellS l : Nat) ≤ 4611686018427387904) :
    Calls Try.prog 102 #[v, .int .i64 k0] w fun e w' => e = .returned (.int .i64 (k0 + (NK_CellS l : Nat))) ∧ O_CellS w' lo hi v (MK_CellS k0 l) ∧ Fr lo hi w w' ∧ w.grownBy w' (blk v) := by
  obtain ⟨A, n, c, rfl, hl, ho⟩ := ho
  unfold NK_CellS MK_CellS at *
  subst hl
  refine (markCellS_any A _ c l k0 lo hi w ho h0 (by omega)).mono ?_
  rintro e w' ⟨rfl, ho', hf, hg⟩
  exact ⟨rfl, OwnS.of ho' (marksCell_length _ _), hf, hg⟩
theorem markCellS_v (v : Value) (l : List CellD) (k0 : Int) (lo hi : Nat) (w : World) (ho : O_CellS w lo hi v l) (_ : hi ≤ w.heap.size) (h0 : 0 ≤ k0) (hn : k0 + (NK_CellS l : Nat) ≤ 4611686018427387904) :
    Calls Try.prog 102 #[v, .int .i64 k0] w fun e w' => e = .returned (.int .i64 (k0 + (NK_CellS l : Nat))) ∧ O_CellS w' lo hi v (MK_CellS k0 l) ∧ Fr lo hi w w' := by
  refine (markCellS_g v l k0 lo hi w ho h0 hn).mono ?_
  rintro e w' ⟨rfl, ho', hf, _⟩
  exact ⟨rfl, ho', hf⟩
theorem heldCellS_v (v : Value) (l : List CellD) (k0 : Int) (B : Nat) (w : World) (h : R_CellS w B v (MK_CellS k0 l)) (_ : B ≤ w.heap.size) (h0 : 0 ≤ k0) (hn : k0 + (NK_CellS l : Nat) ≤ 4611686018427387904) :
    Calls Try.prog 113 #[v, .int .i64 k0] w fun e w' => e = .returned (.int .i64 (k0 + (NK_CellS l : Nat))) ∧ Ext w w' := by
  obtain ⟨A, n, c, rfl, hl, _, _, hr⟩ := h
  unfold NK_CellS MK_CellS at *
  rw [marksCell_length] at hl
  subst hl
  refine (heldCellS_any A _ c k0 B w hr h0 (by omega)).mono ?_
  rintro e w' ⟨rfl, hst⟩
  exact ⟨rfl, hst.ext⟩

end Go.Proofs.Ytbfbdhjeoknjkaa
