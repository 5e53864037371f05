/-
  Lists of bytes: copied, compared, marked, held.
-/
import Derived.Test.YtbfbdhjeoknjkaaBase
import Derived.Test.YtbfbdhjeoknjkaaMath
import Derived.Test.YtbfbdhjeoknjkaaChecked
namespace Go.Proofs.Ytbfbdhjeoknjkaa
open Go.RowKit

theorem info_Byte : (Try.prog.info? 5).map (fun i => (i.zero, i.size, i.bytes)) = some (some (.int .u8 0), 1, 1) := by kernel_rfl

set_option maxHeartbeats 400000 in
theorem toByteS_any (A : Option Addr) (n c : Nat) (l : List UInt8) (w : World) (B : Nat) (hr : Rd w B 1 A n (l.flatMap eB)) (hB : B ≤ w.heap.size) (hl : l.length = n) (hn : n ≤ 2097152) :
    Calls Try.prog 30 #[.slice A n c] w fun e w' => ∃ A' c', e = .returned (.slice A' n c') ∧ Own w' w.heap.size w'.heap.size 5 1 (.slice A' n c') n (l.flatMap eB) ∧ Ext w w' := by
  obtain ⟨i0, hi0, hz0, hz1, hz2⟩ := info_parts info_Byte
  have hmk := fun W => run_make_rows (P := Try.prog) 48 5 i0 _ Try.underlying48 hi0 hz0 .i64 .i64 n (by rw [hz2]; omega) (by omega) W
  rw [hz1] at hmk
  have hl' := Lib.hid hl
  clear hl
  go_enter Try.func30, Try.ntmps30
  go_wp2
  go_loopw [4] (fun i wr => ∃ (k : Nat) (rest : List Value), k ≤ n ∧ i = .int .i64 k ∧ Own wr w.heap.size (w.heap.size + 1) 5 1 (.slice (some ⟨w.heap.size, 0, none⟩) n n) n ((l.take k).flatMap eB ++ rest) ∧ Ext w wr ∧ w.heap.size < wr.heap.size) (fun i _ => n - (intOf i).toNat)
  case atStart =>
    obtain ⟨rest, h⟩ := own_start w (madeCells #[.int .u8 0] n) n 5 1 (by unfold maxLen; omega) (by simp [size_madeCells])
    exact ⟨0, rest, by omega, rfl, by simpa using h, by repeat' (first | with_reducible exact Ext.refl _ | with_reducible assumption | with_reducible refine Ext.set ?_ ?_ _ _ | with_reducible refine Ext.alloc ?_ _ | with_reducible refine Ext.drew ?_ | with_reducible refine Ext.drewN ?_ _ | with_reducible refine Ext.trans ?_ (by with_reducible assumption) | omega | (simp; done) | (simp; omega)), by simp⟩
  case round =>
    obtain ⟨k, rest, hk, rfl, hown, hext, hsz⟩ := hrel
    by_cases hlt : k < n
    · obtain ⟨b, off, x, rfl, hb, hx, hc⟩ := (hext.rd hr hB).byte hl'.out hlt
      obtain ⟨⟨v0, hc0⟩, hf0⟩ := hown.spot (j := k) (by omega)
      obtain ⟨rest', hown'⟩ := hown.put1 (m := k) (by rw [flat_take_length eB_len (by rw [hl'.out]; omega)]; omega) (by omega) (.int .u8 (x.toNat : Int))
      have hx' := Lib.hid hx
      clear hx hown
      go_wp2
      go_roundw
      case rel => exact ⟨k + 1, rest', by omega, by go_num, by rw [flat_snoc hx'.out]; exact hown', by repeat' (first | with_reducible exact Ext.refl _ | with_reducible assumption | with_reducible refine Ext.set ?_ ?_ _ _ | with_reducible refine Ext.alloc ?_ _ | with_reducible refine Ext.drew ?_ | with_reducible refine Ext.drewN ?_ _ | with_reducible refine Ext.trans ?_ (by with_reducible assumption) | omega | (simp; done) | (simp; omega)), by simpa using hsz⟩
      case measure => simp [intOf]; omega
    · obtain rfl : k = n := by omega
      go_wp2
      go_ret
      refine ⟨_, _, rfl, ?_, hext⟩
      have := hown.full (flat_take_length eB_len (by rw [hl'.out]; omega))
      rw [List.take_of_length_le (by rw [hl'.out]; omega)] at this
      exact this.wide (Nat.le_refl _) hsz

set_option maxHeartbeats 400000 in
theorem eqByteS_any (A B : Option Addr) (n c m d : Nat) (xs ys : List UInt8) (w : World) (X Y : Nat) (hx : Rd w X 1 A n (xs.flatMap eB)) (hxl : xs.length = n) (hy : Rd w Y 1 B m (ys.flatMap eB)) (hyl : ys.length = m) (hn : n ≤ 9223372036854775807) (hm : m ≤ 9223372036854775807) :
    Calls Try.prog 18 #[.slice A n c, .slice B m d] w fun e w' => e = .returned (.bool (decide (xs = ys))) ∧ Still w w' := by
  by_cases hnm : n = m
  · subst hnm
    have Hx := Lib.hid hxl
    have Hy := Lib.hid hyl
    clear hxl hyl
    go_enter Try.func18, Try.ntmps18
    go_wp2
    go_loopw [5] (fun i wr => ∃ k : Nat, k ≤ n ∧ i = .int .i64 k ∧ Hid (xs.take k = ys.take k) ∧ Still w wr) (fun i _ => n - (intOf i).toNat)
    case atStart => exact ⟨0, by omega, rfl, by simp [Hid], Still.refl _⟩
    case round =>
      obtain ⟨k, hk, rfl, hpre, hst⟩ := hrel
      by_cases hlt : k < n
      · obtain ⟨b, off, x, rfl, _, hx1, hc⟩ := (hst.rd hx).byte Hx.out hlt
        obtain ⟨b', off', y, rfl, _, hy1, hc'⟩ := (hst.rd hy).byte Hy.out hlt
        have Hx1 := Lib.hid hx1
        have Hy1 := Lib.hid hy1
        have hlt' : (k : Int) < (n : Int) := by omega
        clear hx1 hy1 hx hy
        go_wp2
        go_quiet (fail)
        go_wp2
        · go_ret
          have hne : (x.toNat : Int) ≠ (y.toNat : Int) := WalkArith.int_ne' (by assumption)
          refine ⟨?_, by repeat' (first | with_reducible exact Still.refl _ | with_reducible assumption | with_reducible refine Still.drewN ?_ _ | with_reducible refine Still.drew ?_ | with_reducible refine Still.trans ?_ (by with_reducible assumption))⟩
          rw [decide_eq_false]
          · rfl
          · rintro rfl
            have h1 := Hx1.out.symm.trans Hy1.out
            injection h1 with h1
            exact hne (by rw [h1])
        · have he : (x.toNat : Int) = (y.toNat : Int) := WalkArith.int_eq' (by assumption)
          go_roundw
          case rel => exact ⟨k + 1, by omega, by go_num, by
            have : x = y := UInt8.toNat_inj.1 (by omega)
            subst this
            show _ = _
            rw [take_snoc Hx1.out, take_snoc Hy1.out, hpre.out], by repeat' (first | with_reducible exact Still.refl _ | with_reducible assumption | with_reducible refine Still.drewN ?_ _ | with_reducible refine Still.drew ?_ | with_reducible refine Still.trans ?_ (by with_reducible assumption))⟩
          case measure => simp [intOf]; omega
      · go_wp2
        go_ret
        obtain rfl : k = n := by omega
        have h := hpre.out
        rw [List.take_of_length_le (by rw [Hx.out]; omega), List.take_of_length_le (by rw [Hy.out]; omega)] at h
        exact ⟨by simp [h], hst⟩
  · go_enter Try.func18, Try.ntmps18
    go_wp2
    go_ret
    refine ⟨?_, Still.refl _⟩
    rw [decide_eq_false]
    · rfl
    · rintro rfl
      omega

/-- The numbers from k on, as they are marked. -/
def marksByte (k : Int) (n : Nat) : List UInt8 := (List.range n).map fun i : Nat => UInt8.ofNat (k + (i : Int)).toNat
theorem marksByte_succ (k : Int) (n : Nat) : marksByte k (n + 1) = marksByte k n ++ [(fun i : Nat => UInt8.ofNat (k + (i : Int)).toNat) n] := by simp [marksByte, List.range_succ]
theorem marksByte_length (k : Int) (n : Nat) : (marksByte k n).length = n := by simp [marksByte]

set_option maxHeartbeats 400000 in
theorem markByteS_any (A : Option Addr) (n c : Nat) (xs : List UInt8) (k0 : Int) (lo hi : Nat) (w : World) (hown : Own w lo hi 5 1 (.slice A n c) n (xs.flatMap eB)) (h0 : 0 ≤ k0) (hn : k0 + n ≤ 4611686018427387904) :
    Calls Try.prog 21 #[.slice A n c, .int .i64 k0] w fun e w' => e = .returned (.int .i64 (k0 + n)) ∧ Own w' lo hi 5 1 (.slice A n c) n ((marksByte k0 n).flatMap eB) ∧ Fr lo hi w w' ∧ w.grownBy w' (blk (.slice A n c)) := by
  go_enter Try.func21, Try.ntmps21
  go_wp2
  go_loopw [1, 5] (fun q i wr => ∃ (j : Nat) (rest : List Value), j ≤ n ∧ i = .int .i64 j ∧ q = .int .i64 (k0 + j) ∧ Own wr lo hi 5 1 (.slice A n c) n ((marksByte k0 j).flatMap eB ++ rest) ∧ Fr lo hi w wr ∧ w.grownBy wr (blk (.slice A n c))) (fun _ i _ => n - (intOf i).toNat)
  case atStart => exact ⟨0, xs.flatMap eB, by omega, rfl, by go_num, by simpa [marksByte] using hown, Fr.of_below (Below.refl _ _), World.grownBy.refl _ _⟩
  case round =>
    obtain ⟨j, rest, hj, rfl, rfl, ho, hfr, hgr⟩ := hrel
    by_cases hlt : j < n
    · obtain ⟨g, cap, hv, hg1, hg2, hnc, -⟩ := ho.row (by omega)
      injection hv with hA _ hcap
      subst hA hcap
      have hrow : blk (.slice (some ⟨g, 0, none⟩) n c) = some g := blk_row (by omega)
      rw [hrow] at hgr
      have HR := Lib.hid hrow
      clear hrow
      obtain ⟨⟨v0, hc0⟩, hf0⟩ := ho.spot (j := j) (by omega)
      obtain ⟨rest', ho'⟩ := ho.put1 (m := j) (by rw [flat_length eB_len, marksByte_length]; omega) (by omega) (.int .u8 ((k0 + j) % 256))
      clear ho hown
      go_wp2
      go_roundw
      case rel =>
        refine ⟨j + 1, rest', by omega, by go_num, by go_num, ?_, ?_, ?_⟩
        · rw [marksByte_succ, List.flatMap_append]
          exact (by rw [List.flatMap_singleton, eB_mark _ (by omega)]; exact ho')
        · exact hfr.trans (Fr.of_grown (grownBy_setCell g _ _ rfl) (by intro g' h; injection h with h; subst h; exact ⟨hg1, hg2⟩))
        · rw [HR.out]
          exact grownBy_trans hgr (grownBy_setCell g _ _ rfl)
      case measure => simp [intOf]; omega
    · obtain rfl : j = n := by omega
      go_wp2
      go_ret
      exact ⟨rfl, ho.full (by rw [flat_length eB_len, marksByte_length]), hfr, hgr⟩

set_option maxHeartbeats 400000 in
theorem heldByteS_any (A : Option Addr) (n c : Nat) (k0 : Int) (B : Nat) (w : World) (hr : Rd w B 1 A n ((marksByte k0 n).flatMap eB)) (h0 : 0 ≤ k0) (hn : k0 + n ≤ 4611686018427387904) :
    Calls Try.prog 22 #[.slice A n c, .int .i64 k0] w fun e w' => e = .returned (.int .i64 (k0 + n)) ∧ Still w w' := by
  go_enter Try.func22, Try.ntmps22
  go_wp2
  go_loopw [1, 5] (fun q i wr => ∃ (j : Nat), j ≤ n ∧ i = .int .i64 j ∧ q = .int .i64 (k0 + j) ∧ Still w wr) (fun _ i _ => n - (intOf i).toNat)
  case atStart => exact ⟨0, by omega, rfl, by go_num, Still.refl _⟩
  case round =>
    obtain ⟨j, hj, rfl, rfl, hst⟩ := hrel
    by_cases hlt : j < n
    · obtain ⟨b, off, x, rfl, _, hx1, hc⟩ := (hst.rd hr).byte (marksByte_length k0 n) hlt
      have hx2 : x = (fun i : Nat => UInt8.ofNat (k0 + (i : Int)).toNat) j := by
        simp only [marksByte, List.getElem?_map, List.getElem?_range hlt, Option.map_some] at hx1
        injection hx1 with hx1
        exact hx1.symm
      have hx3 : (x.toNat : Int) = (k0 + j) % 256 := by rw [hx2]; simp only [UInt8.toNat_ofNat']; omega
      have hx4 : ((x.toNat : Int) != (k0 + j) % 256) = false := by simp [hx3]
      clear hx3 hx2 hx1
      go_wp2
      first | go_quiet (fail) | skip
      go_wp2
      go_roundw
      case rel => exact ⟨j + 1, by omega, by go_num, by go_num, by repeat' (first | with_reducible exact Still.refl _ | with_reducible assumption | with_reducible refine Still.drewN ?_ _ | with_reducible refine Still.drew ?_ | with_reducible refine Still.trans ?_ (by with_reducible assumption))⟩
      case measure => simp [intOf]; omega
    · obtain rfl : j = n := by omega
      go_wp2
      go_ret
      exact ⟨rfl, hst⟩

/-! ### the same, for whole values -/

def R_ByteS (w : World) (B : Nat) (v : Value) (l : List UInt8) : Prop := RdS w B 1 eB v l
def O_ByteS (w : World) (lo hi : Nat) (v : Value) (l : List UInt8) : Prop := OwnS w lo hi 5 1 eB v l
def MK_ByteS (k : Int) (l : List UInt8) : List UInt8 := marksByte k l.length
def NK_ByteS (l : List UInt8) : Nat := l.length
theorem R_ByteS.keep {w w' : World} {B : Nat} {v : Value} {l : List UInt8} (h : R_ByteS w B v l) (hk : ∀ k, k < B → w'.heap[k]? = w.heap[k]?) : R_ByteS w' B v l := RdS.keep h hk
theorem O_ByteS.keep {w w' : World} {lo hi : Nat} {v : Value} {l : List UInt8} (h : O_ByteS w lo hi v l) (hk : ∀ k, lo ≤ k → k < hi → w'.heap[k]? = w.heap[k]?) : O_ByteS w' lo hi v l := OwnS.keep h hk
theorem O_ByteS.rd {w : World} {lo hi : Nat} {v : Value} {l : List UInt8} (h : O_ByteS w lo hi v l) : R_ByteS w hi v l := OwnS.rd h
theorem R_ByteS.more {w : World} {B B' : Nat} {v : Value} {l : List UInt8} (h : R_ByteS w B v l) (hB : B ≤ B') : R_ByteS w B' v l := RdS.more h hB
theorem R_ByteS.len {w : World} {B : Nat} {v : Value} {l : List UInt8} (h : R_ByteS w B v l) : l.length ≤ 9223372036854775807 := by
  obtain ⟨A, n, c, _, rfl, h1, h2, _⟩ := h
  unfold maxLen at h2
  omega

theorem toByteS_v (v : Value) (l : List UInt8) (w : World) (B : Nat) (h : R_ByteS w B v l) (hB : B ≤ w.heap.size) (hn : l.length ≤ 2097152) :
    Calls Try.prog 30 #[v] w fun e w' => ∃ v', e = .returned v' ∧ O_ByteS w' w.heap.size w'.heap.size v' l ∧ Ext w w' := by
  obtain ⟨A, n, c, rfl, hl, _, _, hr⟩ := h
  refine (toByteS_any A n c l w B hr hB hl (by omega)).mono ?_
  rintro e w' ⟨A', c', rfl, ho, hE⟩
  exact ⟨_, rfl, OwnS.of ho hl, hE⟩
theorem eqByteS_v (u v : Value) (x y : List UInt8) (w : World) (X Y : Nat) (hu : R_ByteS w X u x) (_ : X ≤ w.heap.size) (hv : R_ByteS w Y v y) (_ : Y ≤ w.heap.size) :
    Calls Try.prog 18 #[u, v] w fun e w' => e = .returned (.bool (decide (x = y))) ∧ Ext w w' := by
  have h1 := hu.len
  have h2 := hv.len
  obtain ⟨A, n, c, rfl, hl, _, _, hr⟩ := hu
  obtain ⟨B, m, d, rfl, hm, _, _, hs⟩ := hv
  refine (eqByteS_any A B n c m d x y w X Y hr hl hs hm (by omega) (by omega)).mono ?_
  rintro e w' ⟨rfl, hst⟩
  exact ⟨rfl, hst.ext⟩
theorem markByteS_v (v : Value) (l : List UInt8) (k0 : Int) (lo hi : Nat) (w : World) (ho : O_ByteS w lo hi v l) (_ : hi ≤ w.heap.size) (h0 : 0 ≤ k0) (hn : k0 + (NK_ByteS l : Nat) ≤ 4611686018427387904) :
    Calls Try.prog 21 #[v, .int .i64 k0] w fun e w' => e = .returned (.int .i64 (k0 + (NK_ByteS l : Nat))) ∧ O_ByteS w' lo hi v (MK_ByteS k0 l) ∧ Fr lo hi w w' := by
  obtain ⟨A, n, c, rfl, hl, ho⟩ := ho
  unfold NK_ByteS MK_ByteS at *
  subst hl
  refine (markByteS_any A _ c l k0 lo hi w ho h0 hn).mono ?_
  rintro e w' ⟨rfl, ho', hf, _⟩
  exact ⟨rfl, OwnS.of ho' (marksByte_length _ _), hf⟩
theorem heldByteS_v (v : Value) (l : List UInt8) (k0 : Int) (B : Nat) (w : World) (h : R_ByteS w B v (MK_ByteS k0 l)) (_ : B ≤ w.heap.size) (h0 : 0 ≤ k0) (hn : k0 + (NK_ByteS l : Nat) ≤ 4611686018427387904) :
    Calls Try.prog 22 #[v, .int .i64 k0] w fun e w' => e = .returned (.int .i64 (k0 + (NK_ByteS l : Nat))) ∧ Ext w w' := by
  obtain ⟨A, n, c, rfl, hl, _, _, hr⟩ := h
  unfold NK_ByteS MK_ByteS at *
  rw [marksByte_length] at hl
  subst hl
  refine (heldByteS_any A _ c k0 B w hr h0 hn).mono ?_
  rintro e w' ⟨rfl, hst⟩
  exact ⟨rfl, hst.ext⟩

end Go.Proofs.Ytbfbdhjeoknjkaa
