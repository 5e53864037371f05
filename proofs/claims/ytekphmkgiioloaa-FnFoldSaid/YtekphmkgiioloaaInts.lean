/-
  Lists of ints: copied, compared, marked, held.
-/
import Derived.Test.YtekphmkgiioloaaBase
import Derived.Test.YtekphmkgiioloaaMath
import Derived.Test.YtekphmkgiioloaaChecked
namespace Go.Proofs.Ytekphmkgiioloaa
open Go.RowKit

theorem info_Int : (Try.prog.info? 3).map (fun i => (i.zero, i.size, i.bytes)) = some (some (.int .i64 0), 1, 8) := by kernel_rfl


set_option maxHeartbeats 400000 in
theorem eqIntS_any (A B : Option Addr) (n c m d : Nat) (xs ys : List Int) (w : World) (X Y : Nat) (hx : Rd w X 1 A n (xs.flatMap eI)) (hxl : xs.length = n) (hy : Rd w Y 1 B m (ys.flatMap eI)) (hyl : ys.length = m) (hn : n ≤ 9223372036854775807) (hm : m ≤ 9223372036854775807) :
    Calls Try.prog 22 #[.slice A n c, .slice B m d] w fun e w' => e = .returned (.bool (decide (xs = ys))) ∧ Still w w' := by
  by_cases hnm : n = m
  · subst hnm
    have Hx := Lib.hid hxl
    have Hy := Lib.hid hyl
    clear hxl hyl
    go_enter Try.func22, Try.ntmps22
    go_wp2
    go_loopw [5] (fun i wr => ∃ k : Nat, k ≤ n ∧ i = .int .i64 k ∧ Hid (xs.take k = ys.take k) ∧ Still w wr) (fun i _ => n - (intOf i).toNat)
    case atStart => exact ⟨0, by omega, rfl, by simp [Hid], Still.refl _⟩
    case round =>
      obtain ⟨k, hk, rfl, hpre, hst⟩ := hrel
      by_cases hlt : k < n
      · obtain ⟨b, off, x, rfl, _, hx1, hc⟩ := (hst.rd hx).int Hx.out hlt
        obtain ⟨b', off', y, rfl, _, hy1, hc'⟩ := (hst.rd hy).int Hy.out hlt
        have Hx1 := Lib.hid hx1
        have Hy1 := Lib.hid hy1
        have hlt' : (k : Int) < (n : Int) := by omega
        clear hx1 hy1 hx hy
        go_wp2
        go_quiet (fail)
        go_wp2
        · go_ret
          have hne : x ≠ y := WalkArith.int_ne' (by assumption)
          refine ⟨?_, by repeat' (first | with_reducible exact Still.refl _ | with_reducible assumption | with_reducible refine Still.drewN ?_ _ | with_reducible refine Still.drew ?_ | with_reducible refine Still.trans ?_ (by with_reducible assumption))⟩
          rw [decide_eq_false]
          · rfl
          · rintro rfl
            have h1 := Hx1.out.symm.trans Hy1.out
            injection h1 with h1
            exact hne (by rw [h1])
        · have he : x = y := WalkArith.int_eq' (by assumption)
          go_roundw
          case rel => exact ⟨k + 1, by omega, by go_num, by
            have : x = y := he
            subst this
            show _ = _
            rw [take_snoc Hx1.out, take_snoc Hy1.out, hpre.out], by repeat' (first | with_reducible exact Still.refl _ | with_reducible assumption | with_reducible refine Still.drewN ?_ _ | with_reducible refine Still.drew ?_ | with_reducible refine Still.trans ?_ (by with_reducible assumption))⟩
          case measure => simp [intOf]; omega
      · go_wp2
        go_ret
        obtain rfl : k = n := by omega
        have h := hpre.out
        rw [List.take_of_length_le (by rw [Hx.out]; omega), List.take_of_length_le (by rw [Hy.out]; omega)] at h
        exact ⟨by simp [h], hst⟩
  · go_enter Try.func22, Try.ntmps22
    go_wp2
    go_ret
    refine ⟨?_, Still.refl _⟩
    rw [decide_eq_false]
    · rfl
    · rintro rfl
      omega

/-- The numbers from k on, as they are marked. -/
def marksInt (k : Int) (n : Nat) : List Int := (List.range n).map fun i : Nat => k + (i : Int)
theorem marksInt_succ (k : Int) (n : Nat) : marksInt k (n + 1) = marksInt k n ++ [(fun i : Nat => k + (i : Int)) n] := by simp [marksInt, List.range_succ]
theorem marksInt_length (k : Int) (n : Nat) : (marksInt k n).length = n := by simp [marksInt]

set_option maxHeartbeats 400000 in
theorem markIntS_any (A : Option Addr) (n c : Nat) (xs : List Int) (k0 : Int) (lo hi : Nat) (w : World) (hown : Own w lo hi 3 1 (.slice A n c) n (xs.flatMap eI)) (h0 : 0 ≤ k0) (hn : k0 + n ≤ 4611686018427387904) :
    Calls Try.prog 26 #[.slice A n c, .int .i64 k0] w fun e w' => e = .returned (.int .i64 (k0 + n)) ∧ Own w' lo hi 3 1 (.slice A n c) n ((marksInt k0 n).flatMap eI) ∧ Fr lo hi w w' ∧ w.grownBy w' (blk (.slice A n c)) := by
  go_enter Try.func26, Try.ntmps26
  go_wp2
  go_loopw [1, 5] (fun q i wr => ∃ (j : Nat) (rest : List Value), j ≤ n ∧ i = .int .i64 j ∧ q = .int .i64 (k0 + j) ∧ Own wr lo hi 3 1 (.slice A n c) n ((marksInt k0 j).flatMap eI ++ rest) ∧ Fr lo hi w wr ∧ w.grownBy wr (blk (.slice A n c))) (fun _ i _ => n - (intOf i).toNat)
  case atStart => exact ⟨0, xs.flatMap eI, by omega, rfl, by go_num, by simpa [marksInt] using hown, Fr.of_below (Below.refl _ _), World.grownBy.refl _ _⟩
  case round =>
    obtain ⟨j, rest, hj, rfl, rfl, ho, hfr, hgr⟩ := hrel
    by_cases hlt : j < n
    · obtain ⟨g, cap, hv, hg1, hg2, hnc, -⟩ := ho.row (by omega)
      injection hv with hA _ hcap
      subst hA hcap
      have hrow : blk (.slice (some ⟨g, 0, none⟩) n c) = some g := blk_row (by omega)
      rw [hrow] at hgr
      have HR := Lib.hid hrow
      clear hrow
      obtain ⟨⟨v0, hc0⟩, hf0⟩ := ho.spot (j := j) (by omega)
      obtain ⟨rest', ho'⟩ := ho.put1 (m := j) (by rw [flat_length eI_len, marksInt_length]; omega) (by omega) (.int .i64 (k0 + j))
      clear ho hown
      go_wp2
      go_roundw
      case rel =>
        refine ⟨j + 1, rest', by omega, by go_num, by go_num, ?_, ?_, ?_⟩
        · rw [marksInt_succ, List.flatMap_append]
          exact ho'
        · exact hfr.trans (Fr.of_grown (grownBy_setCell g _ _ rfl) (by intro g' h; injection h with h; subst h; exact ⟨hg1, hg2⟩))
        · rw [HR.out]
          exact grownBy_trans hgr (grownBy_setCell g _ _ rfl)
      case measure => simp [intOf]; omega
    · obtain rfl : j = n := by omega
      go_wp2
      go_ret
      exact ⟨rfl, ho.full (by rw [flat_length eI_len, marksInt_length]), hfr, hgr⟩

set_option maxHeartbeats 400000 in
theorem heldIntS_any (A : Option Addr) (n c : Nat) (k0 : Int) (B : Nat) (w : World) (hr : Rd w B 1 A n ((marksInt k0 n).flatMap eI)) (h0 : 0 ≤ k0) (hn : k0 + n ≤ 4611686018427387904) :
    Calls Try.prog 28 #[.slice A n c, .int .i64 k0] w fun e w' => e = .returned (.int .i64 (k0 + n)) ∧ Still w w' := by
  go_enter Try.func28, Try.ntmps28
  go_wp2
  go_loopw [1, 5] (fun q i wr => ∃ (j : Nat), j ≤ n ∧ i = .int .i64 j ∧ q = .int .i64 (k0 + j) ∧ Still w wr) (fun _ i _ => n - (intOf i).toNat)
  case atStart => exact ⟨0, by omega, rfl, by go_num, Still.refl _⟩
  case round =>
    obtain ⟨j, hj, rfl, rfl, hst⟩ := hrel
    by_cases hlt : j < n
    · obtain ⟨b, off, x, rfl, _, hx1, hc⟩ := (hst.rd hr).int (marksInt_length k0 n) hlt
      have hx2 : x = (fun i : Nat => k0 + (i : Int)) j := by
        simp only [marksInt, List.getElem?_map, List.getElem?_range hlt, Option.map_some] at hx1
        injection hx1 with hx1
        exact hx1.symm
      have hx4 : (x != k0 + j) = false := by simp [hx2]
      clear hx2 hx1
      go_wp2
      first | go_quiet (fail) | skip
      go_wp2
      go_roundw
      case rel => exact ⟨j + 1, by omega, by go_num, by go_num, by repeat' (first | with_reducible exact Still.refl _ | with_reducible assumption | with_reducible refine Still.drewN ?_ _ | with_reducible refine Still.drew ?_ | with_reducible refine Still.trans ?_ (by with_reducible assumption))⟩
      case measure => simp [intOf]; omega
    · obtain rfl : j = n := by omega
      go_wp2
      go_ret
      exact ⟨rfl, hst⟩

/-! ### the same, for whole values -/

def R_IntS (w : World) (B : Nat) (v : Value) (l : List Int) : Prop := RdS w B 1 eI v l
def O_IntS (w : World) (lo hi : Nat) (v : Value) (l : List Int) : Prop := OwnS w lo hi 3 1 eI v l
def MK_IntS (k : Int) (l : List Int) : List Int := marksInt k l.length
def NK_IntS (l : List Int) : Nat := l.length
theorem R_IntS.keep {w w' : World} {B : Nat} {v : Value} {l : List Int} (h : R_IntS w B v l) (hk : ∀ k, k < B → w'.heap[k]? = w.heap[k]?) : R_IntS w' B v l := RdS.keep h hk
theorem O_IntS.keep {w w' : World} {lo hi : Nat} {v : Value} {l : List Int} (h : O_IntS w lo hi v l) (hk : ∀ k, lo ≤ k → k < hi → w'.heap[k]? = w.heap[k]?) : O_IntS w' lo hi v l := OwnS.keep h hk
theorem O_IntS.rd {w : World} {lo hi : Nat} {v : Value} {l : List Int} (h : O_IntS w lo hi v l) : R_IntS w hi v l := OwnS.rd h
theorem R_IntS.more {w : World} {B B' : Nat} {v : Value} {l : List Int} (h : R_IntS w B v l) (hB : B ≤ B') : R_IntS w B' v l := RdS.more h hB
theorem R_IntS.len {w : World} {B : Nat} {v : Value} {l : List Int} (h : R_IntS w B v l) : l.length ≤ 9223372036854775807 := by
  obtain ⟨A, n, c, _, rfl, h1, h2, _⟩ := h
  unfold maxLen at h2
  omega

theorem eqIntS_v (u v : Value) (x y : List Int) (w : World) (X Y : Nat) (hu : R_IntS w X u x) (_ : X ≤ w.heap.size) (hv : R_IntS w Y v y) (_ : Y ≤ w.heap.size) :
    Calls Try.prog 22 #[u, v] w fun e w' => e = .returned (.bool (decide (x = y))) ∧ Ext w w' := by
  have h1 := hu.len
  have h2 := hv.len
  obtain ⟨A, n, c, rfl, hl, _, _, hr⟩ := hu
  obtain ⟨B, m, d, rfl, hm, _, _, hs⟩ := hv
  refine (eqIntS_any A B n c m d x y w X Y hr hl hs hm (by omega) (by omega)).mono ?_
  rintro e w' ⟨rfl, hst⟩
  exact ⟨rfl, hst.ext⟩
theorem markIntS_v (v : Value) (l : List Int) (k0 : Int) (lo hi : Nat) (w : World) (ho : O_IntS w lo hi v l) (_ : hi ≤ w.heap.size) (h0 : 0 ≤ k0) (hn : k0 + (NK_IntS l : Nat) ≤ 4611686018427387904) :
    Calls Try.prog 26 #[v, .int .i64 k0] w fun e w' => e = .returned (.int .i64 (k0 + (NK_IntS l : Nat))) ∧ O_IntS w' lo hi v (MK_IntS k0 l) ∧ Fr lo hi w w' := by
  obtain ⟨A, n, c, rfl, hl, ho⟩ := ho
  unfold NK_IntS MK_IntS at *
  subst hl
  refine (markIntS_any A _ c l k0 lo hi w ho h0 hn).mono ?_
  rintro e w' ⟨rfl, ho', hf, _⟩
  exact ⟨rfl, OwnS.of ho' (marksInt_length _ _), hf⟩
theorem heldIntS_v (v : Value) (l : List Int) (k0 : Int) (B : Nat) (w : World) (h : R_IntS w B v (MK_IntS k0 l)) (_ : B ≤ w.heap.size) (h0 : 0 ≤ k0) (hn : k0 + (NK_IntS l : Nat) ≤ 4611686018427387904) :
    Calls Try.prog 28 #[v, .int .i64 k0] w fun e w' => e = .returned (.int .i64 (k0 + (NK_IntS l : Nat))) ∧ Ext w w' := by
  obtain ⟨A, n, c, rfl, hl, _, _, hr⟩ := h
  unfold NK_IntS MK_IntS at *
  rw [marksInt_length] at hl
  subst hl
  refine (heldIntS_any A _ c k0 B w hr h0 hn).mono ?_
  rintro e w' ⟨rfl, hst⟩
  exact ⟨rfl, hst.ext⟩

end Go.Proofs.Ytekphmkgiioloaa
