/-
  slices.Clone and slices.Equal of bytes, walked.
-/
import Derived.Test.YtikkfkomieedmaaFrame
import Derived.Lib.SliceRun
namespace Go.Proofs.Ytikkfkomieedmaa
open Go.RowKit

set_option maxRecDepth 100000 in
set_option maxHeartbeats 1000000 in
theorem cloneB_any (v : Value) (l : List UInt8) (w : World) (B : Nat) (hr : R_ByteS w B v l) (hB : B ≤ w.heap.size) (hn : l.length ≤ 1073741824) :
    Calls Try.prog 30 #[v] w fun e w' => ∃ v', e = .returned v' ∧ O_ByteS w' w.heap.size w'.heap.size v' l ∧ Ext w w' := by
  obtain ⟨A, n, c, rfl, hl, hnc, hcm, hr⟩ := hr
  obtain ⟨i0, hi0, hz0, hz1, hz2⟩ := info_parts info_Byte
  rw [hl] at hn
  have Hl := Lib.hid hl
  have qT : ∀ (w : World) (A : Option Addr) (n c : Nat), (binOp .eql 22 (.slice A n c) (.slice none 0 0)).run Try.prog w = .ok (.bool A.isNone) w := fun w A n c => Lib.run_eql_slice_nil w _ _ A n c 0 0 Try.underlying22
  cases A with
  | none =>
    have h0 : n = 0 := by
      rcases Nat.eq_zero_or_pos n with h | h
      · exact h
      · obtain ⟨b, off, h1, _⟩ := hr.at_ h
        cases h1
    subst h0
    have hl0 : l = [] := List.eq_nil_of_length_eq_zero hl
    subst hl0
    clear hl
    go_enter Try.func30, Try.ntmps30
    go_wp2
    go_ret
    exact ⟨_, rfl, OwnS.nil _, Ext.refl _⟩
  | some a =>
    clear hl
    go_enter Try.func30, Try.ntmps30
    go_wp2_with (at_builtin; refine wpList_app _ rfl _ _ 22 rfl 5 i0 _ 1 1 Try.underlying22 hi0 hz0 hz1 hz2 rfl (by omega) (w.heap.size + 1) (w.heap.size + 1) (.slice (some ⟨w.heap.size, 0, none⟩) 0 0) 0 [] rfl (Own.nil _ _ _ _ _ _) (by simp) (by simp) B (some a) n c _ rfl (((Ext.refl w).alloc _).rd hr hB) (oneCell_B _) (by unfold maxLen; omega) (by omega) ?_)
    intro A3 c3 w3 o3 hb3
    have hE3 : Ext w w3 := ((Ext.refl w).alloc _).grown hb3 (fun g h => by simp [blk] at h)
    try simp only [Nat.zero_add, List.nil_append] at o3
    go_wp2
    go_ret
    exact ⟨_, rfl, OwnS.of (o3.wide (by omega) (Nat.le_refl _)) Hl.out, hE3⟩

set_option maxRecDepth 100000 in
set_option maxHeartbeats 1000000 in
theorem equalB_any (A B : Option Addr) (n c m d : Nat) (xs ys : List UInt8) (w : World) (X Y : Nat) (hx : Rd w X 1 A n (xs.flatMap eB)) (hxl : xs.length = n) (hy : Rd w Y 1 B m (ys.flatMap eB)) (hyl : ys.length = m) (hn : n ≤ 9223372036854775807) (hm : m ≤ 9223372036854775807) :
    Calls Try.prog 31 #[.slice A n c, .slice B m d] w fun e w' => e = .returned (.bool (decide (xs = ys))) ∧ Still w w' := by
  by_cases hnm : n = m
  · subst hnm
    have Hx := Lib.hid hxl
    have Hy := Lib.hid hyl
    clear hxl hyl
    go_enter Try.func31, Try.ntmps31
    go_wp2
    go_loopw [13] (fun i wr => ∃ k : Nat, k ≤ n ∧ i = .int .i64 k ∧ Hid (xs.take k = ys.take k) ∧ Still w wr) (fun i _ => n - (intOf i).toNat)
    case atStart => exact ⟨0, by omega, rfl, by simp [Hid], Still.refl _⟩
    case round =>
      obtain ⟨k, hk, rfl, hpre, hst⟩ := hrel
      by_cases hlt : k < n
      · obtain ⟨b, off, x, rfl, _, hx1, hc⟩ := (hst.rd hx).byte Hx.out hlt
        obtain ⟨b', off', y, rfl, _, hy1, hc'⟩ := (hst.rd hy).byte Hy.out hlt
        have Hx1 := Lib.hid hx1
        have Hy1 := Lib.hid hy1
        have hlt' : (k : Int) < (n : Int) := by omega
        clear hx1 hy1 hx hy
        go_wp2
        go_quiet (fail)
        go_wp2
        · go_ret
          have hne : (x.toNat : Int) ≠ (y.toNat : Int) := WalkArith.int_ne' (by assumption)
          refine ⟨?_, by repeat' (first | with_reducible exact Still.refl _ | with_reducible assumption | with_reducible refine Still.drewN ?_ _ | with_reducible refine Still.drew ?_ | with_reducible refine Still.trans ?_ (by with_reducible assumption))⟩
          rw [decide_eq_false]
          · rfl
          · rintro rfl
            have h1 := Hx1.out.symm.trans Hy1.out
            injection h1 with h1
            exact hne (by rw [h1])
        · have he : (x.toNat : Int) = (y.toNat : Int) := WalkArith.int_eq' (by assumption)
          go_roundw
          case rel => exact ⟨k + 1, by omega, by go_num, by
            have : x = y := UInt8.toNat_inj.1 (by omega)
            subst this
            show _ = _
            rw [take_snoc Hx1.out, take_snoc Hy1.out, hpre.out], by repeat' (first | with_reducible exact Still.refl _ | with_reducible assumption | with_reducible refine Still.drewN ?_ _ | with_reducible refine Still.drew ?_ | with_reducible refine Still.trans ?_ (by with_reducible assumption))⟩
          case measure => simp [intOf]; omega
      · go_wp2
        go_ret
        obtain rfl : k = n := by omega
        have h := hpre.out
        rw [List.take_of_length_le (by rw [Hx.out]; omega), List.take_of_length_le (by rw [Hy.out]; omega)] at h
        exact ⟨by simp [h], hst⟩
  · go_enter Try.func31, Try.ntmps31
    go_wp2
    go_ret
    refine ⟨?_, Still.refl _⟩
    rw [decide_eq_false]
    · rfl
    · rintro rfl
      omega

end Go.Proofs.Ytikkfkomieedmaa
