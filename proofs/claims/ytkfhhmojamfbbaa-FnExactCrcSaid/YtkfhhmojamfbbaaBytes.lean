/-
  Lists of bytes: copied, compared, marked, held; the check sums.
-/
import Derived.Test.YtkfhhmojamfbbaaBase
import Derived.Test.YtkfhhmojamfbbaaMath
import Derived.Test.YtkfhhmojamfbbaaChecked
namespace Go.Proofs.Ytkfhhmojamfbbaa
open Go.RowKit

theorem info_byte : (Try.prog.info? 5).map (fun i => (i.zero, i.size, i.bytes)) = some (some (.int .u8 0), 1, 1) := by kernel_rfl

set_option maxHeartbeats 400000 in
theorem toByteS_any (A : Option Addr) (n c : Nat) (l : List UInt8) (w : World) (hr : Rd w w.heap.size 1 A n (l.flatMap eB)) (hl : l.length = n) (hn : n ≤ 1048576) :
    Calls Try.prog 17 #[.slice A n c] w fun e w' => ∃ A' c', e = .returned (.slice A' n c') ∧ Own w' w.heap.size w'.heap.size 5 1 (.slice A' n c') n (l.flatMap eB) ∧ Ext w w' := by
  obtain ⟨i0, hi0, hz0, hz1, hz2⟩ := info_parts info_byte
  have hmk := fun W => run_make_rows (P := Try.prog) 38 5 i0 _ Try.underlying38 hi0 hz0 .i64 .i64 n (by rw [hz2]; omega) (by omega) W
  rw [hz1] at hmk
  have hl' := Lib.hid hl
  clear hl
  go_enter Try.func17, Try.ntmps17
  go_wp2
  go_loopw [4] (fun i wr => ∃ (k : Nat) (rest : List Value), k ≤ n ∧ i = .int .i64 k ∧ Own wr w.heap.size (w.heap.size + 1) 5 1 (.slice (some ⟨w.heap.size, 0, none⟩) n n) n ((l.take k).flatMap eB ++ rest) ∧ Ext w wr ∧ w.heap.size < wr.heap.size) (fun i _ => n - (intOf i).toNat)
  case atStart =>
    obtain ⟨rest, h⟩ := own_start w (madeCells #[.int .u8 0] n) n 5 1 (by unfold maxLen; omega) (by simp [size_madeCells])
    exact ⟨0, rest, by omega, rfl, by simpa using h, by repeat' (first | with_reducible exact Ext.refl _ | with_reducible assumption | with_reducible refine Ext.set ?_ ?_ _ _ | with_reducible refine Ext.alloc ?_ _ | with_reducible refine Ext.drew ?_ | with_reducible refine Ext.drewN ?_ _ | with_reducible refine Ext.trans ?_ (by with_reducible assumption) | omega | (simp; done) | (simp; omega)), by simp⟩
  case round =>
    obtain ⟨k, rest, hk, rfl, hown, hext, hsz⟩ := hrel
    by_cases hlt : k < n
    · obtain ⟨b, off, x, rfl, hb, hx, hc⟩ := (hext.rd hr (Nat.le_refl _)).byte hl'.out hlt
      obtain ⟨⟨v0, hc0⟩, hf0⟩ := hown.spot (j := k) (by omega)
      obtain ⟨rest', hown'⟩ := hown.put1 (m := k) (by rw [flat_take_length eB_len (by rw [hl'.out]; omega)]; omega) (by omega) (.int .u8 (x.toNat : Int))
      have hx' := Lib.hid hx
      clear hx hown
      go_wp2
      go_roundw
      case rel => exact ⟨k + 1, rest', by omega, by go_num, by rw [flat_snoc hx'.out]; exact hown', by repeat' (first | with_reducible exact Ext.refl _ | with_reducible assumption | with_reducible refine Ext.set ?_ ?_ _ _ | with_reducible refine Ext.alloc ?_ _ | with_reducible refine Ext.drew ?_ | with_reducible refine Ext.drewN ?_ _ | with_reducible refine Ext.trans ?_ (by with_reducible assumption) | omega | (simp; done) | (simp; omega)), by simpa using hsz⟩
      case measure => simp [intOf]; omega
    · obtain rfl : k = n := by omega
      go_wp2
      go_ret
      refine ⟨_, _, rfl, ?_, hext⟩
      have := hown.full (flat_take_length eB_len (by rw [hl'.out]; omega))
      rw [List.take_of_length_le (by rw [hl'.out]; omega)] at this
      exact this.wide (Nat.le_refl _) hsz

set_option maxHeartbeats 400000 in
theorem eqByteS_any (A B : Option Addr) (n c m d : Nat) (xs ys : List UInt8) (w : World) (X Y : Nat) (hx : Rd w X 1 A n (xs.flatMap eB)) (hxl : xs.length = n) (hy : Rd w Y 1 B m (ys.flatMap eB)) (hyl : ys.length = m) (hn : n ≤ 9223372036854775807) (hm : m ≤ 9223372036854775807) :
    Calls Try.prog 19 #[.slice A n c, .slice B m d] w fun e w' => e = .returned (.bool (decide (xs = ys))) ∧ Still w w' := by
  by_cases hnm : n = m
  · subst hnm
    have Hx := Lib.hid hxl
    have Hy := Lib.hid hyl
    clear hxl hyl
    go_enter Try.func19, Try.ntmps19
    go_wp2
    go_loopw [5] (fun i wr => ∃ k : Nat, k ≤ n ∧ i = .int .i64 k ∧ Hid (xs.take k = ys.take k) ∧ Still w wr) (fun i _ => n - (intOf i).toNat)
    case atStart => exact ⟨0, by omega, rfl, by simp [Hid], Still.refl _⟩
    case round =>
      obtain ⟨k, hk, rfl, hpre, hst⟩ := hrel
      by_cases hlt : k < n
      · obtain ⟨b, off, x, rfl, _, hx1, hc⟩ := (hst.rd hx).byte Hx.out hlt
        obtain ⟨b', off', y, rfl, _, hy1, hc'⟩ := (hst.rd hy).byte Hy.out hlt
        have Hx1 := Lib.hid hx1
        have Hy1 := Lib.hid hy1
        have hlt' : (k : Int) < (n : Int) := by omega
        clear hx1 hy1 hx hy
        go_wp2
        go_quiet (fail)
        go_wp2
        · go_ret
          have hne : (x.toNat : Int) ≠ y.toNat := WalkArith.int_ne' (by assumption)
          refine ⟨?_, by repeat' (first | with_reducible exact Still.refl _ | with_reducible assumption | with_reducible refine Still.drewN ?_ _ | with_reducible refine Still.drew ?_ | with_reducible refine Still.trans ?_ (by with_reducible assumption))⟩
          rw [decide_eq_false]
          · rfl
          · rintro rfl
            have h1 := Hx1.out.symm.trans Hy1.out
            injection h1 with h1
            exact hne (by rw [h1])
        · have he : (x.toNat : Int) = y.toNat := WalkArith.int_eq' (by assumption)
          go_roundw
          case rel => exact ⟨k + 1, by omega, by go_num, by
            have : x = y := UInt8.toNat_inj.1 (by omega)
            subst this
            show _ = _
            rw [take_snoc Hx1.out, take_snoc Hy1.out, hpre.out], by repeat' (first | with_reducible exact Still.refl _ | with_reducible assumption | with_reducible refine Still.drewN ?_ _ | with_reducible refine Still.drew ?_ | with_reducible refine Still.trans ?_ (by with_reducible assumption))⟩
          case measure => simp [intOf]; omega
      · go_wp2
        go_ret
        obtain rfl : k = n := by omega
        have h := hpre.out
        rw [List.take_of_length_le (by rw [Hx.out]; omega), List.take_of_length_le (by rw [Hy.out]; omega)] at h
        exact ⟨by simp [h], hst⟩
  · go_enter Try.func19, Try.ntmps19
    go_wp2
    go_ret
    refine ⟨?_, Still.refl _⟩
    rw [decide_eq_false]
    · rfl
    · rintro rfl
      omega
end Go.Proofs.Ytkfhhmojamfbbaa
