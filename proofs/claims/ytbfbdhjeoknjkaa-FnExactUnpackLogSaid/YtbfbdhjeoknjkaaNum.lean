/-
  PutNum and GetNum, the program's and the reference's, walked: both compute the plain 'putNumI' and 'getNum'.
-/
import Derived.Test.YtbfbdhjeoknjkaaBytes
import Derived.Test.YtbfbdhjeoknjkaaMath2
namespace Go.Proofs.Ytbfbdhjeoknjkaa
open Go.RowKit

theorem oneCell_B (l : List UInt8) : ∀ u ∈ l.flatMap eB, u.oneCell' = true := by
  intro u hu
  obtain ⟨b, _, hb⟩ := List.mem_flatMap.1 hu
  simp [eB] at hb
  subst hb
  rfl

theorem putNumI_len9 (x : Int) (hx : x ≤ 9223372036854775807) : (putNum x.toNat).length ≤ 9 := by
  refine putNum_length_le x.toNat 8 ?_
  have h9 : (128 : Nat) ^ (8 + 1) = 9223372036854775808 := by decide
  omega

theorem putNumI_len9' (x : Int) (hx : x ≤ 9223372036854775807) : (putNumI x).length ≤ 9 := by
  unfold putNumI
  split
  · simp
  · exact putNumI_len9 x hx

set_option maxRecDepth 100000 in
set_option maxHeartbeats 400000 in
theorem putNum_s (x : Int) (w : World) (hx : x ≤ 9223372036854775807) :
    Calls Try.prog 90 #[.int .i64 x] w fun e w' => ∃ A n c, e = .returned (.slice A n c) ∧ (putNumI x).length = n ∧ Own w' w.heap.size w'.heap.size 5 1 (.slice A n c) n ((putNumI x).flatMap eB) ∧ Ext w w' := by
  obtain ⟨i0, hi0, hz0, hz1, hz2⟩ := info_parts info_Byte
  by_cases hneg : x < 0
  · have hp : Hid (putNumI x = []) := if_pos hneg
    go_enter Try.func90, Try.ntmps90
    go_wp2
    go_ret
    exact ⟨_, 0, 0, rfl, by rw [hp.out]; rfl, by rw [hp.out]; exact Own.nil _ _ _ _ _ _, by repeat' (first | with_reducible exact Ext.refl _ | with_reducible assumption | with_reducible refine Ext.set ?_ ?_ _ _ | with_reducible refine Ext.alloc ?_ _ | with_reducible refine Ext.drew ?_ | with_reducible refine Ext.drewN ?_ _ | with_reducible refine Ext.trans ?_ (by with_reducible assumption) | omega | (simp; done) | (simp; omega))⟩
  · have hp : Hid (putNumI x = putNum x.toNat) := if_neg hneg
    have hpl : (putNum x.toNat).length ≤ 9 := putNumI_len9 x hx
    go_enter Try.func90, Try.ntmps90
    go_wp2
    go_loopw [0, 3] (fun q v wr => ∃ (y : Nat) (pre : List UInt8) (A : Option Addr) (n c : Nat), q = .int .i64 y ∧ (y : Int) ≤ 9223372036854775807 ∧ v = .slice A n c ∧ Hid (pre.length = n) ∧ n ≤ 9 ∧ Hid (pre ++ putNum y = putNum x.toNat) ∧ Own wr w.heap.size wr.heap.size 5 1 (.slice A n c) n (pre.flatMap eB) ∧ Ext w wr) (fun q _ _ => (intOf q).toNat)
    case atStart =>
      exact ⟨x.toNat, [], _, 0, 0, by go_num, by omega, rfl, rfl, by omega, rfl, Own.nil _ _ _ _ _ _, by repeat' (first | with_reducible exact Ext.refl _ | with_reducible assumption | with_reducible refine Ext.set ?_ ?_ _ _ | with_reducible refine Ext.alloc ?_ _ | with_reducible refine Ext.drew ?_ | with_reducible refine Ext.drewN ?_ _ | with_reducible refine Ext.trans ?_ (by with_reducible assumption) | omega | (simp; done) | (simp; omega))⟩
    case round =>
      obtain ⟨y, pre, A, n, c, rfl, hy, rfl, hn, hn9, hput, hown, hext⟩ := hrel
      have hlen : n + (putNum y).length ≤ 9 := by
        have h := congrArg List.length hput.out
        rw [List.length_append] at h
        have := hn.out
        omega
      have hpos := putNum_pos y
      by_cases hlt : 127 < y
      · have hcons : Hid (putNum y = UInt8.ofNat (y % 128 + 128) :: putNum (y / 128)) := by show _ = _; rw [putNum, if_pos hlt]
        have hb : Hid (eB (UInt8.ofNat (y % 128 + 128)) = [.int .u8 ((y : Int) % 128 + 128)]) := by
          show _ = _
          simp only [eB, UInt8.toNat_ofNat']
          rw [show (((y % 128 + 128) % 2 ^ 8 : Nat) : Int) = (y : Int) % 128 + 128 from by omega]
        have hlen2 : n + 1 ≤ 9 := by omega
        clear hlen hpos
        go_wp2_with (at_builtin; refine wpList_app _ rfl _ _ 48 rfl 5 i0 _ 1 1 Try.underlying48 hi0 hz0 hz1 hz2 rfl (by omega) w.heap.size wr.heap.size (.slice A n c) n (pre.flatMap eB) rfl (((Ext.refl wr).alloc _).own hown (Nat.le_refl _)) (by have := hext.size; simp; omega) (by simp) (wr.heap.size + 1) (some ⟨wr.heap.size, 0, none⟩) 1 1 [.int .u8 ((y : Int) % 128 + 128)] rfl (rd_one _ _ _) (by simp [Value.oneCell']) (by unfold maxLen; omega) (by omega) ?_)
        intro A' c' w1 hown1 hg
        have hE1 := (hext.alloc _).grown hg (fun g h => (hown.lt g h).1)
        clear hg hown
        go_wp2
        go_roundw
        case rel =>
          refine ⟨y / 128, pre ++ [UInt8.ofNat (y % 128 + 128)], A', n + 1, c', by go_num, by omega, rfl, ?_, hlen2, ?_, ?_, hE1⟩
          · show _ = _
            rw [List.length_append, hn.out]
            rfl
          · show _ = _
            rw [← hput.out, hcons.out]
            simp
          · rw [List.flatMap_append, List.flatMap_singleton, hb.out]
            exact hown1
        case measure => simp [intOf]; omega
      · have hone : Hid (putNum y = [UInt8.ofNat y]) := by show _ = _; rw [putNum, if_neg hlt]
        have hb : Hid (eB (UInt8.ofNat y) = [.int .u8 (y : Int)]) := by
          show _ = _
          simp only [eB, UInt8.toNat_ofNat']
          rw [show ((y % 2 ^ 8 : Nat) : Int) = (y : Int) from by omega]
        have hlen2 : n + 1 ≤ 9 := by omega
        clear hlen hpos
        go_wp2_with (at_builtin; refine wpList_app _ rfl _ _ 48 rfl 5 i0 _ 1 1 Try.underlying48 hi0 hz0 hz1 hz2 rfl (by omega) w.heap.size wr.heap.size (.slice A n c) n (pre.flatMap eB) rfl (((Ext.refl wr).alloc _).own hown (Nat.le_refl _)) (by have := hext.size; simp; omega) (by simp) (wr.heap.size + 1) (some ⟨wr.heap.size, 0, none⟩) 1 1 [.int .u8 (y : Int)] rfl (rd_one _ _ _) (by simp [Value.oneCell']) (by unfold maxLen; omega) (by omega) ?_)
        intro A' c' w1 hown1 hg
        have hE1 := (hext.alloc _).grown hg (fun g h => (hown.lt g h).1)
        clear hg hown
        go_wp2
        go_ret
        refine ⟨A', n + 1, c', rfl, ?_, ?_, hE1⟩
        · rw [hp.out, ← hput.out, hone.out, List.length_append, hn.out]
          rfl
        · rw [hp.out, ← hput.out, hone.out, List.flatMap_append, List.flatMap_singleton, hb.out]
          exact hown1

set_option maxRecDepth 100000 in
set_option maxHeartbeats 400000 in
theorem putNum_i (x : Int) (w : World) (hx : x ≤ 9223372036854775807) :
    Calls Try.prog 98 #[.int .i64 x] w fun e w' => ∃ A n c, e = .returned (.slice A n c) ∧ (putNumI x).length = n ∧ Own w' w.heap.size w'.heap.size 5 1 (.slice A n c) n ((putNumI x).flatMap eB) ∧ Ext w w' := by
  obtain ⟨i0, hi0, hz0, hz1, hz2⟩ := info_parts info_Byte
  by_cases hneg : x < 0
  · have hp : Hid (putNumI x = []) := if_pos hneg
    go_enter Try.func98, Try.ntmps98
    go_wp2
    go_ret
    exact ⟨_, 0, 0, rfl, by rw [hp.out]; rfl, by rw [hp.out]; exact Own.nil _ _ _ _ _ _, by repeat' (first | with_reducible exact Ext.refl _ | with_reducible assumption | with_reducible refine Ext.set ?_ ?_ _ _ | with_reducible refine Ext.alloc ?_ _ | with_reducible refine Ext.drew ?_ | with_reducible refine Ext.drewN ?_ _ | with_reducible refine Ext.trans ?_ (by with_reducible assumption) | omega | (simp; done) | (simp; omega))⟩
  · have hp : Hid (putNumI x = putNum x.toNat) := if_neg hneg
    have hpl : (putNum x.toNat).length ≤ 9 := putNumI_len9 x hx
    go_enter Try.func98, Try.ntmps98
    go_wp2
    go_loopw [0, 3] (fun q v wr => ∃ (y : Nat) (pre : List UInt8) (A : Option Addr) (n c : Nat), q = .int .i64 y ∧ (y : Int) ≤ 9223372036854775807 ∧ v = .slice A n c ∧ Hid (pre.length = n) ∧ n ≤ 9 ∧ Hid (pre ++ putNum y = putNum x.toNat) ∧ Own wr w.heap.size wr.heap.size 5 1 (.slice A n c) n (pre.flatMap eB) ∧ Ext w wr) (fun q _ _ => (intOf q).toNat)
    case atStart =>
      exact ⟨x.toNat, [], _, 0, 0, by go_num, by omega, rfl, rfl, by omega, rfl, Own.nil _ _ _ _ _ _, by repeat' (first | with_reducible exact Ext.refl _ | with_reducible assumption | with_reducible refine Ext.set ?_ ?_ _ _ | with_reducible refine Ext.alloc ?_ _ | with_reducible refine Ext.drew ?_ | with_reducible refine Ext.drewN ?_ _ | with_reducible refine Ext.trans ?_ (by with_reducible assumption) | omega | (simp; done) | (simp; omega))⟩
    case round =>
      obtain ⟨y, pre, A, n, c, rfl, hy, rfl, hn, hn9, hput, hown, hext⟩ := hrel
      have hlen : n + (putNum y).length ≤ 9 := by
        have h := congrArg List.length hput.out
        rw [List.length_append] at h
        have := hn.out
        omega
      have hpos := putNum_pos y
      by_cases hlt : 127 < y
      · have hcons : Hid (putNum y = UInt8.ofNat (y % 128 + 128) :: putNum (y / 128)) := by show _ = _; rw [putNum, if_pos hlt]
        have hb : Hid (eB (UInt8.ofNat (y % 128 + 128)) = [.int .u8 ((y : Int) % 128 + 128)]) := by
          show _ = _
          simp only [eB, UInt8.toNat_ofNat']
          rw [show (((y % 128 + 128) % 2 ^ 8 : Nat) : Int) = (y : Int) % 128 + 128 from by omega]
        have hlen2 : n + 1 ≤ 9 := by omega
        clear hlen hpos
        go_wp2_with (at_builtin; refine wpList_app _ rfl _ _ 48 rfl 5 i0 _ 1 1 Try.underlying48 hi0 hz0 hz1 hz2 rfl (by omega) w.heap.size wr.heap.size (.slice A n c) n (pre.flatMap eB) rfl (((Ext.refl wr).alloc _).own hown (Nat.le_refl _)) (by have := hext.size; simp; omega) (by simp) (wr.heap.size + 1) (some ⟨wr.heap.size, 0, none⟩) 1 1 [.int .u8 ((y : Int) % 128 + 128)] rfl (rd_one _ _ _) (by simp [Value.oneCell']) (by unfold maxLen; omega) (by omega) ?_)
        intro A' c' w1 hown1 hg
        have hE1 := (hext.alloc _).grown hg (fun g h => (hown.lt g h).1)
        clear hg hown
        go_wp2
        go_roundw
        case rel =>
          refine ⟨y / 128, pre ++ [UInt8.ofNat (y % 128 + 128)], A', n + 1, c', by go_num, by omega, rfl, ?_, hlen2, ?_, ?_, hE1⟩
          · show _ = _
            rw [List.length_append, hn.out]
            rfl
          · show _ = _
            rw [← hput.out, hcons.out]
            simp
          · rw [List.flatMap_append, List.flatMap_singleton, hb.out]
            exact hown1
        case measure => simp [intOf]; omega
      · have hone : Hid (putNum y = [UInt8.ofNat y]) := by show _ = _; rw [putNum, if_neg hlt]
        have hb : Hid (eB (UInt8.ofNat y) = [.int .u8 (y : Int)]) := by
          show _ = _
          simp only [eB, UInt8.toNat_ofNat']
          rw [show ((y % 2 ^ 8 : Nat) : Int) = (y : Int) from by omega]
        have hlen2 : n + 1 ≤ 9 := by omega
        clear hlen hpos
        go_wp2_with (at_builtin; refine wpList_app _ rfl _ _ 48 rfl 5 i0 _ 1 1 Try.underlying48 hi0 hz0 hz1 hz2 rfl (by omega) w.heap.size wr.heap.size (.slice A n c) n (pre.flatMap eB) rfl (((Ext.refl wr).alloc _).own hown (Nat.le_refl _)) (by have := hext.size; simp; omega) (by simp) (wr.heap.size + 1) (some ⟨wr.heap.size, 0, none⟩) 1 1 [.int .u8 (y : Int)] rfl (rd_one _ _ _) (by simp [Value.oneCell']) (by unfold maxLen; omega) (by omega) ?_)
        intro A' c' w1 hown1 hg
        have hE1 := (hext.alloc _).grown hg (fun g h => (hown.lt g h).1)
        clear hg hown
        go_wp2
        go_ret
        refine ⟨A', n + 1, c', rfl, ?_, ?_, hE1⟩
        · rw [hp.out, ← hput.out, hone.out, List.length_append, hn.out]
          rfl
        · rw [hp.out, ← hput.out, hone.out, List.flatMap_append, List.flatMap_singleton, hb.out]
          exact hown1

end Go.Proofs.Ytbfbdhjeoknjkaa
