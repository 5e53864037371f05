/-
  PutNums and GetNums, the program's and the reference's, walked.
-/
import Derived.Test.YtbfbdhjeoknjkaaGet
import Derived.Test.YtbfbdhjeoknjkaaMg1
namespace Go.Proofs.Ytbfbdhjeoknjkaa
open Go.RowKit

/-- 'PutNums': nothing if one is negative. -/
def putNums (l : List Int) : List UInt8 := if l.all (fun x => decide (0 ≤ x)) then l.flatMap (fun x => putNum x.toNat) else []
def putAll (l : List Int) : List UInt8 := l.flatMap (fun x => putNum x.toNat)

theorem putNums_neg {l : List Int} {x : Int} (hx : x ∈ l) (h : x < 0) : putNums l = [] := by
  refine if_neg ?_
  intro ha
  have := List.all_eq_true.1 ha x hx
  simp at this
  omega
theorem putNums_pos {l : List Int} (h : ∀ x ∈ l, 0 ≤ x) : putNums l = putAll l := by
  refine if_pos ?_
  rw [List.all_eq_true]
  intro x hx
  simpa using h x hx

set_option maxRecDepth 100000 in
set_option maxHeartbeats 1000000 in
theorem putNums_s (v : Value) (l : List Int) (w : World) (B : Nat) (hr : RdS w B 1 eI v l) (hB : B ≤ w.heap.size) (hf : ∀ x ∈ l, x ≤ 9223372036854775807) (hn : l.length ≤ 2097152) :
    Calls Try.prog 47 #[v] w fun e w' => ∃ v', e = .returned v' ∧ OwnS w' w.heap.size w'.heap.size 5 1 eB v' (putNums l) ∧ Ext w w' := by
  obtain ⟨A, n, c, rfl, hl, hnc, hcm, hr⟩ := hr
  obtain ⟨i0, hi0, hz0, hz1, hz2⟩ := info_parts info_Byte
  rw [hl] at hn
  have Hl := Lib.hid hl
  clear hl hcm
  go_enter Try.func47, Try.ntmps47
  go_wp2
  go_loopw [3, 4] (fun ov iv wr => ∃ (k m : Nat) (A' : Option Addr) (c' : Nat), k ≤ n ∧ iv = .int .i64 k ∧ ov = .slice A' m c' ∧ Hid ((putAll (l.take k)).length = m) ∧ m ≤ 9 * k ∧ Own wr w.heap.size wr.heap.size 5 1 (.slice A' m c') m ((putAll (l.take k)).flatMap eB) ∧ Hid (∀ x ∈ l.take k, 0 ≤ x) ∧ Ext w wr) (fun _ iv _ => n - (intOf iv).toNat)
  case atStart => exact ⟨0, 0, _, 0, by omega, rfl, rfl, rfl, by omega, Own.nil _ _ _ _ _ _, by simp [Hid], by repeat' (first | with_reducible exact Ext.refl _ | with_reducible assumption | with_reducible refine Ext.set ?_ ?_ _ _ | with_reducible refine Ext.alloc ?_ _ | with_reducible refine Ext.drew ?_ | with_reducible refine Ext.drewN ?_ _ | with_reducible refine Ext.trans ?_ (by with_reducible assumption) | omega | (simp; done) | (simp; omega))⟩
  case round =>
    obtain ⟨k, m, A', c', hk, rfl, rfl, hm, hm9, hown, hpos, hext⟩ := hrel
    by_cases hlt : k < n
    · obtain ⟨b, off, x, rfl, _, hx1, hc⟩ := (hext.rd hr hB).int Hl.out hlt
      have hxm := List.mem_of_getElem? hx1
      have hx2 := hf x hxm
      have Hx1 := Lib.hid hx1
      have Hf := Lib.hid hf
      clear hx1 hr hf
      by_cases hneg : x < 0
      · have hres : putNums l = [] := putNums_neg hxm hneg
        have Hres := Lib.hid hres
        clear hres hxm
        go_wp2
        go_ret
        exact ⟨_, rfl, by rw [Hres.out]; exact OwnS.nil _, by repeat' (first | with_reducible exact Ext.refl _ | with_reducible assumption | with_reducible refine Ext.set ?_ ?_ _ _ | with_reducible refine Ext.alloc ?_ _ | with_reducible refine Ext.drew ?_ | with_reducible refine Ext.drewN ?_ _ | with_reducible refine Ext.trans ?_ (by with_reducible assumption) | omega | (simp; done) | (simp; omega))⟩
      · have Hxm := Lib.hid hxm
        clear hxm
        go_wp2_with fail
        refine (putNum_s _ _ hx2).mono ?_
        rintro e w1 ⟨A2, n2, c2, rfl, hl2, o2, hE2⟩
        have z2 := hE2.size
        have hn2 : n2 ≤ 9 := by have := putNumI_len9' x hx2; omega
        have Hl2 := Lib.hid hl2
        clear hl2
        have hz3 := hext.size
        have hown1 := hE2.own hown (Nat.le_refl _)
        go_wp2_with (at_builtin; refine wpList_app _ rfl _ _ 48 rfl 5 i0 _ 1 1 Try.underlying48 hi0 hz0 hz1 hz2 rfl (by omega) w.heap.size wr.heap.size (.slice A' m c') m ((putAll (l.take k)).flatMap eB) rfl hown1 (by omega) (by omega) w1.heap.size A2 n2 c2 ((putNumI x).flatMap eB) rfl o2.rd.2.2.2 (oneCell_B _) (by unfold maxLen; omega) (by omega) ?_)
        intro A3 c3 w3 hown3 hg
        have hE3 := (hext.trans hE2).grown hg (fun g h => (hown1.lt g h).1)
        clear hg hown hown1 o2
        go_wp2
        go_roundw
        case rel =>
          have hput : putAll (l.take (k + 1)) = putAll (l.take k) ++ putNumI x := by
            rw [putAll, take_snoc Hx1.out, List.flatMap_append, List.flatMap_singleton, putNumI, if_neg (by omega)]
            rfl
          refine ⟨k + 1, m + n2, A3, c3, by omega, by go_num, rfl, ?_, by omega, ?_, ?_, hE3⟩
          · show _ = _
            rw [hput, List.length_append, hm.out, Hl2.out]
          · rw [hput, List.flatMap_append]
            exact hown3
          · intro y hy
            rw [take_snoc Hx1.out] at hy
            rcases List.mem_append.1 hy with hy | hy
            · exact hpos.out y hy
            · simp at hy
              omega
        case measure => simp [intOf]; omega
    · obtain rfl : k = n := by omega
      go_wp2
      go_ret
      have hall : l.take k = l := List.take_of_length_le (by rw [Hl.out]; omega)
      rw [hall] at hown hm hpos
      exact ⟨_, rfl, by rw [putNums_pos hpos.out]; exact OwnS.of hown hm.out, hext⟩

set_option maxRecDepth 100000 in
set_option maxHeartbeats 1000000 in
theorem putNums_i (v : Value) (l : List Int) (w : World) (B : Nat) (hr : RdS w B 1 eI v l) (hB : B ≤ w.heap.size) (hf : ∀ x ∈ l, x ≤ 9223372036854775807) (hn : l.length ≤ 2097152) :
    Calls Try.prog 51 #[v] w fun e w' => ∃ v', e = .returned v' ∧ OwnS w' w.heap.size w'.heap.size 5 1 eB v' (putNums l) ∧ Ext w w' := by
  obtain ⟨A, n, c, rfl, hl, hnc, hcm, hr⟩ := hr
  obtain ⟨i0, hi0, hz0, hz1, hz2⟩ := info_parts info_Byte
  rw [hl] at hn
  have Hl := Lib.hid hl
  clear hl hcm
  go_enter Try.func51, Try.ntmps51
  go_wp2
  go_loopw [3, 9] (fun ov iv wr => ∃ (k m : Nat) (A' : Option Addr) (c' : Nat), k ≤ n ∧ iv = .int .i64 k ∧ ov = .slice A' m c' ∧ Hid ((putAll (l.take k)).length = m) ∧ m ≤ 9 * k ∧ Own wr w.heap.size wr.heap.size 5 1 (.slice A' m c') m ((putAll (l.take k)).flatMap eB) ∧ Hid (∀ x ∈ l.take k, 0 ≤ x) ∧ Ext w wr) (fun _ iv _ => n - (intOf iv).toNat)
  case atStart => exact ⟨0, 0, _, 0, by omega, rfl, rfl, rfl, by omega, Own.nil _ _ _ _ _ _, by simp [Hid], by repeat' (first | with_reducible exact Ext.refl _ | with_reducible assumption | with_reducible refine Ext.set ?_ ?_ _ _ | with_reducible refine Ext.alloc ?_ _ | with_reducible refine Ext.drew ?_ | with_reducible refine Ext.drewN ?_ _ | with_reducible refine Ext.trans ?_ (by with_reducible assumption) | omega | (simp; done) | (simp; omega))⟩
  case round =>
    obtain ⟨k, m, A', c', hk, rfl, rfl, hm, hm9, hown, hpos, hext⟩ := hrel
    by_cases hlt : k < n
    · obtain ⟨b, off, x, rfl, _, hx1, hc⟩ := (hext.rd hr hB).int Hl.out hlt
      have hxm := List.mem_of_getElem? hx1
      have hx2 := hf x hxm
      have Hx1 := Lib.hid hx1
      have Hf := Lib.hid hf
      clear hx1 hr hf
      by_cases hneg : x < 0
      · have hres : putNums l = [] := putNums_neg hxm hneg
        have Hres := Lib.hid hres
        clear hres hxm
        go_wp2
        go_ret
        exact ⟨_, rfl, by rw [Hres.out]; exact OwnS.nil _, by repeat' (first | with_reducible exact Ext.refl _ | with_reducible assumption | with_reducible refine Ext.set ?_ ?_ _ _ | with_reducible refine Ext.alloc ?_ _ | with_reducible refine Ext.drew ?_ | with_reducible refine Ext.drewN ?_ _ | with_reducible refine Ext.trans ?_ (by with_reducible assumption) | omega | (simp; done) | (simp; omega))⟩
      · have Hxm := Lib.hid hxm
        clear hxm
        go_wp2_with fail
        refine (putNum_i _ _ hx2).mono ?_
        rintro e w1 ⟨A2, n2, c2, rfl, hl2, o2, hE2⟩
        have z2 := hE2.size
        have hn2 : n2 ≤ 9 := by have := putNumI_len9' x hx2; omega
        have Hl2 := Lib.hid hl2
        clear hl2
        have hz3 := hext.size
        have hown1 := hE2.own hown (Nat.le_refl _)
        go_wp2_with (at_builtin; refine wpList_app _ rfl _ _ 48 rfl 5 i0 _ 1 1 Try.underlying48 hi0 hz0 hz1 hz2 rfl (by omega) w.heap.size wr.heap.size (.slice A' m c') m ((putAll (l.take k)).flatMap eB) rfl hown1 (by omega) (by omega) w1.heap.size A2 n2 c2 ((putNumI x).flatMap eB) rfl o2.rd.2.2.2 (oneCell_B _) (by unfold maxLen; omega) (by omega) ?_)
        intro A3 c3 w3 hown3 hg
        have hE3 := (hext.trans hE2).grown hg (fun g h => (hown1.lt g h).1)
        clear hg hown hown1 o2
        go_wp2
        go_roundw
        case rel =>
          have hput : putAll (l.take (k + 1)) = putAll (l.take k) ++ putNumI x := by
            rw [putAll, take_snoc Hx1.out, List.flatMap_append, List.flatMap_singleton, putNumI, if_neg (by omega)]
            rfl
          refine ⟨k + 1, m + n2, A3, c3, by omega, by go_num, rfl, ?_, by omega, ?_, ?_, hE3⟩
          · show _ = _
            rw [hput, List.length_append, hm.out, Hl2.out]
          · rw [hput, List.flatMap_append]
            exact hown3
          · intro y hy
            rw [take_snoc Hx1.out] at hy
            rcases List.mem_append.1 hy with hy | hy
            · exact hpos.out y hy
            · simp at hy
              omega
        case measure => simp [intOf]; omega
    · obtain rfl : k = n := by omega
      go_wp2
      go_ret
      have hall : l.take k = l := List.take_of_length_le (by rw [Hl.out]; omega)
      rw [hall] at hown hm hpos
      exact ⟨_, rfl, by rw [putNums_pos hpos.out]; exact OwnS.of hown hm.out, hext⟩

theorem putNums_len (l : List Int) (hf : ∀ x ∈ l, x ≤ 9223372036854775807) : (putNums l).length ≤ 9 * l.length := by
  unfold putNums
  split
  · rename_i h
    clear h
    induction l with
    | nil => simp
    | cons a l ih =>
      have h1 := putNumI_len9 a (hf a (by simp))
      have h2 := ih (fun x hx => hf x (by simp [hx]))
      simp only [List.flatMap_cons, List.length_append, List.length_cons]
      omega
  · simp

end Go.Proofs.Ytbfbdhjeoknjkaa
