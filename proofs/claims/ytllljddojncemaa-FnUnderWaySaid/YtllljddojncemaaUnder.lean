/-
  The plain law of mail under way: doubled and taken, moved and moved back, spoilt twice.
-/
import Derived.Test.YtllljddojncemaaNetMove
import Derived.Test.YtllljddojncemaaNetSpoil
import Derived.Test.YtllljddojncemaaNetFor
namespace Go.Proofs.Ytllljddojncemaa
open Go.RowKit

structure GoodN (n : NetD) : Prop where
  next : 0 ≤ n.next ∧ n.next ≤ 1000000000
  many : n.list.length ≤ 60
  each : ∀ x ∈ n.list, flB x.to x.bytes = true ∧ 0 ≤ x.id ∧ x.id ≤ n.next - 1
  apart : (n.list.map (·.id)).Nodup
theorem netOk_iff {n : NetD} : netOk n = true ↔ GoodN n := by
  constructor
  · intro h
    obtain ⟨h1, h2, h3⟩ := netOk_parts h
    refine ⟨⟨h1, h2⟩, h3, fun x hx => ?_, ?_⟩
    · obtain ⟨k, hk⟩ := List.mem_iff_getElem?.1 hx
      exact netOk_at h hk
    · rw [List.Nodup, List.pairwise_iff_getElem]
      intro i j hi hj hij he
      rw [List.length_map] at hi hj
      have h4 := netOk_okAt h hj
      rw [okAt_some (List.getElem?_eq_getElem hj)] at h4
      simp only [Bool.and_eq_true, Bool.not_eq_true', List.any_eq_false, decide_eq_true_eq] at h4
      refine h4.2.2 n.list[i] ?_ ?_
      · rw [List.mem_take_iff_getElem]
        exact ⟨i, by omega, rfl⟩
      · simpa using he
  · intro h
    unfold netOk okTo
    simp only [Bool.and_eq_true, decide_eq_true_eq, List.all_eq_true, List.mem_range]
    refine ⟨(wholeB_iff _).2 h.next, h.many, fun k hk => ?_⟩
    rw [okAt_some (List.getElem?_eq_getElem hk)]
    have hx := h.each _ (List.getElem_mem hk)
    have hin : inB n.list[k].id 0 (n.next - 1) = true := by
      unfold inB
      simp only [decide_eq_true_eq]
      exact hx.2
    rw [hx.1, hin]
    simp only [Bool.true_and, Bool.not_eq_true', List.any_eq_false, decide_eq_true_eq]
    intro y hy he
    rw [List.mem_take_iff_getElem] at hy
    obtain ⟨i, hi, rfl⟩ := hy
    have hp := h.apart
    rw [List.Nodup, List.pairwise_iff_getElem] at hp
    exact hp i k (by rw [List.length_map]; omega) (by rw [List.length_map]; exact hk) (by omega) (by simpa using he)
theorem flipB_flB {tt : Int} {s : ByteArray} (b : Nat) (h : flB tt s = true) : flB tt (flipB s b) = true := by
  unfold flB at h ⊢
  rw [flipB_size]
  exact h
theorem good_spoil {n : NetD} {k b : Nat} {x : FlightD} (h : GoodN n) (hx : n.list[k]? = some x) : GoodN ⟨n.next, n.list.set k (spoil x b)⟩ := by
  obtain ⟨hk, he⟩ := List.getElem?_eq_some_iff.1 hx
  refine ⟨h.next, by dsimp only; rw [List.length_set]; exact h.many, fun y hy => ?_, ?_⟩
  · rcases List.mem_or_eq_of_mem_set hy with hy | rfl
    · exact h.each y hy
    · have h1 := h.each x (List.mem_of_getElem? hx)
      exact ⟨flipB_flB b h1.1, h1.2⟩
  · have : (n.list.set k (spoil x b)).map (·.id) = n.list.map (·.id) := by
      rw [List.map_set]
      apply List.ext_getElem?
      intro i
      rw [List.getElem?_set]
      split
      · rename_i hki
        subst hki
        rw [if_pos (by rw [List.length_map]; exact hk), List.getElem?_map, hx]
        rfl
      · rfl
    show ((n.list.set k (spoil x b)).map (·.id)).Nodup
    rw [this]
    exact h.apart
theorem good_twin {n : NetD} {tt : Int} {s : ByteArray} (h : GoodN n) (hf : flB tt s = true) (h1 : ¬ n.list.length = 60) (h2 : ¬ n.next = 1000000000) : GoodN ⟨n.next + 1, n.list ++ [⟨n.next, tt, s⟩]⟩ := by
  have hn := h.next
  have hm := h.many
  refine ⟨by dsimp only; omega, by dsimp only; rw [List.length_append]; simp; omega, fun y hy => ?_, ?_⟩
  · rcases List.mem_append.1 hy with hy | hy
    · have := h.each y hy
      exact ⟨this.1, by dsimp only; omega⟩
    · rw [List.mem_singleton.1 hy]
      exact ⟨hf, by dsimp only; omega⟩
  · show ((n.list ++ [(⟨n.next, tt, s⟩ : FlightD)]).map (·.id)).Nodup
    rw [List.map_append, List.nodup_append]
    refine ⟨h.apart, by simp, fun a ha b hb => ?_⟩
    obtain ⟨y, hy, rfl⟩ := List.mem_map.1 ha
    have := (h.each y hy).2
    simp at hb
    subst hb
    intro he
    have he2 : y.id = n.next := he
    omega
theorem moveL_perm {l : List FlightD} {k j : Nat} {x : FlightD} (hx : l[k]? = some x) : (moveL l k j x).Perm l := by
  have h1 : (moveL l k j x).Perm (x :: offL l k) := by
    unfold moveL
    refine List.perm_middle.trans ?_
    rw [List.take_append_drop]
  refine h1.trans ?_
  unfold offL
  obtain ⟨hk, he⟩ := List.getElem?_eq_some_iff.1 hx
  have h2 : l = l.take k ++ x :: l.drop (k + 1) := by
    rw [← he, ← List.drop_eq_getElem_cons hk, List.take_append_drop]
  have h3 : (x :: (l.take k ++ l.drop (k + 1))).Perm (l.take k ++ x :: l.drop (k + 1)) := List.perm_middle.symm
  rw [← h2] at h3
  exact h3
theorem good_move {n : NetD} {k j : Nat} {x : FlightD} (h : GoodN n) (hx : n.list[k]? = some x) : GoodN ⟨n.next, moveL n.list k j x⟩ := by
  have hp := moveL_perm (j := j) hx
  exact ⟨h.next, by dsimp only; rw [hp.length_eq]; exact h.many, fun y hy => h.each y (hp.mem_iff.1 hy), (hp.map _).nodup_iff.2 h.apart⟩
theorem offL_last (l : List FlightD) (y : FlightD) : offL (l ++ [y]) l.length = l := by
  unfold offL
  rw [List.take_left, List.drop_of_length_le (by simp), List.append_nil]
theorem moveL_at {l : List FlightD} {k j : Nat} {x : FlightD} (hk : k < l.length) (hj : j < l.length) : (moveL l k j x)[j]? = some x := by
  unfold moveL
  have hl : ((offL l k).take j).length = j := by rw [List.length_take, offL_length hk]; omega
  rw [List.getElem?_append_right (by omega), hl, Nat.sub_self]
  rfl
theorem move_back {l : List FlightD} {k j : Nat} {x : FlightD} (hx : l[k]? = some x) (hj : j < l.length) : moveL (moveL l k j x) j k x = l := by
  obtain ⟨hk, he⟩ := List.getElem?_eq_some_iff.1 hx
  have hl : ((offL l k).take j).length = j := by rw [List.length_take, offL_length hk]; omega
  have h1 : offL (moveL l k j x) j = offL l k := by
    rw [offL.eq_def (moveL l k j x)]
    unfold moveL
    rw [List.take_left' hl, List.drop_append, hl]
    rw [List.drop_of_length_le (by omega), List.nil_append, show j + 1 - j = 1 by omega]
    show (offL l k).take j ++ (offL l k).drop j = _
    exact List.take_append_drop j (offL l k)
  unfold moveL at h1 ⊢
  rw [h1]
  unfold offL
  have hk2 : (l.take k).length = k := by rw [List.length_take]; omega
  rw [List.take_left' hk2, List.drop_left' hk2]
  rw [← he, ← List.drop_eq_getElem_cons hk, List.take_append_drop]
theorem netFor_some {n : NetD} {k : Nat} {x : FlightD} (h : netOk n = true) (hx : n.list[k]? = some x) : 0 < (netFor n x.to).length := by
  have hk := (List.getElem?_eq_some_iff.1 hx).1
  unfold netFor forTo
  rw [h, if_pos rfl, List.length_map]
  refine List.length_pos_of_mem (a := k) ?_
  rw [List.mem_filter]
  exact ⟨List.mem_range.2 hk, by rw [hx]; simp⟩
theorem xor_self_back (a b : UInt8) : a ^^^ b ^^^ b = a := by
  rw [UInt8.xor_assoc, UInt8.xor_self, UInt8.xor_zero]
theorem flipB_twice {s : ByteArray} {b : Nat} (hb : b < 8 * s.size) : flipB (flipB s b) b = s := by
  have hk : b / 8 < s.data.toList.length := by rw [Array.length_toList]; show b / 8 < s.size; omega
  unfold flipB
  congr 1
  dsimp only
  simp only [List.getD_eq_getElem?_getD, List.getElem?_set_self hk, Option.getD_some, List.set_set, List.getElem?_eq_getElem hk, xor_self_back, List.set_getElem_self]
theorem bit_ne : ∀ m : Fin 8, UInt8.ofNat (2 ^ m.val) ≠ 0 := by decide
theorem flipB_ne {s : ByteArray} {b : Nat} (hb : b < 8 * s.size) : flipB s b ≠ s := by
  intro h
  have hk : b / 8 < s.data.toList.length := by rw [Array.length_toList]; show b / 8 < s.size; omega
  have h1 : (flipB s b).data.toList = s.data.toList := by rw [h]
  unfold flipB at h1
  have h2 := congrArg (fun l : List UInt8 => l[b / 8]?) h1
  dsimp only at h2
  rw [List.getElem?_set_self hk, List.getD_eq_getElem?_getD, List.getElem?_eq_getElem hk, Option.getD_some] at h2
  injection h2 with h2
  have h3 : UInt8.ofNat (2 ^ (b % 8)) = 0 := by
    have h4 : s.data.toList[b / 8] ^^^ (s.data.toList[b / 8] ^^^ UInt8.ofNat (2 ^ (b % 8))) = s.data.toList[b / 8] ^^^ s.data.toList[b / 8] := by rw [h2]
    rwa [← UInt8.xor_assoc, UInt8.xor_self, UInt8.zero_xor] at h4
  exact bit_ne ⟨b % 8, by omega⟩ h3
theorem spoil_twice {n : NetD} {k b : Nat} {x : FlightD} (hx : n.list[k]? = some x) (hb : b < 8 * x.bytes.size) : (n.list.set k (spoil x b)).set k (spoil (spoil x b) b) = n.list := by
  obtain ⟨hk, he⟩ := List.getElem?_eq_some_iff.1 hx
  have h1 : spoil (spoil x b) b = x := by
    unfold spoil
    dsimp only
    rw [flipB_twice hb]
  rw [List.set_set, h1, ← he, List.set_getElem_self]
end Go.Proofs.Ytllljddojncemaa
