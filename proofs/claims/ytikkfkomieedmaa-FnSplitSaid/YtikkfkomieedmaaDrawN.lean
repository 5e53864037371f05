/-
  Numbers and bytes as the reference draws them.
-/
import Derived.Test.YtikkfkomieedmaaDraw
import Derived.Test.YtikkfkomieedmaaInts
import Derived.Test.YtikkfkomieedmaaBytes
namespace Go.Proofs.Ytikkfkomieedmaa
open Go.RowKit

theorem Cur.fr {a b : World} {g lo hi : Nat} (h : Cur a g) (hF : Fr lo hi a b) (hlo : g < lo) : Cur b g := by
  have hg := h.lt
  obtain ⟨A, n, c, l, i, hh, x0, x1, x2, hl, hn, hr, hi'⟩ := h
  exact ⟨A, n, c, l, i, hh, x0.fr hF (.inl hlo), x1.fr hF (.inl hlo), x2.fr hF (.inl hlo), hl, hn, hr.fr hF (Nat.le_of_lt hlo) (Nat.le_of_lt hg), hi'⟩
theorem Fr.thenExt {g : Nat} {a b c : World} (h : Fr g (g + 1) a b) (k : Ext b c) : Fr g (g + 1) a c := h.trans (Fr.ext k)
theorem Fr.thenFr {g lo hi : Nat} {a b c : World} (h : Fr g (g + 1) a b) (k : Fr lo hi b c) (hlo : a.heap.size ≤ lo) : Fr g (g + 1) a c :=
  ⟨k.os.trans h.os, k.tape.trans h.tape, k.output.trans h.output, Nat.le_trans h.size k.size, fun i hi hn => (k.block i (Nat.lt_of_lt_of_le hi h.size) (.inl (by omega))).trans (h.block i hi hn)⟩

def FitI (x : Int) : Prop := -9223372036854775808 ≤ x ∧ x ≤ 9223372036854775807
def NatI (x : Int) : Prop := 0 ≤ x ∧ x ≤ 9223372036854775807
def AnyB (_ : UInt8) : Prop := True

theorem l1Max_d (a b : Int) (w : World) : Calls Try.prog 34 #[.int .i64 a, .int .i64 b] w fun e w' => e = .returned (.int .i64 (max a b)) ∧ w = w' := by
  by_cases h : b < a
  · go_enter Try.func34, Try.ntmps34
    go_wp2
    go_ret
    exact ⟨ret_int (by omega), rfl⟩
  · go_enter Try.func34, Try.ntmps34
    go_wp2
    go_ret
    exact ⟨ret_int (by omega), rfl⟩
set_option maxRecDepth 100000 in
set_option maxHeartbeats 2000000 in
theorem l1DrawNum_s (g : Nat) (w : World) (hc : Cur w g) : Calls Try.prog 35 #[.pointer (some ⟨g, 0, none⟩)] w fun e w' => ∃ x, FitI x ∧ e = .returned (.int .i64 x) ∧ Cur w' g ∧ Fr g (g + 1) w w' := by
  have hg := hc.lt
  go_enter Try.func35, Try.ntmps35
  go_wp2_with fail
  refine (l1Below_s g _ _ hc (by omega)).mono ?_
  rintro e w1 ⟨a, rfl, ha, -, hc1, hF1⟩
  have ha' := ha (by omega)
  go_wp2_with fail
  refine (l1Below_s g _ _ hc1 (by omega)).mono ?_
  rintro e w2 ⟨b, rfl, hb, -, hc2, hF2⟩
  have hb' := hb (by omega)
  have hz := (hF1.trans hF2).size
  have hA : Ext w2 (w2.alloc (.cells #[.int .i64 0, .int .i64 1, .int .i64 127, .int .i64 128, .int .i64 255, .int .i64 16383, .int .i64 16384, .int .i64 2097151, .int .i64 2097152, .int .i64 (-1), .int .i64 9223372036854775807, .int .i64 72057594037927935, .int .i64 (a : Int), .int .i64 (b : Int)] 3)) := (Ext.refl _).alloc _
  have hcell : ∀ j x, ([0, 1, 127, 128, 255, 16383, 16384, 2097151, 2097152, -1, 9223372036854775807, 72057594037927935, (a : Int), (b : Int)] : List Int)[j]? = some x → (w2.alloc (.cells #[.int .i64 0, .int .i64 1, .int .i64 127, .int .i64 128, .int .i64 255, .int .i64 16383, .int .i64 16384, .int .i64 2097151, .int .i64 2097152, .int .i64 (-1), .int .i64 9223372036854775807, .int .i64 72057594037927935, .int .i64 (a : Int), .int .i64 (b : Int)] 3)).cell? ⟨w2.heap.size, j, none⟩ = some (.int .i64 x) := by
    intro j x hx
    refine new_box w2 _ (([0, 1, 127, 128, 255, 16383, 16384, 2097151, 2097152, -1, 9223372036854775807, 72057594037927935, (a : Int), (b : Int)] : List Int).map (Value.int .i64)).toArray _ j _ rfl ?_
    rw [List.getElem?_toArray, List.getElem?_map, hx]
    rfl
  go_wp2_with fail
  refine (l1PickInt_s g w2.heap.size ([0, 1, 127, 128, 255, 16383, 16384, 2097151, 2097152, -1, 9223372036854775807, 72057594037927935, (a : Int), (b : Int)] : List Int) _ (hc2.ext hA) (by omega) (by simp) (by simp) hcell).mono ?_
  rintro e w3 ⟨x, hx, rfl, hc3, hF3⟩
  have hfx : FitI x := by
    simp only [List.mem_cons, List.not_mem_nil, or_false] at hx
    unfold FitI
    omega
  clear hx
  go_wp2
  go_ret
  exact ⟨x, hfx, rfl, hc3, ((hF1.trans hF2).thenExt hA).trans hF3⟩
set_option maxRecDepth 100000 in
set_option maxHeartbeats 4000000 in
theorem l1DrawNums_s (g : Nat) (most : Int) (w : World) (hc : Cur w g) (h0 : 0 ≤ most) (h1 : most ≤ 4000) : Calls Try.prog 22 #[.pointer (some ⟨g, 0, none⟩), .int .i64 most] w fun e w' => ∃ v l, e = .returned v ∧ O_IntS w' w.heap.size w'.heap.size v l ∧ (l.length : Int) ≤ most ∧ (∀ x ∈ l, NatI x) ∧ Cur w' g ∧ Fr g (g + 1) w w' := by
  have hg := hc.lt
  obtain ⟨i0, hi0, hz0, hz1, hz2⟩ := info_parts info_Int
  have hA0 : Ext w (w.alloc (.cells #[] 3)) := (Ext.refl _).alloc _
  go_enter Try.func22, Try.ntmps22
  go_wp2_with fail
  refine (l1Below_s g _ _ (hc.ext hA0) (by omega)).mono ?_
  rintro e w1 ⟨n, rfl, hn, -, hc1, hF1⟩
  have hn' := hn (by omega)
  have hF0 : Fr g (g + 1) w w1 := (Fr.ext hA0).trans hF1
  have hzz := hF0.size
  clear hn hF1 hA0
  go_wp2
  go_loopw [5, 7] (fun ov iv wr => ∃ (k : Nat) (L : List Int) (A' : Option Addr) (c' : Nat), k ≤ n ∧ iv = .int .i64 k ∧ ov = .slice A' k c' ∧ Hid (L.length = k) ∧ Own wr w.heap.size wr.heap.size 3 1 (.slice A' k c') k (L.flatMap eI) ∧ Hid (∀ x ∈ L, NatI x) ∧ Cur wr g ∧ Fr g (g + 1) w wr) (fun _ iv _ => n - (intOf iv).toNat)
  case atStart => exact ⟨0, [], _, 0, by omega, rfl, rfl, rfl, Own.nil _ _ _ _ _ _, fun x hx => absurd hx (by simp), hc1, hF0⟩
  case round =>
    obtain ⟨k, L, A', c', hk, rfl, rfl, hL, hown, hP, hcr, hFr⟩ := hrel
    have hzr := hFr.size
    by_cases hlt : k < n
    · have hlt' : (k : Int) < (n : Int) := by omega
      go_wp2_with fail
      refine (l1DrawNum_s g _ hcr).mono ?_
      rintro e w2 ⟨x, hx, rfl, hc2, hF2⟩
      have hz2' := hF2.size
      have hown2 := hown.fr hF2 (.inr hg)
      go_wp2_with fail
      refine (l1Max_d _ _ _).mono ?_
      rintro e w2_ ⟨rfl, rfl⟩
      go_wp2_with (at_builtin; refine wpList_app _ rfl _ _ 24 rfl 3 i0 _ 1 8 Try.underlying24 hi0 hz0 hz1 hz2 rfl (by omega) w.heap.size wr.heap.size (.slice A' k c') k (L.flatMap eI) rfl (((Ext.refl w2).alloc _).own hown2 (by omega)) (by simp; omega) (by simp; omega) (w2.heap.size + 1) (some ⟨w2.heap.size, 0, none⟩) 1 1 (eI (max x 0)) rfl (own_made w2 #[.int .i64 (max x 0)] 1 3 1 (by unfold maxLen; omega) rfl).rd.2.2.2 (by simp [eI, Value.oneCell']) (by unfold maxLen; omega) (by omega) ?_)
      intro A3 c3 w3 o3 hg3
      have hA2 : Ext w2 (w2.alloc (.cells #[.int .i64 (max x 0)] 3)) := (Ext.refl _).alloc _
      have hF3 : Fr _ _ _ w3 := Fr.of_grown hg3 (fun g h => hown2.lt g h)
      have hc3 : Cur w3 g := (hc2.ext hA2).fr hF3 hg
      have hF4 : Fr g (g + 1) w w3 := ((hFr.trans hF2).thenExt hA2).thenFr hF3 (Nat.le_refl _)
      have hL3 : Hid ((L ++ [max x 0]).length = k + 1) := by show _ = _; rw [List.length_append, hL.out]; rfl
      have hP3 : Hid (∀ y ∈ L ++ [max x 0], NatI y) := by
        intro y hy
        rcases List.mem_append.1 hy with hy | hy
        · exact hP.out y hy
        · rw [List.mem_singleton.1 hy]
          unfold FitI at hx; show 0 ≤ _ ∧ _ ≤ _; omega
      replace o3 : Own w3 w.heap.size w3.heap.size 3 1 (.slice A3 (k + 1) c3) (k + 1) ((L ++ [max x 0]).flatMap eI) := by rw [List.flatMap_append, List.flatMap_cons, List.flatMap_nil, List.append_nil]; exact o3
      clear hown hown2 hg3 hF3 hA2 hc2 hF2
      go_wp2
      go_roundw
      case rel => exact ⟨k + 1, L ++ [max x 0], A3, c3, by omega, by go_num, rfl, hL3, o3, hP3, hc3, hF4⟩
      case measure => simp [intOf]; omega
    · obtain rfl : n = k := by omega
      go_wp2
      go_ret
      exact ⟨_, L, rfl, OwnS.of hown hL.out, by have := hL.out; omega, hP.out, hcr, hFr⟩
set_option maxRecDepth 100000 in
set_option maxHeartbeats 4000000 in
theorem l1DrawBytes_s (g : Nat) (most : Int) (w : World) (hc : Cur w g) (h0 : 0 ≤ most) (h1 : most ≤ 4000) : Calls Try.prog 37 #[.pointer (some ⟨g, 0, none⟩), .int .i64 most] w fun e w' => ∃ v l, e = .returned v ∧ O_ByteS w' w.heap.size w'.heap.size v l ∧ (l.length : Int) ≤ most ∧ (∀ x ∈ l, AnyB x) ∧ Cur w' g ∧ Fr g (g + 1) w w' := by
  have hg := hc.lt
  obtain ⟨i0, hi0, hz0, hz1, hz2⟩ := info_parts info_Byte
  have hA0 : Ext w (w.alloc (.cells #[] 5)) := (Ext.refl _).alloc _
  go_enter Try.func37, Try.ntmps37
  go_wp2_with fail
  refine (l1Below_s g _ _ (hc.ext hA0) (by omega)).mono ?_
  rintro e w1 ⟨n, rfl, hn, -, hc1, hF1⟩
  have hn' := hn (by omega)
  have hF0 : Fr g (g + 1) w w1 := (Fr.ext hA0).trans hF1
  have hzz := hF0.size
  clear hn hF1 hA0
  go_wp2
  go_loopw [5, 7] (fun ov iv wr => ∃ (k : Nat) (L : List UInt8) (A' : Option Addr) (c' : Nat), k ≤ n ∧ iv = .int .i64 k ∧ ov = .slice A' k c' ∧ Hid (L.length = k) ∧ Own wr w.heap.size wr.heap.size 5 1 (.slice A' k c') k (L.flatMap eB) ∧ Hid (∀ x ∈ L, AnyB x) ∧ Cur wr g ∧ Fr g (g + 1) w wr) (fun _ iv _ => n - (intOf iv).toNat)
  case atStart => exact ⟨0, [], _, 0, by omega, rfl, rfl, rfl, Own.nil _ _ _ _ _ _, fun x hx => absurd hx (by simp), hc1, hF0⟩
  case round =>
    obtain ⟨k, L, A', c', hk, rfl, rfl, hL, hown, hP, hcr, hFr⟩ := hrel
    have hzr := hFr.size
    by_cases hlt : k < n
    · have hlt' : (k : Int) < (n : Int) := by omega
      go_wp2_with fail
      refine (l1Byte_s g _ hcr).mono ?_
      rintro e w2 ⟨x, hx, rfl, hc2, hF2⟩
      have hz2' := hF2.size
      have hown2 := hown.fr hF2 (.inr hg)
      have hxe : ((UInt8.ofNat x).toNat : Int) = (x : Int) := by rw [UInt8.toNat_ofNat']; omega
      rw [← hxe]
      clear hxe
      go_wp2_with (at_builtin; refine wpList_app _ rfl _ _ 22 rfl 5 i0 _ 1 1 Try.underlying22 hi0 hz0 hz1 hz2 rfl (by omega) w.heap.size wr.heap.size (.slice A' k c') k (L.flatMap eB) rfl (((Ext.refl w2).alloc _).own hown2 (by omega)) (by simp; omega) (by simp; omega) (w2.heap.size + 1) (some ⟨w2.heap.size, 0, none⟩) 1 1 (eB (UInt8.ofNat x)) rfl (own_made w2 #[.int .u8 ((UInt8.ofNat x).toNat : Int)] 1 5 1 (by unfold maxLen; omega) rfl).rd.2.2.2 (by simp [eB, Value.oneCell']) (by unfold maxLen; omega) (by omega) ?_)
      intro A3 c3 w3 o3 hg3
      have hA2 : Ext w2 (w2.alloc (.cells #[.int .u8 ((UInt8.ofNat x).toNat : Int)] 5)) := (Ext.refl _).alloc _
      have hF3 : Fr _ _ _ w3 := Fr.of_grown hg3 (fun g h => hown2.lt g h)
      have hc3 : Cur w3 g := (hc2.ext hA2).fr hF3 hg
      have hF4 : Fr g (g + 1) w w3 := ((hFr.trans hF2).thenExt hA2).thenFr hF3 (Nat.le_refl _)
      have hL3 : Hid ((L ++ [UInt8.ofNat x]).length = k + 1) := by show _ = _; rw [List.length_append, hL.out]; rfl
      have hP3 : Hid (∀ y ∈ L ++ [UInt8.ofNat x], AnyB y) := by
        intro y hy
        rcases List.mem_append.1 hy with hy | hy
        · exact hP.out y hy
        · rw [List.mem_singleton.1 hy]
          trivial
      replace o3 : Own w3 w.heap.size w3.heap.size 5 1 (.slice A3 (k + 1) c3) (k + 1) ((L ++ [UInt8.ofNat x]).flatMap eB) := by rw [List.flatMap_append, List.flatMap_cons, List.flatMap_nil, List.append_nil]; exact o3
      clear hown hown2 hg3 hF3 hA2 hc2 hF2
      go_wp2
      go_roundw
      case rel => exact ⟨k + 1, L ++ [UInt8.ofNat x], A3, c3, by omega, by go_num, rfl, hL3, o3, hP3, hc3, hF4⟩
      case measure => simp [intOf]; omega
    · obtain rfl : n = k := by omega
      go_wp2
      go_ret
      exact ⟨_, L, rfl, OwnS.of hown hL.out, by have := hL.out; omega, hP.out, hcr, hFr⟩
set_option maxRecDepth 100000 in
set_option maxHeartbeats 4000000 in
theorem drawPutNums_s (A : Option Addr) (n c : Nat) (l : List UInt8) (w : World) (hr : Rd w w.heap.size 1 A n (l.flatMap eB)) (hl : l.length = n) (hn : n ≤ 4611686018427387904) : Calls Try.prog 7 #[.slice A n c] w fun e w' => ∃ v L, e = .returned v ∧ O_IntS w' w.heap.size w'.heap.size v L ∧ L.length ≤ 13 ∧ (∀ x ∈ L, FitI x) ∧ Ext w w' := by
  obtain ⟨i0, hi0, hz0, hz1, hz2⟩ := info_parts info_Int
  go_enter Try.func7, Try.ntmps7
  go_wp2_with fail
  refine (l1New_s A n c l _ hr hl hn).mono ?_
  rintro e w1 ⟨rfl, hc1, hE1⟩
  have hz1' := hE1.size
  have hg1 := hc1.lt
  go_wp2_with fail
  refine (l1Size_s A n c 12 _ hn (by omega)).mono ?_
  rintro e w1_ ⟨x, hx, rfl, rfl⟩
  go_wp2_with fail
  refine (l1DrawNums_s _ x _ hc1 (by omega) (by omega)).mono ?_
  rintro e w2 ⟨v, L, rfl, ho, hlen, hP, hc2, hF2⟩
  have hE2 : Ext w w2 := hE1.fr hF2 (Nat.le_refl _)
  have hz2' := hF2.size
  have hP' : Hid (∀ x ∈ L, FitI x) := fun y hy => by have := hP y hy; unfold NatI at this; unfold FitI; omega
  clear hP
  go_wp2_with fail
  refine (l1Once_s _ 9 _ hc2 (by omega)).mono ?_
  rintro e w3 ⟨b, rfl, hc3, hF3⟩
  have hE3 : Ext w w3 := hE2.fr hF3 (Nat.le_refl _)
  have hz3 := hF3.size
  replace ho := ho.keep (keepF hF3 (Nat.le_refl _) (.inr hg1))
  cases b with
  | false =>
    go_wp2
    go_ret
    exact ⟨_, L, rfl, ho.wide (by omega) (by omega), by omega, hP'.out, hE3⟩
  | true =>
    go_wp2_with fail
    refine (l1Below_s _ 3 _ hc3 (by omega)).mono ?_
    rintro e w4 ⟨u, rfl, hu, -, hc4, hF4⟩
    have hu' := hu (by omega)
    have hE4 : Ext w w4 := hE3.fr hF4 (Nat.le_refl _)
    have hz4 := hF4.size
    replace ho := ho.keep (keepF hF4 (by omega) (.inr hg1))
    obtain ⟨A2, n2, c2, rfl, hl2, ow⟩ := ho
    have Hl2 := Lib.hid hl2
    rw [hl2] at hlen
    clear hl2
    go_wp2_with (at_builtin; refine wpList_app _ rfl _ _ 24 rfl 3 i0 _ 1 8 Try.underlying24 hi0 hz0 hz1 hz2 rfl (by omega) w1.heap.size w2.heap.size (.slice A2 n2 c2) n2 (L.flatMap eI) rfl (((Ext.refl w4).alloc _).own ow (by omega)) (by simp; omega) (by simp; omega) (w4.heap.size + 1) (some ⟨w4.heap.size, 0, none⟩) 1 1 (eI (-1 - (u : Int))) rfl (own_made w4 #[.int .i64 (-1 - (u : Int))] 1 3 1 (by unfold maxLen; omega) rfl).rd.2.2.2 (by simp [eI, Value.oneCell']) (by unfold maxLen; omega) (by omega) ?_)
    intro A3 c3 w5 o5 hg5
    have hE5 : Ext w w5 := (hE4.alloc _).grown hg5 (fun g h => by have := (ow.lt g h).1; omega)
    replace o5 : Own w5 w1.heap.size w5.heap.size 3 1 (.slice A3 (n2 + 1) c3) (n2 + 1) ((L ++ [-1 - (u : Int)]).flatMap eI) := by rw [List.flatMap_append, List.flatMap_cons, List.flatMap_nil, List.append_nil]; exact o5
    have hP5 : Hid (∀ y ∈ L ++ [-1 - (u : Int)], FitI y) := by
      intro y hy
      rcases List.mem_append.1 hy with hy | hy
      · exact hP'.out y hy
      · rw [List.mem_singleton.1 hy]
        unfold FitI
        omega
    clear hg5
    go_wp2
    go_ret
    exact ⟨_, L ++ [-1 - (u : Int)], rfl, (OwnS.of o5 (by rw [List.length_append, Hl2.out]; rfl)).wide (by omega) (Nat.le_refl _), by rw [List.length_append, Hl2.out]; simp; omega, hP5.out, hE5⟩

end Go.Proofs.Ytikkfkomieedmaa
