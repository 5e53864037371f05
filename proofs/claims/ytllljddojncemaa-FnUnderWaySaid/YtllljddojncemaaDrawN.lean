/-
  Numbers and bytes as the reference draws them.
-/
import Derived.Test.YtllljddojncemaaDraw
import Derived.Test.YtllljddojncemaaInts
import Derived.Test.YtllljddojncemaaBytes
namespace Go.Proofs.Ytllljddojncemaa
open Go.RowKit

theorem Cur.fr {a b : World} {g lo hi : Nat} (h : Cur a g) (hF : Fr lo hi a b) (hlo : g < lo) : Cur b g := by
  have hg := h.lt
  obtain ⟨A, n, c, l, i, hh, x0, x1, x2, hl, hn, hr, hi'⟩ := h
  exact ⟨A, n, c, l, i, hh, x0.fr hF (.inl hlo), x1.fr hF (.inl hlo), x2.fr hF (.inl hlo), hl, hn, hr.fr hF (Nat.le_of_lt hlo) (Nat.le_of_lt hg), hi'⟩
theorem Fr.thenExt {g : Nat} {a b c : World} (h : Fr g (g + 1) a b) (k : Ext b c) : Fr g (g + 1) a c := h.trans (Fr.ext k)
theorem Fr.thenFr {g lo hi : Nat} {a b c : World} (h : Fr g (g + 1) a b) (k : Fr lo hi b c) (hlo : a.heap.size ≤ lo) : Fr g (g + 1) a c :=
  ⟨k.os.trans h.os, k.tape.trans h.tape, k.output.trans h.output, Nat.le_trans h.size k.size, fun i hi hn => (k.block i (Nat.lt_of_lt_of_le hi h.size) (.inl (by omega))).trans (h.block i hi hn)⟩

def FitI (x : Int) : Prop := -9223372036854775808 ≤ x ∧ x ≤ 9223372036854775807
def NatI (x : Int) : Prop := 0 ≤ x ∧ x ≤ 9223372036854775807
def AnyB (_ : UInt8) : Prop := True

set_option maxRecDepth 100000 in
set_option maxHeartbeats 4000000 in
theorem l1DrawBytes_s (g : Nat) (most : Int) (w : World) (hc : Cur w g) (h0 : 0 ≤ most) (h1 : most ≤ 4000) : Calls Try.prog 69 #[.pointer (some ⟨g, 0, none⟩), .int .i64 most] w fun e w' => ∃ v l, e = .returned v ∧ O_ByteS w' w.heap.size w'.heap.size v l ∧ (l.length : Int) ≤ most ∧ (∀ x ∈ l, AnyB x) ∧ Cur w' g ∧ Fr g (g + 1) w w' := by
  have hg := hc.lt
  obtain ⟨i0, hi0, hz0, hz1, hz2⟩ := info_parts info_Byte
  have hA0 : Ext w (w.alloc (.cells #[] 5)) := (Ext.refl _).alloc _
  go_enter Try.func69, Try.ntmps69
  go_wp2_with fail
  refine (l1Below_s g _ _ (hc.ext hA0) (by omega)).mono ?_
  rintro e w1 ⟨n, rfl, hn, -, hc1, hF1⟩
  have hn' := hn (by omega)
  have hF0 : Fr g (g + 1) w w1 := (Fr.ext hA0).trans hF1
  have hzz := hF0.size
  clear hn hF1 hA0
  go_wp2
  go_loopw [5, 7] (fun ov iv wr => ∃ (k : Nat) (L : List UInt8) (A' : Option Addr) (c' : Nat), k ≤ n ∧ iv = .int .i64 k ∧ ov = .slice A' k c' ∧ Hid (L.length = k) ∧ Own wr w.heap.size wr.heap.size 5 1 (.slice A' k c') k (L.flatMap eB) ∧ Hid (∀ x ∈ L, AnyB x) ∧ Cur wr g ∧ Fr g (g + 1) w wr) (fun _ iv _ => n - (intOf iv).toNat)
  case atStart => exact ⟨0, [], _, 0, by omega, rfl, rfl, rfl, Own.nil _ _ _ _ _ _, fun x hx => absurd hx (by simp), hc1, hF0⟩
  case round =>
    obtain ⟨k, L, A', c', hk, rfl, rfl, hL, hown, hP, hcr, hFr⟩ := hrel
    have hzr := hFr.size
    by_cases hlt : k < n
    · have hlt' : (k : Int) < (n : Int) := by omega
      go_wp2_with fail
      refine (l1Byte_s g _ hcr).mono ?_
      rintro e w2 ⟨x, hx, rfl, hc2, hF2⟩
      have hz2' := hF2.size
      have hown2 := hown.fr hF2 (.inr hg)
      have hxe : ((UInt8.ofNat x).toNat : Int) = (x : Int) := by rw [UInt8.toNat_ofNat']; omega
      rw [← hxe]
      clear hxe
      go_wp2_with (at_builtin; refine wpList_app _ rfl _ _ 50 rfl 5 i0 _ 1 1 Try.underlying50 hi0 hz0 hz1 hz2 rfl (by omega) w.heap.size wr.heap.size (.slice A' k c') k (L.flatMap eB) rfl (((Ext.refl w2).alloc _).own hown2 (by omega)) (by simp; omega) (by simp; omega) (w2.heap.size + 1) (some ⟨w2.heap.size, 0, none⟩) 1 1 (eB (UInt8.ofNat x)) rfl (own_made w2 #[.int .u8 ((UInt8.ofNat x).toNat : Int)] 1 5 1 (by unfold maxLen; omega) rfl).rd.2.2.2 (by simp [eB, Value.oneCell']) (by unfold maxLen; omega) (by omega) ?_)
      intro A3 c3 w3 o3 hg3
      have hA2 : Ext w2 (w2.alloc (.cells #[.int .u8 ((UInt8.ofNat x).toNat : Int)] 5)) := (Ext.refl _).alloc _
      have hF3 : Fr _ _ _ w3 := Fr.of_grown hg3 (fun g h => hown2.lt g h)
      have hc3 : Cur w3 g := (hc2.ext hA2).fr hF3 hg
      have hF4 : Fr g (g + 1) w w3 := ((hFr.trans hF2).thenExt hA2).thenFr hF3 (Nat.le_refl _)
      have hL3 : Hid ((L ++ [UInt8.ofNat x]).length = k + 1) := by show _ = _; rw [List.length_append, hL.out]; rfl
      have hP3 : Hid (∀ y ∈ L ++ [UInt8.ofNat x], AnyB y) := by
        intro y hy
        rcases List.mem_append.1 hy with hy | hy
        · exact hP.out y hy
        · rw [List.mem_singleton.1 hy]
          trivial
      replace o3 : Own w3 w.heap.size w3.heap.size 5 1 (.slice A3 (k + 1) c3) (k + 1) ((L ++ [UInt8.ofNat x]).flatMap eB) := by rw [List.flatMap_append, List.flatMap_cons, List.flatMap_nil, List.append_nil]; exact o3
      clear hown hown2 hg3 hF3 hA2 hc2 hF2
      go_wp2
      go_roundw
      case rel => exact ⟨k + 1, L ++ [UInt8.ofNat x], A3, c3, by omega, by go_num, rfl, hL3, o3, hP3, hc3, hF4⟩
      case measure => simp [intOf]; omega
    · obtain rfl : n = k := by omega
      go_wp2
      go_ret
      exact ⟨_, L, rfl, OwnS.of hown hL.out, by have := hL.out; omega, hP.out, hcr, hFr⟩

end Go.Proofs.Ytllljddojncemaa
