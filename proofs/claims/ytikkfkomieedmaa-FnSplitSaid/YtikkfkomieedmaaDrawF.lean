/-
  Long rows of bytes as the reference draws them.
-/
import Derived.Test.YtikkfkomieedmaaDrawN
import Derived.Laws.OwnMore
namespace Go.Proofs.Ytikkfkomieedmaa
open Go.RowKit

theorem zero_bytes (n : Nat) : (madeCells #[.int .u8 0] n).toList = (List.replicate n (0 : UInt8)).flatMap eB := by
  rw [toList_madeCells_one]
  induction n with
  | zero => rfl
  | succ n ih => rw [List.replicate_succ, List.replicate_succ, List.flatMap_cons, ih]; rfl
theorem own_zero (w : World) (n : Nat) (hm : n ≤ maxLen) : OwnS (w.alloc (.cells (madeCells #[.int .u8 0] n) 5)) w.heap.size (w.heap.size + 1) 5 1 eB (.slice (some ⟨w.heap.size, 0, none⟩) n n) (List.replicate n (0 : UInt8)) := by
  have h := own_made w (madeCells #[.int .u8 0] n) n 5 1 hm (by rw [size_madeCells, Nat.mul_one])
  rw [zero_bytes] at h
  exact OwnS.of h (by simp)

set_option maxRecDepth 100000 in
set_option maxHeartbeats 2000000 in
theorem l1DrawLong_s (g : Nat) (most : Int) (w : World) (hc : Cur w g) (h0 : 0 ≤ most) (h1 : most ≤ 4000) : Calls Try.prog 27 #[.pointer (some ⟨g, 0, none⟩), .int .i64 most] w fun e w' => ∃ v l, e = .returned v ∧ O_ByteS w' w.heap.size w'.heap.size v l ∧ l.length ≤ 4001 ∧ Cur w' g ∧ Fr g (g + 1) w w' := by
  have hg := hc.lt
  obtain ⟨i0, hi0, hz0, hz1, hz2⟩ := info_parts info_Byte
  go_enter Try.func27, Try.ntmps27
  go_wp2_with fail
  refine (l1DrawBytes_s g _ _ hc h0 h1).mono ?_
  rintro e w1 ⟨v, l, rfl, ho, hlen, -, hc1, hF1⟩
  have hz1' := hF1.size
  go_wp2_with fail
  refine (l1Once_s g 30 _ hc1 (by omega)).mono ?_
  rintro e w2 ⟨b, rfl, hc2, hF2⟩
  have hF12 := hF1.trans hF2
  have hz2' := hF2.size
  cases b with
  | false =>
    go_wp2
    go_ret
    exact ⟨_, l, rfl, (ho.keep (keepF hF2 (Nat.le_refl _) (.inr hg))).wide (Nat.le_refl _) hz2', by omega, hc2, hF12⟩
  | true =>
    go_wp2_with fail
    refine (l1Below_s g 2 _ hc2 (by omega)).mono ?_
    rintro e w3 ⟨u, rfl, hu, -, hc3, hF3⟩
    have hu' := hu (by omega)
    have hz3' := (hF12.trans hF3).size
    have hmk := fun W => run_make_rows (P := Try.prog) 22 5 i0 _ Try.underlying22 hi0 hz0 .i64 .i64 (4000 + u) (by rw [hz2]; omega) (by omega) W
    rw [hz1, show (((4000 + u : Nat)) : Int) = 4000 + (u : Int) from by push_cast; rfl] at hmk
    have hA : Ext w3 (w3.alloc (.cells (madeCells #[.int .u8 0] (4000 + u)) 5)) := (Ext.refl _).alloc _
    have ho3 := own_zero w3 (4000 + u) (by unfold maxLen; omega)
    have hsz3 : (w3.alloc (.cells (madeCells #[.int .u8 0] (4000 + u)) 5)).heap.size = w3.heap.size + 1 := by simp
    go_wp2
    go_ret
    exact ⟨_, _, rfl, ho3.wide hz3' (by omega), by simp; omega, hc3.ext hA, (hF12.trans hF3).thenExt hA⟩
set_option maxRecDepth 100000 in
theorem drawFrame_s (A : Option Addr) (n c : Nat) (l : List UInt8) (w : World) (hr : Rd w w.heap.size 1 A n (l.flatMap eB)) (hl : l.length = n) (hn : n ≤ 4611686018427387904) : Calls Try.prog 13 #[.slice A n c] w fun e w' => ∃ v L, e = .returned v ∧ O_ByteS w' w.heap.size w'.heap.size v L ∧ L.length ≤ 4001 ∧ Ext w w' := by
  go_enter Try.func13, Try.ntmps13
  go_wp2_with fail
  refine (l1New_s A n c l _ hr hl hn).mono ?_
  rintro e w1 ⟨rfl, hc1, hE1⟩
  have hz1' := hE1.size
  go_wp2_with fail
  refine (l1Size_s A n c 60 _ hn (by omega)).mono ?_
  rintro e w1_ ⟨x, hx, rfl, rfl⟩
  go_wp2_with fail
  refine (l1DrawLong_s _ x _ hc1 (by omega) (by omega)).mono ?_
  rintro e w2 ⟨v, L, rfl, ho, hlen, hc2, hF2⟩
  go_wp2
  go_ret
  exact ⟨_, L, rfl, ho.wide hz1' (Nat.le_refl _), hlen, hE1.fr hF2 (Nat.le_refl _)⟩

end Go.Proofs.Ytikkfkomieedmaa
