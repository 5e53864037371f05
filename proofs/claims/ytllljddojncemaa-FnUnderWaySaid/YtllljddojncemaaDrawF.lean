/-
  Long rows of bytes as the reference draws them.
-/
import Derived.Test.YtllljddojncemaaDrawN
import Derived.Laws.OwnMore
namespace Go.Proofs.Ytllljddojncemaa
open Go.RowKit

theorem zero_bytes (n : Nat) : (madeCells #[.int .u8 0] n).toList = (List.replicate n (0 : UInt8)).flatMap eB := by
  rw [toList_madeCells_one]
  induction n with
  | zero => rfl
  | succ n ih => rw [List.replicate_succ, List.replicate_succ, List.flatMap_cons, ih]; rfl
theorem own_zero (w : World) (n : Nat) (hm : n ≤ maxLen) : OwnS (w.alloc (.cells (madeCells #[.int .u8 0] n) 5)) w.heap.size (w.heap.size + 1) 5 1 eB (.slice (some ⟨w.heap.size, 0, none⟩) n n) (List.replicate n (0 : UInt8)) := by
  have h := own_made w (madeCells #[.int .u8 0] n) n 5 1 hm (by rw [size_madeCells, Nat.mul_one])
  rw [zero_bytes] at h
  exact OwnS.of h (by simp)


end Go.Proofs.Ytllljddojncemaa
