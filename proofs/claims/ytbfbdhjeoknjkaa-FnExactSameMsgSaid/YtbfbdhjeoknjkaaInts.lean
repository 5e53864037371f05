/-
  Lists of ints: copied, compared, marked, held.
-/
import Derived.Test.YtbfbdhjeoknjkaaBase
import Derived.Test.YtbfbdhjeoknjkaaMath
import Derived.Test.YtbfbdhjeoknjkaaChecked
namespace Go.Proofs.Ytbfbdhjeoknjkaa
open Go.RowKit

theorem info_Int : (Try.prog.info? 3).map (fun i => (i.zero, i.size, i.bytes)) = some (some (.int .i64 0), 1, 8) := by kernel_rfl



/-- The numbers from k on, as they are marked. -/
def marksInt (k : Int) (n : Nat) : List Int := (List.range n).map fun i : Nat => k + (i : Int)
theorem marksInt_succ (k : Int) (n : Nat) : marksInt k (n + 1) = marksInt k n ++ [(fun i : Nat => k + (i : Int)) n] := by simp [marksInt, List.range_succ]
theorem marksInt_length (k : Int) (n : Nat) : (marksInt k n).length = n := by simp [marksInt]



/-! ### the same, for whole values -/

def R_IntS (w : World) (B : Nat) (v : Value) (l : List Int) : Prop := RdS w B 1 eI v l
def O_IntS (w : World) (lo hi : Nat) (v : Value) (l : List Int) : Prop := OwnS w lo hi 3 1 eI v l
def MK_IntS (k : Int) (l : List Int) : List Int := marksInt k l.length
def NK_IntS (l : List Int) : Nat := l.length
theorem R_IntS.keep {w w' : World} {B : Nat} {v : Value} {l : List Int} (h : R_IntS w B v l) (hk : ∀ k, k < B → w'.heap[k]? = w.heap[k]?) : R_IntS w' B v l := RdS.keep h hk
theorem O_IntS.keep {w w' : World} {lo hi : Nat} {v : Value} {l : List Int} (h : O_IntS w lo hi v l) (hk : ∀ k, lo ≤ k → k < hi → w'.heap[k]? = w.heap[k]?) : O_IntS w' lo hi v l := OwnS.keep h hk
theorem O_IntS.rd {w : World} {lo hi : Nat} {v : Value} {l : List Int} (h : O_IntS w lo hi v l) : R_IntS w hi v l := OwnS.rd h
theorem R_IntS.more {w : World} {B B' : Nat} {v : Value} {l : List Int} (h : R_IntS w B v l) (hB : B ≤ B') : R_IntS w B' v l := RdS.more h hB
theorem R_IntS.len {w : World} {B : Nat} {v : Value} {l : List Int} (h : R_IntS w B v l) : l.length ≤ 9223372036854775807 := by
  obtain ⟨A, n, c, _, rfl, h1, h2, _⟩ := h
  unfold maxLen at h2
  omega


end Go.Proofs.Ytbfbdhjeoknjkaa
