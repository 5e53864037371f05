/-
  Lists of bytes: copied, compared, marked, held.
-/
import Derived.Test.YtocmcfilldfdlaaBase
import Derived.Test.YtocmcfilldfdlaaMath
import Derived.Test.YtocmcfilldfdlaaChecked
namespace Go.Proofs.Ytocmcfilldfdlaa
open Go.RowKit

theorem info_Byte : (Try.prog.info? 5).map (fun i => (i.zero, i.size, i.bytes)) = some (some (.int .u8 0), 1, 1) := by kernel_rfl



/-- The numbers from k on, as they are marked. -/
def marksByte (k : Int) (n : Nat) : List UInt8 := (List.range n).map fun i : Nat => UInt8.ofNat (k + (i : Int)).toNat
theorem marksByte_succ (k : Int) (n : Nat) : marksByte k (n + 1) = marksByte k n ++ [(fun i : Nat => UInt8.ofNat (k + (i : Int)).toNat) n] := by simp [marksByte, List.range_succ]
theorem marksByte_length (k : Int) (n : Nat) : (marksByte k n).length = n := by simp [marksByte]



/-! ### the same, for whole values -/

def R_ByteS (w : World) (B : Nat) (v : Value) (l : List UInt8) : Prop := RdS w B 1 eB v l
def O_ByteS (w : World) (lo hi : Nat) (v : Value) (l : List UInt8) : Prop := OwnS w lo hi 5 1 eB v l
def MK_ByteS (k : Int) (l : List UInt8) : List UInt8 := marksByte k l.length
def NK_ByteS (l : List UInt8) : Nat := l.length
theorem R_ByteS.keep {w w' : World} {B : Nat} {v : Value} {l : List UInt8} (h : R_ByteS w B v l) (hk : ∀ k, k < B → w'.heap[k]? = w.heap[k]?) : R_ByteS w' B v l := RdS.keep h hk
theorem O_ByteS.keep {w w' : World} {lo hi : Nat} {v : Value} {l : List UInt8} (h : O_ByteS w lo hi v l) (hk : ∀ k, lo ≤ k → k < hi → w'.heap[k]? = w.heap[k]?) : O_ByteS w' lo hi v l := OwnS.keep h hk
theorem O_ByteS.rd {w : World} {lo hi : Nat} {v : Value} {l : List UInt8} (h : O_ByteS w lo hi v l) : R_ByteS w hi v l := OwnS.rd h
theorem R_ByteS.more {w : World} {B B' : Nat} {v : Value} {l : List UInt8} (h : R_ByteS w B v l) (hB : B ≤ B') : R_ByteS w B' v l := RdS.more h hB
theorem R_ByteS.len {w : World} {B : Nat} {v : Value} {l : List UInt8} (h : R_ByteS w B v l) : l.length ≤ 9223372036854775807 := by
  obtain ⟨A, n, c, _, rfl, h1, h2, _⟩ := h
  unfold maxLen at h2
  omega


end Go.Proofs.Ytocmcfilldfdlaa
