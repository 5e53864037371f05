/-
  No cell of these rows narrows 'for every input' (looked for: loops, veiled, ifaces, maps, wideKeys, modest, calm, conditions, laid).
  DERIVED. THE GIVEN ROWS OF THIS SEAT. 3 by the template 'for every input the law returns true; each argument reads behind the call as it read before'; 0 by the template 'total and deterministic' (their statements: YtikkfkomieedmaaTotals.lean).
  GIVEN WITH THE SEED: the statements are not yours to turn. If you find one false, say at which input.
  Laid BY PROGRAM, IN A SANDBOX (cutbox-rows.mjs): the forced cells as the released guide's own fill.sh prints them over the translation bacf46e50cc4f9fd… (all of the seat's roots in one cut). By AI agents, Wed Nov 11 2026. No macro, syntax, notation, axiom, sorry.
-/
import Derived.Test.YtikkfkomieedmaaChecked
import GoSem.Claim
import GoSem.ClaimJoined
import GoSem.ClaimMapViews
import Derived.JoinedTies
import Derived.KernelRfl
namespace Go.Proofs.Ytikkfkomieedmaa
/- THE CELL 'sum', in the pinned program and in every row, IS THE sha256 OF THE DUMP (.gsa) THAT YtikkfkomieedmaaProg.lean LOADS. Nothing in Lean hashes anything: it is a label: what it is worth is what the hold of that sum in a sandbox is worth. -/
noncomputable def Try.pinned : Pinned := { name := "ytikkfkomieedmaa", sum := "bacf46e50cc4f9fd622be0b981828d9587fcfe38f61050e93074cd4c32ca7a3e", checked := Try.checked }
namespace Rows
def none {H : Type} : Left H := { results := [], args := [] }

/-- 'laws.FnNums1': WHATEVER THE INPUT: true; the input reads as it did. -/
def fnNums1Spec : ChangeSpec := { name := "fnNums1", fn := fun _ => fun
  | [d] => { results := [.lit (.bool true)], args := [d] }
  | _ => none }
def fnNums1Row : OpenClaim := { program := "ytikkfkomieedmaa", sum := "bacf46e50cc4f9fd622be0b981828d9587fcfe38f61050e93074cd4c32ca7a3e", func := "loop.example/g00097/laws.FnNums1", spec := "fnNums1", apart := false }
def FnNums1Said : Prop := fnNums1Row.holds Try.pinned (OpenSpec.ofChange fnNums1Spec)

/-- ITS FALSE NEIGHBOUR: 'it returns false'. Refute it at one input. -/
def fnNums1Wrong : ChangeSpec := { name := "fnNums1", fn := fun _ => fun
  | [d] => { results := [.lit (.bool false)], args := [d] }
  | _ => none }
def FnNums1WrongFalsely : Prop := fnNums1Row.holds Try.pinned (OpenSpec.ofChange fnNums1Wrong)

/-- 'laws.FnFrame': WHATEVER THE INPUT: true; the input reads as it did. -/
def fnFrameSpec : ChangeSpec := { name := "fnFrame", fn := fun _ => fun
  | [d] => { results := [.lit (.bool true)], args := [d] }
  | _ => none }
def fnFrameRow : OpenClaim := { program := "ytikkfkomieedmaa", sum := "bacf46e50cc4f9fd622be0b981828d9587fcfe38f61050e93074cd4c32ca7a3e", func := "loop.example/g00097/laws.FnFrame", spec := "fnFrame", apart := false }
def FnFrameSaid : Prop := fnFrameRow.holds Try.pinned (OpenSpec.ofChange fnFrameSpec)

/-- ITS FALSE NEIGHBOUR: 'it returns false'. Refute it at one input. -/
def fnFrameWrong : ChangeSpec := { name := "fnFrame", fn := fun _ => fun
  | [d] => { results := [.lit (.bool false)], args := [d] }
  | _ => none }
def FnFrameWrongFalsely : Prop := fnFrameRow.holds Try.pinned (OpenSpec.ofChange fnFrameWrong)

/-- 'laws.FnSplit': WHATEVER THE INPUT: true; the input reads as it did. -/
def fnSplitSpec : ChangeSpec := { name := "fnSplit", fn := fun _ => fun
  | [d] => { results := [.lit (.bool true)], args := [d] }
  | _ => none }
def fnSplitRow : OpenClaim := { program := "ytikkfkomieedmaa", sum := "bacf46e50cc4f9fd622be0b981828d9587fcfe38f61050e93074cd4c32ca7a3e", func := "loop.example/g00097/laws.FnSplit", spec := "fnSplit", apart := false }
def FnSplitSaid : Prop := fnSplitRow.holds Try.pinned (OpenSpec.ofChange fnSplitSpec)

/-- ITS FALSE NEIGHBOUR: 'it returns false'. Refute it at one input. -/
def fnSplitWrong : ChangeSpec := { name := "fnSplit", fn := fun _ => fun
  | [d] => { results := [.lit (.bool false)], args := [d] }
  | _ => none }
def FnSplitWrongFalsely : Prop := fnSplitRow.holds Try.pinned (OpenSpec.ofChange fnSplitWrong)

/- THE SECOND FORM. 'bulk': how many values and letters a reading holds, each counted each time it is reached (what is shared counts as often as it is met; a slice's spare places count too). A statement '..UptoSaid' is the law's where the arguments, and the package variables that the reading takes, are together of bulk at most 1048576: NARROWER than '..Said'. Prove '..Said' where nothing that the law and all that it calls make is longer than what came in: it says more and counts as full. Else prove '..UptoSaid'. A law counts once. -/
mutual
def uptoBulk {H : Type} : DataW H → Nat
  | .lit (.string bytes) => bytes.length + 1
  | .lit _ => 1
  | .nil => 1
  | .ptr d => uptoBulk d + 1
  | .slice elems spare => uptoBulkAll elems + uptoBulkAll spare + 1
  | .agg parts => uptoBulkAll parts + 1
  | .iface _ d => uptoBulk d + 1
  | .map entries => uptoBulkEntries entries + 1
  | .held _ => 1
def uptoBulkAll {H : Type} : List (DataW H) → Nat
  | [] => 0
  | d :: r => uptoBulk d + uptoBulkAll r
def uptoBulkEntries {H : Type} : List (Lit × DataW H) → Nat
  | [] => 0
  | x :: r => uptoBulkEntry x + uptoBulkEntries r
def uptoBulkEntry {H : Type} : Lit × DataW H → Nat
  | (.string bytes, d) => bytes.length + uptoBulk d + 1
  | (_, d) => uptoBulk d + 1
 end
def uptoSmall : (H : Type) → List (DataW H) → Bool := fun _ ds => decide (uptoBulkAll ds ≤ 1048576)
def OpenSpec.upto (s : _root_.Go.ChangeSpec) : _root_.Go.OpenSpec := { _root_.Go.OpenSpec.ofChange s with cond := some uptoSmall }

/-- 'laws.FnNums1', WHERE WHAT IT READS IS OF BULK AT MOST 1048576: true; the input reads as it did. -/
def fnNums1UptoRow : OpenClaim := { program := "ytikkfkomieedmaa", sum := "bacf46e50cc4f9fd622be0b981828d9587fcfe38f61050e93074cd4c32ca7a3e", func := "loop.example/g00097/laws.FnNums1", spec := "fnNums1", apart := false, narrowed := true }
def FnNums1UptoSaid : Prop := fnNums1UptoRow.holds Try.pinned (OpenSpec.upto fnNums1Spec)

/-- 'laws.FnFrame', WHERE WHAT IT READS IS OF BULK AT MOST 1048576: true; the input reads as it did. -/
def fnFrameUptoRow : OpenClaim := { program := "ytikkfkomieedmaa", sum := "bacf46e50cc4f9fd622be0b981828d9587fcfe38f61050e93074cd4c32ca7a3e", func := "loop.example/g00097/laws.FnFrame", spec := "fnFrame", apart := false, narrowed := true }
def FnFrameUptoSaid : Prop := fnFrameUptoRow.holds Try.pinned (OpenSpec.upto fnFrameSpec)

/-- 'laws.FnSplit', WHERE WHAT IT READS IS OF BULK AT MOST 1048576: true; the input reads as it did. -/
def fnSplitUptoRow : OpenClaim := { program := "ytikkfkomieedmaa", sum := "bacf46e50cc4f9fd622be0b981828d9587fcfe38f61050e93074cd4c32ca7a3e", func := "loop.example/g00097/laws.FnSplit", spec := "fnSplit", apart := false, narrowed := true }
def FnSplitUptoSaid : Prop := fnSplitUptoRow.holds Try.pinned (OpenSpec.upto fnSplitSpec)

end Rows
end Go.Proofs.Ytikkfkomieedmaa
