/-
  No cell of these rows narrows 'for every input' (looked for: loops, veiled, ifaces, maps, wideKeys, modest, calm, conditions, laid).
  DERIVED. THE GIVEN ROWS OF THIS SEAT. 11 by the template 'for every input the law returns true; each argument reads behind the call as it read before'; 0 by the template 'total and deterministic' (their statements: YtpemnpoclahfnaaTotals.lean).
  GIVEN WITH THE SEED: the statements are not yours to turn. If you find one false, say at which input.
  Laid BY PROGRAM, IN A SANDBOX (cutbox-rows.mjs): the forced cells as the released guide's own fill.sh prints them over the translation 4f713811f88a308e… (all of the seat's roots in one cut). By AI agents, Wed Nov 11 2026. No macro, syntax, notation, axiom, sorry.
-/
import Derived.Test.YtpemnpoclahfnaaChecked
import GoSem.Claim
import GoSem.ClaimJoined
import GoSem.ClaimMapViews
import Derived.JoinedTies
import Derived.KernelRfl
namespace Go.Proofs.Ytpemnpoclahfnaa
/- THE CELL 'sum', in the pinned program and in every row, IS THE sha256 OF THE DUMP (.gsa) THAT YtpemnpoclahfnaaProg.lean LOADS. Nothing in Lean hashes anything: it is a label: what it is worth is what the hold of that sum in a sandbox is worth. -/
noncomputable def Try.pinned : Pinned := { name := "ytpemnpoclahfnaa", sum := "4f713811f88a308e3792cd29b2ac816ef6dd3c9885f75595ef34c0395676491b", checked := Try.checked }
namespace Rows
def none {H : Type} : Left H := { results := [], args := [] }

/-- 'laws.FnExactPutNum': WHATEVER THE INPUT: true; the input reads as it did. -/
def fnExactPutNumSpec : ChangeSpec := { name := "fnExactPutNum", fn := fun _ => fun
  | [d] => { results := [.lit (.bool true)], args := [d] }
  | _ => none }
def fnExactPutNumRow : OpenClaim := { program := "ytpemnpoclahfnaa", sum := "4f713811f88a308e3792cd29b2ac816ef6dd3c9885f75595ef34c0395676491b", func := "loop.example/g00097/laws.FnExactPutNum", spec := "fnExactPutNum", apart := false }
def FnExactPutNumSaid : Prop := fnExactPutNumRow.holds Try.pinned (OpenSpec.ofChange fnExactPutNumSpec)

/-- ITS FALSE NEIGHBOUR: 'it returns false'. Refute it at one input. -/
def fnExactPutNumWrong : ChangeSpec := { name := "fnExactPutNum", fn := fun _ => fun
  | [d] => { results := [.lit (.bool false)], args := [d] }
  | _ => none }
def FnExactPutNumWrongFalsely : Prop := fnExactPutNumRow.holds Try.pinned (OpenSpec.ofChange fnExactPutNumWrong)

/-- 'laws.FnExactGetNum': WHATEVER THE INPUT: true; the input reads as it did. -/
def fnExactGetNumSpec : ChangeSpec := { name := "fnExactGetNum", fn := fun _ => fun
  | [d1, d2] => { results := [.lit (.bool true)], args := [d1, d2] }
  | _ => none }
def fnExactGetNumRow : OpenClaim := { program := "ytpemnpoclahfnaa", sum := "4f713811f88a308e3792cd29b2ac816ef6dd3c9885f75595ef34c0395676491b", func := "loop.example/g00097/laws.FnExactGetNum", spec := "fnExactGetNum", apart := false }
def FnExactGetNumSaid : Prop := fnExactGetNumRow.holds Try.pinned (OpenSpec.ofChange fnExactGetNumSpec)

/-- ITS FALSE NEIGHBOUR: 'it returns false'. Refute it at one input. -/
def fnExactGetNumWrong : ChangeSpec := { name := "fnExactGetNum", fn := fun _ => fun
  | [d1, d2] => { results := [.lit (.bool false)], args := [d1, d2] }
  | _ => none }
def FnExactGetNumWrongFalsely : Prop := fnExactGetNumRow.holds Try.pinned (OpenSpec.ofChange fnExactGetNumWrong)

/-- 'laws.FnExactPutNums': WHATEVER THE INPUT: true; the input reads as it did. -/
def fnExactPutNumsSpec : ChangeSpec := { name := "fnExactPutNums", fn := fun _ => fun
  | [d] => { results := [.lit (.bool true)], args := [d] }
  | _ => none }
def fnExactPutNumsRow : OpenClaim := { program := "ytpemnpoclahfnaa", sum := "4f713811f88a308e3792cd29b2ac816ef6dd3c9885f75595ef34c0395676491b", func := "loop.example/g00097/laws.FnExactPutNums", spec := "fnExactPutNums", apart := false }
def FnExactPutNumsSaid : Prop := fnExactPutNumsRow.holds Try.pinned (OpenSpec.ofChange fnExactPutNumsSpec)

/-- ITS FALSE NEIGHBOUR: 'it returns false'. Refute it at one input. -/
def fnExactPutNumsWrong : ChangeSpec := { name := "fnExactPutNums", fn := fun _ => fun
  | [d] => { results := [.lit (.bool false)], args := [d] }
  | _ => none }
def FnExactPutNumsWrongFalsely : Prop := fnExactPutNumsRow.holds Try.pinned (OpenSpec.ofChange fnExactPutNumsWrong)

/-- 'laws.FnExactGetNums': WHATEVER THE INPUT: true; the input reads as it did. -/
def fnExactGetNumsSpec : ChangeSpec := { name := "fnExactGetNums", fn := fun _ => fun
  | [d1, d2, d3] => { results := [.lit (.bool true)], args := [d1, d2, d3] }
  | _ => none }
def fnExactGetNumsRow : OpenClaim := { program := "ytpemnpoclahfnaa", sum := "4f713811f88a308e3792cd29b2ac816ef6dd3c9885f75595ef34c0395676491b", func := "loop.example/g00097/laws.FnExactGetNums", spec := "fnExactGetNums", apart := false }
def FnExactGetNumsSaid : Prop := fnExactGetNumsRow.holds Try.pinned (OpenSpec.ofChange fnExactGetNumsSpec)

/-- ITS FALSE NEIGHBOUR: 'it returns false'. Refute it at one input. -/
def fnExactGetNumsWrong : ChangeSpec := { name := "fnExactGetNums", fn := fun _ => fun
  | [d1, d2, d3] => { results := [.lit (.bool false)], args := [d1, d2, d3] }
  | _ => none }
def FnExactGetNumsWrongFalsely : Prop := fnExactGetNumsRow.holds Try.pinned (OpenSpec.ofChange fnExactGetNumsWrong)

/-- 'laws.FnExactFrame': WHATEVER THE INPUT: true; the input reads as it did. -/
def fnExactFrameSpec : ChangeSpec := { name := "fnExactFrame", fn := fun _ => fun
  | [d] => { results := [.lit (.bool true)], args := [d] }
  | _ => none }
def fnExactFrameRow : OpenClaim := { program := "ytpemnpoclahfnaa", sum := "4f713811f88a308e3792cd29b2ac816ef6dd3c9885f75595ef34c0395676491b", func := "loop.example/g00097/laws.FnExactFrame", spec := "fnExactFrame", apart := false }
def FnExactFrameSaid : Prop := fnExactFrameRow.holds Try.pinned (OpenSpec.ofChange fnExactFrameSpec)

/-- ITS FALSE NEIGHBOUR: 'it returns false'. Refute it at one input. -/
def fnExactFrameWrong : ChangeSpec := { name := "fnExactFrame", fn := fun _ => fun
  | [d] => { results := [.lit (.bool false)], args := [d] }
  | _ => none }
def FnExactFrameWrongFalsely : Prop := fnExactFrameRow.holds Try.pinned (OpenSpec.ofChange fnExactFrameWrong)

/-- 'laws.FnNums1': WHATEVER THE INPUT: true; the input reads as it did. -/
def fnNums1Spec : ChangeSpec := { name := "fnNums1", fn := fun _ => fun
  | [d] => { results := [.lit (.bool true)], args := [d] }
  | _ => none }
def fnNums1Row : OpenClaim := { program := "ytpemnpoclahfnaa", sum := "4f713811f88a308e3792cd29b2ac816ef6dd3c9885f75595ef34c0395676491b", func := "loop.example/g00097/laws.FnNums1", spec := "fnNums1", apart := false }
def FnNums1Said : Prop := fnNums1Row.holds Try.pinned (OpenSpec.ofChange fnNums1Spec)

/-- ITS FALSE NEIGHBOUR: 'it returns false'. Refute it at one input. -/
def fnNums1Wrong : ChangeSpec := { name := "fnNums1", fn := fun _ => fun
  | [d] => { results := [.lit (.bool false)], args := [d] }
  | _ => none }
def FnNums1WrongFalsely : Prop := fnNums1Row.holds Try.pinned (OpenSpec.ofChange fnNums1Wrong)

/-- 'laws.FnFrame': WHATEVER THE INPUT: true; the input reads as it did. -/
def fnFrameSpec : ChangeSpec := { name := "fnFrame", fn := fun _ => fun
  | [d] => { results := [.lit (.bool true)], args := [d] }
  | _ => none }
def fnFrameRow : OpenClaim := { program := "ytpemnpoclahfnaa", sum := "4f713811f88a308e3792cd29b2ac816ef6dd3c9885f75595ef34c0395676491b", func := "loop.example/g00097/laws.FnFrame", spec := "fnFrame", apart := false }
def FnFrameSaid : Prop := fnFrameRow.holds Try.pinned (OpenSpec.ofChange fnFrameSpec)

/-- ITS FALSE NEIGHBOUR: 'it returns false'. Refute it at one input. -/
def fnFrameWrong : ChangeSpec := { name := "fnFrame", fn := fun _ => fun
  | [d] => { results := [.lit (.bool false)], args := [d] }
  | _ => none }
def FnFrameWrongFalsely : Prop := fnFrameRow.holds Try.pinned (OpenSpec.ofChange fnFrameWrong)

/-- 'laws.FnExactUnframe': WHATEVER THE INPUT: true; the input reads as it did. -/
def fnExactUnframeSpec : ChangeSpec := { name := "fnExactUnframe", fn := fun _ => fun
  | [d1, d2] => { results := [.lit (.bool true)], args := [d1, d2] }
  | _ => none }
def fnExactUnframeRow : OpenClaim := { program := "ytpemnpoclahfnaa", sum := "4f713811f88a308e3792cd29b2ac816ef6dd3c9885f75595ef34c0395676491b", func := "loop.example/g00097/laws.FnExactUnframe", spec := "fnExactUnframe", apart := false }
def FnExactUnframeSaid : Prop := fnExactUnframeRow.holds Try.pinned (OpenSpec.ofChange fnExactUnframeSpec)

/-- ITS FALSE NEIGHBOUR: 'it returns false'. Refute it at one input. -/
def fnExactUnframeWrong : ChangeSpec := { name := "fnExactUnframe", fn := fun _ => fun
  | [d1, d2] => { results := [.lit (.bool false)], args := [d1, d2] }
  | _ => none }
def FnExactUnframeWrongFalsely : Prop := fnExactUnframeRow.holds Try.pinned (OpenSpec.ofChange fnExactUnframeWrong)

/-- 'laws.FnExactJoinFrames': WHATEVER THE INPUT: true; the input reads as it did. -/
def fnExactJoinFramesSpec : ChangeSpec := { name := "fnExactJoinFrames", fn := fun _ => fun
  | [d] => { results := [.lit (.bool true)], args := [d] }
  | _ => none }
def fnExactJoinFramesRow : OpenClaim := { program := "ytpemnpoclahfnaa", sum := "4f713811f88a308e3792cd29b2ac816ef6dd3c9885f75595ef34c0395676491b", func := "loop.example/g00097/laws.FnExactJoinFrames", spec := "fnExactJoinFrames", apart := false }
def FnExactJoinFramesSaid : Prop := fnExactJoinFramesRow.holds Try.pinned (OpenSpec.ofChange fnExactJoinFramesSpec)

/-- ITS FALSE NEIGHBOUR: 'it returns false'. Refute it at one input. -/
def fnExactJoinFramesWrong : ChangeSpec := { name := "fnExactJoinFrames", fn := fun _ => fun
  | [d] => { results := [.lit (.bool false)], args := [d] }
  | _ => none }
def FnExactJoinFramesWrongFalsely : Prop := fnExactJoinFramesRow.holds Try.pinned (OpenSpec.ofChange fnExactJoinFramesWrong)

/-- 'laws.FnExactSplitFrames': WHATEVER THE INPUT: true; the input reads as it did. -/
def fnExactSplitFramesSpec : ChangeSpec := { name := "fnExactSplitFrames", fn := fun _ => fun
  | [d] => { results := [.lit (.bool true)], args := [d] }
  | _ => none }
def fnExactSplitFramesRow : OpenClaim := { program := "ytpemnpoclahfnaa", sum := "4f713811f88a308e3792cd29b2ac816ef6dd3c9885f75595ef34c0395676491b", func := "loop.example/g00097/laws.FnExactSplitFrames", spec := "fnExactSplitFrames", apart := false }
def FnExactSplitFramesSaid : Prop := fnExactSplitFramesRow.holds Try.pinned (OpenSpec.ofChange fnExactSplitFramesSpec)

/-- ITS FALSE NEIGHBOUR: 'it returns false'. Refute it at one input. -/
def fnExactSplitFramesWrong : ChangeSpec := { name := "fnExactSplitFrames", fn := fun _ => fun
  | [d] => { results := [.lit (.bool false)], args := [d] }
  | _ => none }
def FnExactSplitFramesWrongFalsely : Prop := fnExactSplitFramesRow.holds Try.pinned (OpenSpec.ofChange fnExactSplitFramesWrong)

/-- 'laws.FnSplit': WHATEVER THE INPUT: true; the input reads as it did. -/
def fnSplitSpec : ChangeSpec := { name := "fnSplit", fn := fun _ => fun
  | [d] => { results := [.lit (.bool true)], args := [d] }
  | _ => none }
def fnSplitRow : OpenClaim := { program := "ytpemnpoclahfnaa", sum := "4f713811f88a308e3792cd29b2ac816ef6dd3c9885f75595ef34c0395676491b", func := "loop.example/g00097/laws.FnSplit", spec := "fnSplit", apart := false }
def FnSplitSaid : Prop := fnSplitRow.holds Try.pinned (OpenSpec.ofChange fnSplitSpec)

/-- ITS FALSE NEIGHBOUR: 'it returns false'. Refute it at one input. -/
def fnSplitWrong : ChangeSpec := { name := "fnSplit", fn := fun _ => fun
  | [d] => { results := [.lit (.bool false)], args := [d] }
  | _ => none }
def FnSplitWrongFalsely : Prop := fnSplitRow.holds Try.pinned (OpenSpec.ofChange fnSplitWrong)

/- THE SECOND FORM. 'bulk': how many values and letters a reading holds, each counted each time it is reached (what is shared counts as often as it is met; a slice's spare places count too). A statement '..UptoSaid' is the law's where the arguments, and the package variables that the reading takes, are together of bulk at most 1048576: NARROWER than '..Said'. Prove '..Said' where nothing that the law and all that it calls make is longer than what came in: it says more and counts as full. Else prove '..UptoSaid'. A law counts once. -/
mutual
def uptoBulk {H : Type} : DataW H → Nat
  | .lit (.string bytes) => bytes.length + 1
  | .lit _ => 1
  | .nil => 1
  | .ptr d => uptoBulk d + 1
  | .slice elems spare => uptoBulkAll elems + uptoBulkAll spare + 1
  | .agg parts => uptoBulkAll parts + 1
  | .iface _ d => uptoBulk d + 1
  | .map entries => uptoBulkEntries entries + 1
  | .held _ => 1
def uptoBulkAll {H : Type} : List (DataW H) → Nat
  | [] => 0
  | d :: r => uptoBulk d + uptoBulkAll r
def uptoBulkEntries {H : Type} : List (Lit × DataW H) → Nat
  | [] => 0
  | x :: r => uptoBulkEntry x + uptoBulkEntries r
def uptoBulkEntry {H : Type} : Lit × DataW H → Nat
  | (.string bytes, d) => bytes.length + uptoBulk d + 1
  | (_, d) => uptoBulk d + 1
 end
def uptoSmall : (H : Type) → List (DataW H) → Bool := fun _ ds => decide (uptoBulkAll ds ≤ 1048576)
def OpenSpec.upto (s : _root_.Go.ChangeSpec) : _root_.Go.OpenSpec := { _root_.Go.OpenSpec.ofChange s with cond := some uptoSmall }

/-- 'laws.FnExactPutNum', WHERE WHAT IT READS IS OF BULK AT MOST 1048576: true; the input reads as it did. -/
def fnExactPutNumUptoRow : OpenClaim := { program := "ytpemnpoclahfnaa", sum := "4f713811f88a308e3792cd29b2ac816ef6dd3c9885f75595ef34c0395676491b", func := "loop.example/g00097/laws.FnExactPutNum", spec := "fnExactPutNum", apart := false, narrowed := true }
def FnExactPutNumUptoSaid : Prop := fnExactPutNumUptoRow.holds Try.pinned (OpenSpec.upto fnExactPutNumSpec)

/-- 'laws.FnExactGetNum', WHERE WHAT IT READS IS OF BULK AT MOST 1048576: true; the input reads as it did. -/
def fnExactGetNumUptoRow : OpenClaim := { program := "ytpemnpoclahfnaa", sum := "4f713811f88a308e3792cd29b2ac816ef6dd3c9885f75595ef34c0395676491b", func := "loop.example/g00097/laws.FnExactGetNum", spec := "fnExactGetNum", apart := false, narrowed := true }
def FnExactGetNumUptoSaid : Prop := fnExactGetNumUptoRow.holds Try.pinned (OpenSpec.upto fnExactGetNumSpec)

/-- 'laws.FnExactPutNums', WHERE WHAT IT READS IS OF BULK AT MOST 1048576: true; the input reads as it did. -/
def fnExactPutNumsUptoRow : OpenClaim := { program := "ytpemnpoclahfnaa", sum := "4f713811f88a308e3792cd29b2ac816ef6dd3c9885f75595ef34c0395676491b", func := "loop.example/g00097/laws.FnExactPutNums", spec := "fnExactPutNums", apart := false, narrowed := true }
def FnExactPutNumsUptoSaid : Prop := fnExactPutNumsUptoRow.holds Try.pinned (OpenSpec.upto fnExactPutNumsSpec)

/-- 'laws.FnExactGetNums', WHERE WHAT IT READS IS OF BULK AT MOST 1048576: true; the input reads as it did. -/
def fnExactGetNumsUptoRow : OpenClaim := { program := "ytpemnpoclahfnaa", sum := "4f713811f88a308e3792cd29b2ac816ef6dd3c9885f75595ef34c0395676491b", func := "loop.example/g00097/laws.FnExactGetNums", spec := "fnExactGetNums", apart := false, narrowed := true }
def FnExactGetNumsUptoSaid : Prop := fnExactGetNumsUptoRow.holds Try.pinned (OpenSpec.upto fnExactGetNumsSpec)

/-- 'laws.FnExactFrame', WHERE WHAT IT READS IS OF BULK AT MOST 1048576: true; the input reads as it did. -/
def fnExactFrameUptoRow : OpenClaim := { program := "ytpemnpoclahfnaa", sum := "4f713811f88a308e3792cd29b2ac816ef6dd3c9885f75595ef34c0395676491b", func := "loop.example/g00097/laws.FnExactFrame", spec := "fnExactFrame", apart := false, narrowed := true }
def FnExactFrameUptoSaid : Prop := fnExactFrameUptoRow.holds Try.pinned (OpenSpec.upto fnExactFrameSpec)

/-- 'laws.FnNums1', WHERE WHAT IT READS IS OF BULK AT MOST 1048576: true; the input reads as it did. -/
def fnNums1UptoRow : OpenClaim := { program := "ytpemnpoclahfnaa", sum := "4f713811f88a308e3792cd29b2ac816ef6dd3c9885f75595ef34c0395676491b", func := "loop.example/g00097/laws.FnNums1", spec := "fnNums1", apart := false, narrowed := true }
def FnNums1UptoSaid : Prop := fnNums1UptoRow.holds Try.pinned (OpenSpec.upto fnNums1Spec)

/-- 'laws.FnFrame', WHERE WHAT IT READS IS OF BULK AT MOST 1048576: true; the input reads as it did. -/
def fnFrameUptoRow : OpenClaim := { program := "ytpemnpoclahfnaa", sum := "4f713811f88a308e3792cd29b2ac816ef6dd3c9885f75595ef34c0395676491b", func := "loop.example/g00097/laws.FnFrame", spec := "fnFrame", apart := false, narrowed := true }
def FnFrameUptoSaid : Prop := fnFrameUptoRow.holds Try.pinned (OpenSpec.upto fnFrameSpec)

/-- 'laws.FnExactUnframe', WHERE WHAT IT READS IS OF BULK AT MOST 1048576: true; the input reads as it did. -/
def fnExactUnframeUptoRow : OpenClaim := { program := "ytpemnpoclahfnaa", sum := "4f713811f88a308e3792cd29b2ac816ef6dd3c9885f75595ef34c0395676491b", func := "loop.example/g00097/laws.FnExactUnframe", spec := "fnExactUnframe", apart := false, narrowed := true }
def FnExactUnframeUptoSaid : Prop := fnExactUnframeUptoRow.holds Try.pinned (OpenSpec.upto fnExactUnframeSpec)

/-- 'laws.FnExactJoinFrames', WHERE WHAT IT READS IS OF BULK AT MOST 1048576: true; the input reads as it did. -/
def fnExactJoinFramesUptoRow : OpenClaim := { program := "ytpemnpoclahfnaa", sum := "4f713811f88a308e3792cd29b2ac816ef6dd3c9885f75595ef34c0395676491b", func := "loop.example/g00097/laws.FnExactJoinFrames", spec := "fnExactJoinFrames", apart := false, narrowed := true }
def FnExactJoinFramesUptoSaid : Prop := fnExactJoinFramesUptoRow.holds Try.pinned (OpenSpec.upto fnExactJoinFramesSpec)

/-- 'laws.FnExactSplitFrames', WHERE WHAT IT READS IS OF BULK AT MOST 1048576: true; the input reads as it did. -/
def fnExactSplitFramesUptoRow : OpenClaim := { program := "ytpemnpoclahfnaa", sum := "4f713811f88a308e3792cd29b2ac816ef6dd3c9885f75595ef34c0395676491b", func := "loop.example/g00097/laws.FnExactSplitFrames", spec := "fnExactSplitFrames", apart := false, narrowed := true }
def FnExactSplitFramesUptoSaid : Prop := fnExactSplitFramesUptoRow.holds Try.pinned (OpenSpec.upto fnExactSplitFramesSpec)

/-- 'laws.FnSplit', WHERE WHAT IT READS IS OF BULK AT MOST 1048576: true; the input reads as it did. -/
def fnSplitUptoRow : OpenClaim := { program := "ytpemnpoclahfnaa", sum := "4f713811f88a308e3792cd29b2ac816ef6dd3c9885f75595ef34c0395676491b", func := "loop.example/g00097/laws.FnSplit", spec := "fnSplit", apart := false, narrowed := true }
def FnSplitUptoSaid : Prop := fnSplitUptoRow.holds Try.pinned (OpenSpec.upto fnSplitSpec)

end Rows
end Go.Proofs.Ytpemnpoclahfnaa
