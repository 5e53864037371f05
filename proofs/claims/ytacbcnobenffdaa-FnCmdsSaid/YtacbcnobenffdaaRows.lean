/-
  No cell of these rows narrows 'for every input' (looked for: loops, veiled, ifaces, maps, wideKeys, modest, calm, conditions, laid).
  DERIVED. THE GIVEN ROWS OF THIS SEAT. 4 by the template 'for every input the law returns true; each argument reads behind the call as it read before'; 0 by the template 'total and deterministic' (their statements: YtacbcnobenffdaaTotals.lean).
  GIVEN WITH THE SEED: the statements are not yours to turn. If you find one false, say at which input.
  Laid BY PROGRAM, IN A SANDBOX (cutbox-rows.mjs): the forced cells as the released guide's own fill.sh prints them over the translation 7e5b09719f4e26d9… (all of the seat's roots in one cut). By AI agents, Wed Nov 11 2026. No macro, syntax, notation, axiom, sorry.
-/
import Derived.Test.YtacbcnobenffdaaChecked
import GoSem.Claim
import GoSem.ClaimJoined
import GoSem.ClaimMapViews
import Derived.JoinedTies
import Derived.KernelRfl
namespace Go.Proofs.Ytacbcnobenffdaa
/- THE CELL 'sum', in the pinned program and in every row, IS THE sha256 OF THE DUMP (.gsa) THAT YtacbcnobenffdaaProg.lean LOADS. Nothing in Lean hashes anything: it is a label: what it is worth is what the hold of that sum in a sandbox is worth. -/
noncomputable def Try.pinned : Pinned := { name := "ytacbcnobenffdaa", sum := "7e5b09719f4e26d93075d6d2e5dbea57c4d67ef4feaf273e8e4a8834715b8157", checked := Try.checked }
namespace Rows
def none {H : Type} : Left H := { results := [], args := [] }

/-- 'laws.FnExactRunCmd': WHATEVER THE INPUT: true; the input reads as it did. -/
def fnExactRunCmdSpec : ChangeSpec := { name := "fnExactRunCmd", fn := fun _ => fun
  | [d1, d2] => { results := [.lit (.bool true)], args := [d1, d2] }
  | _ => none }
def fnExactRunCmdRow : OpenClaim := { program := "ytacbcnobenffdaa", sum := "7e5b09719f4e26d93075d6d2e5dbea57c4d67ef4feaf273e8e4a8834715b8157", func := "loop.example/g00097/laws.FnExactRunCmd", spec := "fnExactRunCmd", inPlace := ["slices.overlaps[loop.example/g00097/impl.Cell]"], unfollowed := true, recurses := true, apart := false }
def FnExactRunCmdSaid : Prop := fnExactRunCmdRow.holds Try.pinned (OpenSpec.ofChange fnExactRunCmdSpec)

/-- ITS FALSE NEIGHBOUR: 'it returns false'. Refute it at one input. -/
def fnExactRunCmdWrong : ChangeSpec := { name := "fnExactRunCmd", fn := fun _ => fun
  | [d1, d2] => { results := [.lit (.bool false)], args := [d1, d2] }
  | _ => none }
def FnExactRunCmdWrongFalsely : Prop := fnExactRunCmdRow.holds Try.pinned (OpenSpec.ofChange fnExactRunCmdWrong)

/-- 'laws.FnCmds': WHATEVER THE INPUT: true; the input reads as it did. -/
def fnCmdsSpec : ChangeSpec := { name := "fnCmds", fn := fun _ => fun
  | [d] => { results := [.lit (.bool true)], args := [d] }
  | _ => none }
def fnCmdsRow : OpenClaim := { program := "ytacbcnobenffdaa", sum := "7e5b09719f4e26d93075d6d2e5dbea57c4d67ef4feaf273e8e4a8834715b8157", func := "loop.example/g00097/laws.FnCmds", spec := "fnCmds", inPlace := ["slices.overlaps[loop.example/g00097/impl.Cell]"], unfollowed := true, recurses := true, apart := false }
def FnCmdsSaid : Prop := fnCmdsRow.holds Try.pinned (OpenSpec.ofChange fnCmdsSpec)

/-- ITS FALSE NEIGHBOUR: 'it returns false'. Refute it at one input. -/
def fnCmdsWrong : ChangeSpec := { name := "fnCmds", fn := fun _ => fun
  | [d] => { results := [.lit (.bool false)], args := [d] }
  | _ => none }
def FnCmdsWrongFalsely : Prop := fnCmdsRow.holds Try.pinned (OpenSpec.ofChange fnCmdsWrong)

/-- 'laws.FnOnce': WHATEVER THE INPUT: true; the input reads as it did. -/
def fnOnceSpec : ChangeSpec := { name := "fnOnce", fn := fun _ => fun
  | [d] => { results := [.lit (.bool true)], args := [d] }
  | _ => none }
def fnOnceRow : OpenClaim := { program := "ytacbcnobenffdaa", sum := "7e5b09719f4e26d93075d6d2e5dbea57c4d67ef4feaf273e8e4a8834715b8157", func := "loop.example/g00097/laws.FnOnce", spec := "fnOnce", inPlace := ["slices.overlaps[loop.example/g00097/impl.Cell]", "slices.overlaps[loop.example/g00097/impl.Seat]"], unfollowed := true, recurses := true, apart := false }
def FnOnceSaid : Prop := fnOnceRow.holds Try.pinned (OpenSpec.ofChange fnOnceSpec)

/-- ITS FALSE NEIGHBOUR: 'it returns false'. Refute it at one input. -/
def fnOnceWrong : ChangeSpec := { name := "fnOnce", fn := fun _ => fun
  | [d] => { results := [.lit (.bool false)], args := [d] }
  | _ => none }
def FnOnceWrongFalsely : Prop := fnOnceRow.holds Try.pinned (OpenSpec.ofChange fnOnceWrong)

/-- 'laws.FnExactRunEntry': WHATEVER THE INPUT: true; the input reads as it did. -/
def fnExactRunEntrySpec : ChangeSpec := { name := "fnExactRunEntry", fn := fun _ => fun
  | [d1, d2] => { results := [.lit (.bool true)], args := [d1, d2] }
  | _ => none }
def fnExactRunEntryRow : OpenClaim := { program := "ytacbcnobenffdaa", sum := "7e5b09719f4e26d93075d6d2e5dbea57c4d67ef4feaf273e8e4a8834715b8157", func := "loop.example/g00097/laws.FnExactRunEntry", spec := "fnExactRunEntry", inPlace := ["slices.overlaps[loop.example/g00097/impl.Cell]", "slices.overlaps[loop.example/g00097/impl.Seat]"], unfollowed := true, recurses := true, apart := false }
def FnExactRunEntrySaid : Prop := fnExactRunEntryRow.holds Try.pinned (OpenSpec.ofChange fnExactRunEntrySpec)

/-- ITS FALSE NEIGHBOUR: 'it returns false'. Refute it at one input. -/
def fnExactRunEntryWrong : ChangeSpec := { name := "fnExactRunEntry", fn := fun _ => fun
  | [d1, d2] => { results := [.lit (.bool false)], args := [d1, d2] }
  | _ => none }
def FnExactRunEntryWrongFalsely : Prop := fnExactRunEntryRow.holds Try.pinned (OpenSpec.ofChange fnExactRunEntryWrong)

/- THE SECOND FORM. 'bulk': how many values and letters a reading holds, each counted each time it is reached (what is shared counts as often as it is met; a slice's spare places count too). A statement '..UptoSaid' is the law's where the arguments, and the package variables that the reading takes, are together of bulk at most 1048576: NARROWER than '..Said'. Prove '..Said' where nothing that the law and all that it calls make is longer than what came in: it says more and counts as full. Else prove '..UptoSaid'. A law counts once. -/
mutual
def uptoBulk {H : Type} : DataW H → Nat
  | .lit (.string bytes) => bytes.length + 1
  | .lit _ => 1
  | .nil => 1
  | .ptr d => uptoBulk d + 1
  | .slice elems spare => uptoBulkAll elems + uptoBulkAll spare + 1
  | .agg parts => uptoBulkAll parts + 1
  | .iface _ d => uptoBulk d + 1
  | .map entries => uptoBulkEntries entries + 1
  | .held _ => 1
def uptoBulkAll {H : Type} : List (DataW H) → Nat
  | [] => 0
  | d :: r => uptoBulk d + uptoBulkAll r
def uptoBulkEntries {H : Type} : List (Lit × DataW H) → Nat
  | [] => 0
  | x :: r => uptoBulkEntry x + uptoBulkEntries r
def uptoBulkEntry {H : Type} : Lit × DataW H → Nat
  | (.string bytes, d) => bytes.length + uptoBulk d + 1
  | (_, d) => uptoBulk d + 1
 end
def uptoSmall : (H : Type) → List (DataW H) → Bool := fun _ ds => decide (uptoBulkAll ds ≤ 1048576)
def OpenSpec.upto (s : _root_.Go.ChangeSpec) : _root_.Go.OpenSpec := { _root_.Go.OpenSpec.ofChange s with cond := some uptoSmall }

/-- 'laws.FnExactRunCmd', WHERE WHAT IT READS IS OF BULK AT MOST 1048576: true; the input reads as it did. -/
def fnExactRunCmdUptoRow : OpenClaim := { program := "ytacbcnobenffdaa", sum := "7e5b09719f4e26d93075d6d2e5dbea57c4d67ef4feaf273e8e4a8834715b8157", func := "loop.example/g00097/laws.FnExactRunCmd", spec := "fnExactRunCmd", inPlace := ["slices.overlaps[loop.example/g00097/impl.Cell]"], unfollowed := true, recurses := true, apart := false, narrowed := true }
def FnExactRunCmdUptoSaid : Prop := fnExactRunCmdUptoRow.holds Try.pinned (OpenSpec.upto fnExactRunCmdSpec)

/-- 'laws.FnCmds', WHERE WHAT IT READS IS OF BULK AT MOST 1048576: true; the input reads as it did. -/
def fnCmdsUptoRow : OpenClaim := { program := "ytacbcnobenffdaa", sum := "7e5b09719f4e26d93075d6d2e5dbea57c4d67ef4feaf273e8e4a8834715b8157", func := "loop.example/g00097/laws.FnCmds", spec := "fnCmds", inPlace := ["slices.overlaps[loop.example/g00097/impl.Cell]"], unfollowed := true, recurses := true, apart := false, narrowed := true }
def FnCmdsUptoSaid : Prop := fnCmdsUptoRow.holds Try.pinned (OpenSpec.upto fnCmdsSpec)

/-- 'laws.FnOnce', WHERE WHAT IT READS IS OF BULK AT MOST 1048576: true; the input reads as it did. -/
def fnOnceUptoRow : OpenClaim := { program := "ytacbcnobenffdaa", sum := "7e5b09719f4e26d93075d6d2e5dbea57c4d67ef4feaf273e8e4a8834715b8157", func := "loop.example/g00097/laws.FnOnce", spec := "fnOnce", inPlace := ["slices.overlaps[loop.example/g00097/impl.Cell]", "slices.overlaps[loop.example/g00097/impl.Seat]"], unfollowed := true, recurses := true, apart := false, narrowed := true }
def FnOnceUptoSaid : Prop := fnOnceUptoRow.holds Try.pinned (OpenSpec.upto fnOnceSpec)

/-- 'laws.FnExactRunEntry', WHERE WHAT IT READS IS OF BULK AT MOST 1048576: true; the input reads as it did. -/
def fnExactRunEntryUptoRow : OpenClaim := { program := "ytacbcnobenffdaa", sum := "7e5b09719f4e26d93075d6d2e5dbea57c4d67ef4feaf273e8e4a8834715b8157", func := "loop.example/g00097/laws.FnExactRunEntry", spec := "fnExactRunEntry", inPlace := ["slices.overlaps[loop.example/g00097/impl.Cell]", "slices.overlaps[loop.example/g00097/impl.Seat]"], unfollowed := true, recurses := true, apart := false, narrowed := true }
def FnExactRunEntryUptoSaid : Prop := fnExactRunEntryUptoRow.holds Try.pinned (OpenSpec.upto fnExactRunEntrySpec)

end Rows
end Go.Proofs.Ytacbcnobenffdaa
