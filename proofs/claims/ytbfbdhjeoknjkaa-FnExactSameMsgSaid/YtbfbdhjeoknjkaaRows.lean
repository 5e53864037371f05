/-
  No cell of these rows narrows 'for every input' (looked for: loops, veiled, ifaces, maps, wideKeys, modest, calm, conditions, laid).
  DERIVED. THE GIVEN ROWS OF THIS SEAT. 6 by the template 'for every input the law returns true; each argument reads behind the call as it read before'; 0 by the template 'total and deterministic' (their statements: YtbfbdhjeoknjkaaTotals.lean).
  GIVEN WITH THE SEED: the statements are not yours to turn. If you find one false, say at which input.
  Laid BY PROGRAM, IN A SANDBOX (cutbox-rows.mjs): the forced cells as the released guide's own fill.sh prints them over the translation 19cd9d60a2c4cfdf… (all of the seat's roots in one cut). By AI agents, Wed Nov 11 2026. No macro, syntax, notation, axiom, sorry.
-/
import Derived.Test.YtbfbdhjeoknjkaaChecked
import GoSem.Claim
import GoSem.ClaimJoined
import GoSem.ClaimMapViews
import Derived.JoinedTies
import Derived.KernelRfl
namespace Go.Proofs.Ytbfbdhjeoknjkaa
/- THE CELL 'sum', in the pinned program and in every row, IS THE sha256 OF THE DUMP (.gsa) THAT YtbfbdhjeoknjkaaProg.lean LOADS. Nothing in Lean hashes anything: it is a label: what it is worth is what the hold of that sum in a sandbox is worth. -/
noncomputable def Try.pinned : Pinned := { name := "ytbfbdhjeoknjkaa", sum := "19cd9d60a2c4cfdfac165ed1cddcda13dbc10149241a2dc4e38da12cb93d2f36", checked := Try.checked }
namespace Rows
def none {H : Type} : Left H := { results := [], args := [] }

/-- 'laws.FnExactSameMsg': WHATEVER THE INPUT: true; the input reads as it did. -/
def fnExactSameMsgSpec : ChangeSpec := { name := "fnExactSameMsg", fn := fun _ => fun
  | [d1, d2] => { results := [.lit (.bool true)], args := [d1, d2] }
  | _ => none }
def fnExactSameMsgRow : OpenClaim := { program := "ytbfbdhjeoknjkaa", sum := "19cd9d60a2c4cfdfac165ed1cddcda13dbc10149241a2dc4e38da12cb93d2f36", func := "loop.example/g00097/laws.FnExactSameMsg", spec := "fnExactSameMsg", apart := false }
def FnExactSameMsgSaid : Prop := fnExactSameMsgRow.holds Try.pinned (OpenSpec.ofChange fnExactSameMsgSpec)

/-- ITS FALSE NEIGHBOUR: 'it returns false'. Refute it at one input. -/
def fnExactSameMsgWrong : ChangeSpec := { name := "fnExactSameMsg", fn := fun _ => fun
  | [d1, d2] => { results := [.lit (.bool false)], args := [d1, d2] }
  | _ => none }
def FnExactSameMsgWrongFalsely : Prop := fnExactSameMsgRow.holds Try.pinned (OpenSpec.ofChange fnExactSameMsgWrong)

/-- 'laws.FnExactPackLog': WHATEVER THE INPUT: true; the input reads as it did. -/
def fnExactPackLogSpec : ChangeSpec := { name := "fnExactPackLog", fn := fun _ => fun
  | [d] => { results := [.lit (.bool true)], args := [d] }
  | _ => none }
def fnExactPackLogRow : OpenClaim := { program := "ytbfbdhjeoknjkaa", sum := "19cd9d60a2c4cfdfac165ed1cddcda13dbc10149241a2dc4e38da12cb93d2f36", func := "loop.example/g00097/laws.FnExactPackLog", spec := "fnExactPackLog", unfollowed := true, recurses := true, apart := false }
def FnExactPackLogSaid : Prop := fnExactPackLogRow.holds Try.pinned (OpenSpec.ofChange fnExactPackLogSpec)

/-- ITS FALSE NEIGHBOUR: 'it returns false'. Refute it at one input. -/
def fnExactPackLogWrong : ChangeSpec := { name := "fnExactPackLog", fn := fun _ => fun
  | [d] => { results := [.lit (.bool false)], args := [d] }
  | _ => none }
def FnExactPackLogWrongFalsely : Prop := fnExactPackLogRow.holds Try.pinned (OpenSpec.ofChange fnExactPackLogWrong)

/-- 'laws.FnLogWire': WHATEVER THE INPUT: true; the input reads as it did. -/
def fnLogWireSpec : ChangeSpec := { name := "fnLogWire", fn := fun _ => fun
  | [d] => { results := [.lit (.bool true)], args := [d] }
  | _ => none }
def fnLogWireRow : OpenClaim := { program := "ytbfbdhjeoknjkaa", sum := "19cd9d60a2c4cfdfac165ed1cddcda13dbc10149241a2dc4e38da12cb93d2f36", func := "loop.example/g00097/laws.FnLogWire", spec := "fnLogWire", unfollowed := true, recurses := true, apart := false }
def FnLogWireSaid : Prop := fnLogWireRow.holds Try.pinned (OpenSpec.ofChange fnLogWireSpec)

/-- ITS FALSE NEIGHBOUR: 'it returns false'. Refute it at one input. -/
def fnLogWireWrong : ChangeSpec := { name := "fnLogWire", fn := fun _ => fun
  | [d] => { results := [.lit (.bool false)], args := [d] }
  | _ => none }
def FnLogWireWrongFalsely : Prop := fnLogWireRow.holds Try.pinned (OpenSpec.ofChange fnLogWireWrong)

/-- 'laws.FnExactUnpackLog': WHATEVER THE INPUT: true; the input reads as it did. -/
def fnExactUnpackLogSpec : ChangeSpec := { name := "fnExactUnpackLog", fn := fun _ => fun
  | [d1, d2] => { results := [.lit (.bool true)], args := [d1, d2] }
  | _ => none }
def fnExactUnpackLogRow : OpenClaim := { program := "ytbfbdhjeoknjkaa", sum := "19cd9d60a2c4cfdfac165ed1cddcda13dbc10149241a2dc4e38da12cb93d2f36", func := "loop.example/g00097/laws.FnExactUnpackLog", spec := "fnExactUnpackLog", unfollowed := true, recurses := true, apart := false }
def FnExactUnpackLogSaid : Prop := fnExactUnpackLogRow.holds Try.pinned (OpenSpec.ofChange fnExactUnpackLogSpec)

/-- ITS FALSE NEIGHBOUR: 'it returns false'. Refute it at one input. -/
def fnExactUnpackLogWrong : ChangeSpec := { name := "fnExactUnpackLog", fn := fun _ => fun
  | [d1, d2] => { results := [.lit (.bool false)], args := [d1, d2] }
  | _ => none }
def FnExactUnpackLogWrongFalsely : Prop := fnExactUnpackLogRow.holds Try.pinned (OpenSpec.ofChange fnExactUnpackLogWrong)

/-- 'laws.FnExactReplicaOk': WHATEVER THE INPUT: true; the input reads as it did. -/
def fnExactReplicaOkSpec : ChangeSpec := { name := "fnExactReplicaOk", fn := fun _ => fun
  | [d] => { results := [.lit (.bool true)], args := [d] }
  | _ => none }
def fnExactReplicaOkRow : OpenClaim := { program := "ytbfbdhjeoknjkaa", sum := "19cd9d60a2c4cfdfac165ed1cddcda13dbc10149241a2dc4e38da12cb93d2f36", func := "loop.example/g00097/laws.FnExactReplicaOk", spec := "fnExactReplicaOk", unfollowed := true, recurses := true, apart := false }
def FnExactReplicaOkSaid : Prop := fnExactReplicaOkRow.holds Try.pinned (OpenSpec.ofChange fnExactReplicaOkSpec)

/-- ITS FALSE NEIGHBOUR: 'it returns false'. Refute it at one input. -/
def fnExactReplicaOkWrong : ChangeSpec := { name := "fnExactReplicaOk", fn := fun _ => fun
  | [d] => { results := [.lit (.bool false)], args := [d] }
  | _ => none }
def FnExactReplicaOkWrongFalsely : Prop := fnExactReplicaOkRow.holds Try.pinned (OpenSpec.ofChange fnExactReplicaOkWrong)

/-- 'laws.FnExactNewReplica': WHATEVER THE INPUT: true; the input reads as it did. -/
def fnExactNewReplicaSpec : ChangeSpec := { name := "fnExactNewReplica", fn := fun _ => fun
  | [d1, d2] => { results := [.lit (.bool true)], args := [d1, d2] }
  | _ => none }
def fnExactNewReplicaRow : OpenClaim := { program := "ytbfbdhjeoknjkaa", sum := "19cd9d60a2c4cfdfac165ed1cddcda13dbc10149241a2dc4e38da12cb93d2f36", func := "loop.example/g00097/laws.FnExactNewReplica", spec := "fnExactNewReplica", unfollowed := true, recurses := true, apart := false }
def FnExactNewReplicaSaid : Prop := fnExactNewReplicaRow.holds Try.pinned (OpenSpec.ofChange fnExactNewReplicaSpec)

/-- ITS FALSE NEIGHBOUR: 'it returns false'. Refute it at one input. -/
def fnExactNewReplicaWrong : ChangeSpec := { name := "fnExactNewReplica", fn := fun _ => fun
  | [d1, d2] => { results := [.lit (.bool false)], args := [d1, d2] }
  | _ => none }
def FnExactNewReplicaWrongFalsely : Prop := fnExactNewReplicaRow.holds Try.pinned (OpenSpec.ofChange fnExactNewReplicaWrong)

/- THE SECOND FORM. 'bulk': how many values and letters a reading holds, each counted each time it is reached (what is shared counts as often as it is met; a slice's spare places count too). A statement '..UptoSaid' is the law's where the arguments, and the package variables that the reading takes, are together of bulk at most 1048576: NARROWER than '..Said'. Prove '..Said' where nothing that the law and all that it calls make is longer than what came in: it says more and counts as full. Else prove '..UptoSaid'. A law counts once. -/
mutual
def uptoBulk {H : Type} : DataW H → Nat
  | .lit (.string bytes) => bytes.length + 1
  | .lit _ => 1
  | .nil => 1
  | .ptr d => uptoBulk d + 1
  | .slice elems spare => uptoBulkAll elems + uptoBulkAll spare + 1
  | .agg parts => uptoBulkAll parts + 1
  | .iface _ d => uptoBulk d + 1
  | .map entries => uptoBulkEntries entries + 1
  | .held _ => 1
def uptoBulkAll {H : Type} : List (DataW H) → Nat
  | [] => 0
  | d :: r => uptoBulk d + uptoBulkAll r
def uptoBulkEntries {H : Type} : List (Lit × DataW H) → Nat
  | [] => 0
  | x :: r => uptoBulkEntry x + uptoBulkEntries r
def uptoBulkEntry {H : Type} : Lit × DataW H → Nat
  | (.string bytes, d) => bytes.length + uptoBulk d + 1
  | (_, d) => uptoBulk d + 1
 end
def uptoSmall : (H : Type) → List (DataW H) → Bool := fun _ ds => decide (uptoBulkAll ds ≤ 1048576)
def OpenSpec.upto (s : _root_.Go.ChangeSpec) : _root_.Go.OpenSpec := { _root_.Go.OpenSpec.ofChange s with cond := some uptoSmall }

/-- 'laws.FnExactSameMsg', WHERE WHAT IT READS IS OF BULK AT MOST 1048576: true; the input reads as it did. -/
def fnExactSameMsgUptoRow : OpenClaim := { program := "ytbfbdhjeoknjkaa", sum := "19cd9d60a2c4cfdfac165ed1cddcda13dbc10149241a2dc4e38da12cb93d2f36", func := "loop.example/g00097/laws.FnExactSameMsg", spec := "fnExactSameMsg", apart := false, narrowed := true }
def FnExactSameMsgUptoSaid : Prop := fnExactSameMsgUptoRow.holds Try.pinned (OpenSpec.upto fnExactSameMsgSpec)

/-- 'laws.FnExactPackLog', WHERE WHAT IT READS IS OF BULK AT MOST 1048576: true; the input reads as it did. -/
def fnExactPackLogUptoRow : OpenClaim := { program := "ytbfbdhjeoknjkaa", sum := "19cd9d60a2c4cfdfac165ed1cddcda13dbc10149241a2dc4e38da12cb93d2f36", func := "loop.example/g00097/laws.FnExactPackLog", spec := "fnExactPackLog", unfollowed := true, recurses := true, apart := false, narrowed := true }
def FnExactPackLogUptoSaid : Prop := fnExactPackLogUptoRow.holds Try.pinned (OpenSpec.upto fnExactPackLogSpec)

/-- 'laws.FnLogWire', WHERE WHAT IT READS IS OF BULK AT MOST 1048576: true; the input reads as it did. -/
def fnLogWireUptoRow : OpenClaim := { program := "ytbfbdhjeoknjkaa", sum := "19cd9d60a2c4cfdfac165ed1cddcda13dbc10149241a2dc4e38da12cb93d2f36", func := "loop.example/g00097/laws.FnLogWire", spec := "fnLogWire", unfollowed := true, recurses := true, apart := false, narrowed := true }
def FnLogWireUptoSaid : Prop := fnLogWireUptoRow.holds Try.pinned (OpenSpec.upto fnLogWireSpec)

/-- 'laws.FnExactUnpackLog', WHERE WHAT IT READS IS OF BULK AT MOST 1048576: true; the input reads as it did. -/
def fnExactUnpackLogUptoRow : OpenClaim := { program := "ytbfbdhjeoknjkaa", sum := "19cd9d60a2c4cfdfac165ed1cddcda13dbc10149241a2dc4e38da12cb93d2f36", func := "loop.example/g00097/laws.FnExactUnpackLog", spec := "fnExactUnpackLog", unfollowed := true, recurses := true, apart := false, narrowed := true }
def FnExactUnpackLogUptoSaid : Prop := fnExactUnpackLogUptoRow.holds Try.pinned (OpenSpec.upto fnExactUnpackLogSpec)

/-- 'laws.FnExactReplicaOk', WHERE WHAT IT READS IS OF BULK AT MOST 1048576: true; the input reads as it did. -/
def fnExactReplicaOkUptoRow : OpenClaim := { program := "ytbfbdhjeoknjkaa", sum := "19cd9d60a2c4cfdfac165ed1cddcda13dbc10149241a2dc4e38da12cb93d2f36", func := "loop.example/g00097/laws.FnExactReplicaOk", spec := "fnExactReplicaOk", unfollowed := true, recurses := true, apart := false, narrowed := true }
def FnExactReplicaOkUptoSaid : Prop := fnExactReplicaOkUptoRow.holds Try.pinned (OpenSpec.upto fnExactReplicaOkSpec)

/-- 'laws.FnExactNewReplica', WHERE WHAT IT READS IS OF BULK AT MOST 1048576: true; the input reads as it did. -/
def fnExactNewReplicaUptoRow : OpenClaim := { program := "ytbfbdhjeoknjkaa", sum := "19cd9d60a2c4cfdfac165ed1cddcda13dbc10149241a2dc4e38da12cb93d2f36", func := "loop.example/g00097/laws.FnExactNewReplica", spec := "fnExactNewReplica", unfollowed := true, recurses := true, apart := false, narrowed := true }
def FnExactNewReplicaUptoSaid : Prop := fnExactNewReplicaUptoRow.holds Try.pinned (OpenSpec.upto fnExactNewReplicaSpec)

end Rows
end Go.Proofs.Ytbfbdhjeoknjkaa
