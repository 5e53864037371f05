/-
  No cell of these rows narrows 'for every input' (looked for: loops, veiled, ifaces, maps, wideKeys, modest, calm, conditions, laid).
  DERIVED. THE GIVEN ROWS OF THIS SEAT. 5 by the template 'for every input the law returns true; each argument reads behind the call as it read before'; 0 by the template 'total and deterministic' (their statements: YtkfhhmojamfbbaaTotals.lean).
  GIVEN WITH THE SEED: the statements are not yours to turn. If you find one false, say at which input.
  Laid BY PROGRAM, IN A SANDBOX (cutbox-rows.mjs): the forced cells as the released guide's own fill.sh prints them over the translation d9fa70d5e7a78640… (all of the seat's roots in one cut). By AI agents, Wed Nov 11 2026. No macro, syntax, notation, axiom, sorry.
-/
import Derived.Test.YtkfhhmojamfbbaaChecked
import GoSem.Claim
import GoSem.ClaimJoined
import GoSem.ClaimMapViews
import Derived.JoinedTies
import Derived.KernelRfl
namespace Go.Proofs.Ytkfhhmojamfbbaa
/- THE CELL 'sum', in the pinned program and in every row, IS THE sha256 OF THE DUMP (.gsa) THAT YtkfhhmojamfbbaaProg.lean LOADS. Nothing in Lean hashes anything: it is a label: what it is worth is what the hold of that sum in a sandbox is worth. -/
noncomputable def Try.pinned : Pinned := { name := "ytkfhhmojamfbbaa", sum := "d9fa70d5e7a78640c5bd669f6f5d6a59a07103a1ec3d91acc957e4a688abae40", checked := Try.checked }
namespace Rows
def none {H : Type} : Left H := { results := [], args := [] }

/-- 'laws.FnExactConstants': WHATEVER THE INPUT: true; the input reads as it did. -/
def fnExactConstantsSpec : ChangeSpec := { name := "fnExactConstants", fn := fun _ => fun
  | [] => { results := [.lit (.bool true)], args := [] }
  | _ => none }
def fnExactConstantsRow : OpenClaim := { program := "ytkfhhmojamfbbaa", sum := "d9fa70d5e7a78640c5bd669f6f5d6a59a07103a1ec3d91acc957e4a688abae40", func := "loop.example/g00097/laws.FnExactConstants", spec := "fnExactConstants", apart := false }
def FnExactConstantsSaid : Prop := fnExactConstantsRow.holds Try.pinned (OpenSpec.ofChange fnExactConstantsSpec)

/-- ITS FALSE NEIGHBOUR: 'it returns false'. Refute it at one input. -/
def fnExactConstantsWrong : ChangeSpec := { name := "fnExactConstants", fn := fun _ => fun
  | [] => { results := [.lit (.bool false)], args := [] }
  | _ => none }
def FnExactConstantsWrongFalsely : Prop := fnExactConstantsRow.holds Try.pinned (OpenSpec.ofChange fnExactConstantsWrong)

/-- 'laws.FnExactPrimaryOf': WHATEVER THE INPUT: true; the input reads as it did. -/
def fnExactPrimaryOfSpec : ChangeSpec := { name := "fnExactPrimaryOf", fn := fun _ => fun
  | [d1, d2] => { results := [.lit (.bool true)], args := [d1, d2] }
  | _ => none }
def fnExactPrimaryOfRow : OpenClaim := { program := "ytkfhhmojamfbbaa", sum := "d9fa70d5e7a78640c5bd669f6f5d6a59a07103a1ec3d91acc957e4a688abae40", func := "loop.example/g00097/laws.FnExactPrimaryOf", spec := "fnExactPrimaryOf", apart := false }
def FnExactPrimaryOfSaid : Prop := fnExactPrimaryOfRow.holds Try.pinned (OpenSpec.ofChange fnExactPrimaryOfSpec)

/-- ITS FALSE NEIGHBOUR: 'it returns false'. Refute it at one input. -/
def fnExactPrimaryOfWrong : ChangeSpec := { name := "fnExactPrimaryOf", fn := fun _ => fun
  | [d1, d2] => { results := [.lit (.bool false)], args := [d1, d2] }
  | _ => none }
def FnExactPrimaryOfWrongFalsely : Prop := fnExactPrimaryOfRow.holds Try.pinned (OpenSpec.ofChange fnExactPrimaryOfWrong)

/-- 'laws.FnExactCmdOk': WHATEVER THE INPUT: true; the input reads as it did. -/
def fnExactCmdOkSpec : ChangeSpec := { name := "fnExactCmdOk", fn := fun _ => fun
  | [d] => { results := [.lit (.bool true)], args := [d] }
  | _ => none }
def fnExactCmdOkRow : OpenClaim := { program := "ytkfhhmojamfbbaa", sum := "d9fa70d5e7a78640c5bd669f6f5d6a59a07103a1ec3d91acc957e4a688abae40", func := "loop.example/g00097/laws.FnExactCmdOk", spec := "fnExactCmdOk", apart := false }
def FnExactCmdOkSaid : Prop := fnExactCmdOkRow.holds Try.pinned (OpenSpec.ofChange fnExactCmdOkSpec)

/-- ITS FALSE NEIGHBOUR: 'it returns false'. Refute it at one input. -/
def fnExactCmdOkWrong : ChangeSpec := { name := "fnExactCmdOk", fn := fun _ => fun
  | [d] => { results := [.lit (.bool false)], args := [d] }
  | _ => none }
def FnExactCmdOkWrongFalsely : Prop := fnExactCmdOkRow.holds Try.pinned (OpenSpec.ofChange fnExactCmdOkWrong)

/-- 'laws.FnExactEntryOk': WHATEVER THE INPUT: true; the input reads as it did. -/
def fnExactEntryOkSpec : ChangeSpec := { name := "fnExactEntryOk", fn := fun _ => fun
  | [d] => { results := [.lit (.bool true)], args := [d] }
  | _ => none }
def fnExactEntryOkRow : OpenClaim := { program := "ytkfhhmojamfbbaa", sum := "d9fa70d5e7a78640c5bd669f6f5d6a59a07103a1ec3d91acc957e4a688abae40", func := "loop.example/g00097/laws.FnExactEntryOk", spec := "fnExactEntryOk", apart := false }
def FnExactEntryOkSaid : Prop := fnExactEntryOkRow.holds Try.pinned (OpenSpec.ofChange fnExactEntryOkSpec)

/-- ITS FALSE NEIGHBOUR: 'it returns false'. Refute it at one input. -/
def fnExactEntryOkWrong : ChangeSpec := { name := "fnExactEntryOk", fn := fun _ => fun
  | [d] => { results := [.lit (.bool false)], args := [d] }
  | _ => none }
def FnExactEntryOkWrongFalsely : Prop := fnExactEntryOkRow.holds Try.pinned (OpenSpec.ofChange fnExactEntryOkWrong)

/-- 'laws.FnExactCrc': WHATEVER THE INPUT: true; the input reads as it did. -/
def fnExactCrcSpec : ChangeSpec := { name := "fnExactCrc", fn := fun _ => fun
  | [d] => { results := [.lit (.bool true)], args := [d] }
  | _ => none }
def fnExactCrcRow : OpenClaim := { program := "ytkfhhmojamfbbaa", sum := "d9fa70d5e7a78640c5bd669f6f5d6a59a07103a1ec3d91acc957e4a688abae40", func := "loop.example/g00097/laws.FnExactCrc", spec := "fnExactCrc", apart := false }
def FnExactCrcSaid : Prop := fnExactCrcRow.holds Try.pinned (OpenSpec.ofChange fnExactCrcSpec)

/-- ITS FALSE NEIGHBOUR: 'it returns false'. Refute it at one input. -/
def fnExactCrcWrong : ChangeSpec := { name := "fnExactCrc", fn := fun _ => fun
  | [d] => { results := [.lit (.bool false)], args := [d] }
  | _ => none }
def FnExactCrcWrongFalsely : Prop := fnExactCrcRow.holds Try.pinned (OpenSpec.ofChange fnExactCrcWrong)

/- THE SECOND FORM. 'bulk': how many values and letters a reading holds, each counted each time it is reached (what is shared counts as often as it is met; a slice's spare places count too). A statement '..UptoSaid' is the law's where the arguments, and the package variables that the reading takes, are together of bulk at most 1048576: NARROWER than '..Said'. Prove '..Said' where nothing that the law and all that it calls make is longer than what came in: it says more and counts as full. Else prove '..UptoSaid'. A law counts once. -/
mutual
def uptoBulk {H : Type} : DataW H → Nat
  | .lit (.string bytes) => bytes.length + 1
  | .lit _ => 1
  | .nil => 1
  | .ptr d => uptoBulk d + 1
  | .slice elems spare => uptoBulkAll elems + uptoBulkAll spare + 1
  | .agg parts => uptoBulkAll parts + 1
  | .iface _ d => uptoBulk d + 1
  | .map entries => uptoBulkEntries entries + 1
  | .held _ => 1
def uptoBulkAll {H : Type} : List (DataW H) → Nat
  | [] => 0
  | d :: r => uptoBulk d + uptoBulkAll r
def uptoBulkEntries {H : Type} : List (Lit × DataW H) → Nat
  | [] => 0
  | x :: r => uptoBulkEntry x + uptoBulkEntries r
def uptoBulkEntry {H : Type} : Lit × DataW H → Nat
  | (.string bytes, d) => bytes.length + uptoBulk d + 1
  | (_, d) => uptoBulk d + 1
 end
def uptoSmall : (H : Type) → List (DataW H) → Bool := fun _ ds => decide (uptoBulkAll ds ≤ 1048576)
def OpenSpec.upto (s : _root_.Go.ChangeSpec) : _root_.Go.OpenSpec := { _root_.Go.OpenSpec.ofChange s with cond := some uptoSmall }

/-- 'laws.FnExactConstants', WHERE WHAT IT READS IS OF BULK AT MOST 1048576: true; the input reads as it did. -/
def fnExactConstantsUptoRow : OpenClaim := { program := "ytkfhhmojamfbbaa", sum := "d9fa70d5e7a78640c5bd669f6f5d6a59a07103a1ec3d91acc957e4a688abae40", func := "loop.example/g00097/laws.FnExactConstants", spec := "fnExactConstants", apart := false, narrowed := true }
def FnExactConstantsUptoSaid : Prop := fnExactConstantsUptoRow.holds Try.pinned (OpenSpec.upto fnExactConstantsSpec)

/-- 'laws.FnExactPrimaryOf', WHERE WHAT IT READS IS OF BULK AT MOST 1048576: true; the input reads as it did. -/
def fnExactPrimaryOfUptoRow : OpenClaim := { program := "ytkfhhmojamfbbaa", sum := "d9fa70d5e7a78640c5bd669f6f5d6a59a07103a1ec3d91acc957e4a688abae40", func := "loop.example/g00097/laws.FnExactPrimaryOf", spec := "fnExactPrimaryOf", apart := false, narrowed := true }
def FnExactPrimaryOfUptoSaid : Prop := fnExactPrimaryOfUptoRow.holds Try.pinned (OpenSpec.upto fnExactPrimaryOfSpec)

/-- 'laws.FnExactCmdOk', WHERE WHAT IT READS IS OF BULK AT MOST 1048576: true; the input reads as it did. -/
def fnExactCmdOkUptoRow : OpenClaim := { program := "ytkfhhmojamfbbaa", sum := "d9fa70d5e7a78640c5bd669f6f5d6a59a07103a1ec3d91acc957e4a688abae40", func := "loop.example/g00097/laws.FnExactCmdOk", spec := "fnExactCmdOk", apart := false, narrowed := true }
def FnExactCmdOkUptoSaid : Prop := fnExactCmdOkUptoRow.holds Try.pinned (OpenSpec.upto fnExactCmdOkSpec)

/-- 'laws.FnExactEntryOk', WHERE WHAT IT READS IS OF BULK AT MOST 1048576: true; the input reads as it did. -/
def fnExactEntryOkUptoRow : OpenClaim := { program := "ytkfhhmojamfbbaa", sum := "d9fa70d5e7a78640c5bd669f6f5d6a59a07103a1ec3d91acc957e4a688abae40", func := "loop.example/g00097/laws.FnExactEntryOk", spec := "fnExactEntryOk", apart := false, narrowed := true }
def FnExactEntryOkUptoSaid : Prop := fnExactEntryOkUptoRow.holds Try.pinned (OpenSpec.upto fnExactEntryOkSpec)

/-- 'laws.FnExactCrc', WHERE WHAT IT READS IS OF BULK AT MOST 1048576: true; the input reads as it did. -/
def fnExactCrcUptoRow : OpenClaim := { program := "ytkfhhmojamfbbaa", sum := "d9fa70d5e7a78640c5bd669f6f5d6a59a07103a1ec3d91acc957e4a688abae40", func := "loop.example/g00097/laws.FnExactCrc", spec := "fnExactCrc", apart := false, narrowed := true }
def FnExactCrcUptoSaid : Prop := fnExactCrcUptoRow.holds Try.pinned (OpenSpec.upto fnExactCrcSpec)

end Rows
end Go.Proofs.Ytkfhhmojamfbbaa
