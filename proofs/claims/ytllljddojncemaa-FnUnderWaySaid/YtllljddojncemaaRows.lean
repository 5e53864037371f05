/-
  No cell of these rows narrows 'for every input' (looked for: loops, veiled, ifaces, maps, wideKeys, modest, calm, conditions, laid).
  DERIVED. THE GIVEN ROWS OF THIS SEAT. 8 by the template 'for every input the law returns true; each argument reads behind the call as it read before'; 0 by the template 'total and deterministic' (their statements: YtllljddojncemaaTotals.lean).
  GIVEN WITH THE SEED: the statements are not yours to turn. If you find one false, say at which input.
  Laid BY PROGRAM, IN A SANDBOX (cutbox-rows.mjs): the forced cells as the released guide's own fill.sh prints them over the translation c3867eb9a3a0434e… (all of the seat's roots in one cut). By AI agents, Wed Nov 11 2026. No macro, syntax, notation, axiom, sorry.
-/
import Derived.Test.YtllljddojncemaaChecked
import GoSem.Claim
import GoSem.ClaimJoined
import GoSem.ClaimMapViews
import Derived.JoinedTies
import Derived.KernelRfl
namespace Go.Proofs.Ytllljddojncemaa
/- THE CELL 'sum', in the pinned program and in every row, IS THE sha256 OF THE DUMP (.gsa) THAT YtllljddojncemaaProg.lean LOADS. Nothing in Lean hashes anything: it is a label: what it is worth is what the hold of that sum in a sandbox is worth. -/
noncomputable def Try.pinned : Pinned := { name := "ytllljddojncemaa", sum := "c3867eb9a3a0434e68aaa2a955ad128a64e8cfadd977e346cceb2c71aad4c530", checked := Try.checked }
namespace Rows
def none {H : Type} : Left H := { results := [], args := [] }

/-- 'laws.FnExactNetOk': WHATEVER THE INPUT: true; the input reads as it did. -/
def fnExactNetOkSpec : ChangeSpec := { name := "fnExactNetOk", fn := fun _ => fun
  | [d] => { results := [.lit (.bool true)], args := [d] }
  | _ => none }
def fnExactNetOkRow : OpenClaim := { program := "ytllljddojncemaa", sum := "c3867eb9a3a0434e68aaa2a955ad128a64e8cfadd977e346cceb2c71aad4c530", func := "loop.example/g00097/laws.FnExactNetOk", spec := "fnExactNetOk", unfollowed := true, recurses := true, apart := false }
def FnExactNetOkSaid : Prop := fnExactNetOkRow.holds Try.pinned (OpenSpec.ofChange fnExactNetOkSpec)

/-- ITS FALSE NEIGHBOUR: 'it returns false'. Refute it at one input. -/
def fnExactNetOkWrong : ChangeSpec := { name := "fnExactNetOk", fn := fun _ => fun
  | [d] => { results := [.lit (.bool false)], args := [d] }
  | _ => none }
def FnExactNetOkWrongFalsely : Prop := fnExactNetOkRow.holds Try.pinned (OpenSpec.ofChange fnExactNetOkWrong)

/-- 'laws.FnExactNetFor': WHATEVER THE INPUT: true; the input reads as it did. -/
def fnExactNetForSpec : ChangeSpec := { name := "fnExactNetFor", fn := fun _ => fun
  | [d1, d2] => { results := [.lit (.bool true)], args := [d1, d2] }
  | _ => none }
def fnExactNetForRow : OpenClaim := { program := "ytllljddojncemaa", sum := "c3867eb9a3a0434e68aaa2a955ad128a64e8cfadd977e346cceb2c71aad4c530", func := "loop.example/g00097/laws.FnExactNetFor", spec := "fnExactNetFor", unfollowed := true, recurses := true, apart := false }
def FnExactNetForSaid : Prop := fnExactNetForRow.holds Try.pinned (OpenSpec.ofChange fnExactNetForSpec)

/-- ITS FALSE NEIGHBOUR: 'it returns false'. Refute it at one input. -/
def fnExactNetForWrong : ChangeSpec := { name := "fnExactNetFor", fn := fun _ => fun
  | [d1, d2] => { results := [.lit (.bool false)], args := [d1, d2] }
  | _ => none }
def FnExactNetForWrongFalsely : Prop := fnExactNetForRow.holds Try.pinned (OpenSpec.ofChange fnExactNetForWrong)

/-- 'laws.FnExactNetSend': WHATEVER THE INPUT: true; the input reads as it did. -/
def fnExactNetSendSpec : ChangeSpec := { name := "fnExactNetSend", fn := fun _ => fun
  | [d1, d2, d3] => { results := [.lit (.bool true)], args := [d1, d2, d3] }
  | _ => none }
def fnExactNetSendRow : OpenClaim := { program := "ytllljddojncemaa", sum := "c3867eb9a3a0434e68aaa2a955ad128a64e8cfadd977e346cceb2c71aad4c530", func := "loop.example/g00097/laws.FnExactNetSend", spec := "fnExactNetSend", unfollowed := true, recurses := true, apart := false }
def FnExactNetSendSaid : Prop := fnExactNetSendRow.holds Try.pinned (OpenSpec.ofChange fnExactNetSendSpec)

/-- ITS FALSE NEIGHBOUR: 'it returns false'. Refute it at one input. -/
def fnExactNetSendWrong : ChangeSpec := { name := "fnExactNetSend", fn := fun _ => fun
  | [d1, d2, d3] => { results := [.lit (.bool false)], args := [d1, d2, d3] }
  | _ => none }
def FnExactNetSendWrongFalsely : Prop := fnExactNetSendRow.holds Try.pinned (OpenSpec.ofChange fnExactNetSendWrong)

/-- 'laws.FnExactNetTake': WHATEVER THE INPUT: true; the input reads as it did. -/
def fnExactNetTakeSpec : ChangeSpec := { name := "fnExactNetTake", fn := fun _ => fun
  | [d1, d2] => { results := [.lit (.bool true)], args := [d1, d2] }
  | _ => none }
def fnExactNetTakeRow : OpenClaim := { program := "ytllljddojncemaa", sum := "c3867eb9a3a0434e68aaa2a955ad128a64e8cfadd977e346cceb2c71aad4c530", func := "loop.example/g00097/laws.FnExactNetTake", spec := "fnExactNetTake", unfollowed := true, recurses := true, apart := false }
def FnExactNetTakeSaid : Prop := fnExactNetTakeRow.holds Try.pinned (OpenSpec.ofChange fnExactNetTakeSpec)

/-- ITS FALSE NEIGHBOUR: 'it returns false'. Refute it at one input. -/
def fnExactNetTakeWrong : ChangeSpec := { name := "fnExactNetTake", fn := fun _ => fun
  | [d1, d2] => { results := [.lit (.bool false)], args := [d1, d2] }
  | _ => none }
def FnExactNetTakeWrongFalsely : Prop := fnExactNetTakeRow.holds Try.pinned (OpenSpec.ofChange fnExactNetTakeWrong)

/-- 'laws.FnExactNetSpoil': WHATEVER THE INPUT: true; the input reads as it did. -/
def fnExactNetSpoilSpec : ChangeSpec := { name := "fnExactNetSpoil", fn := fun _ => fun
  | [d1, d2, d3] => { results := [.lit (.bool true)], args := [d1, d2, d3] }
  | _ => none }
def fnExactNetSpoilRow : OpenClaim := { program := "ytllljddojncemaa", sum := "c3867eb9a3a0434e68aaa2a955ad128a64e8cfadd977e346cceb2c71aad4c530", func := "loop.example/g00097/laws.FnExactNetSpoil", spec := "fnExactNetSpoil", unfollowed := true, recurses := true, apart := false }
def FnExactNetSpoilSaid : Prop := fnExactNetSpoilRow.holds Try.pinned (OpenSpec.ofChange fnExactNetSpoilSpec)

/-- ITS FALSE NEIGHBOUR: 'it returns false'. Refute it at one input. -/
def fnExactNetSpoilWrong : ChangeSpec := { name := "fnExactNetSpoil", fn := fun _ => fun
  | [d1, d2, d3] => { results := [.lit (.bool false)], args := [d1, d2, d3] }
  | _ => none }
def FnExactNetSpoilWrongFalsely : Prop := fnExactNetSpoilRow.holds Try.pinned (OpenSpec.ofChange fnExactNetSpoilWrong)

/-- 'laws.FnExactNetDouble': WHATEVER THE INPUT: true; the input reads as it did. -/
def fnExactNetDoubleSpec : ChangeSpec := { name := "fnExactNetDouble", fn := fun _ => fun
  | [d1, d2] => { results := [.lit (.bool true)], args := [d1, d2] }
  | _ => none }
def fnExactNetDoubleRow : OpenClaim := { program := "ytllljddojncemaa", sum := "c3867eb9a3a0434e68aaa2a955ad128a64e8cfadd977e346cceb2c71aad4c530", func := "loop.example/g00097/laws.FnExactNetDouble", spec := "fnExactNetDouble", unfollowed := true, recurses := true, apart := false }
def FnExactNetDoubleSaid : Prop := fnExactNetDoubleRow.holds Try.pinned (OpenSpec.ofChange fnExactNetDoubleSpec)

/-- ITS FALSE NEIGHBOUR: 'it returns false'. Refute it at one input. -/
def fnExactNetDoubleWrong : ChangeSpec := { name := "fnExactNetDouble", fn := fun _ => fun
  | [d1, d2] => { results := [.lit (.bool false)], args := [d1, d2] }
  | _ => none }
def FnExactNetDoubleWrongFalsely : Prop := fnExactNetDoubleRow.holds Try.pinned (OpenSpec.ofChange fnExactNetDoubleWrong)

/-- 'laws.FnExactNetMove': WHATEVER THE INPUT: true; the input reads as it did. -/
def fnExactNetMoveSpec : ChangeSpec := { name := "fnExactNetMove", fn := fun _ => fun
  | [d1, d2, d3] => { results := [.lit (.bool true)], args := [d1, d2, d3] }
  | _ => none }
def fnExactNetMoveRow : OpenClaim := { program := "ytllljddojncemaa", sum := "c3867eb9a3a0434e68aaa2a955ad128a64e8cfadd977e346cceb2c71aad4c530", func := "loop.example/g00097/laws.FnExactNetMove", spec := "fnExactNetMove", inPlace := ["slices.overlaps[loop.example/g00097/impl.Flight]"], unfollowed := true, recurses := true, apart := false }
def FnExactNetMoveSaid : Prop := fnExactNetMoveRow.holds Try.pinned (OpenSpec.ofChange fnExactNetMoveSpec)

/-- ITS FALSE NEIGHBOUR: 'it returns false'. Refute it at one input. -/
def fnExactNetMoveWrong : ChangeSpec := { name := "fnExactNetMove", fn := fun _ => fun
  | [d1, d2, d3] => { results := [.lit (.bool false)], args := [d1, d2, d3] }
  | _ => none }
def FnExactNetMoveWrongFalsely : Prop := fnExactNetMoveRow.holds Try.pinned (OpenSpec.ofChange fnExactNetMoveWrong)

/-- 'laws.FnUnderWay': WHATEVER THE INPUT: true; the input reads as it did. -/
def fnUnderWaySpec : ChangeSpec := { name := "fnUnderWay", fn := fun _ => fun
  | [d] => { results := [.lit (.bool true)], args := [d] }
  | _ => none }
def fnUnderWayRow : OpenClaim := { program := "ytllljddojncemaa", sum := "c3867eb9a3a0434e68aaa2a955ad128a64e8cfadd977e346cceb2c71aad4c530", func := "loop.example/g00097/laws.FnUnderWay", spec := "fnUnderWay", inPlace := ["slices.overlaps[loop.example/g00097/impl.Flight]"], unfollowed := true, recurses := true, apart := false }
def FnUnderWaySaid : Prop := fnUnderWayRow.holds Try.pinned (OpenSpec.ofChange fnUnderWaySpec)

/-- ITS FALSE NEIGHBOUR: 'it returns false'. Refute it at one input. -/
def fnUnderWayWrong : ChangeSpec := { name := "fnUnderWay", fn := fun _ => fun
  | [d] => { results := [.lit (.bool false)], args := [d] }
  | _ => none }
def FnUnderWayWrongFalsely : Prop := fnUnderWayRow.holds Try.pinned (OpenSpec.ofChange fnUnderWayWrong)

/- THE SECOND FORM. 'bulk': how many values and letters a reading holds, each counted each time it is reached (what is shared counts as often as it is met; a slice's spare places count too). A statement '..UptoSaid' is the law's where the arguments, and the package variables that the reading takes, are together of bulk at most 1048576: NARROWER than '..Said'. Prove '..Said' where nothing that the law and all that it calls make is longer than what came in: it says more and counts as full. Else prove '..UptoSaid'. A law counts once. -/
mutual
def uptoBulk {H : Type} : DataW H → Nat
  | .lit (.string bytes) => bytes.length + 1
  | .lit _ => 1
  | .nil => 1
  | .ptr d => uptoBulk d + 1
  | .slice elems spare => uptoBulkAll elems + uptoBulkAll spare + 1
  | .agg parts => uptoBulkAll parts + 1
  | .iface _ d => uptoBulk d + 1
  | .map entries => uptoBulkEntries entries + 1
  | .held _ => 1
def uptoBulkAll {H : Type} : List (DataW H) → Nat
  | [] => 0
  | d :: r => uptoBulk d + uptoBulkAll r
def uptoBulkEntries {H : Type} : List (Lit × DataW H) → Nat
  | [] => 0
  | x :: r => uptoBulkEntry x + uptoBulkEntries r
def uptoBulkEntry {H : Type} : Lit × DataW H → Nat
  | (.string bytes, d) => bytes.length + uptoBulk d + 1
  | (_, d) => uptoBulk d + 1
 end
def uptoSmall : (H : Type) → List (DataW H) → Bool := fun _ ds => decide (uptoBulkAll ds ≤ 1048576)
def OpenSpec.upto (s : _root_.Go.ChangeSpec) : _root_.Go.OpenSpec := { _root_.Go.OpenSpec.ofChange s with cond := some uptoSmall }

/-- 'laws.FnExactNetOk', WHERE WHAT IT READS IS OF BULK AT MOST 1048576: true; the input reads as it did. -/
def fnExactNetOkUptoRow : OpenClaim := { program := "ytllljddojncemaa", sum := "c3867eb9a3a0434e68aaa2a955ad128a64e8cfadd977e346cceb2c71aad4c530", func := "loop.example/g00097/laws.FnExactNetOk", spec := "fnExactNetOk", unfollowed := true, recurses := true, apart := false, narrowed := true }
def FnExactNetOkUptoSaid : Prop := fnExactNetOkUptoRow.holds Try.pinned (OpenSpec.upto fnExactNetOkSpec)

/-- 'laws.FnExactNetFor', WHERE WHAT IT READS IS OF BULK AT MOST 1048576: true; the input reads as it did. -/
def fnExactNetForUptoRow : OpenClaim := { program := "ytllljddojncemaa", sum := "c3867eb9a3a0434e68aaa2a955ad128a64e8cfadd977e346cceb2c71aad4c530", func := "loop.example/g00097/laws.FnExactNetFor", spec := "fnExactNetFor", unfollowed := true, recurses := true, apart := false, narrowed := true }
def FnExactNetForUptoSaid : Prop := fnExactNetForUptoRow.holds Try.pinned (OpenSpec.upto fnExactNetForSpec)

/-- 'laws.FnExactNetSend', WHERE WHAT IT READS IS OF BULK AT MOST 1048576: true; the input reads as it did. -/
def fnExactNetSendUptoRow : OpenClaim := { program := "ytllljddojncemaa", sum := "c3867eb9a3a0434e68aaa2a955ad128a64e8cfadd977e346cceb2c71aad4c530", func := "loop.example/g00097/laws.FnExactNetSend", spec := "fnExactNetSend", unfollowed := true, recurses := true, apart := false, narrowed := true }
def FnExactNetSendUptoSaid : Prop := fnExactNetSendUptoRow.holds Try.pinned (OpenSpec.upto fnExactNetSendSpec)

/-- 'laws.FnExactNetTake', WHERE WHAT IT READS IS OF BULK AT MOST 1048576: true; the input reads as it did. -/
def fnExactNetTakeUptoRow : OpenClaim := { program := "ytllljddojncemaa", sum := "c3867eb9a3a0434e68aaa2a955ad128a64e8cfadd977e346cceb2c71aad4c530", func := "loop.example/g00097/laws.FnExactNetTake", spec := "fnExactNetTake", unfollowed := true, recurses := true, apart := false, narrowed := true }
def FnExactNetTakeUptoSaid : Prop := fnExactNetTakeUptoRow.holds Try.pinned (OpenSpec.upto fnExactNetTakeSpec)

/-- 'laws.FnExactNetSpoil', WHERE WHAT IT READS IS OF BULK AT MOST 1048576: true; the input reads as it did. -/
def fnExactNetSpoilUptoRow : OpenClaim := { program := "ytllljddojncemaa", sum := "c3867eb9a3a0434e68aaa2a955ad128a64e8cfadd977e346cceb2c71aad4c530", func := "loop.example/g00097/laws.FnExactNetSpoil", spec := "fnExactNetSpoil", unfollowed := true, recurses := true, apart := false, narrowed := true }
def FnExactNetSpoilUptoSaid : Prop := fnExactNetSpoilUptoRow.holds Try.pinned (OpenSpec.upto fnExactNetSpoilSpec)

/-- 'laws.FnExactNetDouble', WHERE WHAT IT READS IS OF BULK AT MOST 1048576: true; the input reads as it did. -/
def fnExactNetDoubleUptoRow : OpenClaim := { program := "ytllljddojncemaa", sum := "c3867eb9a3a0434e68aaa2a955ad128a64e8cfadd977e346cceb2c71aad4c530", func := "loop.example/g00097/laws.FnExactNetDouble", spec := "fnExactNetDouble", unfollowed := true, recurses := true, apart := false, narrowed := true }
def FnExactNetDoubleUptoSaid : Prop := fnExactNetDoubleUptoRow.holds Try.pinned (OpenSpec.upto fnExactNetDoubleSpec)

/-- 'laws.FnExactNetMove', WHERE WHAT IT READS IS OF BULK AT MOST 1048576: true; the input reads as it did. -/
def fnExactNetMoveUptoRow : OpenClaim := { program := "ytllljddojncemaa", sum := "c3867eb9a3a0434e68aaa2a955ad128a64e8cfadd977e346cceb2c71aad4c530", func := "loop.example/g00097/laws.FnExactNetMove", spec := "fnExactNetMove", inPlace := ["slices.overlaps[loop.example/g00097/impl.Flight]"], unfollowed := true, recurses := true, apart := false, narrowed := true }
def FnExactNetMoveUptoSaid : Prop := fnExactNetMoveUptoRow.holds Try.pinned (OpenSpec.upto fnExactNetMoveSpec)

/-- 'laws.FnUnderWay', WHERE WHAT IT READS IS OF BULK AT MOST 1048576: true; the input reads as it did. -/
def fnUnderWayUptoRow : OpenClaim := { program := "ytllljddojncemaa", sum := "c3867eb9a3a0434e68aaa2a955ad128a64e8cfadd977e346cceb2c71aad4c530", func := "loop.example/g00097/laws.FnUnderWay", spec := "fnUnderWay", inPlace := ["slices.overlaps[loop.example/g00097/impl.Flight]"], unfollowed := true, recurses := true, apart := false, narrowed := true }
def FnUnderWayUptoSaid : Prop := fnUnderWayUptoRow.holds Try.pinned (OpenSpec.upto fnUnderWaySpec)

end Rows
end Go.Proofs.Ytllljddojncemaa
