/-
  No cell of these rows narrows 'for every input' (looked for: loops, veiled, ifaces, maps, wideKeys, modest, calm, conditions, laid).
  DERIVED. THE GIVEN ROWS OF THIS SEAT. 8 by the template 'for every input the law returns true; each argument reads behind the call as it read before'; 0 by the template 'total and deterministic' (their statements: YtocmcfilldfdlaaTotals.lean).
  GIVEN WITH THE SEED: the statements are not yours to turn. If you find one false, say at which input.
  Laid BY PROGRAM, IN A SANDBOX (cutbox-rows.mjs): the forced cells as the released guide's own fill.sh prints them over the translation d6c4fbc3049f0d2f… (all of the seat's roots in one cut). By AI agents, Wed Nov 11 2026. No macro, syntax, notation, axiom, sorry.
-/
import Derived.Test.YtocmcfilldfdlaaChecked
import GoSem.Claim
import GoSem.ClaimJoined
import GoSem.ClaimMapViews
import Derived.JoinedTies
import Derived.KernelRfl
namespace Go.Proofs.Ytocmcfilldfdlaa
/- THE CELL 'sum', in the pinned program and in every row, IS THE sha256 OF THE DUMP (.gsa) THAT YtocmcfilldfdlaaProg.lean LOADS. Nothing in Lean hashes anything: it is a label: what it is worth is what the hold of that sum in a sandbox is worth. -/
noncomputable def Try.pinned : Pinned := { name := "ytocmcfilldfdlaa", sum := "d6c4fbc3049f0d2fddec88ccb193b1d952f2d862c68b0dc36aa936040916af1b", checked := Try.checked }
namespace Rows
def none {H : Type} : Left H := { results := [], args := [] }

/-- 'laws.FnExactSameLog': WHATEVER THE INPUT: true; the input reads as it did. -/
def fnExactSameLogSpec : ChangeSpec := { name := "fnExactSameLog", fn := fun _ => fun
  | [d1, d2] => { results := [.lit (.bool true)], args := [d1, d2] }
  | _ => none }
def fnExactSameLogRow : OpenClaim := { program := "ytocmcfilldfdlaa", sum := "d6c4fbc3049f0d2fddec88ccb193b1d952f2d862c68b0dc36aa936040916af1b", func := "loop.example/g00097/laws.FnExactSameLog", spec := "fnExactSameLog", apart := false }
def FnExactSameLogSaid : Prop := fnExactSameLogRow.holds Try.pinned (OpenSpec.ofChange fnExactSameLogSpec)

/-- ITS FALSE NEIGHBOUR: 'it returns false'. Refute it at one input. -/
def fnExactSameLogWrong : ChangeSpec := { name := "fnExactSameLog", fn := fun _ => fun
  | [d1, d2] => { results := [.lit (.bool false)], args := [d1, d2] }
  | _ => none }
def FnExactSameLogWrongFalsely : Prop := fnExactSameLogRow.holds Try.pinned (OpenSpec.ofChange fnExactSameLogWrong)

/-- 'laws.FnExactLogOk': WHATEVER THE INPUT: true; the input reads as it did. -/
def fnExactLogOkSpec : ChangeSpec := { name := "fnExactLogOk", fn := fun _ => fun
  | [d] => { results := [.lit (.bool true)], args := [d] }
  | _ => none }
def fnExactLogOkRow : OpenClaim := { program := "ytocmcfilldfdlaa", sum := "d6c4fbc3049f0d2fddec88ccb193b1d952f2d862c68b0dc36aa936040916af1b", func := "loop.example/g00097/laws.FnExactLogOk", spec := "fnExactLogOk", unfollowed := true, recurses := true, apart := false }
def FnExactLogOkSaid : Prop := fnExactLogOkRow.holds Try.pinned (OpenSpec.ofChange fnExactLogOkSpec)

/-- ITS FALSE NEIGHBOUR: 'it returns false'. Refute it at one input. -/
def fnExactLogOkWrong : ChangeSpec := { name := "fnExactLogOk", fn := fun _ => fun
  | [d] => { results := [.lit (.bool false)], args := [d] }
  | _ => none }
def FnExactLogOkWrongFalsely : Prop := fnExactLogOkRow.holds Try.pinned (OpenSpec.ofChange fnExactLogOkWrong)

/-- 'laws.FnExactLogEnd': WHATEVER THE INPUT: true; the input reads as it did. -/
def fnExactLogEndSpec : ChangeSpec := { name := "fnExactLogEnd", fn := fun _ => fun
  | [d] => { results := [.lit (.bool true)], args := [d] }
  | _ => none }
def fnExactLogEndRow : OpenClaim := { program := "ytocmcfilldfdlaa", sum := "d6c4fbc3049f0d2fddec88ccb193b1d952f2d862c68b0dc36aa936040916af1b", func := "loop.example/g00097/laws.FnExactLogEnd", spec := "fnExactLogEnd", unfollowed := true, recurses := true, apart := false }
def FnExactLogEndSaid : Prop := fnExactLogEndRow.holds Try.pinned (OpenSpec.ofChange fnExactLogEndSpec)

/-- ITS FALSE NEIGHBOUR: 'it returns false'. Refute it at one input. -/
def fnExactLogEndWrong : ChangeSpec := { name := "fnExactLogEnd", fn := fun _ => fun
  | [d] => { results := [.lit (.bool false)], args := [d] }
  | _ => none }
def FnExactLogEndWrongFalsely : Prop := fnExactLogEndRow.holds Try.pinned (OpenSpec.ofChange fnExactLogEndWrong)

/-- 'laws.FnExactLogAt': WHATEVER THE INPUT: true; the input reads as it did. -/
def fnExactLogAtSpec : ChangeSpec := { name := "fnExactLogAt", fn := fun _ => fun
  | [d1, d2] => { results := [.lit (.bool true)], args := [d1, d2] }
  | _ => none }
def fnExactLogAtRow : OpenClaim := { program := "ytocmcfilldfdlaa", sum := "d6c4fbc3049f0d2fddec88ccb193b1d952f2d862c68b0dc36aa936040916af1b", func := "loop.example/g00097/laws.FnExactLogAt", spec := "fnExactLogAt", unfollowed := true, recurses := true, apart := false }
def FnExactLogAtSaid : Prop := fnExactLogAtRow.holds Try.pinned (OpenSpec.ofChange fnExactLogAtSpec)

/-- ITS FALSE NEIGHBOUR: 'it returns false'. Refute it at one input. -/
def fnExactLogAtWrong : ChangeSpec := { name := "fnExactLogAt", fn := fun _ => fun
  | [d1, d2] => { results := [.lit (.bool false)], args := [d1, d2] }
  | _ => none }
def FnExactLogAtWrongFalsely : Prop := fnExactLogAtRow.holds Try.pinned (OpenSpec.ofChange fnExactLogAtWrong)

/-- 'laws.FnExactLogFrom': WHATEVER THE INPUT: true; the input reads as it did. -/
def fnExactLogFromSpec : ChangeSpec := { name := "fnExactLogFrom", fn := fun _ => fun
  | [d1, d2] => { results := [.lit (.bool true)], args := [d1, d2] }
  | _ => none }
def fnExactLogFromRow : OpenClaim := { program := "ytocmcfilldfdlaa", sum := "d6c4fbc3049f0d2fddec88ccb193b1d952f2d862c68b0dc36aa936040916af1b", func := "loop.example/g00097/laws.FnExactLogFrom", spec := "fnExactLogFrom", unfollowed := true, recurses := true, apart := false }
def FnExactLogFromSaid : Prop := fnExactLogFromRow.holds Try.pinned (OpenSpec.ofChange fnExactLogFromSpec)

/-- ITS FALSE NEIGHBOUR: 'it returns false'. Refute it at one input. -/
def fnExactLogFromWrong : ChangeSpec := { name := "fnExactLogFrom", fn := fun _ => fun
  | [d1, d2] => { results := [.lit (.bool false)], args := [d1, d2] }
  | _ => none }
def FnExactLogFromWrongFalsely : Prop := fnExactLogFromRow.holds Try.pinned (OpenSpec.ofChange fnExactLogFromWrong)

/-- 'laws.FnCut': WHATEVER THE INPUT: true; the input reads as it did. -/
def fnCutSpec : ChangeSpec := { name := "fnCut", fn := fun _ => fun
  | [d] => { results := [.lit (.bool true)], args := [d] }
  | _ => none }
def fnCutRow : OpenClaim := { program := "ytocmcfilldfdlaa", sum := "d6c4fbc3049f0d2fddec88ccb193b1d952f2d862c68b0dc36aa936040916af1b", func := "loop.example/g00097/laws.FnCut", spec := "fnCut", unfollowed := true, recurses := true, apart := false }
def FnCutSaid : Prop := fnCutRow.holds Try.pinned (OpenSpec.ofChange fnCutSpec)

/-- ITS FALSE NEIGHBOUR: 'it returns false'. Refute it at one input. -/
def fnCutWrong : ChangeSpec := { name := "fnCut", fn := fun _ => fun
  | [d] => { results := [.lit (.bool false)], args := [d] }
  | _ => none }
def FnCutWrongFalsely : Prop := fnCutRow.holds Try.pinned (OpenSpec.ofChange fnCutWrong)

/-- 'laws.FnExactLogUpto': WHATEVER THE INPUT: true; the input reads as it did. -/
def fnExactLogUptoSpec : ChangeSpec := { name := "fnExactLogUpto", fn := fun _ => fun
  | [d1, d2] => { results := [.lit (.bool true)], args := [d1, d2] }
  | _ => none }
def fnExactLogUptoRow : OpenClaim := { program := "ytocmcfilldfdlaa", sum := "d6c4fbc3049f0d2fddec88ccb193b1d952f2d862c68b0dc36aa936040916af1b", func := "loop.example/g00097/laws.FnExactLogUpto", spec := "fnExactLogUpto", unfollowed := true, recurses := true, apart := false }
def FnExactLogUptoSaid : Prop := fnExactLogUptoRow.holds Try.pinned (OpenSpec.ofChange fnExactLogUptoSpec)

/-- ITS FALSE NEIGHBOUR: 'it returns false'. Refute it at one input. -/
def fnExactLogUptoWrong : ChangeSpec := { name := "fnExactLogUpto", fn := fun _ => fun
  | [d1, d2] => { results := [.lit (.bool false)], args := [d1, d2] }
  | _ => none }
def FnExactLogUptoWrongFalsely : Prop := fnExactLogUptoRow.holds Try.pinned (OpenSpec.ofChange fnExactLogUptoWrong)

/-- 'laws.FnExactLogPut': WHATEVER THE INPUT: true; the input reads as it did. -/
def fnExactLogPutSpec : ChangeSpec := { name := "fnExactLogPut", fn := fun _ => fun
  | [d1, d2] => { results := [.lit (.bool true)], args := [d1, d2] }
  | _ => none }
def fnExactLogPutRow : OpenClaim := { program := "ytocmcfilldfdlaa", sum := "d6c4fbc3049f0d2fddec88ccb193b1d952f2d862c68b0dc36aa936040916af1b", func := "loop.example/g00097/laws.FnExactLogPut", spec := "fnExactLogPut", unfollowed := true, recurses := true, apart := false }
def FnExactLogPutSaid : Prop := fnExactLogPutRow.holds Try.pinned (OpenSpec.ofChange fnExactLogPutSpec)

/-- ITS FALSE NEIGHBOUR: 'it returns false'. Refute it at one input. -/
def fnExactLogPutWrong : ChangeSpec := { name := "fnExactLogPut", fn := fun _ => fun
  | [d1, d2] => { results := [.lit (.bool false)], args := [d1, d2] }
  | _ => none }
def FnExactLogPutWrongFalsely : Prop := fnExactLogPutRow.holds Try.pinned (OpenSpec.ofChange fnExactLogPutWrong)

/- THE SECOND FORM. 'bulk': how many values and letters a reading holds, each counted each time it is reached (what is shared counts as often as it is met; a slice's spare places count too). A statement '..UptoSaid' is the law's where the arguments, and the package variables that the reading takes, are together of bulk at most 1048576: NARROWER than '..Said'. Prove '..Said' where nothing that the law and all that it calls make is longer than what came in: it says more and counts as full. Else prove '..UptoSaid'. A law counts once. -/
mutual
def uptoBulk {H : Type} : DataW H → Nat
  | .lit (.string bytes) => bytes.length + 1
  | .lit _ => 1
  | .nil => 1
  | .ptr d => uptoBulk d + 1
  | .slice elems spare => uptoBulkAll elems + uptoBulkAll spare + 1
  | .agg parts => uptoBulkAll parts + 1
  | .iface _ d => uptoBulk d + 1
  | .map entries => uptoBulkEntries entries + 1
  | .held _ => 1
def uptoBulkAll {H : Type} : List (DataW H) → Nat
  | [] => 0
  | d :: r => uptoBulk d + uptoBulkAll r
def uptoBulkEntries {H : Type} : List (Lit × DataW H) → Nat
  | [] => 0
  | x :: r => uptoBulkEntry x + uptoBulkEntries r
def uptoBulkEntry {H : Type} : Lit × DataW H → Nat
  | (.string bytes, d) => bytes.length + uptoBulk d + 1
  | (_, d) => uptoBulk d + 1
 end
def uptoSmall : (H : Type) → List (DataW H) → Bool := fun _ ds => decide (uptoBulkAll ds ≤ 1048576)
def OpenSpec.upto (s : _root_.Go.ChangeSpec) : _root_.Go.OpenSpec := { _root_.Go.OpenSpec.ofChange s with cond := some uptoSmall }

/-- 'laws.FnExactSameLog', WHERE WHAT IT READS IS OF BULK AT MOST 1048576: true; the input reads as it did. -/
def fnExactSameLogUptoRow : OpenClaim := { program := "ytocmcfilldfdlaa", sum := "d6c4fbc3049f0d2fddec88ccb193b1d952f2d862c68b0dc36aa936040916af1b", func := "loop.example/g00097/laws.FnExactSameLog", spec := "fnExactSameLog", apart := false, narrowed := true }
def FnExactSameLogUptoSaid : Prop := fnExactSameLogUptoRow.holds Try.pinned (OpenSpec.upto fnExactSameLogSpec)

/-- 'laws.FnExactLogOk', WHERE WHAT IT READS IS OF BULK AT MOST 1048576: true; the input reads as it did. -/
def fnExactLogOkUptoRow : OpenClaim := { program := "ytocmcfilldfdlaa", sum := "d6c4fbc3049f0d2fddec88ccb193b1d952f2d862c68b0dc36aa936040916af1b", func := "loop.example/g00097/laws.FnExactLogOk", spec := "fnExactLogOk", unfollowed := true, recurses := true, apart := false, narrowed := true }
def FnExactLogOkUptoSaid : Prop := fnExactLogOkUptoRow.holds Try.pinned (OpenSpec.upto fnExactLogOkSpec)

/-- 'laws.FnExactLogEnd', WHERE WHAT IT READS IS OF BULK AT MOST 1048576: true; the input reads as it did. -/
def fnExactLogEndUptoRow : OpenClaim := { program := "ytocmcfilldfdlaa", sum := "d6c4fbc3049f0d2fddec88ccb193b1d952f2d862c68b0dc36aa936040916af1b", func := "loop.example/g00097/laws.FnExactLogEnd", spec := "fnExactLogEnd", unfollowed := true, recurses := true, apart := false, narrowed := true }
def FnExactLogEndUptoSaid : Prop := fnExactLogEndUptoRow.holds Try.pinned (OpenSpec.upto fnExactLogEndSpec)

/-- 'laws.FnExactLogAt', WHERE WHAT IT READS IS OF BULK AT MOST 1048576: true; the input reads as it did. -/
def fnExactLogAtUptoRow : OpenClaim := { program := "ytocmcfilldfdlaa", sum := "d6c4fbc3049f0d2fddec88ccb193b1d952f2d862c68b0dc36aa936040916af1b", func := "loop.example/g00097/laws.FnExactLogAt", spec := "fnExactLogAt", unfollowed := true, recurses := true, apart := false, narrowed := true }
def FnExactLogAtUptoSaid : Prop := fnExactLogAtUptoRow.holds Try.pinned (OpenSpec.upto fnExactLogAtSpec)

/-- 'laws.FnExactLogFrom', WHERE WHAT IT READS IS OF BULK AT MOST 1048576: true; the input reads as it did. -/
def fnExactLogFromUptoRow : OpenClaim := { program := "ytocmcfilldfdlaa", sum := "d6c4fbc3049f0d2fddec88ccb193b1d952f2d862c68b0dc36aa936040916af1b", func := "loop.example/g00097/laws.FnExactLogFrom", spec := "fnExactLogFrom", unfollowed := true, recurses := true, apart := false, narrowed := true }
def FnExactLogFromUptoSaid : Prop := fnExactLogFromUptoRow.holds Try.pinned (OpenSpec.upto fnExactLogFromSpec)

/-- 'laws.FnCut', WHERE WHAT IT READS IS OF BULK AT MOST 1048576: true; the input reads as it did. -/
def fnCutUptoRow : OpenClaim := { program := "ytocmcfilldfdlaa", sum := "d6c4fbc3049f0d2fddec88ccb193b1d952f2d862c68b0dc36aa936040916af1b", func := "loop.example/g00097/laws.FnCut", spec := "fnCut", unfollowed := true, recurses := true, apart := false, narrowed := true }
def FnCutUptoSaid : Prop := fnCutUptoRow.holds Try.pinned (OpenSpec.upto fnCutSpec)

/-- 'laws.FnExactLogUpto', WHERE WHAT IT READS IS OF BULK AT MOST 1048576: true; the input reads as it did. -/
def fnExactLogUptoUptoRow : OpenClaim := { program := "ytocmcfilldfdlaa", sum := "d6c4fbc3049f0d2fddec88ccb193b1d952f2d862c68b0dc36aa936040916af1b", func := "loop.example/g00097/laws.FnExactLogUpto", spec := "fnExactLogUpto", unfollowed := true, recurses := true, apart := false, narrowed := true }
def FnExactLogUptoUptoSaid : Prop := fnExactLogUptoUptoRow.holds Try.pinned (OpenSpec.upto fnExactLogUptoSpec)

/-- 'laws.FnExactLogPut', WHERE WHAT IT READS IS OF BULK AT MOST 1048576: true; the input reads as it did. -/
def fnExactLogPutUptoRow : OpenClaim := { program := "ytocmcfilldfdlaa", sum := "d6c4fbc3049f0d2fddec88ccb193b1d952f2d862c68b0dc36aa936040916af1b", func := "loop.example/g00097/laws.FnExactLogPut", spec := "fnExactLogPut", unfollowed := true, recurses := true, apart := false, narrowed := true }
def FnExactLogPutUptoSaid : Prop := fnExactLogPutUptoRow.holds Try.pinned (OpenSpec.upto fnExactLogPutSpec)

end Rows
end Go.Proofs.Ytocmcfilldfdlaa
