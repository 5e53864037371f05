/-
  No cell of these rows narrows 'for every input' (looked for: loops, veiled, ifaces, maps, wideKeys, modest, calm, conditions, laid).
  DERIVED. THE GIVEN ROWS OF THIS SEAT. 3 by the template 'for every input the law returns true; each argument reads behind the call as it read before'; 0 by the template 'total and deterministic' (their statements: YtekphmkgiioloaaTotals.lean).
  GIVEN WITH THE SEED: the statements are not yours to turn. If you find one false, say at which input.
  Laid BY PROGRAM, IN A SANDBOX (cutbox-rows.mjs): the forced cells as the released guide's own fill.sh prints them over the translation 6ebcd32df8debfd3… (all of the seat's roots in one cut). By AI agents, Wed Nov 11 2026. No macro, syntax, notation, axiom, sorry.
-/
import Derived.Test.YtekphmkgiioloaaChecked
import GoSem.Claim
import GoSem.ClaimJoined
import GoSem.ClaimMapViews
import Derived.JoinedTies
import Derived.KernelRfl
namespace Go.Proofs.Ytekphmkgiioloaa
/- THE CELL 'sum', in the pinned program and in every row, IS THE sha256 OF THE DUMP (.gsa) THAT YtekphmkgiioloaaProg.lean LOADS. Nothing in Lean hashes anything: it is a label: what it is worth is what the hold of that sum in a sandbox is worth. -/
noncomputable def Try.pinned : Pinned := { name := "ytekphmkgiioloaa", sum := "6ebcd32df8debfd3e7dbd6dc2f6bf5b4e490f4c12de5f0a0593586afd726d336", checked := Try.checked }
namespace Rows
def none {H : Type} : Left H := { results := [], args := [] }

/-- 'laws.FnFold': WHATEVER THE INPUT: true; the input reads as it did. -/
def fnFoldSpec : ChangeSpec := { name := "fnFold", fn := fun _ => fun
  | [d] => { results := [.lit (.bool true)], args := [d] }
  | _ => none }
def fnFoldRow : OpenClaim := { program := "ytekphmkgiioloaa", sum := "6ebcd32df8debfd3e7dbd6dc2f6bf5b4e490f4c12de5f0a0593586afd726d336", func := "loop.example/g00097/laws.FnFold", spec := "fnFold", inPlace := ["slices.overlaps[loop.example/g00097/impl.Cell]", "slices.overlaps[loop.example/g00097/impl.Seat]"], unfollowed := true, recurses := true, apart := false }
def FnFoldSaid : Prop := fnFoldRow.holds Try.pinned (OpenSpec.ofChange fnFoldSpec)

/-- ITS FALSE NEIGHBOUR: 'it returns false'. Refute it at one input. -/
def fnFoldWrong : ChangeSpec := { name := "fnFold", fn := fun _ => fun
  | [d] => { results := [.lit (.bool false)], args := [d] }
  | _ => none }
def FnFoldWrongFalsely : Prop := fnFoldRow.holds Try.pinned (OpenSpec.ofChange fnFoldWrong)

/-- 'laws.FnExactRunAll': WHATEVER THE INPUT: true; the input reads as it did. -/
def fnExactRunAllSpec : ChangeSpec := { name := "fnExactRunAll", fn := fun _ => fun
  | [d1, d2] => { results := [.lit (.bool true)], args := [d1, d2] }
  | _ => none }
def fnExactRunAllRow : OpenClaim := { program := "ytekphmkgiioloaa", sum := "6ebcd32df8debfd3e7dbd6dc2f6bf5b4e490f4c12de5f0a0593586afd726d336", func := "loop.example/g00097/laws.FnExactRunAll", spec := "fnExactRunAll", inPlace := ["slices.overlaps[loop.example/g00097/impl.Cell]", "slices.overlaps[loop.example/g00097/impl.Seat]"], unfollowed := true, recurses := true, apart := false }
def FnExactRunAllSaid : Prop := fnExactRunAllRow.holds Try.pinned (OpenSpec.ofChange fnExactRunAllSpec)

/-- ITS FALSE NEIGHBOUR: 'it returns false'. Refute it at one input. -/
def fnExactRunAllWrong : ChangeSpec := { name := "fnExactRunAll", fn := fun _ => fun
  | [d1, d2] => { results := [.lit (.bool false)], args := [d1, d2] }
  | _ => none }
def FnExactRunAllWrongFalsely : Prop := fnExactRunAllRow.holds Try.pinned (OpenSpec.ofChange fnExactRunAllWrong)

/-- 'laws.FnExactLogImage': WHATEVER THE INPUT: true; the input reads as it did. -/
def fnExactLogImageSpec : ChangeSpec := { name := "fnExactLogImage", fn := fun _ => fun
  | [d1, d2] => { results := [.lit (.bool true)], args := [d1, d2] }
  | _ => none }
def fnExactLogImageRow : OpenClaim := { program := "ytekphmkgiioloaa", sum := "6ebcd32df8debfd3e7dbd6dc2f6bf5b4e490f4c12de5f0a0593586afd726d336", func := "loop.example/g00097/laws.FnExactLogImage", spec := "fnExactLogImage", inPlace := ["slices.overlaps[loop.example/g00097/impl.Cell]", "slices.overlaps[loop.example/g00097/impl.Seat]"], unfollowed := true, recurses := true, apart := false }
def FnExactLogImageSaid : Prop := fnExactLogImageRow.holds Try.pinned (OpenSpec.ofChange fnExactLogImageSpec)

/-- ITS FALSE NEIGHBOUR: 'it returns false'. Refute it at one input. -/
def fnExactLogImageWrong : ChangeSpec := { name := "fnExactLogImage", fn := fun _ => fun
  | [d1, d2] => { results := [.lit (.bool false)], args := [d1, d2] }
  | _ => none }
def FnExactLogImageWrongFalsely : Prop := fnExactLogImageRow.holds Try.pinned (OpenSpec.ofChange fnExactLogImageWrong)

/- THE SECOND FORM. 'bulk': how many values and letters a reading holds, each counted each time it is reached (what is shared counts as often as it is met; a slice's spare places count too). A statement '..UptoSaid' is the law's where the arguments, and the package variables that the reading takes, are together of bulk at most 1048576: NARROWER than '..Said'. Prove '..Said' where nothing that the law and all that it calls make is longer than what came in: it says more and counts as full. Else prove '..UptoSaid'. A law counts once. -/
mutual
def uptoBulk {H : Type} : DataW H → Nat
  | .lit (.string bytes) => bytes.length + 1
  | .lit _ => 1
  | .nil => 1
  | .ptr d => uptoBulk d + 1
  | .slice elems spare => uptoBulkAll elems + uptoBulkAll spare + 1
  | .agg parts => uptoBulkAll parts + 1
  | .iface _ d => uptoBulk d + 1
  | .map entries => uptoBulkEntries entries + 1
  | .held _ => 1
def uptoBulkAll {H : Type} : List (DataW H) → Nat
  | [] => 0
  | d :: r => uptoBulk d + uptoBulkAll r
def uptoBulkEntries {H : Type} : List (Lit × DataW H) → Nat
  | [] => 0
  | x :: r => uptoBulkEntry x + uptoBulkEntries r
def uptoBulkEntry {H : Type} : Lit × DataW H → Nat
  | (.string bytes, d) => bytes.length + uptoBulk d + 1
  | (_, d) => uptoBulk d + 1
 end
def uptoSmall : (H : Type) → List (DataW H) → Bool := fun _ ds => decide (uptoBulkAll ds ≤ 1048576)
def OpenSpec.upto (s : _root_.Go.ChangeSpec) : _root_.Go.OpenSpec := { _root_.Go.OpenSpec.ofChange s with cond := some uptoSmall }

/-- 'laws.FnFold', WHERE WHAT IT READS IS OF BULK AT MOST 1048576: true; the input reads as it did. -/
def fnFoldUptoRow : OpenClaim := { program := "ytekphmkgiioloaa", sum := "6ebcd32df8debfd3e7dbd6dc2f6bf5b4e490f4c12de5f0a0593586afd726d336", func := "loop.example/g00097/laws.FnFold", spec := "fnFold", inPlace := ["slices.overlaps[loop.example/g00097/impl.Cell]", "slices.overlaps[loop.example/g00097/impl.Seat]"], unfollowed := true, recurses := true, apart := false, narrowed := true }
def FnFoldUptoSaid : Prop := fnFoldUptoRow.holds Try.pinned (OpenSpec.upto fnFoldSpec)

/-- 'laws.FnExactRunAll', WHERE WHAT IT READS IS OF BULK AT MOST 1048576: true; the input reads as it did. -/
def fnExactRunAllUptoRow : OpenClaim := { program := "ytekphmkgiioloaa", sum := "6ebcd32df8debfd3e7dbd6dc2f6bf5b4e490f4c12de5f0a0593586afd726d336", func := "loop.example/g00097/laws.FnExactRunAll", spec := "fnExactRunAll", inPlace := ["slices.overlaps[loop.example/g00097/impl.Cell]", "slices.overlaps[loop.example/g00097/impl.Seat]"], unfollowed := true, recurses := true, apart := false, narrowed := true }
def FnExactRunAllUptoSaid : Prop := fnExactRunAllUptoRow.holds Try.pinned (OpenSpec.upto fnExactRunAllSpec)

/-- 'laws.FnExactLogImage', WHERE WHAT IT READS IS OF BULK AT MOST 1048576: true; the input reads as it did. -/
def fnExactLogImageUptoRow : OpenClaim := { program := "ytekphmkgiioloaa", sum := "6ebcd32df8debfd3e7dbd6dc2f6bf5b4e490f4c12de5f0a0593586afd726d336", func := "loop.example/g00097/laws.FnExactLogImage", spec := "fnExactLogImage", inPlace := ["slices.overlaps[loop.example/g00097/impl.Cell]", "slices.overlaps[loop.example/g00097/impl.Seat]"], unfollowed := true, recurses := true, apart := false, narrowed := true }
def FnExactLogImageUptoSaid : Prop := fnExactLogImageUptoRow.holds Try.pinned (OpenSpec.upto fnExactLogImageSpec)

end Rows
end Go.Proofs.Ytekphmkgiioloaa
