/-
  Blocks by the type of their cells: they lie in Box now.
-/
import Derived.Test.YtacbcnobenffdaaBox
namespace Go.Proofs.Ytacbcnobenffdaa
end Go.Proofs.Ytacbcnobenffdaa
