/-
  RunAll over an image and a list that lie apart.
-/
import Derived.Test.YtacbcnobenffdaaRunAll
namespace Go.Proofs.Ytacbcnobenffdaa
end Go.Proofs.Ytacbcnobenffdaa
