/-
  RunEntry of the program, walked.
-/
import Derived.Test.YtbfbdhjeoknjkaaRun2
import Derived.Test.YtbfbdhjeoknjkaaPut3
import Derived.Deep.DeepCutAuto
namespace Go.Proofs.Ytbfbdhjeoknjkaa
open Go.RowKit


end Go.Proofs.Ytbfbdhjeoknjkaa
