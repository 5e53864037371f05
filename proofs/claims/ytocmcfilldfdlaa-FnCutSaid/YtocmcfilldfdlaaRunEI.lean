/-
  RunEntry of the program, walked.
-/
import Derived.Test.YtocmcfilldfdlaaRun2
import Derived.Test.YtocmcfilldfdlaaPut3
import Derived.Deep.DeepCutAuto
namespace Go.Proofs.Ytocmcfilldfdlaa
open Go.RowKit


end Go.Proofs.Ytocmcfilldfdlaa
