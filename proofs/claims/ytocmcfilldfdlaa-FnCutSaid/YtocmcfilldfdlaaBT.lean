/-
  Blocks by the type of their cells: they lie in Box now.
-/
import Derived.Test.YtocmcfilldfdlaaBox
namespace Go.Proofs.Ytocmcfilldfdlaa
end Go.Proofs.Ytocmcfilldfdlaa
