/-
  RunAll over an image and a list that lie apart.
-/
import Derived.Test.YtocmcfilldfdlaaRunAll
namespace Go.Proofs.Ytocmcfilldfdlaa
end Go.Proofs.Ytocmcfilldfdlaa
