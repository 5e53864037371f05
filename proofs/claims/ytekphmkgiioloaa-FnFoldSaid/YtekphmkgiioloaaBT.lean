/-
  Blocks by the type of their cells: they lie in Box now.
-/
import Derived.Test.YtekphmkgiioloaaBox
namespace Go.Proofs.Ytekphmkgiioloaa
end Go.Proofs.Ytekphmkgiioloaa
