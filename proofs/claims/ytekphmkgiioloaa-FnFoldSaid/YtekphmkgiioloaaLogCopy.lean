/-
  copyLog, l3Copy, walked.
-/
import Derived.Test.YtekphmkgiioloaaLogAt
import Derived.Test.YtekphmkgiioloaaPut
namespace Go.Proofs.Ytekphmkgiioloaa
open Go.RowKit



end Go.Proofs.Ytekphmkgiioloaa
