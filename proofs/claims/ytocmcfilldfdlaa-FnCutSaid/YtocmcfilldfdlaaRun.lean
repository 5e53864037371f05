/-
  run, RunCmd, walked.
-/
import Derived.Test.YtocmcfilldfdlaaPut2
import Derived.Test.YtocmcfilldfdlaaBox
namespace Go.Proofs.Ytocmcfilldfdlaa
open Go.RowKit

theorem max_neg {a : Int} (h : a < 0) : max a 0 = 0 := by omega
theorem max_pos {a : Int} (h : ¬ a < 0) : max a 0 = a := by omega


end Go.Proofs.Ytocmcfilldfdlaa
