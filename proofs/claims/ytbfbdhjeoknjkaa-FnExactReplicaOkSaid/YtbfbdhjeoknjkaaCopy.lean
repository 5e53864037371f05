/-
  slices.Clone, slices.Delete and slices.Insert of the program's rows of records, walked.
-/
import Derived.Test.YtbfbdhjeoknjkaaRowC
import Derived.Test.YtbfbdhjeoknjkaaCells
import Derived.Test.YtbfbdhjeoknjkaaSeats
import Derived.Test.YtbfbdhjeoknjkaaEntries
import Derived.Lib.SliceRun
import Derived.Deep.RegionLaw
namespace Go.Proofs.Ytbfbdhjeoknjkaa
open Go.RowKit













end Go.Proofs.Ytbfbdhjeoknjkaa
