/- Contracts of the reference's small functions (mestaref02): inside, legal, checkStrip, Check, why, asked. -/
import Derived.Test.YtmkjeonjhedgkaaDoorReady
import Derived.Deep.RegionHeld3
namespace Go.Proofs.YtmkjeonjhedgkaaDoor
set_option linter.unusedSimpArgs false
set_option linter.unusedVariables false
open Go.RowKit

end Go.Proofs.YtmkjeonjhedgkaaDoor
