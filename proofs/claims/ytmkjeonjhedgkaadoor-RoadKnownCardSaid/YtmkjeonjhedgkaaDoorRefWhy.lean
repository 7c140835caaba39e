/- The contract of mestaref02.why. -/
import Derived.Test.YtmkjeonjhedgkaaDoorRef
import Derived.Deep.CutBlock
import Derived.Outline
namespace Go.Proofs.YtmkjeonjhedgkaaDoor
set_option linter.unusedSimpArgs false
set_option linter.unusedVariables false
open Go.RowKit

end Go.Proofs.YtmkjeonjhedgkaaDoor
