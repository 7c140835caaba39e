/- The contract of mestaref02.Play (under way: not built). -/
import Derived.Test.YtmkjeonjhedgkaaDoorPlayP
import Derived.Test.YtmkjeonjhedgkaaDoorLeast
namespace Go.Proofs.YtmkjeonjhedgkaaDoor
set_option linter.unusedSimpArgs false
set_option linter.unusedVariables false
open Go.RowKit

theorem ready_asked2 (r : Roads) (f : Flock) (x : Int) : readyErr r f [x, r.stages] = askedErr r f [x] [] := by
  unfold readyErr askedErr
  simp only [pairsErr, allIn, List.all_cons, List.all_nil, Bool.and_true]

end Go.Proofs.YtmkjeonjhedgkaaDoor
