/- The contract of mestaref02.asked. -/
import Derived.Test.YtmkjeonjhedgkaaDoorRefWhy
namespace Go.Proofs.YtmkjeonjhedgkaaDoor
set_option linter.unusedSimpArgs false
set_option linter.unusedVariables false
open Go.RowKit

def allIn (n : Int) (l : List Int) : Bool := l.all fun x => btw x 0 (n - 1)
def askedErr (r : Roads) (f : Flock) (ss ds : List Int) : Int := if checkR r != 0 then checkR r else if flockErr f != 0 then flockErr f else if allIn r.stages ss && allIn r.days ds then 0 else 3
theorem allIn_no {n : Int} {l : List Int} {k : Nat} (h : k < l.length) (hb : btw l[k] 0 (n - 1) = false) : allIn n l = false := by
  unfold allIn
  rw [List.all_eq_false]
  exact ⟨_, List.getElem_mem h, by rw [hb]; simp⟩
theorem allIn_yes {n : Int} {l : List Int} (h : ∀ j (hj : j < l.length), btw l[j] 0 (n - 1) = true) : allIn n l = true := by
  unfold allIn
  rw [List.all_eq_true]
  intro x hx
  obtain ⟨j, hj, rfl⟩ := List.getElem_of_mem hx
  exact h j hj

end Go.Proofs.YtmkjeonjhedgkaaDoor
