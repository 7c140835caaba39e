/- The contract of mestalaw02.table. -/
import Derived.Test.YtmkjeonjhedgkaaDoorGrid
import Derived.Outline
namespace Go.Proofs.YtmkjeonjhedgkaaDoor
set_option linter.unusedSimpArgs false
set_option linter.unusedVariables false
open Go.RowKit

/-- The table while strip i is looked at, up to the k-th of its days. -/
def tabV (r : Roads) (f : Flock) (i : Nat) (l : List Int) (k d j : Nat) : Value := .bool ((decide (j < i) && openB r f (-1) j (d : Int)) || (decide (j = i) && (l.take k).contains (d : Int)))
theorem tabV_set {r : Roads} {f : Flock} {i k : Nat} {l : List Int} (h : k < l.length) {x : Nat} (hx : l[k] = (x : Int)) (d j : Nat) : (if d = x ∧ j = i then Value.bool true else tabV r f i l k d j) = tabV r f i l (k + 1) d j := by
  unfold tabV
  rw [List.take_succ_eq_append_getElem h, hx]
  by_cases e : d = x ∧ j = i
  · rw [if_pos e]; simp [e.1, e.2]
  · rw [if_neg e]
    by_cases ej : j = i
    · have ed : ¬ d = x := fun h => e ⟨h, ej⟩
      simp [ej, ed]
      intro h; exact absurd (by omega) ed
    · simp [ej]
theorem tabV_next {r : Roads} {f : Flock} {i D : Nat} (hD : r.days.toNat = D) (d j : Nat) (hd : d < D) : tabV r f i (daysTo r f i r.days.toNat) (daysTo r f i r.days.toNat).length d j = tabV r f (i + 1) [] 0 d j := by
  unfold tabV
  rw [List.take_length]
  by_cases ej : j = i
  · subst ej
    have : decide ((d : Int) ∈ daysTo r f j r.days.toNat) = openB r f (-1) j (d : Int) := by
      rw [Bool.eq_iff_iff, decide_eq_true_eq, daysTo_mem]
      constructor
      · rintro ⟨x, _, h2, h3⟩
        obtain rfl : d = x := by omega
        exact h3
      · intro h; exact ⟨d, by omega, rfl, h⟩
    simp [this]
  · have : decide (j < i + 1) = decide (j < i) := by rw [decide_eq_decide]; omega
    simp [ej, this]

end Go.Proofs.YtmkjeonjhedgkaaDoor
