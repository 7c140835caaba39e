/- Roads without one strip: the plain law. -/
import Derived.Test.YtjgkgnfhglhklaaDeal
namespace Go.Proofs.Ytjgkgnfhglhklaa
set_option linter.unusedSimpArgs false
set_option linter.unusedVariables false
open Go.RowKit

def without (r : Roads) (i : Nat) : Roads := { r with strips := r.strips.eraseIdx i }

theorem without_good {r : Roads} {f : Flock} (g : Good r f) (i : Nat) : Good (without r i) f :=
  ⟨g.d1, g.d2, g.s1, g.s2, Nat.le_trans (List.length_eraseIdx_le _ _) g.n8, fun s hs => g.strip s (List.mem_of_mem_eraseIdx hs), g.h1, g.h2, g.p1, g.p2⟩
theorem nights_congr {r r' : Roads} {f f' : Flock} (g : Good r f) (g' : Good r' f') {shut shut' : Int} {n n' : Nat} {day day' : Int} (h : ∀ t l, Spot r f shut n day (t, l) ↔ Spot r' f' shut' n' day' (t, l)) : afterN r f shut n day = afterN r' f' shut' n' day' := by
  apply Nat.eq_of_testBit_eq
  intro t
  rw [Bool.eq_iff_iff, afterN_bit g, afterN_bit g']
  exact ⟨fun ⟨l, hl⟩ => ⟨l, (h _ l).1 hl⟩, fun ⟨l, hl⟩ => ⟨l, (h _ l).2 hl⟩⟩
theorem step_without {r : Roads} {f : Flock} {i : Nat} {day : Int} {p q : Int × Int} : (∃ j, stepOk r f (i : Int) day p j = some q) ↔ ∃ j, stepOk (without r i) f (-1) day p j = some q := by
  constructor
  · rintro ⟨j, h⟩
    obtain ⟨s, hs, h1, h2, h3, rfl⟩ := stepOk_some.1 h
    have hj : j ≠ i := by
      rintro rfl
      unfold openB at h3
      rw [hs] at h3
      simp at h3
    by_cases c : j < i
    · have e : (without r i).strips[j]? = some s := by
        show (r.strips.eraseIdx i)[j]? = some s
        rw [List.getElem?_eraseIdx, if_pos c]; exact hs
      refine ⟨j, stepOk_some.2 ⟨s, e, h1, h2, ?_, rfl⟩⟩
      unfold openB at h3 ⊢
      rw [hs] at h3
      rw [e]
      simp only [Bool.and_eq_true] at h3 ⊢
      exact ⟨by simp, h3.2⟩
    · have e : (without r i).strips[j - 1]? = some s := by
        show (r.strips.eraseIdx i)[j - 1]? = some s
        rw [List.getElem?_eraseIdx, if_neg (by omega), show j - 1 + 1 = j by omega]; exact hs
      refine ⟨j - 1, stepOk_some.2 ⟨s, e, h1, h2, ?_, rfl⟩⟩
      unfold openB at h3 ⊢
      rw [hs] at h3
      rw [e]
      simp only [Bool.and_eq_true] at h3 ⊢
      exact ⟨by simp, h3.2⟩
  · rintro ⟨j, h⟩
    obtain ⟨s, hs, h1, h2, h3, rfl⟩ := stepOk_some.1 h
    have hs' := hs
    change (r.strips.eraseIdx i)[j]? = some s at hs'
    rw [List.getElem?_eraseIdx] at hs'
    unfold openB at h3
    rw [hs] at h3
    simp only [Bool.and_eq_true] at h3
    by_cases c : j < i
    · rw [if_pos c] at hs'
      refine ⟨j, stepOk_some.2 ⟨s, hs', h1, h2, ?_, rfl⟩⟩
      unfold openB
      rw [hs']
      simp only [Bool.and_eq_true]
      exact ⟨by simp; omega, h3.2⟩
    · rw [if_neg c] at hs'
      refine ⟨j + 1, stepOk_some.2 ⟨s, hs', h1, h2, ?_, rfl⟩⟩
      unfold openB
      rw [hs']
      simp only [Bool.and_eq_true]
      exact ⟨by simp; omega, h3.2⟩
theorem spot_without {r : Roads} {f : Flock} {i : Nat} {n : Nat} {day : Int} {p : Int × Int} : Spot r f (i : Int) n day p ↔ Spot (without r i) f (-1) n day p := by
  constructor
  · intro h
    induction h with
    | start s h1 h2 => exact .start s h1 h2
    | step p q j _ hi ih =>
      obtain ⟨k, hk⟩ := step_without.1 ⟨j, hi⟩
      exact .step p q k ih hk
  · intro h
    induction h with
    | start s h1 h2 => exact .start s h1 h2
    | step p q j _ hi ih =>
      obtain ⟨k, hk⟩ := step_without.2 ⟨j, hi⟩
      exact .step p q k ih hk
theorem nights_without {r : Roads} {f : Flock} (g : Good r f) {i : Nat} {n : Nat} {day : Int} : ∀ k, nightsTo r f (i : Int) n day k = nightsTo (without r i) f (-1) n day k
  | 0 => by rw [nightsTo, nightsTo]
  | k + 1 => by
    rw [nightsTo, nightsTo, nights_without g k]
    exact nights_congr g (without_good g i) fun t l => spot_without
/-- Without a strip: as if it were shut. -/
theorem can_without {r : Roads} {f : Flock} (g : Good r f) {i : Nat} {fr tt : Nat} {d b : Int} : canB r f (i : Int) fr tt d b = canB (without r i) f (-1) fr tt d b := by
  unfold canB
  rw [nights_without g]
end Go.Proofs.Ytjgkgnfhglhklaa
