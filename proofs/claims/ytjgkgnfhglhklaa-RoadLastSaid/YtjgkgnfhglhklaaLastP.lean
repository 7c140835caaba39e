/- The last day to set out: the plain law. -/
import Derived.Test.YtjgkgnfhglhklaaEarlyP
import Derived.Test.YtjgkgnfhglhklaaPubB
namespace Go.Proofs.Ytjgkgnfhglhklaa
set_option linter.unusedSimpArgs false
set_option linter.unusedVariables false
open Go.RowKit

theorem nights_grow {r : Roads} {f : Flock} (g : Good r f) {shut : Int} {n : Nat} {day : Int} {t : Nat} (ht : (t : Int) < r.stages) : ∀ (k j : Nat), j ≤ k → (nightsTo r f shut n day j).testBit t = true → (nightsTo r f shut n day k).testBit t = true
  | 0, j, hj, h => by obtain rfl : j = 0 := by omega
                      exact h
  | k + 1, j, hj, h => by
    by_cases e : j = k + 1
    · subst e; exact h
    · rw [nightsTo]
      exact afterN_stay g t ht (nights_grow g ht k j (by omega) h)
/-- A day of Comes that is not later than another one: the flock can be there on that. -/
theorem comes_can {r : Roads} {f : Flock} (g : Good r f) {shut : Int} {fr tt d b : Nat} (hdb : d ≤ b) (hb : (b : Int) < r.days) (htt : (tt : Int) < r.stages) (h : tt < (comesL r f shut fr (d : Int)).length) :
    (decide (0 ≤ (comesL r f shut fr (d : Int))[tt]) && decide ((comesL r f shut fr (d : Int))[tt] ≤ (b : Int))) = canB r f shut fr tt d b := by
  unfold canB
  rw [decide_eq_true (show (d : Int) ≤ (b : Int) by omega), Bool.true_and, show ((b : Int) - (d : Int) + 1).toNat = (b - d) + 1 by omega]
  rw [Bool.eq_iff_iff]
  simp only [Bool.and_eq_true, decide_eq_true_eq]
  constructor
  · rintro ⟨h1, h2⟩
    obtain ⟨j, j1, j2, j3⟩ := comesTo_get (shut := shut) (by omega) (r.days - (d : Int)).toNat tt h h1
    have j4 : (comesL r f shut fr (d : Int))[tt] = (d : Int) + (j : Int) := j2
    exact nights_grow g htt _ (j + 1) (by omega) j3
  · intro hn
    obtain ⟨i1, i2⟩ := comesTo_le (shut := shut) (by omega) (r.days - (d : Int)).toNat tt h (b - d) (by omega) hn
    refine ⟨i1, ?_⟩
    have i3 : (comesL r f shut fr (d : Int))[tt] ≤ (d : Int) + ((b - d : Nat) : Int) := i2
    omega
theorem can_shift {r : Roads} {f : Flock} (g : Good r f) {shut : Int} {fr tt : Nat} (hf : (fr : Int) < r.stages) {d b : Int} (h : canB r f shut fr tt (d + 1) b = true) : canB r f shut fr tt d b = true := by
  unfold canB at h ⊢
  simp only [Bool.and_eq_true, decide_eq_true_eq] at h ⊢
  refine ⟨by omega, ?_⟩
  have := nights_shift g hf _ _ h.2
  rwa [show (b - d + 1).toNat = (b - (d + 1) + 1).toNat + 1 by omega]
theorem can_down {r : Roads} {f : Flock} (g : Good r f) {shut : Int} {fr tt : Nat} (hf : (fr : Int) < r.stages) {b : Int} {d : Nat} : ∀ k : Nat, canB r f shut fr tt ((d + k : Nat) : Int) b = true → canB r f shut fr tt (d : Int) b = true
  | 0, h => h
  | k + 1, h => can_down g hf k (can_shift g hf (by rw [show ((d + k : Nat) : Int) + 1 = ((d + (k + 1) : Nat) : Int) by omega]; exact h))
theorem lateR_lt {r : Roads} {f : Flock} {shut : Int} {fr tt : Nat} {b : Int} : ∀ n : Nat, -1 ≤ lateR r f shut fr tt b n ∧ lateR r f shut fr tt b n < (n : Int)
  | 0 => by rw [lateR]; omega
  | n + 1 => by
    have := lateR_lt (r := r) (f := f) (shut := shut) (fr := fr) (tt := tt) (b := b) n
    rw [lateR]; split <;> omega
theorem lateR_can {r : Roads} {f : Flock} (g : Good r f) {shut : Int} {fr tt : Nat} (hf : (fr : Int) < r.stages) {b : Int} : ∀ (n d : Nat), d < n → canB r f shut fr tt (d : Int) b = decide ((d : Int) ≤ lateR r f shut fr tt b n)
  | 0, d, h => by omega
  | n + 1, d, h => by
    rw [lateR]
    cases hc : canB r f shut fr tt (n : Int) b
    · rw [if_neg (by simp)]
      by_cases e : d = n
      · subst e
        have := (lateR_lt (r := r) (f := f) (shut := shut) (fr := fr) (tt := tt) (b := b) d).2
        rw [hc, decide_eq_false (by omega)]
      · exact lateR_can g hf n d (by omega)
    · rw [if_pos rfl, decide_eq_true (by omega)]
      exact can_down g hf (n - d) (by rw [show d + (n - d) = n by omega]; exact hc)

/-- What RoadLast says of one day. -/
theorem last_day {r : Roads} {f : Flock} (g : Good r f) {fr tt d b : Nat} (hf : (fr : Int) < r.stages) (hdb : d ≤ b) (hb : (b : Int) < r.days) (htt : (tt : Int) < r.stages) (h : tt < (comesL r f (-1) fr (d : Int)).length) :
    (decide (0 ≤ (comesL r f (-1) fr (d : Int))[tt]) && decide ((comesL r f (-1) fr (d : Int))[tt] ≤ (b : Int))) = decide ((d : Int) ≤ lateD r f fr tt (b : Int)) := by
  rw [comes_can g hdb hb htt h]
  unfold lateD
  rw [show ((b : Int) + 1).toNat = b + 1 by omega]
  exact lateR_can g hf (b + 1) d (by omega)
theorem late_range {r : Roads} {f : Flock} {fr tt b : Nat} : -1 ≤ lateD r f fr tt (b : Int) ∧ lateD r f fr tt (b : Int) ≤ (b : Int) := by
  have := lateR_lt (r := r) (f := f) (shut := -1) (fr := fr) (tt := tt) (b := (b : Int)) ((b : Int) + 1).toNat
  unfold lateD
  omega
end Go.Proofs.Ytjgkgnfhglhklaa
