/- Setting out early: the plain law. -/
import Derived.Test.YtjgkgnfhglhklaaNear
namespace Go.Proofs.Ytjgkgnfhglhklaa
set_option linter.unusedSimpArgs false
set_option linter.unusedVariables false
open Go.RowKit

theorem Spot.mono {r : Roads} {f : Flock} {shut : Int} {n m : Nat} {day : Int} (h : ∀ t, n.testBit t = true → m.testBit t = true) {p : Int × Int} (hp : Spot r f shut n day p) : Spot r f shut m day p := by
  induction hp with
  | start s h1 h2 => exact .start s h1 (h s h2)
  | step p q i _ hi ih => exact .step p q i ih hi
theorem afterN_mono {r : Roads} {f : Flock} (g : Good r f) {shut : Int} {n m : Nat} {day : Int} (h : ∀ t, n.testBit t = true → m.testBit t = true) (t : Nat) (ht : (afterN r f shut n day).testBit t = true) : (afterN r f shut m day).testBit t = true := by
  obtain ⟨l, hl⟩ := (afterN_bit g t).1 ht
  exact (afterN_bit g t).2 ⟨l, hl.mono h⟩
theorem afterN_stay {r : Roads} {f : Flock} (g : Good r f) {shut : Int} {n : Nat} {day : Int} (t : Nat) (hr : (t : Int) < r.stages) (ht : n.testBit t = true) : (afterN r f shut n day).testBit t = true :=
  (afterN_bit g t).2 ⟨0, .start t hr ht⟩
theorem nights_shift {r : Roads} {f : Flock} (g : Good r f) {shut : Int} {fr : Nat} (hf : (fr : Int) < r.stages) {day : Int} : ∀ (k t : Nat), (nightsTo r f shut (0 ||| 1 <<< fr) (day + 1) k).testBit t = true → (nightsTo r f shut (0 ||| 1 <<< fr) day (k + 1)).testBit t = true
  | 0, t, h => by
    rw [nightsTo] at h
    have ht : (t : Int) < r.stages := by
      rw [testBit_or_one] at h; simp at h; omega
    exact afterN_stay g t ht (by rw [nightsTo]; exact h)
  | k + 1, t, h => by
    rw [nightsTo] at h ⊢
    rw [show day + ((k + 1 : Nat) : Int) = day + 1 + (k : Int) by omega]
    exact afterN_mono g (nights_shift g hf k) t h
theorem comesTo_le {r : Roads} {f : Flock} {shut : Int} {n0 : Nat} {day : Int} (h0 : 0 ≤ day) : ∀ (k : Nat) (t : Nat) (h : t < (comesTo r f shut n0 day k).length) (j : Nat), j < k → (nightsTo r f shut n0 day (j + 1)).testBit t = true →
    0 ≤ (comesTo r f shut n0 day k)[t] ∧ (comesTo r f shut n0 day k)[t] ≤ day + (j : Int)
  | 0, t, h, j, hj, hv => by omega
  | k + 1, t, h, j, hj, hb => by
    have hl : t < (comesTo r f shut n0 day k).length := by rw [comesTo_len] at h ⊢; exact h
    have ht : t < r.stages.toNat := by rw [comesTo_len] at h; exact h
    have e : (comesTo r f shut n0 day (k + 1))[t] = if decide (t < r.stages.toNat) && decide ((comesTo r f shut n0 day k)[t] < 0) && (nightsTo r f shut n0 day (k + 1)).testBit t then day + k else (comesTo r f shut n0 day k)[t] := by
      simp [comesTo, updTo]
    rw [e]
    by_cases hjk : j < k
    · obtain ⟨i1, i2⟩ := comesTo_le h0 k t hl j hjk hb
      rw [if_neg (by simp; omega)]
      exact ⟨i1, i2⟩
    · obtain rfl : j = k := by omega
      by_cases c : (comesTo r f shut n0 day j)[t] < 0
      · rw [if_pos (by simp [c, hb, ht])]; omega
      · rw [if_neg (by simp; omega)]
        obtain ⟨i, i1, i2, _⟩ := comesTo_get h0 j t hl (by omega)
        omega

theorem comesL_len (r : Roads) (f : Flock) (shut : Int) (fr : Nat) (day : Int) : (comesL r f shut fr day).length = r.stages.toNat := comesTo_len _ _ _ _ _ _
/-- The stage that the flock sets out from. -/
theorem comesL_from {r : Roads} {f : Flock} (g : Good r f) {shut : Int} {fr : Nat} (hf : (fr : Int) < r.stages) {day : Int} (h0 : 0 ≤ day) (h1 : day < r.days) (h : fr < (comesL r f shut fr day).length) : (comesL r f shut fr day)[fr] = day := by
  have hb : (nightsTo r f shut (0 ||| 1 <<< fr) day (0 + 1)).testBit fr = true := by
    rw [nightsTo, nightsTo]
    exact afterN_stay g fr hf (by rw [testBit_or_one]; simp)
  have k0 : 0 < (r.days - day).toNat := by omega
  obtain ⟨i1, i2⟩ := comesTo_le (shut := shut) h0 (r.days - day).toNat fr h 0 k0 hb
  obtain ⟨j, _, j2, _⟩ := comesTo_get (shut := shut) h0 (r.days - day).toNat fr h i1
  show (comesTo r f shut (0 ||| 1 <<< fr) day (r.days - day).toNat)[fr] = day
  omega
/-- Who sets out earlier comes no later. -/
theorem comesL_early {r : Roads} {f : Flock} (g : Good r f) {shut : Int} {fr : Nat} (hf : (fr : Int) < r.stages) {day : Int} (h0 : 0 ≤ day) (h1 : day + 1 < r.days) {t : Nat} (h : t < (comesL r f shut fr (day + 1)).length) (h' : t < (comesL r f shut fr day).length)
    (hv : 0 ≤ (comesL r f shut fr (day + 1))[t]) : 0 ≤ (comesL r f shut fr day)[t] ∧ (comesL r f shut fr day)[t] ≤ (comesL r f shut fr (day + 1))[t] := by
  obtain ⟨j, j1, j2, j3⟩ := comesTo_get (shut := shut) (by omega) (r.days - (day + 1)).toNat t h hv
  obtain ⟨i1, i2⟩ := comesTo_le (shut := shut) h0 (r.days - day).toNat t h' (j + 1) (by omega) (nights_shift g hf _ _ j3)
  refine ⟨i1, ?_⟩
  show (comesTo r f shut (0 ||| 1 <<< fr) day (r.days - day).toNat)[t] ≤ (comesTo r f shut (0 ||| 1 <<< fr) (day + 1) (r.days - (day + 1)).toNat)[t]
  omega
end Go.Proofs.Ytjgkgnfhglhklaa
