/- The flock that comes has few leagues to go: plain laws. -/
import Derived.Test.YtjgkgnfhglhklaaPlan
import Derived.Test.YtjgkgnfhglhklaaStay
namespace Go.Proofs.Ytjgkgnfhglhklaa
set_option linter.unusedSimpArgs false
set_option linter.unusedVariables false
open Go.RowKit

theorem best_le0 {r : Roads} {f : Flock} {shut d b0 : Int} {V : Int × Int → Int} {p : Int × Int} : ∀ k, bestTo r f shut V d p b0 k ≤ b0
  | 0 => Int.le_refl _
  | k + 1 => by
    have ih := best_le0 (r := r) (f := f) (shut := shut) (d := d) (b0 := b0) (V := V) (p := p) k
    rw [bestTo]
    cases stepOk r f shut d p k with
    | none => exact ih
    | some q => dsimp only; omega
theorem best_le {r : Roads} {f : Flock} {shut d b0 : Int} {V : Int × Int → Int} {p q : Int × Int} {i : Nat} (h : stepOk r f shut d p i = some q) : ∀ {k}, i < k → bestTo r f shut V d p b0 k ≤ (q.2 - p.2) + V q
  | 0, hk => by omega
  | k + 1, hk => by
    rw [bestTo]
    by_cases e : i = k
    · subst e; rw [h]; dsimp only; omega
    · have ih := best_le (b0 := b0) (V := V) h (k := k) (by omega)
      cases stepOk r f shut d p k with
      | none => exact ih
      | some q => dsimp only; omega
/-- The most leagues that are still to walk, if any plan leads. -/
def bd (f : Flock) (last d l : Int) : Int := (last + 1 - d) * f.pace - l
theorem bd_day {f : Flock} {last d l : Int} (h : l ≤ f.pace) : bd f last (d + 1) 0 ≤ bd f last d l := by
  unfold bd
  have : (last + 1 - d) * f.pace = (last + 1 - (d + 1)) * f.pace + f.pace := by
    rw [show last + 1 - d = (last + 1 - (d + 1)) + 1 by omega, Int.add_mul]; omega
  omega
theorem stepOk_lt {r : Roads} {f : Flock} {shut d : Int} {p q : Int × Int} {i : Nat} (h : stepOk r f shut d p i = some q) : i < r.strips.length := by
  obtain ⟨s, hs, _⟩ := stepOk_some.1 h
  exact (List.getElem?_eq_some_iff.1 hs).1

theorem near_back {r : Roads} {f : Flock} (g : Good r f) {shut tt last d : Int} {n : Nat} (h0 : 0 ≤ d) (h : d ≤ last) (h3 : last ≤ 100) {q : Int × Int} (hq : Spot r f shut n d q)
    (hv : togoV r f shut tt last d q ≤ bd f last d q.2) : ∃ s : Nat, n.testBit s = true ∧ togoV r f shut tt last d ((s : Int), 0) ≤ bd f last d 0 := by
  induction hq with
  | start s h1 h2 => exact ⟨s, h2, hv⟩
  | step p q i hp hi ih =>
    obtain ⟨_, _, r3, r4⟩ := hp.range g
    refine ih ?_
    rw [togoV_eq g h0 h h3 r3 r4]
    have := best_le (b0 := togoV r f shut tt last (d + 1) (p.1, 0)) (V := togoV r f shut tt last d) hi (stepOk_lt hi)
    unfold bd at *
    omega

theorem near_from {r : Roads} {f : Flock} (g : Good r f) {shut tt last day : Int} {s0 : Nat} (h0 : 0 ≤ day) (h3 : last ≤ 100) : ∀ (j : Nat) (t : Nat), day + j ≤ last + 1 → (nightsTo r f shut (0 ||| 1 <<< s0) day j).testBit t = true →
    togoV r f shut tt last (day + j) ((t : Int), 0) ≤ bd f last (day + j) 0 → togoV r f shut tt last day ((s0 : Int), 0) ≤ bd f last day 0
  | 0, t, _, hb, hv => by
    rw [nightsTo, testBit_or_one] at hb
    simp at hb
    subst hb
    simpa using hv
  | j + 1, t, hl, hb, hv => by
    rw [nightsTo] at hb
    obtain ⟨l, hs⟩ := (afterN_bit g t).1 hb
    obtain ⟨_, _, r3, r4⟩ := hs.range g
    have e1 : togoV r f shut tt last (day + j) ((t : Int), l) ≤ bd f last (day + j) l := by
      rw [togoV_eq g (by omega) (by omega) h3 r3 r4]
      refine Int.le_trans (best_le0 _) ?_
      show togoV r f shut tt last (day + j + 1) ((t : Int), 0) ≤ _
      have h2 := bd_day (last := last) (d := day + j) r4
      have e : day + (j : Int) + 1 = day + ((j + 1 : Nat) : Int) := by omega
      rw [e] at h2 ⊢
      exact Int.le_trans hv h2
    obtain ⟨s, hs1, hs2⟩ := near_back g (by omega) (by omega) h3 hs e1
    exact near_from g h0 h3 j s (by omega) hs1 hs2

theorem comesTo_get {r : Roads} {f : Flock} {shut : Int} {n0 : Nat} {day : Int} (h0 : 0 ≤ day) : ∀ (k : Nat) (t : Nat) (h : t < (comesTo r f shut n0 day k).length), 0 ≤ (comesTo r f shut n0 day k)[t] →
    ∃ j, j < k ∧ (comesTo r f shut n0 day k)[t] = day + (j : Int) ∧ (nightsTo r f shut n0 day (j + 1)).testBit t = true
  | 0, t, h, hv => by simp [comesTo] at hv
  | k + 1, t, h, hv => by
    have hl : t < (comesTo r f shut n0 day k).length := by rw [comesTo_len] at h ⊢; exact h
    have ht : t < r.stages.toNat := by rw [comesTo_len] at h; exact h
    have e : (comesTo r f shut n0 day (k + 1))[t] = if decide (t < r.stages.toNat) && decide ((comesTo r f shut n0 day k)[t] < 0) && (nightsTo r f shut n0 day (k + 1)).testBit t then day + k else (comesTo r f shut n0 day k)[t] := by
      simp [comesTo, updTo]
    rw [e] at hv ⊢
    by_cases c : (decide (t < r.stages.toNat) && decide ((comesTo r f shut n0 day k)[t] < 0) && (nightsTo r f shut n0 day (k + 1)).testBit t) = true
    · rw [if_pos c]
      simp only [Bool.and_eq_true] at c
      exact ⟨k, by omega, rfl, c.2⟩
    · rw [if_neg c] at hv ⊢
      obtain ⟨j, h1, h2, h3⟩ := comesTo_get h0 k t hl hv
      exact ⟨j, by omega, h2, h3⟩

theorem comes_near {r : Roads} {f : Flock} (g : Good r f) {shut day : Int} {s0 t : Nat} (h0 : 0 ≤ day) (h1 : day < r.days) (ht : (t : Int) < r.stages) {last : Int} (hl : (comesL r f shut s0 day).getD t 0 = last) (hn : 0 ≤ last) :
    day ≤ last ∧ last < r.days ∧ togoV r f shut t last day ((s0 : Int), 0) < farI := by
  unfold comesL at hl
  have hlen : t < (comesTo r f shut (0 ||| 1 <<< s0) day (r.days - day).toNat).length := by rw [comesTo_len]; omega
  rw [List.getD_eq_getElem?_getD, List.getElem?_eq_getElem hlen, Option.getD_some] at hl
  obtain ⟨j, h2, h3, h4⟩ := comesTo_get h0 _ t hlen (by omega)
  have hd := g.d2
  refine ⟨by omega, by omega, ?_⟩
  have hv : togoV r f shut t last (day + ((j + 1 : Nat) : Int)) ((t : Int), 0) ≤ bd f last (day + ((j + 1 : Nat) : Int)) 0 := by
    rw [togoV_end (by omega), if_pos rfl]
    unfold bd
    have : last + 1 - (day + ((j + 1 : Nat) : Int)) = 0 := by omega
    rw [this]; omega
  have := near_from g (tt := t) (last := last) h0 (by omega) (j + 1) t (by omega) h4 hv
  have hp := g.p2
  have hp1 := g.p1
  unfold bd at this
  have h9 : (last + 1 - day) * f.pace ≤ 11 * f.pace := Int.mul_le_mul_of_nonneg_right (by omega) (by omega)
  unfold farI
  omega
end Go.Proofs.Ytjgkgnfhglhklaa
