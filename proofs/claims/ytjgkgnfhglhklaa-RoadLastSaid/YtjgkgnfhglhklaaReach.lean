/- Where a flock can be within a day: plain laws. -/
import Derived.Test.YtjgkgnfhglhklaaOpen
namespace Go.Proofs.Ytjgkgnfhglhklaa
set_option linter.unusedSimpArgs false
set_option linter.unusedVariables false
open Go.RowKit

/-- Valid roads and a valid flock, said field by field. -/
structure Good (r : Roads) (f : Flock) : Prop where
  d1 : 1 ≤ r.days
  d2 : r.days ≤ 10
  s1 : 1 ≤ r.stages
  s2 : r.stages ≤ 6
  n8 : r.strips.length ≤ 8
  strip : ∀ s ∈ r.strips, 0 ≤ s.A ∧ s.A < r.stages ∧ 0 ≤ s.B ∧ s.B < r.stages ∧ s.A ≠ s.B ∧ 1 ≤ s.L ∧ s.L ≤ 9 ∧ 1 ≤ s.W ∧ s.W ≤ 99 ∧
    ((s.K = 1 ∧ s.X = 0 ∧ s.Y = 0) ∨ (s.K = 2 ∧ 0 ≤ s.X ∧ s.X ≤ s.Y ∧ s.Y < r.days) ∨ (s.K = 3 ∧ 0 ≤ s.X ∧ s.X ≤ 20 ∧ -5 ≤ s.Y ∧ s.Y ≤ 5) ∨ (s.K = 4 ∧ 1 ≤ s.X ∧ s.X ≤ 40 ∧ s.Y = 0))
  h1 : 1 ≤ f.heads
  h2 : f.heads ≤ 40
  p1 : 1 ≤ f.pace
  p2 : f.pace ≤ 9

theorem stripsErr_ok {D S : Int} : ∀ {l : List Strip}, stripsErr D S l = 0 ↔ ∀ s ∈ l, stripErr s D S = 0
  | [] => by simp [stripsErr]
  | s :: l => by
    simp only [stripsErr, List.forall_mem_cons]
    by_cases h : stripErr s D S = 0
    · simp [h, stripsErr_ok]
    · simp [h]

theorem stripErr_ok {D S : Int} {s : Strip} : stripErr s D S = 0 ↔ 0 ≤ s.A ∧ s.A < S ∧ 0 ≤ s.B ∧ s.B < S ∧ s.A ≠ s.B ∧ 1 ≤ s.L ∧ s.L ≤ 9 ∧ 1 ≤ s.W ∧ s.W ≤ 99 ∧
    ((s.K = 1 ∧ s.X = 0 ∧ s.Y = 0) ∨ (s.K = 2 ∧ 0 ≤ s.X ∧ s.X ≤ s.Y ∧ s.Y < D) ∨ (s.K = 3 ∧ 0 ≤ s.X ∧ s.X ≤ 20 ∧ -5 ≤ s.Y ∧ s.Y ≤ 5) ∨ (s.K = 4 ∧ 1 ≤ s.X ∧ s.X ≤ 40 ∧ s.Y = 0)) := by
  unfold stripErr kindErr kindFine btw
  obtain ⟨A, B, L, W, K, X, Y⟩ := s
  dsimp only
  by_cases h1 : K = 1
  · subst h1; simp; constructor
    · intro h; repeat' split at h
      all_goals simp_all; try omega
    · intro h; simp_all; omega
  · by_cases h2 : K = 2
    · subst h2; simp; constructor
      · intro h; repeat' split at h
        all_goals simp_all; try omega
      · intro h; simp_all; omega
    · by_cases h3 : K = 3
      · subst h3; simp; constructor
        · intro h; repeat' split at h
          all_goals simp_all; try omega
        · intro h; simp_all; omega
      · by_cases h4 : K = 4
        · subst h4; simp; constructor
          · intro h; repeat' split at h
            all_goals simp_all; try omega
          · intro h; simp_all; omega
        · simp [h1, h2, h3, h4]
          intro h; repeat' split at h
          all_goals simp_all

theorem good_iff {r : Roads} {f : Flock} : Good r f ↔ checkR r = 0 ∧ flockErr f = 0 := by
  constructor
  · intro g
    refine ⟨?_, ?_⟩
    · unfold checkR
      rw [if_neg (by simp [btw]; have := g.d1; have := g.d2; have := g.s1; have := g.s2; omega), if_neg (by have := g.n8; omega)]
      exact stripsErr_ok.2 fun s hs => stripErr_ok.2 (g.strip s hs)
    · unfold flockErr
      rw [if_neg (by simp [btw]; have := g.h1; have := g.h2; have := g.p1; have := g.p2; omega)]
  · rintro ⟨hc, hf⟩
    unfold checkR at hc
    unfold flockErr at hf
    by_cases c1 : (!(btw r.days 1 10) || !(btw r.stages 1 6)) = true
    · rw [if_pos c1] at hc; omega
    · rw [if_neg c1] at hc
      by_cases c2 : 8 < r.strips.length
      · rw [if_pos c2] at hc; omega
      · rw [if_neg c2] at hc
        by_cases c3 : (!(btw f.heads 1 40) || !(btw f.pace 1 9)) = true
        · rw [if_pos c3] at hf; omega
        · simp [btw] at c1 c3
          have hs := stripsErr_ok.1 hc
          exact ⟨by omega, by omega, by omega, by omega, by omega, fun s h => stripErr_ok.1 (hs s h), by omega, by omega, by omega, by omega⟩

/-- What strip i makes of a spot (a stage, and the leagues walked on the day), if the flock can walk it. -/
def stepOk (r : Roads) (f : Flock) (shut : Int) (day : Int) (p : Int × Int) (i : Nat) : Option (Int × Int) := match r.strips[i]? with
  | some s => if (endOf s p.1).2 && decide (p.2 + s.L ≤ f.pace) && openB r f shut i day then some ((endOf s p.1).1, p.2 + s.L) else none
  | none => none

/-- The spots that the flock can be at on a day, from the set n of stages on. -/
inductive Spot (r : Roads) (f : Flock) (shut : Int) (n : Nat) (day : Int) : Int × Int → Prop
  | start (s : Nat) : (s : Int) < r.stages → n.testBit s = true → Spot r f shut n day ((s : Int), 0)
  | step (p q : Int × Int) (i : Nat) : Spot r f shut n day p → stepOk r f shut day p i = some q → Spot r f shut n day q

theorem endOf_range {r : Roads} {f : Flock} (g : Good r f) {s : Strip} (hs : s ∈ r.strips) {t : Int} (h : (endOf s t).2 = true) : 0 ≤ (endOf s t).1 ∧ (endOf s t).1 < r.stages := by
  obtain ⟨a1, a2, b1, b2, _⟩ := g.strip s hs
  unfold endOf at h ⊢
  split
  · exact ⟨b1, b2⟩
  · split
    · exact ⟨a1, a2⟩
    · simp_all

theorem stepOk_some {r : Roads} {f : Flock} {shut day : Int} {p q : Int × Int} {i : Nat} : stepOk r f shut day p i = some q ↔
    ∃ s, r.strips[i]? = some s ∧ (endOf s p.1).2 = true ∧ p.2 + s.L ≤ f.pace ∧ openB r f shut i day = true ∧ q = ((endOf s p.1).1, p.2 + s.L) := by
  unfold stepOk
  cases h : r.strips[i]? with
  | none => simp
  | some s =>
    simp only [Option.some.injEq, exists_eq_left', Option.ite_none_right_eq_some, Bool.and_eq_true, decide_eq_true_eq]
    constructor
    · rintro ⟨⟨⟨h1, h2⟩, h3⟩, h4⟩; exact ⟨h1, h2, h3, h4.symm⟩
    · rintro ⟨h1, h2, h3, h4⟩; exact ⟨⟨⟨h1, h2⟩, h3⟩, h4.symm⟩

theorem Spot.range {r : Roads} {f : Flock} (g : Good r f) {shut : Int} {n : Nat} {day : Int} {p : Int × Int} (h : Spot r f shut n day p) : 0 ≤ p.1 ∧ p.1 < r.stages ∧ 0 ≤ p.2 ∧ p.2 ≤ f.pace := by
  induction h with
  | start s h1 h2 => exact ⟨by simp, h1, by simp, by have := g.p1; simp; omega⟩
  | step p q i hp hq ih =>
    obtain ⟨s, hs, h1, h2, h3, rfl⟩ := stepOk_some.1 hq
    have hm := List.mem_of_getElem? hs
    obtain ⟨r1, r2⟩ := endOf_range g hm h1
    have := (g.strip s hm).2.2.2.2.2.1
    exact ⟨r1, r2, by simp; omega, h2⟩

/-- A list of different numbers below n has at most n of them. -/
theorem nodup_lt_length : ∀ (n : Nat) (l : List Nat), l.Nodup → (∀ x ∈ l, x < n) → l.length ≤ n
  | 0, l, _, h => by
    cases l with
    | nil => simp
    | cons x l => exact absurd (h x (by simp)) (by omega)
  | n + 1, l, hn, h => by
    have h1 := nodup_lt_length n (l.filter (· ≠ n)) (hn.filter _) (fun x hx => by
      simp at hx; have := h x hx.1; omega)
    have h2 : l.length ≤ (l.filter (· ≠ n)).length + 1 := by
      clear h h1
      induction l with
      | nil => simp
      | cons x l ih =>
        obtain ⟨hx, hn'⟩ := List.nodup_cons.1 hn
        by_cases e : x = n
        · subst e
          have : l.filter (· ≠ x) = l := List.filter_eq_self.2 fun y hy => by simp; exact fun e => hx (e ▸ hy)
          simp only [List.length_cons, ne_eq, not_true_eq_false, decide_false, Bool.false_eq_true, not_false_eq_true, List.filter_cons_of_neg]
          rw [this]
          omega
        · have := ih hn'
          rw [List.filter_cons_of_pos (by simpa using e)]
          simp only [List.length_cons]; omega
    omega

theorem grid_length {m k : Int} (hm : 0 ≤ m) (hk : 0 ≤ k) (l : List (Int × Int)) (hn : l.Nodup) (h : ∀ p ∈ l, 0 ≤ p.1 ∧ p.1 < m ∧ 0 ≤ p.2 ∧ p.2 ≤ k) : (l.length : Int) ≤ m * (k + 1) := by
  obtain ⟨M, rfl⟩ := Int.eq_ofNat_of_zero_le hm
  obtain ⟨K, rfl⟩ := Int.eq_ofNat_of_zero_le hk
  have h1 : (l.map fun p => p.1.toNat * (K + 1) + p.2.toNat).Nodup := by
    rw [List.nodup_iff_pairwise_ne, List.pairwise_map]
    refine (List.nodup_iff_pairwise_ne.1 hn).imp_of_mem fun {p q} hp hq hne e => hne ?_
    obtain ⟨p1, p2, p3, p4⟩ := h p hp
    obtain ⟨q1, q2, q3, q4⟩ := h q hq
    have e1 : p.2.toNat < K + 1 := by omega
    have e2 : q.2.toNat < K + 1 := by omega
    have d1 := congrArg (· / (K + 1)) e
    have d2 := congrArg (· % (K + 1)) e
    simp only [Nat.mul_comm _ (K + 1)] at d1 d2
    rw [Nat.mul_add_div (by omega), Nat.mul_add_div (by omega), Nat.div_eq_of_lt e1, Nat.div_eq_of_lt e2] at d1
    rw [Nat.mul_add_mod, Nat.mul_add_mod, Nat.mod_eq_of_lt e1, Nat.mod_eq_of_lt e2] at d2
    exact Prod.ext (by omega) (by omega)
  have h2 := nodup_lt_length (M * (K + 1)) _ h1 (fun x hx => by
    obtain ⟨p, hp, rfl⟩ := List.mem_map.1 hx
    obtain ⟨p1, p2, p3, p4⟩ := h p hp
    have : p.1.toNat + 1 ≤ M := by omega
    have := Nat.mul_le_mul_right (K + 1) this
    rw [Nat.add_mul] at this
    omega)
  rw [List.length_map] at h2
  have : ((M * (K + 1) : Nat) : Int) = (M : Int) * ((K : Int) + 1) := by simp
  omega
end Go.Proofs.Ytjgkgnfhglhklaa
