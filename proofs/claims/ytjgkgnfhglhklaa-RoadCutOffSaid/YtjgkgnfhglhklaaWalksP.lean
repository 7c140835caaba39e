/- The fewest leagues from each stage to each stage: plain laws. -/
import Derived.Test.YtjgkgnfhglhklaaMirrorP
namespace Go.Proofs.Ytjgkgnfhglhklaa
set_option linter.unusedSimpArgs false
set_option linter.unusedVariables false
open Go.RowKit

def never : Int := 100000
theorem Leads.trans {r : Roads} {f : Flock} {d s t u l m : Int} (h1 : Leads r f d s t l) (h2 : Leads r f d t u m) : Leads r f d s u (l + m) := by
  induction h2 with
  | refl => rw [Int.add_zero]; exact h1
  | step t' l' i x _ hx he ho ih => rw [← Int.add_assoc]; exact .step _ _ i x ih hx he ho
/-- A matrix of leagues that are walked, or never. -/
structure MatOk (r : Roads) (f : Flock) (d : Int) (S : Nat) (M : Nat → Nat → Int) : Prop where
  zero : ∀ s, s < S → M s s = 0
  lo : ∀ s t, s < S → t < S → 0 ≤ M s t
  hi : ∀ s t, s < S → t < S → M s t ≤ 100000
  sound : ∀ s t, s < S → t < S → M s t < 100000 → Leads r f d (s : Int) (t : Int) (M s t)
/-- The strips below i are in the matrix, both ways. -/
structure Edges (r : Roads) (f : Flock) (d : Int) (S i : Nat) (M : Nat → Nat → Int) : Prop where
  le : ∀ (j : Nat) (x : Strip), j < i → r.strips[j]? = some x → openB r f (-1) j d = true → M x.A.toNat x.B.toNat ≤ x.L ∧ M x.B.toNat x.A.toNat ≤ x.L
def mat0 (s t : Nat) : Int := if s = t then 0 else 100000
theorem mat0_ok (r : Roads) (f : Flock) (d : Int) (S : Nat) : MatOk r f d S mat0 :=
  ⟨fun s _ => by simp [mat0], fun s t _ _ => by unfold mat0; split <;> omega, fun s t _ _ => by unfold mat0; split <;> omega, fun s t _ _ h => by
    unfold mat0 at h ⊢
    by_cases e : s = t
    · subst e; rw [if_pos rfl]; exact .refl
    · rw [if_neg e] at h; omega⟩
/-- A strip is laid into the matrix. -/
def matE (M : Nat → Nat → Int) (a b : Nat) (l : Int) (s t : Nat) : Int := if s = b ∧ t = a then min (M a b) l else if s = a ∧ t = b then min (M a b) l else M s t
theorem matE_ok {r : Roads} {f : Flock} {d : Int} {S : Nat} {M : Nat → Nat → Int} (h : MatOk r f d S M) (hsym : ∀ s t, s < S → t < S → M s t = M t s) {a b : Nat} (ha : a < S) (hb : b < S) (hab : a ≠ b) {l : Int} (hl : 1 ≤ l ∧ l ≤ 9)
    (h1 : Leads r f d (a : Int) (b : Int) l) (h2 : Leads r f d (b : Int) (a : Int) l) : MatOk r f d S (matE M a b l) ∧ (∀ s t, s < S → t < S → matE M a b l s t = matE M a b l t s) ∧ (∀ s t, s < S → t < S → matE M a b l s t ≤ M s t) := by
  have hs := hsym a b ha hb
  have hab0 := h.lo a b ha hb
  have habh := h.hi a b ha hb
  refine ⟨⟨fun s hs' => ?_, fun s t h3 h4 => ?_, fun s t h3 h4 => ?_, fun s t h3 h4 h5 => ?_⟩, fun s t h3 h4 => ?_, fun s t h3 h4 => ?_⟩
  · unfold matE; rw [if_neg (by omega), if_neg (by omega)]; exact h.zero s hs'
  · have := h.lo s t h3 h4; unfold matE; split <;> (try split) <;> omega
  · have := h.hi s t h3 h4; unfold matE; split <;> (try split) <;> omega
  · unfold matE at h5 ⊢
    by_cases c1 : s = b ∧ t = a
    · rw [if_pos c1] at h5 ⊢
      obtain ⟨rfl, rfl⟩ := c1
      by_cases c : M t s ≤ l
      · rw [Int.min_eq_left c] at h5 ⊢; rw [hs] at h5 ⊢; exact h.sound s t h3 h4 h5
      · rw [Int.min_eq_right (by omega)]; exact h2
    · rw [if_neg c1] at h5 ⊢
      by_cases c2 : s = a ∧ t = b
      · rw [if_pos c2] at h5 ⊢
        obtain ⟨rfl, rfl⟩ := c2
        by_cases c : M s t ≤ l
        · rw [Int.min_eq_left c] at h5 ⊢; exact h.sound s t h3 h4 h5
        · rw [Int.min_eq_right (by omega)]; exact h1
      · rw [if_neg c2] at h5 ⊢; exact h.sound s t h3 h4 h5
  · have := hsym s t h3 h4
    unfold matE
    by_cases c1 : s = b ∧ t = a
    · rw [if_pos c1, if_neg (by omega), if_pos (by omega)]
    · rw [if_neg c1]
      by_cases c2 : s = a ∧ t = b
      · rw [if_pos c2, if_pos (by omega)]
      · rw [if_neg c2, if_neg (by omega), if_neg (by omega)]; exact this
  · unfold matE
    by_cases c1 : s = b ∧ t = a
    · rw [if_pos c1, c1.1, c1.2, ← hs]; omega
    · rw [if_neg c1]
      by_cases c2 : s = a ∧ t = b
      · rw [if_pos c2, c2.1, c2.2]; omega
      · rw [if_neg c2]; omega
/-- Phase k, as far as row s0, column t0. -/
def matF (M : Nat → Nat → Int) (k s0 t0 s t : Nat) : Int := if s < s0 ∨ (s = s0 ∧ t < t0) then min (M s t) (M s k + M k t) else M s t
theorem matF_read {M : Nat → Nat → Int} {k s0 t0 s : Nat} (hz : M k k = 0) : matF M k s0 t0 s k = M s k := by
  unfold matF; split
  · rw [hz]; omega
  · rfl
theorem matF_read2 {M : Nat → Nat → Int} {k s0 t0 t : Nat} (hz : M k k = 0) : matF M k s0 t0 k t = M k t := by
  unfold matF; split
  · rw [hz]; omega
  · rfl
theorem matF_set {M : Nat → Nat → Int} {k s0 t0 s t : Nat} : (if s = s0 ∧ t = t0 then min (M s0 t0) (M s0 k + M k t0) else matF M k s0 t0 s t) = matF M k s0 (t0 + 1) s t := by
  unfold matF
  by_cases c : s = s0 ∧ t = t0
  · obtain ⟨rfl, rfl⟩ := c; rw [if_pos ⟨rfl, rfl⟩, if_pos (by omega)]
  · rw [if_neg c]
    by_cases c2 : s < s0 ∨ (s = s0 ∧ t < t0)
    · rw [if_pos c2, if_pos (by omega)]
    · rw [if_neg c2, if_neg (by omega)]
theorem matF_next {M : Nat → Nat → Int} {k s0 S s t : Nat} (ht : t < S) : matF M k s0 S s t = matF M k (s0 + 1) 0 s t := by
  unfold matF
  by_cases c2 : s < s0 ∨ (s = s0 ∧ t < S)
  · rw [if_pos c2, if_pos (by omega)]
  · rw [if_neg c2, if_neg (by omega)]
theorem matF_all {M : Nat → Nat → Int} {k S s t : Nat} (hs : s < S) : matF M k S 0 s t = min (M s t) (M s k + M k t) := by unfold matF; rw [if_pos (by omega)]
/-- The stages below k are gone through. -/
def Tri (S k : Nat) (M : Nat → Nat → Int) : Prop := ∀ j s t, j < k → s < S → t < S → M s t ≤ M s j + M j t
theorem phase_ok {r : Roads} {f : Flock} {d : Int} {S k : Nat} {M : Nat → Nat → Int} (h : MatOk r f d S M) (hk : k < S) (ht : Tri S k M) {i : Nat} (he : Edges r f d S i M) (hr : ∀ (j : Nat) (x : Strip), r.strips[j]? = some x → x.A.toNat < S ∧ x.B.toNat < S) :
    MatOk r f d S (matF M k S 0) ∧ Tri S (k + 1) (matF M k S 0) ∧ Edges r f d S i (matF M k S 0) := by
  have hz := h.zero k hk
  refine ⟨⟨fun s hs => ?_, fun s t h1 h2 => ?_, fun s t h1 h2 => ?_, fun s t h1 h2 h3 => ?_⟩, fun j s t hj h1 h2 => ?_, ⟨fun j x h1 h2 h3 => ?_⟩⟩
  · rw [matF_all hs, h.zero s hs]; have := h.lo s k hs hk; have := h.lo k s hk hs; omega
  · rw [matF_all h1]; have := h.lo s t h1 h2; have := h.lo s k h1 hk; have := h.lo k t hk h2; omega
  · rw [matF_all h1]; have := h.hi s t h1 h2; omega
  · rw [matF_all h1] at h3 ⊢
    have l1 := h.lo s k h1 hk
    have l2 := h.lo k t hk h2
    by_cases c : M s t ≤ M s k + M k t
    · rw [Int.min_eq_left c] at h3 ⊢; exact h.sound s t h1 h2 h3
    · rw [Int.min_eq_right (by omega)] at h3 ⊢
      exact (h.sound s k h1 hk (by omega)).trans (h.sound k t hk h2 (by omega))
  · by_cases ek : j = k
    · subst ek
      rw [matF_all h1, matF_read hz, matF_read2 hz]; omega
    · have hjk : j < k := by omega
      have hj' : j < S := by omega
      rw [matF_all h1, matF_all h1, matF_all hj']
      have a1 := ht j s t hjk h1 h2
      have a2 := ht j s k hjk h1 hk
      have a3 := ht j k t hjk hk h2
      have a4 := h.lo k j hk hj'
      have a5 := h.lo j k hj' hk
      have a6 := h.lo s k h1 hk
      have a7 := h.lo k t hk h2
      omega
  · obtain ⟨e1, e2⟩ := he.le j x h1 h2 h3
    obtain ⟨hA, hB⟩ := hr j x h2
    rw [matF_all hA, matF_all hB]
    omega
/-- What walks returns. -/
structure Far (r : Roads) (f : Flock) (d : Int) (S : Nat) (M : Nat → Nat → Int) : Prop where
  lo : ∀ s t, s < S → t < S → 0 ≤ M s t
  hi : ∀ s t, s < S → t < S → M s t ≤ 100000
  le : ∀ s t, s < S → t < S → ∀ L, L < 100000 → (M s t ≤ L ↔ ∃ l, l ≤ L ∧ Leads r f d (s : Int) (t : Int) l)
theorem far_of {r : Roads} {f : Flock} (g : Good r f) {d : Int} {S : Nat} (hS : r.stages = (S : Int)) {M : Nat → Nat → Int} (h : MatOk r f d S M) (ht : Tri S S M) (he : Edges r f d S r.strips.length M) : Far r f d S M := by
  refine ⟨h.lo, h.hi, fun s t hs htt L hL => ⟨fun hle => ⟨_, hle, h.sound s t hs htt (by omega)⟩, ?_⟩⟩
  rintro ⟨l, hl, hld⟩
  have key : ∀ (u : Int) (l : Int), Leads r f d (s : Int) u l → M s u.toNat ≤ l ∧ 0 ≤ u ∧ u < (S : Int) := by
    intro u l hld
    induction hld with
    | refl => exact ⟨by rw [show ((s : Int)).toNat = s from rfl, h.zero s hs]; omega, by omega, by omega⟩
    | step v l i x _ hx hend ho ih =>
      obtain ⟨i1, i2, i3⟩ := ih
      obtain ⟨b1, b2, b3, b4, _⟩ := g.strip x (List.mem_of_getElem? hx)
      obtain ⟨c1, c2⟩ := he.le i x (List.getElem?_eq_some_iff.1 hx).1 hx ho
      have hv : v.toNat < S := by omega
      unfold endOf at hend ⊢
      by_cases eA : v = x.A
      · rw [if_pos eA]
        have := ht v.toNat s x.B.toNat hv hs (by omega)
        rw [eA] at this i1
        exact ⟨by dsimp only; omega, b3, by dsimp only; omega⟩
      · rw [if_neg eA] at hend ⊢
        by_cases eB : v = x.B
        · rw [if_pos eB]
          have := ht v.toNat s x.A.toNat hv hs (by omega)
          rw [eB] at this i1
          exact ⟨by dsimp only; omega, b1, by dsimp only; omega⟩
        · rw [if_neg eB] at hend; simp at hend
  have := (key t l hld).1
  rw [show ((t : Int)).toNat = t from rfl] at this
  omega
end Go.Proofs.Ytjgkgnfhglhklaa
