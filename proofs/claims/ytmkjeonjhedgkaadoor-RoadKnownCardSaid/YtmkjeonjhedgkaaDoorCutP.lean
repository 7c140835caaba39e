/- Strips that are never walked: what road.Cut returns. -/
import Derived.Test.YtmkjeonjhedgkaaDoorReady
namespace Go.Proofs.YtmkjeonjhedgkaaDoor
set_option linter.unusedSimpArgs false
set_option linter.unusedVariables false
open Go.RowKit

/-- Strip i is walked on a day that begins with the nights n. -/
def walkB (r : Roads) (f : Flock) (n : Nat) (d : Int) (i : Nat) : Bool := (spotsK r f (-1) n d 9).any fun p => (stepOk r f (-1) d p i).isSome
theorem walkB_iff {r : Roads} {f : Flock} (g : Good r f) {n : Nat} {d : Int} {i : Nat} : walkB r f n d i = true ↔ ∃ p, Spot r f (-1) n d p ∧ (stepOk r f (-1) d p i).isSome = true := by
  unfold walkB
  rw [List.any_eq_true]
  constructor
  · rintro ⟨p, hp, h⟩; exact ⟨p, (mem_spotsK g).1 hp, h⟩
  · rintro ⟨p, hp, h⟩; exact ⟨p, (mem_spotsK g).2 hp, h⟩
/-- Strip i is walked within k days. -/
def walkedTo (r : Roads) (f : Flock) (n : Nat) (day : Int) : Nat → Nat → Bool
  | 0, _ => false
  | k + 1, i => walkedTo r f n day k i || walkB r f (nightsTo r f (-1) n day k) (day + k) i
/-- The strips below i that are not walked. -/
def cutTo (W : Nat → Bool) : Nat → List Int
  | 0 => []
  | i + 1 => if W i then cutTo W i else cutTo W i ++ [(i : Int)]
theorem cutTo_le (W : Nat → Bool) : ∀ i, (cutTo W i).length ≤ i
  | 0 => Nat.le_refl _
  | i + 1 => by
    have := cutTo_le W i
    rw [cutTo]; split
    · omega
    · rw [List.length_append, List.length_singleton]; omega
theorem cutTo_congr {V W : Nat → Bool} : ∀ {i : Nat}, (∀ j, j < i → V j = W j) → cutTo V i = cutTo W i
  | 0, _ => rfl
  | i + 1, h => by rw [cutTo, cutTo, h i (by omega), cutTo_congr fun j hj => h j (by omega)]
/-- What Cut returns. -/
def cutV (r : Roads) (f : Flock) (fr day : Int) : List Int × Int :=
  if readyErr r f [fr, r.stages, day, r.days] = 0 then (cutTo (walkedTo r f (0 ||| 1 <<< fr.toNat) day (r.days - day).toNat) r.strips.length, 0)
  else ([], readyErr r f [fr, r.stages, day, r.days])
theorem cutV_len (r : Roads) (f : Flock) (fr day : Int) : (cutV r f fr day).1.length ≤ maxLen := by
  unfold cutV maxLen
  split
  · rename_i h
    have h1 := (ready_zero h).1.n8
    have := cutTo_le (walkedTo r f (0 ||| 1 <<< fr.toNat) day (r.days - day).toNat) r.strips.length
    show (cutTo _ _).length ≤ _
    omega
  · simp

/-- Strip i is walked behind one of some spots. -/
def hitB (r : Roads) (f : Flock) (d : Int) (S : List (Int × Int)) (seen : List Nat) (i : Nat) : Bool := seen.any fun j => match S[j]? with
  | some p => (stepOk r f (-1) d p i).isSome
  | none => false
theorem hitB_snoc {r : Roads} {f : Flock} {d : Int} {S : List (Int × Int)} {seen : List Nat} {j i : Nat} {p : Int × Int} (h : S[j]? = some p) : hitB r f d S (seen ++ [j]) i = (hitB r f d S seen i || (stepOk r f (-1) d p i).isSome) := by
  unfold hitB; rw [List.any_append]; simp [h]
theorem hitB_all {r : Roads} {f : Flock} (g : Good r f) {n : Nat} {d : Int} {S : List (Int × Int)} (hS : ∀ p, p ∈ S ↔ Spot r f (-1) n d p) {seen : List Nat} (hall : ∀ j, j < S.length → j ∈ seen) (i : Nat) : hitB r f d S seen i = walkB r f n d i := by
  rw [Bool.eq_iff_iff, walkB_iff g]
  unfold hitB
  rw [List.any_eq_true]
  constructor
  · rintro ⟨j, _, h⟩
    cases e : S[j]? with
    | none => rw [e] at h; simp at h
    | some p => rw [e] at h; exact ⟨p, (hS p).1 (List.mem_of_getElem? e), h⟩
  · rintro ⟨p, hp, h⟩
    obtain ⟨j, hj⟩ := List.mem_iff_getElem?.1 ((hS p).2 hp)
    exact ⟨j, hall j (List.getElem?_eq_some_iff.1 hj).1, by rw [hj]; exact h⟩
/-- Whether a strip is walked from a spot on, by the four questions. -/
theorem stepOk_is {r : Roads} {f : Flock} {d : Int} {p : Int × Int} {i : Nat} {s : Strip} (hs : r.strips[i]? = some s) : (stepOk r f (-1) d p i).isSome = ((endOf s p.1).2 && decide (p.2 + s.L ≤ f.pace) && openB r f (-1) i d) := by
  rw [Bool.eq_iff_iff, Option.isSome_iff_exists]
  simp only [Bool.and_eq_true, decide_eq_true_eq]
  constructor
  · rintro ⟨q, hq⟩
    obtain ⟨s', h1, h2, h3, h4, _⟩ := stepOk_some.1 hq
    rw [hs] at h1
    obtain rfl : s = s' := by simpa using h1
    exact ⟨⟨h2, h3⟩, h4⟩
  · rintro ⟨⟨h2, h3⟩, h4⟩
    exact ⟨_, stepOk_some.2 ⟨s, hs, h2, h3, h4, rfl⟩⟩
end Go.Proofs.YtmkjeonjhedgkaaDoor
