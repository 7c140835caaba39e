/- Cutting lists of bytes at one byte, and joining them again: plain laws. -/
import Derived.Test.YtmkjeonjhedgkaaGreatDoorSpec
import Derived.Lib.SplitLaws
namespace Go.Proofs.YtmkjeonjhedgkaaGreatDoor
set_option linter.unusedSimpArgs false
set_option linter.unusedVariables false
open Go.RowKit

def splitC (c : UInt8) : List UInt8 → List (List UInt8)
  | [] => [[]]
  | x :: t => if x = c then [] :: splitC c t else match splitC c t with | [] => [[x]] | h :: r => (x :: h) :: r
def joinC (c : UInt8) : List (List UInt8) → List UInt8
  | [] => []
  | [x] => x
  | x :: y :: r => x ++ c :: joinC c (y :: r)
theorem splitC_ne (c : UInt8) : ∀ s, splitC c s ≠ []
  | [] => by simp [splitC]
  | x :: t => by
    unfold splitC
    split
    · simp
    · split <;> simp
theorem joinC_splitC (c : UInt8) : ∀ s, joinC c (splitC c s) = s
  | [] => rfl
  | x :: t => by
    have ih := joinC_splitC c t
    unfold splitC
    split
    · rename_i h; subst h
      cases hs : splitC x t with
      | nil => exact absurd hs (splitC_ne x t)
      | cons h r => rw [hs] at ih; simp [joinC, ih]
    · cases hs : splitC c t with
      | nil => exact absurd hs (splitC_ne c t)
      | cons h r =>
        rw [hs] at ih
        dsimp only
        cases r with
        | nil => simp only [joinC] at ih ⊢; rw [ih]
        | cons y r => simp only [joinC] at ih ⊢; rw [List.cons_append, ih]
theorem splitC_free (c : UInt8) : ∀ s : List UInt8, c ∉ s → splitC c s = [s]
  | [], _ => rfl
  | x :: t, h => by
    have h1 : x ≠ c := fun e => h (by simp [e])
    have h2 : c ∉ t := fun e => h (by simp [e])
    unfold splitC
    rw [if_neg h1, splitC_free c t h2]
theorem splitC_cut (c : UInt8) (b : List UInt8) : ∀ a : List UInt8, c ∉ a → splitC c (a ++ c :: b) = a :: splitC c b
  | [], _ => by simp [splitC]
  | x :: t, h => by
    have h1 : x ≠ c := fun e => h (by simp [e])
    have h2 : c ∉ t := fun e => h (by simp [e])
    rw [List.cons_append]
    conv => lhs; unfold splitC
    rw [if_neg h1, splitC_cut c b t h2]
theorem splitC_mem (c : UInt8) : ∀ (s : List UInt8), ∀ x ∈ splitC c s, c ∉ x
  | [], x, h => by simp [splitC] at h; simp [h]
  | y :: t, x, h => by
    have ih := splitC_mem c t
    unfold splitC at h
    split at h
    · simp only [List.mem_cons] at h
      rcases h with rfl | h
      · simp
      · exact ih x h
    · rename_i hne
      cases hs : splitC c t with
      | nil => exact absurd hs (splitC_ne c t)
      | cons k r =>
        rw [hs] at h ih
        simp only [List.mem_cons] at h
        rcases h with rfl | h
        · intro hm
          simp only [List.mem_cons] at hm
          rcases hm with hm | hm
          · exact hne hm.symm
          · exact ih k (by simp) hm
        · exact ih x (by simp [h])
theorem splitC_length (c : UInt8) : ∀ s : List UInt8, (splitC c s).length = s.count c + 1
  | [] => rfl
  | x :: t => by
    have ih := splitC_length c t
    unfold splitC
    split
    · rename_i h; subst h; simp [ih]
    · rename_i h
      cases hs : splitC c t with
      | nil => exact absurd hs (splitC_ne c t)
      | cons k r =>
        rw [hs] at ih
        simp only [List.length_cons] at ih ⊢
        rw [List.count_cons_of_ne (by simpa using h)]; exact ih
/-- A list cut at its first c. -/
def cutC (c : UInt8) : List UInt8 → Option (List UInt8 × List UInt8)
  | [] => none
  | x :: t => if x = c then some ([], t) else (cutC c t).map fun p => (x :: p.1, p.2)
theorem cutC_some (c : UInt8) : ∀ {s a b : List UInt8}, cutC c s = some (a, b) → s = a ++ c :: b ∧ c ∉ a
  | [], _, _, h => by simp [cutC] at h
  | x :: t, a, b, h => by
    unfold cutC at h
    split at h
    · rename_i hx; subst hx
      simp only [Option.some.injEq, Prod.mk.injEq] at h
      obtain ⟨rfl, rfl⟩ := h
      simp
    · rename_i hx
      obtain ⟨⟨p, q⟩, hp, he⟩ := Option.map_eq_some_iff.1 h
      simp only [Prod.mk.injEq] at he
      obtain ⟨rfl, rfl⟩ := he
      obtain ⟨h1, h2⟩ := cutC_some c hp
      refine ⟨by rw [h1]; simp, ?_⟩
      intro hm
      simp only [List.mem_cons] at hm
      rcases hm with hm | hm
      · exact hx hm.symm
      · exact h2 hm
theorem cutC_none (c : UInt8) : ∀ {s : List UInt8}, cutC c s = none → c ∉ s
  | [], _ => by simp
  | x :: t, h => by
    unfold cutC at h
    split at h
    · simp at h
    · rename_i hx
      have := cutC_none c (Option.map_eq_none_iff.1 h)
      intro hm
      simp only [List.mem_cons] at hm
      rcases hm with hm | hm
      · exact hx hm.symm
      · exact this hm
theorem cutC_at (c : UInt8) (b : List UInt8) : ∀ a : List UInt8, c ∉ a → cutC c (a ++ c :: b) = some (a, b)
  | [], _ => by simp [cutC]
  | x :: t, h => by
    have h1 : x ≠ c := fun e => h (by simp [e])
    have h2 : c ∉ t := fun e => h (by simp [e])
    rw [List.cons_append]
    unfold cutC
    rw [if_neg h1, cutC_at c b t h2]; rfl
theorem cutC_free (c : UInt8) : ∀ s : List UInt8, c ∉ s → cutC c s = none
  | [], _ => rfl
  | x :: t, h => by
    have h1 : x ≠ c := fun e => h (by simp [e])
    have h2 : c ∉ t := fun e => h (by simp [e])
    unfold cutC
    rw [if_neg h1, cutC_free c t h2]; rfl

/-- The library's words for the same. -/
theorem index_one_free (c : UInt8) : ∀ s : List UInt8, c ∉ s → Lib.index s [c] = -1
  | [], _ => rfl
  | x :: t, h => by
    have h1 : x ≠ c := fun e => h (by simp [e])
    have h2 : c ∉ t := fun e => h (by simp [e])
    unfold Lib.index
    have e : ([c].isPrefixOf (x :: t)) = false := by simp [List.isPrefixOf, Ne.symm h1]
    rw [e, index_one_free c t h2]; rfl
theorem index_one_at (c : UInt8) (b : List UInt8) : ∀ a : List UInt8, c ∉ a → Lib.index (a ++ c :: b) [c] = a.length
  | [], _ => by simp [Lib.index]
  | x :: t, h => by
    have h1 : x ≠ c := fun e => h (by simp [e])
    have h2 : c ∉ t := fun e => h (by simp [e])
    rw [List.cons_append]
    unfold Lib.index
    have e : ([c].isPrefixOf (x :: (t ++ c :: b))) = false := by simp [List.isPrefixOf, Ne.symm h1]
    rw [e, index_one_at c b t h2]
    have : ¬ ((t.length : Int) == -1) = true := by simp
    simp [this]
theorem lib_cut (c : UInt8) (s : List UInt8) : Lib.cut s [c] = match cutC c s with | some (a, b) => (a, b, true) | none => (s, [], false) := by
  unfold Lib.cut
  cases h : cutC c s with
  | none =>
    rw [index_one_free c s (cutC_none c h)]; rfl
  | some p =>
    obtain ⟨a, b⟩ := p
    obtain ⟨rfl, h2⟩ := cutC_some c h
    rw [index_one_at c b a h2, if_pos (by omega)]
    simp
theorem lib_split (c : UInt8) : ∀ (k : Nat) (s : List UInt8), s.count c = k → Lib.splitK [c] 0 k s = splitC c s
  | 0, s, h => by
    rw [splitC_free c s (List.count_eq_zero.1 h)]; rfl
  | k + 1, s, h => by
    cases hc : cutC c s with
    | none => have := List.count_eq_zero.2 (cutC_none c hc); omega
    | some p =>
      obtain ⟨a, b⟩ := p
      obtain ⟨rfl, h2⟩ := cutC_some c hc
      unfold Lib.splitK
      rw [index_one_at c b a h2]
      have e : ¬ ((a.length : Int) == -1) = true := by simp
      rw [if_neg e, splitC_cut c b a h2]
      have hk : b.count c = k := by
        rw [List.count_append, List.count_cons_self, List.count_eq_zero.2 h2] at h; omega
      have := lib_split c k b hk
      simp [this]
/-- What strings.Split makes of a string, cut at one byte. -/
theorem lib_splitB (c : UInt8) (s : ByteArray) : (Lib.splitB ⟨#[c]⟩ 0 (Lib.countB s ⟨#[c]⟩) s).map Value.string = (splitC c s.data.toList).map fun x => Value.string ⟨x.toArray⟩ := by
  have h1 : Lib.countB s ⟨#[c]⟩ = s.data.toList.count c := Lib.count_one c s.data.toList
  have h2 := Lib.splitB_data ⟨#[c]⟩ 0 (Lib.countB s ⟨#[c]⟩) s
  have h3 : (⟨#[c]⟩ : ByteArray).data.toList = [c] := rfl
  rw [h3, h1, lib_split c _ _ rfl] at h2
  rw [h1, ← h2, List.map_map]
  apply List.map_congr_left
  intro x _
  cases x; rfl
end Go.Proofs.YtmkjeonjhedgkaaGreatDoor
