/- A slice of integers that came in, as the shells say it. -/
import Derived.Test.YtjgkgnfhglhklaaHand
namespace Go.Proofs.Ytjgkgnfhglhklaa
set_option linter.unusedSimpArgs false
set_option linter.unusedVariables false
open Go.RowKit

theorem row_ints {w : World} {a : Option Addr} {len cap : Nat} {zs : List Int}
    (h : (a = none ∧ len = 0 ∧ cap = 0 ∧ zs = []) ∨ ∃ x, a = some x ∧ len ≤ cap ∧ cap ≤ maxLen ∧ zs.length = cap ∧ (∀ i, i < zs.length → w.cell? (x.add i) = some (.int .i64 (zs.getD i 0))) ∧ ∀ n ∈ zs, (Lit.int .i64 n).wf = true) :
    ∃ l : List Int, IntsAt w a l ∧ l.length = len ∧ len ≤ maxLen ∧ (l = [] ∨ ∀ ad, a = some ad → ad.block < w.heap.size) := by
  rcases h with ⟨rfl, rfl, rfl, rfl⟩ | ⟨x, rfl, h1, h2, h3, h4, _⟩
  · exact ⟨[], .inl rfl, rfl, Nat.zero_le _, .inl rfl⟩
  · by_cases h0 : len = 0
    · exact ⟨[], .inl rfl, h0.symm, by omega, .inl rfl⟩
    · obtain ⟨b, o, sp⟩ := x
      have c0 := h4 0 (by omega)
      have hsp : sp = none := by
        cases sp with
        | none => rfl
        | some y =>
          simp only [Addr.add, if_true, World.cell?] at c0
          split at c0 <;> simp at c0
      subst hsp
      have key : ∀ i, i < zs.length → w.cell? ⟨b, o + i, none⟩ = some (.int .i64 (zs.getD i 0)) := fun i hi => by
        have := h4 i hi
        rwa [show (⟨b, o, none⟩ : Addr).add i = ⟨b, o + i, none⟩ by simp only [Addr.add]; split <;> simp_all] at this
      refine ⟨zs.take len, .inr ⟨b, o, rfl, fun i hi => ?_⟩, by rw [List.length_take]; omega, by omega, .inr fun ad e => by cases e; exact lt_of_cell (key 0 (by omega))⟩
      rw [List.length_take] at hi
      rw [key i (by omega), List.getElem_take, List.getD_eq_getElem?_getD, List.getElem?_eq_getElem (by omega)]; rfl
end Go.Proofs.Ytjgkgnfhglhklaa
