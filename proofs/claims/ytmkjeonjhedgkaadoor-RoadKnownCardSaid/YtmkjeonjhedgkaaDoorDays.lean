/- The contract of mestaref02.days (under way). -/
import Derived.Test.YtmkjeonjhedgkaaDoorLeast
import Derived.Test.YtmkjeonjhedgkaaDoorTable
namespace Go.Proofs.YtmkjeonjhedgkaaDoor
set_option linter.unusedSimpArgs false
set_option linter.unusedVariables false
open Go.RowKit

/-- A row of bools that a call made. -/
def BRow (w : World) (g S : Nat) (o : Nat → Bool) : Prop := w.heap[g]? = some (.cells (tab S fun s => .bool (o s)) 4 (0, 0))
theorem BRow.cell {w : World} {g S : Nat} {o : Nat → Bool} (h : BRow w g S o) {s : Nat} (hs : s < S) : w.cell? ⟨g, s, none⟩ = some (.bool (o s)) := cell_tab h hs
theorem BRow.free {w : World} {g S : Nat} {o : Nat → Bool} (h : BRow w g S o) (s : Nat) : w.frozen? ⟨g, s, none⟩ = false := free_tab h s
theorem BRow.below {w w' : World} {g S : Nat} {o : Nat → Bool} (h : BRow w g S o) (hb : Below w.heap.size w w') : BRow w' g S o := (hb.block g (Array.getElem?_eq_some_iff.1 h).1).trans h
theorem BRow.set {w : World} {g S : Nat} {o : Nat → Bool} (h : BRow w g S o) (s : Nat) (x : Bool) : BRow (w.setCell ⟨g, s, none⟩ (.bool x)) g S (fun i => if i = s then x else o i) := by
  unfold BRow
  rw [set_tab h]
  congr 2
  exact tab_congr fun j _ => by dsimp only; split <;> rfl
theorem BRow.congr {w : World} {g S : Nat} {o o' : Nat → Bool} (h : BRow w g S o) (he : ∀ s, s < S → o s = o' s) : BRow w g S o' := by
  unfold BRow at h ⊢
  rw [h, tab_congr fun j hj => by rw [he j hj]]

theorem IRow.other {w : World} {g S m : Nat} {o : Nat → Int} (h : IRow w g S o) (hne : g ≠ m) (s : Nat) (v : Value) : IRow (w.setCell ⟨m, s, none⟩ v) g S o := (Below.heap_setCell _ ⟨m, s, none⟩ _ g hne).trans h
theorem BRow.other {w : World} {g S m : Nat} {o : Nat → Bool} (h : BRow w g S o) (hne : g ≠ m) (s : Nat) (v : Value) : BRow (w.setCell ⟨m, s, none⟩ v) g S o := (Below.heap_setCell _ ⟨m, s, none⟩ _ g hne).trans h
theorem updTo_getD {l : List Int} {m : Nat} {d : Int} {j s : Nat} (h : s < l.length) : (updTo l m d j).getD s 0 = if s < j ∧ l.getD s 0 < 0 ∧ m.testBit s = true then d else l.getD s 0 := by
  rw [List.getD_eq_getElem?_getD, List.getD_eq_getElem?_getD]
  simp only [updTo, List.getElem?_mapIdx, List.getElem?_eq_getElem h, Option.map_some, Option.getD_some]
  by_cases c : s < j ∧ l[s] < 0 ∧ m.testBit s = true
  · rw [if_pos c, if_pos (by simp [c.1, c.2.1, c.2.2])]
  · rw [if_neg c, if_neg (by simpa [and_assoc] using c)]

end Go.Proofs.YtmkjeonjhedgkaaDoor
