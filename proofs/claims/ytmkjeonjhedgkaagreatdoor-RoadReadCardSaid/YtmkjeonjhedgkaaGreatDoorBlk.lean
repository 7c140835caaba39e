/- Blocks of memory as whole rows of cells: what stores and new blocks leave of them. -/
import Derived.Test.YtmkjeonjhedgkaaGreatDoorBuild
namespace Go.Proofs.YtmkjeonjhedgkaaGreatDoor
set_option linter.unusedSimpArgs false
set_option linter.unusedVariables false
open Go.RowKit

/-- Block b holds these cells, none of them frozen. -/
def Rw (w : World) (b : Nat) (c : Array Value) (t : TypeId) : Prop := w.heap[b]? = some (.cells c t (0, 0))
theorem Rw.lt {w : World} {b : Nat} {c : Array Value} {t : TypeId} (h : Rw w b c t) : b < w.heap.size := (Array.getElem?_eq_some_iff.1 h).1
theorem Rw.cell {w : World} {b : Nat} {c : Array Value} {t : TypeId} (h : Rw w b c t) {o : Nat} {v : Value} (ho : c[o]? = some v) : w.cell? ⟨b, o, none⟩ = some v := cell_at h ho
theorem Rw.fz {w : World} {b : Nat} {c : Array Value} {t : TypeId} (h : Rw w b c t) (o : Nat) : w.frozen? ⟨b, o, none⟩ = false := by
  unfold Rw at h
  simp [World.frozen?, h]
theorem Rw.below {w w' : World} {b : Nat} {c : Array Value} {t : TypeId} (h : Rw w b c t) (hb : Below w.heap.size w w') : Rw w' b c t := heap_below hb h
theorem Rw.far {w : World} {b g : Nat} {c : Array Value} {t : TypeId} (h : Rw w b c t) (hne : b ≠ g) (o : Nat) (v : Value) : Rw (w.setCell ⟨g, o, none⟩ v) b c t := by
  unfold Rw at *
  rw [Below.heap_setCell _ _ _ _ (by simpa using hne)]; exact h
theorem Rw.set {w : World} {b : Nat} {c : Array Value} {t : TypeId} (h : Rw w b c t) (o : Nat) (v : Value) : Rw (w.setCell ⟨b, o, none⟩ v) b (c.setIfInBounds o v) t := by
  unfold Rw at *
  simp [World.setCell, Array.getElem?_modify, h]
theorem Rw.new (w : World) (c : Array Value) (t : TypeId) : Rw (w.alloc (.cells c t)) w.heap.size c t := by
  unfold Rw
  have := heap_alloc_new w (.cells c t)
  simpa using this
theorem alloc_below (w : World) (o : Obj) : Below w.heap.size w (w.alloc o) := (Below.refl _ _).alloc (Nat.le_refl _) _
end Go.Proofs.YtmkjeonjhedgkaaGreatDoor
