/- Regions that draw their order, whose operations only read, and whose callees leave all memory that was there as it was: one walk of the lexical order. -/
import Derived.Test.YtjgkgnfhglhklaaSpec
import Derived.BigQuiet
namespace Go.Proofs.Ytjgkgnfhglhklaa
set_option linter.unusedSimpArgs false
set_option linter.unusedVariables false
open Go.RowKit

/-- A world in which all that w has is as it was. -/
structure BW (w : World) where
  v : World
  h : Below w.heap.size w v
instance (w : World) : Nonempty (BW w) := ⟨⟨w, Below.refl _ _⟩⟩
theorem BW.cell {w : World} (x : BW w) {b o : Nat} {v : Value} (h : w.cell? ⟨b, o, none⟩ = some v) : x.v.cell? ⟨b, o, none⟩ = some v := ((bcell x.h).1 _ _ (lt_of_cell h)).trans h
theorem wp_region_below {P : Program} {id : Nat} {Q : Exit → Act → World → Prop} {a : Act} {w : World} {l : List Oper} (hm : P.follows .mixedOrders = true) (hB : Region.lexB .any l.toArray = true)
    (h : wpQuiet P l.toArray (fun w' => ∃ x : BW w, w' = x.v) (fun a' => ∀ w', Below w.heap.size w w' → Q .normal a' w') l a) : (Code.region id l.toArray true).wp P Q a w := by
  refine wp_region_quiet (C := fun w' => ∃ x : BW w, w' = x.v) hm hB ⟨⟨w.drew, (Below.refl _ _).drew⟩, rfl⟩ ?_
  have e : (fun a' => ∀ w', (∃ x : BW w, w' = x.v) → Q .normal a' w') = fun a' => ∀ w', Below w.heap.size w w' → Q .normal a' w' := by
    funext a'
    refine propext ⟨fun h w' hb => h w' ⟨⟨w', hb⟩, rfl⟩, ?_⟩
    rintro h w' ⟨x, rfl⟩
    exact h _ x.h
  rw [e]
  simpa using h
theorem Calls.bw {P : Program} {f : FuncId} {args : Array Value} {w : World} {x : BW w} {v : Value} (h : Calls P f args x.v fun e w' => e = .returned v ∧ Below x.v.heap.size x.v w') : Calls P f args x.v fun e w'' => e = .returned v ∧ ∃ y : BW w, w'' = y.v :=
  h.mono fun _ w' h => ⟨h.1, ⟨w', x.h.trans (h.2.mono x.h.size)⟩, rfl⟩
end Go.Proofs.Ytjgkgnfhglhklaa
