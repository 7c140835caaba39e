/- The contract of mestaref02.least. -/
import Derived.Test.YtmkjeonjhedgkaaDoorLeastP
import Derived.Test.YtmkjeonjhedgkaaDoorAsked
import Derived.Test.YtmkjeonjhedgkaaDoorGrid
namespace Go.Proofs.YtmkjeonjhedgkaaDoor
set_option linter.unusedSimpArgs false
set_option linter.unusedVariables false
open Go.RowKit

/-- A row of integers that a call made. -/
def IRow (w : World) (g S : Nat) (o : Nat → Int) : Prop := w.heap[g]? = some (.cells (tab S fun s => .int .i64 (o s)) 3 (0, 0))
theorem IRow.cell {w : World} {g S : Nat} {o : Nat → Int} (h : IRow w g S o) {s : Nat} (hs : s < S) : w.cell? ⟨g, s, none⟩ = some (.int .i64 (o s)) := cell_tab h hs
theorem IRow.free {w : World} {g S : Nat} {o : Nat → Int} (h : IRow w g S o) (s : Nat) : w.frozen? ⟨g, s, none⟩ = false := free_tab h s
theorem IRow.below {w w' : World} {g S : Nat} {o : Nat → Int} (h : IRow w g S o) (hb : Below w.heap.size w w') : IRow w' g S o := (hb.block g (Array.getElem?_eq_some_iff.1 h).1).trans h
theorem IRow.set {w : World} {g S : Nat} {o : Nat → Int} (h : IRow w g S o) (s : Nat) (x : Int) : IRow (w.setCell ⟨g, s, none⟩ (.int .i64 x)) g S (fun i => if i = s then x else o i) := by
  unfold IRow
  rw [set_tab h]
  congr 2
  exact tab_congr fun j _ => by dsimp only; split <;> rfl
theorem IRow.congr {w : World} {g S : Nat} {o o' : Nat → Int} (h : IRow w g S o) (he : ∀ s, s < S → o s = o' s) : IRow w g S o' := by
  unfold IRow at h ⊢
  rw [h, tab_congr fun j hj => by rw [he j hj]]

theorem relax_shut {r : Roads} {f : Flock} {d : Int} {i : Nat} {o : Nat → Int} {x : Strip} (hx : r.strips[i]? = some x) (h : (barsL x f d).isEmpty = false) (s : Nat) : relax r f d i o s = o s := by
  unfold relax
  rw [hx]
  dsimp only
  rw [if_neg]
  unfold openB
  rw [hx]
  simp [h]
theorem relax_open {r : Roads} {f : Flock} {d : Int} {i : Nat} {o : Nat → Int} {x : Strip} (hx : r.strips[i]? = some x) (h : (barsL x f d).isEmpty = true) (s : Nat) : relax r f d i o s = (if s = x.A.toNat ∧ o x.B.toNat + x.L ≤ f.pace then min (o x.A.toNat) (o x.B.toNat + x.L)
       else if s = x.B.toNat ∧ o x.A.toNat + x.L ≤ f.pace then min (o x.B.toNat) (o x.A.toNat + x.L) else o s) := by
  unfold relax
  rw [hx]
  dsimp only
  rw [if_pos]
  unfold openB
  rw [hx]
  simp [h]

end Go.Proofs.YtmkjeonjhedgkaaDoor
