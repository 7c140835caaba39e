/- What a strings.Builder of the call's own holds, and what its writers leave: small laws. -/
import Derived.Test.YtmkjeonjhedgkaaGreatDoorSpec
import Derived.Test.YtmkjeonjhedgkaaGreatDoorWriteStr
import Derived.Shelf.Strings.BuilderK
namespace Go.Proofs.YtmkjeonjhedgkaaGreatDoor
set_option linter.unusedSimpArgs false
set_option linter.unusedVariables false
open Go.RowKit

theorem bldAt_below {T e : TypeId} {B b : Nat} {p : Value} {bs : List Value} {w w' : World} (h : Lib.BuilderAtF T e B b p bs w) (hb : Below w.heap.size w w') : Lib.BuilderAtF T e B b p bs w' := by
  obtain ⟨h1, v, h2, ⟨h3, h4⟩, h5⟩ := h
  have hlt := (Array.getElem?_eq_some_iff.1 h2).1
  refine ⟨h1, v, (hb.block b hlt).trans h2, ⟨h3, h4.imp id fun ⟨g, cap, cur, fz, k1, k2, k3, k4⟩ => ⟨g, cap, cur, fz, k1, k2, ?_, k4⟩⟩, h5⟩
  exact (hb.block g (Array.getElem?_eq_some_iff.1 k3).1).trans k3
theorem bld_below {T e : TypeId} {B b : Nat} {bs : List Value} {w w' : World} (h : Lib.IsBuilderF T e B b bs w) (hb : Below w.heap.size w w') : Lib.IsBuilderF T e B b bs w' :=
  h.imp (bldAt_below · hb) (bldAt_below · hb)
theorem bld_fresh (w : World) (T e : TypeId) {B : Nat} (hB : B ≤ w.heap.size) : Lib.IsBuilderF T e B w.heap.size [] (w.alloc (.cells #[.pointer none, .slice none 0 0] T)) :=
  .inl ⟨hB, .slice none 0 0, heap_alloc_new _ _, ⟨rfl, .inl ⟨rfl, rfl⟩⟩, by simp [Value.ownBlock]⟩
theorem strCells_eq (s : ByteArray) (l : List UInt8) (h : s = ⟨l.toArray⟩) : Lib.strCells s = Lib.byteCells l := by
  subst h; simp [Lib.strCells, Lib.byteCells]
theorem byteCells_app (a b : List UInt8) : Lib.byteCells (a ++ b) = Lib.byteCells a ++ Lib.byteCells b := by simp [Lib.byteCells]
theorem byteCells_len (a : List UInt8) : (Lib.byteCells a).length = a.length := by simp [Lib.byteCells]
theorem bytes_add (a b : List UInt8) : (⟨a.toArray⟩ : ByteArray) ++ ⟨b.toArray⟩ = ⟨(a ++ b).toArray⟩ := by
  apply ByteArray.ext
  simp
theorem kept_heap {e : TypeId} {b k : Nat} {w w' : World} (h : Lib.OthersKept e (some b) w w') {c : Array Value} {t : TypeId} {fz : Nat × Nat} (hk : w.heap[k]? = some (.cells c t fz)) (hb : k ≠ b) (ht : t ≠ e) : w'.heap[k]? = some (.cells c t fz) :=
  h k _ hk (by simpa using hb) fun c' fz' hh => by simp only [Obj.cells.injEq] at hh; exact ht hh.2.1
theorem cell_at {w : World} {k : Nat} {c : Array Value} {t : TypeId} {fz : Nat × Nat} (h : w.heap[k]? = some (.cells c t fz)) {o : Nat} {v : Value} (ho : c[o]? = some v) : w.cell? ⟨k, o, none⟩ = some v := by
  simp [World.cell?, h, ho]
theorem heap_below {w w' : World} (hb : Below w.heap.size w w') {k : Nat} {o : Obj} (h : w.heap[k]? = some o) : w'.heap[k]? = some o := (hb.block k (Array.getElem?_eq_some_iff.1 h).1).trans h
open Lib in
theorem WriteString_k (B b : Nat) (l m : List UInt8) (s : ByteArray) (hs : s = ⟨m.toArray⟩) (w : World) (h : Lib.IsBuilderF 72 5 B b (Lib.byteCells l) w) (hlen : l.length + m.length ≤ 140737488355328) (hBw : B ≤ w.heap.size) :
    Calls Tryz.prog 29 #[.pointer (some ⟨b, 0, none⟩), .string s] w fun e w' => (∃ n : Int, e = .returned (.tuple #[.int .i64 n, .nilIface])) ∧ Lib.IsBuilderF 72 5 B b (Lib.byteCells (l ++ m)) w' ∧ Below B w w' ∧ Lib.OthersKept 5 (some b) w w' := by
  refine (Any.Builder_WriteString_k Tryz.lays166 Tryz.Builder_Extra_166 B b (Lib.byteCells l) s w h ?_ hBw).mono ?_
  · rw [byteCells_len, hs]; simpa [ByteArray.size] using hlen
  · rintro e w' ⟨rfl, h1, h2, h3⟩
    rw [strCells_eq s m hs, ← byteCells_app] at h1
    exact ⟨⟨_, rfl⟩, .inr h1, h2, h3⟩
theorem String_k (B b : Nat) (l : List UInt8) (w : World) (h : Lib.IsBuilderF 72 5 B b (Lib.byteCells l) w) (hBw : B ≤ w.heap.size) :
    Calls Tryz.prog 31 #[.pointer (some ⟨b, 0, none⟩)] w fun e w' => e = .returned (.string ⟨l.toArray⟩) ∧ Below B w w' :=
  (Any.Builder_String_any_k Tryz.lays169 Tryz.Builder_Extra_169 B b l w h hBw).mono fun e w' h => ⟨h.1, h.2.2.1⟩
end Go.Proofs.YtmkjeonjhedgkaaGreatDoor
