/- How slices and structs of roads lie in memory: words on worlds, and that they stay. -/
import Derived.Test.YtjgkgnfhglhklaaSpec
namespace Go.Proofs.Ytjgkgnfhglhklaa
set_option linter.unusedSimpArgs false
set_option linter.unusedVariables false
open Go.RowKit

/-- Strip s lies at cells o .. o + 6 of block b. -/
structure StripAt (w : World) (b o : Nat) (s : Strip) : Prop where
  c0 : w.cell? ⟨b, o, none⟩ = some (.int .i64 s.A)
  c1 : w.cell? ⟨b, o + 1, none⟩ = some (.int .i64 s.B)
  c2 : w.cell? ⟨b, o + 2, none⟩ = some (.int .i64 s.L)
  c3 : w.cell? ⟨b, o + 3, none⟩ = some (.int .i64 s.W)
  c4 : w.cell? ⟨b, o + 4, none⟩ = some (.int .i64 s.K)
  c5 : w.cell? ⟨b, o + 5, none⟩ = some (.int .i64 s.X)
  c6 : w.cell? ⟨b, o + 6, none⟩ = some (.int .i64 s.Y)

theorem StripAt.keep {w w' : World} {b o : Nat} {s : Strip} (h : StripAt w b o s) (e : ∀ k, w'.cell? ⟨b, k, none⟩ = w.cell? ⟨b, k, none⟩) : StripAt w' b o s :=
  ⟨(e _).trans h.c0, (e _).trans h.c1, (e _).trans h.c2, (e _).trans h.c3, (e _).trans h.c4, (e _).trans h.c5, (e _).trans h.c6⟩

/-- The strips l lie behind a slice's address. -/
def StripsAt (w : World) (a : Option Addr) (l : List Strip) : Prop :=
  l = [] ∨ ∃ b o, a = some ⟨b, o, none⟩ ∧ ∀ (i : Nat) (h : i < l.length), StripAt w b (o + i * 7) l[i]

theorem lt_of_cell {w : World} {b o : Nat} {v : Value} (h : w.cell? ⟨b, o, none⟩ = some v) : b < w.heap.size := World.block_lt_of_cell? _ _ h

theorem StripsAt.below {w w' : World} {a : Option Addr} {l : List Strip} (h : StripsAt w a l) (hb : Below w.heap.size w w') : StripsAt w' a l := by
  rcases h with h | ⟨b, o, ha, h⟩
  · exact .inl h
  · exact .inr ⟨b, o, ha, fun i hi => (h i hi).keep fun k => (bcell hb).1 _ _ (lt_of_cell (h i hi).c0)⟩

/-- The integers l lie behind a slice's address. -/
def IntsAt (w : World) (a : Option Addr) (l : List Int) : Prop :=
  l = [] ∨ ∃ b o, a = some ⟨b, o, none⟩ ∧ ∀ (i : Nat) (h : i < l.length), w.cell? ⟨b, o + i, none⟩ = some (.int .i64 l[i])

theorem IntsAt.below {w w' : World} {a : Option Addr} {l : List Int} (h : IntsAt w a l) (hb : Below w.heap.size w w') : IntsAt w' a l := by
  rcases h with h | ⟨b, o, ha, h⟩
  · exact .inl h
  · exact .inr ⟨b, o, ha, fun i hi => by rw [(bcell hb).1 _ _ (lt_of_cell (h i hi))]; exact h i hi⟩
end Go.Proofs.Ytjgkgnfhglhklaa
