/- One of the five questions, and the copied roads, cell by cell. -/
import Derived.Test.YtjgkgnfhglhklaaAsks
namespace Go.Proofs.Ytjgkgnfhglhklaa
set_option linter.unusedSimpArgs false
set_option linter.unusedVariables false
open Go.RowKit

/-- Question i, cell by cell. -/
structure AskIn (w : World) (p gr gf g1 g2 g3 g4 g5 i : Nat) (r : Roads) (f : Flock) (fr tt z b s : Int) (sa : Option Addr) (sc : Nat) : Prop where
  k0 : w.cell? ⟨p, 0, none⟩ = some (.slice (some ⟨gr, 0, none⟩) 5 5)
  k1 : w.cell? ⟨p, 1, none⟩ = some (.slice (some ⟨gf, 0, none⟩) 5 5)
  k2 : w.cell? ⟨p, 2, none⟩ = some (.slice (some ⟨g1, 0, none⟩) 5 5)
  k3 : w.cell? ⟨p, 3, none⟩ = some (.slice (some ⟨g2, 0, none⟩) 5 5)
  k4 : w.cell? ⟨p, 4, none⟩ = some (.slice (some ⟨g3, 0, none⟩) 5 5)
  k5 : w.cell? ⟨p, 5, none⟩ = some (.slice (some ⟨g4, 0, none⟩) 5 5)
  k6 : w.cell? ⟨p, 6, none⟩ = some (.slice (some ⟨g5, 0, none⟩) 5 5)
  r0 : w.cell? ⟨gr, i * 3, none⟩ = some (.int .i64 r.days)
  r1 : w.cell? ⟨gr, i * 3 + 1, none⟩ = some (.int .i64 r.stages)
  r2 : w.cell? ⟨gr, i * 3 + 2, none⟩ = some (.slice sa r.strips.length sc)
  f0 : w.cell? ⟨gf, i * 2, none⟩ = some (.int .i64 f.heads)
  f1 : w.cell? ⟨gf, i * 2 + 1, none⟩ = some (.int .i64 f.pace)
  a1 : w.cell? ⟨g1, i, none⟩ = some (.int .i64 fr)
  a2 : w.cell? ⟨g2, i, none⟩ = some (.int .i64 tt)
  a3 : w.cell? ⟨g3, i, none⟩ = some (.int .i64 z)
  a4 : w.cell? ⟨g4, i, none⟩ = some (.int .i64 b)
  a5 : w.cell? ⟨g5, i, none⟩ = some (.int .i64 s)
  strips : StripsAt w sa r.strips
  len : r.strips.length ≤ 20
  cap : r.strips.length ≤ sc
theorem AsksIn.at {w : World} {p gr gf g1 g2 g3 g4 g5 : Nat} {q : Nat → Ask} (h : AsksIn w p gr gf g1 g2 g3 g4 g5 q) {i : Nat} (hi : i < 5) : ∃ r f fr tt z b s sa sc, AskIn w p gr gf g1 g2 g3 g4 g5 i r f fr tt z b s sa sc :=
  ⟨(q i).r, (q i).f, (q i).fr, (q i).tt, (q i).z, (q i).b, (q i).s, (q i).sa, (q i).sc, h.k0, h.k1, h.k2, h.k3, h.k4, h.k5, h.k6, h.ask.r0 i hi, h.ask.r1 i hi, h.ask.r2 i hi, h.ask.f0 i hi, h.ask.f1 i hi, h.ask.a1 i hi, h.ask.a2 i hi, h.ask.a3 i hi, h.ask.a4 i hi, h.ask.a5 i hi, h.ask.strips i hi, h.ask.len i hi, h.ask.cap i hi⟩
theorem AskIn.below {w w' : World} {p gr gf g1 g2 g3 g4 g5 i : Nat} {r : Roads} {f : Flock} {fr tt z b s : Int} {sa : Option Addr} {sc : Nat} (h : AskIn w p gr gf g1 g2 g3 g4 g5 i r f fr tt z b s sa sc) (hb : Below w.heap.size w w') : AskIn w' p gr gf g1 g2 g3 g4 g5 i r f fr tt z b s sa sc :=
  have k : ∀ {b o : Nat} {v : Value}, w.cell? ⟨b, o, none⟩ = some v → w'.cell? ⟨b, o, none⟩ = some v := fun e => ((bcell hb).1 _ _ (lt_of_cell e)).trans e
  ⟨k h.k0, k h.k1, k h.k2, k h.k3, k h.k4, k h.k5, k h.k6, k h.r0, k h.r1, k h.r2, k h.f0, k h.f1, k h.a1, k h.a2, k h.a3, k h.a4, k h.a5, h.strips.below hb, h.len, h.cap⟩
/-- Roads of the call's own in a block. -/
structure OwnIn (w : World) (po : Nat) (r : Roads) (g c : Nat) : Prop where
  o0 : w.cell? ⟨po, 0, none⟩ = some (.int .i64 r.days)
  o1 : w.cell? ⟨po, 1, none⟩ = some (.int .i64 r.stages)
  o2 : w.cell? ⟨po, 2, none⟩ = some (.slice (some ⟨g, 0, none⟩) r.strips.length c)
  strips : StripsAt w (some ⟨g, 0, none⟩) r.strips
theorem OwnIn.below {w w' : World} {po : Nat} {r : Roads} {g c : Nat} (h : OwnIn w po r g c) (hb : Below w.heap.size w w') : OwnIn w' po r g c :=
  have k : ∀ {b o : Nat} {v : Value}, w.cell? ⟨b, o, none⟩ = some v → w'.cell? ⟨b, o, none⟩ = some v := fun e => ((bcell hb).1 _ _ (lt_of_cell e)).trans e
  ⟨k h.o0, k h.o1, k h.o2, h.strips.below hb⟩
theorem OwnIn.laid {w : World} {r : Roads} {g c : Nat} (h : StripsIn w g r.strips) : OwnIn (w.alloc (.cells #[.int .i64 r.days, .int .i64 r.stages, .slice (some ⟨g, 0, none⟩) r.strips.length c] 24)) w.heap.size r g c :=
  have e : ∀ k, (w.alloc (.cells #[.int .i64 r.days, .int .i64 r.stages, .slice (some ⟨g, 0, none⟩) r.strips.length c] 24)).cell? ⟨w.heap.size, k, none⟩ = _ := fun k => World.cell?_alloc_at _ _ _ _ rfl
  ⟨(e 0).trans rfl, (e 1).trans rfl, (e 2).trans rfl, StripsAt.below (.inr ⟨g, 0, rfl, fun i hi => by rw [Nat.zero_add]; exact h.at_ i hi⟩) ((Below.refl _ _).alloc (Nat.le_refl _) _)⟩

end Go.Proofs.Ytjgkgnfhglhklaa
