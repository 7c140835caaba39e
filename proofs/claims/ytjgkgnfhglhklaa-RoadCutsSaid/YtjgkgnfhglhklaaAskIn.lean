/- One of the five questions, and the copied roads, cell by cell. -/
import Derived.Test.YtjgkgnfhglhklaaMade
import Derived.Test.YtjgkgnfhglhklaaSameR
import Derived.Test.YtjgkgnfhglhklaaApp
/- The five questions as the laws that compare the program with the reference hold them. -/
namespace Go.Proofs.Ytjgkgnfhglhklaa
set_option linter.unusedSimpArgs false
set_option linter.unusedVariables false
open Go.RowKit

theorem alloc_keep {w : World} {b o : Nat} {v : Value} {x : Obj} (h : w.cell? ⟨b, o, none⟩ = some v) : (w.alloc x).cell? ⟨b, o, none⟩ = some v := ((bcell ((Below.refl _ _).alloc (Nat.le_refl _) _)).1 _ _ (lt_of_cell h)).trans h
/-- The questions behind the seven slices of a struct. -/
structure AsksIn (w : World) (p gr gf g1 g2 g3 g4 g5 : Nat) (q : Nat → Ask) : Prop where
  k0 : w.cell? ⟨p, 0, none⟩ = some (.slice (some ⟨gr, 0, none⟩) 5 5)
  k1 : w.cell? ⟨p, 1, none⟩ = some (.slice (some ⟨gf, 0, none⟩) 5 5)
  k2 : w.cell? ⟨p, 2, none⟩ = some (.slice (some ⟨g1, 0, none⟩) 5 5)
  k3 : w.cell? ⟨p, 3, none⟩ = some (.slice (some ⟨g2, 0, none⟩) 5 5)
  k4 : w.cell? ⟨p, 4, none⟩ = some (.slice (some ⟨g3, 0, none⟩) 5 5)
  k5 : w.cell? ⟨p, 5, none⟩ = some (.slice (some ⟨g4, 0, none⟩) 5 5)
  k6 : w.cell? ⟨p, 6, none⟩ = some (.slice (some ⟨g5, 0, none⟩) 5 5)
  ask : AskedAt w gr gf g1 g2 g3 g4 g5 q
theorem AsksIn.below {w w' : World} {p gr gf g1 g2 g3 g4 g5 : Nat} {q : Nat → Ask} (h : AsksIn w p gr gf g1 g2 g3 g4 g5 q) (hb : Below w.heap.size w w') : AsksIn w' p gr gf g1 g2 g3 g4 g5 q :=
  have k : ∀ {b o : Nat} {v : Value}, w.cell? ⟨b, o, none⟩ = some v → w'.cell? ⟨b, o, none⟩ = some v := fun e => ((bcell hb).1 _ _ (lt_of_cell e)).trans e
  ⟨k h.k0, k h.k1, k h.k2, k h.k3, k h.k4, k h.k5, k h.k6, h.ask.below hb⟩
theorem AsksIn.laid {w : World} {gr gf g1 g2 g3 g4 g5 : Nat} {q : Nat → Ask} (h : AskedAt w gr gf g1 g2 g3 g4 g5 q) :
    AsksIn (w.alloc (.cells #[.slice (some ⟨gr, 0, none⟩) 5 5, .slice (some ⟨gf, 0, none⟩) 5 5, .slice (some ⟨g1, 0, none⟩) 5 5, .slice (some ⟨g2, 0, none⟩) 5 5, .slice (some ⟨g3, 0, none⟩) 5 5, .slice (some ⟨g4, 0, none⟩) 5 5, .slice (some ⟨g5, 0, none⟩) 5 5] 32)) w.heap.size gr gf g1 g2 g3 g4 g5 q :=
  have e : ∀ (k : Nat), (w.alloc (.cells #[.slice (some ⟨gr, 0, none⟩) 5 5, .slice (some ⟨gf, 0, none⟩) 5 5, .slice (some ⟨g1, 0, none⟩) 5 5, .slice (some ⟨g2, 0, none⟩) 5 5, .slice (some ⟨g3, 0, none⟩) 5 5, .slice (some ⟨g4, 0, none⟩) 5 5, .slice (some ⟨g5, 0, none⟩) 5 5] 32)).cell? ⟨w.heap.size, k, none⟩ = _ := fun k => World.cell?_alloc_at _ _ _ _ rfl
  ⟨(e 0).trans rfl, (e 1).trans rfl, (e 2).trans rfl, (e 3).trans rfl, (e 4).trans rfl, (e 5).trans rfl, (e 6).trans rfl, h.below ((Below.refl _ _).alloc (Nat.le_refl _) _)⟩

/-- A block of asks that is still zero. -/
theorem zeros {w : World} {g : Nat} (h : w.heap[g]? = some (.cells #[.slice none 0 0, .slice none 0 0, .slice none 0 0, .slice none 0 0, .slice none 0 0, .slice none 0 0, .slice none 0 0] 32 (0, 0))) :
    (w.cell? ⟨g, 0, none⟩ = some (.slice none 0 0) ∧ w.cell? ⟨g, 1, none⟩ = some (.slice none 0 0) ∧ w.cell? ⟨g, 2, none⟩ = some (.slice none 0 0) ∧ w.cell? ⟨g, 3, none⟩ = some (.slice none 0 0) ∧ w.cell? ⟨g, 4, none⟩ = some (.slice none 0 0) ∧ w.cell? ⟨g, 5, none⟩ = some (.slice none 0 0) ∧ w.cell? ⟨g, 6, none⟩ = some (.slice none 0 0)) ∧ w.frozen? ⟨g, 0, none⟩ = false ∧ w.frozen? ⟨g, 1, none⟩ = false ∧ w.frozen? ⟨g, 2, none⟩ = false ∧ w.frozen? ⟨g, 3, none⟩ = false ∧ w.frozen? ⟨g, 4, none⟩ = false ∧ w.frozen? ⟨g, 5, none⟩ = false ∧ w.frozen? ⟨g, 6, none⟩ = false := by
  refine ⟨⟨?_, ?_, ?_, ?_, ?_, ?_, ?_⟩, ?_, ?_, ?_, ?_, ?_, ?_, ?_⟩ <;> simp [World.cell?, World.frozen?, h]
theorem AsksIn.stored {w0 we w2 : World} {gZ gr gf g1 g2 g3 g4 g5 : Nat} {q : Nat → Ask} (hk : ∀ S : World, (∀ k, (k < w0.heap.size ∨ we.heap.size ≤ k) → k < w2.heap.size → S.heap[k]? = w2.heap[k]?) → AskedAt S gr gf g1 g2 g3 g4 g5 q)
    (h1 : w0.heap.size ≤ gZ) (h2 : gZ < we.heap.size) (hz : w2.heap[gZ]? = some (.cells #[.slice none 0 0, .slice none 0 0, .slice none 0 0, .slice none 0 0, .slice none 0 0, .slice none 0 0, .slice none 0 0] 32 (0, 0))) (hb : Below w0.heap.size w0 w2) :
    AsksIn (((((((w2.setCell ⟨gZ, 0, none⟩ (.slice (some ⟨gr, 0, none⟩) 5 5)).setCell ⟨gZ, 1, none⟩ (.slice (some ⟨gf, 0, none⟩) 5 5)).setCell ⟨gZ, 2, none⟩ (.slice (some ⟨g1, 0, none⟩) 5 5)).setCell ⟨gZ, 3, none⟩ (.slice (some ⟨g2, 0, none⟩) 5 5)).setCell ⟨gZ, 4, none⟩ (.slice (some ⟨g3, 0, none⟩) 5 5)).setCell ⟨gZ, 5, none⟩ (.slice (some ⟨g4, 0, none⟩) 5 5)).setCell ⟨gZ, 6, none⟩ (.slice (some ⟨g5, 0, none⟩) 5 5)) gZ gr gf g1 g2 g3 g4 g5 q ∧ Below w0.heap.size w0 (((((((w2.setCell ⟨gZ, 0, none⟩ (.slice (some ⟨gr, 0, none⟩) 5 5)).setCell ⟨gZ, 1, none⟩ (.slice (some ⟨gf, 0, none⟩) 5 5)).setCell ⟨gZ, 2, none⟩ (.slice (some ⟨g1, 0, none⟩) 5 5)).setCell ⟨gZ, 3, none⟩ (.slice (some ⟨g2, 0, none⟩) 5 5)).setCell ⟨gZ, 4, none⟩ (.slice (some ⟨g3, 0, none⟩) 5 5)).setCell ⟨gZ, 5, none⟩ (.slice (some ⟨g4, 0, none⟩) 5 5)).setCell ⟨gZ, 6, none⟩ (.slice (some ⟨g5, 0, none⟩) 5 5)) := by
  obtain ⟨⟨c0, c1, c2, c3, c4, c5, c6⟩, _⟩ := zeros hz
  obtain ⟨k0, k1, k2, k3, k4, k5, k6⟩ := seven (W := w2) (g := gZ) (u := .slice none 0 0) (v0 := .slice (some ⟨gr, 0, none⟩) 5 5) (v1 := .slice (some ⟨gf, 0, none⟩) 5 5) (v2 := .slice (some ⟨g1, 0, none⟩) 5 5) (v3 := .slice (some ⟨g2, 0, none⟩) 5 5) (v4 := .slice (some ⟨g3, 0, none⟩) 5 5) (v5 := .slice (some ⟨g4, 0, none⟩) 5 5) (v6 := .slice (some ⟨g5, 0, none⟩) 5 5) (fun i0 hi0 => by
    obtain rfl | rfl | rfl | rfl | rfl | rfl | rfl : i0 = 0 ∨ i0 = 1 ∨ i0 = 2 ∨ i0 = 3 ∨ i0 = 4 ∨ i0 = 5 ∨ i0 = 6 := by omega
    · exact c0
    · exact c1
    · exact c2
    · exact c3
    · exact c4
    · exact c5
    · exact c6)
  refine ⟨⟨k0, k1, k2, k3, k4, k5, k6, hk _ fun k0 h _ => ?_⟩, (((((((hb).setCell (p := ⟨gZ, 0, none⟩) h1 _).setCell (p := ⟨gZ, 1, none⟩) h1 _).setCell (p := ⟨gZ, 2, none⟩) h1 _).setCell (p := ⟨gZ, 3, none⟩) h1 _).setCell (p := ⟨gZ, 4, none⟩) h1 _).setCell (p := ⟨gZ, 5, none⟩) h1 _).setCell (p := ⟨gZ, 6, none⟩) h1 _⟩
  have hne : k0 ≠ gZ := by omega
  rw [Below.heap_setCell _ ⟨gZ, 6, none⟩ _ k0 hne]; rw [Below.heap_setCell _ ⟨gZ, 5, none⟩ _ k0 hne]; rw [Below.heap_setCell _ ⟨gZ, 4, none⟩ _ k0 hne]; rw [Below.heap_setCell _ ⟨gZ, 3, none⟩ _ k0 hne]; rw [Below.heap_setCell _ ⟨gZ, 2, none⟩ _ k0 hne]; rw [Below.heap_setCell _ ⟨gZ, 1, none⟩ _ k0 hne]; rw [Below.heap_setCell _ ⟨gZ, 0, none⟩ _ k0 hne]

theorem set7_keep {w2 : World} {gZ b o : Nat} {v : Value} (hne : b ≠ gZ) (gr gf g1 g2 g3 g4 g5 : Nat) (h : w2.cell? ⟨b, o, none⟩ = some v) : (((((((w2.setCell ⟨gZ, 0, none⟩ (.slice (some ⟨gr, 0, none⟩) 5 5)).setCell ⟨gZ, 1, none⟩ (.slice (some ⟨gf, 0, none⟩) 5 5)).setCell ⟨gZ, 2, none⟩ (.slice (some ⟨g1, 0, none⟩) 5 5)).setCell ⟨gZ, 3, none⟩ (.slice (some ⟨g2, 0, none⟩) 5 5)).setCell ⟨gZ, 4, none⟩ (.slice (some ⟨g3, 0, none⟩) 5 5)).setCell ⟨gZ, 5, none⟩ (.slice (some ⟨g4, 0, none⟩) 5 5)).setCell ⟨gZ, 6, none⟩ (.slice (some ⟨g5, 0, none⟩) 5 5)).cell? ⟨b, o, none⟩ = some v := by
  rw [World.cell?_setCell_other _ _ _ _ (by intro e; injection e with e1; exact hne e1.symm)]; rw [World.cell?_setCell_other _ _ _ _ (by intro e; injection e with e1; exact hne e1.symm)]; rw [World.cell?_setCell_other _ _ _ _ (by intro e; injection e with e1; exact hne e1.symm)]; rw [World.cell?_setCell_other _ _ _ _ (by intro e; injection e with e1; exact hne e1.symm)]; rw [World.cell?_setCell_other _ _ _ _ (by intro e; injection e with e1; exact hne e1.symm)]; rw [World.cell?_setCell_other _ _ _ _ (by intro e; injection e with e1; exact hne e1.symm)]; rw [World.cell?_setCell_other _ _ _ _ (by intro e; injection e with e1; exact hne e1.symm)]
  exact h
/-- What Late and Stay return. -/
def lateV (r : Roads) (f : Flock) (fr tt by' : Int) : Int × Int :=
  if readyErr r f [fr, r.stages, tt, r.stages, by', r.days] = 0 then (if lateD r f fr.toNat tt.toNat by' < 0 then (0, 11) else (lateD r f fr.toNat tt.toNat by', 0))
  else (0, readyErr r f [fr, r.stages, tt, r.stages, by', r.days])
theorem LatePost.val {w w' : World} {r : Roads} {f : Flock} {fr tt by' : Int} {e : Ending} (h : LatePost w r f fr tt by' e w') : e = .returned (.tuple #[.int .i64 (lateV r f fr tt by').1, .int .i64 (lateV r f fr tt by').2]) ∧ Below w.heap.size w w' := by
  obtain ⟨hb, ⟨h1, h2, rfl⟩ | ⟨h1, h2, rfl⟩ | ⟨h1, rfl⟩⟩ := h
  · exact ⟨by rw [lateV, if_pos h1, if_pos h2], hb⟩
  · exact ⟨by rw [lateV, if_pos h1, if_neg (by omega)], hb⟩
  · exact ⟨by rw [lateV, if_neg h1], hb⟩
def stayV (r : Roads) (f : Flock) (home tt day by' : Int) : Int × Int :=
  if readyErr r f [home, r.stages, tt, r.stages, day, r.days, by', r.days] = 0 then (if stayA r f home.toNat tt.toNat day < 0 ∨ lateD r f tt.toNat home.toNat by' ≤ stayA r f home.toNat tt.toNat day then (0, 11) else (lateD r f tt.toNat home.toNat by' - stayA r f home.toNat tt.toNat day, 0))
  else (0, readyErr r f [home, r.stages, tt, r.stages, day, r.days, by', r.days])
theorem StayPost.val {w w' : World} {r : Roads} {f : Flock} {home tt day by' : Int} {e : Ending} (h : StayPost w r f home tt day by' e w') : e = .returned (.tuple #[.int .i64 (stayV r f home tt day by').1, .int .i64 (stayV r f home tt day by').2]) ∧ Below w.heap.size w w' := by
  obtain ⟨hb, ⟨h1, h2, rfl⟩ | ⟨h1, h2, rfl⟩ | ⟨h1, rfl⟩⟩ := h
  · exact ⟨by rw [stayV, if_pos h1, if_pos h2], hb⟩
  · exact ⟨by rw [stayV, if_pos h1, if_neg h2], hb⟩
  · exact ⟨by rw [stayV, if_neg h1], hb⟩
end Go.Proofs.Ytjgkgnfhglhklaa
namespace Go.Proofs.Ytjgkgnfhglhklaa
set_option linter.unusedSimpArgs false
set_option linter.unusedVariables false
open Go.RowKit

/-- Question i, cell by cell. -/
structure AskIn (w : World) (p gr gf g1 g2 g3 g4 g5 i : Nat) (r : Roads) (f : Flock) (fr tt z b s : Int) (sa : Option Addr) (sc : Nat) : Prop where
  k0 : w.cell? ⟨p, 0, none⟩ = some (.slice (some ⟨gr, 0, none⟩) 5 5)
  k1 : w.cell? ⟨p, 1, none⟩ = some (.slice (some ⟨gf, 0, none⟩) 5 5)
  k2 : w.cell? ⟨p, 2, none⟩ = some (.slice (some ⟨g1, 0, none⟩) 5 5)
  k3 : w.cell? ⟨p, 3, none⟩ = some (.slice (some ⟨g2, 0, none⟩) 5 5)
  k4 : w.cell? ⟨p, 4, none⟩ = some (.slice (some ⟨g3, 0, none⟩) 5 5)
  k5 : w.cell? ⟨p, 5, none⟩ = some (.slice (some ⟨g4, 0, none⟩) 5 5)
  k6 : w.cell? ⟨p, 6, none⟩ = some (.slice (some ⟨g5, 0, none⟩) 5 5)
  r0 : w.cell? ⟨gr, i * 3, none⟩ = some (.int .i64 r.days)
  r1 : w.cell? ⟨gr, i * 3 + 1, none⟩ = some (.int .i64 r.stages)
  r2 : w.cell? ⟨gr, i * 3 + 2, none⟩ = some (.slice sa r.strips.length sc)
  f0 : w.cell? ⟨gf, i * 2, none⟩ = some (.int .i64 f.heads)
  f1 : w.cell? ⟨gf, i * 2 + 1, none⟩ = some (.int .i64 f.pace)
  a1 : w.cell? ⟨g1, i, none⟩ = some (.int .i64 fr)
  a2 : w.cell? ⟨g2, i, none⟩ = some (.int .i64 tt)
  a3 : w.cell? ⟨g3, i, none⟩ = some (.int .i64 z)
  a4 : w.cell? ⟨g4, i, none⟩ = some (.int .i64 b)
  a5 : w.cell? ⟨g5, i, none⟩ = some (.int .i64 s)
  strips : StripsAt w sa r.strips
  len : r.strips.length ≤ 20
  cap : r.strips.length ≤ sc
theorem AsksIn.at {w : World} {p gr gf g1 g2 g3 g4 g5 : Nat} {q : Nat → Ask} (h : AsksIn w p gr gf g1 g2 g3 g4 g5 q) {i : Nat} (hi : i < 5) : ∃ r f fr tt z b s sa sc, AskIn w p gr gf g1 g2 g3 g4 g5 i r f fr tt z b s sa sc :=
  ⟨(q i).r, (q i).f, (q i).fr, (q i).tt, (q i).z, (q i).b, (q i).s, (q i).sa, (q i).sc, h.k0, h.k1, h.k2, h.k3, h.k4, h.k5, h.k6, h.ask.r0 i hi, h.ask.r1 i hi, h.ask.r2 i hi, h.ask.f0 i hi, h.ask.f1 i hi, h.ask.a1 i hi, h.ask.a2 i hi, h.ask.a3 i hi, h.ask.a4 i hi, h.ask.a5 i hi, h.ask.strips i hi, h.ask.len i hi, h.ask.cap i hi⟩
theorem AskIn.below {w w' : World} {p gr gf g1 g2 g3 g4 g5 i : Nat} {r : Roads} {f : Flock} {fr tt z b s : Int} {sa : Option Addr} {sc : Nat} (h : AskIn w p gr gf g1 g2 g3 g4 g5 i r f fr tt z b s sa sc) (hb : Below w.heap.size w w') : AskIn w' p gr gf g1 g2 g3 g4 g5 i r f fr tt z b s sa sc :=
  have k : ∀ {b o : Nat} {v : Value}, w.cell? ⟨b, o, none⟩ = some v → w'.cell? ⟨b, o, none⟩ = some v := fun e => ((bcell hb).1 _ _ (lt_of_cell e)).trans e
  ⟨k h.k0, k h.k1, k h.k2, k h.k3, k h.k4, k h.k5, k h.k6, k h.r0, k h.r1, k h.r2, k h.f0, k h.f1, k h.a1, k h.a2, k h.a3, k h.a4, k h.a5, h.strips.below hb, h.len, h.cap⟩
/-- Roads of the call's own in a block. -/
structure OwnIn (w : World) (po : Nat) (r : Roads) (g c : Nat) : Prop where
  o0 : w.cell? ⟨po, 0, none⟩ = some (.int .i64 r.days)
  o1 : w.cell? ⟨po, 1, none⟩ = some (.int .i64 r.stages)
  o2 : w.cell? ⟨po, 2, none⟩ = some (.slice (some ⟨g, 0, none⟩) r.strips.length c)
  strips : StripsAt w (some ⟨g, 0, none⟩) r.strips
theorem OwnIn.below {w w' : World} {po : Nat} {r : Roads} {g c : Nat} (h : OwnIn w po r g c) (hb : Below w.heap.size w w') : OwnIn w' po r g c :=
  have k : ∀ {b o : Nat} {v : Value}, w.cell? ⟨b, o, none⟩ = some v → w'.cell? ⟨b, o, none⟩ = some v := fun e => ((bcell hb).1 _ _ (lt_of_cell e)).trans e
  ⟨k h.o0, k h.o1, k h.o2, h.strips.below hb⟩
theorem OwnIn.laid {w : World} {r : Roads} {g c : Nat} (h : StripsIn w g r.strips) : OwnIn (w.alloc (.cells #[.int .i64 r.days, .int .i64 r.stages, .slice (some ⟨g, 0, none⟩) r.strips.length c] 24)) w.heap.size r g c :=
  have e : ∀ k, (w.alloc (.cells #[.int .i64 r.days, .int .i64 r.stages, .slice (some ⟨g, 0, none⟩) r.strips.length c] 24)).cell? ⟨w.heap.size, k, none⟩ = _ := fun k => World.cell?_alloc_at _ _ _ _ rfl
  ⟨(e 0).trans rfl, (e 1).trans rfl, (e 2).trans rfl, StripsAt.below (.inr ⟨g, 0, rfl, fun i hi => by rw [Nat.zero_add]; exact h.at_ i hi⟩) ((Below.refl _ _).alloc (Nat.le_refl _) _)⟩

end Go.Proofs.Ytjgkgnfhglhklaa
