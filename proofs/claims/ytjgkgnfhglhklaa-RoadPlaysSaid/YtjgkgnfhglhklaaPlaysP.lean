/- The five questions beside a hand that is still drawn from. -/
import Derived.Test.YtjgkgnfhglhklaaAskIn
import Derived.Test.YtjgkgnfhglhklaaPlanOf
import Derived.Test.YtjgkgnfhglhklaaRawS
import Derived.Test.YtjgkgnfhglhklaaPlayP
namespace Go.Proofs.Ytjgkgnfhglhklaa
set_option linter.unusedSimpArgs false
set_option linter.unusedVariables false
open Go.RowKit

/-- The questions, whatever becomes of block hb. -/
def KAsk (w : World) (hb p gr gf g1 g2 g3 g4 g5 : Nat) (q : Nat → Ask) : Prop := ∀ S : World, Ext hb w S → AsksIn S p gr gf g1 g2 g3 g4 g5 q
theorem KAsk.now {w : World} {hb p gr gf g1 g2 g3 g4 g5 : Nat} {q : Nat → Ask} (h : KAsk w hb p gr gf g1 g2 g3 g4 g5 q) : AsksIn w p gr gf g1 g2 g3 g4 g5 q := h w (Ext.refl _ _)
theorem KAsk.ext {w w' : World} {hb p gr gf g1 g2 g3 g4 g5 : Nat} {q : Nat → Ask} (h : KAsk w hb p gr gf g1 g2 g3 g4 g5 q) (e : Ext hb w w') : KAsk w' hb p gr gf g1 g2 g3 g4 g5 q := fun S h' => h S (e.trans h')
theorem KAsk.below {w w' : World} {hb p gr gf g1 g2 g3 g4 g5 : Nat} {q : Nat → Ask} (h : KAsk w hb p gr gf g1 g2 g3 g4 g5 q) (hb' : Below w.heap.size w w') : KAsk w' hb p gr gf g1 g2 g3 g4 g5 q := h.ext (Ext.of_below hb')
theorem KAsk.of {w0 we w2 wst : World} {hb p gr gf g1 g2 g3 g4 g5 : Nat} {q : Nat → Ask} (hk : ∀ S : World, (∀ k, (k < w0.heap.size ∨ we.heap.size ≤ k) → k < w2.heap.size → S.heap[k]? = w2.heap[k]?) → AskedAt S gr gf g1 g2 g3 g4 g5 q)
    (h : AsksIn wst p gr gf g1 g2 g3 g4 g5 q) (hag : ∀ k, (k < w0.heap.size ∨ we.heap.size ≤ k) → k < w2.heap.size → wst.heap[k]? = w2.heap[k]?) (hsz : w2.heap.size ≤ wst.heap.size) (h1 : w0.heap.size ≤ hb) (h2 : hb < we.heap.size) (hp : p ≠ hb) : KAsk wst hb p gr gf g1 g2 g3 g4 g5 q := by
  intro S hS
  have hplt : p < wst.heap.size := lt_of_cell h.k0
  have k : ∀ {o : Nat} {v : Value}, wst.cell? ⟨p, o, none⟩ = some v → S.cell? ⟨p, o, none⟩ = some v := fun e => by rw [World.cell?_of_block (w := wst) (hS.block p hplt hp)]; exact e
  exact ⟨k h.k0, k h.k1, k h.k2, k h.k3, k h.k4, k h.k5, k h.k6, hk S fun j hj hj2 => (hS.block j (by omega) (by omega)).trans (hag j hj hj2)⟩
theorem KAsk.laid {w0 we w2 : World} {hb gr gf g1 g2 g3 g4 g5 : Nat} {q : Nat → Ask} (hk : ∀ S : World, (∀ k, (k < w0.heap.size ∨ we.heap.size ≤ k) → k < w2.heap.size → S.heap[k]? = w2.heap[k]?) → AskedAt S gr gf g1 g2 g3 g4 g5 q)
    (h1 : w0.heap.size ≤ hb) (h2 : hb < we.heap.size) (h3 : hb < w2.heap.size) :
    KAsk (w2.alloc (.cells #[.slice (some ⟨gr, 0, none⟩) 5 5, .slice (some ⟨gf, 0, none⟩) 5 5, .slice (some ⟨g1, 0, none⟩) 5 5, .slice (some ⟨g2, 0, none⟩) 5 5, .slice (some ⟨g3, 0, none⟩) 5 5, .slice (some ⟨g4, 0, none⟩) 5 5, .slice (some ⟨g5, 0, none⟩) 5 5] 32)) hb w2.heap.size gr gf g1 g2 g3 g4 g5 q :=
  KAsk.of hk (AsksIn.laid (hk w2 fun _ _ _ => rfl)) (fun k _ hk2 => heap_alloc_old _ _ hk2) (by simp) h1 h2 (by omega)
theorem KAsk.stored {w0 we w2 : World} {hb gZ gr gf g1 g2 g3 g4 g5 : Nat} {q : Nat → Ask} (hk : ∀ S : World, (∀ k, (k < w0.heap.size ∨ we.heap.size ≤ k) → k < w2.heap.size → S.heap[k]? = w2.heap[k]?) → AskedAt S gr gf g1 g2 g3 g4 g5 q)
    (h1 : w0.heap.size ≤ gZ) (h2 : gZ < we.heap.size) (hz : w2.heap[gZ]? = some (.cells #[.slice none 0 0, .slice none 0 0, .slice none 0 0, .slice none 0 0, .slice none 0 0, .slice none 0 0, .slice none 0 0] 32 (0, 0))) (hb0 : Below w0.heap.size w0 w2)
    (h3 : w0.heap.size ≤ hb) (h4 : hb < we.heap.size) (hne : gZ ≠ hb) :
    KAsk (((((((w2.setCell ⟨gZ, 0, none⟩ (.slice (some ⟨gr, 0, none⟩) 5 5)).setCell ⟨gZ, 1, none⟩ (.slice (some ⟨gf, 0, none⟩) 5 5)).setCell ⟨gZ, 2, none⟩ (.slice (some ⟨g1, 0, none⟩) 5 5)).setCell ⟨gZ, 3, none⟩ (.slice (some ⟨g2, 0, none⟩) 5 5)).setCell ⟨gZ, 4, none⟩ (.slice (some ⟨g3, 0, none⟩) 5 5)).setCell ⟨gZ, 5, none⟩ (.slice (some ⟨g4, 0, none⟩) 5 5)).setCell ⟨gZ, 6, none⟩ (.slice (some ⟨g5, 0, none⟩) 5 5)) hb gZ gr gf g1 g2 g3 g4 g5 q :=
  KAsk.of hk (AsksIn.stored hk h1 h2 hz hb0).1 (fun k0 h _ => by
    have hne : k0 ≠ gZ := by omega
    rw [Below.heap_setCell _ ⟨gZ, 6, none⟩ _ k0 hne]; rw [Below.heap_setCell _ ⟨gZ, 5, none⟩ _ k0 hne]; rw [Below.heap_setCell _ ⟨gZ, 4, none⟩ _ k0 hne]; rw [Below.heap_setCell _ ⟨gZ, 3, none⟩ _ k0 hne]; rw [Below.heap_setCell _ ⟨gZ, 2, none⟩ _ k0 hne]; rw [Below.heap_setCell _ ⟨gZ, 1, none⟩ _ k0 hne]; rw [Below.heap_setCell _ ⟨gZ, 0, none⟩ _ k0 hne]) (by simp) h3 h4 hne
/-- Question i, whatever becomes of block hb. -/
theorem KAsk.at {w : World} {hb p gr gf g1 g2 g3 g4 g5 : Nat} {q : Nat → Ask} (h : KAsk w hb p gr gf g1 g2 g3 g4 g5 q) {i : Nat} (hi : i < 5) : ∃ r f fr tt z b s sa sc, ∀ S : World, Ext hb w S → AskIn S p gr gf g1 g2 g3 g4 g5 i r f fr tt z b s sa sc :=
  ⟨(q i).r, (q i).f, (q i).fr, (q i).tt, (q i).z, (q i).b, (q i).s, (q i).sa, (q i).sc, fun S hS => have h := h S hS; ⟨h.k0, h.k1, h.k2, h.k3, h.k4, h.k5, h.k6, h.ask.r0 i hi, h.ask.r1 i hi, h.ask.r2 i hi, h.ask.f0 i hi, h.ask.f1 i hi, h.ask.a1 i hi, h.ask.a2 i hi, h.ask.a3 i hi, h.ask.a4 i hi, h.ask.a5 i hi, h.ask.strips i hi, h.ask.len i hi, h.ask.cap i hi⟩⟩
theorem playV_len (r : Roads) (f : Flock) (fr : Int) (plan : List (Int × Int)) : (playV r f fr plan).1.length ≤ maxLen := by
  unfold playV maxLen
  split
  · rename_i h
    have h1 := (ready_zero h).1.d2
    split
    · simp; omega
    · simp
  · simp
/-- Only block m turned: other blocks read as they did. -/
theorem Ext.cellNe {m : Nat} {w w' : World} (h : Ext m w w') {b o : Nat} {v : Value} (hne : b ≠ m) (hc : w.cell? ⟨b, o, none⟩ = some v) : w'.cell? ⟨b, o, none⟩ = some v := by
  rw [World.cell?_of_block (w := w) (h.block b (lt_of_cell hc) hne)]; exact hc
theorem OwnIn.ext {w w' : World} {m po : Nat} {r : Roads} {g c : Nat} (h : OwnIn w po r g c) (e : Ext m w w') (h1 : po ≠ m) (h2 : g ≠ m) : OwnIn w' po r g c := by
  refine ⟨e.cellNe h1 h.o0, e.cellNe h1 h.o1, e.cellNe h1 h.o2, ?_⟩
  rcases h.strips with hs | ⟨sb, so, es, hs⟩
  · exact .inl hs
  · refine .inr ⟨sb, so, es, fun i hi => ?_⟩
    obtain rfl : g = sb := by simpa using congrArg (fun x : Option Addr => x.map (·.block)) es
    obtain ⟨s0, s1, s2, s3, s4, s5, s6⟩ := hs i hi
    exact ⟨e.cellNe h2 s0, e.cellNe h2 s1, e.cellNe h2 s2, e.cellNe h2 s3, e.cellNe h2 s4, e.cellNe h2 s5, e.cellNe h2 s6⟩
/-- A plan that lies below a bound, whatever becomes of a block above. -/
theorem StridesAt.keep {w0 w w' : World} {m : Nat} {a : Option Addr} {l : List (Int × Int)} (h : StridesAt w0 a l) (hb : Below w0.heap.size w0 w) (hm : w0.heap.size ≤ m) (e : Ext m w w') : StridesAt w' a l := h.below (e.below hb hm hb.size)
theorem HandAt.set7 {w2 : World} {hb B gZ : Nat} {a : Option Addr} {n c : Nat} (h : HandAt w2 hb B a n c) (hlt : hb < gZ) (gr gf g1 g2 g3 g4 g5 : Nat) :
    HandAt (((((((w2.setCell ⟨gZ, 0, none⟩ (.slice (some ⟨gr, 0, none⟩) 5 5)).setCell ⟨gZ, 1, none⟩ (.slice (some ⟨gf, 0, none⟩) 5 5)).setCell ⟨gZ, 2, none⟩ (.slice (some ⟨g1, 0, none⟩) 5 5)).setCell ⟨gZ, 3, none⟩ (.slice (some ⟨g2, 0, none⟩) 5 5)).setCell ⟨gZ, 4, none⟩ (.slice (some ⟨g3, 0, none⟩) 5 5)).setCell ⟨gZ, 5, none⟩ (.slice (some ⟨g4, 0, none⟩) 5 5)).setCell ⟨gZ, 6, none⟩ (.slice (some ⟨g5, 0, none⟩) 5 5)) hb B a n c :=
  h.keep fun k0 _ hk => by
    have hne : k0 ≠ gZ := by omega
    rw [Below.heap_setCell _ ⟨gZ, 6, none⟩ _ k0 hne]; rw [Below.heap_setCell _ ⟨gZ, 5, none⟩ _ k0 hne]; rw [Below.heap_setCell _ ⟨gZ, 4, none⟩ _ k0 hne]; rw [Below.heap_setCell _ ⟨gZ, 3, none⟩ _ k0 hne]; rw [Below.heap_setCell _ ⟨gZ, 2, none⟩ _ k0 hne]; rw [Below.heap_setCell _ ⟨gZ, 1, none⟩ _ k0 hne]; rw [Below.heap_setCell _ ⟨gZ, 0, none⟩ _ k0 hne]
theorem SameInts_eqP (w : World) (a b : Option Addr) (ca cb : Nat) (l : List Int) (hl : IntsAt w a l) (hm : IntsAt w b l) (hb : l.length ≤ maxLen) :
    Calls Try.prog 29 #[.slice a l.length ca, .slice b l.length cb] w fun e w' => e = .returned (.bool true) ∧ Below w.heap.size w w' :=
  (SameInts_any w a b ca cb l l hl hm hb hb).mono fun e w' h => by
    obtain ⟨rfl, n, rfl⟩ := h
    exact ⟨by simp, below_drewN (Below.refl _ _) n⟩
theorem SameStrides_eqP (w : World) (a b : Option Addr) (ca cb : Nat) (l : List (Int × Int)) (hl : StridesAt w a l) (hm : StridesAt w b l) (hb : l.length ≤ maxLen) :
    Calls Try.prog 30 #[.slice a l.length ca, .slice b l.length cb] w fun e w' => e = .returned (.bool true) ∧ Below w.heap.size w w' :=
  (SameStrides_any w a b ca cb l l hl hm hb hb).mono fun e w' h => by
    obtain ⟨rfl, n, rfl⟩ := h
    exact ⟨by simp, below_drewN (Below.refl _ _) n⟩
end Go.Proofs.Ytjgkgnfhglhklaa
