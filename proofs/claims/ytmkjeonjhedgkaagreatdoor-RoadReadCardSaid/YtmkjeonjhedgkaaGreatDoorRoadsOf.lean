/- The contract of RoadsOf. The contracts of NewHand and FlockOf. -/
import Derived.Test.YtmkjeonjhedgkaaGreatDoorHand
import Derived.Deep.AppendLies
import Derived.Deep.RegionLaw
namespace Go.Proofs.YtmkjeonjhedgkaaGreatDoor
set_option linter.unusedSimpArgs false
set_option linter.unusedVariables false
open Go.RowKit

theorem OwnStrips.keep {w w' : World} {B : Nat} {v : Value} {l : List Strip} (h : OwnStrips w B v l) (hk : ∀ g, v.ownBlock = some g → w'.heap[g]? = w.heap[g]?) : OwnStrips w' B v l := by
  obtain ⟨h1, h2⟩ := h
  refine ⟨h1, ?_⟩
  rcases h2 with h2 | ⟨g, cap, cur, hv, hg, hh, hr⟩
  · exact .inl h2
  · exact .inr ⟨g, cap, cur, hv, hg, (hk g (by rw [hv]; rfl)).trans hh, hr⟩
theorem OwnStrips.at_block {w : World} {B : Nat} {v : Value} {l : List Strip} (h : OwnStrips w B v l) {g : Nat} (hg : v.ownBlock = some g) : B ≤ g ∧ g < w.heap.size := by
  rcases h.2 with ⟨hv, _⟩ | ⟨g', cap, cur, hv, hb, hh, _⟩
  · rw [hv] at hg; simp [Value.ownBlock] at hg
  · rw [hv] at hg; simp [Value.ownBlock] at hg; subst hg
    exact ⟨hb, (Array.getElem?_eq_some_iff.1 hh).1⟩
theorem OwnStrips.lower {w : World} {B B' : Nat} {v : Value} {l : List Strip} (h : OwnStrips w B v l) (hB : B' ≤ B) : OwnStrips w B' v l := by
  obtain ⟨h1, h2⟩ := h
  refine ⟨h1, ?_⟩
  rcases h2 with h2 | ⟨g, cap, cur, hv, hg, hr⟩
  · exact .inl h2
  · exact .inr ⟨g, cap, cur, hv, Nat.le_trans hB hg, hr⟩

theorem OwnStrips.form {w : World} {B : Nat} {v : Value} {l : List Strip} (h : OwnStrips w B v l) : ∃ oa cap, v = .slice oa l.length cap := by
  rcases h.2 with ⟨hv, h0⟩ | ⟨g, cap, cur, hv, _⟩
  · exact ⟨none, 0, by rw [hv, h0]⟩
  · exact ⟨_, cap, hv⟩

/-- RoadsOf under way: the roads at block p, their strips l in v. -/
structure RS (w0 wx : World) (hb B p : Nat) (a : Option Addr) (n c : Nat) (D S : Int) (v : Value) (l : List Strip) : Prop where
  c0 : wx.cell? ⟨p, 0, none⟩ = some (.int .i64 D)
  c1 : wx.cell? ⟨p, 1, none⟩ = some (.int .i64 S)
  c2 : wx.cell? ⟨p, 2, none⟩ = some v
  free : wx.frozen? ⟨p, 2, none⟩ = false
  own : OwnStrips wx w0.heap.size v l
  nb : v.ownBlock ≠ some p
  hand : HandAt wx hb B a n c
  ext : Ext hb w0 wx
  new : w0.heap.size ≤ p
  old : hb < w0.heap.size
theorem RS.call {w0 wx w' : World} {hb B B' p : Nat} {a : Option Addr} {n c : Nat} {D S : Int} {v : Value} {l : List Strip} (h : RS w0 wx hb B p a n c D S v l) (hh : HandAt w' hb B' a n c) (hE : Ext hb wx w') : RS w0 w' hb B' p a n c D S v l := by
  have hl := lt_of_cell h.c0
  have hnew := h.new
  have hold := h.old
  have hne : p ≠ hb := by omega
  exact ⟨hE.cell_ne h.c0 hne, hE.cell_ne h.c1 hne, hE.cell_ne h.c2 hne, (hE.frozen_ne hl hne).trans h.free,
    h.own.keep fun g hg => hE.block g (h.own.at_block hg).2 (by have := (h.own.at_block hg).1; omega), h.nb, hh, h.ext.trans hE, h.new, h.old⟩
theorem RS.drew {w0 wx : World} {hb B p : Nat} {a : Option Addr} {n c : Nat} {D S : Int} {v : Value} {l : List Strip} (h : RS w0 wx hb B p a n c D S v l) : RS w0 wx.drew hb B p a n c D S v l :=
  h.call (h.hand.below (Below.refl _ _).drew) (Ext.of_below (Below.refl _ _).drew)
theorem RS.deal {w0 wx : World} {hb B p : Nat} {a : Option Addr} {n c : Nat} {D S : Int} {v : Value} {l : List Strip} (h : RS w0 wx hb B p a n c D S v l) (hB : B ≤ 900000) (hS1 : 2 ≤ S) (hS2 : S ≤ 6) (hD1 : 1 ≤ D) (hD2 : D ≤ 10) :
    Calls Tryz.prog 27 #[.pointer (some ⟨hb, 0, none⟩), .int .i64 S, .int .i64 D] wx fun e w' => ∃ s : Strip, StripOK D S s ∧ e = .returned (.agg #[.int .i64 s.A, .int .i64 s.B, .int .i64 s.L, .int .i64 s.W, .int .i64 s.K, .int .i64 s.X, .int .i64 s.Y]) ∧ RS w0 w' hb (B + 20) p a n c D S v l := by
  refine (StripOf_any wx hb B a n c h.hand hB S D hS1 hS2 hD1 hD2).mono ?_
  rintro e w' ⟨_, ⟨s, hs, rfl⟩, rfl, hh, hE⟩
  exact ⟨s, hs, rfl, h.call hh hE⟩

theorem RS.laid {w0 wx : World} {hb B p : Nat} {a : Option Addr} {n c : Nat} {D S : Int} {v : Value} {l : List Strip} (h : RS w0 wx hb B p a n c D S v l) (o : Obj) : (wx.alloc o).cell? ⟨p, 2, none⟩ = some v :=
  (World.cell?_of_block ((Below.alloc (Below.refl wx.heap.size wx) (Nat.le_refl _) o).block p (lt_of_cell h.c0))).trans h.c2
/-- append(r.Strips, s) at a step of a region that draws: the state behind it. -/
theorem RS.push {w0 w7 w8 : World} {hb B p : Nat} {a : Option Addr} {n c : Nat} {D S : Int} {v : Value} {l : List Strip} (h : RS w0 w7 hb B p a n c D S v l) (s : Strip) {o : Obj} {g cap : Nat}
    (hown : OwnStrips w8 w0.heap.size (.slice (some ⟨g, 0, none⟩) (l.length + 1) cap) (l ++ [s])) (hgr : (w7.alloc o).grownBy w8 v.ownBlock) (hat : v.ownBlock = some g ∨ g = w7.heap.size + 1) :
    w8.cell? ⟨p, 2, none⟩ = some v ∧ w8.frozen? ⟨p, 2, none⟩ = false ∧ RS w0 (w8.setCell ⟨p, 2, none⟩ (.slice (some ⟨g, 0, none⟩) (l.length + 1) cap)) hb B p a n c D S (.slice (some ⟨g, 0, none⟩) (l.length + 1) cap) (l ++ [s]) := by
  have hl := lt_of_cell h.c0
  have hnew := h.new
  have hold := h.old
  have hsz := h.ext.size
  have hb0 : Below w7.heap.size w7 (w7.alloc o) := Below.alloc (Below.refl _ _) (Nat.le_refl _) _
  have hkeep : ∀ b, b < w7.heap.size → v.ownBlock ≠ some b → w8.heap[b]? = w7.heap[b]? := fun b hb hv => by
    rw [hgr.block b (by simp; omega) (fun e => hv e.symm), hb0.block b hb]
  have hp := hkeep p hl h.nb
  have hgp : g ≠ p := by
    intro e; subst e
    rcases hat with hat | hat
    · exact h.nb hat
    · omega
  have hB8 : Below w0.heap.size w7 w8 := (hb0.mono (by omega)).trans (Below.grown (Below.refl _ _) hgr (by simp; omega) fun k hk => (h.own.at_block hk).1)
  have hB9 : Below w0.heap.size w7 (w8.setCell ⟨p, 2, none⟩ (.slice (some ⟨g, 0, none⟩) (l.length + 1) cap)) := hB8.setCell (p := ⟨p, 2, none⟩) hnew _
  have d2 := (World.cell?_of_block hp).trans h.c2
  refine ⟨d2, (World.frozen?_of_block hp).trans h.free, ⟨?_, ?_, World.cell?_setCell_same _ _ _ d2, ?_, ?_, ?_, ?_, ⟨hB9.os.trans h.ext.os, hB9.tape.trans h.ext.tape, hB9.output.trans h.ext.output, Nat.le_trans h.ext.size hB9.size, fun b h1 h2 => (hB9.block b h1).trans (h.ext.block b h1 h2)⟩, hnew, hold⟩⟩
  · rw [World.cell?_setCell_other _ _ _ _ (by simp)]; exact (World.cell?_of_block hp).trans h.c0
  · rw [World.cell?_setCell_other _ _ _ _ (by simp)]; exact (World.cell?_of_block hp).trans h.c1
  · rw [World.frozen?_setCell]; exact (World.frozen?_of_block hp).trans h.free
  · refine hown.keep fun g' hg' => ?_
    simp [Value.ownBlock] at hg'; subst hg'
    exact Below.heap_setCell _ ⟨p, 2, none⟩ _ _ hgp
  · simp [Value.ownBlock]; exact hgp
  · exact h.hand.keep fun b h1 h2 => hB9.block b (by omega)

theorem step_append_strip {ops : Array Oper} {o : Oper} {a : Act} {K : Act → World → Prop} {Q : Exit → Act → World → Prop} {E : Prop} {w0 w7 : World} {hb B p : Nat} {ha : Option Addr} {n c : Nat} {D S : Int} {v : Value} {l : List Strip} (h : RS w0 w7 hb B p ha n c D S v l) (st : Strip) (hlen : l.length ≤ 1000)
    (hgd : o.guard = none) (s x : Operand) (ho : o.op = .call { callee := .builtin .append, args := #[s, x], argTypes := #[22, 22] })
    (hs : a.eval s = v) (hx : a.eval x = .slice (some ⟨w7.heap.size, 0, none⟩) 1 1)
    (hK : ∀ g cap w8, w8.cell? ⟨p, 2, none⟩ = some v → w8.frozen? ⟨p, 2, none⟩ = false → RS w0 (w8.setCell ⟨p, 2, none⟩ (.slice (some ⟨g, 0, none⟩) (l.length + 1) cap)) hb B p ha n c D S (.slice (some ⟨g, 0, none⟩) (l.length + 1) cap) (l ++ [st]) → K (a.put o.dst (.slice (some ⟨g, 0, none⟩) (l.length + 1) cap)) w8) :
    if Region.wanted o (yielded ops a.tmps) = true then Oper.wp Tryz.prog o a (w7.alloc (.cells #[.int .i64 st.A, .int .i64 st.B, .int .i64 st.L, .int .i64 st.W, .int .i64 st.K, .int .i64 st.X, .int .i64 st.Y] 63)) K Q else E := by
  obtain ⟨i0, hi, hz0, hz1, hz2⟩ := info_parts (P := Tryz.prog) (e := 63) (z := .agg #[.int .i64 0, .int .i64 0, .int .i64 0, .int .i64 0, .int .i64 0, .int .i64 0, .int .i64 0]) (size := 7) (bytes := 56) (by kernel_rfl)
  have hl := lt_of_cell h.c0
  have hnew := h.new
  have hrow : OwnStrips (w7.alloc (.cells #[.int .i64 st.A, .int .i64 st.B, .int .i64 st.L, .int .i64 st.W, .int .i64 st.K, .int .i64 st.X, .int .i64 st.Y] 63)) w0.heap.size v l :=
    h.own.keep fun g hg => (Below.alloc (Below.refl w7.heap.size w7) (Nat.le_refl _) _).block g (h.own.at_block hg).2
  refine step_append_lies (w7.alloc _) hgd s x 22 ho w0.heap.size 63 i0 (.agg #[.int .i64 0, .int .i64 0, .int .i64 0, .int .i64 0, .int .i64 0, .int .i64 0, .int .i64 0]) 7 56 Tryz.underlying22 hi hz0 hz1 hz2 (by simp [Value.cells]) (by decide) v l.length (l.flatMap Strip.cells) hs hrow
    ⟨w7.heap.size, 0, none⟩ 1 1 st.cells hx rfl ?_ ?_ (by omega) ?_ ?_ ?_ (w7.heap.size + 1) (by simp) ?_
  · intro j u hj
    have hjl : j < 7 := by have := (List.getElem?_eq_some_iff.1 hj).1; simpa [Strip.cells] using this
    have hadd : ∀ b o j : Nat, (⟨b, o, none⟩ : Addr).add j = ⟨b, o + j, none⟩ := fun b o j => by simp [Addr.add]
    rw [hadd, Nat.zero_add]
    rw [World.cell?_alloc_at _ _ _ _ rfl]
    obtain rfl | rfl | rfl | rfl | rfl | rfl | rfl : j = 0 ∨ j = 1 ∨ j = 2 ∨ j = 3 ∨ j = 4 ∨ j = 5 ∨ j = 6 := by omega
    all_goals simpa [Strip.cells] using hj
  · intro u hu
    simp only [Strip.cells, List.mem_cons, List.not_mem_nil, or_false] at hu
    rcases hu with rfl | rfl | rfl | rfl | rfl | rfl | rfl <;> rfl
  · unfold maxLen; omega
  · omega
  · simp; omega
  · intro g cap w8 g1 g2 g3 _
    obtain ⟨k1, k2, k3⟩ := h.push st (by unfold OwnStrips; simpa using g1) g2 g3
    exact hK g cap w8 k1 k2 k3

theorem RS.room {w wr : World} {hb B p : Nat} {a : Option Addr} {n c : Nat} {D S : Int} {v : Value} {l : List Strip} (h : RS (w.alloc (.cells #[.int .i64 0, .int .i64 0, .slice none 0 0] 24)) wr hb B p a n c D S v l) (hlt : hb < w.heap.size) :
    wr.cell? ⟨w.heap.size, 0, none⟩ = some (.int .i64 0) ∧ wr.cell? ⟨w.heap.size, 1, none⟩ = some (.int .i64 0) ∧ wr.cell? ⟨w.heap.size, 2, none⟩ = some (.slice none 0 0) ∧ wr.frozen? ⟨w.heap.size, 0, none⟩ = false ∧ wr.frozen? ⟨w.heap.size, 1, none⟩ = false ∧ wr.frozen? ⟨w.heap.size, 2, none⟩ = false := by
  have hne : w.heap.size ≠ hb := by omega
  exact ⟨h.ext.cell_ne (by simp) hne, h.ext.cell_ne (by simp) hne, h.ext.cell_ne (by simp) hne, (h.ext.frozen_ne (by simp) hne).trans (by simp), (h.ext.frozen_ne (by simp) hne).trans (by simp), (h.ext.frozen_ne (by simp) hne).trans (by simp)⟩
theorem RS.finish {w wr : World} {hb B p : Nat} {a : Option Addr} {n c : Nat} {D S : Int} {v : Value} {l : List Strip} (h : RS (w.alloc (.cells #[.int .i64 0, .int .i64 0, .slice none 0 0] 24)) wr hb B p a n c D S v l) (hlt : hb < w.heap.size)
    {wF : World} (hF : wF = ((wr.setCell ⟨w.heap.size, 0, none⟩ (.int .i64 D)).setCell ⟨w.heap.size, 1, none⟩ (.int .i64 S)).setCell ⟨w.heap.size, 2, none⟩ v) :
    wF.cell? ⟨w.heap.size, 0, none⟩ = some (.int .i64 D) ∧ wF.cell? ⟨w.heap.size, 1, none⟩ = some (.int .i64 S) ∧ wF.cell? ⟨w.heap.size, 2, none⟩ = some v ∧ OwnStrips wF w.heap.size v l ∧ HandAt wF hb B a n c ∧ Ext hb w wF := by
  obtain ⟨r0, r1, r2, _⟩ := h.room hlt
  have hE0 : Ext hb w wr := (Ext.of_below (Below.alloc (Below.refl _ _) (Nat.le_refl _) _)).trans h.ext
  subst hF
  have hall : ∀ b, b ≠ w.heap.size → (((wr.setCell ⟨w.heap.size, 0, none⟩ (.int .i64 D)).setCell ⟨w.heap.size, 1, none⟩ (.int .i64 S)).setCell ⟨w.heap.size, 2, none⟩ v).heap[b]? = wr.heap[b]? := fun b hb => by
    rw [Below.heap_setCell _ ⟨w.heap.size, 2, none⟩ _ b hb, Below.heap_setCell _ ⟨w.heap.size, 1, none⟩ _ b hb, Below.heap_setCell _ ⟨w.heap.size, 0, none⟩ _ b hb]
  have hB : Below 0 wr (((wr.setCell ⟨w.heap.size, 0, none⟩ (.int .i64 D)).setCell ⟨w.heap.size, 1, none⟩ (.int .i64 S)).setCell ⟨w.heap.size, 2, none⟩ v) :=
    (((Below.refl 0 wr).setCell (p := ⟨w.heap.size, 0, none⟩) (Nat.zero_le _) _).setCell (p := ⟨w.heap.size, 1, none⟩) (Nat.zero_le _) _).setCell (p := ⟨w.heap.size, 2, none⟩) (Nat.zero_le _) _
  refine ⟨?_, ?_, ?_, (h.own.keep fun g hg => hall g ?_).lower (by simp), h.hand.keep fun b _ h2 => hall b (by omega), ⟨hB.os.trans hE0.os, hB.tape.trans hE0.tape, hB.output.trans hE0.output, by have := hE0.size; simpa using this, fun b h1 h2 => (hall b (by omega)).trans (hE0.block b h1 h2)⟩⟩
  · rw [World.cell?_setCell_other _ _ _ _ (by simp), World.cell?_setCell_other _ _ _ _ (by simp)]; exact World.cell?_setCell_same _ _ _ r0
  · rw [World.cell?_setCell_other _ _ _ _ (by simp)]; exact World.cell?_setCell_same _ _ _ (u := .int .i64 0) (by rw [World.cell?_setCell_other _ _ _ _ (by simp)]; exact r1)
  · exact World.cell?_setCell_same _ _ _ (u := .slice none 0 0) (by rw [World.cell?_setCell_other _ _ _ _ (by simp), World.cell?_setCell_other _ _ _ _ (by simp)]; exact r2)
  · have := (h.own.at_block hg).1; simp at this; omega

/-- Roads that are dealt. -/
structure RoadsOK (r : Roads) : Prop where
  d1 : 1 ≤ r.days
  d2 : r.days ≤ 10
  s1 : 1 ≤ r.stages
  s2 : r.stages ≤ 6
  n8 : r.strips.length ≤ 8
  strip : ∀ s ∈ r.strips, StripOK r.days r.stages s
/-- What RoadsOf leaves. -/
def RoadsMade (w : World) (hb B : Nat) (a : Option Addr) (n c : Nat) (e : Ending) (w' : World) : Prop :=
  ∃ r v, RoadsOK r ∧ OwnStrips w' w.heap.size v r.strips ∧ e = .returned (.agg #[.int .i64 r.days, .int .i64 r.stages, v]) ∧ HandAt w' hb (B + 200) a n c ∧ Ext hb w w'

set_option maxRecDepth 100000 in
set_option maxHeartbeats 4000000 in
theorem RoadsOf_all (w : World) (hb B : Nat) (a : Option Addr) (n c : Nat) (h : HandAt w hb B a n c) (hB : B ≤ 800000) (S0 N0 D0 : Int) (hS0 : 1 ≤ S0) (hS6 : S0 ≤ 6) (hN0 : 1 ≤ N0) (hN8' : N0 ≤ 8) (hD0 : 1 ≤ D0) (hD10 : D0 ≤ 10) :
    Calls Tryz.prog 6 #[.pointer (some ⟨hb, 0, none⟩), .int .i64 S0, .int .i64 N0, .int .i64 D0] w (RoadsMade w hb B a n c) := by
  have hlt := h.lt
  have hb0 : Below w.heap.size w (w.alloc (.cells #[.int .i64 0, .int .i64 0, .slice none 0 0] 24)) := Below.alloc (Below.refl _ _) (Nat.le_refl _) _
  have H0 := Lib.hid (h.below hb0); clear h
  go_enter Tryz.func6, Tryz.ntmps6
  go_wp2_with fail
  refine (Among_any _ hb B a n c H0.out (by omega) 1 D0 (by omega) (by omega) (by omega) (by omega)).mono ?_
  rintro e w1 ⟨_, ⟨D, D1, D2, rfl⟩, rfl, hh1, hE1⟩
  have H1 := Lib.hid hh1; clear hh1 H0
  have E1 := Lib.hid hE1; clear hE1
  go_wp2_with fail
  refine (Among_any _ hb (B + 1) a n c H1.out (by omega) 1 S0 (by omega) (by omega) (by omega) (by omega)).mono ?_
  rintro e w2 ⟨_, ⟨S, S1, S2, rfl⟩, rfl, hh2, hE2⟩
  have hlt2 := hh2.lt
  have hb2 : Below w2.heap.size w2 (w2.alloc (.cells #[.int .i64 D, .int .i64 S, .slice none 0 0] 24)) := Below.alloc (Below.refl _ _) (Nat.le_refl _) _
  have H2 := Lib.hid (hh2.below hb2); clear hh2 H1
  have E2 := Lib.hid (E1.out.trans hE2); clear E1 hE2
  go_wp2_with fail
  refine (Upto_any _ hb (B + 1 + 1) a n c H2.out (by omega) N0 (by omega) (by omega)).mono ?_
  rintro e w3 ⟨_, ⟨N, N1, N2, rfl⟩, rfl, hh3, hE3⟩
  have hRS : RS (w.alloc (.cells #[.int .i64 0, .int .i64 0, .slice none 0 0] 24)) w3 hb (B + 3) w2.heap.size a n c D S (.slice none 0 0) [] := by
    have hne : w2.heap.size ≠ hb := by omega
    refine ⟨hE3.cell_ne (by simp) hne, hE3.cell_ne (by simp) hne, hE3.cell_ne (by simp) hne, (hE3.frozen_ne (by simp) hne).trans (by simp), ⟨rfl, .inl ⟨rfl, rfl⟩⟩, by simp [Value.ownBlock], hh3, E2.out.trans ((Ext.of_below hb2).trans hE3), E2.out.size, by simp; omega⟩
  generalize w2.heap.size = p at hRS
  have HRS := Lib.hid hRS
  clear hRS hh3 hE3 E2 H2 hb2 hlt2
  have hN8 : N ≤ 8 := by omega
  clear N2
  go_wp2_with fail
  go_loopw [10] (fun v10 wx => ∃ (i : Int) (l : List Strip) (v : Value), v10 = .int .i64 i ∧ 0 ≤ i ∧ i + l.length = N ∧ (∀ s ∈ l, StripOK D S s) ∧ RS (w.alloc (.cells #[.int .i64 0, .int .i64 0, .slice none 0 0] 24)) wx hb (B + 3 + 20 * l.length) p a n c D S v l) (fun v _ => (intOf v).toNat)
  case atStart => exact ⟨N, [], _, rfl, N1, by simp, by simp, HRS.out⟩
  case round =>
    clear HRS
    obtain ⟨i, l, v, rfl, i0, hil, hok, hR⟩ := hrel
    have HOK := Lib.hid hok; clear hok
    have d0 := hR.c0
    have d1 := hR.c1
    have d2 := hR.c2
    have d3 := hR.free
    obtain ⟨z0, z1, z2, z3, z4, z5⟩ := hR.room hlt
    have HS := Lib.hid hR; clear hR
    by_cases hi : 0 < i
    · by_cases hS : 1 < S
      · go_wp2_with fail
        have HSd := Lib.hid HS.out.drew
        go_region_law (first
          | (refine step_append_strip H7.out st (by omega) rfl (.tmp 31) (.tmp 38) rfl rfl rfl ?_; intro g cap w8 k1 k2 k3; have K3 := Lib.hid k3; clear k3)
          | (go_simp; go_at_call 27; refine (HSd.out.deal (by omega) (by omega) (by omega) D1 (by omega)).mono ?_; rintro e w7 ⟨st, hst, rfl, h7⟩; have HST := Lib.hid hst; have H7 := Lib.hid h7; have e2 := h7.c2; have e3 := h7.laid (.cells #[.int .i64 st.A, .int .i64 st.B, .int .i64 st.L, .int .i64 st.W, .int .i64 st.K, .int .i64 st.X, .int .i64 st.Y] 63); clear h7 hst))
        all_goals (go_wp2_with fail)
        all_goals (refine ⟨⟨i - 1, l ++ [st], .slice (some ⟨g, 0, none⟩) (l.length + 1) cap, by go_num, by omega, by simp; omega, ?_, ?_⟩, by simp [intOf]; omega⟩)
        all_goals first
          | (intro s hs; rcases List.mem_append.1 hs with hs | hs; exact HOK.out s hs; simp at hs; subst hs; exact HST.out)
          | (rw [show B + 3 + 20 * (l ++ [st]).length = B + 3 + 20 * l.length + 20 by simp; omega]; exact K3.out)
      · obtain ⟨va, vc, rfl⟩ := HS.out.own.form
        go_wp2_with fail
        obtain ⟨e0, e1, e2, hown, hh, hE⟩ := HS.out.finish hlt rfl
        clear d0 d1 d2 d3 z0 z1 z2 z3 z4 z5 HS
        generalize ((wr.setCell ⟨w.heap.size, 0, none⟩ (.int .i64 D)).setCell ⟨w.heap.size, 1, none⟩ (.int .i64 S)).setCell ⟨w.heap.size, 2, none⟩ (.slice va l.length vc) = wF at e0 e1 e2 hown hh hE ⊢
        refine bodyPost_ret (v := .agg #[.int .i64 D, .int .i64 S, .slice va l.length vc]) ?_ rfl ⟨⟨D, S, l⟩, _, ⟨D1, by show D ≤ 10; omega, S1, by show S ≤ 6; omega, by show l.length ≤ 8; omega, HOK.out⟩, hown, rfl, hh.more (by omega), hE⟩
        clear hown hh hE
        simp [results, Tryz.results6, go_sem, e0, e1, e2]
    · obtain ⟨va, vc, rfl⟩ := HS.out.own.form
      go_wp2_with fail
      obtain ⟨e0, e1, e2, hown, hh, hE⟩ := HS.out.finish hlt rfl
      clear d0 d1 d2 d3 z0 z1 z2 z3 z4 z5 HS
      generalize ((wr.setCell ⟨w.heap.size, 0, none⟩ (.int .i64 D)).setCell ⟨w.heap.size, 1, none⟩ (.int .i64 S)).setCell ⟨w.heap.size, 2, none⟩ (.slice va l.length vc) = wF at e0 e1 e2 hown hh hE ⊢
      refine bodyPost_ret (v := .agg #[.int .i64 D, .int .i64 S, .slice va l.length vc]) ?_ rfl ⟨⟨D, S, l⟩, _, ⟨D1, by show D ≤ 10; omega, S1, by show S ≤ 6; omega, by show l.length ≤ 8; omega, HOK.out⟩, hown, rfl, hh.more (by omega), hE⟩
      clear hown hh hE
      simp [results, Tryz.results6, go_sem, e0, e1, e2]
/-- Roads of at most 6 stages, 8 strips, 10 days. -/
theorem RoadsOf_any (w : World) (hb B : Nat) (a : Option Addr) (n c : Nat) (h : HandAt w hb B a n c) (hB : B ≤ 800000) :
    Calls Tryz.prog 6 #[.pointer (some ⟨hb, 0, none⟩), .int .i64 6, .int .i64 8, .int .i64 10] w (RoadsMade w hb B a n c) :=
  RoadsOf_all w hb B a n c h hB 6 8 10 (by omega) (by omega) (by omega) (by omega) (by omega) (by omega)
end Go.Proofs.YtmkjeonjhedgkaaGreatDoor

namespace Go.Proofs.YtmkjeonjhedgkaaGreatDoor
set_option linter.unusedSimpArgs false
set_option linter.unusedVariables false
open Go.RowKit

set_option maxHeartbeats 2000000 in
theorem NewHand_any (w : World) (a : Option Addr) (n c : Nat) (l : List Int) (hl : IntsAt w a l) (hn : l.length = n) (hm : n ≤ maxLen) (ha : l = [] ∨ ∀ ad, a = some ad → ad.block < w.heap.size) :
    Calls Tryz.prog 7 #[.slice a n c] w fun e w' => e = .returned (.pointer (some ⟨w.heap.size, 0, none⟩)) ∧ HandAt w' w.heap.size 0 a n c ∧ Below w.heap.size w w' ∧ w'.heap.size = w.heap.size + 1 := by
  have HL := Lib.hid hl; clear hl
  have HA := Lib.hid ha; clear ha
  go_enter Tryz.func7, Tryz.ntmps7
  go_wp2_with fail
  go_ret
  refine ⟨rfl, ⟨by simp, ⟨0, Nat.le_refl _, by simp⟩, ⟨88172645463325252, by omega, by omega, by simp⟩, by simp, by simp, ⟨l, hn, HL.out.below (Below.alloc (Below.refl _ _) (Nat.le_refl _) _), HA.out⟩, hm⟩, Below.alloc (Below.refl _ _) (Nat.le_refl _) _, by simp⟩

/-- A flock that is dealt. -/
def FlockOK (f : Flock) : Prop := 1 ≤ f.heads ∧ f.heads ≤ 40 ∧ 1 ≤ f.pace ∧ f.pace ≤ 9

end Go.Proofs.YtmkjeonjhedgkaaGreatDoor
