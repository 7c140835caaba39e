/- The contracts of the hand: pull, Upto, Among, Of. The contract of StripOf. -/
import Derived.Test.YtmkjeonjhedgkaaDoorSpots
import Derived.Test.YtmkjeonjhedgkaaDoorTogo
import Derived.Test.YtmkjeonjhedgkaaDoorWidened
import Derived.Deep.CutBlock
namespace Go.Proofs.YtmkjeonjhedgkaaDoor
set_option linter.unusedSimpArgs false
set_option linter.unusedVariables false
open Go.RowKit

/-- A hand at block hb that has dealt at most B numbers. -/
structure HandAt (w : World) (hb B : Nat) (a : Option Addr) (n c : Nat) : Prop where
  c0 : w.cell? ⟨hb, 0, none⟩ = some (.slice a n c)
  c1 : ∃ k : Nat, k ≤ B ∧ w.cell? ⟨hb, 1, none⟩ = some (.int .i64 k)
  c2 : ∃ s : Int, 0 ≤ s ∧ s < 18446744073709551616 ∧ w.cell? ⟨hb, 2, none⟩ = some (.int .u64 s)
  f1 : w.frozen? ⟨hb, 1, none⟩ = false
  f2 : w.frozen? ⟨hb, 2, none⟩ = false
  nums : ∃ l : List Int, l.length = n ∧ IntsAt w a l ∧ (l = [] ∨ ∀ ad, a = some ad → ad.block < hb)
  len : n ≤ maxLen

theorem xor_range (a b : Int) : 0 ≤ bits .xor .u64 a b ∧ bits .xor .u64 a b < 18446744073709551616 := by
  show 0 ≤ IntKind.u64.wrap _ ∧ IntKind.u64.wrap _ < _
  rw [IntKind.wrap_u64]; omega
theorem div_range {a : Int} (h : 0 ≤ a ∧ a < 18446744073709551616) : 0 ≤ a / 2048 ∧ a / 2048 ≤ 9007199254740991 := by omega
theorem wrap_range (a : Int) : 0 ≤ IntKind.u64.wrap a ∧ IntKind.u64.wrap a < 18446744073709551616 := by rw [IntKind.wrap_u64]; omega

theorem HandAt.nums_keep {w w' : World} {hb : Nat} {a : Option Addr} {n : Nat} (h : ∃ l : List Int, l.length = n ∧ IntsAt w a l ∧ (l = [] ∨ ∀ ad, a = some ad → ad.block < hb)) (hk : ∀ b, b < w.heap.size → b < hb → w'.heap[b]? = w.heap[b]?) :
    ∃ l : List Int, l.length = n ∧ IntsAt w' a l ∧ (l = [] ∨ ∀ ad, a = some ad → ad.block < hb) := by
  obtain ⟨l, h1, h2, h3⟩ := h
  refine ⟨l, h1, ?_, h3⟩
  rcases h3 with h3 | h3
  · exact .inl h3
  rcases h2 with h2 | ⟨b, o, ha, hc⟩
  · exact .inl h2
  · have hlt := h3 _ ha
    exact .inr ⟨b, o, ha, fun i hi => (World.cell?_of_block (hk b (lt_of_cell (hc i hi)) hlt)).trans (hc i hi)⟩
theorem HandAt.keep {w w' : World} {hb B : Nat} {a : Option Addr} {n c : Nat} (h : HandAt w hb B a n c) (hk : ∀ b, b < w.heap.size → b ≤ hb → w'.heap[b]? = w.heap[b]?) : HandAt w' hb B a n c := by
  obtain ⟨c0, ⟨k, hk1, c1⟩, ⟨s, s1, s2, c2⟩, f1, f2, hnums, hn⟩ := h
  have e := hk hb (lt_of_cell c0) (Nat.le_refl _)
  exact ⟨(World.cell?_of_block e).trans c0, ⟨k, hk1, (World.cell?_of_block e).trans c1⟩, ⟨s, s1, s2, (World.cell?_of_block e).trans c2⟩, (World.frozen?_of_block e).trans f1, (World.frozen?_of_block e).trans f2,
    HandAt.nums_keep hnums fun b h1 h2 => hk b h1 (by omega), hn⟩
theorem HandAt.below {w w' : World} {hb B : Nat} {a : Option Addr} {n c : Nat} (h : HandAt w hb B a n c) (hb' : Below w.heap.size w w') : HandAt w' hb B a n c := h.keep fun b h1 _ => hb'.block b h1
theorem HandAt.more {w : World} {hb B B' : Nat} {a : Option Addr} {n c : Nat} (h : HandAt w hb B a n c) (hB : B ≤ B') : HandAt w hb B' a n c :=
  ⟨h.c0, let ⟨k, hk, c1⟩ := h.c1; ⟨k, by omega, c1⟩, h.c2, h.f1, h.f2, h.nums, h.len⟩
theorem HandAt.lt {w : World} {hb B : Nat} {a : Option Addr} {n c : Nat} (h : HandAt w hb B a n c) : hb < w.heap.size := lt_of_cell h.c0

/-- What a draw from the hand leaves. -/
def Dealt (w : World) (hb B : Nat) (a : Option Addr) (n c : Nat) (P : Value → Prop) (e : Ending) (w' : World) : Prop := ∃ v, P v ∧ e = .returned v ∧ HandAt w' hb B a n c ∧ Ext hb w w'

theorem hand_pulled {w : World} {hb B : Nat} {a : Option Addr} {n c k : Nat} (h : HandAt w hb B a n c) (hk : k ≤ B) (q : Nat) (s : Int) (h1 : 0 ≤ s) (h2 : s < 18446744073709551616) :
    HandAt (((w.drewN q).setCell ⟨hb, 1, none⟩ (.int .i64 ((k : Int) + 1))).setCell ⟨hb, 2, none⟩ (.int .u64 s)) hb (B + 1) a n c ∧ Ext hb w (((w.drewN q).setCell ⟨hb, 1, none⟩ (.int .i64 ((k : Int) + 1))).setCell ⟨hb, 2, none⟩ (.int .u64 s)) := by
  obtain ⟨c0, ⟨k', hk', c1⟩, ⟨s', _, _, c2⟩, f1, f2, hnums, hn⟩ := h
  have ho : ∀ b, b ≠ hb → (((w.drewN q).setCell ⟨hb, 1, none⟩ (.int .i64 ((k : Int) + 1))).setCell ⟨hb, 2, none⟩ (.int .u64 s)).heap[b]? = w.heap[b]? := fun b hne => by
    rw [Below.heap_setCell _ ⟨hb, 2, none⟩ _ b hne, Below.heap_setCell _ ⟨hb, 1, none⟩ _ b hne]; simp
  refine ⟨⟨?_, ⟨k + 1, by omega, ?_⟩, ⟨s, h1, h2, ?_⟩, ?_, ?_, HandAt.nums_keep hnums fun b _ hb' => ho b (by omega), hn⟩, ⟨(below_drewN (Below.refl 0 w) q).os, (below_drewN (Below.refl 0 w) q).tape, (below_drewN (Below.refl 0 w) q).output, by simp, fun b _ hne => ho b hne⟩⟩
  · rw [World.cell?_setCell_other _ _ _ _ (by simp), World.cell?_setCell_other _ _ _ _ (by simp)]; simpa using c0
  · rw [World.cell?_setCell_other _ _ _ _ (by simp)]; exact World.cell?_setCell_same _ _ _ (u := .int .i64 k') (by simpa using c1)
  · exact World.cell?_setCell_same _ _ _ (u := .int .u64 s') (by rw [World.cell?_setCell_other _ _ _ _ (by simp)]; simpa using c2)
  · rw [World.frozen?_setCell, World.frozen?_setCell]; simpa using f1
  · rw [World.frozen?_setCell, World.frozen?_setCell]; simpa using f2

end Go.Proofs.YtmkjeonjhedgkaaDoor

namespace Go.Proofs.YtmkjeonjhedgkaaDoor
set_option linter.unusedSimpArgs false
set_option linter.unusedVariables false
open Go.RowKit

/-- A strip that is valid. -/
def StripOK (D S : Int) (s : Strip) : Prop := 0 ≤ s.A ∧ s.A < S ∧ 0 ≤ s.B ∧ s.B < S ∧ s.A ≠ s.B ∧ 1 ≤ s.L ∧ s.L ≤ 9 ∧ 1 ≤ s.W ∧ s.W ≤ 99 ∧
    ((s.K = 1 ∧ s.X = 0 ∧ s.Y = 0) ∨ (s.K = 2 ∧ 0 ≤ s.X ∧ s.X ≤ s.Y ∧ s.Y < D) ∨ (s.K = 3 ∧ 0 ≤ s.X ∧ s.X ≤ 20 ∧ -5 ≤ s.Y ∧ s.Y ≤ 5) ∨ (s.K = 4 ∧ 1 ≤ s.X ∧ s.X ≤ 40 ∧ s.Y = 0))

/-- The state of StripOf: a strip under way at block p, the hand. -/
structure SS (w0 wx : World) (hb B p : Nat) (a : Option Addr) (n c : Nat) (s : Strip) : Prop where
  strip : StripAt wx p 0 s
  free : ∀ k, wx.frozen? ⟨p, k, none⟩ = false
  hand : HandAt wx hb B a n c
  ext : Ext hb w0 wx
  new : w0.heap.size ≤ p
  ne : p ≠ hb
  old : hb < w0.heap.size
theorem Ext.frozen_ne {m : Nat} {w w' : World} (h : Ext m w w') {b o : Nat} (hl : b < w.heap.size) (hb : b ≠ m) : w'.frozen? ⟨b, o, none⟩ = w.frozen? ⟨b, o, none⟩ :=
  World.frozen?_of_block (h.block b hl hb)
theorem SS.call {w0 wx w' : World} {hb B B' p : Nat} {a : Option Addr} {n c : Nat} {s : Strip} (h : SS w0 wx hb B p a n c s) (hh : HandAt w' hb B' a n c) (hE : Ext hb wx w') : SS w0 w' hb B' p a n c s := by
  have hl := lt_of_cell h.strip.c0
  exact ⟨h.strip.keep fun k => World.cell?_of_block (hE.block p hl h.ne), fun k => (hE.frozen_ne hl h.ne).trans (h.free k), hh, h.ext.trans hE, h.new, h.ne, h.old⟩
theorem SS.set {w0 wx : World} {hb B p : Nat} {a : Option Addr} {n c : Nat} {s s' : Strip} (h : SS w0 wx hb B p a n c s) (k : Nat) (v : Value) (hs : StripAt (wx.setCell ⟨p, k, none⟩ v) p 0 s') : SS w0 (wx.setCell ⟨p, k, none⟩ v) hb B p a n c s' := by
  have ho : ∀ b, b ≠ p → (wx.setCell ⟨p, k, none⟩ v).heap[b]? = wx.heap[b]? := fun b hne => Below.heap_setCell _ ⟨p, k, none⟩ _ b hne
  have hnew := h.new
  refine ⟨hs, fun k => by rw [World.frozen?_setCell]; exact h.free k, h.hand.keep fun b _ h2 => ho b (fun e => by have := h.new; have := h.old; omega), ⟨h.ext.os, h.ext.tape, h.ext.output, by simpa using h.ext.size, fun b h1 h2 => ?_⟩, h.new, h.ne, h.old⟩
  rw [ho b (by omega)]; exact h.ext.block b h1 h2
theorem SS.setB {w0 wx : World} {hb B p : Nat} {a : Option Addr} {n c : Nat} {s : Strip} (h : SS w0 wx hb B p a n c s) (x : Int) : SS w0 (wx.setCell ⟨p, 1, none⟩ (.int .i64 x)) hb B p a n c { s with B := x } := by
  obtain ⟨s0, s1, s2, s3, s4, s5, s6⟩ := h.strip
  refine h.set 1 _ ⟨?_, World.cell?_setCell_same _ _ _ s1, ?_, ?_, ?_, ?_, ?_⟩
  all_goals (rw [World.cell?_setCell_other _ _ _ _ (by simp)]; assumption)
theorem SS.setX {w0 wx : World} {hb B p : Nat} {a : Option Addr} {n c : Nat} {s : Strip} (h : SS w0 wx hb B p a n c s) (x : Int) : SS w0 (wx.setCell ⟨p, 5, none⟩ (.int .i64 x)) hb B p a n c { s with X := x } := by
  obtain ⟨s0, s1, s2, s3, s4, s5, s6⟩ := h.strip
  refine h.set 5 _ ⟨?_, ?_, ?_, ?_, ?_, World.cell?_setCell_same _ _ _ s5, ?_⟩
  all_goals (rw [World.cell?_setCell_other _ _ _ _ (by simp)]; assumption)
theorem SS.setY {w0 wx : World} {hb B p : Nat} {a : Option Addr} {n c : Nat} {s : Strip} (h : SS w0 wx hb B p a n c s) (x : Int) : SS w0 (wx.setCell ⟨p, 6, none⟩ (.int .i64 x)) hb B p a n c { s with Y := x } := by
  obtain ⟨s0, s1, s2, s3, s4, s5, s6⟩ := h.strip
  refine h.set 6 _ ⟨?_, ?_, ?_, ?_, ?_, ?_, World.cell?_setCell_same _ _ _ s6⟩
  all_goals (rw [World.cell?_setCell_other _ _ _ _ (by simp)]; assumption)
theorem SS.drew {w0 wx : World} {hb B p : Nat} {a : Option Addr} {n c : Nat} {s : Strip} (h : SS w0 wx hb B p a n c s) : SS w0 wx.drew hb B p a n c s :=
  h.call (h.hand.below (Below.refl _ _).drew) (Ext.of_below (Below.refl _ _).drew)
theorem SS.more {w0 wx : World} {hb B B' p : Nat} {a : Option Addr} {n c : Nat} {s : Strip} (h : SS w0 wx hb B p a n c s) (hB : B ≤ B') : SS w0 wx hb B' p a n c s := ⟨h.strip, h.free, h.hand.more hB, h.ext, h.new, h.ne, h.old⟩

theorem heap7 (w : World) (g : Nat) (v0 v1 v2 v3 v4 v5 v6 : Value) (b : Nat) (h : b ≠ g) :
    (((((((w.setCell ⟨g, 0, none⟩ v0).setCell ⟨g, 1, none⟩ v1).setCell ⟨g, 2, none⟩ v2).setCell ⟨g, 3, none⟩ v3).setCell ⟨g, 4, none⟩ v4).setCell ⟨g, 5, none⟩ v5).setCell ⟨g, 6, none⟩ v6).heap[b]? = w.heap[b]? := by
  rw [Below.heap_setCell _ ⟨g, 6, none⟩ _ b h, Below.heap_setCell _ ⟨g, 5, none⟩ _ b h, Below.heap_setCell _ ⟨g, 4, none⟩ _ b h, Below.heap_setCell _ ⟨g, 3, none⟩ _ b h, Below.heap_setCell _ ⟨g, 2, none⟩ _ b h, Below.heap_setCell _ ⟨g, 1, none⟩ _ b h, Below.heap_setCell _ ⟨g, 0, none⟩ _ b h]
theorem below7 (w : World) (g : Nat) (v0 v1 v2 v3 v4 v5 v6 : Value) :
    Below 0 w (((((((w.setCell ⟨g, 0, none⟩ v0).setCell ⟨g, 1, none⟩ v1).setCell ⟨g, 2, none⟩ v2).setCell ⟨g, 3, none⟩ v3).setCell ⟨g, 4, none⟩ v4).setCell ⟨g, 5, none⟩ v5).setCell ⟨g, 6, none⟩ v6) :=
  (((((((Below.refl 0 w).setCell (p := ⟨g, 0, none⟩) (Nat.zero_le _) _).setCell (p := ⟨g, 1, none⟩) (Nat.zero_le _) _).setCell (p := ⟨g, 2, none⟩) (Nat.zero_le _) _).setCell (p := ⟨g, 3, none⟩) (Nat.zero_le _) _).setCell (p := ⟨g, 4, none⟩) (Nat.zero_le _) _).setCell (p := ⟨g, 5, none⟩) (Nat.zero_le _) _).setCell (p := ⟨g, 6, none⟩) (Nat.zero_le _) _
theorem cells7 (w : World) (g : Nat) (v0 v1 v2 v3 v4 v5 v6 x0 x1 x2 x3 x4 x5 x6 : Value) (r0 : w.cell? ⟨g, 0, none⟩ = some x0) (r1 : w.cell? ⟨g, 1, none⟩ = some x1) (r2 : w.cell? ⟨g, 2, none⟩ = some x2) (r3 : w.cell? ⟨g, 3, none⟩ = some x3) (r4 : w.cell? ⟨g, 4, none⟩ = some x4) (r5 : w.cell? ⟨g, 5, none⟩ = some x5) (r6 : w.cell? ⟨g, 6, none⟩ = some x6) :
    (((((((w.setCell ⟨g, 0, none⟩ v0).setCell ⟨g, 1, none⟩ v1).setCell ⟨g, 2, none⟩ v2).setCell ⟨g, 3, none⟩ v3).setCell ⟨g, 4, none⟩ v4).setCell ⟨g, 5, none⟩ v5).setCell ⟨g, 6, none⟩ v6).cell? ⟨g, 0, none⟩ = some v0 ∧ (((((((w.setCell ⟨g, 0, none⟩ v0).setCell ⟨g, 1, none⟩ v1).setCell ⟨g, 2, none⟩ v2).setCell ⟨g, 3, none⟩ v3).setCell ⟨g, 4, none⟩ v4).setCell ⟨g, 5, none⟩ v5).setCell ⟨g, 6, none⟩ v6).cell? ⟨g, 1, none⟩ = some v1 ∧ (((((((w.setCell ⟨g, 0, none⟩ v0).setCell ⟨g, 1, none⟩ v1).setCell ⟨g, 2, none⟩ v2).setCell ⟨g, 3, none⟩ v3).setCell ⟨g, 4, none⟩ v4).setCell ⟨g, 5, none⟩ v5).setCell ⟨g, 6, none⟩ v6).cell? ⟨g, 2, none⟩ = some v2 ∧ (((((((w.setCell ⟨g, 0, none⟩ v0).setCell ⟨g, 1, none⟩ v1).setCell ⟨g, 2, none⟩ v2).setCell ⟨g, 3, none⟩ v3).setCell ⟨g, 4, none⟩ v4).setCell ⟨g, 5, none⟩ v5).setCell ⟨g, 6, none⟩ v6).cell? ⟨g, 3, none⟩ = some v3 ∧ (((((((w.setCell ⟨g, 0, none⟩ v0).setCell ⟨g, 1, none⟩ v1).setCell ⟨g, 2, none⟩ v2).setCell ⟨g, 3, none⟩ v3).setCell ⟨g, 4, none⟩ v4).setCell ⟨g, 5, none⟩ v5).setCell ⟨g, 6, none⟩ v6).cell? ⟨g, 4, none⟩ = some v4 ∧ (((((((w.setCell ⟨g, 0, none⟩ v0).setCell ⟨g, 1, none⟩ v1).setCell ⟨g, 2, none⟩ v2).setCell ⟨g, 3, none⟩ v3).setCell ⟨g, 4, none⟩ v4).setCell ⟨g, 5, none⟩ v5).setCell ⟨g, 6, none⟩ v6).cell? ⟨g, 5, none⟩ = some v5 ∧ (((((((w.setCell ⟨g, 0, none⟩ v0).setCell ⟨g, 1, none⟩ v1).setCell ⟨g, 2, none⟩ v2).setCell ⟨g, 3, none⟩ v3).setCell ⟨g, 4, none⟩ v4).setCell ⟨g, 5, none⟩ v5).setCell ⟨g, 6, none⟩ v6).cell? ⟨g, 6, none⟩ = some v6 := by
  refine ⟨?_, ?_, ?_, ?_, ?_, ?_, ?_⟩
  · rw [World.cell?_setCell_other _ _ _ _ (by simp), World.cell?_setCell_other _ _ _ _ (by simp), World.cell?_setCell_other _ _ _ _ (by simp), World.cell?_setCell_other _ _ _ _ (by simp), World.cell?_setCell_other _ _ _ _ (by simp), World.cell?_setCell_other _ _ _ _ (by simp)]; exact World.cell?_setCell_same _ _ _ (u := x0) (by exact r0)
  · rw [World.cell?_setCell_other _ _ _ _ (by simp), World.cell?_setCell_other _ _ _ _ (by simp), World.cell?_setCell_other _ _ _ _ (by simp), World.cell?_setCell_other _ _ _ _ (by simp), World.cell?_setCell_other _ _ _ _ (by simp)]; exact World.cell?_setCell_same _ _ _ (u := x1) (by rw [World.cell?_setCell_other _ _ _ _ (by simp)]; exact r1)
  · rw [World.cell?_setCell_other _ _ _ _ (by simp), World.cell?_setCell_other _ _ _ _ (by simp), World.cell?_setCell_other _ _ _ _ (by simp), World.cell?_setCell_other _ _ _ _ (by simp)]; exact World.cell?_setCell_same _ _ _ (u := x2) (by rw [World.cell?_setCell_other _ _ _ _ (by simp), World.cell?_setCell_other _ _ _ _ (by simp)]; exact r2)
  · rw [World.cell?_setCell_other _ _ _ _ (by simp), World.cell?_setCell_other _ _ _ _ (by simp), World.cell?_setCell_other _ _ _ _ (by simp)]; exact World.cell?_setCell_same _ _ _ (u := x3) (by rw [World.cell?_setCell_other _ _ _ _ (by simp), World.cell?_setCell_other _ _ _ _ (by simp), World.cell?_setCell_other _ _ _ _ (by simp)]; exact r3)
  · rw [World.cell?_setCell_other _ _ _ _ (by simp), World.cell?_setCell_other _ _ _ _ (by simp)]; exact World.cell?_setCell_same _ _ _ (u := x4) (by rw [World.cell?_setCell_other _ _ _ _ (by simp), World.cell?_setCell_other _ _ _ _ (by simp), World.cell?_setCell_other _ _ _ _ (by simp), World.cell?_setCell_other _ _ _ _ (by simp)]; exact r4)
  · rw [World.cell?_setCell_other _ _ _ _ (by simp)]; exact World.cell?_setCell_same _ _ _ (u := x5) (by rw [World.cell?_setCell_other _ _ _ _ (by simp), World.cell?_setCell_other _ _ _ _ (by simp), World.cell?_setCell_other _ _ _ _ (by simp), World.cell?_setCell_other _ _ _ _ (by simp), World.cell?_setCell_other _ _ _ _ (by simp)]; exact r5)
  · exact World.cell?_setCell_same _ _ _ (u := x6) (by rw [World.cell?_setCell_other _ _ _ _ (by simp), World.cell?_setCell_other _ _ _ _ (by simp), World.cell?_setCell_other _ _ _ _ (by simp), World.cell?_setCell_other _ _ _ _ (by simp), World.cell?_setCell_other _ _ _ _ (by simp), World.cell?_setCell_other _ _ _ _ (by simp)]; exact r6)
theorem turn_ne {A x S : Int} (h1 : 0 ≤ A) (h2 : A < S) (h3 : 1 ≤ x) (h4 : x < S) (h5 : S ≤ 6) : (A + x) % S ≠ A := by
  obtain rfl | rfl | rfl | rfl | rfl : S = 2 ∨ S = 3 ∨ S = 4 ∨ S = 5 ∨ S = 6 := by omega
  all_goals omega

end Go.Proofs.YtmkjeonjhedgkaaDoor
