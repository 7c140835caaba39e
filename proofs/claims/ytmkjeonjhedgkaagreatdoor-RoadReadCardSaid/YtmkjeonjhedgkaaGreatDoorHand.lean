/- The contracts of the hand: pull, Upto, Among, Of. The contract of StripOf. -/
import Derived.Test.YtmkjeonjhedgkaaGreatDoorSpots
import Derived.Test.YtmkjeonjhedgkaaGreatDoorTogo
import Derived.Test.YtmkjeonjhedgkaaGreatDoorWidened
import Derived.Deep.CutBlock
namespace Go.Proofs.YtmkjeonjhedgkaaGreatDoor
set_option linter.unusedSimpArgs false
set_option linter.unusedVariables false
open Go.RowKit

/-- A hand at block hb that has dealt at most B numbers. -/
structure HandAt (w : World) (hb B : Nat) (a : Option Addr) (n c : Nat) : Prop where
  c0 : w.cell? ⟨hb, 0, none⟩ = some (.slice a n c)
  c1 : ∃ k : Nat, k ≤ B ∧ w.cell? ⟨hb, 1, none⟩ = some (.int .i64 k)
  c2 : ∃ s : Int, 0 ≤ s ∧ s < 18446744073709551616 ∧ w.cell? ⟨hb, 2, none⟩ = some (.int .u64 s)
  f1 : w.frozen? ⟨hb, 1, none⟩ = false
  f2 : w.frozen? ⟨hb, 2, none⟩ = false
  nums : ∃ l : List Int, l.length = n ∧ IntsAt w a l ∧ (l = [] ∨ ∀ ad, a = some ad → ad.block < hb)
  len : n ≤ maxLen

theorem xor_range (a b : Int) : 0 ≤ bits .xor .u64 a b ∧ bits .xor .u64 a b < 18446744073709551616 := by
  show 0 ≤ IntKind.u64.wrap _ ∧ IntKind.u64.wrap _ < _
  rw [IntKind.wrap_u64]; omega
theorem div_range {a : Int} (h : 0 ≤ a ∧ a < 18446744073709551616) : 0 ≤ a / 2048 ∧ a / 2048 ≤ 9007199254740991 := by omega
theorem wrap_range (a : Int) : 0 ≤ IntKind.u64.wrap a ∧ IntKind.u64.wrap a < 18446744073709551616 := by rw [IntKind.wrap_u64]; omega

theorem HandAt.nums_keep {w w' : World} {hb : Nat} {a : Option Addr} {n : Nat} (h : ∃ l : List Int, l.length = n ∧ IntsAt w a l ∧ (l = [] ∨ ∀ ad, a = some ad → ad.block < hb)) (hk : ∀ b, b < w.heap.size → b < hb → w'.heap[b]? = w.heap[b]?) :
    ∃ l : List Int, l.length = n ∧ IntsAt w' a l ∧ (l = [] ∨ ∀ ad, a = some ad → ad.block < hb) := by
  obtain ⟨l, h1, h2, h3⟩ := h
  refine ⟨l, h1, ?_, h3⟩
  rcases h3 with h3 | h3
  · exact .inl h3
  rcases h2 with h2 | ⟨b, o, ha, hc⟩
  · exact .inl h2
  · have hlt := h3 _ ha
    exact .inr ⟨b, o, ha, fun i hi => (World.cell?_of_block (hk b (lt_of_cell (hc i hi)) hlt)).trans (hc i hi)⟩
theorem HandAt.keep {w w' : World} {hb B : Nat} {a : Option Addr} {n c : Nat} (h : HandAt w hb B a n c) (hk : ∀ b, b < w.heap.size → b ≤ hb → w'.heap[b]? = w.heap[b]?) : HandAt w' hb B a n c := by
  obtain ⟨c0, ⟨k, hk1, c1⟩, ⟨s, s1, s2, c2⟩, f1, f2, hnums, hn⟩ := h
  have e := hk hb (lt_of_cell c0) (Nat.le_refl _)
  exact ⟨(World.cell?_of_block e).trans c0, ⟨k, hk1, (World.cell?_of_block e).trans c1⟩, ⟨s, s1, s2, (World.cell?_of_block e).trans c2⟩, (World.frozen?_of_block e).trans f1, (World.frozen?_of_block e).trans f2,
    HandAt.nums_keep hnums fun b h1 h2 => hk b h1 (by omega), hn⟩
theorem HandAt.below {w w' : World} {hb B : Nat} {a : Option Addr} {n c : Nat} (h : HandAt w hb B a n c) (hb' : Below w.heap.size w w') : HandAt w' hb B a n c := h.keep fun b h1 _ => hb'.block b h1
theorem HandAt.more {w : World} {hb B B' : Nat} {a : Option Addr} {n c : Nat} (h : HandAt w hb B a n c) (hB : B ≤ B') : HandAt w hb B' a n c :=
  ⟨h.c0, let ⟨k, hk, c1⟩ := h.c1; ⟨k, by omega, c1⟩, h.c2, h.f1, h.f2, h.nums, h.len⟩
theorem HandAt.lt {w : World} {hb B : Nat} {a : Option Addr} {n c : Nat} (h : HandAt w hb B a n c) : hb < w.heap.size := lt_of_cell h.c0

/-- What a draw from the hand leaves. -/
def Dealt (w : World) (hb B : Nat) (a : Option Addr) (n c : Nat) (P : Value → Prop) (e : Ending) (w' : World) : Prop := ∃ v, P v ∧ e = .returned v ∧ HandAt w' hb B a n c ∧ Ext hb w w'

theorem hand_pulled {w : World} {hb B : Nat} {a : Option Addr} {n c k : Nat} (h : HandAt w hb B a n c) (hk : k ≤ B) (q : Nat) (s : Int) (h1 : 0 ≤ s) (h2 : s < 18446744073709551616) :
    HandAt (((w.drewN q).setCell ⟨hb, 1, none⟩ (.int .i64 ((k : Int) + 1))).setCell ⟨hb, 2, none⟩ (.int .u64 s)) hb (B + 1) a n c ∧ Ext hb w (((w.drewN q).setCell ⟨hb, 1, none⟩ (.int .i64 ((k : Int) + 1))).setCell ⟨hb, 2, none⟩ (.int .u64 s)) := by
  obtain ⟨c0, ⟨k', hk', c1⟩, ⟨s', _, _, c2⟩, f1, f2, hnums, hn⟩ := h
  have ho : ∀ b, b ≠ hb → (((w.drewN q).setCell ⟨hb, 1, none⟩ (.int .i64 ((k : Int) + 1))).setCell ⟨hb, 2, none⟩ (.int .u64 s)).heap[b]? = w.heap[b]? := fun b hne => by
    rw [Below.heap_setCell _ ⟨hb, 2, none⟩ _ b hne, Below.heap_setCell _ ⟨hb, 1, none⟩ _ b hne]; simp
  refine ⟨⟨?_, ⟨k + 1, by omega, ?_⟩, ⟨s, h1, h2, ?_⟩, ?_, ?_, HandAt.nums_keep hnums fun b _ hb' => ho b (by omega), hn⟩, ⟨(below_drewN (Below.refl 0 w) q).os, (below_drewN (Below.refl 0 w) q).tape, (below_drewN (Below.refl 0 w) q).output, by simp, fun b _ hne => ho b hne⟩⟩
  · rw [World.cell?_setCell_other _ _ _ _ (by simp), World.cell?_setCell_other _ _ _ _ (by simp)]; simpa using c0
  · rw [World.cell?_setCell_other _ _ _ _ (by simp)]; exact World.cell?_setCell_same _ _ _ (u := .int .i64 k') (by simpa using c1)
  · exact World.cell?_setCell_same _ _ _ (u := .int .u64 s') (by rw [World.cell?_setCell_other _ _ _ _ (by simp)]; simpa using c2)
  · rw [World.frozen?_setCell, World.frozen?_setCell]; simpa using f1
  · rw [World.frozen?_setCell, World.frozen?_setCell]; simpa using f2

set_option maxRecDepth 100000 in
set_option maxHeartbeats 4000000 in
theorem pull_any (w : World) (hb B : Nat) (a : Option Addr) (n c : Nat) (h : HandAt w hb B a n c) (hB : B ≤ 1000000) :
    Calls Tryz.prog 54 #[.pointer (some ⟨hb, 0, none⟩)] w (Dealt w hb (B + 1) a n c fun v => ∃ x : Int, 0 ≤ x ∧ x ≤ 9007199254740991 ∧ v = .int .u64 x) := by
  have H := Lib.hid h
  obtain ⟨c0, ⟨k, hk, c1⟩, ⟨s, s1, s2, c2⟩, f1, f2, hnums, hn⟩ := h
  have HN := Lib.hid hnums; clear hnums
  unfold maxLen at hn
  by_cases hlt : k < n
  · obtain ⟨l, hl1, hl2, hl3⟩ := HN.out
    have hlt' : decide ((k : Int) < (n : Int)) = true := decide_eq_true (by omega)
    have hkl : k < l.length := by omega
    rcases hl2 with hz | ⟨b, o, rfl, hc⟩
    · rw [hz] at hkl; simp at hkl
    have hx := hc k hkl
    generalize l[k] = x at hx
    have q1 : (0 : Int) ≤ (k : Int) := by omega
    have q2 : (k : Int) < (n : Int) := by omega
    clear hl1 hl3 hkl hc
    go_enter Tryz.func54, Tryz.ntmps54
    go_wp2_with fail
    go_quiet (fail)
    go_wp2_with fail
    go_quiet (fail)
    go_wp2_with fail
    go_ret
    obtain ⟨h1, h2⟩ := hand_pulled H.out hk _ _ (wrap_range _).1 (wrap_range _).2
    exact ⟨_, ⟨_, (div_range (xor_range _ _)).1, (div_range (xor_range _ _)).2, rfl⟩, rfl, h1, h2⟩
  · have hlt' : decide ((k : Int) < (n : Int)) = false := decide_eq_false (by omega)
    go_enter Tryz.func54, Tryz.ntmps54
    go_wp2_with fail
    go_quiet (fail)
    go_wp2_with fail
    go_ret
    obtain ⟨h1, h2⟩ := hand_pulled H.out hk _ _ (wrap_range _).1 (wrap_range _).2
    exact ⟨_, ⟨_, (div_range (xor_range _ _)).1, (div_range (xor_range _ _)).2, rfl⟩, rfl, h1, h2⟩

set_option maxHeartbeats 2000000 in
theorem Upto_any (w : World) (hb B : Nat) (a : Option Addr) (n c : Nat) (h : HandAt w hb B a n c) (hB : B ≤ 1000000) (most : Int) (hm1 : -1000000 ≤ most) (hm2 : most ≤ 1000000) :
    Calls Tryz.prog 26 #[.pointer (some ⟨hb, 0, none⟩), .int .i64 most] w (Dealt w hb (B + 1) a n c fun v => ∃ x : Int, 0 ≤ x ∧ x ≤ max most 0 ∧ v = .int .i64 x) := by
  have H := Lib.hid h; clear h
  by_cases hm : most ≤ 0
  · go_enter Tryz.func26, Tryz.ntmps26
    go_wp2_with fail
    go_ret
    exact ⟨_, ⟨0, by omega, by omega, rfl⟩, rfl, H.out.more (by omega), Ext.refl _ _⟩
  · go_enter Tryz.func26, Tryz.ntmps26
    go_wp2_with fail
    refine (pull_any w hb B a n c H.out hB).mono ?_
    rintro e w1 ⟨_, ⟨x, x1, x2, rfl⟩, rfl, hh, hE⟩
    have HH := Lib.hid hh; clear hh
    have HE := Lib.hid hE; clear hE
    go_wp2_with fail
    go_ret
    have r1 : 0 ≤ x % (most + 1) := Int.emod_nonneg _ (by omega)
    have r2 : x % (most + 1) < most + 1 := Int.emod_lt_of_pos _ (by omega)
    exact ⟨_, ⟨wrap64 (x % (most + 1)), by unfold wrap64; omega, by unfold wrap64; omega, rfl⟩, rfl, HH.out, HE.out⟩

set_option maxHeartbeats 2000000 in
theorem Among_any (w : World) (hb B : Nat) (a : Option Addr) (n c : Nat) (h : HandAt w hb B a n c) (hB : B ≤ 1000000) (least most : Int) (h1 : -1000 ≤ least) (h2 : least ≤ 1000) (h3 : -1000 ≤ most) (h4 : most ≤ 1000) :
    Calls Tryz.prog 25 #[.pointer (some ⟨hb, 0, none⟩), .int .i64 least, .int .i64 most] w (Dealt w hb (B + 1) a n c fun v => ∃ x : Int, least ≤ x ∧ x ≤ max most least ∧ v = .int .i64 x) := by
  have H := Lib.hid h; clear h
  go_enter Tryz.func25, Tryz.ntmps25
  go_wp2_with fail
  refine (Upto_any w hb B a n c H.out hB (most - least) (by omega) (by omega)).mono ?_
  rintro e w1 ⟨_, ⟨x, x1, x2, rfl⟩, rfl, hh, hE⟩
  have HH := Lib.hid hh; clear hh
  have HE := Lib.hid hE; clear hE
  have x3 : x ≤ 2000 := by omega
  go_wp2_with fail
  go_ret
  exact ⟨_, ⟨least + x, by omega, by omega, rfl⟩, rfl, HH.out, HE.out⟩

set_option maxHeartbeats 2000000 in
theorem Of_any (w : World) (hb B : Nat) (a : Option Addr) (n c : Nat) (h : HandAt w hb B a n c) (hB : B ≤ 1000000) (first : Int) (oa : Option Addr) (oc : Nat) (l : List Int) (hl : IntsAt w oa l) (ho : ∀ ad, oa = some ad → ad.block ≠ hb) (hlen : l.length ≤ 100) :
    Calls Tryz.prog 55 #[.pointer (some ⟨hb, 0, none⟩), .int .i64 first, .slice oa l.length oc] w (Dealt w hb (B + 1) a n c fun v => ∃ x : Int, x ∈ first :: l ∧ v = .int .i64 x) := by
  have H := Lib.hid h; clear h
  have HL := Lib.hid hl; clear hl
  have HO := Lib.hid ho; clear ho
  go_enter Tryz.func55, Tryz.ntmps55
  go_wp2_with fail
  refine (Upto_any w hb B a n c H.out hB l.length (by omega) (by omega)).mono ?_
  rintro e w1 ⟨_, ⟨x, x1, x2, rfl⟩, rfl, hh, hE⟩
  have HH := Lib.hid hh; clear hh
  by_cases hx : 0 < x
  · obtain ⟨k, hk⟩ : ∃ k : Nat, x = (k : Int) + 1 := ⟨(x - 1).toNat, by omega⟩
    have hkl : k < l.length := by omega
    rcases HL.out with hz | ⟨b, o, hoa, hc⟩
    · rw [hz] at hkl; simp at hkl
    have hck := hc k hkl
    have hne := HO.out _ hoa
    have hc1 := (World.cell?_of_block (hE.block b (lt_of_cell hck) hne)).trans hck
    have hmem : l[k] ∈ first :: l := List.mem_cons_of_mem _ (List.getElem_mem hkl)
    generalize l[k] = y at hc1 hmem
    have HM := Lib.hid hmem; clear hmem hck hc
    have HE := Lib.hid hE; clear hE
    subst hk hoa
    have q1 : (k : Int) < (l.length : Int) := by omega
    go_wp2_with fail
    go_ret
    exact ⟨_, ⟨y, HM.out, rfl⟩, rfl, HH.out, HE.out⟩
  · have HE := Lib.hid hE; clear hE
    go_wp2_with fail
    go_ret
    exact ⟨_, ⟨first, by simp, rfl⟩, rfl, HH.out, HE.out⟩

end Go.Proofs.YtmkjeonjhedgkaaGreatDoor

namespace Go.Proofs.YtmkjeonjhedgkaaGreatDoor
set_option linter.unusedSimpArgs false
set_option linter.unusedVariables false
open Go.RowKit

/-- A strip that is valid. -/
def StripOK (D S : Int) (s : Strip) : Prop := 0 ≤ s.A ∧ s.A < S ∧ 0 ≤ s.B ∧ s.B < S ∧ s.A ≠ s.B ∧ 1 ≤ s.L ∧ s.L ≤ 9 ∧ 1 ≤ s.W ∧ s.W ≤ 99 ∧
    ((s.K = 1 ∧ s.X = 0 ∧ s.Y = 0) ∨ (s.K = 2 ∧ 0 ≤ s.X ∧ s.X ≤ s.Y ∧ s.Y < D) ∨ (s.K = 3 ∧ 0 ≤ s.X ∧ s.X ≤ 20 ∧ -5 ≤ s.Y ∧ s.Y ≤ 5) ∨ (s.K = 4 ∧ 1 ≤ s.X ∧ s.X ≤ 40 ∧ s.Y = 0))

/-- The state of StripOf: a strip under way at block p, the hand. -/
structure SS (w0 wx : World) (hb B p : Nat) (a : Option Addr) (n c : Nat) (s : Strip) : Prop where
  strip : StripAt wx p 0 s
  free : ∀ k, wx.frozen? ⟨p, k, none⟩ = false
  hand : HandAt wx hb B a n c
  ext : Ext hb w0 wx
  new : w0.heap.size ≤ p
  ne : p ≠ hb
  old : hb < w0.heap.size
theorem Ext.frozen_ne {m : Nat} {w w' : World} (h : Ext m w w') {b o : Nat} (hl : b < w.heap.size) (hb : b ≠ m) : w'.frozen? ⟨b, o, none⟩ = w.frozen? ⟨b, o, none⟩ :=
  World.frozen?_of_block (h.block b hl hb)
theorem SS.call {w0 wx w' : World} {hb B B' p : Nat} {a : Option Addr} {n c : Nat} {s : Strip} (h : SS w0 wx hb B p a n c s) (hh : HandAt w' hb B' a n c) (hE : Ext hb wx w') : SS w0 w' hb B' p a n c s := by
  have hl := lt_of_cell h.strip.c0
  exact ⟨h.strip.keep fun k => World.cell?_of_block (hE.block p hl h.ne), fun k => (hE.frozen_ne hl h.ne).trans (h.free k), hh, h.ext.trans hE, h.new, h.ne, h.old⟩
theorem SS.set {w0 wx : World} {hb B p : Nat} {a : Option Addr} {n c : Nat} {s s' : Strip} (h : SS w0 wx hb B p a n c s) (k : Nat) (v : Value) (hs : StripAt (wx.setCell ⟨p, k, none⟩ v) p 0 s') : SS w0 (wx.setCell ⟨p, k, none⟩ v) hb B p a n c s' := by
  have ho : ∀ b, b ≠ p → (wx.setCell ⟨p, k, none⟩ v).heap[b]? = wx.heap[b]? := fun b hne => Below.heap_setCell _ ⟨p, k, none⟩ _ b hne
  have hnew := h.new
  refine ⟨hs, fun k => by rw [World.frozen?_setCell]; exact h.free k, h.hand.keep fun b _ h2 => ho b (fun e => by have := h.new; have := h.old; omega), ⟨h.ext.os, h.ext.tape, h.ext.output, by simpa using h.ext.size, fun b h1 h2 => ?_⟩, h.new, h.ne, h.old⟩
  rw [ho b (by omega)]; exact h.ext.block b h1 h2
theorem SS.setB {w0 wx : World} {hb B p : Nat} {a : Option Addr} {n c : Nat} {s : Strip} (h : SS w0 wx hb B p a n c s) (x : Int) : SS w0 (wx.setCell ⟨p, 1, none⟩ (.int .i64 x)) hb B p a n c { s with B := x } := by
  obtain ⟨s0, s1, s2, s3, s4, s5, s6⟩ := h.strip
  refine h.set 1 _ ⟨?_, World.cell?_setCell_same _ _ _ s1, ?_, ?_, ?_, ?_, ?_⟩
  all_goals (rw [World.cell?_setCell_other _ _ _ _ (by simp)]; assumption)
theorem SS.setX {w0 wx : World} {hb B p : Nat} {a : Option Addr} {n c : Nat} {s : Strip} (h : SS w0 wx hb B p a n c s) (x : Int) : SS w0 (wx.setCell ⟨p, 5, none⟩ (.int .i64 x)) hb B p a n c { s with X := x } := by
  obtain ⟨s0, s1, s2, s3, s4, s5, s6⟩ := h.strip
  refine h.set 5 _ ⟨?_, ?_, ?_, ?_, ?_, World.cell?_setCell_same _ _ _ s5, ?_⟩
  all_goals (rw [World.cell?_setCell_other _ _ _ _ (by simp)]; assumption)
theorem SS.setY {w0 wx : World} {hb B p : Nat} {a : Option Addr} {n c : Nat} {s : Strip} (h : SS w0 wx hb B p a n c s) (x : Int) : SS w0 (wx.setCell ⟨p, 6, none⟩ (.int .i64 x)) hb B p a n c { s with Y := x } := by
  obtain ⟨s0, s1, s2, s3, s4, s5, s6⟩ := h.strip
  refine h.set 6 _ ⟨?_, ?_, ?_, ?_, ?_, ?_, World.cell?_setCell_same _ _ _ s6⟩
  all_goals (rw [World.cell?_setCell_other _ _ _ _ (by simp)]; assumption)
theorem SS.drew {w0 wx : World} {hb B p : Nat} {a : Option Addr} {n c : Nat} {s : Strip} (h : SS w0 wx hb B p a n c s) : SS w0 wx.drew hb B p a n c s :=
  h.call (h.hand.below (Below.refl _ _).drew) (Ext.of_below (Below.refl _ _).drew)
theorem SS.more {w0 wx : World} {hb B B' p : Nat} {a : Option Addr} {n c : Nat} {s : Strip} (h : SS w0 wx hb B p a n c s) (hB : B ≤ B') : SS w0 wx hb B' p a n c s := ⟨h.strip, h.free, h.hand.more hB, h.ext, h.new, h.ne, h.old⟩

theorem heap7 (w : World) (g : Nat) (v0 v1 v2 v3 v4 v5 v6 : Value) (b : Nat) (h : b ≠ g) :
    (((((((w.setCell ⟨g, 0, none⟩ v0).setCell ⟨g, 1, none⟩ v1).setCell ⟨g, 2, none⟩ v2).setCell ⟨g, 3, none⟩ v3).setCell ⟨g, 4, none⟩ v4).setCell ⟨g, 5, none⟩ v5).setCell ⟨g, 6, none⟩ v6).heap[b]? = w.heap[b]? := by
  rw [Below.heap_setCell _ ⟨g, 6, none⟩ _ b h, Below.heap_setCell _ ⟨g, 5, none⟩ _ b h, Below.heap_setCell _ ⟨g, 4, none⟩ _ b h, Below.heap_setCell _ ⟨g, 3, none⟩ _ b h, Below.heap_setCell _ ⟨g, 2, none⟩ _ b h, Below.heap_setCell _ ⟨g, 1, none⟩ _ b h, Below.heap_setCell _ ⟨g, 0, none⟩ _ b h]
theorem below7 (w : World) (g : Nat) (v0 v1 v2 v3 v4 v5 v6 : Value) :
    Below 0 w (((((((w.setCell ⟨g, 0, none⟩ v0).setCell ⟨g, 1, none⟩ v1).setCell ⟨g, 2, none⟩ v2).setCell ⟨g, 3, none⟩ v3).setCell ⟨g, 4, none⟩ v4).setCell ⟨g, 5, none⟩ v5).setCell ⟨g, 6, none⟩ v6) :=
  (((((((Below.refl 0 w).setCell (p := ⟨g, 0, none⟩) (Nat.zero_le _) _).setCell (p := ⟨g, 1, none⟩) (Nat.zero_le _) _).setCell (p := ⟨g, 2, none⟩) (Nat.zero_le _) _).setCell (p := ⟨g, 3, none⟩) (Nat.zero_le _) _).setCell (p := ⟨g, 4, none⟩) (Nat.zero_le _) _).setCell (p := ⟨g, 5, none⟩) (Nat.zero_le _) _).setCell (p := ⟨g, 6, none⟩) (Nat.zero_le _) _
theorem cells7 (w : World) (g : Nat) (v0 v1 v2 v3 v4 v5 v6 x0 x1 x2 x3 x4 x5 x6 : Value) (r0 : w.cell? ⟨g, 0, none⟩ = some x0) (r1 : w.cell? ⟨g, 1, none⟩ = some x1) (r2 : w.cell? ⟨g, 2, none⟩ = some x2) (r3 : w.cell? ⟨g, 3, none⟩ = some x3) (r4 : w.cell? ⟨g, 4, none⟩ = some x4) (r5 : w.cell? ⟨g, 5, none⟩ = some x5) (r6 : w.cell? ⟨g, 6, none⟩ = some x6) :
    (((((((w.setCell ⟨g, 0, none⟩ v0).setCell ⟨g, 1, none⟩ v1).setCell ⟨g, 2, none⟩ v2).setCell ⟨g, 3, none⟩ v3).setCell ⟨g, 4, none⟩ v4).setCell ⟨g, 5, none⟩ v5).setCell ⟨g, 6, none⟩ v6).cell? ⟨g, 0, none⟩ = some v0 ∧ (((((((w.setCell ⟨g, 0, none⟩ v0).setCell ⟨g, 1, none⟩ v1).setCell ⟨g, 2, none⟩ v2).setCell ⟨g, 3, none⟩ v3).setCell ⟨g, 4, none⟩ v4).setCell ⟨g, 5, none⟩ v5).setCell ⟨g, 6, none⟩ v6).cell? ⟨g, 1, none⟩ = some v1 ∧ (((((((w.setCell ⟨g, 0, none⟩ v0).setCell ⟨g, 1, none⟩ v1).setCell ⟨g, 2, none⟩ v2).setCell ⟨g, 3, none⟩ v3).setCell ⟨g, 4, none⟩ v4).setCell ⟨g, 5, none⟩ v5).setCell ⟨g, 6, none⟩ v6).cell? ⟨g, 2, none⟩ = some v2 ∧ (((((((w.setCell ⟨g, 0, none⟩ v0).setCell ⟨g, 1, none⟩ v1).setCell ⟨g, 2, none⟩ v2).setCell ⟨g, 3, none⟩ v3).setCell ⟨g, 4, none⟩ v4).setCell ⟨g, 5, none⟩ v5).setCell ⟨g, 6, none⟩ v6).cell? ⟨g, 3, none⟩ = some v3 ∧ (((((((w.setCell ⟨g, 0, none⟩ v0).setCell ⟨g, 1, none⟩ v1).setCell ⟨g, 2, none⟩ v2).setCell ⟨g, 3, none⟩ v3).setCell ⟨g, 4, none⟩ v4).setCell ⟨g, 5, none⟩ v5).setCell ⟨g, 6, none⟩ v6).cell? ⟨g, 4, none⟩ = some v4 ∧ (((((((w.setCell ⟨g, 0, none⟩ v0).setCell ⟨g, 1, none⟩ v1).setCell ⟨g, 2, none⟩ v2).setCell ⟨g, 3, none⟩ v3).setCell ⟨g, 4, none⟩ v4).setCell ⟨g, 5, none⟩ v5).setCell ⟨g, 6, none⟩ v6).cell? ⟨g, 5, none⟩ = some v5 ∧ (((((((w.setCell ⟨g, 0, none⟩ v0).setCell ⟨g, 1, none⟩ v1).setCell ⟨g, 2, none⟩ v2).setCell ⟨g, 3, none⟩ v3).setCell ⟨g, 4, none⟩ v4).setCell ⟨g, 5, none⟩ v5).setCell ⟨g, 6, none⟩ v6).cell? ⟨g, 6, none⟩ = some v6 := by
  refine ⟨?_, ?_, ?_, ?_, ?_, ?_, ?_⟩
  · rw [World.cell?_setCell_other _ _ _ _ (by simp), World.cell?_setCell_other _ _ _ _ (by simp), World.cell?_setCell_other _ _ _ _ (by simp), World.cell?_setCell_other _ _ _ _ (by simp), World.cell?_setCell_other _ _ _ _ (by simp), World.cell?_setCell_other _ _ _ _ (by simp)]; exact World.cell?_setCell_same _ _ _ (u := x0) (by exact r0)
  · rw [World.cell?_setCell_other _ _ _ _ (by simp), World.cell?_setCell_other _ _ _ _ (by simp), World.cell?_setCell_other _ _ _ _ (by simp), World.cell?_setCell_other _ _ _ _ (by simp), World.cell?_setCell_other _ _ _ _ (by simp)]; exact World.cell?_setCell_same _ _ _ (u := x1) (by rw [World.cell?_setCell_other _ _ _ _ (by simp)]; exact r1)
  · rw [World.cell?_setCell_other _ _ _ _ (by simp), World.cell?_setCell_other _ _ _ _ (by simp), World.cell?_setCell_other _ _ _ _ (by simp), World.cell?_setCell_other _ _ _ _ (by simp)]; exact World.cell?_setCell_same _ _ _ (u := x2) (by rw [World.cell?_setCell_other _ _ _ _ (by simp), World.cell?_setCell_other _ _ _ _ (by simp)]; exact r2)
  · rw [World.cell?_setCell_other _ _ _ _ (by simp), World.cell?_setCell_other _ _ _ _ (by simp), World.cell?_setCell_other _ _ _ _ (by simp)]; exact World.cell?_setCell_same _ _ _ (u := x3) (by rw [World.cell?_setCell_other _ _ _ _ (by simp), World.cell?_setCell_other _ _ _ _ (by simp), World.cell?_setCell_other _ _ _ _ (by simp)]; exact r3)
  · rw [World.cell?_setCell_other _ _ _ _ (by simp), World.cell?_setCell_other _ _ _ _ (by simp)]; exact World.cell?_setCell_same _ _ _ (u := x4) (by rw [World.cell?_setCell_other _ _ _ _ (by simp), World.cell?_setCell_other _ _ _ _ (by simp), World.cell?_setCell_other _ _ _ _ (by simp), World.cell?_setCell_other _ _ _ _ (by simp)]; exact r4)
  · rw [World.cell?_setCell_other _ _ _ _ (by simp)]; exact World.cell?_setCell_same _ _ _ (u := x5) (by rw [World.cell?_setCell_other _ _ _ _ (by simp), World.cell?_setCell_other _ _ _ _ (by simp), World.cell?_setCell_other _ _ _ _ (by simp), World.cell?_setCell_other _ _ _ _ (by simp), World.cell?_setCell_other _ _ _ _ (by simp)]; exact r5)
  · exact World.cell?_setCell_same _ _ _ (u := x6) (by rw [World.cell?_setCell_other _ _ _ _ (by simp), World.cell?_setCell_other _ _ _ _ (by simp), World.cell?_setCell_other _ _ _ _ (by simp), World.cell?_setCell_other _ _ _ _ (by simp), World.cell?_setCell_other _ _ _ _ (by simp), World.cell?_setCell_other _ _ _ _ (by simp)]; exact r6)
theorem turn_ne {A x S : Int} (h1 : 0 ≤ A) (h2 : A < S) (h3 : 1 ≤ x) (h4 : x < S) (h5 : S ≤ 6) : (A + x) % S ≠ A := by
  obtain rfl | rfl | rfl | rfl | rfl : S = 2 ∨ S = 3 ∨ S = 4 ∨ S = 5 ∨ S = 6 := by omega
  all_goals omega

set_option maxRecDepth 100000 in
set_option maxHeartbeats 4000000 in
theorem StripOf_any (w : World) (hb B : Nat) (a : Option Addr) (n c : Nat) (h : HandAt w hb B a n c) (hB : B ≤ 900000) (S D : Int) (hS1 : 2 ≤ S) (hS2 : S ≤ 6) (hD1 : 1 ≤ D) (hD2 : D ≤ 10) :
    Calls Tryz.prog 27 #[.pointer (some ⟨hb, 0, none⟩), .int .i64 S, .int .i64 D] w (Dealt w hb (B + 20) a n c fun v => ∃ s : Strip, StripOK D S s ∧ v = s.val) := by
  have hlt := h.lt
  have hb0 : Below w.heap.size w (w.alloc (.cells #[.int .i64 0, .int .i64 0, .int .i64 0, .int .i64 0, .int .i64 0, .int .i64 0, .int .i64 0] 63)) := Below.alloc (Below.refl _ _) (Nat.le_refl _) _
  have H0 := Lib.hid (h.below hb0); clear h
  go_enter Tryz.func27, Tryz.ntmps27
  go_wp2_with fail
  refine (Upto_any _ hb B a n c H0.out (by omega) (S - 1) (by omega) (by omega)).mono ?_
  rintro e w1 ⟨_, ⟨A, A1, A2, rfl⟩, rfl, hh1, hE1⟩
  have H1 := Lib.hid hh1; clear hh1 H0
  have E1 := Lib.hid ((Ext.of_below hb0).trans hE1)
  have F1 := Lib.hid hE1; clear hE1
  clear hb0
  go_wp2_with fail
  refine (Among_any _ hb (B + 1) a n c H1.out (by omega) 1 6 (by omega) (by omega) (by omega) (by omega)).mono ?_
  rintro e w2 ⟨_, ⟨L, L1, L2, rfl⟩, rfl, hh2, hE2⟩
  have H2 := Lib.hid hh2; clear hh2 H1
  have E2 := Lib.hid (E1.out.trans hE2); clear E1
  have F2 := Lib.hid (F1.out.trans hE2); clear F1 hE2
  go_wp2_with fail
  refine (Among_any _ hb (B + 1 + 1) a n c H2.out (by omega) 20 95 (by omega) (by omega) (by omega) (by omega)).mono ?_
  rintro e w3 ⟨_, ⟨W, W1, W2, rfl⟩, rfl, hh3, hE3⟩
  have E3 := Lib.hid (E2.out.trans hE3); clear E2
  have F3 := Lib.hid (F2.out.trans hE3); clear F2 hE3
  have hlt3 := hh3.lt
  have hb3 : Below w3.heap.size w3 (w3.alloc (.cells #[.int .i64 45, .int .i64 90, .int .i64 W] 3)) := Below.alloc (Below.refl _ _) (Nat.le_refl _) _
  have H3 := Lib.hid (hh3.below hb3); clear hh3 H2
  go_wp2_with fail
  refine (Of_any _ hb (B + 1 + 1 + 1) a n c H3.out (by omega) 25 (some ⟨w3.heap.size, 0, none⟩) 3 [45, 90, W] (@ints_new w3 [45, 90, W]) (fun ad e => by cases e; simp; omega) (by simp)).mono ?_
  rintro e w4 ⟨_, ⟨Wd, hWd, rfl⟩, rfl, hh4, hE4⟩
  have hW1 : 1 ≤ Wd ∧ Wd ≤ 99 := by simp at hWd; omega
  have E4 := Lib.hid (E3.out.trans ((Ext.of_below hb3).trans hE4)); clear E3
  have F4 := Lib.hid (F3.out.trans ((Ext.of_below hb3).trans hE4)); clear F3 hE4 hb3 H3 hlt3 hWd W1 W2
  have hlt4 := hh4.lt
  have hb4 : Below w4.heap.size w4 (w4.alloc (.cells #[.int .i64 1, .int .i64 2, .int .i64 3, .int .i64 4] 3)) := Below.alloc (Below.refl _ _) (Nat.le_refl _) _
  have H4 := Lib.hid (hh4.below hb4); clear hh4
  go_wp2_with fail
  refine (Of_any _ hb (B + 1 + 1 + 1 + 1) a n c H4.out (by omega) 1 (some ⟨w4.heap.size, 0, none⟩) 4 [1, 2, 3, 4] (@ints_new w4 [1, 2, 3, 4]) (fun ad e => by cases e; simp; omega) (by simp)).mono ?_
  rintro e w5 ⟨_, ⟨K, hK, rfl⟩, rfl, hh5, hE5⟩
  have hK4 : K = 1 ∨ K = 2 ∨ K = 3 ∨ K = 4 := by simp at hK; omega
  have E5 := Lib.hid (E4.out.trans ((Ext.of_below hb4).trans hE5)); clear E4
  have F5 := Lib.hid (F4.out.trans ((Ext.of_below hb4).trans hE5)); clear F4 hE5 hb4 H4 hlt4 hK
  have H5 := Lib.hid hh5; clear hh5
  go_wp2_with fail
  have hb5 : Below w5.heap.size w5 (w5.alloc (.cells #[.int .i64 A, .int .i64 0, .int .i64 L, .int .i64 Wd, .int .i64 K, .int .i64 0, .int .i64 0] 63)) := Below.alloc (Below.refl _ _) (Nat.le_refl _) _
  have hSS : SS (w.alloc (.cells #[.int .i64 0, .int .i64 0, .int .i64 0, .int .i64 0, .int .i64 0, .int .i64 0, .int .i64 0] 63)) (w5.alloc (.cells #[.int .i64 A, .int .i64 0, .int .i64 L, .int .i64 Wd, .int .i64 K, .int .i64 0, .int .i64 0] 63)) hb (B + 1 + 1 + 1 + 1 + 1) w5.heap.size a n c ⟨A, 0, L, Wd, K, 0, 0⟩ :=
    ⟨⟨by simp, by simp, by simp, by simp, by simp, by simp, by simp⟩, fun k => by simp, H5.out.below hb5, F5.out.trans (Ext.of_below hb5), F5.out.size, by have := H5.out.lt; omega, by simp; omega⟩
  generalize hw6 : w5.alloc (.cells #[.int .i64 A, .int .i64 0, .int .i64 L, .int .i64 Wd, .int .i64 K, .int .i64 0, .int .i64 0] 63) = w6 at hSS
  generalize hp : w5.heap.size = p at hSS
  clear hp hw6 hb5 H5 E5 F5
  have hdr := hSS.drew
  obtain ⟨s0, s1, s2, s3, s4, s5, s6⟩ := hdr.strip
  have f1 := hdr.free 1
  simp only [Nat.zero_add] at s0 s1 s2 s3 s4 s5 s6
  have hpn := hSS.ne
  have HS := Lib.hid hdr; clear hdr hSS
  have q1 : IntKind.i64.wrap (S - 1) = S - 1 := IntWalk.i64_in _ (by omega)
  go_cut [24] (fun v24 wx => ∃ Bv, 0 ≤ Bv ∧ Bv < S ∧ Bv ≠ A ∧ SS (w.alloc (.cells #[.int .i64 0, .int .i64 0, .int .i64 0, .int .i64 0, .int .i64 0, .int .i64 0, .int .i64 0] 63)) wx hb (B + 6) p a n c ⟨A, Bv, L, Wd, K, 0, 0⟩)
  case first =>
    go_region_with (first | (go_at_call 25; refine (Among_any _ hb _ a n c HS.out.hand (by omega) 1 (S - 1) (by omega) (by omega) (by omega) (by omega)).mono ?_; rintro e w7 ⟨_, ⟨x, x1, x2, rfl⟩, rfl, hh, hE⟩; have hS7 := HS.out.call hh hE; have HS7 := Lib.hid hS7; obtain ⟨t0, t1, t2, t3, t4, t5, t6⟩ := hS7.strip; have g1 := hS7.free 1; clear hS7 hh hE; simp only [Nat.zero_add] at t0 t1; have q2 : IntKind.i64.wrap (A + x) = A + x := IntWalk.i64_in _ (by omega)))
    all_goals (go_wp2_with fail; go_meet)
    case rel => exact ⟨(A + x) % S, Int.emod_nonneg _ (by omega), Int.emod_lt_of_pos _ (by omega), turn_ne (by omega) (by omega) x1 (by omega) hS2, (HS7.out.setB _).more (by omega)⟩
    case rel => exact ⟨(A + x) % S, Int.emod_nonneg _ (by omega), Int.emod_lt_of_pos _ (by omega), turn_ne (by omega) (by omega) x1 (by omega) hS2, (HS7.out.setB _).more (by omega)⟩
  case rest =>
    obtain ⟨Bv, b1, b2, b3, hS⟩ := hcut
    clear s0 s1 s2 s3 s4 s5 s6 f1 HS q1
    obtain ⟨s0, s1, s2, s3, s4, s5, s6⟩ := hS.strip
    have f5 := hS.free 5
    have f6 := hS.free 6
    simp only [Nat.zero_add] at s0 s1 s2 s3 s4 s5 s6
    have HS := Lib.hid hS; clear hS
    go_upto_block 0 with (fail)
    go_cut [34] (fun v34 wx => ∃ s', StripOK D S s' ∧ SS (w.alloc (.cells #[.int .i64 0, .int .i64 0, .int .i64 0, .int .i64 0, .int .i64 0, .int .i64 0, .int .i64 0] 63)) wx hb (B + 20) p a n c s')
    case first =>
      obtain rfl | rfl | rfl | rfl := hK4
      · go_wp2_with fail
        go_meet
        case rel => exact ⟨_, ⟨A1, by show A < S; omega, b1, b2, fun e => b3 e.symm, L1, by show L ≤ 9; omega, hW1.1, hW1.2, .inl ⟨rfl, rfl, rfl⟩⟩, HS.out.more (by omega)⟩
      · go_wp2_with fail
        refine (Upto_any _ hb _ a n c HS.out.hand (by omega) (D - 1) (by omega) (by omega)).mono ?_
        rintro e w7 ⟨_, ⟨x, x1, x2, rfl⟩, rfl, hh, hE⟩
        have hS7 := HS.out.call hh hE
        have HS7 := Lib.hid hS7
        obtain ⟨t0, t1, t2, t3, t4, t5, t6⟩ := hS7.strip
        have g5 := hS7.free 5
        clear hS7 hh hE s0 s1 s2 s3 s4 s5 s6 f5 f6 HS
        simp only [Nat.zero_add] at t0 t1 t2 t3 t4 t5 t6
        go_wp2_with fail
        have hS7b := HS7.out.setX x
        have HS7b := Lib.hid hS7b; clear hS7b
        refine (Among_any _ hb _ a n c HS7b.out.hand (by omega) x (D - 1) (by omega) (by omega) (by omega) (by omega)).mono ?_
        rintro e w8 ⟨_, ⟨y, y1, y2, rfl⟩, rfl, hh, hE⟩
        clear t0 t1 t2 t3 t4 t5 t6 g5
        have hS8 := HS7b.out.call hh hE
        have HS8 := Lib.hid hS8
        obtain ⟨t0, t1, t2, t3, t4, t5, t6⟩ := hS8.strip
        have g5 := hS8.free 5
        have g6 := hS8.free 6
        clear hS8 hh hE
        simp only [Nat.zero_add] at t0 t1 t2 t3 t4 t5 t6
        go_wp2_with fail
        go_meet
        case rel => exact ⟨_, ⟨A1, by show A < S; omega, b1, b2, fun e => b3 e.symm, L1, by show L ≤ 9; omega, hW1.1, hW1.2, .inr (.inl ⟨rfl, x1, y1, by show y < D; omega⟩)⟩, (HS8.out.setY y).more (by omega)⟩
      · go_wp2_with fail
        refine (Among_any _ hb _ a n c HS.out.hand (by omega) 4 13 (by omega) (by omega) (by omega) (by omega)).mono ?_
        rintro e w7 ⟨_, ⟨x, x1, x2, rfl⟩, rfl, hh, hE⟩
        have HS7 := Lib.hid (HS.out.call hh hE)
        clear hh hE s0 s1 s2 s3 s4 s5 s6 f5 f6 HS
        go_wp2_with fail
        refine (Among_any _ hb _ a n c HS7.out.hand (by omega) (-2) 2 (by omega) (by omega) (by omega) (by omega)).mono ?_
        rintro e w8 ⟨_, ⟨y, y1, y2, rfl⟩, rfl, hh, hE⟩
        have hS8 := HS7.out.call hh hE
        have HS8 := Lib.hid hS8
        obtain ⟨t0, t1, t2, t3, t4, t5, t6⟩ := hS8.strip
        have g5 := hS8.free 5
        have g6 := hS8.free 6
        clear hS8 hh hE
        simp only [Nat.zero_add] at t0 t1 t2 t3 t4 t5 t6
        go_wp2_with fail
        go_meet
        case rel => exact ⟨_, ⟨A1, by show A < S; omega, b1, b2, fun e => b3 e.symm, L1, by show L ≤ 9; omega, hW1.1, hW1.2, .inr (.inr (.inl ⟨rfl, by show 0 ≤ x; omega, by show x ≤ 20; omega, by show -5 ≤ y; omega, by show y ≤ 5; omega⟩))⟩, ((HS8.out.setX x).setY y).more (by omega)⟩
      · go_wp2_with fail
        refine (Among_any _ hb _ a n c HS.out.hand (by omega) 1 40 (by omega) (by omega) (by omega) (by omega)).mono ?_
        rintro e w7 ⟨_, ⟨x, x1, x2, rfl⟩, rfl, hh, hE⟩
        have hS7 := HS.out.call hh hE
        have hlt7 := hh.lt
        have hb7 : Below w7.heap.size w7 (w7.alloc (.cells #[.int .i64 25, .int .i64 x] 3)) := Below.alloc (Below.refl _ _) (Nat.le_refl _) _
        have HS7 := Lib.hid (hS7.call (hS7.hand.below hb7) (Ext.of_below hb7))
        clear hS7 hh hE hb7 s0 s1 s2 s3 s4 s5 s6 f5 f6 HS
        go_wp2_with fail
        refine (Of_any _ hb _ a n c HS7.out.hand (by omega) 10 (some ⟨w7.heap.size, 0, none⟩) 2 [25, x] (@ints_new w7 [25, x]) (fun ad e => by cases e; simp; omega) (by simp)).mono ?_
        rintro e w8 ⟨_, ⟨y, hy, rfl⟩, rfl, hh, hE⟩
        have hy2 : 1 ≤ y ∧ y ≤ 40 := by simp at hy; omega
        clear hy
        have hS8 := HS7.out.call hh hE
        have HS8 := Lib.hid hS8
        obtain ⟨t0, t1, t2, t3, t4, t5, t6⟩ := hS8.strip
        have g5 := hS8.free 5
        have g6 := hS8.free 6
        clear hS8 hh hE
        simp only [Nat.zero_add] at t0 t1 t2 t3 t4 t5 t6
        go_wp2_with fail
        go_meet
        case rel => exact ⟨_, ⟨A1, by show A < S; omega, b1, b2, fun e => b3 e.symm, L1, by show L ≤ 9; omega, hW1.1, hW1.2, .inr (.inr (.inr ⟨rfl, hy2.1, hy2.2, rfl⟩))⟩, (HS8.out.setX y).more (by omega)⟩
    case rest =>
      obtain ⟨s', hok, hS'⟩ := hcut
      clear s0 s1 s2 s3 s4 s5 s6 f5 f6 HS
      obtain ⟨s0, s1, s2, s3, s4, s5, s6⟩ := hS'.strip
      simp only [Nat.zero_add] at s0 s1 s2 s3 s4 s5 s6
      have hne : w.heap.size ≠ hb := by omega
      have r0 := hS'.ext.cell_ne (b := w.heap.size) (o := 0) (v := .int .i64 0) (by simp) hne
      have r1 := hS'.ext.cell_ne (b := w.heap.size) (o := 1) (v := .int .i64 0) (by simp) hne
      have r2 := hS'.ext.cell_ne (b := w.heap.size) (o := 2) (v := .int .i64 0) (by simp) hne
      have r3 := hS'.ext.cell_ne (b := w.heap.size) (o := 3) (v := .int .i64 0) (by simp) hne
      have r4 := hS'.ext.cell_ne (b := w.heap.size) (o := 4) (v := .int .i64 0) (by simp) hne
      have r5 := hS'.ext.cell_ne (b := w.heap.size) (o := 5) (v := .int .i64 0) (by simp) hne
      have r6 := hS'.ext.cell_ne (b := w.heap.size) (o := 6) (v := .int .i64 0) (by simp) hne
      have z0 := hS'.ext.frozen_ne (b := w.heap.size) (o := 0) (by simp) hne
      have z1 := hS'.ext.frozen_ne (b := w.heap.size) (o := 1) (by simp) hne
      have z2 := hS'.ext.frozen_ne (b := w.heap.size) (o := 2) (by simp) hne
      have z3 := hS'.ext.frozen_ne (b := w.heap.size) (o := 3) (by simp) hne
      have z4 := hS'.ext.frozen_ne (b := w.heap.size) (o := 4) (by simp) hne
      have z5 := hS'.ext.frozen_ne (b := w.heap.size) (o := 5) (by simp) hne
      have z6 := hS'.ext.frozen_ne (b := w.heap.size) (o := 6) (by simp) hne
      rw [World.frozen?_alloc_at _ _ _ _ rfl] at z0 z1 z2 z3 z4 z5 z6
      have HS' := Lib.hid hS'; clear hS'
      have HOK := Lib.hid hok; clear hok
      go_wp2_with fail
      have hall := heap7 wc w.heap.size (.int .i64 s'.A) (.int .i64 s'.B) (.int .i64 s'.L) (.int .i64 s'.W) (.int .i64 s'.K) (.int .i64 s'.X) (.int .i64 s'.Y)
      obtain ⟨e0, e1, e2, e3, e4, e5, e6⟩ := cells7 wc w.heap.size (.int .i64 s'.A) (.int .i64 s'.B) (.int .i64 s'.L) (.int .i64 s'.W) (.int .i64 s'.K) (.int .i64 s'.X) (.int .i64 s'.Y) _ _ _ _ _ _ _ r0 r1 r2 r3 r4 r5 r6
      have hB7 := below7 wc w.heap.size (.int .i64 s'.A) (.int .i64 s'.B) (.int .i64 s'.L) (.int .i64 s'.W) (.int .i64 s'.K) (.int .i64 s'.X) (.int .i64 s'.Y)
      have hE0 : Ext hb w wc := (Ext.of_below (Below.alloc (Below.refl _ _) (Nat.le_refl _) _)).trans HS'.out.ext
      have hsz : ((((((((wc.setCell ⟨w.heap.size, 0, none⟩ (.int .i64 s'.A)).setCell ⟨w.heap.size, 1, none⟩ (.int .i64 s'.B)).setCell ⟨w.heap.size, 2, none⟩ (.int .i64 s'.L)).setCell ⟨w.heap.size, 3, none⟩ (.int .i64 s'.W)).setCell ⟨w.heap.size, 4, none⟩ (.int .i64 s'.K)).setCell ⟨w.heap.size, 5, none⟩ (.int .i64 s'.X)).setCell ⟨w.heap.size, 6, none⟩ (.int .i64 s'.Y))).heap.size = wc.heap.size := by simp
      have hEF : Ext hb w ((((((((wc.setCell ⟨w.heap.size, 0, none⟩ (.int .i64 s'.A)).setCell ⟨w.heap.size, 1, none⟩ (.int .i64 s'.B)).setCell ⟨w.heap.size, 2, none⟩ (.int .i64 s'.L)).setCell ⟨w.heap.size, 3, none⟩ (.int .i64 s'.W)).setCell ⟨w.heap.size, 4, none⟩ (.int .i64 s'.K)).setCell ⟨w.heap.size, 5, none⟩ (.int .i64 s'.X)).setCell ⟨w.heap.size, 6, none⟩ (.int .i64 s'.Y))) :=
        ⟨hB7.os.trans hE0.os, hB7.tape.trans hE0.tape, hB7.output.trans hE0.output, by rw [hsz]; exact hE0.size, fun b h1 h2 => (hall b (by omega)).trans (hE0.block b h1 h2)⟩
      have hHF := HS'.out.hand.keep (fun b _ h2 => hall b (by omega))
      clear hall hE0 hsz r0 r1 r2 r3 r4 r5 r6 z0 z1 z2 z3 z4 z5 z6
      generalize ((((((((wc.setCell ⟨w.heap.size, 0, none⟩ (.int .i64 s'.A)).setCell ⟨w.heap.size, 1, none⟩ (.int .i64 s'.B)).setCell ⟨w.heap.size, 2, none⟩ (.int .i64 s'.L)).setCell ⟨w.heap.size, 3, none⟩ (.int .i64 s'.W)).setCell ⟨w.heap.size, 4, none⟩ (.int .i64 s'.K)).setCell ⟨w.heap.size, 5, none⟩ (.int .i64 s'.X)).setCell ⟨w.heap.size, 6, none⟩ (.int .i64 s'.Y))) = wF at e0 e1 e2 e3 e4 e5 e6 hEF hHF ⊢
      refine bodyPost_ret (v := s'.val) ?_ rfl ⟨_, ⟨s', HOK.out, rfl⟩, rfl, hHF, hEF⟩
      clear hEF hHF HS' HOK s0 s1 s2 s3 s4 s5 s6
      simp [results, Tryz.results27, go_sem, e0, e1, e2, e3, e4, e5, e6, Strip.val]
end Go.Proofs.YtmkjeonjhedgkaaGreatDoor
