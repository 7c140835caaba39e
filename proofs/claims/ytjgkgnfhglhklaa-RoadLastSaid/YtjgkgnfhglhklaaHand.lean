/- The contracts of the hand: pull, Upto, Among, Of. -/
import Derived.Test.YtjgkgnfhglhklaaSpots
import Derived.Test.YtjgkgnfhglhklaaMemo
namespace Go.Proofs.Ytjgkgnfhglhklaa
set_option linter.unusedSimpArgs false
set_option linter.unusedVariables false
open Go.RowKit

/-- A hand at block hb that has dealt at most B numbers. -/
structure HandAt (w : World) (hb B : Nat) (a : Option Addr) (n c : Nat) : Prop where
  c0 : w.cell? ⟨hb, 0, none⟩ = some (.slice a n c)
  c1 : ∃ k : Nat, k ≤ B ∧ w.cell? ⟨hb, 1, none⟩ = some (.int .i64 k)
  c2 : ∃ s : Int, 0 ≤ s ∧ s < 18446744073709551616 ∧ w.cell? ⟨hb, 2, none⟩ = some (.int .u64 s)
  f1 : w.frozen? ⟨hb, 1, none⟩ = false
  f2 : w.frozen? ⟨hb, 2, none⟩ = false
  nums : ∃ l : List Int, l.length = n ∧ IntsAt w a l ∧ (l = [] ∨ ∀ ad, a = some ad → ad.block < hb)
  len : n ≤ maxLen

theorem xor_range (a b : Int) : 0 ≤ bits .xor .u64 a b ∧ bits .xor .u64 a b < 18446744073709551616 := by
  show 0 ≤ IntKind.u64.wrap _ ∧ IntKind.u64.wrap _ < _
  rw [IntKind.wrap_u64]; omega
theorem div_range {a : Int} (h : 0 ≤ a ∧ a < 18446744073709551616) : 0 ≤ a / 2048 ∧ a / 2048 ≤ 9007199254740991 := by omega
theorem wrap_range (a : Int) : 0 ≤ IntKind.u64.wrap a ∧ IntKind.u64.wrap a < 18446744073709551616 := by rw [IntKind.wrap_u64]; omega

theorem HandAt.nums_keep {w w' : World} {hb : Nat} {a : Option Addr} {n : Nat} (h : ∃ l : List Int, l.length = n ∧ IntsAt w a l ∧ (l = [] ∨ ∀ ad, a = some ad → ad.block < hb)) (hk : ∀ b, b < w.heap.size → b < hb → w'.heap[b]? = w.heap[b]?) :
    ∃ l : List Int, l.length = n ∧ IntsAt w' a l ∧ (l = [] ∨ ∀ ad, a = some ad → ad.block < hb) := by
  obtain ⟨l, h1, h2, h3⟩ := h
  refine ⟨l, h1, ?_, h3⟩
  rcases h3 with h3 | h3
  · exact .inl h3
  rcases h2 with h2 | ⟨b, o, ha, hc⟩
  · exact .inl h2
  · have hlt := h3 _ ha
    exact .inr ⟨b, o, ha, fun i hi => (World.cell?_of_block (hk b (lt_of_cell (hc i hi)) hlt)).trans (hc i hi)⟩
theorem HandAt.keep {w w' : World} {hb B : Nat} {a : Option Addr} {n c : Nat} (h : HandAt w hb B a n c) (hk : ∀ b, b < w.heap.size → b ≤ hb → w'.heap[b]? = w.heap[b]?) : HandAt w' hb B a n c := by
  obtain ⟨c0, ⟨k, hk1, c1⟩, ⟨s, s1, s2, c2⟩, f1, f2, hnums, hn⟩ := h
  have e := hk hb (lt_of_cell c0) (Nat.le_refl _)
  exact ⟨(World.cell?_of_block e).trans c0, ⟨k, hk1, (World.cell?_of_block e).trans c1⟩, ⟨s, s1, s2, (World.cell?_of_block e).trans c2⟩, (World.frozen?_of_block e).trans f1, (World.frozen?_of_block e).trans f2,
    HandAt.nums_keep hnums fun b h1 h2 => hk b h1 (by omega), hn⟩
theorem HandAt.below {w w' : World} {hb B : Nat} {a : Option Addr} {n c : Nat} (h : HandAt w hb B a n c) (hb' : Below w.heap.size w w') : HandAt w' hb B a n c := h.keep fun b h1 _ => hb'.block b h1
theorem HandAt.more {w : World} {hb B B' : Nat} {a : Option Addr} {n c : Nat} (h : HandAt w hb B a n c) (hB : B ≤ B') : HandAt w hb B' a n c :=
  ⟨h.c0, let ⟨k, hk, c1⟩ := h.c1; ⟨k, by omega, c1⟩, h.c2, h.f1, h.f2, h.nums, h.len⟩
theorem HandAt.lt {w : World} {hb B : Nat} {a : Option Addr} {n c : Nat} (h : HandAt w hb B a n c) : hb < w.heap.size := lt_of_cell h.c0

/-- What a draw from the hand leaves. -/
def Dealt (w : World) (hb B : Nat) (a : Option Addr) (n c : Nat) (P : Value → Prop) (e : Ending) (w' : World) : Prop := ∃ v, P v ∧ e = .returned v ∧ HandAt w' hb B a n c ∧ Ext hb w w'

theorem hand_pulled {w : World} {hb B : Nat} {a : Option Addr} {n c k : Nat} (h : HandAt w hb B a n c) (hk : k ≤ B) (q : Nat) (s : Int) (h1 : 0 ≤ s) (h2 : s < 18446744073709551616) :
    HandAt (((w.drewN q).setCell ⟨hb, 1, none⟩ (.int .i64 ((k : Int) + 1))).setCell ⟨hb, 2, none⟩ (.int .u64 s)) hb (B + 1) a n c ∧ Ext hb w (((w.drewN q).setCell ⟨hb, 1, none⟩ (.int .i64 ((k : Int) + 1))).setCell ⟨hb, 2, none⟩ (.int .u64 s)) := by
  obtain ⟨c0, ⟨k', hk', c1⟩, ⟨s', _, _, c2⟩, f1, f2, hnums, hn⟩ := h
  have ho : ∀ b, b ≠ hb → (((w.drewN q).setCell ⟨hb, 1, none⟩ (.int .i64 ((k : Int) + 1))).setCell ⟨hb, 2, none⟩ (.int .u64 s)).heap[b]? = w.heap[b]? := fun b hne => by
    rw [Below.heap_setCell _ ⟨hb, 2, none⟩ _ b hne, Below.heap_setCell _ ⟨hb, 1, none⟩ _ b hne]; simp
  refine ⟨⟨?_, ⟨k + 1, by omega, ?_⟩, ⟨s, h1, h2, ?_⟩, ?_, ?_, HandAt.nums_keep hnums fun b _ hb' => ho b (by omega), hn⟩, ⟨(below_drewN (Below.refl 0 w) q).os, (below_drewN (Below.refl 0 w) q).tape, (below_drewN (Below.refl 0 w) q).output, by simp, fun b _ hne => ho b hne⟩⟩
  · rw [World.cell?_setCell_other _ _ _ _ (by simp), World.cell?_setCell_other _ _ _ _ (by simp)]; simpa using c0
  · rw [World.cell?_setCell_other _ _ _ _ (by simp)]; exact World.cell?_setCell_same _ _ _ (u := .int .i64 k') (by simpa using c1)
  · exact World.cell?_setCell_same _ _ _ (u := .int .u64 s') (by rw [World.cell?_setCell_other _ _ _ _ (by simp)]; simpa using c2)
  · rw [World.frozen?_setCell, World.frozen?_setCell]; simpa using f1
  · rw [World.frozen?_setCell, World.frozen?_setCell]; simpa using f2

set_option maxRecDepth 100000 in
set_option maxHeartbeats 4000000 in
theorem pull_any (w : World) (hb B : Nat) (a : Option Addr) (n c : Nat) (h : HandAt w hb B a n c) (hB : B ≤ 1000000) :
    Calls Try.prog 83 #[.pointer (some ⟨hb, 0, none⟩)] w (Dealt w hb (B + 1) a n c fun v => ∃ x : Int, 0 ≤ x ∧ x ≤ 9007199254740991 ∧ v = .int .u64 x) := by
  have H := Lib.hid h
  obtain ⟨c0, ⟨k, hk, c1⟩, ⟨s, s1, s2, c2⟩, f1, f2, hnums, hn⟩ := h
  have HN := Lib.hid hnums; clear hnums
  unfold maxLen at hn
  by_cases hlt : k < n
  · obtain ⟨l, hl1, hl2, hl3⟩ := HN.out
    have hlt' : decide ((k : Int) < (n : Int)) = true := decide_eq_true (by omega)
    have hkl : k < l.length := by omega
    rcases hl2 with hz | ⟨b, o, rfl, hc⟩
    · rw [hz] at hkl; simp at hkl
    have hx := hc k hkl
    generalize l[k] = x at hx
    have q1 : (0 : Int) ≤ (k : Int) := by omega
    have q2 : (k : Int) < (n : Int) := by omega
    clear hl1 hl3 hkl hc
    go_enter Try.func83, Try.ntmps83
    go_wp2_with fail
    go_quiet (fail)
    go_wp2_with fail
    go_quiet (fail)
    go_wp2_with fail
    go_ret
    obtain ⟨h1, h2⟩ := hand_pulled H.out hk _ _ (wrap_range _).1 (wrap_range _).2
    exact ⟨_, ⟨_, (div_range (xor_range _ _)).1, (div_range (xor_range _ _)).2, rfl⟩, rfl, h1, h2⟩
  · have hlt' : decide ((k : Int) < (n : Int)) = false := decide_eq_false (by omega)
    go_enter Try.func83, Try.ntmps83
    go_wp2_with fail
    go_quiet (fail)
    go_wp2_with fail
    go_ret
    obtain ⟨h1, h2⟩ := hand_pulled H.out hk _ _ (wrap_range _).1 (wrap_range _).2
    exact ⟨_, ⟨_, (div_range (xor_range _ _)).1, (div_range (xor_range _ _)).2, rfl⟩, rfl, h1, h2⟩

set_option maxHeartbeats 2000000 in
theorem Upto_any (w : World) (hb B : Nat) (a : Option Addr) (n c : Nat) (h : HandAt w hb B a n c) (hB : B ≤ 1000000) (most : Int) (hm1 : -1000000 ≤ most) (hm2 : most ≤ 1000000) :
    Calls Try.prog 34 #[.pointer (some ⟨hb, 0, none⟩), .int .i64 most] w (Dealt w hb (B + 1) a n c fun v => ∃ x : Int, 0 ≤ x ∧ x ≤ max most 0 ∧ v = .int .i64 x) := by
  have H := Lib.hid h; clear h
  by_cases hm : most ≤ 0
  · go_enter Try.func34, Try.ntmps34
    go_wp2_with fail
    go_ret
    exact ⟨_, ⟨0, by omega, by omega, rfl⟩, rfl, H.out.more (by omega), Ext.refl _ _⟩
  · go_enter Try.func34, Try.ntmps34
    go_wp2_with fail
    refine (pull_any w hb B a n c H.out hB).mono ?_
    rintro e w1 ⟨_, ⟨x, x1, x2, rfl⟩, rfl, hh, hE⟩
    have HH := Lib.hid hh; clear hh
    have HE := Lib.hid hE; clear hE
    go_wp2_with fail
    go_ret
    have r1 : 0 ≤ x % (most + 1) := Int.emod_nonneg _ (by omega)
    have r2 : x % (most + 1) < most + 1 := Int.emod_lt_of_pos _ (by omega)
    exact ⟨_, ⟨wrap64 (x % (most + 1)), by unfold wrap64; omega, by unfold wrap64; omega, rfl⟩, rfl, HH.out, HE.out⟩

set_option maxHeartbeats 2000000 in
theorem Among_any (w : World) (hb B : Nat) (a : Option Addr) (n c : Nat) (h : HandAt w hb B a n c) (hB : B ≤ 1000000) (least most : Int) (h1 : -1000 ≤ least) (h2 : least ≤ 1000) (h3 : -1000 ≤ most) (h4 : most ≤ 1000) :
    Calls Try.prog 36 #[.pointer (some ⟨hb, 0, none⟩), .int .i64 least, .int .i64 most] w (Dealt w hb (B + 1) a n c fun v => ∃ x : Int, least ≤ x ∧ x ≤ max most least ∧ v = .int .i64 x) := by
  have H := Lib.hid h; clear h
  go_enter Try.func36, Try.ntmps36
  go_wp2_with fail
  refine (Upto_any w hb B a n c H.out hB (most - least) (by omega) (by omega)).mono ?_
  rintro e w1 ⟨_, ⟨x, x1, x2, rfl⟩, rfl, hh, hE⟩
  have HH := Lib.hid hh; clear hh
  have HE := Lib.hid hE; clear hE
  have x3 : x ≤ 2000 := by omega
  go_wp2_with fail
  go_ret
  exact ⟨_, ⟨least + x, by omega, by omega, rfl⟩, rfl, HH.out, HE.out⟩

set_option maxHeartbeats 2000000 in
theorem Of_any (w : World) (hb B : Nat) (a : Option Addr) (n c : Nat) (h : HandAt w hb B a n c) (hB : B ≤ 1000000) (first : Int) (oa : Option Addr) (oc : Nat) (l : List Int) (hl : IntsAt w oa l) (ho : ∀ ad, oa = some ad → ad.block ≠ hb) (hlen : l.length ≤ 100) :
    Calls Try.prog 82 #[.pointer (some ⟨hb, 0, none⟩), .int .i64 first, .slice oa l.length oc] w (Dealt w hb (B + 1) a n c fun v => ∃ x : Int, x ∈ first :: l ∧ v = .int .i64 x) := by
  have H := Lib.hid h; clear h
  have HL := Lib.hid hl; clear hl
  have HO := Lib.hid ho; clear ho
  go_enter Try.func82, Try.ntmps82
  go_wp2_with fail
  refine (Upto_any w hb B a n c H.out hB l.length (by omega) (by omega)).mono ?_
  rintro e w1 ⟨_, ⟨x, x1, x2, rfl⟩, rfl, hh, hE⟩
  have HH := Lib.hid hh; clear hh
  by_cases hx : 0 < x
  · obtain ⟨k, hk⟩ : ∃ k : Nat, x = (k : Int) + 1 := ⟨(x - 1).toNat, by omega⟩
    have hkl : k < l.length := by omega
    rcases HL.out with hz | ⟨b, o, hoa, hc⟩
    · rw [hz] at hkl; simp at hkl
    have hck := hc k hkl
    have hne := HO.out _ hoa
    have hc1 := (World.cell?_of_block (hE.block b (lt_of_cell hck) hne)).trans hck
    have hmem : l[k] ∈ first :: l := List.mem_cons_of_mem _ (List.getElem_mem hkl)
    generalize l[k] = y at hc1 hmem
    have HM := Lib.hid hmem; clear hmem hck hc
    have HE := Lib.hid hE; clear hE
    subst hk hoa
    have q1 : (k : Int) < (l.length : Int) := by omega
    go_wp2_with fail
    go_ret
    exact ⟨_, ⟨y, HM.out, rfl⟩, rfl, HH.out, HE.out⟩
  · have HE := Lib.hid hE; clear hE
    go_wp2_with fail
    go_ret
    exact ⟨_, ⟨first, by simp, rfl⟩, rfl, HH.out, HE.out⟩

theorem there_any (w : World) (d b : Int) : Calls Try.prog 35 #[.int .i64 d, .int .i64 b] w fun e w' => e = .returned (.bool (decide (0 ≤ d) && decide (d ≤ b))) ∧ w = w' := by
  by_cases h : 0 ≤ d
  · go_enter Try.func35, Try.ntmps35
    go_wp2_with fail
    go_ret
    exact ⟨ret_bool (by simp [h]), rfl⟩
  · have h' : decide (0 ≤ d) = false := decide_eq_false h
    go_enter Try.func35, Try.ntmps35
    go_wp2_with fail
    go_ret
    exact ⟨ret_bool (by simp [h]), rfl⟩
end Go.Proofs.Ytjgkgnfhglhklaa
