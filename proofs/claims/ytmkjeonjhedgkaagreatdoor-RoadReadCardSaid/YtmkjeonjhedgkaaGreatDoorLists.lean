/- The lists of so many of the numbers below n, in order: plain laws. The contract of the iterator that lists makes. The law of 'for l := range lists(n, many) { .. }' with a body that goes on or breaks. A region that draws its order, in a round's frame, by the laws for plain frames. Over any program. -/
import Derived.Test.YtmkjeonjhedgkaaGreatDoorWidened
import Derived.RangeFuncNested
import Derived.RangeFuncBound
import Derived.RangeFuncCalls
import Derived.RangeFuncLeaves
import Derived.Shelf.Abstract
import Derived.Shelf.RegionOpen
import Derived.OwnWalkIn
import Derived.TacticsInMore
import Derived.LoopNIn
import Derived.LoopIn
import Derived.Deep.OwnRows
import Derived.Sort.LoopGhostIn
import Derived.Sort.QuietIn
import Derived.OrdersHeld
import Derived.OrdersIn
namespace Go.Proofs.YtmkjeonjhedgkaaGreatDoor
set_option linter.unusedSimpArgs false
set_option linter.unusedVariables false

/-- The list behind an ascending list of numbers below n. -/
def nextR (n : Nat) : List Int → Option (List Int)
  | [] => none
  | x :: l => match nextR n l with
    | some l' => some (x :: l')
    | none => if x + (l.length : Int) + 1 < n then some ((List.range (l.length + 1)).map fun i : Nat => x + 1 + (i : Int)) else none

/-- An ascending list of m of the numbers below n, as far as the walk wants to know. -/
structure InL (n m : Nat) (l : List Int) : Prop where
  len : l.length = m
  lo : ∀ (j : Nat) (h : j < l.length), (j : Int) ≤ l[j]
  hi : ∀ (j : Nat) (h : j < l.length), l[j] ≤ (n : Int) - m + j

theorem next_none {n : Nat} : ∀ (l : List Int), (∀ (j : Nat) (h : j < l.length), l[j] = (n : Int) - l.length + j) → nextR n l = none
  | [], _ => rfl
  | x :: l, h => by
    have h1 := next_none (n := n) l (fun j hj => by
      have := h (j + 1) (by simp; omega)
      simp only [List.getElem_cons_succ, List.length_cons] at this
      omega)
    have h0 := h 0 (by simp)
    simp only [List.getElem_cons_zero, List.length_cons] at h0
    rw [nextR, h1]
    dsimp only
    rw [if_neg (by omega)]
theorem next_some {n : Nat} : ∀ (l : List Int) (k : Nat) (hk : k < l.length), l[k] < (n : Int) - l.length + k → (∀ (j : Nat) (h : j < l.length), k < j → l[j] = (n : Int) - l.length + j) →
    nextR n l = some (l.take k ++ (List.range (l.length - k)).map fun i : Nat => l[k] + 1 + (i : Int))
  | [], k, hk, _, _ => by simp at hk
  | x :: l, 0, hk, h0, h => by
    have h1 := next_none (n := n) l (fun j hj => by
      have := h (j + 1) (by simp; omega) (by omega)
      simp only [List.getElem_cons_succ, List.length_cons] at this
      omega)
    simp only [List.getElem_cons_zero, List.length_cons] at h0
    rw [nextR, h1]
    dsimp only
    rw [if_pos (by omega)]
    simp
  | x :: l, k + 1, hk, h0, h => by
    simp only [List.getElem_cons_succ, List.length_cons] at h0
    have h1 := next_some (n := n) l k (by simpa using hk) (by omega) (fun j hj hlt => by
      have := h (j + 1) (by simp; omega) (by omega)
      simp only [List.getElem_cons_succ, List.length_cons] at this
      omega)
    rw [nextR, h1]
    simp

/-- Lists one behind the other; none is behind the last. -/
inductive Enum (n : Nat) : List (List Int) → Prop
  | one (l : List Int) : nextR n l = none → Enum n [l]
  | cons (l l' : List Int) (L : List (List Int)) : nextR n l = some l' → Enum n (l' :: L) → Enum n (l :: l' :: L)

def picksF (n : Nat) : Nat → Nat → List (List Int)
  | 0, _ => [[]]
  | m + 1, first => (List.range' first (n - first)).flatMap fun i => (picksF n m (i + 1)).map ((i : Int) :: ·)

theorem picks_cons {n m first : Nat} (h : first < n) : picksF n (m + 1) first = (picksF n m (first + 1)).map ((first : Int) :: ·) ++ picksF n (m + 1) (first + 1) := by
  have e : n - first = (n - (first + 1)) + 1 := by omega
  simp only [picksF]
  rw [e, List.range'_succ, List.flatMap_cons]
theorem picks_end {n m first : Nat} (h : n ≤ first) : picksF n (m + 1) first = [] := by
  simp only [picksF]
  rw [show n - first = 0 by omega]; rfl
theorem picks_none {n : Nat} : ∀ (m first : Nat), n < first + (m + 1) → picksF n (m + 1) first = []
  | 0, first, h => picks_end (by omega)
  | m + 1, first, h => by
    rw [picksF]
    refine List.flatMap_eq_nil_iff.2 fun i hi => ?_
    rw [picks_none m (i + 1) (by have := (List.mem_range'_1.1 hi).1; omega)]
    rfl

theorem enum_block {n m : Nat} {x : Int} {R : List (List Int)} (hR : (R = [] ∧ ¬ x + (m : Int) + 1 < n) ∨ (Enum n R ∧ R.head? = some ((List.range (m + 1)).map fun i : Nat => x + 1 + (i : Int)) ∧ x + (m : Int) + 1 < n)) :
    ∀ {L : List (List Int)}, Enum n L → (∀ l ∈ L, l.length = m) → Enum n (L.map (x :: ·) ++ R) := by
  intro L hL
  induction hL with
  | one l hn =>
    intro hl
    have hlm := hl l (by simp)
    rcases hR with ⟨rfl, hx⟩ | ⟨hE, hh, hx⟩
    · exact .one _ (by rw [nextR, hn]; dsimp only; rw [hlm, if_neg hx])
    · cases R with
      | nil => simp at hh
      | cons r R =>
        simp only [List.head?_cons, Option.some.injEq] at hh
        refine .cons _ _ _ ?_ hE
        rw [nextR, hn, hh]; dsimp only; rw [hlm, if_pos hx]
  | cons l l' L hn _ ih =>
    intro hl
    refine .cons _ _ _ ?_ (ih fun y hy => hl y (by simp [List.mem_cons.1 hy]))
    rw [nextR, hn]

theorem picks_len {n : Nat} : ∀ (m first : Nat), ∀ l ∈ picksF n m first, l.length = m
  | 0, first, l, h => by simp [picksF] at h; subst h; rfl
  | m + 1, first, l, h => by
    simp only [picksF, List.mem_flatMap, List.mem_map] at h
    obtain ⟨i, _, a, ha, rfl⟩ := h
    simp [picks_len m (i + 1) a ha]

theorem picks_enum {n : Nat} : ∀ (m first : Nat), first + m ≤ n → Enum n (picksF n m first) ∧ (picksF n m first).head? = some ((List.range m).map fun i : Nat => (first : Int) + (i : Int))
  | 0, first, _ => ⟨.one [] rfl, rfl⟩
  | m + 1, first, h => by
    have key : ∀ d first, first + (m + 1) + d = n → Enum n (picksF n (m + 1) first) ∧ (picksF n (m + 1) first).head? = some ((List.range (m + 1)).map fun i : Nat => (first : Int) + (i : Int)) := by
      intro d
      induction d with
      | zero =>
        intro first hd
        obtain ⟨h1, h2⟩ := picks_enum (n := n) m (first + 1) (by omega)
        rw [picks_cons (n := n) (first := first) (by omega), picks_none (n := n) m (first + 1) (by omega)]
        refine ⟨enum_block (m := m) (.inl ⟨rfl, by omega⟩) h1 (picks_len m (first + 1)), ?_⟩
        rw [List.append_nil, List.head?_map, h2]
        simp only [Option.map_some, List.range_succ_eq_map, List.map_cons, List.map_map, Option.some.injEq, List.cons.injEq]
        refine ⟨by simp, List.map_congr_left fun i _ => ?_⟩
        simp; omega
      | succ d ih =>
        intro first hd
        obtain ⟨h1, h2⟩ := picks_enum (n := n) m (first + 1) (by omega)
        obtain ⟨h3, h4⟩ := ih (first + 1) (by omega)
        rw [picks_cons (n := n) (first := first) (by omega)]
        refine ⟨enum_block (m := m) (.inr ⟨h3, ?_, by omega⟩) h1 (picks_len m (first + 1)), ?_⟩
        · rw [h4]; simp
        · rw [List.head?_append, List.head?_map, h2]
          simp only [Option.map_some, Option.some_or, List.range_succ_eq_map, List.map_cons, List.map_map, Option.some.injEq, List.cons.injEq]
          refine ⟨by simp, List.map_congr_left fun i _ => ?_⟩
          simp; omega
    exact key (n - first - (m + 1)) first (by omega)

theorem picks_lo {n : Nat} : ∀ (m first : Nat) (l : List Int), l ∈ picksF n m first → ∀ (j : Nat) (h : j < l.length), (first : Int) + j ≤ l[j]
  | 0, first, l, hl => by simp [picksF] at hl; subst hl; simp
  | m + 1, first, l, hl => by
    simp only [picksF, List.mem_flatMap, List.mem_map] at hl
    obtain ⟨i, hi, a, ha, rfl⟩ := hl
    have hi1 := (List.mem_range'_1.1 hi).1
    intro j h
    cases j with
    | zero => simp; omega
    | succ j =>
      have := picks_lo m (i + 1) a ha j (by simpa using h)
      simp only [List.getElem_cons_succ]
      omega
theorem picks_hi {n : Nat} : ∀ (m first : Nat) (l : List Int), l ∈ picksF n m first → ∀ (j : Nat) (h : j < l.length), l[j] ≤ (n : Int) - m + j
  | 0, first, l, hl => by simp [picksF] at hl; subst hl; simp
  | m + 1, first, l, hl => by
    simp only [picksF, List.mem_flatMap, List.mem_map] at hl
    obtain ⟨i, hi, a, ha, rfl⟩ := hl
    have hi2 := (List.mem_range'_1.1 hi).2
    have hi1 := (List.mem_range'_1.1 hi).1
    intro j h
    cases j with
    | zero =>
      cases m with
      | zero => simp; omega
      | succ m =>
        have hlen := picks_len (m + 1) (i + 1) a ha
        have h1 := picks_lo (m + 1) (i + 1) a ha m (by omega)
        have h2 := picks_hi (m + 1) (i + 1) a ha m (by omega)
        simp only [List.getElem_cons_zero]
        omega
    | succ j =>
      have := picks_hi m (i + 1) a ha j (by simpa using h)
      simp only [List.getElem_cons_succ]
      omega
theorem picks_in {n m : Nat} {l : List Int} (h : l ∈ picksF n m 0) : InL n m l :=
  ⟨picks_len m 0 l h, fun j hj => by have := picks_lo m 0 l h j hj; omega, picks_hi m 0 l h⟩
end Go.Proofs.YtmkjeonjhedgkaaGreatDoor

namespace Go.Proofs.YtmkjeonjhedgkaaGreatDoor
set_option linter.unusedSimpArgs false
set_option linter.unusedVariables false
open Go.RowKit Go.Shelf
attribute [local go_sem] Oper.semAt_some

/-- Block g is a row of integers. -/
def RowIs (w : World) (g : Nat) (l : List Int) : Prop := w.heap[g]? = some (.cells (l.map (Value.int .i64)).toArray 3 (0, 0))
theorem RowIs.cell {w : World} {g : Nat} {l : List Int} (h : RowIs w g l) {j : Nat} (hj : j < l.length) : w.cell? ⟨g, j, none⟩ = some (.int .i64 l[j]) := by
  unfold RowIs at h
  simp [World.cell?, h, hj]
theorem RowIs.free {w : World} {g : Nat} {l : List Int} (h : RowIs w g l) (j : Nat) : w.frozen? ⟨g, j, none⟩ = false := by
  unfold RowIs at h
  simp [World.frozen?, h]
theorem RowIs.set {w : World} {g : Nat} {l : List Int} (h : RowIs w g l) (j : Nat) (x : Int) : RowIs (w.setCell ⟨g, j, none⟩ (.int .i64 x)) g (l.set j x) := by
  unfold RowIs at *
  simp only [World.setCell, Array.getElem?_modify, if_true, h]
  simp [List.map_set]
theorem RowIs.same {w w' : World} {g : Nat} {l : List Int} (h : RowIs w g l) (e : w'.heap[g]? = w.heap[g]?) : RowIs w' g l := by unfold RowIs at *; rw [e]; exact h
theorem RowIs.ints {w : World} {g : Nat} {l : List Int} (h : RowIs w g l) : IntsAt w (some ⟨g, 0, none⟩) l :=
  .inr ⟨g, 0, rfl, fun i hi => by rw [Nat.zero_add]; exact h.cell hi⟩
theorem RowIs.made (w : World) (m : Nat) : RowIs (w.alloc (.cells (madeCells #[.int .i64 0] m) 3)) w.heap.size (List.replicate m 0) := by
  unfold RowIs
  rw [heap_alloc_new]
  congr 2
  apply Array.ext
  · simp [size_madeCells]
  · intro i h1 h2
    simp [madeCells, Nat.mod_one]

/-- The numbers below k, behind them zeros. -/
def upTo (m k : Nat) : List Int := (List.range m).map fun j : Nat => if j < k then (j : Int) else 0
theorem upTo_len (m k : Nat) : (upTo m k).length = m := by simp [upTo]
theorem upTo_zero (m : Nat) : upTo m 0 = List.replicate m 0 := by
  apply List.ext_getElem (by simp [upTo])
  intro i h1 h2; simp [upTo]
theorem upTo_set (m k : Nat) : (upTo m k).set k (k : Int) = upTo m (k + 1) := by
  apply List.ext_getElem (by simp [upTo])
  intro i h1 h2
  rw [List.getElem_set]
  by_cases e : k = i
  · subst e; simp [upTo]
  · simp only [upTo, List.getElem_map, List.getElem_range, if_neg e]
    by_cases h : i < k
    · rw [if_pos h, if_pos (by omega)]
    · rw [if_neg h, if_neg (by omega)]
theorem upTo_all (m : Nat) : upTo m m = (List.range m).map fun j : Nat => (0 : Int) + (j : Int) := by
  apply List.ext_getElem (by simp [upTo])
  intro i h1 h2
  simp only [upTo, List.getElem_map, List.getElem_range]
  rw [if_pos (by simpa [upTo] using h1)]; omega

/-- The list behind l while it is written: from k on as far as i. -/
def filled (l : List Int) (k i : Nat) : List Int := l.mapIdx fun j x => if decide (k ≤ j) && decide (j < i) then l.getD k 0 + 1 + ((j : Int) - k) else x
theorem filled_len (l : List Int) (k i : Nat) : (filled l k i).length = l.length := by simp [filled]
theorem filled_get {l : List Int} {k i j : Nat} (h : j < l.length) : (filled l k i)[j]'(by rw [filled_len]; exact h) = if k ≤ j ∧ j < i then l.getD k 0 + 1 + ((j : Int) - k) else l[j] := by
  simp [filled]
theorem filled_first {l : List Int} {k : Nat} (h : k < l.length) : l.set k (l[k] + 1) = filled l k (k + 1) := by
  apply List.ext_getElem (by simp [filled])
  intro i h1 h2
  rw [filled_get (by simpa using h1), List.getElem_set]
  by_cases e : k = i
  · subst e; rw [if_pos rfl, if_pos (by omega), List.getD_eq_getElem?_getD, List.getElem?_eq_getElem h]; simp
  · rw [if_neg e, if_neg (by omega)]
theorem filled_next {l : List Int} {k i : Nat} (hk : k < i) (hi : i < l.length) {x : Int} (hx : x = (filled l k i)[i - 1]'(by rw [filled_len]; omega)) : (filled l k i).set i (x + 1) = filled l k (i + 1) := by
  rw [filled_get (by omega), if_pos (by omega)] at hx
  apply List.ext_getElem (by simp [filled])
  intro j h1 h2
  have hj : j < l.length := by simpa [filled] using h1
  rw [filled_get hj, List.getElem_set]
  by_cases e : i = j
  · subst e; rw [if_pos rfl, if_pos (by omega)]; omega
  · rw [if_neg e, filled_get hj]
    by_cases h : k ≤ j ∧ j < i
    · rw [if_pos h, if_pos (by omega)]
    · rw [if_neg h, if_neg (by omega)]
theorem filled_all {l : List Int} {k : Nat} (hk : k < l.length) : filled l k l.length = l.take k ++ (List.range (l.length - k)).map fun i : Nat => l[k] + 1 + (i : Int) := by
  apply List.ext_getElem (by simp [filled]; omega)
  intro j h1 h2
  have hj : j < l.length := by simpa [filled] using h1
  rw [filled_get hj]
  by_cases h : k ≤ j
  · rw [if_pos (by omega), List.getElem_append_right (by simp; omega)]
    simp only [List.getElem_map, List.getElem_range, List.length_take]
    rw [List.getD_eq_getElem?_getD, List.getElem?_eq_getElem hk, Option.getD_some]; omega
  · rw [if_neg (by omega), List.getElem_append_left (by simp; omega)]
    simp

/-- What the iterator leaves: the first list that the test takes, or none. -/
def EndL (R0 : List (List Int)) (T : List Int → Bool) (J : World → Prop) (Jx : List Int → World → Prop) (e : Ending) (w' : World) : Prop :=
  (∃ v, e = .returned v) ∧ ((R0.find? T = none ∧ J w') ∨ ∃ x, R0.find? T = some x ∧ Jx x w')

/-- What a round keeps: the blocks from B on. -/
def Keeps (B : Nat) (w w' : World) : Prop := w.heap.size ≤ w'.heap.size ∧ ∀ k, B ≤ k → k < w.heap.size → w'.heap[k]? = w.heap[k]?

/-- What is still to come: x first. -/
structure Left (N : Nat) (R0 : List (List Int)) (T : List Int → Bool) (x : List Int) (rest : List (List Int)) : Prop where
  enum : Enum N (x :: rest)
  mem : ∀ y ∈ x :: rest, y ∈ R0
  find : (x :: rest).find? T = R0.find? T
theorem Left.next {N : Nat} {R0 : List (List Int)} {T : List Int → Bool} {x y : List Int} {rest : List (List Int)} (h : Left N R0 T x rest) (hT : T x = false) (hn : nextR N x = some y) :
    ∃ rest', rest = y :: rest' ∧ Left N R0 T y rest' := by
  obtain ⟨h1, h2, h3⟩ := h
  cases h1 with
  | one _ h => rw [h] at hn; simp at hn
  | cons _ l' L h hE =>
    rw [h] at hn
    simp only [Option.some.injEq] at hn
    subst hn
    exact ⟨L, rfl, hE, fun z hz => h2 z (by simp [List.mem_cons.1 hz]), by rw [← h3, List.find?_cons (a := x), hT]⟩
theorem Left.last {N : Nat} {R0 : List (List Int)} {T : List Int → Bool} {x : List Int} {rest : List (List Int)} (h : Left N R0 T x rest) (hT : T x = false) (hn : nextR N x = none) : R0.find? T = none := by
  obtain ⟨h1, h2, h3⟩ := h
  cases h1 with
  | one _ h => rw [← h3, List.find?_cons, hT]; rfl
  | cons _ l' L h hE => rw [h] at hn; simp at hn
theorem Left.yes {N : Nat} {R0 : List (List Int)} {T : List Int → Bool} {x : List Int} {rest : List (List Int)} (h : Left N R0 T x rest) (hT : T x = true) : R0.find? T = some x := by
  rw [← h.find, List.find?_cons, hT]

set_option maxRecDepth 100000 in
set_option maxHeartbeats 4000000 in
theorem lists1_in (n : Nat) (hn : 1 ≤ n) (l : Nat) (bn bm : Nat) (N M : Nat) (hNM : M ≤ N) (hN : N ≤ 1000)
    (J : World → Prop) (Jx : List Int → World → Prop) (T : List Int → Bool) (R0 : List (List Int)) (hE : Enum N R0) (hh : R0.head? = some (upTo M M)) (hR : ∀ x ∈ R0, InL N M x) (W : World)
    (hJ : ∀ V V', J V → Below W.heap.size V V' → J V')
    (hJc : ∀ V, J V → V.cell? ⟨bn, 0, none⟩ = some (.int .i64 N) ∧ V.cell? ⟨bm, 0, none⟩ = some (.int .i64 M))
    (hY : ∀ x ∈ R0, ∀ g V, J V → W.heap.size ≤ g → RowIs V g x → YieldAt Fence.wide (n - 1) Tryz.prog l #[.slice (some ⟨g, 0, none⟩) M M] V fun e V' =>
      Keeps W.heap.size V V' ∧ ((e = .returned (.bool true) ∧ T x = false ∧ J V') ∨ (e = .returned (.bool false) ∧ T x = true ∧ Jx x V')))
    (hW0 : J W) : CallsIn Fence.wide n Tryz.prog 74 #[.func (.yield l) #[] #[], .pointer (some ⟨bm, 0, none⟩), .pointer (some ⟨bn, 0, none⟩)] W (EndL R0 T J Jx) := by
  have hmk := run_make_row' (P := Tryz.prog) 25 3 (.int .i64 0) 8 Tryz.underlying25 info_int rfl .i64 .i64 M (by omega) (by omega)
  obtain ⟨hcn, hcm⟩ := hJc W hW0
  refine callsIn_of_wp Tryz.func74 rfl trivial ?_ rfl
  simp only [Tryz.ntmps74, List.size_toArray, List.length_cons, List.length_nil, Nat.reduceAdd, Nat.reduceSub, Array.replicate_succ, Array.replicate_zero, List.push_toArray, List.append_toArray, List.nil_append, List.cons_append]
  gi_wp2
  have hr0 := RowIs.made W M
  rw [← upTo_zero] at hr0
  have hb0 : Below W.heap.size W (W.alloc (.cells (madeCells #[.int .i64 0] M) 3)) := Below.alloc (Below.refl _ _) (Nat.le_refl _) _
  have hg0 : W.heap.size < (W.alloc (.cells (madeCells #[.int .i64 0] M) 3)).heap.size := by simp
  generalize hW1 : W.alloc (.cells (madeCells #[.int .i64 0] M) 3) = W1 at hr0 hb0 hg0
  have hJ1 := hJ _ _ hW0 hb0
  clear hW1 hmk
  have hrest : ∃ rest, R0 = upTo M M :: rest := by
    cases R0 with
    | nil => simp at hh
    | cons y rest => simp at hh; exact ⟨rest, by rw [hh]⟩
  obtain ⟨rest0, hrest0⟩ := hrest
  have hleft : Left N R0 T (upTo M M) rest0 := by rw [hrest0]; rw [hrest0] at hE; exact ⟨hE, fun _ h => h, rfl⟩
  have HL := Lib.hid hleft; clear hleft
  clear hE hh hrest0
  have HJ := Lib.hid hJ; clear hJ
  have HJc := Lib.hid hJc; clear hJc
  have HY := Lib.hid hY; clear hY
  have HR := Lib.hid hR; clear hR
  gi_loopw [12] (fun v12 wx => ∃ k : Nat, k ≤ M ∧ v12 = .int .i64 k ∧ RowIs wx W.heap.size (upTo M k) ∧ J wx) (fun v _ => M - (intOf v).toNat)
  case atStart => exact ⟨0, Nat.zero_le _, rfl, hr0, hJ1⟩
  case round =>
    clear hr0 hJ1 hb0 hg0 hcn hcm hW0
    obtain ⟨k, hk, rfl, hrow, hj⟩ := hrel
    have Hrow := Lib.hid hrow; clear hrow
    have Hj := Lib.hid hj; clear hj
    by_cases hlt : k < M
    · have hc := Hrow.out.cell (j := k) (by rw [upTo_len]; exact hlt)
      have hf := Hrow.out.free k
      gi_wp2
      exact ⟨⟨k + 1, by omega, by go_num, by rw [← upTo_set]; exact Hrow.out.set k k, HJ.out _ _ Hj.out ((Below.refl _ _).setCell (p := ⟨W.heap.size, k, none⟩) (Nat.le_refl _) _)⟩, by simp [intOf]; omega⟩
    · obtain rfl : M = k := by omega
      gi_wp2
      gi_loopg [] rest0.length (fun gk wx => ∃ (x : List Int) (rest : List (List Int)), gk = rest.length ∧ Left N R0 T x rest ∧ RowIs wx W.heap.size x ∧ J wx)
      case atStart => exact ⟨_, rest0, rfl, HL.out, Hrow.out, Hj.out⟩
      case round =>
        clear Hj Hrow HL
        obtain ⟨x, rest, hg, hl, hrow, hj⟩ := hrel
        have Hg := Lib.hid hg; clear hg
        have hin := HR.out x (hl.mem x (by simp))
        obtain ⟨fn, tmps, assign, body, hy, hRd⟩ := HY.out x (hl.mem x (by simp)) W.heap.size wr hj (Nat.le_refl _) hrow
        obtain ⟨hcn, hcm⟩ := HJc.out _ hj
        have HL := Lib.hid hl; clear hl
        have Hin := Lib.hid hin; clear hin
        have Hrow := Lib.hid hrow; clear hrow
        have Hj := Lib.hid hj; clear hj
        have hgl : W.heap.size < wr.heap.size := (Array.getElem?_eq_some_iff.1 Hrow.out).1
        gi_wp2
        refine hRd.mono ?_
        clear hy
        rintro e W3 ⟨hk3, (⟨rfl, hT, hj3⟩ | ⟨rfl, hT, hx3⟩)⟩
        · have hrow3 := Hrow.out.same (hk3.2 _ (Nat.le_refl _) hgl)
          obtain ⟨hcn3, hcm3⟩ := HJc.out _ hj3
          have HT := Lib.hid hT; clear hT
          have Hj3 := Lib.hid hj3; clear hj3
          have Hrow3 := Lib.hid hrow3; clear hrow3
          clear Hrow Hj hcn hcm hk3
          gi_wp2
          gi_loopw [6] (fun v6 wx => ∃ kk : Int, -1 ≤ kk ∧ kk < M ∧ v6 = .int .i64 kk ∧ (∀ (j : Nat) (h : j < x.length), kk < j → x[j] = (N : Int) - x.length + j) ∧ RowIs wx W.heap.size x ∧ J wx) (fun v _ => (intOf v + 1).toNat)
          case atStart => exact ⟨(M : Int) - 1, by omega, by omega, rfl, fun j h hlt => by have := Hin.out.len; omega, Hrow3.out, Hj3.out⟩
          case round =>
            clear hcn3 hcm3 Hrow3 Hj3
            obtain ⟨kk, hk1, hk2, rfl, hmax, hrow, hj⟩ := hrel
            obtain ⟨hcn, hcm⟩ := HJc.out _ hj
            have Hmax := Lib.hid hmax; clear hmax
            have Hj := Lib.hid hj; clear hj
            have Hrow := Lib.hid hrow; clear hrow
            by_cases hk0 : 0 ≤ kk
            · obtain ⟨k, hk⟩ := Int.eq_ofNat_of_zero_le hk0
              subst hk
              have hkl : k < x.length := by have := Hin.out.len; omega
              have hc := Hrow.out.cell hkl
              have hxhi := Hin.out.hi k hkl
              have hxlo := Hin.out.lo k hkl
              obtain ⟨y, hy⟩ : ∃ y, x[k] = y := ⟨_, rfl⟩
              rw [hy] at hc hxhi hxlo
              have Hy := Lib.hid hy; clear hy
              have q1 : IntKind.i64.wrap ((N : Int) - M) = (N : Int) - M := IntWalk.i64_in _ (by omega)
              have q2 : IntKind.i64.wrap ((N : Int) - M + k) = (N : Int) - M + k := IntWalk.i64_in _ (by omega)
              by_cases heq : y = (N : Int) - M + k
              · have heq' : (y == (N : Int) - M + k) = true := by simpa using heq
                have Heq := Lib.hid heq; clear heq
                gi_wp2
                gi_quiet (fail)
                gi_wp2
                refine ⟨⟨(k : Int) - 1, by omega, by omega, rfl, fun j h hlt => ?_, Hrow.out.same (by simp), HJ.out _ _ Hj.out (below_drewN (Below.refl _ _) _)⟩, by simp [intOf]⟩
                by_cases ej : j = k
                · subst ej; rw [Hy.out, Heq.out, Hin.out.len]
                · exact Hmax.out j h (by omega)
              · have heq' : (y == (N : Int) - M + k) = false := by simpa using heq
                have Heq := Lib.hid heq; clear heq
                have hf := Hrow.out.free k
                gi_wp2
                gi_quiet (fail)
                gi_wp2
                clear q1 q2 hc hf heq'
                have hrow1 : RowIs ((wr.drewN nq).setCell ⟨W.heap.size, k, none⟩ (.int .i64 (y + 1))) W.heap.size (filled x k (k + 1)) := by
                  rw [← filled_first hkl, Hy.out]
                  exact (Hrow.out.same (w' := wr.drewN nq) (by simp)).set k (y + 1)
                have hj1 : J ((wr.drewN nq).setCell ⟨W.heap.size, k, none⟩ (.int .i64 (y + 1))) := HJ.out _ _ Hj.out ((below_drewN (Below.refl _ _) _).setCell (p := ⟨W.heap.size, k, none⟩) (Nat.le_refl _) _)
                gi_loopw [7] (fun v7 wx => ∃ i : Nat, k ≤ i ∧ i + 1 ≤ M ∧ v7 = .int .i64 ((i : Int) + 1) ∧ RowIs wx W.heap.size (filled x k (i + 1)) ∧ J wx) (fun v _ => (M - intOf v).toNat)
                case atStart => exact ⟨k, by omega, by omega, rfl, hrow1, hj1⟩
                case round =>
                  clear Hrow hrow1 hj1 Hj hcn hcm
                  obtain ⟨i, hi1, hi2, rfl, hrow, hj⟩ := hrel
                  obtain ⟨hcn, hcm⟩ := HJc.out _ hj
                  have Hj := Lib.hid hj; clear hj
                  have Hrow := Lib.hid hrow; clear hrow
                  by_cases hlt : i + 1 < M
                  · have hxl := Hin.out.len
                    have hil : i < (filled x k (i + 1)).length := by rw [filled_len]; omega
                    have hc := Hrow.out.cell hil
                    have hf := Hrow.out.free (i + 1)
                    have hc2 := Hrow.out.cell (j := i + 1) (by rw [filled_len]; omega)
                    have hz : (filled x k (i + 1))[i] = y + 1 + ((i : Int) - k) := by
                      rw [filled_get (by omega), if_pos (by omega), List.getD_eq_getElem?_getD, List.getElem?_eq_getElem hkl, Option.getD_some, Hy.out]
                    rw [hz] at hc
                    obtain ⟨z2, hz2⟩ : ∃ z2, (filled x k (i + 1))[i + 1]'(by rw [filled_len]; omega) = z2 := ⟨_, rfl⟩
                    rw [hz2] at hc2
                    clear hz2
                    have Hz := Lib.hid hz; clear hz
                    clear hxl
                    gi_wp2
                    refine ⟨⟨i + 1, by omega, by omega, by go_num, ?_, HJ.out _ _ Hj.out ((Below.refl _ _).setCell (p := ⟨W.heap.size, i + 1, none⟩) (Nat.le_refl _) _)⟩, by simp [intOf]; omega⟩
                    rw [← filled_next (k := k) (i := i + 1) (by omega) (by have := Hin.out.len; omega) (x := y + 1 + ((i : Int) - k)) Hz.out.symm]
                    exact Hrow.out.set (i + 1) _
                  · have hn : nextR N x = some (filled x k x.length) := by
                      rw [filled_all hkl]
                      exact next_some x k hkl (by have := Hin.out.len; have h2 := Heq.out; rw [Hy.out]; omega) (fun j h hlt => Hmax.out j h (by omega))
                    obtain ⟨rest', hre, hl'⟩ := HL.out.next HT.out hn
                    have hil : i + 1 = x.length := by have := Hin.out.len; omega
                    rw [← hil] at hl'
                    have Hl' := Lib.hid hl'; clear hl'
                    have Hre := Lib.hid hre; clear hre hn hil
                    gi_wp2
                    gi_roundg rest'.length
                    case measure => rw [Hg.out, Hre.out]; simp
                    case rel => exact ⟨_, rest', rfl, Hl'.out, Hrow.out, Hj.out⟩
            · have hd : decide (0 ≤ kk) = false := decide_eq_false hk0
              gi_wp2
              gi_quiet (fail)
              gi_wp2
              refine bodyPost_ret (results_none rfl _ _ _) rfl ?_
              refine ⟨⟨_, rfl⟩, .inl ⟨HL.out.last HT.out (next_none _ fun j h => Hmax.out j h (by omega)), HJ.out _ _ Hj.out (below_drewN (Below.refl _ _) _)⟩⟩
        · have HT := Lib.hid hT; clear hT
          have Hx3 := Lib.hid hx3; clear hx3
          clear hk3
          gi_wp2
          refine bodyPost_ret (results_none rfl _ _ _) rfl ?_
          exact ⟨⟨_, rfl⟩, .inr ⟨x, HL.out.yes HT.out, Hx3.out⟩⟩

theorem lists_any (w : World) (N M : Nat) : Calls Tryz.prog 44 #[.int .i64 N, .int .i64 M] w fun e w' =>
    e = .returned (.func (.func 74) #[] #[.pointer (some ⟨w.heap.size + 1, 0, none⟩), .pointer (some ⟨w.heap.size, 0, none⟩)]) ∧
    w' = (w.alloc (.cells #[.int .i64 N] 3)).alloc (.cells #[.int .i64 M] 3) := by
  go_enter Tryz.func44, Tryz.ntmps44
  go_wp2_with fail
  go_ret
  exact ⟨rfl, rfl⟩
end Go.Proofs.YtmkjeonjhedgkaaGreatDoor

namespace Go.Proofs.YtmkjeonjhedgkaaGreatDoor
set_option linter.unusedSimpArgs false
set_option linter.unusedVariables false
open Go.RowKit Go.Shelf

/-- How a round may end: it goes on, nothing that was there has changed; or it breaks out to a label. -/
def RoundEnd (B id : Nat) (T : List Int → Bool) (X : List Int → World → Prop) (x : List Int) (V : World) : Exit → Act → World → Prop
  | .normal, _, V' => Below V.heap.size V V' ∧ T x = false
  | .exit i, _, V' => i = id ∧ Keeps B V V' ∧ T x = true ∧ X x V'
  | _, _, _ => False

theorem putObj_below {w V : World} (h : Below w.heap.size w V) {l : Nat} (o : Obj) (hl : w.heap.size ≤ l) : Below w.heap.size w (V.putObj l o) :=
  h.trans ⟨rfl, rfl, rfl, by simp, fun _ hk => World.putObj_heap_other (by omega)⟩

theorem wp_range_lists {g : Operand} {p : Nat} {assign body : Code} {Q : Exit → Act → World → Prop} {a : Act} {w : World} (id : Nat) (bn bm N M : Nat) (hNM : M ≤ N) (hN : N ≤ 1000)
    (hg : a.eval g = .func (.func 74) #[] #[.pointer (some ⟨bm, 0, none⟩), .pointer (some ⟨bn, 0, none⟩)])
    (hcn : w.cell? ⟨bn, 0, none⟩ = some (.int .i64 N)) (hcm : w.cell? ⟨bm, 0, none⟩ = some (.int .i64 M))
    (T : List Int → Bool) (X : List Int → World → Prop) (hX : ∀ x V l r o, w.heap.size ≤ l → V.heap[l]? = some (.loop r) → X x V → X x (V.putObj l o)) (a1 : Nat → Act)
    (hassign : ∀ (l gb : Nat) (V : World) (K : Act → World → Prop), K (a1 gb) V → assign.wpIn (Fence.wide.inRound l) 3 Tryz.prog (Exit.then K (fun _ _ _ => False)) { tmps := a.tmps.setIfInBounds p (.slice (some ⟨gb, 0, none⟩) M M), defers := [] } V)
    (hbody : ∀ (l gb : Nat) (x : List Int) (V : World), x ∈ picksF N M 0 → Below w.heap.size w V → w.heap.size ≤ gb → RowIs V gb x →
      body.wpIn (Fence.wide.inRound l) 3 Tryz.prog (RoundEnd w.heap.size id T X x V) (a1 gb) V)
    (hdone : ∀ (D : Nat) (W : World), (picksF N M 0).find? T = none → Below w.heap.size w W → w.heap.size ≤ D → W.heap[D]? = some (.deferred (some [])) → Q .normal { a with defers := { target := .collected D, args := #[] } :: a.defers } W)
    (hstop : ∀ (D : Nat) (x : List Int) (W : World), (picksF N M 0).find? T = some x → X x W → w.heap.size ≤ D → W.heap[D]? = some (.deferred (some [])) → Q (.exit id) { a with defers := { target := .collected D, args := #[] } :: a.defers } W) :
    (Code.rangeFunc g #[p] assign body).wp Tryz.prog Q a w := by
  refine (wpIn_wide (n := 5)).1 (wpIn_rangeFunc ?_)
  intro fn hfn
  obtain ⟨rec, hrec⟩ : ∃ rec : LoopState → Option Code → Loop, rec = fun st pe => { state := st, pending := pe, fn, tmps := a.tmps, params := #[p], assign, body, defers := w.heap.size } := ⟨_, rfl⟩
  obtain ⟨W1, hW1⟩ : ∃ W1, (w.alloc (.deferred (some []))).alloc (.loop (rec .ready none)) = W1 := ⟨_, rfl⟩
  have hL1 : W1.heap[w.heap.size + 1]? = some (.loop (rec .ready none)) := by
    rw [← hW1]; have := World.alloc_heap_new (w.alloc (.deferred (some []))) (.loop (rec .ready none)); rwa [World.size_alloc] at this
  have hK1 : W1.heap[w.heap.size]? = some (.deferred (some [])) := by
    rw [← hW1]; exact (Below.heap_alloc _ _ _ (by simp)).trans (World.alloc_heap_new w _)
  have hb1 : Below w.heap.size w W1 := by
    rw [← hW1]; exact ((Below.refl _ w).alloc (Nat.le_refl _) _).alloc (by simp) _
  have hz1 : W1.heap.size = w.heap.size + 2 := by rw [← hW1]; simp
  obtain ⟨pe1, pe2⟩ := picks_enum (n := N) M 0 (by omega)
  refine ⟨w.heap.size + 1, [{ target := .collected w.heap.size, args := #[] }], W1, { target := .fn (.func 74) #[.pointer (some ⟨bm, 0, none⟩), .pointer (some ⟨bn, 0, none⟩)], args := #[.func (.yield (w.heap.size + 1)) #[] #[]] }, W1, 74,
    #[.func (.yield (w.heap.size + 1)) #[] #[]] ++ #[.pointer (some ⟨bm, 0, none⟩), .pointer (some ⟨bn, 0, none⟩)], W1, ?_, ?_, ?_, ?_, fun _ => by omega, ?_⟩
  · rw [← hW1, hrec]; exact run_enterLoop_outer _ _ _ _ _
  · simp only [resolve, hg]
    simp [go_sem]
  · intro f' hf'; trivial
  · simp [invoke, go_sem]
  · refine (lists1_in 4 (by omega) (w.heap.size + 1) bn bm N M hNM hN
      (fun V => Below w.heap.size w V ∧ V.heap[w.heap.size + 1]? = some (.loop (rec .ready none)) ∧ V.heap[w.heap.size]? = some (.deferred (some [])))
      (fun x V => X x V ∧ V.heap[w.heap.size + 1]? = some (.loop (rec .done (some (.exit id)))) ∧ V.heap[w.heap.size]? = some (.deferred (some [])))
      T (picksF N M 0) pe1 (by rw [pe2, upTo_all]; simp) (fun x hx => picks_in hx) W1 ?_ ?_ ?_ ⟨hb1, hL1, hK1⟩).mono ?_
    · rintro V V' ⟨h1, h2, h3⟩ hb
      exact ⟨h1.trans (hb.mono (by omega)), (hb.block _ (by omega)).trans h2, (hb.block _ (by omega)).trans h3⟩
    · rintro V ⟨h1, _, _⟩
      exact ⟨((bcell h1).1 _ _ (lt_of_cell hcn)).trans hcn, ((bcell h1).1 _ _ (lt_of_cell hcm)).trans hcm⟩
    · rintro x hx gb V ⟨h1, h2, h3⟩ hgb hrow
      have hlt : w.heap.size + 1 < V.heap.size := (Array.getElem?_eq_some_iff.1 h2).1
      have hy := run_yield (P := Tryz.prog) (args := #[.slice (some ⟨gb, 0, none⟩) M M]) h2 (by rw [hrec]; rfl)
      rw [hrec] at hy
      have hy' : (Instr.yield (w.heap.size + 1) #[.slice (some ⟨gb, 0, none⟩) M M]).run Tryz.prog V = .ok (.round (w.heap.size + 1) fn (a.tmps.setIfInBounds p (.slice (some ⟨gb, 0, none⟩) M M)) assign body) V := by simpa using hy
      refine ⟨fn, _, assign, body, hy', roundIn_of_wpIn trivial ?_⟩
      refine hassign _ gb V _ ?_
      refine ⟨_, run_beginRound h2 (by rw [hrec]), ?_⟩
      obtain ⟨V2, hV2⟩ : ∃ V2, V.putObj (w.heap.size + 1) (.loop { rec .ready none with state := .busy }) = V2 := ⟨_, rfl⟩
      have hl2 : V2.heap[w.heap.size + 1]? = some (.loop { rec .ready none with state := .busy }) := by rw [← hV2]; exact World.putObj_heap_same hlt
      have hk2 : V2.heap[w.heap.size]? = some (.deferred (some [])) := by rw [← hV2]; exact (World.putObj_heap_other (by omega)).trans h3
      have hb2 : Below w.heap.size w V2 := by rw [← hV2]; exact putObj_below h1 _ (by omega)
      have ho2 : ∀ k, k ≠ w.heap.size + 1 → V2.heap[k]? = V.heap[k]? := fun k hk => by rw [← hV2]; exact World.putObj_heap_other hk
      have hs2 : V2.heap.size = V.heap.size := by rw [← hV2]; simp
      rw [hV2]
      refine wpIn_mono (hbody _ gb x V2 hx hb2 (by omega) (hrow.same (ho2 _ (by omega)))) ?_
      have fin : ∀ (jump : Option Code) (V3 : World), V3.heap[w.heap.size + 1]? = V2.heap[w.heap.size + 1]? →
          (Instr.endRound (w.heap.size + 1) jump).run Tryz.prog V3 = .ok (.bool jump.isNone) (V3.putObj (w.heap.size + 1) (.loop (rec (if jump.isNone then .ready else .done) jump))) := fun jump V3 h => by
        have := run_endRound (P := Tryz.prog) jump (h.trans hl2)
        rw [hrec] at this ⊢
        exact this
      rintro e a3 V3 hp
      have key : Keeps w.heap.size V2 V3 → ∀ r, Keeps W1.heap.size V (V3.putObj (w.heap.size + 1) (.loop r)) ∧ (V3.putObj (w.heap.size + 1) (.loop r)).heap[w.heap.size + 1]? = some (.loop r) ∧
          (V3.putObj (w.heap.size + 1) (.loop r)).heap[w.heap.size]? = some (.deferred (some [])) ∧ V3.heap[w.heap.size + 1]? = V2.heap[w.heap.size + 1]? := by
        rintro ⟨q1, q2⟩ r
        refine ⟨⟨by simp; omega, fun k hk1 hk2 => ?_⟩, World.putObj_heap_same (by omega), (World.putObj_heap_other (by omega)).trans ((q2 _ (by omega) (by omega)).trans hk2), q2 _ (by omega) (by omega)⟩
        rw [World.putObj_heap_other (by omega), q2 k (by omega) (by omega), ho2 k (by omega)]
      cases e with
      | normal =>
        obtain ⟨hb3, hT⟩ := hp
        obtain ⟨h5, h6, h7, h8⟩ := key ⟨hb3.size, fun k _ hk => hb3.block k hk⟩ (rec .ready none)
        exact ⟨_, _, fin none V3 h8, h5, .inl ⟨rfl, hT, putObj_below (hb2.trans (hb3.mono hb2.size)) _ (by omega), h6, h7⟩⟩
      | exit i =>
        obtain ⟨rfl, hk3, hT, hx3⟩ := hp
        obtain ⟨h5, h6, h7, h8⟩ := key hk3 (rec .done (some (.exit i)))
        exact ⟨_, _, fin (some (.exit i)) V3 h8, h5, .inr ⟨rfl, hT, hX x V3 _ _ _ (by omega) (h8.trans hl2) hx3, h6, h7⟩⟩
      | ret => exact hp.elim
      | goto t => exact hp.elim
      | panic ch => exact hp.elim
      | outgrown => exact hp.elim
    · rintro e W2 ⟨⟨v, rfl⟩, (⟨hf, h1, h2, h3⟩ | ⟨x, hf, h1, h2, h3⟩)⟩
      · refine ⟨none, _, by have := run_endLoop (P := Tryz.prog) h2 (by rw [hrec]; simp); rw [hrec] at this; exact this, hdone _ _ hf (putObj_below h1 _ (by omega)) (Nat.le_refl _) ((World.putObj_heap_other (by omega)).trans h3)⟩
      · refine ⟨some (.exit id), _, by have := run_endLoop (P := Tryz.prog) h2 (by rw [hrec]; simp); rw [hrec] at this; exact this, wpIn_exit (hstop _ x _ hf (hX _ _ _ _ _ (by omega) h2 h1) (Nat.le_refl _) ((World.putObj_heap_other (by omega)).trans h3))⟩
end Go.Proofs.YtmkjeonjhedgkaaGreatDoor

namespace Go.Proofs.YtmkjeonjhedgkaaGreatDoor
set_option linter.unusedSimpArgs false
set_option linter.unusedVariables false
open Go.RowKit Go.Shelf

def noDefer (ops : Array Oper) : Bool := ops.all fun o => match o.op with
  | .defer _ => false
  | _ => true

theorem oper_in {P : Program} {o : Oper} {a : Act} {w : World} {K : Act → World → Prop} {Q : Exit → Act → World → Prop} (l n : Nat) (hd : ∀ c, o.op ≠ .defer c) (h : o.wp P a w K Q) : o.wpIn (Fence.wide.inRound l) n P a w K Q := by
  unfold Oper.wp at h
  refine ⟨fun _ _ => trivial, ?_⟩
  rw [Oper.semAt_eq _ _ _ hd]
  generalize (execOp a.eval o).run P w = r at h
  cases r with
  | ok x w' =>
    cases x with
    | value v => exact h
    | skip => exact h
    | defer d => exact h
    | enter f args => exact ⟨fun h => by simp [Fence.inRound, Fence.wide] at h, callsIn_wide.2 h⟩
    | row row args => exact ⟨fun h => by simp [Fence.inRound, Fence.wide] at h, fun c cs _ => let ⟨v, w', q, s⟩ := h c cs; ⟨v, w', q, stepsIn_wide.2 s⟩⟩
    | round _ _ _ _ _ => exact h.elim
    | _ => exact h
  | halt x w' => cases x <;> exact h

theorem wpAny_in {P : Program} {ops : Array Oper} {Q : Exit → Act → World → Prop} {md : Region.Mode} (l n : Nat) (hd : noDefer ops = true) (hQ : ¬ LetsOut Q) : ∀ (fuel : Nat) (listed : Array Bool) (a : Act) (w : World),
    wpAny P md ops Q fuel listed a w → wpAnyIn (Fence.wide.inRound l) n P md ops Q fuel listed a w
  | 0, _, _, _, h => h
  | fuel + 1, listed, a, w, h => ⟨h.1, fun i hi => by
    have h2 := h.2 i hi
    unfold wpOp at h2
    unfold wpOpIn
    cases ho : ops[i]? with
    | none => simp only [ho] at h2; exact wpAny_in l n hd hQ fuel _ a w h2
    | some o =>
      simp only [ho] at h2 ⊢
      have hdo : ∀ c, o.op ≠ .defer c := fun c e => by
        have := Array.all_eq_true'.1 hd o (Array.mem_of_getElem? ho)
        simp [e] at this
      split
      · rename_i hw
        rw [if_pos hw] at h2
        rcases h2 with h2 | ⟨_, h2⟩
        · exact Oper.wpIn_mono (fun a w => wpAny_in l n hd hQ fuel _ a w) (oper_in l n hdo h2)
        · exact absurd h2 hQ
      · rename_i hw
        rw [if_neg hw] at h2
        exact ⟨fun _ _ => trivial, wpAny_in l n hd hQ fuel _ _ _ h2⟩⟩

/-- The beginning: a region that draws, in a round's frame. -/
theorem wpIn_region_held {P : Program} {l n id : Nat} {ops : Array Oper} {Q : Exit → Act → World → Prop} {a : Act} {w : World} {S : World → Prop} (hm : P.follows .mixedOrders = true) (hd : noDefer ops = true) (hQ : ¬ LetsOut Q)
    (h : wpAnyH P .any ops Q S ops.size (Array.replicate ops.size false) a w.drew) : (Code.region id ops true).wpIn (Fence.wide.inRound l) n P Q a w :=
  wpIn_region_any hm (wpAny_in l n hd hQ _ _ _ _ (wpAny_of_held _ _ _ _ h))

/-- A call that comes up. -/
theorem wpOp_enter {P : Program} {ops : Array Oper} {Q : Exit → Act → World → Prop} {i : Nat} {o : Oper} {f : FuncId} {args : Array Value} {K : Act → World → Prop} {a : Act} {w w' : World} (hi : ops[i]? = some o) (hw : Region.wanted o (yielded ops a.tmps) = true)
    (hr : (execOp a.eval o).run P w = .ok (.enter f args) w') (R : Ending → World → Prop) (hc : Calls P f args w' R) (h : ∀ e w'', R e w'' → ∃ v, e = .returned v ∧ K (a.put o.dst v) w'') : wpOp P ops Q i K a w := by
  unfold wpOp
  simp only [hi]
  rw [if_pos hw]
  refine .inl ?_
  unfold Oper.wp
  rw [hr]
  refine hc.mono fun e w'' hR => ?_
  obtain ⟨v, rfl, hk⟩ := h e w'' hR
  exact hk

/-- Take number i first, its slot written out. -/
theorem take_held {P : Program} {ops : Array Oper} {Q : Exit → Act → World → Prop} {md : Region.Mode} {S : World → Prop} {oi : Oper} {fuel : Nat} {listed : Array Bool} {a : Act} {w : World} (i : Nat) (d : Tmp) (v : Value) (hi : ops[i]? = some oi) (hdst : oi.dst = some d)
    (hs : Region.noSelect ops = true) (hf : Region.free md ops listed i = true) (hr : (Region.ready md ops listed).contains i = true)
    (hQ : ∀ c a w, Q (.panic c) (a.put oi.dst v) w → Q (.panic c) a w) (hy : YieldsIf P ops S oi v a) (hS : S w)
    (h : wpAnyH P md ops Q S fuel (listed.setIfInBounds i true) (a.put (some d) v) w) : wpAnyH P md ops Q S (fuel + 1) listed a w :=
  wpAnyH_take hi hs hf hr hQ hy hS (by rw [hdst]; exact h)

/-- A call of a Go function is all that may come up. -/
theorem call_held {P : Program} {ops : Array Oper} {Q : Exit → Act → World → Prop} {md : Region.Mode} {S : World → Prop} {o : Oper} {fuel : Nat} {listed : Array Bool} {a : Act} {w w' : World} (i : Nat) (d : Tmp) {f : FuncId} {args : Array Value} (hr : Region.ready md ops listed = [i]) (hi : ops[i]? = some o) (hdst : o.dst = some d)
    (hw : Region.wanted o (yielded ops a.tmps) = true) (hrun : (execOp a.eval o).run P w = .ok (.enter f args) w') (R : Ending → World → Prop) (hc : Calls P f args w' R)
    (h : ∀ e w'', R e w'' → ∃ v, e = .returned v ∧ S w'' ∧ wpAnyH P md ops Q S fuel (listed.setIfInBounds i true) (a.put (some d) v) w'') : wpAnyH P md ops Q S (fuel + 1) listed a w :=
  wpAnyH_all hr (by simp) fun j hj => by
    obtain rfl : j = i := by simpa using hj
    refine wpOp_enter hi hw hrun R hc fun e w'' hR => ?_
    obtain ⟨v, he, h1, h2⟩ := h e w'' hR
    exact ⟨v, he, h1, by rw [hdst]; exact h2⟩
end Go.Proofs.YtmkjeonjhedgkaaGreatDoor
