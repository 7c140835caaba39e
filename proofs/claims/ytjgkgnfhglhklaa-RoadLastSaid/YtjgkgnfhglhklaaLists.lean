/- The contract of the iterator that lists makes. -/
import Derived.Test.YtjgkgnfhglhklaaWidened
import Derived.Test.YtjgkgnfhglhklaaListsP
import Derived.RangeFuncNested
import Derived.RangeFuncBound
import Derived.RangeFuncCalls
import Derived.RangeFuncLeaves
import Derived.Shelf.Abstract
import Derived.Shelf.RegionOpen
import Derived.OwnWalkIn
import Derived.TacticsInMore
import Derived.LoopNIn
import Derived.LoopIn
import Derived.Deep.OwnRows
import Derived.Sort.LoopGhostIn
import Derived.Sort.QuietIn
namespace Go.Proofs.Ytjgkgnfhglhklaa
set_option linter.unusedSimpArgs false
set_option linter.unusedVariables false
open Go.RowKit Go.Shelf
attribute [local go_sem] Oper.semAt_some

/-- Block g is a row of integers. -/
def RowIs (w : World) (g : Nat) (l : List Int) : Prop := w.heap[g]? = some (.cells (l.map (Value.int .i64)).toArray 3 (0, 0))
theorem RowIs.cell {w : World} {g : Nat} {l : List Int} (h : RowIs w g l) {j : Nat} (hj : j < l.length) : w.cell? ⟨g, j, none⟩ = some (.int .i64 l[j]) := by
  unfold RowIs at h
  simp [World.cell?, h, hj]
theorem RowIs.free {w : World} {g : Nat} {l : List Int} (h : RowIs w g l) (j : Nat) : w.frozen? ⟨g, j, none⟩ = false := by
  unfold RowIs at h
  simp [World.frozen?, h]
theorem RowIs.set {w : World} {g : Nat} {l : List Int} (h : RowIs w g l) (j : Nat) (x : Int) : RowIs (w.setCell ⟨g, j, none⟩ (.int .i64 x)) g (l.set j x) := by
  unfold RowIs at *
  simp only [World.setCell, Array.getElem?_modify, if_true, h]
  simp [List.map_set]
theorem RowIs.same {w w' : World} {g : Nat} {l : List Int} (h : RowIs w g l) (e : w'.heap[g]? = w.heap[g]?) : RowIs w' g l := by unfold RowIs at *; rw [e]; exact h
theorem RowIs.ints {w : World} {g : Nat} {l : List Int} (h : RowIs w g l) : IntsAt w (some ⟨g, 0, none⟩) l :=
  .inr ⟨g, 0, rfl, fun i hi => by rw [Nat.zero_add]; exact h.cell hi⟩
theorem RowIs.made (w : World) (m : Nat) : RowIs (w.alloc (.cells (madeCells #[.int .i64 0] m) 3)) w.heap.size (List.replicate m 0) := by
  unfold RowIs
  rw [heap_alloc_new]
  congr 2
  apply Array.ext
  · simp [size_madeCells]
  · intro i h1 h2
    simp [madeCells, Nat.mod_one]

/-- The numbers below k, behind them zeros. -/
def upTo (m k : Nat) : List Int := (List.range m).map fun j : Nat => if j < k then (j : Int) else 0
theorem upTo_len (m k : Nat) : (upTo m k).length = m := by simp [upTo]
theorem upTo_zero (m : Nat) : upTo m 0 = List.replicate m 0 := by
  apply List.ext_getElem (by simp [upTo])
  intro i h1 h2; simp [upTo]
theorem upTo_set (m k : Nat) : (upTo m k).set k (k : Int) = upTo m (k + 1) := by
  apply List.ext_getElem (by simp [upTo])
  intro i h1 h2
  rw [List.getElem_set]
  by_cases e : k = i
  · subst e; simp [upTo]
  · simp only [upTo, List.getElem_map, List.getElem_range, if_neg e]
    by_cases h : i < k
    · rw [if_pos h, if_pos (by omega)]
    · rw [if_neg h, if_neg (by omega)]
theorem upTo_all (m : Nat) : upTo m m = (List.range m).map fun j : Nat => (0 : Int) + (j : Int) := by
  apply List.ext_getElem (by simp [upTo])
  intro i h1 h2
  simp only [upTo, List.getElem_map, List.getElem_range]
  rw [if_pos (by simpa [upTo] using h1)]; omega

/-- The list behind l while it is written: from k on as far as i. -/
def filled (l : List Int) (k i : Nat) : List Int := l.mapIdx fun j x => if decide (k ≤ j) && decide (j < i) then l.getD k 0 + 1 + ((j : Int) - k) else x
theorem filled_len (l : List Int) (k i : Nat) : (filled l k i).length = l.length := by simp [filled]
theorem filled_get {l : List Int} {k i j : Nat} (h : j < l.length) : (filled l k i)[j]'(by rw [filled_len]; exact h) = if k ≤ j ∧ j < i then l.getD k 0 + 1 + ((j : Int) - k) else l[j] := by
  simp [filled]
theorem filled_first {l : List Int} {k : Nat} (h : k < l.length) : l.set k (l[k] + 1) = filled l k (k + 1) := by
  apply List.ext_getElem (by simp [filled])
  intro i h1 h2
  rw [filled_get (by simpa using h1), List.getElem_set]
  by_cases e : k = i
  · subst e; rw [if_pos rfl, if_pos (by omega), List.getD_eq_getElem?_getD, List.getElem?_eq_getElem h]; simp
  · rw [if_neg e, if_neg (by omega)]
theorem filled_next {l : List Int} {k i : Nat} (hk : k < i) (hi : i < l.length) {x : Int} (hx : x = (filled l k i)[i - 1]'(by rw [filled_len]; omega)) : (filled l k i).set i (x + 1) = filled l k (i + 1) := by
  rw [filled_get (by omega), if_pos (by omega)] at hx
  apply List.ext_getElem (by simp [filled])
  intro j h1 h2
  have hj : j < l.length := by simpa [filled] using h1
  rw [filled_get hj, List.getElem_set]
  by_cases e : i = j
  · subst e; rw [if_pos rfl, if_pos (by omega)]; omega
  · rw [if_neg e, filled_get hj]
    by_cases h : k ≤ j ∧ j < i
    · rw [if_pos h, if_pos (by omega)]
    · rw [if_neg h, if_neg (by omega)]
theorem filled_all {l : List Int} {k : Nat} (hk : k < l.length) : filled l k l.length = l.take k ++ (List.range (l.length - k)).map fun i : Nat => l[k] + 1 + (i : Int) := by
  apply List.ext_getElem (by simp [filled]; omega)
  intro j h1 h2
  have hj : j < l.length := by simpa [filled] using h1
  rw [filled_get hj]
  by_cases h : k ≤ j
  · rw [if_pos (by omega), List.getElem_append_right (by simp; omega)]
    simp only [List.getElem_map, List.getElem_range, List.length_take]
    rw [List.getD_eq_getElem?_getD, List.getElem?_eq_getElem hk, Option.getD_some]; omega
  · rw [if_neg (by omega), List.getElem_append_left (by simp; omega)]
    simp

/-- What the iterator leaves: the first list that the test takes, or none. -/
def EndL (R0 : List (List Int)) (T : List Int → Bool) (J : World → Prop) (Jx : List Int → World → Prop) (e : Ending) (w' : World) : Prop :=
  (∃ v, e = .returned v) ∧ ((R0.find? T = none ∧ J w') ∨ ∃ x, R0.find? T = some x ∧ Jx x w')

/-- What a round keeps: the blocks from B on. -/
def Keeps (B : Nat) (w w' : World) : Prop := w.heap.size ≤ w'.heap.size ∧ ∀ k, B ≤ k → k < w.heap.size → w'.heap[k]? = w.heap[k]?

/-- What is still to come: x first. -/
structure Left (N : Nat) (R0 : List (List Int)) (T : List Int → Bool) (x : List Int) (rest : List (List Int)) : Prop where
  enum : Enum N (x :: rest)
  mem : ∀ y ∈ x :: rest, y ∈ R0
  find : (x :: rest).find? T = R0.find? T
theorem Left.next {N : Nat} {R0 : List (List Int)} {T : List Int → Bool} {x y : List Int} {rest : List (List Int)} (h : Left N R0 T x rest) (hT : T x = false) (hn : nextR N x = some y) :
    ∃ rest', rest = y :: rest' ∧ Left N R0 T y rest' := by
  obtain ⟨h1, h2, h3⟩ := h
  cases h1 with
  | one _ h => rw [h] at hn; simp at hn
  | cons _ l' L h hE =>
    rw [h] at hn
    simp only [Option.some.injEq] at hn
    subst hn
    exact ⟨L, rfl, hE, fun z hz => h2 z (by simp [List.mem_cons.1 hz]), by rw [← h3, List.find?_cons (a := x), hT]⟩
theorem Left.last {N : Nat} {R0 : List (List Int)} {T : List Int → Bool} {x : List Int} {rest : List (List Int)} (h : Left N R0 T x rest) (hT : T x = false) (hn : nextR N x = none) : R0.find? T = none := by
  obtain ⟨h1, h2, h3⟩ := h
  cases h1 with
  | one _ h => rw [← h3, List.find?_cons, hT]; rfl
  | cons _ l' L h hE => rw [h] at hn; simp at hn
theorem Left.yes {N : Nat} {R0 : List (List Int)} {T : List Int → Bool} {x : List Int} {rest : List (List Int)} (h : Left N R0 T x rest) (hT : T x = true) : R0.find? T = some x := by
  rw [← h.find, List.find?_cons, hT]

set_option maxRecDepth 100000 in
set_option maxHeartbeats 4000000 in
theorem lists1_in (n : Nat) (hn : 1 ≤ n) (l : Nat) (bn bm : Nat) (N M : Nat) (hNM : M ≤ N) (hN : N ≤ 1000)
    (J : World → Prop) (Jx : List Int → World → Prop) (T : List Int → Bool) (R0 : List (List Int)) (hE : Enum N R0) (hh : R0.head? = some (upTo M M)) (hR : ∀ x ∈ R0, InL N M x) (W : World)
    (hJ : ∀ V V', J V → Below W.heap.size V V' → J V')
    (hJc : ∀ V, J V → V.cell? ⟨bn, 0, none⟩ = some (.int .i64 N) ∧ V.cell? ⟨bm, 0, none⟩ = some (.int .i64 M))
    (hY : ∀ x ∈ R0, ∀ g V, J V → W.heap.size ≤ g → RowIs V g x → YieldAt Fence.wide (n - 1) Try.prog l #[.slice (some ⟨g, 0, none⟩) M M] V fun e V' =>
      Keeps W.heap.size V V' ∧ ((e = .returned (.bool true) ∧ T x = false ∧ J V') ∨ (e = .returned (.bool false) ∧ T x = true ∧ Jx x V')))
    (hW0 : J W) : CallsIn Fence.wide n Try.prog 121 #[.func (.yield l) #[] #[], .pointer (some ⟨bm, 0, none⟩), .pointer (some ⟨bn, 0, none⟩)] W (EndL R0 T J Jx) := by
  have hmk := run_make_row' (P := Try.prog) 27 3 (.int .i64 0) 8 Try.underlying27 info_int rfl .i64 .i64 M (by omega) (by omega)
  obtain ⟨hcn, hcm⟩ := hJc W hW0
  refine callsIn_of_wp Try.func121 rfl trivial ?_ rfl
  simp only [Try.ntmps121, List.size_toArray, List.length_cons, List.length_nil, Nat.reduceAdd, Nat.reduceSub, Array.replicate_succ, Array.replicate_zero, List.push_toArray, List.append_toArray, List.nil_append, List.cons_append]
  gi_wp2
  have hr0 := RowIs.made W M
  rw [← upTo_zero] at hr0
  have hb0 : Below W.heap.size W (W.alloc (.cells (madeCells #[.int .i64 0] M) 3)) := Below.alloc (Below.refl _ _) (Nat.le_refl _) _
  have hg0 : W.heap.size < (W.alloc (.cells (madeCells #[.int .i64 0] M) 3)).heap.size := by simp
  generalize hW1 : W.alloc (.cells (madeCells #[.int .i64 0] M) 3) = W1 at hr0 hb0 hg0
  have hJ1 := hJ _ _ hW0 hb0
  clear hW1 hmk
  have hrest : ∃ rest, R0 = upTo M M :: rest := by
    cases R0 with
    | nil => simp at hh
    | cons y rest => simp at hh; exact ⟨rest, by rw [hh]⟩
  obtain ⟨rest0, hrest0⟩ := hrest
  have hleft : Left N R0 T (upTo M M) rest0 := by rw [hrest0]; rw [hrest0] at hE; exact ⟨hE, fun _ h => h, rfl⟩
  have HL := Lib.hid hleft; clear hleft
  clear hE hh hrest0
  have HJ := Lib.hid hJ; clear hJ
  have HJc := Lib.hid hJc; clear hJc
  have HY := Lib.hid hY; clear hY
  have HR := Lib.hid hR; clear hR
  gi_loopw [12] (fun v12 wx => ∃ k : Nat, k ≤ M ∧ v12 = .int .i64 k ∧ RowIs wx W.heap.size (upTo M k) ∧ J wx) (fun v _ => M - (intOf v).toNat)
  case atStart => exact ⟨0, Nat.zero_le _, rfl, hr0, hJ1⟩
  case round =>
    clear hr0 hJ1 hb0 hg0 hcn hcm hW0
    obtain ⟨k, hk, rfl, hrow, hj⟩ := hrel
    have Hrow := Lib.hid hrow; clear hrow
    have Hj := Lib.hid hj; clear hj
    by_cases hlt : k < M
    · have hc := Hrow.out.cell (j := k) (by rw [upTo_len]; exact hlt)
      have hf := Hrow.out.free k
      gi_wp2
      exact ⟨⟨k + 1, by omega, by go_num, by rw [← upTo_set]; exact Hrow.out.set k k, HJ.out _ _ Hj.out ((Below.refl _ _).setCell (p := ⟨W.heap.size, k, none⟩) (Nat.le_refl _) _)⟩, by simp [intOf]; omega⟩
    · obtain rfl : M = k := by omega
      gi_wp2
      gi_loopg [] rest0.length (fun gk wx => ∃ (x : List Int) (rest : List (List Int)), gk = rest.length ∧ Left N R0 T x rest ∧ RowIs wx W.heap.size x ∧ J wx)
      case atStart => exact ⟨_, rest0, rfl, HL.out, Hrow.out, Hj.out⟩
      case round =>
        clear Hj Hrow HL
        obtain ⟨x, rest, hg, hl, hrow, hj⟩ := hrel
        have Hg := Lib.hid hg; clear hg
        have hin := HR.out x (hl.mem x (by simp))
        obtain ⟨fn, tmps, assign, body, hy, hRd⟩ := HY.out x (hl.mem x (by simp)) W.heap.size wr hj (Nat.le_refl _) hrow
        obtain ⟨hcn, hcm⟩ := HJc.out _ hj
        have HL := Lib.hid hl; clear hl
        have Hin := Lib.hid hin; clear hin
        have Hrow := Lib.hid hrow; clear hrow
        have Hj := Lib.hid hj; clear hj
        have hgl : W.heap.size < wr.heap.size := (Array.getElem?_eq_some_iff.1 Hrow.out).1
        gi_wp2
        refine hRd.mono ?_
        clear hy
        rintro e W3 ⟨hk3, (⟨rfl, hT, hj3⟩ | ⟨rfl, hT, hx3⟩)⟩
        · have hrow3 := Hrow.out.same (hk3.2 _ (Nat.le_refl _) hgl)
          obtain ⟨hcn3, hcm3⟩ := HJc.out _ hj3
          have HT := Lib.hid hT; clear hT
          have Hj3 := Lib.hid hj3; clear hj3
          have Hrow3 := Lib.hid hrow3; clear hrow3
          clear Hrow Hj hcn hcm hk3
          gi_wp2
          gi_loopw [6] (fun v6 wx => ∃ kk : Int, -1 ≤ kk ∧ kk < M ∧ v6 = .int .i64 kk ∧ (∀ (j : Nat) (h : j < x.length), kk < j → x[j] = (N : Int) - x.length + j) ∧ RowIs wx W.heap.size x ∧ J wx) (fun v _ => (intOf v + 1).toNat)
          case atStart => exact ⟨(M : Int) - 1, by omega, by omega, rfl, fun j h hlt => by have := Hin.out.len; omega, Hrow3.out, Hj3.out⟩
          case round =>
            clear hcn3 hcm3 Hrow3 Hj3
            obtain ⟨kk, hk1, hk2, rfl, hmax, hrow, hj⟩ := hrel
            obtain ⟨hcn, hcm⟩ := HJc.out _ hj
            have Hmax := Lib.hid hmax; clear hmax
            have Hj := Lib.hid hj; clear hj
            have Hrow := Lib.hid hrow; clear hrow
            by_cases hk0 : 0 ≤ kk
            · obtain ⟨k, hk⟩ := Int.eq_ofNat_of_zero_le hk0
              subst hk
              have hkl : k < x.length := by have := Hin.out.len; omega
              have hc := Hrow.out.cell hkl
              have hxhi := Hin.out.hi k hkl
              have hxlo := Hin.out.lo k hkl
              obtain ⟨y, hy⟩ : ∃ y, x[k] = y := ⟨_, rfl⟩
              rw [hy] at hc hxhi hxlo
              have Hy := Lib.hid hy; clear hy
              have q1 : IntKind.i64.wrap ((N : Int) - M) = (N : Int) - M := IntWalk.i64_in _ (by omega)
              have q2 : IntKind.i64.wrap ((N : Int) - M + k) = (N : Int) - M + k := IntWalk.i64_in _ (by omega)
              by_cases heq : y = (N : Int) - M + k
              · have heq' : (y == (N : Int) - M + k) = true := by simpa using heq
                have Heq := Lib.hid heq; clear heq
                gi_wp2
                gi_quiet (fail)
                gi_wp2
                refine ⟨⟨(k : Int) - 1, by omega, by omega, rfl, fun j h hlt => ?_, Hrow.out.same (by simp), HJ.out _ _ Hj.out (below_drewN (Below.refl _ _) _)⟩, by simp [intOf]⟩
                by_cases ej : j = k
                · subst ej; rw [Hy.out, Heq.out, Hin.out.len]
                · exact Hmax.out j h (by omega)
              · have heq' : (y == (N : Int) - M + k) = false := by simpa using heq
                have Heq := Lib.hid heq; clear heq
                have hf := Hrow.out.free k
                gi_wp2
                gi_quiet (fail)
                gi_wp2
                clear q1 q2 hc hf heq'
                have hrow1 : RowIs ((wr.drewN nq).setCell ⟨W.heap.size, k, none⟩ (.int .i64 (y + 1))) W.heap.size (filled x k (k + 1)) := by
                  rw [← filled_first hkl, Hy.out]
                  exact (Hrow.out.same (w' := wr.drewN nq) (by simp)).set k (y + 1)
                have hj1 : J ((wr.drewN nq).setCell ⟨W.heap.size, k, none⟩ (.int .i64 (y + 1))) := HJ.out _ _ Hj.out ((below_drewN (Below.refl _ _) _).setCell (p := ⟨W.heap.size, k, none⟩) (Nat.le_refl _) _)
                gi_loopw [7] (fun v7 wx => ∃ i : Nat, k ≤ i ∧ i + 1 ≤ M ∧ v7 = .int .i64 ((i : Int) + 1) ∧ RowIs wx W.heap.size (filled x k (i + 1)) ∧ J wx) (fun v _ => (M - intOf v).toNat)
                case atStart => exact ⟨k, by omega, by omega, rfl, hrow1, hj1⟩
                case round =>
                  clear Hrow hrow1 hj1 Hj hcn hcm
                  obtain ⟨i, hi1, hi2, rfl, hrow, hj⟩ := hrel
                  obtain ⟨hcn, hcm⟩ := HJc.out _ hj
                  have Hj := Lib.hid hj; clear hj
                  have Hrow := Lib.hid hrow; clear hrow
                  by_cases hlt : i + 1 < M
                  · have hxl := Hin.out.len
                    have hil : i < (filled x k (i + 1)).length := by rw [filled_len]; omega
                    have hc := Hrow.out.cell hil
                    have hf := Hrow.out.free (i + 1)
                    have hc2 := Hrow.out.cell (j := i + 1) (by rw [filled_len]; omega)
                    have hz : (filled x k (i + 1))[i] = y + 1 + ((i : Int) - k) := by
                      rw [filled_get (by omega), if_pos (by omega), List.getD_eq_getElem?_getD, List.getElem?_eq_getElem hkl, Option.getD_some, Hy.out]
                    rw [hz] at hc
                    obtain ⟨z2, hz2⟩ : ∃ z2, (filled x k (i + 1))[i + 1]'(by rw [filled_len]; omega) = z2 := ⟨_, rfl⟩
                    rw [hz2] at hc2
                    clear hz2
                    have Hz := Lib.hid hz; clear hz
                    clear hxl
                    gi_wp2
                    refine ⟨⟨i + 1, by omega, by omega, by go_num, ?_, HJ.out _ _ Hj.out ((Below.refl _ _).setCell (p := ⟨W.heap.size, i + 1, none⟩) (Nat.le_refl _) _)⟩, by simp [intOf]; omega⟩
                    rw [← filled_next (k := k) (i := i + 1) (by omega) (by have := Hin.out.len; omega) (x := y + 1 + ((i : Int) - k)) Hz.out.symm]
                    exact Hrow.out.set (i + 1) _
                  · have hn : nextR N x = some (filled x k x.length) := by
                      rw [filled_all hkl]
                      exact next_some x k hkl (by have := Hin.out.len; have h2 := Heq.out; rw [Hy.out]; omega) (fun j h hlt => Hmax.out j h (by omega))
                    obtain ⟨rest', hre, hl'⟩ := HL.out.next HT.out hn
                    have hil : i + 1 = x.length := by have := Hin.out.len; omega
                    rw [← hil] at hl'
                    have Hl' := Lib.hid hl'; clear hl'
                    have Hre := Lib.hid hre; clear hre hn hil
                    gi_wp2
                    gi_roundg rest'.length
                    case measure => rw [Hg.out, Hre.out]; simp
                    case rel => exact ⟨_, rest', rfl, Hl'.out, Hrow.out, Hj.out⟩
            · have hd : decide (0 ≤ kk) = false := decide_eq_false hk0
              gi_wp2
              gi_quiet (fail)
              gi_wp2
              refine bodyPost_ret (results_none rfl _ _ _) rfl ?_
              refine ⟨⟨_, rfl⟩, .inl ⟨HL.out.last HT.out (next_none _ fun j h => Hmax.out j h (by omega)), HJ.out _ _ Hj.out (below_drewN (Below.refl _ _) _)⟩⟩
        · have HT := Lib.hid hT; clear hT
          have Hx3 := Lib.hid hx3; clear hx3
          clear hk3
          gi_wp2
          refine bodyPost_ret (results_none rfl _ _ _) rfl ?_
          exact ⟨⟨_, rfl⟩, .inr ⟨x, HL.out.yes HT.out, Hx3.out⟩⟩

theorem lists_any (w : World) (N M : Nat) : Calls Try.prog 84 #[.int .i64 N, .int .i64 M] w fun e w' =>
    e = .returned (.func (.func 121) #[] #[.pointer (some ⟨w.heap.size + 1, 0, none⟩), .pointer (some ⟨w.heap.size, 0, none⟩)]) ∧
    w' = (w.alloc (.cells #[.int .i64 N] 3)).alloc (.cells #[.int .i64 M] 3) := by
  go_enter Try.func84, Try.ntmps84
  go_wp2_with fail
  go_ret
  exact ⟨rfl, rfl⟩
end Go.Proofs.Ytjgkgnfhglhklaa
