/- The chapter's examples, reckoned. The contracts of SameInts, SameStrides. The contract of afoot: the examples of the chapter. The contract of afoot. -/
import Derived.Test.YtmkjeonjhedgkaaGreatDoorWay
import Derived.Test.YtmkjeonjhedgkaaGreatDoorWiden
import Derived.Test.YtmkjeonjhedgkaaGreatDoorPlan
import Derived.Test.YtmkjeonjhedgkaaGreatDoorTogo
namespace Go.Proofs.YtmkjeonjhedgkaaGreatDoor
set_option linter.unusedSimpArgs false
set_option linter.unusedVariables false
open Go.RowKit

def exRoads : Roads := ⟨6, 4, [⟨0, 1, 5, 90, 1, 0, 0⟩, ⟨1, 2, 4, 45, 2, 2, 4⟩, ⟨2, 3, 3, 25, 3, 10, -1⟩, ⟨0, 3, 9, 45, 4, 20, 0⟩]⟩
theorem ex_ready4 : readyErr exRoads ⟨10, 6⟩ [0, 4, 0, 6] = 0 := by decide +kernel
theorem ex_ready6 : readyErr exRoads ⟨10, 6⟩ [0, 4, 3, 4, 0, 6] = 0 := by decide +kernel
theorem ex_ready8 : readyErr exRoads ⟨10, 6⟩ [0, 4, 2, 4, 0, 6, 5, 6] = 0 := by decide +kernel
theorem ex_ready8' : readyErr exRoads ⟨30, 6⟩ [0, 4, 3, 4, 0, 6, 5, 6] = 0 := by decide +kernel
theorem ex_readyW : readyErr exRoads ⟨10, 9⟩ [0, 4, 3, 4] = 0 := by decide +kernel
theorem ex_comes : comesL exRoads ⟨10, 6⟩ (-1) 0 0 = [0, 0, 2, 3] := by decide +kernel
theorem ex_planDay : planDay exRoads ⟨10, 6⟩ 0 3 0 = 3 := by decide +kernel
theorem ex_plan : planL exRoads ⟨10, 6⟩ (-1) 3 3 0 0 = [(0, 0), (2, 1), (3, 2)] := by decide +kernel
theorem ex_stayA : stayA exRoads ⟨10, 6⟩ 0 2 0 = 2 := by decide +kernel
theorem ex_stayB : lateD exRoads ⟨10, 6⟩ 2 0 5 = 4 := by decide +kernel
theorem ex_widen : widenL exRoads ⟨30, 6⟩ 0 3 0 5 = some [1, 2] := by decide +kernel
theorem ex_wayN : wayAll exRoads ⟨10, 9⟩ 0 3 ≠ [] := by decide +kernel
theorem ex_way : bestL exRoads (wayAll exRoads ⟨10, 9⟩ 0 3) = [3] := by decide +kernel
theorem ex_len : lenL exRoads [3] = 9 := by decide +kernel
end Go.Proofs.YtmkjeonjhedgkaaGreatDoor

namespace Go.Proofs.YtmkjeonjhedgkaaGreatDoor
set_option linter.unusedSimpArgs false
set_option linter.unusedVariables false
open Go.RowKit

theorem take_all {α : Type} [DecidableEq α] {l m : List α} (h : l.length = m.length) (e : l.take l.length = m.take l.length) : l = m := by
  rw [List.take_length, h, List.take_length] at e; exact e
theorem take_next {α : Type} {l m : List α} {k : Nat} (h1 : k < l.length) (h2 : k < m.length) (e : l.take k = m.take k) (h : l[k] = m[k]) : l.take (k + 1) = m.take (k + 1) := by
  rw [List.take_succ_eq_append_getElem h1, List.take_succ_eq_append_getElem h2, e, h]

set_option maxRecDepth 100000 in
set_option maxHeartbeats 2000000 in
theorem SameInts_any (w : World) (a b : Option Addr) (ca cb : Nat) (l m : List Int) (hl : IntsAt w a l) (hm : IntsAt w b m) (hb1 : l.length ≤ maxLen) (hb2 : m.length ≤ maxLen) :
    Calls Tryz.prog 23 #[.slice a l.length ca, .slice b m.length cb] w fun e w' => e = .returned (.bool (decide (l = m))) ∧ ∃ n, w' = w.drewN n := by
  unfold maxLen at hb1 hb2
  have HL := Lib.hid hl; clear hl
  have HM := Lib.hid hm; clear hm
  by_cases hn : l.length = m.length
  · have hne : ((l.length : Int) != (m.length : Int)) = false := by simp [hn]
    obtain ⟨N, hN⟩ : ∃ N, m.length = N := ⟨_, rfl⟩
    rw [hn, hN] at hne ⊢
    rw [hn, hN] at hb1
    have HN := Lib.hid (hn.trans hN)
    have HN2 := Lib.hid hN
    clear hn hN hb2
    go_enter Tryz.func23, Tryz.ntmps23
    go_wp2_with fail
    go_loopw [5] (fun v5 wx => ∃ k : Nat, k ≤ N ∧ v5 = .int .i64 k ∧ l.take k = m.take k ∧ ∃ n, wx = w.drewN n) (fun v _ => N - (intOf v).toNat)
    case atStart => exact ⟨0, Nat.zero_le _, rfl, by simp, 0, rfl⟩
    case round =>
      obtain ⟨k, hk, rfl, htk, n, rfl⟩ := hrel
      have HT := Lib.hid htk; clear htk
      by_cases hlt : k < N
      · have hl1 : k < l.length := by rw [HN.out]; exact hlt
        have hm1 : k < m.length := by rw [HN2.out]; exact hlt
        rcases HL.out with hz | ⟨ba, oa, ha, hca⟩
        · rw [hz] at hl1; simp at hl1
        rcases HM.out with hz | ⟨bb, ob, hb, hcb⟩
        · rw [hz] at hm1; simp at hm1
        have x1 := hca k hl1
        have x2 := hcb k hm1
        have hnx := @take_next Int l m k hl1 hm1 HT.out
        have hno : l[k] ≠ m[k] → l ≠ m := fun h e => h (by subst e; rfl)
        generalize l[k] = x at x1 hnx hno
        generalize m[k] = y at x2 hnx hno
        have Hnx := Lib.hid hnx; clear hnx
        have Hno := Lib.hid hno; clear hno
        clear hca hcb
        subst ha hb
        have q1 : (0 : Int) ≤ (k : Int) := by omega
        have q2 : (k : Int) < (N : Int) := by omega
        by_cases hxy : x = y
        · have hxy' : (x != y) = false := by simp [hxy]
          have HXY := Lib.hid hxy; clear hxy
          go_wp2_with fail
          go_quiet (fail)
          go_wp2_with fail
          exact ⟨⟨k + 1, by omega, by go_num, Hnx.out HXY.out, _, rfl⟩, by simp [intOf]; omega⟩
        · have hxy' : (x != y) = true := by simpa using hxy
          have HXY := Lib.hid hxy; clear hxy
          go_wp2_with fail
          go_quiet (fail)
          go_wp2_with fail
          go_ret
          exact ⟨ret_bool (by simpa using Hno.out HXY.out), _, World.drewN_drewN _ _ _⟩
      · obtain rfl : k = N := by omega
        go_wp2_with fail
        go_ret
        exact ⟨ret_bool (by
          have := HT.out
          rw [← HN.out] at this
          have h2 : l.length = m.length := HN.out.trans HN2.out.symm
          simpa using take_all h2 this), n, rfl⟩
  · have hne : ((l.length : Int) != (m.length : Int)) = true := by simp only [bne_iff_ne, ne_eq]; omega
    have HN := Lib.hid hn; clear hn
    go_enter Tryz.func23, Tryz.ntmps23
    go_wp2_with fail
    go_ret
    exact ⟨ret_bool (by simpa using fun e => HN.out (by rw [e])), 0, rfl⟩
theorem run_neq_stride (p1 p2 r1 r2 : Int) (w : World) : (binOp .neq 59 (.agg #[.int .i64 p1, .int .i64 p2]) (.agg #[.int .i64 r1, .int .i64 r2])).run Tryz.prog w = .ok (.bool (!(p1 == r1 && p2 == r2))) w := by
  by_cases h1 : p1 = r1 <;> by_cases h2 : p2 = r2 <;> simp [go_sem, h1, h2, Tryz.underlying59, Tryz.underlying3]
/-- The strides l (day, strip) lie behind a slice's address. -/
def StridesAt (w : World) (a : Option Addr) (l : List (Int × Int)) : Prop :=
  l = [] ∨ ∃ b o, a = some ⟨b, o, none⟩ ∧ ∀ (i : Nat) (h : i < l.length), w.cell? ⟨b, o + i * 2, none⟩ = some (.int .i64 l[i].1) ∧ w.cell? ⟨b, o + i * 2 + 1, none⟩ = some (.int .i64 l[i].2)
theorem StridesAt.below {w w' : World} {a : Option Addr} {l : List (Int × Int)} (h : StridesAt w a l) (hb : Below w.heap.size w w') : StridesAt w' a l := by
  rcases h with h | ⟨b, o, ha, h⟩
  · exact .inl h
  · exact .inr ⟨b, o, ha, fun i hi => ⟨by rw [(bcell hb).1 _ _ (lt_of_cell (h i hi).1)]; exact (h i hi).1, by rw [(bcell hb).1 _ _ (lt_of_cell (h i hi).1)]; exact (h i hi).2⟩⟩

set_option maxRecDepth 100000 in
set_option maxHeartbeats 2000000 in
theorem SameStrides_any (w : World) (a b : Option Addr) (ca cb : Nat) (l m : List (Int × Int)) (hl : StridesAt w a l) (hm : StridesAt w b m) (hb1 : l.length ≤ maxLen) (hb2 : m.length ≤ maxLen) :
    Calls Tryz.prog 24 #[.slice a l.length ca, .slice b m.length cb] w fun e w' => e = .returned (.bool (decide (l = m))) ∧ ∃ n, w' = w.drewN n := by
  unfold maxLen at hb1 hb2
  have HL := Lib.hid hl; clear hl
  have HM := Lib.hid hm; clear hm
  by_cases hn : l.length = m.length
  · have hne : ((l.length : Int) != (m.length : Int)) = false := by simp [hn]
    obtain ⟨N, hN⟩ : ∃ N, m.length = N := ⟨_, rfl⟩
    rw [hn, hN] at hne ⊢
    rw [hn, hN] at hb1
    have HN := Lib.hid (hn.trans hN)
    have HN2 := Lib.hid hN
    clear hn hN hb2
    go_enter Tryz.func24, Tryz.ntmps24
    go_wp2_with fail
    go_loopw [5] (fun v5 wx => ∃ k : Nat, k ≤ N ∧ v5 = .int .i64 k ∧ l.take k = m.take k ∧ ∃ n, wx = w.drewN n) (fun v _ => N - (intOf v).toNat)
    case atStart => exact ⟨0, Nat.zero_le _, rfl, by simp, 0, rfl⟩
    case round =>
      obtain ⟨k, hk, rfl, htk, n, rfl⟩ := hrel
      have HT := Lib.hid htk; clear htk
      by_cases hlt : k < N
      · have hl1 : k < l.length := by rw [HN.out]; exact hlt
        have hm1 : k < m.length := by rw [HN2.out]; exact hlt
        rcases HL.out with hz | ⟨ba, oa, ha, hca⟩
        · rw [hz] at hl1; simp at hl1
        rcases HM.out with hz | ⟨bb, ob, hb, hcb⟩
        · rw [hz] at hm1; simp at hm1
        obtain ⟨x1, x1'⟩ := hca k hl1
        obtain ⟨x2, x2'⟩ := hcb k hm1
        have hnx := @take_next (Int × Int) l m k hl1 hm1 HT.out
        have hno : l[k] ≠ m[k] → l ≠ m := fun h e => h (by subst e; rfl)
        generalize l[k] = x at x1 x1' hnx hno
        generalize m[k] = y at x2 x2' hnx hno
        have Hnx := Lib.hid hnx; clear hnx
        have Hno := Lib.hid hno; clear hno
        clear hca hcb
        subst ha hb
        have q1 : (0 : Int) ≤ (k : Int) := by omega
        have q2 : (k : Int) < (N : Int) := by omega
        obtain ⟨p1, p2⟩ := x
        obtain ⟨r1, r2⟩ := y
        dsimp only at x1 x1' x2 x2'
        by_cases hxy : (p1, p2) = (r1, r2)
        · have hz : p1 = r1 ∧ p2 = r2 := by simpa using hxy
          obtain ⟨rfl, rfl⟩ := hz
          have HXY := Lib.hid hxy; clear hxy
          go_wp2_with fail
          go_quiet (fail)
          go_wp2_with fail
          exact ⟨⟨k + 1, by omega, by go_num, Hnx.out HXY.out, _, rfl⟩, by simp [intOf]; omega⟩
        · have hnq : ∀ W : World, (binOp .neq 59 (.agg #[.int .i64 p1, .int .i64 p2]) (.agg #[.int .i64 r1, .int .i64 r2])).run Tryz.prog W = .ok (.bool true) W := fun W => by
            rw [run_neq_stride]
            have : (p1 == r1 && p2 == r2) = false := by
              rw [Bool.eq_false_iff]; intro h; simp at h; exact hxy (by rw [h.1, h.2])
            rw [this]; rfl
          have HXY := Lib.hid hxy; clear hxy
          go_wp2_with fail
          go_quiet (fail)
          go_wp2_with fail
          go_ret
          exact ⟨ret_bool (by simpa using Hno.out HXY.out), _, World.drewN_drewN _ _ _⟩
      · obtain rfl : k = N := by omega
        go_wp2_with fail
        go_ret
        exact ⟨ret_bool (by
          have := HT.out
          rw [← HN.out] at this
          have h2 : l.length = m.length := HN.out.trans HN2.out.symm
          simpa using take_all h2 this), n, rfl⟩
  · have hne : ((l.length : Int) != (m.length : Int)) = true := by simp only [bne_iff_ne, ne_eq]; omega
    have HN := Lib.hid hn; clear hn
    go_enter Tryz.func24, Tryz.ntmps24
    go_wp2_with fail
    go_ret
    exact ⟨ret_bool (by simpa using fun e => HN.out (by rw [e])), 0, rfl⟩
end Go.Proofs.YtmkjeonjhedgkaaGreatDoor

namespace Go.Proofs.YtmkjeonjhedgkaaGreatDoor
set_option linter.unusedSimpArgs false
set_option linter.unusedVariables false
open Go.RowKit

def RoadsPost (w : World) (e : Ending) (w' : World) : Prop := ∃ g, e = .returned (.agg #[.int .i64 6, .int .i64 4, .slice (some ⟨g, 0, none⟩) 4 4]) ∧ StripsAt w' (some ⟨g, 0, none⟩) exRoads.strips ∧ Below w.heap.size w w'

set_option maxRecDepth 100000 in
theorem roads_any (w : World) : Calls Tryz.prog 15 #[] w (RoadsPost w) := by
  go_enter Tryz.func15, Tryz.ntmps15
  go_wp2_with fail
  refine bodyPost_ret (v := .agg #[.int .i64 6, .int .i64 4, .slice (some ⟨w.heap.size + 1, 0, none⟩) 4 4]) (by simp [results, Tryz.results15, go_sem]) rfl ⟨w.heap.size + 1, rfl, .inr ⟨w.heap.size + 1, 0, rfl, fun i hi => ?_⟩, ((Below.refl _ _).alloc (Nat.le_refl _) _).alloc (by simp) _⟩
  have hi4 : i < 4 := hi
  obtain rfl | rfl | rfl | rfl : i = 0 ∨ i = 1 ∨ i = 2 ∨ i = 3 := by omega
  all_goals exact ⟨by rw [World.cell?_alloc_at _ _ _ _ (by simp)]; rfl, by rw [World.cell?_alloc_at _ _ _ _ (by simp)]; rfl, by rw [World.cell?_alloc_at _ _ _ _ (by simp)]; rfl, by rw [World.cell?_alloc_at _ _ _ _ (by simp)]; rfl, by rw [World.cell?_alloc_at _ _ _ _ (by simp)]; rfl, by rw [World.cell?_alloc_at _ _ _ _ (by simp)]; rfl, by rw [World.cell?_alloc_at _ _ _ _ (by simp)]; rfl⟩
theorem flock_any (w : World) (h p : Int) : Calls Tryz.prog 20 #[.int .i64 h, .int .i64 p] w fun e w' => e = .returned (.agg #[.int .i64 h, .int .i64 p]) ∧ Below w.heap.size w w' := by
  go_enter Tryz.func20, Tryz.ntmps20
  go_wp2_with fail
  exact bodyPost_ret (v := .agg #[.int .i64 h, .int .i64 p]) (by simp [results, Tryz.results20, go_sem]) rfl ⟨rfl, (Below.refl _ _).alloc (Nat.le_refl _) _⟩
theorem slow_any (w : World) : Calls Tryz.prog 16 #[] w fun e w' => e = .returned (.agg #[.int .i64 10, .int .i64 6]) ∧ Below w.heap.size w w' := by
  go_enter Tryz.func16, Tryz.ntmps16
  go_wp2_with fail
  refine (flock_any _ 10 6).mono ?_
  rintro e w1 ⟨rfl, hb1⟩
  have hc := (bcell hb1).1
  have hf := (bcell hb1).2
  have c0 : w1.cell? ⟨w.heap.size, 0, none⟩ = some (.int .i64 0) := by rw [hc _ _ (by simp)]; simp
  have c1 : w1.cell? ⟨w.heap.size, 1, none⟩ = some (.int .i64 0) := by rw [hc _ _ (by simp)]; simp
  have f0 : w1.frozen? ⟨w.heap.size, 0, none⟩ = false := by rw [hf _ _ (by simp)]; simp
  have f1 : w1.frozen? ⟨w.heap.size, 1, none⟩ = false := by rw [hf _ _ (by simp)]; simp
  clear hc hf
  go_wp2_with fail
  exact bodyPost_ret (v := .agg #[.int .i64 10, .int .i64 6]) (by simp [results, Tryz.results16, go_sem, c0, c1]) rfl ⟨rfl, ((((Below.refl _ _).alloc (Nat.le_refl _) _).trans (hb1.mono (by simp))).setCell (p := ⟨w.heap.size, 0, none⟩) (Nat.le_refl _) _).setCell (p := ⟨w.heap.size, 1, none⟩) (Nat.le_refl _) _⟩
theorem fast_any (w : World) : Calls Tryz.prog 22 #[] w fun e w' => e = .returned (.agg #[.int .i64 10, .int .i64 9]) ∧ Below w.heap.size w w' := by
  go_enter Tryz.func22, Tryz.ntmps22
  go_wp2_with fail
  refine (flock_any _ 10 9).mono ?_
  rintro e w1 ⟨rfl, hb1⟩
  have hc := (bcell hb1).1
  have hf := (bcell hb1).2
  have c0 : w1.cell? ⟨w.heap.size, 0, none⟩ = some (.int .i64 0) := by rw [hc _ _ (by simp)]; simp
  have c1 : w1.cell? ⟨w.heap.size, 1, none⟩ = some (.int .i64 0) := by rw [hc _ _ (by simp)]; simp
  have f0 : w1.frozen? ⟨w.heap.size, 0, none⟩ = false := by rw [hf _ _ (by simp)]; simp
  have f1 : w1.frozen? ⟨w.heap.size, 1, none⟩ = false := by rw [hf _ _ (by simp)]; simp
  clear hc hf
  go_wp2_with fail
  exact bodyPost_ret (v := .agg #[.int .i64 10, .int .i64 9]) (by simp [results, Tryz.results22, go_sem, c0, c1]) rfl ⟨rfl, ((((Below.refl _ _).alloc (Nat.le_refl _) _).trans (hb1.mono (by simp))).setCell (p := ⟨w.heap.size, 0, none⟩) (Nat.le_refl _) _).setCell (p := ⟨w.heap.size, 1, none⟩) (Nat.le_refl _) _⟩
end Go.Proofs.YtmkjeonjhedgkaaGreatDoor

namespace Go.Proofs.YtmkjeonjhedgkaaGreatDoor
set_option linter.unusedSimpArgs false
set_option linter.unusedVariables false
open Go.RowKit

abbrev exV (g : Nat) : Value := .agg #[.int .i64 6, .int .i64 4, .slice (some ⟨g, 0, none⟩) 4 4]

theorem OwnStrides.strides {w : World} {B : Nat} {v : Value} {l : List (Int × Int)} (h : OwnStrides w B v l) : ∃ a cap, v = .slice a l.length cap ∧ StridesAt w a l := by
  obtain ⟨h1, h2⟩ := h
  rcases h2 with ⟨hv, hn⟩ | ⟨g, cap, cur, hv, hg, hh, hc, hm, hs, ht⟩
  · have : l = [] := List.length_eq_zero_iff.1 hn
    subst this
    exact ⟨none, 0, hv, .inl rfl⟩
  · refine ⟨_, cap, hv, .inr ⟨g, 0, rfl, fun i hi => ?_⟩⟩
    have get : ∀ (l : List (Int × Int)) (i : Nat) (h : i < l.length), (l.flatMap fun x => [Value.int .i64 x.1, Value.int .i64 x.2])[i * 2]? = some (.int .i64 l[i].1) ∧ (l.flatMap fun x => [Value.int .i64 x.1, Value.int .i64 x.2])[i * 2 + 1]? = some (.int .i64 l[i].2) := by
      intro l
      induction l with
      | nil => intro i h; simp at h
      | cons x l ih =>
        intro i h
        cases i with
        | zero => simp
        | succ i =>
          obtain ⟨h1, h2⟩ := ih i (by simpa using h)
          simp only [List.flatMap_cons, List.getElem_cons_succ]
          rw [show (i + 1) * 2 = i * 2 + 1 + 1 by omega]
          exact ⟨h1, h2⟩
    obtain ⟨g1, g2⟩ := get l i hi
    have key : ∀ j, j < l.length * 2 → cur[j]? = (l.flatMap fun x => [Value.int .i64 x.1, Value.int .i64 x.2])[j]? := by
      intro j hj
      rw [← Array.getElem?_toList]
      have : (cur.toList.take (l.length * 2))[j]? = cur.toList[j]? := by rw [List.getElem?_take, if_pos hj]
      rw [← this, ht]
    refine ⟨?_, ?_⟩
    · simp [World.cell?, hh, key (i * 2) (by omega), g1]
    · simp [World.cell?, hh, key (i * 2 + 1) (by omega), g2]

def ExInts (w : World) (l : List Int) (n : Nat) (e : Ending) (w' : World) : Prop := ∃ a c, e = .returned (.tuple #[.slice a n c, .int .i64 0]) ∧ IntsAt w' a l ∧ Below w.heap.size w w'
theorem exComes (w : World) (g : Nat) (hs : StripsAt w (some ⟨g, 0, none⟩) exRoads.strips) :
    Calls Tryz.prog 14 #[exV g, .agg #[.int .i64 10, .int .i64 6], .int .i64 0, .int .i64 0] w (ExInts w [0, 0, 2, 3] 4) :=
  (Comes_any w exRoads ⟨10, 6⟩ (some ⟨g, 0, none⟩) 4 hs (by show 4 ≤ maxLen; unfold maxLen; omega) 0 0).mono fun e w' h => by
    rcases h with ⟨_, v, rfl, hown, hb⟩ | ⟨hz, _⟩
    · obtain ⟨a, c, rfl, hi, _⟩ := hown.ints
      rw [show comesL exRoads ⟨10, 6⟩ (-1) (0 : Int).toNat 0 = [0, 0, 2, 3] from ex_comes] at hi ⊢
      exact ⟨a, c, rfl, hi, hb⟩
    · exact absurd ex_ready4 hz
def ExStrides (w : World) (l : List (Int × Int)) (n : Nat) (e : Ending) (w' : World) : Prop := ∃ a c, e = .returned (.tuple #[.slice a n c, .int .i64 0]) ∧ StridesAt w' a l ∧ Below w.heap.size w w'
theorem exPlan (w : World) (g : Nat) (hs : StripsAt w (some ⟨g, 0, none⟩) exRoads.strips) :
    Calls Tryz.prog 17 #[exV g, .agg #[.int .i64 10, .int .i64 6], .int .i64 0, .int .i64 3, .int .i64 0] w (ExStrides w [(0, 0), (2, 1), (3, 2)] 3) :=
  (Plan_any w exRoads ⟨10, 6⟩ (some ⟨g, 0, none⟩) 4 hs (by show 4 ≤ maxLen; unfold maxLen; omega) 0 3 0).mono fun e w' h => by
    obtain ⟨hb, ⟨_, hd, _⟩ | ⟨_, _, v, rfl, hown⟩ | ⟨hz, _⟩⟩ := h
    · exact absurd hd (by have := ex_planDay; show ¬ planDay exRoads ⟨10, 6⟩ 0 3 0 < 0; omega)
    · obtain ⟨a, c, rfl, hi⟩ := hown.strides
      rw [show planDay exRoads ⟨10, 6⟩ (0 : Int).toNat (3 : Int).toNat 0 = 3 from ex_planDay, show planL exRoads ⟨10, 6⟩ (-1) 3 3 0 0 = [(0, 0), (2, 1), (3, 2)] from ex_plan] at hi ⊢
      exact ⟨a, c, rfl, hi, hb⟩
    · exact absurd ex_ready6 hz
theorem exStay (w : World) (g : Nat) (hs : StripsAt w (some ⟨g, 0, none⟩) exRoads.strips) :
    Calls Tryz.prog 18 #[exV g, .agg #[.int .i64 10, .int .i64 6], .int .i64 0, .int .i64 2, .int .i64 0, .int .i64 5] w fun e w' => e = .returned (.tuple #[.int .i64 2, .int .i64 0]) ∧ Below w.heap.size w w' :=
  (Stay_any w exRoads ⟨10, 6⟩ (some ⟨g, 0, none⟩) 4 hs (by show 4 ≤ maxLen; unfold maxLen; omega) 0 2 0 5).mono fun e w' h => by
    have hA : stayA exRoads ⟨10, 6⟩ (0 : Int).toNat (2 : Int).toNat 0 = 2 := ex_stayA
    have hB : lateD exRoads ⟨10, 6⟩ (2 : Int).toNat (0 : Int).toNat 5 = 4 := ex_stayB
    obtain ⟨hb, ⟨_, hd, _⟩ | ⟨_, _, rfl⟩ | ⟨hz, _⟩⟩ := h
    · exact absurd hd (by rw [hA, hB]; omega)
    · exact ⟨by rw [hA, hB]; rfl, hb⟩
    · exact absurd ex_ready8 hz
theorem exWiden (w : World) (g : Nat) (hs : StripsAt w (some ⟨g, 0, none⟩) exRoads.strips) :
    Calls Tryz.prog 19 #[exV g, .agg #[.int .i64 30, .int .i64 6], .int .i64 0, .int .i64 3, .int .i64 0, .int .i64 5] w (ExInts w [1, 2] 2) :=
  (Widen_any w exRoads ⟨30, 6⟩ (some ⟨g, 0, none⟩) 4 hs (by show 4 ≤ maxLen; unfold maxLen; omega) 0 3 0 5).mono fun e w' h => by
    have hA : widenL exRoads ⟨30, 6⟩ (0 : Int).toNat (3 : Int).toNat 0 5 = some [1, 2] := ex_widen
    obtain ⟨hb, ⟨_, hd, _⟩ | ⟨_, L, v, hL, rfl, hown⟩ | ⟨hz, _⟩⟩ := h
    · rw [hA] at hd; simp at hd
    · rw [hA] at hL
      simp only [Option.some.injEq] at hL
      subst hL
      obtain ⟨a, c, rfl, hi, _⟩ := hown.ints
      exact ⟨a, c, rfl, hi, hb⟩
    · exact absurd ex_ready8' hz
theorem exWay (w : World) (g : Nat) (hs : StripsAt w (some ⟨g, 0, none⟩) exRoads.strips) :
    Calls Tryz.prog 21 #[exV g, .agg #[.int .i64 10, .int .i64 9], .int .i64 0, .int .i64 3] w fun e w' => ∃ a c, e = .returned (.tuple #[.slice a 1 c, .int .i64 9, .int .i64 0]) ∧ IntsAt w' a [3] ∧ Below w.heap.size w w' :=
  (Way_any w exRoads ⟨10, 9⟩ (some ⟨g, 0, none⟩) 4 hs (by show 4 ≤ maxLen; unfold maxLen; omega) 0 3).mono fun e w' h => by
    have hA : bestL exRoads (wayAll exRoads ⟨10, 9⟩ (0 : Int).toNat 3) = [3] := ex_way
    obtain ⟨hb, ⟨_, hd, _⟩ | ⟨_, _, a, c, rfl, hi⟩ | ⟨hz, _⟩⟩ := h
    · exact absurd hd ex_wayN
    · rw [hA] at hi ⊢
      rw [ex_len]
      exact ⟨a, c, rfl, hi, hb⟩
    · exact absurd ex_readyW hz

theorem same_ints (w : World) (a b : Option Addr) (ca cb n : Nat) (l : List Int) (hn : l.length = n) (hl : IntsAt w a l) (hm : IntsAt w b l) (hb1 : n ≤ maxLen) :
    Calls Tryz.prog 23 #[.slice a n ca, .slice b n cb] w fun e w' => e = .returned (.bool true) ∧ Below w.heap.size w w' := by
  subst hn
  refine (SameInts_any w a b ca cb l l hl hm hb1 hb1).mono ?_
  rintro e w' ⟨rfl, k, rfl⟩
  exact ⟨by simp, below_drewN (Below.refl _ _) k⟩
theorem same_strides (w : World) (a b : Option Addr) (ca cb n : Nat) (l : List (Int × Int)) (hn : l.length = n) (hl : StridesAt w a l) (hm : StridesAt w b l) (hb1 : n ≤ maxLen) :
    Calls Tryz.prog 24 #[.slice a n ca, .slice b n cb] w fun e w' => e = .returned (.bool true) ∧ Below w.heap.size w w' := by
  subst hn
  refine (SameStrides_any w a b ca cb l l hl hm hb1 hb1).mono ?_
  rintro e w' ⟨rfl, k, rfl⟩
  exact ⟨by simp, below_drewN (Below.refl _ _) k⟩
theorem max4 : 4 ≤ maxLen := by unfold maxLen; omega

set_option maxRecDepth 100000 in
set_option maxHeartbeats 4000000 in
theorem afoot_any (w : World) : Calls Tryz.prog 5 #[] w fun e w' => e = .returned (.bool true) ∧ Below w.heap.size w w' := by
  go_enter Tryz.func5, Tryz.ntmps5
  go_wp2_with fail
  refine (roads_any _).mono ?_
  rintro e w1 ⟨g1, rfl, hs1, hb1⟩
  have H1 := Lib.hid hs1; clear hs1
  go_wp2_with fail
  refine (slow_any _).mono ?_
  rintro e w2 ⟨rfl, hb2⟩
  have hB2 := hb1.trans (hb2.mono hb1.size)
  go_wp2_with fail
  refine (exComes w2 g1 (H1.out.below hb2)).mono ?_
  rintro e w3 ⟨a1, c1, rfl, hi1, hb3⟩
  have hB3 := hB2.trans (hb3.mono hB2.size)
  have I1 := Lib.hid hi1; clear hi1 H1 hb1 hb2 hb3
  go_wp2_with fail
  refine (roads_any _).mono ?_
  rintro e w4 ⟨g2, rfl, hs1, hb1⟩
  have H1 := Lib.hid hs1; clear hs1
  have I1 := Lib.hid (I1.out.below hb1)
  have hB4 := hB3.trans (hb1.mono hB3.size)
  go_wp2_with fail
  refine (slow_any _).mono ?_
  rintro e w5 ⟨rfl, hb2⟩
  have I1 := Lib.hid (I1.out.below hb2)
  have hB5 := hB4.trans (hb2.mono hB4.size)
  go_wp2_with fail
  refine (exPlan w5 g2 (H1.out.below hb2)).mono ?_
  rintro e w6 ⟨a2, c2, rfl, hi2, hb3⟩
  have I1 := Lib.hid (I1.out.below hb3)
  have I2 := Lib.hid hi2; clear hi2 H1
  have hB6 := hB5.trans (hb3.mono hB5.size)
  clear hb1 hb2 hb3
  go_wp2_with fail
  refine (roads_any _).mono ?_
  rintro e w7 ⟨g3, rfl, hs1, hb1⟩
  have H1 := Lib.hid hs1; clear hs1
  have I1 := Lib.hid (I1.out.below hb1)
  have I2 := Lib.hid (I2.out.below hb1)
  have hB7 := hB6.trans (hb1.mono hB6.size)
  go_wp2_with fail
  refine (slow_any _).mono ?_
  rintro e w8 ⟨rfl, hb2⟩
  have I1 := Lib.hid (I1.out.below hb2)
  have I2 := Lib.hid (I2.out.below hb2)
  have hB8 := hB7.trans (hb2.mono hB7.size)
  go_wp2_with fail
  refine (exStay w8 g3 (H1.out.below hb2)).mono ?_
  rintro e w9 ⟨rfl, hb3⟩
  have I1 := Lib.hid (I1.out.below hb3)
  have I2 := Lib.hid (I2.out.below hb3)
  have hB9 := hB8.trans (hb3.mono hB8.size)
  clear hb1 hb2 hb3 H1
  go_wp2_with fail
  refine (roads_any _).mono ?_
  rintro e w10 ⟨g4, rfl, hs1, hb1⟩
  have H1 := Lib.hid hs1; clear hs1
  have I1 := Lib.hid (I1.out.below hb1)
  have I2 := Lib.hid (I2.out.below hb1)
  have hB10 := hB9.trans (hb1.mono hB9.size)
  go_wp2_with fail
  refine (flock_any _ 30 6).mono ?_
  rintro e w11 ⟨rfl, hb2⟩
  have I1 := Lib.hid (I1.out.below hb2)
  have I2 := Lib.hid (I2.out.below hb2)
  have hB11 := hB10.trans (hb2.mono hB10.size)
  go_wp2_with fail
  refine (exWiden w11 g4 (H1.out.below hb2)).mono ?_
  rintro e w12 ⟨a3, c3, rfl, hi3, hb3⟩
  have I1 := Lib.hid (I1.out.below hb3)
  have I2 := Lib.hid (I2.out.below hb3)
  have I3 := Lib.hid hi3; clear hi3
  have hB12 := hB11.trans (hb3.mono hB11.size)
  clear hb1 hb2 hb3 H1
  go_wp2_with fail
  refine (roads_any _).mono ?_
  rintro e w13 ⟨g5, rfl, hs1, hb1⟩
  have H1 := Lib.hid hs1; clear hs1
  have I1 := Lib.hid (I1.out.below hb1)
  have I2 := Lib.hid (I2.out.below hb1)
  have I3 := Lib.hid (I3.out.below hb1)
  have hB13 := hB12.trans (hb1.mono hB12.size)
  go_wp2_with fail
  refine (fast_any _).mono ?_
  rintro e w14 ⟨rfl, hb2⟩
  have I1 := Lib.hid (I1.out.below hb2)
  have I2 := Lib.hid (I2.out.below hb2)
  have I3 := Lib.hid (I3.out.below hb2)
  have hB14 := hB13.trans (hb2.mono hB13.size)
  go_wp2_with fail
  refine (exWay w14 g5 (H1.out.below hb2)).mono ?_
  rintro e w15 ⟨a4, c4, rfl, hi4, hb3⟩
  have I1 := Lib.hid (I1.out.below hb3)
  have I2 := Lib.hid (I2.out.below hb3)
  have I3 := Lib.hid (I3.out.below hb3)
  have I4 := Lib.hid hi4; clear hi4
  have hB15 := hB14.trans (hb3.mono hB14.size)
  clear hb1 hb2 hb3 H1 hB2 hB3 hB4 hB5 hB6 hB7 hB8 hB9 hB10 hB11 hB12 hB13 hB14
  go_wp2_with fail
  have ha1 : Below w15.heap.size w15 (w15.alloc (.cells #[.int .i64 0, .int .i64 0, .int .i64 2, .int .i64 3] 3)) := Below.alloc (Below.refl _ _) (Nat.le_refl _) _
  refine (same_ints _ a1 (some ⟨w15.heap.size, 0, none⟩) c1 4 4 [0, 0, 2, 3] rfl (I1.out.below ha1) (@ints_new w15 [0, 0, 2, 3]) max4).mono ?_
  rintro e w16 ⟨rfl, hb1⟩
  have hb16 := ha1.trans (hb1.mono ha1.size)
  have I2 := Lib.hid (I2.out.below hb16)
  have I3 := Lib.hid (I3.out.below hb16)
  have I4 := Lib.hid (I4.out.below hb16)
  have hB16 := hB15.trans (hb16.mono hB15.size)
  clear I1 ha1 hb1 hb16
  go_wp2_with fail
  have ha1 : Below w16.heap.size w16 (w16.alloc (.cells #[.int .i64 0, .int .i64 0, .int .i64 2, .int .i64 1, .int .i64 3, .int .i64 2] 59)) := Below.alloc (Below.refl _ _) (Nat.le_refl _) _
  refine (same_strides _ a2 (some ⟨w16.heap.size, 0, none⟩) c2 3 3 [(0, 0), (2, 1), (3, 2)] rfl (I2.out.below ha1) (.inr ⟨w16.heap.size, 0, rfl, fun i hi => ?_⟩) (by unfold maxLen; omega)).mono ?_
  · have hi3 : i < 3 := hi
    obtain rfl | rfl | rfl : i = 0 ∨ i = 1 ∨ i = 2 := by omega
    all_goals exact ⟨by rw [World.cell?_alloc_at _ _ _ _ (by simp)]; rfl, by rw [World.cell?_alloc_at _ _ _ _ (by simp)]; rfl⟩
  rintro e w17 ⟨rfl, hb1⟩
  have hb17 := ha1.trans (hb1.mono ha1.size)
  have I3 := Lib.hid (I3.out.below hb17)
  have I4 := Lib.hid (I4.out.below hb17)
  have hB17 := hB16.trans (hb17.mono hB16.size)
  clear I2 ha1 hb1 hb17
  go_wp2_with fail
  have ha1 : Below w17.heap.size w17 (w17.alloc (.cells #[.int .i64 1, .int .i64 2] 3)) := Below.alloc (Below.refl _ _) (Nat.le_refl _) _
  refine (same_ints _ a3 (some ⟨w17.heap.size, 0, none⟩) c3 2 2 [1, 2] rfl (I3.out.below ha1) (@ints_new w17 [1, 2]) (by unfold maxLen; omega)).mono ?_
  rintro e w18 ⟨rfl, hb1⟩
  have hb18 := ha1.trans (hb1.mono ha1.size)
  have I4 := Lib.hid (I4.out.below hb18)
  have hB18 := hB17.trans (hb18.mono hB17.size)
  clear I3 ha1 hb1 hb18
  go_wp2_with fail
  have ha1 : Below w18.heap.size w18 (w18.alloc (.cells #[.int .i64 3] 3)) := Below.alloc (Below.refl _ _) (Nat.le_refl _) _
  refine (same_ints _ a4 (some ⟨w18.heap.size, 0, none⟩) c4 1 1 [3] rfl (I4.out.below ha1) (@ints_new w18 [3]) (by unfold maxLen; omega)).mono ?_
  rintro e w19 ⟨rfl, hb1⟩
  have hB19 := hB18.trans ((ha1.trans (hb1.mono ha1.size)).mono hB18.size)
  clear I4 ha1 hb1
  go_wp2_with fail
  go_ret
  exact ⟨rfl, hB19⟩
end Go.Proofs.YtmkjeonjhedgkaaGreatDoor
