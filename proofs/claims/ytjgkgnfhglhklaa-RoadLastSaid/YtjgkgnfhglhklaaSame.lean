/- The contracts of SameInts, SameStrides. -/
import Derived.Test.YtjgkgnfhglhklaaPlanP
namespace Go.Proofs.Ytjgkgnfhglhklaa
set_option linter.unusedSimpArgs false
set_option linter.unusedVariables false
open Go.RowKit

theorem take_all {α : Type} [DecidableEq α] {l m : List α} (h : l.length = m.length) (e : l.take l.length = m.take l.length) : l = m := by
  rw [List.take_length, h, List.take_length] at e; exact e
theorem take_next {α : Type} {l m : List α} {k : Nat} (h1 : k < l.length) (h2 : k < m.length) (e : l.take k = m.take k) (h : l[k] = m[k]) : l.take (k + 1) = m.take (k + 1) := by
  rw [List.take_succ_eq_append_getElem h1, List.take_succ_eq_append_getElem h2, e, h]

set_option maxRecDepth 100000 in
set_option maxHeartbeats 2000000 in
theorem SameInts_any (w : World) (a b : Option Addr) (ca cb : Nat) (l m : List Int) (hl : IntsAt w a l) (hm : IntsAt w b m) (hb1 : l.length ≤ maxLen) (hb2 : m.length ≤ maxLen) :
    Calls Try.prog 29 #[.slice a l.length ca, .slice b m.length cb] w fun e w' => e = .returned (.bool (decide (l = m))) ∧ ∃ n, w' = w.drewN n := by
  unfold maxLen at hb1 hb2
  have HL := Lib.hid hl; clear hl
  have HM := Lib.hid hm; clear hm
  by_cases hn : l.length = m.length
  · have hne : ((l.length : Int) != (m.length : Int)) = false := by simp [hn]
    obtain ⟨N, hN⟩ : ∃ N, m.length = N := ⟨_, rfl⟩
    rw [hn, hN] at hne ⊢
    rw [hn, hN] at hb1
    have HN := Lib.hid (hn.trans hN)
    have HN2 := Lib.hid hN
    clear hn hN hb2
    go_enter Try.func29, Try.ntmps29
    go_wp2_with fail
    go_loopw [5] (fun v5 wx => ∃ k : Nat, k ≤ N ∧ v5 = .int .i64 k ∧ l.take k = m.take k ∧ ∃ n, wx = w.drewN n) (fun v _ => N - (intOf v).toNat)
    case atStart => exact ⟨0, Nat.zero_le _, rfl, by simp, 0, rfl⟩
    case round =>
      obtain ⟨k, hk, rfl, htk, n, rfl⟩ := hrel
      have HT := Lib.hid htk; clear htk
      by_cases hlt : k < N
      · have hl1 : k < l.length := by rw [HN.out]; exact hlt
        have hm1 : k < m.length := by rw [HN2.out]; exact hlt
        rcases HL.out with hz | ⟨ba, oa, ha, hca⟩
        · rw [hz] at hl1; simp at hl1
        rcases HM.out with hz | ⟨bb, ob, hb, hcb⟩
        · rw [hz] at hm1; simp at hm1
        have x1 := hca k hl1
        have x2 := hcb k hm1
        have hnx := @take_next Int l m k hl1 hm1 HT.out
        have hno : l[k] ≠ m[k] → l ≠ m := fun h e => h (by subst e; rfl)
        generalize l[k] = x at x1 hnx hno
        generalize m[k] = y at x2 hnx hno
        have Hnx := Lib.hid hnx; clear hnx
        have Hno := Lib.hid hno; clear hno
        clear hca hcb
        subst ha hb
        have q1 : (0 : Int) ≤ (k : Int) := by omega
        have q2 : (k : Int) < (N : Int) := by omega
        by_cases hxy : x = y
        · have hxy' : (x != y) = false := by simp [hxy]
          have HXY := Lib.hid hxy; clear hxy
          go_wp2_with fail
          go_quiet (fail)
          go_wp2_with fail
          exact ⟨⟨k + 1, by omega, by go_num, Hnx.out HXY.out, _, rfl⟩, by simp [intOf]; omega⟩
        · have hxy' : (x != y) = true := by simpa using hxy
          have HXY := Lib.hid hxy; clear hxy
          go_wp2_with fail
          go_quiet (fail)
          go_wp2_with fail
          go_ret
          exact ⟨ret_bool (by simpa using Hno.out HXY.out), _, World.drewN_drewN _ _ _⟩
      · obtain rfl : k = N := by omega
        go_wp2_with fail
        go_ret
        exact ⟨ret_bool (by
          have := HT.out
          rw [← HN.out] at this
          have h2 : l.length = m.length := HN.out.trans HN2.out.symm
          simpa using take_all h2 this), n, rfl⟩
  · have hne : ((l.length : Int) != (m.length : Int)) = true := by simp only [bne_iff_ne, ne_eq]; omega
    have HN := Lib.hid hn; clear hn
    go_enter Try.func29, Try.ntmps29
    go_wp2_with fail
    go_ret
    exact ⟨ret_bool (by simpa using fun e => HN.out (by rw [e])), 0, rfl⟩
theorem run_neq_stride (p1 p2 r1 r2 : Int) (w : World) : (binOp .neq 89 (.agg #[.int .i64 p1, .int .i64 p2]) (.agg #[.int .i64 r1, .int .i64 r2])).run Try.prog w = .ok (.bool (!(p1 == r1 && p2 == r2))) w := by
  by_cases h1 : p1 = r1 <;> by_cases h2 : p2 = r2 <;> simp [go_sem, h1, h2, Try.underlying89, Try.underlying3]
/-- The strides l (day, strip) lie behind a slice's address. -/
def StridesAt (w : World) (a : Option Addr) (l : List (Int × Int)) : Prop :=
  l = [] ∨ ∃ b o, a = some ⟨b, o, none⟩ ∧ ∀ (i : Nat) (h : i < l.length), w.cell? ⟨b, o + i * 2, none⟩ = some (.int .i64 l[i].1) ∧ w.cell? ⟨b, o + i * 2 + 1, none⟩ = some (.int .i64 l[i].2)
theorem StridesAt.below {w w' : World} {a : Option Addr} {l : List (Int × Int)} (h : StridesAt w a l) (hb : Below w.heap.size w w') : StridesAt w' a l := by
  rcases h with h | ⟨b, o, ha, h⟩
  · exact .inl h
  · exact .inr ⟨b, o, ha, fun i hi => ⟨by rw [(bcell hb).1 _ _ (lt_of_cell (h i hi).1)]; exact (h i hi).1, by rw [(bcell hb).1 _ _ (lt_of_cell (h i hi).1)]; exact (h i hi).2⟩⟩

set_option maxRecDepth 100000 in
set_option maxHeartbeats 2000000 in
theorem SameStrides_any (w : World) (a b : Option Addr) (ca cb : Nat) (l m : List (Int × Int)) (hl : StridesAt w a l) (hm : StridesAt w b m) (hb1 : l.length ≤ maxLen) (hb2 : m.length ≤ maxLen) :
    Calls Try.prog 30 #[.slice a l.length ca, .slice b m.length cb] w fun e w' => e = .returned (.bool (decide (l = m))) ∧ ∃ n, w' = w.drewN n := by
  unfold maxLen at hb1 hb2
  have HL := Lib.hid hl; clear hl
  have HM := Lib.hid hm; clear hm
  by_cases hn : l.length = m.length
  · have hne : ((l.length : Int) != (m.length : Int)) = false := by simp [hn]
    obtain ⟨N, hN⟩ : ∃ N, m.length = N := ⟨_, rfl⟩
    rw [hn, hN] at hne ⊢
    rw [hn, hN] at hb1
    have HN := Lib.hid (hn.trans hN)
    have HN2 := Lib.hid hN
    clear hn hN hb2
    go_enter Try.func30, Try.ntmps30
    go_wp2_with fail
    go_loopw [5] (fun v5 wx => ∃ k : Nat, k ≤ N ∧ v5 = .int .i64 k ∧ l.take k = m.take k ∧ ∃ n, wx = w.drewN n) (fun v _ => N - (intOf v).toNat)
    case atStart => exact ⟨0, Nat.zero_le _, rfl, by simp, 0, rfl⟩
    case round =>
      obtain ⟨k, hk, rfl, htk, n, rfl⟩ := hrel
      have HT := Lib.hid htk; clear htk
      by_cases hlt : k < N
      · have hl1 : k < l.length := by rw [HN.out]; exact hlt
        have hm1 : k < m.length := by rw [HN2.out]; exact hlt
        rcases HL.out with hz | ⟨ba, oa, ha, hca⟩
        · rw [hz] at hl1; simp at hl1
        rcases HM.out with hz | ⟨bb, ob, hb, hcb⟩
        · rw [hz] at hm1; simp at hm1
        obtain ⟨x1, x1'⟩ := hca k hl1
        obtain ⟨x2, x2'⟩ := hcb k hm1
        have hnx := @take_next (Int × Int) l m k hl1 hm1 HT.out
        have hno : l[k] ≠ m[k] → l ≠ m := fun h e => h (by subst e; rfl)
        generalize l[k] = x at x1 x1' hnx hno
        generalize m[k] = y at x2 x2' hnx hno
        have Hnx := Lib.hid hnx; clear hnx
        have Hno := Lib.hid hno; clear hno
        clear hca hcb
        subst ha hb
        have q1 : (0 : Int) ≤ (k : Int) := by omega
        have q2 : (k : Int) < (N : Int) := by omega
        obtain ⟨p1, p2⟩ := x
        obtain ⟨r1, r2⟩ := y
        dsimp only at x1 x1' x2 x2'
        by_cases hxy : (p1, p2) = (r1, r2)
        · have hz : p1 = r1 ∧ p2 = r2 := by simpa using hxy
          obtain ⟨rfl, rfl⟩ := hz
          have HXY := Lib.hid hxy; clear hxy
          go_wp2_with fail
          go_quiet (fail)
          go_wp2_with fail
          exact ⟨⟨k + 1, by omega, by go_num, Hnx.out HXY.out, _, rfl⟩, by simp [intOf]; omega⟩
        · have hnq : ∀ W : World, (binOp .neq 89 (.agg #[.int .i64 p1, .int .i64 p2]) (.agg #[.int .i64 r1, .int .i64 r2])).run Try.prog W = .ok (.bool true) W := fun W => by
            rw [run_neq_stride]
            have : (p1 == r1 && p2 == r2) = false := by
              rw [Bool.eq_false_iff]; intro h; simp at h; exact hxy (by rw [h.1, h.2])
            rw [this]; rfl
          have HXY := Lib.hid hxy; clear hxy
          go_wp2_with fail
          go_quiet (fail)
          go_wp2_with fail
          go_ret
          exact ⟨ret_bool (by simpa using Hno.out HXY.out), _, World.drewN_drewN _ _ _⟩
      · obtain rfl : k = N := by omega
        go_wp2_with fail
        go_ret
        exact ⟨ret_bool (by
          have := HT.out
          rw [← HN.out] at this
          have h2 : l.length = m.length := HN.out.trans HN2.out.symm
          simpa using take_all h2 this), n, rfl⟩
  · have hne : ((l.length : Int) != (m.length : Int)) = true := by simp only [bne_iff_ne, ne_eq]; omega
    have HN := Lib.hid hn; clear hn
    go_enter Try.func30, Try.ntmps30
    go_wp2_with fail
    go_ret
    exact ⟨ret_bool (by simpa using fun e => HN.out (by rw [e])), 0, rfl⟩
end Go.Proofs.Ytjgkgnfhglhklaa
