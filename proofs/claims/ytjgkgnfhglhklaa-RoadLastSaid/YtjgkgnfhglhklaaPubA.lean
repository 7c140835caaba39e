/- The contracts of road.Comes, Late, Stay. -/
import Derived.Test.YtjgkgnfhglhklaaReady
namespace Go.Proofs.Ytjgkgnfhglhklaa
set_option linter.unusedSimpArgs false
set_option linter.unusedVariables false
open Go.RowKit

theorem check_size {r : Roads} (h : checkR r = 0) : 1 ≤ r.days ∧ r.days ≤ 10 ∧ 1 ≤ r.stages ∧ r.stages ≤ 6 ∧ r.strips.length ≤ 8 := by
  unfold checkR at h
  by_cases c1 : (!(btw r.days 1 10) || !(btw r.stages 1 6)) = true
  · rw [if_pos c1] at h; omega
  · rw [if_neg c1] at h
    simp [btw] at c1
    by_cases c2 : 8 < r.strips.length
    · rw [if_pos c2] at h; omega
    · omega
theorem ready_zero {r : Roads} {f : Flock} {l : List Int} (h : readyErr r f l = 0) : Good r f ∧ pairsErr l = 0 := by
  unfold readyErr at h
  by_cases c1 : (checkR r != 0) = true
  · rw [if_pos c1] at h; simp [h] at c1
  · rw [if_neg c1] at h
    by_cases c2 : (flockErr f != 0) = true
    · rw [if_pos c2] at h; simp [h] at c2
    · rw [if_neg c2] at h
      exact ⟨good_iff.2 ⟨by simpa using c1, by simpa using c2⟩, h⟩
theorem pairs2 {a b : Int} : pairsErr [a, b] = 0 ↔ 0 ≤ a ∧ a < b := by
  rw [pairsErr]
  by_cases h : btw a 0 (b - 1) = true
  · rw [if_pos h]; rw [btw_true] at h; simp [pairsErr]; omega
  · rw [if_neg h]; rw [btw_true] at h; omega
theorem pairs4 {a b c d : Int} : pairsErr [a, b, c, d] = 0 ↔ (0 ≤ a ∧ a < b) ∧ 0 ≤ c ∧ c < d := by
  rw [pairsErr]
  by_cases h : btw a 0 (b - 1) = true
  · rw [if_pos h, pairs2]; rw [btw_true] at h; omega
  · rw [if_neg h]; rw [btw_true] at h; omega
theorem pairs6 {a b c d x y : Int} : pairsErr [a, b, c, d, x, y] = 0 ↔ (0 ≤ a ∧ a < b) ∧ (0 ≤ c ∧ c < d) ∧ 0 ≤ x ∧ x < y := by
  rw [pairsErr]
  by_cases h : btw a 0 (b - 1) = true
  · rw [if_pos h, pairs4]; rw [btw_true] at h; omega
  · rw [if_neg h]; rw [btw_true] at h; omega
theorem pairs8 {a b c d x y z t : Int} : pairsErr [a, b, c, d, x, y, z, t] = 0 ↔ (0 ≤ a ∧ a < b) ∧ (0 ≤ c ∧ c < d) ∧ (0 ≤ x ∧ x < y) ∧ 0 ≤ z ∧ z < t := by
  rw [pairsErr]
  by_cases h : btw a 0 (b - 1) = true
  · rw [if_pos h, pairs6]; rw [btw_true] at h; omega
  · rw [if_neg h]; rw [btw_true] at h; omega

/-- What Comes returns. -/
def ComesPost (w : World) (r : Roads) (f : Flock) (fr day : Int) (e : Ending) (w' : World) : Prop :=
  (readyErr r f [fr, r.stages, day, r.days] = 0 ∧ ∃ v, e = .returned (.tuple #[v, .int .i64 0]) ∧ OwnInts w' w.heap.size v (comesL r f (-1) fr.toNat day) ∧ Below w.heap.size w w') ∨
  (readyErr r f [fr, r.stages, day, r.days] ≠ 0 ∧ e = .returned (.tuple #[.slice none 0 0, .int .i64 (readyErr r f [fr, r.stages, day, r.days])]) ∧ Below w.heap.size w w')

theorem odd4 {r : Roads} (hc : checkR r = 0) (x y : Int) : ∀ i (h : i < [x, r.stages, y, r.days].length), i % 2 = 1 → 0 ≤ [x, r.stages, y, r.days][i] ∧ [x, r.stages, y, r.days][i] ≤ 1000 := by
  have := check_size hc
  intro i h hi
  simp only [List.length_cons, List.length_nil] at h
  obtain rfl | rfl : i = 1 ∨ i = 3 := by omega
  · show 0 ≤ r.stages ∧ r.stages ≤ 1000; omega
  · show 0 ≤ r.days ∧ r.days ≤ 1000; omega

set_option maxRecDepth 100000 in
set_option maxHeartbeats 4000000 in
theorem Comes_any (w : World) (r : Roads) (f : Flock) (a : Option Addr) (cap : Nat) (hs : StripsAt w a r.strips) (hm : r.strips.length ≤ maxLen) (fr day : Int) :
    Calls Try.prog 25 #[.agg #[.int .i64 r.days, .int .i64 r.stages, .slice a r.strips.length cap], .agg #[.int .i64 f.heads, .int .i64 f.pace], .int .i64 fr, .int .i64 day] w (ComesPost w r f fr day) := by
  have hb0 : Below w.heap.size w (((w.alloc (.cells #[.int .i64 r.days, .int .i64 r.stages, .slice a r.strips.length cap] 24)).alloc (.cells #[.int .i64 f.heads, .int .i64 f.pace] 26)).alloc (.cells #[.int .i64 fr, .int .i64 r.stages, .int .i64 day, .int .i64 r.days] 3)) :=
    (((Below.refl _ _).alloc (Nat.le_refl _) _).alloc (by simp) _).alloc (by simp; omega) _
  have hp : IntsAt (((w.alloc (.cells #[.int .i64 r.days, .int .i64 r.stages, .slice a r.strips.length cap] 24)).alloc (.cells #[.int .i64 f.heads, .int .i64 f.pace] 26)).alloc (.cells #[.int .i64 fr, .int .i64 r.stages, .int .i64 day, .int .i64 r.days] 3))
      (some ⟨w.heap.size + 1 + 1, 0, none⟩) [fr, r.stages, day, r.days] := by
    refine .inr ⟨_, 0, rfl, fun i h => ?_⟩
    simp only [List.length_cons, List.length_nil] at h
    obtain rfl | rfl | rfl | rfl : i = 0 ∨ i = 1 ∨ i = 2 ∨ i = 3 := by omega
    all_goals (rw [World.cell?_alloc_at _ _ _ _ (by simp)]; rfl)
  have HM := Lib.hid hm; clear hm
  have HO := Lib.hid (fun hc => @odd4 r hc fr day)
  go_enter Try.func25, Try.ntmps25
  go_wp2_with fail
  refine (ready_any _ r f [fr, r.stages, day, r.days] a cap _ 4 (hs.below hb0) HM.out hp (by simp) HO.out).mono ?_
  rintro e w1 (⟨hz, b, rfl, hW, hbb, _, hb1⟩ | ⟨hz, rfl, hb1⟩)
  · obtain ⟨g, hpz⟩ := ready_zero hz
    obtain ⟨⟨p1, p2⟩, p3, p4⟩ := pairs4.1 hpz
    have hg := g.s2
    have hd := g.d2
    obtain ⟨k, hk⟩ := Int.eq_ofNat_of_zero_le p1
    have Hz := Lib.hid hz; clear hz hpz
    subst hk
    go_wp2_with fail
    refine (comes_any w1 b r f (-1) a cap hW g k (by omega) day p3 (by omega)).mono ?_
    rintro e w2 ⟨v, rfl, hown, hb2⟩
    go_wp2_with fail
    go_ret2
    have hb01 := hb0.trans (hb1.mono hb0.size)
    exact .inl ⟨Hz.out, v, rfl, hown.mono hb01.size, hb01.trans (hb2.mono hb01.size)⟩
  · have hne : (readyErr r f [fr, r.stages, day, r.days] != 0) = true := by simpa using hz
    have Hz := Lib.hid hz; clear hz
    go_wp2_with fail
    go_ret2
    exact .inr ⟨Hz.out, rfl, hb0.trans (hb1.mono hb0.size)⟩
end Go.Proofs.Ytjgkgnfhglhklaa
