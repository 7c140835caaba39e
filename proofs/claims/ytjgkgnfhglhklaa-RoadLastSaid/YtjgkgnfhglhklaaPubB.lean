/- The contracts of road.Late, Stay. -/
import Derived.Test.YtjgkgnfhglhklaaPubA
namespace Go.Proofs.Ytjgkgnfhglhklaa
set_option linter.unusedSimpArgs false
set_option linter.unusedVariables false
open Go.RowKit

def lateD (r : Roads) (f : Flock) (fr tt : Nat) (by' : Int) : Int := lateR r f (-1) fr tt by' (by' + 1).toNat
/-- What Stay returns: the night of coming, and the last day of setting out. -/
def stayA (r : Roads) (f : Flock) (home tt : Nat) (day : Int) : Int := (comesL r f (-1) home day).getD tt 0

def LatePost (w : World) (r : Roads) (f : Flock) (fr tt by' : Int) (e : Ending) (w' : World) : Prop :=
  Below w.heap.size w w' ∧ (
  (readyErr r f [fr, r.stages, tt, r.stages, by', r.days] = 0 ∧ lateD r f fr.toNat tt.toNat by' < 0 ∧ e = .returned (.tuple #[.int .i64 0, .int .i64 11])) ∨
  (readyErr r f [fr, r.stages, tt, r.stages, by', r.days] = 0 ∧ 0 ≤ lateD r f fr.toNat tt.toNat by' ∧ e = .returned (.tuple #[.int .i64 (lateD r f fr.toNat tt.toNat by'), .int .i64 0])) ∨
  (readyErr r f [fr, r.stages, tt, r.stages, by', r.days] ≠ 0 ∧ e = .returned (.tuple #[.int .i64 0, .int .i64 (readyErr r f [fr, r.stages, tt, r.stages, by', r.days])])))

theorem odd6 {r : Roads} (hc : checkR r = 0) (x y z : Int) : ∀ i (h : i < [x, r.stages, y, r.stages, z, r.days].length), i % 2 = 1 → 0 ≤ [x, r.stages, y, r.stages, z, r.days][i] ∧ [x, r.stages, y, r.stages, z, r.days][i] ≤ 1000 := by
  have := check_size hc
  intro i h hi
  simp only [List.length_cons, List.length_nil] at h
  obtain rfl | rfl | rfl : i = 1 ∨ i = 3 ∨ i = 5 := by omega
  · show 0 ≤ r.stages ∧ r.stages ≤ 1000; omega
  · show 0 ≤ r.stages ∧ r.stages ≤ 1000; omega
  · show 0 ≤ r.days ∧ r.days ≤ 1000; omega
theorem odd8 {r : Roads} (hc : checkR r = 0) (x y z t : Int) : ∀ i (h : i < [x, r.stages, y, r.stages, z, r.days, t, r.days].length), i % 2 = 1 → 0 ≤ [x, r.stages, y, r.stages, z, r.days, t, r.days][i] ∧ [x, r.stages, y, r.stages, z, r.days, t, r.days][i] ≤ 1000 := by
  have := check_size hc
  intro i h hi
  simp only [List.length_cons, List.length_nil] at h
  obtain rfl | rfl | rfl | rfl : i = 1 ∨ i = 3 ∨ i = 5 ∨ i = 7 := by omega
  · show 0 ≤ r.stages ∧ r.stages ≤ 1000; omega
  · show 0 ≤ r.stages ∧ r.stages ≤ 1000; omega
  · show 0 ≤ r.days ∧ r.days ≤ 1000; omega
  · show 0 ≤ r.days ∧ r.days ≤ 1000; omega

/-- Integers written into a new block, behind two others. -/
theorem ints_new {w : World} (l : List Int) : IntsAt (w.alloc (.cells (l.map (Value.int .i64)).toArray 3)) (some ⟨w.heap.size, 0, none⟩) l := by
  refine .inr ⟨_, 0, rfl, fun i h => ?_⟩
  rw [World.cell?_alloc_at _ _ _ _ rfl]
  simp [h]

set_option maxRecDepth 100000 in
set_option maxHeartbeats 4000000 in
theorem Late_any (w : World) (r : Roads) (f : Flock) (a : Option Addr) (cap : Nat) (hs : StripsAt w a r.strips) (hm : r.strips.length ≤ maxLen) (fr tt by' : Int) :
    Calls Try.prog 43 #[.agg #[.int .i64 r.days, .int .i64 r.stages, .slice a r.strips.length cap], .agg #[.int .i64 f.heads, .int .i64 f.pace], .int .i64 fr, .int .i64 tt, .int .i64 by'] w (LatePost w r f fr tt by') := by
  have hb0 : Below w.heap.size w (((w.alloc (.cells #[.int .i64 r.days, .int .i64 r.stages, .slice a r.strips.length cap] 24)).alloc (.cells #[.int .i64 f.heads, .int .i64 f.pace] 26)).alloc (.cells #[.int .i64 fr, .int .i64 r.stages, .int .i64 tt, .int .i64 r.stages, .int .i64 by', .int .i64 r.days] 3)) :=
    (((Below.refl _ _).alloc (Nat.le_refl _) _).alloc (by simp) _).alloc (by simp; omega) _
  have hp := @ints_new ((w.alloc (.cells #[.int .i64 r.days, .int .i64 r.stages, .slice a r.strips.length cap] 24)).alloc (.cells #[.int .i64 f.heads, .int .i64 f.pace] 26)) [fr, r.stages, tt, r.stages, by', r.days]
  simp only [World.size_alloc] at hp
  have HM := Lib.hid hm; clear hm
  have HO := Lib.hid (fun hc => @odd6 r hc fr tt by')
  go_enter Try.func43, Try.ntmps43
  go_wp2_with fail
  refine (ready_any _ r f [fr, r.stages, tt, r.stages, by', r.days] a cap _ 6 (hs.below hb0) HM.out hp (by simp) HO.out).mono ?_
  rintro e w1 (⟨hz, b, rfl, hW, hbb, _, hb1⟩ | ⟨hz, rfl, hb1⟩)
  · obtain ⟨g, hpz⟩ := ready_zero hz
    obtain ⟨⟨p1, p2⟩, ⟨p3, p4⟩, p5, p6⟩ := pairs6.1 hpz
    have hg := g.s2
    have hd := g.d2
    obtain ⟨k, hk⟩ := Int.eq_ofNat_of_zero_le p1
    obtain ⟨j, hj⟩ := Int.eq_ofNat_of_zero_le p3
    have Hz := Lib.hid hz; clear hz hpz
    subst hk hj
    have hb01 := hb0.trans (hb1.mono hb0.size)
    go_wp2_with fail
    refine (late_any w1 b r f (-1) a cap hW g k j (by omega) (by omega) by' p5 (by omega)).mono ?_
    rintro e w2 ⟨rfl, hb2⟩
    have hb02 := hb01.trans (hb2.mono hb01.size)
    have Hl := Lib.hid (show lateD r f k j by' = lateR r f (-1) k j by' (by' + 1).toNat from rfl)
    generalize lateR r f (-1) k j by' (by' + 1).toNat = d at Hl
    by_cases hneg : d < 0
    · go_wp2_with fail
      go_ret2
      exact ⟨hb02, .inl ⟨Hz.out, by simp; rw [Hl.out]; exact hneg, rfl⟩⟩
    · go_wp2_with fail
      go_ret2
      exact ⟨hb02, .inr (.inl ⟨Hz.out, by simp; rw [Hl.out]; omega, by simp; rw [Hl.out]⟩)⟩
  · have hne : (readyErr r f [fr, r.stages, tt, r.stages, by', r.days] != 0) = true := by simpa using hz
    have Hz := Lib.hid hz; clear hz
    go_wp2_with fail
    go_ret2
    exact ⟨hb0.trans (hb1.mono hb0.size), .inr (.inr ⟨Hz.out, rfl⟩)⟩

def StayPost (w : World) (r : Roads) (f : Flock) (home tt day by' : Int) (e : Ending) (w' : World) : Prop :=
  Below w.heap.size w w' ∧ (
  (readyErr r f [home, r.stages, tt, r.stages, day, r.days, by', r.days] = 0 ∧ (stayA r f home.toNat tt.toNat day < 0 ∨ lateD r f tt.toNat home.toNat by' ≤ stayA r f home.toNat tt.toNat day) ∧ e = .returned (.tuple #[.int .i64 0, .int .i64 11])) ∨
  (readyErr r f [home, r.stages, tt, r.stages, day, r.days, by', r.days] = 0 ∧ ¬ (stayA r f home.toNat tt.toNat day < 0 ∨ lateD r f tt.toNat home.toNat by' ≤ stayA r f home.toNat tt.toNat day) ∧
    e = .returned (.tuple #[.int .i64 (lateD r f tt.toNat home.toNat by' - stayA r f home.toNat tt.toNat day), .int .i64 0])) ∨
  (readyErr r f [home, r.stages, tt, r.stages, day, r.days, by', r.days] ≠ 0 ∧ e = .returned (.tuple #[.int .i64 0, .int .i64 (readyErr r f [home, r.stages, tt, r.stages, day, r.days, by', r.days])])))
end Go.Proofs.Ytjgkgnfhglhklaa
