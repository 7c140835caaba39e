/- The contracts of mestaref02.Bars, Days, of both Widths; what Bars and Days return. -/
import Derived.Test.YtmkjeonjhedgkaaDoorBarsPub
import Derived.Test.YtmkjeonjhedgkaaDoorAsked
import Derived.Test.YtmkjeonjhedgkaaDoorRefWhy
import Derived.Deep.RegionHeld3
import Derived.Deep.CutBlock
namespace Go.Proofs.YtmkjeonjhedgkaaDoor
set_option linter.unusedSimpArgs false
set_option linter.unusedVariables false
open Go.RowKit

theorem asked_zero {r : Roads} {f : Flock} {ss ds : List Int} (h : askedErr r f ss ds = 0) : Good r f ∧ allIn r.stages ss = true ∧ allIn r.days ds = true := by
  unfold askedErr at h
  by_cases c1 : (checkR r != 0) = true
  · rw [if_pos c1] at h; simp [h] at c1
  · rw [if_neg c1] at h
    by_cases c2 : (flockErr f != 0) = true
    · rw [if_pos c2] at h; simp [h] at c2
    · rw [if_neg c2] at h
      refine ⟨good_iff.2 ⟨by simpa using c1, by simpa using c2⟩, ?_⟩
      by_cases c3 : (allIn r.stages ss && allIn r.days ds) = true
      · simpa using c3
      · rw [if_neg c3] at h; simp at h
theorem bars_ready (r : Roads) (f : Flock) (strip day : Int) : readyErr r f [strip, r.strips.length, day, r.days] = if askedErr r f [] [day] = 0 then (if btw strip 0 ((r.strips.length : Int) - 1) then 0 else 3) else askedErr r f [] [day] := by
  unfold readyErr askedErr
  by_cases c1 : (checkR r != 0) = true
  · rw [if_pos c1, if_pos c1, if_neg (by simpa using c1)]
  · rw [if_neg c1, if_neg c1]
    by_cases c2 : (flockErr f != 0) = true
    · rw [if_pos c2, if_pos c2, if_neg (by simpa using c2)]
    · rw [if_neg c2, if_neg c2]
      simp only [pairsErr, allIn, List.all_cons, List.all_nil, Bool.and_true, Bool.true_and]
      by_cases h1 : btw strip 0 ((r.strips.length : Int) - 1) = true <;> by_cases h2 : btw day 0 (r.days - 1) = true <;> simp [h1, h2]
theorem days_ready (r : Roads) (f : Flock) (strip : Int) : readyErr r f [strip, r.strips.length] = if askedErr r f [] [] = 0 then (if btw strip 0 ((r.strips.length : Int) - 1) then 0 else 3) else askedErr r f [] [] := by
  unfold readyErr askedErr
  by_cases c1 : (checkR r != 0) = true
  · rw [if_pos c1, if_pos c1, if_neg (by simpa using c1)]
  · rw [if_neg c1, if_neg c1]
    by_cases c2 : (flockErr f != 0) = true
    · rw [if_pos c2, if_pos c2, if_neg (by simpa using c2)]
    · rw [if_neg c2, if_neg c2]
      simp only [pairsErr, allIn, List.all_nil, Bool.and_true, Bool.true_and]
      by_cases h1 : btw strip 0 ((r.strips.length : Int) - 1) = true <;> simp [h1]

/-- What Bars and Days return. -/
def barsV (r : Roads) (f : Flock) (strip day : Int) : List Int × Int :=
  if readyErr r f [strip, r.strips.length, day, r.days] = 0 then (match r.strips[strip.toNat]? with | some s => barsL s f day | none => [], 0) else ([], readyErr r f [strip, r.strips.length, day, r.days])
theorem BarsPost.val {w w' : World} {r : Roads} {f : Flock} {strip day : Int} {e : Ending} (h : BarsPost w r f strip day e w') :
    ∃ ga gc, e = .returned (.tuple #[.slice ga (barsV r f strip day).1.length gc, .int .i64 (barsV r f strip day).2]) ∧ IntsAt w' ga (barsV r f strip day).1 ∧ Below w.heap.size w w' := by
  obtain ⟨h1, v, s, rfl, hs, hown, hb⟩ | ⟨h1, rfl, hb⟩ := h
  · obtain ⟨ga, gc, rfl, hi, _⟩ := hown.ints
    have e : barsV r f strip day = (barsL s f day, 0) := by rw [barsV, if_pos h1, hs]
    rw [e]
    exact ⟨ga, gc, rfl, hi, hb⟩
  · have e : barsV r f strip day = ([], readyErr r f [strip, r.strips.length, day, r.days]) := by rw [barsV, if_neg h1]
    rw [e]
    exact ⟨none, 0, rfl, .inl rfl, hb⟩
def daysV (r : Roads) (f : Flock) (strip : Int) : List Int × Int :=
  if readyErr r f [strip, r.strips.length] = 0 then (daysTo r f strip.toNat r.days.toNat, 0) else ([], readyErr r f [strip, r.strips.length])
theorem DaysPost.val {w w' : World} {r : Roads} {f : Flock} {strip : Int} {e : Ending} (h : DaysPost w r f strip e w') :
    ∃ ga gc, e = .returned (.tuple #[.slice ga (daysV r f strip).1.length gc, .int .i64 (daysV r f strip).2]) ∧ IntsAt w' ga (daysV r f strip).1 ∧ Below w.heap.size w w' := by
  obtain ⟨h1, v, rfl, hown, hb⟩ | ⟨h1, rfl, hb⟩ := h
  · obtain ⟨ga, gc, rfl, hi, _⟩ := hown.ints
    have e : daysV r f strip = (daysTo r f strip.toNat r.days.toNat, 0) := by rw [daysV, if_pos h1]
    rw [e]
    exact ⟨ga, gc, rfl, hi, hb⟩
  · have e : daysV r f strip = ([], readyErr r f [strip, r.strips.length]) := by rw [daysV, if_neg h1]
    rw [e]
    exact ⟨none, 0, rfl, .inl rfl, hb⟩

def widthV (n : Int) : Int × Int := if btw n 1 40 then (legalW n, 0) else (0, 1)
theorem Width_any (n : Int) (w : World) : Calls Tryd.prog 7 #[.int .i64 n] w fun e w' => e = .returned (.tuple #[.int .i64 (widthV n).1, .int .i64 (widthV n).2]) ∧ w = w' := by
  go_enter Tryd.func7, Tryd.ntmps7
  go_wp2_with fail
  refine (between_any _ _ _ _).mono ?_
  rintro e w' ⟨rfl, rfl⟩
  cases hb : btw n 1 40
  · have HB := Lib.hid hb; clear hb
    go_wp2_with fail
    go_ret2
    exact ⟨by rw [widthV, HB.out]; rfl, rfl⟩
  · have HB := Lib.hid hb; clear hb
    go_wp2_with fail
    refine (legal_any _ _).mono ?_
    rintro e w' ⟨rfl, rfl⟩
    go_wp2_with fail
    go_ret2
    exact ⟨by rw [widthV, HB.out]; rfl, rfl⟩
end Go.Proofs.YtmkjeonjhedgkaaDoor
