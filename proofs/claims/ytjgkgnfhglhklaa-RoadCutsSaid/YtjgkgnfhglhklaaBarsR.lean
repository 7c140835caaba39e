/- The contracts of mestaref02.Bars, Days, of both Widths; what Bars and Days return. -/
import Derived.Test.YtjgkgnfhglhklaaBarsPub
import Derived.Test.YtjgkgnfhglhklaaAsked
import Derived.Test.YtjgkgnfhglhklaaRefWhy
import Derived.Deep.RegionHeld3
import Derived.Deep.CutBlock
namespace Go.Proofs.Ytjgkgnfhglhklaa
set_option linter.unusedSimpArgs false
set_option linter.unusedVariables false
open Go.RowKit

theorem asked_zero {r : Roads} {f : Flock} {ss ds : List Int} (h : askedErr r f ss ds = 0) : Good r f ∧ allIn r.stages ss = true ∧ allIn r.days ds = true := by
  unfold askedErr at h
  by_cases c1 : (checkR r != 0) = true
  · rw [if_pos c1] at h; simp [h] at c1
  · rw [if_neg c1] at h
    by_cases c2 : (flockErr f != 0) = true
    · rw [if_pos c2] at h; simp [h] at c2
    · rw [if_neg c2] at h
      refine ⟨good_iff.2 ⟨by simpa using c1, by simpa using c2⟩, ?_⟩
      by_cases c3 : (allIn r.stages ss && allIn r.days ds) = true
      · simpa using c3
      · rw [if_neg c3] at h; simp at h
theorem bars_ready (r : Roads) (f : Flock) (strip day : Int) : readyErr r f [strip, r.strips.length, day, r.days] = if askedErr r f [] [day] = 0 then (if btw strip 0 ((r.strips.length : Int) - 1) then 0 else 3) else askedErr r f [] [day] := by
  unfold readyErr askedErr
  by_cases c1 : (checkR r != 0) = true
  · rw [if_pos c1, if_pos c1, if_neg (by simpa using c1)]
  · rw [if_neg c1, if_neg c1]
    by_cases c2 : (flockErr f != 0) = true
    · rw [if_pos c2, if_pos c2, if_neg (by simpa using c2)]
    · rw [if_neg c2, if_neg c2]
      simp only [pairsErr, allIn, List.all_cons, List.all_nil, Bool.and_true, Bool.true_and]
      by_cases h1 : btw strip 0 ((r.strips.length : Int) - 1) = true <;> by_cases h2 : btw day 0 (r.days - 1) = true <;> simp [h1, h2]
theorem days_ready (r : Roads) (f : Flock) (strip : Int) : readyErr r f [strip, r.strips.length] = if askedErr r f [] [] = 0 then (if btw strip 0 ((r.strips.length : Int) - 1) then 0 else 3) else askedErr r f [] [] := by
  unfold readyErr askedErr
  by_cases c1 : (checkR r != 0) = true
  · rw [if_pos c1, if_pos c1, if_neg (by simpa using c1)]
  · rw [if_neg c1, if_neg c1]
    by_cases c2 : (flockErr f != 0) = true
    · rw [if_pos c2, if_pos c2, if_neg (by simpa using c2)]
    · rw [if_neg c2, if_neg c2]
      simp only [pairsErr, allIn, List.all_nil, Bool.and_true, Bool.true_and]
      by_cases h1 : btw strip 0 ((r.strips.length : Int) - 1) = true <;> simp [h1]

/-- What Bars and Days return. -/
def barsV (r : Roads) (f : Flock) (strip day : Int) : List Int × Int :=
  if readyErr r f [strip, r.strips.length, day, r.days] = 0 then (match r.strips[strip.toNat]? with | some s => barsL s f day | none => [], 0) else ([], readyErr r f [strip, r.strips.length, day, r.days])
theorem BarsPost.val {w w' : World} {r : Roads} {f : Flock} {strip day : Int} {e : Ending} (h : BarsPost w r f strip day e w') :
    ∃ ga gc, e = .returned (.tuple #[.slice ga (barsV r f strip day).1.length gc, .int .i64 (barsV r f strip day).2]) ∧ IntsAt w' ga (barsV r f strip day).1 ∧ Below w.heap.size w w' := by
  obtain ⟨h1, v, s, rfl, hs, hown, hb⟩ | ⟨h1, rfl, hb⟩ := h
  · obtain ⟨ga, gc, rfl, hi, _⟩ := hown.ints
    have e : barsV r f strip day = (barsL s f day, 0) := by rw [barsV, if_pos h1, hs]
    rw [e]
    exact ⟨ga, gc, rfl, hi, hb⟩
  · have e : barsV r f strip day = ([], readyErr r f [strip, r.strips.length, day, r.days]) := by rw [barsV, if_neg h1]
    rw [e]
    exact ⟨none, 0, rfl, .inl rfl, hb⟩
def daysV (r : Roads) (f : Flock) (strip : Int) : List Int × Int :=
  if readyErr r f [strip, r.strips.length] = 0 then (daysTo r f strip.toNat r.days.toNat, 0) else ([], readyErr r f [strip, r.strips.length])
theorem DaysPost.val {w w' : World} {r : Roads} {f : Flock} {strip : Int} {e : Ending} (h : DaysPost w r f strip e w') :
    ∃ ga gc, e = .returned (.tuple #[.slice ga (daysV r f strip).1.length gc, .int .i64 (daysV r f strip).2]) ∧ IntsAt w' ga (daysV r f strip).1 ∧ Below w.heap.size w w' := by
  obtain ⟨h1, v, rfl, hown, hb⟩ | ⟨h1, rfl, hb⟩ := h
  · obtain ⟨ga, gc, rfl, hi, _⟩ := hown.ints
    have e : daysV r f strip = (daysTo r f strip.toNat r.days.toNat, 0) := by rw [daysV, if_pos h1]
    rw [e]
    exact ⟨ga, gc, rfl, hi, hb⟩
  · have e : daysV r f strip = ([], readyErr r f [strip, r.strips.length]) := by rw [daysV, if_neg h1]
    rw [e]
    exact ⟨none, 0, rfl, .inl rfl, hb⟩

def widthV (n : Int) : Int × Int := if btw n 1 40 then (legalW n, 0) else (0, 1)
theorem Width_any (n : Int) (w : World) : Calls Try.prog 56 #[.int .i64 n] w fun e w' => e = .returned (.tuple #[.int .i64 (widthV n).1, .int .i64 (widthV n).2]) ∧ w = w' := by
  go_enter Try.func56, Try.ntmps56
  go_wp2_with fail
  refine (between_any _ _ _ _).mono ?_
  rintro e w' ⟨rfl, rfl⟩
  cases hb : btw n 1 40
  · have HB := Lib.hid hb; clear hb
    go_wp2_with fail
    go_ret2
    exact ⟨by rw [widthV, HB.out]; rfl, rfl⟩
  · have HB := Lib.hid hb; clear hb
    go_wp2_with fail
    refine (legal_any _ _).mono ?_
    rintro e w' ⟨rfl, rfl⟩
    go_wp2_with fail
    go_ret2
    exact ⟨by rw [widthV, HB.out]; rfl, rfl⟩
theorem refWidth_any (n : Int) (w : World) : Calls Try.prog 57 #[.int .i64 n] w fun e w' => e = .returned (.tuple #[.int .i64 (widthV n).1, .int .i64 (widthV n).2]) ∧ w = w' := by
  go_enter Try.func57, Try.ntmps57
  go_wp2_with fail
  refine (inside_any _ _ _ _).mono ?_
  rintro e w' ⟨rfl, rfl⟩
  cases hb : btw n 1 40
  · have HB := Lib.hid hb; clear hb
    go_wp2_with fail
    go_ret2
    exact ⟨by rw [widthV, HB.out]; rfl, rfl⟩
  · have HB := Lib.hid hb; clear hb
    go_wp2_with fail
    refine (refLegal_any _ _).mono ?_
    rintro e w' ⟨rfl, rfl⟩
    go_wp2_with fail
    go_ret2
    exact ⟨by rw [widthV, HB.out]; rfl, rfl⟩

set_option maxRecDepth 100000 in
set_option maxHeartbeats 8000000 in
theorem refBars_any (w : World) (r : Roads) (f : Flock) (a : Option Addr) (cap : Nat) (hs : StripsAt w a r.strips) (hm : r.strips.length ≤ maxLen) (strip day : Int) :
    Calls Try.prog 58 #[.agg #[.int .i64 r.days, .int .i64 r.stages, .slice a r.strips.length cap], .agg #[.int .i64 f.heads, .int .i64 f.pace], .int .i64 strip, .int .i64 day] w (BarsPost w r f strip day) := by
  have hb0 : Below w.heap.size w ((w.alloc (.cells #[.int .i64 r.days, .int .i64 r.stages, .slice a r.strips.length cap] 24)).alloc (.cells #[.int .i64 f.heads, .int .i64 f.pace] 26)) := ((Below.refl _ _).alloc (Nat.le_refl _) _).alloc (by simp) _
  have x0 : ((w.alloc (.cells #[.int .i64 r.days, .int .i64 r.stages, .slice a r.strips.length cap] 24)).alloc (.cells #[.int .i64 f.heads, .int .i64 f.pace] 26)).cell? ⟨w.heap.size, 0, none⟩ = some (.int .i64 r.days) := by simp [go_sem]
  have x1 : ((w.alloc (.cells #[.int .i64 r.days, .int .i64 r.stages, .slice a r.strips.length cap] 24)).alloc (.cells #[.int .i64 f.heads, .int .i64 f.pace] 26)).cell? ⟨w.heap.size, 1, none⟩ = some (.int .i64 r.stages) := by simp [go_sem]
  have x2 : ((w.alloc (.cells #[.int .i64 r.days, .int .i64 r.stages, .slice a r.strips.length cap] 24)).alloc (.cells #[.int .i64 f.heads, .int .i64 f.pace] 26)).cell? ⟨w.heap.size, 2, none⟩ = some (.slice a r.strips.length cap) := by simp [go_sem]
  have x3 : ((w.alloc (.cells #[.int .i64 r.days, .int .i64 r.stages, .slice a r.strips.length cap] 24)).alloc (.cells #[.int .i64 f.heads, .int .i64 f.pace] 26)).cell? ⟨w.heap.size + 1, 0, none⟩ = some (.int .i64 f.heads) := by simp [go_sem]
  have x4 : ((w.alloc (.cells #[.int .i64 r.days, .int .i64 r.stages, .slice a r.strips.length cap] 24)).alloc (.cells #[.int .i64 f.heads, .int .i64 f.pace] 26)).cell? ⟨w.heap.size + 1, 1, none⟩ = some (.int .i64 f.pace) := by simp [go_sem]
  have hst := hs.below hb0
  have HM := Lib.hid hm; clear hm hs
  have HE := Lib.hid (bars_ready r f strip day)
  go_enter Try.func58, Try.ntmps58
  go_upto_region 1 with (fail)
  generalize ((w.alloc (.cells #[.int .i64 r.days, .int .i64 r.stages, .slice a r.strips.length cap] 24)).alloc (.cells #[.int .i64 f.heads, .int .i64 f.pace] 26)) = W0 at hb0 x0 x1 x2 x3 x4 hst ⊢
  have hba : Below W0.heap.size W0 (W0.alloc (.cells #[.int .i64 day] 3)) := (Below.refl _ _).alloc (Nat.le_refl _) _
  have hak := asked_any (W0.alloc (.cells #[.int .i64 day] 3)) r f a cap (hst.below hba) HM.out none _ 0 1 [] [day] (.inl rfl) (ints_new (w := W0) [day]) (by simp) (by simp)
  rw [show ([] : List Int).length = 0 from rfl, show [day].length = 1 from rfl] at hak
  have HAK := Lib.hid hak; clear hak
  have HBA := Lib.hid hba; clear hba
  have HST := Lib.hid hst; clear hst
  have HB0 := Lib.hid hb0; clear hb0
  go_wp2_with fail
  refine HAK.out.mono ?_
  clear HAK
  rintro e w1 ⟨rfl, hb1⟩
  have HB1 := Lib.hid (HBA.out.trans (hb1.mono HBA.out.size)); clear hb1 HBA
  have y0 := ((bcell HB1.out).1 _ _ (lt_of_cell x0)).trans x0
  have y2 := ((bcell HB1.out).1 _ _ (lt_of_cell x2)).trans x2
  have y3 := ((bcell HB1.out).1 _ _ (lt_of_cell x3)).trans x3
  have y4 := ((bcell HB1.out).1 _ _ (lt_of_cell x4)).trans x4
  clear x0 x1 x2 x3 x4
  have HBW := Lib.hid (HB0.out.trans (HB1.out.mono HB0.out.size))
  by_cases hz : askedErr r f [] [day] = 0
  · obtain ⟨g, _, _⟩ := asked_zero hz
    have hn8 := g.n8
    have hd1 := g.d1
    have hd10 := g.d2
    rw [hz]
    rw [hz, if_pos rfl] at HE
    have HZ := Lib.hid hz; clear hz
    have G := Lib.hid g; clear g
    obtain ⟨N, hN⟩ : ∃ N, r.strips.length = N := ⟨_, rfl⟩
    rw [hN] at y2 hn8
    have HN := Lib.hid hN; clear hN
    have q1 : IntKind.i64.wrap ((N : Int) - 1) = (N : Int) - 1 := IntWalk.i64_in _ (by omega)
    go_wp2_with fail
    refine (inside_any _ _ _ _).mono ?_
    rintro e w' ⟨rfl, rfl⟩
    cases hin : btw strip 0 ((N : Int) - 1)
    · have hin2 : btw strip 0 ((r.strips.length : Int) - 1) = false := by rw [HN.out]; exact hin
      rw [hin2] at HE
      have HIN := Lib.hid hin; clear hin hin2
      clear y0 y2 y3 y4
      go_wp2_with fail
      go_ret2
      exact .inr ⟨by rw [HE.out]; simp, by rw [HE.out]; rfl, HBW.out⟩
    · have hin2 : btw strip 0 ((r.strips.length : Int) - 1) = true := by rw [HN.out]; exact hin
      rw [hin2] at HE
      have hr := btw_true.1 hin
      have HIN := Lib.hid hin; clear hin hin2
      obtain ⟨k, rfl⟩ := Int.eq_ofNat_of_zero_le hr.1
      have hkN : k < N := by omega
      have hkl : k < r.strips.length := by rw [HN.out]; exact hkN
      have q2 : (k : Int) < (N : Int) := by omega
      clear hr q1
      go_upto_region 6 with (fail)
      rcases HST.out.below HB1.out with h0 | ⟨b, o, rfl, hc⟩
      · rw [h0] at hkl; simp at hkl
      obtain ⟨b0, b1, b2, b3, b4, b5, b6⟩ := hc k hkl
      have HS := Lib.hid (show r.strips[(k : Int).toNat]? = some r.strips[k] by simp [hkl])
      clear hc
      generalize r.strips[k] = s at b0 b1 b2 b3 b4 b5 b6 HS
      have HKL := Lib.hid hkl; clear hkl
      go_region_held3 (fun w' => w'.cell? ⟨w.heap.size, 2, none⟩ = some (.slice (some ⟨b, o, none⟩) N cap) ∧ w'.cell? ⟨b, o + k * 7, none⟩ = some (.int .i64 s.A) ∧ w'.cell? ⟨b, o + k * 7 + 1, none⟩ = some (.int .i64 s.B) ∧ w'.cell? ⟨b, o + k * 7 + 2, none⟩ = some (.int .i64 s.L) ∧ w'.cell? ⟨b, o + k * 7 + 3, none⟩ = some (.int .i64 s.W) ∧ w'.cell? ⟨b, o + k * 7 + 4, none⟩ = some (.int .i64 s.K) ∧ w'.cell? ⟨b, o + k * 7 + 5, none⟩ = some (.int .i64 s.X) ∧ w'.cell? ⟨b, o + k * 7 + 6, none⟩ = some (.int .i64 s.Y) ∧ w'.cell? ⟨w.heap.size + 1, 0, none⟩ = some (.int .i64 f.heads) ∧ w'.cell? ⟨w.heap.size + 1, 1, none⟩ = some (.int .i64 f.pace))
        (first | with_reducible exact ⟨HK.out _ _ _ y2, HK.out _ _ _ b0, HK.out _ _ _ b1, HK.out _ _ _ b2, HK.out _ _ _ b3, HK.out _ _ _ b4, HK.out _ _ _ b5, HK.out _ _ _ b6, HK.out _ _ _ y3, HK.out _ _ _ y4⟩ | exact ⟨y2, b0, b1, b2, b3, b4, b5, b6, y3, y4⟩) (first
        | (go_at_call 103; refine (refWhy_any s f day w1.drew).mono ?_; rintro e w5 ⟨v, rfl, hown, hb5⟩; have HOWN := Lib.hid hown; have HB5 := Lib.hid hb5; have HK := Lib.hid (show ∀ b o v, w1.cell? ⟨b, o, none⟩ = some v → w5.cell? ⟨b, o, none⟩ = some v from fun b o v h => have h' : w1.drew.cell? ⟨b, o, none⟩ = some v := h; ((bcell hb5).1 _ _ (lt_of_cell h')).trans h'); clear hb5 hown))
      all_goals
        go_wp2_with fail
        go_ret2
        exact .inl ⟨by rw [HE.out]; rfl, v, s, rfl, HS.out, HOWN.out.mono (by have := HBW.out.size; exact this), HBW.out.trans (((Below.refl w1.heap.size w1).drew.trans HB5.out).mono HBW.out.size)⟩
  · have hne : (askedErr r f [] [day] != 0) = true := by simpa using hz
    rw [if_neg hz] at HE
    have HZ := Lib.hid hz; clear hz
    clear y0 y2 y3 y4
    go_wp2_with fail
    go_ret2
    exact .inr ⟨by rw [HE.out]; exact HZ.out, by rw [HE.out]; rfl, HBW.out⟩

set_option maxRecDepth 100000 in
set_option maxHeartbeats 8000000 in
theorem refDays_any (w : World) (r : Roads) (f : Flock) (a : Option Addr) (cap : Nat) (hs : StripsAt w a r.strips) (hm : r.strips.length ≤ maxLen) (strip : Int) :
    Calls Try.prog 60 #[.agg #[.int .i64 r.days, .int .i64 r.stages, .slice a r.strips.length cap], .agg #[.int .i64 f.heads, .int .i64 f.pace], .int .i64 strip] w (DaysPost w r f strip) := by
  have hb0 : Below w.heap.size w ((w.alloc (.cells #[.int .i64 r.days, .int .i64 r.stages, .slice a r.strips.length cap] 24)).alloc (.cells #[.int .i64 f.heads, .int .i64 f.pace] 26)) := ((Below.refl _ _).alloc (Nat.le_refl _) _).alloc (by simp) _
  have x0 : ((w.alloc (.cells #[.int .i64 r.days, .int .i64 r.stages, .slice a r.strips.length cap] 24)).alloc (.cells #[.int .i64 f.heads, .int .i64 f.pace] 26)).cell? ⟨w.heap.size, 0, none⟩ = some (.int .i64 r.days) := by simp [go_sem]
  have x1 : ((w.alloc (.cells #[.int .i64 r.days, .int .i64 r.stages, .slice a r.strips.length cap] 24)).alloc (.cells #[.int .i64 f.heads, .int .i64 f.pace] 26)).cell? ⟨w.heap.size, 1, none⟩ = some (.int .i64 r.stages) := by simp [go_sem]
  have x2 : ((w.alloc (.cells #[.int .i64 r.days, .int .i64 r.stages, .slice a r.strips.length cap] 24)).alloc (.cells #[.int .i64 f.heads, .int .i64 f.pace] 26)).cell? ⟨w.heap.size, 2, none⟩ = some (.slice a r.strips.length cap) := by simp [go_sem]
  have x3 : ((w.alloc (.cells #[.int .i64 r.days, .int .i64 r.stages, .slice a r.strips.length cap] 24)).alloc (.cells #[.int .i64 f.heads, .int .i64 f.pace] 26)).cell? ⟨w.heap.size + 1, 0, none⟩ = some (.int .i64 f.heads) := by simp [go_sem]
  have x4 : ((w.alloc (.cells #[.int .i64 r.days, .int .i64 r.stages, .slice a r.strips.length cap] 24)).alloc (.cells #[.int .i64 f.heads, .int .i64 f.pace] 26)).cell? ⟨w.heap.size + 1, 1, none⟩ = some (.int .i64 f.pace) := by simp [go_sem]
  have hst := hs.below hb0
  have HM := Lib.hid hm; clear hm hs
  have HE := Lib.hid (days_ready r f strip)
  go_enter Try.func60, Try.ntmps60
  go_upto_region 1 with (fail)
  generalize ((w.alloc (.cells #[.int .i64 r.days, .int .i64 r.stages, .slice a r.strips.length cap] 24)).alloc (.cells #[.int .i64 f.heads, .int .i64 f.pace] 26)) = W0 at hb0 x0 x1 x2 x3 x4 hst ⊢
  have hba : Below W0.heap.size W0 W0 := Below.refl _ _
  have hak := asked_any W0 r f a cap hst HM.out none none 0 0 [] [] (.inl rfl) (.inl rfl) (by simp) (by simp)
  rw [show ([] : List Int).length = 0 from rfl] at hak
  have HAK := Lib.hid hak; clear hak
  have HBA := Lib.hid hba; clear hba
  have HST := Lib.hid hst; clear hst
  have HB0 := Lib.hid hb0; clear hb0
  go_wp2_with fail
  refine HAK.out.mono ?_
  clear HAK
  rintro e w1 ⟨rfl, hb1⟩
  have HB1 := Lib.hid (HBA.out.trans (hb1.mono HBA.out.size)); clear hb1 HBA
  have y0 := ((bcell HB1.out).1 _ _ (lt_of_cell x0)).trans x0
  have y2 := ((bcell HB1.out).1 _ _ (lt_of_cell x2)).trans x2
  have y3 := ((bcell HB1.out).1 _ _ (lt_of_cell x3)).trans x3
  have y4 := ((bcell HB1.out).1 _ _ (lt_of_cell x4)).trans x4
  clear x0 x1 x2 x3 x4
  have HBW := Lib.hid (HB0.out.trans (HB1.out.mono HB0.out.size))
  by_cases hz : askedErr r f [] [] = 0
  · obtain ⟨g, _, _⟩ := asked_zero hz
    have hn8 := g.n8
    have hd1 := g.d1
    have hd10 := g.d2
    rw [hz]
    rw [hz, if_pos rfl] at HE
    have HZ := Lib.hid hz; clear hz
    have G := Lib.hid g; clear g
    obtain ⟨N, hN⟩ : ∃ N, r.strips.length = N := ⟨_, rfl⟩
    rw [hN] at y2 hn8
    have HN := Lib.hid hN; clear hN
    have q1 : IntKind.i64.wrap ((N : Int) - 1) = (N : Int) - 1 := IntWalk.i64_in _ (by omega)
    go_wp2_with fail
    refine (inside_any _ _ _ _).mono ?_
    rintro e w' ⟨rfl, rfl⟩
    cases hin : btw strip 0 ((N : Int) - 1)
    · have hin2 : btw strip 0 ((r.strips.length : Int) - 1) = false := by rw [HN.out]; exact hin
      rw [hin2] at HE
      have HIN := Lib.hid hin; clear hin hin2
      clear y0 y2 y3 y4
      go_wp2_with fail
      go_ret2
      exact .inr ⟨by rw [HE.out]; simp, by rw [HE.out]; rfl, HBW.out⟩
    · have hin2 : btw strip 0 ((r.strips.length : Int) - 1) = true := by rw [HN.out]; exact hin
      rw [hin2] at HE
      have hr := btw_true.1 hin
      have HIN := Lib.hid hin; clear hin hin2
      obtain ⟨k, rfl⟩ := Int.eq_ofNat_of_zero_le hr.1
      have hkN : k < N := by omega
      have hkl : k < r.strips.length := by rw [HN.out]; exact hkN
      have q2 : (k : Int) < (N : Int) := by omega
      clear hr q1
      have HSN := Lib.hid (show r.strips[k]? = some r.strips[k] from List.getElem?_eq_getElem hkl)
      have Y0 := Lib.hid y0; clear y0
      have Y2 := Lib.hid y2; clear y2
      have Y3 := Lib.hid y3; clear y3
      have Y4 := Lib.hid y4; clear y4
      go_wp2_with fail
      go_loopw [9, 10] (fun v9 v10 wx => ∃ d : Nat, (d : Int) ≤ r.days ∧ v10 = .int .i64 (d : Int) ∧ OwnInts wx w1.heap.size v9 (daysTo r f k d) ∧ Below w1.heap.size w1 wx) (fun _ v _ => r.days.toNat - (intOf v).toNat)
      case atStart => exact ⟨0, by omega, rfl, OwnInts.nil _ _, Below.refl _ _⟩
      case round =>
        obtain ⟨d, hd, rfl, hown, hbr⟩ := hrel
        have hle := daysTo_le r f k d
        have z0 := ((bcell hbr).1 _ _ (lt_of_cell Y0.out)).trans Y0.out
        have HOWN := Lib.hid hown; clear hown
        by_cases hlt : (d : Int) < r.days
        · have z2 := ((bcell hbr).1 _ _ (lt_of_cell Y2.out)).trans Y2.out
          have z3 := ((bcell hbr).1 _ _ (lt_of_cell Y3.out)).trans Y3.out
          have z4 := ((bcell hbr).1 _ _ (lt_of_cell Y4.out)).trans Y4.out
          rcases (HST.out.below HB1.out).below hbr with h0 | ⟨b, o, rfl, hc⟩
          · rw [h0] at hkl; simp at hkl
          obtain ⟨b0, b1, b2, b3, b4, b5, b6⟩ := hc k hkl
          have hop : openB r f (-1) k (d : Int) = (barsL r.strips[k] f (d : Int)).isEmpty := by
            unfold openB
            rw [HSN.out]
            have : ((k : Int) != -1) = true := by simp only [bne_iff_ne, ne_eq]; omega
            show ((k : Int) != -1 && (barsL r.strips[k] f (d : Int)).isEmpty) = _
            rw [this, Bool.true_and]
          clear hc
          generalize r.strips[k] = s at b0 b1 b2 b3 b4 b5 b6 hop
          have HBR := Lib.hid hbr; clear hbr
          obtain ⟨L, hL⟩ : ∃ L, barsL s f (d : Int) = L := ⟨_, rfl⟩
          rw [hL] at hop
          have HL := Lib.hid hL; clear hL
          have HOP := Lib.hid hop; clear hop
          go_upto_region 10 with (fail)
          go_cut [39] (fun v39 wx => v39 = .bool L.isEmpty ∧ Below wr.heap.size wr wx)
          case first =>
            cases L with
            | nil =>
              go_region_held3 (fun w' => w'.cell? ⟨w.heap.size, 2, none⟩ = some (.slice (some ⟨b, o, none⟩) N cap) ∧ w'.cell? ⟨b, o + k * 7, none⟩ = some (.int .i64 s.A) ∧ w'.cell? ⟨b, o + k * 7 + 1, none⟩ = some (.int .i64 s.B) ∧ w'.cell? ⟨b, o + k * 7 + 2, none⟩ = some (.int .i64 s.L) ∧ w'.cell? ⟨b, o + k * 7 + 3, none⟩ = some (.int .i64 s.W) ∧ w'.cell? ⟨b, o + k * 7 + 4, none⟩ = some (.int .i64 s.K) ∧ w'.cell? ⟨b, o + k * 7 + 5, none⟩ = some (.int .i64 s.X) ∧ w'.cell? ⟨b, o + k * 7 + 6, none⟩ = some (.int .i64 s.Y) ∧ w'.cell? ⟨w.heap.size + 1, 0, none⟩ = some (.int .i64 f.heads) ∧ w'.cell? ⟨w.heap.size + 1, 1, none⟩ = some (.int .i64 f.pace)) (first | with_reducible exact ⟨HK.out _ _ _ z2, HK.out _ _ _ b0, HK.out _ _ _ b1, HK.out _ _ _ b2, HK.out _ _ _ b3, HK.out _ _ _ b4, HK.out _ _ _ b5, HK.out _ _ _ b6, HK.out _ _ _ z3, HK.out _ _ _ z4⟩ | exact ⟨z2, b0, b1, b2, b3, b4, b5, b6, z3, z4⟩) (first
                | (go_at_call 103; refine (refWhy_any s f (d : Int) wr.drew).mono ?_; rintro e w5 ⟨v, rfl, hown, hb5⟩; rw [HL.out] at hown; obtain ⟨ga, gc, rfl, _, _⟩ := hown.ints; have HB5 := Lib.hid hb5; have HK := Lib.hid (show ∀ b o v, wr.cell? ⟨b, o, none⟩ = some v → w5.cell? ⟨b, o, none⟩ = some v from fun b o v h => have h' : wr.drew.cell? ⟨b, o, none⟩ = some v := h; ((bcell hb5).1 _ _ (lt_of_cell h')).trans h'); clear hb5 hown))
              all_goals (go_wp2_with fail; go_meet; exact ⟨by simp, (Below.refl wr.heap.size wr).drew.trans HB5.out⟩)
            | cons c0 C =>
              go_region_held3 (fun w' => w'.cell? ⟨w.heap.size, 2, none⟩ = some (.slice (some ⟨b, o, none⟩) N cap) ∧ w'.cell? ⟨b, o + k * 7, none⟩ = some (.int .i64 s.A) ∧ w'.cell? ⟨b, o + k * 7 + 1, none⟩ = some (.int .i64 s.B) ∧ w'.cell? ⟨b, o + k * 7 + 2, none⟩ = some (.int .i64 s.L) ∧ w'.cell? ⟨b, o + k * 7 + 3, none⟩ = some (.int .i64 s.W) ∧ w'.cell? ⟨b, o + k * 7 + 4, none⟩ = some (.int .i64 s.K) ∧ w'.cell? ⟨b, o + k * 7 + 5, none⟩ = some (.int .i64 s.X) ∧ w'.cell? ⟨b, o + k * 7 + 6, none⟩ = some (.int .i64 s.Y) ∧ w'.cell? ⟨w.heap.size + 1, 0, none⟩ = some (.int .i64 f.heads) ∧ w'.cell? ⟨w.heap.size + 1, 1, none⟩ = some (.int .i64 f.pace)) (first | with_reducible exact ⟨HK.out _ _ _ z2, HK.out _ _ _ b0, HK.out _ _ _ b1, HK.out _ _ _ b2, HK.out _ _ _ b3, HK.out _ _ _ b4, HK.out _ _ _ b5, HK.out _ _ _ b6, HK.out _ _ _ z3, HK.out _ _ _ z4⟩ | exact ⟨z2, b0, b1, b2, b3, b4, b5, b6, z3, z4⟩) (first
                | (go_at_call 103; refine (refWhy_any s f (d : Int) wr.drew).mono ?_; rintro e w5 ⟨v, rfl, hown, hb5⟩; rw [HL.out] at hown; obtain ⟨ga, gc, rfl, _, _⟩ := hown.ints; have HB5 := Lib.hid hb5; have HK := Lib.hid (show ∀ b o v, wr.cell? ⟨b, o, none⟩ = some v → w5.cell? ⟨b, o, none⟩ = some v from fun b o v h => have h' : wr.drew.cell? ⟨b, o, none⟩ = some v := h; ((bcell hb5).1 _ _ (lt_of_cell h')).trans h'); clear hb5 hown))
              all_goals (go_wp2_with fail; go_meet; exact ⟨by simp; try omega, (Below.refl wr.heap.size wr).drew.trans HB5.out⟩)
          case rest =>
            obtain ⟨rfl, hbx⟩ := hcut
            clear b0 b1 b2 b3 b4 b5 b6 z0 z2 z3 z4
            have hown2 := HOWN.out.below hbx
            have hbr2 := HBR.out.trans (hbx.mono HBR.out.size)
            rw [← HOP.out]
            cases hT : openB r f (-1) k (d : Int)
            · have he : daysTo r f k (d + 1) = daysTo r f k d := by simp [daysTo, hT]
              have HE2 := Lib.hid he; clear he hT
              go_wp2_with fail
              exact ⟨⟨d + 1, by omega, by go_num, by rw [HE2.out]; exact hown2, hbr2⟩, by simp [intOf]; omega⟩
            · have he : daysTo r f k (d + 1) = daysTo r f k d ++ [(d : Int)] := by simp [daysTo, hT]
              have HE2 := Lib.hid he; clear he hT
              go_wp2_with (at_builtin; refine app_int1 rfl _ _ rfl w1.heap.size _ _ rfl hown2 _ rfl (by omega) hbr2.size ?_)
              intro v' w' hown' hbel _
              go_wp2_with fail
              exact ⟨⟨d + 1, by omega, by go_num, by rw [HE2.out]; exact hown', hbr2.trans hbel⟩, by simp [intOf]; omega⟩
        · obtain rfl : d = r.days.toNat := by omega
          have HBR := Lib.hid hbr; clear hbr
          go_wp2_with fail
          go_ret2
          exact .inl ⟨by rw [HE.out]; rfl, _, rfl, HOWN.out.mono (by have := HBW.out.size; exact this), HBW.out.trans (HBR.out.mono HBW.out.size)⟩
  · have hne : (askedErr r f [] [] != 0) = true := by simpa using hz
    rw [if_neg hz] at HE
    have HZ := Lib.hid hz; clear hz
    clear y0 y2 y3 y4
    go_wp2_with fail
    go_ret2
    exact .inr ⟨by rw [HE.out]; exact HZ.out, by rw [HE.out]; rfl, HBW.out⟩

end Go.Proofs.Ytjgkgnfhglhklaa
