/- The contracts of mestaref02.Plan and mestaref02.Comes; what Plan and Comes return. -/
import Derived.Test.YtjgkgnfhglhklaaFirstR
import Derived.Test.YtjgkgnfhglhklaaLateR
import Derived.Test.YtjgkgnfhglhklaaPlan
import Derived.Test.YtjgkgnfhglhklaaDays
namespace Go.Proofs.Ytjgkgnfhglhklaa
set_option linter.unusedSimpArgs false
set_option linter.unusedVariables false
open Go.RowKit

def comesV (r : Roads) (f : Flock) (fr day : Int) : List Int × Int :=
  if readyErr r f [fr, r.stages, day, r.days] = 0 then (comesL r f (-1) fr.toNat day, 0) else ([], readyErr r f [fr, r.stages, day, r.days])
theorem ComesPost.val {w w' : World} {r : Roads} {f : Flock} {fr day : Int} {e : Ending} (h : ComesPost w r f fr day e w') :
    ∃ ga gc, e = .returned (.tuple #[.slice ga (comesV r f fr day).1.length gc, .int .i64 (comesV r f fr day).2]) ∧ IntsAt w' ga (comesV r f fr day).1 ∧ Below w.heap.size w w' := by
  obtain ⟨h1, v, rfl, hown, hb⟩ | ⟨h1, rfl, hb⟩ := h
  · obtain ⟨ga, gc, rfl, hi, _⟩ := hown.ints
    have e : comesV r f fr day = (comesL r f (-1) fr.toNat day, 0) := by rw [comesV, if_pos h1]
    rw [e]
    exact ⟨ga, gc, rfl, hi, hb⟩
  · have e : comesV r f fr day = ([], readyErr r f [fr, r.stages, day, r.days]) := by rw [comesV, if_neg h1]
    rw [e]
    exact ⟨none, 0, rfl, .inl rfl, hb⟩
def planV (r : Roads) (f : Flock) (fr tt day : Int) : List (Int × Int) × Int :=
  if readyErr r f [fr, r.stages, tt, r.stages, day, r.days] = 0 then (if planDay r f fr.toNat tt.toNat day < 0 then ([], 11) else (planL r f (-1) tt (planDay r f fr.toNat tt.toNat day) day fr, 0)) else ([], readyErr r f [fr, r.stages, tt, r.stages, day, r.days])
theorem PlanPost.val {w w' : World} {r : Roads} {f : Flock} {fr tt day : Int} {e : Ending} (h : PlanPost w r f fr tt day e w') :
    ∃ ga gc, e = .returned (.tuple #[.slice ga (planV r f fr tt day).1.length gc, .int .i64 (planV r f fr tt day).2]) ∧ StridesAt w' ga (planV r f fr tt day).1 ∧ Below w.heap.size w w' := by
  obtain ⟨hb, ⟨h1, h2, rfl⟩ | ⟨h1, h2, v, rfl, hown⟩ | ⟨h1, rfl⟩⟩ := h
  · have e : planV r f fr tt day = ([], 11) := by rw [planV, if_pos h1, if_pos h2]
    rw [e]
    exact ⟨none, 0, rfl, .inl rfl, hb⟩
  · obtain ⟨ga, gc, rfl, hi⟩ := hown.strides
    have e : planV r f fr tt day = (planL r f (-1) tt (planDay r f fr.toNat tt.toNat day) day fr, 0) := by rw [planV, if_pos h1, if_neg (by omega)]
    rw [e]
    exact ⟨ga, gc, rfl, hi, hb⟩
  · have e : planV r f fr tt day = ([], readyErr r f [fr, r.stages, tt, r.stages, day, r.days]) := by rw [planV, if_neg h1]
    rw [e]
    exact ⟨none, 0, rfl, .inl rfl, hb⟩
theorem planV_len (r : Roads) (f : Flock) (fr tt day : Int) : (planV r f fr tt day).1.length ≤ maxLen := by
  unfold planV maxLen
  split
  · split
    · simp
    · have : ∀ (V : Int → Int × Int → Int) (k : Nat) (d : Int) (p : Int × Int) (left : Int), (planF r f (-1) V k d p left).length ≤ k := by
        intro V k
        induction k with
        | zero => intro d p left; exact Nat.le_refl _
        | succ k ih =>
          intro d p left
          rw [planF]
          split
          · split
            · rename_i i q _
              have := ih d q (left - (q.2 - p.2))
              rw [List.length_cons]; omega
            · have := ih (d + 1) (p.1, 0) left
              omega
          · simp
      have h := this (togoV r f (-1) tt (planDay r f fr.toNat tt.toNat day)) 2000 day (fr, 0) (togoV r f (-1) tt (planDay r f fr.toNat tt.toNat day) day (fr, 0))
      show (planL r f (-1) tt (planDay r f fr.toNat tt.toNat day) day fr).length ≤ _
      unfold planL
      omega
  · simp
theorem comesV_len (r : Roads) (f : Flock) (fr day : Int) : (comesV r f fr day).1.length ≤ maxLen := by
  unfold comesV maxLen
  split
  · rename_i h
    have h1 := (ready_zero h).1.s2
    show (comesL r f (-1) fr.toNat day).length ≤ _
    unfold comesL
    rw [comesTo_len]; omega
  · simp
theorem good_of_asked2 {r : Roads} {f : Flock} {x z : Int} (h : askedErr r f [x] [z] = 0) : Good r f ∧ (0 ≤ x ∧ x < r.stages) ∧ 0 ≤ z ∧ z < r.days := by
  rw [← ready_asked4] at h
  obtain ⟨g, hp⟩ := ready_zero h
  exact ⟨g, pairs4.1 hp⟩
theorem IRow.ints {w : World} {g S : Nat} {o : Nat → Int} (h : IRow w g S o) {l : List Int} (hl : l.length = S) (he : ∀ s, s < S → o s = l.getD s 0) : IntsAt w (some ⟨g, 0, none⟩) l :=
  .inr ⟨g, 0, rfl, fun i hi => by
    rw [Nat.zero_add, h.cell (by omega), he i (by omega), List.getD_eq_getElem?_getD, List.getElem?_eq_getElem hi]; rfl⟩

set_option maxRecDepth 100000 in
set_option maxHeartbeats 4000000 in
theorem refComes_any (w : World) (r : Roads) (f : Flock) (a : Option Addr) (cap : Nat) (hs : StripsAt w a r.strips) (hm : r.strips.length ≤ maxLen) (fr day : Int) :
    Calls Try.prog 26 #[.agg #[.int .i64 r.days, .int .i64 r.stages, .slice a r.strips.length cap], .agg #[.int .i64 f.heads, .int .i64 f.pace], .int .i64 fr, .int .i64 day] w
      fun e w' => ∃ ga gc, e = .returned (.tuple #[.slice ga (comesV r f fr day).1.length gc, .int .i64 (comesV r f fr day).2]) ∧ IntsAt w' ga (comesV r f fr day).1 ∧ Below w.heap.size w w' := by
  have hb0 : Below w.heap.size w ((w.alloc (.cells #[.int .i64 r.days, .int .i64 r.stages, .slice a r.strips.length cap] 24)).alloc (.cells #[.int .i64 f.heads, .int .i64 f.pace] 26)) := ((Below.refl _ _).alloc (Nat.le_refl _) _).alloc (by simp) _
  have hz0 : ((w.alloc (.cells #[.int .i64 r.days, .int .i64 r.stages, .slice a r.strips.length cap] 24)).alloc (.cells #[.int .i64 f.heads, .int .i64 f.pace] 26)).heap.size = w.heap.size + 2 := by simp
  have x0 : ((w.alloc (.cells #[.int .i64 r.days, .int .i64 r.stages, .slice a r.strips.length cap] 24)).alloc (.cells #[.int .i64 f.heads, .int .i64 f.pace] 26)).cell? ⟨w.heap.size, 0, none⟩ = some (.int .i64 r.days) := by simp [go_sem]
  have x1 : ((w.alloc (.cells #[.int .i64 r.days, .int .i64 r.stages, .slice a r.strips.length cap] 24)).alloc (.cells #[.int .i64 f.heads, .int .i64 f.pace] 26)).cell? ⟨w.heap.size, 1, none⟩ = some (.int .i64 r.stages) := by simp [go_sem]
  have x2 : ((w.alloc (.cells #[.int .i64 r.days, .int .i64 r.stages, .slice a r.strips.length cap] 24)).alloc (.cells #[.int .i64 f.heads, .int .i64 f.pace] 26)).cell? ⟨w.heap.size, 2, none⟩ = some (.slice a r.strips.length cap) := by simp [go_sem]
  have x3 : ((w.alloc (.cells #[.int .i64 r.days, .int .i64 r.stages, .slice a r.strips.length cap] 24)).alloc (.cells #[.int .i64 f.heads, .int .i64 f.pace] 26)).cell? ⟨w.heap.size + 1, 0, none⟩ = some (.int .i64 f.heads) := by simp [go_sem]
  have x4 : ((w.alloc (.cells #[.int .i64 r.days, .int .i64 r.stages, .slice a r.strips.length cap] 24)).alloc (.cells #[.int .i64 f.heads, .int .i64 f.pace] 26)).cell? ⟨w.heap.size + 1, 1, none⟩ = some (.int .i64 f.pace) := by simp [go_sem]
  have hst := hs.below hb0
  have HM := Lib.hid hm; clear hm hs
  have HE := Lib.hid (ready_asked4 r f fr day)
  go_enter Try.func26, Try.ntmps26
  go_upto_region 1 with (fail)
  generalize ((w.alloc (.cells #[.int .i64 r.days, .int .i64 r.stages, .slice a r.strips.length cap] 24)).alloc (.cells #[.int .i64 f.heads, .int .i64 f.pace] 26)) = W0 at hb0 hz0 x0 x1 x2 x3 x4 hst ⊢
  have hp1 := ints_new (w := W0) [fr]
  have hp2 := ints_new (w := W0.alloc (.cells #[.int .i64 fr] 3)) [day]
  have hba : Below W0.heap.size W0 ((W0.alloc (.cells #[.int .i64 fr] 3)).alloc (.cells #[.int .i64 day] 3)) := ((Below.refl _ _).alloc (Nat.le_refl _) _).alloc (by simp) _
  have hp1' := hp1.below (w' := ((W0.alloc (.cells #[.int .i64 fr] 3)).alloc (.cells #[.int .i64 day] 3))) ((Below.refl _ _).alloc (Nat.le_refl _) _)
  have hak := asked_any ((W0.alloc (.cells #[.int .i64 fr] 3)).alloc (.cells #[.int .i64 day] 3)) r f a cap (hst.below hba) HM.out _ _ 1 1 [fr] [day] hp1' hp2 (by simp) (by simp)
  rw [show (W0.alloc (.cells #[.int .i64 fr] 3)).heap.size = W0.heap.size + 1 by simp] at hak
  rw [show [fr].length = 1 from rfl, show [day].length = 1 from rfl] at hak
  have HAK := Lib.hid hak; clear hak hp1 hp2 hp1'
  have HBA := Lib.hid hba; clear hba
  have HST := Lib.hid hst; clear hst
  have HB0 := Lib.hid hb0; clear hb0
  have HZ0 := Lib.hid hz0; clear hz0
  go_wp2_with fail
  refine HAK.out.mono ?_
  clear HAK
  rintro e w1 ⟨rfl, hb1⟩
  have HB1 := Lib.hid (HBA.out.trans (hb1.mono HBA.out.size)); clear hb1 HBA
  have x0' := ((bcell HB1.out).1 _ _ (lt_of_cell x0)).trans x0
  have x1' := ((bcell HB1.out).1 _ _ (lt_of_cell x1)).trans x1
  have x2' := ((bcell HB1.out).1 _ _ (lt_of_cell x2)).trans x2
  have x3' := ((bcell HB1.out).1 _ _ (lt_of_cell x3)).trans x3
  have x4' := ((bcell HB1.out).1 _ _ (lt_of_cell x4)).trans x4
  clear x0 x1 x2 x3 x4
  have HBW := Lib.hid (HB0.out.trans (HB1.out.mono HB0.out.size))
  by_cases hz : askedErr r f [fr] [day] = 0
  · obtain ⟨g, ⟨p1, p2⟩, p5, p6⟩ := good_of_asked2 hz
    obtain ⟨k, rfl⟩ := Int.eq_ofNat_of_zero_le p1
    obtain ⟨z, rfl⟩ := Int.eq_ofNat_of_zero_le p5
    obtain ⟨S, hS⟩ := Int.eq_ofNat_of_zero_le (a := r.stages) (by omega)
    have hd := days_any w1 g a cap S k z hS (by omega) (by omega) (HST.out.below HB1.out)
    rw [← hS] at hd
    have HD := Lib.hid hd; clear hd
    have hv : comesV r f ((k : Nat) : Int) ((z : Nat) : Int) = (comesL r f (-1) k (z : Int), 0) := by rw [comesV, if_pos (by rw [HE.out]; exact hz), Int.toNat_natCast]
    have hlen : (comesL r f (-1) k (z : Int)).length = S := by unfold comesL; rw [comesTo_len]; omega
    have HV := Lib.hid hv; clear hv
    have HLEN := Lib.hid hlen; clear hlen
    have HS := Lib.hid hS; clear hS
    rw [hz]
    have HZ := Lib.hid hz; clear hz g
    go_wp2_with fail
    refine HD.out.mono ?_
    clear HD x0' x1' x2' x3' x4'
    rintro e w2 ⟨gb, rfl, hr, hgb, hb2⟩
    have HB2 := Lib.hid (HBW.out.trans (hb2.mono HBW.out.size)); clear hb2
    have HR := Lib.hid (hr.ints (l := comesL r f (-1) k (z : Int)) HLEN.out fun s _ => rfl); clear hr hgb
    go_wp2_with fail
    go_ret2
    rw [HV.out]
    refine ⟨some ⟨gb, 0, none⟩, S, ?_, HR.out, HB2.out⟩
    rw [HLEN.out]; rfl
  · have hne : (askedErr r f [fr] [day] != 0) = true := by simpa using hz
    have hv : comesV r f fr day = ([], askedErr r f [fr] [day]) := by rw [comesV, if_neg (by rw [HE.out]; exact hz), HE.out]
    have HV := Lib.hid hv; clear hv
    have HZ := Lib.hid hz; clear hz
    clear x0' x1' x2' x3' x4'
    go_wp2_with fail
    go_ret2
    rw [HV.out]
    exact ⟨none, 0, rfl, .inl rfl, HBW.out⟩

set_option maxRecDepth 100000 in
set_option maxHeartbeats 4000000 in
theorem refPlan_any (w : World) (r : Roads) (f : Flock) (a : Option Addr) (cap : Nat) (hs : StripsAt w a r.strips) (hm : r.strips.length ≤ maxLen) (fr tt day : Int) :
    Calls Try.prog 28 #[.agg #[.int .i64 r.days, .int .i64 r.stages, .slice a r.strips.length cap], .agg #[.int .i64 f.heads, .int .i64 f.pace], .int .i64 fr, .int .i64 tt, .int .i64 day] w
      fun e w' => ∃ ga gc, e = .returned (.tuple #[.slice ga (planV r f fr tt day).1.length gc, .int .i64 (planV r f fr tt day).2]) ∧ StridesAt w' ga (planV r f fr tt day).1 ∧ Below w.heap.size w w' := by
  have hb0 : Below w.heap.size w ((w.alloc (.cells #[.int .i64 r.days, .int .i64 r.stages, .slice a r.strips.length cap] 24)).alloc (.cells #[.int .i64 f.heads, .int .i64 f.pace] 26)) := ((Below.refl _ _).alloc (Nat.le_refl _) _).alloc (by simp) _
  have hz0 : ((w.alloc (.cells #[.int .i64 r.days, .int .i64 r.stages, .slice a r.strips.length cap] 24)).alloc (.cells #[.int .i64 f.heads, .int .i64 f.pace] 26)).heap.size = w.heap.size + 2 := by simp
  have x0 : ((w.alloc (.cells #[.int .i64 r.days, .int .i64 r.stages, .slice a r.strips.length cap] 24)).alloc (.cells #[.int .i64 f.heads, .int .i64 f.pace] 26)).cell? ⟨w.heap.size, 0, none⟩ = some (.int .i64 r.days) := by simp [go_sem]
  have x1 : ((w.alloc (.cells #[.int .i64 r.days, .int .i64 r.stages, .slice a r.strips.length cap] 24)).alloc (.cells #[.int .i64 f.heads, .int .i64 f.pace] 26)).cell? ⟨w.heap.size, 1, none⟩ = some (.int .i64 r.stages) := by simp [go_sem]
  have x2 : ((w.alloc (.cells #[.int .i64 r.days, .int .i64 r.stages, .slice a r.strips.length cap] 24)).alloc (.cells #[.int .i64 f.heads, .int .i64 f.pace] 26)).cell? ⟨w.heap.size, 2, none⟩ = some (.slice a r.strips.length cap) := by simp [go_sem]
  have x3 : ((w.alloc (.cells #[.int .i64 r.days, .int .i64 r.stages, .slice a r.strips.length cap] 24)).alloc (.cells #[.int .i64 f.heads, .int .i64 f.pace] 26)).cell? ⟨w.heap.size + 1, 0, none⟩ = some (.int .i64 f.heads) := by simp [go_sem]
  have x4 : ((w.alloc (.cells #[.int .i64 r.days, .int .i64 r.stages, .slice a r.strips.length cap] 24)).alloc (.cells #[.int .i64 f.heads, .int .i64 f.pace] 26)).cell? ⟨w.heap.size + 1, 1, none⟩ = some (.int .i64 f.pace) := by simp [go_sem]
  have hst := hs.below hb0
  have HM := Lib.hid hm; clear hm hs
  have HE := Lib.hid (ready_asked6 r f fr tt day)
  go_enter Try.func28, Try.ntmps28
  go_upto_region 1 with (fail)
  generalize ((w.alloc (.cells #[.int .i64 r.days, .int .i64 r.stages, .slice a r.strips.length cap] 24)).alloc (.cells #[.int .i64 f.heads, .int .i64 f.pace] 26)) = W0 at hb0 hz0 x0 x1 x2 x3 x4 hst ⊢
  have hp1 := ints_new (w := W0) [fr, tt]
  have hp2 := ints_new (w := W0.alloc (.cells #[.int .i64 fr, .int .i64 tt] 3)) [day]
  have hba : Below W0.heap.size W0 ((W0.alloc (.cells #[.int .i64 fr, .int .i64 tt] 3)).alloc (.cells #[.int .i64 day] 3)) := ((Below.refl _ _).alloc (Nat.le_refl _) _).alloc (by simp) _
  have hp1' := hp1.below (w' := ((W0.alloc (.cells #[.int .i64 fr, .int .i64 tt] 3)).alloc (.cells #[.int .i64 day] 3))) ((Below.refl _ _).alloc (Nat.le_refl _) _)
  have hak := asked_any ((W0.alloc (.cells #[.int .i64 fr, .int .i64 tt] 3)).alloc (.cells #[.int .i64 day] 3)) r f a cap (hst.below hba) HM.out _ _ 2 1 [fr, tt] [day] hp1' hp2 (by simp) (by simp)
  rw [show (W0.alloc (.cells #[.int .i64 fr, .int .i64 tt] 3)).heap.size = W0.heap.size + 1 by simp] at hak
  rw [show [fr, tt].length = 2 from rfl, show [day].length = 1 from rfl] at hak
  have HAK := Lib.hid hak; clear hak hp1 hp2 hp1'
  have HBA := Lib.hid hba; clear hba
  have HST := Lib.hid hst; clear hst
  have HB0 := Lib.hid hb0; clear hb0
  have HZ0 := Lib.hid hz0; clear hz0
  go_wp2_with fail
  refine HAK.out.mono ?_
  clear HAK
  rintro e w1 ⟨rfl, hb1⟩
  have HB1 := Lib.hid (HBA.out.trans (hb1.mono HBA.out.size)); clear hb1 HBA
  have x0' := ((bcell HB1.out).1 _ _ (lt_of_cell x0)).trans x0
  have x1' := ((bcell HB1.out).1 _ _ (lt_of_cell x1)).trans x1
  have x2' := ((bcell HB1.out).1 _ _ (lt_of_cell x2)).trans x2
  have x3' := ((bcell HB1.out).1 _ _ (lt_of_cell x3)).trans x3
  have x4' := ((bcell HB1.out).1 _ _ (lt_of_cell x4)).trans x4
  clear x0 x1 x2 x3 x4
  have HBW := Lib.hid (HB0.out.trans (HB1.out.mono HB0.out.size))
  by_cases hz : askedErr r f [fr, tt] [day] = 0
  · obtain ⟨g, ⟨p1, p2⟩, ⟨p3, p4⟩, p5, p6⟩ := good_of_asked hz
    obtain ⟨k, rfl⟩ := Int.eq_ofNat_of_zero_le p1
    obtain ⟨j, rfl⟩ := Int.eq_ofNat_of_zero_le p3
    obtain ⟨z, rfl⟩ := Int.eq_ofNat_of_zero_le p5
    obtain ⟨S, hS⟩ := Int.eq_ofNat_of_zero_le (a := r.stages) (by omega)
    obtain ⟨D, hD⟩ := Int.eq_ofNat_of_zero_le (a := r.days) (by omega)
    obtain ⟨P, hP⟩ := Int.eq_ofNat_of_zero_le (a := f.pace) (by have := g.p1; omega)
    have hkS : k < S := by omega
    have hjS : j < S := by omega
    have hzD : z < D := by omega
    have hd := first_any w1 g a cap S P D r.strips.length k z hS hP hD rfl hkS (by omega) (HST.out.below HB1.out)
    rw [← hS, ← hP, ← hD] at hd
    have HD := Lib.hid hd; clear hd
    have hdd : planDay r f k j (z : Int) = dayTo r f k (z : Int) (D - z) j := by
      unfold planDay comesL dayTo
      rw [show (r.days - (z : Int)).toNat = D - z by omega]
    have hv : planV r f ((k : Nat) : Int) ((j : Nat) : Int) ((z : Nat) : Int) = if dayTo r f k (z : Int) (D - z) j < 0 then ([], 11) else (planL r f (-1) (j : Int) (dayTo r f k (z : Int) (D - z) j) (z : Int) (k : Int), 0) := by rw [planV, if_pos (by rw [HE.out]; exact hz), Int.toNat_natCast, Int.toNat_natCast, hdd]
    have HV := Lib.hid hv; clear hv hdd
    have hpl : ∀ (m : Nat), m < D - z → (walksTo r f S P (beginV k) (z : Int) (m + 1) j).is = true → (walksTo r f S P (beginV k) (z : Int) (m + 1) j).pl = planL r f (-1) (j : Int) ((z : Int) + (m : Int)) (z : Int) (k : Int) := fun m h1 h2 => plan_first g hS hP hkS hjS m (by omega) (by have := g.d2; omega) h2
    have HPL := Lib.hid hpl; clear hpl
    have HS := Lib.hid hS; clear hS
    have HP := Lib.hid hP; clear hP
    have HDD := Lib.hid hD; clear hD
    rw [hz]
    have HZ := Lib.hid hz; clear hz g
    go_wp2_with fail
    refine HD.out.mono ?_
    clear HD x0' x1' x2' x3' x4'
    rintro e w2 ⟨gd, gw, q, pa, pc, rfl, hr, hw, hrec, hb2⟩
    have HB2 := Lib.hid (HBW.out.trans (hb2.mono HBW.out.size)); clear hb2
    have y0 := hr.cell hjS
    have y1 := hw.c2 hjS
    have hst := hw.plans j hjS
    have q1 : (j : Int) < (S : Int) := by omega
    obtain ⟨rj1, rj2⟩ := hrec j hjS
    clear hr hw hrec
    obtain ⟨dv, hdv⟩ : ∃ v, dayTo r f k (z : Int) (D - z) j = v := ⟨_, rfl⟩
    rw [hdv] at y0 rj1 rj2
    have HV2 := Lib.hid (show planV r f (k : Int) (j : Int) (z : Int) = if dv < 0 then ([], 11) else (planL r f (-1) (j : Int) dv (z : Int) (k : Int), 0) by rw [← hdv]; exact HV.out); clear HV hdv
    have HST2 := Lib.hid hst; clear hst
    by_cases hneg : dv < 0
    · have HV3 := Lib.hid (HV2.out.trans (if_pos hneg)); clear HV2 rj1 rj2 y1
      go_wp2_with fail
      go_ret2
      rw [HV3.out]
      exact ⟨none, 0, rfl, .inl rfl, HB2.out⟩
    · obtain ⟨m, hm, e1, e2, e3⟩ := rj2 (by omega)
      have e4 := HPL.out m hm (by rw [← e2]; exact e3)
      rw [← e2, ← e1] at e4
      have HV3 := Lib.hid (show planV r f (k : Int) (j : Int) (z : Int) = ((q j).pl, 0) by rw [HV2.out, if_neg hneg, e4]); clear HV2 rj1 e1 e2 e3 e4 HPL
      go_wp2_with fail
      go_ret2
      rw [HV3.out]
      exact ⟨_, _, rfl, HST2.out, HB2.out⟩
  · have hne : (askedErr r f [fr, tt] [day] != 0) = true := by simpa using hz
    have hv : planV r f fr tt day = ([], askedErr r f [fr, tt] [day]) := by rw [planV, if_neg (by rw [HE.out]; exact hz), HE.out]
    have HV := Lib.hid hv; clear hv
    have HZ := Lib.hid hz; clear hz
    clear x0' x1' x2' x3' x4'
    go_wp2_with fail
    go_ret2
    rw [HV.out]
    exact ⟨none, 0, rfl, .inl rfl, HBW.out⟩
end Go.Proofs.Ytjgkgnfhglhklaa
