/- The contracts of mestaref02.Late and Stay. -/
import Derived.Test.YtjgkgnfhglhklaaCanR
namespace Go.Proofs.Ytjgkgnfhglhklaa
set_option linter.unusedSimpArgs false
set_option linter.unusedVariables false
open Go.RowKit

theorem good_of_asked {r : Roads} {f : Flock} {x y z : Int} (h : askedErr r f [x, y] [z] = 0) : Good r f ∧ (0 ≤ x ∧ x < r.stages) ∧ (0 ≤ y ∧ y < r.stages) ∧ 0 ≤ z ∧ z < r.days := by
  rw [← ready_asked6] at h
  obtain ⟨g, hp⟩ := ready_zero h
  exact ⟨g, pairs6.1 hp⟩
theorem good_of_asked4 {r : Roads} {f : Flock} {x y z t : Int} (h : askedErr r f [x, y] [z, t] = 0) : Good r f ∧ (0 ≤ x ∧ x < r.stages) ∧ (0 ≤ y ∧ y < r.stages) ∧ (0 ≤ z ∧ z < r.days) ∧ 0 ≤ t ∧ t < r.days := by
  rw [← ready_asked8] at h
  obtain ⟨g, hp⟩ := ready_zero h
  exact ⟨g, pairs8.1 hp⟩

set_option maxRecDepth 100000 in
set_option maxHeartbeats 4000000 in
theorem refLate_any (w : World) (r : Roads) (f : Flock) (a : Option Addr) (cap : Nat) (hs : StripsAt w a r.strips) (hm : r.strips.length ≤ maxLen) (fr tt by' : Int) :
    Calls Try.prog 44 #[.agg #[.int .i64 r.days, .int .i64 r.stages, .slice a r.strips.length cap], .agg #[.int .i64 f.heads, .int .i64 f.pace], .int .i64 fr, .int .i64 tt, .int .i64 by'] w (LatePost w r f fr tt by') := by
  have hb0 : Below w.heap.size w ((w.alloc (.cells #[.int .i64 r.days, .int .i64 r.stages, .slice a r.strips.length cap] 24)).alloc (.cells #[.int .i64 f.heads, .int .i64 f.pace] 26)) := ((Below.refl _ _).alloc (Nat.le_refl _) _).alloc (by simp) _
  have hz0 : ((w.alloc (.cells #[.int .i64 r.days, .int .i64 r.stages, .slice a r.strips.length cap] 24)).alloc (.cells #[.int .i64 f.heads, .int .i64 f.pace] 26)).heap.size = w.heap.size + 2 := by simp
  have x0 : ((w.alloc (.cells #[.int .i64 r.days, .int .i64 r.stages, .slice a r.strips.length cap] 24)).alloc (.cells #[.int .i64 f.heads, .int .i64 f.pace] 26)).cell? ⟨w.heap.size, 0, none⟩ = some (.int .i64 r.days) := by simp [go_sem]
  have x1 : ((w.alloc (.cells #[.int .i64 r.days, .int .i64 r.stages, .slice a r.strips.length cap] 24)).alloc (.cells #[.int .i64 f.heads, .int .i64 f.pace] 26)).cell? ⟨w.heap.size, 1, none⟩ = some (.int .i64 r.stages) := by simp [go_sem]
  have x2 : ((w.alloc (.cells #[.int .i64 r.days, .int .i64 r.stages, .slice a r.strips.length cap] 24)).alloc (.cells #[.int .i64 f.heads, .int .i64 f.pace] 26)).cell? ⟨w.heap.size, 2, none⟩ = some (.slice a r.strips.length cap) := by simp [go_sem]
  have x3 : ((w.alloc (.cells #[.int .i64 r.days, .int .i64 r.stages, .slice a r.strips.length cap] 24)).alloc (.cells #[.int .i64 f.heads, .int .i64 f.pace] 26)).cell? ⟨w.heap.size + 1, 0, none⟩ = some (.int .i64 f.heads) := by simp [go_sem]
  have x4 : ((w.alloc (.cells #[.int .i64 r.days, .int .i64 r.stages, .slice a r.strips.length cap] 24)).alloc (.cells #[.int .i64 f.heads, .int .i64 f.pace] 26)).cell? ⟨w.heap.size + 1, 1, none⟩ = some (.int .i64 f.pace) := by simp [go_sem]
  have hst := hs.below hb0
  have HM := Lib.hid hm; clear hm hs
  have HE := Lib.hid (ready_asked6 r f fr tt by')
  go_enter Try.func44, Try.ntmps44
  go_upto_region 1 with (fail)
  generalize ((w.alloc (.cells #[.int .i64 r.days, .int .i64 r.stages, .slice a r.strips.length cap] 24)).alloc (.cells #[.int .i64 f.heads, .int .i64 f.pace] 26)) = W0 at hb0 hz0 x0 x1 x2 x3 x4 hst ⊢
  have hp1 := ints_new (w := W0) [fr, tt]
  have hp2 := ints_new (w := W0.alloc (.cells #[.int .i64 fr, .int .i64 tt] 3)) [by']
  have hba : Below W0.heap.size W0 ((W0.alloc (.cells #[.int .i64 fr, .int .i64 tt] 3)).alloc (.cells #[.int .i64 by'] 3)) := ((Below.refl _ _).alloc (Nat.le_refl _) _).alloc (by simp) _
  have hp1' := hp1.below (w' := ((W0.alloc (.cells #[.int .i64 fr, .int .i64 tt] 3)).alloc (.cells #[.int .i64 by'] 3))) ((Below.refl _ _).alloc (Nat.le_refl _) _)
  have hak := asked_any ((W0.alloc (.cells #[.int .i64 fr, .int .i64 tt] 3)).alloc (.cells #[.int .i64 by'] 3)) r f a cap (hst.below hba) HM.out _ _ 2 1 [fr, tt] [by'] hp1' hp2 (by simp) (by simp)
  rw [show (W0.alloc (.cells #[.int .i64 fr, .int .i64 tt] 3)).heap.size = W0.heap.size + 1 by simp] at hak
  rw [show [fr, tt].length = 2 from rfl, show [by'].length = 1 from rfl] at hak
  have HAK := Lib.hid hak; clear hak hp1 hp2 hp1'
  have HBA := Lib.hid hba; clear hba
  have HST := Lib.hid hst; clear hst
  have HB0 := Lib.hid hb0; clear hb0
  have HZ0 := Lib.hid hz0; clear hz0
  go_wp2_with fail
  refine HAK.out.mono ?_
  clear HAK
  rintro e w1 ⟨rfl, hb1⟩
  have HB1 := Lib.hid (HBA.out.trans (hb1.mono HBA.out.size)); clear hb1 HBA
  have x0' := ((bcell HB1.out).1 _ _ (lt_of_cell x0)).trans x0
  have x1' := ((bcell HB1.out).1 _ _ (lt_of_cell x1)).trans x1
  have x2' := ((bcell HB1.out).1 _ _ (lt_of_cell x2)).trans x2
  have x3' := ((bcell HB1.out).1 _ _ (lt_of_cell x3)).trans x3
  have x4' := ((bcell HB1.out).1 _ _ (lt_of_cell x4)).trans x4
  clear x0 x1 x2 x3 x4
  have HBW := Lib.hid (HB0.out.trans (HB1.out.mono HB0.out.size))
  by_cases hz : askedErr r f [fr, tt] [by'] = 0
  · obtain ⟨g, ⟨p1, p2⟩, ⟨p3, p4⟩, p5, p6⟩ := good_of_asked hz
    obtain ⟨k, rfl⟩ := Int.eq_ofNat_of_zero_le p1
    obtain ⟨j, rfl⟩ := Int.eq_ofNat_of_zero_le p3
    obtain ⟨b, rfl⟩ := Int.eq_ofNat_of_zero_le p5
    have HL := Lib.hid (refLatest_any w1 g a cap k j b p2 p4 p6 (HST.out.below HB1.out))
    rw [hz]
    have HZ := Lib.hid hz; clear hz g
    go_wp2_with fail
    refine HL.out.mono ?_
    clear HL x0' x1' x2' x3' x4'
    rintro e w2 ⟨rfl, hb2⟩
    have HB2 := Lib.hid (HBW.out.trans (hb2.mono HBW.out.size)); clear hb2
    have Hl := Lib.hid (show lateD r f ((k : Nat) : Int).toNat ((j : Nat) : Int).toNat (b : Int) = lateD r f k j (b : Int) by rw [Int.toNat_natCast, Int.toNat_natCast])
    generalize lateD r f k j (b : Int) = d at Hl
    by_cases hneg : d < 0
    · go_wp2_with fail
      go_ret2
      exact ⟨HB2.out, .inl ⟨HE.out.trans HZ.out, by rw [Hl.out]; exact hneg, rfl⟩⟩
    · go_wp2_with fail
      go_ret2
      exact ⟨HB2.out, .inr (.inl ⟨HE.out.trans HZ.out, by rw [Hl.out]; omega, by rw [Hl.out]; rfl⟩)⟩
  · have hne : (askedErr r f [fr, tt] [by'] != 0) = true := by simpa using hz
    have HZ := Lib.hid hz; clear hz
    clear x0' x1' x2' x3' x4'
    go_wp2_with fail
    go_ret2
    exact ⟨HBW.out, .inr (.inr ⟨by rw [HE.out]; exact HZ.out, by rw [HE.out]; rfl⟩)⟩

set_option maxRecDepth 100000 in
set_option maxHeartbeats 4000000 in
theorem refStay_any (w : World) (r : Roads) (f : Flock) (a : Option Addr) (cap : Nat) (hs : StripsAt w a r.strips) (hm : r.strips.length ≤ maxLen) (home tt day by' : Int) :
    Calls Try.prog 45 #[.agg #[.int .i64 r.days, .int .i64 r.stages, .slice a r.strips.length cap], .agg #[.int .i64 f.heads, .int .i64 f.pace], .int .i64 home, .int .i64 tt, .int .i64 day, .int .i64 by'] w (StayPost w r f home tt day by') := by
  have hb0 : Below w.heap.size w ((w.alloc (.cells #[.int .i64 r.days, .int .i64 r.stages, .slice a r.strips.length cap] 24)).alloc (.cells #[.int .i64 f.heads, .int .i64 f.pace] 26)) := ((Below.refl _ _).alloc (Nat.le_refl _) _).alloc (by simp) _
  have hz0 : ((w.alloc (.cells #[.int .i64 r.days, .int .i64 r.stages, .slice a r.strips.length cap] 24)).alloc (.cells #[.int .i64 f.heads, .int .i64 f.pace] 26)).heap.size = w.heap.size + 2 := by simp
  have x0 : ((w.alloc (.cells #[.int .i64 r.days, .int .i64 r.stages, .slice a r.strips.length cap] 24)).alloc (.cells #[.int .i64 f.heads, .int .i64 f.pace] 26)).cell? ⟨w.heap.size, 0, none⟩ = some (.int .i64 r.days) := by simp [go_sem]
  have x1 : ((w.alloc (.cells #[.int .i64 r.days, .int .i64 r.stages, .slice a r.strips.length cap] 24)).alloc (.cells #[.int .i64 f.heads, .int .i64 f.pace] 26)).cell? ⟨w.heap.size, 1, none⟩ = some (.int .i64 r.stages) := by simp [go_sem]
  have x2 : ((w.alloc (.cells #[.int .i64 r.days, .int .i64 r.stages, .slice a r.strips.length cap] 24)).alloc (.cells #[.int .i64 f.heads, .int .i64 f.pace] 26)).cell? ⟨w.heap.size, 2, none⟩ = some (.slice a r.strips.length cap) := by simp [go_sem]
  have x3 : ((w.alloc (.cells #[.int .i64 r.days, .int .i64 r.stages, .slice a r.strips.length cap] 24)).alloc (.cells #[.int .i64 f.heads, .int .i64 f.pace] 26)).cell? ⟨w.heap.size + 1, 0, none⟩ = some (.int .i64 f.heads) := by simp [go_sem]
  have x4 : ((w.alloc (.cells #[.int .i64 r.days, .int .i64 r.stages, .slice a r.strips.length cap] 24)).alloc (.cells #[.int .i64 f.heads, .int .i64 f.pace] 26)).cell? ⟨w.heap.size + 1, 1, none⟩ = some (.int .i64 f.pace) := by simp [go_sem]
  have hst := hs.below hb0
  have HM := Lib.hid hm; clear hm hs
  have HE := Lib.hid (ready_asked8 r f home tt day by')
  go_enter Try.func45, Try.ntmps45
  go_upto_region 1 with (fail)
  generalize ((w.alloc (.cells #[.int .i64 r.days, .int .i64 r.stages, .slice a r.strips.length cap] 24)).alloc (.cells #[.int .i64 f.heads, .int .i64 f.pace] 26)) = W0 at hb0 hz0 x0 x1 x2 x3 x4 hst ⊢
  have hp1 := ints_new (w := W0) [home, tt]
  have hp2 := ints_new (w := W0.alloc (.cells #[.int .i64 home, .int .i64 tt] 3)) [day, by']
  have hba : Below W0.heap.size W0 ((W0.alloc (.cells #[.int .i64 home, .int .i64 tt] 3)).alloc (.cells #[.int .i64 day, .int .i64 by'] 3)) := ((Below.refl _ _).alloc (Nat.le_refl _) _).alloc (by simp) _
  have hp1' := hp1.below (w' := ((W0.alloc (.cells #[.int .i64 home, .int .i64 tt] 3)).alloc (.cells #[.int .i64 day, .int .i64 by'] 3))) ((Below.refl _ _).alloc (Nat.le_refl _) _)
  have hak := asked_any ((W0.alloc (.cells #[.int .i64 home, .int .i64 tt] 3)).alloc (.cells #[.int .i64 day, .int .i64 by'] 3)) r f a cap (hst.below hba) HM.out _ _ 2 2 [home, tt] [day, by'] hp1' hp2 (by simp) (by simp)
  rw [show (W0.alloc (.cells #[.int .i64 home, .int .i64 tt] 3)).heap.size = W0.heap.size + 1 by simp] at hak
  rw [show [home, tt].length = 2 from rfl, show [day, by'].length = 2 from rfl] at hak
  have HAK := Lib.hid hak; clear hak hp1 hp2 hp1'
  have HBA := Lib.hid hba; clear hba
  have HST := Lib.hid hst; clear hst
  have HB0 := Lib.hid hb0; clear hb0
  have HZ0 := Lib.hid hz0; clear hz0
  go_wp2_with fail
  refine HAK.out.mono ?_
  clear HAK
  rintro e w1 ⟨rfl, hb1⟩
  have HB1 := Lib.hid (HBA.out.trans (hb1.mono HBA.out.size)); clear hb1 HBA
  have x0' := ((bcell HB1.out).1 _ _ (lt_of_cell x0)).trans x0
  have x1' := ((bcell HB1.out).1 _ _ (lt_of_cell x1)).trans x1
  have x2' := ((bcell HB1.out).1 _ _ (lt_of_cell x2)).trans x2
  have x3' := ((bcell HB1.out).1 _ _ (lt_of_cell x3)).trans x3
  have x4' := ((bcell HB1.out).1 _ _ (lt_of_cell x4)).trans x4
  clear x0 x1 x2 x3 x4
  have HBW := Lib.hid (HB0.out.trans (HB1.out.mono HB0.out.size))
  by_cases hz : askedErr r f [home, tt] [day, by'] = 0
  · obtain ⟨g, ⟨p1, p2⟩, ⟨p3, p4⟩, ⟨p5, p6⟩, p7, p8⟩ := good_of_asked4 hz
    obtain ⟨k, rfl⟩ := Int.eq_ofNat_of_zero_le p1
    obtain ⟨j, rfl⟩ := Int.eq_ofNat_of_zero_le p3
    obtain ⟨z, rfl⟩ := Int.eq_ofNat_of_zero_le p5
    obtain ⟨b, rfl⟩ := Int.eq_ofNat_of_zero_le p7
    obtain ⟨S, hS⟩ := Int.eq_ofNat_of_zero_le (show 0 ≤ r.stages by have := g.s1; omega)
    have hS6 := g.s2
    have hd10 := g.d2
    have hjS : j < S := by omega
    have hdy := days_any w1 g a cap S k z hS (by omega) (by omega) (HST.out.below HB1.out)
    rw [← hS] at hdy
    have HDY := Lib.hid hdy; clear hdy
    have hjl : j < (comesL r f (-1) k (z : Int)).length := by rw [comesL, comesTo_len]; omega
    have hx := comesTo_range r f (-1) (0 ||| 1 <<< k) (z : Int) p5 (r.days - (z : Int)).toNat _ (List.getElem_mem (l := comesL r f (-1) k (z : Int)) hjl)
    have hA : stayA r f k j (z : Int) = (comesL r f (-1) k (z : Int))[j] := by unfold stayA; rw [List.getD_eq_getElem?_getD, List.getElem?_eq_getElem hjl]; rfl
    have hB := lateR_range r f (-1) j k (b : Int) ((b : Int) + 1).toNat
    have hB' : lateD r f j k (b : Int) = lateR r f (-1) j k (b : Int) ((b : Int) + 1).toNat := rfl
    generalize hx0 : (comesL r f (-1) k (z : Int))[j] = c0 at hx hA
    generalize hy0 : lateR r f (-1) j k (b : Int) ((b : Int) + 1).toNat = d0 at hB hB'
    have e1 : -1 ≤ c0 := by omega
    have e2 : c0 < 100 := by omega
    have e3 : -1 ≤ d0 := by omega
    have e4 : d0 < 100 := by omega
    rw [hz]
    have HZ := Lib.hid hz; clear hz
    have G := Lib.hid g; clear g
    have HA := Lib.hid hA; clear hA hx
    have HB := Lib.hid hB'; clear hB' hB
    clear hx0 hjl hy0
    have HS := Lib.hid hS; clear hS
    have P2 := Lib.hid p2
    have P4 := Lib.hid p4
    have P8 := Lib.hid p8
    clear p2 p4 p6 p8 p1 p3 p5 p7 hS6 hd10
    go_wp2_with fail
    refine HDY.out.mono ?_
    clear HDY
    rintro e w2 ⟨gb, rfl, hrow, hgb, hb2⟩
    have y0' := ((bcell hb2).1 _ _ (lt_of_cell x0')).trans x0'
    have y1' := ((bcell hb2).1 _ _ (lt_of_cell x1')).trans x1'
    have y2' := ((bcell hb2).1 _ _ (lt_of_cell x2')).trans x2'
    have y3' := ((bcell hb2).1 _ _ (lt_of_cell x3')).trans x3'
    have y4' := ((bcell hb2).1 _ _ (lt_of_cell x4')).trans x4'
    clear x0' x1' x2' x3' x4' hgb
    have m0 := hrow.cell hjS
    rw [show (comesL r f (-1) k (z : Int)).getD j 0 = c0 from HA.out] at m0
    clear hrow
    have HB2 := Lib.hid (HBW.out.trans (hb2.mono HBW.out.size))
    have hlt := refLatest_any w2 G.out a cap j k b P4.out P2.out P8.out ((HST.out.below HB1.out).below hb2)
    have HL := Lib.hid hlt; clear hlt hb2
    go_wp2_with fail
    refine HL.out.mono ?_
    clear HL y0' y1' y2' y3' y4' m0
    rintro e w3 ⟨rfl, hb3⟩
    have HB3 := Lib.hid (HB2.out.trans (hb3.mono HB2.out.size)); clear hb3
    rw [HB.out]
    have HAA := Lib.hid (show stayA r f ((k : Nat) : Int).toNat ((j : Nat) : Int).toNat (z : Int) = c0 by rw [Int.toNat_natCast, Int.toNat_natCast]; exact HA.out)
    have HLL := Lib.hid (show lateD r f ((j : Nat) : Int).toNat ((k : Nat) : Int).toNat (b : Int) = d0 by rw [Int.toNat_natCast, Int.toNat_natCast]; exact HB.out)
    by_cases hn1 : c0 < 0
    · go_wp2_with fail
      go_ret2
      exact ⟨HB3.out, .inl ⟨HE.out.trans HZ.out, by rw [HAA.out, HLL.out]; exact .inl hn1, rfl⟩⟩
    · by_cases hn2 : d0 ≤ c0
      · go_wp2_with fail
        go_ret2
        exact ⟨HB3.out, .inl ⟨HE.out.trans HZ.out, by rw [HAA.out, HLL.out]; exact .inr hn2, rfl⟩⟩
      · go_wp2_with fail
        go_ret2
        exact ⟨HB3.out, .inr (.inl ⟨HE.out.trans HZ.out, by rw [HAA.out, HLL.out]; omega, by rw [HAA.out, HLL.out]; rfl⟩)⟩
  · have hne : (askedErr r f [home, tt] [day, by'] != 0) = true := by simpa using hz
    have HZ := Lib.hid hz; clear hz
    clear x0' x1' x2' x3' x4'
    go_wp2_with fail
    go_ret2
    exact ⟨HBW.out, .inr (.inr ⟨by rw [HE.out]; exact HZ.out, by rw [HE.out]; rfl⟩)⟩

end Go.Proofs.Ytjgkgnfhglhklaa
