/- The contract of road.Stay. -/
import Derived.Test.YtjgkgnfhglhklaaPubB
namespace Go.Proofs.Ytjgkgnfhglhklaa
set_option linter.unusedSimpArgs false
set_option linter.unusedVariables false
open Go.RowKit

theorem lateR_range (r : Roads) (f : Flock) (shut : Int) (fr tt : Nat) (by' : Int) : ∀ k, -1 ≤ lateR r f shut fr tt by' k ∧ lateR r f shut fr tt by' k < (k : Int) ∨ lateR r f shut fr tt by' k = -1
  | 0 => .inr rfl
  | k + 1 => by
    unfold lateR
    split
    · exact .inl (by omega)
    · rcases lateR_range r f shut fr tt by' k with h | h
      · exact .inl (by omega)
      · exact .inr h
theorem comesTo_range (r : Roads) (f : Flock) (shut : Int) (n0 : Nat) (day : Int) (h0 : 0 ≤ day) : ∀ k, ∀ x ∈ comesTo r f shut n0 day k, -1 ≤ x ∧ x < day + k ∨ x = -1
  | 0 => by
    intro x hx
    rw [comesTo] at hx
    exact .inr (List.mem_replicate.1 hx).2
  | k + 1 => by
    intro x hx
    rw [comesTo, updTo] at hx
    obtain ⟨i, hi, rfl⟩ := List.mem_mapIdx.1 hx
    have := comesTo_range r f shut n0 day h0 k _ (List.getElem_mem hi)
    split <;> omega

set_option maxRecDepth 100000 in
set_option maxHeartbeats 4000000 in
theorem Stay_any (w : World) (r : Roads) (f : Flock) (a : Option Addr) (cap : Nat) (hs : StripsAt w a r.strips) (hm : r.strips.length ≤ maxLen) (home tt day by' : Int) :
    Calls Try.prog 40 #[.agg #[.int .i64 r.days, .int .i64 r.stages, .slice a r.strips.length cap], .agg #[.int .i64 f.heads, .int .i64 f.pace], .int .i64 home, .int .i64 tt, .int .i64 day, .int .i64 by'] w (StayPost w r f home tt day by') := by
  have hb0 : Below w.heap.size w (((w.alloc (.cells #[.int .i64 r.days, .int .i64 r.stages, .slice a r.strips.length cap] 24)).alloc (.cells #[.int .i64 f.heads, .int .i64 f.pace] 26)).alloc (.cells #[.int .i64 home, .int .i64 r.stages, .int .i64 tt, .int .i64 r.stages, .int .i64 day, .int .i64 r.days, .int .i64 by', .int .i64 r.days] 3)) :=
    (((Below.refl _ _).alloc (Nat.le_refl _) _).alloc (by simp) _).alloc (by simp; omega) _
  have hp := @ints_new ((w.alloc (.cells #[.int .i64 r.days, .int .i64 r.stages, .slice a r.strips.length cap] 24)).alloc (.cells #[.int .i64 f.heads, .int .i64 f.pace] 26)) [home, r.stages, tt, r.stages, day, r.days, by', r.days]
  simp only [World.size_alloc] at hp
  have HM := Lib.hid hm; clear hm
  have HO := Lib.hid (fun hc => @odd8 r hc home tt day by')
  go_enter Try.func40, Try.ntmps40
  go_wp2_with fail
  refine (ready_any _ r f [home, r.stages, tt, r.stages, day, r.days, by', r.days] a cap _ 8 (hs.below hb0) HM.out hp (by simp) HO.out).mono ?_
  rintro e w1 (⟨hz, b, rfl, hW, hbb, _, hb1⟩ | ⟨hz, rfl, hb1⟩)
  · obtain ⟨g, hpz⟩ := ready_zero hz
    obtain ⟨⟨p1, p2⟩, ⟨p3, p4⟩, ⟨p5, p6⟩, p7, p8⟩ := pairs8.1 hpz
    have hg := g.s2
    have hd := g.d2
    obtain ⟨k, hk⟩ := Int.eq_ofNat_of_zero_le p1
    obtain ⟨j, hj⟩ := Int.eq_ofNat_of_zero_le p3
    have Hz := Lib.hid hz; clear hz hpz
    subst hk hj
    have hb01 := hb0.trans (hb1.mono hb0.size)
    have hlen : (comesL r f (-1) k day).length = r.stages.toNat := comesTo_len _ _ _ _ _ _
    have hjl : j < (comesL r f (-1) k day).length := by rw [hlen]; omega
    have hx := comesTo_range r f (-1) (0 ||| 1 <<< k) day p5 (r.days - day).toNat _ (List.getElem_mem (l := comesL r f (-1) k day) hjl)
    have hA : stayA r f k j day = (comesL r f (-1) k day)[j] := by unfold stayA; rw [List.getD_eq_getElem?_getD, List.getElem?_eq_getElem hjl]; rfl
    have hB := lateR_range r f (-1) j k by' (by' + 1).toNat
    have hB' : lateD r f j k by' = lateR r f (-1) j k by' (by' + 1).toNat := rfl
    obtain ⟨c, hc⟩ : ∃ c : Nat, (comesL r f (-1) k day).length = c := ⟨_, rfl⟩
    obtain ⟨L, hL⟩ : ∃ L, comesL r f (-1) k day = L := ⟨_, rfl⟩
    have hcst : (c : Int) = r.stages := by rw [hlen] at hc; omega
    generalize hx0 : (comesL r f (-1) k day)[j] = x0 at hx hA
    generalize hy0 : lateR r f (-1) j k by' (by' + 1).toNat = y0 at hB hB'
    have x1 : -1 ≤ x0 := by omega
    have x2 : x0 < 100 := by omega
    have y1 : -1 ≤ y0 := by omega
    have y2 : y0 < 100 := by omega
    have HA := Lib.hid hA; clear hA hx hlen
    have HB := Lib.hid hB'; clear hB' hB
    have Hx0 := Lib.hid hx0; clear hx0
    have Hy0 := Lib.hid hy0; clear hy0
    have Hc := Lib.hid hc; clear hc
    have Hcst := Lib.hid hcst; clear hcst
    clear hL
    have hj6 : (j : Int) < (c : Int) := by rw [Hcst.out]; exact p4
    have hjc : j < c := by omega
    have hWd : WorkAt w1.drew b r f (-1) a cap := hW.below (Below.refl _ _).drew
    have HWd := Lib.hid hWd; clear hWd
    go_upto_region 4 with (fail)
    go_cut [16, 17] (fun v16 v17 wx => v16 = .int .i64 x0 ∧ v17 = .int .i64 y0 ∧ Below w.heap.size w wx)
    case first =>
      go_region_with (first
        | (go_at_call 76; refine (comes_any _ b r f (-1) a cap HWd.out g k (by omega) day p5 (by omega)).mono ?_; rintro e w2 ⟨v, rfl, hown, hb2⟩; obtain ⟨gb, cp, rfl⟩ := hown.ptr (by omega); have hcell := (hown.cell hjl).1; rw [Hx0.out] at hcell; rw [Hc.out]; clear hown)
        | (go_at_call 76; refine (comes_any _ b r f (-1) a cap (HWd.out.below (by assumption)) g k (by omega) day p5 (by omega)).mono ?_; rintro e w2 ⟨v, rfl, hown, hb2⟩; obtain ⟨gb, cp, rfl⟩ := hown.ptr (by omega); have hcell := (hown.cell hjl).1; rw [Hx0.out] at hcell; rw [Hc.out]; clear hown)
        | (go_at_call 88; refine (late_any _ b r f (-1) a cap HWd.out g j k (by omega) (by omega) by' p7 (by omega)).mono ?_; rintro e w3 ⟨rfl, hb3⟩; rw [Hy0.out])
        | (go_at_call 88; refine (late_any _ b r f (-1) a cap (HWd.out.below (by assumption)) g j k (by omega) (by omega) by' p7 (by omega)).mono ?_; rintro e w3 ⟨rfl, hb3⟩; rw [Hy0.out]; have hcell' := ((bcell hb3).1 _ _ (lt_of_cell hcell)).trans hcell))
      all_goals (go_wp2_with fail; go_meet)
      case rel => exact ⟨rfl, rfl, hb01.trans (((Below.refl _ _).drew.trans (hb2.trans (hb3.mono hb2.size))).mono hb01.size)⟩
      case rel => exact ⟨rfl, rfl, hb01.trans (((Below.refl _ _).drew.trans (hb2.trans (hb3.mono hb2.size))).mono hb01.size)⟩
    case rest =>
      obtain ⟨rfl, rfl, hb⟩ := hcut
      by_cases hx0 : x0 < 0
      · go_wp2_with fail
        go_ret2
        exact ⟨hb, .inl ⟨Hz.out, .inl (by simp; rw [HA.out]; exact hx0), rfl⟩⟩
      · by_cases hxy : y0 ≤ x0
        · go_wp2_with fail
          go_ret2
          exact ⟨hb, .inl ⟨Hz.out, .inr (by simp; rw [HA.out, HB.out]; exact hxy), rfl⟩⟩
        · go_wp2_with fail
          go_ret2
          exact ⟨hb, .inr (.inl ⟨Hz.out, by simp; rw [HA.out, HB.out]; omega, by simp; rw [HA.out, HB.out]⟩)⟩
  · have hne : (readyErr r f [home, r.stages, tt, r.stages, day, r.days, by', r.days] != 0) = true := by simpa using hz
    have Hz := Lib.hid hz; clear hz
    go_wp2_with fail
    go_ret2
    exact ⟨hb0.trans (hb1.mono hb0.size), .inr (.inr ⟨Hz.out, rfl⟩)⟩
end Go.Proofs.Ytjgkgnfhglhklaa
