/- The contract of Plan. -/
import Derived.Test.YtjgkgnfhglhklaaNear
namespace Go.Proofs.Ytjgkgnfhglhklaa
set_option linter.unusedSimpArgs false
set_option linter.unusedVariables false
open Go.RowKit

def planDay (r : Roads) (f : Flock) (fr tt : Nat) (day : Int) : Int := (comesL r f (-1) fr day).getD tt 0
def PlanPost (w : World) (r : Roads) (f : Flock) (fr tt day : Int) (e : Ending) (w' : World) : Prop :=
  Below w.heap.size w w' ∧ (
  (readyErr r f [fr, r.stages, tt, r.stages, day, r.days] = 0 ∧ planDay r f fr.toNat tt.toNat day < 0 ∧ e = .returned (.tuple #[.slice none 0 0, .int .i64 11])) ∨
  (readyErr r f [fr, r.stages, tt, r.stages, day, r.days] = 0 ∧ 0 ≤ planDay r f fr.toNat tt.toNat day ∧ ∃ v, e = .returned (.tuple #[v, .int .i64 0]) ∧ OwnStrides w' w.heap.size v (planL r f (-1) tt (planDay r f fr.toNat tt.toNat day) day fr)) ∨
  (readyErr r f [fr, r.stages, tt, r.stages, day, r.days] ≠ 0 ∧ e = .returned (.tuple #[.slice none 0 0, .int .i64 (readyErr r f [fr, r.stages, tt, r.stages, day, r.days])])))

set_option maxRecDepth 100000 in
set_option maxHeartbeats 4000000 in
theorem Plan_any (w : World) (r : Roads) (f : Flock) (a : Option Addr) (cap : Nat) (hs : StripsAt w a r.strips) (hm : r.strips.length ≤ maxLen) (fr tt day : Int) :
    Calls Try.prog 27 #[.agg #[.int .i64 r.days, .int .i64 r.stages, .slice a r.strips.length cap], .agg #[.int .i64 f.heads, .int .i64 f.pace], .int .i64 fr, .int .i64 tt, .int .i64 day] w (PlanPost w r f fr tt day) := by
  have hb0 : Below w.heap.size w (((w.alloc (.cells #[.int .i64 r.days, .int .i64 r.stages, .slice a r.strips.length cap] 24)).alloc (.cells #[.int .i64 f.heads, .int .i64 f.pace] 26)).alloc (.cells #[.int .i64 fr, .int .i64 r.stages, .int .i64 tt, .int .i64 r.stages, .int .i64 day, .int .i64 r.days] 3)) :=
    (((Below.refl _ _).alloc (Nat.le_refl _) _).alloc (by simp) _).alloc (by simp; omega) _
  have hp := @ints_new ((w.alloc (.cells #[.int .i64 r.days, .int .i64 r.stages, .slice a r.strips.length cap] 24)).alloc (.cells #[.int .i64 f.heads, .int .i64 f.pace] 26)) [fr, r.stages, tt, r.stages, day, r.days]
  simp only [World.size_alloc] at hp
  have HM := Lib.hid hm; clear hm
  have HO := Lib.hid (fun hc => @odd6 r hc fr tt day)
  go_enter Try.func27, Try.ntmps27
  go_wp2_with fail
  refine (ready_any _ r f [fr, r.stages, tt, r.stages, day, r.days] a cap _ 6 (hs.below hb0) HM.out hp (by simp) HO.out).mono ?_
  rintro e w1 (⟨hz, b, rfl, hW, hbb, _, hb1⟩ | ⟨hz, rfl, hb1⟩)
  · obtain ⟨g, hpz⟩ := ready_zero hz
    obtain ⟨⟨p1, p2⟩, ⟨p3, p4⟩, p5, p6⟩ := pairs6.1 hpz
    have hg := g.s2
    have hd := g.d2
    obtain ⟨k, hk⟩ := Int.eq_ofNat_of_zero_le p1
    obtain ⟨j, hj⟩ := Int.eq_ofNat_of_zero_le p3
    have Hz := Lib.hid hz; clear hz hpz
    subst hk hj
    have hb01 := hb0.trans (hb1.mono hb0.size)
    have hlen : (comesL r f (-1) k day).length = r.stages.toNat := comesTo_len _ _ _ _ _ _
    have hjl : j < (comesL r f (-1) k day).length := by rw [hlen]; omega
    have hx := comesTo_range r f (-1) (0 ||| 1 <<< k) day p5 (r.days - day).toNat _ (List.getElem_mem (l := comesL r f (-1) k day) hjl)
    have hA : planDay r f k j day = (comesL r f (-1) k day)[j] := by unfold planDay; rw [List.getD_eq_getElem?_getD, List.getElem?_eq_getElem hjl]; rfl
    obtain ⟨c, hc⟩ : ∃ c : Nat, (comesL r f (-1) k day).length = c := ⟨_, rfl⟩
    have hcst : (c : Int) = r.stages := by rw [hlen] at hc; omega
    have hnear : 0 ≤ planDay r f k j day → _ := comes_near g (shut := -1) (s0 := k) p5 p6 p4 rfl
    have Hnear := Lib.hid hnear; clear hnear
    generalize hx0 : (comesL r f (-1) k day)[j] = x0 at hx hA
    have x1 : -1 ≤ x0 := by omega
    have x2 : x0 < 100 := by omega
    have HA := Lib.hid hA; clear hA hx hlen
    have Hx0 := Lib.hid hx0; clear hx0
    have Hc := Lib.hid hc; clear hc
    have Hcst := Lib.hid hcst; clear hcst
    have hj6 : (j : Int) < (c : Int) := by rw [Hcst.out]; exact p4
    have hjc : j < c := by omega
    go_wp2_with fail
    refine (comes_any _ b r f (-1) a cap hW g k (by omega) day p5 (by omega)).mono ?_
    rintro e w2 ⟨v, rfl, hown, hb2⟩
    obtain ⟨gb, cp, rfl⟩ := hown.ptr (by omega)
    have hcell := (hown.cell hjl).1
    rw [Hx0.out] at hcell
    rw [Hc.out]
    clear hown
    have hb02 := hb01.trans (hb2.mono hb01.size)
    have HW2 := Lib.hid (hW.below hb2)
    by_cases hneg : x0 < 0
    · go_wp2_with fail
      go_ret2
      exact ⟨hb02, .inl ⟨Hz.out, by simp; rw [HA.out]; exact hneg, rfl⟩⟩
    · obtain ⟨n1, n2, n3⟩ := Hnear.out (by rw [HA.out]; omega)
      change (_ : Int) ≤ planDay r f k j day at n1
      change planDay r f k j day < _ at n2
      change togoV r f (-1) j (planDay r f k j day) day ((k : Int), 0) < farI at n3
      rw [HA.out] at n1 n2 n3
      have HN3 := Lib.hid n3; clear n3
      go_wp2_with fail
      refine (plan_any w2 b r f (-1) a cap HW2.out g k j day x0 p1 p2 p5 (by omega) (by omega) HN3.out).mono ?_
      rintro e w3 ⟨v, rfl, hown, hb3⟩
      have Hown := Lib.hid hown; clear hown
      go_wp2_with fail
      go_ret2
      exact ⟨hb02.trans (hb3.mono hb02.size), .inr (.inl ⟨Hz.out, by simp; rw [HA.out]; omega, v, rfl, by simp; rw [HA.out]; exact Hown.out.mono hb02.size⟩)⟩
  · have hne : (readyErr r f [fr, r.stages, tt, r.stages, day, r.days] != 0) = true := by simpa using hz
    have Hz := Lib.hid hz; clear hz
    go_wp2_with fail
    go_ret2
    exact ⟨hb0.trans (hb1.mono hb0.size), .inr (.inr ⟨Hz.out, rfl⟩)⟩
end Go.Proofs.Ytjgkgnfhglhklaa
