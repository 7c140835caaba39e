/- mestaref02.better and same: which of two walks comes first. -/
import Derived.Test.YtjgkgnfhglhklaaAfoot
import Derived.Deep.CutBlock
import Derived.Deep.RegionHeld3
namespace Go.Proofs.Ytjgkgnfhglhklaa
set_option linter.unusedSimpArgs false
set_option linter.unusedVariables false
open Go.RowKit

theorem alloc_keepB {w : World} {b o : Nat} {v : Value} {x : Obj} (h : w.cell? ⟨b, o, none⟩ = some v) : (w.alloc x).cell? ⟨b, o, none⟩ = some v := ((bcell ((Below.refl _ _).alloc (Nat.le_refl _) _)).1 _ _ (lt_of_cell h)).trans h
/-- A walk of the reference: whether there is one, its leagues, its plan. -/
structure WalkV where
  is : Bool
  lg : Int
  pl : List (Int × Int)
def lexB : List (Int × Int) → List (Int × Int) → Bool
  | x :: a, y :: b => if x.1 ≠ y.1 then decide (x.1 < y.1) else if x.2 ≠ y.2 then decide (x.2 < y.2) else lexB a b
  | [], b => decide (0 < b.length)
  | _ :: _, [] => false
def betterB (a b : WalkV) : Bool := if !a.is || !b.is then a.is else if a.lg ≠ b.lg then decide (a.lg < b.lg) else lexB a.pl b.pl
theorem lexB_drop {a b : List (Int × Int)} {i : Nat} (h1 : i < a.length) (h2 : i < b.length) (h : lexB (a.drop i) (b.drop i) = lexB a b) :
    (a[i].1 ≠ b[i].1 → lexB a b = decide (a[i].1 < b[i].1)) ∧ (a[i].1 = b[i].1 → a[i].2 ≠ b[i].2 → lexB a b = decide (a[i].2 < b[i].2)) ∧ (a[i].1 = b[i].1 → a[i].2 = b[i].2 → lexB (a.drop (i + 1)) (b.drop (i + 1)) = lexB a b) := by
  rw [List.drop_eq_getElem_cons h1, List.drop_eq_getElem_cons h2, lexB] at h
  refine ⟨fun e => by rw [← h, if_pos e], fun e1 e2 => by rw [← h, if_neg (by simp [e1]), if_pos e2], fun e1 e2 => by rw [← h, if_neg (by simp [e1]), if_neg (by simp [e2])]⟩
theorem lexB_end {a b : List (Int × Int)} {i : Nat} (h1 : i ≤ a.length) (h2 : i ≤ b.length) (h3 : i = a.length ∨ i = b.length) (h : lexB (a.drop i) (b.drop i) = lexB a b) : lexB a b = decide (a.length < b.length) := by
  rw [← h]
  by_cases c : i = a.length
  · subst c
    rw [List.drop_length, lexB, List.length_drop]
    by_cases d : a.length < b.length
    · rw [decide_eq_true d, decide_eq_true (by omega)]
    · rw [decide_eq_false d, decide_eq_false (by omega)]
  · obtain rfl : i = b.length := by omega
    rw [List.drop_length, List.drop_eq_getElem_cons (show b.length < a.length by omega), lexB, decide_eq_false (by omega)]

set_option maxRecDepth 100000 in
set_option maxHeartbeats 8000000 in
theorem better_any (w : World) (A B : WalkV) (aa ab : Option Addr) (ac bc : Nat) (ha : StridesAt w aa A.pl) (hb : StridesAt w ab B.pl) (hla : A.pl.length ≤ 100000) (hlb : B.pl.length ≤ 100000) :
    Calls Try.prog 128 #[.agg #[.bool A.is, .int .i64 A.lg, .slice aa A.pl.length ac], .agg #[.bool B.is, .int .i64 B.lg, .slice ab B.pl.length bc]] w fun e w' => e = .returned (.bool (betterB A B)) ∧ Below w.heap.size w w' := by
  obtain ⟨ai, al, ap⟩ := A
  obtain ⟨bi, bl, bp⟩ := B
  dsimp only at ha hb hla hlb ⊢
  have hb0 : Below w.heap.size w ((w.alloc (.cells #[.bool ai, .int .i64 al, .slice aa ap.length ac] 104)).alloc (.cells #[.bool bi, .int .i64 bl, .slice ab bp.length bc] 104)) := ((Below.refl _ _).alloc (Nat.le_refl _) _).alloc (by simp) _
  have x0 : ((w.alloc (.cells #[.bool ai, .int .i64 al, .slice aa ap.length ac] 104)).alloc (.cells #[.bool bi, .int .i64 bl, .slice ab bp.length bc] 104)).cell? ⟨w.heap.size, 0, none⟩ = some (.bool ai) := by simp [go_sem]
  have x1 : ((w.alloc (.cells #[.bool ai, .int .i64 al, .slice aa ap.length ac] 104)).alloc (.cells #[.bool bi, .int .i64 bl, .slice ab bp.length bc] 104)).cell? ⟨w.heap.size, 1, none⟩ = some (.int .i64 al) := by simp [go_sem]
  have x2 : ((w.alloc (.cells #[.bool ai, .int .i64 al, .slice aa ap.length ac] 104)).alloc (.cells #[.bool bi, .int .i64 bl, .slice ab bp.length bc] 104)).cell? ⟨w.heap.size, 2, none⟩ = some (.slice aa ap.length ac) := by simp [go_sem]
  have x3 : ((w.alloc (.cells #[.bool ai, .int .i64 al, .slice aa ap.length ac] 104)).alloc (.cells #[.bool bi, .int .i64 bl, .slice ab bp.length bc] 104)).cell? ⟨w.heap.size + 1, 0, none⟩ = some (.bool bi) := by simp [go_sem]
  have x4 : ((w.alloc (.cells #[.bool ai, .int .i64 al, .slice aa ap.length ac] 104)).alloc (.cells #[.bool bi, .int .i64 bl, .slice ab bp.length bc] 104)).cell? ⟨w.heap.size + 1, 1, none⟩ = some (.int .i64 bl) := by simp [go_sem]
  have x5 : ((w.alloc (.cells #[.bool ai, .int .i64 al, .slice aa ap.length ac] 104)).alloc (.cells #[.bool bi, .int .i64 bl, .slice ab bp.length bc] 104)).cell? ⟨w.heap.size + 1, 2, none⟩ = some (.slice ab bp.length bc) := by simp [go_sem]
  have HSA := Lib.hid (ha.below hb0); clear ha
  have HSB := Lib.hid (hb.below hb0); clear hb
  go_enter Try.func128, Try.ntmps128
  go_upto_region 1 with (fail)
  generalize ((w.alloc (.cells #[.bool ai, .int .i64 al, .slice aa ap.length ac] 104)).alloc (.cells #[.bool bi, .int .i64 bl, .slice ab bp.length bc] 104)) = W0 at hb0 x0 x1 x2 x3 x4 x5 HSA HSB ⊢
  have HB0 := Lib.hid hb0; clear hb0
  cases ai
  · go_wp2_with fail
    go_ret
    exact ⟨by simp [betterB], HB0.out⟩
  · cases bi
    · go_wp2_with fail
      go_ret
      exact ⟨by simp [betterB], HB0.out⟩
    · by_cases hl : al = bl
      · have d1 : (al != bl) = false := by simp [hl]
        have HBE := Lib.hid (show betterB ⟨true, al, ap⟩ ⟨true, bl, bp⟩ = lexB ap bp by unfold betterB; simp [hl])
        have X2 := Lib.hid x2
        have X5 := Lib.hid x5
        clear hl
        go_wp2_with fail
        clear x0 x1 x2 x3 x4 x5 d1
        go_loopw [5] (fun v5 wx => ∃ i : Nat, i ≤ ap.length ∧ i ≤ bp.length ∧ v5 = .int .i64 (i : Int) ∧ lexB (ap.drop i) (bp.drop i) = lexB ap bp ∧ Below W0.heap.size W0 wx) (fun v _ => ap.length - (intOf v).toNat)
        case atStart => exact ⟨0, Nat.zero_le _, Nat.zero_le _, rfl, rfl, Below.refl _ _⟩
        case round =>
          obtain ⟨i, hi1, hi2, rfl, hlex, hbr⟩ := hrel
          have x2 := ((bcell hbr).1 _ _ (lt_of_cell X2.out)).trans X2.out
          have x5 := ((bcell hbr).1 _ _ (lt_of_cell X5.out)).trans X5.out
          have HLEX := Lib.hid hlex; clear hlex
          have HBR := Lib.hid hbr; clear hbr
          by_cases h1 : i < ap.length
          · have q1 : (i : Int) < (ap.length : Int) := by omega
            by_cases h2 : i < bp.length
            · have q2 : (i : Int) < (bp.length : Int) := by omega
              obtain ⟨l1, l2, l3⟩ := lexB_drop h1 h2 HLEX.out
              rcases HSA.out.below HBR.out with hz | ⟨ba, oa, ea, hca⟩
              · rw [hz] at h1; simp at h1
              rcases HSB.out.below HBR.out with hz | ⟨bb, ob, eb, hcb⟩
              · rw [hz] at h2; simp at h2
              obtain ⟨c1, c2⟩ := hca i h1
              obtain ⟨c3, c4⟩ := hcb i h2
              clear hca hcb
              generalize ap[i] = x at c1 c2 l1 l2 l3
              generalize bp[i] = y at c3 c4 l1 l2 l3
              have L1 := Lib.hid l1; clear l1
              have L2 := Lib.hid l2; clear l2
              have L3 := Lib.hid l3; clear l3
              cases ea
              cases eb
              go_upto_region 8 with (fail)
              go_cut [6, 7] (fun v6 v7 wx => ∃ p q : Nat, v6 = .pointer (some ⟨p, 0, none⟩) ∧ v7 = .pointer (some ⟨q, 0, none⟩) ∧ wx.cell? ⟨p, 0, none⟩ = some (.int .i64 x.1) ∧ wx.cell? ⟨p, 1, none⟩ = some (.int .i64 x.2) ∧ wx.cell? ⟨q, 0, none⟩ = some (.int .i64 y.1) ∧ wx.cell? ⟨q, 1, none⟩ = some (.int .i64 y.2) ∧ Below wr.heap.size wr wx)
              case first =>
                go_region_held3 (fun w' => w'.cell? ⟨w.heap.size, 2, none⟩ = some (.slice (some ⟨ba, oa, none⟩) ap.length ac) ∧ w'.cell? ⟨w.heap.size + 1, 2, none⟩ = some (.slice (some ⟨bb, ob, none⟩) bp.length bc) ∧ w'.cell? ⟨ba, oa + i * 2, none⟩ = some (.int .i64 x.1) ∧ w'.cell? ⟨ba, oa + i * 2 + 1, none⟩ = some (.int .i64 x.2) ∧ w'.cell? ⟨bb, ob + i * 2, none⟩ = some (.int .i64 y.1) ∧ w'.cell? ⟨bb, ob + i * 2 + 1, none⟩ = some (.int .i64 y.2)) (first | exact ⟨x2, x5, c1, c2, c3, c4⟩ | exact ⟨alloc_keepB x2, alloc_keepB x5, alloc_keepB c1, alloc_keepB c2, alloc_keepB c3, alloc_keepB c4⟩ | exact ⟨alloc_keepB (alloc_keepB x2), alloc_keepB (alloc_keepB x5), alloc_keepB (alloc_keepB c1), alloc_keepB (alloc_keepB c2), alloc_keepB (alloc_keepB c3), alloc_keepB (alloc_keepB c4)⟩) (first | fail)
                all_goals
                  go_wp2_with fail
                  go_meet
                  exact ⟨_, _, rfl, rfl, by simp [go_sem], by simp [go_sem], by simp [go_sem], by simp [go_sem], by first | exact (((Below.refl _ _).alloc (Nat.le_refl _) _).alloc (by simp) _).drew | exact (((Below.refl _ _).drew.alloc (by simp) _).alloc (by simp) _)⟩
              case rest =>
                obtain ⟨p, q, rfl, rfl, z0, z1, z2, z3, hbx⟩ := hcut
                have HBX := Lib.hid (HBR.out.trans (hbx.mono HBR.out.size)); clear hbx c1 c2 c3 c4 x2 x5
                by_cases e1 : x.1 = y.1
                · have d1 : (x.1 != y.1) = false := by simp [e1]
                  by_cases e2 : x.2 = y.2
                  · have d2 : (x.2 != y.2) = false := by simp [e2]
                    have HX := Lib.hid (L3.out e1 e2)
                    clear e1 e2
                    go_wp2_with fail
                    exact ⟨⟨i + 1, by omega, by omega, by go_num, HX.out, HBX.out⟩, by simp [intOf]; omega⟩
                  · have d2 : (x.2 != y.2) = true := by simp [e2]
                    have HX := Lib.hid (L2.out e1 e2)
                    clear e1 e2
                    go_wp2_with fail
                    go_ret
                    exact ⟨by rw [HBE.out, HX.out]; simp, HB0.out.trans (HBX.out.mono HB0.out.size)⟩
                · have d1 : (x.1 != y.1) = true := by simp [e1]
                  have HX := Lib.hid (L1.out e1)
                  clear e1
                  go_wp2_with fail
                  go_ret
                  exact ⟨by rw [HBE.out, HX.out]; simp, HB0.out.trans (HBX.out.mono HB0.out.size)⟩
            · have q2 : ¬ (i : Int) < (bp.length : Int) := by omega
              have HX := Lib.hid (lexB_end hi1 hi2 (.inr (by omega)) HLEX.out)
              go_wp2_with fail
              go_ret
              exact ⟨by rw [HBE.out, HX.out]; simp, HB0.out.trans (HBR.out.mono HB0.out.size)⟩
          · have q1 : ¬ (i : Int) < (ap.length : Int) := by omega
            have HX := Lib.hid (lexB_end hi1 hi2 (.inl (by omega)) HLEX.out)
            go_wp2_with fail
            go_ret
            exact ⟨by rw [HBE.out, HX.out]; simp, HB0.out.trans (HBR.out.mono HB0.out.size)⟩
      · have d1 : (al != bl) = true := by simp [hl]
        have HBE := Lib.hid (show betterB ⟨true, al, ap⟩ ⟨true, bl, bp⟩ = decide (al < bl) by unfold betterB; simp [hl])
        clear hl
        go_wp2_with fail
        go_ret
        exact ⟨by rw [HBE.out]; simp, HB0.out⟩
set_option maxRecDepth 100000 in
set_option maxHeartbeats 4000000 in
theorem same_any (w : World) (A B : WalkV) (aa ab : Option Addr) (ac bc : Nat) (ha : StridesAt w aa A.pl) (hb : StridesAt w ab B.pl) (hla : A.pl.length ≤ 100000) (hlb : B.pl.length ≤ 100000) :
    Calls Try.prog 129 #[.agg #[.bool A.is, .int .i64 A.lg, .slice aa A.pl.length ac], .agg #[.bool B.is, .int .i64 B.lg, .slice ab B.pl.length bc]] w fun e w' => e = .returned (.bool (!betterB A B && !betterB B A)) ∧ Below w.heap.size w w' := by
  have hb0 : Below w.heap.size w ((w.alloc (.cells #[.bool A.is, .int .i64 A.lg, .slice aa A.pl.length ac] 104)).alloc (.cells #[.bool B.is, .int .i64 B.lg, .slice ab B.pl.length bc] 104)) := ((Below.refl _ _).alloc (Nat.le_refl _) _).alloc (by simp) _
  have x0 : ((w.alloc (.cells #[.bool A.is, .int .i64 A.lg, .slice aa A.pl.length ac] 104)).alloc (.cells #[.bool B.is, .int .i64 B.lg, .slice ab B.pl.length bc] 104)).cell? ⟨w.heap.size, 0, none⟩ = some (.bool A.is) := by simp [go_sem]
  have x1 : ((w.alloc (.cells #[.bool A.is, .int .i64 A.lg, .slice aa A.pl.length ac] 104)).alloc (.cells #[.bool B.is, .int .i64 B.lg, .slice ab B.pl.length bc] 104)).cell? ⟨w.heap.size, 1, none⟩ = some (.int .i64 A.lg) := by simp [go_sem]
  have x2 : ((w.alloc (.cells #[.bool A.is, .int .i64 A.lg, .slice aa A.pl.length ac] 104)).alloc (.cells #[.bool B.is, .int .i64 B.lg, .slice ab B.pl.length bc] 104)).cell? ⟨w.heap.size, 2, none⟩ = some (.slice aa A.pl.length ac) := by simp [go_sem]
  have x3 : ((w.alloc (.cells #[.bool A.is, .int .i64 A.lg, .slice aa A.pl.length ac] 104)).alloc (.cells #[.bool B.is, .int .i64 B.lg, .slice ab B.pl.length bc] 104)).cell? ⟨w.heap.size + 1, 0, none⟩ = some (.bool B.is) := by simp [go_sem]
  have x4 : ((w.alloc (.cells #[.bool A.is, .int .i64 A.lg, .slice aa A.pl.length ac] 104)).alloc (.cells #[.bool B.is, .int .i64 B.lg, .slice ab B.pl.length bc] 104)).cell? ⟨w.heap.size + 1, 1, none⟩ = some (.int .i64 B.lg) := by simp [go_sem]
  have x5 : ((w.alloc (.cells #[.bool A.is, .int .i64 A.lg, .slice aa A.pl.length ac] 104)).alloc (.cells #[.bool B.is, .int .i64 B.lg, .slice ab B.pl.length bc] 104)).cell? ⟨w.heap.size + 1, 2, none⟩ = some (.slice ab B.pl.length bc) := by simp [go_sem]
  have HSA := Lib.hid (ha.below hb0); clear ha
  have HSB := Lib.hid (hb.below hb0); clear hb
  go_enter Try.func129, Try.ntmps129
  go_upto_region 1 with (fail)
  generalize ((w.alloc (.cells #[.bool A.is, .int .i64 A.lg, .slice aa A.pl.length ac] 104)).alloc (.cells #[.bool B.is, .int .i64 B.lg, .slice ab B.pl.length bc] 104)) = W0 at hb0 x0 x1 x2 x3 x4 x5 HSA HSB ⊢
  have HB0 := Lib.hid hb0; clear hb0
  go_wp2_with fail
  refine (better_any W0 A B aa ab ac bc HSA.out HSB.out hla hlb).mono ?_
  rintro e w1 ⟨rfl, hb1⟩
  have y0 := ((bcell hb1).1 _ _ (lt_of_cell x0)).trans x0
  have y1 := ((bcell hb1).1 _ _ (lt_of_cell x1)).trans x1
  have y2 := ((bcell hb1).1 _ _ (lt_of_cell x2)).trans x2
  have y3 := ((bcell hb1).1 _ _ (lt_of_cell x3)).trans x3
  have y4 := ((bcell hb1).1 _ _ (lt_of_cell x4)).trans x4
  have y5 := ((bcell hb1).1 _ _ (lt_of_cell x5)).trans x5
  have HSA1 := Lib.hid (HSA.out.below hb1)
  have HSB1 := Lib.hid (HSB.out.below hb1)
  have HB1 := Lib.hid (HB0.out.trans (hb1.mono HB0.out.size)); clear hb1 x0 x1 x2 x3 x4 x5
  cases hq : betterB A B
  · have HQ := Lib.hid hq; clear hq
    go_wp2_with fail
    refine (better_any w1 B A ab aa bc ac HSB1.out HSA1.out hlb hla).mono ?_
    rintro e w2 ⟨rfl, hb2⟩
    have HB2 := Lib.hid (HB1.out.trans (hb2.mono HB1.out.size)); clear hb2
    cases hp : betterB B A
    · have HP := Lib.hid hp; clear hp
      go_wp2_with fail
      go_ret
      exact ⟨by simp [HQ.out, HP.out], HB2.out⟩
    · have HP := Lib.hid hp; clear hp
      go_wp2_with fail
      go_ret
      exact ⟨by simp [HQ.out, HP.out], HB2.out⟩
  · have HQ := Lib.hid hq; clear hq
    go_wp2_with fail
    go_ret
    exact ⟨by simp [HQ.out], HB1.out⟩
end Go.Proofs.Ytjgkgnfhglhklaa
