/- The contract of mestakit.SameRoads for roads that are equal. -/
import Derived.Test.YtmkjeonjhedgkaaGreatDoorSpec
import Derived.Test.YtmkjeonjhedgkaaGreatDoorAfoot
namespace Go.Proofs.YtmkjeonjhedgkaaGreatDoor
set_option linter.unusedSimpArgs false
set_option linter.unusedVariables false
open Go.RowKit

theorem run_neq_strip (A B L W K X Y : Int) (w : World) : (binOp .neq 63 (.agg #[.int .i64 A, .int .i64 B, .int .i64 L, .int .i64 W, .int .i64 K, .int .i64 X, .int .i64 Y]) (.agg #[.int .i64 A, .int .i64 B, .int .i64 L, .int .i64 W, .int .i64 K, .int .i64 X, .int .i64 Y])).run Tryz.prog w = .ok (.bool false) w := by
  simp [go_sem, Tryz.underlying63, Tryz.underlying3]

set_option maxRecDepth 100000 in
set_option maxHeartbeats 2000000 in
theorem SameRoads_any (w : World) (r : Roads) (a b : Option Addr) (ca cb : Nat) (ha : StripsAt w a r.strips) (hb : StripsAt w b r.strips) (hm : r.strips.length ≤ maxLen) :
    Calls Tryz.prog 13 #[.agg #[.int .i64 r.days, .int .i64 r.stages, .slice a r.strips.length ca], .agg #[.int .i64 r.days, .int .i64 r.stages, .slice b r.strips.length cb]] w fun e w' => e = .returned (.bool true) ∧ Below w.heap.size w w' := by
  unfold maxLen at hm
  have hb0 : Below w.heap.size w ((w.alloc (.cells #[.int .i64 r.days, .int .i64 r.stages, .slice a r.strips.length ca] 24)).alloc (.cells #[.int .i64 r.days, .int .i64 r.stages, .slice b r.strips.length cb] 24)) := ((Below.refl _ _).alloc (Nat.le_refl _) _).alloc (by simp) _
  have x0 : ((w.alloc (.cells #[.int .i64 r.days, .int .i64 r.stages, .slice a r.strips.length ca] 24)).alloc (.cells #[.int .i64 r.days, .int .i64 r.stages, .slice b r.strips.length cb] 24)).cell? ⟨w.heap.size, 0, none⟩ = some (.int .i64 r.days) := by simp [go_sem]
  have x1 : ((w.alloc (.cells #[.int .i64 r.days, .int .i64 r.stages, .slice a r.strips.length ca] 24)).alloc (.cells #[.int .i64 r.days, .int .i64 r.stages, .slice b r.strips.length cb] 24)).cell? ⟨w.heap.size, 1, none⟩ = some (.int .i64 r.stages) := by simp [go_sem]
  have x2 : ((w.alloc (.cells #[.int .i64 r.days, .int .i64 r.stages, .slice a r.strips.length ca] 24)).alloc (.cells #[.int .i64 r.days, .int .i64 r.stages, .slice b r.strips.length cb] 24)).cell? ⟨w.heap.size, 2, none⟩ = some (.slice a r.strips.length ca) := by simp [go_sem]
  have y0 : ((w.alloc (.cells #[.int .i64 r.days, .int .i64 r.stages, .slice a r.strips.length ca] 24)).alloc (.cells #[.int .i64 r.days, .int .i64 r.stages, .slice b r.strips.length cb] 24)).cell? ⟨w.heap.size + 1, 0, none⟩ = some (.int .i64 r.days) := by simp [go_sem]
  have y1 : ((w.alloc (.cells #[.int .i64 r.days, .int .i64 r.stages, .slice a r.strips.length ca] 24)).alloc (.cells #[.int .i64 r.days, .int .i64 r.stages, .slice b r.strips.length cb] 24)).cell? ⟨w.heap.size + 1, 1, none⟩ = some (.int .i64 r.stages) := by simp [go_sem]
  have y2 : ((w.alloc (.cells #[.int .i64 r.days, .int .i64 r.stages, .slice a r.strips.length ca] 24)).alloc (.cells #[.int .i64 r.days, .int .i64 r.stages, .slice b r.strips.length cb] 24)).cell? ⟨w.heap.size + 1, 2, none⟩ = some (.slice b r.strips.length cb) := by simp [go_sem]
  have hsa := ha.below hb0
  have hsb := hb.below hb0
  clear ha hb
  obtain ⟨N, hN⟩ : ∃ N, r.strips.length = N := ⟨_, rfl⟩
  rw [hN] at hm ⊢ x2 y2 hb0
  simp only [hN] at x0 x1 y0 y1 hsa hsb x2 y2
  have HN := Lib.hid hN; clear hN
  have HSA := Lib.hid hsa; clear hsa
  have HSB := Lib.hid hsb; clear hsb
  go_enter Tryz.func13, Tryz.ntmps13
  go_upto_region 1 with (fail)
  generalize ((w.alloc (.cells #[.int .i64 r.days, .int .i64 r.stages, .slice a N ca] 24)).alloc (.cells #[.int .i64 r.days, .int .i64 r.stages, .slice b N cb] 24)) = W0 at hb0 x0 x1 x2 y0 y1 y2 HSA HSB ⊢
  have HB0 := Lib.hid hb0; clear hb0
  go_wp2_with fail
  clear x0 x1 y0 y1
  have X2 := Lib.hid x2; clear x2
  have Y2 := Lib.hid y2; clear y2
  go_loopw [5] (fun v5 wx => ∃ k : Nat, k ≤ N ∧ v5 = .int .i64 (k : Int) ∧ Below W0.heap.size W0 wx) (fun v _ => N - (intOf v).toNat)
  case atStart => exact ⟨0, Nat.zero_le _, rfl, Below.refl _ _⟩
  case round =>
    obtain ⟨k, hk, rfl, hbw⟩ := hrel
    have x2 := ((bcell hbw).1 _ _ (lt_of_cell X2.out)).trans X2.out
    have y2 := ((bcell hbw).1 _ _ (lt_of_cell Y2.out)).trans Y2.out
    by_cases hlt : k < N
    · have hl1 : k < r.strips.length := by rw [HN.out]; exact hlt
      rcases HSA.out.below hbw with hz | ⟨ba, oa, rfl, hca⟩
      · rw [hz] at hl1; simp at hl1
      rcases HSB.out.below hbw with hz | ⟨bb, ob, rfl, hcb⟩
      · rw [hz] at hl1; simp at hl1
      obtain ⟨a0, a1, a2, a3, a4, a5, a6⟩ := hca k hl1
      obtain ⟨b0, b1, b2, b3, b4, b5, b6⟩ := hcb k hl1
      clear hca hcb
      have HBW := Lib.hid hbw; clear hbw
      generalize r.strips[k] = x at a0 a1 a2 a3 a4 a5 a6 b0 b1 b2 b3 b4 b5 b6
      obtain ⟨A, B, L, W, K, X, Y⟩ := x
      dsimp only at a0 a1 a2 a3 a4 a5 a6 b0 b1 b2 b3 b4 b5 b6
      have hnq := run_neq_strip A B L W K X Y
      have q1 : (0 : Int) ≤ (k : Int) := by omega
      have q2 : (k : Int) < (N : Int) := by omega
      go_wp2_with fail
      go_quiet (fail)
      go_wp2_with fail
      exact ⟨⟨k + 1, by omega, by go_num, HBW.out.trans (below_drewN (Below.refl _ _) _)⟩, by simp [intOf]; omega⟩
    · go_wp2_with fail
      go_ret
      exact ⟨ret_bool rfl, HB0.out.trans (hbw.mono HB0.out.size)⟩
end Go.Proofs.YtmkjeonjhedgkaaGreatDoor
