/- The contract of mestaref02.why. -/
import Derived.Test.YtjgkgnfhglhklaaRef
import Derived.Deep.CutBlock
import Derived.Outline
namespace Go.Proofs.Ytjgkgnfhglhklaa
set_option linter.unusedSimpArgs false
set_option linter.unusedVariables false
open Go.RowKit

set_option maxRecDepth 100000 in
set_option maxHeartbeats 4000000 in
theorem refWhy_any (s : Strip) (f : Flock) (day : Int) (w : World) :
    Calls Try.prog 103 #[s.val, .agg #[.int .i64 f.heads, .int .i64 f.pace], .int .i64 day] w
      fun e w' => ∃ v, e = .returned v ∧ OwnInts w' w.heap.size v (barsL s f day) ∧ Below w.heap.size w w' := by
  unfold Strip.val
  have hb0 : Below w.heap.size w ((w.alloc (.cells #[.int .i64 s.A, .int .i64 s.B, .int .i64 s.L, .int .i64 s.W, .int .i64 s.K, .int .i64 s.X, .int .i64 s.Y] 57)).alloc (.cells #[.int .i64 f.heads, .int .i64 f.pace] 26)) := ((Below.refl _ _).alloc (Nat.le_refl _) _).alloc (by simp) _
  have hs0 : ((w.alloc (.cells #[.int .i64 s.A, .int .i64 s.B, .int .i64 s.L, .int .i64 s.W, .int .i64 s.K, .int .i64 s.X, .int .i64 s.Y] 57)).alloc (.cells #[.int .i64 f.heads, .int .i64 f.pace] 26)).heap.size = w.heap.size + 2 := by simp
  have z2 : ((w.alloc (.cells #[.int .i64 s.A, .int .i64 s.B, .int .i64 s.L, .int .i64 s.W, .int .i64 s.K, .int .i64 s.X, .int .i64 s.Y] 57)).alloc (.cells #[.int .i64 f.heads, .int .i64 f.pace] 26)).cell? ⟨w.heap.size, 2, none⟩ = some (.int .i64 s.L) := by simp [go_sem]
  have z3 : ((w.alloc (.cells #[.int .i64 s.A, .int .i64 s.B, .int .i64 s.L, .int .i64 s.W, .int .i64 s.K, .int .i64 s.X, .int .i64 s.Y] 57)).alloc (.cells #[.int .i64 f.heads, .int .i64 f.pace] 26)).cell? ⟨w.heap.size, 3, none⟩ = some (.int .i64 s.W) := by simp [go_sem]
  have z4 : ((w.alloc (.cells #[.int .i64 s.A, .int .i64 s.B, .int .i64 s.L, .int .i64 s.W, .int .i64 s.K, .int .i64 s.X, .int .i64 s.Y] 57)).alloc (.cells #[.int .i64 f.heads, .int .i64 f.pace] 26)).cell? ⟨w.heap.size, 4, none⟩ = some (.int .i64 s.K) := by simp [go_sem]
  have z5 : ((w.alloc (.cells #[.int .i64 s.A, .int .i64 s.B, .int .i64 s.L, .int .i64 s.W, .int .i64 s.K, .int .i64 s.X, .int .i64 s.Y] 57)).alloc (.cells #[.int .i64 f.heads, .int .i64 f.pace] 26)).cell? ⟨w.heap.size, 5, none⟩ = some (.int .i64 s.X) := by simp [go_sem]
  have z6 : ((w.alloc (.cells #[.int .i64 s.A, .int .i64 s.B, .int .i64 s.L, .int .i64 s.W, .int .i64 s.K, .int .i64 s.X, .int .i64 s.Y] 57)).alloc (.cells #[.int .i64 f.heads, .int .i64 f.pace] 26)).cell? ⟨w.heap.size, 6, none⟩ = some (.int .i64 s.Y) := by simp [go_sem]
  have v0 : ((w.alloc (.cells #[.int .i64 s.A, .int .i64 s.B, .int .i64 s.L, .int .i64 s.W, .int .i64 s.K, .int .i64 s.X, .int .i64 s.Y] 57)).alloc (.cells #[.int .i64 f.heads, .int .i64 f.pace] 26)).cell? ⟨w.heap.size + 1, 0, none⟩ = some (.int .i64 f.heads) := by simp [go_sem]
  have v1 : ((w.alloc (.cells #[.int .i64 s.A, .int .i64 s.B, .int .i64 s.L, .int .i64 s.W, .int .i64 s.K, .int .i64 s.X, .int .i64 s.Y] 57)).alloc (.cells #[.int .i64 f.heads, .int .i64 f.pace] 26)).cell? ⟨w.heap.size + 1, 1, none⟩ = some (.int .i64 f.pace) := by simp [go_sem]
  go_enter Try.func103, Try.ntmps103
  go_wp2_with fail
  generalize ((w.alloc (.cells #[.int .i64 s.A, .int .i64 s.B, .int .i64 s.L, .int .i64 s.W, .int .i64 s.K, .int .i64 s.X, .int .i64 s.Y] 57)).alloc (.cells #[.int .i64 f.heads, .int .i64 f.pace] 26)) = W0 at hb0 hs0 z2 z3 z4 z5 z6 v0 v1 ⊢
  have HS0 := Lib.hid hs0; clear hs0
  have HB0 := Lib.hid hb0; clear hb0
  have Qz2 := Lib.hid z2; clear z2
  have Qz3 := Lib.hid z3; clear z3
  have Qz4 := Lib.hid z4; clear z4
  have Qz5 := Lib.hid z5; clear z5
  have Qz6 := Lib.hid z6; clear z6
  have Qv0 := Lib.hid v0; clear v0
  have Qv1 := Lib.hid v1; clear v1
  have HOWN := Lib.hid (OwnInts.nil W0 (w.heap.size + 2))
  have HBR := Lib.hid (Below.refl W0.heap.size W0)
  obtain ⟨wc, hwc⟩ : ∃ wc, wc = W0 := ⟨_, rfl⟩
  clear hwc wc
  have x2 := ((bcell HBR.out).1 _ _ (lt_of_cell Qz2.out)).trans Qz2.out
  have x3 := ((bcell HBR.out).1 _ _ (lt_of_cell Qz3.out)).trans Qz3.out
  have x4 := ((bcell HBR.out).1 _ _ (lt_of_cell Qz4.out)).trans Qz4.out
  have x5 := ((bcell HBR.out).1 _ _ (lt_of_cell Qz5.out)).trans Qz5.out
  have x6 := ((bcell HBR.out).1 _ _ (lt_of_cell Qz6.out)).trans Qz6.out
  have y0 := ((bcell HBR.out).1 _ _ (lt_of_cell Qv0.out)).trans Qv0.out
  have y1 := ((bcell HBR.out).1 _ _ (lt_of_cell Qv1.out)).trans Qv1.out
  go_cut [13] (fun vt wx => vt = .bool (bar1 s f) ∧ OwnInts wx (w.heap.size + 2) (.slice none 0 0) (barsTo s f day 0) ∧ Below W0.heap.size W0 wx)
  case first =>
    go_quiet ((go_at_call 109; exact Calls.quiet_of_same ((refLegal_any _ _).mono fun e w' h => ⟨h.1, h.2.symm⟩)))
    go_wp2_with fail
    go_meet
    exact ⟨rfl, HOWN.out.below (below_drewN (Below.refl _ _) _), below_drewN HBR.out _⟩
  case rest =>
    obtain ⟨rfl, hown, hbr⟩ := hcut
    clear x2 x3 x4 x5 x6 y0 y1
    have hle := barsTo_le s f day 0
    go_upto_if 13 with (fail)
    go_cut [7] (fun v7 wx => OwnInts wx (w.heap.size + 2) v7 (barsTo s f day 1) ∧ Below W0.heap.size W0 wx)
    case first =>
      have hsz := hbr.size
      cases hT : bar1 s f
      · have he : barsTo s f day 1 = barsTo s f day 0 := barsTo_no (k := 0) hT
        have HE := Lib.hid he; clear he hT
        go_wp2_with fail
        go_meet
        exact ⟨by rw [HE.out]; exact hown, hbr⟩
      · have he : barsTo s f day 1 = barsTo s f day 0 ++ [((0 : Nat) : Int) + 1] := barsTo_yes (k := 0) hT
        have HE := Lib.hid he; clear he hT
        go_wp2_with (at_builtin; refine app_int1 rfl _ _ rfl (w.heap.size + 2) _ _ rfl hown _ rfl (by omega) (by have := HS0.out; omega) ?_)
        intro v' w' hown' hbel _
        go_wp2_with fail
        go_meet
        exact ⟨by rw [HE.out]; exact hown', hbr.trans (by rw [HS0.out]; exact hbel)⟩
    case rest =>
      obtain ⟨hown', hbr'⟩ := hcut
      clear hown hbr hle HOWN HBR
      have HOWN := Lib.hid hown'; clear hown'
      have HBR := Lib.hid hbr'; clear hbr'
      go_upto_region 4 with (fail)
      have x2 := ((bcell HBR.out).1 _ _ (lt_of_cell Qz2.out)).trans Qz2.out
      have x3 := ((bcell HBR.out).1 _ _ (lt_of_cell Qz3.out)).trans Qz3.out
      have x4 := ((bcell HBR.out).1 _ _ (lt_of_cell Qz4.out)).trans Qz4.out
      have x5 := ((bcell HBR.out).1 _ _ (lt_of_cell Qz5.out)).trans Qz5.out
      have x6 := ((bcell HBR.out).1 _ _ (lt_of_cell Qz6.out)).trans Qz6.out
      have y0 := ((bcell HBR.out).1 _ _ (lt_of_cell Qv0.out)).trans Qv0.out
      have y1 := ((bcell HBR.out).1 _ _ (lt_of_cell Qv1.out)).trans Qv1.out
      go_cut [21] (fun vt wx => vt = .bool (bar2 s f) ∧ OwnInts wx (w.heap.size + 2) u7 (barsTo s f day 1) ∧ Below W0.heap.size W0 wx)
      case first =>
        go_wp2_with fail
        go_meet
        exact ⟨rfl, HOWN.out, HBR.out⟩
      case rest =>
        obtain ⟨rfl, hown, hbr⟩ := hcut
        clear x2 x3 x4 x5 x6 y0 y1
        have hle := barsTo_le s f day 1
        go_upto_if 21 with (fail)
        go_cut [7] (fun v7 wx => OwnInts wx (w.heap.size + 2) v7 (barsTo s f day 2) ∧ Below W0.heap.size W0 wx)
        case first =>
          have hsz := hbr.size
          cases hT : bar2 s f
          · have he : barsTo s f day 2 = barsTo s f day 1 := barsTo_no (k := 1) hT
            have HE := Lib.hid he; clear he hT
            go_wp2_with fail
            go_meet
            exact ⟨by rw [HE.out]; exact hown, hbr⟩
          · have he : barsTo s f day 2 = barsTo s f day 1 ++ [((1 : Nat) : Int) + 1] := barsTo_yes (k := 1) hT
            have HE := Lib.hid he; clear he hT
            go_wp2_with (at_builtin; refine app_int1 rfl _ _ rfl (w.heap.size + 2) _ _ rfl hown _ rfl (by omega) (by have := HS0.out; omega) ?_)
            intro v' w' hown' hbel _
            go_wp2_with fail
            go_meet
            exact ⟨by rw [HE.out]; exact hown', hbr.trans (by rw [HS0.out]; exact hbel)⟩
        case rest =>
          obtain ⟨hown', hbr'⟩ := hcut
          clear hown hbr hle HOWN HBR
          have HOWN := Lib.hid hown'; clear hown'
          have HBR := Lib.hid hbr'; clear hbr'
          go_upto_region 6 with (fail)
          have x2 := ((bcell HBR.out).1 _ _ (lt_of_cell Qz2.out)).trans Qz2.out
          have x3 := ((bcell HBR.out).1 _ _ (lt_of_cell Qz3.out)).trans Qz3.out
          have x4 := ((bcell HBR.out).1 _ _ (lt_of_cell Qz4.out)).trans Qz4.out
          have x5 := ((bcell HBR.out).1 _ _ (lt_of_cell Qz5.out)).trans Qz5.out
          have x6 := ((bcell HBR.out).1 _ _ (lt_of_cell Qz6.out)).trans Qz6.out
          have y0 := ((bcell HBR.out).1 _ _ (lt_of_cell Qv0.out)).trans Qv0.out
          have y1 := ((bcell HBR.out).1 _ _ (lt_of_cell Qv1.out)).trans Qv1.out
          go_cut [34] (fun vt wx => vt = .bool (bar3 s f) ∧ OwnInts wx (w.heap.size + 2) u7 (barsTo s f day 2) ∧ Below W0.heap.size W0 wx)
          case first =>
            by_cases hK : s.K = 4
            · rw [hK] at x4
              have HK := Lib.hid hK; clear hK
              go_wp2_with fail
              go_meet
              exact ⟨by rw [show bar3 s f = decide (s.X < f.heads) by unfold bar3; rw [HK.out]; simp], HOWN.out, HBR.out⟩
            · have HK := Lib.hid hK
              go_wp2_with fail
              go_meet
              exact ⟨by rw [show bar3 s f = false by unfold bar3; simp [HK.out]], HOWN.out, HBR.out⟩
          case rest =>
            obtain ⟨rfl, hown, hbr⟩ := hcut
            clear x2 x3 x4 x5 x6 y0 y1
            have hle := barsTo_le s f day 2
            go_upto_if 34 with (fail)
            go_cut [7] (fun v7 wx => OwnInts wx (w.heap.size + 2) v7 (barsTo s f day 3) ∧ Below W0.heap.size W0 wx)
            case first =>
              have hsz := hbr.size
              cases hT : bar3 s f
              · have he : barsTo s f day 3 = barsTo s f day 2 := barsTo_no (k := 2) hT
                have HE := Lib.hid he; clear he hT
                go_wp2_with fail
                go_meet
                exact ⟨by rw [HE.out]; exact hown, hbr⟩
              · have he : barsTo s f day 3 = barsTo s f day 2 ++ [((2 : Nat) : Int) + 1] := barsTo_yes (k := 2) hT
                have HE := Lib.hid he; clear he hT
                go_wp2_with (at_builtin; refine app_int1 rfl _ _ rfl (w.heap.size + 2) _ _ rfl hown _ rfl (by omega) (by have := HS0.out; omega) ?_)
                intro v' w' hown' hbel _
                go_wp2_with fail
                go_meet
                exact ⟨by rw [HE.out]; exact hown', hbr.trans (by rw [HS0.out]; exact hbel)⟩
            case rest =>
              obtain ⟨hown', hbr'⟩ := hcut
              clear hown hbr hle HOWN HBR
              have HOWN := Lib.hid hown'; clear hown'
              have HBR := Lib.hid hbr'; clear hbr'
              go_upto_region 8 with (fail)
              have x2 := ((bcell HBR.out).1 _ _ (lt_of_cell Qz2.out)).trans Qz2.out
              have x3 := ((bcell HBR.out).1 _ _ (lt_of_cell Qz3.out)).trans Qz3.out
              have x4 := ((bcell HBR.out).1 _ _ (lt_of_cell Qz4.out)).trans Qz4.out
              have x5 := ((bcell HBR.out).1 _ _ (lt_of_cell Qz5.out)).trans Qz5.out
              have x6 := ((bcell HBR.out).1 _ _ (lt_of_cell Qz6.out)).trans Qz6.out
              have y0 := ((bcell HBR.out).1 _ _ (lt_of_cell Qv0.out)).trans Qv0.out
              have y1 := ((bcell HBR.out).1 _ _ (lt_of_cell Qv1.out)).trans Qv1.out
              go_cut [49] (fun vt wx => vt = .bool (bar4 s day) ∧ OwnInts wx (w.heap.size + 2) u7 (barsTo s f day 3) ∧ Below W0.heap.size W0 wx)
              case first =>
                by_cases hK : s.K = 2
                · rw [hK] at x4
                  have HK := Lib.hid hK; clear hK
                  go_wp2_with (go_at_call 108; refine (inside_any _ _ _ _).mono ?_; rintro e w' ⟨rfl, rfl⟩)
                  go_meet
                  exact ⟨by rw [show bar4 s day = !(btw day s.X s.Y) by unfold bar4; rw [HK.out]; simp], HOWN.out, HBR.out⟩
                · have HK := Lib.hid hK
                  go_wp2_with fail
                  go_meet
                  exact ⟨by rw [show bar4 s day = false by unfold bar4; simp [HK.out]], HOWN.out, HBR.out⟩
              case rest =>
                obtain ⟨rfl, hown, hbr⟩ := hcut
                clear x2 x3 x4 x5 x6 y0 y1
                have hle := barsTo_le s f day 3
                go_upto_if 49 with (fail)
                go_cut [7] (fun v7 wx => OwnInts wx (w.heap.size + 2) v7 (barsTo s f day 4) ∧ Below W0.heap.size W0 wx)
                case first =>
                  have hsz := hbr.size
                  cases hT : bar4 s day
                  · have he : barsTo s f day 4 = barsTo s f day 3 := barsTo_no (k := 3) hT
                    have HE := Lib.hid he; clear he hT
                    go_wp2_with fail
                    go_meet
                    exact ⟨by rw [HE.out]; exact hown, hbr⟩
                  · have he : barsTo s f day 4 = barsTo s f day 3 ++ [((3 : Nat) : Int) + 1] := barsTo_yes (k := 3) hT
                    have HE := Lib.hid he; clear he hT
                    go_wp2_with (at_builtin; refine app_int1 rfl _ _ rfl (w.heap.size + 2) _ _ rfl hown _ rfl (by omega) (by have := HS0.out; omega) ?_)
                    intro v' w' hown' hbel _
                    go_wp2_with fail
                    go_meet
                    exact ⟨by rw [HE.out]; exact hown', hbr.trans (by rw [HS0.out]; exact hbel)⟩
                case rest =>
                  obtain ⟨hown', hbr'⟩ := hcut
                  clear hown hbr hle HOWN HBR
                  have HOWN := Lib.hid hown'; clear hown'
                  have HBR := Lib.hid hbr'; clear hbr'
                  go_upto_region 10 with (fail)
                  have x2 := ((bcell HBR.out).1 _ _ (lt_of_cell Qz2.out)).trans Qz2.out
                  have x3 := ((bcell HBR.out).1 _ _ (lt_of_cell Qz3.out)).trans Qz3.out
                  have x4 := ((bcell HBR.out).1 _ _ (lt_of_cell Qz4.out)).trans Qz4.out
                  have x5 := ((bcell HBR.out).1 _ _ (lt_of_cell Qz5.out)).trans Qz5.out
                  have x6 := ((bcell HBR.out).1 _ _ (lt_of_cell Qz6.out)).trans Qz6.out
                  have y0 := ((bcell HBR.out).1 _ _ (lt_of_cell Qv0.out)).trans Qv0.out
                  have y1 := ((bcell HBR.out).1 _ _ (lt_of_cell Qv1.out)).trans Qv1.out
                  go_cut [65] (fun vt wx => vt = .bool (bar5 s day) ∧ OwnInts wx (w.heap.size + 2) u7 (barsTo s f day 4) ∧ Below W0.heap.size W0 wx)
                  case first =>
                    by_cases hK : s.K = 3
                    · rw [hK] at x4
                      have HK := Lib.hid hK; clear hK
                      go_wp2_with fail
                      go_meet
                      exact ⟨by rw [show bar5 s day = decide (8 < wrap64 (s.X + wrap64 (s.Y * day))) by unfold bar5; rw [HK.out]; simp], HOWN.out, HBR.out⟩
                    · have HK := Lib.hid hK
                      go_wp2_with fail
                      go_meet
                      exact ⟨by rw [show bar5 s day = false by unfold bar5; simp [HK.out]], HOWN.out, HBR.out⟩
                  case rest =>
                    obtain ⟨rfl, hown, hbr⟩ := hcut
                    clear x2 x3 x4 x5 x6 y0 y1
                    have hle := barsTo_le s f day 4
                    go_upto_if 65 with (fail)
                    go_cut [7] (fun v7 wx => OwnInts wx (w.heap.size + 2) v7 (barsTo s f day 5) ∧ Below W0.heap.size W0 wx)
                    case first =>
                      have hsz := hbr.size
                      cases hT : bar5 s day
                      · have he : barsTo s f day 5 = barsTo s f day 4 := barsTo_no (k := 4) hT
                        have HE := Lib.hid he; clear he hT
                        go_wp2_with fail
                        go_meet
                        exact ⟨by rw [HE.out]; exact hown, hbr⟩
                      · have he : barsTo s f day 5 = barsTo s f day 4 ++ [((4 : Nat) : Int) + 1] := barsTo_yes (k := 4) hT
                        have HE := Lib.hid he; clear he hT
                        go_wp2_with (at_builtin; refine app_int1 rfl _ _ rfl (w.heap.size + 2) _ _ rfl hown _ rfl (by omega) (by have := HS0.out; omega) ?_)
                        intro v' w' hown' hbel _
                        go_wp2_with fail
                        go_meet
                        exact ⟨by rw [HE.out]; exact hown', hbr.trans (by rw [HS0.out]; exact hbel)⟩
                    case rest =>
                      obtain ⟨hown', hbr'⟩ := hcut
                      clear hown hbr hle HOWN HBR
                      have HOWN := Lib.hid hown'; clear hown'
                      have HBR := Lib.hid hbr'; clear hbr'
                      go_wp2_with fail
                      go_ret
                      exact ⟨_, rfl, HOWN.out.mono (by omega), HB0.out.trans (HBR.out.mono (by have := HS0.out; omega))⟩
end Go.Proofs.Ytjgkgnfhglhklaa
