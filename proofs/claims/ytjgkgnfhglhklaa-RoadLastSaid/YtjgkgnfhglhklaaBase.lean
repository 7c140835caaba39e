/- Contracts of the small functions of package road: between, legal, kindError, flockError. -/
import Derived.Test.YtjgkgnfhglhklaaProg
import Derived.Test.YtjgkgnfhglhklaaSpec
namespace Go.Proofs.Ytjgkgnfhglhklaa
set_option linter.unusedSimpArgs false
set_option linter.unusedVariables false
open Go.RowKit

theorem between_any (n lo hi : Int) (w : World) :
    Calls Try.prog 106 #[.int .i64 n, .int .i64 lo, .int .i64 hi] w fun e w' => e = .returned (.bool (btw n lo hi)) ∧ w = w' := by
  by_cases h : lo ≤ n
  · go_enter Try.func106, Try.ntmps106
    go_wp2
    go_ret
    exact ⟨by simp [h, btw], rfl⟩
  · go_enter Try.func106, Try.ntmps106
    go_wp2
    go_ret
    exact ⟨by simp [btw]; omega, rfl⟩

theorem legal_any (n : Int) (w : World) :
    Calls Try.prog 107 #[.int .i64 n] w fun e w' => e = .returned (.int .i64 (legalW n)) ∧ w = w' := by
  by_cases h : n ≤ 10
  · go_enter Try.func107, Try.ntmps107
    go_wp2
    go_ret
    exact ⟨ret_int (by simp [legalW, h]), rfl⟩
  · by_cases h' : n ≤ 25
    · go_enter Try.func107, Try.ntmps107
      go_wp2
      go_ret
      exact ⟨ret_int (by rw [legalW, if_neg (by omega), if_pos h']), rfl⟩
    · go_enter Try.func107, Try.ntmps107
      go_wp2
      go_ret
      exact ⟨ret_int (by rw [legalW, if_neg (by omega), if_neg (by omega)]), rfl⟩

theorem kindError_any (A B L W K X Y days : Int) (w : World) (h1 : 1 ≤ days) (h2 : days ≤ 10) :
    Calls Try.prog 110 #[.agg #[.int .i64 A, .int .i64 B, .int .i64 L, .int .i64 W, .int .i64 K, .int .i64 X, .int .i64 Y], .int .i64 days] w
      fun e w' => e = .returned (.int .i64 (kindErr ⟨A, B, L, W, K, X, Y⟩ days)) ∧ Below w.heap.size w w' := by
  by_cases k1 : K = 1
  · subst k1
    go_enter Try.func110, Try.ntmps110
    go_wp2_with (go_at_call 106; refine (between_any _ _ _ _).mono ?_; rintro e w' ⟨rfl, rfl⟩)
    all_goals go_ret
    all_goals exact ⟨ret_int (by simp_all [kindErr, kindFine]), by go_grown⟩
  · by_cases k2 : K = 2
    · subst k2
      go_enter Try.func110, Try.ntmps110
      go_wp2_with (go_at_call 106; refine (between_any _ _ _ _).mono ?_; rintro e w' ⟨rfl, rfl⟩)
      all_goals go_ret
      all_goals exact ⟨ret_int (by simp_all [kindErr, kindFine]), by go_grown⟩
    · by_cases k3 : K = 3
      · subst k3
        go_enter Try.func110, Try.ntmps110
        go_wp2_with (go_at_call 106; refine (between_any _ _ _ _).mono ?_; rintro e w' ⟨rfl, rfl⟩)
        all_goals go_ret
        all_goals exact ⟨ret_int (by simp_all [kindErr, kindFine]), by go_grown⟩
      · by_cases k4 : K = 4
        · subst k4
          go_enter Try.func110, Try.ntmps110
          go_wp2_with (go_at_call 106; refine (between_any _ _ _ _).mono ?_; rintro e w' ⟨rfl, rfl⟩)
          all_goals go_ret
          all_goals exact ⟨ret_int (by simp_all [kindErr, kindFine]), by go_grown⟩
        · go_enter Try.func110, Try.ntmps110
          go_wp2_with (go_at_call 106; refine (between_any _ _ _ _).mono ?_; rintro e w' ⟨rfl, rfl⟩)
          all_goals go_ret
          all_goals exact ⟨ret_int (by simp_all [kindErr]), by go_grown⟩

theorem flockError_any (H P : Int) (w : World) :
    Calls Try.prog 116 #[.agg #[.int .i64 H, .int .i64 P]] w
      fun e w' => e = .returned (.int .i64 (flockErr ⟨H, P⟩)) ∧ Below w.heap.size w w' := by
  go_enter Try.func116, Try.ntmps116
  go_wp2_with (go_at_call 106; refine (between_any _ _ _ _).mono ?_; rintro e w' ⟨rfl, rfl⟩)
  all_goals go_ret
  all_goals exact ⟨ret_int (by simp_all [flockErr]), by go_grown⟩
end Go.Proofs.Ytjgkgnfhglhklaa
