/- Contracts of has, with, end, open. -/
import Derived.Test.YtjgkgnfhglhklaaBars
namespace Go.Proofs.Ytjgkgnfhglhklaa
set_option linter.unusedSimpArgs false
set_option linter.unusedVariables false
open Go.RowKit

theorem has_bit (m k s : Nat) (hm : m < 65536) (hk : 2 ^ s = k) : (bits .and .u16 ((m : Int) / (k : Int)) 1 == 1) = m.testBit s := by
  have e : ((m : Int) / (k : Int)) = ((m / k : Nat) : Int) := by simp
  have h1 : m / k < 65536 := Nat.lt_of_le_of_lt (Nat.div_le_self _ _) hm
  have h2 := u16_and_nat (m / k) 1 h1 (by omega)
  have h3 : bits .and .u16 ((m / k : Nat) : Int) 1 = ((m / k &&& 1 : Nat) : Int) := h2
  rw [e, h3, Nat.testBit_eq_decide_div_mod_eq, hk, Nat.and_one_is_mod]
  have : m / k % 2 = 0 ∨ m / k % 2 = 1 := by omega
  rcases this with h | h <;> simp [h]

theorem has_any (m s : Nat) (hm : m < 65536) (hs : s < 6) (w : World) :
    Calls Try.prog 118 #[.int .u16 m, .int .i64 s] w fun e w' => e = .returned (.bool (m.testBit s)) ∧ w = w' := by
  obtain rfl | rfl | rfl | rfl | rfl | rfl : s = 0 ∨ s = 1 ∨ s = 2 ∨ s = 3 ∨ s = 4 ∨ s = 5 := by omega
  all_goals go_enter Try.func118, Try.ntmps118
  all_goals go_wp2
  all_goals go_ret
  all_goals refine ⟨ret_bool ?_, rfl⟩
  · have := has_bit m 1 0 hm rfl; simpa using this
  · exact has_bit m 2 1 hm rfl
  · exact has_bit m 4 2 hm rfl
  · exact has_bit m 8 3 hm rfl
  · exact has_bit m 16 4 hm rfl
  · exact has_bit m 32 5 hm rfl
theorem with_bit (m k : Nat) (hm : m < 65536) (hk : k < 65536) : bits .or .u16 (m : Int) (k : Int) = ((m ||| k : Nat) : Int) := u16_or_nat m k hm hk
theorem with_any (m s : Nat) (hm : m < 65536) (hs : s < 6) (w : World) :
    Calls Try.prog 93 #[.int .u16 m, .int .i64 s] w fun e w' => e = .returned (.int .u16 ((m ||| (1 <<< s) : Nat) : Int)) ∧ w = w' := by
  obtain rfl | rfl | rfl | rfl | rfl | rfl : s = 0 ∨ s = 1 ∨ s = 2 ∨ s = 3 ∨ s = 4 ∨ s = 5 := by omega
  all_goals go_enter Try.func93, Try.ntmps93
  all_goals go_wp2
  all_goals go_ret
  all_goals refine ⟨ret_int ?_, rfl⟩
  · exact with_bit m 1 hm (by decide)
  · exact with_bit m 2 hm (by decide)
  · exact with_bit m 4 hm (by decide)
  · exact with_bit m 8 hm (by decide)
  · exact with_bit m 16 hm (by decide)
  · exact with_bit m 32 hm (by decide)

/-- The other end of a strip, and whether it has the stage at an end. -/
def endOf (s : Strip) (t : Int) : Int × Bool := if t = s.A then (s.B, true) else if t = s.B then (s.A, true) else (0, false)

set_option maxHeartbeats 1000000 in
theorem end_any (w : World) (b : Nat) (r : Roads) (f : Flock) (shut : Int) (a : Option Addr) (cap : Nat) (h : WorkAt w b r f shut a cap) (i : Nat) (hi : i < r.strips.length) (t : Int) :
    Calls Try.prog 99 #[.pointer (some ⟨b, 0, none⟩), .int .i64 i, .int .i64 t] w
      fun e w' => e = .returned (.tuple #[.int .i64 (endOf r.strips[i] t).1, .bool (endOf r.strips[i] t).2]) ∧ Below w.heap.size w w' := by
  obtain ⟨c0, c1, c2, c3, c4, c5, hs⟩ := h
  rcases hs with hs | ⟨sb, so, rfl, hs⟩
  · simp [hs] at hi
  obtain ⟨s0, s1, s2, s3, s4, s5, s6⟩ := hs i hi
  clear hs
  generalize hg : r.strips[i] = s at s0 s1 s2 s3 s4 s5 s6
  by_cases hA : t = s.A
  · go_enter Try.func99, Try.ntmps99
    go_wp2
    all_goals go_ret2
    all_goals exact ⟨by simp [endOf, hA], by go_grown⟩
  · by_cases hB : t = s.B
    · go_enter Try.func99, Try.ntmps99
      go_wp2
      all_goals go_ret2
      all_goals exact ⟨by simp_all [endOf], by go_grown⟩
    · go_enter Try.func99, Try.ntmps99
      go_wp2
      all_goals go_ret2
      all_goals exact ⟨by simp [endOf, hA, hB], by go_grown⟩

theorem len_zero (l : List Int) : ((l.length : Int) == 0) = l.isEmpty := by
  cases l with
  | nil => rfl
  | cons x l => simp only [List.length_cons, List.isEmpty_cons, beq_eq_false_iff_ne]; omega

/-- The flock can walk strip i on a day. -/
def openB (r : Roads) (f : Flock) (shut : Int) (i : Nat) (day : Int) : Bool := match r.strips[i]? with
  | some s => ((i : Int) != shut) && (barsL s f day).isEmpty
  | none => false

set_option maxHeartbeats 1000000 in
theorem open_any (w : World) (b : Nat) (r : Roads) (f : Flock) (shut : Int) (a : Option Addr) (cap : Nat) (h : WorkAt w b r f shut a cap) (i : Nat) (hi : i < r.strips.length) (day : Int) :
    Calls Try.prog 91 #[.pointer (some ⟨b, 0, none⟩), .int .i64 i, .int .i64 day] w
      fun e w' => e = .returned (.bool (openB r f shut i day)) ∧ Below w.heap.size w w' := by
  have hO : openB r f shut i day = (((i : Int) != shut) && (barsL r.strips[i] f day).isEmpty) := by simp [openB, hi]
  have HO := Lib.hid hO; clear hO
  have H := h
  obtain ⟨c0, c1, c2, c3, c4, c5, hs⟩ := h
  by_cases hs' : (i : Int) = shut
  · subst hs'
    go_enter Try.func91, Try.ntmps91
    go_wp2_with fail
    go_ret
    exact ⟨ret_bool (by rw [HO.out]; simp), Below.refl _ _⟩
  · go_enter Try.func91, Try.ntmps91
    go_wp2_with fail
    refine (bars_any w b r f shut a cap H i hi day).mono ?_
    rintro e w1 ⟨v, rfl, hown, hb⟩
    obtain ⟨a1, cap1, rfl, _, _⟩ := hown.ints
    clear hown
    go_wp2
    go_ret
    exact ⟨ret_bool (by rw [HO.out, len_zero]), hb⟩
end Go.Proofs.Ytjgkgnfhglhklaa
