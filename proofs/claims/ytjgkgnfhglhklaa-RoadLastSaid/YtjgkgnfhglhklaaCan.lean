/- The contracts of can and late. -/
import Derived.Test.YtjgkgnfhglhklaaAfter
namespace Go.Proofs.Ytjgkgnfhglhklaa
set_option linter.unusedSimpArgs false
set_option linter.unusedVariables false
open Go.RowKit

/-- The nights after k days, from the nights n at the beginning of a day on. -/
def nightsTo (r : Roads) (f : Flock) (shut : Int) (n : Nat) (day : Int) : Nat → Nat
  | 0 => n
  | k + 1 => afterN r f shut (nightsTo r f shut n day k) (day + k)
theorem nightsTo_lt {r : Roads} {f : Flock} (g : Good r f) {shut : Int} {n : Nat} {day : Int} (hn : n < 64) : ∀ k, nightsTo r f shut n day k < 64
  | 0 => hn
  | _ + 1 => afterN_lt g

def canB (r : Roads) (f : Flock) (shut : Int) (fr tt : Nat) (day by' : Int) : Bool :=
  decide (day ≤ by') && (nightsTo r f shut (0 ||| 1 <<< fr) day (by' - day + 1).toNat).testBit tt

theorem one_shl_lt {s : Nat} (h : s < 6) : (0 ||| 1 <<< s) < 64 := by
  obtain rfl | rfl | rfl | rfl | rfl | rfl : s = 0 ∨ s = 1 ∨ s = 2 ∨ s = 3 ∨ s = 4 ∨ s = 5 := by omega
  all_goals decide

set_option maxRecDepth 100000 in
set_option maxHeartbeats 4000000 in
theorem can_any (w : World) (b : Nat) (r : Roads) (f : Flock) (shut : Int) (a : Option Addr) (cap : Nat) (h : WorkAt w b r f shut a cap) (g : Good r f) (fr tt : Nat) (hf : fr < 6) (ht : tt < 6) (day by' : Int)
    (h1 : 0 ≤ day) (h2 : day ≤ 100) (h3 : 0 ≤ by') (h4 : by' ≤ 100) :
    Calls Try.prog 86 #[.pointer (some ⟨b, 0, none⟩), .int .i64 fr, .int .i64 tt, .int .i64 day, .int .i64 by'] w
      fun e w' => e = .returned (.bool (canB r f shut fr tt day by')) ∧ Below w.heap.size w w' := by
  have hof := one_shl_lt hf
  have hwith := fun w => with_any 0 fr (by omega) hf w
  go_enter Try.func86, Try.ntmps86
  go_wp2_with fail
  refine (with_any 0 fr (by omega) hf _).mono ?_
  rintro e w' ⟨rfl, rfl⟩
  clear hwith
  generalize hn0 : (0 ||| 1 <<< fr) = n0 at hof
  have Hn0 := Lib.hid hn0; clear hn0
  go_wp2_with fail
  go_loopw [11, 12] (fun v11 v12 wx => ∃ k : Nat, day + k ≤ max day (by' + 1) ∧ v11 = .int .u16 (nightsTo r f shut n0 day k) ∧ v12 = .int .i64 (day + k) ∧ Below w.heap.size w wx) (fun _ v _ => (by' + 1 - intOf v).toNat)
  case atStart => exact ⟨0, by simp; omega, rfl, by simp, Below.refl _ _⟩
  case round =>
    obtain ⟨k, hk, rfl, rfl, hb⟩ := hrel
    have hlt := nightsTo_lt (shut := shut) (day := day) g hof k
    generalize hm : nightsTo r f shut n0 day k = m at hlt
    have Hm := Lib.hid hm; clear hm
    have Hk := Lib.hid hk; clear hk
    by_cases hd : day + k ≤ by'
    · go_wp2_with fail
      refine (after_any wr b r f shut a cap (h.below hb) g m (by omega) _).mono ?_
      rintro e w2 ⟨rfl, hb2⟩
      go_wp2_with fail
      exact ⟨⟨k + 1, by have := Hk.out; omega, by rw [nightsTo, Hm.out], by rw [show (day + (k : Int) + 1) = day + ((k + 1 : Nat) : Int) by omega], hb.trans (hb2.mono hb.size)⟩, by simp [intOf]; omega⟩
    · have hk := Hk.out
      by_cases hdb : day ≤ by'
      · have hkk : k = (by' - day + 1).toNat := by omega
        go_wp2_with fail
        refine (has_any m tt (by omega) ht _).mono ?_
        rintro e w' ⟨rfl, rfl⟩
        go_wp2_with fail
        go_ret
        refine ⟨ret_bool ?_, hb⟩
        rw [canB, Hn0.out, ← hkk, Hm.out]
        simp [hdb]
      · have hdb' : decide (day ≤ by') = false := decide_eq_false hdb
        go_wp2_with fail
        go_ret
        refine ⟨ret_bool ?_, hb⟩
        rw [canB, hdb']
        simp
end Go.Proofs.Ytjgkgnfhglhklaa
