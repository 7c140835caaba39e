/- The contracts of late, comes. -/
import Derived.Test.YtjgkgnfhglhklaaRepeat
namespace Go.Proofs.Ytjgkgnfhglhklaa
set_option linter.unusedSimpArgs false
set_option linter.unusedVariables false
open Go.RowKit

def lateR (r : Roads) (f : Flock) (shut : Int) (fr tt : Nat) (by' : Int) : Nat → Int
  | 0 => -1
  | d + 1 => if canB r f shut fr tt d by' then (d : Int) else lateR r f shut fr tt by' d

set_option maxRecDepth 100000 in
set_option maxHeartbeats 4000000 in
theorem late_any (w : World) (b : Nat) (r : Roads) (f : Flock) (shut : Int) (a : Option Addr) (cap : Nat) (h : WorkAt w b r f shut a cap) (g : Good r f) (fr tt : Nat) (hf : fr < 6) (ht : tt < 6) (by' : Int)
    (h3 : 0 ≤ by') (h4 : by' ≤ 100) :
    Calls Try.prog 88 #[.pointer (some ⟨b, 0, none⟩), .int .i64 fr, .int .i64 tt, .int .i64 by'] w
      fun e w' => e = .returned (.int .i64 (lateR r f shut fr tt by' (by' + 1).toNat)) ∧ Below w.heap.size w w' := by
  go_enter Try.func88, Try.ntmps88
  go_wp2_with fail
  go_loopw [9] (fun v9 wx => ∃ d : Int, -1 ≤ d ∧ d ≤ by' ∧ v9 = .int .i64 d ∧ lateR r f shut fr tt by' (d + 1).toNat = lateR r f shut fr tt by' (by' + 1).toNat ∧ Below w.heap.size w wx) (fun v _ => (intOf v + 1).toNat)
  case atStart => exact ⟨by', by omega, by omega, rfl, rfl, Below.refl _ _⟩
  case round =>
    obtain ⟨d, hd1, hd2, rfl, hE, hb⟩ := hrel
    have HE := Lib.hid hE; clear hE
    by_cases hd : 0 ≤ d
    · obtain ⟨k, hk⟩ := Int.eq_ofNat_of_zero_le hd
      have hstep : lateR r f shut fr tt by' (d + 1).toNat = if canB r f shut fr tt d by' then d else lateR r f shut fr tt by' d.toNat := by
        subst hk; rw [show ((k : Int) + 1).toNat = k + 1 by omega]; rfl
      have Hs := Lib.hid hstep; clear hstep hk
      go_wp2_with fail
      refine (can_any wr b r f shut a cap (h.below hb) g fr tt hf ht d by' hd (by omega) h3 h4).mono ?_
      rintro e w2 ⟨rfl, hb2⟩
      cases hc : canB r f shut fr tt d by'
      · have Hc := Lib.hid hc; clear hc
        go_wp2_with fail
        refine ⟨⟨d - 1, by omega, by omega, rfl, ?_, hb.trans (hb2.mono hb.size)⟩, by simp [intOf]; omega⟩
        rw [← HE.out, Hs.out, Hc.out]
        simp
      · have Hc := Lib.hid hc; clear hc
        go_wp2_with fail
        go_ret
        refine ⟨ret_int ?_, hb.trans (hb2.mono hb.size)⟩
        rw [← HE.out, Hs.out, Hc.out]
        simp
    · go_wp2_with fail
      go_ret
      refine ⟨ret_int ?_, hb⟩
      rw [← HE.out, show (d + 1).toNat = 0 by omega]
      rfl
end Go.Proofs.Ytjgkgnfhglhklaa
