/- The walk of RoadLast. -/
import Derived.Test.YtjgkgnfhglhklaaDeal
import Derived.Deep.CutBlock
namespace Go.Proofs.Ytjgkgnfhglhklaa
set_option linter.unusedSimpArgs false
set_option linter.unusedVariables false
open Go.RowKit

set_option maxRecDepth 100000 in
set_option maxHeartbeats 4000000 in
theorem Last_any (w : World) (a : Option Addr) (n c : Nat) (l : List Int) (hl : IntsAt w a l) (hn : l.length = n) (hm : n ≤ maxLen) (ha : l = [] ∨ ∀ ad, a = some ad → ad.block < w.heap.size) :
    Calls Try.prog 9 #[.slice a n c] w fun e w' => e = .returned (.bool true) ∧ Below w.heap.size w w' := by
  have HL := Lib.hid hl; clear hl
  have HA := Lib.hid ha; clear ha
  have HN := Lib.hid hn; clear hn
  go_enter Try.func9, Try.ntmps9
  go_wp2_with fail
  refine (NewHand_any w a n c l HL.out HN.out hm HA.out).mono ?_
  rintro e w1 ⟨rfl, hh1, hb1, hs1⟩
  clear HL HA HN
  have H1 := Lib.hid hh1; clear hh1
  have B1 := Lib.hid hb1; clear hb1
  go_wp2_with fail
  refine (RoadsOf_any w1 w.heap.size 0 a n c H1.out (by omega)).mono ?_
  rintro e w2 ⟨r, v, hr, hown, rfl, hh2, hE2⟩
  obtain ⟨va, vc, rfl⟩ := hown.form
  have HR := Lib.hid hr; clear hr
  have HO := Lib.hid hown; clear hown
  have H2 := Lib.hid hh2; clear hh2 H1
  have E2 := Lib.hid hE2; clear hE2
  go_wp2_with fail
  refine (FlockOf_any w2 w.heap.size (0 + 200) a n c H2.out (by omega)).mono ?_
  rintro e w3 ⟨_, ⟨f, hf, rfl⟩, rfl, hh3, hE3⟩
  have HF := Lib.hid hf; clear hf
  obtain ⟨hRF, hh4, hlt3, hva⟩ := RF.laid (f := f) B1.out hs1 HO.out E2.out hE3 hh3
  have hK : HRF w _ w.heap.size 206 w3.heap.size (w3.heap.size + 1) r f va vc a n c := ⟨hRF, hh4, by omega, by omega, hva, Nat.le_refl _⟩
  have HK := Lib.hid hK
  clear hRF hh4 hva hK hh3 hE3 E2 H2 HO B1
  obtain ⟨s1, s2, d1, d2⟩ : 1 ≤ r.stages ∧ r.stages ≤ 6 ∧ 1 ≤ r.days ∧ r.days ≤ 10 := ⟨HR.out.s1, HR.out.s2, HR.out.d1, HR.out.d2⟩
  have G := Lib.hid (HR.out.good HF.out); clear HR HF
  go_wp2_with fail
  generalize hw4 : ((w3.alloc (.cells #[.int .i64 r.days, .int .i64 r.stages, .slice va r.strips.length vc] 24)).alloc (.cells #[.int .i64 f.heads, .int .i64 f.pace] 26)) = w4 at HK ⊢
  generalize hp : w3.heap.size = p at HK ⊢
  clear hlt3 hp hw4
  have hd := HK.out.drew
  have c0 := hd.rf.c0
  have c1 := hd.rf.c1
  have K1 := Lib.hid hd; clear hd HK
  have q1 : IntKind.i64.wrap (r.stages - 1) = r.stages - 1 := IntWalk.i64_in _ (by omega)
  have q2 : IntKind.i64.wrap (r.days - 1) = r.days - 1 := IntWalk.i64_in _ (by omega)
  go_cut [6, 7, 8] (fun v6 v7 v8 wx => ∃ x y z : Nat, v6 = .int .i64 (x : Int) ∧ v7 = .int .i64 (y : Int) ∧ v8 = .int .i64 (z : Int) ∧ (x : Int) < r.stages ∧ (y : Int) < r.stages ∧ (z : Int) < r.days ∧ RF w wx p (p + 1) r f va vc)
  case first =>
    go_region_with (first
      | (go_at_call 34; refine (K3.out.upto (by omega) (r.days - 1) (by omega) (by omega)).mono ?_; rintro e w7 ⟨z, z1, rfl, hk⟩; have K4 := Lib.hid hk; have m0 := hk.rf.c0; have m1 := hk.rf.c1; clear hk)
      | (go_at_call 34; refine (K2.out.upto (by omega) (r.stages - 1) (by omega) (by omega)).mono ?_; rintro e w6 ⟨y, y1, rfl, hk⟩; have K3 := Lib.hid hk; have l0 := hk.rf.c0; have l1 := hk.rf.c1; clear hk)
      | (go_at_call 34; refine (K1.out.upto (by omega) (r.stages - 1) (by omega) (by omega)).mono ?_; rintro e w5 ⟨x, x1, rfl, hk⟩; have K2 := Lib.hid hk; have k0 := hk.rf.c0; have k1 := hk.rf.c1; clear hk))
    all_goals (go_wp2_with fail; go_meet; exact ⟨x, y, z, rfl, rfl, rfl, by omega, by omega, by omega, K4.out.rf⟩)
  case rest =>
    obtain ⟨x, y, z, rfl, rfl, rfl, hx, hy, hz, hrf⟩ := hcut
    clear c0 c1 K1 q1 q2
    obtain ⟨S, hS⟩ := Int.eq_ofNat_of_zero_le (a := r.stages) (by omega)
    have hxS : x < S := by omega
    have hyS : y < S := by omega
    have HS := Lib.hid hS; clear hS hx hy s1 s2
    have c0 := hrf.c0
    have c1 := hrf.c1
    have c2 := hrf.c2
    have e0 := hrf.d0
    have e1 := hrf.d1
    have HRF := Lib.hid hrf; clear hrf
    go_wp2_with fail
    refine (Late_good wc G.out va vc S HS.out HRF.out.strips x y z hxS hyS hz).mono ?_
    have hLr := late_range (r := r) (f := f) (fr := x) (tt := y) (b := z)
    generalize hLe : lateD r f x y (z : Int) = L at hLr ⊢
    have HLe := Lib.hid hLe; clear hLe
    obtain ⟨hL1, hL2⟩ := hLr
    rintro e w8 ⟨hb8, ⟨hL, rfl⟩ | ⟨hL, rfl⟩⟩
    all_goals
      have HRF8 := Lib.hid (HRF.out.below hb8)
      clear c0 c1 c2 e0 e1 hb8 HRF
      go_wp2_with fail
      go_loopw [11] (fun v11 wx => ∃ d : Nat, d ≤ z + 1 ∧ v11 = .int .i64 (d : Int) ∧ RF w wx p (p + 1) r f va vc) (fun v _ => z + 1 - (intOf v).toNat)
      case atStart => exact ⟨0, by omega, rfl, HRF8.out⟩
      case round =>
        clear HRF8
        obtain ⟨d, hd, rfl, hrf⟩ := hrel
        have c0 := hrf.c0
        have c1 := hrf.c1
        have c2 := hrf.c2
        have e0 := hrf.d0
        have e1 := hrf.d1
        have HRF := Lib.hid hrf; clear hrf
        by_cases hdz : d ≤ z
        · have q3 : (d : Int) ≤ (z : Int) := by omega
          go_wp2_with fail
          refine (in_last wr G.out va vc S HS.out HRF.out.strips x y d z hxS hyS hdz hz).mono ?_
          rintro e w9 ⟨rfl, hb9⟩
          rw [HLe.out]
          have HRF9 := Lib.hid (HRF.out.below hb9)
          clear c0 c1 c2 e0 e1 hb9 HRF
          by_cases hdl : (d : Int) ≤ L
          · first
              | omega
              | (rw [decide_eq_true hdl]
                 go_wp2_with fail
                 exact ⟨⟨d + 1, by omega, by go_num, HRF9.out⟩, by simp [intOf]; omega⟩)
          · rw [decide_eq_false hdl]
            go_wp2_with fail
            exact ⟨⟨d + 1, by omega, by go_num, HRF9.out⟩, by simp [intOf]; omega⟩
        · have q3 : ¬ (d : Int) ≤ (z : Int) := by omega
          go_wp2_with fail
          refine (afoot_any wr).mono ?_
          rintro e w9 ⟨rfl, hb9⟩
          have hbF := HRF.out.bel.trans (hb9.mono HRF.out.bel.size)
          clear HRF c0 c1 c2 e0 e1 hb9
          go_wp2_with fail
          go_ret
          exact ⟨rfl, hbF⟩
end Go.Proofs.Ytjgkgnfhglhklaa
