/- The walk of RoadStays. -/
import Derived.Test.YtjgkgnfhglhklaaDeal
import Derived.Test.YtjgkgnfhglhklaaReady
import Derived.Deep.CutBlock
import Derived.Deep.RegionHeld3
namespace Go.Proofs.Ytjgkgnfhglhklaa
set_option linter.unusedSimpArgs false
set_option linter.unusedVariables false
open Go.RowKit

/-- The greatest stay of a flock that comes before day a. -/
def stayTo (A L a : Int) : Int := if 0 ≤ A ∧ A < a then max 0 (L - A) else 0
theorem stayTo_range {A L a D : Int} (hA : A < D) (hL : L < D) (hD : 0 ≤ D) : 0 ≤ stayTo A L a ∧ stayTo A L a ≤ D := by unfold stayTo; split <;> omega
theorem stayTo_start {A L a : Int} : max (stayTo A L a) (min L a - a) = stayTo A L a := by unfold stayTo; split <;> omega
theorem stayTo_next {A L a b B : Int} (h0 : 0 ≤ A) (hA : A ≤ a) (hb : b = max (a + 1) (B + 1)) (hL : L ≤ B) : max (stayTo A L a) (min L (b - 1) - a) = stayTo A L (a + 1) := by unfold stayTo; split <;> split <;> omega
theorem stayTo_same {A L a : Int} (h : ¬ (0 ≤ A ∧ A ≤ a)) : stayTo A L a = stayTo A L (a + 1) := by unfold stayTo; split <;> split <;> omega

set_option maxRecDepth 100000 in
set_option maxHeartbeats 4000000 in
theorem Stays_any (w : World) (a : Option Addr) (n c : Nat) (l : List Int) (hl : IntsAt w a l) (hn : l.length = n) (hm : n ≤ maxLen) (ha : l = [] ∨ ∀ ad, a = some ad → ad.block < w.heap.size) :
    Calls Try.prog 6 #[.slice a n c] w fun e w' => e = .returned (.bool true) ∧ Below w.heap.size w w' := by
  have HL := Lib.hid hl; clear hl
  have HA := Lib.hid ha; clear ha
  have HN := Lib.hid hn; clear hn
  go_enter Try.func6, Try.ntmps6
  go_wp2_with fail
  refine (NewHand_any w a n c l HL.out HN.out hm HA.out).mono ?_
  rintro e w1 ⟨rfl, hh1, hb1, hs1⟩
  clear HL HA HN
  have H1 := Lib.hid hh1; clear hh1
  have B1 := Lib.hid hb1; clear hb1
  go_wp2_with fail
  refine (RoadsOf_all w1 w.heap.size 0 a n c H1.out (by omega) 5 7 8 (by omega) (by omega) (by omega) (by omega) (by omega) (by omega)).mono ?_
  rintro e w2 ⟨r, v, hr, hown, rfl, hh2, hE2⟩
  obtain ⟨va, vc, rfl⟩ := hown.form
  have HR := Lib.hid hr; clear hr
  have HO := Lib.hid hown; clear hown
  have H2 := Lib.hid hh2; clear hh2 H1
  have E2 := Lib.hid hE2; clear hE2
  go_wp2_with fail
  refine (FlockOf_any w2 w.heap.size (0 + 200) a n c H2.out (by omega)).mono ?_
  rintro e w3 ⟨_, ⟨f, hf, rfl⟩, rfl, hh3, hE3⟩
  have HF := Lib.hid hf; clear hf
  obtain ⟨hRF, hh4, hlt3, hva⟩ := RF.laid (f := f) B1.out hs1 HO.out E2.out hE3 hh3
  have hK : HRF w _ w.heap.size 206 w3.heap.size (w3.heap.size + 1) r f va vc a n c := ⟨hRF, hh4, by omega, by omega, hva, Nat.le_refl _⟩
  have HK := Lib.hid hK
  clear hRF hh4 hva hK hh3 hE3 E2 H2 HO B1
  obtain ⟨s1, s2, d1, d2⟩ : 1 ≤ r.stages ∧ r.stages ≤ 6 ∧ 1 ≤ r.days ∧ r.days ≤ 10 := ⟨HR.out.s1, HR.out.s2, HR.out.d1, HR.out.d2⟩
  have G := Lib.hid (HR.out.good HF.out); clear HR HF
  go_wp2_with fail
  generalize hw4 : ((w3.alloc (.cells #[.int .i64 r.days, .int .i64 r.stages, .slice va r.strips.length vc] 24)).alloc (.cells #[.int .i64 f.heads, .int .i64 f.pace] 26)) = w4 at HK ⊢
  generalize hp : w3.heap.size = p at HK ⊢
  clear hlt3 hp hw4
  have hd := HK.out.drew
  have c0 := hd.rf.c0
  have c1 := hd.rf.c1
  have K1 := Lib.hid hd; clear hd HK
  have q1 : IntKind.i64.wrap (r.stages - 1) = r.stages - 1 := IntWalk.i64_in _ (by omega)
  have q2 : IntKind.i64.wrap (r.days - 1) = r.days - 1 := IntWalk.i64_in _ (by omega)
  go_cut [6, 7, 8] (fun v6 v7 v8 wx => ∃ x y z : Nat, v6 = .int .i64 (x : Int) ∧ v7 = .int .i64 (y : Int) ∧ v8 = .int .i64 (z : Int) ∧ (x : Int) < r.stages ∧ (y : Int) < r.stages ∧ (z : Int) < r.days ∧ HRF w wx w.heap.size (206 + 1 + 1 + 1) p (p + 1) r f va vc a n c)
  case first =>
    go_region_held3 (fun w' => w'.cell? ⟨p, 1, none⟩ = some (.int .i64 r.stages) ∧ w'.cell? ⟨p, 0, none⟩ = some (.int .i64 r.days)) (first | exact ⟨m1, m0⟩ | exact ⟨l1, l0⟩ | exact ⟨k1, k0⟩ | exact ⟨c1, c0⟩) (first
      | (go_at_call 34; refine (K3.out.upto (by omega) (r.days - 1) (by omega) (by omega)).mono ?_; rintro e w7 ⟨z, z1, rfl, hk⟩; have K4 := Lib.hid hk; have m0 := hk.rf.c0; have m1 := hk.rf.c1; clear hk)
      | (go_at_call 34; refine (K2.out.upto (by omega) (r.stages - 1) (by omega) (by omega)).mono ?_; rintro e w6 ⟨y, y1, rfl, hk⟩; have K3 := Lib.hid hk; have l0 := hk.rf.c0; have l1 := hk.rf.c1; clear hk)
      | (go_at_call 34; refine (K1.out.upto (by omega) (r.stages - 1) (by omega) (by omega)).mono ?_; rintro e w5 ⟨x, x1, rfl, hk⟩; have K2 := Lib.hid hk; have k0 := hk.rf.c0; have k1 := hk.rf.c1; clear hk))
    all_goals (go_wp2_with fail; go_meet; exact ⟨x, y, z, rfl, rfl, rfl, by omega, by omega, by omega, K4.out⟩)
  case rest =>
    obtain ⟨x, y, z, rfl, rfl, rfl, hx, hy, hz, hk⟩ := hcut
    clear c0 c1 K1 q1
    obtain ⟨S, hS⟩ := Int.eq_ofNat_of_zero_le (a := r.stages) (by omega)
    have hxS : x < S := by omega
    have hyS : y < S := by omega
    have hAr := stayA_range (f := f) (fr := x) hz hy
    have HS := Lib.hid hS; clear hS hx hy s1 s2
    have c0 := hk.rf.c0
    have c1 := hk.rf.c1
    have HK := Lib.hid hk; clear hk
    have w2' : wrap64 (r.days - 1) = r.days - 1 := by unfold wrap64; omega
    go_wp2_with fail
    try rw [w2']
    refine (HK.out.among (by omega) z (r.days - 1) (by omega) (by omega)).mono ?_
    rintro e w7 ⟨b, hb1, hb2, rfl, hk⟩
    clear c0 c1 HK q2 w2'
    have hbd : (b : Int) < r.days := by omega
    have hrf := hk.rf
    clear hk
    have c0 := hrf.c0
    have c1 := hrf.c1
    have c2 := hrf.c2
    have e0 := hrf.d0
    have e1 := hrf.d1
    have HRF := Lib.hid hrf; clear hrf
    go_wp2_with fail
    refine (Stay_good w7 G.out va vc S HS.out HRF.out.strips x y z b hxS hyS hz hbd).mono ?_
    have hLr := late_range (r := r) (f := f) (fr := y) (tt := x) (b := b)
    generalize hLe : lateD r f y x (b : Int) = L at hLr ⊢
    generalize hAe : stayA r f x y (z : Int) = A at hAr ⊢
    have HLe := Lib.hid hLe; clear hLe
    have HAe := Lib.hid hAe; clear hAe
    obtain ⟨hL1, hL2⟩ := hLr
    obtain ⟨hA1, hA2, hA3⟩ := hAr
    rintro e w8 ⟨hb8, ⟨hN, rfl⟩ | ⟨hN, rfl⟩⟩
    all_goals
      have HRF8 := Lib.hid (HRF.out.below hb8)
      have HN := Lib.hid hN
      try (have k1 : 0 ≤ A := by omega)
      try (have k2 : A < L := by omega)
      clear hN
      clear c0 c1 c2 e0 e1 hb8 HRF
      have c0 := HRF8.out.c0
      have hz0 : stayTo A L (z : Int) = 0 := by unfold stayTo; split <;> omega
      have HZ := Lib.hid hz0; clear hz0
      have HA3 := Lib.hid hA3
      clear hA3
      go_wp2_with fail
      go_loopw [12, 13] (fun v12 v13 wx => ∃ i : Nat, z ≤ i ∧ (i : Int) ≤ r.days ∧ v13 = .int .i64 (i : Int) ∧ v12 = .int .i64 (stayTo A L (i : Int)) ∧ RF w wx p (p + 1) r f va vc) (fun _ v _ => r.days.toNat - (intOf v).toNat)
      case atStart => exact ⟨z, Nat.le_refl _, by omega, rfl, by rw [HZ.out], HRF8.out⟩
      case round =>
        clear HRF8 c0
        obtain ⟨i, hi1, hi2, rfl, rfl, hrf⟩ := hrel
        have c0 := hrf.c0
        have c1 := hrf.c1
        have c2 := hrf.c2
        have e0 := hrf.d0
        have e1 := hrf.d1
        have HRF := Lib.hid hrf; clear hrf
        obtain ⟨m1, m2⟩ := stayTo_range (A := A) (L := L) (a := (i : Int)) (D := r.days) hA2 (by omega) (by omega)
        by_cases hlt : (i : Int) < r.days
        · have hst := stayTo_start (A := A) (L := L) (a := (i : Int))
          have hsame := stayTo_same (A := A) (L := L) (a := (i : Int))
          have hnext := fun (B b : Int) (h0 : 0 ≤ A) (h1 : A ≤ (i : Int)) => stayTo_next (A := A) (L := L) (a := (i : Int)) (b := b) (B := B) h0 h1
          generalize stayTo A L (i : Int) = m at m1 m2 hst hsame hnext ⊢
          have HST := Lib.hid hst; clear hst
          have HSM := Lib.hid hsame; clear hsame
          have HNX := Lib.hid hnext; clear hnext
          go_wp2_with fail
          refine (in_good wr G.out va vc S HS.out HRF.out.strips x y z i hxS hyS hz).mono ?_
          rintro e w9 ⟨rfl, hb9⟩
          rw [HAe.out]
          have HRF9 := Lib.hid (HRF.out.below hb9)
          clear c0 c1 c2 e0 e1 hb9 HRF
          by_cases hcan : 0 ≤ A ∧ A ≤ (i : Int)
          · have hdc : (decide (0 ≤ A) && decide (A ≤ (i : Int))) = true := by simp [hcan.1, hcan.2]
            rw [hdc]
            clear hdc
            obtain ⟨n1, n2⟩ := hcan
            go_wp2_with fail
            go_loopw [12, 16] (fun v12 v16 wx => ∃ j : Nat, i + 1 ≤ j ∧ (j = i + 1 ∨ j ≤ b + 1) ∧ v16 = .int .i64 (j : Int) ∧ v12 = .int .i64 (max m (min L ((j : Int) - 1) - (i : Int))) ∧ RF w wx p (p + 1) r f va vc) (fun _ v _ => b + 1 - (intOf v).toNat)
            case atStart => exact ⟨i + 1, Nat.le_refl _, .inl rfl, by go_num, by rw [show ((i + 1 : Nat) : Int) - 1 = (i : Int) by omega, HST.out], HRF9.out⟩
            case round =>
              obtain ⟨j, hj1, hj2, rfl, rfl, hrf⟩ := hrel
              have c0 := hrf.c0
              have c1 := hrf.c1
              have c2 := hrf.c2
              have e0 := hrf.d0
              have e1 := hrf.d1
              have HRF := Lib.hid hrf; clear hrf
              have o1 : 0 ≤ max m (min L ((j : Int) - 1) - (i : Int)) := by omega
              have o2 : max m (min L ((j : Int) - 1) - (i : Int)) ≤ 10 := by omega
              generalize hM2 : max m (min L ((j : Int) - 1) - (i : Int)) = M at o1 o2 ⊢
              have HM2 := Lib.hid hM2; clear hM2
              have HJ := Lib.hid hj2; clear hj2
              by_cases hjb : (j : Int) ≤ (b : Int)
              · go_wp2_with fail
                refine (in_last wr G.out va vc S HS.out HRF.out.strips y x j b hyS hxS (by omega) hbd).mono ?_
                rintro e w10 ⟨rfl, hb10⟩
                rw [HLe.out]
                have HRF10 := Lib.hid (HRF.out.below hb10)
                clear c0 c1 c2 e0 e1 hb10 HRF
                by_cases hjl : (j : Int) ≤ L
                · rw [decide_eq_true hjl]
                  go_wp2_with fail
                  exact ⟨⟨j + 1, by omega, .inr (by omega), by go_num, congrArg (Value.int .i64) (by have := HM2.out; first | omega | (split <;> omega)), HRF10.out⟩, by simp [intOf]; omega⟩
                · rw [decide_eq_false hjl]
                  go_wp2_with fail
                  exact ⟨⟨j + 1, by omega, .inr (by omega), by go_num, congrArg (Value.int .i64) (by have := HM2.out; omega), HRF10.out⟩, by simp [intOf]; omega⟩
              · go_wp2_with fail
                have hj2 := HJ.out
                exact ⟨⟨i + 1, by omega, by omega, by go_num, congrArg (Value.int .i64) (by rw [← HM2.out, HNX.out (b : Int) (j : Int) n1 n2 (by omega) hL2]; rfl), HRF.out⟩, by simp [intOf]; omega⟩
          · have hdc : (decide (0 ≤ A) && decide (A ≤ (i : Int))) = false := by
              rw [Bool.and_eq_false_iff]
              by_cases h0 : 0 ≤ A
              · exact .inr (decide_eq_false fun h => hcan ⟨h0, h⟩)
              · exact .inl (decide_eq_false h0)
            rw [hdc]
            have HC := Lib.hid hcan; clear hcan hdc
            go_wp2_with fail
            go_loopw [12, 16] (fun v12 v16 wx => v12 = .int .i64 m ∧ v16 = .int .i64 ((i : Int) + 1) ∧ RF w wx p (p + 1) r f va vc) (fun _ _ _ => 0)
            case atStart => exact ⟨rfl, rfl, HRF9.out⟩
            case round =>
              obtain ⟨rfl, rfl, hrf⟩ := hrel
              have HRF := Lib.hid hrf; clear hrf
              go_wp2_with fail
              all_goals exact ⟨⟨i + 1, by omega, by omega, by go_num, congrArg (Value.int .i64) (HSM.out HC.out), HRF.out⟩, by simp [intOf]; omega⟩
        · have hm : stayTo A L (i : Int) = if A < 0 ∨ L ≤ A then 0 else L - A := by unfold stayTo; split <;> split <;> omega
          first | rw [if_pos HN.out] at hm | rw [if_neg HN.out] at hm
          rw [hm]
          clear hm m1 m2
          go_wp2_with fail
          refine (afoot_any wr).mono ?_
          rintro e w9 ⟨rfl, hb9⟩
          have hbF := HRF.out.bel.trans (hb9.mono HRF.out.bel.size)
          clear HRF c0 c1 c2 e0 e1 hb9
          go_wp2_with fail
          go_ret
          exact ⟨rfl, hbF⟩
end Go.Proofs.Ytjgkgnfhglhklaa
