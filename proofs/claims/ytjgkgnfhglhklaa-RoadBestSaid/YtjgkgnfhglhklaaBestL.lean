/- The walk of RoadBest. -/
import Derived.Test.YtjgkgnfhglhklaaFirst
import Derived.Test.YtjgkgnfhglhklaaDeal
import Derived.Test.YtjgkgnfhglhklaaPlayW
import Derived.Deep.CutBlock
import Derived.Deep.RegionHeld3
namespace Go.Proofs.Ytjgkgnfhglhklaa
set_option linter.unusedSimpArgs false
set_option linter.unusedVariables false
open Go.RowKit

theorem planF_le {r : Roads} {f : Flock} (g : Good r f) {tt last : Int} : ∀ (k : Nat) (d : Int) (p : Int × Int) (left : Int), (planF r f (-1) (togoV r f (-1) tt last) k d p left).length ≤ left.toNat
  | 0, _, _, _ => Nat.zero_le _
  | k + 1, d, p, left => by
    rw [planF]
    split
    · split
      · rename_i i q h
        obtain ⟨h1, h2, _⟩ := pick_spec h
        obtain ⟨u1, _⟩ := stepOk_up g h1
        have h3 := (togoV_range g (shut := -1) (tt := tt) (last := last) (d := d) (p := q)).1
        have := planF_le g (tt := tt) (last := last) k d q (left - (q.2 - p.2))
        rw [List.length_cons]; omega
      · exact planF_le g k (d + 1) (p.1, 0) left
    · simp
theorem SameStrides_eqB (w : World) (a b : Option Addr) (ca cb : Nat) (l : List (Int × Int)) (hl : StridesAt w a l) (hm : StridesAt w b l) (hb : l.length ≤ maxLen) :
    Calls Try.prog 30 #[.slice a l.length ca, .slice b l.length cb] w fun e w' => e = .returned (.bool true) ∧ Below w.heap.size w w' :=
  (SameStrides_any w a b ca cb l l hl hm hb hb).mono fun e w' h => by
    obtain ⟨rfl, n, rfl⟩ := h
    exact ⟨by simp, below_drewN (Below.refl _ _) n⟩

set_option maxRecDepth 100000 in
set_option maxHeartbeats 20000000 in
theorem BestL_any (w : World) (a : Option Addr) (n c : Nat) (l : List Int) (hl : IntsAt w a l) (hn : l.length = n) (hm : n ≤ maxLen) (ha : l = [] ∨ ∀ ad, a = some ad → ad.block < w.heap.size) :
    Calls Try.prog 20 #[.slice a n c] w fun e w' => e = .returned (.bool true) ∧ Below w.heap.size w w' := by
  have HL := Lib.hid hl; clear hl
  have HA := Lib.hid ha; clear ha
  have HN := Lib.hid hn; clear hn
  go_enter Try.func20, Try.ntmps20
  go_wp2_with fail
  refine (NewHand_any w a n c l HL.out HN.out hm HA.out).mono ?_
  rintro e w1 ⟨rfl, hh1, hb1, hs1⟩
  clear HL HA HN
  have H1 := Lib.hid hh1; clear hh1
  have B1 := Lib.hid hb1; clear hb1
  go_wp2_with fail
  refine (RoadsOf_all w1 w.heap.size 0 a n c H1.out (by omega) 5 6 6 (by omega) (by omega) (by omega) (by omega) (by omega) (by omega)).mono ?_
  rintro e w2 ⟨r, v, hr, hown, rfl, hh2, hE2⟩
  obtain ⟨va, vc, rfl⟩ := hown.form
  have hvc := hown.cap
  have HR := Lib.hid hr; clear hr
  have HO := Lib.hid hown; clear hown
  have H2 := Lib.hid hh2; clear hh2 H1
  have E2 := Lib.hid hE2; clear hE2
  go_wp2_with fail
  refine (FlockOf_any w2 w.heap.size (0 + 200) a n c H2.out (by omega)).mono ?_
  rintro e w3 ⟨_, ⟨f, hf, rfl⟩, rfl, hh3, hE3⟩
  have HF := Lib.hid hf; clear hf
  obtain ⟨hRF, hh4, hlt3, hva⟩ := RF.laid (f := f) B1.out hs1 HO.out E2.out hE3 hh3
  have hK : HRF w _ w.heap.size 206 w3.heap.size (w3.heap.size + 1) r f va vc a n c := ⟨hRF, hh4, by omega, by omega, hva, Nat.le_refl _⟩
  have HK := Lib.hid hK
  clear hRF hh4 hva hK hh3 hE3 E2 H2 HO B1
  obtain ⟨s1, s2, d1, d2⟩ : 1 ≤ r.stages ∧ r.stages ≤ 6 ∧ 1 ≤ r.days ∧ r.days ≤ 10 := ⟨HR.out.s1, HR.out.s2, HR.out.d1, HR.out.d2⟩
  have G := Lib.hid (HR.out.good HF.out); clear HR HF
  go_wp2_with fail
  generalize hw4 : ((w3.alloc (.cells #[.int .i64 r.days, .int .i64 r.stages, .slice va r.strips.length vc] 24)).alloc (.cells #[.int .i64 f.heads, .int .i64 f.pace] 26)) = w4 at HK ⊢
  generalize hp : w3.heap.size = p at HK ⊢
  clear hlt3 hp hw4
  have hd := HK.out.drew
  have c0 := hd.rf.c0
  have c1 := hd.rf.c1
  have K1 := Lib.hid hd; clear hd HK
  have q1 : IntKind.i64.wrap (r.stages - 1) = r.stages - 1 := IntWalk.i64_in _ (by omega)
  have q2 : IntKind.i64.wrap (r.days - 1) = r.days - 1 := IntWalk.i64_in _ (by omega)
  go_cut [6, 7, 8] (fun v6 v7 v8 wx => ∃ x y z : Nat, v6 = .int .i64 (x : Int) ∧ v7 = .int .i64 (y : Int) ∧ v8 = .int .i64 (z : Int) ∧ (x : Int) < r.stages ∧ (y : Int) < r.stages ∧ (z : Int) < r.days ∧ HRF w wx w.heap.size (206 + 1 + 1 + 1) p (p + 1) r f va vc a n c)
  case first =>
    go_region_held3 (fun w' => w'.cell? ⟨p, 1, none⟩ = some (.int .i64 r.stages) ∧ w'.cell? ⟨p, 0, none⟩ = some (.int .i64 r.days)) (first | exact ⟨m21, m20⟩ | exact ⟨m11, m10⟩ | exact ⟨m01, m00⟩ | exact ⟨c1, c0⟩) (first
      | (go_at_call 34; refine (K3.out.upto (by omega) (r.days - 1) (by omega) (by omega)).mono ?_; rintro e w7 ⟨z, z1, rfl, hk⟩; have K4 := Lib.hid hk; have m20 := hk.rf.c0; have m21 := hk.rf.c1; clear hk)
      | (go_at_call 34; refine (K2.out.upto (by omega) (r.stages - 1) (by omega) (by omega)).mono ?_; rintro e w6 ⟨y, y1, rfl, hk⟩; have K3 := Lib.hid hk; have m10 := hk.rf.c0; have m11 := hk.rf.c1; clear hk)
      | (go_at_call 34; refine (K1.out.upto (by omega) (r.stages - 1) (by omega) (by omega)).mono ?_; rintro e w5 ⟨x, x1, rfl, hk⟩; have K2 := Lib.hid hk; have m00 := hk.rf.c0; have m01 := hk.rf.c1; clear hk))
    all_goals (go_wp2_with fail; go_meet; exact ⟨x, y, z, rfl, rfl, rfl, by omega, by omega, by omega, K4.out⟩)
  case rest =>
    obtain ⟨x, y, z, rfl, rfl, rfl, hx, hy, hz, hk⟩ := hcut
    clear c0 c1 K1 q1
    obtain ⟨S, hS⟩ := Int.eq_ofNat_of_zero_le (a := r.stages) (by omega)
    have hxS : x < S := by omega
    have hyS : y < S := by omega
    have hS6 : S ≤ 6 := by omega
    have HS := Lib.hid hS; clear hS hx hy s1 s2
    have hrf := hk.rf
    clear hk q2
    have c0 := hrf.c0
    have c1 := hrf.c1
    have c2 := hrf.c2
    have e0 := hrf.d0
    have e1 := hrf.d1
    have HRF := Lib.hid hrf; clear hrf
    obtain ⟨D, hD⟩ := Int.eq_ofNat_of_zero_le (a := r.days) (by omega)
    have hl8 := G.out.n8
    have hD10 : D ≤ 10 := by have := G.out.d2; omega
    have HD := Lib.hid hD; clear hD
    go_wp2_with fail
    have hT := table_any wc G.out va vc D HD.out HRF.out.strips
    rw [← HD.out] at hT
    refine hT.mono ?_
    clear hT
    rintro e wT ⟨GT, gbT, rfl, hgT, hbT⟩
    have HRFT := Lib.hid (HRF.out.below hbT)
    have HGT := Lib.hid hgT; clear hgT
    clear c0 c1 c2 e0 e1 hbT HRF
    have c0 := HRFT.out.c0
    have c1 := HRFT.out.c1
    have c2 := HRFT.out.c2
    have e0 := HRFT.out.d0
    have e1 := HRFT.out.d1
    go_wp2_with fail
    refine (Comes_good wT G.out va vc S HS.out HRFT.out.strips x z hxS hz).mono ?_
    rintro e w8 ⟨gl, lc, rfl, hdays, hb8⟩
    have HRF8 := Lib.hid (HRFT.out.below hb8)
    have HG8 := Lib.hid (HGT.out.below hb8)
    have HL8 := Lib.hid hdays; clear hdays
    clear c0 c1 c2 e0 e1 hb8 HRFT HGT
    have c0 := HRF8.out.c0
    have c1 := HRF8.out.c1
    have c2 := HRF8.out.c2
    have e0 := HRF8.out.d0
    have e1 := HRF8.out.d1
    have hzD : z < D := by have := HD.out; omega
    have hrd := ready6 G.out (x := (x : Int)) (y := (y : Int)) (z := (z : Int)) (by omega) (by rw [HS.out]; omega) (by omega) (by rw [HS.out]; omega) (by omega) hz
    have HRD := Lib.hid hrd; clear hrd
    have HX := Lib.hid (show (x : Int) < r.stages by rw [HS.out]; omega)
    have HY := Lib.hid (show (y : Int) < r.stages by rw [HS.out]; omega)
    obtain ⟨P, hP⟩ := Int.eq_ofNat_of_zero_le (a := f.pace) (by have := G.out.p1; omega)
    have hP9 : P ≤ 9 := by have := G.out.p2; omega
    have HPP := Lib.hid hP; clear hP
    obtain ⟨N, hN⟩ : ∃ N, r.strips.length = N := ⟨_, rfl⟩
    have hN8 : N ≤ 8 := by omega
    have HN := Lib.hid hN; clear hN
    have hyl : y < (comesL r f (-1) x (z : Int)).length := by rw [comesL_len, HS.out]; exact hyS
    obtain ⟨C, hC⟩ : ∃ C, (comesL r f (-1) x (z : Int)).getD y 0 = C := ⟨_, rfl⟩
    have HYC := Lib.hid (fun (W : World) (h : Days W gl (comesL r f (-1) x (z : Int))) => show W.cell? ⟨gl, y, none⟩ = some (.int .i64 C) from by
      have h1 := h y hyl
      rw [show (comesL r f (-1) x (z : Int))[y] = C by rw [← hC, List.getD_eq_getElem?_getD, List.getElem?_eq_getElem hyl]; rfl] at h1
      exact h1)
    clear hyl
    have HCC := Lib.hid hC; clear hC
    have HZ := Lib.hid hz; clear hz
    go_wp2_with fail
    refine (Plan_any w8 r f va vc HRF8.out.strips (by unfold maxLen; omega) (x : Int) (y : Int) (z : Int)).mono ?_
    rintro e w9 ⟨hb9, hpp⟩
    have HRF9 := Lib.hid (HRF8.out.below hb9)
    have HG9 := Lib.hid (HG8.out.below hb9)
    have HL9 := Lib.hid (HL8.out.below hb9)
    clear c0 c1 c2 e0 e1 HRF8 HG8 HL8
    have c1 := HRF9.out.c1
    rw [HS.out] at c1
    rcases hpp with ⟨_, hlow, rfl⟩ | ⟨_, hup, v, rfl, hown⟩ | ⟨hne, _⟩
    rotate_left
    rotate_left
    · exact absurd HRD.out hne
    · have hlow' : ¬ 0 ≤ C := by rw [← HCC.out]; exact Int.not_le.2 hlow
      have HLOW := Lib.hid hlow'; clear hlow' hlow hb9
      go_wp2_with fail
      clear c1
      go_loopw [15] (fun v15 wx => ∃ L : Nat, z ≤ L ∧ L ≤ D ∧ v15 = .int .i64 (L : Int) ∧ (∀ k : Nat, z ≤ k → k < L → (100000 : Int) ≤ restR r f (y : Int) (k : Int) (z : Int) ((x : Int), 0)) ∧ Below w9.heap.size w9 wx) (fun v _ => D - (intOf v).toNat)
      case atStart => exact ⟨z, Nat.le_refl _, by omega, rfl, fun k h1 h2 => by omega, Below.refl _ _⟩
      case round =>
        obtain ⟨L, hzL, hLD, rfl, hno, hbr⟩ := hrel
        have HNO := Lib.hid hno; clear hno
        have HRFr := Lib.hid (HRF9.out.below hbr)
        have HGr := Lib.hid (HG9.out.below hbr)
        have HLr := Lib.hid (HL9.out.below hbr)
        have HBR := Lib.hid hbr; clear hbr
        have c0 := HRFr.out.c0
        have c1 := HRFr.out.c1
        have c2 := HRFr.out.c2
        have e0 := HRFr.out.d0
        have e1 := HRFr.out.d1
        rw [HD.out] at c0
        rw [HS.out] at c1
        rw [HN.out] at c2
        rw [HPP.out] at e1
        by_cases hL : L < D
        · have q1 : (L : Int) < (D : Int) := by omega
          have hgn := HGr.out
          rw [HN.out] at hgn
          have HRA := Lib.hid (rest_any wr G.out va vc S P D N HS.out HPP.out HD.out HN.out HRFr.out.strips GT gbT _ hgn y L hL); clear hgn
          go_wp2_with fail
          refine HRA.out.mono ?_
          clear HRA c0 c1 c2 e0 e1
          rintro e w5 ⟨O, og, gb, rfl, hcube, hb5⟩
          have y0 := hcube.row (Nat.zero_le z) (by omega)
          have hgz := hcube.grid z (Nat.zero_le _) (by omega)
          have y1 := hgz.row (Nat.le_refl _) hxS
          have y2 := hgz.cell hxS (show 0 < P + 1 by omega)
          unfold gInt at y2
          dsimp only at y2
          rw [show ((0 : Nat) : Int) = 0 from rfl] at y2
          clear hgz
          have HCU := Lib.hid hcube; clear hcube
          have HRF5 := Lib.hid (HRFr.out.below hb5); clear HRFr
          have HG5 := Lib.hid (HGr.out.below hb5); clear HGr
          have HL5 := Lib.hid (HLr.out.below hb5); clear HLr
          have HB5 := Lib.hid (HBR.out.trans (hb5.mono HBR.out.size)); clear HBR hb5
          have q2 : (z : Int) < (L : Int) + 1 := by omega
          have q3 : (x : Int) < (S : Int) := by omega
          have q4 : (0 : Int) < (P : Int) + 1 := by omega
          generalize hrv : restR r f (y : Int) (L : Int) (z : Int) ((x : Int), 0) = rv at y2
          have HRV := Lib.hid hrv; clear hrv
          by_cases hv : rv < 100000
          · have q5 : ¬ (100000 : Int) ≤ rv := by omega
            have hli := last_is G.out HX.out HY.out (z := (z : Int)) (last := (L : Int)) (by omega) (by omega) (by rw [HD.out]; omega) (by rw [HRV.out]; exact hv)
            rw [HCC.out] at hli
            have hh := HLOW.out
            omega
          · have q5 : (100000 : Int) ≤ rv := by omega
            have HNV := Lib.hid (show (100000 : Int) ≤ restR r f (y : Int) (L : Int) (z : Int) ((x : Int), 0) by rw [HRV.out]; exact q5)
            go_wp2_with fail
            exact ⟨⟨L + 1, by omega, by omega, by go_num, fun k h1 h2 => by
              by_cases e : k = L
              · subst e; exact HNV.out
              · exact HNO.out k h1 (by omega), HB5.out⟩, by simp [intOf]; omega⟩
        · have q1 : ¬ (L : Int) < (D : Int) := by omega
          obtain rfl : L = D := by omega
          have y0 := HYC.out _ HLr.out
          have hm1 : C = -1 := by have h := comes_low (r := r) (f := f) (fr := x) HY.out (z := (z : Int)) (by omega) (by rw [HCC.out]; have := HLOW.out; omega); rw [HCC.out] at h; exact h
          rw [hm1] at y0
          have q2 : (y : Int) < (S : Int) := by omega
          go_wp2_with fail
          refine (afoot_any wr).mono ?_
          rintro e w6 ⟨rfl, hb6⟩
          have hbF := HRFr.out.bel.trans (hb6.mono HRFr.out.bel.size)
          clear hb6
          go_wp2_with fail
          go_ret
          exact ⟨rfl, hbF⟩
    · have hup' : 0 ≤ C := by rw [← HCC.out]; exact hup
      have HUP := Lib.hid hup'; clear hup
      obtain ⟨pa, pc, rfl, hps⟩ := hown.strides
      have hC1 := last_rev G.out HX.out HY.out (z := (z : Int)) (by omega) HZ.out (by rw [HCC.out]; exact HUP.out)
      rw [HCC.out] at hC1
      have hpd : planDay r f ((x : Int)).toNat ((y : Int)).toNat (z : Int) = C := HCC.out
      rw [hpd] at hps ⊢
      obtain ⟨cN, hcN⟩ := Int.eq_ofNat_of_zero_le hup'
      rw [hcN] at hC1 hps ⊢
      obtain ⟨hc1, hc2, hc3⟩ := hC1
      have hpl : (planL r f (-1) (y : Int) (cN : Int) (z : Int) (x : Int)).length ≤ 1000 := by
        have h1 := planF_le G.out (tt := (y : Int)) (last := (cN : Int)) 2000 (z : Int) ((x : Int), 0) (togoV r f (-1) (y : Int) (cN : Int) (z : Int) ((x : Int), 0))
        have h2 := hc3
        unfold restR at h2
        unfold planL
        omega
      generalize hPLL : planL r f (-1) (y : Int) (cN : Int) (z : Int) (x : Int) = PL at hps hpl ⊢
      have HPLL := Lib.hid hPLL; clear hPLL
      have HPS := Lib.hid hps; clear hps hown hb9 hup' hpd
      have HCN := Lib.hid hcN; clear hcN
      have HC3 := Lib.hid hc3; clear hc3
      have hcz : z ≤ cN := by omega
      have hcD : cN < D := by have := HD.out; omega
      clear hc1 hc2
      go_wp2_with fail
      clear c1
      go_loopw [15] (fun v15 wx => ∃ L : Nat, z ≤ L ∧ L ≤ D ∧ v15 = .int .i64 (L : Int) ∧ (∀ k : Nat, z ≤ k → k < L → (100000 : Int) ≤ restR r f (y : Int) (k : Int) (z : Int) ((x : Int), 0)) ∧ Below w9.heap.size w9 wx) (fun v _ => D - (intOf v).toNat)
      case atStart => exact ⟨z, Nat.le_refl _, by omega, rfl, fun k h1 h2 => by omega, Below.refl _ _⟩
      case round =>
        obtain ⟨L, hzL, hLD, rfl, hno, hbr⟩ := hrel
        have HNO := Lib.hid hno; clear hno
        have HRFr := Lib.hid (HRF9.out.below hbr)
        have HGr := Lib.hid (HG9.out.below hbr)
        have HLr := Lib.hid (HL9.out.below hbr)
        have HBR := Lib.hid hbr; clear hbr
        have c0 := HRFr.out.c0
        have c1 := HRFr.out.c1
        have c2 := HRFr.out.c2
        have e0 := HRFr.out.d0
        have e1 := HRFr.out.d1
        rw [HD.out] at c0
        rw [HS.out] at c1
        rw [HN.out] at c2
        rw [HPP.out] at e1
        by_cases hL : L < D
        · have q1 : (L : Int) < (D : Int) := by omega
          have hgn := HGr.out
          rw [HN.out] at hgn
          have HRA := Lib.hid (rest_any wr G.out va vc S P D N HS.out HPP.out HD.out HN.out HRFr.out.strips GT gbT _ hgn y L hL); clear hgn
          go_wp2_with fail
          refine HRA.out.mono ?_
          clear HRA c0 c1 c2 e0 e1
          rintro e w5 ⟨O, og, gb, rfl, hcube, hb5⟩
          have y0 := hcube.row (Nat.zero_le z) (by omega)
          have hgz := hcube.grid z (Nat.zero_le _) (by omega)
          have y1 := hgz.row (Nat.le_refl _) hxS
          have y2 := hgz.cell hxS (show 0 < P + 1 by omega)
          unfold gInt at y2
          dsimp only at y2
          rw [show ((0 : Nat) : Int) = 0 from rfl] at y2
          clear hgz
          have HCU := Lib.hid hcube; clear hcube
          have HRF5 := Lib.hid (HRFr.out.below hb5); clear HRFr
          have HG5 := Lib.hid (HGr.out.below hb5); clear HGr
          have HL5 := Lib.hid (HLr.out.below hb5); clear HLr
          have HB5 := Lib.hid (HBR.out.trans (hb5.mono HBR.out.size)); clear HBR hb5
          have q2 : (z : Int) < (L : Int) + 1 := by omega
          have q3 : (x : Int) < (S : Int) := by omega
          have q4 : (0 : Int) < (P : Int) + 1 := by omega
          generalize hrv : restR r f (y : Int) (L : Int) (z : Int) ((x : Int), 0) = rv at y2
          have HRV := Lib.hid hrv; clear hrv
          by_cases hv : rv < 100000
          · have q5 : ¬ (100000 : Int) ≤ rv := by omega
            have hli := last_is G.out HX.out HY.out (z := (z : Int)) (last := (L : Int)) (by omega) (by omega) (by rw [HD.out]; omega) (by rw [HRV.out]; exact hv)
            rw [HCC.out] at hli
            rw [HCN.out] at hli
            have hLc : cN = L := by
              by_cases c : cN < L
              · have h1 := HC3.out; have h2 := HNO.out cN hcz c; omega
              · omega
            subst hLc
            clear hli
            have hnear := ((rest_is G.out (tt := (y : Int)) (last := (cN : Int)) (d := (z : Int)) (p := ((x : Int), 0)) (by omega) (by omega) (by omega) (by omega) (Int.le_refl _) (by show (0 : Int) ≤ f.pace; rw [HPP.out]; omega)).1 (by rw [HRV.out]; exact hv)).2
            obtain ⟨LL, hpv, hll, hget⟩ := play_planL G.out (tt := (y : Int)) (last := (cN : Int)) (day := (z : Int)) HX.out (by omega) (by omega) (by rw [HD.out]; omega) hnear
            rw [HPLL.out] at hpv
            have HNEAR := Lib.hid hnear; clear hnear
            have hll' : LL.length = D := by rw [hll, HD.out]; rfl
            have HZ1 := Lib.hid (fun (W : World) (A : Option Addr) (h : IntsAt W A LL) => show ∃ ab ao, A = some ⟨ab, ao, none⟩ ∧ W.cell? ⟨ab, ao + cN, none⟩ = some (.int .i64 (y : Int)) from by
              have hlt : cN < LL.length := by rw [hll']; exact hcD
              rcases h with h | ⟨ab, ao, h1, h2⟩
              · rw [h] at hlt; simp at hlt
              · refine ⟨ab, ao, h1, ?_⟩
                rw [List.getD_eq_getElem?_getD, show ((cN : Int)).toNat = cN from rfl, List.getElem?_eq_getElem hlt] at hget
                have h3 : LL[cN] = (y : Int) := by simpa using hget
                rw [← h3]; exact h2 cN hlt)
            have HPA := Lib.hid (Play_any w5 r f va vc HRF5.out.strips (by unfold maxLen; omega) (x : Int) pa pc PL (HPS.out.below HB5.out) hpl); clear hll hget
            have hpa := HPA.out
            clear HPA
            rw [hpv, HD.out, HS.out, HN.out, HPP.out] at hpa
            dsimp only at hpa
            rw [hll'] at hpa
            have HPA := Lib.hid hpa; clear hpa hpv hll'
            have c0 := HRF5.out.c0
            have c1 := HRF5.out.c1
            have c2 := HRF5.out.c2
            have e0 := HRF5.out.d0
            have e1 := HRF5.out.d1
            rw [HD.out] at c0
            rw [HS.out] at c1
            rw [HN.out] at c2
            rw [HPP.out] at e1
            go_wp2_with fail
            refine HPA.out.mono ?_
            clear HPA c0 c1 c2 e0 e1 y0 y1 y2
            rintro e w6 ⟨ga, gc, rfl, hga, hb6⟩
            have HRF6 := Lib.hid (HRF5.out.below hb6); clear HRF5
            have HG6 := Lib.hid (HG5.out.below hb6); clear HG5
            have HL6 := Lib.hid (HL5.out.below hb6); clear HL5
            have HCU6 := Lib.hid (HCU.out.below hb6); clear HCU
            have HB6 := Lib.hid (HB5.out.trans (hb6.mono HB5.out.size)); clear HB5 hb6
            have z0 := HYC.out _ HL6.out
            rw [HCN.out] at z0
            obtain ⟨ab, ao, rfl, z1⟩ := HZ1.out _ _ hga
            clear hga
            have c0 := HRF6.out.c0
            have c1 := HRF6.out.c1
            have c2 := HRF6.out.c2
            have e0 := HRF6.out.d0
            have e1 := HRF6.out.d1
            rw [HD.out] at c0
            rw [HS.out] at c1
            rw [HN.out] at c2
            rw [HPP.out] at e1
            have hgn := HG6.out
            rw [HN.out] at hgn
            have HFA := Lib.hid (firstPlan_any w6 G.out va vc S P D N HS.out HPP.out HD.out HN.out HRF6.out.strips GT gbT _ hgn y x z cN hL hcz hxS _ O og gb HCU6.out HNEAR.out); clear hgn
            have q6 : (y : Int) < (S : Int) := by omega
            clear q5 hv
            go_wp2_with fail
            refine HFA.out.mono ?_
            clear HFA c0 c1 c2 e0 e1 z0 z1
            rintro e w7 ⟨v7, rfl, hown7, hb7⟩
            rw [HPLL.out] at hown7
            obtain ⟨fa, fc, rfl, hfs⟩ := hown7.strides
            have HFS := Lib.hid hfs; clear hfs hown7
            have HPS7 := Lib.hid (HPS.out.below (HB6.out.trans (hb7.mono HB6.out.size)))
            have HBF := Lib.hid (HRF6.out.bel.trans (hb7.mono HRF6.out.bel.size)); clear hb7
            go_wp2_with fail
            refine (SameStrides_eqB w7 pa fa pc fc PL HPS7.out HFS.out (by unfold maxLen; omega)).mono ?_
            rintro e w10 ⟨rfl, hb10⟩
            have HBG := Lib.hid (HBF.out.trans (hb10.mono HBF.out.size)); clear hb10
            go_wp2_with fail
            refine (afoot_any w10).mono ?_
            rintro e w11 ⟨rfl, hb11⟩
            have hbF := HBG.out.trans (hb11.mono HBG.out.size)
            clear hb11
            go_wp2_with fail
            go_ret
            exact ⟨rfl, hbF⟩
          · have q5 : (100000 : Int) ≤ rv := by omega
            have HNV := Lib.hid (show (100000 : Int) ≤ restR r f (y : Int) (L : Int) (z : Int) ((x : Int), 0) by rw [HRV.out]; exact q5)
            go_wp2_with fail
            exact ⟨⟨L + 1, by omega, by omega, by go_num, fun k h1 h2 => by
              by_cases e : k = L
              · subst e; exact HNV.out
              · exact HNO.out k h1 (by omega), HB5.out⟩, by simp [intOf]; omega⟩
        · have q1 : ¬ (L : Int) < (D : Int) := by omega
          obtain rfl : L = D := by omega
          have h1 := HC3.out
          have h2 := HNO.out cN hcz hcD
          omega
end Go.Proofs.Ytjgkgnfhglhklaa
