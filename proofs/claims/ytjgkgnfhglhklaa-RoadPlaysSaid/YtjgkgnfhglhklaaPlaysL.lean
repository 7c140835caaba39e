/- The walk of RoadPlays. -/
import Derived.Test.YtjgkgnfhglhklaaPlaysP
import Derived.Test.YtjgkgnfhglhklaaPlayR
import Derived.Test.YtjgkgnfhglhklaaPlayW
import Derived.Test.YtjgkgnfhglhklaaCopyS
import Derived.Deep.CutBlock
import Derived.Deep.RegionHeld3
namespace Go.Proofs.Ytjgkgnfhglhklaa
set_option linter.unusedSimpArgs false
set_option linter.unusedVariables false
open Go.RowKit

set_option maxRecDepth 100000 in
set_option maxHeartbeats 40000000 in
theorem PlaysL_any (w : World) (rr : Roads) (ff : Flock) (a : Option Addr) (cap : Nat) (hs : StripsAt w a rr.strips) (hm : rr.strips.length ≤ maxLen) (hrc : rr.strips.length ≤ cap) (x1 : Int) (plan : List (Int × Int)) (pa : Option Addr) (pc : Nat) (hp : StridesAt w pa plan) (hpm : plan.length ≤ maxLen) (na : Option Addr) (nn nc : Nat) (nl : List Int) (hl : IntsAt w na nl) (hn : nl.length = nn) (hnm : nn ≤ maxLen) (hna : nl = [] ∨ ∀ ad, na = some ad → ad.block < w.heap.size) :
    Calls Try.prog 18 #[.agg #[.int .i64 rr.days, .int .i64 rr.stages, .slice a rr.strips.length cap], .agg #[.int .i64 ff.heads, .int .i64 ff.pace], .int .i64 x1, .slice pa plan.length pc, .slice na nn nc] w fun e w' => e = .returned (.bool true) ∧ Below w.heap.size w w' := by
  have hb0 : Below w.heap.size w ((w.alloc (.cells #[.int .i64 rr.days, .int .i64 rr.stages, .slice a rr.strips.length cap] 24)).alloc (.cells #[.int .i64 ff.heads, .int .i64 ff.pace] 26)) := ((Below.refl _ _).alloc (Nat.le_refl _) _).alloc (by simp) _
  have hz0 : ((w.alloc (.cells #[.int .i64 rr.days, .int .i64 rr.stages, .slice a rr.strips.length cap] 24)).alloc (.cells #[.int .i64 ff.heads, .int .i64 ff.pace] 26)).heap.size = w.heap.size + 2 := by simp
  have x0 : ((w.alloc (.cells #[.int .i64 rr.days, .int .i64 rr.stages, .slice a rr.strips.length cap] 24)).alloc (.cells #[.int .i64 ff.heads, .int .i64 ff.pace] 26)).cell? ⟨w.heap.size, 0, none⟩ = some (.int .i64 rr.days) := by simp [go_sem]
  have x1' : ((w.alloc (.cells #[.int .i64 rr.days, .int .i64 rr.stages, .slice a rr.strips.length cap] 24)).alloc (.cells #[.int .i64 ff.heads, .int .i64 ff.pace] 26)).cell? ⟨w.heap.size, 1, none⟩ = some (.int .i64 rr.stages) := by simp [go_sem]
  have x2 : ((w.alloc (.cells #[.int .i64 rr.days, .int .i64 rr.stages, .slice a rr.strips.length cap] 24)).alloc (.cells #[.int .i64 ff.heads, .int .i64 ff.pace] 26)).cell? ⟨w.heap.size, 2, none⟩ = some (.slice a rr.strips.length cap) := by simp [go_sem]
  have x3 : ((w.alloc (.cells #[.int .i64 rr.days, .int .i64 rr.stages, .slice a rr.strips.length cap] 24)).alloc (.cells #[.int .i64 ff.heads, .int .i64 ff.pace] 26)).cell? ⟨w.heap.size + 1, 0, none⟩ = some (.int .i64 ff.heads) := by simp [go_sem]
  have x4 : ((w.alloc (.cells #[.int .i64 rr.days, .int .i64 rr.stages, .slice a rr.strips.length cap] 24)).alloc (.cells #[.int .i64 ff.heads, .int .i64 ff.pace] 26)).cell? ⟨w.heap.size + 1, 1, none⟩ = some (.int .i64 ff.pace) := by simp [go_sem]
  have HST := Lib.hid (hs.below hb0); clear hs
  have HPL := Lib.hid (hp.below hb0); clear hp
  have HL := Lib.hid (hl.below hb0); clear hl
  have HA := Lib.hid (show nl = [] ∨ ∀ ad, na = some ad → ad.block < ((w.alloc (.cells #[.int .i64 rr.days, .int .i64 rr.stages, .slice a rr.strips.length cap] 24)).alloc (.cells #[.int .i64 ff.heads, .int .i64 ff.pace] 26)).heap.size from hna.imp id fun h ad e => by have := h ad e; omega); clear hna
  have HN := Lib.hid hn; clear hn
  have HM := Lib.hid hnm; clear hnm
  have HRC := Lib.hid hrc; clear hrc
  unfold maxLen at hm hpm
  go_enter Try.func18, Try.ntmps18
  go_upto_region 1 with (fail)
  generalize ((w.alloc (.cells #[.int .i64 rr.days, .int .i64 rr.stages, .slice a rr.strips.length cap] 24)).alloc (.cells #[.int .i64 ff.heads, .int .i64 ff.pace] 26)) = W0 at hb0 hz0 x0 x1' x2 x3 x4 HST HPL HL HA ⊢
  have HB0 := Lib.hid hb0; clear hb0 hz0
  by_cases h20 : 20 < rr.strips.length
  · have q1 : (20 : Int) < (rr.strips.length : Int) := by omega
    go_wp2_with fail
    refine (afoot_any W0).mono ?_
    rintro e w1 ⟨rfl, hb1⟩
    go_wp2_with fail
    go_ret
    exact ⟨rfl, HB0.out.trans (hb1.mono HB0.out.size)⟩
  · have q1 : ¬ (20 : Int) < (rr.strips.length : Int) := by omega
    by_cases hp20 : 20 < plan.length
    · have q2 : (20 : Int) < (plan.length : Int) := by omega
      go_wp2_with fail
      refine (afoot_any W0).mono ?_
      rintro e w1 ⟨rfl, hb1⟩
      go_wp2_with fail
      go_ret
      exact ⟨rfl, HB0.out.trans (hb1.mono HB0.out.size)⟩
    · have q2 : ¬ (20 : Int) < (plan.length : Int) := by omega
      have HLE := Lib.hid (show rr.strips.length ≤ 20 by omega)
      have HPE := Lib.hid (show plan.length ≤ 20 by omega)
      obtain ⟨M, hM⟩ : ∃ M, rr.strips.length = M := ⟨_, rfl⟩
      rw [hM] at x2 q1 hm h20
      have HMM := Lib.hid hM; clear hM
      go_wp2_with fail
      refine (NewHand_any W0 na nn nc nl HL.out HN.out HM.out HA.out).mono ?_
      rintro e w1 ⟨rfl, hh1, hb1, hs1⟩
      clear HL HA HN HM h20 hp20 q2
      have HS1 := Lib.hid (show w1.heap.size = W0.heap.size + 1 from hs1); clear hs1
      have HH1 := Lib.hid hh1; clear hh1
      have HB1 := Lib.hid hb1
      have y0 := ((bcell hb1).1 _ _ (lt_of_cell x0)).trans x0
      have y1 := ((bcell hb1).1 _ _ (lt_of_cell x1')).trans x1'
      have y2 := ((bcell hb1).1 _ _ (lt_of_cell x2)).trans x2
      have y3 := ((bcell hb1).1 _ _ (lt_of_cell x3)).trans x3
      have y4 := ((bcell hb1).1 _ _ (lt_of_cell x4)).trans x4
      clear hb1
      go_upto_region 4 with (fail)
      go_cut [12] (fun va wx => ∃ p gr gf g1 g2 g3 g4 g5 q, va = .pointer (some ⟨p, 0, none⟩) ∧ KAsk wx W0.heap.size p gr gf g1 g2 g3 g4 g5 q ∧ HandAt wx W0.heap.size 211 na nn nc ∧ Below W0.heap.size W0 wx)
      case first =>
        as_aux_lemma =>
        go_wp2_with fail
        have hmd := made_any W0 w1 W0.heap.size na nn nc HB1.out (Nat.le_refl _) HH1.out rr ff a cap HST.out HLE.out HRC.out x1 0 0 0 0
        rw [HMM.out] at hmd
        refine hmd.mono ?_
        clear hmd
        rintro e w2 ⟨gr, gf, g1, g2, g3, g4, g5, q, rfl, hask, hb2, hh2, hE2⟩
        have HKA := Lib.hid (KAsk.laid (hb := W0.heap.size) hask (Nat.le_refl _) (by have := HS1.out; omega) hh2.lt)
        have HB2 := Lib.hid hb2
        have HHE := Lib.hid (hh2.below ((Below.refl _ _).alloc (Nat.le_refl _) (.cells #[.slice (some ⟨gr, 0, none⟩) 5 5, .slice (some ⟨gf, 0, none⟩) 5 5, .slice (some ⟨g1, 0, none⟩) 5 5, .slice (some ⟨g2, 0, none⟩) 5 5, .slice (some ⟨g3, 0, none⟩) 5 5, .slice (some ⟨g4, 0, none⟩) 5 5, .slice (some ⟨g5, 0, none⟩) 5 5] 32)))
        clear hask hb2 hh2 hE2
        go_wp2_with fail
        go_meet
        exact ⟨_, gr, gf, g1, g2, g3, g4, g5, q, rfl, HKA.out, HHE.out, HB2.out.alloc HB2.out.size _⟩
      case rest =>
        obtain ⟨p, gr, gf, g1, g2, g3, g4, g5, q, rfl, hask, hhd, hbw⟩ := hcut
        have HQ := Lib.hid hask; clear hask
        have HHD := Lib.hid hhd; clear hhd
        have HBW := Lib.hid hbw; clear hbw
        clear y0 y1 y2 y3 y4 x0 x1' x2 x3 x4 q1 hm
        go_wp2_with fail
        go_loopw [13] (fun va wx => ∃ i : Nat, i ≤ 5 ∧ va = .int .i64 (i : Int) ∧ KAsk wx W0.heap.size p gr gf g1 g2 g3 g4 g5 q ∧ (∃ Bd : Nat, Bd ≤ 211 + 30 * i ∧ HandAt wx W0.heap.size Bd na nn nc) ∧ Below W0.heap.size W0 wx) (fun v _ => 5 - (intOf v).toNat)
        case atStart => exact ⟨0, by omega, rfl, HQ.out, ⟨211, by omega, HHD.out⟩, HBW.out⟩
        case round =>
          clear HQ HBW HHD HH1 HB1 HS1 HST
          obtain ⟨i, hi, rfl, hq, ⟨Bd, hBd, hhd⟩, hb⟩ := hrel
          have hhl := hhd.lt
          have HQ := Lib.hid hq
          have HB := Lib.hid hb; clear hb
          have HHD := Lib.hid hhd; clear hhd
          have ek0 := hq.now.k0
          by_cases hi5 : i < 5
          · obtain ⟨r, f, fr, tt, z, b, s, sa, sc, hkk⟩ := hq.at hi5
            clear hq
            have HKK := Lib.hid hkk
            have hai := hkk wr (Ext.refl _ _); clear hkk
            have er0 := hai.r0
            have er1 := hai.r1
            have er2 := hai.r2
            have HAI := Lib.hid hai; clear hai
            have q1 : (i : Int) < 5 := by omega
            have q0 : (0 : Int) ≤ (i : Int) := by omega
            have HCR := Lib.hid (CopyRoads_any wr r sa sc HAI.out.strips (by have := HAI.out.len; omega))
            go_wp2_with fail
            refine HCR.out.mono ?_
            clear HCR ek0 er0 er1 er2
            rintro e w1 ⟨g, c, rfl, hg, hin, hglt, hb1⟩
            have hA : Below wr.heap.size wr (w1.alloc (.cells #[.int .i64 r.days, .int .i64 r.stages, .slice (some ⟨g, 0, none⟩) r.strips.length c] 24)) := hb1.alloc hb1.size _
            have HO1 := Lib.hid (OwnIn.laid (c := c) hin)
            have HAI1 := Lib.hid (HAI.out.below hA); clear HAI
            have HE1 := Lib.hid (Ext.of_below (m := W0.heap.size) hA)
            have HT1 := Lib.hid (HB.out.trans (hA.mono HB.out.size))
            have HHD1 := Lib.hid (HHD.out.below hA); clear HHD
            have hgne : g ≠ W0.heap.size := by omega
            have hpne : w1.heap.size ≠ W0.heap.size := by have := hb1.size; omega
            clear hA hb1 hin hg hglt HB
            go_upto_region 9 with (fail)
            generalize (w1.alloc (.cells #[.int .i64 r.days, .int .i64 r.stages, .slice (some ⟨g, 0, none⟩) r.strips.length c] 24)) = W1 at HO1 HAI1 HE1 HT1 HHD1 ⊢
            generalize w1.heap.size = po at HO1 hpne ⊢
            go_cut [63] (fun v63 wx => ∃ bb : Bool, v63 = .bool bb ∧ (bb = true → checkR r = 0) ∧ Below W1.heap.size W1 wx)
            case first =>
              as_aux_lemma =>
              have e0 := HAI1.out.k0
              have e1 := HAI1.out.r0
              have e2 := HAI1.out.r1
              have e3 := HAI1.out.r2
              by_cases ho : i % 2 = 1
              · go_wp2_with fail
                refine (refCheck_any r.days r.stages r.strips sa sc W1 HAI1.out.strips (by unfold maxLen; have := HAI1.out.len; omega)).mono ?_
                rintro e w5 ⟨rfl, hb5⟩
                go_wp2_with fail
                go_meet
                exact ⟨_, rfl, fun h => by simpa using h, hb5⟩
              · go_wp2_with fail
                go_meet
                exact ⟨false, rfl, by simp, Below.refl _ _⟩
            case rest =>
              obtain ⟨bb, rfl, hbb, hbx⟩ := hcut
              have HO2 := Lib.hid (HO1.out.below hbx); clear HO1
              have HAI2 := Lib.hid (HAI1.out.below hbx); clear HAI1
              have HT2 := Lib.hid (HT1.out.trans (hbx.mono HT1.out.size)); clear HT1
              have HE2 := Lib.hid (HE1.out.trans (Ext.of_below hbx)); clear HE1
              have HHD2 := Lib.hid (HHD1.out.below hbx); clear HHD1
              clear hbx
              go_upto_if 63 with (fail)
              go_cut [15] (fun v15 wx => ∃ (L : List (Int × Int)) (la : Option Addr) (lc : Nat), v15 = .slice la L.length lc ∧ StridesAt wx la L ∧ L.length ≤ 20 ∧ KAsk wx W0.heap.size p gr gf g1 g2 g3 g4 g5 q ∧ AskIn wx p gr gf g1 g2 g3 g4 g5 i r f fr tt z b s sa sc ∧ OwnIn wx po r g c ∧ (∃ Bd : Nat, Bd ≤ 211 + 30 * (i + 1) ∧ HandAt wx W0.heap.size Bd na nn nc) ∧ Below W0.heap.size W0 wx)
              case first =>
                as_aux_lemma =>
                cases bb
                · go_wp2_with fail
                  go_meet
                  exact ⟨plan, pa, pc, rfl, HPL.out.below HT2.out, HPE.out, HQ.out.ext HE2.out, HAI2.out, HO2.out, ⟨Bd, by omega, HHD2.out⟩, HT2.out⟩
                · have HCR := Lib.hid (hbb rfl)
                  go_upto_region 10 with (fail)
                  have e0 := HAI2.out.k0
                  have e1 := HAI2.out.r0
                  have e2 := HAI2.out.r1
                  have e3 := HAI2.out.r2
                  have e4 := HAI2.out.k1
                  have e5 := HAI2.out.f0
                  have e6 := HAI2.out.f1
                  have e7 := HAI2.out.k2
                  have e8 := HAI2.out.a1
                  have HDX := Lib.hid (HHD2.out.below (Below.refl wc.heap.size wc).drew)
                  have HSX := Lib.hid (show ∀ S : World, Ext W0.heap.size wc.drew S → StripsAt S sa r.strips from fun S hS => (HKK.out S (HE2.out.trans ((Ext.of_below (Below.refl _ _).drew).trans hS))).strips)
                  go_region_held3 (fun w' => w'.cell? ⟨p, 0, none⟩ = some (.slice (some ⟨gr, 0, none⟩) 5 5) ∧ w'.cell? ⟨gr, i * 3, none⟩ = some (.int .i64 r.days) ∧ w'.cell? ⟨gr, i * 3 + 1, none⟩ = some (.int .i64 r.stages) ∧ w'.cell? ⟨gr, i * 3 + 2, none⟩ = some (.slice sa r.strips.length sc) ∧ w'.cell? ⟨p, 1, none⟩ = some (.slice (some ⟨gf, 0, none⟩) 5 5) ∧ w'.cell? ⟨gf, i * 2, none⟩ = some (.int .i64 f.heads) ∧ w'.cell? ⟨gf, i * 2 + 1, none⟩ = some (.int .i64 f.pace) ∧ w'.cell? ⟨p, 2, none⟩ = some (.slice (some ⟨g1, 0, none⟩) 5 5) ∧ w'.cell? ⟨g1, i, none⟩ = some (.int .i64 fr)) (first | with_reducible exact ⟨e0, e1, e2, e3, e4, e5, e6, e7, e8⟩ | exact ⟨e0, e1, e2, e3, e4, e5, e6, e7, e8⟩ | exact ⟨HA5.out.k0, HA5.out.r0, HA5.out.r1, HA5.out.r2, HA5.out.k1, HA5.out.f0, HA5.out.f1, HA5.out.k2, HA5.out.a1⟩) (first
                    | (go_at_call 66; (with_reducible refine (planOf_any wc.drew W0.heap.size Bd na nn nc HDX.out (by omega) r f HCR.out sa sc HSX.out fr).mono ?_); rintro e w5 ⟨v, L, rfl, hown, hL, hh5, hE5⟩; obtain ⟨la, lc, rfl, hs5⟩ := hown.strides; have HS5 := Lib.hid hs5; have HL5 := Lib.hid hL; have HH5 := Lib.hid hh5; have HE5 := Lib.hid ((Ext.of_below (Below.refl wc.heap.size wc).drew).trans hE5); have HA5 := Lib.hid (HKK.out w5 (HE2.out.trans HE5.out)); clear hown hL hh5 hE5 hs5))
                  all_goals (go_wp2_with fail; go_meet; exact ⟨L, la, lc, rfl, HS5.out, by have := HL5.out; omega, HQ.out.ext (HE2.out.trans HE5.out), HA5.out, HO2.out.ext HE5.out hpne hgne, ⟨Bd + 30, by omega, HH5.out⟩, HE5.out.below HT2.out (Nat.le_refl _) HT2.out.size⟩)
              case rest =>
                obtain ⟨L, la, lc, rfl, hs2, hL20, hkq, hai2, ho2, ⟨Be, hBe, hhd2⟩, ht2⟩ := hcut
                clear HO2 HAI2 HT2 HE2 HHD2 hbb HKK HQ hBd
                have HS2 := Lib.hid hs2; clear hs2
                have HKQ2 := Lib.hid hkq; clear hkq
                have HAI2 := Lib.hid hai2; clear hai2
                have HO2 := Lib.hid ho2; clear ho2
                have HHD2 := Lib.hid hhd2; clear hhd2
                have HT2 := Lib.hid ht2; clear ht2
                go_wp2_with fail
                refine (CopyStrides_any _ L la lc HS2.out (by omega)).mono ?_
                rintro e w7 ⟨ma, mc, rfl, hm7, hb7⟩
                have HM_1 := Lib.hid hm7; clear hm7
                have HS_1 := Lib.hid (HS2.out.below hb7); clear HS2
                have HQ_1 := Lib.hid (HKQ2.out.below hb7); clear HKQ2
                have HAI1 := Lib.hid (HAI2.out.below hb7); clear HAI2
                have HO1 := Lib.hid (HO2.out.below hb7); clear HO2
                have HD_1 := Lib.hid (HHD2.out.below hb7); clear HHD2
                have HT1 := Lib.hid (HT2.out.trans (hb7.mono HT2.out.size)); clear HT2
                clear hb7
                have HL20 := Lib.hid hL20; clear hL20
                have e0 := HO1.out.o0
                have e1 := HO1.out.o1
                have e2 := HO1.out.o2
                have e3 := HAI1.out.k1
                have e4 := HAI1.out.f0
                have e5 := HAI1.out.f1
                have e6 := HAI1.out.k2
                have e7 := HAI1.out.a1
                go_upto_region 12 with (fail)
                go_cut [17, 18] (fun v17 v18 wx => ∃ ga1 gc1, v17 = .slice ga1 (playV r f fr L).1.length gc1 ∧ v18 = .int .i64 (playV r f fr L).2 ∧ IntsAt wx ga1 (playV r f fr L).1 ∧ Below w7.heap.size w7 wx)
                case first =>
                  as_aux_lemma =>
                    have HOX := Lib.hid (HO1.out.below (Below.refl w7.heap.size w7).drew)
                    have HAX := Lib.hid (HAI1.out.below (Below.refl w7.heap.size w7).drew)
                    have HSX := Lib.hid (HS_1.out.below (Below.refl w7.heap.size w7).drew)
                    have HMX := Lib.hid (HM_1.out.below (Below.refl w7.heap.size w7).drew)
                    have HQX := Lib.hid (HQ_1.out.below (Below.refl w7.heap.size w7).drew)
                    have HDX := Lib.hid (HD_1.out.below (Below.refl w7.heap.size w7).drew)
                    have HBX := Lib.hid (Below.refl w7.heap.size w7).drew
                    have HKX := Lib.hid (show ∀ b o v, w7.cell? ⟨b, o, none⟩ = some v → w7.drew.cell? ⟨b, o, none⟩ = some v from fun _ _ _ h => h)
                    go_region_held3 (fun w' => w'.cell? ⟨po, 0, none⟩ = some (.int .i64 r.days) ∧ w'.cell? ⟨po, 1, none⟩ = some (.int .i64 r.stages) ∧ w'.cell? ⟨po, 2, none⟩ = some (.slice (some ⟨g, 0, none⟩) r.strips.length c) ∧ w'.cell? ⟨p, 1, none⟩ = some (.slice (some ⟨gf, 0, none⟩) 5 5) ∧ w'.cell? ⟨gf, i * 2, none⟩ = some (.int .i64 f.heads) ∧ w'.cell? ⟨gf, i * 2 + 1, none⟩ = some (.int .i64 f.pace) ∧ w'.cell? ⟨p, 2, none⟩ = some (.slice (some ⟨g1, 0, none⟩) 5 5) ∧ w'.cell? ⟨g1, i, none⟩ = some (.int .i64 fr)) (first | with_reducible exact ⟨HKX.out _ _ _ e0, HKX.out _ _ _ e1, HKX.out _ _ _ e2, HKX.out _ _ _ e3, HKX.out _ _ _ e4, HKX.out _ _ _ e5, HKX.out _ _ _ e6, HKX.out _ _ _ e7⟩ | exact ⟨e0, e1, e2, e3, e4, e5, e6, e7⟩) (first
                      | (go_at_call 68; (with_reducible refine (Play_any _ r f (some ⟨g, 0, none⟩) c HOX.out.strips (by unfold maxLen; have := HAX.out.len; omega) fr ma mc L HMX.out (by have := HL20.out; omega)).mono ?_); rintro e w5 ⟨ga, gc, rfl, hi5, hb5⟩; have HI5 := Lib.hid hi5; clear hi5; have HKX := Lib.hid (fun b o v h => have h' := HKX.out b o v h; ((bcell hb5).1 _ _ (lt_of_cell h')).trans h'); have HBX := Lib.hid (HBX.out.trans (hb5.mono HBX.out.size)); have HOX := Lib.hid (HOX.out.below hb5); have HAX := Lib.hid (HAX.out.below hb5); have HSX := Lib.hid (HSX.out.below hb5); have HMX := Lib.hid (HMX.out.below hb5); have HQX := Lib.hid (HQX.out.below hb5); have HDX := Lib.hid (HDX.out.below hb5); clear hb5))
                    all_goals (go_wp2_with fail; go_meet; exact ⟨ga, gc, rfl, rfl, HI5.out, HBX.out⟩)
                case rest =>
                  obtain ⟨ga1, gc1, rfl, rfl, hL1, hbx⟩ := hcut
                  have HO2 := Lib.hid (HO1.out.below hbx)
                  have HAI2 := Lib.hid (HAI1.out.below hbx)
                  have HT2 := Lib.hid (HT1.out.trans (hbx.mono HT1.out.size))
                  have HS_2 := Lib.hid (HS_1.out.below hbx)
                  have HM_2 := Lib.hid (HM_1.out.below hbx)
                  have HQ_2 := Lib.hid (HQ_1.out.below hbx)
                  have HD_2 := Lib.hid (HD_1.out.below hbx)
                  have HL1_2 := Lib.hid hL1
                  clear e0 e1 e2 e3 e4 e5 e6 e7 HO1 HAI1 HT1 hbx HS_1 HM_1 HQ_1 HD_1 hL1
                  as_aux_lemma =>
                    have e0 := HAI2.out.k0
                    have e1 := HAI2.out.r0
                    have e2 := HAI2.out.r1
                    have e3 := HAI2.out.r2
                    have e4 := HAI2.out.k1
                    have e5 := HAI2.out.f0
                    have e6 := HAI2.out.f1
                    have e7 := HAI2.out.k2
                    have e8 := HAI2.out.a1
                    go_upto_region 13 with (fail)
                    go_cut [19, 20] (fun v19 v20 wx => ∃ ga2 gc2, v19 = .slice ga2 (playV r f fr L).1.length gc2 ∧ v20 = .int .i64 (playV r f fr L).2 ∧ IntsAt wx ga2 (playV r f fr L).1 ∧ Below wc.heap.size wc wx)
                    case first =>
                      as_aux_lemma =>
                        have HOX := Lib.hid (HO2.out.below (Below.refl wc.heap.size wc).drew)
                        have HAX := Lib.hid (HAI2.out.below (Below.refl wc.heap.size wc).drew)
                        have HSX := Lib.hid (HS_2.out.below (Below.refl wc.heap.size wc).drew)
                        have HMX := Lib.hid (HM_2.out.below (Below.refl wc.heap.size wc).drew)
                        have HQX := Lib.hid (HQ_2.out.below (Below.refl wc.heap.size wc).drew)
                        have HDX := Lib.hid (HD_2.out.below (Below.refl wc.heap.size wc).drew)
                        have HL1X := Lib.hid (HL1_2.out.below (Below.refl wc.heap.size wc).drew)
                        have HBX := Lib.hid (Below.refl wc.heap.size wc).drew
                        have HKX := Lib.hid (show ∀ b o v, wc.cell? ⟨b, o, none⟩ = some v → wc.drew.cell? ⟨b, o, none⟩ = some v from fun _ _ _ h => h)
                        go_region_held3 (fun w' => w'.cell? ⟨p, 0, none⟩ = some (.slice (some ⟨gr, 0, none⟩) 5 5) ∧ w'.cell? ⟨gr, i * 3, none⟩ = some (.int .i64 r.days) ∧ w'.cell? ⟨gr, i * 3 + 1, none⟩ = some (.int .i64 r.stages) ∧ w'.cell? ⟨gr, i * 3 + 2, none⟩ = some (.slice sa r.strips.length sc) ∧ w'.cell? ⟨p, 1, none⟩ = some (.slice (some ⟨gf, 0, none⟩) 5 5) ∧ w'.cell? ⟨gf, i * 2, none⟩ = some (.int .i64 f.heads) ∧ w'.cell? ⟨gf, i * 2 + 1, none⟩ = some (.int .i64 f.pace) ∧ w'.cell? ⟨p, 2, none⟩ = some (.slice (some ⟨g1, 0, none⟩) 5 5) ∧ w'.cell? ⟨g1, i, none⟩ = some (.int .i64 fr)) (first | with_reducible exact ⟨HKX.out _ _ _ e0, HKX.out _ _ _ e1, HKX.out _ _ _ e2, HKX.out _ _ _ e3, HKX.out _ _ _ e4, HKX.out _ _ _ e5, HKX.out _ _ _ e6, HKX.out _ _ _ e7, HKX.out _ _ _ e8⟩ | exact ⟨e0, e1, e2, e3, e4, e5, e6, e7, e8⟩) (first
                          | (go_at_call 69; (with_reducible refine (refPlay_any _ r f sa sc HAX.out.strips (by unfold maxLen; have := HAX.out.len; omega) fr la lc L HSX.out (by have := HL20.out; omega)).mono ?_); rintro e w5 ⟨ga, gc, rfl, hi5, hb5⟩; have HI5 := Lib.hid hi5; clear hi5; have HKX := Lib.hid (fun b o v h => have h' := HKX.out b o v h; ((bcell hb5).1 _ _ (lt_of_cell h')).trans h'); have HBX := Lib.hid (HBX.out.trans (hb5.mono HBX.out.size)); have HOX := Lib.hid (HOX.out.below hb5); have HAX := Lib.hid (HAX.out.below hb5); have HSX := Lib.hid (HSX.out.below hb5); have HMX := Lib.hid (HMX.out.below hb5); have HQX := Lib.hid (HQX.out.below hb5); have HDX := Lib.hid (HDX.out.below hb5); have HL1X := Lib.hid (HL1X.out.below hb5); clear hb5))
                        all_goals (go_wp2_with fail; go_meet; exact ⟨ga, gc, rfl, rfl, HI5.out, HBX.out⟩)
                    case rest =>
                      obtain ⟨ga2, gc2, rfl, rfl, hL2, hbx⟩ := hcut
                      have HO3 := Lib.hid (HO2.out.below hbx)
                      have HAI3 := Lib.hid (HAI2.out.below hbx)
                      have HT3 := Lib.hid (HT2.out.trans (hbx.mono HT2.out.size))
                      have HS_3 := Lib.hid (HS_2.out.below hbx)
                      have HM_3 := Lib.hid (HM_2.out.below hbx)
                      have HQ_3 := Lib.hid (HQ_2.out.below hbx)
                      have HD_3 := Lib.hid (HD_2.out.below hbx)
                      have HL1_3 := Lib.hid (HL1_2.out.below hbx)
                      have HL2_3 := Lib.hid hL2
                      clear e0 e1 e2 e3 e4 e5 e6 e7 e8 HO2 HAI2 HT2 hbx HS_2 HM_2 HQ_2 HD_2 HL1_2 hL2
                      as_aux_lemma =>
                        have e0 := HO3.out.o0
                        have e1 := HO3.out.o1
                        have e2 := HO3.out.o2
                        have e3 := HAI3.out.k0
                        have e4 := HAI3.out.r0
                        have e5 := HAI3.out.r1
                        have e6 := HAI3.out.r2
                        go_upto_region 14 with (fail)
                        go_cut [143] (fun v143 wx => v143 = .bool false ∧ Below wc.heap.size wc wx)
                        case first =>
                          as_aux_lemma =>
                            have HOX := Lib.hid (HO3.out.below (Below.refl wc.heap.size wc).drew)
                            have HAX := Lib.hid (HAI3.out.below (Below.refl wc.heap.size wc).drew)
                            have HSX := Lib.hid (HS_3.out.below (Below.refl wc.heap.size wc).drew)
                            have HMX := Lib.hid (HM_3.out.below (Below.refl wc.heap.size wc).drew)
                            have HQX := Lib.hid (HQ_3.out.below (Below.refl wc.heap.size wc).drew)
                            have HDX := Lib.hid (HD_3.out.below (Below.refl wc.heap.size wc).drew)
                            have HL1X := Lib.hid (HL1_3.out.below (Below.refl wc.heap.size wc).drew)
                            have HL2X := Lib.hid (HL2_3.out.below (Below.refl wc.heap.size wc).drew)
                            have HBX := Lib.hid (Below.refl wc.heap.size wc).drew
                            have HKX := Lib.hid (show ∀ b o v, wc.cell? ⟨b, o, none⟩ = some v → wc.drew.cell? ⟨b, o, none⟩ = some v from fun _ _ _ h => h)
                            go_region_held3 (fun w' => w'.cell? ⟨po, 0, none⟩ = some (.int .i64 r.days) ∧ w'.cell? ⟨po, 1, none⟩ = some (.int .i64 r.stages) ∧ w'.cell? ⟨po, 2, none⟩ = some (.slice (some ⟨g, 0, none⟩) r.strips.length c) ∧ w'.cell? ⟨p, 0, none⟩ = some (.slice (some ⟨gr, 0, none⟩) 5 5) ∧ w'.cell? ⟨gr, i * 3, none⟩ = some (.int .i64 r.days) ∧ w'.cell? ⟨gr, i * 3 + 1, none⟩ = some (.int .i64 r.stages) ∧ w'.cell? ⟨gr, i * 3 + 2, none⟩ = some (.slice sa r.strips.length sc)) (first | with_reducible exact ⟨HKX.out _ _ _ e0, HKX.out _ _ _ e1, HKX.out _ _ _ e2, HKX.out _ _ _ e3, HKX.out _ _ _ e4, HKX.out _ _ _ e5, HKX.out _ _ _ e6⟩ | exact ⟨e0, e1, e2, e3, e4, e5, e6⟩) (first
                              | (go_at_call 29; (with_reducible refine (SameInts_eqP _ ga1 ga2 gc1 gc2 (playV r f fr L).1 HL1X.out HL2X.out (playV_len r f fr L)).mono ?_); rintro e w5 ⟨rfl, hb5⟩; have HKX := Lib.hid (fun b o v h => have h' := HKX.out b o v h; ((bcell hb5).1 _ _ (lt_of_cell h')).trans h'); have HBX := Lib.hid (HBX.out.trans (hb5.mono HBX.out.size)); have HOX := Lib.hid (HOX.out.below hb5); have HAX := Lib.hid (HAX.out.below hb5); have HSX := Lib.hid (HSX.out.below hb5); have HMX := Lib.hid (HMX.out.below hb5); have HQX := Lib.hid (HQX.out.below hb5); have HDX := Lib.hid (HDX.out.below hb5); have HL1X := Lib.hid (HL1X.out.below hb5); have HL2X := Lib.hid (HL2X.out.below hb5); clear hb5)
                              | (go_at_call 30; (with_reducible refine (SameStrides_eqP _ ma la mc lc L HMX.out HSX.out (by have := HL20.out; unfold maxLen; omega)).mono ?_); rintro e w5 ⟨rfl, hb5⟩; have HKX := Lib.hid (fun b o v h => have h' := HKX.out b o v h; ((bcell hb5).1 _ _ (lt_of_cell h')).trans h'); have HBX := Lib.hid (HBX.out.trans (hb5.mono HBX.out.size)); have HOX := Lib.hid (HOX.out.below hb5); have HAX := Lib.hid (HAX.out.below hb5); have HSX := Lib.hid (HSX.out.below hb5); have HMX := Lib.hid (HMX.out.below hb5); have HQX := Lib.hid (HQX.out.below hb5); have HDX := Lib.hid (HDX.out.below hb5); have HL1X := Lib.hid (HL1X.out.below hb5); have HL2X := Lib.hid (HL2X.out.below hb5); clear hb5)
                              | (go_at_call 31; (with_reducible refine (SameRoads_any _ r (some ⟨g, 0, none⟩) sa c sc HOX.out.strips HAX.out.strips (by unfold maxLen; have := HAX.out.len; omega)).mono ?_); rintro e w5 ⟨rfl, hb5⟩; have HKX := Lib.hid (fun b o v h => have h' := HKX.out b o v h; ((bcell hb5).1 _ _ (lt_of_cell h')).trans h'); have HBX := Lib.hid (HBX.out.trans (hb5.mono HBX.out.size)); have HOX := Lib.hid (HOX.out.below hb5); have HAX := Lib.hid (HAX.out.below hb5); have HSX := Lib.hid (HSX.out.below hb5); have HMX := Lib.hid (HMX.out.below hb5); have HQX := Lib.hid (HQX.out.below hb5); have HDX := Lib.hid (HDX.out.below hb5); have HL1X := Lib.hid (HL1X.out.below hb5); have HL2X := Lib.hid (HL2X.out.below hb5); clear hb5))
                            all_goals (go_wp2_with fail; go_meet; exact ⟨rfl, HBX.out⟩)
                        case rest =>
                          obtain ⟨rfl, hbx⟩ := hcut
                          have HO4 := Lib.hid (HO3.out.below hbx)
                          have HAI4 := Lib.hid (HAI3.out.below hbx)
                          have HT4 := Lib.hid (HT3.out.trans (hbx.mono HT3.out.size))
                          have HS_4 := Lib.hid (HS_3.out.below hbx)
                          have HM_4 := Lib.hid (HM_3.out.below hbx)
                          have HQ_4 := Lib.hid (HQ_3.out.below hbx)
                          have HD_4 := Lib.hid (HD_3.out.below hbx)
                          have HL1_4 := Lib.hid (HL1_3.out.below hbx)
                          have HL2_4 := Lib.hid (HL2_3.out.below hbx)
                          clear e0 e1 e2 e3 e4 e5 e6 HO3 HAI3 HT3 hbx HS_3 HM_3 HQ_3 HD_3 HL1_3 HL2_3
                          go_wp2_with fail
                          exact ⟨⟨i + 1, by omega, by go_num, HQ_4.out, ⟨Be, hBe, HD_4.out⟩, HT4.out⟩, by simp [intOf]; omega⟩
          · obtain rfl : i = 5 := by omega
            clear hq
            go_wp2_with fail
            refine (afoot_any wr).mono ?_
            rintro e w1 ⟨rfl, hb1⟩
            go_wp2_with fail
            go_ret
            exact ⟨rfl, HB0.out.trans ((HB.out.trans (hb1.mono HB.out.size)).mono HB0.out.size)⟩
end Go.Proofs.Ytjgkgnfhglhklaa
