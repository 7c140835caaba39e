/- The walk of RoadNights. -/
import Derived.Test.YtjgkgnfhglhklaaWalks
import Derived.Deep.CutBlock
import Derived.Deep.RegionHeld3
import Derived.Outline
namespace Go.Proofs.Ytjgkgnfhglhklaa
set_option linter.unusedSimpArgs false
set_option linter.unusedVariables false
open Go.RowKit

def orTo (P : Nat → Bool) : Nat → Bool
  | 0 => false
  | s + 1 => orTo P s || P s
theorem orTo_iff {P : Nat → Bool} : ∀ {n : Nat}, orTo P n = true ↔ ∃ s, s < n ∧ P s = true
  | 0 => by simp [orTo]
  | n + 1 => by
    rw [orTo, Bool.or_eq_true, orTo_iff]
    constructor
    · rintro (⟨s, h1, h2⟩ | h)
      · exact ⟨s, by omega, h2⟩
      · exact ⟨n, by omega, h⟩
    · rintro ⟨s, h1, h2⟩
      by_cases e : s = n
      · subst e; exact .inr h2
      · exact .inl ⟨s, by omega, h2⟩
/-- The nights of a day, by the fewest leagues. -/
theorem night_all {r : Roads} {f : Flock} (g : Good r f) {S : Nat} (hS : r.stages = (S : Int)) {z k : Nat} {M : Nat → Nat → Int} (hM : Far r f ((z : Int) + (k : Int)) S M) {n0 t : Nat} (ht : t < S) :
    orTo (fun s => decide (M s t ≤ f.pace) && (nightsTo r f (-1) n0 (z : Int) k).testBit s) S = (nightsTo r f (-1) n0 (z : Int) (k + 1)).testBit t := by
  rw [Bool.eq_iff_iff, orTo_iff, nightsTo, afterN_bit g]
  have hp := g.p2
  constructor
  · rintro ⟨s, h1, h2⟩
    simp only [Bool.and_eq_true, decide_eq_true_eq] at h2
    obtain ⟨l, h3, h4⟩ := (hM.le s t h1 ht f.pace (by omega)).1 h2.1
    exact ⟨l, (spot_leads g).2 ⟨s, by omega, h2.2, h4, h3⟩⟩
  · rintro ⟨l, hl⟩
    obtain ⟨s, h1, h2, h3, h4⟩ := (spot_leads g).1 hl
    have hs : s < S := by omega
    refine ⟨s, hs, ?_⟩
    simp only [Bool.and_eq_true, decide_eq_true_eq]
    exact ⟨(hM.le s t hs ht f.pace (by omega)).2 ⟨l, h4, h3⟩, h2⟩
theorem there_is (w : World) (d b : Int) {v : Bool} (h : (decide (0 ≤ d) && decide (d ≤ b)) = v) : Calls Try.prog 35 #[.int .i64 d, .int .i64 b] w fun e w' => e = .returned (.bool v) ∧ w = w' :=
  (there_any w d b).mono fun e w' h' => ⟨by rw [h'.1, h], h'.2⟩
/-- There on a day: the nights behind that day. -/
theorem there_nights {r : Roads} {f : Flock} (g : Good r f) {S x z k t : Nat} (hS : r.stages = (S : Int)) (hd : ((z + k : Nat) : Int) < r.days) (ht : t < S) (h : t < (comesL r f (-1) x (z : Int)).length) :
    (decide (0 ≤ (comesL r f (-1) x (z : Int))[t]) && decide ((comesL r f (-1) x (z : Int))[t] ≤ ((z + k : Nat) : Int))) = (nightsTo r f (-1) (0 ||| 1 <<< x) (z : Int) (k + 1)).testBit t := by
  rw [comes_can g (b := z + k) (by omega) hd (by omega) h]
  unfold canB
  rw [decide_eq_true (by omega), Bool.true_and, show (((z + k : Nat) : Int) - (z : Int) + 1).toNat = k + 1 by omega]

set_option maxRecDepth 100000 in
set_option maxHeartbeats 4000000 in
theorem NightsL_any (w : World) (a : Option Addr) (n c : Nat) (l : List Int) (hl : IntsAt w a l) (hn : l.length = n) (hm : n ≤ maxLen) (ha : l = [] ∨ ∀ ad, a = some ad → ad.block < w.heap.size) :
    Calls Try.prog 11 #[.slice a n c] w fun e w' => e = .returned (.bool true) ∧ Below w.heap.size w w' := by
  have HL := Lib.hid hl; clear hl
  have HA := Lib.hid ha; clear ha
  have HN := Lib.hid hn; clear hn
  go_enter Try.func11, Try.ntmps11
  go_wp2_with fail
  refine (NewHand_any w a n c l HL.out HN.out hm HA.out).mono ?_
  rintro e w1 ⟨rfl, hh1, hb1, hs1⟩
  clear HL HA HN
  have H1 := Lib.hid hh1; clear hh1
  have B1 := Lib.hid hb1; clear hb1
  go_wp2_with fail
  refine (RoadsOf_all w1 w.heap.size 0 a n c H1.out (by omega) 6 8 10 (by omega) (by omega) (by omega) (by omega) (by omega) (by omega)).mono ?_
  rintro e w2 ⟨r, v, hr, hown, rfl, hh2, hE2⟩
  obtain ⟨va, vc, rfl⟩ := hown.form
  have hvc := hown.cap
  have HR := Lib.hid hr; clear hr
  have HO := Lib.hid hown; clear hown
  have H2 := Lib.hid hh2; clear hh2 H1
  have E2 := Lib.hid hE2; clear hE2
  go_wp2_with fail
  refine (FlockOf_any w2 w.heap.size (0 + 200) a n c H2.out (by omega)).mono ?_
  rintro e w3 ⟨_, ⟨f, hf, rfl⟩, rfl, hh3, hE3⟩
  have HF := Lib.hid hf; clear hf
  obtain ⟨hRF, hh4, hlt3, hva⟩ := RF.laid (f := f) B1.out hs1 HO.out E2.out hE3 hh3
  have hK : HRF w _ w.heap.size 206 w3.heap.size (w3.heap.size + 1) r f va vc a n c := ⟨hRF, hh4, by omega, by omega, hva, Nat.le_refl _⟩
  have HK := Lib.hid hK
  clear hRF hh4 hva hK hh3 hE3 E2 H2 HO B1
  obtain ⟨s1, s2, d1, d2⟩ : 1 ≤ r.stages ∧ r.stages ≤ 6 ∧ 1 ≤ r.days ∧ r.days ≤ 10 := ⟨HR.out.s1, HR.out.s2, HR.out.d1, HR.out.d2⟩
  have G := Lib.hid (HR.out.good HF.out); clear HR HF
  go_wp2_with fail
  generalize hw4 : ((w3.alloc (.cells #[.int .i64 r.days, .int .i64 r.stages, .slice va r.strips.length vc] 24)).alloc (.cells #[.int .i64 f.heads, .int .i64 f.pace] 26)) = w4 at HK ⊢
  generalize hp : w3.heap.size = p at HK ⊢
  clear hlt3 hp hw4
  have hd := HK.out.drew
  have c0 := hd.rf.c0
  have c1 := hd.rf.c1
  have K1 := Lib.hid hd; clear hd HK
  have q1 : IntKind.i64.wrap (r.stages - 1) = r.stages - 1 := IntWalk.i64_in _ (by omega)
  have q2 : IntKind.i64.wrap (r.days - 1) = r.days - 1 := IntWalk.i64_in _ (by omega)
  go_cut [6, 7] (fun v6 v7 wx => ∃ x z : Nat, v6 = .int .i64 (x : Int) ∧ v7 = .int .i64 (z : Int) ∧ (x : Int) < r.stages ∧ (z : Int) < r.days ∧ HRF w wx w.heap.size (206 + 1 + 1) p (p + 1) r f va vc a n c)
  case first =>
    go_region_held3 (fun w' => w'.cell? ⟨p, 1, none⟩ = some (.int .i64 r.stages) ∧ w'.cell? ⟨p, 0, none⟩ = some (.int .i64 r.days)) (first | exact ⟨m11, m10⟩ | exact ⟨m01, m00⟩ | exact ⟨c1, c0⟩) (first
      | (go_at_call 34; refine (K2.out.upto (by omega) (r.days - 1) (by omega) (by omega)).mono ?_; rintro e w6 ⟨z, z1, rfl, hk⟩; have K3 := Lib.hid hk; have m10 := hk.rf.c0; have m11 := hk.rf.c1; clear hk)
      | (go_at_call 34; refine (K1.out.upto (by omega) (r.stages - 1) (by omega) (by omega)).mono ?_; rintro e w5 ⟨x, x1, rfl, hk⟩; have K2 := Lib.hid hk; have m00 := hk.rf.c0; have m01 := hk.rf.c1; clear hk))
    all_goals (go_wp2_with fail; go_meet; exact ⟨x, z, rfl, rfl, by omega, by omega, K3.out⟩)
  case rest =>
    obtain ⟨x, z, rfl, rfl, hx, hz, hk⟩ := hcut
    clear c0 c1 K1 q1
    obtain ⟨S, hS⟩ := Int.eq_ofNat_of_zero_le (a := r.stages) (by omega)
    have hxS : x < S := by omega
    have hS6 : S ≤ 6 := by omega
    have HS := Lib.hid hS; clear hS hx s1 s2
    have hrf := hk.rf
    clear hk q2
    have c0 := hrf.c0
    have c1 := hrf.c1
    have c2 := hrf.c2
    have e0 := hrf.d0
    have e1 := hrf.d1
    have HRF := Lib.hid hrf; clear hrf
    obtain ⟨D, hD⟩ := Int.eq_ofNat_of_zero_le (a := r.days) (by omega)
    have hl8 := G.out.n8
    have hD10 : D ≤ 10 := by omega
    have HD := Lib.hid hD; clear hD
    go_wp2_with fail
    have hT := table_any wc G.out va vc D HD.out HRF.out.strips
    rw [← HD.out] at hT
    refine hT.mono ?_
    clear hT
    rintro e wT ⟨GT, gbT, rfl, hgT, hbT⟩
    have HRFT := Lib.hid (HRF.out.below hbT)
    have HGT := Lib.hid hgT; clear hgT
    clear c0 c1 c2 e0 e1 hbT HRF
    have c0 := HRFT.out.c0
    have c1 := HRFT.out.c1
    have c2 := HRFT.out.c2
    have e0 := HRFT.out.d0
    have e1 := HRFT.out.d1
    go_wp2_with fail
    refine (Comes_good wT G.out va vc S HS.out HRFT.out.strips x z hxS hz).mono ?_
    rintro e w8 ⟨gl, lc, rfl, hdays, hb8⟩
    have HRF8 := Lib.hid (HRFT.out.below hb8)
    have HG8 := Lib.hid (HGT.out.below hb8)
    have HL8 := Lib.hid hdays; clear hdays
    clear c0 c1 c2 e0 e1 hb8 HRFT HGT
    have hzD : z < D := by have := HD.out; omega
    have c1 := HRF8.out.c1
    rw [HS.out] at c1
    go_wp2_with fail
    clear c1
    go_loopw [12] (fun v12 wx => ∃ k : Nat, z + k ≤ D ∧ v12 = .int .i64 ((z + k : Nat) : Int) ∧ Below w8.heap.size w8 wx) (fun v _ => D - (intOf v).toNat)
    case atStart => exact ⟨0, by omega, rfl, Below.refl _ _⟩
    case round =>
      obtain ⟨k, hk, rfl, hbr⟩ := hrel
      have hrf := HRF8.out.below hbr
      have c0 := hrf.c0
      rw [HD.out] at c0
      have HRFr := Lib.hid hrf; clear hrf
      have HGr := Lib.hid (HG8.out.below hbr)
      have HLr := Lib.hid (HL8.out.below hbr)
      have HBR := Lib.hid hbr; clear hbr
      by_cases hkD : z + k < D
      · generalize hd : z + k = d at hkD ⊢
        have HDK := Lib.hid hd; clear hd
        have q1 : (d : Int) < (D : Int) := by omega
        go_wp2_with fail
        clear c0
        have c0 := HRFr.out.c0
        have c1 := HRFr.out.c1
        have c2 := HRFr.out.c2
        have y0 := HGr.out.row (Nat.le_refl _) hkD
        go_cut [13] (fun v13 wx => ∃ GF gbF M, v13 = .slice (some ⟨GF, 0, none⟩) S S ∧ Grid wx wr.heap.size GF 27 3 S S S gbF (gInt M) ∧ Far r f (d : Int) S M ∧ Below wr.heap.size wr wx)
        case first =>
          have hW := walks_any wr.drew G.out (d : Int) va vc S HS.out HRFr.out.drew.strips (gbT d) r.strips.length (fun j hj => HGr.out.cell hkD hj)
          rw [← HS.out] at hW
          have HW := Lib.hid hW; clear hW
          go_region_held3 (fun w' => w'.cell? ⟨p, 0, none⟩ = some (.int .i64 r.days) ∧ w'.cell? ⟨p, 1, none⟩ = some (.int .i64 r.stages) ∧ w'.cell? ⟨p, 2, none⟩ = some (.slice va r.strips.length vc) ∧ w'.cell? ⟨GT, d, none⟩ = some (.slice (some ⟨gbT d, 0, none⟩) r.strips.length r.strips.length)) (first | exact ⟨m0, m1, m2, m3⟩ | exact ⟨c0, c1, c2, y0⟩)
            (first | (go_at_call 47; refine HW.out.mono ?_; rintro e wF ⟨GF, gbF, M, rfl, hgF, hfar, hbF⟩; have HGF := Lib.hid hgF; have HFAR := Lib.hid hfar; have HBF := Lib.hid ((Below.refl wr.heap.size wr).drew.trans hbF); have m0 := ((bcell hbF).1 _ _ (lt_of_cell c0)).trans c0; have m1 := ((bcell hbF).1 _ _ (lt_of_cell c1)).trans c1; have m2 := ((bcell hbF).1 _ _ (lt_of_cell c2)).trans c2; have m3 := ((bcell hbF).1 _ _ (lt_of_cell y0)).trans y0; clear hgF hfar hbF))
          all_goals (go_wp2_with fail; go_meet; exact ⟨GF, gbF, M, rfl, HGF.out, HFAR.out, HBF.out⟩)
        case rest =>
          obtain ⟨GF, gbF, M, rfl, hgF, hfar, hbF⟩ := hcut
          clear c0 c1 c2 y0
          have HGF := Lib.hid hgF; clear hgF
          have HFAR := Lib.hid hfar; clear hfar
          have HRFF := Lib.hid (HRFr.out.below hbF)
          have HLF := Lib.hid (HLr.out.below hbF)
          have HBF := Lib.hid (HBR.out.trans (hbF.mono HBR.out.size))
          clear hbF
          obtain ⟨wF, hwF⟩ : ∃ wF, wF = wc := ⟨_, rfl⟩
          rw [← hwF] at HGF HRFF HLF HBF
          go_wp2_with fail
          go_loopw [14] (fun v14 wx => ∃ t : Nat, t ≤ S ∧ v14 = .int .i64 (t : Int) ∧ Below wF.heap.size wF wx) (fun v _ => S - (intOf v).toNat)
          case atStart => exact ⟨0, Nat.zero_le _, rfl, by rw [hwF]; exact Below.refl _ _⟩
          case round =>
            clear hwF
            obtain ⟨t, ht, rfl, hbt⟩ := hrel
            have c1 := (HRFF.out.below hbt).c1
            rw [HS.out] at c1
            have HBT := Lib.hid hbt; clear hbt
            by_cases htS : t < S
            · have q2 : (t : Int) < (S : Int) := by omega
              have hnight := night_all G.out HS.out (z := z) (k := k) (M := M) (by have := HFAR.out; rwa [← HDK.out, show ((z + k : Nat) : Int) = (z : Int) + (k : Int) by omega] at this) (n0 := 0 ||| 1 <<< x) htS
              have HNI := Lib.hid hnight; clear hnight
              go_wp2_with fail
              clear c1
              go_loopw [15, 16] (fun v15 v16 wx => ∃ s : Nat, s ≤ S ∧ v16 = .int .i64 (s : Int) ∧ v15 = .bool (orTo (fun s => decide (M s t ≤ f.pace) && (nightsTo r f (-1) (0 ||| 1 <<< x) (z : Int) k).testBit s) s) ∧ Below wF.heap.size wF wx) (fun _ v _ => S - (intOf v).toNat)
              case atStart => exact ⟨0, Nat.zero_le _, rfl, rfl, HBT.out⟩
              case round =>
                clear HBT
                obtain ⟨s, hs, rfl, rfl, hbs⟩ := hrel
                have c1 := (HRFF.out.below hbs).c1
                rw [HS.out] at c1
                have HBS := Lib.hid hbs
                by_cases hsS : s < S
                · have e1 := (HRFF.out.below hbs).d1
                  have y0 := (HGF.out.below hbs).row (Nat.le_refl _) hsS
                  have y1 := (HGF.out.below hbs).cell hsS htS
                  unfold gInt at y1
                  have hls : s < (comesL r f (-1) x (z : Int)).length := by rw [comesL_len, HS.out]; exact hsS
                  have y2 := (HLF.out.below hbs) s hls
                  have hst : orTo (fun s => decide (M s t ≤ f.pace) && (nightsTo r f (-1) (0 ||| 1 <<< x) (z : Int) k).testBit s) (s + 1) = (orTo (fun s => decide (M s t ≤ f.pace) && (nightsTo r f (-1) (0 ||| 1 <<< x) (z : Int) k).testBit s) s || (decide (M s t ≤ f.pace) && (nightsTo r f (-1) (0 ||| 1 <<< x) (z : Int) k).testBit s)) := rfl
                  have h0 : k = 0 → (nightsTo r f (-1) (0 ||| 1 <<< x) (z : Int) k).testBit s = decide (s = x) := by
                    rintro rfl
                    rw [nightsTo, testBit_or_one]
                    simp [eq_comm]
                  have h1 : k ≠ 0 → (nightsTo r f (-1) (0 ||| 1 <<< x) (z : Int) k).testBit s = (decide (0 ≤ (comesL r f (-1) x (z : Int))[s]) && decide ((comesL r f (-1) x (z : Int))[s] ≤ (d : Int) - 1)) := by
                    intro hk0
                    have := there_nights G.out (x := x) (z := z) (k := k - 1) (t := s) HS.out (by have := HDK.out; have := HD.out; omega) hsS hls
                    rw [show k - 1 + 1 = k by omega, show ((z + (k - 1) : Nat) : Int) = (d : Int) - 1 by have := HDK.out; omega] at this
                    exact this.symm
                  have q3 : (s : Int) < (S : Int) := by omega
                  have ew : IntKind.i64.wrap ((d : Int) - 1) = (d : Int) - 1 := IntWalk.i64_in _ (by omega)
                  generalize hacc : orTo (fun s => decide (M s t ≤ f.pace) && (nightsTo r f (-1) (0 ||| 1 <<< x) (z : Int) k).testBit s) s = acc at hst ⊢
                  generalize (comesL r f (-1) x (z : Int))[s] = yl at y2 h1
                  generalize hbit : (nightsTo r f (-1) (0 ||| 1 <<< x) (z : Int) k).testBit s = bit at hst h0 h1
                  generalize hMst : M s t = mv at y1 hst
                  have HST := Lib.hid hst; clear hst
                  have H0 := Lib.hid h0; clear h0
                  have H1 := Lib.hid h1; clear h1
                  clear hacc hbit hMst hls hbs
                  cases acc
                  · by_cases hmv : mv ≤ f.pace
                    · have hm1 : decide (mv ≤ f.pace) = true := decide_eq_true hmv
                      by_cases hdz : d = z
                      · have hk0 : k = 0 := by have := HDK.out; omega
                        have hb0 := H0.out hk0
                        by_cases hsx : s = x
                        · have HV := Lib.hid (show bit = true by rw [hb0]; simp [hsx])
                          clear hb0
                          subst hdz hsx
                          go_wp2_with fail
                          go_quiet (fail)
                          go_wp2_with fail
                          exact ⟨⟨s + 1, by omega, by go_num, by rw [HST.out, HV.out, hm1]; rfl, below_drewN HBS.out _⟩, by simp [intOf]; omega⟩
                        · have d3 : ((s : Int) == (x : Int)) = false := by simp; omega
                          have HV := Lib.hid (show bit = false by rw [hb0]; simp [hsx])
                          clear hsx hb0
                          have d4 : decide ((z : Int) < (d : Int)) = false := decide_eq_false (by omega)
                          have d1 : ((d : Int) == (z : Int)) = true := by simp [hdz]
                          rw [show (d : Int) = (z : Int) by omega] at d4 d1
                          subst hdz
                          go_wp2_with fail
                          go_quiet (fail)
                          go_wp2_with fail
                          exact ⟨⟨s + 1, by omega, by go_num, by rw [HST.out, HV.out]; simp, below_drewN HBS.out _⟩, by simp [intOf]; omega⟩
                      · have hk0 : k ≠ 0 := by have := HDK.out; omega
                        have hb1 := H1.out hk0
                        have d1 : ((d : Int) == (z : Int)) = false := by simp; omega
                        have d3 : z < d := by have := HDK.out; omega
                        have d2 : decide (z < d) = true := decide_eq_true d3
                        have d4 : (z : Int) < (d : Int) := by omega
                        have HV := Lib.hid hb1.symm; clear hb1 hdz
                        go_wp2_with fail
                        go_quiet ((go_at_call 35; exact Calls.quiet_of_same ((there_is _ _ _ HV.out).mono fun e w' h => ⟨h.1, h.2.symm⟩)))
                        go_wp2_with fail
                        exact ⟨⟨s + 1, by omega, by go_num, by rw [HST.out, hm1]; simp, below_drewN HBS.out _⟩, by simp [intOf]; omega⟩
                    · have hm1 : decide (mv ≤ f.pace) = false := decide_eq_false hmv
                      go_wp2_with fail
                      go_quiet (fail)
                      go_wp2_with fail
                      exact ⟨⟨s + 1, by omega, by go_num, by rw [HST.out, hm1]; rfl, below_drewN HBS.out _⟩, by simp [intOf]; omega⟩
                  · go_wp2_with fail
                    go_quiet (fail)
                    go_wp2_with fail
                    exact ⟨⟨s + 1, by omega, by go_num, by rw [HST.out]; rfl, below_drewN HBS.out _⟩, by simp [intOf]; omega⟩
                · obtain rfl : s = S := by omega
                  have hls : t < (comesL r f (-1) x (z : Int)).length := by rw [comesL_len, HS.out]; exact htS
                  have y2 := (HLF.out.below hbs) t hls
                  have hth := there_nights G.out (x := x) (z := z) (k := k) (t := t) HS.out (by have := HDK.out; have := HD.out; omega) htS hls
                  rw [HDK.out, ← HNI.out] at hth
                  generalize orTo (fun s => decide (M s t ≤ f.pace) && (nightsTo r f (-1) (0 ||| 1 <<< x) (z : Int) k).testBit s) s = acc at hth ⊢
                  generalize (comesL r f (-1) x (z : Int))[t] = yl at y2 hth
                  have HTH := Lib.hid hth; clear hth hls hbs
                  go_wp2_with fail
                  refine (there_is _ _ _ HTH.out).mono ?_
                  rintro e w12 ⟨rfl, rfl⟩
                  cases acc
                  all_goals
                    go_wp2_with fail
                    exact ⟨⟨t + 1, by omega, by go_num, HBS.out⟩, by simp [intOf]; omega⟩
            · obtain rfl : t = S := by omega
              go_wp2_with fail
              exact ⟨⟨k + 1, by have := HDK.out; omega, by have := HDK.out; rw [show z + (k + 1) = d + 1 by omega]; go_num, HBF.out.trans (HBT.out.mono HBF.out.size)⟩, by simp [intOf]; omega⟩
      · have q1 : ¬ ((z + k : Nat) : Int) < (D : Int) := by omega
        go_wp2_with fail
        refine (afoot_any wr).mono ?_
        rintro e w9 ⟨rfl, hb9⟩
        have hbF := HRFr.out.bel.trans (hb9.mono HRFr.out.bel.size)
        clear hb9 c0
        go_wp2_with fail
        go_ret
        exact ⟨rfl, hbF⟩
end Go.Proofs.Ytjgkgnfhglhklaa
