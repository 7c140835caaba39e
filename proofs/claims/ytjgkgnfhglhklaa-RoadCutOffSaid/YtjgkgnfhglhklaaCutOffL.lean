/- The walk of RoadCutOff. -/
import Derived.Test.YtjgkgnfhglhklaaNights
import Derived.Test.YtjgkgnfhglhklaaCutOffP
import Derived.Test.YtjgkgnfhglhklaaCut
namespace Go.Proofs.Ytjgkgnfhglhklaa
set_option linter.unusedSimpArgs false
set_option linter.unusedVariables false
open Go.RowKit

set_option maxRecDepth 100000 in
set_option maxHeartbeats 20000000 in
theorem CutOffL_any (w : World) (a : Option Addr) (n c : Nat) (l : List Int) (hl : IntsAt w a l) (hn : l.length = n) (hm : n ≤ maxLen) (ha : l = [] ∨ ∀ ad, a = some ad → ad.block < w.heap.size) :
    Calls Try.prog 19 #[.slice a n c] w fun e w' => e = .returned (.bool true) ∧ Below w.heap.size w w' := by
  have HL := Lib.hid hl; clear hl
  have HA := Lib.hid ha; clear ha
  have HN := Lib.hid hn; clear hn
  go_enter Try.func19, Try.ntmps19
  go_wp2_with fail
  refine (NewHand_any w a n c l HL.out HN.out hm HA.out).mono ?_
  rintro e w1 ⟨rfl, hh1, hb1, hs1⟩
  clear HL HA HN
  have H1 := Lib.hid hh1; clear hh1
  have B1 := Lib.hid hb1; clear hb1
  go_wp2_with fail
  refine (RoadsOf_all w1 w.heap.size 0 a n c H1.out (by omega) 6 8 10 (by omega) (by omega) (by omega) (by omega) (by omega) (by omega)).mono ?_
  rintro e w2 ⟨r, v, hr, hown, rfl, hh2, hE2⟩
  obtain ⟨va, vc, rfl⟩ := hown.form
  have hvc := hown.cap
  have HR := Lib.hid hr; clear hr
  have HO := Lib.hid hown; clear hown
  have H2 := Lib.hid hh2; clear hh2 H1
  have E2 := Lib.hid hE2; clear hE2
  go_wp2_with fail
  refine (FlockOf_any w2 w.heap.size (0 + 200) a n c H2.out (by omega)).mono ?_
  rintro e w3 ⟨_, ⟨f, hf, rfl⟩, rfl, hh3, hE3⟩
  have HF := Lib.hid hf; clear hf
  obtain ⟨hRF, hh4, hlt3, hva⟩ := RF.laid (f := f) B1.out hs1 HO.out E2.out hE3 hh3
  have hK : HRF w _ w.heap.size 206 w3.heap.size (w3.heap.size + 1) r f va vc a n c := ⟨hRF, hh4, by omega, by omega, hva, Nat.le_refl _⟩
  have HK := Lib.hid hK
  clear hRF hh4 hva hK hh3 hE3 E2 H2 HO B1
  obtain ⟨s1, s2, d1, d2⟩ : 1 ≤ r.stages ∧ r.stages ≤ 6 ∧ 1 ≤ r.days ∧ r.days ≤ 10 := ⟨HR.out.s1, HR.out.s2, HR.out.d1, HR.out.d2⟩
  have G := Lib.hid (HR.out.good HF.out); clear HR HF
  go_wp2_with fail
  generalize hw4 : ((w3.alloc (.cells #[.int .i64 r.days, .int .i64 r.stages, .slice va r.strips.length vc] 24)).alloc (.cells #[.int .i64 f.heads, .int .i64 f.pace] 26)) = w4 at HK ⊢
  generalize hp : w3.heap.size = p at HK ⊢
  clear hlt3 hp hw4
  have hd := HK.out.drew
  have c0 := hd.rf.c0
  have c1 := hd.rf.c1
  have K1 := Lib.hid hd; clear hd HK
  have q1 : IntKind.i64.wrap (r.stages - 1) = r.stages - 1 := IntWalk.i64_in _ (by omega)
  have q2 : IntKind.i64.wrap (r.days - 1) = r.days - 1 := IntWalk.i64_in _ (by omega)
  go_cut [6, 7] (fun v6 v7 wx => ∃ x z : Nat, v6 = .int .i64 (x : Int) ∧ v7 = .int .i64 (z : Int) ∧ (x : Int) < r.stages ∧ (z : Int) < r.days ∧ HRF w wx w.heap.size (206 + 1 + 1) p (p + 1) r f va vc a n c)
  case first =>
    go_region_held3 (fun w' => w'.cell? ⟨p, 1, none⟩ = some (.int .i64 r.stages) ∧ w'.cell? ⟨p, 0, none⟩ = some (.int .i64 r.days)) (first | exact ⟨m11, m10⟩ | exact ⟨m01, m00⟩ | exact ⟨c1, c0⟩) (first
      | (go_at_call 34; refine (K2.out.upto (by omega) (r.days - 1) (by omega) (by omega)).mono ?_; rintro e w6 ⟨z, z1, rfl, hk⟩; have K3 := Lib.hid hk; have m10 := hk.rf.c0; have m11 := hk.rf.c1; clear hk)
      | (go_at_call 34; refine (K1.out.upto (by omega) (r.stages - 1) (by omega) (by omega)).mono ?_; rintro e w5 ⟨x, x1, rfl, hk⟩; have K2 := Lib.hid hk; have m00 := hk.rf.c0; have m01 := hk.rf.c1; clear hk))
    all_goals (go_wp2_with fail; go_meet; exact ⟨x, z, rfl, rfl, by omega, by omega, K3.out⟩)
  case rest =>
    obtain ⟨x, z, rfl, rfl, hx, hz, hk⟩ := hcut
    clear c0 c1 K1 q1
    obtain ⟨S, hS⟩ := Int.eq_ofNat_of_zero_le (a := r.stages) (by omega)
    have hxS : x < S := by omega
    have hS6 : S ≤ 6 := by omega
    have HS := Lib.hid hS; clear hS hx s1 s2
    have hrf := hk.rf
    clear hk q2
    have c0 := hrf.c0
    have c1 := hrf.c1
    have c2 := hrf.c2
    have e0 := hrf.d0
    have e1 := hrf.d1
    have HRF := Lib.hid hrf; clear hrf
    obtain ⟨D, hD⟩ := Int.eq_ofNat_of_zero_le (a := r.days) (by omega)
    have hl8 := G.out.n8
    have hD10 : D ≤ 10 := by omega
    have HD := Lib.hid hD; clear hD
    go_wp2_with fail
    have hT := table_any wc G.out va vc D HD.out HRF.out.strips
    rw [← HD.out] at hT
    refine hT.mono ?_
    clear hT
    rintro e wT ⟨GT, gbT, rfl, hgT, hbT⟩
    have HRFT := Lib.hid (HRF.out.below hbT)
    have HGT := Lib.hid hgT; clear hgT
    clear c0 c1 c2 e0 e1 hbT HRF
    have c0 := HRFT.out.c0
    have c1 := HRFT.out.c1
    have c2 := HRFT.out.c2
    have e0 := HRFT.out.d0
    have e1 := HRFT.out.d1
    go_wp2_with fail
    refine (Cut_any wT r f va vc HRFT.out.strips (by unfold maxLen; omega) (x : Int) (z : Int)).mono ?_
    rintro e wQ ⟨ga, gac, rfl, hgi, hbQ⟩
    have hz0 := ready4 G.out (x := (x : Int)) (y := (z : Int)) (by omega) (by rw [HS.out]; omega) (by omega) hz
    have hcv : cutV r f (x : Int) (z : Int) = (cutTo (walkedTo r f (0 ||| 1 <<< x) (z : Int) (r.days - (z : Int)).toNat) r.strips.length, 0) := by rw [cutV, if_pos hz0]; rfl
    rw [hcv] at hgi ⊢
    clear hz0 hcv
    have hzD : z < D := by have := HD.out; omega
    have hgl := cutTo_le (walkedTo r f (0 ||| 1 <<< x) (z : Int) (r.days - (z : Int)).toNat) r.strips.length
    generalize hn0 : (0 ||| 1 <<< x) = n0 at hgi hgl ⊢
    have HN0 := Lib.hid hn0; clear hn0
    generalize hLL : cutTo (walkedTo r f n0 (z : Int) (r.days - (z : Int)).toNat) r.strips.length = LL at hgi hgl ⊢
    have HLL := Lib.hid hLL; clear hLL
    have HRFQ := Lib.hid (HRFT.out.below hbQ)
    have HGQ := Lib.hid (HGT.out.below hbQ)
    have HGI := Lib.hid hgi; clear hgi
    clear c0 c1 c2 e0 e1 hbQ HRFT HGT
    have c0 := HRFQ.out.c0
    have c1 := HRFQ.out.c1
    have c2 := HRFQ.out.c2
    have e0 := HRFQ.out.d0
    have e1 := HRFQ.out.d1
    go_wp2_with fail
    refine (Comes_good wQ G.out va vc S HS.out HRFQ.out.strips x z hxS hz).mono ?_
    rintro e w8 ⟨gl, lc, rfl, hdays, hb8⟩
    have HRF8 := Lib.hid (HRFQ.out.below hb8)
    have HG8 := Lib.hid (HGQ.out.below hb8)
    have HGI8 := Lib.hid (HGI.out.below hb8)
    have HL8 := Lib.hid hdays; clear hdays
    clear c0 c1 c2 e0 e1 hb8 HRFQ HGQ HGI
    have c1 := HRF8.out.c1
    have c2 := HRF8.out.c2
    rw [HS.out] at c1
    obtain ⟨N, hN⟩ : ∃ N, r.strips.length = N := ⟨_, rfl⟩
    rw [hN] at c2 hl8 hgl
    have HN := Lib.hid hN; clear hN
    have hmk := run_make_row' (P := Try.prog) 70 4 (.bool false) 1 Try.underlying70 info_bool rfl .i64 .i64 N (by omega) (by omega)
    have hbr0 : BRow (w8.alloc (.cells (madeCells #[.bool false] N) 4)) w8.heap.size N (fun _ => false) := by unfold BRow; rw [heap_alloc_new, tab_made]
    have hbm : Below w8.heap.size w8 (w8.alloc (.cells (madeCells #[.bool false] N) 4)) := (Below.refl _ _).alloc (Nat.le_refl _) _
    have HBR0 := Lib.hid hbr0; clear hbr0
    have HBM := Lib.hid hbm; clear hbm
    go_wp2_with fail
    clear c1 c2 hmk
    go_loopw [15] (fun v15 wx => ∃ k : Nat, z + k ≤ D ∧ v15 = .int .i64 ((z + k : Nat) : Int) ∧ BRow wx w8.heap.size N (walkedTo r f n0 (z : Int) k) ∧ Below w8.heap.size w8 wx) (fun v _ => D - (intOf v).toNat)
    case atStart => exact ⟨0, by omega, rfl, HBR0.out, HBM.out⟩
    case round =>
      clear HBR0 HBM
      obtain ⟨k, hk, rfl, hrow, hbr⟩ := hrel
      have hrf := HRF8.out.below hbr
      have c0 := hrf.c0
      rw [HD.out] at c0
      have HROW := Lib.hid hrow; clear hrow
      have HRFr := Lib.hid hrf; clear hrf
      have HGr := Lib.hid (HG8.out.below hbr)
      have HBR := Lib.hid hbr; clear hbr
      by_cases hkD : z + k < D
      · generalize hd : z + k = d at hkD ⊢
        have HDK := Lib.hid hd; clear hd
        have q1 : (d : Int) < (D : Int) := by omega
        go_wp2_with fail
        clear c0
        have c0 := HRFr.out.c0
        have c1 := HRFr.out.c1
        have c2 := HRFr.out.c2
        rw [HN.out] at c2
        have y0 := HGr.out.row (Nat.le_refl _) hkD
        rw [HN.out] at y0
        go_cut [16] (fun v16 wx => ∃ GF gbF M, v16 = .slice (some ⟨GF, 0, none⟩) S S ∧ Grid wx wr.heap.size GF 27 3 S S S gbF (gInt M) ∧ Far r f (d : Int) S M ∧ Below wr.heap.size wr wx)
        case first =>
          have hW := walks_any wr.drew G.out (d : Int) va vc S HS.out HRFr.out.drew.strips (gbT d) r.strips.length (fun j hj => HGr.out.cell hkD hj)
          rw [← HS.out, HN.out] at hW
          have HW := Lib.hid hW; clear hW
          go_region_held3 (fun w' => w'.cell? ⟨p, 0, none⟩ = some (.int .i64 r.days) ∧ w'.cell? ⟨p, 1, none⟩ = some (.int .i64 r.stages) ∧ w'.cell? ⟨p, 2, none⟩ = some (.slice va N vc) ∧ w'.cell? ⟨GT, d, none⟩ = some (.slice (some ⟨gbT d, 0, none⟩) N N)) (first | exact ⟨m0, m1, m2, m3⟩ | exact ⟨c0, c1, c2, y0⟩)
            (first | (go_at_call 47; refine HW.out.mono ?_; rintro e wF ⟨GF, gbF, M, rfl, hgF, hfar, hbF⟩; have HGF := Lib.hid hgF; have HFAR := Lib.hid hfar; have HBF := Lib.hid ((Below.refl wr.heap.size wr).drew.trans hbF); have m0 := ((bcell hbF).1 _ _ (lt_of_cell c0)).trans c0; have m1 := ((bcell hbF).1 _ _ (lt_of_cell c1)).trans c1; have m2 := ((bcell hbF).1 _ _ (lt_of_cell c2)).trans c2; have m3 := ((bcell hbF).1 _ _ (lt_of_cell y0)).trans y0; clear hgF hfar hbF))
          all_goals (go_wp2_with fail; go_meet; exact ⟨GF, gbF, M, rfl, HGF.out, HFAR.out, HBF.out⟩)
        case rest =>
          obtain ⟨GF, gbF, M, rfl, hgF, hfar, hbF⟩ := hcut
          clear c0 c1 c2 y0
          have hgw : w8.heap.size < wr.heap.size := (Array.getElem?_eq_some_iff.1 HROW.out).1
          have HGF := Lib.hid (hgF.mono hgw); clear hgF
          have HFAR := Lib.hid hfar; clear hfar
          have HBF := Lib.hid (HBR.out.trans (hbF.mono HBR.out.size)); clear HBR
          have HROWF := Lib.hid (HROW.out.below hbF); clear HROW
          clear hbF HRFr HGr
          generalize hnk : nightsTo r f (-1) n0 (z : Int) k = nk
          have HNK := Lib.hid hnk; clear hnk
          obtain ⟨wF, hwF⟩ : ∃ wF, wF = wc := ⟨_, rfl⟩
          rw [← hwF] at HGF HBF HROWF
          go_wp2_with fail
          go_loopw [17] (fun v17 wx => ∃ s : Nat, s ≤ S ∧ v17 = .int .i64 (s : Int) ∧ BRow wx w8.heap.size N (fun i => walkedTo r f n0 (z : Int) k i || fromTo r f (d : Int) M nk i s) ∧ Ext w8.heap.size wF wx ∧ Below w8.heap.size w8 wx) (fun v _ => S - (intOf v).toNat)
          case atStart => exact ⟨0, Nat.zero_le _, rfl, by rw [← hwF]; exact HROWF.out.congr fun i _ => by simp [fromTo], by rw [← hwF]; exact Ext.refl _ _, by rw [← hwF]; exact HBF.out⟩
          case round =>
            clear hwF HROWF HBF
            obtain ⟨s, hs, rfl, hrow, hex, hbx⟩ := hrel
            have hrf := HRF8.out.below hbx
            have c1 := hrf.c1
            rw [HS.out] at c1
            have HRFs := Lib.hid hrf; clear hrf
            have HROW := Lib.hid hrow; clear hrow
            have HEX := Lib.hid hex; clear hex
            have HBX := Lib.hid hbx; clear hbx
            by_cases hsS : s < S
            · have q3 : (s : Int) < (S : Int) := by omega
              have hls : s < (comesL r f (-1) x (z : Int)).length := by rw [comesL_len, HS.out]; exact hsS
              have y2 := HL8.out.below HBX.out s hls
              have h0 : k = 0 → nk.testBit s = decide (s = x) := by
                rintro rfl
                rw [← HNK.out, nightsTo, ← HN0.out, testBit_or_one]
                simp [eq_comm]
              have h1 : k ≠ 0 → nk.testBit s = (decide (0 ≤ (comesL r f (-1) x (z : Int))[s]) && decide ((comesL r f (-1) x (z : Int))[s] ≤ (d : Int) - 1)) := by
                intro hk0
                have := there_nights G.out (x := x) (z := z) (k := k - 1) (t := s) HS.out (by have := HDK.out; have := HD.out; omega) hsS hls
                rw [show k - 1 + 1 = k by omega, show ((z + (k - 1) : Nat) : Int) = (d : Int) - 1 by have := HDK.out; omega, HN0.out, HNK.out] at this
                exact this.symm
              have ew : IntKind.i64.wrap ((d : Int) - 1) = (d : Int) - 1 := IntWalk.i64_in _ (by omega)
              generalize (comesL r f (-1) x (z : Int))[s] = yl at y2 h1
              generalize hbit : nk.testBit s = bit at h0 h1
              have HBIT := Lib.hid hbit; clear hbit
              have H0 := Lib.hid h0; clear h0
              have H1 := Lib.hid h1; clear h1
              clear hls
              go_upto_region 17 with (fail)
              clear c1
              go_cut [122] (fun v122 wx => v122 = .bool (!bit) ∧ wx = wr)
              case first =>
                by_cases hdz : d = z
                · have hk0 : k = 0 := by have := HDK.out; omega
                  have hb0 := H0.out hk0
                  have d1 : ((d : Int) == (z : Int)) = true := by simp [hdz]
                  have d4 : ¬ (z : Int) < (d : Int) := by omega
                  by_cases hsx : s = x
                  · have HV := Lib.hid (show bit = true by rw [hb0]; simp [hsx])
                    have d3 : ((s : Int) == (x : Int)) = true := by simp [hsx]
                    have d5 : ((s : Int) != (x : Int)) = false := by simp [hsx]
                    clear hb0 hsx hdz hk0
                    go_wp2_with fail
                    go_meet
                    exact ⟨by rw [HV.out]; rfl, rfl⟩
                  · have HV := Lib.hid (show bit = false by rw [hb0]; simp [hsx])
                    have d3 : ((s : Int) == (x : Int)) = false := by simp; omega
                    have d5 : ((s : Int) != (x : Int)) = true := by simp; omega
                    clear hb0 hsx hdz hk0
                    go_wp2_with fail
                    go_meet
                    exact ⟨by rw [HV.out]; rfl, rfl⟩
                · have hk0 : k ≠ 0 := by have := HDK.out; omega
                  have hb1 := H1.out hk0
                  have d1 : ((d : Int) == (z : Int)) = false := by simp; omega
                  have d3 : z < d := by have := HDK.out; omega
                  have d4 : (z : Int) < (d : Int) := by omega
                  have HV := Lib.hid hb1.symm; clear hb1 hdz hk0
                  go_wp2_with fail
                  refine (there_is _ _ _ HV.out).mono ?_
                  rintro e w12 ⟨rfl, rfl⟩
                  go_wp2_with fail
                  go_meet
                  exact ⟨rfl, rfl⟩
              case rest =>
                obtain ⟨rfl, rfl⟩ := hcut
                clear y2 H0 H1 ew
                cases bit
                · have HE := Lib.hid (show ∀ i, fromTo r f (d : Int) M nk i (s + 1) = fromTo r f (d : Int) M nk i s from fun i => by rw [fromTo, HBIT.out]; simp)
                  go_wp2_with fail
                  exact ⟨⟨s + 1, by omega, by go_num, HROW.out.congr fun i _ => by rw [HE.out], HEX.out, HBX.out⟩, by simp [intOf]; omega⟩
                · have HE := Lib.hid (show ∀ i, fromTo r f (d : Int) M nk i (s + 1) = (fromTo r f (d : Int) M nk i s || fromB r f (d : Int) M s i) from fun i => by rw [fromTo, HBIT.out]; simp)
                  go_wp2_with fail
                  go_loopw [18] (fun v18 wx => ∃ j : Nat, j ≤ N ∧ v18 = .int .i64 (j : Int) ∧ BRow wx w8.heap.size N (fun i => (walkedTo r f n0 (z : Int) k i || fromTo r f (d : Int) M nk i s) || (decide (i < j) && fromB r f (d : Int) M s i)) ∧ Ext w8.heap.size wF wx ∧ Below w8.heap.size w8 wx) (fun v _ => N - (intOf v).toNat)
                  case atStart => exact ⟨0, Nat.zero_le _, rfl, HROW.out.congr fun i _ => by simp, HEX.out, HBX.out⟩
                  case round =>
                    clear HROW HEX HBX HRFs
                    obtain ⟨j, hj, rfl, hrow, hex, hbx⟩ := hrel
                    have hrf := HRF8.out.below hbx
                    have c2 := hrf.c2
                    rw [HN.out] at c2
                    have HRFj := Lib.hid hrf; clear hrf
                    have HROW := Lib.hid hrow; clear hrow
                    have HEX := Lib.hid hex; clear hex
                    have HBX := Lib.hid hbx; clear hbx
                    by_cases hjN : j < N
                    · have hjl : j < r.strips.length := by rw [HN.out]; exact hjN
                      have hsk : r.strips[j]? = some r.strips[j] := List.getElem?_eq_getElem hjl
                      obtain ⟨a1, a2, a3, a4, a5, a6, a7, _⟩ := G.out.strip _ (List.mem_of_getElem? hsk)
                      rcases HRFj.out.strips with hst0 | ⟨sb, so, ha, hcs⟩
                      · rw [hst0] at hjl; simp at hjl
                      obtain ⟨s0, s1, s2, s3, s4, s5, s6⟩ := hcs j hjl
                      clear hcs
                      have hFB : fromB r f (d : Int) M s j = (openB r f (-1) j (d : Int) && decide (min (M s r.strips[j].A.toNat) (M s r.strips[j].B.toNat) + r.strips[j].L ≤ f.pace)) := by unfold fromB; rw [hsk]
                      generalize r.strips[j] = xs at hsk a1 a2 a3 a4 a5 a6 a7 s0 s1 s2 s3 s4 s5 s6 hFB
                      obtain ⟨aN, hA⟩ := Int.eq_ofNat_of_zero_le a1
                      obtain ⟨bN, hB⟩ := Int.eq_ofNat_of_zero_le a3
                      rw [hA] at s0 hFB
                      rw [hB] at s1 hFB
                      simp only [Int.toNat_natCast] at hFB
                      have hFB' : fromB r f (d : Int) M s j = (openB r f (-1) j (d : Int) && decide (min (M s aN) (M s bN) + xs.L ≤ f.pace)) := by
                        rw [hFB]
                      clear hFB
                      have hFB := hFB'
                      clear hFB'
                      have haS : aN < S := by have := HS.out; omega
                      have hbS : bN < S := by have := HS.out; omega
                      rw [ha] at c2
                      clear hA hB a1 a2 a3 a4 a5 ha hsk
                      go_upto_region 22 with (fail)
                      have hba : Below wr.heap.size wr (wr.alloc (.cells #[.int .i64 (aN : Int), .int .i64 (bN : Int), .int .i64 xs.L, .int .i64 xs.W, .int .i64 xs.K, .int .i64 xs.X, .int .i64 xs.Y] 57)) := (Below.refl _ _).alloc (Nat.le_refl _) _
                      have t0 : (wr.alloc (.cells #[.int .i64 (aN : Int), .int .i64 (bN : Int), .int .i64 xs.L, .int .i64 xs.W, .int .i64 xs.K, .int .i64 xs.X, .int .i64 xs.Y] 57)).cell? ⟨wr.heap.size, 0, none⟩ = some (.int .i64 (aN : Int)) := by simp [go_sem]
                      have t1 : (wr.alloc (.cells #[.int .i64 (aN : Int), .int .i64 (bN : Int), .int .i64 xs.L, .int .i64 xs.W, .int .i64 xs.K, .int .i64 xs.X, .int .i64 xs.Y] 57)).cell? ⟨wr.heap.size, 1, none⟩ = some (.int .i64 (bN : Int)) := by simp [go_sem]
                      have t2 : (wr.alloc (.cells #[.int .i64 (aN : Int), .int .i64 (bN : Int), .int .i64 xs.L, .int .i64 xs.W, .int .i64 xs.K, .int .i64 xs.X, .int .i64 xs.Y] 57)).cell? ⟨wr.heap.size, 2, none⟩ = some (.int .i64 xs.L) := by simp [go_sem]
                      have HEX1 := Lib.hid (HEX.out.trans (Ext.of_below hba)); clear HEX
                      have HBX1 := Lib.hid (HBX.out.trans (hba.mono HBX.out.size)); clear HBX
                      have HROW1 := Lib.hid (HROW.out.below hba); clear HROW
                      generalize (wr.alloc (.cells #[.int .i64 (aN : Int), .int .i64 (bN : Int), .int .i64 xs.L, .int .i64 xs.W, .int .i64 xs.K, .int .i64 xs.X, .int .i64 xs.Y] 57)) = W1 at t0 t1 t2 HEX1 HBX1 HROW1 ⊢
                      generalize wr.heap.size = sp at t0 t1 t2 ⊢
                      have u0 := (HG8.out.below HBX1.out).row (Nat.le_refl _) hkD
                      have u1 := (HG8.out.below HBX1.out).cell hkD (show j < r.strips.length by rw [HN.out]; exact hjN)
                      rw [HN.out] at u0
                      have u2 := HEX1.out.cell_ne (HGF.out.row (Nat.le_refl _) hsS) (by have := HGF.out.bG; omega)
                      have u3 := HEX1.out.cell_ne (HGF.out.cell hsS haS) (by have := HGF.out.bI s hsS; omega)
                      have u4 := HEX1.out.cell_ne (HGF.out.cell hsS hbS) (by have := HGF.out.bI s hsS; omega)
                      unfold gInt at u3 u4
                      have u5 := (HRF8.out.below HBX1.out).d1
                      have m0 := HROW1.out.cell hjN
                      have m1 := HROW1.out.free j
                      have hm0 : ((walkedTo r f n0 (z : Int) k j || fromTo r f (d : Int) M nk j s) || (decide (j < j) && fromB r f (d : Int) M s j)) = (walkedTo r f n0 (z : Int) k j || fromTo r f (d : Int) M nk j s) := by simp
                      rw [hm0] at m0
                      have l1 := HFAR.out.lo s aN hsS haS
                      have l2 := HFAR.out.hi s aN hsS haS
                      have l3 := HFAR.out.lo s bN hsS hbS
                      have l4 := HFAR.out.hi s bN hsS hbS
                      have hset : ∀ v : Bool, v = ((walkedTo r f n0 (z : Int) k j || fromTo r f (d : Int) M nk j s) || fromB r f (d : Int) M s j) → BRow (W1.setCell ⟨w8.heap.size, j, none⟩ (.bool v)).drew w8.heap.size N (fun i => (walkedTo r f n0 (z : Int) k i || fromTo r f (d : Int) M nk i s) || (decide (i < j + 1) && fromB r f (d : Int) M s i)) :=
                        fun v hv => ((HROW1.out.set j v).congr fun i _ => hit_set (A := fun i => walkedTo r f n0 (z : Int) k i || fromTo r f (d : Int) M nk i s) (B := fun i => fromB r f (d : Int) M s i) hv i).below (Below.refl _ _).drew
                      rw [hFB] at hset
                      generalize (walkedTo r f n0 (z : Int) k j || fromTo r f (d : Int) M nk j s) = acc at m0 hset
                      generalize openB r f (-1) j (d : Int) = ov at u1 hset
                      obtain ⟨ma, hma⟩ : ∃ ma, M s aN = ma := ⟨_, rfl⟩
                      obtain ⟨mb, hmb⟩ : ∃ mb, M s bN = mb := ⟨_, rfl⟩
                      rw [hma] at u3 l1 l2
                      rw [hmb] at u4 l3 l4
                      have hset2 : ∀ v : Bool, v = (acc || (ov && decide (min ma mb + xs.L ≤ f.pace))) → BRow (W1.setCell ⟨w8.heap.size, j, none⟩ (.bool v)).drew w8.heap.size N (fun i => (walkedTo r f n0 (z : Int) k i || fromTo r f (d : Int) M nk i s) || (decide (i < j + 1) && fromB r f (d : Int) M s i)) := fun v hv => hset v (by rw [hma, hmb]; exact hv)
                      clear hset hma hmb
                      have HSET := Lib.hid hset2; clear hset2 hm0 hFB
                      have q4 : (j : Int) < (N : Int) := by omega
                      have q5 : (aN : Int) < (S : Int) := by omega
                      have q6 : (bN : Int) < (S : Int) := by omega
                      have q7 : (d : Int) < (D : Int) := by omega
                      clear s0 s1 s2 s3 s4 s5 s6 c2 hba
                      obtain ⟨W2, hW2⟩ : ∃ W2 : World, W2 = W1.drew := ⟨_, rfl⟩
                      have HK2 := Lib.hid (show ∀ b o v, W1.cell? ⟨b, o, none⟩ = some v → W2.cell? ⟨b, o, none⟩ = some v from fun b o v h => by rw [hW2]; exact h)
                      replace t0 := HK2.out _ _ _ t0
                      replace t1 := HK2.out _ _ _ t1
                      replace t2 := HK2.out _ _ _ t2
                      replace u0 := HK2.out _ _ _ u0
                      replace u1 := HK2.out _ _ _ u1
                      replace u2 := HK2.out _ _ _ u2
                      replace u3 := HK2.out _ _ _ u3
                      replace u4 := HK2.out _ _ _ u4
                      replace u5 := HK2.out _ _ _ u5
                      replace m0 := HK2.out _ _ _ m0
                      replace m1 : W2.frozen? ⟨w8.heap.size, j, none⟩ = false := by rw [hW2]; exact m1
                      have HSET2 := Lib.hid (show ∀ v : Bool, v = (acc || (ov && decide (min ma mb + xs.L ≤ f.pace))) → BRow (W2.setCell ⟨w8.heap.size, j, none⟩ (.bool v)) w8.heap.size N (fun i => (walkedTo r f n0 (z : Int) k i || fromTo r f (d : Int) M nk i s) || (decide (i < j + 1) && fromB r f (d : Int) M s i)) from fun v hv => by rw [hW2]; exact HSET.out v hv); clear HSET
                      have HEX2 := Lib.hid (show Ext w8.heap.size wF W2 by rw [hW2]; exact HEX1.out.trans (Ext.of_below (Below.refl _ _).drew)); clear HEX1
                      have HBX2 := Lib.hid (show Below w8.heap.size w8 W2 by rw [hW2]; exact HBX1.out.drew); clear HBX1
                      have HW2 := Lib.hid hW2; clear hW2
                      clear HK2 HROW1
                      have e1 : IntKind.i64.wrap (min ma mb + xs.L) = min ma mb + xs.L := IntWalk.i64_in _ (by omega)
                      have HW64 := Lib.hid (show wrap64 (min ma mb + xs.L) = min ma mb + xs.L by unfold wrap64; omega)
                      have HMIN := Lib.hid (show (if mb < ma then mb else ma) = min ma mb by split <;> omega)
                      clear l1 l2 l3 l4 hj hs
                      refine still_tail_at HW2.out 41 (by kernel_rfl) (by kernel_rfl) ?_
                      simp only [List.take_succ_cons, List.take_zero, List.drop_succ_cons, List.drop_zero]
                      refine still_of_quiet _ _ ?_
                      clear HW2
                      cases acc
                      · cases ov
                        · skip
                          repeat (go_big_quiet_step (fail))
                          refine wpQuiet_nil ?_
                          go_wp2_with fail
                          exact ⟨⟨j + 1, by omega, by go_num, HSET2.out _ (by first | (simp; done) | (simp; rw [HMIN.out, HW64.out])), HEX2.out.trans (Ext.setCell _ _ _), HBX2.out.setCell (p := ⟨w8.heap.size, j, none⟩) (Nat.le_refl _) _⟩, by simp [intOf]; omega⟩
                        · skip
                          repeat (go_big_quiet_step (fail))
                          refine wpQuiet_nil ?_
                          go_wp2_with fail
                          exact ⟨⟨j + 1, by omega, by go_num, HSET2.out _ (by first | (simp; done) | (simp; rw [HMIN.out, HW64.out])), HEX2.out.trans (Ext.setCell _ _ _), HBX2.out.setCell (p := ⟨w8.heap.size, j, none⟩) (Nat.le_refl _) _⟩, by simp [intOf]; omega⟩
                      · skip
                        repeat (go_big_quiet_step (fail))
                        refine wpQuiet_nil ?_
                        go_wp2_with fail
                        exact ⟨⟨j + 1, by omega, by go_num, HSET2.out _ (by first | (simp; done) | (simp; rw [HMIN.out, HW64.out])), HEX2.out.trans (Ext.setCell _ _ _), HBX2.out.setCell (p := ⟨w8.heap.size, j, none⟩) (Nat.le_refl _) _⟩, by simp [intOf]; omega⟩
                    · obtain rfl : j = N := by omega
                      go_wp2_with fail
                      exact ⟨⟨s + 1, by omega, by go_num, HROW.out.congr fun i hi => by rw [HE.out]; simp [hi, Bool.or_assoc], HEX.out, HBX.out⟩, by simp [intOf]; omega⟩
            · obtain rfl : s = S := by omega
              go_wp2_with fail
              have hdd : (z : Int) + (k : Int) = (d : Int) := by have := HDK.out; omega
              exact ⟨⟨k + 1, by have := HDK.out; omega, by have := HDK.out; rw [show z + (k + 1) = d + 1 by omega]; go_num, HROW.out.congr fun i _ => by rw [from_all G.out HS.out HFAR.out, walkedTo, HNK.out, hdd], HBX.out⟩, by simp [intOf]; omega⟩
      · have q1 : ¬ ((z + k : Nat) : Int) < (D : Int) := by omega
        have hkk : k = (r.days - (z : Int)).toNat := by have := HD.out; omega
        have HKK := Lib.hid hkk; clear hkk
        have HGIr := Lib.hid (HGI8.out.below HBR.out)
        have hgB : w8.heap.size < wr.heap.size := (Array.getElem?_eq_some_iff.1 HROW.out).1
        obtain ⟨B, hB⟩ : ∃ B, wr.heap.size = B := ⟨_, rfl⟩
        rw [hB] at hgB
        have HBB := Lib.hid (show B ≤ wr.heap.size by omega); clear hB
        go_wp2_with fail
        clear c0
        go_loopw [20, 21] (fun v20 v21 wx => ∃ j : Nat, j ≤ N ∧ v21 = .int .i64 (j : Int) ∧ OwnInts wx B v20 (cutTo (walkedTo r f n0 (z : Int) k) j) ∧ BRow wx w8.heap.size N (walkedTo r f n0 (z : Int) k) ∧ Below w8.heap.size w8 wx ∧ B ≤ wx.heap.size) (fun _ v _ => N - (intOf v).toNat)
        case atStart => exact ⟨0, Nat.zero_le _, rfl, OwnInts.nil _ _, HROW.out, HBR.out, HBB.out⟩
        case round =>
          clear HROW HBR HRFr HGr HGIr HBB
          obtain ⟨j, hj, rfl, hown, hrow, hbw, hBz⟩ := hrel
          have hle := cutTo_le (walkedTo r f n0 (z : Int) k) j
          have HOW := Lib.hid hown; clear hown
          have HBW := Lib.hid hbw; clear hbw
          by_cases hjN : j < N
          · have m0 := hrow.cell hjN
            have HROW := Lib.hid hrow; clear hrow
            cases hV : walkedTo r f n0 (z : Int) k j
            · have HE := Lib.hid (show cutTo (walkedTo r f n0 (z : Int) k) (j + 1) = cutTo (walkedTo r f n0 (z : Int) k) j ++ [(j : Int)] by rw [cutTo, hV]; rfl)
              rw [hV] at m0
              clear hV
              go_wp2_with (at_builtin; refine app_int1 rfl _ _ rfl B _ _ rfl HOW.out _ rfl (by omega) hBz ?_)
              intro v' w' hown' hbel _
              go_wp2_with fail
              exact ⟨⟨j + 1, by omega, by go_num, by rw [HE.out]; exact hown', (hbel.block _ hgB).trans HROW.out, HBW.out.trans (hbel.mono (by omega)), by have := hbel.size; omega⟩, by simp [intOf]; omega⟩
            · have HE := Lib.hid (show cutTo (walkedTo r f n0 (z : Int) k) (j + 1) = cutTo (walkedTo r f n0 (z : Int) k) j by rw [cutTo, hV]; rfl)
              rw [hV] at m0
              clear hV
              go_wp2_with fail
              exact ⟨⟨j + 1, by omega, by go_num, by rw [HE.out]; exact HOW.out, HROW.out, HBW.out, hBz⟩, by simp [intOf]; omega⟩
          · obtain rfl : j = N := by omega
            clear hrow
            obtain ⟨da, dc, hv, hdi, _⟩ := HOW.out.ints
            subst hv
            rw [HKK.out] at hdi
            have hLL' : cutTo (walkedTo r f n0 (z : Int) (r.days - (z : Int)).toNat) j = LL := by rw [← HLL.out, HN.out]
            have hLe : (cutTo (walkedTo r f n0 (z : Int) k) j).length = LL.length := by rw [HKK.out, hLL']
            rw [hLL'] at hdi
            rw [hLe]
            have HG10 := Lib.hid (HGI8.out.below HBW.out)
            have HD10 := Lib.hid hdi; clear hdi
            have HRFz := Lib.hid (HRF8.out.below HBW.out)
            clear hLL' hLe
            have hm1 : LL.length ≤ maxLen := by unfold maxLen; omega
            go_wp2_with fail
            refine (SameInts_any wr ga da gac dc _ _ HG10.out HD10.out hm1 hm1).mono ?_
            rintro e w10 ⟨rfl, nn, rfl⟩
            have hd : decide (LL = LL) = true := decide_eq_true rfl
            rw [hd]
            have HB10 := Lib.hid (below_drewN HRFz.out.bel nn)
            clear hd
            generalize wr.drewN nn = w10 at HB10 ⊢
            go_wp2_with fail
            refine (afoot_any w10).mono ?_
            rintro e w11 ⟨rfl, hb11⟩
            have hbF := HB10.out.trans (hb11.mono HB10.out.size)
            clear hb11
            go_wp2_with fail
            go_ret
            exact ⟨rfl, hbF⟩
end Go.Proofs.Ytjgkgnfhglhklaa
