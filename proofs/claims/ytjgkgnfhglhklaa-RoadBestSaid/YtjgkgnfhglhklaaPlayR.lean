/- The contract of mestaref02.Play (under way: not built). -/
import Derived.Test.YtjgkgnfhglhklaaPlayP
import Derived.Test.YtjgkgnfhglhklaaLeast
namespace Go.Proofs.Ytjgkgnfhglhklaa
set_option linter.unusedSimpArgs false
set_option linter.unusedVariables false
open Go.RowKit

theorem ready_asked2 (r : Roads) (f : Flock) (x : Int) : readyErr r f [x, r.stages] = askedErr r f [x] [] := by
  unfold readyErr askedErr
  simp only [pairsErr, allIn, List.all_cons, List.all_nil, Bool.and_true]

set_option maxRecDepth 100000 in
set_option maxHeartbeats 8000000 in
theorem refPlay_any (w : World) (r : Roads) (f : Flock) (a : Option Addr) (cap : Nat) (hs : StripsAt w a r.strips) (hm : r.strips.length ≤ maxLen) (fr : Int) (pa : Option Addr) (pc : Nat) (plan : List (Int × Int)) (hp : StridesAt w pa plan) (hpl : plan.length ≤ 1000) :
    Calls Try.prog 69 #[.agg #[.int .i64 r.days, .int .i64 r.stages, .slice a r.strips.length cap], .agg #[.int .i64 f.heads, .int .i64 f.pace], .int .i64 fr, .slice pa plan.length pc] w
      fun e w' => ∃ ga gc, e = .returned (.tuple #[.slice ga (playV r f fr plan).1.length gc, .int .i64 (playV r f fr plan).2]) ∧ IntsAt w' ga (playV r f fr plan).1 ∧ Below w.heap.size w w' := by
  have hb0 : Below w.heap.size w ((w.alloc (.cells #[.int .i64 r.days, .int .i64 r.stages, .slice a r.strips.length cap] 24)).alloc (.cells #[.int .i64 f.heads, .int .i64 f.pace] 26)) := ((Below.refl _ _).alloc (Nat.le_refl _) _).alloc (by simp) _
  have x0 : ((w.alloc (.cells #[.int .i64 r.days, .int .i64 r.stages, .slice a r.strips.length cap] 24)).alloc (.cells #[.int .i64 f.heads, .int .i64 f.pace] 26)).cell? ⟨w.heap.size, 0, none⟩ = some (.int .i64 r.days) := by simp [go_sem]
  have x1 : ((w.alloc (.cells #[.int .i64 r.days, .int .i64 r.stages, .slice a r.strips.length cap] 24)).alloc (.cells #[.int .i64 f.heads, .int .i64 f.pace] 26)).cell? ⟨w.heap.size, 1, none⟩ = some (.int .i64 r.stages) := by simp [go_sem]
  have x2 : ((w.alloc (.cells #[.int .i64 r.days, .int .i64 r.stages, .slice a r.strips.length cap] 24)).alloc (.cells #[.int .i64 f.heads, .int .i64 f.pace] 26)).cell? ⟨w.heap.size, 2, none⟩ = some (.slice a r.strips.length cap) := by simp [go_sem]
  have x3 : ((w.alloc (.cells #[.int .i64 r.days, .int .i64 r.stages, .slice a r.strips.length cap] 24)).alloc (.cells #[.int .i64 f.heads, .int .i64 f.pace] 26)).cell? ⟨w.heap.size + 1, 0, none⟩ = some (.int .i64 f.heads) := by simp [go_sem]
  have x4 : ((w.alloc (.cells #[.int .i64 r.days, .int .i64 r.stages, .slice a r.strips.length cap] 24)).alloc (.cells #[.int .i64 f.heads, .int .i64 f.pace] 26)).cell? ⟨w.heap.size + 1, 1, none⟩ = some (.int .i64 f.pace) := by simp [go_sem]
  have hst := hs.below hb0
  have HPL := Lib.hid (hp.below hb0)
  have HM := Lib.hid hm; clear hm hs hp
  have HE := Lib.hid (ready_asked2 r f fr)
  go_enter Try.func69, Try.ntmps69
  go_upto_region 1 with (fail)
  generalize ((w.alloc (.cells #[.int .i64 r.days, .int .i64 r.stages, .slice a r.strips.length cap] 24)).alloc (.cells #[.int .i64 f.heads, .int .i64 f.pace] 26)) = W0 at hb0 x0 x1 x2 x3 x4 hst HPL ⊢
  have hba : Below W0.heap.size W0 (W0.alloc (.cells #[.int .i64 fr] 3)) := (Below.refl _ _).alloc (Nat.le_refl _) _
  have hak := asked_any (W0.alloc (.cells #[.int .i64 fr] 3)) r f a cap (hst.below hba) HM.out _ none 1 0 [fr] [] (ints_new (w := W0) [fr]) (.inl rfl) (by simp) (by simp)
  rw [show ([] : List Int).length = 0 from rfl, show [fr].length = 1 from rfl] at hak
  have HAK := Lib.hid hak; clear hak
  have HBA := Lib.hid hba; clear hba
  have HST := Lib.hid hst; clear hst
  have HB0 := Lib.hid hb0; clear hb0
  go_wp2_with fail
  refine HAK.out.mono ?_
  clear HAK
  rintro e w1 ⟨rfl, hb1⟩
  have HB1 := Lib.hid (HBA.out.trans (hb1.mono HBA.out.size)); clear hb1 HBA
  have y0 := ((bcell HB1.out).1 _ _ (lt_of_cell x0)).trans x0
  have y2 := ((bcell HB1.out).1 _ _ (lt_of_cell x2)).trans x2
  have y3 := ((bcell HB1.out).1 _ _ (lt_of_cell x3)).trans x3
  have y4 := ((bcell HB1.out).1 _ _ (lt_of_cell x4)).trans x4
  clear x0 x1 x2 x3 x4
  have HBW := Lib.hid (HB0.out.trans (HB1.out.mono HB0.out.size))
  by_cases hz : askedErr r f [fr] [] = 0
  · obtain ⟨g, hin, _⟩ := asked_zero hz
    have hfr : 0 ≤ fr ∧ fr < r.stages := by
      have h1 : btw fr 0 (r.stages - 1) = true := by simpa [allIn] using hin
      rw [btw_true] at h1; omega
    clear hin
    have HRD := Lib.hid (HE.out.trans hz)
    rw [hz]
    have HZ := Lib.hid hz; clear hz HE
    obtain ⟨D, hD⟩ := Int.eq_ofNat_of_zero_le (show 0 ≤ r.days by have := g.d1; omega)
    have hD1 : 1 ≤ D := by have := g.d1; omega
    have hD10 : D ≤ 10 := by have := g.d2; omega
    have hs6 := g.s2
    have hp9 := g.p2
    obtain ⟨N, hN⟩ : ∃ N, r.strips.length = N := ⟨_, rfl⟩
    have hN8 : N ≤ 8 := by have := g.n8; omega
    rw [hN] at y2
    rw [hD] at y0
    have HN := Lib.hid hN; clear hN
    have HD := Lib.hid hD; clear hD
    have HOK0 := Lib.hid (play0_ok g hfr.1 hfr.2)
    have G := Lib.hid g; clear g
    have HFR := Lib.hid hfr; clear hfr
    have hmk := run_make_row' (P := Try.prog) 27 3 (.int .i64 0) 8 Try.underlying27 info_int rfl .i64 .i64 D (by omega) (by omega)
    go_upto_region 5 with (fail)
    have hbm : Below w1.heap.size w1 (w1.alloc (.cells (madeCells #[.int .i64 0] D) 3)) := (Below.refl _ _).alloc (Nat.le_refl _) _
    have hrow : IRow (w1.alloc (.cells (madeCells #[.int .i64 0] D) 3)) w1.heap.size D (fun _ => 0) := by unfold IRow; rw [heap_alloc_new, tab_made]
    have X0 := Lib.hid y0; clear y0
    have X2 := Lib.hid y2; clear y2
    have X3 := Lib.hid y3; clear y3
    have X4 := Lib.hid y4; clear y4
    have HROW := Lib.hid hrow; clear hrow
    have HBM := Lib.hid hbm; clear hbm
    have HST1 := Lib.hid (HST.out.below HB1.out); clear HST
    have HPL1 := Lib.hid (HPL.out.below HB1.out); clear HPL hmk
    have HGR := Lib.hid (show w1.heap.size ≤ w1.heap.size from Nat.le_refl _)
    generalize (w1.alloc (.cells (madeCells #[.int .i64 0] D) 3)) = WM at HROW HBM ⊢
    obtain ⟨gr, hgr⟩ : ∃ gr, w1.heap.size = gr := ⟨_, rfl⟩
    rw [hgr] at HROW HGR ⊢
    have HGE := Lib.hid hgr; clear hgr
    go_wp2_with fail
    go_loopw [12] (fun v12 wx => ∃ k : Nat, k ≤ D ∧ v12 = .int .i64 (k : Int) ∧ IRow wx gr D (fun j => if j < k then fr else 0) ∧ Below w1.heap.size w1 wx) (fun v _ => D - (intOf v).toNat)
    case atStart => exact ⟨0, Nat.zero_le _, rfl, HROW.out.congr fun j _ => by simp, HBM.out⟩
    case round =>
      obtain ⟨k, hk, rfl, hrow, hb⟩ := hrel
      clear HROW HBM
      have c0 := ((bcell hb).1 _ _ (lt_of_cell X0.out)).trans X0.out
      have HB := Lib.hid hb; clear hb
      by_cases hkD : k < D
      · have m0 := hrow.cell hkD
        have m1 := hrow.free k
        have q1 : (k : Int) < (D : Int) := by omega
        have HSET := Lib.hid (hrow.set k fr); clear hrow
        go_wp2_with fail
        exact ⟨⟨k + 1, by omega, by go_num, HSET.out.congr fun j _ => by
          by_cases e : j = k
          · subst e; simp
          · by_cases c : j < k
            · simp [e, c, show j < k + 1 by omega]
            · simp [e, c, show ¬ j < k + 1 by omega], HB.out.setCell (p := ⟨gr, k, none⟩) (by show w1.heap.size ≤ gr; have := HGE.out; omega) _⟩, by simp [intOf]; omega⟩
      · obtain rfl : k = D := by omega
        have HROW := Lib.hid (show IRow wr gr k (play0 fr).out from hrow.congr fun j hj => by rw [if_pos hj]; rfl); clear hrow
        have HB2 := HB; clear HB
        go_wp2_with fail
        clear c0
        obtain ⟨n, hn⟩ : ∃ n, plan.length = n := ⟨_, rfl⟩
        rw [hn] at hpl ⊢
        have HPN := Lib.hid hn; clear hn
        go_loopw [13, 14, 15, 16] (fun v13 v14 v15 v16 wx => ∃ (i : Nat) (s : PS), i ≤ n ∧ v16 = .int .i64 (i : Int) ∧ v13 = .int .i64 s.pos ∧ v14 = .int .i64 s.day ∧ v15 = .int .i64 s.walked ∧ playGo r f (plan.take i) (play0 fr) = .ok s ∧ PSOk r f s ∧ IRow wx gr k s.out ∧ Below w1.heap.size w1 wx) (fun _ _ _ v _ => n - (intOf v).toNat)
        case atStart => exact ⟨0, play0 fr, Nat.zero_le _, rfl, rfl, rfl, rfl, rfl, HOK0.out, HROW.out, HB2.out⟩
        case round =>
          clear HROW HB2
          obtain ⟨i, s, hi, rfl, rfl, rfl, rfl, hgo, hok, hrow, hb⟩ := hrel
          have HGO := Lib.hid hgo; clear hgo
          have HOK := Lib.hid hok; clear hok
          have HR := Lib.hid hrow; clear hrow
          have HB := Lib.hid hb
          by_cases hin : i < n
          · have hlt : i < plan.length := by rw [HPN.out]; exact hin
            rcases HPL1.out.below hb with h0 | ⟨pb, po, rfl, hpc⟩
            · rw [h0] at hlt; simp at hlt
            obtain ⟨z0, z1⟩ := hpc i hlt
            clear hpc hb
            obtain ⟨⟨d, q⟩, hx⟩ : ∃ x, plan[i] = x := ⟨_, rfl⟩
            rw [hx] at z0 z1
            have HPX := Lib.hid hx; clear hx
            dsimp only at z0 z1
            have q1 : (i : Int) < (n : Int) := by omega
            go_upto_region 14 with (fail)
            have hA : Below wr.heap.size wr (wr.alloc (.cells #[.int .i64 d, .int .i64 q] 89)) := (Below.refl _ _).alloc (Nat.le_refl _) _
            have t0 : (wr.alloc (.cells #[.int .i64 d, .int .i64 q] 89)).cell? ⟨wr.heap.size, 0, none⟩ = some (.int .i64 d) := by simp [go_sem]
            have t1 : (wr.alloc (.cells #[.int .i64 d, .int .i64 q] 89)).cell? ⟨wr.heap.size, 1, none⟩ = some (.int .i64 q) := by simp [go_sem]
            have HR2 := Lib.hid (HR.out.below hA); clear HR
            have hb2 := HB.out.trans (hA.mono HB.out.size)
            clear hA z0 z1
            generalize (wr.alloc (.cells #[.int .i64 d, .int .i64 q] 89)) = W2 at t0 t1 HR2 hb2 ⊢
            generalize wr.heap.size = tp at t0 t1 ⊢
            have c0 := ((bcell hb2).1 _ _ (lt_of_cell X0.out)).trans X0.out
            have c2 := ((bcell hb2).1 _ _ (lt_of_cell X2.out)).trans X2.out
            have HST2 := Lib.hid (HST1.out.below hb2)
            have HB2 := Lib.hid hb2; clear hb2
            have q2 : IntKind.i64.wrap ((k : Int) - 1) = (k : Int) - 1 := IntWalk.i64_in _ (by omega)
            have q3 : IntKind.i64.wrap ((N : Int) - 1) = (N : Int) - 1 := IntWalk.i64_in _ (by omega)
            have hbd : btw d 0 (r.days - 1) = btw d 0 ((k : Int) - 1) := by rw [HD.out]
            have hbq : btw q 0 ((r.strips.length : Int) - 1) = btw q 0 ((N : Int) - 1) := by rw [HN.out]
            have HBD := Lib.hid hbd; clear hbd
            have HBQ := Lib.hid hbq; clear hbq
            go_wp2_with fail
            refine (inside_any _ _ _ _).mono ?_
            rintro e w' ⟨rfl, rfl⟩
            cases h1 : btw d 0 ((k : Int) - 1)
            · have H1 := Lib.hid h1; clear h1
              have hstep : playStep r f s (d, q) = .error 3 := by
                rw [playStep, if_pos (by dsimp only; rw [HBD.out, H1.out]; rfl)]
              have HV := Lib.hid (show playV r f fr plan = ([], 3) by rw [playV, if_pos HRD.out, playGo_err hlt HGO.out (e := 3) (by rw [HPX.out]; exact hstep)])
              clear hstep
              go_wp2_with fail
              go_ret2
              rw [HV.out]
              exact ⟨none, 0, rfl, .inl rfl, HBW.out.trans (HB2.out.mono HBW.out.size)⟩
            · have H1 := Lib.hid h1; clear h1
              go_wp2_with fail
              refine (inside_any _ _ _ _).mono ?_
              rintro e w' ⟨rfl, rfl⟩
              cases h2 : btw q 0 ((N : Int) - 1)
              · have H2 := Lib.hid h2; clear h2
                have hstep : playStep r f s (d, q) = .error 3 := by
                  rw [playStep, if_pos (by dsimp only; rw [HBQ.out, H2.out]; simp)]
                have HV := Lib.hid (show playV r f fr plan = ([], 3) by rw [playV, if_pos HRD.out, playGo_err hlt HGO.out (e := 3) (by rw [HPX.out]; exact hstep)])
                clear hstep
                go_wp2_with fail
                go_ret2
                rw [HV.out]
                exact ⟨none, 0, rfl, .inl rfl, HBW.out.trans (HB2.out.mono HBW.out.size)⟩
              · have hq := btw_true.1 h2
                have hd := btw_true.1 H1.out
                have H2 := Lib.hid h2; clear h2
                have hc0 : ¬ ((!(btw d 0 (r.days - 1)) || !(btw q 0 ((r.strips.length : Int) - 1))) = true) := by rw [HBD.out, HBQ.out, H1.out, H2.out]; simp
                have HC0 := Lib.hid hc0; clear hc0
                obtain ⟨qn, rfl⟩ := Int.eq_ofNat_of_zero_le hq.1
                have hqN : qn < N := by omega
                have hql : qn < r.strips.length := by rw [HN.out]; exact hqN
                clear q2 q3 c0
                by_cases hds : d < s.day
                · have HDS := Lib.hid hds
                  have hstep : playStep r f s (d, (qn : Int)) = .error 5 := by
                    rw [playStep, if_neg HC0.out, if_pos HDS.out]
                  have HV := Lib.hid (show playV r f fr plan = ([], 5) by rw [playV, if_pos HRD.out, playGo_err hlt HGO.out (e := 5) (by rw [HPX.out]; exact hstep)])
                  clear hstep
                  go_wp2_with fail
                  go_ret2
                  rw [HV.out]
                  exact ⟨none, 0, rfl, .inl rfl, HBW.out.trans (HB2.out.mono HBW.out.size)⟩
                · have HDS := Lib.hid hds
                  have hge0 : s.day ≤ d := by omega
                  have hst : r.strips[((qn : Nat) : Int).toNat]? = some r.strips[qn] := by rw [Int.toNat_natCast]; exact List.getElem?_eq_getElem hql
                  have hstr := G.out.strip _ (List.getElem_mem hql)
                  rcases HST2.out with h0 | ⟨sb, so, rfl, hsc⟩
                  · rw [h0] at hql; simp at hql
                  obtain ⟨b0, b1, b2, b3, b4, b5, b6⟩ := hsc qn hql
                  clear hsc
                  generalize r.strips[qn] = st at hst hstr b0 b1 b2 b3 b4 b5 b6
                  have HS := Lib.hid hst; clear hst
                  have HSTR := Lib.hid hstr; clear hstr
                  have q4 : (qn : Int) < (N : Int) := by omega
                  have hgd : s.day < d ∨ s.day = d := by omega
                  rcases hgd with hgd | hgd
                  · have HGD := Lib.hid hgd
                    go_upto_region 21 with (fail)
                    have hA3 : Below W2.heap.size W2 (W2.alloc (.cells #[.int .i64 st.A, .int .i64 st.B, .int .i64 st.L, .int .i64 st.W, .int .i64 st.K, .int .i64 st.X, .int .i64 st.Y] 57)) := (Below.refl _ _).alloc (Nat.le_refl _) _
                    have s0 : (W2.alloc (.cells #[.int .i64 st.A, .int .i64 st.B, .int .i64 st.L, .int .i64 st.W, .int .i64 st.K, .int .i64 st.X, .int .i64 st.Y] 57)).cell? ⟨W2.heap.size, 0, none⟩ = some (.int .i64 st.A) := by simp [go_sem]
                    have s1 : (W2.alloc (.cells #[.int .i64 st.A, .int .i64 st.B, .int .i64 st.L, .int .i64 st.W, .int .i64 st.K, .int .i64 st.X, .int .i64 st.Y] 57)).cell? ⟨W2.heap.size, 1, none⟩ = some (.int .i64 st.B) := by simp [go_sem]
                    have s2 : (W2.alloc (.cells #[.int .i64 st.A, .int .i64 st.B, .int .i64 st.L, .int .i64 st.W, .int .i64 st.K, .int .i64 st.X, .int .i64 st.Y] 57)).cell? ⟨W2.heap.size, 2, none⟩ = some (.int .i64 st.L) := by simp [go_sem]
                    have s3 : (W2.alloc (.cells #[.int .i64 st.A, .int .i64 st.B, .int .i64 st.L, .int .i64 st.W, .int .i64 st.K, .int .i64 st.X, .int .i64 st.Y] 57)).cell? ⟨W2.heap.size, 3, none⟩ = some (.int .i64 st.W) := by simp [go_sem]
                    have s4 : (W2.alloc (.cells #[.int .i64 st.A, .int .i64 st.B, .int .i64 st.L, .int .i64 st.W, .int .i64 st.K, .int .i64 st.X, .int .i64 st.Y] 57)).cell? ⟨W2.heap.size, 4, none⟩ = some (.int .i64 st.K) := by simp [go_sem]
                    have s5 : (W2.alloc (.cells #[.int .i64 st.A, .int .i64 st.B, .int .i64 st.L, .int .i64 st.W, .int .i64 st.K, .int .i64 st.X, .int .i64 st.Y] 57)).cell? ⟨W2.heap.size, 5, none⟩ = some (.int .i64 st.X) := by simp [go_sem]
                    have s6 : (W2.alloc (.cells #[.int .i64 st.A, .int .i64 st.B, .int .i64 st.L, .int .i64 st.W, .int .i64 st.K, .int .i64 st.X, .int .i64 st.Y] 57)).cell? ⟨W2.heap.size, 6, none⟩ = some (.int .i64 st.Y) := by simp [go_sem]
                    have r0 := ((bcell hA3).1 _ _ (lt_of_cell t0)).trans t0
                    have HR3 := Lib.hid (HR2.out.below hA3)
                    have hb3 := HB2.out.trans (hA3.mono HB2.out.size)
                    clear b0 b1 b2 b3 b4 b5 b6 t0 t1 c2 hA3
                    generalize (W2.alloc (.cells #[.int .i64 st.A, .int .i64 st.B, .int .i64 st.L, .int .i64 st.W, .int .i64 st.K, .int .i64 st.X, .int .i64 st.Y] 57)) = W3 at s0 s1 s2 s3 s4 s5 s6 r0 HR3 hb3 ⊢
                    generalize W2.heap.size = sq at s0 s1 s2 s3 s4 s5 s6 ⊢
                    have c3 := ((bcell hb3).1 _ _ (lt_of_cell X3.out)).trans X3.out
                    have c4 := ((bcell hb3).1 _ _ (lt_of_cell X4.out)).trans X4.out
                    have HB3 := Lib.hid hb3; clear hb3
                    go_cut [94] (fun v94 wx => v94 = .bool (!(endOf st s.pos).2) ∧ wx = W3)
                    case first =>
                      by_cases eA : st.A = s.pos
                      · have hE : (endOf st s.pos).2 = true := by unfold endOf; rw [if_pos eA.symm]
                        have HE2 := Lib.hid hE; clear hE
                        go_wp2_with fail
                        go_meet
                        exact ⟨by rw [HE2.out]; first | rfl | simp [eA, eB], rfl⟩
                      · by_cases eB : st.B = s.pos
                        · have hE : (endOf st s.pos).2 = true := by unfold endOf; rw [if_neg (fun e => eA e.symm), if_pos eB.symm]
                          have HE2 := Lib.hid hE; clear hE
                          go_wp2_with fail
                          go_meet
                          exact ⟨by rw [HE2.out]; first | rfl | simp [eA, eB], rfl⟩
                        · have hE : (endOf st s.pos).2 = false := by unfold endOf; rw [if_neg (fun e => eA e.symm), if_neg (fun e => eB e.symm)]
                          have HE2 := Lib.hid hE; clear hE
                          go_wp2_with fail
                          go_meet
                          exact ⟨by rw [HE2.out]; first | rfl | simp [eA, eB], rfl⟩
                    case rest =>
                      obtain ⟨rfl, rfl⟩ := hcut
                      cases hend : (endOf st s.pos).2
                      · have HEND := Lib.hid hend; clear hend
                        have hstep : playStep r f s (d, (qn : Int)) = .error 12 := by
                          rw [playStep, if_neg HC0.out, if_neg (by have h0 := HGD.out; dsimp only; omega)]; dsimp only; rw [HS.out]; dsimp only; rw [if_pos HEND.out]
                        have HV := Lib.hid (show playV r f fr plan = ([], 12) by rw [playV, if_pos HRD.out, playGo_err hlt HGO.out (e := 12) (by rw [HPX.out]; exact hstep)])
                        clear hstep
                        go_wp2_with fail
                        go_ret2
                        rw [HV.out]
                        exact ⟨none, 0, rfl, .inl rfl, HBW.out.trans (HB3.out.mono HBW.out.size)⟩
                      · have HEND := Lib.hid hend; clear hend
                        have hwk : (if s.day < d then 0 else s.walked) + st.L = st.L := by
                          rw [if_pos HGD.out]; omega
                        have HWK := Lib.hid hwk; clear hwk
                        obtain ⟨v1, v2, v3, v4, v5, v6, v7, _⟩ := HSTR.out
                        obtain ⟨o1, o2, o3, o4, o5, o6, o7⟩ := HOK.out
                        have HO7 := Lib.hid o7; clear o7
                        have hwy := refWhy_any st f d wc
                        unfold Strip.val at hwy
                        have HWY := Lib.hid hwy; clear hwy
                        have q7 := G.out.p2
                        have q8 := G.out.s2
                        go_wp2_with fail
                        refine HWY.out.mono ?_
                        clear HWY
                        rintro e w5 ⟨v, rfl, hown, hb5⟩
                        have s0' := ((bcell hb5).1 _ _ (lt_of_cell s0)).trans s0
                        have s1' := ((bcell hb5).1 _ _ (lt_of_cell s1)).trans s1
                        have s2' := ((bcell hb5).1 _ _ (lt_of_cell s2)).trans s2
                        have r0' := ((bcell hb5).1 _ _ (lt_of_cell r0)).trans r0
                        have c4' := ((bcell hb5).1 _ _ (lt_of_cell c4)).trans c4
                        have HR5 := Lib.hid (HR3.out.below hb5)
                        have HB5 := Lib.hid (HB3.out.trans (hb5.mono HB3.out.size)); clear hb5
                        clear s0 s1 s2 s3 s4 s5 s6 r0 c3 c4
                        obtain ⟨L, hL⟩ : ∃ L, barsL st f d = L := ⟨_, rfl⟩
                        rw [hL] at hown
                        obtain ⟨ga, gc, rfl, _, _⟩ := hown.ints
                        have HL := Lib.hid hL; clear hL hown
                        cases L with
                        | cons l0 L' =>
                          have hstep : playStep r f s (d, (qn : Int)) = .error 9 := by
                            rw [playStep, if_neg HC0.out, if_neg (by have h0 := HGD.out; dsimp only; omega)]; dsimp only; rw [HS.out]; dsimp only; rw [if_neg (by rw [HEND.out]; simp)]; rw [if_pos (by rw [HL.out]; rfl)]
                          have HV := Lib.hid (show playV r f fr plan = ([], 9) by rw [playV, if_pos HRD.out, playGo_err hlt HGO.out (e := 9) (by rw [HPX.out]; exact hstep)])
                          clear hstep
                          go_wp2_with fail
                          go_ret2
                          rw [HV.out]
                          exact ⟨none, 0, rfl, .inl rfl, HBW.out.trans (HB5.out.mono HBW.out.size)⟩
                        | nil =>
                          by_cases hpc : f.pace < st.L
                          · have HPC := Lib.hid hpc
                            have hstep : playStep r f s (d, (qn : Int)) = .error 6 := by
                              rw [playStep, if_neg HC0.out, if_neg (by have h0 := HGD.out; dsimp only; omega)]; dsimp only; rw [HS.out]; dsimp only; rw [if_neg (by rw [HEND.out]; simp)]; rw [if_neg (by rw [HL.out]; simp), HWK.out, if_pos HPC.out]
                            have HV := Lib.hid (show playV r f fr plan = ([], 6) by rw [playV, if_pos HRD.out, playGo_err hlt HGO.out (e := 6) (by rw [HPX.out]; exact hstep)])
                            clear hstep
                            go_wp2_with fail
                            go_ret2
                            rw [HV.out]
                            exact ⟨none, 0, rfl, .inl rfl, HBW.out.trans (HB5.out.mono HBW.out.size)⟩
                          · have hstep : playStep r f s (d, (qn : Int)) = .ok ⟨(endOf st s.pos).1, d, st.L, fun j => if d ≤ (j : Int) then (endOf st s.pos).1 else s.out j⟩ := by
                              rw [playStep, if_neg HC0.out, if_neg (by have h0 := HGD.out; dsimp only; omega)]; dsimp only; rw [HS.out]; dsimp only; rw [if_neg (by rw [HEND.out]; simp)]; rw [if_neg (by rw [HL.out]; simp), HWK.out, if_neg hpc]
                            have HNEXT := Lib.hid (playGo_next hlt HGO.out (by rw [HPX.out]; exact hstep))
                            have HOK2 := Lib.hid (playStep_ok G.out HOK.out hstep)
                            clear hstep
                            obtain ⟨u1, u2, u3⟩ := playEnd ⟨v1, v2⟩ ⟨v3, v4⟩ HEND.out
                            generalize (endOf st s.pos).1 = at2 at HNEXT HOK2 u1 u2 u3
                            have HU3 := Lib.hid u3; clear u3
                            go_wp2_with fail
                            clear s0' s1' s2' r0' c4'
                            obtain ⟨dn, hdn⟩ := Int.eq_ofNat_of_zero_le hd.1
                            have hdk : dn < k := by omega
                            have HDN := Lib.hid hdn
                            go_loopw [19] (fun v19 wx => ∃ m : Nat, dn ≤ m ∧ m ≤ k ∧ v19 = .int .i64 (m : Int) ∧ IRow wx gr k (fun j => if dn ≤ j ∧ j < m then at2 else s.out j) ∧ Below w1.heap.size w1 wx) (fun v _ => k - (intOf v).toNat)
                            case atStart => exact ⟨dn, Nat.le_refl _, by omega, by rw [HDN.out], HR5.out.congr fun j _ => by rw [if_neg (by omega)], HB5.out⟩
                            case round =>
                              obtain ⟨m, hm1, hm2, rfl, hrow, hbr⟩ := hrel
                              have c0 := ((bcell hbr).1 _ _ (lt_of_cell X0.out)).trans X0.out
                              have HBR := Lib.hid hbr; clear hbr
                              clear hdn
                              by_cases hmk : m < k
                              · have m0 := hrow.cell hmk
                                have m1 := hrow.free m
                                have q9 : (m : Int) < (k : Int) := by omega
                                have HSET := Lib.hid (hrow.set m at2); clear hrow
                                have hu := HU3.out
                                rw [← hu]
                                clear hu
                                go_wp2_with fail
                                exact ⟨⟨m + 1, by omega, by omega, by go_num, HSET.out.congr fun j _ => by
                                  by_cases e : j = m
                                  · subst e; simp [hm1]
                                  · by_cases c : dn ≤ j ∧ j < m
                                    · rw [if_neg e, if_pos c, if_pos ⟨c.1, by omega⟩]
                                    · rw [if_neg e, if_neg c, if_neg (fun h => c ⟨h.1, by omega⟩)], HBR.out.setCell (p := ⟨gr, m, none⟩) (by show w1.heap.size ≤ gr; have := HGE.out; omega) _⟩, by simp [intOf]; omega⟩
                              · obtain rfl : m = k := by omega
                                have HROW := Lib.hid hrow; clear hrow
                                have hu := HU3.out
                                rw [← hu]
                                clear hu
                                go_wp2_with fail
                                refine ⟨⟨i + 1, _, by omega, by go_num, rfl, rfl, rfl, HNEXT.out, HOK2.out, HROW.out.congr fun j hj => ?_, HBR.out⟩, by simp [intOf]; omega⟩
                                have h0 := HDN.out
                                dsimp only
                                by_cases c : dn ≤ j
                                · rw [if_pos ⟨c, hj⟩, if_pos (by omega)]
                                · rw [if_neg (fun h => c h.1), if_neg (by omega)]
                  · rw [hgd] at hds hge0 ⊢
                    have HGD := Lib.hid hgd; clear hgd
                    go_upto_region 21 with (fail)
                    have hA3 : Below W2.heap.size W2 (W2.alloc (.cells #[.int .i64 st.A, .int .i64 st.B, .int .i64 st.L, .int .i64 st.W, .int .i64 st.K, .int .i64 st.X, .int .i64 st.Y] 57)) := (Below.refl _ _).alloc (Nat.le_refl _) _
                    have s0 : (W2.alloc (.cells #[.int .i64 st.A, .int .i64 st.B, .int .i64 st.L, .int .i64 st.W, .int .i64 st.K, .int .i64 st.X, .int .i64 st.Y] 57)).cell? ⟨W2.heap.size, 0, none⟩ = some (.int .i64 st.A) := by simp [go_sem]
                    have s1 : (W2.alloc (.cells #[.int .i64 st.A, .int .i64 st.B, .int .i64 st.L, .int .i64 st.W, .int .i64 st.K, .int .i64 st.X, .int .i64 st.Y] 57)).cell? ⟨W2.heap.size, 1, none⟩ = some (.int .i64 st.B) := by simp [go_sem]
                    have s2 : (W2.alloc (.cells #[.int .i64 st.A, .int .i64 st.B, .int .i64 st.L, .int .i64 st.W, .int .i64 st.K, .int .i64 st.X, .int .i64 st.Y] 57)).cell? ⟨W2.heap.size, 2, none⟩ = some (.int .i64 st.L) := by simp [go_sem]
                    have s3 : (W2.alloc (.cells #[.int .i64 st.A, .int .i64 st.B, .int .i64 st.L, .int .i64 st.W, .int .i64 st.K, .int .i64 st.X, .int .i64 st.Y] 57)).cell? ⟨W2.heap.size, 3, none⟩ = some (.int .i64 st.W) := by simp [go_sem]
                    have s4 : (W2.alloc (.cells #[.int .i64 st.A, .int .i64 st.B, .int .i64 st.L, .int .i64 st.W, .int .i64 st.K, .int .i64 st.X, .int .i64 st.Y] 57)).cell? ⟨W2.heap.size, 4, none⟩ = some (.int .i64 st.K) := by simp [go_sem]
                    have s5 : (W2.alloc (.cells #[.int .i64 st.A, .int .i64 st.B, .int .i64 st.L, .int .i64 st.W, .int .i64 st.K, .int .i64 st.X, .int .i64 st.Y] 57)).cell? ⟨W2.heap.size, 5, none⟩ = some (.int .i64 st.X) := by simp [go_sem]
                    have s6 : (W2.alloc (.cells #[.int .i64 st.A, .int .i64 st.B, .int .i64 st.L, .int .i64 st.W, .int .i64 st.K, .int .i64 st.X, .int .i64 st.Y] 57)).cell? ⟨W2.heap.size, 6, none⟩ = some (.int .i64 st.Y) := by simp [go_sem]
                    have r0 := ((bcell hA3).1 _ _ (lt_of_cell t0)).trans t0
                    have HR3 := Lib.hid (HR2.out.below hA3)
                    have hb3 := HB2.out.trans (hA3.mono HB2.out.size)
                    clear b0 b1 b2 b3 b4 b5 b6 t0 t1 c2 hA3
                    generalize (W2.alloc (.cells #[.int .i64 st.A, .int .i64 st.B, .int .i64 st.L, .int .i64 st.W, .int .i64 st.K, .int .i64 st.X, .int .i64 st.Y] 57)) = W3 at s0 s1 s2 s3 s4 s5 s6 r0 HR3 hb3 ⊢
                    generalize W2.heap.size = sq at s0 s1 s2 s3 s4 s5 s6 ⊢
                    have c3 := ((bcell hb3).1 _ _ (lt_of_cell X3.out)).trans X3.out
                    have c4 := ((bcell hb3).1 _ _ (lt_of_cell X4.out)).trans X4.out
                    have HB3 := Lib.hid hb3; clear hb3
                    go_cut [94] (fun v94 wx => v94 = .bool (!(endOf st s.pos).2) ∧ wx = W3)
                    case first =>
                      by_cases eA : st.A = s.pos
                      · have hE : (endOf st s.pos).2 = true := by unfold endOf; rw [if_pos eA.symm]
                        have HE2 := Lib.hid hE; clear hE
                        go_wp2_with fail
                        go_meet
                        exact ⟨by rw [HE2.out]; first | rfl | simp [eA, eB], rfl⟩
                      · by_cases eB : st.B = s.pos
                        · have hE : (endOf st s.pos).2 = true := by unfold endOf; rw [if_neg (fun e => eA e.symm), if_pos eB.symm]
                          have HE2 := Lib.hid hE; clear hE
                          go_wp2_with fail
                          go_meet
                          exact ⟨by rw [HE2.out]; first | rfl | simp [eA, eB], rfl⟩
                        · have hE : (endOf st s.pos).2 = false := by unfold endOf; rw [if_neg (fun e => eA e.symm), if_neg (fun e => eB e.symm)]
                          have HE2 := Lib.hid hE; clear hE
                          go_wp2_with fail
                          go_meet
                          exact ⟨by rw [HE2.out]; first | rfl | simp [eA, eB], rfl⟩
                    case rest =>
                      obtain ⟨rfl, rfl⟩ := hcut
                      cases hend : (endOf st s.pos).2
                      · have HEND := Lib.hid hend; clear hend
                        have hstep : playStep r f s (d, (qn : Int)) = .error 12 := by
                          rw [playStep, if_neg HC0.out, if_neg (by have h0 := HGD.out; dsimp only; omega)]; dsimp only; rw [HS.out]; dsimp only; rw [if_pos HEND.out]
                        have HV := Lib.hid (show playV r f fr plan = ([], 12) by rw [playV, if_pos HRD.out, playGo_err hlt HGO.out (e := 12) (by rw [HPX.out]; exact hstep)])
                        clear hstep
                        go_wp2_with fail
                        go_ret2
                        rw [HV.out]
                        exact ⟨none, 0, rfl, .inl rfl, HBW.out.trans (HB3.out.mono HBW.out.size)⟩
                      · have HEND := Lib.hid hend; clear hend
                        have hwk : (if s.day < d then 0 else s.walked) + st.L = (s.walked + st.L) := by
                          rw [if_neg (by have h0 := HGD.out; omega)]
                        have HWK := Lib.hid hwk; clear hwk
                        obtain ⟨v1, v2, v3, v4, v5, v6, v7, _⟩ := HSTR.out
                        obtain ⟨o1, o2, o3, o4, o5, o6, o7⟩ := HOK.out
                        have HO7 := Lib.hid o7; clear o7
                        have hwy := refWhy_any st f d wc
                        unfold Strip.val at hwy
                        have HWY := Lib.hid hwy; clear hwy
                        have q7 := G.out.p2
                        have q8 := G.out.s2
                        go_wp2_with fail
                        refine HWY.out.mono ?_
                        clear HWY
                        rintro e w5 ⟨v, rfl, hown, hb5⟩
                        have s0' := ((bcell hb5).1 _ _ (lt_of_cell s0)).trans s0
                        have s1' := ((bcell hb5).1 _ _ (lt_of_cell s1)).trans s1
                        have s2' := ((bcell hb5).1 _ _ (lt_of_cell s2)).trans s2
                        have r0' := ((bcell hb5).1 _ _ (lt_of_cell r0)).trans r0
                        have c4' := ((bcell hb5).1 _ _ (lt_of_cell c4)).trans c4
                        have HR5 := Lib.hid (HR3.out.below hb5)
                        have HB5 := Lib.hid (HB3.out.trans (hb5.mono HB3.out.size)); clear hb5
                        clear s0 s1 s2 s3 s4 s5 s6 r0 c3 c4
                        obtain ⟨L, hL⟩ : ∃ L, barsL st f d = L := ⟨_, rfl⟩
                        rw [hL] at hown
                        obtain ⟨ga, gc, rfl, _, _⟩ := hown.ints
                        have HL := Lib.hid hL; clear hL hown
                        cases L with
                        | cons l0 L' =>
                          have hstep : playStep r f s (d, (qn : Int)) = .error 9 := by
                            rw [playStep, if_neg HC0.out, if_neg (by have h0 := HGD.out; dsimp only; omega)]; dsimp only; rw [HS.out]; dsimp only; rw [if_neg (by rw [HEND.out]; simp)]; rw [if_pos (by rw [HL.out]; rfl)]
                          have HV := Lib.hid (show playV r f fr plan = ([], 9) by rw [playV, if_pos HRD.out, playGo_err hlt HGO.out (e := 9) (by rw [HPX.out]; exact hstep)])
                          clear hstep
                          go_wp2_with fail
                          go_ret2
                          rw [HV.out]
                          exact ⟨none, 0, rfl, .inl rfl, HBW.out.trans (HB5.out.mono HBW.out.size)⟩
                        | nil =>
                          by_cases hpc : f.pace < (s.walked + st.L)
                          · have HPC := Lib.hid hpc
                            have hstep : playStep r f s (d, (qn : Int)) = .error 6 := by
                              rw [playStep, if_neg HC0.out, if_neg (by have h0 := HGD.out; dsimp only; omega)]; dsimp only; rw [HS.out]; dsimp only; rw [if_neg (by rw [HEND.out]; simp)]; rw [if_neg (by rw [HL.out]; simp), HWK.out, if_pos HPC.out]
                            have HV := Lib.hid (show playV r f fr plan = ([], 6) by rw [playV, if_pos HRD.out, playGo_err hlt HGO.out (e := 6) (by rw [HPX.out]; exact hstep)])
                            clear hstep
                            go_wp2_with fail
                            go_ret2
                            rw [HV.out]
                            exact ⟨none, 0, rfl, .inl rfl, HBW.out.trans (HB5.out.mono HBW.out.size)⟩
                          · have hstep : playStep r f s (d, (qn : Int)) = .ok ⟨(endOf st s.pos).1, d, (s.walked + st.L), fun j => if d ≤ (j : Int) then (endOf st s.pos).1 else s.out j⟩ := by
                              rw [playStep, if_neg HC0.out, if_neg (by have h0 := HGD.out; dsimp only; omega)]; dsimp only; rw [HS.out]; dsimp only; rw [if_neg (by rw [HEND.out]; simp)]; rw [if_neg (by rw [HL.out]; simp), HWK.out, if_neg hpc]
                            have HNEXT := Lib.hid (playGo_next hlt HGO.out (by rw [HPX.out]; exact hstep))
                            have HOK2 := Lib.hid (playStep_ok G.out HOK.out hstep)
                            clear hstep
                            obtain ⟨u1, u2, u3⟩ := playEnd ⟨v1, v2⟩ ⟨v3, v4⟩ HEND.out
                            generalize (endOf st s.pos).1 = at2 at HNEXT HOK2 u1 u2 u3
                            have HU3 := Lib.hid u3; clear u3
                            go_wp2_with fail
                            clear s0' s1' s2' r0' c4'
                            obtain ⟨dn, hdn⟩ := Int.eq_ofNat_of_zero_le hd.1
                            have hdk : dn < k := by omega
                            have HDN := Lib.hid hdn
                            go_loopw [19] (fun v19 wx => ∃ m : Nat, dn ≤ m ∧ m ≤ k ∧ v19 = .int .i64 (m : Int) ∧ IRow wx gr k (fun j => if dn ≤ j ∧ j < m then at2 else s.out j) ∧ Below w1.heap.size w1 wx) (fun v _ => k - (intOf v).toNat)
                            case atStart => exact ⟨dn, Nat.le_refl _, by omega, by rw [HDN.out], HR5.out.congr fun j _ => by rw [if_neg (by omega)], HB5.out⟩
                            case round =>
                              obtain ⟨m, hm1, hm2, rfl, hrow, hbr⟩ := hrel
                              have c0 := ((bcell hbr).1 _ _ (lt_of_cell X0.out)).trans X0.out
                              have HBR := Lib.hid hbr; clear hbr
                              clear hdn
                              by_cases hmk : m < k
                              · have m0 := hrow.cell hmk
                                have m1 := hrow.free m
                                have q9 : (m : Int) < (k : Int) := by omega
                                have HSET := Lib.hid (hrow.set m at2); clear hrow
                                have hu := HU3.out
                                rw [← hu]
                                clear hu
                                go_wp2_with fail
                                exact ⟨⟨m + 1, by omega, by omega, by go_num, HSET.out.congr fun j _ => by
                                  by_cases e : j = m
                                  · subst e; simp [hm1]
                                  · by_cases c : dn ≤ j ∧ j < m
                                    · rw [if_neg e, if_pos c, if_pos ⟨c.1, by omega⟩]
                                    · rw [if_neg e, if_neg c, if_neg (fun h => c ⟨h.1, by omega⟩)], HBR.out.setCell (p := ⟨gr, m, none⟩) (by show w1.heap.size ≤ gr; have := HGE.out; omega) _⟩, by simp [intOf]; omega⟩
                              · obtain rfl : m = k := by omega
                                have HROW := Lib.hid hrow; clear hrow
                                have hu := HU3.out
                                rw [← hu]
                                clear hu
                                go_wp2_with fail
                                refine ⟨⟨i + 1, _, by omega, by go_num, rfl, rfl, rfl, HNEXT.out, HOK2.out, HROW.out.congr fun j hj => ?_, HBR.out⟩, by simp [intOf]; omega⟩
                                have h0 := HDN.out
                                dsimp only
                                by_cases c : dn ≤ j
                                · rw [if_pos ⟨c, hj⟩, if_pos (by omega)]
                                · rw [if_neg (fun h => c h.1), if_neg (by omega)]
          · obtain rfl : i = n := by omega
            have hall : plan.take i = plan := List.take_of_length_le (by have := HPN.out; omega)
            have HV := Lib.hid (show playV r f fr plan = ((List.range r.days.toNat).map s.out, 0) by
              have h1 := HGO.out
              rw [hall] at h1
              rw [playV, if_pos HRD.out, h1])
            have hlen : ((List.range r.days.toNat).map s.out).length = k := by have := HD.out; simp; omega
            have HLEN := Lib.hid hlen
            have hints : IntsAt wr (some ⟨gr, 0, none⟩) ((List.range r.days.toNat).map s.out) := .inr ⟨gr, 0, rfl, fun j hj => by
              rw [Nat.zero_add, HR.out.cell (by omega)]; simp⟩
            have HINTS := Lib.hid hints; clear hints hlen
            clear hall hb
            go_wp2_with fail
            go_ret2
            rw [HV.out]
            refine ⟨some ⟨gr, 0, none⟩, k, ?_, HINTS.out, HBW.out.trans (HB.out.mono HBW.out.size)⟩
            dsimp only
            rw [HLEN.out]
            rfl
  · have hne : (askedErr r f [fr] [] != 0) = true := by simpa using hz
    have HV := Lib.hid (show playV r f fr plan = ([], askedErr r f [fr] []) by rw [playV, if_neg (by rw [HE.out]; exact hz), HE.out])
    have HZ := Lib.hid hz; clear hz
    clear y0 y2 y3 y4
    go_wp2_with fail
    go_ret2
    rw [HV.out]
    exact ⟨none, 0, rfl, .inl rfl, HBW.out⟩
end Go.Proofs.Ytjgkgnfhglhklaa
