/- The contract of road.Play (under way: not built). -/
import Derived.Test.YtmkjeonjhedgkaaDoorPlayR
import Derived.BigQuiet
namespace Go.Proofs.YtmkjeonjhedgkaaDoor
set_option linter.unusedSimpArgs false
set_option linter.unusedVariables false
open Go.RowKit

theorem playStep_day {r : Roads} {f : Flock} {s s' : PS} {x : Int × Int} (h : playStep r f s x = .ok s') : s'.day = x.1 := by
  unfold playStep at h
  by_cases c1 : (!(btw x.1 0 (r.days - 1)) || !(btw x.2 0 ((r.strips.length : Int) - 1))) = true
  · rw [if_pos c1] at h; simp at h
  · rw [if_neg c1] at h
    by_cases c2 : x.1 < s.day
    · rw [if_pos c2] at h; simp at h
    · rw [if_neg c2] at h
      cases hst : r.strips[x.2.toNat]? with
      | none => rw [hst] at h; simp at h
      | some st =>
        rw [hst] at h
        dsimp only at h
        by_cases c3 : (endOf st s.pos).2 = false
        · rw [if_pos c3] at h; simp at h
        · rw [if_neg c3] at h
          by_cases c4 : (barsL st f x.1).isEmpty = false
          · rw [if_pos c4] at h; simp at h
          · rw [if_neg c4] at h
            by_cases c5 : f.pace < (if s.day < x.1 then 0 else s.walked) + st.L
            · rw [if_pos c5] at h; simp at h
            · rw [if_neg c5] at h
              rw [← Except.ok.inj h]
/-- Behind a stride the day is the stride's. -/
theorem playGo_day {r : Roads} {f : Flock} {plan : List (Int × Int)} {fr : Int} {i : Nat} (hi : i < plan.length) {s : PS} (h : playGo r f (plan.take (i + 1)) (play0 fr) = .ok s) : s.day = plan[i].1 := by
  rw [List.take_succ_eq_append_getElem hi, playGo_append] at h
  cases hp : playGo r f (plan.take i) (play0 fr) with
  | error e => rw [hp] at h; simp at h
  | ok s0 =>
    rw [hp] at h
    have h' : (match playStep r f s0 plan[i] with | .error e => Except.error e | .ok s' => playGo r f [] s') = Except.ok s := h
    cases hs : playStep r f s0 plan[i] with
    | error e => rw [hs] at h'; simp at h'
    | ok s' =>
      rw [hs] at h'
      obtain rfl : s' = s := Except.ok.inj h'
      exact playStep_day hs

set_option maxRecDepth 100000 in
set_option maxHeartbeats 8000000 in
theorem Play_any (w : World) (r : Roads) (f : Flock) (a : Option Addr) (cap : Nat) (hs : StripsAt w a r.strips) (hm : r.strips.length ≤ maxLen) (fr : Int) (pa : Option Addr) (pc : Nat) (plan : List (Int × Int)) (hp : StridesAt w pa plan) (hpl : plan.length ≤ 1000) :
    Calls Tryd.prog 13 #[.agg #[.int .i64 r.days, .int .i64 r.stages, .slice a r.strips.length cap], .agg #[.int .i64 f.heads, .int .i64 f.pace], .int .i64 fr, .slice pa plan.length pc] w
      fun e w' => ∃ ga gc, e = .returned (.tuple #[.slice ga (playV r f fr plan).1.length gc, .int .i64 (playV r f fr plan).2]) ∧ IntsAt w' ga (playV r f fr plan).1 ∧ Below w.heap.size w w' := by
  have hb0 : Below w.heap.size w ((w.alloc (.cells #[.int .i64 r.days, .int .i64 r.stages, .slice a r.strips.length cap] 24)).alloc (.cells #[.int .i64 f.heads, .int .i64 f.pace] 37)) := ((Below.refl _ _).alloc (Nat.le_refl _) _).alloc (by simp) _
  have x0 : ((w.alloc (.cells #[.int .i64 r.days, .int .i64 r.stages, .slice a r.strips.length cap] 24)).alloc (.cells #[.int .i64 f.heads, .int .i64 f.pace] 37)).cell? ⟨w.heap.size, 0, none⟩ = some (.int .i64 r.days) := by simp [go_sem]
  have x1 : ((w.alloc (.cells #[.int .i64 r.days, .int .i64 r.stages, .slice a r.strips.length cap] 24)).alloc (.cells #[.int .i64 f.heads, .int .i64 f.pace] 37)).cell? ⟨w.heap.size, 1, none⟩ = some (.int .i64 r.stages) := by simp [go_sem]
  have x2 : ((w.alloc (.cells #[.int .i64 r.days, .int .i64 r.stages, .slice a r.strips.length cap] 24)).alloc (.cells #[.int .i64 f.heads, .int .i64 f.pace] 37)).cell? ⟨w.heap.size, 2, none⟩ = some (.slice a r.strips.length cap) := by simp [go_sem]
  have x3 : ((w.alloc (.cells #[.int .i64 r.days, .int .i64 r.stages, .slice a r.strips.length cap] 24)).alloc (.cells #[.int .i64 f.heads, .int .i64 f.pace] 37)).cell? ⟨w.heap.size + 1, 0, none⟩ = some (.int .i64 f.heads) := by simp [go_sem]
  have x4 : ((w.alloc (.cells #[.int .i64 r.days, .int .i64 r.stages, .slice a r.strips.length cap] 24)).alloc (.cells #[.int .i64 f.heads, .int .i64 f.pace] 37)).cell? ⟨w.heap.size + 1, 1, none⟩ = some (.int .i64 f.pace) := by simp [go_sem]
  have hst := hs.below hb0
  have HPL := Lib.hid (hp.below hb0)
  have HM := Lib.hid hm; clear hm hs hp
  have HO := Lib.hid (fun hc => @oddL r hc [fr, r.stages] (by
    intro i h hi
    simp only [List.length_cons, List.length_nil] at h
    obtain rfl : i = 1 := by omega
    exact .inl rfl))
  go_enter Tryd.func13, Tryd.ntmps13
  go_upto_region 1 with (fail)
  generalize ((w.alloc (.cells #[.int .i64 r.days, .int .i64 r.stages, .slice a r.strips.length cap] 24)).alloc (.cells #[.int .i64 f.heads, .int .i64 f.pace] 37)) = W0 at hb0 x0 x1 x2 x3 x4 hst HPL ⊢
  have hba : Below W0.heap.size W0 (W0.alloc (.cells #[.int .i64 fr, .int .i64 r.stages] 3)) := (Below.refl _ _).alloc (Nat.le_refl _) _
  have hry := ready_any (W0.alloc (.cells #[.int .i64 fr, .int .i64 r.stages] 3)) r f [fr, r.stages] a cap _ 2 (hst.below hba) HM.out (ints_new (w := W0) [fr, r.stages]) (by simp) HO.out
  have HRY := Lib.hid hry; clear hry
  have HBA := Lib.hid hba; clear hba
  have HB0 := Lib.hid hb0; clear hb0 hst
  go_wp2_with fail
  refine HRY.out.mono ?_
  clear HRY HO
  rintro e w1 (⟨hz, b, rfl, hW, hbb, _, hb1⟩ | ⟨hz, rfl, hb1⟩)
  · obtain ⟨g, hpz⟩ := ready_zero hz
    have hfr := pairs2.1 hpz
    clear hpz hbb
    have HRD := Lib.hid hz; clear hz
    have HB1 := Lib.hid (HBA.out.trans (hb1.mono HBA.out.size)); clear hb1 HBA
    have y0 := ((bcell HB1.out).1 _ _ (lt_of_cell x0)).trans x0
    have y2 := ((bcell HB1.out).1 _ _ (lt_of_cell x2)).trans x2
    have y4 := ((bcell HB1.out).1 _ _ (lt_of_cell x4)).trans x4
    clear x0 x1 x2 x3 x4
    have HBW := Lib.hid (HB0.out.trans (HB1.out.mono HB0.out.size))
    have HW1 := Lib.hid hW; clear hW
    obtain ⟨D, hD⟩ := Int.eq_ofNat_of_zero_le (show 0 ≤ r.days by have := g.d1; omega)
    have hD1 : 1 ≤ D := by have := g.d1; omega
    have hD10 : D ≤ 10 := by have := g.d2; omega
    have hs6 := g.s2
    have hp9 := g.p2
    obtain ⟨N, hN⟩ : ∃ N, r.strips.length = N := ⟨_, rfl⟩
    have hN8 : N ≤ 8 := by have := g.n8; omega
    rw [hN] at y2
    rw [hD] at y0
    have HN := Lib.hid hN; clear hN
    have HD := Lib.hid hD; clear hD
    have HOK0 := Lib.hid (play0_ok g hfr.1 hfr.2)
    have G := Lib.hid g; clear g
    have HFR := Lib.hid hfr; clear hfr
    have hmk := run_make_row' (P := Tryd.prog) 31 3 (.int .i64 0) 8 Tryd.underlying31 info_int rfl .i64 .i64 D (by omega) (by omega)
    go_upto_region 5 with (fail)
    have hbm : Below w1.heap.size w1 (w1.alloc (.cells (madeCells #[.int .i64 0] D) 3)) := (Below.refl _ _).alloc (Nat.le_refl _) _
    have hrow : IRow (w1.alloc (.cells (madeCells #[.int .i64 0] D) 3)) w1.heap.size D (fun _ => 0) := by unfold IRow; rw [heap_alloc_new, tab_made]
    have X0 := Lib.hid y0; clear y0
    have X2 := Lib.hid y2; clear y2
    have X4 := Lib.hid y4; clear y4
    have HROW := Lib.hid hrow; clear hrow
    have HBM := Lib.hid hbm; clear hbm
    have HPL1 := Lib.hid (HPL.out.below HB1.out); clear HPL hmk
    have HGR := Lib.hid (show w1.heap.size ≤ w1.heap.size from Nat.le_refl _)
    generalize (w1.alloc (.cells (madeCells #[.int .i64 0] D) 3)) = WM at HROW HBM ⊢
    obtain ⟨gr, hgr⟩ : ∃ gr, w1.heap.size = gr := ⟨_, rfl⟩
    rw [hgr] at HROW HGR ⊢
    have HGE := Lib.hid hgr; clear hgr
    obtain ⟨n, hn⟩ : ∃ n, plan.length = n := ⟨_, rfl⟩
    rw [hn] at hpl ⊢
    have HPN := Lib.hid hn; clear hn
    go_wp2_with fail
    go_loopw [13, 14, 15, 39] (fun v13 v14 v15 v39 wx => ∃ (i : Nat) (s : PS), i ≤ n ∧ v39 = .int .i64 (i : Int) ∧ v13 = .int .i64 s.pos ∧ v14 = .int .i64 s.day ∧ v15 = .int .i64 s.walked ∧ playGo r f (plan.take i) (play0 fr) = .ok s ∧ PSOk r f s ∧ IRow wx gr D (fun j => if (j : Int) < s.day then s.out j else 0) ∧ Below w1.heap.size w1 wx) (fun _ _ _ v _ => n - (intOf v).toNat)
    case atStart => exact ⟨0, play0 fr, Nat.zero_le _, rfl, rfl, rfl, rfl, rfl, HOK0.out, HROW.out.congr fun j _ => by rw [if_neg (by show ¬ (j : Int) < 0; omega)], HBM.out⟩
    case round =>
      clear HROW HBM
      obtain ⟨i, s, hi, rfl, rfl, rfl, rfl, hgo, hok, hrow, hb⟩ := hrel
      have HGO := Lib.hid hgo; clear hgo
      have HOK := Lib.hid hok; clear hok
      have HR := Lib.hid hrow; clear hrow
      have HB := Lib.hid hb
      by_cases hin : i < n
      · have hlt : i < plan.length := by rw [HPN.out]; exact hin
        rcases HPL1.out.below hb with h0 | ⟨pb, po, rfl, hpc⟩
        · rw [h0] at hlt; simp at hlt
        obtain ⟨z0, z1⟩ := hpc i hlt
        have hprev : ∀ m, i = m + 1 → wr.cell? ⟨pb, po + m * 2, none⟩ = some (.int .i64 s.day) := fun m hm => by
          subst hm
          rw [(hpc m (by omega)).1, playGo_day (by omega) HGO.out]
        have HPREV := Lib.hid hprev; clear hprev
        clear hpc hb
        obtain ⟨⟨d, q⟩, hx⟩ : ∃ x, plan[i] = x := ⟨_, rfl⟩
        rw [hx] at z0 z1
        have HPX := Lib.hid hx; clear hx
        dsimp only at z0 z1
        have q1 : (i : Int) < (n : Int) := by omega
        go_upto_region 9 with (fail)
        have hA : Below wr.heap.size wr (wr.alloc (.cells #[.int .i64 d, .int .i64 q] 44)) := (Below.refl _ _).alloc (Nat.le_refl _) _
        have t0 : (wr.alloc (.cells #[.int .i64 d, .int .i64 q] 44)).cell? ⟨wr.heap.size, 0, none⟩ = some (.int .i64 d) := by simp [go_sem]
        have t1 : (wr.alloc (.cells #[.int .i64 d, .int .i64 q] 44)).cell? ⟨wr.heap.size, 1, none⟩ = some (.int .i64 q) := by simp [go_sem]
        have hgt : gr < wr.heap.size := (Array.getElem?_eq_some_iff.1 HR.out).1
        have HR2 := Lib.hid (HR.out.below hA); clear HR
        have hprev2 : ∀ m, i = m + 1 → (wr.alloc (.cells #[.int .i64 d, .int .i64 q] 44)).cell? ⟨pb, po + m * 2, none⟩ = some (.int .i64 s.day) := fun m hm => ((bcell hA).1 _ _ (lt_of_cell (HPREV.out m hm))).trans (HPREV.out m hm)
        have HPREV2 := Lib.hid hprev2; clear hprev2 HPREV
        have hb2 := HB.out.trans (hA.mono HB.out.size)
        clear hA z0 z1
        generalize (wr.alloc (.cells #[.int .i64 d, .int .i64 q] 44)) = W2 at t0 t1 HR2 HPREV2 hb2 ⊢
        generalize wr.heap.size = tp at t0 t1 hgt ⊢
        have c0 := ((bcell hb2).1 _ _ (lt_of_cell X0.out)).trans X0.out
        have c2 := ((bcell hb2).1 _ _ (lt_of_cell X2.out)).trans X2.out
        have HW2 := Lib.hid (HW1.out.below hb2)
        have HB2 := Lib.hid hb2; clear hb2
        have q2 : IntKind.i64.wrap ((D : Int) - 1) = (D : Int) - 1 := IntWalk.i64_in _ (by omega)
        have q3 : IntKind.i64.wrap ((N : Int) - 1) = (N : Int) - 1 := IntWalk.i64_in _ (by omega)
        have HBD := Lib.hid (show btw d 0 (r.days - 1) = btw d 0 ((D : Int) - 1) by rw [HD.out])
        have HBQ := Lib.hid (show btw q 0 ((r.strips.length : Int) - 1) = btw q 0 ((N : Int) - 1) by rw [HN.out])
        go_wp2_with fail
        refine (between_any _ _ _ _).mono ?_
        rintro e w' ⟨rfl, rfl⟩
        cases h1 : btw d 0 ((D : Int) - 1)
        · have H1 := Lib.hid h1; clear h1
          have hstep : playStep r f s (d, q) = .error 3 := by
            rw [playStep, if_pos (by dsimp only; rw [HBD.out, H1.out]; rfl)]
          have HV := Lib.hid (show playV r f fr plan = ([], 3) by rw [playV, if_pos HRD.out, playGo_err hlt HGO.out (e := 3) (by rw [HPX.out]; exact hstep)])
          clear hstep
          go_wp2_with fail
          go_ret2
          rw [HV.out]
          exact ⟨none, 0, rfl, .inl rfl, HBW.out.trans (HB2.out.mono HBW.out.size)⟩
        · have H1 := Lib.hid h1; clear h1
          go_wp2_with fail
          refine (between_any _ _ _ _).mono ?_
          rintro e w' ⟨rfl, rfl⟩
          cases h2 : btw q 0 ((N : Int) - 1)
          · have H2 := Lib.hid h2; clear h2
            have hstep : playStep r f s (d, q) = .error 3 := by
              rw [playStep, if_pos (by dsimp only; rw [HBQ.out, H2.out]; simp)]
            have HV := Lib.hid (show playV r f fr plan = ([], 3) by rw [playV, if_pos HRD.out, playGo_err hlt HGO.out (e := 3) (by rw [HPX.out]; exact hstep)])
            clear hstep
            go_wp2_with fail
            go_ret2
            rw [HV.out]
            exact ⟨none, 0, rfl, .inl rfl, HBW.out.trans (HB2.out.mono HBW.out.size)⟩
          · have hq := btw_true.1 h2
            have hd := btw_true.1 H1.out
            have H2 := Lib.hid h2; clear h2
            have hc0 : ¬ ((!(btw d 0 (r.days - 1)) || !(btw q 0 ((r.strips.length : Int) - 1))) = true) := by rw [HBD.out, HBQ.out, H1.out, H2.out]; simp
            have HC0 := Lib.hid hc0; clear hc0
            obtain ⟨qn, rfl⟩ := Int.eq_ofNat_of_zero_le hq.1
            have hqN : qn < N := by omega
            have hql : qn < r.strips.length := by rw [HN.out]; exact hqN
            clear q2 q3 c0 c2
            obtain ⟨o1, o2, o3, o4, o5, o6, o7⟩ := HOK.out
            have HO7 := Lib.hid o7; clear o7
            have hday0 : i = 0 → s.day = 0 := fun h => by
              have h1 := HGO.out
              subst h
              have h2 : (Except.ok (play0 fr) : Except Int PS) = Except.ok s := h1
              rw [← Except.ok.inj h2]; rfl
            have HDAY0 := Lib.hid hday0; clear hday0
            go_upto_region 11 with (fail)
            go_cut [73] (fun v73 wx => v73 = .bool (decide (d < s.day)) ∧ Below W2.heap.size W2 wx)
            case first =>
              by_cases hi0 : i = 0
              · have h0 := HDAY0.out hi0
                have hnd : ¬ d < s.day := by omega
                have HND := Lib.hid (decide_eq_false hnd); clear hnd h0
                have q5n : ¬ 0 < i := by omega
                have q8 : decide (0 < i) = false := decide_eq_false q5n
                have HI0 := Lib.hid hi0; clear hi0
                go_quiet (fail)
                go_wp2_with fail
                go_meet
                exact ⟨by rw [HND.out], below_drewN (Below.refl W2.heap.size W2) _⟩
              · obtain ⟨m, hm⟩ : ∃ m, i = m + 1 := ⟨i - 1, by omega⟩
                have z2 := HPREV2.out m hm
                have q4 : IntKind.i64.wrap ((i : Int) - 1) = (m : Int) := by rw [show (i : Int) - 1 = (m : Int) by omega]; exact IntWalk.i64_in _ (by omega)
                have q5n : 0 < i := by omega
                have q6 : (m : Int) < (n : Int) := by omega
                have q6n : m < n := by omega
                have q8 : decide (0 < i) = true := decide_eq_true q5n
                have HI0 := Lib.hid hi0; clear hi0
                have HMM := Lib.hid hm; clear hm
                by_cases hlt2 : d < s.day
                · have HND := Lib.hid (decide_eq_true hlt2)
                  have q9 := decide_eq_true hlt2
                  go_quiet (fail)
                  go_wp2_with fail
                  go_meet
                  exact ⟨by rw [HND.out], below_drewN (Below.refl W2.heap.size W2) _⟩
                · have HND := Lib.hid (decide_eq_false hlt2)
                  have q9 := decide_eq_false hlt2
                  go_quiet (fail)
                  go_wp2_with fail
                  go_meet
                  exact ⟨by rw [HND.out], below_drewN (Below.refl W2.heap.size W2) _⟩
            case rest =>
              obtain ⟨rfl, hbx⟩ := hcut
              have t0' := ((bcell hbx).1 _ _ (lt_of_cell t0)).trans t0
              have t1' := ((bcell hbx).1 _ _ (lt_of_cell t1)).trans t1
              have HR3 := Lib.hid (HR2.out.below hbx)
              have HB3 := Lib.hid (HB2.out.trans (hbx.mono HB2.out.size))
              clear t0 t1 hbx HPREV2
              by_cases hds : d < s.day
              · rw [decide_eq_true hds]
                have HDS := Lib.hid hds
                have hstep : playStep r f s (d, (qn : Int)) = .error 5 := by
                  rw [playStep, if_neg HC0.out, if_pos HDS.out]
                have HV := Lib.hid (show playV r f fr plan = ([], 5) by rw [playV, if_pos HRD.out, playGo_err hlt HGO.out (e := 5) (by rw [HPX.out]; exact hstep)])
                clear hstep
                go_wp2_with fail
                go_ret2
                rw [HV.out]
                exact ⟨none, 0, rfl, .inl rfl, HBW.out.trans (HB3.out.mono HBW.out.size)⟩
              · rw [decide_eq_false hds]
                have HGE0 := Lib.hid (show s.day ≤ d by omega)
                obtain ⟨sd, hsd⟩ := Int.eq_ofNat_of_zero_le o3
                have HSD := Lib.hid hsd; clear hsd
                have hdD : d < (D : Int) := by omega
                go_wp2_with fail
                go_loopw [14, 15] (fun v14 v15 wx => ∃ m : Nat, s.day ≤ (m : Int) ∧ (m : Int) ≤ d ∧ v14 = .int .i64 (m : Int) ∧ v15 = .int .i64 (if s.day < (m : Int) then 0 else s.walked) ∧ IRow wx gr D (fun j => if j < m then s.out j else 0) ∧ wx.cell? ⟨tp, 0, none⟩ = some (.int .i64 d) ∧ wx.cell? ⟨tp, 1, none⟩ = some (.int .i64 (qn : Int)) ∧ Below w1.heap.size w1 wx) (fun v _ _ => D - (intOf v).toNat)
                case atStart => exact ⟨sd, by have := HSD.out; omega, by have := HGE0.out; have := HSD.out; omega, by rw [HSD.out], by rw [if_neg (by have := HSD.out; omega)], HR3.out.congr fun j _ => by
                  have h0 := HSD.out
                  by_cases c : j < sd
                  · rw [if_pos c, if_pos (by omega)]
                  · rw [if_neg c, if_neg (by omega)], t0', t1', HB3.out⟩
                case round =>
                  clear t0' t1' HR3 HB3
                  obtain ⟨m, hm1, hm2, rfl, rfl, hrow, t0, t1, hbr⟩ := hrel
                  have HM1 := Lib.hid hm1; clear hm1
                  have HBR := Lib.hid hbr
                  by_cases hmd : (m : Int) < d
                  · have hmD : m < D := by omega
                    have m0 := hrow.cell hmD
                    have m1 := hrow.free m
                    have q9 : (m : Int) < (D : Int) := by omega
                    have HSET := Lib.hid (hrow.set m s.pos); clear hrow hbr
                    have T0 := Lib.hid ((World.cell?_setCell_other wr ⟨gr, m, none⟩ ⟨tp, 0, none⟩ (.int .i64 s.pos) (by intro e; injection e with e1; omega)).trans t0)
                    have T1 := Lib.hid ((World.cell?_setCell_other wr ⟨gr, m, none⟩ ⟨tp, 1, none⟩ (.int .i64 s.pos) (by intro e; injection e with e1; omega)).trans t1)
                    go_wp2_with fail
                    exact ⟨⟨m + 1, by have := HM1.out; omega, by omega, by go_num, by rw [if_pos (by have := HM1.out; omega)], HSET.out.congr fun j _ => by
                      by_cases e : j = m
                      · subst e; rw [if_pos rfl, if_pos (by omega), HO7.out j HM1.out]
                      · by_cases c : j < m
                        · rw [if_neg e, if_pos c, if_pos (by omega)]
                        · rw [if_neg e, if_neg c, if_neg (by omega)], T0.out, T1.out, HBR.out.setCell (p := ⟨gr, m, none⟩) (by show w1.heap.size ≤ gr; have := HGE.out; omega) _⟩, by simp [intOf]; omega⟩
                  · have hmd2 : (m : Int) = d := by omega
                    rw [hmd2]
                    have HMD := Lib.hid hmd2
                    have hst : r.strips[((qn : Nat) : Int).toNat]? = some r.strips[qn] := by rw [Int.toNat_natCast]; exact List.getElem?_eq_getElem hql
                    have hstr := G.out.strip _ (List.getElem_mem hql)
                    have hWr := HW1.out.below hbr
                    have HEN := Lib.hid (end_any wr b r f (-1) a cap hWr qn hql s.pos)
                    have HWR := Lib.hid hWr; clear hWr
                    have HROW := Lib.hid hrow; clear hrow hbr
                    obtain ⟨wk, hwk⟩ : ∃ v : Int, (if s.day < d then 0 else s.walked) = v := ⟨_, rfl⟩
                    have hwk1 : 0 ≤ wk ∧ wk ≤ 9 := by rw [← hwk]; split <;> omega
                    rw [hwk]
                    have HWK := Lib.hid hwk; clear hwk
                    go_wp2_with fail
                    refine HEN.out.mono ?_
                    clear HEN
                    rintro e w5 ⟨rfl, hb5⟩
                    have t0' := ((bcell hb5).1 _ _ (lt_of_cell t0)).trans t0
                    have t1' := ((bcell hb5).1 _ _ (lt_of_cell t1)).trans t1
                    have HR5 := Lib.hid (HROW.out.below hb5)
                    have HB5 := Lib.hid (HBR.out.trans (hb5.mono HBR.out.size))
                    have HW5 := Lib.hid (HWR.out.below hb5)
                    clear t0 t1 hb5 HROW HWR
                    have hop : openB r f (-1) qn d = (barsL r.strips[qn] f d).isEmpty := by
                      unfold openB
                      rw [List.getElem?_eq_getElem hql]
                      have h1 : ((qn : Int) != -1) = true := by simp only [bne_iff_ne, ne_eq]; omega
                      show ((qn : Int) != -1 && (barsL r.strips[qn] f d).isEmpty) = _
                      rw [h1, Bool.true_and]
                    have hsc : ∀ wx, Below w5.heap.size w5 wx → ∃ sb so, a = some ⟨sb, so, none⟩ ∧ StripAt wx sb (so + qn * 7) r.strips[qn] := fun wx hbx => by
                      obtain ⟨_, _, _, _, _, _, hss⟩ := HW5.out.below hbx
                      rcases hss with h0 | ⟨sb, so, ha, hc⟩
                      · rw [h0] at hql; simp at hql
                      · exact ⟨sb, so, ha, hc qn hql⟩
                    generalize hgs : r.strips[qn] = st at hst hstr hop hsc ⊢
                    clear hgs
                    have HS := Lib.hid hst; clear hst
                    have HSTR := Lib.hid hstr; clear hstr
                    have HOP := Lib.hid hop; clear hop
                    have HSC := Lib.hid hsc; clear hsc
                    cases hend : (endOf st s.pos).2
                    · have HEND := Lib.hid hend; clear hend
                      have hstep : playStep r f s (d, (qn : Int)) = .error 12 := by
                        rw [playStep, if_neg HC0.out, if_neg (by have h0 := HGE0.out; dsimp only; omega)]; dsimp only; rw [HS.out]; dsimp only; rw [if_pos HEND.out]
                      have HV := Lib.hid (show playV r f fr plan = ([], 12) by rw [playV, if_pos HRD.out, playGo_err hlt HGO.out (e := 12) (by rw [HPX.out]; exact hstep)])
                      clear hstep
                      go_wp2_with fail
                      go_ret2
                      rw [HV.out]
                      exact ⟨none, 0, rfl, .inl rfl, HBW.out.trans (HB5.out.mono HBW.out.size)⟩
                    · have HEND := Lib.hid hend; clear hend
                      have HPN2 := Lib.hid (open_any w5 b r f (-1) a cap HW5.out qn hql d)
                      go_wp2_with fail
                      refine HPN2.out.mono ?_
                      clear HPN2
                      rintro e w6 ⟨rfl, hb6⟩
                      rw [HOP.out]
                      have t0 := ((bcell hb6).1 _ _ (lt_of_cell t0')).trans t0'
                      have t1 := ((bcell hb6).1 _ _ (lt_of_cell t1')).trans t1'
                      have HR6 := Lib.hid (HR5.out.below hb6)
                      have hb7 := HB5.out.trans (hb6.mono HB5.out.size)
                      have c2 := ((bcell hb7).1 _ _ (lt_of_cell X2.out)).trans X2.out
                      have c4 := ((bcell hb7).1 _ _ (lt_of_cell X4.out)).trans X4.out
                      have HB6 := Lib.hid hb7; clear hb7
                      obtain ⟨sb, so, rfl, hsa⟩ := HSC.out w6 hb6
                      have l2 := hsa.c2
                      clear t0' t1' hb6 HR5 hsa
                      cases hbe : (barsL st f d).isEmpty
                      · have HBE := Lib.hid hbe; clear hbe
                        have hstep : playStep r f s (d, (qn : Int)) = .error 9 := by
                          rw [playStep, if_neg HC0.out, if_neg (by have h0 := HGE0.out; dsimp only; omega)]; dsimp only; rw [HS.out]; dsimp only; rw [if_neg (by rw [HEND.out]; simp)]; rw [if_pos HBE.out]
                        have HV := Lib.hid (show playV r f fr plan = ([], 9) by rw [playV, if_pos HRD.out, playGo_err hlt HGO.out (e := 9) (by rw [HPX.out]; exact hstep)])
                        clear hstep
                        go_wp2_with fail
                        go_ret2
                        rw [HV.out]
                        exact ⟨none, 0, rfl, .inl rfl, HBW.out.trans (HB6.out.mono HBW.out.size)⟩
                      · have HBE := Lib.hid hbe; clear hbe
                        obtain ⟨v1, v2, v3, v4, v5, v6, v7, _⟩ := HSTR.out
                        have hwk2 : (if s.day < d then 0 else s.walked) + st.L = wk + st.L := by rw [HWK.out]
                        have HWK2 := Lib.hid hwk2; clear hwk2
                        by_cases hpc : f.pace < wk + st.L
                        · have HPC := Lib.hid hpc
                          have hstep : playStep r f s (d, (qn : Int)) = .error 6 := by
                            rw [playStep, if_neg HC0.out, if_neg (by have h0 := HGE0.out; dsimp only; omega)]; dsimp only; rw [HS.out]; dsimp only; rw [if_neg (by rw [HEND.out]; simp)]; rw [if_neg (by rw [HBE.out]; simp), HWK2.out, if_pos HPC.out]
                          have HV := Lib.hid (show playV r f fr plan = ([], 6) by rw [playV, if_pos HRD.out, playGo_err hlt HGO.out (e := 6) (by rw [HPX.out]; exact hstep)])
                          clear hstep
                          go_wp2_with fail
                          go_ret2
                          rw [HV.out]
                          exact ⟨none, 0, rfl, .inl rfl, HBW.out.trans (HB6.out.mono HBW.out.size)⟩
                        · have hstep : playStep r f s (d, (qn : Int)) = .ok ⟨(endOf st s.pos).1, d, wk + st.L, fun j => if d ≤ (j : Int) then (endOf st s.pos).1 else s.out j⟩ := by
                            rw [playStep, if_neg HC0.out, if_neg (by have h0 := HGE0.out; dsimp only; omega)]; dsimp only; rw [HS.out]; dsimp only; rw [if_neg (by rw [HEND.out]; simp)]; rw [if_neg (by rw [HBE.out]; simp), HWK2.out, if_neg hpc]
                          have HNEXT := Lib.hid (playGo_next hlt HGO.out (by rw [HPX.out]; exact hstep))
                          have HOK2 := Lib.hid (playStep_ok G.out HOK.out hstep)
                          clear hstep
                          generalize (endOf st s.pos).1 = at2 at HNEXT HOK2 ⊢
                          go_wp2_with fail
                          exact ⟨⟨i + 1, _, by omega, by go_num, rfl, rfl, rfl, HNEXT.out, HOK2.out, HR6.out.congr fun j _ => by
                            have h0 := HMD.out
                            dsimp only
                            by_cases c : j < m
                            · rw [if_pos c, if_pos (by omega), if_neg (by omega)]
                            · rw [if_neg c, if_neg (by omega)], HB6.out⟩, by simp [intOf]; omega⟩
      · obtain rfl : i = n := by omega
        have hall : plan.take i = plan := List.take_of_length_le (by have := HPN.out; omega)
        have HV := Lib.hid (show playV r f fr plan = ((List.range r.days.toNat).map s.out, 0) by
          have h1 := HGO.out
          rw [hall] at h1
          rw [playV, if_pos HRD.out, h1])
        have HLEN := Lib.hid (show ((List.range r.days.toNat).map s.out).length = D by have := HD.out; simp; omega)
        obtain ⟨o1, o2, o3, o4, o5, o6, o7⟩ := HOK.out
        have HO7 := Lib.hid o7; clear o7
        obtain ⟨sd, hsd⟩ := Int.eq_ofNat_of_zero_le o3
        have HSD := Lib.hid hsd
        have hdd : s.day < (D : Int) := by have := HD.out; omega
        clear hall hb hsd
        go_wp2_with fail
        go_loopw [14] (fun v14 wx => ∃ m : Nat, s.day ≤ (m : Int) ∧ m ≤ D ∧ v14 = .int .i64 (m : Int) ∧ IRow wx gr D (fun j => if j < m then s.out j else 0) ∧ Below w1.heap.size w1 wx) (fun v _ => D - (intOf v).toNat)
        case atStart => exact ⟨sd, by have := HSD.out; omega, by have := HSD.out; omega, by rw [HSD.out], HR.out.congr fun j _ => by
          have h0 := HSD.out
          by_cases c : j < sd
          · rw [if_pos c, if_pos (by omega)]
          · rw [if_neg c, if_neg (by omega)], HB.out⟩
        case round =>
          obtain ⟨m, hm1, hm2, rfl, hrow, hbr⟩ := hrel
          have HM1 := Lib.hid hm1; clear hm1
          have c0 := ((bcell hbr).1 _ _ (lt_of_cell X0.out)).trans X0.out
          have HBR := Lib.hid hbr; clear hbr
          by_cases hmD : m < D
          · have m0 := hrow.cell hmD
            have m1 := hrow.free m
            have q9 : (m : Int) < (D : Int) := by omega
            have HSET := Lib.hid (hrow.set m s.pos); clear hrow
            go_wp2_with fail
            exact ⟨⟨m + 1, by have := HM1.out; omega, by omega, by go_num, HSET.out.congr fun j _ => by
              by_cases e : j = m
              · subst e; rw [if_pos rfl, if_pos (by omega), HO7.out j HM1.out]
              · by_cases c : j < m
                · rw [if_neg e, if_pos c, if_pos (by omega)]
                · rw [if_neg e, if_neg c, if_neg (by omega)], HBR.out.setCell (p := ⟨gr, m, none⟩) (by show w1.heap.size ≤ gr; have := HGE.out; omega) _⟩, by simp [intOf]; omega⟩
          · obtain rfl : m = D := by omega
            have HROW := Lib.hid hrow; clear hrow
            have HINTS := Lib.hid (show IntsAt wr (some ⟨gr, 0, none⟩) ((List.range r.days.toNat).map s.out) from .inr ⟨gr, 0, rfl, fun j hj => by
              have hjm : j < m := by have := HLEN.out; omega
              rw [Nat.zero_add, HROW.out.cell hjm, if_pos hjm]; simp⟩)
            go_wp2_with fail
            go_ret2
            rw [HV.out]
            refine ⟨some ⟨gr, 0, none⟩, m, ?_, HINTS.out, HBW.out.trans (HBR.out.mono HBW.out.size)⟩
            dsimp only
            rw [HLEN.out]
            rfl
  · have hne : (readyErr r f [fr, r.stages] != 0) = true := by simpa using hz
    have HV := Lib.hid (show playV r f fr plan = ([], readyErr r f [fr, r.stages]) by rw [playV, if_neg hz])
    have HB1 := Lib.hid (HBA.out.trans (hb1.mono HBA.out.size)); clear hb1 HBA
    have HZ := Lib.hid hz; clear hz
    clear x0 x1 x2 x3 x4
    go_wp2_with fail
    go_ret2
    rw [HV.out]
    exact ⟨none, 0, rfl, .inl rfl, HB0.out.trans (HB1.out.mono HB0.out.size)⟩
end Go.Proofs.YtmkjeonjhedgkaaDoor
