/- The contract of road.Cut. -/
import Derived.Test.YtmkjeonjhedgkaaDoorCutP
import Derived.Test.YtmkjeonjhedgkaaDoorDays
import Derived.Deep.CutBlock
import Derived.Deep.RegionHeld3
namespace Go.Proofs.YtmkjeonjhedgkaaDoor
set_option linter.unusedSimpArgs false
set_option linter.unusedVariables false
open Go.RowKit
open Go.ChangeMaps (setBlock)

theorem hit_no {A B : Nat → Bool} {j : Nat} (h : B j = false) (i : Nat) : (A i || (decide (i < j) && B i)) = (A i || (decide (i < j + 1) && B i)) := by
  by_cases e : i = j
  · subst e; simp [h]
  · by_cases c : i < j
    · simp [c, show i < j + 1 by omega]
    · simp [c, show ¬ i < j + 1 by omega]
theorem hit_yes {A B : Nat → Bool} {j : Nat} (h : B j = true) (i : Nat) : (if i = j then true else (A i || (decide (i < j) && B i))) = (A i || (decide (i < j + 1) && B i)) := by
  by_cases e : i = j
  · subst e; simp [h]
  · rw [if_neg e]
    by_cases c : i < j
    · simp [c, show i < j + 1 by omega]
    · simp [c, show ¬ i < j + 1 by omega]

set_option maxRecDepth 100000 in
set_option maxHeartbeats 16000000 in
theorem Cut_any (w : World) (r : Roads) (f : Flock) (a : Option Addr) (cap : Nat) (hs : StripsAt w a r.strips) (hm : r.strips.length ≤ maxLen) (fr day : Int) :
    Calls Tryd.prog 23 #[.agg #[.int .i64 r.days, .int .i64 r.stages, .slice a r.strips.length cap], .agg #[.int .i64 f.heads, .int .i64 f.pace], .int .i64 fr, .int .i64 day] w
      fun e w' => ∃ ga gc, e = .returned (.tuple #[.slice ga (cutV r f fr day).1.length gc, .int .i64 (cutV r f fr day).2]) ∧ IntsAt w' ga (cutV r f fr day).1 ∧ Below w.heap.size w w' := by
  have hb0 : Below w.heap.size w (((w.alloc (.cells #[.int .i64 r.days, .int .i64 r.stages, .slice a r.strips.length cap] 24)).alloc (.cells #[.int .i64 f.heads, .int .i64 f.pace] 37)).alloc (.cells #[.int .i64 fr, .int .i64 r.stages, .int .i64 day, .int .i64 r.days] 3)) :=
    (((Below.refl _ _).alloc (Nat.le_refl _) _).alloc (by simp) _).alloc (by simp; omega) _
  have hp : IntsAt (((w.alloc (.cells #[.int .i64 r.days, .int .i64 r.stages, .slice a r.strips.length cap] 24)).alloc (.cells #[.int .i64 f.heads, .int .i64 f.pace] 37)).alloc (.cells #[.int .i64 fr, .int .i64 r.stages, .int .i64 day, .int .i64 r.days] 3))
      (some ⟨w.heap.size + 1 + 1, 0, none⟩) [fr, r.stages, day, r.days] := by
    have := @ints_laid ((w.alloc (.cells #[.int .i64 r.days, .int .i64 r.stages, .slice a r.strips.length cap] 24)).alloc (.cells #[.int .i64 f.heads, .int .i64 f.pace] 37)) [fr, r.stages, day, r.days]
    simpa using this
  have HM := Lib.hid hm; clear hm
  have HO := Lib.hid (fun hc => @odd4 r hc fr day)
  have x0 : (((w.alloc (.cells #[.int .i64 r.days, .int .i64 r.stages, .slice a r.strips.length cap] 24)).alloc (.cells #[.int .i64 f.heads, .int .i64 f.pace] 37)).alloc (.cells #[.int .i64 fr, .int .i64 r.stages, .int .i64 day, .int .i64 r.days] 3)).cell? ⟨w.heap.size, 0, none⟩ = some (.int .i64 r.days) := by simp [go_sem]
  have x2 : (((w.alloc (.cells #[.int .i64 r.days, .int .i64 r.stages, .slice a r.strips.length cap] 24)).alloc (.cells #[.int .i64 f.heads, .int .i64 f.pace] 37)).alloc (.cells #[.int .i64 fr, .int .i64 r.stages, .int .i64 day, .int .i64 r.days] 3)).cell? ⟨w.heap.size, 2, none⟩ = some (.slice a r.strips.length cap) := by simp [go_sem]
  have x4 : (((w.alloc (.cells #[.int .i64 r.days, .int .i64 r.stages, .slice a r.strips.length cap] 24)).alloc (.cells #[.int .i64 f.heads, .int .i64 f.pace] 37)).alloc (.cells #[.int .i64 fr, .int .i64 r.stages, .int .i64 day, .int .i64 r.days] 3)).cell? ⟨w.heap.size + 1, 1, none⟩ = some (.int .i64 f.pace) := by simp [go_sem]
  have X0 := Lib.hid x0; clear x0
  have X2 := Lib.hid x2; clear x2
  have X4 := Lib.hid x4; clear x4
  go_enter Tryd.func23, Tryd.ntmps23
  go_wp2_with fail
  refine (ready_any _ r f [fr, r.stages, day, r.days] a cap _ 4 (hs.below hb0) HM.out hp (by simp) HO.out).mono ?_
  rintro e w1 (⟨hz, b, rfl, hW, hbb, _, hb1⟩ | ⟨hz, rfl, hb1⟩)
  · obtain ⟨g, hpz⟩ := ready_zero hz
    obtain ⟨⟨p1, p2⟩, p3, p4⟩ := pairs4.1 hpz
    have gs := g.s2
    have gd := g.d2
    have g8 := g.n8
    obtain ⟨x, hx⟩ := Int.eq_ofNat_of_zero_le p1
    obtain ⟨z, hz'⟩ := Int.eq_ofNat_of_zero_le p3
    have Hz := Lib.hid hz; clear hz hpz
    subst hx hz'
    have hb01 := hb0.trans (hb1.mono hb0.size)
    have hst : StripsAt w1 a r.strips := hs.below hb01
    have x0 := ((bcell hb1).1 _ _ (lt_of_cell X0.out)).trans X0.out
    have x2 := ((bcell hb1).1 _ _ (lt_of_cell X2.out)).trans X2.out
    have x4 := ((bcell hb1).1 _ _ (lt_of_cell X4.out)).trans X4.out
    have HB1 := Lib.hid hb01; clear hb0 hb1 hp hs hb01 hbb X0 X2 X4
    have HW := Lib.hid hW; clear hW
    have HST := Lib.hid hst; clear hst
    obtain ⟨N, hN⟩ : ∃ N, r.strips.length = N := ⟨_, rfl⟩
    rw [hN] at x2 g8
    have HN := Lib.hid hN; clear hN
    have hmk := run_make_row' (P := Tryd.prog) 79 4 (.bool false) 1 Tryd.underlying79 info_bool rfl .i64 .i64 N (by omega) (by omega)
    go_wp2_with fail
    clear hmk
    refine (with_any 0 x (by omega) (by omega) _).mono ?_
    rintro e w' ⟨rfl, rfl⟩
    have hof := one_shl_lt (s := x) (by omega)
    generalize hn0 : (0 ||| 1 <<< x) = n0 at hof
    have HN0 := Lib.hid hn0; clear hn0
    have hbr0 : BRow (w1.alloc (.cells (madeCells #[.bool false] N) 4)) w1.heap.size N (fun _ => false) := by unfold BRow; rw [heap_alloc_new, tab_made]
    have hbm : Below w1.heap.size w1 (w1.alloc (.cells (madeCells #[.bool false] N) 4)) := (Below.refl _ _).alloc (Nat.le_refl _) _
    have X0 := Lib.hid x0; clear x0
    have X2 := Lib.hid x2; clear x2
    have X4 := Lib.hid x4; clear x4
    go_wp2_with fail
    go_loopw [13, 14] (fun v13 v14 wx => ∃ k : Nat, (k : Int) ≤ r.days - (z : Int) ∧ v13 = .int .u16 (nightsTo r f (-1) n0 (z : Int) k) ∧ v14 = .int .i64 ((z + k : Nat) : Int) ∧ BRow wx w1.heap.size N (walkedTo r f n0 (z : Int) k) ∧ Below w1.heap.size w1 wx) (fun _ v _ => r.days.toNat - (intOf v).toNat)
    case atStart => exact ⟨0, by omega, rfl, by simp, hbr0, hbm⟩
    case round =>
      clear hbr0 hbm
      obtain ⟨k, hk, rfl, rfl, hbr, hbw⟩ := hrel
      have x0 := ((bcell hbw).1 _ _ (lt_of_cell X0.out)).trans X0.out
      have HBR := Lib.hid hbr; clear hbr
      have HBW := Lib.hid hbw; clear hbw
      by_cases hkz : ((z + k : Nat) : Int) < r.days
      · generalize hd : z + k = d at hkz ⊢
        have HDK := Lib.hid hd; clear hd
        have x2 := ((bcell HBW.out).1 _ _ (lt_of_cell X2.out)).trans X2.out
        have HW1 := Lib.hid (HW.out.below HBW.out)
        have hn64 : nightsTo r f (-1) n0 (z : Int) k < 65536 := by have := nightsTo_lt g (shut := -1) (day := (z : Int)) hof k; omega
        generalize hnk : nightsTo r f (-1) n0 (z : Int) k = nk at hn64 ⊢
        have HNK := Lib.hid hnk; clear hnk
        go_wp2_with fail
        refine (spots_any wr b r f (-1) a cap HW1.out g _ hn64 (d : Int)).mono ?_
        rintro e w2 ⟨m, S, rfl, hS, hnd, hm, hb2⟩
        have hrg := @run_range Tryd.prog 83 _ _ Tryd.underlying83 w2 m _ hm
        simp only [List.length_map] at hrg
        have HS := Lib.hid hS; clear hS
        have hml := hm.lt
        have hgl : w1.heap.size < w2.heap.size := by have := hb2.size; have := (Array.getElem?_eq_some_iff.1 HBR.out).1; omega
        have HBR2 := Lib.hid (HBR.out.below hb2); clear HBR
        have HBW2 := Lib.hid (HBW.out.trans (hb2.mono HBW.out.size)); clear HBW
        clear hb2 x0 x2 HW1
        have hmg : m ≠ w1.heap.size := fun e => by have h1 := HBR2.out; rw [← e] at h1; have h2 := hm; unfold MapIs at h2; unfold BRow at h1; rw [h2] at h1; simp at h1
        have HBA := Lib.hid (show Below w2.heap.size w2 (w2.alloc (.mapIter (some m) S.length #[] S.length)) from (Below.refl _ _).alloc (Nat.le_refl _) _)
        go_wp2_with fail
        go_loopg [] S.length (fun gk wx => ∃ seen : List Nat, seen.Nodup ∧ (∀ i ∈ seen, i < S.length) ∧ gk + seen.length = S.length ∧ MapIs wx m (S.map pairV) ∧ IterIs wx w2.heap.size m S.length seen ∧ BRow wx w1.heap.size N (fun i => walkedTo r f n0 (z : Int) k i || hitB r f (d : Int) S seen i) ∧ Below w1.heap.size w1 wx)
        case atStart => exact ⟨[], by simp, by simp, by simp, hm.below HBA.out hml, IterIs.made, (HBR2.out.below HBA.out).congr fun i _ => by simp [hitB], HBW2.out.trans (HBA.out.mono HBW2.out.size)⟩
        case round =>
          clear hrg HBR2 HBW2 HBA hm
          obtain ⟨seen, hsn, hsl, hgk, hm', hit, hbr, hbx⟩ := hrel
          have HG := Lib.hid hgk; clear hgk
          have HSL := Lib.hid hsl; clear hsl
          have HBR := Lib.hid hbr; clear hbr
          have HBX := Lib.hid hbx; clear hbx
          rcases run_next (P := Tryd.prog) 0 hm' (by simpa using hit) with ⟨hall, hrun⟩ | ⟨i, q, nd, hi, hni, hrun⟩
          · have HALL := Lib.hid hall; clear hall
            go_wp2_with fail
            refine (after_any wr b r f (-1) a cap (HW.out.below HBX.out) g _ hn64 (d : Int)).mono ?_
            rintro e w5 ⟨rfl, hb5⟩
            go_wp2_with fail
            have hdd : (z : Int) + (k : Int) = (d : Int) := by have := HDK.out; omega
            exact ⟨⟨k + 1, by omega, by rw [nightsTo, HNK.out, hdd], by have := HDK.out; rw [show z + (k + 1) = d + 1 by omega]; go_num, (HBR.out.below hb5).congr fun i _ => by
              rw [hitB_all g HS.out (by simpa using HALL.out), walkedTo, HNK.out, hdd], HBX.out.trans (hb5.mono HBX.out.size)⟩, by simp [intOf]; omega⟩
          · rw [List.getElem?_map] at hi
            obtain ⟨p, hp, rfl⟩ := Option.map_eq_some_iff.1 hi
            simp only [List.length_map] at hrun
            obtain ⟨u1, u2, u3, u4⟩ := ((HS.out p).1 (List.mem_of_getElem? hp)).range g
            clear hi
            have hm2 : MapIs (setBlock (wr.drewN nd) w2.heap.size (.mapIter (some m) S.length (seen ++ [i]).toArray S.length)) m (S.map pairV) := by
              unfold MapIs; rw [setBlock_other _ (by omega)]; exact hm'
            have hlt : w2.heap.size < wr.heap.size := hit.lt
            have hit2 : IterIs (setBlock (wr.drewN nd) w2.heap.size (.mapIter (some m) S.length (seen ++ [i]).toArray S.length)) w2.heap.size m S.length (seen ++ [i]) := by
              have h1 : w2.heap.size < (wr.drewN nd).heap.size := by simpa [World.drewN] using hlt
              show ((wr.drewN nd).heap.setIfInBounds _ _)[w2.heap.size]? = some _
              rw [Array.getElem?_setIfInBounds_self_of_lt h1]
            have hbr2 : BRow (setBlock (wr.drewN nd) w2.heap.size (.mapIter (some m) S.length (seen ++ [i]).toArray S.length)) w1.heap.size N (fun i => walkedTo r f n0 (z : Int) k i || hitB r f (d : Int) S seen i) := by
              unfold BRow; rw [setBlock_other _ (by omega)]; exact HBR.out
            have hent := run_entry (P := Tryd.prog) (q := pairV p) (i := i) hm2 (by simpa using hit2) (by simp [hp])
            have hbw : Below w1.heap.size w1 (setBlock (wr.drewN nd) w2.heap.size (.mapIter (some m) S.length (seen ++ [i]).toArray S.length)) := setBlock_below _ (below_drewN HBX.out nd) (by omega)
            generalize setBlock (wr.drewN nd) w2.heap.size (.mapIter (some m) S.length (seen ++ [i]).toArray S.length) = W at hrun hent hbw hit2 hm2 hbr2
            obtain ⟨p1, p2⟩ := p
            simp only [pairV, spotV] at hrun hent
            dsimp only at u1 u2 u3 u4
            clear hm' hit HBR HBX hlt
            go_upto_region 12 with (fail)
            have hba : Below W.heap.size W (W.alloc (.cells #[.int .i64 p1, .int .i64 p2] 86)) := (Below.refl _ _).alloc (Nat.le_refl _) _
            have s0 : (W.alloc (.cells #[.int .i64 p1, .int .i64 p2] 86)).cell? ⟨W.heap.size, 0, none⟩ = some (.int .i64 p1) := by simp [go_sem]
            have s1 : (W.alloc (.cells #[.int .i64 p1, .int .i64 p2] 86)).cell? ⟨W.heap.size, 1, none⟩ = some (.int .i64 p2) := by simp [go_sem]
            have hm3 := hm2.below hba hm2.lt
            have hit3 := hit2.below hba hit2.lt
            have hbr3 := hbr2.below hba
            have hbw3 := hbw.trans (hba.mono hbw.size)
            have hsp : w1.heap.size < W.heap.size := (Array.getElem?_eq_some_iff.1 hbr2).1
            clear hba hm2 hit2 hbr2 hbw hent hrun
            generalize W.alloc (.cells #[.int .i64 p1, .int .i64 p2] 86) = W3 at s0 s1 hm3 hit3 hbr3 hbw3 ⊢
            generalize W.heap.size = sp at s0 s1 hsp ⊢
            have x2 := ((bcell hbw3).1 _ _ (lt_of_cell X2.out)).trans X2.out
            have S0 := Lib.hid s0; clear s0
            have S1 := Lib.hid s1; clear s1
            have HM3 := Lib.hid hm3; clear hm3
            have HI3 := Lib.hid hit3; clear hit3
            have HBR3 := Lib.hid hbr3; clear hbr3
            have HBW3 := Lib.hid hbw3; clear hbw3
            go_wp2_with fail
            clear x2
            go_loopw [63] (fun v63 wx => ∃ j : Nat, j ≤ N ∧ v63 = .int .i64 (j : Int) ∧ BRow wx w1.heap.size N (fun i => (walkedTo r f n0 (z : Int) k i || hitB r f (d : Int) S seen i) || (decide (i < j) && (stepOk r f (-1) (d : Int) (p1, p2) i).isSome)) ∧
              MapIs wx m (S.map pairV) ∧ IterIs wx w2.heap.size m S.length (seen ++ [i]) ∧ wx.cell? ⟨sp, 0, none⟩ = some (.int .i64 p1) ∧ wx.cell? ⟨sp, 1, none⟩ = some (.int .i64 p2) ∧ Below w1.heap.size w1 wx) (fun v _ => N - (intOf v).toNat)
            case atStart => exact ⟨0, Nat.zero_le _, rfl, HBR3.out.congr fun i _ => by simp, HM3.out, HI3.out, S0.out, S1.out, HBW3.out⟩
            case round =>
              clear S0 S1 HM3 HI3 HBR3 HBW3
              obtain ⟨j, hj, rfl, hbr, hmp, hit, s0, s1, hbx⟩ := hrel
              have HBR := Lib.hid hbr; clear hbr
              have HMP := Lib.hid hmp; clear hmp
              have HIT := Lib.hid hit; clear hit
              have HBX := Lib.hid hbx; clear hbx
              by_cases hjN : j < N
              · have hjl : j < r.strips.length := by rw [HN.out]; exact hjN
                have hsk : r.strips[j]? = some r.strips[j] := List.getElem?_eq_getElem hjl
                have hEA := end_any wr b r f (-1) a cap (HW.out.below HBX.out) j hjl p1
                have hstj := (HST.out.below HBX.out)
                obtain ⟨_, _, _, _, _, hL1, hL2, _⟩ := g.strip _ (List.mem_of_getElem? hsk)
                rcases hstj with hst0 | ⟨sb, so, ha, hcs⟩
                · rw [hst0] at hjl; simp at hjl
                have hc2 := (hcs j hjl).c2
                clear hcs
                generalize r.strips[j] = s at hsk hEA hL1 hL2 hc2
                have HSK := Lib.hid hsk; clear hsk
                have HEA := Lib.hid hEA; clear hEA
                have HA := Lib.hid ha; clear ha
                go_wp2_with fail
                refine HEA.out.mono ?_
                clear HEA
                rintro e w5 ⟨rfl, hb5⟩
                have t0 := ((bcell hb5).1 _ _ (lt_of_cell s0)).trans s0
                have t1 := ((bcell hb5).1 _ _ (lt_of_cell s1)).trans s1
                have c2 := ((bcell hb5).1 _ _ (lt_of_cell hc2)).trans hc2
                have HBX5 := Lib.hid (HBX.out.trans (hb5.mono HBX.out.size)); clear HBX
                have HBR5 := Lib.hid (HBR.out.below hb5); clear HBR
                have HMP5 := Lib.hid (HMP.out.below hb5 HMP.out.lt); clear HMP
                have HIT5 := Lib.hid (HIT.out.below hb5 HIT.out.lt); clear HIT
                clear s0 s1 hc2 hb5
                cases hA : (endOf s p1).2
                · have HH := Lib.hid (show (stepOk r f (-1) (d : Int) (p1, p2) j).isSome = false by rw [stepOk_is HSK.out, hA]; rfl); clear hA
                  go_upto_region 16 with (fail)
                  go_quiet (fail)
                  go_wp2_with fail
                  have hbq := below_drewN (Below.refl w5.heap.size w5) nq
                  exact ⟨⟨j + 1, by omega, by go_num, (HBR5.out.below hbq).congr (fun i _ => hit_no (A := fun i => walkedTo r f n0 (z : Int) k i || hitB r f (d : Int) S seen i) (B := fun i => (stepOk r f (-1) (d : Int) (p1, p2) i).isSome) HH.out i), HMP5.out.below hbq HMP5.out.lt, HIT5.out.below hbq HIT5.out.lt, ((bcell hbq).1 _ _ (lt_of_cell t0)).trans t0, ((bcell hbq).1 _ _ (lt_of_cell t1)).trans t1, HBX5.out.trans (hbq.mono HBX5.out.size)⟩, by simp [intOf]; omega⟩
                · have x2 := ((bcell HBX5.out).1 _ _ (lt_of_cell X2.out)).trans X2.out
                  have x4 := ((bcell HBX5.out).1 _ _ (lt_of_cell X4.out)).trans X4.out
                  rw [HA.out] at x2
                  have hq : IntKind.i64.wrap (p2 + s.L) = p2 + s.L := IntWalk.i64_in _ (by have := g.p2; omega)
                  by_cases hP : p2 + s.L ≤ f.pace
                  · have HE := Lib.hid (show (stepOk r f (-1) (d : Int) (p1, p2) j).isSome = openB r f (-1) j (d : Int) by rw [stepOk_is HSK.out, hA, decide_eq_true hP]; rfl); clear hA
                    go_upto_region 16 with (fail)
                    go_cut [94] (fun v94 wx => v94 = .bool (openB r f (-1) j (d : Int)) ∧ Below w5.heap.size w5 wx)
                    case first =>
                      have hP' : decide (p2 + s.L ≤ f.pace) = true := decide_eq_true hP
                      have HW5 := Lib.hid (HW.out.below (HBX5.out.trans ((Below.refl w5.heap.size w5).drew.mono HBX5.out.size)))
                      go_region_held3 (fun w' => w'.cell? ⟨sp, 1, none⟩ = some (.int .i64 p2) ∧ w'.cell? ⟨w.heap.size, 2, none⟩ = some (.slice (some ⟨sb, so, none⟩) N cap) ∧ w'.cell? ⟨sb, so + j * 7 + 2, none⟩ = some (.int .i64 s.L) ∧ w'.cell? ⟨w.heap.size + 1, 1, none⟩ = some (.int .i64 f.pace)) (first | with_reducible exact ⟨t1, x2, c2, x4⟩ | exact ⟨t1, x2, c2, x4⟩ | exact ⟨n1, n2, n3, n4⟩) (first
                        | (go_at_call 31; (with_reducible refine (open_any w5.drew b r f (-1) a cap HW5.out j hjl (d : Int)).mono ?_); rintro e w6 ⟨rfl, hb6⟩; have HB6 := Lib.hid hb6; have n1 := ((bcell hb6).1 _ _ (lt_of_cell t1)).trans t1; have n2 := ((bcell hb6).1 _ _ (lt_of_cell x2)).trans x2; have n3 := ((bcell hb6).1 _ _ (lt_of_cell c2)).trans c2; have n4 := ((bcell hb6).1 _ _ (lt_of_cell x4)).trans x4; clear hb6))
                      all_goals (go_wp2_with fail; go_meet; exact ⟨rfl, (Below.refl _ _).drew.trans HB6.out⟩)
                    case rest =>
                      obtain ⟨rfl, hb6⟩ := hcut
                      have t0' := ((bcell hb6).1 _ _ (lt_of_cell t0)).trans t0
                      have t1' := ((bcell hb6).1 _ _ (lt_of_cell t1)).trans t1
                      have HBX6 := Lib.hid (HBX5.out.trans (hb6.mono HBX5.out.size)); clear HBX5
                      have HBR6 := Lib.hid (HBR5.out.below hb6); clear HBR5
                      have HMP6 := Lib.hid (HMP5.out.below hb6 HMP5.out.lt); clear HMP5
                      have HIT6 := Lib.hid (HIT5.out.below hb6 HIT5.out.lt); clear HIT5
                      clear t0 t1 x2 x4 c2 hb6 hq
                      cases hO : openB r f (-1) j (d : Int)
                      · have HH := Lib.hid (HE.out.trans hO); clear hO
                        go_wp2_with fail
                        exact ⟨⟨j + 1, by omega, by go_num, HBR6.out.congr (fun i _ => hit_no (A := fun i => walkedTo r f n0 (z : Int) k i || hitB r f (d : Int) S seen i) (B := fun i => (stepOk r f (-1) (d : Int) (p1, p2) i).isSome) HH.out i), HMP6.out, HIT6.out, t0', t1', HBX6.out⟩, by simp [intOf]; omega⟩
                      · have HH := Lib.hid (HE.out.trans hO); clear hO
                        have m0 := HBR6.out.cell hjN
                        have m1 := HBR6.out.free j
                        go_wp2_with fail
                        exact ⟨⟨j + 1, by omega, by go_num, (HBR6.out.set j true).congr (fun i _ => hit_yes (A := fun i => walkedTo r f n0 (z : Int) k i || hitB r f (d : Int) S seen i) (B := fun i => (stepOk r f (-1) (d : Int) (p1, p2) i).isSome) HH.out i), (Below.heap_setCell _ ⟨w1.heap.size, j, none⟩ _ m hmg).trans HMP6.out, (Below.heap_setCell _ ⟨w1.heap.size, j, none⟩ _ w2.heap.size (Nat.ne_of_gt hgl)).trans HIT6.out,
                          by rw [World.cell?_setCell_other _ _ _ _ (by intro e; injection e with e1; omega)]; exact t0', by rw [World.cell?_setCell_other _ _ _ _ (by intro e; injection e with e1; omega)]; exact t1', HBX6.out.setCell (p := ⟨w1.heap.size, j, none⟩) (Nat.le_refl _) _⟩, by simp [intOf]; omega⟩
                  · have HH := Lib.hid (show (stepOk r f (-1) (d : Int) (p1, p2) j).isSome = false by rw [stepOk_is HSK.out, hA, decide_eq_false hP]; rfl); clear hA
                    have hP' : decide (p2 + s.L ≤ f.pace) = false := decide_eq_false hP
                    go_upto_region 16 with (fail)
                    go_quiet (fail)
                    go_wp2_with fail
                    have hbq := below_drewN (Below.refl w5.heap.size w5) nq
                    exact ⟨⟨j + 1, by omega, by go_num, (HBR5.out.below hbq).congr (fun i _ => hit_no (A := fun i => walkedTo r f n0 (z : Int) k i || hitB r f (d : Int) S seen i) (B := fun i => (stepOk r f (-1) (d : Int) (p1, p2) i).isSome) HH.out i), HMP5.out.below hbq HMP5.out.lt, HIT5.out.below hbq HIT5.out.lt, ((bcell hbq).1 _ _ (lt_of_cell t0)).trans t0, ((bcell hbq).1 _ _ (lt_of_cell t1)).trans t1, HBX5.out.trans (hbq.mono HBX5.out.size)⟩, by simp [intOf]; omega⟩
              · obtain rfl : j = N := by omega
                go_wp2_with fail
                have hlen := nodup_lt_length S.length (seen ++ [i]) (List.nodup_append.2 ⟨hsn, by simp, fun a ha b hb e => by simp at hb; subst hb; exact hni (e ▸ ha)⟩)
                  (fun x hx => by rcases List.mem_append.1 hx with hx | hx
                                  · exact HSL.out x hx
                                  · have := (List.getElem?_eq_some_iff.1 hp).1; simp at hx; omega)
                simp only [List.length_append, List.length_cons, List.length_nil] at hlen
                have hg' := HG.out
                go_roundg (gk - 1)
                case measure => omega
                case rel =>
                  exact ⟨seen ++ [i], List.nodup_append.2 ⟨hsn, by simp, fun a ha b hb e => by simp at hb; subst hb; exact hni (e ▸ ha)⟩, fun x hx => by
                    rcases List.mem_append.1 hx with hx | hx
                    · exact HSL.out x hx
                    · have := (List.getElem?_eq_some_iff.1 hp).1; simp at hx; omega, by simp; omega, HMP.out, HIT.out, HBR.out.congr fun i' hi' => by
                    rw [hitB_snoc hp]; simp [hi', Bool.or_assoc], HBX.out⟩
      · have hkk : k = (r.days - (z : Int)).toNat := by omega
        obtain ⟨B, hB⟩ : ∃ B, wr.heap.size = B := ⟨_, rfl⟩
        have hgB : w1.heap.size < B := by have := (Array.getElem?_eq_some_iff.1 HBR.out).1; omega
        have HBB := Lib.hid (show B ≤ wr.heap.size by omega); clear hB
        have HKK := Lib.hid hkk; clear hkk
        go_wp2_with fail
        go_loopw [19, 105] (fun v19 v105 wx => ∃ j : Nat, j ≤ N ∧ v105 = .int .i64 (j : Int) ∧ OwnInts wx B v19 (cutTo (walkedTo r f n0 (z : Int) k) j) ∧ BRow wx w1.heap.size N (walkedTo r f n0 (z : Int) k) ∧ Below w1.heap.size w1 wx ∧ B ≤ wx.heap.size) (fun _ v _ => N - (intOf v).toNat)
        case atStart => exact ⟨0, Nat.zero_le _, rfl, OwnInts.nil _ _, HBR.out, HBW.out, HBB.out⟩
        case round =>
          clear HBR HBW x0
          obtain ⟨j, hj, rfl, hown, hbr, hbw, hBz⟩ := hrel
          have hle := cutTo_le (walkedTo r f n0 (z : Int) k) j
          have HOW := Lib.hid hown; clear hown
          have HBW := Lib.hid hbw; clear hbw
          by_cases hjN : j < N
          · have m0 := hbr.cell hjN
            have HBR := Lib.hid hbr; clear hbr
            cases hV : walkedTo r f n0 (z : Int) k j
            · have HE := Lib.hid (show cutTo (walkedTo r f n0 (z : Int) k) (j + 1) = cutTo (walkedTo r f n0 (z : Int) k) j ++ [(j : Int)] by rw [cutTo, hV]; rfl)
              rw [hV] at m0
              clear hV
              go_wp2_with (at_builtin; refine app_int1 rfl _ _ rfl B _ _ rfl HOW.out _ rfl (by omega) hBz ?_)
              intro v' w' hown' hbel _
              go_wp2_with fail
              exact ⟨⟨j + 1, by omega, by go_num, by rw [HE.out]; exact hown', (hbel.block _ hgB).trans HBR.out, HBW.out.trans (hbel.mono (by omega)), by have := hbel.size; omega⟩, by simp [intOf]; omega⟩
            · have HE := Lib.hid (show cutTo (walkedTo r f n0 (z : Int) k) (j + 1) = cutTo (walkedTo r f n0 (z : Int) k) j by rw [cutTo, hV]; rfl)
              rw [hV] at m0
              clear hV
              go_wp2_with fail
              exact ⟨⟨j + 1, by omega, by go_num, by rw [HE.out]; exact HOW.out, HBR.out, HBW.out, hBz⟩, by simp [intOf]; omega⟩
          · obtain rfl : j = N := by omega
            clear hbr
            go_wp2_with fail
            go_ret2
            obtain ⟨ga, gc, rfl, hi, _⟩ := HOW.out.ints
            have e : cutV r f (x : Int) (z : Int) = (cutTo (walkedTo r f n0 (z : Int) k) j, 0) := by
              rw [cutV, if_pos Hz.out, HN.out, HKK.out, show ((x : Int)).toNat = x from rfl, HN0.out]
            rw [e]
            exact ⟨ga, gc, rfl, hi, HB1.out.trans (HBW.out.mono HB1.out.size)⟩
  · have hne : (readyErr r f [fr, r.stages, day, r.days] != 0) = true := by simpa using hz
    have Hz := Lib.hid hz; clear hz
    go_wp2_with fail
    go_ret2
    have e : cutV r f fr day = ([], readyErr r f [fr, r.stages, day, r.days]) := by rw [cutV, if_neg Hz.out]
    rw [e]
    exact ⟨none, 0, rfl, .inl rfl, hb0.trans (hb1.mono hb0.size)⟩
end Go.Proofs.YtmkjeonjhedgkaaDoor
