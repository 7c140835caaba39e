/- The contract of mestaref02.Without . -/
import Derived.Test.YtjgkgnfhglhklaaMust
namespace Go.Proofs.Ytjgkgnfhglhklaa
set_option linter.unusedSimpArgs false
set_option linter.unusedVariables false
open Go.RowKit

/-- A struct of three cells that is stored whole. -/
theorem three {W : World} {q : Nat} {u0 u1 u2 v0 v1 v2 : Value} (h0 : W.cell? ⟨q, 0, none⟩ = some u0) (h1 : W.cell? ⟨q, 1, none⟩ = some u1) (h2 : W.cell? ⟨q, 2, none⟩ = some u2) :
    (((W.setCell ⟨q, 0, none⟩ v0).setCell ⟨q, 1, none⟩ v1).setCell ⟨q, 2, none⟩ v2).cell? ⟨q, 0, none⟩ = some v0 ∧ (((W.setCell ⟨q, 0, none⟩ v0).setCell ⟨q, 1, none⟩ v1).setCell ⟨q, 2, none⟩ v2).cell? ⟨q, 1, none⟩ = some v1 ∧ (((W.setCell ⟨q, 0, none⟩ v0).setCell ⟨q, 1, none⟩ v1).setCell ⟨q, 2, none⟩ v2).cell? ⟨q, 2, none⟩ = some v2 := by
  refine ⟨?_, ?_, ?_⟩
  · rw [World.cell?_setCell_other _ _ _ _ (by simp), World.cell?_setCell_other _ _ _ _ (by simp)]; exact World.cell?_setCell_same _ _ _ h0
  · rw [World.cell?_setCell_other _ _ _ _ (by simp)]; exact World.cell?_setCell_same _ _ _ (u := u1) (by rw [World.cell?_setCell_other _ _ _ _ (by simp)]; exact h1)
  · exact World.cell?_setCell_same _ _ _ (u := u2) (by rw [World.cell?_setCell_other _ _ _ _ (by simp), World.cell?_setCell_other _ _ _ _ (by simp)]; exact h2)
theorem StripsIn.three {W : World} {g q : Nat} {l : List Strip} (h : StripsIn W g l) (hne : g ≠ q) (v0 v1 v2 : Value) : StripsIn (((W.setCell ⟨q, 0, none⟩ v0).setCell ⟨q, 1, none⟩ v1).setCell ⟨q, 2, none⟩ v2) g l := by
  have e : ∀ (W : World) (o k : Nat) (v : Value), (W.setCell ⟨q, o, none⟩ v).cell? ⟨g, k, none⟩ = W.cell? ⟨g, k, none⟩ := fun W o k v => World.cell?_setCell_other W _ _ _ (fun e => by injection e with e1; exact hne e1.symm)
  exact ⟨fun i hi => (h.at_ i hi).keep fun k => by rw [e, e, e], fun o => by simp only [World.frozen?_setCell]; exact h.free o⟩

set_option maxRecDepth 100000 in
set_option maxHeartbeats 8000000 in
theorem refWithout_any (w : World) {r : Roads} {f : Flock} (g : Good r f) (a : Option Addr) (vc : Nat) (hs : StripsAt w a r.strips) (hvc : r.strips.length ≤ vc) (i : Nat) (hlt : i < r.strips.length) :
    Calls Try.prog 115 #[.agg #[.int .i64 r.days, .int .i64 r.stages, .slice a r.strips.length vc], .int .i64 (i : Int)] w
      fun e w' => ∃ g c, e = .returned (.agg #[.int .i64 r.days, .int .i64 r.stages, .slice (some ⟨g, 0, none⟩) (without r i).strips.length c]) ∧ w.heap.size ≤ g ∧ StripsIn w' g (without r i).strips ∧ Below w.heap.size w w' := by
  rcases hs with hx | ⟨sb, so, rfl, hx⟩
  · rw [hx] at hlt; simp at hlt
  have hsb := lt_of_cell (hx i hlt).c0
  have hs : StripsAt w (some ⟨sb, so, none⟩) r.strips := .inr ⟨sb, so, rfl, hx⟩
  clear hx
  have hl8 := g.n8
  have hb1 : Below w.heap.size w ((w.alloc (.cells #[.int .i64 r.days, .int .i64 r.stages, .slice (some ⟨sb, so, none⟩) r.strips.length vc] 24)).alloc (.cells #[.int .i64 0, .int .i64 0, .slice none 0 0] 24)) := ((Below.refl _ _).alloc (Nat.le_refl _) _).alloc (by simp) _
  have hsX : ((w.alloc (.cells #[.int .i64 r.days, .int .i64 r.stages, .slice (some ⟨sb, so, none⟩) r.strips.length vc] 24)).alloc (.cells #[.int .i64 0, .int .i64 0, .slice none 0 0] 24)).heap.size = w.heap.size + 2 := by simp
  have x0 : ((w.alloc (.cells #[.int .i64 r.days, .int .i64 r.stages, .slice (some ⟨sb, so, none⟩) r.strips.length vc] 24)).alloc (.cells #[.int .i64 0, .int .i64 0, .slice none 0 0] 24)).cell? ⟨w.heap.size, 0, none⟩ = some (.int .i64 r.days) := by simp [go_sem]
  have x1 : ((w.alloc (.cells #[.int .i64 r.days, .int .i64 r.stages, .slice (some ⟨sb, so, none⟩) r.strips.length vc] 24)).alloc (.cells #[.int .i64 0, .int .i64 0, .slice none 0 0] 24)).cell? ⟨w.heap.size, 1, none⟩ = some (.int .i64 r.stages) := by simp [go_sem]
  have x2 : ((w.alloc (.cells #[.int .i64 r.days, .int .i64 r.stages, .slice (some ⟨sb, so, none⟩) r.strips.length vc] 24)).alloc (.cells #[.int .i64 0, .int .i64 0, .slice none 0 0] 24)).cell? ⟨w.heap.size, 2, none⟩ = some (.slice (some ⟨sb, so, none⟩) r.strips.length vc) := by simp [go_sem]
  have f2 : ((w.alloc (.cells #[.int .i64 r.days, .int .i64 r.stages, .slice (some ⟨sb, so, none⟩) r.strips.length vc] 24)).alloc (.cells #[.int .i64 0, .int .i64 0, .slice none 0 0] 24)).frozen? ⟨w.heap.size, 2, none⟩ = false := by simp [go_sem]
  have z0 : ((w.alloc (.cells #[.int .i64 r.days, .int .i64 r.stages, .slice (some ⟨sb, so, none⟩) r.strips.length vc] 24)).alloc (.cells #[.int .i64 0, .int .i64 0, .slice none 0 0] 24)).cell? ⟨w.heap.size + 1, 0, none⟩ = some (.int .i64 0) := by simp [go_sem]
  have z1 : ((w.alloc (.cells #[.int .i64 r.days, .int .i64 r.stages, .slice (some ⟨sb, so, none⟩) r.strips.length vc] 24)).alloc (.cells #[.int .i64 0, .int .i64 0, .slice none 0 0] 24)).cell? ⟨w.heap.size + 1, 1, none⟩ = some (.int .i64 0) := by simp [go_sem]
  have z2 : ((w.alloc (.cells #[.int .i64 r.days, .int .i64 r.stages, .slice (some ⟨sb, so, none⟩) r.strips.length vc] 24)).alloc (.cells #[.int .i64 0, .int .i64 0, .slice none 0 0] 24)).cell? ⟨w.heap.size + 1, 2, none⟩ = some (.slice none 0 0) := by simp [go_sem]
  have zf : ∀ k, ((w.alloc (.cells #[.int .i64 r.days, .int .i64 r.stages, .slice (some ⟨sb, so, none⟩) r.strips.length vc] 24)).alloc (.cells #[.int .i64 0, .int .i64 0, .slice none 0 0] 24)).frozen? ⟨w.heap.size + 1, k, none⟩ = false := fun k => by simp [go_sem]
  go_enter Try.func115, Try.ntmps115
  go_upto_region 1 with (fail)
  generalize ((w.alloc (.cells #[.int .i64 r.days, .int .i64 r.stages, .slice (some ⟨sb, so, none⟩) r.strips.length vc] 24)).alloc (.cells #[.int .i64 0, .int .i64 0, .slice none 0 0] 24)) = wX at hb1 hsX x0 x1 x2 f2 z0 z1 z2 zf ⊢
  have HB1 := Lib.hid hb1
  have hbE : Below wX.heap.size wX ((wX.alloc (.cells #[] 57)).drew) := ((Below.refl _ _).alloc (Nat.le_refl _) _).drew
  have hoe : OwnStrips (wX.alloc (.cells #[] 57)).drew (w.heap.size + 2) (.slice (some ⟨wX.heap.size, 0, none⟩) 0 0) [] := own_empty wX (w.heap.size + 2) (by omega)
  have HOE := Lib.hid hoe; clear hoe
  have HSX1 := Lib.hid (hs.below hb1)
  have HSE := Lib.hid (HSX1.out.below hbE)
  have hpl : w.heap.size < w.heap.size + 2 := by omega
  have hpx : w.heap.size < wX.heap.size := by omega
  have k3 : (wX.alloc (.cells #[] 57)).drew.cell? ⟨w.heap.size, 2, none⟩ = some (.slice (some ⟨sb, so, none⟩) r.strips.length vc) := (hbE.cell (p := ⟨w.heap.size, 2, none⟩) hpx).trans x2
  have K3 := Lib.hid k3; clear k3
  have k2 := x2
  have hlt2 : w.heap.size < wX.heap.size := hpx
  have HE := Lib.hid hbE
  have X0 := Lib.hid x0
  have X1 := Lib.hid x1
  have X2 := Lib.hid x2
  have F2 := Lib.hid f2
  have Z0 := Lib.hid z0
  have Z1 := Lib.hid z1
  have Z2 := Lib.hid z2
  have ZF := Lib.hid zf
  have HSX := Lib.hid hsX
  have HSB := Lib.hid (show sb < w.heap.size + 2 by omega)
  have q1 : IntKind.i64.wrap ((i : Int) + 1) = (i : Int) + 1 := IntWalk.i64_in _ (by omega)
  have q2 : 0 ≤ (i : Int) + 1 := by omega
  have q3 : ((i : Int) + 1).toNat = i + 1 := by omega
  have q4 : (i : Int) ≤ (vc : Int) := by omega
  have q5 : (i : Int) + 1 ≤ (r.strips.length : Int) := by omega
  have q6 : (r.strips.length : Int) ≤ (vc : Int) := by omega
  have T1 := Lib.hid (show (r.strips.take i).length = i by rw [List.length_take]; omega)
  have T2 := Lib.hid (show ([] : List Strip).length + (r.strips.take i).length ≤ 1000 by rw [List.length_take]; simp; omega)
  have T3 := Lib.hid (show w.heap.size + 2 ≤ ((wX.alloc (.cells #[] 57)).drew).heap.size by simp; omega)
  have T4 := Lib.hid (HSE.out.take i)
  have hWi : [] ++ r.strips.take i ++ r.strips.drop (i + 1) = (without r i).strips := by
    show _ = r.strips.eraseIdx i
    rw [List.nil_append, erase_split]
  have HWI := Lib.hid hWi; clear hWi
  have T5 := Lib.hid (show (r.strips.drop (i + 1)).length = r.strips.length - (i + 1) by rw [List.length_drop])
  have T6 := Lib.hid (show ([] ++ r.strips.take i).length + (r.strips.drop (i + 1)).length ≤ 1000 by simp; omega)
  clear hb1 hsX hbE x0 x1 x2 f2 z0 z1 z2 zf hs hsb
  go_cut [] (fun wx => ∃ g gc, w.heap.size + 2 ≤ g ∧ wx.cell? ⟨w.heap.size, 0, none⟩ = some (.int .i64 r.days) ∧ wx.cell? ⟨w.heap.size, 1, none⟩ = some (.int .i64 r.stages) ∧ wx.cell? ⟨w.heap.size, 2, none⟩ = some (.slice (some ⟨g, 0, none⟩) (without r i).strips.length gc) ∧ StripsIn wx g (without r i).strips ∧
      ((∀ k, wx.cell? ⟨w.heap.size + 1, k, none⟩ = wX.cell? ⟨w.heap.size + 1, k, none⟩) ∧ ∀ k, wx.frozen? ⟨w.heap.size + 1, k, none⟩ = wX.frozen? ⟨w.heap.size + 1, k, none⟩) ∧ Below w.heap.size w wx)
  case first =>
    by_cases hvi : vc = i + 1
    · subst hvi
      have Q7 := Lib.hid (show r.strips.length - (i + 1) = 0 by omega)
      have q8 : (i : Int) ≤ (i : Int) + 1 := by omega
      have q9 : ((i + 1 : Nat) : Int) = (i : Int) + 1 := by omega
      have q10 : (i : Int) < (i : Int) + 1 := by omega
      go_region_law (first
          | ((refine step_app_strips ?_ (.tmp 5) (.tmp 9) ?_ (w.heap.size + 2) (.slice (some ⟨wX.heap.size, 0, none⟩) 0 0) [] ?_ ?_ (some ⟨sb, so, none⟩) (i + 1) i (r.strips.take i) ?_ ?_ ?_ ?_ ?_ ?_); (iterate 9 (first | rfl | exact HOE.out | exact T1.out | exact T4.out | exact T2.out | exact T3.out))
             intro v1 w1 hown1 hb1 hv1; have HO1 := Lib.hid hown1; have HB2 := Lib.hid hb1; have HV1 := Lib.hid (hv1 (by simp)); have T7 := Lib.hid (Nat.le_trans T3.out hb1.size); have l2 := (hb1.cell (p := ⟨w.heap.size, 2, none⟩) hpl).trans K3.out; clear hown1 hb1 hv1)
          | ((refine step_app_strips ?_ (.tmp 10) (.tmp 15) ?_ (w.heap.size + 2) v1 ([] ++ r.strips.take i) ?_ ?_ (some ⟨sb, so, none⟩) 0 0 (r.strips.drop (i + 1)) ?_ ?_ ?_ ?_ ?_ ?_); (iterate 9 (first | rfl | exact HO1.out | exact T6.out | exact T7.out | exact T5.out.trans Q7.out | exact .inl (List.length_eq_zero_iff.1 (T5.out.trans Q7.out))))
             intro v2 w2 hown2 hb3 hv3; rw [HWI.out] at hown2; obtain ⟨g2, gc2, rfl, hg1, hg2, hin⟩ := hown2.into (hv3 HV1.out); have HIN := Lib.hid hin; have hbW := ((HE.out.mono (Nat.le_of_eq HSX.out.symm)).trans HB2.out).trans hb3; have HBW := Lib.hid hbW; have m2 := (hbW.cell (p := ⟨w.heap.size, 2, none⟩) hpl).trans X2.out; have nf := (hbW.frozen (p := ⟨w.heap.size, 2, none⟩) hpl).trans F2.out; clear hown2 hb3 hv3 hin hbW))
      all_goals
        go_wp2_with fail
        try go_meet
        refine ⟨g2, gc2, hg1, ?_, ?_, ?_, ?_, ?_, ?_⟩
        · rw [World.cell?_setCell_other _ _ _ _ (by simp)]; exact (HBW.out.cell (p := ⟨w.heap.size, 0, none⟩) hpl).trans X0.out
        · rw [World.cell?_setCell_other _ _ _ _ (by simp)]; exact (HBW.out.cell (p := ⟨w.heap.size, 1, none⟩) hpl).trans X1.out
        · exact World.cell?_setCell_same _ _ _ m2
        · exact ⟨fun k hk => (HIN.out.at_ k hk).keep fun j => World.cell?_setCell_other _ _ _ _ (fun e => by injection e with e1; omega), fun o => by simp only [World.frozen?_setCell]; exact HIN.out.free o⟩
        · exact ⟨fun k => (World.cell?_setCell_other _ _ _ _ (by intro e; injection e with e1; omega)).trans (HBW.out.cell (p := ⟨w.heap.size + 1, k, none⟩) (Nat.lt_succ_self _)), fun k => by simp only [World.frozen?_setCell]; exact HBW.out.frozen (p := ⟨w.heap.size + 1, k, none⟩) (Nat.lt_succ_self _)⟩
        · exact (HB1.out.trans (HBW.out.mono (by omega))).setCell (p := ⟨w.heap.size, 2, none⟩) (Nat.le_refl _) _
    · have q7 : (i : Int) + 1 < (vc : Int) := by omega
      go_region_law (first
          | ((refine step_app_strips ?_ (.tmp 5) (.tmp 9) ?_ (w.heap.size + 2) (.slice (some ⟨wX.heap.size, 0, none⟩) 0 0) [] ?_ ?_ (some ⟨sb, so, none⟩) vc i (r.strips.take i) ?_ ?_ ?_ ?_ ?_ ?_); (iterate 9 (first | rfl | exact HOE.out | exact T1.out | exact T4.out | exact T2.out | exact T3.out))
             intro v1 w1 hown1 hb1 hv1; have HO1 := Lib.hid hown1; have HB2 := Lib.hid hb1; have HV1 := Lib.hid (hv1 (by simp)); have T7 := Lib.hid (Nat.le_trans T3.out hb1.size); have l2 := (hb1.cell (p := ⟨w.heap.size, 2, none⟩) hpl).trans K3.out; clear hown1 hb1 hv1)
          | ((refine step_app_strips ?_ (.tmp 10) (.tmp 15) ?_ (w.heap.size + 2) v1 ([] ++ r.strips.take i) ?_ ?_ (some ⟨sb, so + (i + 1) * 7, none⟩) (vc - (i + 1)) (r.strips.length - (i + 1)) (r.strips.drop (i + 1)) ?_ ?_ ?_ ?_ ?_ ?_); (iterate 9 (first | rfl | exact HO1.out | exact T6.out | exact T7.out | exact T5.out | exact (HSE.out.keepB HB2.out HSB.out).drop (i + 1)))
             intro v2 w2 hown2 hb3 hv3; rw [HWI.out] at hown2; obtain ⟨g2, gc2, rfl, hg1, hg2, hin⟩ := hown2.into (hv3 HV1.out); have HIN := Lib.hid hin; have hbW := ((HE.out.mono (Nat.le_of_eq HSX.out.symm)).trans HB2.out).trans hb3; have HBW := Lib.hid hbW; have m2 := (hbW.cell (p := ⟨w.heap.size, 2, none⟩) hpl).trans X2.out; have nf := (hbW.frozen (p := ⟨w.heap.size, 2, none⟩) hpl).trans F2.out; clear hown2 hb3 hv3 hin hbW))
      all_goals
        go_wp2_with fail
        try go_meet
        refine ⟨g2, gc2, hg1, ?_, ?_, ?_, ?_, ?_, ?_⟩
        · rw [World.cell?_setCell_other _ _ _ _ (by simp)]; exact (HBW.out.cell (p := ⟨w.heap.size, 0, none⟩) hpl).trans X0.out
        · rw [World.cell?_setCell_other _ _ _ _ (by simp)]; exact (HBW.out.cell (p := ⟨w.heap.size, 1, none⟩) hpl).trans X1.out
        · exact World.cell?_setCell_same _ _ _ m2
        · exact ⟨fun k hk => (HIN.out.at_ k hk).keep fun j => World.cell?_setCell_other _ _ _ _ (fun e => by injection e with e1; omega), fun o => by simp only [World.frozen?_setCell]; exact HIN.out.free o⟩
        · exact ⟨fun k => (World.cell?_setCell_other _ _ _ _ (by intro e; injection e with e1; omega)).trans (HBW.out.cell (p := ⟨w.heap.size + 1, k, none⟩) (Nat.lt_succ_self _)), fun k => by simp only [World.frozen?_setCell]; exact HBW.out.frozen (p := ⟨w.heap.size + 1, k, none⟩) (Nat.lt_succ_self _)⟩
        · exact (HB1.out.trans (HBW.out.mono (by omega))).setCell (p := ⟨w.heap.size, 2, none⟩) (Nat.le_refl _) _
  case rest =>
    obtain ⟨g1, gc, hg1, y0, y1, y2, hin, ⟨hz, hzf⟩, hbY⟩ := hcut
    have j0 := (hz 0).trans Z0.out
    have j1 := (hz 1).trans Z1.out
    have j2 := (hz 2).trans Z2.out
    have p0 := (hzf 0).trans (ZF.out 0)
    have p1 := (hzf 1).trans (ZF.out 1)
    have p2 := (hzf 2).trans (ZF.out 2)
    clear k2 q1 q2 q3 q4 q5 q6 T1 T2 T3 T4 T5 T6 X0 X1 X2 F2 HSE HE K3 HOE HB1 HSX HWI Z0 Z1 Z2 ZF hz hzf HSX1
    have HIN := Lib.hid hin; clear hin
    have HBY := Lib.hid hbY; clear hbY
    go_wp2_with fail
    have h3 := three (v0 := .int .i64 r.days) (v1 := .int .i64 r.stages) (v2 := .slice (some ⟨g1, 0, none⟩) (without r i).strips.length gc) j0 j1 j2
    have hin' := HIN.out.three (q := w.heap.size + 1) (by omega) (.int .i64 r.days) (.int .i64 r.stages) (.slice (some ⟨g1, 0, none⟩) (without r i).strips.length gc)
    have hbF := ((HBY.out.setCell (p := ⟨w.heap.size + 1, 0, none⟩) (Nat.le_succ _) (.int .i64 r.days)).setCell (p := ⟨w.heap.size + 1, 1, none⟩) (Nat.le_succ _) (.int .i64 r.stages)).setCell (p := ⟨w.heap.size + 1, 2, none⟩) (Nat.le_succ _) (.slice (some ⟨g1, 0, none⟩) (without r i).strips.length gc)
    clear j0 j1 j2 p0 p1 p2 y0 y1 y2 HIN HBY
    generalize (((wc.setCell ⟨w.heap.size + 1, 0, none⟩ (.int .i64 r.days)).setCell ⟨w.heap.size + 1, 1, none⟩ (.int .i64 r.stages)).setCell ⟨w.heap.size + 1, 2, none⟩ (.slice (some ⟨g1, 0, none⟩) (without r i).strips.length gc)) = S at h3 hin' hbF ⊢
    obtain ⟨s0, s1, s2⟩ := h3
    refine bodyPost_ret (v := .agg #[.int .i64 r.days, .int .i64 r.stages, .slice (some ⟨g1, 0, none⟩) (without r i).strips.length gc]) ?_ rfl ⟨g1, gc, rfl, by omega, hin', hbF⟩
    clear hin' hbF
    simp [results, Try.results115, go_sem, s0, s1, s2]
end Go.Proofs.Ytjgkgnfhglhklaa
