/- The contract of togo. -/
import Derived.Test.YtjgkgnfhglhklaaMemo
namespace Go.Proofs.Ytjgkgnfhglhklaa
set_option linter.unusedSimpArgs false
set_option linter.unusedVariables false
open Go.RowKit
open Go.ChangeMaps (setBlock)

theorem best_none {r : Roads} {f : Flock} {shut d b0 : Int} {V : Int × Int → Int} {p : Int × Int} {k : Nat} (h : ∀ q, stepOk r f shut d p k ≠ some q) : bestTo r f shut V d p b0 (k + 1) = bestTo r f shut V d p b0 k := by
  rw [bestTo]
  cases hs : stepOk r f shut d p k with
  | none => rfl
  | some q => exact absurd hs (h q)
theorem best_some {r : Roads} {f : Flock} {shut d b0 : Int} {V : Int × Int → Int} {p q : Int × Int} {k : Nat} (h : stepOk r f shut d p k = some q) : bestTo r f shut V d p b0 (k + 1) = min (bestTo r f shut V d p b0 k) ((q.2 - p.2) + V q) := by
  rw [bestTo, h]

theorem min_num {a b c : Int} (h : c = min b a) : Value.int .i64 (if a < b then a else b) = Value.int .i64 c := by
  rw [h]; congr 1; split <;> omega

section
variable {r : Roads} {f : Flock} {shut day : Int} {q : Int × Int} {k : Nat} {s : Strip} {eo : Int × Bool}
theorem nstep_far (hs : r.strips[k]? = some s) (h : ¬ q.2 + s.L ≤ f.pace) : ∀ p, stepOk r f shut day q k ≠ some p := by
  intro p hp
  obtain ⟨s', hs1, _, h2, _, _⟩ := stepOk_some.1 hp
  rw [hs] at hs1
  obtain rfl : s = s' := by simpa using hs1
  exact absurd h2 h
theorem nstep_off (hs : r.strips[k]? = some s) (he : endOf s q.1 = eo) (h : eo.2 = false) : ∀ p, stepOk r f shut day q k ≠ some p := by
  intro p hp
  obtain ⟨s', hs1, h1, _, _, _⟩ := stepOk_some.1 hp
  rw [hs] at hs1
  obtain rfl : s = s' := by simpa using hs1
  rw [he, h] at h1; simp at h1
theorem nstep_shut (h : openB r f shut k day = false) : ∀ p, stepOk r f shut day q k ≠ some p := by
  intro p hp
  obtain ⟨s', _, _, _, h3, _⟩ := stepOk_some.1 hp
  rw [h] at h3; simp at h3
theorem step_yes (hs : r.strips[k]? = some s) (he : endOf s q.1 = eo) (hA : eo.2 = true) (hP : q.2 + s.L ≤ f.pace) (hO : openB r f shut k day = true) : stepOk r f shut day q k = some (eo.1, q.2 + s.L) :=
  stepOk_some.2 ⟨s, hs, by rw [he]; exact hA, hP, hO, by rw [he]⟩
end

set_option maxRecDepth 100000 in
set_option maxHeartbeats 8000000 in
theorem togo_any (b : Nat) (r : Roads) (f : Flock) (shut : Int) (a : Option Addr) (cap : Nat) (g : Good r f) (tt last : Int) (h3 : last ≤ 100) (m : Nat) : ∀ (k : Nat) (d s l : Int) (w : World),
    0 ≤ d → d ≤ last + 1 → 0 ≤ s → s < r.stages → 0 ≤ l → l ≤ f.pace → rank f last d l < (k : Int) → WorkAt w b r f shut a cap → Memo w m (togoV r f shut tt last) →
    Calls Try.prog 120 #[.pointer (some ⟨b, 0, none⟩), .agg #[.int .i64 d, .int .i64 s, .int .i64 l], .int .i64 tt, .int .i64 last, .map (some m)] w
      fun e w' => e = .returned (.int .i64 (togoV r f shut tt last d (s, l))) ∧ Memo w' m (togoV r f shut tt last) ∧ Ext m w w' := by
  have g1 := g.s1
  have g2 := g.s2
  have gp1 := g.p1
  have gp2 := g.p2
  have hn8 := g.n8
  intro k
  induction k with
  | zero => intro d s l w h1 h2 _ _ h5 h6 h7; have := rank_nonneg h2 (by omega) h6; omega
  | succ k ih =>
    intro d s l w h1 h2 hs1 hs2 hl1 hl2 hrk hW hM
    have hb0 : Below w.heap.size w (w.alloc (.cells #[.int .i64 d, .int .i64 s, .int .i64 l] 152)) := Below.alloc (Below.refl _ _) (Nat.le_refl _) _
    by_cases hd : last < d
    · have hV := togoV_end (r := r) (f := f) (shut := shut) (tt := tt) (p := (s, l)) hd
      by_cases hst : s = tt
      · rw [if_pos hst] at hV
        have hbt : (s == tt) = true := by simpa using hst
        have Hst := Lib.hid hst; clear hst
        have HV := Lib.hid hV; clear hV
        go_enter Try.func120, Try.ntmps120
        go_wp2_with fail
        go_ret
        exact ⟨ret_int (by rw [HV.out]), hM.below hb0, Ext.of_below hb0⟩
      · rw [if_neg hst] at hV
        have hbt : (s == tt) = false := by simpa using hst
        have HV := Lib.hid hV; clear hV
        go_enter Try.func120, Try.ntmps120
        go_wp2_with fail
        go_ret
        exact ⟨ret_int (by rw [HV.out]; rfl), hM.below hb0, Ext.of_below hb0⟩
    · have hM0 := hM.below hb0
      have hW0 := hW.below hb0
      have hdl : d ≤ last := by omega
      rcases memo_look hM0 d s l ⟨⟨h1, by omega⟩, ⟨hs1, by dsimp only; omega⟩, ⟨hl1, by dsimp only; omega⟩⟩ with hlk | hlk
      · go_enter Try.func120, Try.ntmps120
        go_wp2_with fail
        go_ret
        exact ⟨rfl, hM0, Ext.of_below hb0⟩
      · have hV := togoV_eq g (shut := shut) (tt := tt) (p := (s, l)) h1 hdl h3 hl1 hl2
        have HV := Lib.hid hV; clear hV
        have hr1 := rank_day (f := f) (last := last) (d := d) (l := l) hdl (by omega) hl2
        have Hih := Lib.hid ih; clear ih
        have Hrk := Lib.hid hrk; clear hrk
        have Hr1 := Lib.hid hr1; clear hr1
        have HM0 := Lib.hid hM0; clear hM0
        have HW0 := Lib.hid hW0; clear hW0
        clear hW hM
        go_enter Try.func120, Try.ntmps120
        go_wp2_with fail
        refine (Hih.out (d + 1) s 0 _ (by omega) (by omega) hs1 hs2 (by omega) (by omega) (by have := Hrk.out; have := Hr1.out; omega) HW0.out HM0.out).mono ?_
        rintro e w1 ⟨rfl, hM1, hE1⟩
        clear hlk
        have c0 : w1.cell? ⟨w.heap.size, 0, none⟩ = some (.int .i64 d) := hE1.cell HM0.out (by simp)
        have c1 : w1.cell? ⟨w.heap.size, 1, none⟩ = some (.int .i64 s) := hE1.cell HM0.out (by simp)
        have c2 : w1.cell? ⟨w.heap.size, 2, none⟩ = some (.int .i64 l) := hE1.cell HM0.out (by simp)
        have HE1 := Lib.hid hE1; clear hE1
        have hW1 := HE1.out.work HM0.out HW0.out
        obtain ⟨d0, d1, d2, d3, d4, d5, ds⟩ := hW1
        clear ds
        have HW1 := Lib.hid (HE1.out.work HM0.out HW0.out)
        have HM1 := Lib.hid hM1; clear hM1
        have hwl := lt_of_cell c0
        go_wp2_with fail
        clear d0 d1 d2 d3 d4 d5
        go_loopw [13, 55] (fun v13 v55 wx => ∃ i : Nat, i ≤ r.strips.length ∧ v55 = .int .i64 i ∧
            v13 = .int .i64 (bestTo r f shut (togoV r f shut tt last d) d (s, l) (togoV r f shut tt last (d + 1) (s, 0)) i) ∧ Memo wx m (togoV r f shut tt last) ∧ Ext m w1 wx) (fun _ v _ => r.strips.length - (intOf v).toNat)
        case atStart => exact ⟨0, Nat.zero_le _, rfl, rfl, HM1.out, Ext.refl _ _⟩
        case round =>
          obtain ⟨i, hi, rfl, rfl, hM, hE⟩ := hrel
          have hWr := hE.work HM1.out HW1.out
          have HWr := Lib.hid hWr
          obtain ⟨d0, d1, d2, d3, d4, d5, ds⟩ := hWr
          have e0 : wr.cell? ⟨w.heap.size, 0, none⟩ = some (.int .i64 d) := hE.cell HM1.out c0
          have e1 : wr.cell? ⟨w.heap.size, 1, none⟩ = some (.int .i64 s) := hE.cell HM1.out c1
          have e2 : wr.cell? ⟨w.heap.size, 2, none⟩ = some (.int .i64 l) := hE.cell HM1.out c2
          clear c0 c1 c2
          have hbr := bestTo_range (b0 := togoV r f shut tt last (d + 1) (s, 0)) (p := (s, l)) (shut := shut) (d := d) (V := togoV r f shut tt last d) g (togoV_range g).1 (fun _ q _ => (togoV_range g).1) i
          have hbr2 := (togoV_range (shut := shut) (tt := tt) (last := last) (d := d + 1) (p := (s, 0)) g).2
          generalize hB : bestTo r f shut (togoV r f shut tt last d) d (s, l) (togoV r f shut tt last (d + 1) (s, 0)) i = B at hbr
          unfold farI at hbr2
          have HB := Lib.hid hB; clear hB
          have hB1 : 0 ≤ B := hbr.1
          have hB2 : B ≤ 1073741824 := by omega
          clear hbr hbr2
          have hwr := lt_of_cell e0
          by_cases hlt : i < r.strips.length
          · rcases ds with ds | ⟨sb, so, rfl, ds⟩
            · rw [ds] at hlt; simp at hlt
            obtain ⟨s0, s1, s2, s3, s4, s5, s6⟩ := ds i hlt
            clear ds
            generalize hst : r.strips[i] = st at s0 s1 s2 s3 s4 s5 s6
            have hsm : st ∈ r.strips := by rw [← hst]; exact List.getElem_mem hlt
            obtain ⟨_, _, _, _, _, hL1, hL2, _⟩ := g.strip st hsm
            have hsk : r.strips[i]? = some st := by rw [List.getElem?_eq_getElem hlt, hst]
            have Hsk := Lib.hid hsk; clear hsk
            have Hst := Lib.hid hst; clear hst
            have hx0 : Below wr.heap.size wr (wr.alloc (.cells #[.int .i64 st.A, .int .i64 st.B, .int .i64 st.L, .int .i64 st.W, .int .i64 st.K, .int .i64 st.X, .int .i64 st.Y] 57)) := Below.alloc (Below.refl _ _) (Nat.le_refl _) _
            have HM := Lib.hid hM; clear hM
            have HE := Lib.hid hE; clear hE
            go_wp2_with fail
            refine (end_any _ b r f shut _ cap (HWr.out.below hx0) i hlt s).mono ?_
            rintro e w2 ⟨rfl, hb2⟩
            rw [Hst.out]
            generalize heo : endOf st s = eo
            have Heo := Lib.hid heo; clear heo
            have hEo := @endOf_range r f g st hsm s
            rw [Heo.out] at hEo
            have HEo := Lib.hid hEo; clear hEo
            have hbx : Below wr.heap.size wr w2 := hx0.trans (hb2.mono (by simp))
            have eL : w2.cell? ⟨wr.heap.size, 2, none⟩ = some (.int .i64 st.L) := by rw [(bcell hb2).1 _ _ (by simp)]; simp
            obtain ⟨hc2, _⟩ := bcell hbx
            have f0 : w2.cell? ⟨w.heap.size, 0, none⟩ = some (.int .i64 d) := by rw [hc2 _ _ hwr]; exact e0
            have f1 : w2.cell? ⟨w.heap.size, 1, none⟩ = some (.int .i64 s) := by rw [hc2 _ _ hwr]; exact e1
            have f2 : w2.cell? ⟨w.heap.size, 2, none⟩ = some (.int .i64 l) := by rw [hc2 _ _ hwr]; exact e2
            have HW2 := Lib.hid (HWr.out.below hbx)
            have hW2 := HW2.out
            obtain ⟨k0, k1, k2, k3, k4, k5, _⟩ := hW2
            have HM2 := Lib.hid (HM.out.below hbx)
            have HE2 := Lib.hid (HE.out.trans (Ext.of_below hbx))
            clear hc2 hx0 hb2 hbx d0 d1 d2 d3 d4 d5 s0 s1 s2 s3 s4 s5 s6 e0 e1 e2
            by_cases hA : eo.2 = true
            · rw [hA]
              have HA := Lib.hid hA; clear hA
              by_cases hP : l + st.L ≤ f.pace
              · go_wp2_with fail
                refine (open_any w2 b r f shut _ cap HW2.out i hlt d).mono ?_
                rintro e w3 ⟨rfl, hb3⟩
                have HM3 := Lib.hid (HM2.out.below hb3)
                have HE3 := Lib.hid (HE2.out.trans (Ext.of_below hb3))
                cases hO : openB r f shut i d
                · have HO := Lib.hid hO; clear hO
                  go_wp2_with fail
                  exact ⟨⟨i + 1, by omega, by go_num, by rw [best_none (nstep_shut HO.out), HB.out], HM3.out, HE3.out⟩, by simp [intOf]; omega⟩
                · have HO := Lib.hid hO; clear hO
                  have hstep := step_yes Hsk.out (q := (s, l)) Heo.out HA.out hP HO.out
                  have HS := Lib.hid hstep; clear hstep
                  obtain ⟨hc3, _⟩ := bcell hb3
                  have z0 : w3.cell? ⟨w.heap.size, 0, none⟩ = some (.int .i64 d) := by rw [hc3 _ _ (lt_of_cell f0)]; exact f0
                  have zL : w3.cell? ⟨wr.heap.size, 2, none⟩ = some (.int .i64 st.L) := by rw [hc3 _ _ (lt_of_cell eL)]; exact eL
                  have HW3 := Lib.hid (HW2.out.below hb3)
                  clear hc3 hb3 f0 f1 f2 eL k0 k1 k2 k3 k4 k5
                  go_upto_region 15 with (fail)
                  have hE1 := (HEo.out HA.out).1
                  have hE2 := (HEo.out HA.out).2
                  have hr2 := rank_step (f := f) (last := last) (d := d) (l := l) (l' := l + st.L) (by omega)
                  have hr3 : rank f last d (l + st.L) < (k : Int) := by have := Hrk.out; omega
                  have HR3 := Lib.hid hr3; clear hr2 hr3
                  have hV1 := (togoV_range (shut := shut) (tt := tt) (last := last) (d := d) (p := (eo.1, l + st.L)) g).1
                  have hV2 := (togoV_range (shut := shut) (tt := tt) (last := last) (d := d) (p := (eo.1, l + st.L)) g).2
                  unfold farI at hV2
                  have hbd : Below w3.heap.size w3 w3.drew := (Below.refl _ _).drew
                  have HW3d := Lib.hid (HW3.out.below hbd)
                  have HM3d := Lib.hid (HM3.out.below hbd)
                  have HE3d := Lib.hid (HE3.out.trans (Ext.of_below hbd))
                  have zLd : w3.drew.cell? ⟨wr.heap.size, 2, none⟩ = some (.int .i64 st.L) := zL
                  have HZL := Lib.hid zLd; clear zLd hbd
                  go_region_with (go_at_call 120; refine (Hih.out d eo.1 (l + st.L) _ h1 h2 hE1 hE2 (by omega) hP HR3.out HW3d.out HM3d.out).mono ?_; rintro e w4 ⟨rfl, hM4, hE4⟩; have zL4 := hE4.cell HM3d.out HZL.out)
                  all_goals (go_wp2_with fail)
                  all_goals exact ⟨⟨i + 1, by omega, by go_num, min_num (by rw [best_some HS.out, HB.out]; dsimp only; rw [show l + st.L - l = st.L by omega]), hM4, HE3d.out.trans hE4⟩, by simp [intOf]; omega⟩
              · have hP' : decide (l + st.L ≤ f.pace) = false := decide_eq_false hP
                go_wp2_with fail
                exact ⟨⟨i + 1, by omega, by go_num, by rw [best_none (nstep_far Hsk.out (q := (s, l)) (by show ¬ l + st.L ≤ f.pace; omega)), HB.out], HM2.out, HE2.out⟩, by simp [intOf]; omega⟩
            · have hA' : eo.2 = false := by simpa using hA
              rw [hA']
              have HA := Lib.hid hA'; clear hA hA'
              go_wp2_with fail
              exact ⟨⟨i + 1, by omega, by go_num, by rw [best_none (nstep_off Hsk.out (q := (s, l)) Heo.out HA.out), HB.out], HM2.out, HE2.out⟩, by simp [intOf]; omega⟩
          · have hii : i = r.strips.length := by omega
            have hVB : togoV r f shut tt last d (s, l) = B := by rw [HV.out, ← hii]; exact HB.out
            have HVB := Lib.hid hVB; clear hVB hii
            have HM := Lib.hid hM; clear hM
            have HE := Lib.hid hE; clear hE
            go_wp2_with (at_mapUpdate; refine memo_store rfl _ _ _ rfl HM.out d s l ⟨⟨h1, by omega⟩, ⟨hs1, by dsimp only; omega⟩, ⟨hl1, by dsimp only; omega⟩⟩ rfl rfl (by rw [HVB.out]; rfl) ?_)
            intro w5 hM5 hE5
            go_wp2_with fail
            go_ret
            exact ⟨ret_int (by rw [HVB.out]), hM5, (Ext.of_below hb0).trans (HE1.out.trans (HE.out.trans hE5))⟩
end Go.Proofs.Ytjgkgnfhglhklaa
