/- The contract of plan. The flock that comes has few leagues to go: plain laws. The contract of Plan. -/
import Derived.Test.YtmkjeonjhedgkaaGreatDoorTogo
import Derived.Test.YtmkjeonjhedgkaaGreatDoorReady
namespace Go.Proofs.YtmkjeonjhedgkaaGreatDoor
set_option linter.unusedSimpArgs false
set_option linter.unusedVariables false
open Go.RowKit
open Go.ChangeMaps (setBlock)

theorem Memo.made (w : World) (V : Int → Int × Int → Int) : Memo (w.alloc (.map #[] 0)) w.heap.size V := ⟨[], MapIs.made w, by simp⟩

/-- What is known of an hour that lies at cells 0 .. 2 of block p. -/
structure HourAt (w : World) (p : Nat) (d : Int) (q : Int × Int) : Prop where
  c0 : w.cell? ⟨p, 0, none⟩ = some (.int .i64 d)
  c1 : w.cell? ⟨p, 1, none⟩ = some (.int .i64 q.1)
  c2 : w.cell? ⟨p, 2, none⟩ = some (.int .i64 q.2)
  f0 : w.frozen? ⟨p, 0, none⟩ = false
  f1 : w.frozen? ⟨p, 1, none⟩ = false
  f2 : w.frozen? ⟨p, 2, none⟩ = false
theorem Ext.frozen {w w' : World} {m : Nat} {V : Int → Int × Int → Int} (h : Ext m w w') (hm : Memo w m V) {b o : Nat} {v : Value} {x : Bool} (hc : w.cell? ⟨b, o, none⟩ = some v) (hf : w.frozen? ⟨b, o, none⟩ = x) : w'.frozen? ⟨b, o, none⟩ = x := by
  rw [World.frozen?_of_block (w := w) (h.block b (lt_of_cell hc) (hm.cell_ne hc))]; exact hf
theorem HourAt.ext {w w' : World} {m p : Nat} {d : Int} {q : Int × Int} {V : Int → Int × Int → Int} (h : HourAt w p d q) (hE : Ext m w w') (hm : Memo w m V) : HourAt w' p d q := ⟨hE.cell hm h.c0, hE.cell hm h.c1, hE.cell hm h.c2, hE.frozen hm h.c0 h.f0, hE.frozen hm h.c1 h.f1, hE.frozen hm h.c2 h.f2⟩
theorem HourAt.below {w w' : World} {p : Nat} {d : Int} {q : Int × Int} (h : HourAt w p d q) (hb : Below w.heap.size w w') : HourAt w' p d q :=
  have l := lt_of_cell h.c0
  ⟨((bcell hb).1 _ _ l).trans h.c0, ((bcell hb).1 _ _ l).trans h.c1, ((bcell hb).1 _ _ l).trans h.c2, ((bcell hb).2 _ _ l).trans h.f0, ((bcell hb).2 _ _ l).trans h.f1, ((bcell hb).2 _ _ l).trans h.f2⟩
theorem HourAt.lt {w : World} {p : Nat} {d : Int} {q : Int × Int} (h : HourAt w p d q) : p < w.heap.size := lt_of_cell h.c0

theorem set_other {w : World} {p o k : Nat} {v : Value} (h : k ≠ p) : (w.setCell ⟨p, o, none⟩ v).heap[k]? = w.heap[k]? := by
  simp only [World.setCell, Array.getElem?_modify]
  rw [if_neg (Ne.symm h)]
theorem hour_set {w : World} {p : Nat} {d0 : Int} {q0 : Int × Int} (h : HourAt w p d0 q0) (d s l : Int) :
    HourAt (((w.setCell ⟨p, 0, none⟩ (.int .i64 d)).setCell ⟨p, 1, none⟩ (.int .i64 s)).setCell ⟨p, 2, none⟩ (.int .i64 l)) p d (s, l) ∧ Ext p w (((w.setCell ⟨p, 0, none⟩ (.int .i64 d)).setCell ⟨p, 1, none⟩ (.int .i64 s)).setCell ⟨p, 2, none⟩ (.int .i64 l)) := by
  obtain ⟨c0, c1, c2, f0, f1, f2⟩ := h
  refine ⟨⟨?_, ?_, ?_, ?_, ?_, ?_⟩, ⟨by simp [World.setCell], by simp [World.setCell], by simp [World.setCell], by simp [World.setCell], fun k _ hk => by rw [set_other hk, set_other hk, set_other hk]⟩⟩
  all_goals simp [go_sem, c0, c1, c2, f0, f1, f2]
theorem Memo.other {w w' : World} {m p : Nat} {V : Int → Int × Int → Int} (h : Memo w m V) (hE : Ext p w w') (hp : m ≠ p) : Memo w' m V := by
  have hl := h.lt
  obtain ⟨ps, h, h2⟩ := h
  exact ⟨ps, by unfold MapIs at *; rw [hE.block m hl hp]; exact h, h2⟩

theorem HourAt.drew {w : World} {p : Nat} {d : Int} {q : Int × Int} (h : HourAt w p d q) : HourAt w.drew p d q := ⟨h.c0, h.c1, h.c2, h.f0, h.f1, h.f2⟩
theorem OwnStrides.other {w w' : World} {B m : Nat} {v : Value} {l : List (Int × Int)} (h : OwnStrides w B v l) (hE : Ext m w w') (hm : ∀ k, v.ownBlock = some k → k ≠ m) : OwnStrides w' B v l := by
  obtain ⟨h1, h2⟩ := h
  refine ⟨h1, ?_⟩
  rcases h2 with h2 | ⟨g, cap, cur, hv, hg, hh, r⟩
  · exact .inl h2
  · exact .inr ⟨g, cap, cur, hv, hg, by rw [hE.block g (Array.getElem?_eq_some_iff.1 hh).1 (hm g (by rw [hv]; rfl))]; exact hh, r⟩
theorem OwnStrides.drew {w : World} {B : Nat} {v : Value} {l : List (Int × Int)} (h : OwnStrides w B v l) : OwnStrides w.drew B v l := h
theorem Memo.drew {w : World} {m : Nat} {V : Int → Int × Int → Int} (h : Memo w m V) : Memo w.drew m V := h
theorem HourAt.same {w w' : World} {p : Nat} {d : Int} {q : Int × Int} (h : HourAt w p d q) (e : w'.heap[p]? = w.heap[p]?) : HourAt w' p d q := by
  obtain ⟨c0, c1, c2, f0, f1, f2⟩ := h
  refine ⟨?_, ?_, ?_, ?_, ?_, ?_⟩
  all_goals first | rw [World.cell?_of_block (w := w) e]; assumption | rw [World.frozen?_of_block (w := w) e]; assumption
theorem Memo.same {w w' : World} {m : Nat} {V : Int → Int × Int → Int} (h : Memo w m V) (e : w'.heap[m]? = w.heap[m]?) : Memo w' m V := by
  obtain ⟨ps, h, h2⟩ := h
  exact ⟨ps, by unfold MapIs at *; rw [e]; exact h, h2⟩
theorem grown_at {w4 w5 : World} {o : Obj} {row : Option Nat} (hg : (w4.alloc o).grownBy w5 row) {k : Nat} (hk : k < w4.heap.size) (hr : row ≠ some k) : w5.heap[k]? = w4.heap[k]? := by
  rw [hg.block k (by simp; omega) (Ne.symm hr)]
  simp only [World.alloc, Array.getElem?_push]
  rw [if_neg (by omega)]

set_option maxRecDepth 100000 in
set_option maxHeartbeats 8000000 in
theorem plan_any (w : World) (b : Nat) (r : Roads) (f : Flock) (shut : Int) (a : Option Addr) (cap : Nat) (hW : WorkAt w b r f shut a cap) (g : Good r f) (s0 tt day last : Int)
    (hs1 : 0 ≤ s0) (hs2 : s0 < r.stages) (h1 : 0 ≤ day) (h2 : day ≤ last + 1) (h3 : last ≤ 100) (hfar : togoV r f shut tt last day (s0, 0) < farI) :
    Calls Tryz.prog 42 #[.pointer (some ⟨b, 0, none⟩), .int .i64 s0, .int .i64 tt, .int .i64 day, .int .i64 last] w
      fun e w' => ∃ v, e = .returned v ∧ OwnStrides w' w.heap.size v (planL r f shut tt last day s0) ∧ Below w.heap.size w w' := by
  have g1 := g.s1
  have g2 := g.s2
  have gp1 := g.p1
  have gp2 := g.p2
  have hn8 := g.n8
  have hmm := @run_makeMap Tryz.prog
  generalize hV : togoV r f shut tt last = V
  rw [hV] at hfar
  go_enter Tryz.func42, Tryz.ntmps42
  go_wp2_with fail
  clear hmm
  have hb1 : Below w.heap.size w ((w.alloc (.map #[] 0)).alloc (.cells #[.int .i64 day, .int .i64 s0, .int .i64 0] 132)) := ((Below.refl _ _).alloc (Nat.le_refl _) _).alloc (by simp) _
  have hM1 : Memo ((w.alloc (.map #[] 0)).alloc (.cells #[.int .i64 day, .int .i64 s0, .int .i64 0] 132)) w.heap.size V := (Memo.made w V).below (Below.alloc (Below.refl _ _) (Nat.le_refl _) _)
  have hp1 : HourAt ((w.alloc (.map #[] 0)).alloc (.cells #[.int .i64 day, .int .i64 s0, .int .i64 0] 132)) (w.heap.size + 1) day (s0, 0) := ⟨by simp, by simp, by simp, by simp, by simp, by simp⟩
  refine (togo_any b r f shut a cap g tt last h3 w.heap.size 2000 day s0 0 _ h1 h2 hs1 hs2 (by omega) (by omega) (by have := rank_lt g h1 h2 h3 (l := 0) (by omega); omega) (hW.below hb1) (by rw [hV]; exact hM1)).mono ?_
  rw [hV]
  rintro e w1 ⟨rfl, hMx, hE⟩
  have hp := hp1.ext hE hM1
  have hW1 := hE.work hM1 (hW.below hb1)
  have hB1 := hE.below hb1 (Nat.le_refl _) (by simp; omega)
  clear hM1 hp1 hb1 hE
  have HW0 := Lib.hid hW; clear hW1 hW
  have HM1 := Lib.hid hMx; clear hMx
  have HP := Lib.hid hp; clear hp
  have HV := Lib.hid hV; clear hV
  generalize hV0 : V day (s0, 0) = left0
  have HV0 := Lib.hid hV0; clear hV0
  have HB1 := Lib.hid hB1; clear hB1
  have hV0r := (togoV_range (shut := shut) (tt := tt) (last := last) (d := day) (p := (s0, 0)) g).1
  rw [HV.out, HV0.out] at hV0r
  have hV0f : left0 ≤ 1073741824 := by have := hfar; rw [HV0.out] at this; unfold farI at this; omega
  have Hfar := Lib.hid hfar; clear hfar
  have hMl : w.heap.size + 1 < w1.heap.size := HP.out.lt
  go_wp2_with fail
  go_loopg [12, 14] 2000 (fun n v12 v14 wx => ∃ (d s l left : Int) (acc : List (Int × Int)), v14 = .int .i64 left ∧ OwnStrides wx (w.heap.size + 2) v12 acc ∧ HourAt wx (w.heap.size + 1) d (s, l) ∧ Memo wx w.heap.size V ∧ Below w.heap.size w wx ∧
      0 ≤ d ∧ d ≤ last + 1 ∧ 0 ≤ s ∧ s < r.stages ∧ 0 ≤ l ∧ l ≤ f.pace ∧ V d (s, l) = left ∧ left < farI ∧ acc ++ planF r f shut V n d (s, l) left = planL r f shut tt last day s0 ∧ acc.length + n ≤ 2000 ∧ rank f last d l < (n : Int))
  case atStart =>
    exact ⟨day, s0, 0, left0, [], rfl, OwnStrides.nil _ _, HP.out, HM1.out, HB1.out, h1, h2, hs1, hs2, by omega, by omega, HV0.out, by rw [← HV0.out]; exact Hfar.out, by simp only [List.nil_append]; unfold planL; rw [HV.out, HV0.out], by simp, by have := rank_lt g h1 h2 h3 (l := 0) (by omega); omega⟩
  case round =>
    obtain ⟨v12, hv12⟩ : ∃ v, v = u12 := ⟨_, rfl⟩
    subst hv12
    obtain ⟨d, s, l, left, acc, rfl, hown, hh, hm, hb, q1, q2, q3, q4, q5, q6, hv, hf, hacc, hlen, hrk⟩ := hrel
    have hWr := HW0.out.below hb
    obtain ⟨d0, d1, d2, d3, d4, d5, ds⟩ := hWr
    have hbx := (togoV_range (shut := shut) (tt := tt) (last := last) (d := d) (p := (s, l)) g).1
    rw [HV.out, hv] at hbx
    have hf2 : left < 1073741824 := hf
    have HVl := Lib.hid hv; clear hv
    have Hacc := Lib.hid hacc; clear hacc
    have Hown := Lib.hid hown; clear hown
    have HM := Lib.hid hm; clear hm
    have HB := Lib.hid hb; clear hb
    have HH := Lib.hid hh
    obtain ⟨e0, e1, e2, _, _, _⟩ := hh
    have Hrk := Lib.hid hrk; clear hrk
    have Hf := Lib.hid hf; clear hf
    by_cases h0 : 0 < left
    · have hdl : d ≤ last := by
        apply Classical.byContradiction
        intro hn
        have := @togoV_end r f shut tt last d (s, l) (by omega)
        rw [HV.out, HVl.out] at this
        unfold farI at this
        split at this <;> omega
      have hwl := HH.out.lt
      have hb0 : Below wr.heap.size wr (wr.alloc (.cells #[.int .i64 (d + 1), .int .i64 s, .int .i64 0] 132)) := Below.alloc (Below.refl _ _) (Nat.le_refl _) _
      have HN := Lib.hid (show HourAt (wr.alloc (.cells #[.int .i64 (d + 1), .int .i64 s, .int .i64 0] 132)) wr.heap.size (d + 1) (s, 0) from ⟨by simp, by simp, by simp, by simp, by simp, by simp⟩)
      have HB2 := Lib.hid (HB.out.trans (hb0.mono HB.out.size))
      have HM2 := Lib.hid (HM.out.below hb0)
      have HH2 := Lib.hid (HH.out.below hb0)
      have Hown2 := Lib.hid (Hown.out.below hb0)
      have hwb := lt_of_cell d0
      clear hb0
      go_wp2_with fail
      generalize hW1 : wr.alloc (.cells #[.int .i64 (d + 1), .int .i64 s, .int .i64 0] 132) = W1 at HN HB2 HM2 HH2 Hown2 ⊢
      have HWs := Lib.hid (show W1.heap.size = wr.heap.size + 1 by rw [← hW1]; simp)
      generalize hnb : wr.heap.size = nb at HN HWs ⊢
      have Hnb := Lib.hid hnb
      clear hW1 hnb d0 d1 d2 d3 d4 d5 ds e0 e1 e2 hwl hwb
      go_loopw [12, 14, 49] (fun x12 x14 v49 wx => ∃ i : Nat, i ≤ r.strips.length ∧ x12 = v12 ∧ x14 = .int .i64 left ∧ v49 = .int .i64 i ∧ Memo wx w.heap.size V ∧ Ext w.heap.size W1 wx ∧ pickTo r f shut (V d) d (s, l) left i = none) (fun _ _ v _ => r.strips.length - (intOf v).toNat)
      case atStart => exact ⟨0, Nat.zero_le _, rfl, rfl, rfl, HM2.out, Ext.refl _ _, rfl⟩
      case round =>
        obtain ⟨i, hi, hx12, rfl, rfl, hM, hE, hpk⟩ := hrel
        have hx12' := hx12.symm
        subst hx12'
        clear hx12
        have HPk := Lib.hid hpk; clear hpk
        have hWr := hE.work HM2.out (HW0.out.below HB2.out)
        have HWr := Lib.hid hWr
        obtain ⟨d0, d1, d2, d3, d4, d5, ds⟩ := hWr
        have hh := HH2.out.ext hE HM2.out
        obtain ⟨e0, e1, e2, y0, y1, y2⟩ := hh
        have hn := HN.out.ext hE HM2.out
        obtain ⟨n0, n1, n2, _, _, _⟩ := hn
        have hwr := lt_of_cell e0
        have hnr := lt_of_cell n0
        have hwb := lt_of_cell d0
        by_cases hlt : i < r.strips.length
        · rcases ds with ds | ⟨sb, so, rfl, ds⟩
          · rw [ds] at hlt; simp at hlt
          obtain ⟨s0', s1, s2, s3, s4, s5, s6⟩ := ds i hlt
          clear ds
          generalize hst : r.strips[i] = st at s0' s1 s2 s3 s4 s5 s6
          have hsm : st ∈ r.strips := by rw [← hst]; exact List.getElem_mem hlt
          obtain ⟨_, _, _, _, _, hL1, hL2, _⟩ := g.strip st hsm
          have hsk : r.strips[i]? = some st := by rw [List.getElem?_eq_getElem hlt, hst]
          have Hsk := Lib.hid hsk; clear hsk
          have Hst := Lib.hid hst; clear hst
          have hx0 : Below wr.heap.size wr (wr.alloc (.cells #[.int .i64 st.A, .int .i64 st.B, .int .i64 st.L, .int .i64 st.W, .int .i64 st.K, .int .i64 st.X, .int .i64 st.Y] 63)) := Below.alloc (Below.refl _ _) (Nat.le_refl _) _
          have HM := Lib.hid hM; clear hM
          have HE := Lib.hid hE; clear hE
          go_wp2_with fail
          refine (end_any _ b r f shut _ cap (HWr.out.below hx0) i hlt s).mono ?_
          rintro e w2 ⟨rfl, hb2⟩
          rw [Hst.out]
          generalize heo : endOf st s = eo
          have Heo := Lib.hid heo; clear heo
          have hEo := @endOf_range r f g st hsm s
          rw [Heo.out] at hEo
          have HEo := Lib.hid hEo; clear hEo
          have hbx : Below wr.heap.size wr w2 := hx0.trans (hb2.mono (by simp))
          have eL : w2.cell? ⟨wr.heap.size, 2, none⟩ = some (.int .i64 st.L) := by rw [(bcell hb2).1 _ _ (by simp)]; simp
          obtain ⟨hc2, _⟩ := bcell hbx
          have f0 : w2.cell? ⟨w.heap.size + 1, 0, none⟩ = some (.int .i64 d) := by rw [hc2 _ _ hwr]; exact e0
          have f1 : w2.cell? ⟨w.heap.size + 1, 1, none⟩ = some (.int .i64 s) := by rw [hc2 _ _ hwr]; exact e1
          have f2 : w2.cell? ⟨w.heap.size + 1, 2, none⟩ = some (.int .i64 l) := by rw [hc2 _ _ hwr]; exact e2
          have HW2 := Lib.hid (HWr.out.below hbx)
          have hW2 := HW2.out
          obtain ⟨k0, k1, k2, k3, k4, k5, _⟩ := hW2
          have HM2' := Lib.hid (HM.out.below hbx)
          have HE2 := Lib.hid (HE.out.trans (Ext.of_below hbx))
          clear hc2 hx0 hb2 hbx d0 d1 d2 d3 d4 d5 s0' s1 s2 s3 s4 s5 s6 e0 e1 e2 n0 n1 n2
          by_cases hA : eo.2 = true
          · rw [hA]
            have HA := Lib.hid hA; clear hA
            by_cases hP : l + st.L ≤ f.pace
            · go_wp2_with fail
              refine (open_any w2 b r f shut _ cap HW2.out i hlt d).mono ?_
              rintro e w3 ⟨rfl, hb3⟩
              have HM3 := Lib.hid (HM2'.out.below hb3)
              have HE3 := Lib.hid (HE2.out.trans (Ext.of_below hb3))
              cases hO : openB r f shut i d
              · have HO := Lib.hid hO; clear hO
                go_wp2_with fail
                exact ⟨⟨i + 1, by omega, rfl, rfl, by go_num, HM3.out, HE3.out, pick_no HPk.out (nstep_shut HO.out)⟩, by simp [intOf]; omega⟩
              · have HO := Lib.hid hO; clear hO
                have hstep := step_yes Hsk.out (q := (s, l)) Heo.out HA.out hP HO.out
                have HS := Lib.hid hstep; clear hstep
                have hh3 := HH2.out.ext HE3.out HM2.out
                obtain ⟨z0, z1, z2, _, _, _⟩ := hh3
                have hn3 := HN.out.ext HE3.out HM2.out
                have zL : w3.cell? ⟨wr.heap.size, 2, none⟩ = some (.int .i64 st.L) := by rw [(bcell hb3).1 _ _ (lt_of_cell eL)]; exact eL
                have HW3 := Lib.hid (HW2.out.below hb3)
                clear hb3 f0 f1 f2 eL k0 k1 k2 k3 k4 k5
                have hwr3 := lt_of_cell z0
                have hxr3 := lt_of_cell zL
                go_upto_region 14 with (fail)
                have hE1 := (HEo.out HA.out).1
                have hE2 := (HEo.out HA.out).2
                have hr2 := rank_step (f := f) (last := last) (d := d) (l := l) (l' := l + st.L) (by omega)
                have hrk2 := Hrk.out
                have hV1 := (togoV_range (shut := shut) (tt := tt) (last := last) (d := d) (p := (eo.1, l + st.L)) g).1
                have hV2 := (togoV_range (shut := shut) (tt := tt) (last := last) (d := d) (p := (eo.1, l + st.L)) g).2
                unfold farI at hV2
                have hHW : HourAt (w3.alloc (.cells #[.int .i64 d, .int .i64 eo.1, .int .i64 (l + st.L)] 132)) w3.heap.size d (eo.1, l + st.L) := ⟨by simp, by simp, by simp, by simp, by simp, by simp⟩
                have hbw : Below w3.heap.size w3 (w3.alloc (.cells #[.int .i64 d, .int .i64 eo.1, .int .i64 (l + st.L)] 132)).drew := (Below.alloc (Below.refl _ _) (Nat.le_refl _) _).drew
                have hbd : Below (w3.alloc (.cells #[.int .i64 d, .int .i64 eo.1, .int .i64 (l + st.L)] 132)).heap.size (w3.alloc (.cells #[.int .i64 d, .int .i64 eo.1, .int .i64 (l + st.L)] 132)) (w3.alloc (.cells #[.int .i64 d, .int .i64 eo.1, .int .i64 (l + st.L)] 132)).drew := (Below.refl _ _).drew
                have HX := Lib.hid (hHW.below hbd)
                have hLx : (w3.alloc (.cells #[.int .i64 d, .int .i64 eo.1, .int .i64 (l + st.L)] 132)).drew.cell? ⟨wr.heap.size, 2, none⟩ = some (.int .i64 st.L) := ((bcell hbw).1 _ _ hxr3).trans zL
                have HLx := Lib.hid hLx
                have HW4 := Lib.hid (HW3.out.below hbw)
                have HM4 := Lib.hid (HM3.out.below hbw)
                have HE4 := Lib.hid (HE3.out.trans (Ext.of_below hbw))
                rw [HV.out] at hV1 hV2
                generalize hVq : V d (eo.1, l + st.L) = Vq at hV1 hV2
                have HVq := Lib.hid hVq; clear hVq
                have hcall := togo_any b r f shut _ cap g tt last h3 w.heap.size gk d eo.1 (l + st.L) _ q1 q2 hE1 hE2 (by omega) hP (by omega) HW4.out (by rw [HV.out]; exact HM4.out)
                rw [HV.out, HVq.out] at hcall
                have HC := Lib.hid hcall
                clear hcall hHW hbw hbd hLx hr2 hrk2
                by_cases hsum : st.L + Vq = left
                · have HS2 := Lib.hid hsum; clear hsum
                  go_region_with (go_at_call 72; refine HC.out.mono ?_; rintro e w4 ⟨rfl, hM5, hE5⟩; have zL4 := hE5.cell HM4.out HLx.out)
                  all_goals (
                    have hsq : (IntKind.i64.wrap (st.L + Vq) == left) = true := by rw [IntWalk.i64_in _ (by omega), HS2.out]; simp
                    have hE6 := Ext.trans HE4.out hE5
                    have hown4 := Hown2.out.ext hE6 (by omega)
                    have hx4 := HX.out.ext hE5 HM4.out
                    have hh4 := HH2.out.ext hE6 HM2.out
                    have hn4 := HN.out.ext hE6 HM2.out
                    have Hx4 := Lib.hid hx4
                    have Hh4 := Lib.hid hh4
                    have Hn4 := Lib.hid hn4
                    obtain ⟨x0, x1, x2, _, _, _⟩ := hx4
                    obtain ⟨z0, z1, z2, _, _, _⟩ := hh4
                    have hwn4 := hn4.lt
                    have hwz4 := lt_of_cell z0
                    have hwx4 := lt_of_cell x0
                    have hwL4 := lt_of_cell zL4
                    have Hown4 := Lib.hid hown4
                    have HE6 := Lib.hid hE6
                    have HM5 := Lib.hid hM5
                    clear hown4 hE6 hM5 hn4
                    have hnbs : nb < w4.heap.size := hwn4
                    have hnb0 : w.heap.size + 2 ≤ nb := by have := Hnb.out; have := HH.out.lt; omega
                    have hnb1 : nb ≤ wr.heap.size := by omega
                    have hnb2 : nb ≤ w3.heap.size := by omega
                    go_wp2_with (at_builtin; refine app_stride1 rfl _ _ rfl (w.heap.size + 2) _ _ rfl Hown4.out d i rfl (by omega) (by omega) ?_)
                    intro v' w5 hown5 hb5 hg5 hv5
                    clear hsq
                    have hob : ∀ k, (k < w.heap.size + 2 ∨ nb ≤ k) → v12.ownBlock ≠ some k := by
                      intro k hk e
                      have := Hown.out.block_lt e
                      have := Hnb.out
                      omega
                    have hx5 := Hx4.out.same (grown_at hg5 hwx4 (hob w3.heap.size (.inr hnb2)))
                    have hn5 := Hn4.out.same (grown_at hg5 hwn4 (hob nb (.inr (Nat.le_refl _))))
                    have hh5 := Hh4.out.same (grown_at hg5 hwz4 (hob (w.heap.size + 1) (.inl (by omega))))
                    have zL5 : w5.cell? ⟨wr.heap.size, 2, none⟩ = some (.int .i64 st.L) := by rw [World.cell?_of_block (w := w4) (a := ⟨wr.heap.size, 2, none⟩) (grown_at hg5 hwL4 (hob wr.heap.size (.inr hnb1)))]; exact zL4
                    have Hm5 := Lib.hid (HM5.out.same (grown_at hg5 HM5.out.lt (hob w.heap.size (.inl (by omega)))))
                    have Hx5 := Lib.hid hx5
                    have Hn5 := Lib.hid hn5
                    have Hh5 := Lib.hid hh5
                    have Hapart := Lib.hid (show v'.ownBlock ≠ some nb by
                      rcases hv5 with e | e
                      · rw [e]; exact hob nb (.inr (Nat.le_refl _))
                      · rw [e]; simp; omega)
                    clear hv5
                    have Hg5 := Lib.hid hg5
                    have Hb5 := Lib.hid hb5
                    have Hown5 := Lib.hid hown5
                    clear hob hg5 hb5 hown5 x0 x1 x2 z0 z1 z2 zL4
                    obtain ⟨x0, x1, x2, _, _, _⟩ := hx5
                    obtain ⟨n0, n1, n2, y0, y1, y2⟩ := hn5
                    obtain ⟨z0, z1, z2, j0, j1, j2⟩ := hh5
                    have hwz5 := lt_of_cell z0
                    have hwn5 := lt_of_cell n0
                    have hwx5 := lt_of_cell x0
                    have hwL5 := lt_of_cell zL5
                    have hne : w.heap.size + 1 ≠ nb := by omega
                    have hne2 : w3.heap.size ≠ nb := by omega
                    go_upto_region 16 with (fail)
                    go_region
                    all_goals (go_wp2_with fail)
                    go_roundg (gk - 1)
                    case measure => have := Hrk.out; have := rank_nonneg (last := last) (d := d) (l := l) (f := f) q2 (by omega) q6; omega
                    case rel =>
                      obtain ⟨hna, hxa⟩ := hour_set Hn5.out d eo.1 (l + st.L)
                      obtain ⟨hnb, hxb⟩ := hour_set (Hh5.out.same (hxa.block _ hwz5 hne)) d eo.1 (l + st.L)
                      have hown7 := (Hown5.out.other hxa (by intro k hk e; subst e; exact Hapart.out hk)).ext hxb (by omega)
                      have hb7 := ((HB2.out.trans ((HE6.out.below (Below.refl _ _) (Nat.le_refl _) HB2.out.size))).trans (Hb5.out.mono (by omega)))
                      have hb8 := (hxb.below (hxa.below hb7 (by omega) (by omega)) (by omega) (by have := hxa.size; omega))
                      have hm8 := (Hm5.out.other hxa (by omega)).other hxb (by omega)
                      have hlen' := hlen
                      have hrk2 := Hrk.out
                      have hrk3 := rank_step (f := f) (last := last) (d := d) (l := l) (l' := l + st.L) (by omega)
                      have hrk4 := rank_nonneg (last := last) (d := d) (l := l + st.L) (f := f) (by omega) (by omega) hP
                      refine ⟨d, eo.1, l + st.L, left - st.L, acc ++ [(d, (i : Int))], rfl, hown7.drew, hnb.drew, hm8.drew, hb8.drew, by omega, by omega, hE1, hE2, by omega, hP, ?_, ?_, ?_, ?_, ?_⟩
                      · have := HS2.out; have := HVq.out; omega
                      · have := Hf.out; omega
                      · rw [← Hacc.out, show gk = gk - 1 + 1 by omega, planF_step h0 (pick_mono (pick_this HPk.out HS.out (by rw [HVq.out]; have := HS2.out; dsimp only; omega)) hlt)]
                        rw [List.append_assoc]
                        simp
                        rw [show l + st.L - l = st.L by omega]
                      · simp; omega
                      · omega)
                · have HS2 := Lib.hid hsum; clear hsum
                  go_region_with (go_at_call 72; refine HC.out.mono ?_; rintro e w4 ⟨rfl, hM5, hE5⟩; have zL4 := hE5.cell HM4.out HLx.out)
                  all_goals (
                    have hsq : (IntKind.i64.wrap (st.L + Vq) == left) = false := by rw [IntWalk.i64_in _ (by omega)]; have := HS2.out; simp; omega
                    go_wp2_with fail
                    exact ⟨⟨i + 1, by omega, rfl, rfl, by go_num, hM5, HE4.out.trans hE5, pick_other HPk.out HS.out (by rw [HVq.out]; have := HS2.out; dsimp only; omega)⟩, by simp [intOf]; omega⟩)
            · have hP' : decide (l + st.L ≤ f.pace) = false := decide_eq_false hP
              go_wp2_with fail
              exact ⟨⟨i + 1, by omega, rfl, rfl, by go_num, HM2'.out, HE2.out, pick_no HPk.out (nstep_far Hsk.out (q := (s, l)) (by show ¬ l + st.L ≤ f.pace; omega))⟩, by simp [intOf]; omega⟩
          · have hA' : eo.2 = false := by simpa using hA
            rw [hA']
            have HA := Lib.hid hA'; clear hA hA'
            go_wp2_with fail
            exact ⟨⟨i + 1, by omega, rfl, rfl, by go_num, HM2'.out, HE2.out, pick_no HPk.out (nstep_off Hsk.out (q := (s, l)) Heo.out HA.out)⟩, by simp [intOf]; omega⟩
        · have hii : i = r.strips.length := by omega
          go_wp2_with fail
          go_roundg (gk - 1)
          case measure => have := Hrk.out; have := rank_nonneg (last := last) (d := d) (l := l) (f := f) q2 (by omega) q6; omega
          case rel =>
            obtain ⟨hh', hx⟩ := hour_set (HH2.out.ext hE HM2.out) (d + 1) s 0
            have ho' := (Hown2.out.ext hE (by omega)).ext hx (by omega)
            have hb' := hx.below (hE.below HB2.out (Nat.le_refl _) HB2.out.size) (by omega) (by omega)
            have hm' := hM.other hx (by omega)
            have hlast := pick_none (b0 := V (d + 1) (s, 0)) (HPk.out) (by rw [← HVl.out, ← HV.out, hii]; exact (togoV_eq g q1 hdl h3 q5 q6).symm)
            have hrk' := rank_day (f := f) (last := last) (d := d) (l := l) hdl (by omega) q6
            have hrk2 := Hrk.out
            have hnn := rank_nonneg (last := last) (d := d + 1) (l := 0) (f := f) (by omega) (by omega) (by omega)
            refine ⟨d + 1, s, 0, left, acc, rfl, ho', hh', hm', hb', by omega, by omega, q3, q4, by omega, by omega, hlast, Hf.out, ?_, by omega, by omega⟩
            rw [← Hacc.out, show gk = gk - 1 + 1 by omega, planF_wait h0 (by rw [← hii]; exact HPk.out)]
            rfl
    · go_wp2_with fail
      go_ret
      refine ⟨_, rfl, ?_, HB.out⟩
      have := Hacc.out
      rw [planF_stop (by omega), List.append_nil] at this
      rw [← this]
      exact Hown.out.mono (by omega)
end Go.Proofs.YtmkjeonjhedgkaaGreatDoor

namespace Go.Proofs.YtmkjeonjhedgkaaGreatDoor
set_option linter.unusedSimpArgs false
set_option linter.unusedVariables false
open Go.RowKit

theorem best_le0 {r : Roads} {f : Flock} {shut d b0 : Int} {V : Int × Int → Int} {p : Int × Int} : ∀ k, bestTo r f shut V d p b0 k ≤ b0
  | 0 => Int.le_refl _
  | k + 1 => by
    have ih := best_le0 (r := r) (f := f) (shut := shut) (d := d) (b0 := b0) (V := V) (p := p) k
    rw [bestTo]
    cases stepOk r f shut d p k with
    | none => exact ih
    | some q => dsimp only; omega
theorem best_le {r : Roads} {f : Flock} {shut d b0 : Int} {V : Int × Int → Int} {p q : Int × Int} {i : Nat} (h : stepOk r f shut d p i = some q) : ∀ {k}, i < k → bestTo r f shut V d p b0 k ≤ (q.2 - p.2) + V q
  | 0, hk => by omega
  | k + 1, hk => by
    rw [bestTo]
    by_cases e : i = k
    · subst e; rw [h]; dsimp only; omega
    · have ih := best_le (b0 := b0) (V := V) h (k := k) (by omega)
      cases stepOk r f shut d p k with
      | none => exact ih
      | some q => dsimp only; omega
/-- The most leagues that are still to walk, if any plan leads. -/
def bd (f : Flock) (last d l : Int) : Int := (last + 1 - d) * f.pace - l
theorem bd_day {f : Flock} {last d l : Int} (h : l ≤ f.pace) : bd f last (d + 1) 0 ≤ bd f last d l := by
  unfold bd
  have : (last + 1 - d) * f.pace = (last + 1 - (d + 1)) * f.pace + f.pace := by
    rw [show last + 1 - d = (last + 1 - (d + 1)) + 1 by omega, Int.add_mul]; omega
  omega
theorem stepOk_lt {r : Roads} {f : Flock} {shut d : Int} {p q : Int × Int} {i : Nat} (h : stepOk r f shut d p i = some q) : i < r.strips.length := by
  obtain ⟨s, hs, _⟩ := stepOk_some.1 h
  exact (List.getElem?_eq_some_iff.1 hs).1

theorem near_back {r : Roads} {f : Flock} (g : Good r f) {shut tt last d : Int} {n : Nat} (h0 : 0 ≤ d) (h : d ≤ last) (h3 : last ≤ 100) {q : Int × Int} (hq : Spot r f shut n d q)
    (hv : togoV r f shut tt last d q ≤ bd f last d q.2) : ∃ s : Nat, n.testBit s = true ∧ togoV r f shut tt last d ((s : Int), 0) ≤ bd f last d 0 := by
  induction hq with
  | start s h1 h2 => exact ⟨s, h2, hv⟩
  | step p q i hp hi ih =>
    obtain ⟨_, _, r3, r4⟩ := hp.range g
    refine ih ?_
    rw [togoV_eq g h0 h h3 r3 r4]
    have := best_le (b0 := togoV r f shut tt last (d + 1) (p.1, 0)) (V := togoV r f shut tt last d) hi (stepOk_lt hi)
    unfold bd at *
    omega

theorem near_from {r : Roads} {f : Flock} (g : Good r f) {shut tt last day : Int} {s0 : Nat} (h0 : 0 ≤ day) (h3 : last ≤ 100) : ∀ (j : Nat) (t : Nat), day + j ≤ last + 1 → (nightsTo r f shut (0 ||| 1 <<< s0) day j).testBit t = true →
    togoV r f shut tt last (day + j) ((t : Int), 0) ≤ bd f last (day + j) 0 → togoV r f shut tt last day ((s0 : Int), 0) ≤ bd f last day 0
  | 0, t, _, hb, hv => by
    rw [nightsTo, testBit_or_one] at hb
    simp at hb
    subst hb
    simpa using hv
  | j + 1, t, hl, hb, hv => by
    rw [nightsTo] at hb
    obtain ⟨l, hs⟩ := (afterN_bit g t).1 hb
    obtain ⟨_, _, r3, r4⟩ := hs.range g
    have e1 : togoV r f shut tt last (day + j) ((t : Int), l) ≤ bd f last (day + j) l := by
      rw [togoV_eq g (by omega) (by omega) h3 r3 r4]
      refine Int.le_trans (best_le0 _) ?_
      show togoV r f shut tt last (day + j + 1) ((t : Int), 0) ≤ _
      have h2 := bd_day (last := last) (d := day + j) r4
      have e : day + (j : Int) + 1 = day + ((j + 1 : Nat) : Int) := by omega
      rw [e] at h2 ⊢
      exact Int.le_trans hv h2
    obtain ⟨s, hs1, hs2⟩ := near_back g (by omega) (by omega) h3 hs e1
    exact near_from g h0 h3 j s (by omega) hs1 hs2

theorem comesTo_get {r : Roads} {f : Flock} {shut : Int} {n0 : Nat} {day : Int} (h0 : 0 ≤ day) : ∀ (k : Nat) (t : Nat) (h : t < (comesTo r f shut n0 day k).length), 0 ≤ (comesTo r f shut n0 day k)[t] →
    ∃ j, j < k ∧ (comesTo r f shut n0 day k)[t] = day + (j : Int) ∧ (nightsTo r f shut n0 day (j + 1)).testBit t = true
  | 0, t, h, hv => by simp [comesTo] at hv
  | k + 1, t, h, hv => by
    have hl : t < (comesTo r f shut n0 day k).length := by rw [comesTo_len] at h ⊢; exact h
    have ht : t < r.stages.toNat := by rw [comesTo_len] at h; exact h
    have e : (comesTo r f shut n0 day (k + 1))[t] = if decide (t < r.stages.toNat) && decide ((comesTo r f shut n0 day k)[t] < 0) && (nightsTo r f shut n0 day (k + 1)).testBit t then day + k else (comesTo r f shut n0 day k)[t] := by
      simp [comesTo, updTo]
    rw [e] at hv ⊢
    by_cases c : (decide (t < r.stages.toNat) && decide ((comesTo r f shut n0 day k)[t] < 0) && (nightsTo r f shut n0 day (k + 1)).testBit t) = true
    · rw [if_pos c]
      simp only [Bool.and_eq_true] at c
      exact ⟨k, by omega, rfl, c.2⟩
    · rw [if_neg c] at hv ⊢
      obtain ⟨j, h1, h2, h3⟩ := comesTo_get h0 k t hl hv
      exact ⟨j, by omega, h2, h3⟩

theorem comes_near {r : Roads} {f : Flock} (g : Good r f) {shut day : Int} {s0 t : Nat} (h0 : 0 ≤ day) (h1 : day < r.days) (ht : (t : Int) < r.stages) {last : Int} (hl : (comesL r f shut s0 day).getD t 0 = last) (hn : 0 ≤ last) :
    day ≤ last ∧ last < r.days ∧ togoV r f shut t last day ((s0 : Int), 0) < farI := by
  unfold comesL at hl
  have hlen : t < (comesTo r f shut (0 ||| 1 <<< s0) day (r.days - day).toNat).length := by rw [comesTo_len]; omega
  rw [List.getD_eq_getElem?_getD, List.getElem?_eq_getElem hlen, Option.getD_some] at hl
  obtain ⟨j, h2, h3, h4⟩ := comesTo_get h0 _ t hlen (by omega)
  have hd := g.d2
  refine ⟨by omega, by omega, ?_⟩
  have hv : togoV r f shut t last (day + ((j + 1 : Nat) : Int)) ((t : Int), 0) ≤ bd f last (day + ((j + 1 : Nat) : Int)) 0 := by
    rw [togoV_end (by omega), if_pos rfl]
    unfold bd
    have : last + 1 - (day + ((j + 1 : Nat) : Int)) = 0 := by omega
    rw [this]; omega
  have := near_from g (tt := t) (last := last) h0 (by omega) (j + 1) t (by omega) h4 hv
  have hp := g.p2
  have hp1 := g.p1
  unfold bd at this
  have h9 : (last + 1 - day) * f.pace ≤ 11 * f.pace := Int.mul_le_mul_of_nonneg_right (by omega) (by omega)
  unfold farI
  omega
end Go.Proofs.YtmkjeonjhedgkaaGreatDoor

namespace Go.Proofs.YtmkjeonjhedgkaaGreatDoor
set_option linter.unusedSimpArgs false
set_option linter.unusedVariables false
open Go.RowKit

def planDay (r : Roads) (f : Flock) (fr tt : Nat) (day : Int) : Int := (comesL r f (-1) fr day).getD tt 0
def PlanPost (w : World) (r : Roads) (f : Flock) (fr tt day : Int) (e : Ending) (w' : World) : Prop :=
  Below w.heap.size w w' ∧ (
  (readyErr r f [fr, r.stages, tt, r.stages, day, r.days] = 0 ∧ planDay r f fr.toNat tt.toNat day < 0 ∧ e = .returned (.tuple #[.slice none 0 0, .int .i64 11])) ∨
  (readyErr r f [fr, r.stages, tt, r.stages, day, r.days] = 0 ∧ 0 ≤ planDay r f fr.toNat tt.toNat day ∧ ∃ v, e = .returned (.tuple #[v, .int .i64 0]) ∧ OwnStrides w' w.heap.size v (planL r f (-1) tt (planDay r f fr.toNat tt.toNat day) day fr)) ∨
  (readyErr r f [fr, r.stages, tt, r.stages, day, r.days] ≠ 0 ∧ e = .returned (.tuple #[.slice none 0 0, .int .i64 (readyErr r f [fr, r.stages, tt, r.stages, day, r.days])])))

set_option maxRecDepth 100000 in
set_option maxHeartbeats 4000000 in
theorem Plan_any (w : World) (r : Roads) (f : Flock) (a : Option Addr) (cap : Nat) (hs : StripsAt w a r.strips) (hm : r.strips.length ≤ maxLen) (fr tt day : Int) :
    Calls Tryz.prog 17 #[.agg #[.int .i64 r.days, .int .i64 r.stages, .slice a r.strips.length cap], .agg #[.int .i64 f.heads, .int .i64 f.pace], .int .i64 fr, .int .i64 tt, .int .i64 day] w (PlanPost w r f fr tt day) := by
  have hb0 : Below w.heap.size w (((w.alloc (.cells #[.int .i64 r.days, .int .i64 r.stages, .slice a r.strips.length cap] 24)).alloc (.cells #[.int .i64 f.heads, .int .i64 f.pace] 45)).alloc (.cells #[.int .i64 fr, .int .i64 r.stages, .int .i64 tt, .int .i64 r.stages, .int .i64 day, .int .i64 r.days] 3)) :=
    (((Below.refl _ _).alloc (Nat.le_refl _) _).alloc (by simp) _).alloc (by simp; omega) _
  have hp := @ints_new ((w.alloc (.cells #[.int .i64 r.days, .int .i64 r.stages, .slice a r.strips.length cap] 24)).alloc (.cells #[.int .i64 f.heads, .int .i64 f.pace] 45)) [fr, r.stages, tt, r.stages, day, r.days]
  simp only [World.size_alloc] at hp
  have HM := Lib.hid hm; clear hm
  have HO := Lib.hid (fun hc => @odd6 r hc fr tt day)
  go_enter Tryz.func17, Tryz.ntmps17
  go_wp2_with fail
  refine (ready_any _ r f [fr, r.stages, tt, r.stages, day, r.days] a cap _ 6 (hs.below hb0) HM.out hp (by simp) HO.out).mono ?_
  rintro e w1 (⟨hz, b, rfl, hW, hbb, _, hb1⟩ | ⟨hz, rfl, hb1⟩)
  · obtain ⟨g, hpz⟩ := ready_zero hz
    obtain ⟨⟨p1, p2⟩, ⟨p3, p4⟩, p5, p6⟩ := pairs6.1 hpz
    have hg := g.s2
    have hd := g.d2
    obtain ⟨k, hk⟩ := Int.eq_ofNat_of_zero_le p1
    obtain ⟨j, hj⟩ := Int.eq_ofNat_of_zero_le p3
    have Hz := Lib.hid hz; clear hz hpz
    subst hk hj
    have hb01 := hb0.trans (hb1.mono hb0.size)
    have hlen : (comesL r f (-1) k day).length = r.stages.toNat := comesTo_len _ _ _ _ _ _
    have hjl : j < (comesL r f (-1) k day).length := by rw [hlen]; omega
    have hx := comesTo_range r f (-1) (0 ||| 1 <<< k) day p5 (r.days - day).toNat _ (List.getElem_mem (l := comesL r f (-1) k day) hjl)
    have hA : planDay r f k j day = (comesL r f (-1) k day)[j] := by unfold planDay; rw [List.getD_eq_getElem?_getD, List.getElem?_eq_getElem hjl]; rfl
    obtain ⟨c, hc⟩ : ∃ c : Nat, (comesL r f (-1) k day).length = c := ⟨_, rfl⟩
    have hcst : (c : Int) = r.stages := by rw [hlen] at hc; omega
    have hnear : 0 ≤ planDay r f k j day → _ := comes_near g (shut := -1) (s0 := k) p5 p6 p4 rfl
    have Hnear := Lib.hid hnear; clear hnear
    generalize hx0 : (comesL r f (-1) k day)[j] = x0 at hx hA
    have x1 : -1 ≤ x0 := by omega
    have x2 : x0 < 100 := by omega
    have HA := Lib.hid hA; clear hA hx hlen
    have Hx0 := Lib.hid hx0; clear hx0
    have Hc := Lib.hid hc; clear hc
    have Hcst := Lib.hid hcst; clear hcst
    have hj6 : (j : Int) < (c : Int) := by rw [Hcst.out]; exact p4
    have hjc : j < c := by omega
    go_wp2_with fail
    refine (comes_any _ b r f (-1) a cap hW g k (by omega) day p5 (by omega)).mono ?_
    rintro e w2 ⟨v, rfl, hown, hb2⟩
    obtain ⟨gb, cp, rfl⟩ := hown.ptr (by omega)
    have hcell := (hown.cell hjl).1
    rw [Hx0.out] at hcell
    rw [Hc.out]
    clear hown
    have hb02 := hb01.trans (hb2.mono hb01.size)
    have HW2 := Lib.hid (hW.below hb2)
    by_cases hneg : x0 < 0
    · go_wp2_with fail
      go_ret2
      exact ⟨hb02, .inl ⟨Hz.out, by simp; rw [HA.out]; exact hneg, rfl⟩⟩
    · obtain ⟨n1, n2, n3⟩ := Hnear.out (by rw [HA.out]; omega)
      change (_ : Int) ≤ planDay r f k j day at n1
      change planDay r f k j day < _ at n2
      change togoV r f (-1) j (planDay r f k j day) day ((k : Int), 0) < farI at n3
      rw [HA.out] at n1 n2 n3
      have HN3 := Lib.hid n3; clear n3
      go_wp2_with fail
      refine (plan_any w2 b r f (-1) a cap HW2.out g k j day x0 p1 p2 p5 (by omega) (by omega) HN3.out).mono ?_
      rintro e w3 ⟨v, rfl, hown, hb3⟩
      have Hown := Lib.hid hown; clear hown
      go_wp2_with fail
      go_ret2
      exact ⟨hb02.trans (hb3.mono hb02.size), .inr (.inl ⟨Hz.out, by simp; rw [HA.out]; omega, v, rfl, by simp; rw [HA.out]; exact Hown.out.mono hb02.size⟩)⟩
  · have hne : (readyErr r f [fr, r.stages, tt, r.stages, day, r.days] != 0) = true := by simpa using hz
    have Hz := Lib.hid hz; clear hz
    go_wp2_with fail
    go_ret2
    exact ⟨hb0.trans (hb1.mono hb0.size), .inr (.inr ⟨Hz.out, rfl⟩)⟩
end Go.Proofs.YtmkjeonjhedgkaaGreatDoor
