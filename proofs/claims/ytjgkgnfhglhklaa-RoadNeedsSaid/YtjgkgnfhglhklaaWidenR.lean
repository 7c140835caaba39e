/- The contract of mestaref02.Widened . -/
import Derived.Test.YtjgkgnfhglhklaaWidenedL
import Derived.Test.YtjgkgnfhglhklaaWithout
namespace Go.Proofs.Ytjgkgnfhglhklaa
set_option linter.unusedSimpArgs false
set_option linter.unusedVariables false
open Go.RowKit

set_option maxRecDepth 100000 in
set_option maxHeartbeats 8000000 in
theorem refWidened_any (w : World) (r : Roads) (a : Option Addr) (cap : Nat) (hs : StripsAt w a r.strips) (hlen : r.strips.length ≤ 8) (la : Option Addr) (lc : Nat) (l : List Int) (hl : IntsAt w la l) (hl8 : l.length ≤ 8) (hrg : ∀ k (h : k < l.length), 0 ≤ l[k] ∧ l[k] < r.strips.length) :
    Calls Try.prog 114 #[.agg #[.int .i64 r.days, .int .i64 r.stages, .slice a r.strips.length cap], .slice la l.length lc] w
      fun e w' => ∃ g c, e = .returned (.agg #[.int .i64 r.days, .int .i64 r.stages, .slice (some ⟨g, 0, none⟩) r.strips.length c]) ∧ w.heap.size ≤ g ∧ StripsIn w' g (widenS r.strips l) ∧ Below w.heap.size w w' := by
  have HRG := Lib.hid hrg; clear hrg
  have HLI0 := Lib.hid hl; clear hl
  have hb2 : Below w.heap.size w (((w.alloc (.cells #[.int .i64 r.days, .int .i64 r.stages, .slice a r.strips.length cap] 24)).alloc (.cells #[.int .i64 0, .int .i64 0, .slice none 0 0] 24)).alloc (.cells #[] 57)) :=
    (((Below.refl _ _).alloc (Nat.le_refl _) _).alloc (by simp) _).alloc (by simp; omega) _
  have hsz : (((w.alloc (.cells #[.int .i64 r.days, .int .i64 r.stages, .slice a r.strips.length cap] 24)).alloc (.cells #[.int .i64 0, .int .i64 0, .slice none 0 0] 24)).alloc (.cells #[] 57)).heap.size = w.heap.size + 3 := by simp
  have hown := own_empty ((w.alloc (.cells #[.int .i64 r.days, .int .i64 r.stages, .slice a r.strips.length cap] 24)).alloc (.cells #[.int .i64 0, .int .i64 0, .slice none 0 0] 24)) (w.heap.size + 2) (by simp)
  simp only [World.size_alloc] at hown
  have hs2 := hs.below hb2
  have HB := Lib.hid hb2; clear hb2
  go_enter Try.func114, Try.ntmps114
  go_wp2_with (at_builtin; refine list_app_strips rfl _ _ rfl (w.heap.size + 2) _ [] rfl hown a cap _ r.strips rfl rfl hs2 (by simp; omega) (by simp) ?_)
  intro v' w' hown' hb' hv'
  obtain ⟨g, c, rfl, hg1, hg2, hin⟩ := hown'.into (by simpa using hv')
  try simp only [List.nil_append] at hin
  have hc : ∀ b o, b < w.heap.size + 2 → w'.cell? ⟨b, o, none⟩ = _ := fun b o h => hb'.cell (p := ⟨b, o, none⟩) h
  have hf : ∀ b o, b < w.heap.size + 2 → w'.frozen? ⟨b, o, none⟩ = _ := fun b o h => hb'.frozen (p := ⟨b, o, none⟩) h
  have k0 : w'.cell? ⟨w.heap.size, 0, none⟩ = some (.int .i64 r.days) := by rw [hc _ _ (by omega)]; simp [go_sem]
  have k1 : w'.cell? ⟨w.heap.size, 1, none⟩ = some (.int .i64 r.stages) := by rw [hc _ _ (by omega)]; simp [go_sem]
  have k2 : w'.cell? ⟨w.heap.size, 2, none⟩ = some (.slice a r.strips.length cap) := by rw [hc _ _ (by omega)]; simp [go_sem]
  have j0 : w'.cell? ⟨w.heap.size + 1, 0, none⟩ = some (.int .i64 0) := by rw [hc _ _ (by omega)]; simp [go_sem]
  have j1 : w'.cell? ⟨w.heap.size + 1, 1, none⟩ = some (.int .i64 0) := by rw [hc _ _ (by omega)]; simp [go_sem]
  have j2 : w'.cell? ⟨w.heap.size + 1, 2, none⟩ = some (.slice none 0 0) := by rw [hc _ _ (by omega)]; simp [go_sem]
  have f2 : w'.frozen? ⟨w.heap.size, 2, none⟩ = false := by rw [hf _ _ (by omega)]; simp [go_sem]
  have g0 : w'.frozen? ⟨w.heap.size + 1, 0, none⟩ = false := by rw [hf _ _ (by omega)]; simp [go_sem]
  have g1 : w'.frozen? ⟨w.heap.size + 1, 1, none⟩ = false := by rw [hf _ _ (by omega)]; simp [go_sem]
  have g2 : w'.frozen? ⟨w.heap.size + 1, 2, none⟩ = false := by rw [hf _ _ (by omega)]; simp [go_sem]
  have HIN := Lib.hid hin; clear hin hown' hc hf hv'
  have hba : Below w.heap.size w w' := HB.out.trans (hb'.mono (by omega))
  have HB' := Lib.hid hba; clear hb' HB hba
  go_wp2_with fail
  have X0 := Lib.hid ((World.cell?_setCell_other w' ⟨w.heap.size, 2, none⟩ _ (.slice (some ⟨g, 0, none⟩) r.strips.length c) (by simp)).trans k0)
  have X1 := Lib.hid ((World.cell?_setCell_other w' ⟨w.heap.size, 2, none⟩ _ (.slice (some ⟨g, 0, none⟩) r.strips.length c) (by simp)).trans k1)
  have X2 := Lib.hid (World.cell?_setCell_same w' ⟨w.heap.size, 2, none⟩ (.slice (some ⟨g, 0, none⟩) r.strips.length c) k2)
  have J0 := Lib.hid ((World.cell?_setCell_other w' ⟨w.heap.size, 2, none⟩ _ (.slice (some ⟨g, 0, none⟩) r.strips.length c) (by simp)).trans j0)
  have J1 := Lib.hid ((World.cell?_setCell_other w' ⟨w.heap.size, 2, none⟩ _ (.slice (some ⟨g, 0, none⟩) r.strips.length c) (by simp)).trans j1)
  have J2 := Lib.hid ((World.cell?_setCell_other w' ⟨w.heap.size, 2, none⟩ _ (.slice (some ⟨g, 0, none⟩) r.strips.length c) (by simp)).trans j2)
  have G0 := Lib.hid (show (w'.setCell ⟨w.heap.size, 2, none⟩ (.slice (some ⟨g, 0, none⟩) r.strips.length c)).frozen? ⟨w.heap.size + 1, 0, none⟩ = false by simp only [World.frozen?_setCell]; exact g0)
  have G1 := Lib.hid (show (w'.setCell ⟨w.heap.size, 2, none⟩ (.slice (some ⟨g, 0, none⟩) r.strips.length c)).frozen? ⟨w.heap.size + 1, 1, none⟩ = false by simp only [World.frozen?_setCell]; exact g1)
  have G2 := Lib.hid (show (w'.setCell ⟨w.heap.size, 2, none⟩ (.slice (some ⟨g, 0, none⟩) r.strips.length c)).frozen? ⟨w.heap.size + 1, 2, none⟩ = false by simp only [World.frozen?_setCell]; exact g2)
  have HG9 := Lib.hid (show StripsIn (w'.setCell ⟨w.heap.size, 2, none⟩ (.slice (some ⟨g, 0, none⟩) r.strips.length c)) g r.strips from
    ⟨fun i hi => (HIN.out.at_ i hi).keep fun k => World.cell?_setCell_other _ _ _ _ (fun e => by injection e with e1; omega), fun o => by simp only [World.frozen?_setCell]; exact HIN.out.free o⟩)
  have HBX := Lib.hid (HB'.out.setCell (p := ⟨w.heap.size, 2, none⟩) (Nat.le_refl _) (.slice (some ⟨g, 0, none⟩) r.strips.length c))
  clear k0 k1 k2 j0 j1 j2 f2 g0 g1 g2 HIN HB'
  generalize w'.setCell ⟨w.heap.size, 2, none⟩ (.slice (some ⟨g, 0, none⟩) r.strips.length c) = W9 at X0 X1 X2 J0 J1 J2 G0 G1 G2 HG9 HBX ⊢
  have HLI := Lib.hid (HLI0.out.below HBX.out)
  have hqg : w.heap.size ≠ g := by omega
  have hqg1 : w.heap.size + 1 ≠ g := by omega
  obtain ⟨m, hm⟩ : ∃ m, l.length = m := ⟨_, rfl⟩
  rw [hm] at hl8 ⊢
  have HLM := Lib.hid hm; clear hm
  go_loopw [5] (fun v5 wx => ∃ k : Nat, k ≤ m ∧ v5 = .int .i64 (k : Int) ∧ StripsIn wx g (widenS r.strips (l.take k)) ∧ Ext g W9 wx) (fun v _ => m - (intOf v).toNat)
  case atStart => exact ⟨0, Nat.zero_le _, rfl, by simpa [widenS] using HG9.out, Ext.refl _ _⟩
  case round =>
    obtain ⟨k, hk, rfl, hin, hE⟩ := hrel
    have HIN := Lib.hid hin; clear hin
    have x2 := hE.cell_ne X2.out hqg
    have HE := Lib.hid hE; clear hE
    have hbw : Below w.heap.size w wr := HE.out.below HBX.out (by omega) HBX.out.size
    have HBW := Lib.hid hbw
    by_cases hkm : k < m
    · have q3 : (k : Int) < (m : Int) := by omega
      have hkl : k < l.length := by have := HLM.out; omega
      rcases HLI0.out.below hbw with hz | ⟨lb, lo, hla, hlc⟩
      · rw [hz] at hkl; simp at hkl
      have y1 := hlc k hkl
      have hrg := HRG.out k hkl
      have htk : l.take (k + 1) = l.take k ++ [l[k]] := List.take_succ_eq_append_getElem hkl
      generalize hlk : l[k] = v at y1 hrg htk
      obtain ⟨j, hj⟩ := Int.eq_ofNat_of_zero_le hrg.1
      subst hj
      have hwt : widenS r.strips (l.take (k + 1)) = (widenS r.strips (l.take k)).modify j wide := by rw [htk, widenS_append]; rfl
      clear hlk hlc htk hbw
      have hjl : j < r.strips.length := by omega
      generalize hL : widenS r.strips (l.take k) = L at HIN hwt
      have hLl : L.length = r.strips.length := by rw [← hL]; exact widenS_len _ _
      have hjL : j < L.length := by omega
      have Hwt := Lib.hid hwt; clear hwt hL
      have HLl := Lib.hid hLl; clear hLl
      have hw3 := (HIN.out.at_ j hjL).c3
      have hfr := HIN.out.free (j * 7 + 3)
      have hset := HIN.out.setW2 hjL
      generalize hst : L[j] = s at hw3 hset
      have Hst := Lib.hid hst; clear hst
      have Hset := Lib.hid hset; clear hset
      subst hla
      have q5 : (j : Int) < (r.strips.length : Int) := by omega
      clear hrg
      go_wp2_with fail
      go_region
      go_wp2_with fail
      refine ⟨⟨k + 1, by omega, by go_num, ?_, (HE.out.setW _ _).trans (Ext.of_below (Below.refl _ _).drew)⟩, by simp [intOf]; omega⟩
      rw [Hwt.out]
      exact (Hset.out _ (by split <;> omega)).drew
    · have hkm' : l.take k = l := List.take_of_length_le (by have := HLM.out; omega)
      rw [hkm'] at HIN
      have q3 : ¬ (k : Int) < (m : Int) := by omega
      have x0 := HE.out.cell_ne X0.out hqg
      have x1 := HE.out.cell_ne X1.out hqg
      have j0 := HE.out.cell_ne J0.out hqg1
      have j1 := HE.out.cell_ne J1.out hqg1
      have j2 := HE.out.cell_ne J2.out hqg1
      have hqlt : w.heap.size + 1 < W9.heap.size := lt_of_cell J0.out
      have hfz : ∀ o, wr.frozen? ⟨w.heap.size + 1, o, none⟩ = W9.frozen? ⟨w.heap.size + 1, o, none⟩ := fun o => World.frozen?_of_block (HE.out.block _ hqlt hqg1)
      have g0 := (hfz 0).trans G0.out
      have g1 := (hfz 1).trans G1.out
      have g2 := (hfz 2).trans G2.out
      clear hkm' hbw hfz
      go_wp2_with fail
      have h3 := three (v0 := .int .i64 r.days) (v1 := .int .i64 r.stages) (v2 := .slice (some ⟨g, 0, none⟩) r.strips.length c) j0 j1 j2
      have hin' := HIN.out.three (q := w.heap.size + 1) (by omega) (.int .i64 r.days) (.int .i64 r.stages) (.slice (some ⟨g, 0, none⟩) r.strips.length c)
      have hbF := ((HBW.out.setCell (p := ⟨w.heap.size + 1, 0, none⟩) (Nat.le_succ _) (.int .i64 r.days)).setCell (p := ⟨w.heap.size + 1, 1, none⟩) (Nat.le_succ _) (.int .i64 r.stages)).setCell (p := ⟨w.heap.size + 1, 2, none⟩) (Nat.le_succ _) (.slice (some ⟨g, 0, none⟩) r.strips.length c)
      clear j0 j1 j2 g0 g1 g2 x0 x1 x2 HIN HBW HE
      generalize (((wr.setCell ⟨w.heap.size + 1, 0, none⟩ (.int .i64 r.days)).setCell ⟨w.heap.size + 1, 1, none⟩ (.int .i64 r.stages)).setCell ⟨w.heap.size + 1, 2, none⟩ (.slice (some ⟨g, 0, none⟩) r.strips.length c)) = S at h3 hin' hbF ⊢
      obtain ⟨s0, s1, s2⟩ := h3
      refine bodyPost_ret (v := .agg #[.int .i64 r.days, .int .i64 r.stages, .slice (some ⟨g, 0, none⟩) r.strips.length c]) ?_ rfl ⟨g, ⟨c, rfl⟩, by omega, hin', hbF⟩
      clear hin' hbF
      simp [results, Try.results114, go_sem, s0, s1, s2]
end Go.Proofs.Ytjgkgnfhglhklaa
