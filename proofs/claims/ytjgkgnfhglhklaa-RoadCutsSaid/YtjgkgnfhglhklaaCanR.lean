/- The contracts of mestaref02.can and latest; what asked says is what ready says. -/
import Derived.Test.YtjgkgnfhglhklaaDays
import Derived.Test.YtjgkgnfhglhklaaAsked
namespace Go.Proofs.Ytjgkgnfhglhklaa
set_option linter.unusedSimpArgs false
set_option linter.unusedVariables false
open Go.RowKit

/-- What can of the reference says is what can says. -/
theorem comes_can' {r : Roads} {f : Flock} (g : Good r f) {fr tt d b : Nat} (hd : (d : Int) < r.days) (hb : (b : Int) < r.days) (htt : (tt : Int) < r.stages) :
    (decide (0 ≤ (comesL r f (-1) fr (d : Int)).getD tt 0) && decide ((comesL r f (-1) fr (d : Int)).getD tt 0 ≤ (b : Int))) = canB r f (-1) fr tt d b := by
  have hl : tt < (comesL r f (-1) fr (d : Int)).length := by
    unfold comesL
    rw [comesTo_len]
    omega
  rw [List.getD_eq_getElem?_getD, List.getElem?_eq_getElem hl, Option.getD_some]
  by_cases hdb : d ≤ b
  · exact comes_can g hdb hb htt hl
  · unfold canB
    rw [decide_eq_false (show ¬ (d : Int) ≤ (b : Int) by omega), Bool.false_and, Bool.eq_false_iff]
    simp only [ne_eq, Bool.and_eq_true, decide_eq_true_eq]
    rintro ⟨h1, h2⟩
    obtain ⟨j, j1, j2, j3⟩ := comesTo_get (shut := -1) (by omega) (r.days - (d : Int)).toNat tt hl h1
    have j4 : (comesL r f (-1) fr (d : Int))[tt] = (d : Int) + (j : Int) := j2
    omega

theorem ready_asked6 (r : Roads) (f : Flock) (x y z : Int) : readyErr r f [x, r.stages, y, r.stages, z, r.days] = askedErr r f [x, y] [z] := by
  unfold readyErr askedErr
  simp only [pairsErr, allIn, List.all_cons, List.all_nil, Bool.and_true]
  by_cases h1 : btw x 0 (r.stages - 1) = true <;> by_cases h2 : btw y 0 (r.stages - 1) = true <;> by_cases h3 : btw z 0 (r.days - 1) = true <;> simp [h1, h2, h3]
theorem ready_asked4 (r : Roads) (f : Flock) (x z : Int) : readyErr r f [x, r.stages, z, r.days] = askedErr r f [x] [z] := by
  unfold readyErr askedErr
  simp only [pairsErr, allIn, List.all_cons, List.all_nil, Bool.and_true]
  by_cases h1 : btw x 0 (r.stages - 1) = true <;> by_cases h3 : btw z 0 (r.days - 1) = true <;> simp [h1, h3]
theorem ready_asked8 (r : Roads) (f : Flock) (x y z t : Int) : readyErr r f [x, r.stages, y, r.stages, z, r.days, t, r.days] = askedErr r f [x, y] [z, t] := by
  unfold readyErr askedErr
  simp only [pairsErr, allIn, List.all_cons, List.all_nil, Bool.and_true]
  by_cases h1 : btw x 0 (r.stages - 1) = true <;> by_cases h2 : btw y 0 (r.stages - 1) = true <;> by_cases h3 : btw z 0 (r.days - 1) = true <;> by_cases h4 : btw t 0 (r.days - 1) = true <;> simp [h1, h2, h3, h4]

set_option maxRecDepth 100000 in
set_option maxHeartbeats 4000000 in
theorem refCan_any (w : World) {r : Roads} {f : Flock} (g : Good r f) (a : Option Addr) (cap fr tt z b : Nat) (hfr : (fr : Int) < r.stages) (htt : (tt : Int) < r.stages) (hz : (z : Int) < r.days) (hb : (b : Int) < r.days) (hs : StripsAt w a r.strips) :
    Calls Try.prog 112 #[.agg #[.int .i64 r.days, .int .i64 r.stages, .slice a r.strips.length cap], .agg #[.int .i64 f.heads, .int .i64 f.pace], .int .i64 (fr : Int), .int .i64 (tt : Int), .int .i64 (z : Int), .int .i64 (b : Int)] w
      fun e w' => e = .returned (.bool (canB r f (-1) fr tt z b)) ∧ Below w.heap.size w w' := by
  obtain ⟨S, hS⟩ := Int.eq_ofNat_of_zero_le (show 0 ≤ r.stages by have := g.s1; omega)
  rw [hS]
  have hS6 : S ≤ 6 := by have := g.s2; omega
  have q1 : fr < S := by omega
  have q2 : tt < S := by omega
  have hb0 : Below w.heap.size w ((w.alloc (.cells #[.int .i64 r.days, .int .i64 (S : Int), .slice a r.strips.length cap] 24)).alloc (.cells #[.int .i64 f.heads, .int .i64 f.pace] 26)) := ((Below.refl _ _).alloc (Nat.le_refl _) _).alloc (by simp) _
  have x1 : ((w.alloc (.cells #[.int .i64 r.days, .int .i64 (S : Int), .slice a r.strips.length cap] 24)).alloc (.cells #[.int .i64 f.heads, .int .i64 f.pace] 26)).cell? ⟨w.heap.size, 1, none⟩ = some (.int .i64 (S : Int)) := by simp [go_sem]
  have x0 : ((w.alloc (.cells #[.int .i64 r.days, .int .i64 (S : Int), .slice a r.strips.length cap] 24)).alloc (.cells #[.int .i64 f.heads, .int .i64 f.pace] 26)).cell? ⟨w.heap.size, 0, none⟩ = some (.int .i64 r.days) := by simp [go_sem]
  have x2 : ((w.alloc (.cells #[.int .i64 r.days, .int .i64 (S : Int), .slice a r.strips.length cap] 24)).alloc (.cells #[.int .i64 f.heads, .int .i64 f.pace] 26)).cell? ⟨w.heap.size, 2, none⟩ = some (.slice a r.strips.length cap) := by simp [go_sem]
  have x3 : ((w.alloc (.cells #[.int .i64 r.days, .int .i64 (S : Int), .slice a r.strips.length cap] 24)).alloc (.cells #[.int .i64 f.heads, .int .i64 f.pace] 26)).cell? ⟨w.heap.size + 1, 0, none⟩ = some (.int .i64 f.heads) := by simp [go_sem]
  have x4 : ((w.alloc (.cells #[.int .i64 r.days, .int .i64 (S : Int), .slice a r.strips.length cap] 24)).alloc (.cells #[.int .i64 f.heads, .int .i64 f.pace] 26)).cell? ⟨w.heap.size + 1, 1, none⟩ = some (.int .i64 f.pace) := by simp [go_sem]
  have hst := hs.below hb0
  have HC := Lib.hid (comes_can' g (fr := fr) hz hb htt)
  have HS := Lib.hid hS; clear hS hfr htt
  have G := Lib.hid g; clear g hs
  go_enter Try.func112, Try.ntmps112
  go_upto_region 1 with (fail)
  generalize ((w.alloc (.cells #[.int .i64 r.days, .int .i64 (S : Int), .slice a r.strips.length cap] 24)).alloc (.cells #[.int .i64 f.heads, .int .i64 f.pace] 26)) = W0 at hb0 x0 x1 x2 x3 x4 hst ⊢
  have hdy := days_any W0 G.out a cap S fr z HS.out q1 (by omega) hst
  have HDY := Lib.hid hdy; clear hdy hst
  go_wp2_with fail
  refine HDY.out.mono ?_
  rintro e w1 ⟨gb, rfl, hrow, hgb, hb1⟩
  clear HDY x0 x1 x2 x3 x4
  have HB := Lib.hid (hb0.trans (hb1.mono hb0.size)); clear hb0 hb1 hgb
  have m0 := hrow.cell q2
  clear hrow
  have HC2 := Lib.hid HC.out; clear HC
  generalize (comesL r f (-1) fr (z : Int)).getD tt 0 = c at m0 HC2
  by_cases h0 : 0 ≤ c
  · by_cases h1 : c ≤ (b : Int)
    · go_wp2_with fail
      go_ret
      exact ⟨by rw [← HC2.out, decide_eq_true h0, decide_eq_true h1]; rfl, HB.out⟩
    · have H1 := Lib.hid h1
      go_wp2_with fail
      go_ret
      exact ⟨by rw [← HC2.out, decide_eq_false (show ¬ c ≤ (b : Int) by omega), Bool.and_false]; rfl, HB.out⟩
  · go_wp2_with fail
    go_ret
    exact ⟨by rw [← HC2.out, decide_eq_false (show ¬ 0 ≤ c by omega), Bool.false_and]; rfl, HB.out⟩

set_option maxRecDepth 100000 in
set_option maxHeartbeats 4000000 in
theorem refLatest_any (w : World) {r : Roads} {f : Flock} (g : Good r f) (a : Option Addr) (cap fr tt b : Nat) (hfr : (fr : Int) < r.stages) (htt : (tt : Int) < r.stages) (hb : (b : Int) < r.days) (hs : StripsAt w a r.strips) :
    Calls Try.prog 90 #[.agg #[.int .i64 r.days, .int .i64 r.stages, .slice a r.strips.length cap], .agg #[.int .i64 f.heads, .int .i64 f.pace], .int .i64 (fr : Int), .int .i64 (tt : Int), .int .i64 (b : Int)] w
      fun e w' => e = .returned (.int .i64 (lateD r f fr tt (b : Int))) ∧ Below w.heap.size w w' := by
  have hb0 : Below w.heap.size w ((w.alloc (.cells #[.int .i64 r.days, .int .i64 r.stages, .slice a r.strips.length cap] 24)).alloc (.cells #[.int .i64 f.heads, .int .i64 f.pace] 26)) := ((Below.refl _ _).alloc (Nat.le_refl _) _).alloc (by simp) _
  have x1 : ((w.alloc (.cells #[.int .i64 r.days, .int .i64 r.stages, .slice a r.strips.length cap] 24)).alloc (.cells #[.int .i64 f.heads, .int .i64 f.pace] 26)).cell? ⟨w.heap.size, 1, none⟩ = some (.int .i64 r.stages) := by simp [go_sem]
  have x0 : ((w.alloc (.cells #[.int .i64 r.days, .int .i64 r.stages, .slice a r.strips.length cap] 24)).alloc (.cells #[.int .i64 f.heads, .int .i64 f.pace] 26)).cell? ⟨w.heap.size, 0, none⟩ = some (.int .i64 r.days) := by simp [go_sem]
  have x2 : ((w.alloc (.cells #[.int .i64 r.days, .int .i64 r.stages, .slice a r.strips.length cap] 24)).alloc (.cells #[.int .i64 f.heads, .int .i64 f.pace] 26)).cell? ⟨w.heap.size, 2, none⟩ = some (.slice a r.strips.length cap) := by simp [go_sem]
  have x3 : ((w.alloc (.cells #[.int .i64 r.days, .int .i64 r.stages, .slice a r.strips.length cap] 24)).alloc (.cells #[.int .i64 f.heads, .int .i64 f.pace] 26)).cell? ⟨w.heap.size + 1, 0, none⟩ = some (.int .i64 f.heads) := by simp [go_sem]
  have x4 : ((w.alloc (.cells #[.int .i64 r.days, .int .i64 r.stages, .slice a r.strips.length cap] 24)).alloc (.cells #[.int .i64 f.heads, .int .i64 f.pace] 26)).cell? ⟨w.heap.size + 1, 1, none⟩ = some (.int .i64 f.pace) := by simp [go_sem]
  have hst := hs.below hb0
  have hd10 := g.d2
  have G := Lib.hid g; clear g hs
  go_enter Try.func90, Try.ntmps90
  go_upto_region 1 with (fail)
  generalize ((w.alloc (.cells #[.int .i64 r.days, .int .i64 r.stages, .slice a r.strips.length cap] 24)).alloc (.cells #[.int .i64 f.heads, .int .i64 f.pace] 26)) = W0 at hb0 x0 x1 x2 x3 x4 hst ⊢
  have HST := Lib.hid hst; clear hst
  have X0 := Lib.hid x0; clear x0
  have X1 := Lib.hid x1; clear x1
  have X2 := Lib.hid x2; clear x2
  have X3 := Lib.hid x3; clear x3
  have X4 := Lib.hid x4; clear x4
  have HB0 := Lib.hid hb0; clear hb0
  go_wp2_with fail
  go_loopw [11] (fun v11 wx => ∃ d : Int, -1 ≤ d ∧ d ≤ (b : Int) ∧ v11 = .int .i64 d ∧ lateR r f (-1) fr tt (b : Int) (d + 1).toNat = lateD r f fr tt (b : Int) ∧ Below W0.heap.size W0 wx) (fun v _ => (intOf v + 1).toNat)
  case atStart => exact ⟨b, by omega, by omega, rfl, rfl, Below.refl _ _⟩
  case round =>
    obtain ⟨d, hd1, hd2, rfl, hE, hbw⟩ := hrel
    have HE := Lib.hid hE; clear hE
    by_cases hd : 0 ≤ d
    · obtain ⟨k, rfl⟩ := Int.eq_ofNat_of_zero_le hd
      have hstep : lateR r f (-1) fr tt (b : Int) (((k : Nat) : Int) + 1).toNat = if canB r f (-1) fr tt (k : Int) (b : Int) then (k : Int) else lateR r f (-1) fr tt (b : Int) k := by
        rw [show ((k : Int) + 1).toNat = k + 1 by omega]; rfl
      have Hs := Lib.hid hstep; clear hstep
      have x0 := ((bcell hbw).1 _ _ (lt_of_cell X0.out)).trans X0.out
      have x1 := ((bcell hbw).1 _ _ (lt_of_cell X1.out)).trans X1.out
      have x2 := ((bcell hbw).1 _ _ (lt_of_cell X2.out)).trans X2.out
      have x3 := ((bcell hbw).1 _ _ (lt_of_cell X3.out)).trans X3.out
      have x4 := ((bcell hbw).1 _ _ (lt_of_cell X4.out)).trans X4.out
      have HCN := Lib.hid (refCan_any wr G.out a cap fr tt k b hfr htt (by omega) hb (HST.out.below hbw))
      have HBW := Lib.hid hbw; clear hbw
      go_wp2_with fail
      refine HCN.out.mono ?_
      clear HCN x0 x1 x2 x3 x4
      rintro e w2 ⟨rfl, hb2⟩
      have HB2 := Lib.hid (HBW.out.trans (hb2.mono HBW.out.size)); clear hb2
      cases hc : canB r f (-1) fr tt (k : Int) (b : Int)
      · have Hc := Lib.hid hc; clear hc
        go_wp2_with fail
        refine ⟨⟨(k : Int) - 1, by omega, by omega, rfl, ?_, HB2.out⟩, by simp [intOf] <;> omega⟩
        rw [← HE.out, Hs.out, Hc.out, show ((k : Int) - 1 + 1).toNat = k by omega]
        simp
      · have Hc := Lib.hid hc; clear hc
        go_wp2_with fail
        go_ret
        refine ⟨ret_int ?_, HB0.out.trans (HB2.out.mono HB0.out.size)⟩
        rw [← HE.out, Hs.out, Hc.out]
        simp
    · go_wp2_with fail
      go_ret
      refine ⟨ret_int ?_, HB0.out.trans (hbw.mono HB0.out.size)⟩
      rw [← HE.out, show (d + 1).toNat = 0 by omega]
      rfl
end Go.Proofs.Ytjgkgnfhglhklaa
