import Derived.Test.YtgdobbcjkiapkaaOn15
import Derived.Outline
import Derived.Deep.CutBlock
namespace Go.Proofs.Ytgdobbcjkiapkaa
set_option maxRecDepth 100000
set_option maxHeartbeats 4000000
set_option linter.unusedSimpArgs false
set_option linter.unusedVariables false
section
open Go.RowKit
def pairsErr : List Int → Int
 | a :: b :: l => if btw a 0 (b - 1) then pairsErr l else 3
 | _ => 0
def readyErr (r : Roads) (f : Flock) (l : List Int) : Int := if checkR r != 0 then checkR r else if flockErr f != 0 then flockErr f else pairsErr l
theorem pairs_step {l : List Int} {i : Nat} (h : i + 1 < l.length) : pairsErr (l.drop i) = if btw l[i] 0 (l[i + 1] - 1) then pairsErr (l.drop (i + 2)) else 3 := by
 rw [List.drop_eq_getElem_cons (show i < l.length by omega), List.drop_eq_getElem_cons h]; rfl
theorem pairs_end {l : List Int} {i : Nat} (h : ¬ i + 1 < l.length) : pairsErr (l.drop i) = 0 := by
 by_cases e : i < l.length
 ·rw [List.drop_eq_getElem_cons e, List.drop_of_length_le (by omega)]; rfl
 ·rw [List.drop_of_length_le (by omega)]; rfl
def ReadyPost (w : World) (r : Roads) (f : Flock) (l : List Int) (a : Option Addr) (cap : Nat) (e : Ending) (w' : World) : Prop :=
 (readyErr r f l = 0 ∧ ∃ b, e = .returned (.tuple #[.pointer (some ⟨b, 0, none⟩), .int .i64 0]) ∧ WorkAt w' b r f (-1) a cap ∧ w.heap.size ≤ b ∧ (∀ k, w'.frozen? ⟨b, k, none⟩ = false) ∧ Below w.heap.size w w') ∨
 (readyErr r f l ≠ 0 ∧ e = .returned (.tuple #[.pointer none, .int .i64 (readyErr r f l)]) ∧ Below w.heap.size w w')
theorem ready_any (w : World) (r : Roads) (f : Flock) (l : List Int) (a : Option Addr) (cap : Nat) (pa : Option Addr) (pc : Nat) (hs : StripsAt w a r.strips) (hm : r.strips.length ≤ maxLen) (hp : IntsAt w pa l) (hl : l.length ≤ 100)
  (hr : checkR r = 0 → ∀ i (h : i < l.length), i % 2 = 1 → 0 ≤ l[i] ∧ l[i] ≤ 1000) :
  Calls Try.prog 100 #[.agg #[.int .i64 r.days, .int .i64 r.stages, .slice a r.strips.length cap], .agg #[.int .i64 f.heads, .int .i64 f.pace], .slice pa l.length pc] w (ReadyPost w r f l a cap) := by
 have hb0 : Below w.heap.size w ((w.alloc (.cells #[.int .i64 r.days, .int .i64 r.stages, .slice a r.strips.length cap] 24)).alloc (.cells #[.int .i64 f.heads, .int .i64 f.pace] 87)) := ((Below.refl _ _).alloc (Nat.le_refl _) _).alloc (by simp) _; obtain ⟨r1, r2, rs⟩ := r; obtain ⟨f1, f2⟩ := f
 dsimp only at hs hm hr hb0 ⊢
 have HM := Lib.hid hm; clear hm
 go_enter Try.func100, Try.ntmps100
 go_wp2_with fail
 refine (check_any r1 r2 rs a cap _ (hs.below hb0) HM.out).mono ?_; rintro e w1 ⟨rfl, hb1⟩; obtain ⟨hc1, _⟩ := bcell hb1; have e0 : w1.cell? ⟨w.heap.size, 0, none⟩ = some (.int .i64 r1) := by rw [hc1 _ _ (by simp; omega)]; simp [go_sem]
 have e1 : w1.cell? ⟨w.heap.size, 1, none⟩ = some (.int .i64 r2) := by rw [hc1 _ _ (by simp; omega)]; simp [go_sem]
 have e2 : w1.cell? ⟨w.heap.size, 2, none⟩ = some (.slice a rs.length cap) := by rw [hc1 _ _ (by simp; omega)]; simp [go_sem]
 have e3 : w1.cell? ⟨w.heap.size + 1, 0, none⟩ = some (.int .i64 f1) := by rw [hc1 _ _ (by simp)]; simp [go_sem]
 have e4 : w1.cell? ⟨w.heap.size + 1, 1, none⟩ = some (.int .i64 f2) := by rw [hc1 _ _ (by simp)]; simp [go_sem]
 have hb01 : Below w.heap.size w w1 := hb0.trans (hb1.mono (by simp; omega)); have hz1 : w.heap.size + 1 < w1.heap.size := lt_of_cell e3; clear hc1 hb1 hb0
 by_cases hck : checkR ⟨r1, r2, rs⟩ = 0
 ·have hck' : (checkR ⟨r1, r2, rs⟩ != 0) = false := by simp [hck]
  rw [hck]; have Hck := Lib.hid hck; clear hck hck'
  go_wp2_with fail
  refine (flockError_any f1 f2 _).mono ?_; rintro e w2 ⟨rfl, hb2⟩; obtain ⟨hc2, _⟩ := bcell hb2; have e0' : w2.cell? ⟨w.heap.size, 0, none⟩ = some (.int .i64 r1) := by rw [hc2 _ _ (by omega)]; exact e0
  have e1' : w2.cell? ⟨w.heap.size, 1, none⟩ = some (.int .i64 r2) := by rw [hc2 _ _ (by omega)]; exact e1
  have e2' : w2.cell? ⟨w.heap.size, 2, none⟩ = some (.slice a rs.length cap) := by rw [hc2 _ _ (by omega)]; exact e2
  have e3' : w2.cell? ⟨w.heap.size + 1, 0, none⟩ = some (.int .i64 f1) := by rw [hc2 _ _ (by omega)]; exact e3
  have e4' : w2.cell? ⟨w.heap.size + 1, 1, none⟩ = some (.int .i64 f2) := by rw [hc2 _ _ (by omega)]; exact e4
  have hb02 : Below w.heap.size w w2 := hb01.trans (hb2.mono hb01.size); clear e0 e1 e2 e3 e4 hc2 hb2 hb01
  by_cases hfk : flockErr ⟨f1, f2⟩ = 0
  ·rw [hfk]; have Hfk := Lib.hid hfk; clear hfk; have He : readyErr ⟨r1, r2, rs⟩ ⟨f1, f2⟩ l = pairsErr l := by simp [readyErr, Hck.out, Hfk.out]
   have HE := Lib.hid He; clear He; have Hr := Lib.hid (hr Hck.out); clear hr; have hp2 := hp.below hb02; clear hp; have Hp2 := Lib.hid hp2; clear hp2; have e : True := trivial
   go_wp2_with fail
   go_loopw [10] (fun v10 wx => ∃ i : Nat, i ≤ l.length + 1 ∧ v10 = .int .i64 i ∧ pairsErr (l.drop i) = pairsErr l ∧ i % 2 = 0 ∧ Below w2.heap.size w2 wx) (fun v _ => l.length + 2 - (intOf v).toNat)
   case atStart => exact ⟨0, by omega, rfl, rfl, rfl, Below.refl _ _⟩
   case round =>
    obtain ⟨i, hi, rfl, hE, hpar, hbr⟩ := hrel; obtain ⟨hcr, _⟩ := bcell hbr; have e0 : wr.cell? ⟨w.heap.size, 0, none⟩ = some (.int .i64 r1) := by rw [hcr _ _ (lt_of_cell e0')]; exact e0'
    have e1 : wr.cell? ⟨w.heap.size, 1, none⟩ = some (.int .i64 r2) := by rw [hcr _ _ (lt_of_cell e0')]; exact e1'
    have e2 : wr.cell? ⟨w.heap.size, 2, none⟩ = some (.slice a rs.length cap) := by rw [hcr _ _ (lt_of_cell e0')]; exact e2'
    have e3 : wr.cell? ⟨w.heap.size + 1, 0, none⟩ = some (.int .i64 f1) := by rw [hcr _ _ (lt_of_cell e3')]; exact e3'
    have e4 : wr.cell? ⟨w.heap.size + 1, 1, none⟩ = some (.int .i64 f2) := by rw [hcr _ _ (lt_of_cell e3')]; exact e4'
    have hb0r : Below w.heap.size w wr := hb02.trans (hbr.mono hb02.size); clear e0' e1' e2' e3' e4' hcr; have HEi := Lib.hid hE; clear hE; have Hpar := Lib.hid hpar; clear hpar
    by_cases hlt : i + 1 < l.length
    ·rcases Hp2.out with hx | ⟨pb, po, rfl, hpc⟩
     ·rw [hx] at hlt; simp at hlt
     have x0 := (bcell hbr).1 _ _ (lt_of_cell (hpc i (by omega))) |>.trans (hpc i (by omega))
     have x1 := (bcell hbr).1 _ _ (lt_of_cell (hpc (i + 1) hlt)) |>.trans (hpc (i + 1) hlt)
     obtain ⟨y1, y2⟩ := Hr.out (i + 1) hlt (by have := Hpar.out; omega); have hst := pairs_step hlt; generalize hg1 : l[i] = p1 at x0 hst; generalize hg2 : l[i + 1] = p2 at x1 y1 y2 hst; have Hst := Lib.hid hst; clear hst; have Hg1 := Lib.hid hg1; clear hg1; have Hg2 := Lib.hid hg2; clear hg2; clear hpc; have q1 : (i : Int) < (l.length : Int) := by omega
     have q2 : (i : Int) + 1 < (l.length : Int) := by omega
     have q3 : 0 ≤ (i : Int) + 1 := by omega
     have s1 : IntKind.i64.wrap ((i : Int) + 1) = (i : Int) + 1 := IntWalk.i64_in _ (by omega); have s2 : ((i : Int) + 1).toNat = i + 1 := by omega
     have s3 : IntKind.i64.wrap (p2 - 1) = p2 - 1 := IntWalk.i64_in _ (by omega)
     go_wp2_with fail
     go_quiet ((go_at_call 111; exact Calls.quiet_of_same ((between_any _ _ _ _).mono fun e w' h => ⟨h.1, h.2.symm⟩)))
     clear q1 q2 q3 s1 s2 s3
     cases hbt : btw p1 0 (p2 - 1)
     ·have Hbt := Lib.hid hbt; clear hbt
      go_wp2_with fail
      go_ret2
      have h3 : pairsErr l = 3 := by rw [← HEi.out, Hst.out, Hbt.out]; rfl
      exact .inr ⟨by rw [HE.out, h3]; decide, by rw [HE.out, h3]; rfl, below_drewN hb0r _⟩
     ·have Hbt := Lib.hid hbt; clear hbt
      go_wp2_with fail
      exact ⟨⟨i + 2, by omega, by go_num, by rw [← HEi.out, Hst.out, Hbt.out]; rfl, by have := Hpar.out; omega, below_drewN hbr _⟩, by simp [intOf]; omega⟩
    ·have h0 : pairsErr l = 0 := by rw [← HEi.out]; exact pairs_end hlt
     have H0 := Lib.hid h0; clear h0
     go_wp2_with fail
     go_ret2
     refine .inl ⟨by rw [HE.out, H0.out], _, rfl, ⟨by simp, by simp, by simp, by simp, by simp, by simp, ?_⟩, hb0r.size, fun k => by simp, ?_⟩
     ·exact hs.below (hb0r.trans (Below.alloc (Below.refl _ _) hb0r.size _))
     ·exact hb0r.trans (Below.alloc (Below.refl _ _) hb0r.size _)
  ·have He : readyErr ⟨r1, r2, rs⟩ ⟨f1, f2⟩ l = flockErr ⟨f1, f2⟩ := by simp [readyErr, Hck.out, hfk]
   have hne : (flockErr ⟨f1, f2⟩ != 0) = true := by simpa using hfk
   go_wp2_with fail
   go_ret2
   exact .inr ⟨by rw [He]; exact hfk, by rw [He]; rfl, hb02⟩
 ·have He : readyErr ⟨r1, r2, rs⟩ ⟨f1, f2⟩ l = checkR ⟨r1, r2, rs⟩ := by simp [readyErr, hck]
  have hne : (checkR ⟨r1, r2, rs⟩ != 0) = true := by simpa using hck
  go_wp2_with fail
  go_ret2
  exact .inr ⟨by rw [He]; exact hck, by rw [He]; rfl, hb01⟩
end
section
open Go.RowKit
theorem check_size {r : Roads} (h : checkR r = 0) : 1 ≤ r.days ∧ r.days ≤ 10 ∧ 1 ≤ r.stages ∧ r.stages ≤ 6 ∧ r.strips.length ≤ 8 := by
 unfold checkR at h
 by_cases c1 : (!(btw r.days 1 10) || !(btw r.stages 1 6)) = true
 ·rw [if_pos c1] at h; omega
 ·rw [if_neg c1] at h; simp [btw] at c1
  by_cases c2 : 8 < r.strips.length
  ·rw [if_pos c2] at h; omega
  ·omega
theorem ready_zero {r : Roads} {f : Flock} {l : List Int} (h : readyErr r f l = 0) : Good r f ∧ pairsErr l = 0 := by
 unfold readyErr at h
 by_cases c1 : (checkR r != 0) = true
 ·rw [if_pos c1] at h; simp [h] at c1
 ·rw [if_neg c1] at h
  by_cases c2 : (flockErr f != 0) = true
  ·rw [if_pos c2] at h; simp [h] at c2
  ·rw [if_neg c2] at h; exact ⟨good_iff.2 ⟨by simpa using c1, by simpa using c2⟩, h⟩
theorem pairs2 {a b : Int} : pairsErr [a, b] = 0 ↔ 0 ≤ a ∧ a < b := by
 rw [pairsErr]
 by_cases h : btw a 0 (b - 1) = true
 ·rw [if_pos h]; rw [btw_true] at h; simp [pairsErr]; omega
 ·rw [if_neg h]; rw [btw_true] at h; omega
end
section
open Go.RowKit
end
section
open Go.RowKit
end
section
open Go.RowKit
theorem ints_laid {w : World} {l : List Int} : IntsAt (w.alloc (.cells (l.map (Value.int .i64)).toArray 3)) (some ⟨w.heap.size, 0, none⟩) l := by
 refine .inr ⟨_, 0, rfl, fun i h => ?_⟩; rw [World.cell?_alloc_at _ _ _ _ (by simp)]; simp [h]
theorem oddL {r : Roads} (hc : checkR r = 0) {l : List Int} (hl : ∀ i (h : i < l.length), i % 2 = 1 → l[i] = r.stages ∨ l[i] = r.days ∨ l[i] = r.strips.length) : ∀ i (h : i < l.length), i % 2 = 1 → 0 ≤ l[i] ∧ l[i] ≤ 1000 := by
 have := check_size hc; intro i h hi; have := hl i h hi
 omega
def daysTo (r : Roads) (f : Flock) (i : Nat) : Nat → List Int
 | 0 => []
 | k + 1 => daysTo r f i k ++ (if openB r f (-1) i (k : Int) then [(k : Int)] else [])
theorem daysTo_le (r : Roads) (f : Flock) (i : Nat) : ∀ k, (daysTo r f i k).length ≤ k
 | 0 => Nat.le_refl _
 | k + 1 => by have := daysTo_le r f i k; simp only [daysTo, List.length_append]; split <;> simp <;> omega
def DaysPost (w : World) (r : Roads) (f : Flock) (strip : Int) (e : Ending) (w' : World) : Prop :=
 (readyErr r f [strip, r.strips.length] = 0 ∧ ∃ v, e = .returned (.tuple #[v, .int .i64 0]) ∧ OwnInts w' w.heap.size v (daysTo r f strip.toNat r.days.toNat) ∧ Below w.heap.size w w') ∨
 (readyErr r f [strip, r.strips.length] ≠ 0 ∧ e = .returned (.tuple #[.slice none 0 0, .int .i64 (readyErr r f [strip, r.strips.length])]) ∧ Below w.heap.size w w')
theorem Days_any (w : World) (r : Roads) (f : Flock) (a : Option Addr) (cap : Nat) (hs : StripsAt w a r.strips) (hm : r.strips.length ≤ maxLen) (strip : Int) :
  Calls Try.prog 94 #[.agg #[.int .i64 r.days, .int .i64 r.stages, .slice a r.strips.length cap], .agg #[.int .i64 f.heads, .int .i64 f.pace], .int .i64 strip] w (DaysPost w r f strip) := by
 have hb0 : Below w.heap.size w (((w.alloc (.cells #[.int .i64 r.days, .int .i64 r.stages, .slice a r.strips.length cap] 24)).alloc (.cells #[.int .i64 f.heads, .int .i64 f.pace] 87)).alloc (.cells #[.int .i64 strip, .int .i64 r.strips.length] 3)) :=
  (((Below.refl _ _).alloc (Nat.le_refl _) _).alloc (by simp) _).alloc (by simp; omega) _
 have hp : IntsAt (((w.alloc (.cells #[.int .i64 r.days, .int .i64 r.stages, .slice a r.strips.length cap] 24)).alloc (.cells #[.int .i64 f.heads, .int .i64 f.pace] 87)).alloc (.cells #[.int .i64 strip, .int .i64 r.strips.length] 3))
   (some ⟨w.heap.size + 1 + 1, 0, none⟩) [strip, r.strips.length] := by
  have := @ints_laid ((w.alloc (.cells #[.int .i64 r.days, .int .i64 r.stages, .slice a r.strips.length cap] 24)).alloc (.cells #[.int .i64 f.heads, .int .i64 f.pace] 87)) [strip, r.strips.length]
  simpa using this
 have HM := Lib.hid hm; clear hm
 have HO := Lib.hid (fun hc => @oddL r hc [strip, r.strips.length] (by
  intro i h hi; simp only [List.length_cons, List.length_nil] at h; obtain rfl : i = 1 := by omega
  exact .inr (.inr rfl)))
 go_enter Try.func94, Try.ntmps94
 go_wp2_with fail
 refine (ready_any _ r f [strip, r.strips.length] a cap _ 2 (hs.below hb0) HM.out hp (by simp) HO.out).mono ?_; rintro e w1 (⟨hz, b, rfl, hW, hbb, _, hb1⟩ | ⟨hz, rfl, hb1⟩)
 ·obtain ⟨g, hpz⟩ := ready_zero hz; obtain ⟨p1, p2⟩ := pairs2.1 hpz; obtain ⟨k, hk⟩ := Int.eq_ofNat_of_zero_le p1; have Hz := Lib.hid hz; clear hz hpz; subst hk; have hkl : k < r.strips.length := by omega
  have gd1 := g.d1; have gd2 := g.d2; have hb01 := hb0.trans (hb1.mono hb0.size); have HB1 := Lib.hid hb01; clear hb0 hb1 hp hs; have HW := Lib.hid hW; clear hW
  go_wp2_with fail
  go_loopw [10, 11] (fun v10 v11 wx => ∃ d : Nat, (d : Int) ≤ r.days ∧ v11 = .int .i64 (d : Int) ∧ OwnInts wx w1.heap.size v10 (daysTo r f k d) ∧ Below w1.heap.size w1 wx) (fun _ v _ => r.days.toNat - (intOf v).toNat)
  case atStart => exact ⟨0, by omega, rfl, OwnInts.nil _ _, Below.refl _ _⟩
  case round =>
   obtain ⟨d, hd, rfl, hown, hbr⟩ := hrel; have hle := daysTo_le r f k d; have hW' := HW.out.below hbr; have c0 := hW'.c0
   by_cases hlt : (d : Int) < r.days
   ·go_wp2_with fail
    refine (open_any wr b r f (-1) a cap hW' k hkl (d : Int)).mono ?_; rintro e w2 ⟨rfl, hb2⟩; have hbr2 := hbr.trans (hb2.mono hbr.size); have hown2 := hown.below hb2
    cases hT : openB r f (-1) k (d : Int)
    ·have he : daysTo r f k (d + 1) = daysTo r f k d := by simp [daysTo, hT]
     have HE := Lib.hid he; clear he hT
     go_wp2_with fail
     exact ⟨⟨d + 1, by omega, by go_num, by rw [HE.out]; exact hown2, hbr2⟩, by simp [intOf]; omega⟩
    ·have he : daysTo r f k (d + 1) = daysTo r f k d ++ [(d : Int)] := by simp [daysTo, hT]
     have HE := Lib.hid he; clear he hT
     go_wp2_with (at_builtin; refine app_int1 rfl _ _ rfl w1.heap.size _ _ rfl hown2 _ rfl (by omega) hbr2.size ?_)
     intro v' w' hown' hbel _
     go_wp2_with fail
     exact ⟨⟨d + 1, by omega, by go_num, by rw [HE.out]; exact hown', hbr2.trans hbel⟩, by simp [intOf]; omega⟩
   ·obtain rfl : d = r.days.toNat := by omega
    go_wp2_with fail
    go_ret2
    exact .inl ⟨Hz.out, _, rfl, hown.mono HB1.out.size, HB1.out.trans (hbr.mono HB1.out.size)⟩
 ·have hne : (readyErr r f [strip, r.strips.length] != 0) = true := by simpa using hz
  have Hz := Lib.hid hz; clear hz
  go_wp2_with fail
  go_ret2
  exact .inr ⟨Hz.out, rfl, hb0.trans (hb1.mono hb0.size)⟩
def daysV (r : Roads) (f : Flock) (strip : Int) : List Int × Int :=
 if readyErr r f [strip, r.strips.length] = 0 then (daysTo r f strip.toNat r.days.toNat, 0) else ([], readyErr r f [strip, r.strips.length])
theorem DaysPost.val {w w' : World} {r : Roads} {f : Flock} {strip : Int} {e : Ending} (h : DaysPost w r f strip e w') :
  ∃ ga gc, e = .returned (.tuple #[.slice ga (daysV r f strip).1.length gc, .int .i64 (daysV r f strip).2]) ∧ IntsAt w' ga (daysV r f strip).1 ∧ Below w.heap.size w w' := by
 obtain ⟨h1, v, rfl, hown, hb⟩ | ⟨h1, rfl, hb⟩ := h
 ·obtain ⟨ga, gc, rfl, hi, _⟩ := hown.ints; have e : daysV r f strip = (daysTo r f strip.toNat r.days.toNat, 0) := by rw [daysV, if_pos h1]
  rw [e]; exact ⟨ga, gc, rfl, hi, hb⟩
 ·have e : daysV r f strip = ([], readyErr r f [strip, r.strips.length]) := by rw [daysV, if_neg h1]
  rw [e]; exact ⟨none, 0, rfl, .inl rfl, hb⟩
end
section
open Go.RowKit
open Go.ChangeMaps (setBlock)
end
section
open Go.RowKit
def bd (f : Flock) (last d l : Int) : Int := (last + 1 - d) * f.pace - l
end
section
open Go.RowKit
end
section
open Go.RowKit
def Strip.cells (s : Strip) : List Value := [.int .i64 s.A, .int .i64 s.B, .int .i64 s.L, .int .i64 s.W, .int .i64 s.K, .int .i64 s.X, .int .i64 s.Y]
def OwnStrips (w : World) (B : Nat) (v : Value) (l : List Strip) : Prop := w.ownsRow B 96 7 v l.length (l.flatMap Strip.cells)
end
section
open Go.RowKit
def wide (s : Strip) : Strip := { s with W := max s.W 90 }
end
section
open Go.RowKit
structure HandAt (w : World) (hb B : Nat) (a : Option Addr) (n c : Nat) : Prop where
 c0 : w.cell? ⟨hb, 0, none⟩ = some (.slice a n c)
 c1 : ∃ k : Nat, k ≤ B ∧ w.cell? ⟨hb, 1, none⟩ = some (.int .i64 k)
 c2 : ∃ s : Int, 0 ≤ s ∧ s < 18446744073709551616 ∧ w.cell? ⟨hb, 2, none⟩ = some (.int .u64 s)
 f1 : w.frozen? ⟨hb, 1, none⟩ = false
 f2 : w.frozen? ⟨hb, 2, none⟩ = false
 nums : ∃ l : List Int, l.length = n ∧ IntsAt w a l ∧ (l = [] ∨ ∀ ad, a = some ad → ad.block < hb)
 len : n ≤ maxLen
theorem xor_range (a b : Int) : 0 ≤ bits .xor .u64 a b ∧ bits .xor .u64 a b < 18446744073709551616 := by
 show 0 ≤ IntKind.u64.wrap _ ∧ IntKind.u64.wrap _ < _; rw [IntKind.wrap_u64]; omega
theorem div_range {a : Int} (h : 0 ≤ a ∧ a < 18446744073709551616) : 0 ≤ a / 2048 ∧ a / 2048 ≤ 9007199254740991 := by omega
theorem wrap_range (a : Int) : 0 ≤ IntKind.u64.wrap a ∧ IntKind.u64.wrap a < 18446744073709551616 := by rw [IntKind.wrap_u64]; omega
theorem HandAt.nums_keep {w w' : World} {hb : Nat} {a : Option Addr} {n : Nat} (h : ∃ l : List Int, l.length = n ∧ IntsAt w a l ∧ (l = [] ∨ ∀ ad, a = some ad → ad.block < hb)) (hk : ∀ b, b < w.heap.size → b < hb → w'.heap[b]? = w.heap[b]?) :
  ∃ l : List Int, l.length = n ∧ IntsAt w' a l ∧ (l = [] ∨ ∀ ad, a = some ad → ad.block < hb) := by
 obtain ⟨l, h1, h2, h3⟩ := h; refine ⟨l, h1, ?_, h3⟩; rcases h3 with h3 | h3
 ·exact .inl h3
 rcases h2 with h2 | ⟨b, o, ha, hc⟩
 ·exact .inl h2
 ·have hlt := h3 _ ha; exact .inr ⟨b, o, ha, fun i hi => (World.cell?_of_block (hk b (lt_of_cell (hc i hi)) hlt)).trans (hc i hi)⟩
theorem HandAt.keep {w w' : World} {hb B : Nat} {a : Option Addr} {n c : Nat} (h : HandAt w hb B a n c) (hk : ∀ b, b < w.heap.size → b ≤ hb → w'.heap[b]? = w.heap[b]?) : HandAt w' hb B a n c := by
 obtain ⟨c0, ⟨k, hk1, c1⟩, ⟨s, s1, s2, c2⟩, f1, f2, hnums, hn⟩ := h; have e := hk hb (lt_of_cell c0) (Nat.le_refl _)
 exact ⟨(World.cell?_of_block e).trans c0, ⟨k, hk1, (World.cell?_of_block e).trans c1⟩, ⟨s, s1, s2, (World.cell?_of_block e).trans c2⟩, (World.frozen?_of_block e).trans f1, (World.frozen?_of_block e).trans f2,
  HandAt.nums_keep hnums fun b h1 h2 => hk b h1 (by omega), hn⟩
theorem HandAt.below {w w' : World} {hb B : Nat} {a : Option Addr} {n c : Nat} (h : HandAt w hb B a n c) (hb' : Below w.heap.size w w') : HandAt w' hb B a n c := h.keep fun b h1 _ => hb'.block b h1
theorem HandAt.more {w : World} {hb B B' : Nat} {a : Option Addr} {n c : Nat} (h : HandAt w hb B a n c) (hB : B ≤ B') : HandAt w hb B' a n c :=
 ⟨h.c0, let ⟨k, hk, c1⟩ := h.c1; ⟨k, by omega, c1⟩, h.c2, h.f1, h.f2, h.nums, h.len⟩
theorem HandAt.lt {w : World} {hb B : Nat} {a : Option Addr} {n c : Nat} (h : HandAt w hb B a n c) : hb < w.heap.size := lt_of_cell h.c0
def Dealt (w : World) (hb B : Nat) (a : Option Addr) (n c : Nat) (P : Value → Prop) (e : Ending) (w' : World) : Prop := ∃ v, P v ∧ e = .returned v ∧ HandAt w' hb B a n c ∧ Ext hb w w'
theorem hand_pulled {w : World} {hb B : Nat} {a : Option Addr} {n c k : Nat} (h : HandAt w hb B a n c) (hk : k ≤ B) (q : Nat) (s : Int) (h1 : 0 ≤ s) (h2 : s < 18446744073709551616) :
  HandAt (((w.drewN q).setCell ⟨hb, 1, none⟩ (.int .i64 ((k : Int) + 1))).setCell ⟨hb, 2, none⟩ (.int .u64 s)) hb (B + 1) a n c ∧ Ext hb w (((w.drewN q).setCell ⟨hb, 1, none⟩ (.int .i64 ((k : Int) + 1))).setCell ⟨hb, 2, none⟩ (.int .u64 s)) := by
 obtain ⟨c0, ⟨k', hk', c1⟩, ⟨s', _, _, c2⟩, f1, f2, hnums, hn⟩ := h
 have ho : ∀ b, b ≠ hb → (((w.drewN q).setCell ⟨hb, 1, none⟩ (.int .i64 ((k : Int) + 1))).setCell ⟨hb, 2, none⟩ (.int .u64 s)).heap[b]? = w.heap[b]? := fun b hne => by
  rw [Below.heap_setCell _ ⟨hb, 2, none⟩ _ b hne, Below.heap_setCell _ ⟨hb, 1, none⟩ _ b hne]; simp
 refine ⟨⟨?_, ⟨k + 1, by omega, ?_⟩, ⟨s, h1, h2, ?_⟩, ?_, ?_, HandAt.nums_keep hnums fun b _ hb' => ho b (by omega), hn⟩, ⟨(below_drewN (Below.refl 0 w) q).os, (below_drewN (Below.refl 0 w) q).tape, (below_drewN (Below.refl 0 w) q).output, by simp, fun b _ hne => ho b hne⟩⟩
 ·rw [World.cell?_setCell_other _ _ _ _ (by simp), World.cell?_setCell_other _ _ _ _ (by simp)]; simpa using c0
 ·rw [World.cell?_setCell_other _ _ _ _ (by simp)]; exact World.cell?_setCell_same _ _ _ (u := .int .i64 k') (by simpa using c1)
 ·exact World.cell?_setCell_same _ _ _ (u := .int .u64 s') (by rw [World.cell?_setCell_other _ _ _ _ (by simp)]; simpa using c2)
 ·rw [World.frozen?_setCell, World.frozen?_setCell]; simpa using f1
 ·rw [World.frozen?_setCell, World.frozen?_setCell]; simpa using f2
theorem pull_any (w : World) (hb B : Nat) (a : Option Addr) (n c : Nat) (h : HandAt w hb B a n c) (hB : B ≤ 1000000) :
  Calls Try.prog 62 #[.pointer (some ⟨hb, 0, none⟩)] w (Dealt w hb (B + 1) a n c fun v => ∃ x : Int, 0 ≤ x ∧ x ≤ 9007199254740991 ∧ v = .int .u64 x) := by
 have H := Lib.hid h; obtain ⟨c0, ⟨k, hk, c1⟩, ⟨s, s1, s2, c2⟩, f1, f2, hnums, hn⟩ := h; have HN := Lib.hid hnums; clear hnums; unfold maxLen at hn
 by_cases hlt : k < n
 ·obtain ⟨l, hl1, hl2, hl3⟩ := HN.out; have hlt' : decide ((k : Int) < (n : Int)) = true := decide_eq_true (by omega); have hkl : k < l.length := by omega
  rcases hl2 with hz | ⟨b, o, rfl, hc⟩
  ·rw [hz] at hkl; simp at hkl
  have hx := hc k hkl; generalize l[k] = x at hx; have q1 : (0 : Int) ≤ (k : Int) := by omega
  have q2 : (k : Int) < (n : Int) := by omega
  clear hl1 hl3 hkl hc
  go_enter Try.func62, Try.ntmps62
  go_wp2_with fail
  go_quiet (fail)
  go_wp2_with fail
  go_quiet (fail)
  go_wp2_with fail
  go_ret
  obtain ⟨h1, h2⟩ := hand_pulled H.out hk _ _ (wrap_range _).1 (wrap_range _).2; exact ⟨_, ⟨_, (div_range (xor_range _ _)).1, (div_range (xor_range _ _)).2, rfl⟩, rfl, h1, h2⟩
 ·have hlt' : decide ((k : Int) < (n : Int)) = false := decide_eq_false (by omega)
  go_enter Try.func62, Try.ntmps62
  go_wp2_with fail
  go_quiet (fail)
  go_wp2_with fail
  go_ret
  obtain ⟨h1, h2⟩ := hand_pulled H.out hk _ _ (wrap_range _).1 (wrap_range _).2; exact ⟨_, ⟨_, (div_range (xor_range _ _)).1, (div_range (xor_range _ _)).2, rfl⟩, rfl, h1, h2⟩
set_option maxHeartbeats 2000000 in
theorem Upto_any (w : World) (hb B : Nat) (a : Option Addr) (n c : Nat) (h : HandAt w hb B a n c) (hB : B ≤ 1000000) (most : Int) (hm1 : -1000000 ≤ most) (hm2 : most ≤ 1000000) :
  Calls Try.prog 21 #[.pointer (some ⟨hb, 0, none⟩), .int .i64 most] w (Dealt w hb (B + 1) a n c fun v => ∃ x : Int, 0 ≤ x ∧ x ≤ max most 0 ∧ v = .int .i64 x) := by
 have H := Lib.hid h; clear h
 by_cases hm : most ≤ 0
 ·go_enter Try.func21, Try.ntmps21
  go_wp2_with fail
  go_ret
  exact ⟨_, ⟨0, by omega, by omega, rfl⟩, rfl, H.out.more (by omega), Ext.refl _ _⟩
 ·go_enter Try.func21, Try.ntmps21
  go_wp2_with fail
  refine (pull_any w hb B a n c H.out hB).mono ?_; rintro e w1 ⟨_, ⟨x, x1, x2, rfl⟩, rfl, hh, hE⟩; have HH := Lib.hid hh; clear hh; have HE := Lib.hid hE; clear hE
  go_wp2_with fail
  go_ret
  have r1 : 0 ≤ x % (most + 1) := Int.emod_nonneg _ (by omega); have r2 : x % (most + 1) < most + 1 := Int.emod_lt_of_pos _ (by omega); exact ⟨_, ⟨wrap64 (x % (most + 1)), by unfold wrap64; omega, by unfold wrap64; omega, rfl⟩, rfl, HH.out, HE.out⟩
set_option maxHeartbeats 2000000 in
theorem Among_any (w : World) (hb B : Nat) (a : Option Addr) (n c : Nat) (h : HandAt w hb B a n c) (hB : B ≤ 1000000) (least most : Int) (h1 : -1000 ≤ least) (h2 : least ≤ 1000) (h3 : -1000 ≤ most) (h4 : most ≤ 1000) :
  Calls Try.prog 44 #[.pointer (some ⟨hb, 0, none⟩), .int .i64 least, .int .i64 most] w (Dealt w hb (B + 1) a n c fun v => ∃ x : Int, least ≤ x ∧ x ≤ max most least ∧ v = .int .i64 x) := by
 have H := Lib.hid h; clear h
 go_enter Try.func44, Try.ntmps44
 go_wp2_with fail
 refine (Upto_any w hb B a n c H.out hB (most - least) (by omega) (by omega)).mono ?_; rintro e w1 ⟨_, ⟨x, x1, x2, rfl⟩, rfl, hh, hE⟩; have HH := Lib.hid hh; clear hh; have HE := Lib.hid hE; clear hE; have x3 : x ≤ 2000 := by omega
 go_wp2_with fail
 go_ret
 exact ⟨_, ⟨least + x, by omega, by omega, rfl⟩, rfl, HH.out, HE.out⟩
set_option maxHeartbeats 2000000 in
theorem Of_any (w : World) (hb B : Nat) (a : Option Addr) (n c : Nat) (h : HandAt w hb B a n c) (hB : B ≤ 1000000) (first : Int) (oa : Option Addr) (oc : Nat) (l : List Int) (hl : IntsAt w oa l) (ho : ∀ ad, oa = some ad → ad.block ≠ hb) (hlen : l.length ≤ 100) :
  Calls Try.prog 60 #[.pointer (some ⟨hb, 0, none⟩), .int .i64 first, .slice oa l.length oc] w (Dealt w hb (B + 1) a n c fun v => ∃ x : Int, x ∈ first :: l ∧ v = .int .i64 x) := by
 have H := Lib.hid h; clear h; have HL := Lib.hid hl; clear hl; have HO := Lib.hid ho; clear ho
 go_enter Try.func60, Try.ntmps60
 go_wp2_with fail
 refine (Upto_any w hb B a n c H.out hB l.length (by omega) (by omega)).mono ?_; rintro e w1 ⟨_, ⟨x, x1, x2, rfl⟩, rfl, hh, hE⟩; have HH := Lib.hid hh; clear hh
 by_cases hx : 0 < x
 ·obtain ⟨k, hk⟩ : ∃ k : Nat, x = (k : Int) + 1 := ⟨(x - 1).toNat, by omega⟩; have hkl : k < l.length := by omega
  rcases HL.out with hz | ⟨b, o, hoa, hc⟩
  ·rw [hz] at hkl; simp at hkl
  have hck := hc k hkl; have hne := HO.out _ hoa; have hc1 := (World.cell?_of_block (hE.block b (lt_of_cell hck) hne)).trans hck; have hmem : l[k] ∈ first :: l := List.mem_cons_of_mem _ (List.getElem_mem hkl)
  generalize l[k] = y at hc1 hmem; have HM := Lib.hid hmem; clear hmem hck hc; have HE := Lib.hid hE; clear hE; subst hk hoa; have q1 : (k : Int) < (l.length : Int) := by omega
  go_wp2_with fail
  go_ret
  exact ⟨_, ⟨y, HM.out, rfl⟩, rfl, HH.out, HE.out⟩
 ·have HE := Lib.hid hE; clear hE
  go_wp2_with fail
  go_ret
  exact ⟨_, ⟨first, by simp, rfl⟩, rfl, HH.out, HE.out⟩
end
section
open Go.RowKit
def StripOK (D S : Int) (s : Strip) : Prop := 0 ≤ s.A ∧ s.A < S ∧ 0 ≤ s.B ∧ s.B < S ∧ s.A ≠ s.B ∧ 1 ≤ s.L ∧ s.L ≤ 9 ∧ 1 ≤ s.W ∧ s.W ≤ 99 ∧
  ((s.K = 1 ∧ s.X = 0 ∧ s.Y = 0) ∨ (s.K = 2 ∧ 0 ≤ s.X ∧ s.X ≤ s.Y ∧ s.Y < D) ∨ (s.K = 3 ∧ 0 ≤ s.X ∧ s.X ≤ 20 ∧ -5 ≤ s.Y ∧ s.Y ≤ 5) ∨ (s.K = 4 ∧ 1 ≤ s.X ∧ s.X ≤ 40 ∧ s.Y = 0))
end
end Go.Proofs.Ytgdobbcjkiapkaa
