/- The walk of RoadCuts. -/
import Derived.Test.YtjgkgnfhglhklaaAskIn
import Derived.Test.YtjgkgnfhglhklaaCutR
import Derived.Test.YtjgkgnfhglhklaaWayR

import Derived.Deep.CutBlock
import Derived.Deep.RegionHeld3
namespace Go.Proofs.Ytjgkgnfhglhklaa
set_option linter.unusedSimpArgs false
set_option linter.unusedVariables false
open Go.RowKit

theorem wayV_len (r : Roads) (f : Flock) (fr tt : Int) : (wayV r f fr tt).1.length ≤ maxLen := by
  unfold wayV
  split
  · split
    · simp
    · rename_i hne
      have h1 := (best_min (r := r) (L := wayAll r f fr.toNat tt) (chains_sorted _ _ _) hne).1
      have h2 : (bestL r (wayAll r f fr.toNat tt)).length ≤ 6 := by
        generalize bestL r (wayAll r f fr.toNat tt) = m at h1 ⊢
        unfold wayAll at h1
        exact (chains_in _ _ _ _ h1).1
      show (bestL r (wayAll r f fr.toNat tt)).length ≤ _
      unfold maxLen
      omega
  · simp
theorem SameInts_eqQ (w : World) (a b : Option Addr) (ca cb : Nat) (l : List Int) (hl : IntsAt w a l) (hm : IntsAt w b l) (hb : l.length ≤ maxLen) :
    Calls Try.prog 29 #[.slice a l.length ca, .slice b l.length cb] w fun e w' => e = .returned (.bool true) ∧ Below w.heap.size w w' :=
  (SameInts_any w a b ca cb l l hl hm hb hb).mono fun e w' h => by
    obtain ⟨rfl, n, rfl⟩ := h
    exact ⟨by simp, below_drewN (Below.refl _ _) n⟩

set_option maxRecDepth 100000 in
set_option maxHeartbeats 40000000 in
theorem CutsL_any (w : World) (rr : Roads) (ff : Flock) (a : Option Addr) (cap : Nat) (hs : StripsAt w a rr.strips) (hm : rr.strips.length ≤ maxLen) (hrc : rr.strips.length ≤ cap) (x1 x2 x3 : Int) (na : Option Addr) (nn nc : Nat) (nl : List Int) (hl : IntsAt w na nl) (hn : nl.length = nn) (hnm : nn ≤ maxLen) (hna : nl = [] ∨ ∀ ad, na = some ad → ad.block < w.heap.size) :
    Calls Try.prog 15 #[.agg #[.int .i64 rr.days, .int .i64 rr.stages, .slice a rr.strips.length cap], .agg #[.int .i64 ff.heads, .int .i64 ff.pace], .int .i64 x1, .int .i64 x2, .int .i64 x3, .slice na nn nc] w fun e w' => e = .returned (.bool true) ∧ Below w.heap.size w w' := by
  have hb0 : Below w.heap.size w ((w.alloc (.cells #[.int .i64 rr.days, .int .i64 rr.stages, .slice a rr.strips.length cap] 24)).alloc (.cells #[.int .i64 ff.heads, .int .i64 ff.pace] 26)) := ((Below.refl _ _).alloc (Nat.le_refl _) _).alloc (by simp) _
  have hz0 : ((w.alloc (.cells #[.int .i64 rr.days, .int .i64 rr.stages, .slice a rr.strips.length cap] 24)).alloc (.cells #[.int .i64 ff.heads, .int .i64 ff.pace] 26)).heap.size = w.heap.size + 2 := by simp
  have x0 : ((w.alloc (.cells #[.int .i64 rr.days, .int .i64 rr.stages, .slice a rr.strips.length cap] 24)).alloc (.cells #[.int .i64 ff.heads, .int .i64 ff.pace] 26)).cell? ⟨w.heap.size, 0, none⟩ = some (.int .i64 rr.days) := by simp [go_sem]
  have x1 : ((w.alloc (.cells #[.int .i64 rr.days, .int .i64 rr.stages, .slice a rr.strips.length cap] 24)).alloc (.cells #[.int .i64 ff.heads, .int .i64 ff.pace] 26)).cell? ⟨w.heap.size, 1, none⟩ = some (.int .i64 rr.stages) := by simp [go_sem]
  have x2 : ((w.alloc (.cells #[.int .i64 rr.days, .int .i64 rr.stages, .slice a rr.strips.length cap] 24)).alloc (.cells #[.int .i64 ff.heads, .int .i64 ff.pace] 26)).cell? ⟨w.heap.size, 2, none⟩ = some (.slice a rr.strips.length cap) := by simp [go_sem]
  have x3 : ((w.alloc (.cells #[.int .i64 rr.days, .int .i64 rr.stages, .slice a rr.strips.length cap] 24)).alloc (.cells #[.int .i64 ff.heads, .int .i64 ff.pace] 26)).cell? ⟨w.heap.size + 1, 0, none⟩ = some (.int .i64 ff.heads) := by simp [go_sem]
  have x4 : ((w.alloc (.cells #[.int .i64 rr.days, .int .i64 rr.stages, .slice a rr.strips.length cap] 24)).alloc (.cells #[.int .i64 ff.heads, .int .i64 ff.pace] 26)).cell? ⟨w.heap.size + 1, 1, none⟩ = some (.int .i64 ff.pace) := by simp [go_sem]
  have HST := Lib.hid (hs.below hb0); clear hs
  have HL := Lib.hid (hl.below hb0); clear hl
  have HA := Lib.hid (show nl = [] ∨ ∀ ad, na = some ad → ad.block < ((w.alloc (.cells #[.int .i64 rr.days, .int .i64 rr.stages, .slice a rr.strips.length cap] 24)).alloc (.cells #[.int .i64 ff.heads, .int .i64 ff.pace] 26)).heap.size from hna.imp id fun h ad e => by have := h ad e; omega); clear hna
  have HN := Lib.hid hn; clear hn
  have HM := Lib.hid hnm; clear hnm
  have HRC := Lib.hid hrc; clear hrc
  unfold maxLen at hm
  go_enter Try.func15, Try.ntmps15
  go_upto_region 1 with (fail)
  generalize ((w.alloc (.cells #[.int .i64 rr.days, .int .i64 rr.stages, .slice a rr.strips.length cap] 24)).alloc (.cells #[.int .i64 ff.heads, .int .i64 ff.pace] 26)) = W0 at hb0 hz0 x0 x1 x2 x3 x4 HST HL HA ⊢
  have HB0 := Lib.hid hb0; clear hb0 hz0
  by_cases h20 : 20 < rr.strips.length
  · have q1 : (20 : Int) < (rr.strips.length : Int) := by omega
    go_wp2_with fail
    refine (afoot_any W0).mono ?_
    rintro e w1 ⟨rfl, hb1⟩
    go_wp2_with fail
    go_ret
    exact ⟨rfl, HB0.out.trans (hb1.mono HB0.out.size)⟩
  · have q1 : ¬ (20 : Int) < (rr.strips.length : Int) := by omega
    have HLE := Lib.hid (show rr.strips.length ≤ 20 by omega)
    have hbd : Below W0.heap.size W0 W0.drew := (Below.refl _ _).drew
    obtain ⟨M, hM⟩ : ∃ M, rr.strips.length = M := ⟨_, rfl⟩
    rw [hM] at x2 q1 hm h20
    have HMM := Lib.hid hM; clear hM
    go_upto_region 3 with (fail)
    have HST2 := Lib.hid (HST.out.below hbd); clear HST
    have HL2 := Lib.hid (HL.out.below hbd); clear HL
    have HA2 := Lib.hid (show nl = [] ∨ ∀ ad, na = some ad → ad.block < W0.drew.heap.size from HA.out); clear HA
    have HBD := Lib.hid hbd
    have y0 : W0.drew.cell? ⟨w.heap.size, 0, none⟩ = _ := x0
    have y1 : W0.drew.cell? ⟨w.heap.size, 1, none⟩ = _ := x1
    have y2 : W0.drew.cell? ⟨w.heap.size, 2, none⟩ = _ := x2
    have y3 : W0.drew.cell? ⟨w.heap.size + 1, 0, none⟩ = _ := x3
    have y4 : W0.drew.cell? ⟨w.heap.size + 1, 1, none⟩ = _ := x4
    have z0 := show (W0.alloc (.cells #[.slice none 0 0, .slice none 0 0, .slice none 0 0, .slice none 0 0, .slice none 0 0, .slice none 0 0, .slice none 0 0] 32)).drew.cell? ⟨w.heap.size, 0, none⟩ = _ from alloc_keep x0
    have z1 := show (W0.alloc (.cells #[.slice none 0 0, .slice none 0 0, .slice none 0 0, .slice none 0 0, .slice none 0 0, .slice none 0 0, .slice none 0 0] 32)).drew.cell? ⟨w.heap.size, 1, none⟩ = _ from alloc_keep x1
    have z2 := show (W0.alloc (.cells #[.slice none 0 0, .slice none 0 0, .slice none 0 0, .slice none 0 0, .slice none 0 0, .slice none 0 0, .slice none 0 0] 32)).drew.cell? ⟨w.heap.size, 2, none⟩ = _ from alloc_keep x2
    have z3 := show (W0.alloc (.cells #[.slice none 0 0, .slice none 0 0, .slice none 0 0, .slice none 0 0, .slice none 0 0, .slice none 0 0, .slice none 0 0] 32)).drew.cell? ⟨w.heap.size + 1, 0, none⟩ = _ from alloc_keep x3
    have z4 := show (W0.alloc (.cells #[.slice none 0 0, .slice none 0 0, .slice none 0 0, .slice none 0 0, .slice none 0 0, .slice none 0 0, .slice none 0 0] 32)).drew.cell? ⟨w.heap.size + 1, 1, none⟩ = _ from alloc_keep x4
    clear hbd x0 x1 x2 x3 x4
    go_cut [13] (fun va wx => ∃ p gr gf g1 g2 g3 g4 g5 q, va = .pointer (some ⟨p, 0, none⟩) ∧ AsksIn wx p gr gf g1 g2 g3 g4 g5 q ∧ Below W0.heap.size W0 wx)
    case first =>
      as_aux_lemma =>
      go_region_held3 (fun w' => w'.cell? ⟨w.heap.size, 0, none⟩ = some (.int .i64 rr.days) ∧ w'.cell? ⟨w.heap.size, 1, none⟩ = some (.int .i64 rr.stages) ∧ w'.cell? ⟨w.heap.size, 2, none⟩ = some (.slice a M cap) ∧ w'.cell? ⟨w.heap.size + 1, 0, none⟩ = some (.int .i64 ff.heads) ∧ w'.cell? ⟨w.heap.size + 1, 1, none⟩ = some (.int .i64 ff.pace)) (first | with_reducible exact ⟨k30, k31, k32, k33, k34⟩ | with_reducible exact ⟨alloc_keep k20, alloc_keep k21, alloc_keep k22, alloc_keep k23, alloc_keep k24⟩ | with_reducible exact ⟨k20, k21, k22, k23, k24⟩ | with_reducible exact ⟨alloc_keep k10, alloc_keep k11, alloc_keep k12, alloc_keep k13, alloc_keep k14⟩ | with_reducible exact ⟨k10, k11, k12, k13, k14⟩ | with_reducible exact ⟨alloc_keep y0, alloc_keep y1, alloc_keep y2, alloc_keep y3, alloc_keep y4⟩ | with_reducible exact ⟨y0, y1, y2, y3, y4⟩ | with_reducible exact ⟨z0, z1, z2, z3, z4⟩) (first
        | (go_at_call 22; have hmd := made_any W0.drew w1 W0.heap.size na nn nc HB1.out (Nat.le_refl _) HH1.out rr ff a cap HST2.out HLE.out HRC.out x1 x2 x3 0 0; rw [HMM.out] at hmd; (with_reducible refine hmd.mono ?_); clear hmd; rintro e w2 ⟨gr, gf, g1, g2, g3, g4, g5, q, rfl, hask, hb2, hh2, hE2⟩; have HASK := Lib.hid hask; have HB2 := Lib.hid hb2; have hbk := hb2; have k20 := ((bcell hbk).1 _ _ (lt_of_cell y0)).trans y0; have k21 := ((bcell hbk).1 _ _ (lt_of_cell y1)).trans y1; have k22 := ((bcell hbk).1 _ _ (lt_of_cell y2)).trans y2; have k23 := ((bcell hbk).1 _ _ (lt_of_cell y3)).trans y3; have k24 := ((bcell hbk).1 _ _ (lt_of_cell y4)).trans y4; clear hask hb2 hh2 hE2 hbk)
        | (go_at_call 22; have hmd := made_any W0.drew (w1.alloc (.cells #[.slice none 0 0, .slice none 0 0, .slice none 0 0, .slice none 0 0, .slice none 0 0, .slice none 0 0, .slice none 0 0] 32)) W0.heap.size na nn nc (HB1.out.alloc HB1.out.size _) (Nat.le_refl _) (HH1.out.below ((Below.refl _ _).alloc (Nat.le_refl _) _)) rr ff a cap HST2.out HLE.out HRC.out x1 x2 x3 0 0; rw [HMM.out] at hmd; (with_reducible refine hmd.mono ?_); clear hmd; rintro e w2 ⟨gr, gf, g1, g2, g3, g4, g5, q, rfl, hask, hb2, hh2, hE2⟩; have hzz := (hE2.block w1.heap.size (by simp) (by have := HS1.out; omega)).trans (heap_alloc_new _ _); have HDONE := Lib.hid (AsksIn.stored hask (by show W0.heap.size ≤ _; have := HS1.out; omega) (by simp) hzz hb2); obtain ⟨⟨r0, r1, r2, r3, r4, r5, r6⟩, p0, p1, p2, p3, p4, p5, p6⟩ := zeros hzz; have hbk := hb2; have k20 := ((bcell hbk).1 _ _ (lt_of_cell y0)).trans y0; have k21 := ((bcell hbk).1 _ _ (lt_of_cell y1)).trans y1; have k22 := ((bcell hbk).1 _ _ (lt_of_cell y2)).trans y2; have k23 := ((bcell hbk).1 _ _ (lt_of_cell y3)).trans y3; have k24 := ((bcell hbk).1 _ _ (lt_of_cell y4)).trans y4; have k30 := set7_keep (gZ := w1.heap.size) (by have := lt_of_cell y0; have h3 : w.heap.size + 1 < W0.drew.heap.size := lt_of_cell y3; have h4 : W0.drew.heap.size = W0.heap.size := rfl; have := HS1.out; omega) gr gf g1 g2 g3 g4 g5 k20; have k31 := set7_keep (gZ := w1.heap.size) (by have := lt_of_cell y0; have h3 : w.heap.size + 1 < W0.drew.heap.size := lt_of_cell y3; have h4 : W0.drew.heap.size = W0.heap.size := rfl; have := HS1.out; omega) gr gf g1 g2 g3 g4 g5 k21; have k32 := set7_keep (gZ := w1.heap.size) (by have := lt_of_cell y0; have h3 : w.heap.size + 1 < W0.drew.heap.size := lt_of_cell y3; have h4 : W0.drew.heap.size = W0.heap.size := rfl; have := HS1.out; omega) gr gf g1 g2 g3 g4 g5 k22; have k33 := set7_keep (gZ := w1.heap.size) (by have := lt_of_cell y0; have h3 : w.heap.size + 1 < W0.drew.heap.size := lt_of_cell y3; have h4 : W0.drew.heap.size = W0.heap.size := rfl; have := HS1.out; omega) gr gf g1 g2 g3 g4 g5 k23; have k34 := set7_keep (gZ := w1.heap.size) (by have := lt_of_cell y0; have h3 : w.heap.size + 1 < W0.drew.heap.size := lt_of_cell y3; have h4 : W0.drew.heap.size = W0.heap.size := rfl; have := HS1.out; omega) gr gf g1 g2 g3 g4 g5 k24; clear hask hb2 hh2 hE2 hbk hzz)
        | (go_at_call 22; have hmd := made_any W0.drew w1 (W0.heap.size + 1) na nn nc (HBZ.out.trans (HB1.out.mono HBZ.out.size)) (Nat.le_succ _) HH1.out rr ff a cap HST2.out HLE.out HRC.out x1 x2 x3 0 0; rw [HMM.out] at hmd; (with_reducible refine hmd.mono ?_); clear hmd; rintro e w2 ⟨gr, gf, g1, g2, g3, g4, g5, q, rfl, hask, hb2, hh2, hE2⟩; have hzz := (hE2.block W0.heap.size (by have := HS1.out; omega) (by omega)).trans ((HB1.out.block W0.heap.size (by simp)).trans (heap_alloc_new W0.drew _)); have HDONE := Lib.hid (AsksIn.stored hask (Nat.le_refl _) (by show W0.heap.size < _; have := HS1.out; omega) hzz hb2); obtain ⟨⟨r0, r1, r2, r3, r4, r5, r6⟩, p0, p1, p2, p3, p4, p5, p6⟩ := zeros hzz; have hbk := hb2; have k20 := ((bcell hbk).1 _ _ (lt_of_cell y0)).trans y0; have k21 := ((bcell hbk).1 _ _ (lt_of_cell y1)).trans y1; have k22 := ((bcell hbk).1 _ _ (lt_of_cell y2)).trans y2; have k23 := ((bcell hbk).1 _ _ (lt_of_cell y3)).trans y3; have k24 := ((bcell hbk).1 _ _ (lt_of_cell y4)).trans y4; have k30 := set7_keep (gZ := W0.heap.size) (by have := lt_of_cell y0; have h3 : w.heap.size + 1 < W0.drew.heap.size := lt_of_cell y3; have h4 : W0.drew.heap.size = W0.heap.size := rfl; omega) gr gf g1 g2 g3 g4 g5 k20; have k31 := set7_keep (gZ := W0.heap.size) (by have := lt_of_cell y0; have h3 : w.heap.size + 1 < W0.drew.heap.size := lt_of_cell y3; have h4 : W0.drew.heap.size = W0.heap.size := rfl; omega) gr gf g1 g2 g3 g4 g5 k21; have k32 := set7_keep (gZ := W0.heap.size) (by have := lt_of_cell y0; have h3 : w.heap.size + 1 < W0.drew.heap.size := lt_of_cell y3; have h4 : W0.drew.heap.size = W0.heap.size := rfl; omega) gr gf g1 g2 g3 g4 g5 k22; have k33 := set7_keep (gZ := W0.heap.size) (by have := lt_of_cell y0; have h3 : w.heap.size + 1 < W0.drew.heap.size := lt_of_cell y3; have h4 : W0.drew.heap.size = W0.heap.size := rfl; omega) gr gf g1 g2 g3 g4 g5 k23; have k34 := set7_keep (gZ := W0.heap.size) (by have := lt_of_cell y0; have h3 : w.heap.size + 1 < W0.drew.heap.size := lt_of_cell y3; have h4 : W0.drew.heap.size = W0.heap.size := rfl; omega) gr gf g1 g2 g3 g4 g5 k24; clear hask hb2 hh2 hE2 hbk hzz)
        | (go_at_call 23; (with_reducible refine (NewHand_any W0.drew na nn nc nl HL2.out HN.out HM.out HA2.out).mono ?_); rintro e w1 ⟨rfl, hh1, hb1, hs1⟩; have HS1 := Lib.hid (show w1.heap.size = W0.heap.size + 1 from hs1); have HH1 := Lib.hid hh1; have HB1 := Lib.hid hb1; have hbk := hb1; have k10 := ((bcell hbk).1 _ _ (lt_of_cell y0)).trans y0; have k11 := ((bcell hbk).1 _ _ (lt_of_cell y1)).trans y1; have k12 := ((bcell hbk).1 _ _ (lt_of_cell y2)).trans y2; have k13 := ((bcell hbk).1 _ _ (lt_of_cell y3)).trans y3; have k14 := ((bcell hbk).1 _ _ (lt_of_cell y4)).trans y4; clear hh1 hb1 hs1 hbk)
        | (go_at_call 23; have hbz : Below W0.drew.heap.size W0.drew (W0.alloc (.cells #[.slice none 0 0, .slice none 0 0, .slice none 0 0, .slice none 0 0, .slice none 0 0, .slice none 0 0, .slice none 0 0] 32)).drew := ((Below.refl W0.drew.heap.size W0.drew).alloc (Nat.le_refl _) (.cells #[.slice none 0 0, .slice none 0 0, .slice none 0 0, .slice none 0 0, .slice none 0 0, .slice none 0 0, .slice none 0 0] 32)); (with_reducible refine (NewHand_any (W0.alloc (.cells #[.slice none 0 0, .slice none 0 0, .slice none 0 0, .slice none 0 0, .slice none 0 0, .slice none 0 0, .slice none 0 0] 32)).drew na nn nc nl (HL2.out.below hbz) HN.out HM.out (HA2.out.imp id fun h ad e => Nat.lt_of_lt_of_le (h ad e) hbz.size)).mono ?_); rintro e w1 ⟨rfl, hh1, hb1, hs1⟩; have hszz : (W0.alloc (.cells #[.slice none 0 0, .slice none 0 0, .slice none 0 0, .slice none 0 0, .slice none 0 0, .slice none 0 0, .slice none 0 0] 32)).drew.heap.size = W0.heap.size + 1 := (by simp); rw [hszz] at hh1; have HS1 := Lib.hid (show w1.heap.size = W0.heap.size + 1 + 1 by have h1 := hs1; have h2 := hszz; omega); have HH1 := Lib.hid hh1; have HBZ := Lib.hid hbz; have HB1 := Lib.hid hb1; have hbk := hbz.trans (hb1.mono hbz.size); have k10 := ((bcell hbk).1 _ _ (lt_of_cell y0)).trans y0; have k11 := ((bcell hbk).1 _ _ (lt_of_cell y1)).trans y1; have k12 := ((bcell hbk).1 _ _ (lt_of_cell y2)).trans y2; have k13 := ((bcell hbk).1 _ _ (lt_of_cell y3)).trans y3; have k14 := ((bcell hbk).1 _ _ (lt_of_cell y4)).trans y4; clear hh1 hb1 hs1 hbk hbz hszz))
      all_goals (go_wp2_with fail; go_meet; first | exact ⟨_, gr, gf, g1, g2, g3, g4, g5, q, rfl, HDONE.out.1, HBD.out.trans HDONE.out.2⟩ | exact ⟨_, gr, gf, g1, g2, g3, g4, g5, q, rfl, AsksIn.laid (HASK.out w2 fun _ _ _ => rfl), HBD.out.trans (HB2.out.alloc HB2.out.size _)⟩)
    case rest =>
      obtain ⟨p, gr, gf, g1, g2, g3, g4, g5, q, rfl, hask, hbw⟩ := hcut
      have HQ := Lib.hid hask; clear hask
      have HBW := Lib.hid hbw; clear hbw
      clear y0 y1 y2 y3 y4 z0 z1 z2 z3 z4 HST2 HL2 HA2 HBD HN HM HLE HMM q1 hm h20
      go_wp2_with fail
      go_loopw [14] (fun va wx => ∃ i : Nat, i ≤ 5 ∧ va = .int .i64 (i : Int) ∧ AsksIn wx p gr gf g1 g2 g3 g4 g5 q ∧ Below W0.heap.size W0 wx) (fun v _ => 5 - (intOf v).toNat)
      case atStart => exact ⟨0, by omega, rfl, HQ.out, HBW.out⟩
      case round =>
        obtain ⟨i, hi, rfl, hq, hb⟩ := hrel
        clear HQ HBW
        have HQ := Lib.hid hq
        have HB := Lib.hid hb; clear hb
        have ek0 := hq.k0
        by_cases hi5 : i < 5
        · obtain ⟨r, f, fr, tt, z, b, s, sa, sc, hai⟩ := hq.at hi5
          clear hq
          have er0 := hai.r0
          have er1 := hai.r1
          have er2 := hai.r2
          have HAI := Lib.hid hai; clear hai
          have q1 : (i : Int) < 5 := by omega
          have q0 : (0 : Int) ≤ (i : Int) := by omega
          have HCR := Lib.hid (CopyRoads_any wr r sa sc HAI.out.strips (by have := HAI.out.len; omega))
          go_wp2_with fail
          refine HCR.out.mono ?_
          clear HCR ek0 er0 er1 er2
          rintro e w1 ⟨g, c, rfl, hg, hin, hglt, hb1⟩
          have hA : Below wr.heap.size wr (w1.alloc (.cells #[.int .i64 r.days, .int .i64 r.stages, .slice (some ⟨g, 0, none⟩) r.strips.length c] 24)) := hb1.alloc hb1.size _
          have HO1 := Lib.hid (OwnIn.laid (c := c) hin)
          have HAI1 := Lib.hid (HAI.out.below hA); clear HAI
          have HT1 := Lib.hid hA
          clear hA hb1 hin hg hglt
          go_upto_region 8 with (fail)
          generalize (w1.alloc (.cells #[.int .i64 r.days, .int .i64 r.stages, .slice (some ⟨g, 0, none⟩) r.strips.length c] 24)) = W1 at HO1 HAI1 HT1 ⊢
          generalize w1.heap.size = po at HO1 ⊢
          have e0 := HO1.out.o0
          have e1 := HO1.out.o1
          have e2 := HO1.out.o2
          have e3 := HAI1.out.k1
          have e4 := HAI1.out.f0
          have e5 := HAI1.out.f1
          have e6 := HAI1.out.k2
          have e7 := HAI1.out.a1
          have e8 := HAI1.out.k4
          have e9 := HAI1.out.a3
          go_cut [16, 17] (fun v16 v17 wx => ∃ ga1 gc1, v16 = .slice ga1 (cutV r f fr z).1.length gc1 ∧ v17 = .int .i64 (cutV r f fr z).2 ∧ IntsAt wx ga1 (cutV r f fr z).1 ∧ Below W1.heap.size W1 wx)
          case first =>
            as_aux_lemma =>
              have HOX := Lib.hid (HO1.out.below (Below.refl W1.heap.size W1).drew)
              have HAX := Lib.hid (HAI1.out.below (Below.refl W1.heap.size W1).drew)
              have HBX := Lib.hid (Below.refl W1.heap.size W1).drew
              have HKX := Lib.hid (show ∀ b o v, W1.cell? ⟨b, o, none⟩ = some v → W1.drew.cell? ⟨b, o, none⟩ = some v from fun _ _ _ h => h)
              go_region_held3 (fun w' => w'.cell? ⟨po, 0, none⟩ = some (.int .i64 r.days) ∧ w'.cell? ⟨po, 1, none⟩ = some (.int .i64 r.stages) ∧ w'.cell? ⟨po, 2, none⟩ = some (.slice (some ⟨g, 0, none⟩) r.strips.length c) ∧ w'.cell? ⟨p, 1, none⟩ = some (.slice (some ⟨gf, 0, none⟩) 5 5) ∧ w'.cell? ⟨gf, i * 2, none⟩ = some (.int .i64 f.heads) ∧ w'.cell? ⟨gf, i * 2 + 1, none⟩ = some (.int .i64 f.pace) ∧ w'.cell? ⟨p, 2, none⟩ = some (.slice (some ⟨g1, 0, none⟩) 5 5) ∧ w'.cell? ⟨g1, i, none⟩ = some (.int .i64 fr) ∧ w'.cell? ⟨p, 4, none⟩ = some (.slice (some ⟨g3, 0, none⟩) 5 5) ∧ w'.cell? ⟨g3, i, none⟩ = some (.int .i64 z)) (first | with_reducible exact ⟨HKX.out _ _ _ e0, HKX.out _ _ _ e1, HKX.out _ _ _ e2, HKX.out _ _ _ e3, HKX.out _ _ _ e4, HKX.out _ _ _ e5, HKX.out _ _ _ e6, HKX.out _ _ _ e7, HKX.out _ _ _ e8, HKX.out _ _ _ e9⟩ | exact ⟨e0, e1, e2, e3, e4, e5, e6, e7, e8, e9⟩) (first
                | (go_at_call 53; (with_reducible refine (Cut_any _ r f (some ⟨g, 0, none⟩) c HOX.out.strips (by unfold maxLen; have := HAX.out.len; omega) fr z).mono ?_); rintro e w5 ⟨ga, gc, rfl, hi5, hb5⟩; have HI5 := Lib.hid hi5; clear hi5; have HKX := Lib.hid (fun b o v h => have h' := HKX.out b o v h; ((bcell hb5).1 _ _ (lt_of_cell h')).trans h'); have HBX := Lib.hid (HBX.out.trans (hb5.mono HBX.out.size)); have HOX := Lib.hid (HOX.out.below hb5); have HAX := Lib.hid (HAX.out.below hb5); clear hb5))
              all_goals (go_wp2_with fail; go_meet; exact ⟨ga, gc, rfl, rfl, HI5.out, HBX.out⟩)
          case rest =>
            obtain ⟨ga1, gc1, rfl, rfl, hL1, hbx⟩ := hcut
            have HO2 := Lib.hid (HO1.out.below hbx)
            have HAI2 := Lib.hid (HAI1.out.below hbx)
            have HT2 := Lib.hid (HT1.out.trans (hbx.mono HT1.out.size))
            have HL1_2 := Lib.hid hL1
            clear e0 e1 e2 e3 e4 e5 e6 e7 e8 e9 HO1 HAI1 HT1 hbx hL1
            have e0 := HAI2.out.k0
            have e1 := HAI2.out.r0
            have e2 := HAI2.out.r1
            have e3 := HAI2.out.r2
            have e4 := HAI2.out.k1
            have e5 := HAI2.out.f0
            have e6 := HAI2.out.f1
            have e7 := HAI2.out.k2
            have e8 := HAI2.out.a1
            have e9 := HAI2.out.k4
            have e10 := HAI2.out.a3
            go_upto_region 9 with (fail)
            go_cut [18, 19] (fun v18 v19 wx => ∃ ga2 gc2, v18 = .slice ga2 (cutV r f fr z).1.length gc2 ∧ v19 = .int .i64 (cutV r f fr z).2 ∧ IntsAt wx ga2 (cutV r f fr z).1 ∧ Below wc.heap.size wc wx)
            case first =>
              as_aux_lemma =>
                have HOX := Lib.hid (HO2.out.below (Below.refl wc.heap.size wc).drew)
                have HAX := Lib.hid (HAI2.out.below (Below.refl wc.heap.size wc).drew)
                have HL1X := Lib.hid (HL1_2.out.below (Below.refl wc.heap.size wc).drew)
                have HBX := Lib.hid (Below.refl wc.heap.size wc).drew
                have HKX := Lib.hid (show ∀ b o v, wc.cell? ⟨b, o, none⟩ = some v → wc.drew.cell? ⟨b, o, none⟩ = some v from fun _ _ _ h => h)
                go_region_held3 (fun w' => w'.cell? ⟨p, 0, none⟩ = some (.slice (some ⟨gr, 0, none⟩) 5 5) ∧ w'.cell? ⟨gr, i * 3, none⟩ = some (.int .i64 r.days) ∧ w'.cell? ⟨gr, i * 3 + 1, none⟩ = some (.int .i64 r.stages) ∧ w'.cell? ⟨gr, i * 3 + 2, none⟩ = some (.slice sa r.strips.length sc) ∧ w'.cell? ⟨p, 1, none⟩ = some (.slice (some ⟨gf, 0, none⟩) 5 5) ∧ w'.cell? ⟨gf, i * 2, none⟩ = some (.int .i64 f.heads) ∧ w'.cell? ⟨gf, i * 2 + 1, none⟩ = some (.int .i64 f.pace) ∧ w'.cell? ⟨p, 2, none⟩ = some (.slice (some ⟨g1, 0, none⟩) 5 5) ∧ w'.cell? ⟨g1, i, none⟩ = some (.int .i64 fr) ∧ w'.cell? ⟨p, 4, none⟩ = some (.slice (some ⟨g3, 0, none⟩) 5 5) ∧ w'.cell? ⟨g3, i, none⟩ = some (.int .i64 z)) (first | with_reducible exact ⟨HKX.out _ _ _ e0, HKX.out _ _ _ e1, HKX.out _ _ _ e2, HKX.out _ _ _ e3, HKX.out _ _ _ e4, HKX.out _ _ _ e5, HKX.out _ _ _ e6, HKX.out _ _ _ e7, HKX.out _ _ _ e8, HKX.out _ _ _ e9, HKX.out _ _ _ e10⟩ | exact ⟨e0, e1, e2, e3, e4, e5, e6, e7, e8, e9, e10⟩) (first
                  | (go_at_call 54; (with_reducible refine (refCut_any _ r f sa sc HAX.out.strips (by unfold maxLen; have := HAX.out.len; omega) fr z).mono ?_); rintro e w5 ⟨ga, gc, rfl, hi5, hb5⟩; have HI5 := Lib.hid hi5; clear hi5; have HKX := Lib.hid (fun b o v h => have h' := HKX.out b o v h; ((bcell hb5).1 _ _ (lt_of_cell h')).trans h'); have HBX := Lib.hid (HBX.out.trans (hb5.mono HBX.out.size)); have HOX := Lib.hid (HOX.out.below hb5); have HAX := Lib.hid (HAX.out.below hb5); have HL1X := Lib.hid (HL1X.out.below hb5); clear hb5))
                all_goals (go_wp2_with fail; go_meet; exact ⟨ga, gc, rfl, rfl, HI5.out, HBX.out⟩)
            case rest =>
              obtain ⟨ga2, gc2, rfl, rfl, hL2, hbx⟩ := hcut
              have HO3 := Lib.hid (HO2.out.below hbx)
              have HAI3 := Lib.hid (HAI2.out.below hbx)
              have HT3 := Lib.hid (HT2.out.trans (hbx.mono HT2.out.size))
              have HL1_3 := Lib.hid (HL1_2.out.below hbx)
              have HL2_3 := Lib.hid hL2
              clear e0 e1 e2 e3 e4 e5 e6 e7 e8 e9 e10 HO2 HAI2 HT2 hbx HL1_2 hL2
              have e0 := HO3.out.o0
              have e1 := HO3.out.o1
              have e2 := HO3.out.o2
              have e3 := HAI3.out.k1
              have e4 := HAI3.out.f0
              have e5 := HAI3.out.f1
              have e6 := HAI3.out.k2
              have e7 := HAI3.out.a1
              have e8 := HAI3.out.k3
              have e9 := HAI3.out.a2
              go_upto_region 10 with (fail)
              go_cut [20, 21, 22] (fun v20 v21 v22 wx => ∃ ga3 gc3, v20 = .slice ga3 (wayV r f fr tt).1.length gc3 ∧ v21 = .int .i64 (wayV r f fr tt).2.1 ∧ v22 = .int .i64 (wayV r f fr tt).2.2 ∧ IntsAt wx ga3 (wayV r f fr tt).1 ∧ Below wc.heap.size wc wx)
              case first =>
                as_aux_lemma =>
                  have HOX := Lib.hid (HO3.out.below (Below.refl wc.heap.size wc).drew)
                  have HAX := Lib.hid (HAI3.out.below (Below.refl wc.heap.size wc).drew)
                  have HL1X := Lib.hid (HL1_3.out.below (Below.refl wc.heap.size wc).drew)
                  have HL2X := Lib.hid (HL2_3.out.below (Below.refl wc.heap.size wc).drew)
                  have HBX := Lib.hid (Below.refl wc.heap.size wc).drew
                  have HKX := Lib.hid (show ∀ b o v, wc.cell? ⟨b, o, none⟩ = some v → wc.drew.cell? ⟨b, o, none⟩ = some v from fun _ _ _ h => h)
                  go_region_held3 (fun w' => w'.cell? ⟨po, 0, none⟩ = some (.int .i64 r.days) ∧ w'.cell? ⟨po, 1, none⟩ = some (.int .i64 r.stages) ∧ w'.cell? ⟨po, 2, none⟩ = some (.slice (some ⟨g, 0, none⟩) r.strips.length c) ∧ w'.cell? ⟨p, 1, none⟩ = some (.slice (some ⟨gf, 0, none⟩) 5 5) ∧ w'.cell? ⟨gf, i * 2, none⟩ = some (.int .i64 f.heads) ∧ w'.cell? ⟨gf, i * 2 + 1, none⟩ = some (.int .i64 f.pace) ∧ w'.cell? ⟨p, 2, none⟩ = some (.slice (some ⟨g1, 0, none⟩) 5 5) ∧ w'.cell? ⟨g1, i, none⟩ = some (.int .i64 fr) ∧ w'.cell? ⟨p, 3, none⟩ = some (.slice (some ⟨g2, 0, none⟩) 5 5) ∧ w'.cell? ⟨g2, i, none⟩ = some (.int .i64 tt)) (first | with_reducible exact ⟨HKX.out _ _ _ e0, HKX.out _ _ _ e1, HKX.out _ _ _ e2, HKX.out _ _ _ e3, HKX.out _ _ _ e4, HKX.out _ _ _ e5, HKX.out _ _ _ e6, HKX.out _ _ _ e7, HKX.out _ _ _ e8, HKX.out _ _ _ e9⟩ | exact ⟨e0, e1, e2, e3, e4, e5, e6, e7, e8, e9⟩) (first
                    | (go_at_call 50; (with_reducible refine (Way_any _ r f (some ⟨g, 0, none⟩) c HOX.out.strips (by unfold maxLen; have := HAX.out.len; omega) fr tt).mono ?_); rintro e w5 hP; obtain ⟨ga, gc, rfl, hi5, hb5⟩ := hP.val; have HI5 := Lib.hid hi5; clear hi5; have HKX := Lib.hid (fun b o v h => have h' := HKX.out b o v h; ((bcell hb5).1 _ _ (lt_of_cell h')).trans h'); have HBX := Lib.hid (HBX.out.trans (hb5.mono HBX.out.size)); have HOX := Lib.hid (HOX.out.below hb5); have HAX := Lib.hid (HAX.out.below hb5); have HL1X := Lib.hid (HL1X.out.below hb5); have HL2X := Lib.hid (HL2X.out.below hb5); clear hb5))
                  all_goals (go_wp2_with fail; go_meet; exact ⟨ga, gc, rfl, rfl, rfl, HI5.out, HBX.out⟩)
              case rest =>
                obtain ⟨ga3, gc3, rfl, rfl, rfl, hL3, hbx⟩ := hcut
                have HO4 := Lib.hid (HO3.out.below hbx)
                have HAI4 := Lib.hid (HAI3.out.below hbx)
                have HT4 := Lib.hid (HT3.out.trans (hbx.mono HT3.out.size))
                have HL1_4 := Lib.hid (HL1_3.out.below hbx)
                have HL2_4 := Lib.hid (HL2_3.out.below hbx)
                have HL3_4 := Lib.hid hL3
                clear e0 e1 e2 e3 e4 e5 e6 e7 e8 e9 HO3 HAI3 HT3 hbx HL1_3 HL2_3 hL3
                have e0 := HAI4.out.k0
                have e1 := HAI4.out.r0
                have e2 := HAI4.out.r1
                have e3 := HAI4.out.r2
                have e4 := HAI4.out.k1
                have e5 := HAI4.out.f0
                have e6 := HAI4.out.f1
                have e7 := HAI4.out.k2
                have e8 := HAI4.out.a1
                have e9 := HAI4.out.k3
                have e10 := HAI4.out.a2
                go_upto_region 11 with (fail)
                go_cut [23, 24, 25] (fun v23 v24 v25 wx => ∃ ga4 gc4, v23 = .slice ga4 (wayV r f fr tt).1.length gc4 ∧ v24 = .int .i64 (wayV r f fr tt).2.1 ∧ v25 = .int .i64 (wayV r f fr tt).2.2 ∧ IntsAt wx ga4 (wayV r f fr tt).1 ∧ Below wc.heap.size wc wx)
                case first =>
                  as_aux_lemma =>
                    have HOX := Lib.hid (HO4.out.below (Below.refl wc.heap.size wc).drew)
                    have HAX := Lib.hid (HAI4.out.below (Below.refl wc.heap.size wc).drew)
                    have HL1X := Lib.hid (HL1_4.out.below (Below.refl wc.heap.size wc).drew)
                    have HL2X := Lib.hid (HL2_4.out.below (Below.refl wc.heap.size wc).drew)
                    have HL3X := Lib.hid (HL3_4.out.below (Below.refl wc.heap.size wc).drew)
                    have HBX := Lib.hid (Below.refl wc.heap.size wc).drew
                    have HKX := Lib.hid (show ∀ b o v, wc.cell? ⟨b, o, none⟩ = some v → wc.drew.cell? ⟨b, o, none⟩ = some v from fun _ _ _ h => h)
                    go_region_held3 (fun w' => w'.cell? ⟨p, 0, none⟩ = some (.slice (some ⟨gr, 0, none⟩) 5 5) ∧ w'.cell? ⟨gr, i * 3, none⟩ = some (.int .i64 r.days) ∧ w'.cell? ⟨gr, i * 3 + 1, none⟩ = some (.int .i64 r.stages) ∧ w'.cell? ⟨gr, i * 3 + 2, none⟩ = some (.slice sa r.strips.length sc) ∧ w'.cell? ⟨p, 1, none⟩ = some (.slice (some ⟨gf, 0, none⟩) 5 5) ∧ w'.cell? ⟨gf, i * 2, none⟩ = some (.int .i64 f.heads) ∧ w'.cell? ⟨gf, i * 2 + 1, none⟩ = some (.int .i64 f.pace) ∧ w'.cell? ⟨p, 2, none⟩ = some (.slice (some ⟨g1, 0, none⟩) 5 5) ∧ w'.cell? ⟨g1, i, none⟩ = some (.int .i64 fr) ∧ w'.cell? ⟨p, 3, none⟩ = some (.slice (some ⟨g2, 0, none⟩) 5 5) ∧ w'.cell? ⟨g2, i, none⟩ = some (.int .i64 tt)) (first | with_reducible exact ⟨HKX.out _ _ _ e0, HKX.out _ _ _ e1, HKX.out _ _ _ e2, HKX.out _ _ _ e3, HKX.out _ _ _ e4, HKX.out _ _ _ e5, HKX.out _ _ _ e6, HKX.out _ _ _ e7, HKX.out _ _ _ e8, HKX.out _ _ _ e9, HKX.out _ _ _ e10⟩ | exact ⟨e0, e1, e2, e3, e4, e5, e6, e7, e8, e9, e10⟩) (first
                      | (go_at_call 55; (with_reducible refine (refWay_any _ r f sa sc HAX.out.strips (by unfold maxLen; have := HAX.out.len; omega) fr tt).mono ?_); rintro e w5 ⟨ga, gc, rfl, hi5, hb5⟩; have HI5 := Lib.hid hi5; clear hi5; have HKX := Lib.hid (fun b o v h => have h' := HKX.out b o v h; ((bcell hb5).1 _ _ (lt_of_cell h')).trans h'); have HBX := Lib.hid (HBX.out.trans (hb5.mono HBX.out.size)); have HOX := Lib.hid (HOX.out.below hb5); have HAX := Lib.hid (HAX.out.below hb5); have HL1X := Lib.hid (HL1X.out.below hb5); have HL2X := Lib.hid (HL2X.out.below hb5); have HL3X := Lib.hid (HL3X.out.below hb5); clear hb5))
                    all_goals (go_wp2_with fail; go_meet; exact ⟨ga, gc, rfl, rfl, rfl, HI5.out, HBX.out⟩)
                case rest =>
                  obtain ⟨ga4, gc4, rfl, rfl, rfl, hL4, hbx⟩ := hcut
                  have HO5 := Lib.hid (HO4.out.below hbx)
                  have HAI5 := Lib.hid (HAI4.out.below hbx)
                  have HT5 := Lib.hid (HT4.out.trans (hbx.mono HT4.out.size))
                  have HL1_5 := Lib.hid (HL1_4.out.below hbx)
                  have HL2_5 := Lib.hid (HL2_4.out.below hbx)
                  have HL3_5 := Lib.hid (HL3_4.out.below hbx)
                  have HL4_5 := Lib.hid hL4
                  clear e0 e1 e2 e3 e4 e5 e6 e7 e8 e9 e10 HO4 HAI4 HT4 hbx HL1_4 HL2_4 HL3_4 hL4
                  have e0 := HO5.out.o0
                  have e1 := HO5.out.o1
                  have e2 := HO5.out.o2
                  have e3 := HAI5.out.k0
                  have e4 := HAI5.out.r0
                  have e5 := HAI5.out.r1
                  have e6 := HAI5.out.r2
                  go_upto_region 12 with (fail)
                  go_cut [176] (fun v176 wx => v176 = .bool false ∧ Below wc.heap.size wc wx)
                  case first =>
                    as_aux_lemma =>
                      have HOX := Lib.hid (HO5.out.below (Below.refl wc.heap.size wc).drew)
                      have HAX := Lib.hid (HAI5.out.below (Below.refl wc.heap.size wc).drew)
                      have HL1X := Lib.hid (HL1_5.out.below (Below.refl wc.heap.size wc).drew)
                      have HL2X := Lib.hid (HL2_5.out.below (Below.refl wc.heap.size wc).drew)
                      have HL3X := Lib.hid (HL3_5.out.below (Below.refl wc.heap.size wc).drew)
                      have HL4X := Lib.hid (HL4_5.out.below (Below.refl wc.heap.size wc).drew)
                      have HBX := Lib.hid (Below.refl wc.heap.size wc).drew
                      have HKX := Lib.hid (show ∀ b o v, wc.cell? ⟨b, o, none⟩ = some v → wc.drew.cell? ⟨b, o, none⟩ = some v from fun _ _ _ h => h)
                      go_region_held3 (fun w' => w'.cell? ⟨po, 0, none⟩ = some (.int .i64 r.days) ∧ w'.cell? ⟨po, 1, none⟩ = some (.int .i64 r.stages) ∧ w'.cell? ⟨po, 2, none⟩ = some (.slice (some ⟨g, 0, none⟩) r.strips.length c) ∧ w'.cell? ⟨p, 0, none⟩ = some (.slice (some ⟨gr, 0, none⟩) 5 5) ∧ w'.cell? ⟨gr, i * 3, none⟩ = some (.int .i64 r.days) ∧ w'.cell? ⟨gr, i * 3 + 1, none⟩ = some (.int .i64 r.stages) ∧ w'.cell? ⟨gr, i * 3 + 2, none⟩ = some (.slice sa r.strips.length sc)) (first | with_reducible exact ⟨HKX.out _ _ _ e0, HKX.out _ _ _ e1, HKX.out _ _ _ e2, HKX.out _ _ _ e3, HKX.out _ _ _ e4, HKX.out _ _ _ e5, HKX.out _ _ _ e6⟩ | exact ⟨e0, e1, e2, e3, e4, e5, e6⟩) (first
                        | (go_at_call 29; (with_reducible refine (SameInts_eqQ _ ga1 ga2 gc1 gc2 (cutV r f fr z).1 HL1X.out HL2X.out (cutV_len r f fr z)).mono ?_); rintro e w5 ⟨rfl, hb5⟩; have HKX := Lib.hid (fun b o v h => have h' := HKX.out b o v h; ((bcell hb5).1 _ _ (lt_of_cell h')).trans h'); have HBX := Lib.hid (HBX.out.trans (hb5.mono HBX.out.size)); have HOX := Lib.hid (HOX.out.below hb5); have HAX := Lib.hid (HAX.out.below hb5); have HL1X := Lib.hid (HL1X.out.below hb5); have HL2X := Lib.hid (HL2X.out.below hb5); have HL3X := Lib.hid (HL3X.out.below hb5); have HL4X := Lib.hid (HL4X.out.below hb5); clear hb5)
                        | (go_at_call 29; (with_reducible refine (SameInts_eqQ _ ga3 ga4 gc3 gc4 (wayV r f fr tt).1 HL3X.out HL4X.out (wayV_len r f fr tt)).mono ?_); rintro e w5 ⟨rfl, hb5⟩; have HKX := Lib.hid (fun b o v h => have h' := HKX.out b o v h; ((bcell hb5).1 _ _ (lt_of_cell h')).trans h'); have HBX := Lib.hid (HBX.out.trans (hb5.mono HBX.out.size)); have HOX := Lib.hid (HOX.out.below hb5); have HAX := Lib.hid (HAX.out.below hb5); have HL1X := Lib.hid (HL1X.out.below hb5); have HL2X := Lib.hid (HL2X.out.below hb5); have HL3X := Lib.hid (HL3X.out.below hb5); have HL4X := Lib.hid (HL4X.out.below hb5); clear hb5)
                        | (go_at_call 31; (with_reducible refine (SameRoads_any _ r (some ⟨g, 0, none⟩) sa c sc HOX.out.strips HAX.out.strips (by unfold maxLen; have := HAX.out.len; omega)).mono ?_); rintro e w5 ⟨rfl, hb5⟩; have HKX := Lib.hid (fun b o v h => have h' := HKX.out b o v h; ((bcell hb5).1 _ _ (lt_of_cell h')).trans h'); have HBX := Lib.hid (HBX.out.trans (hb5.mono HBX.out.size)); have HOX := Lib.hid (HOX.out.below hb5); have HAX := Lib.hid (HAX.out.below hb5); have HL1X := Lib.hid (HL1X.out.below hb5); have HL2X := Lib.hid (HL2X.out.below hb5); have HL3X := Lib.hid (HL3X.out.below hb5); have HL4X := Lib.hid (HL4X.out.below hb5); clear hb5))
                      all_goals (go_wp2_with fail; go_meet; exact ⟨rfl, HBX.out⟩)
                  case rest =>
                    obtain ⟨rfl, hbx⟩ := hcut
                    have HO6 := Lib.hid (HO5.out.below hbx)
                    have HAI6 := Lib.hid (HAI5.out.below hbx)
                    have HT6 := Lib.hid (HT5.out.trans (hbx.mono HT5.out.size))
                    have HL1_6 := Lib.hid (HL1_5.out.below hbx)
                    have HL2_6 := Lib.hid (HL2_5.out.below hbx)
                    have HL3_6 := Lib.hid (HL3_5.out.below hbx)
                    have HL4_6 := Lib.hid (HL4_5.out.below hbx)
                    clear e0 e1 e2 e3 e4 e5 e6 HO5 HAI5 HT5 hbx HL1_5 HL2_5 HL3_5 HL4_5
                    go_wp2_with fail
                    exact ⟨⟨i + 1, by omega, by go_num, HQ.out.below HT6.out, HB.out.trans (HT6.out.mono HB.out.size)⟩, by simp [intOf]; omega⟩
        · obtain rfl : i = 5 := by omega
          clear hq
          go_wp2_with fail
          refine (afoot_any wr).mono ?_
          rintro e w1 ⟨rfl, hb1⟩
          go_wp2_with fail
          go_ret
          exact ⟨rfl, HB0.out.trans ((HB.out.trans (hb1.mono HB.out.size)).mono HB0.out.size)⟩
end Go.Proofs.Ytjgkgnfhglhklaa
