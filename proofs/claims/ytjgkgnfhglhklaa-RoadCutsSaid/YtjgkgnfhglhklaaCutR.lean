/- The contract of mestaref02.Cut: what road.Cut returns. -/
import Derived.Test.YtjgkgnfhglhklaaDays
import Derived.Deep.CutBlock
import Derived.Deep.RegionHeld3
import Derived.Test.YtjgkgnfhglhklaaReady
import Derived.Test.YtjgkgnfhglhklaaWGrid
import Derived.Test.YtjgkgnfhglhklaaNightP
import Derived.Test.YtjgkgnfhglhklaaPlanR
import Derived.Test.YtjgkgnfhglhklaaRefWhy
/- Strips that are never walked: what road.Cut returns. -/
namespace Go.Proofs.Ytjgkgnfhglhklaa
set_option linter.unusedSimpArgs false
set_option linter.unusedVariables false
open Go.RowKit

/-- Strip i is walked on a day that begins with the nights n. -/
def walkB (r : Roads) (f : Flock) (n : Nat) (d : Int) (i : Nat) : Bool := (spotsK r f (-1) n d 9).any fun p => (stepOk r f (-1) d p i).isSome
theorem walkB_iff {r : Roads} {f : Flock} (g : Good r f) {n : Nat} {d : Int} {i : Nat} : walkB r f n d i = true ↔ ∃ p, Spot r f (-1) n d p ∧ (stepOk r f (-1) d p i).isSome = true := by
  unfold walkB
  rw [List.any_eq_true]
  constructor
  · rintro ⟨p, hp, h⟩; exact ⟨p, (mem_spotsK g).1 hp, h⟩
  · rintro ⟨p, hp, h⟩; exact ⟨p, (mem_spotsK g).2 hp, h⟩
/-- Strip i is walked within k days. -/
def walkedTo (r : Roads) (f : Flock) (n : Nat) (day : Int) : Nat → Nat → Bool
  | 0, _ => false
  | k + 1, i => walkedTo r f n day k i || walkB r f (nightsTo r f (-1) n day k) (day + k) i
/-- The strips below i that are not walked. -/
def cutTo (W : Nat → Bool) : Nat → List Int
  | 0 => []
  | i + 1 => if W i then cutTo W i else cutTo W i ++ [(i : Int)]
theorem cutTo_le (W : Nat → Bool) : ∀ i, (cutTo W i).length ≤ i
  | 0 => Nat.le_refl _
  | i + 1 => by
    have := cutTo_le W i
    rw [cutTo]; split
    · omega
    · rw [List.length_append, List.length_singleton]; omega
theorem cutTo_congr {V W : Nat → Bool} : ∀ {i : Nat}, (∀ j, j < i → V j = W j) → cutTo V i = cutTo W i
  | 0, _ => rfl
  | i + 1, h => by rw [cutTo, cutTo, h i (by omega), cutTo_congr fun j hj => h j (by omega)]
/-- What Cut returns. -/
def cutV (r : Roads) (f : Flock) (fr day : Int) : List Int × Int :=
  if readyErr r f [fr, r.stages, day, r.days] = 0 then (cutTo (walkedTo r f (0 ||| 1 <<< fr.toNat) day (r.days - day).toNat) r.strips.length, 0)
  else ([], readyErr r f [fr, r.stages, day, r.days])
theorem cutV_len (r : Roads) (f : Flock) (fr day : Int) : (cutV r f fr day).1.length ≤ maxLen := by
  unfold cutV maxLen
  split
  · rename_i h
    have h1 := (ready_zero h).1.n8
    have := cutTo_le (walkedTo r f (0 ||| 1 <<< fr.toNat) day (r.days - day).toNat) r.strips.length
    show (cutTo _ _).length ≤ _
    omega
  · simp

/-- Strip i is walked behind one of some spots. -/
def hitB (r : Roads) (f : Flock) (d : Int) (S : List (Int × Int)) (seen : List Nat) (i : Nat) : Bool := seen.any fun j => match S[j]? with
  | some p => (stepOk r f (-1) d p i).isSome
  | none => false
theorem hitB_snoc {r : Roads} {f : Flock} {d : Int} {S : List (Int × Int)} {seen : List Nat} {j i : Nat} {p : Int × Int} (h : S[j]? = some p) : hitB r f d S (seen ++ [j]) i = (hitB r f d S seen i || (stepOk r f (-1) d p i).isSome) := by
  unfold hitB; rw [List.any_append]; simp [h]
theorem hitB_all {r : Roads} {f : Flock} (g : Good r f) {n : Nat} {d : Int} {S : List (Int × Int)} (hS : ∀ p, p ∈ S ↔ Spot r f (-1) n d p) {seen : List Nat} (hall : ∀ j, j < S.length → j ∈ seen) (i : Nat) : hitB r f d S seen i = walkB r f n d i := by
  rw [Bool.eq_iff_iff, walkB_iff g]
  unfold hitB
  rw [List.any_eq_true]
  constructor
  · rintro ⟨j, _, h⟩
    cases e : S[j]? with
    | none => rw [e] at h; simp at h
    | some p => rw [e] at h; exact ⟨p, (hS p).1 (List.mem_of_getElem? e), h⟩
  · rintro ⟨p, hp, h⟩
    obtain ⟨j, hj⟩ := List.mem_iff_getElem?.1 ((hS p).2 hp)
    exact ⟨j, hall j (List.getElem?_eq_some_iff.1 hj).1, by rw [hj]; exact h⟩
/-- Whether a strip is walked from a spot on, by the four questions. -/
theorem stepOk_is {r : Roads} {f : Flock} {d : Int} {p : Int × Int} {i : Nat} {s : Strip} (hs : r.strips[i]? = some s) : (stepOk r f (-1) d p i).isSome = ((endOf s p.1).2 && decide (p.2 + s.L ≤ f.pace) && openB r f (-1) i d) := by
  rw [Bool.eq_iff_iff, Option.isSome_iff_exists]
  simp only [Bool.and_eq_true, decide_eq_true_eq]
  constructor
  · rintro ⟨q, hq⟩
    obtain ⟨s', h1, h2, h3, h4, _⟩ := stepOk_some.1 hq
    rw [hs] at h1
    obtain rfl : s = s' := by simpa using h1
    exact ⟨⟨h2, h3⟩, h4⟩
  · rintro ⟨⟨h2, h3⟩, h4⟩
    exact ⟨_, stepOk_some.2 ⟨s, hs, h2, h3, h4, rfl⟩⟩
end Go.Proofs.Ytjgkgnfhglhklaa

/- The contract of road.Cut. -/
namespace Go.Proofs.Ytjgkgnfhglhklaa
set_option linter.unusedSimpArgs false
set_option linter.unusedVariables false
open Go.RowKit
open Go.ChangeMaps (setBlock)

theorem hit_no {A B : Nat → Bool} {j : Nat} (h : B j = false) (i : Nat) : (A i || (decide (i < j) && B i)) = (A i || (decide (i < j + 1) && B i)) := by
  by_cases e : i = j
  · subst e; simp [h]
  · by_cases c : i < j
    · simp [c, show i < j + 1 by omega]
    · simp [c, show ¬ i < j + 1 by omega]
theorem hit_yes {A B : Nat → Bool} {j : Nat} (h : B j = true) (i : Nat) : (if i = j then true else (A i || (decide (i < j) && B i))) = (A i || (decide (i < j + 1) && B i)) := by
  by_cases e : i = j
  · subst e; simp [h]
  · rw [if_neg e]
    by_cases c : i < j
    · simp [c, show i < j + 1 by omega]
    · simp [c, show ¬ i < j + 1 by omega]

set_option maxRecDepth 100000 in
set_option maxHeartbeats 16000000 in
theorem Cut_any (w : World) (r : Roads) (f : Flock) (a : Option Addr) (cap : Nat) (hs : StripsAt w a r.strips) (hm : r.strips.length ≤ maxLen) (fr day : Int) :
    Calls Try.prog 53 #[.agg #[.int .i64 r.days, .int .i64 r.stages, .slice a r.strips.length cap], .agg #[.int .i64 f.heads, .int .i64 f.pace], .int .i64 fr, .int .i64 day] w
      fun e w' => ∃ ga gc, e = .returned (.tuple #[.slice ga (cutV r f fr day).1.length gc, .int .i64 (cutV r f fr day).2]) ∧ IntsAt w' ga (cutV r f fr day).1 ∧ Below w.heap.size w w' := by
  have hb0 : Below w.heap.size w (((w.alloc (.cells #[.int .i64 r.days, .int .i64 r.stages, .slice a r.strips.length cap] 24)).alloc (.cells #[.int .i64 f.heads, .int .i64 f.pace] 26)).alloc (.cells #[.int .i64 fr, .int .i64 r.stages, .int .i64 day, .int .i64 r.days] 3)) :=
    (((Below.refl _ _).alloc (Nat.le_refl _) _).alloc (by simp) _).alloc (by simp; omega) _
  have hp : IntsAt (((w.alloc (.cells #[.int .i64 r.days, .int .i64 r.stages, .slice a r.strips.length cap] 24)).alloc (.cells #[.int .i64 f.heads, .int .i64 f.pace] 26)).alloc (.cells #[.int .i64 fr, .int .i64 r.stages, .int .i64 day, .int .i64 r.days] 3))
      (some ⟨w.heap.size + 1 + 1, 0, none⟩) [fr, r.stages, day, r.days] := by
    have := @ints_laid ((w.alloc (.cells #[.int .i64 r.days, .int .i64 r.stages, .slice a r.strips.length cap] 24)).alloc (.cells #[.int .i64 f.heads, .int .i64 f.pace] 26)) [fr, r.stages, day, r.days]
    simpa using this
  have HM := Lib.hid hm; clear hm
  have HO := Lib.hid (fun hc => @odd4 r hc fr day)
  have x0 : (((w.alloc (.cells #[.int .i64 r.days, .int .i64 r.stages, .slice a r.strips.length cap] 24)).alloc (.cells #[.int .i64 f.heads, .int .i64 f.pace] 26)).alloc (.cells #[.int .i64 fr, .int .i64 r.stages, .int .i64 day, .int .i64 r.days] 3)).cell? ⟨w.heap.size, 0, none⟩ = some (.int .i64 r.days) := by simp [go_sem]
  have x2 : (((w.alloc (.cells #[.int .i64 r.days, .int .i64 r.stages, .slice a r.strips.length cap] 24)).alloc (.cells #[.int .i64 f.heads, .int .i64 f.pace] 26)).alloc (.cells #[.int .i64 fr, .int .i64 r.stages, .int .i64 day, .int .i64 r.days] 3)).cell? ⟨w.heap.size, 2, none⟩ = some (.slice a r.strips.length cap) := by simp [go_sem]
  have x4 : (((w.alloc (.cells #[.int .i64 r.days, .int .i64 r.stages, .slice a r.strips.length cap] 24)).alloc (.cells #[.int .i64 f.heads, .int .i64 f.pace] 26)).alloc (.cells #[.int .i64 fr, .int .i64 r.stages, .int .i64 day, .int .i64 r.days] 3)).cell? ⟨w.heap.size + 1, 1, none⟩ = some (.int .i64 f.pace) := by simp [go_sem]
  have X0 := Lib.hid x0; clear x0
  have X2 := Lib.hid x2; clear x2
  have X4 := Lib.hid x4; clear x4
  go_enter Try.func53, Try.ntmps53
  go_wp2_with fail
  refine (ready_any _ r f [fr, r.stages, day, r.days] a cap _ 4 (hs.below hb0) HM.out hp (by simp) HO.out).mono ?_
  rintro e w1 (⟨hz, b, rfl, hW, hbb, _, hb1⟩ | ⟨hz, rfl, hb1⟩)
  · obtain ⟨g, hpz⟩ := ready_zero hz
    obtain ⟨⟨p1, p2⟩, p3, p4⟩ := pairs4.1 hpz
    have gs := g.s2
    have gd := g.d2
    have g8 := g.n8
    obtain ⟨x, hx⟩ := Int.eq_ofNat_of_zero_le p1
    obtain ⟨z, hz'⟩ := Int.eq_ofNat_of_zero_le p3
    have Hz := Lib.hid hz; clear hz hpz
    subst hx hz'
    have hb01 := hb0.trans (hb1.mono hb0.size)
    have hst : StripsAt w1 a r.strips := hs.below hb01
    have x0 := ((bcell hb1).1 _ _ (lt_of_cell X0.out)).trans X0.out
    have x2 := ((bcell hb1).1 _ _ (lt_of_cell X2.out)).trans X2.out
    have x4 := ((bcell hb1).1 _ _ (lt_of_cell X4.out)).trans X4.out
    have HB1 := Lib.hid hb01; clear hb0 hb1 hp hs hb01 hbb X0 X2 X4
    have HW := Lib.hid hW; clear hW
    have HST := Lib.hid hst; clear hst
    obtain ⟨N, hN⟩ : ∃ N, r.strips.length = N := ⟨_, rfl⟩
    rw [hN] at x2 g8
    have HN := Lib.hid hN; clear hN
    have hmk := run_make_row' (P := Try.prog) 70 4 (.bool false) 1 Try.underlying70 info_bool rfl .i64 .i64 N (by omega) (by omega)
    go_wp2_with fail
    clear hmk
    refine (with_any 0 x (by omega) (by omega) _).mono ?_
    rintro e w' ⟨rfl, rfl⟩
    have hof := one_shl_lt (s := x) (by omega)
    generalize hn0 : (0 ||| 1 <<< x) = n0 at hof
    have HN0 := Lib.hid hn0; clear hn0
    have hbr0 : BRow (w1.alloc (.cells (madeCells #[.bool false] N) 4)) w1.heap.size N (fun _ => false) := by unfold BRow; rw [heap_alloc_new, tab_made]
    have hbm : Below w1.heap.size w1 (w1.alloc (.cells (madeCells #[.bool false] N) 4)) := (Below.refl _ _).alloc (Nat.le_refl _) _
    have X0 := Lib.hid x0; clear x0
    have X2 := Lib.hid x2; clear x2
    have X4 := Lib.hid x4; clear x4
    go_wp2_with fail
    go_loopw [13, 14] (fun v13 v14 wx => ∃ k : Nat, (k : Int) ≤ r.days - (z : Int) ∧ v13 = .int .u16 (nightsTo r f (-1) n0 (z : Int) k) ∧ v14 = .int .i64 ((z + k : Nat) : Int) ∧ BRow wx w1.heap.size N (walkedTo r f n0 (z : Int) k) ∧ Below w1.heap.size w1 wx) (fun _ v _ => r.days.toNat - (intOf v).toNat)
    case atStart => exact ⟨0, by omega, rfl, by simp, hbr0, hbm⟩
    case round =>
      clear hbr0 hbm
      obtain ⟨k, hk, rfl, rfl, hbr, hbw⟩ := hrel
      have x0 := ((bcell hbw).1 _ _ (lt_of_cell X0.out)).trans X0.out
      have HBR := Lib.hid hbr; clear hbr
      have HBW := Lib.hid hbw; clear hbw
      by_cases hkz : ((z + k : Nat) : Int) < r.days
      · generalize hd : z + k = d at hkz ⊢
        have HDK := Lib.hid hd; clear hd
        have x2 := ((bcell HBW.out).1 _ _ (lt_of_cell X2.out)).trans X2.out
        have HW1 := Lib.hid (HW.out.below HBW.out)
        have hn64 : nightsTo r f (-1) n0 (z : Int) k < 65536 := by have := nightsTo_lt g (shut := -1) (day := (z : Int)) hof k; omega
        generalize hnk : nightsTo r f (-1) n0 (z : Int) k = nk at hn64 ⊢
        have HNK := Lib.hid hnk; clear hnk
        go_wp2_with fail
        refine (spots_any wr b r f (-1) a cap HW1.out g _ hn64 (d : Int)).mono ?_
        rintro e w2 ⟨m, S, rfl, hS, hnd, hm, hb2⟩
        have hrg := @run_range Try.prog 124 _ _ Try.underlying124 w2 m _ hm
        simp only [List.length_map] at hrg
        have HS := Lib.hid hS; clear hS
        have hml := hm.lt
        have hgl : w1.heap.size < w2.heap.size := by have := hb2.size; have := (Array.getElem?_eq_some_iff.1 HBR.out).1; omega
        have HBR2 := Lib.hid (HBR.out.below hb2); clear HBR
        have HBW2 := Lib.hid (HBW.out.trans (hb2.mono HBW.out.size)); clear HBW
        clear hb2 x0 x2 HW1
        have hmg : m ≠ w1.heap.size := fun e => by have h1 := HBR2.out; rw [← e] at h1; have h2 := hm; unfold MapIs at h2; unfold BRow at h1; rw [h2] at h1; simp at h1
        have HBA := Lib.hid (show Below w2.heap.size w2 (w2.alloc (.mapIter (some m) S.length #[] S.length)) from (Below.refl _ _).alloc (Nat.le_refl _) _)
        go_wp2_with fail
        go_loopg [] S.length (fun gk wx => ∃ seen : List Nat, seen.Nodup ∧ (∀ i ∈ seen, i < S.length) ∧ gk + seen.length = S.length ∧ MapIs wx m (S.map pairV) ∧ IterIs wx w2.heap.size m S.length seen ∧ BRow wx w1.heap.size N (fun i => walkedTo r f n0 (z : Int) k i || hitB r f (d : Int) S seen i) ∧ Below w1.heap.size w1 wx)
        case atStart => exact ⟨[], by simp, by simp, by simp, hm.below HBA.out hml, IterIs.made, (HBR2.out.below HBA.out).congr fun i _ => by simp [hitB], HBW2.out.trans (HBA.out.mono HBW2.out.size)⟩
        case round =>
          clear hrg HBR2 HBW2 HBA hm
          obtain ⟨seen, hsn, hsl, hgk, hm', hit, hbr, hbx⟩ := hrel
          have HG := Lib.hid hgk; clear hgk
          have HSL := Lib.hid hsl; clear hsl
          have HBR := Lib.hid hbr; clear hbr
          have HBX := Lib.hid hbx; clear hbx
          rcases run_next (P := Try.prog) 0 hm' (by simpa using hit) with ⟨hall, hrun⟩ | ⟨i, q, nd, hi, hni, hrun⟩
          · have HALL := Lib.hid hall; clear hall
            go_wp2_with fail
            refine (after_any wr b r f (-1) a cap (HW.out.below HBX.out) g _ hn64 (d : Int)).mono ?_
            rintro e w5 ⟨rfl, hb5⟩
            go_wp2_with fail
            have hdd : (z : Int) + (k : Int) = (d : Int) := by have := HDK.out; omega
            exact ⟨⟨k + 1, by omega, by rw [nightsTo, HNK.out, hdd], by have := HDK.out; rw [show z + (k + 1) = d + 1 by omega]; go_num, (HBR.out.below hb5).congr fun i _ => by
              rw [hitB_all g HS.out (by simpa using HALL.out), walkedTo, HNK.out, hdd], HBX.out.trans (hb5.mono HBX.out.size)⟩, by simp [intOf]; omega⟩
          · rw [List.getElem?_map] at hi
            obtain ⟨p, hp, rfl⟩ := Option.map_eq_some_iff.1 hi
            simp only [List.length_map] at hrun
            obtain ⟨u1, u2, u3, u4⟩ := ((HS.out p).1 (List.mem_of_getElem? hp)).range g
            clear hi
            have hm2 : MapIs (setBlock (wr.drewN nd) w2.heap.size (.mapIter (some m) S.length (seen ++ [i]).toArray S.length)) m (S.map pairV) := by
              unfold MapIs; rw [setBlock_other _ (by omega)]; exact hm'
            have hlt : w2.heap.size < wr.heap.size := hit.lt
            have hit2 : IterIs (setBlock (wr.drewN nd) w2.heap.size (.mapIter (some m) S.length (seen ++ [i]).toArray S.length)) w2.heap.size m S.length (seen ++ [i]) := by
              have h1 : w2.heap.size < (wr.drewN nd).heap.size := by simpa [World.drewN] using hlt
              show ((wr.drewN nd).heap.setIfInBounds _ _)[w2.heap.size]? = some _
              rw [Array.getElem?_setIfInBounds_self_of_lt h1]
            have hbr2 : BRow (setBlock (wr.drewN nd) w2.heap.size (.mapIter (some m) S.length (seen ++ [i]).toArray S.length)) w1.heap.size N (fun i => walkedTo r f n0 (z : Int) k i || hitB r f (d : Int) S seen i) := by
              unfold BRow; rw [setBlock_other _ (by omega)]; exact HBR.out
            have hent := run_entry (P := Try.prog) (q := pairV p) (i := i) hm2 (by simpa using hit2) (by simp [hp])
            have hbw : Below w1.heap.size w1 (setBlock (wr.drewN nd) w2.heap.size (.mapIter (some m) S.length (seen ++ [i]).toArray S.length)) := setBlock_below _ (below_drewN HBX.out nd) (by omega)
            generalize setBlock (wr.drewN nd) w2.heap.size (.mapIter (some m) S.length (seen ++ [i]).toArray S.length) = W at hrun hent hbw hit2 hm2 hbr2
            obtain ⟨p1, p2⟩ := p
            simp only [pairV, spotV] at hrun hent
            dsimp only at u1 u2 u3 u4
            clear hm' hit HBR HBX hlt
            go_upto_region 12 with (fail)
            have hba : Below W.heap.size W (W.alloc (.cells #[.int .i64 p1, .int .i64 p2] 127)) := (Below.refl _ _).alloc (Nat.le_refl _) _
            have s0 : (W.alloc (.cells #[.int .i64 p1, .int .i64 p2] 127)).cell? ⟨W.heap.size, 0, none⟩ = some (.int .i64 p1) := by simp [go_sem]
            have s1 : (W.alloc (.cells #[.int .i64 p1, .int .i64 p2] 127)).cell? ⟨W.heap.size, 1, none⟩ = some (.int .i64 p2) := by simp [go_sem]
            have hm3 := hm2.below hba hm2.lt
            have hit3 := hit2.below hba hit2.lt
            have hbr3 := hbr2.below hba
            have hbw3 := hbw.trans (hba.mono hbw.size)
            have hsp : w1.heap.size < W.heap.size := (Array.getElem?_eq_some_iff.1 hbr2).1
            clear hba hm2 hit2 hbr2 hbw hent hrun
            generalize W.alloc (.cells #[.int .i64 p1, .int .i64 p2] 127) = W3 at s0 s1 hm3 hit3 hbr3 hbw3 ⊢
            generalize W.heap.size = sp at s0 s1 hsp ⊢
            have x2 := ((bcell hbw3).1 _ _ (lt_of_cell X2.out)).trans X2.out
            have S0 := Lib.hid s0; clear s0
            have S1 := Lib.hid s1; clear s1
            have HM3 := Lib.hid hm3; clear hm3
            have HI3 := Lib.hid hit3; clear hit3
            have HBR3 := Lib.hid hbr3; clear hbr3
            have HBW3 := Lib.hid hbw3; clear hbw3
            go_wp2_with fail
            clear x2
            go_loopw [63] (fun v63 wx => ∃ j : Nat, j ≤ N ∧ v63 = .int .i64 (j : Int) ∧ BRow wx w1.heap.size N (fun i => (walkedTo r f n0 (z : Int) k i || hitB r f (d : Int) S seen i) || (decide (i < j) && (stepOk r f (-1) (d : Int) (p1, p2) i).isSome)) ∧
              MapIs wx m (S.map pairV) ∧ IterIs wx w2.heap.size m S.length (seen ++ [i]) ∧ wx.cell? ⟨sp, 0, none⟩ = some (.int .i64 p1) ∧ wx.cell? ⟨sp, 1, none⟩ = some (.int .i64 p2) ∧ Below w1.heap.size w1 wx) (fun v _ => N - (intOf v).toNat)
            case atStart => exact ⟨0, Nat.zero_le _, rfl, HBR3.out.congr fun i _ => by simp, HM3.out, HI3.out, S0.out, S1.out, HBW3.out⟩
            case round =>
              clear S0 S1 HM3 HI3 HBR3 HBW3
              obtain ⟨j, hj, rfl, hbr, hmp, hit, s0, s1, hbx⟩ := hrel
              have HBR := Lib.hid hbr; clear hbr
              have HMP := Lib.hid hmp; clear hmp
              have HIT := Lib.hid hit; clear hit
              have HBX := Lib.hid hbx; clear hbx
              by_cases hjN : j < N
              · have hjl : j < r.strips.length := by rw [HN.out]; exact hjN
                have hsk : r.strips[j]? = some r.strips[j] := List.getElem?_eq_getElem hjl
                have hEA := end_any wr b r f (-1) a cap (HW.out.below HBX.out) j hjl p1
                have hstj := (HST.out.below HBX.out)
                obtain ⟨_, _, _, _, _, hL1, hL2, _⟩ := g.strip _ (List.mem_of_getElem? hsk)
                rcases hstj with hst0 | ⟨sb, so, ha, hcs⟩
                · rw [hst0] at hjl; simp at hjl
                have hc2 := (hcs j hjl).c2
                clear hcs
                generalize r.strips[j] = s at hsk hEA hL1 hL2 hc2
                have HSK := Lib.hid hsk; clear hsk
                have HEA := Lib.hid hEA; clear hEA
                have HA := Lib.hid ha; clear ha
                go_wp2_with fail
                refine HEA.out.mono ?_
                clear HEA
                rintro e w5 ⟨rfl, hb5⟩
                have t0 := ((bcell hb5).1 _ _ (lt_of_cell s0)).trans s0
                have t1 := ((bcell hb5).1 _ _ (lt_of_cell s1)).trans s1
                have c2 := ((bcell hb5).1 _ _ (lt_of_cell hc2)).trans hc2
                have HBX5 := Lib.hid (HBX.out.trans (hb5.mono HBX.out.size)); clear HBX
                have HBR5 := Lib.hid (HBR.out.below hb5); clear HBR
                have HMP5 := Lib.hid (HMP.out.below hb5 HMP.out.lt); clear HMP
                have HIT5 := Lib.hid (HIT.out.below hb5 HIT.out.lt); clear HIT
                clear s0 s1 hc2 hb5
                cases hA : (endOf s p1).2
                · have HH := Lib.hid (show (stepOk r f (-1) (d : Int) (p1, p2) j).isSome = false by rw [stepOk_is HSK.out, hA]; rfl); clear hA
                  go_upto_region 16 with (fail)
                  go_quiet (fail)
                  go_wp2_with fail
                  have hbq := below_drewN (Below.refl w5.heap.size w5) nq
                  exact ⟨⟨j + 1, by omega, by go_num, (HBR5.out.below hbq).congr (fun i _ => hit_no (A := fun i => walkedTo r f n0 (z : Int) k i || hitB r f (d : Int) S seen i) (B := fun i => (stepOk r f (-1) (d : Int) (p1, p2) i).isSome) HH.out i), HMP5.out.below hbq HMP5.out.lt, HIT5.out.below hbq HIT5.out.lt, ((bcell hbq).1 _ _ (lt_of_cell t0)).trans t0, ((bcell hbq).1 _ _ (lt_of_cell t1)).trans t1, HBX5.out.trans (hbq.mono HBX5.out.size)⟩, by simp [intOf]; omega⟩
                · have x2 := ((bcell HBX5.out).1 _ _ (lt_of_cell X2.out)).trans X2.out
                  have x4 := ((bcell HBX5.out).1 _ _ (lt_of_cell X4.out)).trans X4.out
                  rw [HA.out] at x2
                  have hq : IntKind.i64.wrap (p2 + s.L) = p2 + s.L := IntWalk.i64_in _ (by have := g.p2; omega)
                  by_cases hP : p2 + s.L ≤ f.pace
                  · have HE := Lib.hid (show (stepOk r f (-1) (d : Int) (p1, p2) j).isSome = openB r f (-1) j (d : Int) by rw [stepOk_is HSK.out, hA, decide_eq_true hP]; rfl); clear hA
                    go_upto_region 16 with (fail)
                    go_cut [94] (fun v94 wx => v94 = .bool (openB r f (-1) j (d : Int)) ∧ Below w5.heap.size w5 wx)
                    case first =>
                      have hP' : decide (p2 + s.L ≤ f.pace) = true := decide_eq_true hP
                      have HW5 := Lib.hid (HW.out.below (HBX5.out.trans ((Below.refl w5.heap.size w5).drew.mono HBX5.out.size)))
                      go_region_held3 (fun w' => w'.cell? ⟨sp, 1, none⟩ = some (.int .i64 p2) ∧ w'.cell? ⟨w.heap.size, 2, none⟩ = some (.slice (some ⟨sb, so, none⟩) N cap) ∧ w'.cell? ⟨sb, so + j * 7 + 2, none⟩ = some (.int .i64 s.L) ∧ w'.cell? ⟨w.heap.size + 1, 1, none⟩ = some (.int .i64 f.pace)) (first | with_reducible exact ⟨t1, x2, c2, x4⟩ | exact ⟨t1, x2, c2, x4⟩ | exact ⟨n1, n2, n3, n4⟩) (first
                        | (go_at_call 91; (with_reducible refine (open_any w5.drew b r f (-1) a cap HW5.out j hjl (d : Int)).mono ?_); rintro e w6 ⟨rfl, hb6⟩; have HB6 := Lib.hid hb6; have n1 := ((bcell hb6).1 _ _ (lt_of_cell t1)).trans t1; have n2 := ((bcell hb6).1 _ _ (lt_of_cell x2)).trans x2; have n3 := ((bcell hb6).1 _ _ (lt_of_cell c2)).trans c2; have n4 := ((bcell hb6).1 _ _ (lt_of_cell x4)).trans x4; clear hb6))
                      all_goals (go_wp2_with fail; go_meet; exact ⟨rfl, (Below.refl _ _).drew.trans HB6.out⟩)
                    case rest =>
                      obtain ⟨rfl, hb6⟩ := hcut
                      have t0' := ((bcell hb6).1 _ _ (lt_of_cell t0)).trans t0
                      have t1' := ((bcell hb6).1 _ _ (lt_of_cell t1)).trans t1
                      have HBX6 := Lib.hid (HBX5.out.trans (hb6.mono HBX5.out.size)); clear HBX5
                      have HBR6 := Lib.hid (HBR5.out.below hb6); clear HBR5
                      have HMP6 := Lib.hid (HMP5.out.below hb6 HMP5.out.lt); clear HMP5
                      have HIT6 := Lib.hid (HIT5.out.below hb6 HIT5.out.lt); clear HIT5
                      clear t0 t1 x2 x4 c2 hb6 hq
                      cases hO : openB r f (-1) j (d : Int)
                      · have HH := Lib.hid (HE.out.trans hO); clear hO
                        go_wp2_with fail
                        exact ⟨⟨j + 1, by omega, by go_num, HBR6.out.congr (fun i _ => hit_no (A := fun i => walkedTo r f n0 (z : Int) k i || hitB r f (d : Int) S seen i) (B := fun i => (stepOk r f (-1) (d : Int) (p1, p2) i).isSome) HH.out i), HMP6.out, HIT6.out, t0', t1', HBX6.out⟩, by simp [intOf]; omega⟩
                      · have HH := Lib.hid (HE.out.trans hO); clear hO
                        have m0 := HBR6.out.cell hjN
                        have m1 := HBR6.out.free j
                        go_wp2_with fail
                        exact ⟨⟨j + 1, by omega, by go_num, (HBR6.out.set j true).congr (fun i _ => hit_yes (A := fun i => walkedTo r f n0 (z : Int) k i || hitB r f (d : Int) S seen i) (B := fun i => (stepOk r f (-1) (d : Int) (p1, p2) i).isSome) HH.out i), (Below.heap_setCell _ ⟨w1.heap.size, j, none⟩ _ m hmg).trans HMP6.out, (Below.heap_setCell _ ⟨w1.heap.size, j, none⟩ _ w2.heap.size (Nat.ne_of_gt hgl)).trans HIT6.out,
                          by rw [World.cell?_setCell_other _ _ _ _ (by intro e; injection e with e1; omega)]; exact t0', by rw [World.cell?_setCell_other _ _ _ _ (by intro e; injection e with e1; omega)]; exact t1', HBX6.out.setCell (p := ⟨w1.heap.size, j, none⟩) (Nat.le_refl _) _⟩, by simp [intOf]; omega⟩
                  · have HH := Lib.hid (show (stepOk r f (-1) (d : Int) (p1, p2) j).isSome = false by rw [stepOk_is HSK.out, hA, decide_eq_false hP]; rfl); clear hA
                    have hP' : decide (p2 + s.L ≤ f.pace) = false := decide_eq_false hP
                    go_upto_region 16 with (fail)
                    go_quiet (fail)
                    go_wp2_with fail
                    have hbq := below_drewN (Below.refl w5.heap.size w5) nq
                    exact ⟨⟨j + 1, by omega, by go_num, (HBR5.out.below hbq).congr (fun i _ => hit_no (A := fun i => walkedTo r f n0 (z : Int) k i || hitB r f (d : Int) S seen i) (B := fun i => (stepOk r f (-1) (d : Int) (p1, p2) i).isSome) HH.out i), HMP5.out.below hbq HMP5.out.lt, HIT5.out.below hbq HIT5.out.lt, ((bcell hbq).1 _ _ (lt_of_cell t0)).trans t0, ((bcell hbq).1 _ _ (lt_of_cell t1)).trans t1, HBX5.out.trans (hbq.mono HBX5.out.size)⟩, by simp [intOf]; omega⟩
              · obtain rfl : j = N := by omega
                go_wp2_with fail
                have hlen := nodup_lt_length S.length (seen ++ [i]) (List.nodup_append.2 ⟨hsn, by simp, fun a ha b hb e => by simp at hb; subst hb; exact hni (e ▸ ha)⟩)
                  (fun x hx => by rcases List.mem_append.1 hx with hx | hx
                                  · exact HSL.out x hx
                                  · have := (List.getElem?_eq_some_iff.1 hp).1; simp at hx; omega)
                simp only [List.length_append, List.length_cons, List.length_nil] at hlen
                have hg' := HG.out
                go_roundg (gk - 1)
                case measure => omega
                case rel =>
                  exact ⟨seen ++ [i], List.nodup_append.2 ⟨hsn, by simp, fun a ha b hb e => by simp at hb; subst hb; exact hni (e ▸ ha)⟩, fun x hx => by
                    rcases List.mem_append.1 hx with hx | hx
                    · exact HSL.out x hx
                    · have := (List.getElem?_eq_some_iff.1 hp).1; simp at hx; omega, by simp; omega, HMP.out, HIT.out, HBR.out.congr fun i' hi' => by
                    rw [hitB_snoc hp]; simp [hi', Bool.or_assoc], HBX.out⟩
      · have hkk : k = (r.days - (z : Int)).toNat := by omega
        obtain ⟨B, hB⟩ : ∃ B, wr.heap.size = B := ⟨_, rfl⟩
        have hgB : w1.heap.size < B := by have := (Array.getElem?_eq_some_iff.1 HBR.out).1; omega
        have HBB := Lib.hid (show B ≤ wr.heap.size by omega); clear hB
        have HKK := Lib.hid hkk; clear hkk
        go_wp2_with fail
        go_loopw [19, 105] (fun v19 v105 wx => ∃ j : Nat, j ≤ N ∧ v105 = .int .i64 (j : Int) ∧ OwnInts wx B v19 (cutTo (walkedTo r f n0 (z : Int) k) j) ∧ BRow wx w1.heap.size N (walkedTo r f n0 (z : Int) k) ∧ Below w1.heap.size w1 wx ∧ B ≤ wx.heap.size) (fun _ v _ => N - (intOf v).toNat)
        case atStart => exact ⟨0, Nat.zero_le _, rfl, OwnInts.nil _ _, HBR.out, HBW.out, HBB.out⟩
        case round =>
          clear HBR HBW x0
          obtain ⟨j, hj, rfl, hown, hbr, hbw, hBz⟩ := hrel
          have hle := cutTo_le (walkedTo r f n0 (z : Int) k) j
          have HOW := Lib.hid hown; clear hown
          have HBW := Lib.hid hbw; clear hbw
          by_cases hjN : j < N
          · have m0 := hbr.cell hjN
            have HBR := Lib.hid hbr; clear hbr
            cases hV : walkedTo r f n0 (z : Int) k j
            · have HE := Lib.hid (show cutTo (walkedTo r f n0 (z : Int) k) (j + 1) = cutTo (walkedTo r f n0 (z : Int) k) j ++ [(j : Int)] by rw [cutTo, hV]; rfl)
              rw [hV] at m0
              clear hV
              go_wp2_with (at_builtin; refine app_int1 rfl _ _ rfl B _ _ rfl HOW.out _ rfl (by omega) hBz ?_)
              intro v' w' hown' hbel _
              go_wp2_with fail
              exact ⟨⟨j + 1, by omega, by go_num, by rw [HE.out]; exact hown', (hbel.block _ hgB).trans HBR.out, HBW.out.trans (hbel.mono (by omega)), by have := hbel.size; omega⟩, by simp [intOf]; omega⟩
            · have HE := Lib.hid (show cutTo (walkedTo r f n0 (z : Int) k) (j + 1) = cutTo (walkedTo r f n0 (z : Int) k) j by rw [cutTo, hV]; rfl)
              rw [hV] at m0
              clear hV
              go_wp2_with fail
              exact ⟨⟨j + 1, by omega, by go_num, by rw [HE.out]; exact HOW.out, HBR.out, HBW.out, hBz⟩, by simp [intOf]; omega⟩
          · obtain rfl : j = N := by omega
            clear hbr
            go_wp2_with fail
            go_ret2
            obtain ⟨ga, gc, rfl, hi, _⟩ := HOW.out.ints
            have e : cutV r f (x : Int) (z : Int) = (cutTo (walkedTo r f n0 (z : Int) k) j, 0) := by
              rw [cutV, if_pos Hz.out, HN.out, HKK.out, show ((x : Int)).toNat = x from rfl, HN0.out]
            rw [e]
            exact ⟨ga, gc, rfl, hi, HB1.out.trans (HBW.out.mono HB1.out.size)⟩
  · have hne : (readyErr r f [fr, r.stages, day, r.days] != 0) = true := by simpa using hz
    have Hz := Lib.hid hz; clear hz
    go_wp2_with fail
    go_ret2
    have e : cutV r f fr day = ([], readyErr r f [fr, r.stages, day, r.days]) := by rw [cutV, if_neg Hz.out]
    rw [e]
    exact ⟨none, 0, rfl, .inl rfl, hb0.trans (hb1.mono hb0.size)⟩
end Go.Proofs.Ytjgkgnfhglhklaa
/- What mestaref02.Cut sees: plain laws; grids of walks stay where a row of bools is written. -/
namespace Go.Proofs.Ytjgkgnfhglhklaa
set_option linter.unusedSimpArgs false
set_option linter.unusedVariables false
open Go.RowKit

def anyTo (b : Nat → Bool) : Nat → Bool
  | 0 => false
  | k + 1 => anyTo b k || b k
theorem anyTo_iff {b : Nat → Bool} : ∀ {k : Nat}, anyTo b k = true ↔ ∃ j, j < k ∧ b j = true
  | 0 => by simp [anyTo]
  | k + 1 => by
    rw [anyTo, Bool.or_eq_true, anyTo_iff]
    constructor
    · rintro (⟨j, h1, h2⟩ | h)
      · exact ⟨j, by omega, h2⟩
      · exact ⟨k, by omega, h⟩
    · rintro ⟨j, h1, h2⟩
      by_cases e : j = k
      · subst e; exact .inr h2
      · exact .inl ⟨j, by omega, h2⟩
/-- Whether a strip is walked on a day, seen from the best walks. -/
theorem walk_any {r : Roads} {f : Flock} (g : Good r f) {S P : Nat} (hS : r.stages = (S : Int)) (hP : f.pace = (P : Int)) {d : Int} {b : Nat → WalkV} {n : Nat} (hb : ∀ s, s < S → (b s).is = n.testBit s) {i : Nat} {x : Strip} (hx : r.strips[i]? = some x) :
    walkB r f n d i = (openB r f (-1) i d && anyTo (fun u => (dayV r f d S b u x.A.toNat).is || (dayV r f d S b u x.B.toNat).is) (P + 1 - x.L.toNat)) := by
  obtain ⟨a1, a2, a3, a4, a5, a6, a7, _⟩ := g.strip x (List.mem_of_getElem? hx)
  rw [Bool.eq_iff_iff, walkB_iff g, Bool.and_eq_true, anyTo_iff]
  constructor
  · rintro ⟨p, h1, h2⟩
    rw [stepOk_is hx, Bool.and_eq_true, Bool.and_eq_true, decide_eq_true_eq] at h2
    obtain ⟨⟨h3, h4⟩, h5⟩ := h2
    obtain ⟨r1, r2, r3, r4⟩ := h1.range g
    obtain ⟨p1, p2⟩ := p
    dsimp only at r1 r2 r3 r4 h3 h4
    obtain ⟨t, rfl⟩ := Int.eq_ofNat_of_zero_le r1
    obtain ⟨u, rfl⟩ := Int.eq_ofNat_of_zero_le r3
    refine ⟨h5, u, by omega, ?_⟩
    have hd := (dayV_spot g hS hb u t (by omega) (by omega)).2 h1
    rw [Bool.or_eq_true]
    unfold endOf at h3
    by_cases eA : (t : Int) = x.A
    · left; rw [show x.A.toNat = t by omega]; exact hd
    · rw [if_neg eA] at h3
      by_cases eB : (t : Int) = x.B
      · right; rw [show x.B.toNat = t by omega]; exact hd
      · rw [if_neg eB] at h3; simp at h3
  · rintro ⟨h5, u, hu, h⟩
    rw [Bool.or_eq_true] at h
    rcases h with h | h
    · have hsp := (dayV_spot g hS hb u x.A.toNat (by omega) (by omega)).1 h
      refine ⟨_, hsp, ?_⟩
      rw [stepOk_is hx, h5, show ((x.A.toNat : Nat) : Int) = x.A by omega]
      simp [endOf]; omega
    · have hsp := (dayV_spot g hS hb u x.B.toNat (by omega) (by omega)).1 h
      refine ⟨_, hsp, ?_⟩
      rw [stepOk_is hx, h5, show ((x.B.toNat : Nat) : Int) = x.B by omega]
      have : (endOf x x.B).2 = true := by
        unfold endOf
        by_cases e : x.B = x.A
        · rw [if_pos e]
        · rw [if_neg e, if_pos rfl]
      rw [this]
      simp; omega
theorem cut_next {W B : Nat → Bool} {i : Nat} {h : Bool} (hb : B i = h) (j : Nat) : (if j = i then (W i || h) else (W j || (decide (j < i) && B j))) = (W j || (decide (j < i + 1) && B j)) := by
  by_cases e : j = i
  · subst e; rw [if_pos rfl, hb]; simp
  · rw [if_neg e]
    by_cases c : j < i
    · simp [c, show j < i + 1 by omega]
    · simp [c, show ¬ j < i + 1 by omega]
theorem cut_set {v c a b : Bool} {i j : Nat} (h : v = c) : (if j = i then v else if j = i then a else b) = (if j = i then c else b) := by
  by_cases e : j = i
  · rw [if_pos e, if_pos e, h]
  · rw [if_neg e, if_neg e, if_neg e]
theorem WRow.keepG {w w' : World} {g m S : Nat} {q : Nat → WalkV} {pa : Nat → Option Addr} {pc : Nat → Nat} (h : WRow w g S q pa pc) (hne : g ≠ m) (hk : ∀ b, b ≠ m → w'.heap[b]? = w.heap[b]?) (hg : ∀ o x, w.cell? ⟨m, o, none⟩ ≠ some (.int .i64 x)) : WRow w' g S q pa pc :=
  ⟨(hk _ hne).trans h.row, fun s hs => (h.plans s hs).keepG hk hg⟩
theorem WalksAt.keepG {w w' : World} {g m S : Nat} {q : Nat → WalkV} {pa : Nat → Option Addr} {pc : Nat → Nat} (h : WalksAt w g S q pa pc) (hne : g ≠ m) (hk : ∀ b, b ≠ m → w'.heap[b]? = w.heap[b]?) (hg : ∀ o x, w.cell? ⟨m, o, none⟩ ≠ some (.int .i64 x)) : WalksAt w' g S q pa pc := by
  have hk' := hk g hne
  exact ⟨fun i hi => (World.cell?_of_block hk').trans (h.c0 i hi), fun i hi => (World.cell?_of_block hk').trans (h.c1 i hi), fun i hi => (World.cell?_of_block hk').trans (h.c2 i hi), fun i hi => (h.plans i hi).keepG hk hg⟩
theorem WGrid.keepG {w w' : World} {B G n m K gm : Nat} {gb : Nat → Nat} {q : Nat → Nat → WalkV} {pa : Nat → Nat → Option Addr} {pc : Nat → Nat → Nat} (h : WGrid w B G n m K gb q pa pc) (hB : gm < B) (hk : ∀ b, b ≠ gm → w'.heap[b]? = w.heap[b]?) (hg : ∀ o x, w.cell? ⟨gm, o, none⟩ ≠ some (.int .i64 x)) : WGrid w' B G n m K gb q pa pc :=
  ⟨(hk G (by have := h.bG; omega)).trans h.outer, fun i hi => (h.inner i hi).keepG (by have := h.bI i hi; omega) hk hg, h.inj, h.ne, h.bG, h.bI⟩
theorem BRow.noInt {w : World} {g S : Nat} {o : Nat → Bool} (h : BRow w g S o) (j : Nat) (x : Int) : w.cell? ⟨g, j, none⟩ ≠ some (.int .i64 x) := fun hc => by
  by_cases hn : j < S
  · rw [h.cell hn] at hc; simp at hc
  · unfold BRow at h; simp [World.cell?, h, tab_get, hn] at hc
end Go.Proofs.Ytjgkgnfhglhklaa
namespace Go.Proofs.Ytjgkgnfhglhklaa
set_option linter.unusedSimpArgs false
set_option linter.unusedVariables false
open Go.RowKit

set_option maxRecDepth 100000 in
set_option maxHeartbeats 16000000 in
theorem refCut_any (w : World) (r : Roads) (f : Flock) (a : Option Addr) (cap : Nat) (hs : StripsAt w a r.strips) (hm : r.strips.length ≤ maxLen) (fr day : Int) :
    Calls Try.prog 54 #[.agg #[.int .i64 r.days, .int .i64 r.stages, .slice a r.strips.length cap], .agg #[.int .i64 f.heads, .int .i64 f.pace], .int .i64 fr, .int .i64 day] w
      fun e w' => ∃ ga gc, e = .returned (.tuple #[.slice ga (cutV r f fr day).1.length gc, .int .i64 (cutV r f fr day).2]) ∧ IntsAt w' ga (cutV r f fr day).1 ∧ Below w.heap.size w w' := by
  have hb0 : Below w.heap.size w ((w.alloc (.cells #[.int .i64 r.days, .int .i64 r.stages, .slice a r.strips.length cap] 24)).alloc (.cells #[.int .i64 f.heads, .int .i64 f.pace] 26)) := ((Below.refl _ _).alloc (Nat.le_refl _) _).alloc (by simp) _
  have hz0 : ((w.alloc (.cells #[.int .i64 r.days, .int .i64 r.stages, .slice a r.strips.length cap] 24)).alloc (.cells #[.int .i64 f.heads, .int .i64 f.pace] 26)).heap.size = w.heap.size + 2 := by simp
  have x0 : ((w.alloc (.cells #[.int .i64 r.days, .int .i64 r.stages, .slice a r.strips.length cap] 24)).alloc (.cells #[.int .i64 f.heads, .int .i64 f.pace] 26)).cell? ⟨w.heap.size, 0, none⟩ = some (.int .i64 r.days) := by simp [go_sem]
  have x1 : ((w.alloc (.cells #[.int .i64 r.days, .int .i64 r.stages, .slice a r.strips.length cap] 24)).alloc (.cells #[.int .i64 f.heads, .int .i64 f.pace] 26)).cell? ⟨w.heap.size, 1, none⟩ = some (.int .i64 r.stages) := by simp [go_sem]
  have x2 : ((w.alloc (.cells #[.int .i64 r.days, .int .i64 r.stages, .slice a r.strips.length cap] 24)).alloc (.cells #[.int .i64 f.heads, .int .i64 f.pace] 26)).cell? ⟨w.heap.size, 2, none⟩ = some (.slice a r.strips.length cap) := by simp [go_sem]
  have x3 : ((w.alloc (.cells #[.int .i64 r.days, .int .i64 r.stages, .slice a r.strips.length cap] 24)).alloc (.cells #[.int .i64 f.heads, .int .i64 f.pace] 26)).cell? ⟨w.heap.size + 1, 0, none⟩ = some (.int .i64 f.heads) := by simp [go_sem]
  have x4 : ((w.alloc (.cells #[.int .i64 r.days, .int .i64 r.stages, .slice a r.strips.length cap] 24)).alloc (.cells #[.int .i64 f.heads, .int .i64 f.pace] 26)).cell? ⟨w.heap.size + 1, 1, none⟩ = some (.int .i64 f.pace) := by simp [go_sem]
  have hst := hs.below hb0
  have HM := Lib.hid hm; clear hm hs
  have HE := Lib.hid (ready_asked4 r f fr day)
  go_enter Try.func54, Try.ntmps54
  go_upto_region 1 with (fail)
  generalize ((w.alloc (.cells #[.int .i64 r.days, .int .i64 r.stages, .slice a r.strips.length cap] 24)).alloc (.cells #[.int .i64 f.heads, .int .i64 f.pace] 26)) = W0 at hb0 hz0 x0 x1 x2 x3 x4 hst ⊢
  have hp1 := ints_new (w := W0) [fr]
  have hp2 := ints_new (w := W0.alloc (.cells #[.int .i64 fr] 3)) [day]
  have hba : Below W0.heap.size W0 ((W0.alloc (.cells #[.int .i64 fr] 3)).alloc (.cells #[.int .i64 day] 3)) := ((Below.refl _ _).alloc (Nat.le_refl _) _).alloc (by simp) _
  have hp1' := hp1.below (w' := ((W0.alloc (.cells #[.int .i64 fr] 3)).alloc (.cells #[.int .i64 day] 3))) ((Below.refl _ _).alloc (Nat.le_refl _) _)
  have hak := asked_any ((W0.alloc (.cells #[.int .i64 fr] 3)).alloc (.cells #[.int .i64 day] 3)) r f a cap (hst.below hba) HM.out _ _ 1 1 [fr] [day] hp1' hp2 (by simp) (by simp)
  rw [show (W0.alloc (.cells #[.int .i64 fr] 3)).heap.size = W0.heap.size + 1 by simp] at hak
  rw [show [fr].length = 1 from rfl, show [day].length = 1 from rfl] at hak
  have HAK := Lib.hid hak; clear hak hp1 hp2 hp1'
  have HBA := Lib.hid hba; clear hba
  have HST := Lib.hid hst; clear hst
  have HB0 := Lib.hid hb0; clear hb0
  have HZ0 := Lib.hid hz0; clear hz0
  go_wp2_with fail
  refine HAK.out.mono ?_
  clear HAK
  rintro e w1 ⟨rfl, hb1⟩
  have HB1 := Lib.hid (HBA.out.trans (hb1.mono HBA.out.size)); clear hb1 HBA
  have x0' := ((bcell HB1.out).1 _ _ (lt_of_cell x0)).trans x0
  have x1' := ((bcell HB1.out).1 _ _ (lt_of_cell x1)).trans x1
  have x2' := ((bcell HB1.out).1 _ _ (lt_of_cell x2)).trans x2
  have x3' := ((bcell HB1.out).1 _ _ (lt_of_cell x3)).trans x3
  have x4' := ((bcell HB1.out).1 _ _ (lt_of_cell x4)).trans x4
  clear x0 x1 x2 x3 x4
  have HBW := Lib.hid (HB0.out.trans (HB1.out.mono HB0.out.size))
  by_cases hz : askedErr r f [fr] [day] = 0
  · obtain ⟨g, ⟨p1, p2⟩, p5, p6⟩ := good_of_asked2 hz
    obtain ⟨k, rfl⟩ := Int.eq_ofNat_of_zero_le p1
    obtain ⟨z, rfl⟩ := Int.eq_ofNat_of_zero_le p5
    obtain ⟨S, hS⟩ := Int.eq_ofNat_of_zero_le (a := r.stages) (by omega)
    obtain ⟨D, hD⟩ := Int.eq_ofNat_of_zero_le (a := r.days) (by omega)
    obtain ⟨P, hP⟩ := Int.eq_ofNat_of_zero_le (a := f.pace) (by have := g.p1; omega)
    obtain ⟨N, hN⟩ : ∃ N, r.strips.length = N := ⟨_, rfl⟩
    have hkS : k < S := by omega
    have hzD : z < D := by omega
    have hS6 : S ≤ 6 := by have := g.s2; omega
    have hP9 : P ≤ 9 := by have := g.p2; omega
    have hD10 : D ≤ 10 := by have := g.d2; omega
    have hN8 : N ≤ 8 := by have := g.n8; omega
    have hv : cutV r f ((k : Nat) : Int) ((z : Nat) : Int) = (cutTo (walkedTo r f (0 ||| 1 <<< k) (z : Int) (D - z)) N, 0) := by
      rw [cutV, if_pos (by rw [HE.out]; exact hz), Int.toNat_natCast, hN, show (r.days - (z : Int)).toNat = D - z by omega]
    have HV := Lib.hid hv; clear hv
    rw [hz]
    have HZ := Lib.hid hz; clear hz
    rw [hS] at x1'
    rw [hD] at x0'
    rw [hP] at x4'
    rw [hN] at x2'
    have HS := Lib.hid hS; clear hS
    have HP := Lib.hid hP; clear hP
    have HD := Lib.hid hD; clear hD
    have HN := Lib.hid hN; clear hN
    have GG := Lib.hid g; clear g
    have HST1 := Lib.hid (HST.out.below HB1.out); clear HST HB1
    have X0 := Lib.hid x0'; clear x0'
    have X1 := Lib.hid x1'; clear x1'
    have X2 := Lib.hid x2'
    have X3 := Lib.hid x3'; clear x3'
    have X4 := Lib.hid x4'; clear x4' p1 p2 p5 p6
    have hmb := run_make_row' (P := Try.prog) 70 4 (.bool false) 1 Try.underlying70 info_bool rfl .i64 .i64 N (by omega) (by omega)
    go_upto_region 5 with (fail)
    clear hmb x2'
    have hbm : Below w1.heap.size w1 (w1.alloc (.cells (madeCells #[.bool false] N) 4)) := (Below.refl _ _).alloc (Nat.le_refl _) _
    have hbr : BRow (w1.alloc (.cells (madeCells #[.bool false] N) 4)) w1.heap.size N (fun _ => false) := by unfold BRow; rw [heap_alloc_new, tab_made]
    generalize (w1.alloc (.cells (madeCells #[.bool false] N) 4)) = WA at hbm hbr ⊢
    obtain ⟨gm, hgm⟩ : ∃ gm, w1.heap.size = gm := ⟨_, rfl⟩
    have HGM := Lib.hid hgm
    rw [hgm] at hbr ⊢
    clear hgm
    have HBR := Lib.hid hbr; clear hbr
    have HBM := Lib.hid hbm; clear hbm
    have x0 := ((bcell HBM.out).1 _ _ (lt_of_cell X0.out)).trans X0.out
    have x1 := ((bcell HBM.out).1 _ _ (lt_of_cell X1.out)).trans X1.out
    have x2 := ((bcell HBM.out).1 _ _ (lt_of_cell X2.out)).trans X2.out
    have HBG := Lib.hid (Begin_any WA (D : Int) a N cap S k (by omega) hkS)
    go_wp2_with fail
    refine HBG.out.mono ?_
    clear HBG x0 x1 x2
    rintro e w2 ⟨gq, pa, pc, rfl, hrow, hgq, hb2⟩
    have hgmA : gm < WA.heap.size := (Array.getElem?_eq_some_iff.1 HBR.out).1
    have HW := Lib.hid hrow.walks; clear hrow
    have HBR2 := Lib.hid (HBR.out.below hb2); clear HBR
    have HB2 := Lib.hid (HBM.out.trans (hb2.mono HBM.out.size)); clear HBM hb2
    have HQ := Lib.hid (show gq ≠ gm by omega); clear hgq hgmA
    go_wp2_with fail
    go_loopw [12, 13] (fun v12 v13 wx => ∃ (m gq cq : Nat) (ba : Nat → Option Addr) (bc : Nat → Nat), z + m ≤ D ∧ v12 = .slice (some ⟨gq, 0, none⟩) S cq ∧ v13 = .int .i64 ((z + m : Nat) : Int) ∧ WalksAt wx gq S (walksTo r f S P (beginV k) (z : Int) m) ba bc ∧ gq ≠ gm ∧ BRow wx gm N (walkedTo r f (0 ||| 1 <<< k) (z : Int) m) ∧ Below w1.heap.size w1 wx) (fun _ v _ => D - (intOf v).toNat)
    case atStart => exact ⟨0, gq, _, _, _, by omega, rfl, rfl, HW.out, HQ.out, HBR2.out, HB2.out⟩
    case round =>
      clear HW HQ HBR2 HB2
      obtain ⟨m, gq, cq, ba, bc, hm, rfl, rfl, hw, hq, hbr, hb⟩ := hrel
      have HW := Lib.hid hw; clear hw
      have HQ := Lib.hid hq; clear hq
      have HBR := Lib.hid hbr; clear hbr
      have HB := Lib.hid hb; clear hb
      have x0 := ((bcell HB.out).1 _ _ (lt_of_cell X0.out)).trans X0.out
      by_cases hmD : z + m < D
      · have q3 : ((z + m : Nat) : Int) < (D : Int) := by omega
        have x1 := ((bcell HB.out).1 _ _ (lt_of_cell X1.out)).trans X1.out
        have x2 := ((bcell HB.out).1 _ _ (lt_of_cell X2.out)).trans X2.out
        have x3 := ((bcell HB.out).1 _ _ (lt_of_cell X3.out)).trans X3.out
        have x4 := ((bcell HB.out).1 _ _ (lt_of_cell X4.out)).trans X4.out
        have hok := walks_ok (r := r) (f := f) (S := S) (P := P) (b := beginV k) (day := (z : Int)) GG.out (begin_ok r S k) m
        have hM : (m : Int) * (P : Int) ≤ 1000 := by
          have : m * P ≤ 10 * 9 := Nat.mul_le_mul (by omega) hP9
          have e : ((m * P : Nat) : Int) = (m : Int) * (P : Int) := Int.natCast_mul m P
          omega
        have HDAY := Lib.hid (Day_any wr GG.out a cap S P D N HS.out HP.out HD.out HN.out (HST1.out.below HB.out) ((z + m : Nat) : Int) gq cq _ ba bc HW.out _ hM hok.no hok.ok); clear hok
        have HM2 := Lib.hid hM; clear hM
        go_wp2_with fail
        refine HDAY.out.mono ?_
        clear HDAY x0 x1 x2 x3 x4
        rintro e w5 ⟨G, gb, pa1, pc1, rfl, hgr, hdk, hb5⟩
        have hgl : gm < wr.heap.size := (Array.getElem?_eq_some_iff.1 HBR.out).1
        obtain ⟨B0, hB0⟩ : ∃ B0, wr.heap.size = B0 := ⟨_, rfl⟩
        rw [hB0] at hgl hgr
        have HGL := Lib.hid hgl; clear hgl
        have HGR := Lib.hid hgr; clear hgr
        have HB00 := Lib.hid hB0; clear hB0
        have HDK := Lib.hid hdk; clear hdk
        have HBR5 := Lib.hid (HBR.out.below hb5); clear HBR
        have HB5 := Lib.hid (HB.out.trans (hb5.mono HB.out.size)); clear HB hb5 HW
        have hWB := fun (i : Nat) (x : Strip) (hx : r.strips[i]? = some x) => walk_any GG.out HS.out HP.out (d := (z : Int) + (m : Int)) (b := walksTo r f S P (beginV k) (z : Int) m) (n := nightsTo r f (-1) (0 ||| 1 <<< k) (z : Int) m) (fun s hs => walks_bit (P := P) GG.out HS.out HP.out (begin_bit S k) m s hs) hx
        rw [show (z : Int) + (m : Int) = ((z + m : Nat) : Int) from (Int.natCast_add z m).symm] at hWB
        have HWB := Lib.hid hWB; clear hWB
        go_wp2_with fail
        go_loopw [15] (fun v15 wx => ∃ i : Nat, i ≤ N ∧ v15 = .int .i64 (i : Int) ∧ BRow wx gm N (fun j => walkedTo r f (0 ||| 1 <<< k) (z : Int) m j || (decide (j < i) && walkB r f (nightsTo r f (-1) (0 ||| 1 <<< k) (z : Int) m) ((z + m : Nat) : Int) j)) ∧ WGrid wx B0 G S S (P + 1) gb (fun t u => dayV r f ((z + m : Nat) : Int) S (walksTo r f S P (beginV k) (z : Int) m) u t) pa1 pc1 ∧ Below w1.heap.size w1 wx) (fun v _ => N - (intOf v).toNat)
        case atStart => exact ⟨0, Nat.zero_le _, rfl, HBR5.out.congr fun j _ => by simp, HGR.out, HB5.out⟩
        case round =>
          clear HBR5 HGR HB5
          obtain ⟨i, hi, rfl, hbr, hgr, hb⟩ := hrel
          have HBR := Lib.hid hbr; clear hbr
          have HGR := Lib.hid hgr; clear hgr
          have HB := Lib.hid hb; clear hb
          have x2 := ((bcell HB.out).1 _ _ (lt_of_cell X2.out)).trans X2.out
          by_cases hiN : i < N
          · have q4 : (i : Int) < (N : Int) := by omega
            have hlt : i < r.strips.length := by rw [HN.out]; exact hiN
            rcases HST1.out.below HB.out with h0 | ⟨sb, so, ea, hsc⟩
            · rw [h0] at hlt; simp at hlt
            cases ea
            obtain ⟨s0, s1, s2, s3, s4, s5, s6⟩ := hsc i hlt
            have hx : r.strips[i]? = some r.strips[i] := List.getElem?_eq_getElem hlt
            obtain ⟨b1, b2, b3, b4, b5, b6, b7, b8⟩ := GG.out.strip r.strips[i] (List.getElem_mem hlt)
            clear b8
            generalize r.strips[i] = x at s0 s1 s2 s3 s4 s5 s6 b1 b2 b3 b4 b5 b6 b7 hx
            have HX := Lib.hid hx; clear hx hsc hlt
            have hbX : Below wr.heap.size wr (wr.alloc (.cells #[.int .i64 x.A, .int .i64 x.B, .int .i64 x.L, .int .i64 x.W, .int .i64 x.K, .int .i64 x.X, .int .i64 x.Y] 57)) := Below.alloc (Below.refl _ _) (Nat.le_refl _) _
            have hsx : StripAt (wr.alloc (.cells #[.int .i64 x.A, .int .i64 x.B, .int .i64 x.L, .int .i64 x.W, .int .i64 x.K, .int .i64 x.X, .int .i64 x.Y] 57)) wr.heap.size 0 x := ⟨by simp [go_sem], by simp [go_sem], by simp [go_sem], by simp [go_sem], by simp [go_sem], by simp [go_sem], by simp [go_sem]⟩
            go_upto_region 14 with (fail)
            clear s0 s1 s2 s3 s4 s5 s6 x2
            have HBR1 := Lib.hid (HBR.out.below hbX)
            have HGR1 := Lib.hid (HGR.out.below hbX)
            have HB1 := Lib.hid (HB.out.trans (hbX.mono HB.out.size))
            have HBXN := Lib.hid (show wr.heap.size ≠ gm by have := (Array.getElem?_eq_some_iff.1 HBR.out).1; omega)
            have HSX := Lib.hid hsx; clear hsx hbX HBR HGR HB
            generalize (wr.alloc (.cells #[.int .i64 x.A, .int .i64 x.B, .int .i64 x.L, .int .i64 x.W, .int .i64 x.K, .int .i64 x.X, .int .i64 x.Y] 57)) = W1 at HBR1 HGR1 HB1 HSX ⊢
            generalize wr.heap.size = bx at HBXN HSX ⊢
            obtain ⟨aN, hA⟩ := Int.eq_ofNat_of_zero_le b1
            obtain ⟨bN, hB⟩ := Int.eq_ofNat_of_zero_le b3
            obtain ⟨lN, hL⟩ := Int.eq_ofNat_of_zero_le (a := x.L) (by omega)
            have hS1 := HS.out
            have haS : aN < S := by omega
            have hbS : bN < S := by omega
            have hl1 : 1 ≤ lN := by omega
            have hl9 : lN ≤ 9 := by omega
            have hwb := HWB.out i x HX.out
            rw [hA, hB, hL, Int.toNat_natCast, Int.toNat_natCast, Int.toNat_natCast] at hwb
            have HWBI := Lib.hid hwb; clear hwb hS1 b1 b2 b3 b4 b5 b6 b7
            have HAE := Lib.hid hA; clear hA
            have HBE := Lib.hid hB; clear hB
            have HLE := Lib.hid hL; clear hL
            go_wp2_with fail
            go_loopw [17] (fun v17 wx => ∃ u : Nat, u ≤ P + 1 - lN ∧ v17 = .int .i64 (u : Int) ∧ BRow wx gm N (fun j => if j = i then (walkedTo r f (0 ||| 1 <<< k) (z : Int) m i || anyTo (fun u => (dayV r f ((z + m : Nat) : Int) S (walksTo r f S P (beginV k) (z : Int) m) u aN).is || (dayV r f ((z + m : Nat) : Int) S (walksTo r f S P (beginV k) (z : Int) m) u bN).is) u) else (walkedTo r f (0 ||| 1 <<< k) (z : Int) m j || (decide (j < i) && walkB r f (nightsTo r f (-1) (0 ||| 1 <<< k) (z : Int) m) ((z + m : Nat) : Int) j))) ∧ (0 < u → openB r f (-1) i ((z + m : Nat) : Int) = true) ∧ StripAt wx bx 0 x ∧ WGrid wx B0 G S S (P + 1) gb (fun t u => dayV r f ((z + m : Nat) : Int) S (walksTo r f S P (beginV k) (z : Int) m) u t) pa1 pc1 ∧ Below w1.heap.size w1 wx) (fun v _ => P + 1 - (intOf v).toNat)
            case atStart => exact ⟨0, Nat.zero_le _, rfl, HBR1.out.congr fun j _ => by
              by_cases e : j = i
              · subst e; simp [anyTo]
              · rw [if_neg e], by simp, HSX.out, HGR1.out, HB1.out⟩
            case round =>
              clear HBR1 HGR1 HB1 HSX
              obtain ⟨u, hu, rfl, hbr, hop, hsx, hgr, hb⟩ := hrel
              have HBR := Lib.hid hbr; clear hbr
              have HGR := Lib.hid hgr; clear hgr
              have HB := Lib.hid hb; clear hb
              have HOP := Lib.hid hop; clear hop
              have HSX := Lib.hid hsx
              obtain ⟨z0, z1, z2, z3, z4, z5, z6⟩ := hsx
              simp only [Nat.zero_add] at z1 z2 z3 z4 z5 z6
              have x3 := ((bcell HB.out).1 _ _ (lt_of_cell X3.out)).trans X3.out
              have x4 := ((bcell HB.out).1 _ _ (lt_of_cell X4.out)).trans X4.out
              have e1 : IntKind.i64.wrap ((u : Int) + x.L) = (u : Int) + (lN : Int) := by rw [HLE.out]; exact IntWalk.i64_in _ (by omega)
              have hwhy := fun W => refWhy_any x f ((z + m : Nat) : Int) W
              simp only [HP.out] at hwhy
              have HWHY := Lib.hid hwhy; clear hwhy
              by_cases hle : u + lN ≤ P
              · have q5 : (u : Int) + (lN : Int) ≤ (P : Int) := by omega
                go_wp2_with fail
                refine (HWHY.out _).mono ?_
                rintro e w6 ⟨v, rfl, hown, hb6⟩
                obtain ⟨va, vc, rfl, _⟩ := hown.ints
                clear hown HWHY
                have hopB : openB r f (-1) i ((z + m : Nat) : Int) = (barsL x f ((z + m : Nat) : Int)).isEmpty := by unfold openB; rw [HX.out]; simp
                have HBR6 := Lib.hid (HBR.out.below hb6)
                have HGR6 := Lib.hid (HGR.out.below hb6)
                have HSX6 := Lib.hid (HSX.out.keep fun j => (bcell hb6).1 _ _ (lt_of_cell HSX.out.c0))
                have HB6 := Lib.hid (HB.out.trans (hb6.mono HB.out.size)); clear HBR HGR HSX HB hb6 x3 x4 z0 z1 z2 z3 z4 z5 z6
                cases hem : (barsL x f ((z + m : Nat) : Int)).isEmpty
                · have hlen' : 0 < (barsL x f ((z + m : Nat) : Int)).length := by
                    cases hb : barsL x f ((z + m : Nat) : Int) with
                    | nil => rw [hb] at hem; simp at hem
                    | cons u v => simp
                  have hne0 : ¬ ((barsL x f ((z + m : Nat) : Int)).length : Int) = 0 := by omega
                  have hend : walkB r f (nightsTo r f (-1) (0 ||| 1 <<< k) (z : Int) m) ((z + m : Nat) : Int) i = anyTo (fun u => (dayV r f ((z + m : Nat) : Int) S (walksTo r f S P (beginV k) (z : Int) m) u aN).is || (dayV r f ((z + m : Nat) : Int) S (walksTo r f S P (beginV k) (z : Int) m) u bN).is) u := by
                    rw [HWBI.out, hopB, hem]
                    by_cases c : 0 < u
                    · have := HOP.out c; rw [hopB, hem] at this; simp at this
                    · rw [show u = 0 by omega]; simp [anyTo]
                  have HEND := Lib.hid hend; clear hend hopB hem
                  generalize hbl : (barsL x f ((z + m : Nat) : Int)).length = bl at hlen' hne0 ⊢
                  have d1 : ((bl : Int) == 0) = false := by simpa using hne0
                  clear hbl
                  go_wp2_with fail
                  exact ⟨⟨i + 1, by omega, by go_num, HBR6.out.congr fun j _ => cut_next HEND.out j, HGR6.out, HB6.out⟩, by simp [intOf]; omega⟩
                · have hnil : barsL x f ((z + m : Nat) : Int) = [] := List.isEmpty_iff.1 hem
                  have HOPN := Lib.hid (hopB.trans hem); clear hopB hem
                  rw [hnil]
                  clear hnil
                  obtain ⟨z0, z1, _⟩ := HSX6.out
                  simp only [Nat.zero_add] at z1
                  rw [HAE.out] at z0
                  rw [HBE.out] at z1
                  have y0 := HGR6.out.row (Nat.le_refl _) haS
                  have y1 := (HGR6.out.inner aN haS).c0 (s := u) (by omega)
                  have y2 := HGR6.out.row (Nat.le_refl _) hbS
                  have y3 := (HGR6.out.inner bN hbS).c0 (s := u) (by omega)
                  have m0 := HBR6.out.cell hiN
                  have m1 := HBR6.out.free i
                  rw [if_pos rfl] at m0
                  have q6 : (aN : Int) < (S : Int) := by omega
                  have q7 : (bN : Int) < (S : Int) := by omega
                  have q8 : (u : Int) < (P : Int) + 1 := by omega
                  obtain ⟨c0, hc0⟩ : ∃ c, (walkedTo r f (0 ||| 1 <<< k) (z : Int) m i || anyTo (fun u => (dayV r f ((z + m : Nat) : Int) S (walksTo r f S P (beginV k) (z : Int) m) u aN).is || (dayV r f ((z + m : Nat) : Int) S (walksTo r f S P (beginV k) (z : Int) m) u bN).is) u) = c := ⟨_, rfl⟩
                  rw [hc0] at m0
                  have HC0 := Lib.hid hc0; clear hc0
                  have HFIN := Lib.hid (fun (v : Bool) (W' : World) (hk : ∀ b, b ≠ gm → W'.heap[b]? = w6.heap[b]?) => And.intro (HGR6.out.keepG (w' := W') (by have := HGL.out; have := HB00.out; omega) hk HBR6.out.noInt) (HSX6.out.keep fun j => World.cell?_of_block (hk bx HBXN.out)))
                  have hgmw : w1.heap.size ≤ gm := by have := HGM.out; omega
                  have HVAL := Lib.hid (show ∀ v : Bool, v = (c0 || ((dayV r f ((z + m : Nat) : Int) S (walksTo r f S P (beginV k) (z : Int) m) u aN).is || (dayV r f ((z + m : Nat) : Int) S (walksTo r f S P (beginV k) (z : Int) m) u bN).is)) → v = (walkedTo r f (0 ||| 1 <<< k) (z : Int) m i || anyTo (fun u => (dayV r f ((z + m : Nat) : Int) S (walksTo r f S P (beginV k) (z : Int) m) u aN).is || (dayV r f ((z + m : Nat) : Int) S (walksTo r f S P (beginV k) (z : Int) m) u bN).is) (u + 1)) from fun v hv => by rw [hv, anyTo, ← HC0.out, Bool.or_assoc])
                  generalize (dayV r f ((z + m : Nat) : Int) S (walksTo r f S P (beginV k) (z : Int) m) u aN).is = hA1 at y1 HVAL
                  generalize (dayV r f ((z + m : Nat) : Int) S (walksTo r f S P (beginV k) (z : Int) m) u bN).is = hB1 at y3 HVAL
                  have HLQ := Lib.hid hle
                  have HSETB := Lib.hid (fun (v : Bool) => HBR6.out.set i v)
                  cases c0 <;> cases hA1 <;> cases hB1
                  all_goals
                    go_wp2_with fail
                    refine ⟨⟨u + 1, by have := HLQ.out; omega, by go_num, (HSETB.out _).congr fun j _ => cut_set (HVAL.out _ (by simp)), fun _ => HOPN.out, (HFIN.out true _ fun b hb => Below.heap_setCell _ ⟨gm, i, none⟩ _ b hb).2, (HFIN.out true _ fun b hb => Below.heap_setCell _ ⟨gm, i, none⟩ _ b hb).1, HB6.out.setCell (p := ⟨gm, i, none⟩) hgmw _⟩, by simp [intOf]; omega⟩
              · have q5 : ¬ (u : Int) + (lN : Int) ≤ (P : Int) := by omega
                have hend : walkB r f (nightsTo r f (-1) (0 ||| 1 <<< k) (z : Int) m) ((z + m : Nat) : Int) i = anyTo (fun u => (dayV r f ((z + m : Nat) : Int) S (walksTo r f S P (beginV k) (z : Int) m) u aN).is || (dayV r f ((z + m : Nat) : Int) S (walksTo r f S P (beginV k) (z : Int) m) u bN).is) u := by
                  rw [HWBI.out, show P + 1 - lN = u by omega]
                  by_cases c : 0 < u
                  · rw [HOP.out c]; rfl
                  · rw [show u = 0 by omega]; simp [anyTo]
                have HEND := Lib.hid hend; clear hend
                go_wp2_with fail
                exact ⟨⟨i + 1, by omega, by go_num, HBR.out.congr fun j _ => cut_next HEND.out j, HGR.out, HB.out⟩, by simp [intOf]; omega⟩
          · obtain rfl : i = N := by omega
            have q4 : ¬ (i : Int) < (i : Int) := by omega
            have hlen : ∀ t u, t < S → u < P + 1 → (dayV r f ((z + m : Nat) : Int) S (walksTo r f S P (beginV k) (z : Int) m) u t).pl.length ≤ 100000 := fun t u h1 h2 => by
              cases his : (dayV r f ((z + m : Nat) : Int) S (walksTo r f S P (beginV k) (z : Int) m) u t).is
              · rw [HDK.out.no t u h1 (by omega) his]; simp [noWalk]
              · obtain ⟨j1, j2, _, _⟩ := HDK.out.ok t u h1 (by omega) his
                have h3 := wsum_pos GG.out j1.valid
                have h4 := j1.sum
                have h5 := HM2.out
                omega
            have HNI := Lib.hid (Night_any wr _ G S (P + 1) gb _ pa1 pc1 HGR.out (by omega) (by omega) (by omega) hlen); clear hlen
            have hgl2 : gm < wr.heap.size := (Array.getElem?_eq_some_iff.1 HBR.out).1
            go_wp2_with fail
            refine HNI.out.mono ?_
            clear HNI x2
            rintro e w6 ⟨g2, c2, pa2, pc2, rfl, hw2, hg2, hb6⟩
            have HW2 := Lib.hid (show WalksAt w6 g2 S (walksTo r f S P (beginV k) (z : Int) (m + 1)) pa2 pc2 from by
              rw [show ((z + m : Nat) : Int) = (z : Int) + (m : Int) from Int.natCast_add z m] at hw2
              exact hw2); clear hw2
            have HBR6 := Lib.hid (HBR.out.below hb6)
            have HB6 := Lib.hid (HB.out.trans (hb6.mono HB.out.size)); clear hb6 HBR HB HGR
            have HQ2 := Lib.hid (show g2 ≠ gm by omega); clear hgl2 hg2
            go_wp2_with fail
            exact ⟨⟨m + 1, g2, c2, pa2, pc2, by omega, rfl, congrArg (Value.int .i64) (by omega), HW2.out, HQ2.out, HBR6.out.congr fun j hj => by
              rw [walkedTo, show ((z + m : Nat) : Int) = (z : Int) + (m : Int) from Int.natCast_add z m]; simp [hj], HB6.out⟩, by simp [intOf]; omega⟩
      · have q3 : ¬ ((z + m : Nat) : Int) < (D : Int) := by omega
        obtain rfl : D - z = m := by omega
        obtain ⟨B, hB⟩ : ∃ B, wr.heap.size = B := ⟨_, rfl⟩
        have hgB : gm < B := by have := (Array.getElem?_eq_some_iff.1 HBR.out).1; omega
        have hBw : w1.heap.size ≤ B := by have := HB.out.size; omega
        have HBB := Lib.hid (show B ≤ wr.heap.size by omega); clear hB
        have HBR7 := Lib.hid HBR.out
        have HB7 := Lib.hid HB.out
        go_wp2_with fail
        go_loopw [18, 19] (fun v18 v19 wx => ∃ j : Nat, j ≤ N ∧ v19 = .int .i64 (j : Int) ∧ OwnInts wx B v18 (cutTo (walkedTo r f (0 ||| 1 <<< k) (z : Int) (D - z)) j) ∧ BRow wx gm N (walkedTo r f (0 ||| 1 <<< k) (z : Int) (D - z)) ∧ Below w1.heap.size w1 wx ∧ B ≤ wx.heap.size) (fun _ v _ => N - (intOf v).toNat)
        case atStart => exact ⟨0, Nat.zero_le _, rfl, OwnInts.nil _ _, HBR7.out, HB7.out, HBB.out⟩
        case round =>
          clear HBR7 HB7 HBR HB x0
          obtain ⟨j, hj, rfl, hown, hbr, hbw, hBz⟩ := hrel
          have hle := cutTo_le (walkedTo r f (0 ||| 1 <<< k) (z : Int) (D - z)) j
          have HOW := Lib.hid hown; clear hown
          have HBW2 := Lib.hid hbw; clear hbw
          by_cases hjN : j < N
          · have m0 := hbr.cell hjN
            have HBR := Lib.hid hbr; clear hbr
            cases hV : walkedTo r f (0 ||| 1 <<< k) (z : Int) (D - z) j
            · have HE2 := Lib.hid (show cutTo (walkedTo r f (0 ||| 1 <<< k) (z : Int) (D - z)) (j + 1) = cutTo (walkedTo r f (0 ||| 1 <<< k) (z : Int) (D - z)) j ++ [(j : Int)] by rw [cutTo, hV]; rfl)
              rw [hV] at m0
              clear hV
              go_wp2_with (at_builtin; refine app_int1 rfl _ _ rfl B _ _ rfl HOW.out _ rfl (by omega) hBz ?_)
              intro v' w' hown' hbel _
              go_wp2_with fail
              exact ⟨⟨j + 1, by omega, by go_num, by rw [HE2.out, Nat.zero_or]; exact hown', (hbel.block _ hgB).trans HBR.out, HBW2.out.trans (hbel.mono (by omega)), by have := hbel.size; omega⟩, by simp [intOf]; omega⟩
            · have HE2 := Lib.hid (show cutTo (walkedTo r f (0 ||| 1 <<< k) (z : Int) (D - z)) (j + 1) = cutTo (walkedTo r f (0 ||| 1 <<< k) (z : Int) (D - z)) j by rw [cutTo, hV]; rfl)
              rw [hV] at m0
              clear hV
              go_wp2_with fail
              exact ⟨⟨j + 1, by omega, by go_num, by rw [HE2.out]; exact HOW.out, HBR.out, HBW2.out, hBz⟩, by simp [intOf]; omega⟩
          · obtain rfl : j = N := by omega
            clear hbr
            go_wp2_with fail
            go_ret2
            obtain ⟨ga, gc, rfl, hi, _⟩ := HOW.out.ints
            rw [HV.out]
            exact ⟨ga, gc, rfl, hi, HBW.out.trans (HBW2.out.mono HBW.out.size)⟩
  · have hne : (askedErr r f [fr] [day] != 0) = true := by simpa using hz
    have hv : cutV r f fr day = ([], askedErr r f [fr] [day]) := by rw [cutV, if_neg (by rw [HE.out]; exact hz), HE.out]
    have HV := Lib.hid hv; clear hv
    have HZ := Lib.hid hz; clear hz
    clear x0' x1' x2' x3' x4'
    go_wp2_with fail
    go_ret2
    rw [HV.out]
    exact ⟨none, 0, rfl, .inl rfl, HBW.out⟩
end Go.Proofs.Ytjgkgnfhglhklaa
