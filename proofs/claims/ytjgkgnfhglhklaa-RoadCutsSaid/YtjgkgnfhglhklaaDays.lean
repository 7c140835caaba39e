/- The contract of mestaref02.days (under way). -/
import Derived.Test.YtjgkgnfhglhklaaLeast
import Derived.Test.YtjgkgnfhglhklaaTable
namespace Go.Proofs.Ytjgkgnfhglhklaa
set_option linter.unusedSimpArgs false
set_option linter.unusedVariables false
open Go.RowKit

/-- A row of bools that a call made. -/
def BRow (w : World) (g S : Nat) (o : Nat → Bool) : Prop := w.heap[g]? = some (.cells (tab S fun s => .bool (o s)) 4 (0, 0))
theorem BRow.cell {w : World} {g S : Nat} {o : Nat → Bool} (h : BRow w g S o) {s : Nat} (hs : s < S) : w.cell? ⟨g, s, none⟩ = some (.bool (o s)) := cell_tab h hs
theorem BRow.free {w : World} {g S : Nat} {o : Nat → Bool} (h : BRow w g S o) (s : Nat) : w.frozen? ⟨g, s, none⟩ = false := free_tab h s
theorem BRow.below {w w' : World} {g S : Nat} {o : Nat → Bool} (h : BRow w g S o) (hb : Below w.heap.size w w') : BRow w' g S o := (hb.block g (Array.getElem?_eq_some_iff.1 h).1).trans h
theorem BRow.set {w : World} {g S : Nat} {o : Nat → Bool} (h : BRow w g S o) (s : Nat) (x : Bool) : BRow (w.setCell ⟨g, s, none⟩ (.bool x)) g S (fun i => if i = s then x else o i) := by
  unfold BRow
  rw [set_tab h]
  congr 2
  exact tab_congr fun j _ => by dsimp only; split <;> rfl
theorem BRow.congr {w : World} {g S : Nat} {o o' : Nat → Bool} (h : BRow w g S o) (he : ∀ s, s < S → o s = o' s) : BRow w g S o' := by
  unfold BRow at h ⊢
  rw [h, tab_congr fun j hj => by rw [he j hj]]

theorem IRow.other {w : World} {g S m : Nat} {o : Nat → Int} (h : IRow w g S o) (hne : g ≠ m) (s : Nat) (v : Value) : IRow (w.setCell ⟨m, s, none⟩ v) g S o := (Below.heap_setCell _ ⟨m, s, none⟩ _ g hne).trans h
theorem BRow.other {w : World} {g S m : Nat} {o : Nat → Bool} (h : BRow w g S o) (hne : g ≠ m) (s : Nat) (v : Value) : BRow (w.setCell ⟨m, s, none⟩ v) g S o := (Below.heap_setCell _ ⟨m, s, none⟩ _ g hne).trans h
theorem updTo_getD {l : List Int} {m : Nat} {d : Int} {j s : Nat} (h : s < l.length) : (updTo l m d j).getD s 0 = if s < j ∧ l.getD s 0 < 0 ∧ m.testBit s = true then d else l.getD s 0 := by
  rw [List.getD_eq_getElem?_getD, List.getD_eq_getElem?_getD]
  simp only [updTo, List.getElem?_mapIdx, List.getElem?_eq_getElem h, Option.map_some, Option.getD_some]
  by_cases c : s < j ∧ l[s] < 0 ∧ m.testBit s = true
  · rw [if_pos c, if_pos (by simp [c.1, c.2.1, c.2.2])]
  · rw [if_neg c, if_neg (by simpa [and_assoc] using c)]

set_option maxRecDepth 100000 in
set_option maxHeartbeats 8000000 in
theorem days_any (w : World) {r : Roads} {f : Flock} (g : Good r f) (a : Option Addr) (cap S fr z : Nat) (hS : r.stages = (S : Int)) (hfr : fr < S) (hz : (z : Int) ≤ r.days) (hs : StripsAt w a r.strips) :
    Calls Try.prog 78 #[.agg #[.int .i64 r.days, .int .i64 (S : Int), .slice a r.strips.length cap], .agg #[.int .i64 f.heads, .int .i64 f.pace], .int .i64 (fr : Int), .int .i64 (z : Int)] w
      fun e w' => ∃ gb, e = .returned (.slice (some ⟨gb, 0, none⟩) S S) ∧ IRow w' gb S (fun s => (comesL r f (-1) fr (z : Int)).getD s 0) ∧ w.heap.size ≤ gb ∧ Below w.heap.size w w' := by
  have hS6 : S ≤ 6 := by have := g.s2; omega
  have hb0 : Below w.heap.size w ((w.alloc (.cells #[.int .i64 r.days, .int .i64 (S : Int), .slice a r.strips.length cap] 24)).alloc (.cells #[.int .i64 f.heads, .int .i64 f.pace] 26)) := ((Below.refl _ _).alloc (Nat.le_refl _) _).alloc (by simp) _
  have hs0 : ((w.alloc (.cells #[.int .i64 r.days, .int .i64 (S : Int), .slice a r.strips.length cap] 24)).alloc (.cells #[.int .i64 f.heads, .int .i64 f.pace] 26)).heap.size = w.heap.size + 2 := by simp
  have x1 : ((w.alloc (.cells #[.int .i64 r.days, .int .i64 (S : Int), .slice a r.strips.length cap] 24)).alloc (.cells #[.int .i64 f.heads, .int .i64 f.pace] 26)).cell? ⟨w.heap.size, 1, none⟩ = some (.int .i64 (S : Int)) := by simp [go_sem]
  have x0 : ((w.alloc (.cells #[.int .i64 r.days, .int .i64 (S : Int), .slice a r.strips.length cap] 24)).alloc (.cells #[.int .i64 f.heads, .int .i64 f.pace] 26)).cell? ⟨w.heap.size, 0, none⟩ = some (.int .i64 r.days) := by simp [go_sem]
  have x2 : ((w.alloc (.cells #[.int .i64 r.days, .int .i64 (S : Int), .slice a r.strips.length cap] 24)).alloc (.cells #[.int .i64 f.heads, .int .i64 f.pace] 26)).cell? ⟨w.heap.size, 2, none⟩ = some (.slice a r.strips.length cap) := by simp [go_sem]
  have x3 : ((w.alloc (.cells #[.int .i64 r.days, .int .i64 (S : Int), .slice a r.strips.length cap] 24)).alloc (.cells #[.int .i64 f.heads, .int .i64 f.pace] 26)).cell? ⟨w.heap.size + 1, 0, none⟩ = some (.int .i64 f.heads) := by simp [go_sem]
  have x4 : ((w.alloc (.cells #[.int .i64 r.days, .int .i64 (S : Int), .slice a r.strips.length cap] 24)).alloc (.cells #[.int .i64 f.heads, .int .i64 f.pace] 26)).cell? ⟨w.heap.size + 1, 1, none⟩ = some (.int .i64 f.pace) := by simp [go_sem]
  have hst := hs.below hb0
  have HS := Lib.hid hS; clear hS
  have G := Lib.hid g; clear g hs
  have hmk := run_make_row' (P := Try.prog) 27 3 (.int .i64 0) 8 Try.underlying27 info_int rfl .i64 .i64 S (by omega) (by omega)
  have hmb := run_make_row' (P := Try.prog) 70 4 (.bool false) 1 Try.underlying70 info_bool rfl .i64 .i64 S (by omega) (by omega)
  go_enter Try.func78, Try.ntmps78
  go_upto_region 1 with (fail)
  generalize ((w.alloc (.cells #[.int .i64 r.days, .int .i64 (S : Int), .slice a r.strips.length cap] 24)).alloc (.cells #[.int .i64 f.heads, .int .i64 f.pace] 26)) = W0 at hb0 hs0 x0 x1 x2 x3 x4 hst ⊢
  have X0 := Lib.hid x0; clear x0
  have X2 := Lib.hid x2; clear x2
  have X3 := Lib.hid x3; clear x3
  have X4 := Lib.hid x4; clear x4
  go_region
  have hq : Below W0.heap.size W0 (((W0.alloc (.cells (madeCells #[.bool false] S) 4)).alloc (.cells (madeCells #[.int .i64 0] S) 3)).drew) := below_drewN (((Below.refl _ _).alloc (Nat.le_refl _) _).alloc (by simp) _) 1
  rw [hs0] at hq
  have hbr : BRow (((W0.alloc (.cells (madeCells #[.bool false] S) 4)).alloc (.cells (madeCells #[.int .i64 0] S) 3)).drew) (w.heap.size + 2) S (fun _ => false) := by
    have h0 : BRow (W0.alloc (.cells (madeCells #[.bool false] S) 4)) W0.heap.size S (fun _ => false) := by unfold BRow; rw [heap_alloc_new, tab_made]
    rw [hs0] at h0
    exact h0.below (below_drewN (Below.alloc (Below.refl _ _) (Nat.le_refl _) _) 1)
  have hdr : IRow (((W0.alloc (.cells (madeCells #[.bool false] S) 4)).alloc (.cells (madeCells #[.int .i64 0] S) 3)).drew) (w.heap.size + 2 + 1) S (fun _ => 0) := by
    have h0 : IRow ((W0.alloc (.cells (madeCells #[.bool false] S) 4)).alloc (.cells (madeCells #[.int .i64 0] S) 3)) (W0.alloc (.cells (madeCells #[.bool false] S) 4)).heap.size S (fun _ => 0) := by unfold IRow; rw [heap_alloc_new, tab_made]
    rw [show (W0.alloc (.cells (madeCells #[.bool false] S) 4)).heap.size = w.heap.size + 2 + 1 by simp [hs0]] at h0
    exact h0.below (below_drewN (Below.refl _ _) 1)
  have hne : w.heap.size + 2 ≠ w.heap.size + 2 + 1 := by omega
  have hgb : w.heap.size + 2 ≤ w.heap.size + 2 := by omega
  have hgd : w.heap.size + 2 ≤ w.heap.size + 2 + 1 := by omega
  generalize ((W0.alloc (.cells (madeCells #[.bool false] S) 4)).alloc (.cells (madeCells #[.int .i64 0] S) 3)).drew = W1 at hq hbr hdr ⊢
  generalize w.heap.size + 2 + 1 = gd at hbr hdr hne hgb hgd ⊢
  generalize hgg : w.heap.size + 2 = gb at hbr hdr hne ⊢
  rotate_left
  have hq : Below W0.heap.size W0 (((W0.alloc (.cells (madeCells #[.int .i64 0] S) 3)).alloc (.cells (madeCells #[.bool false] S) 4)).drew) := below_drewN (((Below.refl _ _).alloc (Nat.le_refl _) _).alloc (by simp) _) 1
  rw [hs0] at hq
  have hbr : BRow (((W0.alloc (.cells (madeCells #[.int .i64 0] S) 3)).alloc (.cells (madeCells #[.bool false] S) 4)).drew) (w.heap.size + 2 + 1) S (fun _ => false) := by
    have h0 : BRow ((W0.alloc (.cells (madeCells #[.int .i64 0] S) 3)).alloc (.cells (madeCells #[.bool false] S) 4)) (W0.alloc (.cells (madeCells #[.int .i64 0] S) 3)).heap.size S (fun _ => false) := by unfold BRow; rw [heap_alloc_new, tab_made]
    rw [show (W0.alloc (.cells (madeCells #[.int .i64 0] S) 3)).heap.size = w.heap.size + 2 + 1 by simp [hs0]] at h0
    exact h0.below (below_drewN (Below.refl _ _) 1)
  have hdr : IRow (((W0.alloc (.cells (madeCells #[.int .i64 0] S) 3)).alloc (.cells (madeCells #[.bool false] S) 4)).drew) (w.heap.size + 2) S (fun _ => 0) := by
    have h0 : IRow (W0.alloc (.cells (madeCells #[.int .i64 0] S) 3)) W0.heap.size S (fun _ => 0) := by unfold IRow; rw [heap_alloc_new, tab_made]
    rw [hs0] at h0
    exact h0.below (below_drewN (Below.alloc (Below.refl _ _) (Nat.le_refl _) _) 1)
  have hne : w.heap.size + 2 + 1 ≠ w.heap.size + 2 := by omega
  have hgb : w.heap.size + 2 ≤ w.heap.size + 2 + 1 := by omega
  have hgd : w.heap.size + 2 ≤ w.heap.size + 2 := by omega
  generalize ((W0.alloc (.cells (madeCells #[.int .i64 0] S) 3)).alloc (.cells (madeCells #[.bool false] S) 4)).drew = W1 at hq hbr hdr ⊢
  generalize w.heap.size + 2 + 1 = gb at hbr hdr hne hgb hgd ⊢
  generalize hgg : w.heap.size + 2 = gd at hbr hdr hne ⊢
  all_goals
    have x1' := ((bcell (show Below W0.heap.size W0 W1 by rw [hs0]; exact hq)).1 _ _ (lt_of_cell x1)).trans x1
    have y1 := hbr.cell hfr
    have y2 := hbr.free fr
    have q1 : (fr : Int) < (S : Int) := by omega
    have hset := hbr.set fr true
    have hdr2 := hdr.other (fun e => hne e.symm) fr (.bool true)
    have HB1 := Lib.hid (hq.setCell (p := ⟨gb, fr, none⟩) (by show w.heap.size + 2 ≤ gb; omega) (.bool true)); clear hq
    have HBR := Lib.hid (hset.congr (o' := fun i => (0 ||| 1 <<< fr).testBit i) fun i _ => by
      rw [Nat.zero_or, Nat.one_shiftLeft, Nat.testBit_two_pow]
      by_cases e : i = fr
      · subst e; simp
      · have e' : ¬ fr = i := fun h => e h.symm
        simp [e, e']); clear hset
    have HDR := Lib.hid hdr2; clear hdr2 hdr hbr
    have X1 := Lib.hid x1; clear x1
    have HS0 := Lib.hid hs0; clear hs0 hmk hmb
    have HST := Lib.hid hst; clear hst
    have HB0 := Lib.hid hb0; clear hb0
    go_wp2_with fail
    clear x1' y1 y2
    go_loopw [11] (fun v11 wx => ∃ s : Nat, s ≤ S ∧ v11 = .int .i64 (s : Int) ∧ BRow wx gb S (fun i => (0 ||| 1 <<< fr).testBit i) ∧ IRow wx gd S (fun i => if i < s then -1 else 0) ∧ Below (w.heap.size + 2) W0 wx) (fun v _ => S - (intOf v).toNat)
    case atStart => exact ⟨0, Nat.zero_le _, rfl, HBR.out, HDR.out.congr fun s _ => by simp, HB1.out⟩
    case round =>
      obtain ⟨s, hs, rfl, hbr, hdr, hb⟩ := hrel
      have x1 := ((bcell (show Below W0.heap.size W0 wr by rw [HS0.out]; exact hb)).1 _ _ (lt_of_cell X1.out)).trans X1.out
      have HBR1 := Lib.hid hbr; clear hbr HBR
      have HB := Lib.hid hb; clear hb HB1
      clear HDR
      by_cases hsS : s < S
      · have m0 := hdr.cell hsS
        have m1 := hdr.free s
        have q2 : (s : Int) < (S : Int) := by omega
        have HSET := Lib.hid (hdr.set s (-1)); clear hdr
        go_wp2_with fail
        exact ⟨⟨s + 1, by omega, by go_num, HBR1.out.other hne s _, HSET.out.congr fun i _ => by
          by_cases e : i = s
          · subst e; simp
          · by_cases c : i < s
            · simp [e, c, show i < s + 1 by omega]
            · simp [e, c, show ¬ i < s + 1 by omega], HB.out.setCell (p := ⟨gd, s, none⟩) (by show w.heap.size + 2 ≤ gd; omega) _⟩, by simp [intOf]; omega⟩
      · obtain rfl : s = S := by omega
        have HDR := Lib.hid hdr; clear hdr
        go_wp2_with fail
        clear x1
        go_loopw [12] (fun v12 wx => ∃ k : Nat, k ≤ (r.days - (z : Int)).toNat ∧ v12 = .int .i64 ((z + k : Nat) : Int) ∧ BRow wx gb s (fun i => (nightsTo r f (-1) (0 ||| 1 <<< fr) (z : Int) k).testBit i) ∧ IRow wx gd s (fun i => (comesTo r f (-1) (0 ||| 1 <<< fr) (z : Int) k).getD i 0) ∧ Below (w.heap.size + 2) W0 wx) (fun v _ => r.days.toNat - (intOf v).toNat)
        case atStart => exact ⟨0, Nat.zero_le _, rfl, HBR1.out, HDR.out.congr fun i hi => by
          have := HS.out
          rw [if_pos hi, comesTo, List.getD_eq_getElem?_getD, List.getElem?_replicate, if_pos (by omega)]; simp, HB.out⟩
        case round =>
          obtain ⟨k, hk, rfl, hbr, hdr, hb⟩ := hrel
          have hbw : Below W0.heap.size W0 wr := by rw [HS0.out]; exact hb
          have x0 := ((bcell hbw).1 _ _ (lt_of_cell X0.out)).trans X0.out
          have x1 := ((bcell hbw).1 _ _ (lt_of_cell X1.out)).trans X1.out
          have x2 := ((bcell hbw).1 _ _ (lt_of_cell X2.out)).trans X2.out
          have x3 := ((bcell hbw).1 _ _ (lt_of_cell X3.out)).trans X3.out
          have x4 := ((bcell hbw).1 _ _ (lt_of_cell X4.out)).trans X4.out
          have hst1 := HST.out.below hbw
          have HBR2 := Lib.hid hbr; clear hbr HBR1
          have HDR2 := Lib.hid hdr; clear hdr HDR
          have HB2 := Lib.hid hb; clear hb HB hbw
          by_cases hkz : ((z + k : Nat) : Int) < r.days
          · have hle := least_any wr G.out ((z + k : Nat) : Int) a cap s HS.out hst1 (nightsTo r f (-1) (0 ||| 1 <<< fr) (z : Int) k) gb s (fun i hi => HBR2.out.cell hi)
            have HLE := Lib.hid hle; clear hle hst1
            go_wp2_with fail
            refine HLE.out.mono ?_
            clear HLE x0 x1 x2 x3 x4
            rintro e w5 ⟨gl, rfl, hls, hgl, hb5⟩
            have hbz : gb < wr.heap.size := (Array.getElem?_eq_some_iff.1 HBR2.out).1
            have hdz : gd < wr.heap.size := (Array.getElem?_eq_some_iff.1 HDR2.out).1
            have HBR3 := Lib.hid (HBR2.out.below hb5)
            have HDR3 := Lib.hid (HDR2.out.below hb5)
            have HB3 := Lib.hid (HB2.out.trans (hb5.mono (by omega)))
            have HLS := Lib.hid hls; clear hls hb5
            clear HBR2 HDR2 HB2
            go_wp2_with fail
            go_loopw [14] (fun v14 wx => ∃ i : Nat, i ≤ s ∧ v14 = .int .i64 (i : Int) ∧ BRow wx gb s (fun u => if u < i then (nightsTo r f (-1) (0 ||| 1 <<< fr) (z : Int) (k + 1)).testBit u else (nightsTo r f (-1) (0 ||| 1 <<< fr) (z : Int) k).testBit u) ∧ IRow wx gd s (fun u => (updTo (comesTo r f (-1) (0 ||| 1 <<< fr) (z : Int) k) (nightsTo r f (-1) (0 ||| 1 <<< fr) (z : Int) (k + 1)) ((z : Int) + k) i).getD u 0) ∧ IRow wx gl s (leastO r f ((z + k : Nat) : Int) (nightsTo r f (-1) (0 ||| 1 <<< fr) (z : Int) k) s) ∧ Below (w.heap.size + 2) W0 wx) (fun v _ => s - (intOf v).toNat)
            case atStart => exact ⟨0, Nat.zero_le _, rfl, HBR3.out.congr fun u _ => by simp, HDR3.out.congr fun u _ => by rw [updTo_zero], HLS.out, HB3.out⟩
            case round =>
              obtain ⟨i, hi, rfl, hbr, hdr, hls, hb⟩ := hrel
              clear HBR3 HDR3 HB3 HLS
              have hbw : Below W0.heap.size W0 wr := by rw [HS0.out]; exact hb
              have x1 := ((bcell hbw).1 _ _ (lt_of_cell X1.out)).trans X1.out
              clear hbw
              have HB4 := Lib.hid hb; clear hb
              have HBR4 := Lib.hid hbr; clear hbr
              have HDR4 := Lib.hid hdr; clear hdr
              have HLS4 := Lib.hid hls; clear hls
              have HNE := Lib.hid hne; clear hne
              have HGB := Lib.hid hgb; clear hgb
              have HGD := Lib.hid hgd; clear hgd
              have HGL := Lib.hid hgl; clear hgl
              have HKZ := Lib.hid hkz; clear hkz
              have HK := Lib.hid hk; clear hk
              have HBZ := Lib.hid hbz; clear hbz
              have HDZ := Lib.hid hdz; clear hdz
              have HGG := Lib.hid hgg; clear hgg
              clear hfr hz q1
              by_cases his : i < s
              · have q2 : (i : Int) < (s : Int) := by omega
                have hlt := least_spot G.out (d := ((z + k : Nat) : Int)) (n := nightsTo r f (-1) (0 ||| 1 <<< fr) (z : Int) k) HS.out his
                rw [show afterN r f (-1) (nightsTo r f (-1) (0 ||| 1 <<< fr) (z : Int) k) ((z + k : Nat) : Int) = nightsTo r f (-1) (0 ||| 1 <<< fr) (z : Int) (k + 1) by rw [nightsTo, Int.natCast_add]] at hlt
                generalize leastO r f ((z + k : Nat) : Int) (nightsTo r f (-1) (0 ||| 1 <<< fr) (z : Int) k) s = lo at HLS4 hlt ⊢
                generalize nightsTo r f (-1) (0 ||| 1 <<< fr) (z : Int) (k + 1) = n1 at HBR4 HDR4 hlt ⊢
                generalize nightsTo r f (-1) (0 ||| 1 <<< fr) (z : Int) k = n0 at HBR4 ⊢
                have hlen := comesTo_len r f (-1) (0 ||| 1 <<< fr) (z : Int) k
                generalize comesTo r f (-1) (0 ||| 1 <<< fr) (z : Int) k = cl at HDR4 hlen ⊢
                have HLEN := Lib.hid hlen; clear hlen
                have m0 := HBR4.out.cell his
                have m1 := HBR4.out.free i
                have l0 := HLS4.out.cell his
                have HLT := Lib.hid hlt; clear hlt
                go_upto_region 15 with (fail)
                clear m0 m1 l0 x1
                have hbs := HBR4.out.set i (decide (lo i < 1000))
                have hds := HDR4.out.other (fun e => HNE.out e.symm) i (.bool (decide (lo i < 1000)))
                have hls := IRow.other HLS4.out (m := gb) (by have := HGL.out; have := HBZ.out; omega) i (.bool (decide (lo i < 1000)))
                have HB5 := Lib.hid (HB4.out.setCell (p := ⟨gb, i, none⟩) (by show w.heap.size + 2 ≤ gb; have := HGB.out; have := HGG.out; omega) (.bool (decide (lo i < 1000))))
                generalize wr.setCell ⟨gb, i, none⟩ (.bool (decide (lo i < 1000))) = W2 at hbs hds hls HB5 ⊢
                have c1 := hbs.cell his
                rw [if_pos rfl] at c1
                have c2 := hds.cell his
                have c3 := hds.free i
                have HBS := Lib.hid hbs; clear hbs
                have HDS := Lib.hid hds; clear hds
                have HLS5 := Lib.hid hls; clear hls
                clear HBR4 HDR4 HLS4 HB4
                have eU := updTo_getD (l := cl) (m := n1) (d := (z : Int) + k) (j := i) (s := i) (by have := HLEN.out; have := HS.out; omega)
                rw [if_neg (fun h => absurd h.1 (Nat.lt_irrefl i))] at eU
                rw [eU] at c2
                clear eU
                generalize hv : cl.getD i 0 = v at c2
                have HV := Lib.hid hv; clear hv
                by_cases hlo : lo i < 1000
                · have hbit := HLT.out.1 hlo
                  rw [decide_eq_true hlo] at c1
                  have HBIT := Lib.hid hbit; clear hbit
                  have HLO := Lib.hid hlo; clear hlo
                  by_cases hneg : v < 0
                  · go_wp2_with fail
                    refine ⟨⟨i + 1, by omega, by go_num, (HBS.out.other HNE.out i _).congr fun u hu => ?_, (HDS.out.set i _).congr fun u hu => ?_, HLS5.out.other (by have := HGL.out; have := HDZ.out; omega) i _, HB5.out.setCell (p := ⟨gd, i, none⟩) (by show w.heap.size + 2 ≤ gd; have := HGD.out; have := HGG.out; omega) _⟩, by simp [intOf]; omega⟩
                    · by_cases e : u = i
                      · subst e; rw [if_pos rfl, if_pos (by omega), decide_eq_true HLO.out, HBIT.out]
                      · rw [if_neg e]
                        by_cases c : u < i
                        · rw [if_pos c, if_pos (by omega)]
                        · rw [if_neg c, if_neg (by omega)]
                    · have hl : u < cl.length := by have := HLEN.out; have := HS.out; omega
                      rw [updTo_getD hl, updTo_getD hl]
                      by_cases e : u = i
                      · subst e
                        have := HV.out
                        rw [if_pos rfl, if_pos ⟨by omega, by omega, HBIT.out⟩]
                      · rw [if_neg e]
                        by_cases c : u < i ∧ cl.getD u 0 < 0 ∧ n1.testBit u = true
                        · rw [if_pos c, if_pos ⟨by omega, c.2⟩]
                        · rw [if_neg c, if_neg (fun h => c ⟨by omega, h.2⟩)]
                  · have hneg' : ¬ cl.getD i 0 < 0 := by have := HV.out; omega
                    have HNEG := Lib.hid hneg'; clear hneg'
                    go_wp2_with fail
                    refine ⟨⟨i + 1, by omega, by go_num, HBS.out.congr fun u hu => ?_, HDS.out.congr fun u hu => ?_, HLS5.out, HB5.out⟩, by simp [intOf]; omega⟩
                    · by_cases e : u = i
                      · subst e; rw [if_pos rfl, if_pos (by omega), decide_eq_true HLO.out, HBIT.out]
                      · rw [if_neg e]
                        by_cases c : u < i
                        · rw [if_pos c, if_pos (by omega)]
                        · rw [if_neg c, if_neg (by omega)]
                    · have hl : u < cl.length := by have := HLEN.out; have := HS.out; omega
                      rw [updTo_getD hl, updTo_getD hl]
                      by_cases c : u < i ∧ cl.getD u 0 < 0 ∧ n1.testBit u = true
                      · rw [if_pos c, if_pos ⟨by omega, c.2⟩]
                      · rw [if_neg c, if_neg (fun h => c ⟨by
                          by_cases e : u = i
                          · subst e; exact absurd h.2.1 HNEG.out
                          · omega, h.2⟩)]
                · have hbit : ¬ n1.testBit i = true := fun h => hlo (HLT.out.2 h)
                  rw [decide_eq_false hlo] at c1
                  have HBIT := Lib.hid hbit; clear hbit
                  have HLO := Lib.hid hlo; clear hlo
                  go_wp2_with fail
                  refine ⟨⟨i + 1, by omega, by go_num, HBS.out.congr fun u hu => ?_, HDS.out.congr fun u hu => ?_, HLS5.out, HB5.out⟩, by simp [intOf]; omega⟩
                  · by_cases e : u = i
                    · subst e; rw [if_pos rfl, if_pos (by omega), decide_eq_false HLO.out]; cases h : n1.testBit u with
                      | false => rfl
                      | true => exact absurd h HBIT.out
                    · rw [if_neg e]
                      by_cases c : u < i
                      · rw [if_pos c, if_pos (by omega)]
                      · rw [if_neg c, if_neg (by omega)]
                  · have hl : u < cl.length := by have := HLEN.out; have := HS.out; omega
                    rw [updTo_getD hl, updTo_getD hl]
                    by_cases c : u < i ∧ cl.getD u 0 < 0 ∧ n1.testBit u = true
                    · rw [if_pos c, if_pos ⟨by omega, c.2⟩]
                    · rw [if_neg c, if_neg (fun h => c ⟨by
                        by_cases e : u = i
                        · subst e; exact absurd h.2.2 HBIT.out
                        · omega, h.2⟩)]
              · obtain rfl : i = s := by omega
                clear his hi
                have hd2 := G.out.d2
                have hkz := HKZ.out
                have hkw : (((z + k : Nat) : Int) + 1) = ((z + (k + 1) : Nat) : Int) := by omega
                have hw : wrap64 ((z : Int) + (k : Int) + 1) = ((z + (k + 1) : Nat) : Int) := by
                  rw [show (z : Int) + (k : Int) + 1 = ((z + (k + 1) : Nat) : Int) by omega]
                  unfold wrap64
                  omega
                have HW := Lib.hid hw; clear hw hkw hkz hd2
                go_wp2_with fail
                rw [HW.out]
                have hd2 := G.out.d2
                have hkz := HKZ.out
                refine ⟨⟨k + 1, by have := HK.out; omega, rfl, HBR4.out.congr fun u hu => by rw [if_pos hu], HDR4.out.congr fun u hu => ?_, HB4.out⟩, ?_⟩
                · rw [comesTo, HS.out]
                  rfl
                · simp [intOf]; omega
          · have HK := Lib.hid hkz
            clear hst1
            go_wp2_with fail
            go_ret
            have e1 : (r.days - (z : Int)).toNat = k := by omega
            exact ⟨_, rfl, HDR2.out.congr fun i _ => by rw [comesL, e1]; simp, by omega, HB0.out.trans (HB2.out.mono (by omega))⟩
end Go.Proofs.Ytjgkgnfhglhklaa
