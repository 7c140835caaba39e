/- The contract of mestaref02.first. -/
import Derived.Test.YtjgkgnfhglhklaaFirstRP
import Derived.Test.YtjgkgnfhglhklaaDay
import Derived.Test.YtjgkgnfhglhklaaNightR
import Derived.Test.YtjgkgnfhglhklaaLeast
import Derived.Deep.CutBlock
namespace Go.Proofs.Ytjgkgnfhglhklaa
set_option linter.unusedSimpArgs false
set_option linter.unusedVariables false
open Go.RowKit

theorem WRow.noPlans {w : World} {g S m s : Nat} {pa : Nat → Option Addr} {pc : Nat → Nat} (h : WRow w g S (fun _ => noWalk) pa pc) (hne : g ≠ m) (x : Value) : WRow (w.setCell ⟨m, s, none⟩ x) g S (fun _ => noWalk) pa pc :=
  ⟨(Below.heap_setCell _ ⟨m, s, none⟩ _ g hne).trans h.row, fun _ _ => .inl rfl⟩
theorem WRow.neg {w : World} {g S m s : Nat} {q : Nat → WalkV} {pa : Nat → Option Addr} {pc : Nat → Nat} (h : WRow w g S q pa pc) (hne : g ≠ m) (hn : ∀ i, i < S → NonNeg (q i).pl) {v : Int} (hc : w.cell? ⟨m, s, none⟩ = some (.int .i64 v)) (hv : v < 0) (x : Value) : WRow (w.setCell ⟨m, s, none⟩ x) g S q pa pc :=
  ⟨(Below.heap_setCell _ ⟨m, s, none⟩ _ g hne).trans h.row, fun i hi => (h.plans i hi).neg (hn i hi) hc hv x⟩
theorem WalksAt.neg {w : World} {g S m s : Nat} {q : Nat → WalkV} {pa : Nat → Option Addr} {pc : Nat → Nat} (h : WalksAt w g S q pa pc) (hne : g ≠ m) (hn : ∀ i, i < S → NonNeg (q i).pl) {v : Int} (hc : w.cell? ⟨m, s, none⟩ = some (.int .i64 v)) (hv : v < 0) (x : Value) : WalksAt (w.setCell ⟨m, s, none⟩ x) g S q pa pc := by
  have hk := Below.heap_setCell w ⟨m, s, none⟩ x g hne
  exact ⟨fun i hi => (World.cell?_of_block hk).trans (h.c0 i hi), fun i hi => (World.cell?_of_block hk).trans (h.c1 i hi), fun i hi => (World.cell?_of_block hk).trans (h.c2 i hi), fun i hi => (h.plans i hi).neg (hn i hi) hc hv x⟩
/-- A walk is stored in a row of walks: other walks stay. -/
theorem WalksAt.other {w w' : World} {g gw S S' : Nat} {q q' : Nat → WalkV} {pa pa' : Nat → Option Addr} {pc pc' : Nat → Nat} (h : WalksAt w g S q pa pc) (hr : WRow w gw S' q' pa' pc') (hne : g ≠ gw) (hk : ∀ b, b ≠ gw → w'.heap[b]? = w.heap[b]?) : WalksAt w' g S q pa pc := by
  have hk' := hk g hne
  exact ⟨fun i hi => (World.cell?_of_block hk').trans (h.c0 i hi), fun i hi => (World.cell?_of_block hk').trans (h.c1 i hi), fun i hi => (World.cell?_of_block hk').trans (h.c2 i hi), fun i hi => (h.plans i hi).apart hr hk⟩

set_option maxRecDepth 100000 in
set_option maxHeartbeats 8000000 in
theorem first_any (w : World) {r : Roads} {f : Flock} (g : Good r f) (a : Option Addr) (cap S P D N fr z : Nat) (hS : r.stages = (S : Int)) (hP : f.pace = (P : Int)) (hD : r.days = (D : Int)) (hN : r.strips.length = N) (hfr : fr < S) (hz : z ≤ D) (hs : StripsAt w a r.strips) :
    Calls Try.prog 80 #[.agg #[.int .i64 (D : Int), .int .i64 (S : Int), .slice a N cap], .agg #[.int .i64 f.heads, .int .i64 (P : Int)], .int .i64 (fr : Int), .int .i64 (z : Int)] w
      fun e w' => ∃ gd gw q pa pc, e = .returned (.tuple #[.slice (some ⟨gd, 0, none⟩) S S, .slice (some ⟨gw, 0, none⟩) S S]) ∧ IRow w' gd S (dayTo r f fr (z : Int) (D - z)) ∧ WRow w' gw S q pa pc ∧ (∀ s, s < S → RecOk r f S P fr (z : Int) (dayTo r f fr (z : Int) (D - z)) (D - z) s (q s)) ∧ Below w.heap.size w w' := by
  have hS6 : S ≤ 6 := by have := g.s2; omega
  have hP9 : P ≤ 9 := by have := g.p2; omega
  have hD10 : D ≤ 10 := by have := g.d2; omega
  have hb0 : Below w.heap.size w ((w.alloc (.cells #[.int .i64 (D : Int), .int .i64 (S : Int), .slice a N cap] 24)).alloc (.cells #[.int .i64 f.heads, .int .i64 (P : Int)] 26)) := ((Below.refl _ _).alloc (Nat.le_refl _) _).alloc (by simp) _
  have x0 : ((w.alloc (.cells #[.int .i64 (D : Int), .int .i64 (S : Int), .slice a N cap] 24)).alloc (.cells #[.int .i64 f.heads, .int .i64 (P : Int)] 26)).cell? ⟨w.heap.size, 0, none⟩ = some (.int .i64 (D : Int)) := by simp [go_sem]
  have x1 : ((w.alloc (.cells #[.int .i64 (D : Int), .int .i64 (S : Int), .slice a N cap] 24)).alloc (.cells #[.int .i64 f.heads, .int .i64 (P : Int)] 26)).cell? ⟨w.heap.size, 1, none⟩ = some (.int .i64 (S : Int)) := by simp [go_sem]
  have x2 : ((w.alloc (.cells #[.int .i64 (D : Int), .int .i64 (S : Int), .slice a N cap] 24)).alloc (.cells #[.int .i64 f.heads, .int .i64 (P : Int)] 26)).cell? ⟨w.heap.size, 2, none⟩ = some (.slice a N cap) := by simp [go_sem]
  have x3 : ((w.alloc (.cells #[.int .i64 (D : Int), .int .i64 (S : Int), .slice a N cap] 24)).alloc (.cells #[.int .i64 f.heads, .int .i64 (P : Int)] 26)).cell? ⟨w.heap.size + 1, 0, none⟩ = some (.int .i64 f.heads) := by simp [go_sem]
  have x4 : ((w.alloc (.cells #[.int .i64 (D : Int), .int .i64 (S : Int), .slice a N cap] 24)).alloc (.cells #[.int .i64 f.heads, .int .i64 (P : Int)] 26)).cell? ⟨w.heap.size + 1, 1, none⟩ = some (.int .i64 (P : Int)) := by simp [go_sem]
  have HST := Lib.hid (hs.below hb0); clear hs
  have HS := Lib.hid hS; clear hS
  have HPP := Lib.hid hP; clear hP
  have HD := Lib.hid hD; clear hD
  have HN := Lib.hid hN; clear hN
  have GG := Lib.hid g; clear g
  have hmk := run_make_row' (P := Try.prog) 27 3 (.int .i64 0) 8 Try.underlying27 info_int rfl .i64 .i64 S (by omega) (by omega)
  have hmw := run_make_wide (P := Try.prog) 100 104 (.agg #[.bool false, .int .i64 0, .slice none 0 0]) 3 40 Try.underlying100 info_walk .i64 .i64 S (by omega) (by omega)
  have hzc : (Value.agg #[.bool false, .int .i64 0, .slice none 0 0]).cells = #[.bool false, .int .i64 0, .slice none 0 0] := rfl
  rw [hzc] at hmw
  clear hzc
  go_enter Try.func80, Try.ntmps80
  go_upto_region 1 with (fail)
  generalize ((w.alloc (.cells #[.int .i64 (D : Int), .int .i64 (S : Int), .slice a N cap] 24)).alloc (.cells #[.int .i64 f.heads, .int .i64 (P : Int)] 26)) = W0 at hb0 x0 x1 x2 x3 x4 HST ⊢
  have X0 := Lib.hid x0; clear x0
  have X1 := Lib.hid x1
  have X2 := Lib.hid x2; clear x2
  have X3 := Lib.hid x3; clear x3
  have X4 := Lib.hid x4; clear x4
  have HB0 := Lib.hid hb0; clear hb0
  go_cut [10, 11] (fun v10 v11 wx => ∃ gd gw, v10 = .slice (some ⟨gd, 0, none⟩) S S ∧ v11 = .slice (some ⟨gw, 0, none⟩) S S ∧ gw ≠ gd ∧ W0.heap.size ≤ gd ∧ W0.heap.size ≤ gw ∧ IRow wx gd S (fun _ => 0) ∧ WRow wx gw S (fun _ => noWalk) (fun _ => none) (fun _ => 0) ∧ Below W0.heap.size W0 wx)
  case first =>
    have hA : IRow ((W0.alloc (.cells (madeCells #[.int .i64 0] S) 3)).alloc (.cells (madeCells #[.bool false, .int .i64 0, .slice none 0 0] (S * 3)) 104)) W0.heap.size S (fun _ => 0) := by
      have h0 : IRow (W0.alloc (.cells (madeCells #[.int .i64 0] S) 3)) W0.heap.size S (fun _ => 0) := by unfold IRow; rw [heap_alloc_new, tab_made]
      exact h0.below ((Below.refl _ _).alloc (Nat.le_refl _) _)
    have hB : WRow ((W0.alloc (.cells (madeCells #[.int .i64 0] S) 3)).alloc (.cells (madeCells #[.bool false, .int .i64 0, .slice none 0 0] (S * 3)) 104)) (W0.heap.size + 1) S (fun _ => noWalk) (fun _ => none) (fun _ => 0) := by
      have h0 := WRow.made (W0.alloc (.cells (madeCells #[.int .i64 0] S) 3)) S
      rwa [show (W0.alloc (.cells (madeCells #[.int .i64 0] S) 3)).heap.size = W0.heap.size + 1 by simp] at h0
    have hC : WRow ((W0.alloc (.cells (madeCells #[.bool false, .int .i64 0, .slice none 0 0] (S * 3)) 104)).alloc (.cells (madeCells #[.int .i64 0] S) 3)) W0.heap.size S (fun _ => noWalk) (fun _ => none) (fun _ => 0) := (WRow.made W0 S).below ((Below.refl _ _).alloc (Nat.le_refl _) _)
    have hE : IRow ((W0.alloc (.cells (madeCells #[.bool false, .int .i64 0, .slice none 0 0] (S * 3)) 104)).alloc (.cells (madeCells #[.int .i64 0] S) 3)) (W0.heap.size + 1) S (fun _ => 0) := by
      have h0 : IRow ((W0.alloc (.cells (madeCells #[.bool false, .int .i64 0, .slice none 0 0] (S * 3)) 104)).alloc (.cells (madeCells #[.int .i64 0] S) 3)) (W0.alloc (.cells (madeCells #[.bool false, .int .i64 0, .slice none 0 0] (S * 3)) 104)).heap.size S (fun _ => 0) := by unfold IRow; rw [heap_alloc_new, tab_made]
      rwa [show (W0.alloc (.cells (madeCells #[.bool false, .int .i64 0, .slice none 0 0] (S * 3)) 104)).heap.size = W0.heap.size + 1 by simp] at h0
    have HA := Lib.hid hA; clear hA
    have HB := Lib.hid hB; clear hB
    have HC := Lib.hid hC; clear hC
    have HE := Lib.hid hE; clear hE
    have k1 := alloc_keepB (x := .cells (madeCells #[.int .i64 0] S) 3) x1
    have k2 := alloc_keepB (x := .cells (madeCells #[.bool false, .int .i64 0, .slice none 0 0] (S * 3)) 104) x1
    go_region
    all_goals
      go_wp2_with fail
      go_meet
      first
        | exact ⟨_, _, rfl, rfl, by omega, by omega, by omega, HA.out.below (Below.refl _ _).drew, HB.out.below (Below.refl _ _).drew, (((Below.refl _ _).alloc (Nat.le_refl _) _).alloc (by simp) _).drew⟩
        | exact ⟨_, _, rfl, rfl, by omega, by omega, by omega, HE.out.below (Below.refl _ _).drew, HC.out.below (Below.refl _ _).drew, (((Below.refl _ _).alloc (Nat.le_refl _) _).alloc (by simp) _).drew⟩
        | trace_state
  case rest =>
    obtain ⟨gd, gw, rfl, rfl, hne, hgd, hgw, hdr, hwr, hb⟩ := hcut
    have HNE := Lib.hid hne; clear hne
    have HGD := Lib.hid hgd; clear hgd
    have HGW := Lib.hid hgw; clear hgw
    have HDR := Lib.hid hdr; clear hdr
    have HWR := Lib.hid hwr; clear hwr
    have HB := Lib.hid hb; clear hb hmk hmw x1
    go_wp2_with fail
    go_loopw [12] (fun v12 wx => ∃ s : Nat, s ≤ S ∧ v12 = .int .i64 (s : Int) ∧ IRow wx gd S (fun i => if i < s then -1 else 0) ∧ WRow wx gw S (fun _ => noWalk) (fun _ => none) (fun _ => 0) ∧ Below W0.heap.size W0 wx) (fun v _ => S - (intOf v).toNat)
    case atStart => exact ⟨0, Nat.zero_le _, rfl, HDR.out.congr fun s _ => by simp, HWR.out, HB.out⟩
    case round =>
      clear HDR HWR HB
      obtain ⟨s, hs, rfl, hdr, hwr, hb⟩ := hrel
      have x1 := ((bcell hb).1 _ _ (lt_of_cell X1.out)).trans X1.out
      have HB := Lib.hid hb; clear hb
      have HWR := Lib.hid hwr; clear hwr
      by_cases hsS : s < S
      · have m0 := hdr.cell hsS
        have m1 := hdr.free s
        have q2 : (s : Int) < (S : Int) := by omega
        have HSET := Lib.hid (hdr.set s (-1)); clear hdr
        go_wp2_with fail
        exact ⟨⟨s + 1, by omega, by go_num, HSET.out.congr fun i _ => by
          by_cases e : i = s
          · subst e; simp
          · by_cases c : i < s
            · simp [e, c, show i < s + 1 by omega]
            · simp [e, c, show ¬ i < s + 1 by omega], HWR.out.noPlans HNE.out _, HB.out.setCell (p := ⟨gd, s, none⟩) HGD.out _⟩, by simp [intOf]; omega⟩
      · obtain rfl : s = S := by omega
        have q2 : ¬ (s : Int) < (s : Int) := by omega
        have HDR := Lib.hid (hdr.congr (o' := dayTo r f fr (z : Int) 0) fun i hi => by rw [if_pos hi, dayTo_zero HS.out hi]); clear hdr
        have x0 := ((bcell HB.out).1 _ _ (lt_of_cell X0.out)).trans X0.out
        have x2 := ((bcell HB.out).1 _ _ (lt_of_cell X2.out)).trans X2.out
        have hbg := Begin_any wr (D : Int) a N cap s fr (by omega) hfr
        have HBG := Lib.hid hbg; clear hbg
        go_wp2_with fail
        refine HBG.out.mono ?_
        clear HBG x0 x1 x2
        rintro e w1 ⟨gq, pa, pc, rfl, hrow, hgq, hb1⟩
        have hl1 : gd < wr.heap.size := (Array.getElem?_eq_some_iff.1 HDR.out).1
        have hl2 : gw < wr.heap.size := HWR.out.lt
        have HST0 := Lib.hid (show (∀ j, j < s → RecOk r f s P fr (z : Int) (dayTo r f fr (z : Int) 0) 0 j noWalk) from fun j hj => ⟨fun _ => rfl, fun h => by rw [dayTo_zero HS.out hj] at h; omega⟩)
        have HW1 := Lib.hid hrow.walks; clear hrow
        have HDR1 := Lib.hid (HDR.out.below hb1); clear HDR
        have HWR1 := Lib.hid (HWR.out.below hb1); clear HWR
        have HB1 := Lib.hid (HB.out.trans (hb1.mono HB.out.size)); clear HB hb1
        have HQ := Lib.hid (show gq ≠ gd ∧ gq ≠ gw from ⟨by omega, by omega⟩); clear hl1 hl2 hgq
        go_wp2_with fail
        go_loopw [13, 14] (fun v13 v14 wx => ∃ (k gq cq : Nat) (ba : Nat → Option Addr) (bc : Nat → Nat) (q : Nat → WalkV) (pa : Nat → Option Addr) (pc : Nat → Nat), z + k ≤ D ∧ v13 = .slice (some ⟨gq, 0, none⟩) s cq ∧ v14 = .int .i64 ((z + k : Nat) : Int) ∧ WalksAt wx gq s (walksTo r f s P (beginV fr) (z : Int) k) ba bc ∧ (gq ≠ gd ∧ gq ≠ gw) ∧ IRow wx gd s (dayTo r f fr (z : Int) k) ∧ WRow wx gw s q pa pc ∧ (∀ j, j < s → RecOk r f s P fr (z : Int) (dayTo r f fr (z : Int) k) k j (q j)) ∧ Below W0.heap.size W0 wx) (fun _ v _ => D - (intOf v).toNat)
        case atStart => exact ⟨0, gq, _, _, _, _, _, _, by omega, rfl, rfl, HW1.out, HQ.out, HDR1.out, HWR1.out, HST0.out, HB1.out⟩
        case round =>
          clear HW1 HQ HDR1 HWR1 HST0 HB1
          obtain ⟨k, gq, cq, ba, bc, q, pa, pc, hk, rfl, rfl, hw, hq, hdr, hwr, hrec, hb⟩ := hrel
          have HW := Lib.hid hw; clear hw
          have HQ := Lib.hid hq; clear hq
          have HDR := Lib.hid hdr; clear hdr
          have HWR := Lib.hid hwr; clear hwr
          have HREC := Lib.hid hrec; clear hrec
          have HB := Lib.hid hb; clear hb
          have x0 := ((bcell HB.out).1 _ _ (lt_of_cell X0.out)).trans X0.out
          have x1 := ((bcell HB.out).1 _ _ (lt_of_cell X1.out)).trans X1.out
          have x2 := ((bcell HB.out).1 _ _ (lt_of_cell X2.out)).trans X2.out
          have x3 := ((bcell HB.out).1 _ _ (lt_of_cell X3.out)).trans X3.out
          have x4 := ((bcell HB.out).1 _ _ (lt_of_cell X4.out)).trans X4.out
          by_cases hkD : z + k < D
          · have q3 : ((z + k : Nat) : Int) < (D : Int) := by omega
            have hok := walks_ok (r := r) (f := f) (S := s) (P := P) (b := beginV fr) (day := (z : Int)) GG.out (begin_ok r s fr) k
            have hM : (k : Int) * (P : Int) ≤ 1000 := by
              have : k * P ≤ 10 * 9 := Nat.mul_le_mul (by omega) hP9
              have e : ((k * P : Nat) : Int) = (k : Int) * (P : Int) := Int.natCast_mul k P
              omega
            have HDAY := Lib.hid (Day_any wr GG.out a cap s P D N HS.out HPP.out HD.out HN.out (HST.out.below HB.out) ((z + k : Nat) : Int) gq cq _ ba bc HW.out _ hM hok.no hok.ok); clear hok
            have HM := Lib.hid hM; clear hM
            go_wp2_with fail
            refine HDAY.out.mono ?_
            clear HDAY x0 x1 x2 x3 x4
            rintro e w1 ⟨G, gb, pa1, pc1, rfl, hgr, hdk, hb1⟩
            have hlen : ∀ t u, t < s → u < P + 1 → (dayV r f ((z + k : Nat) : Int) s (walksTo r f s P (beginV fr) (z : Int) k) u t).pl.length ≤ 100000 := fun t u h1 h2 => by
              cases his : (dayV r f ((z + k : Nat) : Int) s (walksTo r f s P (beginV fr) (z : Int) k) u t).is
              · rw [hdk.no t u h1 (by omega) his]; simp [noWalk]
              · obtain ⟨j1, j2, _, _⟩ := hdk.ok t u h1 (by omega) his
                have h3 := wsum_pos GG.out j1.valid
                have h4 := j1.sum
                have h5 := HM.out
                omega
            have HNI := Lib.hid (Night_any w1 _ G s (P + 1) gb _ pa1 pc1 hgr (by omega) (by omega) (by omega) hlen); clear hlen hdk hgr
            have hl1 : gd < wr.heap.size := (Array.getElem?_eq_some_iff.1 HDR.out).1
            have hl2 : gw < wr.heap.size := HWR.out.lt
            have hl3 := hb1.size
            have HB1 := Lib.hid hb1; clear hb1
            go_wp2_with fail
            refine HNI.out.mono ?_
            clear HNI
            rintro e w2 ⟨g2, c2, pa2, pc2, rfl, hw2, hg2, hb2⟩
            have hbb := HB1.out.trans (hb2.mono HB1.out.size)
            have HW2 := Lib.hid (show WalksAt w2 g2 s (walksTo r f s P (beginV fr) (z : Int) (k + 1)) pa2 pc2 from by
              rw [show ((z + k : Nat) : Int) = (z : Int) + (k : Int) from Int.natCast_add z k] at hw2
              exact hw2); clear hw2
            have HDR2 := Lib.hid (HDR.out.below hbb); clear HDR
            have HWR2 := Lib.hid (HWR.out.below hbb); clear HWR
            have HB2 := Lib.hid (HB.out.trans (hbb.mono HB.out.size)); clear HB hbb hb2 HB1 HW
            have HQ2 := Lib.hid (show g2 ≠ gd ∧ g2 ≠ gw from ⟨by omega, by omega⟩); clear hl1 hl2 hl3 hg2 HQ
            go_wp2_with fail
            go_loopw [15] (fun v15 wx => ∃ (j : Nat) (q : Nat → WalkV) (pa : Nat → Option Addr) (pc : Nat → Nat), j ≤ s ∧ v15 = .int .i64 (j : Int) ∧ WalksAt wx g2 s (walksTo r f s P (beginV fr) (z : Int) (k + 1)) pa2 pc2 ∧ IRow wx gd s (fun i => if i < j then dayTo r f fr (z : Int) (k + 1) i else dayTo r f fr (z : Int) k i) ∧ WRow wx gw s q pa pc ∧ (∀ i, i < s → (i < j → RecOk r f s P fr (z : Int) (dayTo r f fr (z : Int) (k + 1)) (k + 1) i (q i)) ∧ (¬ i < j → RecOk r f s P fr (z : Int) (dayTo r f fr (z : Int) k) k i (q i))) ∧ Below W0.heap.size W0 wx) (fun v _ => s - (intOf v).toNat)
            case atStart => exact ⟨0, q, pa, pc, Nat.zero_le _, rfl, HW2.out, HDR2.out.congr fun i _ => by simp, HWR2.out, fun i hi => ⟨fun h => by omega, fun _ => HREC.out i hi⟩, HB2.out⟩
            case round =>
              clear HW2 HDR2 HWR2 HREC HB2 q pa pc
              obtain ⟨j, q, pa, pc, hj, rfl, hw, hdr, hwr, hrec, hb⟩ := hrel
              have HB := Lib.hid hb; clear hb
              have x1 := ((bcell HB.out).1 _ _ (lt_of_cell X1.out)).trans X1.out
              have HW := Lib.hid hw; clear hw
              have HDR := Lib.hid hdr; clear hdr
              have HWR := Lib.hid hwr; clear hwr
              have HREC := Lib.hid hrec; clear hrec
              by_cases hjs : j < s
              · have q4 : (j : Int) < (s : Int) := by omega
                have m0 := HDR.out.cell hjs
                rw [if_neg (Nat.lt_irrefl j)] at m0
                have m1 := HDR.out.free j
                have y0 := HW.out.c0 j hjs
                have y1 := HW.out.c1 j hjs
                have y2 := HW.out.c2 j hjs
                have rj := (HREC.out j hjs).2 (Nat.lt_irrefl j)
                have hnq : ∀ i, i < s → NonNeg (q i).pl := fun i hi => by
                  have key : ∀ (dv : Nat → Int) (kk : Nat), RecOk r f s P fr (z : Int) dv kk i (q i) → NonNeg (q i).pl := fun dv kk h => by
                    by_cases c : dv i < 0
                    · rw [h.1 c]; intro x hx; simp [noWalk] at hx
                    · obtain ⟨j', _, _, e, _⟩ := h.2 (by omega)
                      rw [e]; exact walks_nonneg (S := s) GG.out HPP.out (by omega) _ i hi
                  by_cases c : i < j
                  · exact key _ _ ((HREC.out i hi).1 c)
                  · exact key _ _ ((HREC.out i hi).2 c)
                have HNQ := Lib.hid hnq; clear hnq
                have hnw := fun i hi => walks_nonneg (S := s) (day := (z : Int)) (fr := fr) GG.out HPP.out (by omega) (k + 1) i hi
                have HNW := Lib.hid hnw; clear hnw
                have hnext : ∀ (q' : Nat → WalkV), (dayTo r f fr (z : Int) (k + 1) j = dayTo r f fr (z : Int) (k + 1) j ∧ RecOk r f s P fr (z : Int) (dayTo r f fr (z : Int) (k + 1)) (k + 1) j (q' j)) → (∀ i, i ≠ j → q' i = q i) → ∀ i, i < s → (i < j + 1 → RecOk r f s P fr (z : Int) (dayTo r f fr (z : Int) (k + 1)) (k + 1) i (q' i)) ∧ (¬ i < j + 1 → RecOk r f s P fr (z : Int) (dayTo r f fr (z : Int) k) k i (q' i)) := fun q' h1 h2 i hi => by
                  by_cases e : i = j
                  · subst e; exact ⟨fun _ => h1.2, fun h => by omega⟩
                  · rw [h2 i e]; exact ⟨fun h => (HREC.out i hi).1 (by omega), fun h => (HREC.out i hi).2 (by omega)⟩
                have HNX := Lib.hid hnext; clear hnext
                obtain ⟨dj, hdj⟩ : ∃ v, dayTo r f fr (z : Int) k j = v := ⟨_, rfl⟩
                rw [hdj] at m0
                by_cases hneg : dj < 0
                · cases his : (walksTo r f s P (beginV fr) (z : Int) (k + 1) j).is
                  · rw [his] at y0
                    have hk2 := rec_keep GG.out HS.out HPP.out hjs rj (.inr his)
                    have HK2 := Lib.hid hk2
                    have HN2 := Lib.hid (HNX.out q ⟨rfl, hk2.2⟩ (fun _ _ => rfl)); clear hk2 rj hdj his y1 y2
                    go_wp2_with fail
                    exact ⟨⟨j + 1, q, pa, pc, by omega, by go_num, HW.out, HDR.out.congr fun i hi => by
                      by_cases e : i = j
                      · subst e; rw [if_neg (Nat.lt_irrefl i), if_pos (by omega), HK2.out.1]
                      · by_cases c : i < j
                        · rw [if_pos c, if_pos (by omega)]
                        · rw [if_neg c, if_neg (by omega)], HWR.out, HN2.out, HB.out⟩, by simp [intOf]; omega⟩
                  · rw [his] at y0
                    have hk2 := rec_take GG.out HS.out HPP.out (by omega) hjs (by rw [hdj]; exact hneg) his
                    have HK2 := Lib.hid hk2
                    have HN2 := Lib.hid (HNX.out (fun i => if i = j then walksTo r f s P (beginV fr) (z : Int) (k + 1) j else q i) ⟨rfl, by rw [if_pos rfl]; exact hk2.2⟩ (fun i hi => if_neg hi)); clear hk2 rj hdj
                    have z1 := HWR.out.free (j * 3)
                    have z2 := HWR.out.free (j * 3 + 1)
                    have z3 := HWR.out.free (j * 3 + 2)
                    have p0 := HWR.out.c0 hjs
                    have p1 := HWR.out.c1 hjs
                    have p2 := HWR.out.c2 hjs
                    have hne := HNE.out
                    have hA := HDR.out.set j ((z : Int) + (k : Int))
                    have hC := HWR.out.neg (x := .int .i64 ((z : Int) + (k : Int))) HNE.out HNQ.out m0 hneg
                    have hE := HW.out.neg (x := .int .i64 ((z : Int) + (k : Int))) HQ2.out.1 HNW.out m0 hneg
                    have hF := HB.out.setCell (p := ⟨gd, j, none⟩) HGD.out (.int .i64 ((z : Int) + (k : Int)))
                    have hG := hC.set hjs (walksTo r f s P (beginV fr) (z : Int) (k + 1) j) (pa2 j) (pc2 j) (hE.plans j hjs)
                    have hk3 : ∀ b, b ≠ gw → ((((wr.setCell ⟨gd, j, none⟩ (.int .i64 ((z : Int) + (k : Int)))).setCell ⟨gw, j * 3, none⟩ (.bool (walksTo r f s P (beginV fr) (z : Int) (k + 1) j).is)).setCell ⟨gw, j * 3 + 1, none⟩ (.int .i64 (walksTo r f s P (beginV fr) (z : Int) (k + 1) j).lg)).setCell ⟨gw, j * 3 + 2, none⟩ (.slice (pa2 j) (walksTo r f s P (beginV fr) (z : Int) (k + 1) j).pl.length (pc2 j))).heap[b]? = (wr.setCell ⟨gd, j, none⟩ (.int .i64 ((z : Int) + (k : Int)))).heap[b]? := fun b hb => by
                      rw [Below.heap_setCell _ ⟨gw, j * 3 + 2, none⟩ _ b hb, Below.heap_setCell _ ⟨gw, j * 3 + 1, none⟩ _ b hb, Below.heap_setCell _ ⟨gw, j * 3, none⟩ _ b hb]
                    have HFIN := Lib.hid (And.intro hG (And.intro ((hk3 gd (fun e => HNE.out e.symm)).trans hA) (And.intro (hE.other hC HQ2.out.2 hk3) (((hF.setCell (p := ⟨gw, j * 3, none⟩) HGW.out (.bool (walksTo r f s P (beginV fr) (z : Int) (k + 1) j).is)).setCell (p := ⟨gw, j * 3 + 1, none⟩) HGW.out (.int .i64 (walksTo r f s P (beginV fr) (z : Int) (k + 1) j).lg)).setCell (p := ⟨gw, j * 3 + 2, none⟩) HGW.out (.slice (pa2 j) (walksTo r f s P (beginV fr) (z : Int) (k + 1) j).pl.length (pc2 j)))))); clear hG hA hC hE hF hk3
                    rw [his] at HFIN
                    go_wp2_with fail
                    refine ⟨⟨j + 1, _, _, _, by omega, by go_num, HFIN.out.2.2.1, IRow.congr HFIN.out.2.1 fun i hi => ?_, HFIN.out.1, HN2.out, HFIN.out.2.2.2⟩, by simp [intOf]; omega⟩
                    by_cases e : i = j
                    · subst e; rw [if_pos rfl, if_pos (by omega), HK2.out.1]
                    · rw [if_neg e]
                      by_cases c : i < j
                      · rw [if_pos c, if_pos (by omega)]
                      · rw [if_neg c, if_neg (by omega)]
                · have hk2 := rec_keep (P := P) GG.out HS.out HPP.out hjs rj (.inl (by rw [hdj]; omega))
                  have HK2 := Lib.hid hk2
                  have HN2 := Lib.hid (HNX.out q ⟨rfl, hk2.2⟩ (fun _ _ => rfl)); clear hk2 rj hdj y0 y1 y2
                  go_wp2_with fail
                  exact ⟨⟨j + 1, q, pa, pc, by omega, by go_num, HW.out, HDR.out.congr fun i hi => by
                    by_cases e : i = j
                    · subst e; rw [if_neg (Nat.lt_irrefl i), if_pos (by omega), HK2.out.1]
                    · by_cases c : i < j
                      · rw [if_pos c, if_pos (by omega)]
                      · rw [if_neg c, if_neg (by omega)], HWR.out, HN2.out, HB.out⟩, by simp [intOf]; omega⟩
              · obtain rfl : j = s := by omega
                have q4 : ¬ (j : Int) < (j : Int) := by omega
                have hw : wrap64 ((z : Int) + (k : Int) + 1) = ((z + (k + 1) : Nat) : Int) := by
                  rw [show (z : Int) + (k : Int) + 1 = ((z + (k + 1) : Nat) : Int) by omega]
                  unfold wrap64
                  omega
                have HWW := Lib.hid hw; clear hw
                go_wp2_with fail
                exact ⟨⟨k + 1, g2, c2, pa2, pc2, q, pa, pc, by omega, rfl, congrArg (Value.int .i64) (by omega), HW.out, HQ2.out, HDR.out.congr fun i hi => if_pos hi, HWR.out, fun i hi => (HREC.out i hi).1 hi, HB.out⟩, by simp [intOf]; omega⟩
          · have q3 : ¬ ((z + k : Nat) : Int) < (D : Int) := by omega
            obtain rfl : D - z = k := by omega
            go_wp2_with fail
            go_ret2
            exact ⟨gd, gw, rfl, HDR.out, q, ⟨pa, pc, HWR.out⟩, HREC.out, HB0.out.trans (HB.out.mono HB0.out.size)⟩
end Go.Proofs.Ytjgkgnfhglhklaa
