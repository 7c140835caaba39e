/- The walk of RoadMust. -/
import Derived.Test.YtjgkgnfhglhklaaMustP
import Derived.Test.YtjgkgnfhglhklaaHeadsPub
import Derived.Test.YtjgkgnfhglhklaaApp
import Derived.Deep.CutBlock
import Derived.Deep.RegionHeld3
import Derived.Outline
namespace Go.Proofs.Ytjgkgnfhglhklaa
set_option linter.unusedSimpArgs false
set_option linter.unusedVariables false
open Go.RowKit

/-- road.Must where its inputs are valid. -/
theorem Must_good (w : World) {r : Roads} {f : Flock} (g : Good r f) (a : Option Addr) (cap S : Nat) (hS : r.stages = (S : Int)) (hs : StripsAt w a r.strips) (fr tt d b : Nat) (h1 : fr < S) (h2 : tt < S) (h3 : (d : Int) < r.days) (h4 : (b : Int) < r.days) :
    Calls Try.prog 52 #[.agg #[.int .i64 r.days, .int .i64 r.stages, .slice a r.strips.length cap], .agg #[.int .i64 f.heads, .int .i64 f.pace], .int .i64 (fr : Int), .int .i64 (tt : Int), .int .i64 (d : Int), .int .i64 (b : Int)] w
      fun e w' => Below w.heap.size w w' ∧ ((canB r f (-1) fr tt d b = false ∧ e = .returned (.tuple #[.slice none 0 0, .int .i64 11])) ∨
        (canB r f (-1) fr tt d b = true ∧ ∃ a' c', e = .returned (.tuple #[.slice a' (mustTo r f fr tt d b r.strips.length).length c', .int .i64 0]) ∧ IntsAt w' a' (mustTo r f fr tt d b r.strips.length))) :=
  (Must_any w r f a cap hs (by have := g.n8; unfold maxLen; omega) fr tt d b).mono fun e w' h => by
    obtain ⟨hb, ⟨_, h, h'⟩ | ⟨_, h, v, h', hown⟩ | ⟨hz, _⟩⟩ := h
    · exact ⟨hb, .inl ⟨h, h'⟩⟩
    · obtain ⟨a', c', rfl, hi, _⟩ := hown.ints
      exact ⟨hb, .inr ⟨h, a', c', h', hi⟩⟩
    · exact absurd (ready8 g (by omega) (by omega) (by omega) (by omega) (by omega) h3 (by omega) h4) hz
theorem erase_split {l : List Strip} {i : Nat} : l.take i ++ l.drop (i + 1) = l.eraseIdx i := by
  rw [List.eraseIdx_eq_take_drop_succ]
theorem StripsAt.keepB {w w' : World} {B b o : Nat} {l : List Strip} (h : StripsAt w (some ⟨b, o, none⟩) l) (hb : Below B w w') (hs : b < B) : StripsAt w' (some ⟨b, o, none⟩) l := by
  rcases h with h | ⟨b', o', ha, h⟩
  · exact .inl h
  · cases ha
    exact .inr ⟨b, o, rfl, fun k hk => (h k hk).keep fun j => hb.cell (p := ⟨b, j, none⟩) hs⟩
theorem StripsAt.take {w : World} {a : Option Addr} {l : List Strip} (h : StripsAt w a l) (i : Nat) : StripsAt w a (l.take i) := by
  rcases h with h | ⟨b, o, ha, h⟩
  · exact .inl (by simp [h])
  · exact .inr ⟨b, o, ha, fun k hk => by rw [List.length_take] at hk; rw [List.getElem_take]; exact h k (by omega)⟩
theorem StripsAt.drop {w : World} {b o : Nat} {l : List Strip} (h : StripsAt w (some ⟨b, o, none⟩) l) (i : Nat) : StripsAt w (some ⟨b, o + i * 7, none⟩) (l.drop i) := by
  rcases h with h | ⟨b', o', ha, h⟩
  · exact .inl (by simp [h])
  · cases ha
    exact .inr ⟨b, _, rfl, fun k hk => by rw [List.length_drop] at hk; rw [List.getElem_drop, Nat.add_assoc, ← Nat.add_mul]; exact h (i + k) (by omega)⟩

set_option maxRecDepth 100000 in
set_option maxHeartbeats 4000000 in
theorem MustL_any (w : World) (a : Option Addr) (n c : Nat) (l : List Int) (hl : IntsAt w a l) (hn : l.length = n) (hm : n ≤ maxLen) (ha : l = [] ∨ ∀ ad, a = some ad → ad.block < w.heap.size) :
    Calls Try.prog 14 #[.slice a n c] w fun e w' => e = .returned (.bool true) ∧ Below w.heap.size w w' := by
  have HL := Lib.hid hl; clear hl
  have HA := Lib.hid ha; clear ha
  have HN := Lib.hid hn; clear hn
  go_enter Try.func14, Try.ntmps14
  go_wp2_with fail
  refine (NewHand_any w a n c l HL.out HN.out hm HA.out).mono ?_
  rintro e w1 ⟨rfl, hh1, hb1, hs1⟩
  clear HL HA HN
  have H1 := Lib.hid hh1; clear hh1
  have B1 := Lib.hid hb1; clear hb1
  go_wp2_with fail
  refine (RoadsOf_all w1 w.heap.size 0 a n c H1.out (by omega) 5 7 6 (by omega) (by omega) (by omega) (by omega) (by omega) (by omega)).mono ?_
  rintro e w2 ⟨r, v, hr, hown, rfl, hh2, hE2⟩
  obtain ⟨va, vc, rfl⟩ := hown.form
  have hvc := hown.cap
  have HR := Lib.hid hr; clear hr
  have HO := Lib.hid hown; clear hown
  have H2 := Lib.hid hh2; clear hh2 H1
  have E2 := Lib.hid hE2; clear hE2
  go_wp2_with fail
  refine (FlockOf_any w2 w.heap.size (0 + 200) a n c H2.out (by omega)).mono ?_
  rintro e w3 ⟨_, ⟨f, hf, rfl⟩, rfl, hh3, hE3⟩
  have HF := Lib.hid hf; clear hf
  obtain ⟨hRF, hh4, hlt3, hva⟩ := RF.laid (f := f) B1.out hs1 HO.out E2.out hE3 hh3
  have hK : HRF w _ w.heap.size 206 w3.heap.size (w3.heap.size + 1) r f va vc a n c := ⟨hRF, hh4, by omega, by omega, hva, Nat.le_refl _⟩
  have HK := Lib.hid hK
  clear hRF hh4 hva hK hh3 hE3 E2 H2 HO B1
  obtain ⟨s1, s2, d1, d2⟩ : 1 ≤ r.stages ∧ r.stages ≤ 6 ∧ 1 ≤ r.days ∧ r.days ≤ 10 := ⟨HR.out.s1, HR.out.s2, HR.out.d1, HR.out.d2⟩
  have G := Lib.hid (HR.out.good HF.out); clear HR HF
  go_wp2_with fail
  generalize hw4 : ((w3.alloc (.cells #[.int .i64 r.days, .int .i64 r.stages, .slice va r.strips.length vc] 24)).alloc (.cells #[.int .i64 f.heads, .int .i64 f.pace] 26)) = w4 at HK ⊢
  generalize hp : w3.heap.size = p at HK ⊢
  clear hlt3 hp hw4
  have hd := HK.out.drew
  have c0 := hd.rf.c0
  have c1 := hd.rf.c1
  have K1 := Lib.hid hd; clear hd HK
  have q1 : IntKind.i64.wrap (r.stages - 1) = r.stages - 1 := IntWalk.i64_in _ (by omega)
  have q2 : IntKind.i64.wrap (r.days - 1) = r.days - 1 := IntWalk.i64_in _ (by omega)
  go_cut [6, 7, 8] (fun v6 v7 v8 wx => ∃ x y z : Nat, v6 = .int .i64 (x : Int) ∧ v7 = .int .i64 (y : Int) ∧ v8 = .int .i64 (z : Int) ∧ (x : Int) < r.stages ∧ (y : Int) < r.stages ∧ (z : Int) < r.days ∧ HRF w wx w.heap.size (206 + 1 + 1 + 1) p (p + 1) r f va vc a n c)
  case first =>
    go_region_held3 (fun w' => w'.cell? ⟨p, 1, none⟩ = some (.int .i64 r.stages) ∧ w'.cell? ⟨p, 0, none⟩ = some (.int .i64 r.days)) (first | exact ⟨m21, m20⟩ | exact ⟨m11, m10⟩ | exact ⟨m01, m00⟩ | exact ⟨c1, c0⟩) (first
      | (go_at_call 34; refine (K3.out.upto (by omega) (r.days - 1) (by omega) (by omega)).mono ?_; rintro e w7 ⟨z, z1, rfl, hk⟩; have K4 := Lib.hid hk; have m20 := hk.rf.c0; have m21 := hk.rf.c1; clear hk)
      | (go_at_call 34; refine (K2.out.upto (by omega) (r.stages - 1) (by omega) (by omega)).mono ?_; rintro e w6 ⟨y, y1, rfl, hk⟩; have K3 := Lib.hid hk; have m10 := hk.rf.c0; have m11 := hk.rf.c1; clear hk)
      | (go_at_call 34; refine (K1.out.upto (by omega) (r.stages - 1) (by omega) (by omega)).mono ?_; rintro e w5 ⟨x, x1, rfl, hk⟩; have K2 := Lib.hid hk; have m00 := hk.rf.c0; have m01 := hk.rf.c1; clear hk))
    all_goals (go_wp2_with fail; go_meet; exact ⟨x, y, z, rfl, rfl, rfl, by omega, by omega, by omega, K4.out⟩)
  case rest =>
    obtain ⟨x, y, z, rfl, rfl, rfl, hx, hy, hz, hk⟩ := hcut
    clear c0 c1 K1 q1
    obtain ⟨S, hS⟩ := Int.eq_ofNat_of_zero_le (a := r.stages) (by omega)
    have hxS : x < S := by omega
    have hyS : y < S := by omega
    have hS6 : S ≤ 6 := by omega
    have HS := Lib.hid hS; clear hS hx hy s1 s2
    have c0 := hk.rf.c0
    have c1 := hk.rf.c1
    have HK := Lib.hid hk; clear hk
    have w2' : wrap64 (r.days - 1) = r.days - 1 := by unfold wrap64; omega
    go_wp2_with fail
    try rw [w2']
    refine (HK.out.among (by omega) z (r.days - 1) (by omega) (by omega)).mono ?_
    rintro e w7 ⟨b, hzb, hb2, rfl, hk⟩
    clear c0 c1 HK q2 w2'
    have hbd : (b : Int) < r.days := by omega
    have hrf := hk.rf
    clear hk
    have c0 := hrf.c0
    have c1 := hrf.c1
    have c2 := hrf.c2
    have e0 := hrf.d0
    have e1 := hrf.d1
    have HRF := Lib.hid hrf; clear hrf
    go_wp2_with fail
    refine (Must_good w7 G.out va vc S HS.out HRF.out.strips x y z b hxS hyS hz hbd).mono ?_
    rintro e w8 ⟨hb8, ⟨hcan, rfl⟩ | ⟨hcan, ga, gc, rfl, hgot⟩⟩
    · have HRF8 := Lib.hid (HRF.out.below hb8)
      clear c0 c1 c2 e0 e1 hb8 HRF
      have c0 := HRF8.out.c0
      have c1 := HRF8.out.c1
      have c2 := HRF8.out.c2
      have e0 := HRF8.out.d0
      have e1 := HRF8.out.d1
      have HC := Lib.hid hcan; clear hcan
      go_wp2_with fail
      refine (in_can w8 G.out va vc S HS.out HRF8.out.strips x y z b hxS hyS hzb hbd).mono ?_
      rintro e w9 ⟨rfl, hb9⟩
      rw [HC.out]
      have HRF9 := Lib.hid (HRF8.out.below hb9)
      clear c0 c1 c2 e0 e1 hb9 HRF8
      go_wp2_with fail
      refine (afoot_any w9).mono ?_
      rintro e w10 ⟨rfl, hb10⟩
      have hbF := HRF9.out.bel.trans (hb10.mono HRF9.out.bel.size)
      clear HRF9 hb10
      go_wp2_with fail
      go_ret
      exact ⟨rfl, hbF⟩
    · have HRF8 := Lib.hid (HRF.out.below hb8)
      clear c0 c1 c2 e0 e1 hb8 HRF
      have c0 := HRF8.out.c0
      have c1 := HRF8.out.c1
      have c2 := HRF8.out.c2
      have e0 := HRF8.out.d0
      have e1 := HRF8.out.d1
      have HC := Lib.hid hcan; clear hcan
      have HGOT := Lib.hid hgot; clear hgot
      go_wp2_with fail
      refine (in_can w8 G.out va vc S HS.out HRF8.out.strips x y z b hxS hyS hzb hbd).mono ?_
      rintro e w9 ⟨rfl, hb9⟩
      rw [HC.out]
      have HRF9 := Lib.hid (HRF8.out.below hb9)
      have HGOT9 := Lib.hid (HGOT.out.below hb9)
      clear c0 c1 c2 e0 e1 hb9 HRF8 HGOT
      have hl8 := G.out.n8
      go_wp2_with fail
      go_loopw [14, 15] (fun v14 v15 wx => ∃ i : Nat, i ≤ r.strips.length ∧ v15 = .int .i64 (i : Int) ∧ OwnInts wx w9.heap.size v14 (mustTo r f x y z b i) ∧ Below w9.heap.size w9 wx) (fun _ v _ => r.strips.length - (intOf v).toNat)
      case atStart => exact ⟨0, Nat.zero_le _, rfl, OwnInts.nil _ _, Below.refl _ _⟩
      case round =>
        obtain ⟨i, hi, rfl, hown, hbr⟩ := hrel
        have hrf := HRF9.out.below hbr
        have hle := mustTo_le r f x y z b i
        have c0 := hrf.c0
        have c1 := hrf.c1
        have c2 := hrf.c2
        have e0 := hrf.d0
        have e1 := hrf.d1
        have HRF := Lib.hid hrf; clear hrf
        have HOWN := Lib.hid hown; clear hown
        by_cases hlt : i < r.strips.length
        · have hst := HRF.out.strips
          rcases hst with hx | ⟨sb, so, hva, hx⟩
          · rw [hx] at hlt; simp at hlt
          subst hva
          have hsb := lt_of_cell (hx i hlt).c0
          have HSB := Lib.hid (show sb < wr.heap.size + 1 by omega); clear hsb hx
          go_wp2_with fail
          have hb1 : Below wr.heap.size wr (wr.alloc (.cells #[.int .i64 r.days, .int .i64 r.stages, .slice (some ⟨sb, so, none⟩) r.strips.length vc] 24)) := Below.alloc (Below.refl _ _) (Nat.le_refl _) _
          have hsX : (wr.alloc (.cells #[.int .i64 r.days, .int .i64 r.stages, .slice (some ⟨sb, so, none⟩) r.strips.length vc] 24)).heap.size = wr.heap.size + 1 := by simp
          have x0 : (wr.alloc (.cells #[.int .i64 r.days, .int .i64 r.stages, .slice (some ⟨sb, so, none⟩) r.strips.length vc] 24)).cell? ⟨wr.heap.size, 0, none⟩ = some (.int .i64 r.days) := by simp [go_sem]
          have x1 : (wr.alloc (.cells #[.int .i64 r.days, .int .i64 r.stages, .slice (some ⟨sb, so, none⟩) r.strips.length vc] 24)).cell? ⟨wr.heap.size, 1, none⟩ = some (.int .i64 r.stages) := by simp [go_sem]
          have x2 : (wr.alloc (.cells #[.int .i64 r.days, .int .i64 r.stages, .slice (some ⟨sb, so, none⟩) r.strips.length vc] 24)).cell? ⟨wr.heap.size, 2, none⟩ = some (.slice (some ⟨sb, so, none⟩) r.strips.length vc) := by simp [go_sem]
          have f2 : (wr.alloc (.cells #[.int .i64 r.days, .int .i64 r.stages, .slice (some ⟨sb, so, none⟩) r.strips.length vc] 24)).frozen? ⟨wr.heap.size, 2, none⟩ = false := by simp [go_sem]
          generalize (wr.alloc (.cells #[.int .i64 r.days, .int .i64 r.stages, .slice (some ⟨sb, so, none⟩) r.strips.length vc] 24)) = wX at hb1 hsX x0 x1 x2 f2 ⊢
          have HRX := Lib.hid (HRF.out.below hb1)
          have HB1 := Lib.hid hb1
          have hsD : wX.drew.heap.size = wr.heap.size + 1 := hsX
          have hbE : Below wX.heap.size wX ((wX.alloc (.cells #[] 57)).drew) := ((Below.refl _ _).alloc (Nat.le_refl _) _).drew
          have hoe : OwnStrips (wX.alloc (.cells #[] 57)).drew (wr.heap.size + 1) (.slice (some ⟨wX.heap.size, 0, none⟩) 0 0) [] := own_empty wX (wr.heap.size + 1) (by omega)
          have HOE := Lib.hid hoe; clear hoe
          have HSE := Lib.hid (HRX.out.strips.below hbE)
          have k2 := HRX.out.c2
          have hpw : p < wr.heap.size := lt_of_cell c0
          have hpl : p < wr.heap.size + 1 := by have := lt_of_cell k2; omega
          have k3 : (wX.alloc (.cells #[] 57)).drew.cell? ⟨p, 2, none⟩ = some (.slice (some ⟨sb, so, none⟩) r.strips.length vc) := (hbE.cell (p := ⟨p, 2, none⟩) (lt_of_cell k2)).trans k2
          have K3 := Lib.hid k3; clear k3
          have HE := Lib.hid hbE
          have X0 := Lib.hid x0
          have X1 := Lib.hid x1
          have X2 := Lib.hid x2
          have F2 := Lib.hid f2
          have HSX := Lib.hid hsX
          have HSD := Lib.hid hsD
          have q1 : IntKind.i64.wrap ((i : Int) + 1) = (i : Int) + 1 := IntWalk.i64_in _ (by omega)
          have q2 : 0 ≤ (i : Int) + 1 := by omega
          have q3 : ((i : Int) + 1).toNat = i + 1 := by omega
          have q4 : (i : Int) ≤ (vc : Int) := by omega
          have q5 : (i : Int) + 1 ≤ (r.strips.length : Int) := by omega
          have q6 : (r.strips.length : Int) ≤ (vc : Int) := by omega
          have T1 := Lib.hid (show (r.strips.take i).length = i by rw [List.length_take]; omega)
          have T2 := Lib.hid (show ([] : List Strip).length + (r.strips.take i).length ≤ 1000 by rw [List.length_take]; simp; omega)
          have T3 := Lib.hid (show wr.heap.size + 1 ≤ ((wX.alloc (.cells #[] 57)).drew).heap.size by simp; omega)
          have T4 := Lib.hid (HSE.out.take i)
          clear c0 c1 c2 e0 e1 hb1 hsX hbE x0 x1 x2 f2 hsD
          have hWi : [] ++ r.strips.take i ++ r.strips.drop (i + 1) = (without r i).strips := by
            show _ = r.strips.eraseIdx i
            rw [List.nil_append, erase_split]
          have hLi : (without r i).strips.length ≤ 8 := (without_good G.out i).n8
          have HWI := Lib.hid hWi; clear hWi
          have T5 := Lib.hid (show (r.strips.drop (i + 1)).length = r.strips.length - (i + 1) by rw [List.length_drop])
          have T6 := Lib.hid (show ([] ++ r.strips.take i).length + (r.strips.drop (i + 1)).length ≤ 1000 by simp; omega)
          go_cut [16] (fun v16 wx => v16 = .pointer (some ⟨wr.heap.size, 0, none⟩) ∧ ∃ g gc, wx.cell? ⟨wr.heap.size, 0, none⟩ = some (.int .i64 r.days) ∧ wx.cell? ⟨wr.heap.size, 1, none⟩ = some (.int .i64 r.stages) ∧ wx.cell? ⟨wr.heap.size, 2, none⟩ = some (.slice (some ⟨g, 0, none⟩) (without r i).strips.length gc) ∧ StripsAt wx (some ⟨g, 0, none⟩) (without r i).strips ∧ Below wr.heap.size wr wx)
          case first =>
            by_cases hvi : vc = i + 1
            · subst hvi
              have q7 : r.strips.length - (i + 1) = 0 := by omega
              have Q7 := Lib.hid q7; clear q7
              have q8 : (i : Int) ≤ (i : Int) + 1 := by omega
              have q9 : ((i + 1 : Nat) : Int) = (i : Int) + 1 := by omega
              have q10 : (i : Int) < (i : Int) + 1 := by omega
              go_region_held3 (fun w' => w'.cell? ⟨p, 2, none⟩ = some (.slice (some ⟨sb, so, none⟩) r.strips.length (i + 1))) (first | exact M2.out | exact L2.out | exact k2 | exact (World.cell?_setCell_other _ _ _ _ (by intro e; injection e with e1; omega)).trans M2.out | go_keep)
                (first
                  | ((refine step_app_strips ?_ (.tmp 93) (.tmp 97) ?_ (wr.heap.size + 1) (.slice (some ⟨wX.heap.size, 0, none⟩) 0 0) [] ?_ ?_ (some ⟨sb, so, none⟩) (i + 1) i (r.strips.take i) ?_ ?_ ?_ ?_ ?_ ?_); (iterate 9 (first | rfl | exact HOE.out | exact T1.out | exact T4.out | exact T2.out | exact T3.out))
                     intro v1 w1 hown1 hb1 hv1; have HO1 := Lib.hid hown1; have HB2 := Lib.hid hb1; have HV1 := Lib.hid (hv1 (by simp)); have T7 := Lib.hid (Nat.le_trans T3.out hb1.size); have L2 := Lib.hid ((hb1.cell (p := ⟨p, 2, none⟩) hpl).trans K3.out); clear hown1 hb1 hv1)
                  | ((refine step_app_strips ?_ (.tmp 98) (.tmp 103) ?_ (wr.heap.size + 1) v1 ([] ++ r.strips.take i) ?_ ?_ (some ⟨sb, so, none⟩) 0 0 (r.strips.drop (i + 1)) ?_ ?_ ?_ ?_ ?_ ?_); (iterate 9 (first | rfl | exact HO1.out | exact T6.out | exact T7.out | exact T5.out.trans Q7.out | exact .inl (List.length_eq_zero_iff.1 (T5.out.trans Q7.out))))
                     intro v2 w2 hown2 hb3 hv3; rw [HWI.out] at hown2; obtain ⟨g2, gc2, rfl, hg1, hg2, hin⟩ := hown2.into (hv3 HV1.out); have HIN := Lib.hid hin; have hbW := ((HE.out.mono (Nat.le_of_eq HSX.out.symm)).trans HB2.out).trans hb3; have HBW := Lib.hid hbW; have M2 := Lib.hid ((hbW.cell (p := ⟨p, 2, none⟩) hpl).trans k2); have n2 := (hbW.cell (p := ⟨wr.heap.size, 2, none⟩) (Nat.lt_succ_self _)).trans X2.out; have nf := (hbW.frozen (p := ⟨wr.heap.size, 2, none⟩) (Nat.lt_succ_self _)).trans F2.out; clear hown2 hb3 hv3 hin hbW))
              all_goals
                go_wp2_with fail
                go_meet
                refine ⟨rfl, g2, gc2, ?_, ?_, ?_, ?_, ?_⟩
                · rw [World.cell?_setCell_other _ _ _ _ (by simp)]; exact (HBW.out.cell (p := ⟨wr.heap.size, 0, none⟩) (Nat.lt_succ_self _)).trans X0.out
                · rw [World.cell?_setCell_other _ _ _ _ (by simp)]; exact (HBW.out.cell (p := ⟨wr.heap.size, 1, none⟩) (Nat.lt_succ_self _)).trans X1.out
                · exact World.cell?_setCell_same _ _ _ n2
                · exact .inr ⟨g2, 0, rfl, fun k hk => by rw [Nat.zero_add]; exact (HIN.out.at_ k hk).keep fun j => World.cell?_setCell_other _ _ _ _ (fun e => by injection e with e1; omega)⟩
                · exact (HB1.out.trans (HBW.out.mono (Nat.le_succ _))).setCell (p := ⟨wr.heap.size, 2, none⟩) (Nat.le_refl _) _
            · have q7 : (i : Int) + 1 < (vc : Int) := by omega
              go_region_held3 (fun w' => w'.cell? ⟨p, 2, none⟩ = some (.slice (some ⟨sb, so, none⟩) r.strips.length vc)) (first | exact M2.out | exact L2.out | exact k2 | exact (World.cell?_setCell_other _ _ _ _ (by intro e; injection e with e1; omega)).trans M2.out | go_keep)
                (first
                  | ((refine step_app_strips ?_ (.tmp 93) (.tmp 97) ?_ (wr.heap.size + 1) (.slice (some ⟨wX.heap.size, 0, none⟩) 0 0) [] ?_ ?_ (some ⟨sb, so, none⟩) vc i (r.strips.take i) ?_ ?_ ?_ ?_ ?_ ?_); (iterate 9 (first | rfl | exact HOE.out | exact T1.out | exact T4.out | exact T2.out | exact T3.out))
                     intro v1 w1 hown1 hb1 hv1; have HO1 := Lib.hid hown1; have HB2 := Lib.hid hb1; have HV1 := Lib.hid (hv1 (by simp)); have T7 := Lib.hid (Nat.le_trans T3.out hb1.size); have L2 := Lib.hid ((hb1.cell (p := ⟨p, 2, none⟩) hpl).trans K3.out); clear hown1 hb1 hv1)
                  | ((refine step_app_strips ?_ (.tmp 98) (.tmp 103) ?_ (wr.heap.size + 1) v1 ([] ++ r.strips.take i) ?_ ?_ (some ⟨sb, so + (i + 1) * 7, none⟩) (vc - (i + 1)) (r.strips.length - (i + 1)) (r.strips.drop (i + 1)) ?_ ?_ ?_ ?_ ?_ ?_); (iterate 9 (first | rfl | exact HO1.out | exact T6.out | exact T7.out | exact T5.out | exact (HSE.out.keepB HB2.out HSB.out).drop (i + 1)))
                     intro v2 w2 hown2 hb3 hv3; rw [HWI.out] at hown2; obtain ⟨g2, gc2, rfl, hg1, hg2, hin⟩ := hown2.into (hv3 HV1.out); have HIN := Lib.hid hin; have hbW := ((HE.out.mono (Nat.le_of_eq HSX.out.symm)).trans HB2.out).trans hb3; have HBW := Lib.hid hbW; have M2 := Lib.hid ((hbW.cell (p := ⟨p, 2, none⟩) hpl).trans k2); have n2 := (hbW.cell (p := ⟨wr.heap.size, 2, none⟩) (Nat.lt_succ_self _)).trans X2.out; have nf := (hbW.frozen (p := ⟨wr.heap.size, 2, none⟩) (Nat.lt_succ_self _)).trans F2.out; clear hown2 hb3 hv3 hin hbW))
              all_goals
                go_wp2_with fail
                go_meet
                refine ⟨rfl, g2, gc2, ?_, ?_, ?_, ?_, ?_⟩
                · rw [World.cell?_setCell_other _ _ _ _ (by simp)]; exact (HBW.out.cell (p := ⟨wr.heap.size, 0, none⟩) (Nat.lt_succ_self _)).trans X0.out
                · rw [World.cell?_setCell_other _ _ _ _ (by simp)]; exact (HBW.out.cell (p := ⟨wr.heap.size, 1, none⟩) (Nat.lt_succ_self _)).trans X1.out
                · exact World.cell?_setCell_same _ _ _ n2
                · exact .inr ⟨g2, 0, rfl, fun k hk => by rw [Nat.zero_add]; exact (HIN.out.at_ k hk).keep fun j => World.cell?_setCell_other _ _ _ _ (fun e => by injection e with e1; omega)⟩
                · exact (HB1.out.trans (HBW.out.mono (Nat.le_succ _))).setCell (p := ⟨wr.heap.size, 2, none⟩) (Nat.le_refl _) _
          case rest =>
            obtain ⟨rfl, g, gc, y0, y1, y2, hys, hbY⟩ := hcut
            clear k2 q1 q2 q3 q4 q5 q6 hpl T1 T2 T3 T4 T5 T6 X0 X1 X2 F2 HSE HE K3 HOE HRX HB1 HSX HSD HWI
            have HRY := Lib.hid (HRF.out.below hbY)
            have e0 := HRY.out.d0
            have e1 := HRY.out.d1
            have hown2 := Lib.hid (HOWN.out.below hbY)
            have HYS := Lib.hid hys; clear hys
            have hbr2 := Lib.hid (hbr.trans (hbY.mono hbr.size)); clear hbY
            go_wp2_with fail
            refine (in_can _ (without_good G.out i) (some ⟨g, 0, none⟩) gc S HS.out HYS.out x y z b hxS hyS hzb hbd).mono ?_
            rintro e w12 ⟨rfl, hb12⟩
            rw [← can_without G.out]
            have hbr3 := hbr2.out.trans (hb12.mono hbr2.out.size)
            have hown3 := hown2.out.below hb12
            clear e0 e1 y0 y1 y2 hb12
            cases hT : canB r f (i : Int) x y z b
            · have he : mustTo r f x y z b (i + 1) = mustTo r f x y z b i ++ [(i : Int)] := by simp [mustTo, hT]
              have HE := Lib.hid he; clear he hT
              go_wp2_with (at_builtin; refine app_int1 rfl _ _ rfl w9.heap.size _ _ rfl hown3 _ rfl (by omega) hbr3.size ?_)
              intro v' w' hown' hbel _
              go_wp2_with fail
              exact ⟨⟨i + 1, by omega, by go_num, by rw [HE.out]; exact hown', hbr3.trans hbel⟩, by simp [intOf]; omega⟩
            · have he : mustTo r f x y z b (i + 1) = mustTo r f x y z b i := by simp [mustTo, hT]
              have HE := Lib.hid he; clear he hT
              go_wp2_with fail
              exact ⟨⟨i + 1, by omega, by go_num, by rw [HE.out]; exact hown3, hbr3⟩, by simp [intOf]; omega⟩
        · obtain rfl : i = r.strips.length := by omega
          obtain ⟨da, dc, hv, hdi, _⟩ := HOWN.out.ints
          subst hv
          have HG10 := Lib.hid (HGOT9.out.below hbr)
          have HD10 := Lib.hid hdi; clear hdi
          have hm1 : (mustTo r f x y z b r.strips.length).length ≤ maxLen := by unfold maxLen; omega
          go_wp2_with fail
          refine (SameInts_any wr ga da gc dc _ _ HG10.out HD10.out hm1 hm1).mono ?_
          rintro e w10 ⟨rfl, nn, rfl⟩
          have hd : decide (mustTo r f x y z b r.strips.length = mustTo r f x y z b r.strips.length) = true := decide_eq_true rfl
          rw [hd]
          have HB10 := Lib.hid (below_drewN HRF.out.bel nn)
          clear hd c0 c1 c2 e0 e1
          generalize wr.drewN nn = w10 at HB10 ⊢
          go_wp2_with fail
          refine (afoot_any w10).mono ?_
          rintro e w11 ⟨rfl, hb11⟩
          have hbF := HB10.out.trans (hb11.mono HB10.out.size)
          clear hb11
          go_wp2_with fail
          go_ret
          exact ⟨rfl, hbF⟩
end Go.Proofs.Ytjgkgnfhglhklaa
