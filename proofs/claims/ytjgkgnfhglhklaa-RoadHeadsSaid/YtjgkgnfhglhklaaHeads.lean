/- The walk of RoadHeads. -/
import Derived.Test.YtjgkgnfhglhklaaFewerP
import Derived.Test.YtjgkgnfhglhklaaHeadsPub
import Derived.Deep.CutBlock
import Derived.Deep.RegionHeld3
namespace Go.Proofs.Ytjgkgnfhglhklaa
set_option linter.unusedSimpArgs false
set_option linter.unusedVariables false
open Go.RowKit

theorem headsR_can {r : Roads} {f : Flock} (g : Good r f) {fr tt : Nat} {d b : Int} : ∀ n : Nat, n ≤ 40 → ∀ k : Nat, 1 ≤ k → k ≤ n → canB r ⟨(k : Int), f.pace⟩ (-1) fr tt d b = decide (k ≤ headsR r f.pace fr tt d b n)
  | 0, _, k, h1, h2 => by omega
  | n + 1, hn, k, h1, h2 => by
    rw [headsR]
    cases hc : canB r ⟨((n + 1 : Nat) : Int), f.pace⟩ (-1) fr tt d b
    · rw [if_neg (by simp)]
      by_cases e : k = n + 1
      · subst e
        have := headsR_le r f.pace fr tt d b n
        rw [hc, decide_eq_false (by omega)]
      · exact headsR_can g n (by omega) k h1 (by omega)
    · rw [if_pos rfl, decide_eq_true (by omega)]
      exact can_better (g.heads (by omega) (by omega)) (g.heads (n := (k : Int)) (by omega) (by omega)) ⟨by dsimp only; omega, by dsimp only; omega⟩ hc
/-- road.Heads where its inputs are valid. -/
theorem Heads_good (w : World) {r : Roads} {f : Flock} (g : Good r f) (a : Option Addr) (cap S : Nat) (hS : r.stages = (S : Int)) (hs : StripsAt w a r.strips) (fr tt d b : Nat) (h1 : fr < S) (h2 : tt < S) (h3 : (d : Int) < r.days) (h4 : (b : Int) < r.days) :
    Calls Try.prog 48 #[.agg #[.int .i64 r.days, .int .i64 r.stages, .slice a r.strips.length cap], .int .i64 f.pace, .int .i64 (fr : Int), .int .i64 (tt : Int), .int .i64 (d : Int), .int .i64 (b : Int)] w
      fun e w' => Below w.heap.size w w' ∧ ((headsN r f.pace fr tt d b = 0 ∧ e = .returned (.tuple #[.int .i64 0, .int .i64 11])) ∨ (headsN r f.pace fr tt d b ≠ 0 ∧ e = .returned (.tuple #[.int .i64 ((headsN r f.pace fr tt d b : Nat) : Int), .int .i64 0]))) :=
  (Heads_any w r f.pace a cap hs (by have := g.n8; unfold maxLen; omega) fr tt d b).mono fun e w' h => by
    obtain ⟨hb, ⟨_, h⟩ | ⟨_, h⟩ | ⟨hz, _⟩⟩ := h
    · exact ⟨hb, .inl h⟩
    · exact ⟨hb, .inr h⟩
    · exact absurd (ready8 (g.heads (n := 1) (by omega) (by omega)) (by omega) (by omega) (by omega) (by omega) (by omega) h3 (by omega) h4) hz

set_option maxRecDepth 100000 in
set_option maxHeartbeats 4000000 in
theorem HeadsL_any (w : World) (a : Option Addr) (n c : Nat) (l : List Int) (hl : IntsAt w a l) (hn : l.length = n) (hm : n ≤ maxLen) (ha : l = [] ∨ ∀ ad, a = some ad → ad.block < w.heap.size) :
    Calls Try.prog 12 #[.slice a n c] w fun e w' => e = .returned (.bool true) ∧ Below w.heap.size w w' := by
  have HL := Lib.hid hl; clear hl
  have HA := Lib.hid ha; clear ha
  have HN := Lib.hid hn; clear hn
  go_enter Try.func12, Try.ntmps12
  go_wp2_with fail
  refine (NewHand_any w a n c l HL.out HN.out hm HA.out).mono ?_
  rintro e w1 ⟨rfl, hh1, hb1, hs1⟩
  clear HL HA HN
  have H1 := Lib.hid hh1; clear hh1
  have B1 := Lib.hid hb1; clear hb1
  go_wp2_with fail
  refine (RoadsOf_all w1 w.heap.size 0 a n c H1.out (by omega) 5 6 6 (by omega) (by omega) (by omega) (by omega) (by omega) (by omega)).mono ?_
  rintro e w2 ⟨r, v, hr, hown, rfl, hh2, hE2⟩
  obtain ⟨va, vc, rfl⟩ := hown.form
  have hvc := hown.cap
  have HR := Lib.hid hr; clear hr
  have HO := Lib.hid hown; clear hown
  have H2 := Lib.hid hh2; clear hh2 H1
  have E2 := Lib.hid hE2; clear hE2
  go_wp2_with fail
  refine (FlockOf_any w2 w.heap.size (0 + 200) a n c H2.out (by omega)).mono ?_
  rintro e w3 ⟨_, ⟨f, hf, rfl⟩, rfl, hh3, hE3⟩
  have HF := Lib.hid hf; clear hf
  obtain ⟨hRF, hh4, hlt3, hva⟩ := RF.laid (f := f) B1.out hs1 HO.out E2.out hE3 hh3
  have hK : HRF w _ w.heap.size 206 w3.heap.size (w3.heap.size + 1) r f va vc a n c := ⟨hRF, hh4, by omega, by omega, hva, Nat.le_refl _⟩
  have HK := Lib.hid hK
  clear hRF hh4 hva hK hh3 hE3 E2 H2 HO B1
  obtain ⟨s1, s2, d1, d2⟩ : 1 ≤ r.stages ∧ r.stages ≤ 6 ∧ 1 ≤ r.days ∧ r.days ≤ 10 := ⟨HR.out.s1, HR.out.s2, HR.out.d1, HR.out.d2⟩
  have G := Lib.hid (HR.out.good HF.out); clear HR HF
  go_wp2_with fail
  generalize hw4 : ((w3.alloc (.cells #[.int .i64 r.days, .int .i64 r.stages, .slice va r.strips.length vc] 24)).alloc (.cells #[.int .i64 f.heads, .int .i64 f.pace] 26)) = w4 at HK ⊢
  generalize hp : w3.heap.size = p at HK ⊢
  clear hlt3 hp hw4
  have hd := HK.out.drew
  have c0 := hd.rf.c0
  have c1 := hd.rf.c1
  have K1 := Lib.hid hd; clear hd HK
  have q1 : IntKind.i64.wrap (r.stages - 1) = r.stages - 1 := IntWalk.i64_in _ (by omega)
  have q2 : IntKind.i64.wrap (r.days - 1) = r.days - 1 := IntWalk.i64_in _ (by omega)
  go_cut [6, 7, 8] (fun v6 v7 v8 wx => ∃ x y z : Nat, v6 = .int .i64 (x : Int) ∧ v7 = .int .i64 (y : Int) ∧ v8 = .int .i64 (z : Int) ∧ (x : Int) < r.stages ∧ (y : Int) < r.stages ∧ (z : Int) < r.days ∧ HRF w wx w.heap.size (206 + 1 + 1 + 1) p (p + 1) r f va vc a n c)
  case first =>
    go_region_held3 (fun w' => w'.cell? ⟨p, 1, none⟩ = some (.int .i64 r.stages) ∧ w'.cell? ⟨p, 0, none⟩ = some (.int .i64 r.days)) (first | exact ⟨m21, m20⟩ | exact ⟨m11, m10⟩ | exact ⟨m01, m00⟩ | exact ⟨c1, c0⟩) (first
      | (go_at_call 34; refine (K3.out.upto (by omega) (r.days - 1) (by omega) (by omega)).mono ?_; rintro e w7 ⟨z, z1, rfl, hk⟩; have K4 := Lib.hid hk; have m20 := hk.rf.c0; have m21 := hk.rf.c1; clear hk)
      | (go_at_call 34; refine (K2.out.upto (by omega) (r.stages - 1) (by omega) (by omega)).mono ?_; rintro e w6 ⟨y, y1, rfl, hk⟩; have K3 := Lib.hid hk; have m10 := hk.rf.c0; have m11 := hk.rf.c1; clear hk)
      | (go_at_call 34; refine (K1.out.upto (by omega) (r.stages - 1) (by omega) (by omega)).mono ?_; rintro e w5 ⟨x, x1, rfl, hk⟩; have K2 := Lib.hid hk; have m00 := hk.rf.c0; have m01 := hk.rf.c1; clear hk))
    all_goals (go_wp2_with fail; go_meet; exact ⟨x, y, z, rfl, rfl, rfl, by omega, by omega, by omega, K4.out⟩)
  case rest =>
    obtain ⟨x, y, z, rfl, rfl, rfl, hx, hy, hz, hk⟩ := hcut
    clear c0 c1 K1 q1
    obtain ⟨S, hS⟩ := Int.eq_ofNat_of_zero_le (a := r.stages) (by omega)
    have hxS : x < S := by omega
    have hyS : y < S := by omega
    have hS6 : S ≤ 6 := by omega
    have HS := Lib.hid hS; clear hS hx hy s1 s2
    have c0 := hk.rf.c0
    have c1 := hk.rf.c1
    have HK := Lib.hid hk; clear hk
    have w2' : wrap64 (r.days - 1) = r.days - 1 := by unfold wrap64; omega
    go_wp2_with fail
    try rw [w2']
    refine (HK.out.among (by omega) z (r.days - 1) (by omega) (by omega)).mono ?_
    rintro e w7 ⟨b, hzb, hb2, rfl, hk⟩
    clear c0 c1 HK q2 w2'
    have hbd : (b : Int) < r.days := by omega
    have hrf := hk.rf
    clear hk
    have c0 := hrf.c0
    have c1 := hrf.c1
    have c2 := hrf.c2
    have e0 := hrf.d0
    have e1 := hrf.d1
    have HRF := Lib.hid hrf; clear hrf
    have hcan := fun (k : Nat) (i1 : 1 ≤ k) (i2 : k ≤ 40) => headsR_can G.out (fr := x) (tt := y) (d := (z : Int)) (b := (b : Int)) 40 (Nat.le_refl _) k i1 i2
    have hN40 := headsR_le r f.pace x y (z : Int) (b : Int) 40
    have HCAN := Lib.hid hcan; clear hcan
    go_wp2_with fail
    refine (Heads_good w7 G.out va vc S HS.out HRF.out.strips x y z b hxS hyS hz hbd).mono ?_
    have HN : ∃ N, N = headsN r f.pace x y (z : Int) (b : Int) := ⟨_, rfl⟩
    obtain ⟨N, hN⟩ := HN
    have hN40' : N ≤ 40 := by rw [hN]; exact hN40
    rw [← hN]
    have HNE := Lib.hid hN; clear hN hN40
    rintro e w8 ⟨hb8, ⟨hN0, rfl⟩ | ⟨hN0, rfl⟩⟩
    all_goals
      have HRF8 := Lib.hid (HRF.out.below hb8)
      clear c0 c1 c2 e0 e1 hb8 HRF
      go_wp2_with fail
      go_loopw [12] (fun v12 wx => ∃ k : Nat, 1 ≤ k ∧ k ≤ 41 ∧ v12 = .int .i64 (k : Int) ∧ RF w wx p (p + 1) r f va vc) (fun v _ => 41 - (intOf v).toNat)
      case atStart => exact ⟨1, by omega, by omega, rfl, HRF8.out⟩
      case round =>
        clear HRF8
        obtain ⟨k, hk1, hk2, rfl, hrf⟩ := hrel
        have c0 := hrf.c0
        have c1 := hrf.c1
        have c2 := hrf.c2
        have e0 := hrf.d0
        have e1 := hrf.d1
        have HRF := Lib.hid hrf; clear hrf
        by_cases hk : k ≤ 40
        · have q3 : (k : Int) ≤ 40 := by omega
          have gk := Lib.hid (G.out.heads (n := (k : Int)) (by omega) q3)
          go_wp2_with fail
          go_region_held3 (fun w' => w'.cell? ⟨p, 0, none⟩ = some (.int .i64 r.days) ∧ w'.cell? ⟨p, 1, none⟩ = some (.int .i64 r.stages) ∧ w'.cell? ⟨p, 2, none⟩ = some (.slice va r.strips.length vc) ∧ w'.cell? ⟨p + 1, 1, none⟩ = some (.int .i64 f.pace)) (first | exact ⟨m0, m1, m2, m3⟩ | exact ⟨l0, l1, l2, l3⟩ | exact ⟨c0, c1, c2, e1⟩) (first
            | (go_at_call 39; refine (in_can _ gk.out va vc S HS.out HR9.out.strips x y z b hxS hyS hzb hbd).mono ?_; rintro e w10 ⟨rfl, hb10⟩; have HR10 := Lib.hid (HR9.out.below hb10); have m0 := HR10.out.c0; have m1 := HR10.out.c1; have m2 := HR10.out.c2; have m3 := HR10.out.d1; clear hb10)
            | (go_at_call 49; refine (flock_any _ _ _).mono ?_; rintro e w9 ⟨rfl, hb9⟩; have HR9 := Lib.hid (HRF.out.drew.below hb9); have l0 := HR9.out.c0; have l1 := HR9.out.c1; have l2 := HR9.out.c2; have l3 := HR9.out.d1; clear hb9))
          all_goals
            rw [HCAN.out k hk1 hk, show headsR r f.pace x y (z : Int) (b : Int) 40 = N from HNE.out.symm]
            by_cases hkn : k ≤ N
            · first
                | omega
                | (rw [decide_eq_true hkn]
                   have q4 : (k : Int) ≤ (N : Int) := by omega
                   clear c0 c1 c2 e0 e1
                   go_wp2_with fail
                   exact ⟨⟨k + 1, by omega, by omega, by go_num, HR10.out⟩, by simp [intOf]; omega⟩)
            · rw [decide_eq_false hkn]
              have q4 : ¬ (k : Int) ≤ (N : Int) := by omega
              clear c0 c1 c2 e0 e1
              go_wp2_with fail
              exact ⟨⟨k + 1, by omega, by omega, by go_num, HR10.out⟩, by simp [intOf]; omega⟩
        · have q3 : ¬ (k : Int) ≤ 40 := by omega
          go_wp2_with fail
          refine (afoot_any wr).mono ?_
          rintro e w9 ⟨rfl, hb9⟩
          have hbF := HRF.out.bel.trans (hb9.mono HRF.out.bel.size)
          clear HRF c0 c1 c2 e0 e1 hb9
          go_wp2_with fail
          go_ret
          exact ⟨rfl, hbF⟩
end Go.Proofs.Ytjgkgnfhglhklaa
