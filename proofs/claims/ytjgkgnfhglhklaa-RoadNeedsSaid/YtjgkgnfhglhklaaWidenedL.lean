/- The walk of RoadWidened. -/
import Derived.Test.YtjgkgnfhglhklaaPicks
import Derived.Test.YtjgkgnfhglhklaaWiden
import Derived.Test.YtjgkgnfhglhklaaApp
import Derived.Test.YtjgkgnfhglhklaaHeadsPub
import Derived.Deep.CutBlock
import Derived.Deep.RegionHeld3
import Derived.Outline
namespace Go.Proofs.Ytjgkgnfhglhklaa
set_option linter.unusedSimpArgs false
set_option linter.unusedVariables false
open Go.RowKit

theorem wide_good {r : Roads} {f : Flock} (g : Good r f) (l : List Int) : Good (widenR r l) f := by
  refine ⟨g.d1, g.d2, g.s1, g.s2, by show (widenS r.strips l).length ≤ 8; rw [widenS_len]; exact g.n8, fun s hs => ?_, g.h1, g.h2, g.p1, g.p2⟩
  refine widenS_all (P := fun s => 0 ≤ s.A ∧ s.A < r.stages ∧ 0 ≤ s.B ∧ s.B < r.stages ∧ s.A ≠ s.B ∧ 1 ≤ s.L ∧ s.L ≤ 9 ∧ 1 ≤ s.W ∧ s.W ≤ 99 ∧
    ((s.K = 1 ∧ s.X = 0 ∧ s.Y = 0) ∨ (s.K = 2 ∧ 0 ≤ s.X ∧ s.X ≤ s.Y ∧ s.Y < r.days) ∨ (s.K = 3 ∧ 0 ≤ s.X ∧ s.X ≤ 20 ∧ -5 ≤ s.Y ∧ s.Y ≤ 5) ∨ (s.K = 4 ∧ 1 ≤ s.X ∧ s.X ≤ 40 ∧ s.Y = 0))) ?_ l r.strips g.strip s hs
  rintro s ⟨a, b, c, d, e, i, j, k, l, m⟩
  exact ⟨a, b, c, d, e, i, j, by show 1 ≤ max s.W 90; omega, by show max s.W 90 ≤ 99; omega, m⟩
theorem find_at {F : Nat → Option (List Int)} {N m : Nat} (hm : m < N) (h : ∀ k < m, F k = none) {x : List Int} (hx : F m = some x) : (List.range N).findSome? F = some x := by
  obtain ⟨d, rfl⟩ : ∃ d, N = m + (d + 1) := ⟨N - m - 1, by omega⟩
  rw [List.range_add, List.findSome?_append, List.findSome?_eq_none_iff.2 (fun k hk => h k (by simpa using hk)), List.range_succ_eq_map]
  simp [hx]
theorem widen_found {r : Roads} {f : Flock} {fr tt m i : Nat} {d b : Int} (hm : m ≤ r.strips.length) (h : ∀ k < m, ∀ l ∈ picksF r.strips.length k 0, widenT r f fr tt d b l = false) (hi : i < (picksF r.strips.length m 0).length)
    (hj : ∀ j (h' : j < (picksF r.strips.length m 0).length), j < i → widenT r f fr tt d b (picksF r.strips.length m 0)[j] = false) (ht : widenT r f fr tt d b (picksF r.strips.length m 0)[i] = true) :
    widenL r f fr tt d b = some (picksF r.strips.length m 0)[i] := by
  refine find_at (m := m) (by omega) (fun k hk => ?_) ?_
  · rw [List.find?_eq_none]
    intro l hl
    rw [h k hk l hl]; simp
  · rw [List.find?_eq_some_iff_getElem]
    exact ⟨ht, i, hi, rfl, fun j hji => by rw [hj j (by omega) hji]; rfl⟩
theorem widen_no {r : Roads} {f : Flock} {fr tt : Nat} {d b : Int} (h : ∀ k, k ≤ r.strips.length → ∀ l ∈ picksF r.strips.length k 0, widenT r f fr tt d b l = false) : widenL r f fr tt d b = none := by
  unfold widenL
  rw [List.findSome?_eq_none_iff]
  intro k hk
  rw [List.find?_eq_none]
  intro l hl
  rw [h k (by simp at hk; omega) l hl]; simp

/-- road.Widen where its inputs are valid. -/
theorem Widen_good (w : World) {r : Roads} {f : Flock} (g : Good r f) (a : Option Addr) (cap S : Nat) (hS : r.stages = (S : Int)) (hs : StripsAt w a r.strips) (fr tt d b : Nat) (h1 : fr < S) (h2 : tt < S) (h3 : (d : Int) < r.days) (h4 : (b : Int) < r.days) :
    Calls Try.prog 37 #[.agg #[.int .i64 r.days, .int .i64 r.stages, .slice a r.strips.length cap], .agg #[.int .i64 f.heads, .int .i64 f.pace], .int .i64 (fr : Int), .int .i64 (tt : Int), .int .i64 (d : Int), .int .i64 (b : Int)] w
      fun e w' => ∃ ga gc gl ge, e = .returned (.tuple #[.slice ga (gl : List Int).length gc, .int .i64 ge]) ∧ IntsAt w' ga gl ∧ Below w.heap.size w w' ∧ ((ge = 11 ∧ gl = [] ∧ widenL r f fr tt d b = none) ∨ (ge = 0 ∧ widenL r f fr tt d b = some gl)) :=
  (Widen_any w r f a cap hs (by have := g.n8; unfold maxLen; omega) fr tt d b).mono fun e w' h => by
    obtain ⟨hb, ⟨_, h, h'⟩ | ⟨_, L, v, h, h', hown⟩ | ⟨hz, _⟩⟩ := h
    · exact ⟨none, 0, [], 11, h', .inl rfl, hb, .inl ⟨rfl, rfl, h⟩⟩
    · obtain ⟨a', c', rfl, hi, _⟩ := hown.ints
      exact ⟨a', c', L, 0, h', hi, hb, .inr ⟨rfl, h⟩⟩
    · exact absurd (ready8 g (by omega) (by omega) (by omega) (by omega) (by omega) h3 (by omega) h4) hz
theorem StripsIn.drew {w : World} {g : Nat} {l : List Strip} (h : StripsIn w g l) : StripsIn w.drew g l := ⟨fun i hi => (h.at_ i hi).keep fun _ => rfl, fun o => h.free o⟩
theorem Ext.setW {m : Nat} {w w' : World} (h : Ext m w w') (o : Nat) (v : Value) : Ext m w (w'.setCell ⟨m, o, none⟩ v) :=
  have hb : Below 0 w' (w'.setCell ⟨m, o, none⟩ v) := (Below.refl 0 w').setCell (p := ⟨m, o, none⟩) (Nat.zero_le _) _
  h.trans ⟨hb.os, hb.tape, hb.output, by simp, fun b _ hne => Below.heap_setCell _ ⟨m, o, none⟩ _ b hne⟩
theorem StripsIn.setW2 {w : World} {g : Nat} {l : List Strip} (h : StripsIn w g l) {k : Nat} (hk : k < l.length) (x : Int) (hx : x = max l[k].W 90) : StripsIn (w.setCell ⟨g, k * 7 + 3, none⟩ (.int .i64 x)) g (l.modify k wide) := by
  subst hx; exact h.setW hk

set_option maxRecDepth 100000 in
set_option maxHeartbeats 4000000 in
theorem WidenedL_any (w : World) (a : Option Addr) (n c : Nat) (l : List Int) (hl : IntsAt w a l) (hn : l.length = n) (hm : n ≤ maxLen) (ha : l = [] ∨ ∀ ad, a = some ad → ad.block < w.heap.size) :
    Calls Try.prog 5 #[.slice a n c] w fun e w' => e = .returned (.bool true) ∧ Below w.heap.size w w' := by
  have HL := Lib.hid hl; clear hl
  have HA := Lib.hid ha; clear ha
  have HN := Lib.hid hn; clear hn
  go_enter Try.func5, Try.ntmps5
  go_wp2_with fail
  refine (NewHand_any w a n c l HL.out HN.out hm HA.out).mono ?_
  rintro e w1 ⟨rfl, hh1, hb1, hs1⟩
  clear HL HA HN
  have H1 := Lib.hid hh1; clear hh1
  have B1 := Lib.hid hb1; clear hb1
  go_wp2_with fail
  refine (RoadsOf_all w1 w.heap.size 0 a n c H1.out (by omega) 5 5 6 (by omega) (by omega) (by omega) (by omega) (by omega) (by omega)).mono ?_
  rintro e w2 ⟨r, v, hr, hown, rfl, hh2, hE2⟩
  obtain ⟨va, vc, rfl⟩ := hown.form
  have hvc := hown.cap
  have HR := Lib.hid hr; clear hr
  have HO := Lib.hid hown; clear hown
  have H2 := Lib.hid hh2; clear hh2 H1
  have E2 := Lib.hid hE2; clear hE2
  go_wp2_with fail
  refine (FlockOf_any w2 w.heap.size (0 + 200) a n c H2.out (by omega)).mono ?_
  rintro e w3 ⟨_, ⟨f, hf, rfl⟩, rfl, hh3, hE3⟩
  have HF := Lib.hid hf; clear hf
  obtain ⟨hRF, hh4, hlt3, hva⟩ := RF.laid (f := f) B1.out hs1 HO.out E2.out hE3 hh3
  have hK : HRF w _ w.heap.size 206 w3.heap.size (w3.heap.size + 1) r f va vc a n c := ⟨hRF, hh4, by omega, by omega, hva, Nat.le_refl _⟩
  have HK := Lib.hid hK
  clear hRF hh4 hva hK hh3 hE3 E2 H2 HO B1
  obtain ⟨s1, s2, d1, d2⟩ : 1 ≤ r.stages ∧ r.stages ≤ 6 ∧ 1 ≤ r.days ∧ r.days ≤ 10 := ⟨HR.out.s1, HR.out.s2, HR.out.d1, HR.out.d2⟩
  have G := Lib.hid (HR.out.good HF.out); clear HR HF
  go_wp2_with fail
  generalize hw4 : ((w3.alloc (.cells #[.int .i64 r.days, .int .i64 r.stages, .slice va r.strips.length vc] 24)).alloc (.cells #[.int .i64 f.heads, .int .i64 f.pace] 26)) = w4 at HK ⊢
  generalize hp : w3.heap.size = p at HK ⊢
  clear hlt3 hp hw4
  have hd := HK.out.drew
  have c0 := hd.rf.c0
  have c1 := hd.rf.c1
  have K1 := Lib.hid hd; clear hd HK
  have q1 : IntKind.i64.wrap (r.stages - 1) = r.stages - 1 := IntWalk.i64_in _ (by omega)
  have q2 : IntKind.i64.wrap (r.days - 1) = r.days - 1 := IntWalk.i64_in _ (by omega)
  go_cut [6, 7, 8] (fun v6 v7 v8 wx => ∃ x y z : Nat, v6 = .int .i64 (x : Int) ∧ v7 = .int .i64 (y : Int) ∧ v8 = .int .i64 (z : Int) ∧ (x : Int) < r.stages ∧ (y : Int) < r.stages ∧ (z : Int) < r.days ∧ HRF w wx w.heap.size (206 + 1 + 1 + 1) p (p + 1) r f va vc a n c)
  case first =>
    go_region_held3 (fun w' => w'.cell? ⟨p, 1, none⟩ = some (.int .i64 r.stages) ∧ w'.cell? ⟨p, 0, none⟩ = some (.int .i64 r.days)) (first | exact ⟨m21, m20⟩ | exact ⟨m11, m10⟩ | exact ⟨m01, m00⟩ | exact ⟨c1, c0⟩) (first
      | (go_at_call 34; refine (K3.out.upto (by omega) (r.days - 1) (by omega) (by omega)).mono ?_; rintro e w7 ⟨z, z1, rfl, hk⟩; have K4 := Lib.hid hk; have m20 := hk.rf.c0; have m21 := hk.rf.c1; clear hk)
      | (go_at_call 34; refine (K2.out.upto (by omega) (r.stages - 1) (by omega) (by omega)).mono ?_; rintro e w6 ⟨y, y1, rfl, hk⟩; have K3 := Lib.hid hk; have m10 := hk.rf.c0; have m11 := hk.rf.c1; clear hk)
      | (go_at_call 34; refine (K1.out.upto (by omega) (r.stages - 1) (by omega) (by omega)).mono ?_; rintro e w5 ⟨x, x1, rfl, hk⟩; have K2 := Lib.hid hk; have m00 := hk.rf.c0; have m01 := hk.rf.c1; clear hk))
    all_goals (go_wp2_with fail; go_meet; exact ⟨x, y, z, rfl, rfl, rfl, by omega, by omega, by omega, K4.out⟩)
  case rest =>
    obtain ⟨x, y, z, rfl, rfl, rfl, hx, hy, hz, hk⟩ := hcut
    clear c0 c1 K1 q1
    obtain ⟨S, hS⟩ := Int.eq_ofNat_of_zero_le (a := r.stages) (by omega)
    have hxS : x < S := by omega
    have hyS : y < S := by omega
    have hS6 : S ≤ 6 := by omega
    have HS := Lib.hid hS; clear hS hx hy s1 s2
    have c0 := hk.rf.c0
    have c1 := hk.rf.c1
    have HK := Lib.hid hk; clear hk
    have w2' : wrap64 (r.days - 1) = r.days - 1 := by unfold wrap64; omega
    go_wp2_with fail
    try rw [w2']
    refine (HK.out.among (by omega) z (r.days - 1) (by omega) (by omega)).mono ?_
    rintro e w7 ⟨b, hzb, hb2, rfl, hk⟩
    clear c0 c1 HK q2 w2'
    have hbd : (b : Int) < r.days := by omega
    have hrf := hk.rf
    clear hk
    have c0 := hrf.c0
    have c1 := hrf.c1
    have c2 := hrf.c2
    have e0 := hrf.d0
    have e1 := hrf.d1
    have HRF := Lib.hid hrf; clear hrf
    have hl8 := G.out.n8
    go_wp2_with fail
    refine (Widen_good w7 G.out va vc S HS.out HRF.out.strips x y z b hxS hyS hz hbd).mono ?_
    rintro e w8 ⟨ga, gc, gl, ge, rfl, hgi, hb8, hcase⟩
    have HRF8 := Lib.hid (HRF.out.below hb8)
    have HGI := Lib.hid hgi; clear hgi
    have HCASE := Lib.hid hcase; clear hcase
    clear c0 c1 c2 e0 e1 hb8 HRF
    go_wp2_with fail
    go_loopw [12] (fun v12 wx => ∃ m : Nat, m ≤ r.strips.length + 1 ∧ v12 = .int .i64 (m : Int) ∧ Below w8.heap.size w8 wx ∧ ∀ k < m, ∀ l ∈ picksF r.strips.length k 0, widenT r f x y z b l = false) (fun v _ => r.strips.length + 1 - (intOf v).toNat)
    case atStart => exact ⟨0, Nat.zero_le _, rfl, Below.refl _ _, fun k hk => absurd hk (by omega)⟩
    case round =>
      obtain ⟨m, hm, rfl, hbr, hno⟩ := hrel
      have HNO := Lib.hid hno; clear hno
      have hrf := HRF8.out.below hbr
      have c2 := hrf.c2
      have HRFr := Lib.hid hrf; clear hrf
      have HBR := Lib.hid hbr; clear hbr
      by_cases hmn : m ≤ r.strips.length
      · have q0 : (m : Int) ≤ (r.strips.length : Int) := by omega
        go_wp2_with fail
        refine (Picks_any r.strips.length hl8 m 0 wr (by omega) (by omega)).mono ?_
        rintro e wP ⟨vP, rfl, hP, hbP⟩
        have hPl := picks_len (n := r.strips.length) m 0
        have hPi := fun l (hl : l ∈ picksF r.strips.length m 0) => picks_in (n := r.strips.length) (m := m) hl
        have hfound := fun i hi hj ht => widen_found (r := r) (f := f) (fr := x) (tt := y) (m := m) (i := i) (d := (z : Int)) (b := (b : Int)) hmn HNO.out hi hj ht
        have hnext : (∀ l ∈ picksF r.strips.length m 0, widenT r f x y z b l = false) → ∀ k < m + 1, ∀ l ∈ picksF r.strips.length k 0, widenT r f x y z b l = false := fun h k hk => by
          by_cases e : k = m
          · subst e; exact h
          · exact HNO.out k (by omega)
        have hPc := picks_count (n := r.strips.length) 8 m 0 (by omega)
        generalize hPP : picksF r.strips.length m 0 = P at hP hPl hPi hfound hnext hPc
        clear hPP
        have hP256 : P.length ≤ 256 := hPc
        obtain ⟨pa, pc, hv, hpcap, hpne, hcells⟩ := hP.form
        subst hv
        have HPL := Lib.hid hPl; clear hPl
        have HPI := Lib.hid hPi; clear hPi
        have HFOUND := Lib.hid hfound; clear hfound
        have HNEXT := Lib.hid hnext; clear hnext
        have HP := Lib.hid hP; clear hP
        have HPNE := Lib.hid hpne; clear hpne
        have HCELLS := Lib.hid hcells; clear hcells
        have HRFP := Lib.hid (HRFr.out.below hbP)
        have HGP := Lib.hid (HGI.out.below (HBR.out.trans (hbP.mono HBR.out.size)))
        have HBP := Lib.hid (HBR.out.trans (hbP.mono HBR.out.size))
        clear c2 hbP hPc HRFr
        go_wp2_with fail
        go_loopw [14] (fun v14 wx => ∃ i : Nat, i ≤ P.length ∧ v14 = .int .i64 (i : Int) ∧ Below wP.heap.size wP wx ∧ ∀ j (h' : j < P.length), j < i → widenT r f x y z b P[j] = false) (fun v _ => P.length - (intOf v).toNat)
        case atStart => exact ⟨0, Nat.zero_le _, rfl, Below.refl _ _, fun j _ hj => absurd hj (by omega)⟩
        case round =>
          obtain ⟨i, hi, rfl, hbi, hnoi⟩ := hrel
          have HNOI := Lib.hid hnoi; clear hnoi
          have hrf := HRFP.out.below hbi
          have c0 := hrf.c0
          have c1 := hrf.c1
          have c2 := hrf.c2
          have HRFi := Lib.hid hrf; clear hrf
          have HBI := Lib.hid hbi; clear hbi
          by_cases hip : i < P.length
          · obtain ⟨gP, xv, hpa, hgP, hcell, hin⟩ := HCELLS.out i hip
            subst hpa
            obtain ⟨la, lc, hxv, hints⟩ := hin.ints
            subst hxv
            have HCP := Lib.hid hcell; clear hcell hin
            have hlm := HPL.out _ (List.getElem_mem hip)
            have hpi := HPI.out _ (List.getElem_mem hip)
            have hfnd := HFOUND.out i hip HNOI.out
            have hnx : widenT r f x y z b P[i] = false → ∀ j (h' : j < P.length), j < i + 1 → widenT r f x y z b P[j] = false := fun h j h' hj => by
              by_cases e : j = i
              · subst e; exact h
              · exact HNOI.out j h' (by omega)
            generalize P[i] = l at HCP hints hlm hpi hfnd hnx
            have HLI := Lib.hid hints; clear hints
            have hrange : ∀ k (h : k < l.length), 0 ≤ l[k] ∧ l[k] < r.strips.length := fun k h => by
              have h1 := hpi.lo k h
              have h2 := hpi.hi k h
              omega
            have HRG := Lib.hid hrange; clear hrange hpi
            have HLM := Lib.hid hlm; clear hlm
            have HFND := Lib.hid hfnd; clear hfnd
            have HNX := Lib.hid hnx; clear hnx
            have q1 : (i : Int) < (P.length : Int) := by omega
            go_wp2_with fail
            refine (CopyRoads_any wr r va vc HRFi.out.strips (by omega)).mono ?_
            rintro e w9 ⟨g, xc, rfl, hg1, hgin, hg2, hb9⟩
            have hbx : Below w9.heap.size w9 (w9.alloc (.cells #[.int .i64 r.days, .int .i64 r.stages, .slice (some ⟨g, 0, none⟩) r.strips.length xc] 24)) := Below.alloc (Below.refl _ _) (Nat.le_refl _) _
            have hbxx : Below wP.heap.size wP (w9.alloc (.cells #[.int .i64 r.days, .int .i64 r.stages, .slice (some ⟨g, 0, none⟩) r.strips.length xc] 24)) := HBI.out.trans ((hb9.mono HBI.out.size).trans (hbx.mono (by have := hb9.size; have := HBI.out.size; omega)))
            have hgin9 := hgin.below hbx hg2
            have hszr := HBI.out.size
            have hqg : w9.heap.size ≠ g := by omega
            have x0 : (w9.alloc (.cells #[.int .i64 r.days, .int .i64 r.stages, .slice (some ⟨g, 0, none⟩) r.strips.length xc] 24)).cell? ⟨w9.heap.size, 0, none⟩ = some (.int .i64 r.days) := by simp [go_sem]
            have x1 : (w9.alloc (.cells #[.int .i64 r.days, .int .i64 r.stages, .slice (some ⟨g, 0, none⟩) r.strips.length xc] 24)).cell? ⟨w9.heap.size, 1, none⟩ = some (.int .i64 r.stages) := by simp [go_sem]
            have x2 : (w9.alloc (.cells #[.int .i64 r.days, .int .i64 r.stages, .slice (some ⟨g, 0, none⟩) r.strips.length xc] 24)).cell? ⟨w9.heap.size, 2, none⟩ = some (.slice (some ⟨g, 0, none⟩) r.strips.length xc) := by simp [go_sem]
            clear c0 c1 c2 hb9 hbx hgin
            go_wp2_with fail
            generalize (w9.alloc (.cells #[.int .i64 r.days, .int .i64 r.stages, .slice (some ⟨g, 0, none⟩) r.strips.length xc] 24)) = W9 at hbxx hgin9 x0 x1 x2 ⊢
            generalize w9.heap.size = q at hqg x0 x1 x2 hg2 ⊢
            have X0 := Lib.hid x0; clear x0
            have X1 := Lib.hid x1; clear x1
            have X2 := Lib.hid x2; clear x2
            have HG9 := Lib.hid hgin9; clear hgin9
            have HBX := Lib.hid hbxx; clear hbxx
            have hgP : wP.heap.size ≤ g := by omega
            go_loopw [16] (fun v16 wx => ∃ k : Nat, k ≤ m ∧ v16 = .int .i64 (k : Int) ∧ StripsIn wx g (widenS r.strips (l.take k)) ∧ Ext g W9 wx) (fun v _ => m - (intOf v).toNat)
            case atStart => exact ⟨0, Nat.zero_le _, rfl, by simpa [widenS] using HG9.out, Ext.refl _ _⟩
            case round =>
              obtain ⟨k, hk, rfl, hin, hE⟩ := hrel
              have HIN := Lib.hid hin; clear hin
              have x2 := hE.cell_ne X2.out hqg
              have hbw : Below wP.heap.size wP wr := hE.below HBX.out hgP HBX.out.size
              have HE := Lib.hid hE; clear hE
              have HBW := Lib.hid hbw
              by_cases hkm : k < m
              · have q3 : (k : Int) < (m : Int) := by omega
                have hkl : k < l.length := by have := HLM.out; omega
                have y0 := ((bcell hbw).1 _ _ (lt_of_cell HCP.out)).trans HCP.out
                rcases HLI.out with hz | ⟨lb, lo, hla, hlc⟩
                · rw [hz] at hkl; simp at hkl
                have y1 := ((bcell hbw).1 _ _ (lt_of_cell (hlc k hkl))).trans (hlc k hkl)
                have hrg := HRG.out k hkl
                have htk : l.take (k + 1) = l.take k ++ [l[k]] := List.take_succ_eq_append_getElem hkl
                generalize hlk : l[k] = v at y1 hrg htk
                obtain ⟨j, hj⟩ := Int.eq_ofNat_of_zero_le hrg.1
                subst hj
                have hwt : widenS r.strips (l.take (k + 1)) = (widenS r.strips (l.take k)).modify j wide := by rw [htk, widenS_append]; rfl
                clear hlk hlc htk hbw
                have hjl : j < r.strips.length := by omega
                generalize hL : widenS r.strips (l.take k) = L at HIN hwt
                have hLl : L.length = r.strips.length := by rw [← hL]; exact widenS_len _ _
                have hjL : j < L.length := by omega
                have Hwt := Lib.hid hwt; clear hwt hL
                have HLl := Lib.hid hLl; clear hLl
                have hw3 := (HIN.out.at_ j hjL).c3
                have hfr := HIN.out.free (j * 7 + 3)
                have hset := HIN.out.setW2 hjL
                generalize hst : L[j] = s at hw3 hset
                have Hst := Lib.hid hst; clear hst
                have Hset := Lib.hid hset; clear hset
                subst hla
                have q4 : (k : Int) < (l.length : Int) := by omega
                have q5 : (j : Int) < (r.strips.length : Int) := by omega
                clear hrg
                go_wp2_with fail
                go_region
                go_wp2_with fail
                refine ⟨⟨k + 1, by omega, by go_num, ?_, (HE.out.setW _ _).trans (Ext.of_below (Below.refl _ _).drew)⟩, by simp [intOf]; omega⟩
                rw [Hwt.out]
                exact (Hset.out _ (by split <;> omega)).drew
              · have hkm' : l.take k = l := List.take_of_length_le (by have := HLM.out; omega)
                rw [hkm'] at HIN
                have q3 : ¬ (k : Int) < (m : Int) := by omega
                have hrf := HRFP.out.below hbw
                have y0 := ((bcell hbw).1 _ _ (lt_of_cell HCP.out)).trans HCP.out
                have x0 := HE.out.cell_ne X0.out hqg
                have x1 := HE.out.cell_ne X1.out hqg
                have e0 := hrf.d0
                have e1 := hrf.d1
                clear hkm' hbw
                have HRFk := Lib.hid hrf; clear hrf
                go_wp2_with fail
                have hlm2 : r.strips.length = (widenR r l).strips.length := (widenS_len l r.strips).symm
                have hCI := in_can wr (wide_good G.out l) (some ⟨g, 0, none⟩) xc S HS.out (.inr ⟨g, 0, rfl, fun j hj => by rw [Nat.zero_add]; exact HIN.out.at_ j hj⟩) x y z b hxS hyS hzb hbd
                rw [← hlm2] at hCI
                refine hCI.mono ?_
                clear hCI hlm2
                rintro e w12 ⟨rfl, hb12⟩
                have HB12 := Lib.hid (HBW.out.trans (hb12.mono HBW.out.size))
                have z0 := ((bcell hb12).1 _ _ (lt_of_cell y0)).trans y0
                have HRF12 := Lib.hid (HRFk.out.below hb12)
                have HLI12 := Lib.hid (HLI.out.below HB12.out)
                have HG12 := Lib.hid (HGP.out.below HB12.out)
                clear e0 e1 x0 x1 x2 y0 hb12 HRFk HIN
                have hTT : canB (widenR r l) f (-1) x y (z : Int) (b : Int) = widenT r f x y z b l := rfl
                rw [hTT]
                cases hT : widenT r f x y z b l
                · have HX := Lib.hid (HNX.out hT); clear hT hTT
                  go_wp2_with fail
                  exact ⟨⟨i + 1, by omega, by go_num, HB12.out, HX.out⟩, by simp [intOf]; omega⟩
                · have hF := HFND.out hT
                  clear hT hTT
                  rcases HCASE.out with ⟨h1, h2, h3⟩ | ⟨h1, h2⟩
                  · rw [hF] at h3; simp at h3
                  · rw [hF] at h2
                    obtain rfl : l = gl := by simpa using h2
                    subst h1
                    clear hF h2
                    have hm1 : l.length ≤ maxLen := by have := HLM.out; unfold maxLen; omega
                    go_wp2_with fail
                    refine (SameInts_any w12 ga la gc lc _ _ HG12.out HLI12.out hm1 hm1).mono ?_
                    rintro e w13 ⟨rfl, nn, rfl⟩
                    rw [show decide (l = l) = true from decide_eq_true rfl]
                    have HB13 := Lib.hid (below_drewN HRF12.out.bel nn)
                    clear z0
                    generalize w12.drewN nn = w13 at HB13 ⊢
                    go_wp2_with fail
                    refine (afoot_any w13).mono ?_
                    rintro e w14 ⟨rfl, hb14⟩
                    have hbF := HB13.out.trans (hb14.mono HB13.out.size)
                    clear hb14
                    go_wp2_with fail
                    go_ret
                    exact ⟨rfl, hbF⟩
          · have q1 : ¬ (i : Int) < (P.length : Int) := by omega
            go_wp2_with fail
            exact ⟨⟨m + 1, by omega, by go_num, HBP.out.trans (HBI.out.mono HBP.out.size), HNEXT.out (fun l hl => by
              obtain ⟨j, hj, rfl⟩ := List.getElem_of_mem hl
              exact HNOI.out j hj (by omega))⟩, by simp [intOf]; omega⟩
      · obtain rfl : m = r.strips.length + 1 := by omega
        have hN := widen_no (fun k hk => HNO.out k (by omega))
        rcases HCASE.out with ⟨h1, h2, h3⟩ | ⟨h1, h2⟩
        · subst h1 h2
          go_wp2_with fail
          refine (afoot_any wr).mono ?_
          rintro e w9 ⟨rfl, hb9⟩
          have hbF := HRFr.out.bel.trans (hb9.mono HRFr.out.bel.size)
          clear hb9
          go_wp2_with fail
          go_ret
          exact ⟨rfl, hbF⟩
        · rw [hN] at h2; simp at h2
end Go.Proofs.Ytjgkgnfhglhklaa
