/- The walk of RoadMirrored. -/
import Derived.Test.YtjgkgnfhglhklaaMirrorP
import Derived.Test.YtjgkgnfhglhklaaApp
import Derived.Test.YtjgkgnfhglhklaaHeadsPub
import Derived.Deep.CutBlock
import Derived.Deep.RegionHeld3
import Derived.Outline
namespace Go.Proofs.Ytjgkgnfhglhklaa
set_option linter.unusedSimpArgs false
set_option linter.unusedVariables false
open Go.RowKit

theorem Ext.setCell {m : Nat} {w w' : World} (h : Ext m w w') (o : Nat) (v : Value) : Ext m w (w'.setCell ⟨m, o, none⟩ v) :=
  have hb : Below 0 w' (w'.setCell ⟨m, o, none⟩ v) := (Below.refl 0 w').setCell (p := ⟨m, o, none⟩) (Nat.zero_le _) _
  h.trans ⟨hb.os, hb.tape, hb.output, by simp, fun b _ hne => Below.heap_setCell _ ⟨m, o, none⟩ _ b hne⟩
theorem RF.ext2 {w wx w' : World} {p q m : Nat} {r : Roads} {f : Flock} {va : Option Addr} {vc : Nat} (h : RF w wx p q r f va vc) (hE : Ext m wx w') (hp : p ≠ m) (hq : q ≠ m) (hv : r.strips = [] ∨ ∀ ad, va = some ad → ad.block ≠ m) (hm : w.heap.size ≤ m) : RF w w' p q r f va vc := by
  refine ⟨hE.cell_ne h.c0 hp, hE.cell_ne h.c1 hp, hE.cell_ne h.c2 hp, hE.cell_ne h.d0 hq, hE.cell_ne h.d1 hq, ?_, hE.below h.bel hm h.bel.size⟩
  rcases h.strips with hs | ⟨b, o, hb, hs⟩
  · exact .inl hs
  · rcases hv with hv | hv
    · exact .inl hv
    · exact .inr ⟨b, o, hb, fun i hi => (hs i hi).keep fun _ => World.cell?_of_block (hE.block b (lt_of_cell (hs i hi).c0) (hv _ hb))⟩
/-- The strips, those below i turned about. -/
def mirTo (last : Int) (l : List Strip) (i : Nat) : List Strip := l.mapIdx fun j s => if j < i then mirS last s else s
theorem mirTo_len (last : Int) (l : List Strip) (i : Nat) : (mirTo last l i).length = l.length := by simp [mirTo]
theorem mirTo_zero (last : Int) (l : List Strip) : mirTo last l 0 = l := by
  apply List.ext_getElem (by simp [mirTo])
  intro i h1 h2; simp [mirTo]
theorem mirTo_all (last : Int) (l : List Strip) : mirTo last l l.length = l.map (mirS last) := by
  apply List.ext_getElem (by simp [mirTo])
  intro i h1 h2; simp at h2; simp [mirTo, h2]
theorem mirTo_get (last : Int) (l : List Strip) (i : Nat) (h : i < l.length) : (mirTo last l i)[i]'(by rw [mirTo_len]; exact h) = l[i] := by simp [mirTo]
theorem mirTo_set (last : Int) (l : List Strip) (i : Nat) (h : i < l.length) : (mirTo last l i).set i (mirS last l[i]) = mirTo last l (i + 1) := by
  apply List.ext_getElem (by simp [mirTo])
  intro j h1 h2
  simp only [List.length_set, mirTo_len] at h1
  rw [List.getElem_set]
  by_cases e : i = j
  · subst e; simp [mirTo]
  · rw [if_neg e]
    simp only [mirTo, List.getElem_mapIdx]
    by_cases c : j < i
    · rw [if_pos c, if_pos (by omega)]
    · rw [if_neg c, if_neg (by omega)]
theorem mirTo_same (last : Int) (l : List Strip) (i : Nat) (h : i < l.length) (he : mirS last l[i] = l[i]) : mirTo last l i = mirTo last l (i + 1) := by
  rw [← mirTo_set last l i h, he]
  apply List.ext_getElem (by simp [mirTo])
  intro j h1 h2
  rw [List.getElem_set]
  split
  · rename_i e; subst e; exact mirTo_get last l _ h
  · rfl

/-- The last day to set out, by the days turned about. -/
theorem mirror_late {r : Roads} {f : Flock} (g : Good r f) (hm : mirFine r) {fr tt b D : Nat} (hD : r.days = (D : Int)) (hf : (fr : Int) < r.stages) (ht : (tt : Int) < r.stages) (hb : b < D) :
    let L := lateD r f fr tt (b : Int)
    let C := stayA (mirR r) f tt fr ((D - 1 - b : Nat) : Int)
    (0 ≤ L → C = r.days - 1 - L) ∧ (L < 0 → C < 0) := by
  intro L C
  have gm := mir_good g hm
  have hrange := late_range (r := r) (f := f) (fr := fr) (tt := tt) (b := b)
  have hst := stayA_range (r := mirR r) (f := f) (fr := tt) (tt := fr) (d := D - 1 - b) (by show _ < r.days; omega) (by exact hf)
  have key : ∀ d : Nat, d ≤ b → ((0 ≤ C ∧ C ≤ r.days - 1 - (d : Int)) ↔ (d : Int) ≤ L) := by
    intro d hd
    have hl : fr < (comesL (mirR r) f (-1) tt ((D - 1 - b : Nat) : Int)).length := by rw [comesL_len]; show fr < r.stages.toNat; omega
    have h1 := comes_can gm (fr := tt) (tt := fr) (d := D - 1 - b) (b := D - 1 - d) (by omega) (by show _ < r.days; omega) (by exact hf) hl (shut := -1)
    have e1 : C = (comesL (mirR r) f (-1) tt ((D - 1 - b : Nat) : Int))[fr] := by
      show stayA (mirR r) f tt fr ((D - 1 - b : Nat) : Int) = _
      unfold stayA
      rw [List.getD_eq_getElem?_getD, List.getElem?_eq_getElem hl]; rfl
    rw [← e1] at h1
    have h2 := can_mirror g hm (fr := fr) (tt := tt) hf ht (d := (d : Int)) (b := (b : Int)) (by omega) (by omega) (by omega)
    have e2 : r.days - 1 - (b : Int) = ((D - 1 - b : Nat) : Int) := by omega
    have e3 : r.days - 1 - (d : Int) = ((D - 1 - d : Nat) : Int) := by omega
    rw [e2, e3] at h2
    rw [h2] at h1
    have h3 : canB r f (-1) fr tt (d : Int) (b : Int) = decide ((d : Int) ≤ L) := by
      show _ = decide ((d : Int) ≤ lateD r f fr tt (b : Int))
      unfold lateD
      rw [show ((b : Int) + 1).toNat = b + 1 by omega]
      exact lateR_can g hf (b + 1) d (by omega)
    rw [h3] at h1
    rw [e3]
    have := congrArg (· = true) h1
    simpa using this
  have hC : 0 ≤ C → ((D - 1 - b : Nat) : Int) ≤ C := hst.2.2
  have hC2 : C < r.days := hst.2.1
  constructor
  · intro h0
    obtain ⟨k, hk⟩ := Int.eq_ofNat_of_zero_le h0
    have hkb : k ≤ b := by have := hrange.2; omega
    obtain ⟨a1, a2⟩ := (key k hkb).2 (by omega)
    by_cases e : k = b
    · have := hC a1; omega
    · have h4 := (key (k + 1) (by omega))
      have h5 : ¬ (((k + 1 : Nat) : Int) ≤ L) := by omega
      have h6 := fun h => h5 (h4.1 h)
      have : ¬ C ≤ r.days - 1 - ((k + 1 : Nat) : Int) := fun h => h6 ⟨a1, h⟩
      omega
  · intro h0
    have h4 := key 0 (by omega)
    by_cases hc : 0 ≤ C
    · have := h4.1 ⟨hc, by omega⟩; omega
    · omega

set_option maxRecDepth 100000 in
set_option maxHeartbeats 4000000 in
theorem MirrorL_any (w : World) (a : Option Addr) (n c : Nat) (l : List Int) (hl : IntsAt w a l) (hn : l.length = n) (hm : n ≤ maxLen) (ha : l = [] ∨ ∀ ad, a = some ad → ad.block < w.heap.size) :
    Calls Try.prog 10 #[.slice a n c] w fun e w' => e = .returned (.bool true) ∧ Below w.heap.size w w' := by
  have HL := Lib.hid hl; clear hl
  have HA := Lib.hid ha; clear ha
  have HN := Lib.hid hn; clear hn
  go_enter Try.func10, Try.ntmps10
  go_wp2_with fail
  refine (NewHand_any w a n c l HL.out HN.out hm HA.out).mono ?_
  rintro e w1 ⟨rfl, hh1, hb1, hs1⟩
  clear HL HA HN
  have H1 := Lib.hid hh1; clear hh1
  have B1 := Lib.hid hb1; clear hb1
  go_wp2_with fail
  refine (RoadsOf_all w1 w.heap.size 0 a n c H1.out (by omega) 6 8 10 (by omega) (by omega) (by omega) (by omega) (by omega) (by omega)).mono ?_
  rintro e w2 ⟨r, v, hr, hown, rfl, hh2, hE2⟩
  obtain ⟨va, vc, rfl⟩ := hown.form
  have hvc := hown.cap
  have HR := Lib.hid hr; clear hr
  have HO := Lib.hid hown; clear hown
  have H2 := Lib.hid hh2; clear hh2 H1
  have E2 := Lib.hid hE2; clear hE2
  go_wp2_with fail
  refine (FlockOf_any w2 w.heap.size (0 + 200) a n c H2.out (by omega)).mono ?_
  rintro e w3 ⟨_, ⟨f, hf, rfl⟩, rfl, hh3, hE3⟩
  have HF := Lib.hid hf; clear hf
  obtain ⟨hRF, hh4, hlt3, hva⟩ := RF.laid (f := f) B1.out hs1 HO.out E2.out hE3 hh3
  have hK : HRF w _ w.heap.size 206 w3.heap.size (w3.heap.size + 1) r f va vc a n c := ⟨hRF, hh4, by omega, by omega, hva, Nat.le_refl _⟩
  have HK := Lib.hid hK
  clear hRF hh4 hva hK hh3 hE3 E2 H2 HO B1
  obtain ⟨s1, s2, d1, d2⟩ : 1 ≤ r.stages ∧ r.stages ≤ 6 ∧ 1 ≤ r.days ∧ r.days ≤ 10 := ⟨HR.out.s1, HR.out.s2, HR.out.d1, HR.out.d2⟩
  have G := Lib.hid (HR.out.good HF.out); clear HR HF
  go_wp2_with fail
  generalize hw4 : ((w3.alloc (.cells #[.int .i64 r.days, .int .i64 r.stages, .slice va r.strips.length vc] 24)).alloc (.cells #[.int .i64 f.heads, .int .i64 f.pace] 26)) = w4 at HK ⊢
  generalize hp : w3.heap.size = p at HK ⊢
  clear hlt3 hp hw4
  have hd := HK.out.drew
  have c0 := hd.rf.c0
  have c1 := hd.rf.c1
  have K1 := Lib.hid hd; clear hd HK
  have q1 : IntKind.i64.wrap (r.stages - 1) = r.stages - 1 := IntWalk.i64_in _ (by omega)
  have q2 : IntKind.i64.wrap (r.days - 1) = r.days - 1 := IntWalk.i64_in _ (by omega)
  go_cut [6, 7, 8] (fun v6 v7 v8 wx => ∃ x y z : Nat, v6 = .int .i64 (x : Int) ∧ v7 = .int .i64 (y : Int) ∧ v8 = .int .i64 (z : Int) ∧ (x : Int) < r.stages ∧ (y : Int) < r.stages ∧ (z : Int) < r.days ∧ HRF w wx w.heap.size (206 + 1 + 1 + 1) p (p + 1) r f va vc a n c)
  case first =>
    go_region_held3 (fun w' => w'.cell? ⟨p, 1, none⟩ = some (.int .i64 r.stages) ∧ w'.cell? ⟨p, 0, none⟩ = some (.int .i64 r.days)) (first | exact ⟨m21, m20⟩ | exact ⟨m11, m10⟩ | exact ⟨m01, m00⟩ | exact ⟨c1, c0⟩) (first
      | (go_at_call 34; refine (K3.out.upto (by omega) (r.days - 1) (by omega) (by omega)).mono ?_; rintro e w7 ⟨z, z1, rfl, hk⟩; have K4 := Lib.hid hk; have m20 := hk.rf.c0; have m21 := hk.rf.c1; clear hk)
      | (go_at_call 34; refine (K2.out.upto (by omega) (r.stages - 1) (by omega) (by omega)).mono ?_; rintro e w6 ⟨y, y1, rfl, hk⟩; have K3 := Lib.hid hk; have m10 := hk.rf.c0; have m11 := hk.rf.c1; clear hk)
      | (go_at_call 34; refine (K1.out.upto (by omega) (r.stages - 1) (by omega) (by omega)).mono ?_; rintro e w5 ⟨x, x1, rfl, hk⟩; have K2 := Lib.hid hk; have m00 := hk.rf.c0; have m01 := hk.rf.c1; clear hk))
    all_goals (go_wp2_with fail; go_meet; exact ⟨x, y, z, rfl, rfl, rfl, by omega, by omega, by omega, K4.out⟩)
  case rest =>
    obtain ⟨x, y, z, rfl, rfl, rfl, hx, hy, hz, hk⟩ := hcut
    clear c0 c1 K1 q1
    obtain ⟨S, hS⟩ := Int.eq_ofNat_of_zero_le (a := r.stages) (by omega)
    have hxS : x < S := by omega
    have hyS : y < S := by omega
    have hS6 : S ≤ 6 := by omega
    have HS := Lib.hid hS; clear hS hx hy s1 s2
    have hrf := hk.rf
    clear hk q2
    have c0 := hrf.c0
    have c1 := hrf.c1
    have c2 := hrf.c2
    have e0 := hrf.d0
    have e1 := hrf.d1
    have HRF := Lib.hid hrf; clear hrf
    obtain ⟨D, hD⟩ := Int.eq_ofNat_of_zero_le (a := r.days) (by omega)
    have w2' : wrap64 (r.days - 1) = r.days - 1 := by unfold wrap64; omega
    have hl8 := G.out.n8
    have HD := Lib.hid hD; clear hD
    go_wp2_with fail
    refine (CopyRoads_any wc r va vc HRF.out.strips (by omega)).mono ?_
    rintro e w8 ⟨g, gc, rfl, hg1, hin, hg2, hb8⟩
    have hrf8 := HRF.out.below hb8
    have hbx : Below w8.heap.size w8 (w8.alloc (.cells #[.int .i64 r.days, .int .i64 r.stages, .slice (some ⟨g, 0, none⟩) r.strips.length gc] 24)) := Below.alloc (Below.refl _ _) (Nat.le_refl _) _
    have hrf9 := hrf8.below hbx
    have hin9 := hin.below hbx hg2
    have hgw : w.heap.size ≤ g := by have := HRF.out.bel.size; omega
    have hgp : p ≠ g ∧ p + 1 ≠ g := by have := lt_of_cell c0; have := lt_of_cell e0; omega
    have hgv : ∀ ad, va = some ad → r.strips ≠ [] → ad.block ≠ g := fun ad e hne => by
      rcases HRF.out.strips.lt with h | h
      · exact absurd h hne
      · have := h ad e; omega
    have hqg : w8.heap.size ≠ g := by omega
    have hsz9 : (w8.alloc (.cells #[.int .i64 r.days, .int .i64 r.stages, .slice (some ⟨g, 0, none⟩) r.strips.length gc] 24)).heap.size = w8.heap.size + 1 := by simp
    clear c0 c1 c2 e0 e1 hb8 HRF hbx hrf8 hin
    have x0 : (w8.alloc (.cells #[.int .i64 r.days, .int .i64 r.stages, .slice (some ⟨g, 0, none⟩) r.strips.length gc] 24)).cell? ⟨w8.heap.size, 0, none⟩ = some (.int .i64 r.days) := by simp [go_sem]
    have x1 : (w8.alloc (.cells #[.int .i64 r.days, .int .i64 r.stages, .slice (some ⟨g, 0, none⟩) r.strips.length gc] 24)).cell? ⟨w8.heap.size, 1, none⟩ = some (.int .i64 r.stages) := by simp [go_sem]
    have x2 : (w8.alloc (.cells #[.int .i64 r.days, .int .i64 r.stages, .slice (some ⟨g, 0, none⟩) r.strips.length gc] 24)).cell? ⟨w8.heap.size, 2, none⟩ = some (.slice (some ⟨g, 0, none⟩) r.strips.length gc) := by simp [go_sem]
    go_wp2_with fail
    generalize (w8.alloc (.cells #[.int .i64 r.days, .int .i64 r.stages, .slice (some ⟨g, 0, none⟩) r.strips.length gc] 24)) = W9 at hrf9 hin9 hsz9 x0 x1 x2 ⊢
    generalize w8.heap.size = q at hqg hsz9 x0 x1 x2 hg2 ⊢
    generalize hL : r.days - 1 = L
    have hL0 : 0 ≤ L := by omega
    have hL9 : L ≤ 9 := by omega
    have HLL := Lib.hid hL; clear hL
    have X0 := Lib.hid x0; clear x0
    have X1 := Lib.hid x1; clear x1
    have X2 := Lib.hid x2; clear x2
    have HR9 := Lib.hid hrf9; clear hrf9
    have HI9 := Lib.hid hin9; clear hin9
    have HGV := Lib.hid hgv; clear hgv
    go_loopw [11] (fun v11 wx => ∃ i : Nat, i ≤ r.strips.length ∧ v11 = .int .i64 (i : Int) ∧ StripsIn wx g (mirTo L r.strips i) ∧ Ext g W9 wx ∧ ∀ j (h : j < r.strips.length), j < i → r.strips[j].K = 3 → 0 ≤ r.strips[j].X + r.strips[j].Y * L ∧ r.strips[j].X + r.strips[j].Y * L ≤ 20) (fun v _ => r.strips.length - (intOf v).toNat)
    case atStart => exact ⟨0, Nat.zero_le _, rfl, by rw [mirTo_zero]; exact HI9.out, Ext.refl _ _, fun j _ hj => absurd hj (by omega)⟩
    case round =>
      obtain ⟨i, hi, rfl, hin, hE, hfine⟩ := hrel
      have x2 := hE.cell_ne X2.out hqg
      have HFI := Lib.hid hfine; clear hfine
      have HE := Lib.hid hE; clear hE
      by_cases hlt : i < r.strips.length
      · have hst := hin.at_ i (by rw [mirTo_len]; exact hlt)
        rw [mirTo_get L r.strips i hlt] at hst
        have f5 := hin.free (i * 7 + 5)
        have f6 := hin.free (i * 7 + 6)
        have hset := mirTo_set L r.strips i hlt
        have hsame := mirTo_same L r.strips i hlt
        have hgs := (G.out.strip r.strips[i] (List.getElem_mem hlt)).2.2.2.2.2.2.2.2.2
        have hfi : ∀ hk : r.strips[i].K = 3 → 0 ≤ r.strips[i].X + r.strips[i].Y * L ∧ r.strips[i].X + r.strips[i].Y * L ≤ 20, ∀ j (h : j < r.strips.length), j < i + 1 → r.strips[j].K = 3 → 0 ≤ r.strips[j].X + r.strips[j].Y * L ∧ r.strips[j].X + r.strips[j].Y * L ≤ 20 := by
          intro hk j h hj
          by_cases e : j = i
          · subst e; exact hk
          · exact HFI.out j h (by omega)
        have hll : (mirTo L r.strips i).length = r.strips.length := mirTo_len _ _ _
        have hget := mirTo_get L r.strips i hlt
        generalize hs : r.strips[i] = s at hst hset hsame hgs hfi hget
        obtain ⟨A, B, N, W, K, X, Y⟩ := s
        obtain ⟨s0, s1, s2, s3, s4, s5, s6⟩ := hst
        dsimp only at s0 s1 s2 s3 s4 s5 s6 hgs hfi
        have HSET := Lib.hid hset; clear hset
        have HSAME := Lib.hid hsame; clear hsame
        have HFN := Lib.hid hfi; clear hfi
        have HIN := Lib.hid hin; clear hin
        have HS0 := Lib.hid hs; clear hs
        have HLLN := Lib.hid hll; clear hll
        have HGET := Lib.hid hget; clear hget
        clear s0 s1 s2 s3
        have q1 : (i : Int) < (r.strips.length : Int) := by omega
        by_cases k2 : K = 2
        · subst k2
          obtain ⟨g1, g2', g3⟩ : 0 ≤ X ∧ X ≤ Y ∧ Y ≤ L := by have := HLL.out; omega
          have e1 : IntKind.i64.wrap (L - Y) = L - Y := IntWalk.i64_in _ (by omega)
          have e2 : IntKind.i64.wrap (L - X) = L - X := IntWalk.i64_in _ (by omega)
          clear hgs
          go_wp2_with fail
          go_quiet (fail)
          go_wp2_with fail
          refine ⟨⟨i + 1, by omega, by go_num, ?_, ((HE.out.trans (Ext.of_below (below_drewN (Below.refl _ _) nq))).setCell _ _).setCell _ _, HFN.out (fun h => absurd h (by decide))⟩, by simp [intOf]; omega⟩
          have h1 : StripsIn (wr.drewN nq) g (mirTo L r.strips i) := ⟨fun k hk => (HIN.out.at_ k hk).keep fun _ => by simp, fun o => by rw [← HIN.out.free o]; simp⟩
          have h2 := (h1.put (k := i) (j := 5) (by rw [HLLN.out]; exact hlt) (by omega) ⟨A, B, N, W, 2, L - Y, Y⟩ (.int .i64 (L - Y)) (by rw [HGET.out]; rfl)).put (k := i) (j := 6) (by rw [List.length_set, HLLN.out]; exact hlt) (by omega) ⟨A, B, N, W, 2, L - Y, L - X⟩ (.int .i64 (L - X)) (by rw [List.getElem_set_self]; rfl)
          rw [List.set_set, show (⟨A, B, N, W, 2, L - Y, L - X⟩ : Strip) = mirS L ⟨A, B, N, W, 2, X, Y⟩ from rfl, HSET.out] at h2
          exact h2
        · by_cases k3 : K = 3
          · subst k3
            obtain ⟨g1, g2', g3, g4⟩ : 0 ≤ X ∧ X ≤ 20 ∧ -5 ≤ Y ∧ Y ≤ 5 := by omega
            obtain ⟨m1, m2⟩ : -45 ≤ Y * L ∧ Y * L ≤ 45 := by
              obtain ⟨D', rfl⟩ := Int.eq_ofNat_of_zero_le hL0
              have : D' = 0 ∨ D' = 1 ∨ D' = 2 ∨ D' = 3 ∨ D' = 4 ∨ D' = 5 ∨ D' = 6 ∨ D' = 7 ∨ D' = 8 ∨ D' = 9 := by omega
              rcases this with rfl | rfl | rfl | rfl | rfl | rfl | rfl | rfl | rfl | rfl <;> omega
            have e1 : IntKind.i64.wrap (Y * L) = Y * L := IntWalk.i64_in _ (by omega)
            have e2 : IntKind.i64.wrap (X + Y * L) = X + Y * L := IntWalk.i64_in _ (by omega)
            have e3 : IntKind.i64.wrap (-Y) = -Y := IntWalk.i64_in _ (by omega)
            clear hgs
            go_wp2_with fail
            go_cut [84] (fun v84 wx => wx.cell? ⟨g, i * 7 + 5, none⟩ = some (.int .i64 (X + Y * L)) ∧ StripsIn wx g (mirTo L r.strips (i + 1)) ∧ Ext g W9 wx)
            case first =>
              go_region
              all_goals
                go_wp2_with fail
                go_meet
              all_goals
                have h1 : StripsIn wr.drew g (mirTo L r.strips i) := ⟨fun k hk => (HIN.out.at_ k hk).keep fun _ => by simp, fun o => by rw [← HIN.out.free o]; simp⟩
                have h2 := (h1.put (k := i) (j := 5) (by rw [HLLN.out]; exact hlt) (by omega) ⟨A, B, N, W, 3, X + Y * L, Y⟩ (.int .i64 (X + Y * L)) (by rw [HGET.out]; rfl)).put (k := i) (j := 6) (by rw [List.length_set, HLLN.out]; exact hlt) (by omega) ⟨A, B, N, W, 3, X + Y * L, -Y⟩ (.int .i64 (-Y)) (by rw [List.getElem_set_self]; rfl)
                rw [List.set_set, show (⟨A, B, N, W, 3, X + Y * L, -Y⟩ : Strip) = mirS L ⟨A, B, N, W, 3, X, Y⟩ from rfl, HSET.out] at h2
                refine ⟨?_, ?_, ?_⟩
                · show World.cell? ((wr.setCell ⟨g, i * 7 + 5, none⟩ (.int .i64 (X + Y * L))).setCell ⟨g, i * 7 + 6, none⟩ (.int .i64 (-Y))) ⟨g, i * 7 + 5, none⟩ = _
                  rw [World.cell?_setCell_other _ _ _ _ (by intro e; injection e with _ e2; omega)]
                  exact World.cell?_setCell_same _ _ _ s5
                · exact ⟨fun k hk => (h2.at_ k hk).keep fun _ => by simp [← World.setCell_drew], fun o => by rw [← h2.free o]; simp [World.frozen?_setCell]⟩
                · exact ((HE.out.setCell _ _).setCell _ _).trans (Ext.of_below (Below.refl _ _).drew)
            case rest =>
              obtain ⟨n5, hin2, hE2⟩ := hcut
              clear s4 s5 s6 f5 f6 e1 e2 e3 x2
              have HI2 := Lib.hid hin2; clear hin2
              have HE2 := Lib.hid hE2; clear hE2
              by_cases hneg : X + Y * L < 0
              · go_wp2_with fail
                refine (afoot_any wc).mono ?_
                rintro e w9 ⟨rfl, hb9⟩
                have hbF := (HE2.out.below HR9.out.bel hgw HR9.out.bel.size)
                have hbG := hbF.trans (hb9.mono hbF.size)
                clear hbF hb9
                go_wp2_with fail
                go_ret
                exact ⟨rfl, hbG⟩
              · by_cases hbig : 20 < X + Y * L
                · go_wp2_with fail
                  refine (afoot_any wc).mono ?_
                  rintro e w9 ⟨rfl, hb9⟩
                  have hbF := (HE2.out.below HR9.out.bel hgw HR9.out.bel.size)
                  have hbG := hbF.trans (hb9.mono hbF.size)
                  clear hbF hb9
                  go_wp2_with fail
                  go_ret
                  exact ⟨rfl, hbG⟩
                · go_wp2_with fail
                  exact ⟨⟨i + 1, by omega, by go_num, HI2.out, HE2.out, HFN.out (fun _ => ⟨by omega, by omega⟩)⟩, by simp [intOf]; omega⟩
          · go_wp2_with fail
            all_goals exact ⟨⟨i + 1, by omega, by go_num, by rw [← HSAME.out (by unfold mirS; rw [if_neg k2, if_neg k3])]; exact HIN.out, HE.out, HFN.out (fun h => absurd h k3)⟩, by simp [intOf]; omega⟩
      · obtain rfl : i = r.strips.length := by omega
        have hfm : mirFine r := fun s hs hk => by
          obtain ⟨j, hj, rfl⟩ := List.getElem_of_mem hs
          rw [HLL.out]
          exact HFI.out j hj hj hk
        have hml := mirror_late G.out hfm (fr := x) (tt := y) (b := z) HD.out (by have := HS.out; omega) (by have := HS.out; omega) (by have := HD.out; omega)
        dsimp only at hml
        rw [HLL.out] at hml
        rw [mirTo_all, ← HLL.out] at hin
        have hlm : r.strips.length = (mirR r).strips.length := by simp [mirR]
        have HIM := Lib.hid (show StripsIn wr g (mirR r).strips from hin); clear hin
        have gm := Lib.hid (mir_good G.out hfm)
        have HML := Lib.hid hml; clear hml
        clear x2
        have y0 := HE.out.cell_ne X0.out hqg
        have y1 := HE.out.cell_ne X1.out hqg
        have y2 := HE.out.cell_ne X2.out hqg
        have hrf := HR9.out.ext2 HE.out hgp.1 hgp.2 (by by_cases hn : r.strips = []; · exact .inl hn
                                                        · exact .inr fun ad e => HGV.out ad e hn) hgw
        have HLM := Lib.hid hlm; clear hlm
        have c0 := hrf.c0
        have c1 := hrf.c1
        have c2 := hrf.c2
        have e0 := hrf.d0
        have e1 := hrf.d1
        have HRF := Lib.hid hrf; clear hrf
        go_wp2_with fail
        refine (Late_good wr G.out va vc S HS.out HRF.out.strips x y z hxS hyS hz).mono ?_
        have hLr := late_range (r := r) (f := f) (fr := x) (tt := y) (b := z)
        generalize hLe : lateD r f x y (z : Int) = T at hLr ⊢
        have HLe := Lib.hid hLe; clear hLe
        obtain ⟨hT1, hT2⟩ := hLr
        rintro e w10 ⟨hb10, hcase⟩
        have HRF10 := Lib.hid (HRF.out.below hb10)
        have HIM10 := Lib.hid (HIM.out.below hb10 (by have := HE.out.size; omega))
        have k0 := ((bcell hb10).1 _ _ (lt_of_cell y0)).trans y0
        have k1 := ((bcell hb10).1 _ _ (lt_of_cell y1)).trans y1
        have k2 := ((bcell hb10).1 _ _ (lt_of_cell y2)).trans y2
        clear c0 c1 c2 e0 e1 hb10 HRF HIM y0 y1 y2
        have e0 := HRF10.out.d0
        have e1 := HRF10.out.d1
        have hzD : L - (z : Int) = ((D - 1 - z : Nat) : Int) := by have := HD.out; have := HLL.out; omega
        have HZD := Lib.hid hzD; clear hzD
        have hzL : (z : Int) ≤ L := by have := HLL.out; omega
        rcases hcase with ⟨hN, rfl⟩ | ⟨hN, rfl⟩
        all_goals
          go_wp2_with fail
          rw [HZD.out]
          have hCG := Comes_good w10 gm.out (some ⟨g, 0, none⟩) gc S HS.out (.inr ⟨g, 0, rfl, fun k hk => by rw [Nat.zero_add]; exact HIM10.out.at_ k hk⟩) y (D - 1 - z) hyS (by show _ < r.days; have := HD.out; omega)
          rw [← HLM.out] at hCG
          refine hCG.mono ?_
          clear hCG
          rintro e w11 ⟨gb, lc, rfl, hdays, hb11⟩
          have HRF11 := Lib.hid (HRF10.out.below hb11)
          have hlS : (comesL (mirR r) f (-1) y ((D - 1 - z : Nat) : Int)).length = S := by rw [comesL_len]; show r.stages.toNat = S; have := HS.out; omega
          have x1 := hdays x (by omega)
          have hyv : (comesL (mirR r) f (-1) y ((D - 1 - z : Nat) : Int))[x] = stayA (mirR r) f y x ((D - 1 - z : Nat) : Int) := by
            unfold stayA
            rw [List.getD_eq_getElem?_getD, List.getElem?_eq_getElem (by omega)]; rfl
          rw [hyv] at x1
          have hML := HML.out
          rw [HLe.out] at hML
          generalize stayA (mirR r) f y x ((D - 1 - z : Nat) : Int) = C at x1 hML
          clear hyv e0 e1 k0 k1 k2 hb11 hdays HRF10 HIM10
          have HlS := Lib.hid hlS; clear hlS
          have c1 := HRF11.out.c1
          rw [HS.out] at c1
          have q2 : (x : Int) < (S : Int) := by omega
        · have hC := hML.2 hN
          have hC' : decide (0 ≤ C) = false := decide_eq_false (by omega)
          clear hML
          go_wp2_with fail
          refine (afoot_any w11).mono ?_
          rintro e w12 ⟨rfl, hb12⟩
          have hbF := HRF11.out.bel.trans (hb12.mono HRF11.out.bel.size)
          clear hb12 c1 x1
          go_wp2_with fail
          go_ret
          exact ⟨rfl, hbF⟩
        · have hC := hML.1 hN
          clear hML
          subst hC
          have hC0 : 0 ≤ L - T := by omega
          go_wp2_with fail
          refine (afoot_any w11).mono ?_
          rintro e w12 ⟨rfl, hb12⟩
          have hbF := HRF11.out.bel.trans (hb12.mono HRF11.out.bel.size)
          clear hb12 c1 x1
          go_wp2_with fail
          go_ret
          exact ⟨rfl, hbF⟩
end Go.Proofs.Ytjgkgnfhglhklaa
