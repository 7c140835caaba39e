/- The walk of RoadFewer. -/
import Derived.Test.YtjgkgnfhglhklaaFewerP
import Derived.Test.YtjgkgnfhglhklaaBarsPub
import Derived.Deep.CutBlock
import Derived.Deep.RegionHeld3
import Derived.Outline
namespace Go.Proofs.Ytjgkgnfhglhklaa
set_option linter.unusedSimpArgs false
set_option linter.unusedVariables false
open Go.RowKit

theorem HRF.amongI {w wx : World} {hb B p q : Nat} {r : Roads} {f : Flock} {va : Option Addr} {vc : Nat} {a : Option Addr} {n c : Nat} (h : HRF w wx hb B p q r f va vc a n c) (hB : B ≤ 900000) (least most : Int) (h0 : 0 ≤ least) (h1 : least ≤ most) (h2 : most ≤ 1000) :
    Calls Try.prog 36 #[.pointer (some ⟨hb, 0, none⟩), .int .i64 least, .int .i64 most] wx fun e w' => ∃ x : Int, least ≤ x ∧ x ≤ most ∧ e = .returned (.int .i64 x) ∧ HRF w w' hb (B + 1) p q r f va vc a n c ∧ Ext hb wx w' :=
  (Among_any wx hb B a n c h.hand (by omega) least most (by omega) (by omega) (by omega) (by omega)).mono fun e w' hh => by
    obtain ⟨_, ⟨x, x1, x2, rfl⟩, rfl, hh1, hE⟩ := hh
    exact ⟨x, by omega, by omega, rfl, ⟨h.rf.ext hE h.hp h.hq h.hv h.hm, hh1, h.hp, h.hq, h.hv, h.hm⟩, hE⟩
theorem HRF.below {w wx w' : World} {hb B p q : Nat} {r : Roads} {f : Flock} {va : Option Addr} {vc : Nat} {a : Option Addr} {n c : Nat} (h : HRF w wx hb B p q r f va vc a n c) (hw : Below wx.heap.size wx w') : HRF w w' hb B p q r f va vc a n c :=
  ⟨h.rf.below hw, h.hand.below hw, h.hp, h.hq, h.hv, h.hm⟩
theorem StripsAt.ltF {w : World} {a : Option Addr} {l : List Strip} (h : StripsAt w a l) : l = [] ∨ ∀ ad, a = some ad → ad.block < w.heap.size := by
  rcases h with h | ⟨b, o, rfl, h⟩
  · exact .inl h
  · by_cases e : l = []
    · exact .inl e
    · exact .inr fun ad he => by cases he; exact lt_of_cell (h 0 (List.length_pos_iff.2 e)).c0
/-- A hand next to roads, a flock and a second flock. -/
structure HRG (w wx : World) (hb B p q q2 : Nat) (r : Roads) (f g : Flock) (va : Option Addr) (vc : Nat) (a : Option Addr) (n c : Nat) : Prop where
  h : HRF w wx hb B p q r f va vc a n c
  g0 : wx.cell? ⟨q2, 0, none⟩ = some (.int .i64 g.heads)
  g1 : wx.cell? ⟨q2, 1, none⟩ = some (.int .i64 g.pace)
  ne : q2 ≠ hb
theorem HRG.upto {w wx : World} {hb B p q q2 : Nat} {r : Roads} {f g : Flock} {va : Option Addr} {vc : Nat} {a : Option Addr} {n c : Nat} (h : HRG w wx hb B p q q2 r f g va vc a n c) (hB : B ≤ 900000) (most : Int) (h1 : 0 ≤ most) (h2 : most ≤ 1000) :
    Calls Try.prog 34 #[.pointer (some ⟨hb, 0, none⟩), .int .i64 most] wx fun e w' => ∃ x : Nat, (x : Int) ≤ most ∧ e = .returned (.int .i64 (x : Int)) ∧ HRG w w' hb (B + 1) p q q2 r f g va vc a n c :=
  (Upto_any wx hb B a n c h.h.hand (by omega) most (by omega) (by omega)).mono fun e w' hh => by
    obtain ⟨_, ⟨x, x1, x2, rfl⟩, rfl, hh1, hE⟩ := hh
    obtain ⟨k, rfl⟩ := Int.eq_ofNat_of_zero_le x1
    exact ⟨k, by omega, rfl, ⟨h.h.rf.ext hE h.h.hp h.h.hq h.h.hv h.h.hm, hh1, h.h.hp, h.h.hq, h.h.hv, h.h.hm⟩, hE.cell_ne h.g0 h.ne, hE.cell_ne h.g1 h.ne, h.ne⟩
theorem HRG.drew {w wx : World} {hb B p q q2 : Nat} {r : Roads} {f g : Flock} {va : Option Addr} {vc : Nat} {a : Option Addr} {n c : Nat} (h : HRG w wx hb B p q q2 r f g va vc a n c) : HRG w wx.drew hb B p q q2 r f g va vc a n c :=
  ⟨h.h.drew, h.g0, h.g1, h.ne⟩

theorem HRF.putF {w wx : World} {hb B p q m : Nat} {r : Roads} {f : Flock} {va : Option Addr} {vc : Nat} {a : Option Addr} {n c : Nat} (h : HRF w wx hb B p q r f va vc a n c) (h1 : p ≠ m) (h2 : q ≠ m) (hv : r.strips = [] ∨ ∀ ad, va = some ad → ad.block ≠ m) (hm : hb < m) (u v : Value) :
    HRF w ((wx.setCell ⟨m, 0, none⟩ u).setCell ⟨m, 1, none⟩ v) hb B p q r f va vc a n c := by
  have ho : ∀ b, b ≠ m → ((wx.setCell ⟨m, 0, none⟩ u).setCell ⟨m, 1, none⟩ v).heap[b]? = wx.heap[b]? := fun b hne => by
    rw [Below.heap_setCell _ ⟨m, 1, none⟩ _ b hne, Below.heap_setCell _ ⟨m, 0, none⟩ _ b hne]
  have hc : ∀ {b o : Nat} {x : Value}, wx.cell? ⟨b, o, none⟩ = some x → b ≠ m → ((wx.setCell ⟨m, 0, none⟩ u).setCell ⟨m, 1, none⟩ v).cell? ⟨b, o, none⟩ = some x := fun hx hne => (World.cell?_of_block (ho _ hne)).trans hx
  have hmw : w.heap.size ≤ m := Nat.le_trans h.hm (by omega)
  refine ⟨⟨hc h.rf.c0 h1, hc h.rf.c1 h1, hc h.rf.c2 h1, hc h.rf.d0 h2, hc h.rf.d1 h2, ?_, (h.rf.bel.setCell (p := ⟨m, 0, none⟩) hmw _).setCell (p := ⟨m, 1, none⟩) hmw _⟩, h.hand.keep fun b _ hb' => ho b (by omega), h.hp, h.hq, h.hv, h.hm⟩
  rcases h.rf.strips with hs | ⟨b, o, hb, hs⟩
  · exact .inl hs
  · rcases hv with hv | hv
    · exact .inl hv
    · exact .inr ⟨b, o, hb, fun i hi => (hs i hi).keep fun _ => World.cell?_of_block (ho b (hv _ hb))⟩
theorem HRG.newF {w wx : World} {hb B p q : Nat} {r : Roads} {f g : Flock} {va : Option Addr} {vc : Nat} {a : Option Addr} {n c : Nat} (h : HRF w wx hb B p q r f va vc a n c) :
    HRG w (wx.alloc (.cells #[.int .i64 g.heads, .int .i64 g.pace] 26)) hb B p q wx.heap.size r f g va vc a n c :=
  ⟨h.below (Below.alloc (Below.refl _ _) (Nat.le_refl _) _), by simp [go_sem], by simp [go_sem], by have := h.hand.lt; omega⟩
theorem HRG.putF {w wx : World} {hb B p q m : Nat} {r : Roads} {f g : Flock} {va : Option Addr} {vc : Nat} {a : Option Addr} {n c : Nat} (h : HRF w wx hb B p q r f va vc a n c) (h1 : p ≠ m) (h2 : q ≠ m) (hv : r.strips = [] ∨ ∀ ad, va = some ad → ad.block ≠ m) (hm : hb < m)
    {x y : Value} (o0 : wx.cell? ⟨m, 0, none⟩ = some x) (o1 : wx.cell? ⟨m, 1, none⟩ = some y) :
    HRG w ((wx.setCell ⟨m, 0, none⟩ (.int .i64 g.heads)).setCell ⟨m, 1, none⟩ (.int .i64 g.pace)) hb B p q m r f g va vc a n c :=
  ⟨h.putF h1 h2 hv hm _ _, by rw [World.cell?_setCell_other _ _ _ _ (by simp)]; exact World.cell?_setCell_same _ _ _ o0, World.cell?_setCell_same _ _ _ (u := y) (by rw [World.cell?_setCell_other _ _ _ _ (by simp)]; exact o1), by omega⟩

/-- Roads, a flock and a second flock. -/
structure RFG (w wx : World) (p q q2 : Nat) (r : Roads) (f g : Flock) (va : Option Addr) (vc : Nat) : Prop where
  rf : RF w wx p q r f va vc
  g0 : wx.cell? ⟨q2, 0, none⟩ = some (.int .i64 g.heads)
  g1 : wx.cell? ⟨q2, 1, none⟩ = some (.int .i64 g.pace)
theorem RFG.below {w wx w' : World} {p q q2 : Nat} {r : Roads} {f g : Flock} {va : Option Addr} {vc : Nat} (h : RFG w wx p q q2 r f g va vc) (hb : Below wx.heap.size wx w') : RFG w w' p q q2 r f g va vc :=
  ⟨h.rf.below hb, ((bcell hb).1 _ _ (lt_of_cell h.g0)).trans h.g0, ((bcell hb).1 _ _ (lt_of_cell h.g1)).trans h.g1⟩

/-- road.Bars where its inputs are valid. -/
theorem Bars_good (w : World) {r : Roads} {f : Flock} (g : Good r f) (a : Option Addr) (cap : Nat) (hs : StripsAt w a r.strips) (i d : Nat) (h1 : i < r.strips.length) (h2 : (d : Int) < r.days) :
    Calls Try.prog 41 #[.agg #[.int .i64 r.days, .int .i64 r.stages, .slice a r.strips.length cap], .agg #[.int .i64 f.heads, .int .i64 f.pace], .int .i64 (i : Int), .int .i64 (d : Int)] w
      fun e w' => ∃ a' c', e = .returned (.tuple #[.slice a' (barsL r.strips[i] f (d : Int)).length c', .int .i64 0]) ∧ IntsAt w' a' (barsL r.strips[i] f (d : Int)) ∧ Below w.heap.size w w' :=
  (Bars_any w r f a cap hs (by have := g.n8; unfold maxLen; omega) i d).mono fun e w' h => by
    rcases h with ⟨_, v, s, rfl, hs, hown, hb⟩ | ⟨hz, _⟩
    · obtain ⟨a', c', rfl, hi, _⟩ := hown.ints
      have : s = r.strips[i] := by simpa [h1] using hs.symm
      subst this
      exact ⟨a', c', rfl, hi, hb⟩
    · refine absurd ?_ hz
      obtain ⟨k1, k2⟩ := good_iff.1 g
      unfold readyErr
      rw [if_neg (by simp [k1]), if_neg (by simp [k2])]
      exact pairs4.2 ⟨⟨by omega, by omega⟩, by omega, h2⟩

set_option maxRecDepth 100000 in
set_option maxHeartbeats 4000000 in
theorem Fewer_any (w : World) (a : Option Addr) (n c : Nat) (l : List Int) (hl : IntsAt w a l) (hn : l.length = n) (hm : n ≤ maxLen) (ha : l = [] ∨ ∀ ad, a = some ad → ad.block < w.heap.size) :
    Calls Try.prog 7 #[.slice a n c] w fun e w' => e = .returned (.bool true) ∧ Below w.heap.size w w' := by
  have HL := Lib.hid hl; clear hl
  have HA := Lib.hid ha; clear ha
  have HN := Lib.hid hn; clear hn
  go_enter Try.func7, Try.ntmps7
  go_wp2_with fail
  refine (NewHand_any w a n c l HL.out HN.out hm HA.out).mono ?_
  rintro e w1 ⟨rfl, hh1, hb1, hs1⟩
  clear HL HA HN
  have H1 := Lib.hid hh1; clear hh1
  have B1 := Lib.hid hb1; clear hb1
  go_wp2_with fail
  refine (RoadsOf_all w1 w.heap.size 0 a n c H1.out (by omega) 6 8 10 (by omega) (by omega) (by omega) (by omega) (by omega) (by omega)).mono ?_
  rintro e w2 ⟨r, v, hr, hown, rfl, hh2, hE2⟩
  obtain ⟨va, vc, rfl⟩ := hown.form
  have HR := Lib.hid hr; clear hr
  have HO := Lib.hid hown; clear hown
  have H2 := Lib.hid hh2; clear hh2 H1
  have E2 := Lib.hid hE2; clear hE2
  go_wp2_with fail
  refine (FlockOf_any w2 w.heap.size (0 + 200) a n c H2.out (by omega)).mono ?_
  rintro e w3 ⟨_, ⟨f, hf, rfl⟩, rfl, hh3, hE3⟩
  have HF := Lib.hid hf; clear hf
  obtain ⟨hRF, hh4, hlt3, hva⟩ := RF.laid (f := f) B1.out hs1 HO.out E2.out hE3 hh3
  have hK : HRF w _ w.heap.size 206 w3.heap.size (w3.heap.size + 1) r f va vc a n c := ⟨hRF, hh4, by omega, by omega, hva, Nat.le_refl _⟩
  have HK := Lib.hid hK
  clear hRF hh4 hva hK hh3 hE3 E2 H2 HO B1
  obtain ⟨s1, s2, d1, d2⟩ : 1 ≤ r.stages ∧ r.stages ≤ 6 ∧ 1 ≤ r.days ∧ r.days ≤ 10 := ⟨HR.out.s1, HR.out.s2, HR.out.d1, HR.out.d2⟩
  have G := Lib.hid (HR.out.good HF.out); clear HR HF
  obtain ⟨k1, k2, k3, k4⟩ : 1 ≤ f.heads ∧ f.heads ≤ 40 ∧ 1 ≤ f.pace ∧ f.pace ≤ 9 := ⟨G.out.h1, G.out.h2, G.out.p1, G.out.p2⟩
  go_wp2_with fail
  generalize hw4 : ((w3.alloc (.cells #[.int .i64 r.days, .int .i64 r.stages, .slice va r.strips.length vc] 24)).alloc (.cells #[.int .i64 f.heads, .int .i64 f.pace] 26)) = w4 at HK ⊢
  generalize hp : w3.heap.size = p at HK ⊢
  clear hlt3 hp hw4
  have hd := HK.out.drew
  have c0 := hd.rf.c0
  have c1 := hd.rf.c1
  have e0 := hd.rf.d0
  have e1 := hd.rf.d1
  have K1 := Lib.hid hd; clear hd
  have hA : Below w4.heap.size w4 (w4.alloc (.cells #[.int .i64 0, .int .i64 0] 26)) := Below.alloc (Below.refl _ _) (Nat.le_refl _) _
  have K1a := Lib.hid ((HK.out.below hA).drew)
  have z0 : (w4.alloc (.cells #[.int .i64 0, .int .i64 0] 26)).drew.cell? ⟨w4.heap.size, 0, none⟩ = some (.int .i64 0) := by simp [go_sem]
  have z1 : (w4.alloc (.cells #[.int .i64 0, .int .i64 0] 26)).drew.cell? ⟨w4.heap.size, 1, none⟩ = some (.int .i64 0) := by simp [go_sem]
  have z2 : (w4.alloc (.cells #[.int .i64 0, .int .i64 0] 26)).drew.frozen? ⟨w4.heap.size, 0, none⟩ = false := by simp [go_sem]
  have z3 : (w4.alloc (.cells #[.int .i64 0, .int .i64 0] 26)).drew.frozen? ⟨w4.heap.size, 1, none⟩ = false := by simp [go_sem]
  have hw4 : w.heap.size < w4.heap.size := HK.out.hand.lt
  have hq4 : p + 1 < w4.heap.size := lt_of_cell e0
  have HV := Lib.hid (show r.strips = [] ∨ ∀ ad, va = some ad → ad.block ≠ w4.heap.size from HK.out.rf.strips.ltF.imp id fun h ad e => by have := h ad e; omega)
  have Z0 := Lib.hid z0; clear z0
  have Z1 := Lib.hid z1; clear z1
  have Z2 := Lib.hid z2; clear z2
  have Z3 := Lib.hid z3; clear z3
  have Z4 := Lib.hid (show w4.heap.size < (w4.alloc (.cells #[.int .i64 0, .int .i64 0] 26)).drew.heap.size by simp)
  clear hA HK
  go_cut [6] (fun v6 wx => ∃ (q2 : Nat) (g : Flock), v6 = .pointer (some ⟨q2, 0, none⟩) ∧ 1 ≤ g.heads ∧ g.heads ≤ f.heads ∧ f.pace ≤ g.pace ∧ g.pace ≤ 9 ∧ HRG w wx w.heap.size (206 + 1 + 1) p (p + 1) q2 r f g va vc a n c)
  case first =>
    go_region_held3 (fun w' => w'.cell? ⟨p + 1, 0, none⟩ = some (.int .i64 f.heads) ∧ w'.cell? ⟨p + 1, 1, none⟩ = some (.int .i64 f.pace)) (first | exact ⟨K3.out.rf.d0, K3.out.rf.d1⟩ | exact ⟨K2.out.rf.d0, K2.out.rf.d1⟩ | exact ⟨e0, e1⟩ | exact ⟨K1a.out.rf.d0, K1a.out.rf.d1⟩ | exact ⟨(K3.out.below (Below.alloc (Below.refl _ _) (Nat.le_refl _) _)).rf.d0, (K3.out.below (Below.alloc (Below.refl _ _) (Nat.le_refl _) _)).rf.d1⟩ | exact ⟨(K3.out.putF (by omega) (by omega) HV.out (by omega) _ _).rf.d0, (K3.out.putF (by omega) (by omega) HV.out (by omega) _ _).rf.d1⟩ | exact ⟨(K3.out.putF (by omega) (by omega) HV5.out (by omega) _ _).rf.d0, (K3.out.putF (by omega) (by omega) HV5.out (by omega) _ _).rf.d1⟩ | go_keep)
      (first
      | (go_at_call 36; (with_reducible refine (K2.out.amongI (by omega) f.pace 9 (by omega) (by omega) (by omega)).mono ?_); rintro e w6 ⟨y, y1, y2, rfl, hk, hE⟩; have K3 := Lib.hid hk; (try (have o0 := hE.cell_ne n0 (by omega); have o1 := hE.cell_ne n1 (by omega); have o2 := (hE.frozen_ne (lt_of_cell n0) (by omega)).trans n2; have o3 := (hE.frozen_ne (lt_of_cell n0) (by omega)).trans n3)); clear hk hE)
      | (go_at_call 36; (with_reducible refine ((K2.out.below (Below.alloc (Below.refl _ _) (Nat.le_refl _) _)).amongI (by omega) f.pace 9 (by omega) (by omega) (by omega)).mono ?_); rintro e w6 ⟨y, y1, y2, rfl, hk, hE⟩; have K3 := Lib.hid hk; have hw5 : w.heap.size < w5.heap.size := K2.out.hand.lt; have hq5 : p + 1 < w5.heap.size := lt_of_cell K2.out.rf.d0; have HV5 := Lib.hid (show r.strips = [] ∨ ∀ ad, va = some ad → ad.block ≠ w5.heap.size from K2.out.rf.strips.ltF.imp id fun h ad e => by have := h ad e; omega); have o0 := hE.cell_ne (b := w5.heap.size) (o := 0) (v := .int .i64 0) (by simp [go_sem]) (by omega); have o1 := hE.cell_ne (b := w5.heap.size) (o := 1) (v := .int .i64 0) (by simp [go_sem]) (by omega); have o2 := (hE.frozen_ne (b := w5.heap.size) (o := 0) (by simp) (by omega)).trans (by simp [go_sem] : _ = false); have o3 := (hE.frozen_ne (b := w5.heap.size) (o := 1) (by simp) (by omega)).trans (by simp [go_sem] : _ = false); clear hk hE)
      | (go_at_call 36; (with_reducible refine (K1.out.amongI (by omega) 1 f.heads (by omega) (by omega) (by omega)).mono ?_); rintro e w5 ⟨x, x1, x2, rfl, hk, hE⟩; have K2 := Lib.hid hk; clear hk hE)
      | (go_at_call 36; (with_reducible refine (K1a.out.amongI (by omega) 1 f.heads (by omega) (by omega) (by omega)).mono ?_); rintro e w5 ⟨x, x1, x2, rfl, hk, hE⟩; have K2 := Lib.hid hk; have n0 := hE.cell_ne Z0.out (by omega); have n1 := hE.cell_ne Z1.out (by omega); have n2 := (hE.frozen_ne (o := 0) Z4.out (by omega)).trans Z2.out; have n3 := (hE.frozen_ne (o := 1) Z4.out (by omega)).trans Z3.out; clear hk hE))
    all_goals (go_wp2_with fail; go_meet)
    all_goals first
      | exact ⟨_, ⟨x, y⟩, rfl, x1, x2, y1, y2, HRG.newF (g := ⟨x, y⟩) K3.out⟩
      | exact ⟨_, ⟨x, y⟩, rfl, x1, x2, y1, y2, HRG.putF (g := ⟨x, y⟩) K3.out (by omega) (by omega) HV5.out (by omega) o0 o1⟩
      | exact ⟨_, ⟨x, y⟩, rfl, x1, x2, y1, y2, HRG.putF (g := ⟨x, y⟩) K3.out (by omega) (by omega) HV.out (by omega) o0 o1⟩
  case rest =>
    obtain ⟨q2, g, rfl, g1, g2, g3, g4, hk⟩ := hcut
    clear c0 c1 e0 e1 K1 K1a Z0 Z1 Z2 Z3 Z4 hw4 hq4 HV k1 k2 k3 k4
    have HB := Lib.hid (show Better f g from ⟨g2, g3⟩)
    have GG := Lib.hid (show Good r g from ⟨G.out.d1, G.out.d2, G.out.s1, G.out.s2, G.out.n8, G.out.strip, g1, by have := G.out.h2; omega, by have := G.out.p1; omega, g4⟩)
    clear g1 g2 g3 g4
    go_wp2_with fail
    have hd := hk.drew
    have c0 := hd.h.rf.c0
    have c1 := hd.h.rf.c1
    have K1 := Lib.hid hd; clear hd hk
    have q1 : IntKind.i64.wrap (r.stages - 1) = r.stages - 1 := IntWalk.i64_in _ (by omega)
    have q2' : IntKind.i64.wrap (r.days - 1) = r.days - 1 := IntWalk.i64_in _ (by omega)
    go_cut [7, 8] (fun v7 v8 wx => ∃ x z : Nat, v7 = .int .i64 (x : Int) ∧ v8 = .int .i64 (z : Int) ∧ (x : Int) < r.stages ∧ (z : Int) < r.days ∧ RFG w wx p (p + 1) q2 r f g va vc)
    case first =>
      go_region_held3 (fun w' => w'.cell? ⟨p, 1, none⟩ = some (.int .i64 r.stages) ∧ w'.cell? ⟨p, 0, none⟩ = some (.int .i64 r.days)) (first | exact ⟨K3.out.h.rf.c1, K3.out.h.rf.c0⟩ | exact ⟨K2.out.h.rf.c1, K2.out.h.rf.c0⟩ | exact ⟨c1, c0⟩)
        (first
        | (go_at_call 34; (with_reducible refine (K2.out.upto (by omega) (r.days - 1) (by omega) (by omega)).mono ?_); rintro e w6 ⟨z, z1, rfl, hk⟩; have K3 := Lib.hid hk; clear hk)
        | (go_at_call 34; (with_reducible refine (K1.out.upto (by omega) (r.stages - 1) (by omega) (by omega)).mono ?_); rintro e w5 ⟨x, x1, rfl, hk⟩; have K2 := Lib.hid hk; clear hk))
      all_goals (go_wp2_with fail; go_meet; exact ⟨x, z, rfl, rfl, by omega, by omega, K3.out.h.rf, K3.out.g0, K3.out.g1⟩)
    case rest =>
      obtain ⟨x, z, rfl, rfl, hx, hz, hrf⟩ := hcut
      clear c0 c1 K1 q1 q2'
      have HR := Lib.hid hrf; clear hrf
      have hl8 := G.out.n8
      obtain ⟨S, hS⟩ := Int.eq_ofNat_of_zero_le (a := r.stages) (by omega)
      have hxS : x < S := by omega
      have hS6 : S ≤ 6 := by omega
      have HS := Lib.hid hS; clear hS hx s1 s2
      go_wp2_with fail
      go_loopw [9] (fun v9 wx => ∃ i : Nat, i ≤ r.strips.length ∧ v9 = .int .i64 (i : Int) ∧ RFG w wx p (p + 1) q2 r f g va vc) (fun v _ => r.strips.length - (intOf v).toNat)
      case atStart => exact ⟨0, Nat.zero_le _, rfl, HR.out⟩
      case round =>
        clear HR
        obtain ⟨i, hi, rfl, hrf⟩ := hrel
        have c2 := hrf.rf.c2
        have HR := Lib.hid hrf; clear hrf
        by_cases hlt : i < r.strips.length
        · go_wp2_with fail
          clear c2
          go_loopw [10] (fun v10 wx => ∃ d : Nat, (d : Int) ≤ r.days ∧ v10 = .int .i64 (d : Int) ∧ RFG w wx p (p + 1) q2 r f g va vc) (fun v _ => r.days.toNat - (intOf v).toNat)
          case atStart => exact ⟨0, by omega, rfl, HR.out⟩
          case round =>
            clear HR
            obtain ⟨d, hd, rfl, hrf⟩ := hrel
            have c0 := hrf.rf.c0
            have c1 := hrf.rf.c1
            have c2 := hrf.rf.c2
            have e0 := hrf.rf.d0
            have e1 := hrf.rf.d1
            have HR := Lib.hid hrf; clear hrf
            by_cases hdd : (d : Int) < r.days
            · go_wp2_with fail
              refine (Bars_good wr G.out va vc HR.out.rf.strips i d hlt hdd).mono ?_
              rintro e w7 ⟨aa, ac, rfl, hai, hb7⟩
              have HR7 := Lib.hid (HR.out.below hb7)
              have HA7 := Lib.hid hai; clear hai
              clear c0 c1 c2 e0 e1 hb7 HR
              have c0 := HR7.out.rf.c0
              have c1 := HR7.out.rf.c1
              have c2 := HR7.out.rf.c2
              have e0 := HR7.out.g0
              have e1 := HR7.out.g1
              go_wp2_with fail
              refine (Bars_good w7 GG.out va vc HR7.out.rf.strips i d hlt hdd).mono ?_
              rintro e w8 ⟨ba, bc, rfl, hbi, hb8⟩
              have HR8 := Lib.hid (HR7.out.below hb8)
              have HA8 := Lib.hid (HA7.out.below hb8)
              have HB8 := Lib.hid hbi; clear hbi
              clear c0 c1 c2 e0 e1 hb8 HR7 HA7
              have hsub : ∀ v, v ∈ barsL r.strips[i] g (d : Int) → v ∈ barsL r.strips[i] f (d : Int) := fun v hv => bars_better HB.out hv
              have hal : (barsL r.strips[i] f (d : Int)).length ≤ 5 := barsTo_le _ _ _ 5
              have hbl : (barsL r.strips[i] g (d : Int)).length ≤ 5 := barsTo_le _ _ _ 5
              generalize barsL r.strips[i] f (d : Int) = la at HA8 hsub hal ⊢
              generalize barsL r.strips[i] g (d : Int) = lb at HB8 hsub hbl ⊢
              have HSUB := Lib.hid hsub; clear hsub
              go_wp2_with fail
              go_loop [15] (fun v15 => ∃ n : Nat, n ≤ lb.length ∧ v15 = .int .i64 (n : Int)) (fun v => lb.length - (intOf v).toNat)
              case atStart => exact ⟨0, Nat.zero_le _, rfl⟩
              case round =>
                obtain ⟨nn, hnn, rfl⟩ := hrel
                by_cases hnl : nn < lb.length
                · rcases HB8.out with h0 | ⟨bb, bo, hba, hc⟩
                  · rw [h0] at hnl; simp at hnl
                  have cn := hc nn hnl
                  have hmem := HSUB.out _ (List.getElem_mem hnl)
                  clear hc
                  generalize lb[nn] = y at cn hmem
                  have HM := Lib.hid hmem; clear hmem
                  subst hba
                  have q3 : (nn : Int) < (lb.length : Int) := by omega
                  go_wp2_with fail
                  refine (Place_any w8 aa ac la HA8.out (by unfold maxLen; omega) y).mono ?_
                  rintro e w9 ⟨v, rfl, hpl, rfl⟩
                  have hv0 : 0 ≤ v := by
                    by_cases hneg : v < 0
                    · exact absurd HM.out (hpl.neg.1 hneg)
                    · omega
                  clear hpl
                  go_wp2_with fail
                  go_round
                  case rel => exact ⟨nn + 1, by omega, by go_num⟩
                  case measure => simp [intOf]; omega
                · go_wp2_with fail
                  exact ⟨⟨d + 1, by omega, by go_num, HR8.out⟩, by simp [intOf]; omega⟩
            · go_wp2_with fail
              exact ⟨⟨i + 1, by omega, by go_num, HR.out⟩, by simp [intOf]; omega⟩
        · have c0 := HR.out.rf.c0
          have c1 := HR.out.rf.c1
          have e0 := HR.out.rf.d0
          have e1 := HR.out.rf.d1
          go_wp2_with fail
          refine (Comes_good wr G.out va vc S HS.out HR.out.rf.strips x z hxS hz).mono ?_
          rintro e w7 ⟨ga, gac, rfl, hda, hb7⟩
          have HR7 := Lib.hid (HR.out.below hb7)
          have HD7 := Lib.hid hda; clear hda
          clear c0 c1 c2 e0 e1 hb7 HR
          have c0 := HR7.out.rf.c0
          have c1 := HR7.out.rf.c1
          have c2 := HR7.out.rf.c2
          have e0 := HR7.out.g0
          have e1 := HR7.out.g1
          go_wp2_with fail
          refine (Comes_good w7 GG.out va vc S HS.out HR7.out.rf.strips x z hxS hz).mono ?_
          rintro e w8 ⟨gb, gbc, rfl, hdb, hb8⟩
          have HR8 := Lib.hid (HR7.out.below hb8)
          have HDA := Lib.hid (HD7.out.below hb8)
          have HDB := Lib.hid hdb; clear hdb
          clear c0 c1 c2 e0 e1 hb8 HR7 HD7
          have c1 := HR8.out.rf.c1
          rw [HS.out] at c1
          go_wp2_with fail
          clear c1
          go_loopw [20] (fun v20 wx => ∃ s : Nat, s ≤ S ∧ v20 = .int .i64 (s : Int) ∧ Below w8.heap.size w8 wx) (fun v _ => S - (intOf v).toNat)
          case atStart => exact ⟨0, Nat.zero_le _, rfl, Below.refl _ _⟩
          case round =>
            obtain ⟨s, hs, rfl, hbr⟩ := hrel
            have c1 := (HR8.out.below hbr).rf.c1
            rw [HS.out] at c1
            have HBR := Lib.hid hbr
            by_cases hsS : s < S
            · have hla : s < (comesL r f (-1) x (z : Int)).length := by rw [comesL_len, HS.out]; exact hsS
              have hlb : s < (comesL r g (-1) x (z : Int)).length := by rw [comesL_len, HS.out]; exact hsS
              have x0 := (HDA.out.below hbr) s hla
              have x1 := (HDB.out.below hbr) s hlb
              have hco := comes_better G.out GG.out HB.out (shut := -1) (fr := x) (day := (z : Int)) (by omega) hla hlb
              clear hbr
              generalize (comesL r f (-1) x (z : Int))[s] = ya at x0 hco
              generalize (comesL r g (-1) x (z : Int))[s] = yb at x1 hco
              have q3 : (s : Int) < (S : Int) := by omega
              by_cases hy : 0 ≤ ya
              · obtain ⟨z1, z2⟩ := hco hy
                clear hco
                have hdy : decide (0 ≤ ya) = true := decide_eq_true hy
                go_wp2_with fail
                go_quiet ((go_at_call 35; exact Calls.quiet_of_same ((there_yes _ _ _ z1 z2).mono fun e w' h => ⟨h.1, h.2.symm⟩)))
                go_wp2_with fail
                exact ⟨⟨s + 1, by omega, by go_num, below_drewN HBR.out _⟩, by simp [intOf]; omega⟩
              · clear hco
                have hdy : decide (0 ≤ ya) = false := decide_eq_false hy
                go_wp2_with fail
                go_quiet ((go_at_call 35; fail))
                go_wp2_with fail
                exact ⟨⟨s + 1, by omega, by go_num, below_drewN HBR.out _⟩, by simp [intOf]; omega⟩
            · go_wp2_with fail
              refine (afoot_any wr).mono ?_
              rintro e w9 ⟨rfl, hb9⟩
              have hbw := HR8.out.rf.bel.trans (HBR.out.mono HR8.out.rf.bel.size)
              have hbF := hbw.trans (hb9.mono hbw.size)
              clear hb9 hbw
              go_wp2_with fail
              go_ret
              exact ⟨rfl, hbF⟩
end Go.Proofs.Ytjgkgnfhglhklaa
