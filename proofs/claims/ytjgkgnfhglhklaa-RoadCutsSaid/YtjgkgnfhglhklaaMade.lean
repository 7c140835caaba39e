/- The contract of mestalaw02.made: five questions about roads. -/
import Derived.Test.YtjgkgnfhglhklaaDeal
import Derived.Test.YtjgkgnfhglhklaaFewerP
import Derived.Deep.CutBlock
import Derived.Deep.RegionHeld3
namespace Go.Proofs.Ytjgkgnfhglhklaa
set_option linter.unusedSimpArgs false
set_option linter.unusedVariables false
open Go.RowKit

/-- A question about roads, with the address of the roads' strips. -/
structure Ask where
  r : Roads
  f : Flock
  fr : Int
  tt : Int
  z : Int
  b : Int
  s : Int
  sa : Option Addr
  sc : Nat

/-- Five questions in seven blocks. -/
structure AskedAt (w : World) (gr gf g1 g2 g3 g4 g5 : Nat) (q : Nat → Ask) : Prop where
  r0 : ∀ i, i < 5 → w.cell? ⟨gr, i * 3, none⟩ = some (.int .i64 (q i).r.days)
  r1 : ∀ i, i < 5 → w.cell? ⟨gr, i * 3 + 1, none⟩ = some (.int .i64 (q i).r.stages)
  r2 : ∀ i, i < 5 → w.cell? ⟨gr, i * 3 + 2, none⟩ = some (.slice (q i).sa (q i).r.strips.length (q i).sc)
  f0 : ∀ i, i < 5 → w.cell? ⟨gf, i * 2, none⟩ = some (.int .i64 (q i).f.heads)
  f1 : ∀ i, i < 5 → w.cell? ⟨gf, i * 2 + 1, none⟩ = some (.int .i64 (q i).f.pace)
  a1 : ∀ i, i < 5 → w.cell? ⟨g1, i, none⟩ = some (.int .i64 (q i).fr)
  a2 : ∀ i, i < 5 → w.cell? ⟨g2, i, none⟩ = some (.int .i64 (q i).tt)
  a3 : ∀ i, i < 5 → w.cell? ⟨g3, i, none⟩ = some (.int .i64 (q i).z)
  a4 : ∀ i, i < 5 → w.cell? ⟨g4, i, none⟩ = some (.int .i64 (q i).b)
  a5 : ∀ i, i < 5 → w.cell? ⟨g5, i, none⟩ = some (.int .i64 (q i).s)
  strips : ∀ i, i < 5 → StripsAt w (q i).sa (q i).r.strips
  len : ∀ i, i < 5 → (q i).r.strips.length ≤ 20
  cap : ∀ i, i < 5 → (q i).r.strips.length ≤ (q i).sc
theorem AskedAt.below {w w' : World} {gr gf g1 g2 g3 g4 g5 : Nat} {q : Nat → Ask} (h : AskedAt w gr gf g1 g2 g3 g4 g5 q) (hb : Below w.heap.size w w') : AskedAt w' gr gf g1 g2 g3 g4 g5 q :=
  have k : ∀ {b o : Nat} {v : Value}, w.cell? ⟨b, o, none⟩ = some v → w'.cell? ⟨b, o, none⟩ = some v := fun e => ((bcell hb).1 _ _ (lt_of_cell e)).trans e
  ⟨fun i hi => k (h.r0 i hi), fun i hi => k (h.r1 i hi), fun i hi => k (h.r2 i hi), fun i hi => k (h.f0 i hi), fun i hi => k (h.f1 i hi), fun i hi => k (h.a1 i hi), fun i hi => k (h.a2 i hi), fun i hi => k (h.a3 i hi), fun i hi => k (h.a4 i hi), fun i hi => k (h.a5 i hi),
    fun i hi => (h.strips i hi).below hb, h.len, h.cap⟩

/-- The five questions of made. -/
def askOf (rr : Roads) (rf : Flock) (fr tt z0 b s : Int) (ra : Option Addr) (rc : Nat) (r : Roads) (f : Flock) (x y z d k : Int) (va : Option Addr) (vc : Nat) : Nat → Ask
  | 0 => ⟨rr, rf, fr, tt, z0, b, s, ra, rc⟩
  | 1 => ⟨r, f, x, y, z, d, k, va, vc⟩
  | 2 => ⟨r, rf, x, y, z, d, k, va, vc⟩
  | 3 => ⟨rr, f, fr, tt, z0, b, s, ra, rc⟩
  | _ => ⟨r, f, fr, tt, z0, b, s, va, vc⟩
theorem five {P : Nat → Prop} (h0 : P 0) (h1 : P 1) (h2 : P 2) (h3 : P 3) (h4 : P 4) : ∀ i, i < 5 → P i
  | 0, _ => h0
  | 1, _ => h1
  | 2, _ => h2
  | 3, _ => h3
  | 4, _ => h4
  | n + 5, h => absurd h (by omega)
theorem asked_of {S : World} {gr gf g1 g2 g3 g4 g5 : Nat} {rr : Roads} {rf : Flock} {fr tt z0 b s : Int} {ra : Option Addr} {rc : Nat} {r : Roads} {f : Flock} {x y z : Nat} {d k : Int} {va : Option Addr} {vc N : Nat} (hN : r.strips.length = N)
    (hgr : S.heap[gr]? = some (.cells #[.int .i64 rr.days, .int .i64 rr.stages, .slice ra rr.strips.length rc, .int .i64 r.days, .int .i64 r.stages, .slice va N vc, .int .i64 r.days, .int .i64 r.stages, .slice va N vc, .int .i64 rr.days, .int .i64 rr.stages, .slice ra rr.strips.length rc, .int .i64 r.days, .int .i64 r.stages, .slice va N vc] 24 (0, 0)))
    (hgf : S.heap[gf]? = some (.cells #[.int .i64 rf.heads, .int .i64 rf.pace, .int .i64 f.heads, .int .i64 f.pace, .int .i64 rf.heads, .int .i64 rf.pace, .int .i64 f.heads, .int .i64 f.pace, .int .i64 f.heads, .int .i64 f.pace] 26 (0, 0)))
    (hg1 : S.heap[g1]? = some (.cells #[.int .i64 fr, .int .i64 (x : Int), .int .i64 (x : Int), .int .i64 fr, .int .i64 fr] 3 (0, 0)))
    (hg2 : S.heap[g2]? = some (.cells #[.int .i64 tt, .int .i64 (y : Int), .int .i64 (y : Int), .int .i64 tt, .int .i64 tt] 3 (0, 0)))
    (hg3 : S.heap[g3]? = some (.cells #[.int .i64 z0, .int .i64 (z : Int), .int .i64 (z : Int), .int .i64 z0, .int .i64 z0] 3 (0, 0)))
    (hg4 : S.heap[g4]? = some (.cells #[.int .i64 b, .int .i64 d, .int .i64 d, .int .i64 b, .int .i64 b] 3 (0, 0)))
    (hg5 : S.heap[g5]? = some (.cells #[.int .i64 s, .int .i64 k, .int .i64 k, .int .i64 s, .int .i64 s] 3 (0, 0)))
    (hs1 : StripsAt S ra rr.strips) (hs2 : StripsAt S va r.strips) (hl1 : rr.strips.length ≤ 20) (hl2 : r.strips.length ≤ 20) (hc1 : rr.strips.length ≤ rc) (hc2 : r.strips.length ≤ vc) : AskedAt S gr gf g1 g2 g3 g4 g5 (askOf rr rf fr tt z0 b s ra rc r f (x : Int) (y : Int) (z : Int) d k va vc) := by
  subst hN
  refine ⟨five ?_ ?_ ?_ ?_ ?_, five ?_ ?_ ?_ ?_ ?_, five ?_ ?_ ?_ ?_ ?_, five ?_ ?_ ?_ ?_ ?_, five ?_ ?_ ?_ ?_ ?_, five ?_ ?_ ?_ ?_ ?_, five ?_ ?_ ?_ ?_ ?_, five ?_ ?_ ?_ ?_ ?_, five ?_ ?_ ?_ ?_ ?_, five ?_ ?_ ?_ ?_ ?_, five hs1 hs2 hs2 hs1 hs2, five hl1 hl2 hl2 hl1 hl2, five hc1 hc2 hc2 hc1 hc2⟩
  · simp [World.cell?, hgr, askOf]
  · simp [World.cell?, hgr, askOf]
  · simp [World.cell?, hgr, askOf]
  · simp [World.cell?, hgr, askOf]
  · simp [World.cell?, hgr, askOf]
  · simp [World.cell?, hgr, askOf]
  · simp [World.cell?, hgr, askOf]
  · simp [World.cell?, hgr, askOf]
  · simp [World.cell?, hgr, askOf]
  · simp [World.cell?, hgr, askOf]
  · simp [World.cell?, hgr, askOf]
  · simp [World.cell?, hgr, askOf]
  · simp [World.cell?, hgr, askOf]
  · simp [World.cell?, hgr, askOf]
  · simp [World.cell?, hgr, askOf]
  · simp [World.cell?, hgf, askOf]
  · simp [World.cell?, hgf, askOf]
  · simp [World.cell?, hgf, askOf]
  · simp [World.cell?, hgf, askOf]
  · simp [World.cell?, hgf, askOf]
  · simp [World.cell?, hgf, askOf]
  · simp [World.cell?, hgf, askOf]
  · simp [World.cell?, hgf, askOf]
  · simp [World.cell?, hgf, askOf]
  · simp [World.cell?, hgf, askOf]
  · simp [World.cell?, hg1, askOf]
  · simp [World.cell?, hg1, askOf]
  · simp [World.cell?, hg1, askOf]
  · simp [World.cell?, hg1, askOf]
  · simp [World.cell?, hg1, askOf]
  · simp [World.cell?, hg2, askOf]
  · simp [World.cell?, hg2, askOf]
  · simp [World.cell?, hg2, askOf]
  · simp [World.cell?, hg2, askOf]
  · simp [World.cell?, hg2, askOf]
  · simp [World.cell?, hg3, askOf]
  · simp [World.cell?, hg3, askOf]
  · simp [World.cell?, hg3, askOf]
  · simp [World.cell?, hg3, askOf]
  · simp [World.cell?, hg3, askOf]
  · simp [World.cell?, hg4, askOf]
  · simp [World.cell?, hg4, askOf]
  · simp [World.cell?, hg4, askOf]
  · simp [World.cell?, hg4, askOf]
  · simp [World.cell?, hg4, askOf]
  · simp [World.cell?, hg5, askOf]
  · simp [World.cell?, hg5, askOf]
  · simp [World.cell?, hg5, askOf]
  · simp [World.cell?, hg5, askOf]
  · simp [World.cell?, hg5, askOf]
theorem seven {W : World} {g : Nat} {u v0 v1 v2 v3 v4 v5 v6 : Value} (h : ∀ i, i < 7 → W.cell? ⟨g, i, none⟩ = some u) :
    (((((((W.setCell ⟨g, 0, none⟩ v0).setCell ⟨g, 1, none⟩ v1).setCell ⟨g, 2, none⟩ v2).setCell ⟨g, 3, none⟩ v3).setCell ⟨g, 4, none⟩ v4).setCell ⟨g, 5, none⟩ v5).setCell ⟨g, 6, none⟩ v6).cell? ⟨g, 0, none⟩ = some v0 ∧ (((((((W.setCell ⟨g, 0, none⟩ v0).setCell ⟨g, 1, none⟩ v1).setCell ⟨g, 2, none⟩ v2).setCell ⟨g, 3, none⟩ v3).setCell ⟨g, 4, none⟩ v4).setCell ⟨g, 5, none⟩ v5).setCell ⟨g, 6, none⟩ v6).cell? ⟨g, 1, none⟩ = some v1 ∧ (((((((W.setCell ⟨g, 0, none⟩ v0).setCell ⟨g, 1, none⟩ v1).setCell ⟨g, 2, none⟩ v2).setCell ⟨g, 3, none⟩ v3).setCell ⟨g, 4, none⟩ v4).setCell ⟨g, 5, none⟩ v5).setCell ⟨g, 6, none⟩ v6).cell? ⟨g, 2, none⟩ = some v2 ∧ (((((((W.setCell ⟨g, 0, none⟩ v0).setCell ⟨g, 1, none⟩ v1).setCell ⟨g, 2, none⟩ v2).setCell ⟨g, 3, none⟩ v3).setCell ⟨g, 4, none⟩ v4).setCell ⟨g, 5, none⟩ v5).setCell ⟨g, 6, none⟩ v6).cell? ⟨g, 3, none⟩ = some v3 ∧ (((((((W.setCell ⟨g, 0, none⟩ v0).setCell ⟨g, 1, none⟩ v1).setCell ⟨g, 2, none⟩ v2).setCell ⟨g, 3, none⟩ v3).setCell ⟨g, 4, none⟩ v4).setCell ⟨g, 5, none⟩ v5).setCell ⟨g, 6, none⟩ v6).cell? ⟨g, 4, none⟩ = some v4 ∧ (((((((W.setCell ⟨g, 0, none⟩ v0).setCell ⟨g, 1, none⟩ v1).setCell ⟨g, 2, none⟩ v2).setCell ⟨g, 3, none⟩ v3).setCell ⟨g, 4, none⟩ v4).setCell ⟨g, 5, none⟩ v5).setCell ⟨g, 6, none⟩ v6).cell? ⟨g, 5, none⟩ = some v5 ∧ (((((((W.setCell ⟨g, 0, none⟩ v0).setCell ⟨g, 1, none⟩ v1).setCell ⟨g, 2, none⟩ v2).setCell ⟨g, 3, none⟩ v3).setCell ⟨g, 4, none⟩ v4).setCell ⟨g, 5, none⟩ v5).setCell ⟨g, 6, none⟩ v6).cell? ⟨g, 6, none⟩ = some v6 := by
  refine ⟨?_, ?_, ?_, ?_, ?_, ?_, ?_⟩
  · rw [World.cell?_setCell_other _ _ _ _ (by simp)]; rw [World.cell?_setCell_other _ _ _ _ (by simp)]; rw [World.cell?_setCell_other _ _ _ _ (by simp)]; rw [World.cell?_setCell_other _ _ _ _ (by simp)]; rw [World.cell?_setCell_other _ _ _ _ (by simp)]; rw [World.cell?_setCell_other _ _ _ _ (by simp)]; exact World.cell?_setCell_same _ _ _ (u := u) (by exact h 0 (by omega))
  · rw [World.cell?_setCell_other _ _ _ _ (by simp)]; rw [World.cell?_setCell_other _ _ _ _ (by simp)]; rw [World.cell?_setCell_other _ _ _ _ (by simp)]; rw [World.cell?_setCell_other _ _ _ _ (by simp)]; rw [World.cell?_setCell_other _ _ _ _ (by simp)]; exact World.cell?_setCell_same _ _ _ (u := u) (by rw [World.cell?_setCell_other _ _ _ _ (by simp)]; exact h 1 (by omega))
  · rw [World.cell?_setCell_other _ _ _ _ (by simp)]; rw [World.cell?_setCell_other _ _ _ _ (by simp)]; rw [World.cell?_setCell_other _ _ _ _ (by simp)]; rw [World.cell?_setCell_other _ _ _ _ (by simp)]; exact World.cell?_setCell_same _ _ _ (u := u) (by rw [World.cell?_setCell_other _ _ _ _ (by simp)]; rw [World.cell?_setCell_other _ _ _ _ (by simp)]; exact h 2 (by omega))
  · rw [World.cell?_setCell_other _ _ _ _ (by simp)]; rw [World.cell?_setCell_other _ _ _ _ (by simp)]; rw [World.cell?_setCell_other _ _ _ _ (by simp)]; exact World.cell?_setCell_same _ _ _ (u := u) (by rw [World.cell?_setCell_other _ _ _ _ (by simp)]; rw [World.cell?_setCell_other _ _ _ _ (by simp)]; rw [World.cell?_setCell_other _ _ _ _ (by simp)]; exact h 3 (by omega))
  · rw [World.cell?_setCell_other _ _ _ _ (by simp)]; rw [World.cell?_setCell_other _ _ _ _ (by simp)]; exact World.cell?_setCell_same _ _ _ (u := u) (by rw [World.cell?_setCell_other _ _ _ _ (by simp)]; rw [World.cell?_setCell_other _ _ _ _ (by simp)]; rw [World.cell?_setCell_other _ _ _ _ (by simp)]; rw [World.cell?_setCell_other _ _ _ _ (by simp)]; exact h 4 (by omega))
  · rw [World.cell?_setCell_other _ _ _ _ (by simp)]; exact World.cell?_setCell_same _ _ _ (u := u) (by rw [World.cell?_setCell_other _ _ _ _ (by simp)]; rw [World.cell?_setCell_other _ _ _ _ (by simp)]; rw [World.cell?_setCell_other _ _ _ _ (by simp)]; rw [World.cell?_setCell_other _ _ _ _ (by simp)]; rw [World.cell?_setCell_other _ _ _ _ (by simp)]; exact h 5 (by omega))
  · exact World.cell?_setCell_same _ _ _ (u := u) (by rw [World.cell?_setCell_other _ _ _ _ (by simp)]; rw [World.cell?_setCell_other _ _ _ _ (by simp)]; rw [World.cell?_setCell_other _ _ _ _ (by simp)]; rw [World.cell?_setCell_other _ _ _ _ (by simp)]; rw [World.cell?_setCell_other _ _ _ _ (by simp)]; rw [World.cell?_setCell_other _ _ _ _ (by simp)]; exact h 6 (by omega))

/-- Roads and a flock that have been dealt, by a hand that lies anywhere. -/
theorem RF.laid2 {w w1 w2 w3 : World} {hb : Nat} {a : Option Addr} {n c : Nat} {r : Roads} {f : Flock} {va : Option Addr} {vc : Nat} (h1 : Below w.heap.size w w1) (h0 : w.heap.size ≤ hb) (hlt1 : hb < w1.heap.size)
    (hown : OwnStrips w2 w1.heap.size (.slice va r.strips.length vc) r.strips) (hE2 : Ext hb w1 w2) (hE3 : Ext hb w2 w3) (hh : HandAt w3 hb 206 a n c) :
    HRF w ((w3.alloc (.cells #[.int .i64 r.days, .int .i64 r.stages, .slice va r.strips.length vc] 24)).alloc (.cells #[.int .i64 f.heads, .int .i64 f.pace] 26)) hb 206 w3.heap.size (w3.heap.size + 1) r f va vc a n c ∧ w1.heap.size ≤ w3.heap.size := by
  have hb3 : Below w.heap.size w w3 := hE3.below (hE2.below h1 h0 h1.size) h0 (hE2.below h1 h0 h1.size).size
  have hlt : w1.heap.size ≤ w3.heap.size := by have := hE3.size; have := hE2.size; omega
  have hA : Below w3.heap.size w3 ((w3.alloc (.cells #[.int .i64 r.days, .int .i64 r.stages, .slice va r.strips.length vc] 24)).alloc (.cells #[.int .i64 f.heads, .int .i64 f.pace] 26)) :=
    (Below.alloc (Below.refl _ _) (Nat.le_refl _) _).alloc (by simp) _
  have hown3 : OwnStrips w3 w1.heap.size (.slice va r.strips.length vc) r.strips := hown.keep fun g hg => hE3.block g (hown.at_block hg).2 (by have := (hown.at_block hg).1; omega)
  have hva : ∀ ad, va = some ad → ad.block ≠ hb := fun ad e => by
    subst e
    have := (hown.at_block (g := ad.block) rfl).1
    omega
  refine ⟨⟨⟨?_, ?_, ?_, ?_, ?_, hown3.strips.1.below hA, hb3.trans (hA.mono (by have := h1.size; omega))⟩, hh.below hA, by omega, by omega, hva, h0⟩, hlt⟩
  · exact ((bcell (Below.alloc (Below.refl _ _) (Nat.le_refl _) _)).1 _ _ (by simp)).trans (by simp)
  · exact ((bcell (Below.alloc (Below.refl _ _) (Nat.le_refl _) _)).1 _ _ (by simp)).trans (by simp)
  · exact ((bcell (Below.alloc (Below.refl _ _) (Nat.le_refl _) _)).1 _ _ (by simp)).trans (by simp)
  · rw [World.cell?_alloc_at _ _ _ _ (by simp)]; rfl
  · rw [World.cell?_alloc_at _ _ _ _ (by simp)]; rfl

/-- A hand's answer for a number that may be below 0. -/
theorem HRF.upto0 {w wx : World} {hb B p q : Nat} {r : Roads} {f : Flock} {va : Option Addr} {vc : Nat} {a : Option Addr} {n c : Nat} (h : HRF w wx hb B p q r f va vc a n c) (hB : B ≤ 900000) (most : Int) (h1 : -1000 ≤ most) (h2 : most ≤ 1000) :
    Calls Try.prog 34 #[.pointer (some ⟨hb, 0, none⟩), .int .i64 most] wx fun e w' => ∃ x : Int, e = .returned (.int .i64 x) ∧ HRF w w' hb (B + 1) p q r f va vc a n c ∧ Ext hb wx w' :=
  (Upto_any wx hb B a n c h.hand (by omega) most (by omega) (by omega)).mono fun e w' hh => by
    obtain ⟨_, ⟨x, x1, x2, rfl⟩, rfl, hh1, hE⟩ := hh
    exact ⟨x, rfl, ⟨h.rf.ext hE h.hp h.hq h.hv h.hm, hh1, h.hp, h.hq, h.hv, h.hm⟩, hE⟩
theorem HRF.uptoE {w wx : World} {hb B p q : Nat} {r : Roads} {f : Flock} {va : Option Addr} {vc : Nat} {a : Option Addr} {n c : Nat} (h : HRF w wx hb B p q r f va vc a n c) (hB : B ≤ 900000) (most : Int) (h1 : 0 ≤ most) (h2 : most ≤ 1000) :
    Calls Try.prog 34 #[.pointer (some ⟨hb, 0, none⟩), .int .i64 most] wx fun e w' => ∃ x : Nat, (x : Int) ≤ most ∧ e = .returned (.int .i64 (x : Int)) ∧ HRF w w' hb (B + 1) p q r f va vc a n c ∧ Ext hb wx w' :=
  (Upto_any wx hb B a n c h.hand (by omega) most (by omega) (by omega)).mono fun e w' hh => by
    obtain ⟨_, ⟨x, x1, x2, rfl⟩, rfl, hh1, hE⟩ := hh
    obtain ⟨k, rfl⟩ := Int.eq_ofNat_of_zero_le x1
    exact ⟨k, by omega, rfl, ⟨h.rf.ext hE h.hp h.hq h.hv h.hm, hh1, h.hp, h.hq, h.hv, h.hm⟩, hE⟩
theorem HRF.amongE {w wx : World} {hb B p q : Nat} {r : Roads} {f : Flock} {va : Option Addr} {vc : Nat} {a : Option Addr} {n c : Nat} (h : HRF w wx hb B p q r f va vc a n c) (hB : B ≤ 900000) (least : Nat) (most : Int) (h1 : (least : Int) ≤ most) (h2 : most ≤ 1000) :
    Calls Try.prog 36 #[.pointer (some ⟨hb, 0, none⟩), .int .i64 (least : Int), .int .i64 most] wx fun e w' => ∃ x : Nat, least ≤ x ∧ (x : Int) ≤ most ∧ e = .returned (.int .i64 (x : Int)) ∧ HRF w w' hb (B + 1) p q r f va vc a n c ∧ Ext hb wx w' :=
  (Among_any wx hb B a n c h.hand (by omega) least most (by omega) (by omega) (by omega) (by omega)).mono fun e w' hh => by
    obtain ⟨_, ⟨x, x1, x2, rfl⟩, rfl, hh1, hE⟩ := hh
    obtain ⟨k, rfl⟩ := Int.eq_ofNat_of_zero_le (a := x) (by omega)
    exact ⟨k, by omega, by omega, rfl, ⟨h.rf.ext hE h.hp h.hq h.hv h.hm, hh1, h.hp, h.hq, h.hv, h.hm⟩, hE⟩

set_option maxRecDepth 100000 in
set_option maxHeartbeats 4000000 in
theorem made_any (w0 w : World) (hb : Nat) (a : Option Addr) (n c : Nat) (hB : Below w0.heap.size w0 w) (h0 : w0.heap.size ≤ hb) (hh : HandAt w hb 0 a n c) (rr : Roads) (rf : Flock) (ra : Option Addr) (rc : Nat) (hs : StripsAt w0 ra rr.strips) (hl : rr.strips.length ≤ 20) (hrc : rr.strips.length ≤ rc) (fr tt z0 b s : Int) :
    Calls Try.prog 22 #[.agg #[.int .i64 rr.days, .int .i64 rr.stages, .slice ra rr.strips.length rc], .agg #[.int .i64 rf.heads, .int .i64 rf.pace], .int .i64 fr, .int .i64 tt, .int .i64 z0, .int .i64 b, .int .i64 s, .pointer (some ⟨hb, 0, none⟩)] w
      fun e w' => ∃ gr gf g1 g2 g3 g4 g5 q, e = .returned (.agg #[.slice (some ⟨gr, 0, none⟩) 5 5, .slice (some ⟨gf, 0, none⟩) 5 5, .slice (some ⟨g1, 0, none⟩) 5 5, .slice (some ⟨g2, 0, none⟩) 5 5, .slice (some ⟨g3, 0, none⟩) 5 5, .slice (some ⟨g4, 0, none⟩) 5 5, .slice (some ⟨g5, 0, none⟩) 5 5]) ∧
        (∀ S : World, (∀ k, (k < w0.heap.size ∨ w.heap.size ≤ k) → k < w'.heap.size → S.heap[k]? = w'.heap[k]?) → AskedAt S gr gf g1 g2 g3 g4 g5 q) ∧ Below w0.heap.size w0 w' ∧ HandAt w' hb 211 a n c ∧ Ext hb w w' := by
  have hlt := hh.lt
  have hsb := hB.size
  go_enter Try.func22, Try.ntmps22
  go_upto_region 1 with (fail)
  have hb1 : Below w.heap.size w (((w.alloc (.cells #[.int .i64 rr.days, .int .i64 rr.stages, .slice ra rr.strips.length rc] 24)).alloc (.cells #[.int .i64 rf.heads, .int .i64 rf.pace] 26)).alloc (.cells #[.slice none 0 0, .slice none 0 0, .slice none 0 0, .slice none 0 0, .slice none 0 0, .slice none 0 0, .slice none 0 0] 32)) := (((Below.refl _ _).alloc (Nat.le_refl _) _).alloc (by simp) _).alloc (by simp; omega) _
  have hz1 : (((w.alloc (.cells #[.int .i64 rr.days, .int .i64 rr.stages, .slice ra rr.strips.length rc] 24)).alloc (.cells #[.int .i64 rf.heads, .int .i64 rf.pace] 26)).alloc (.cells #[.slice none 0 0, .slice none 0 0, .slice none 0 0, .slice none 0 0, .slice none 0 0, .slice none 0 0, .slice none 0 0] 32)).heap.size = w.heap.size + 3 := by simp
  have x0 : (((w.alloc (.cells #[.int .i64 rr.days, .int .i64 rr.stages, .slice ra rr.strips.length rc] 24)).alloc (.cells #[.int .i64 rf.heads, .int .i64 rf.pace] 26)).alloc (.cells #[.slice none 0 0, .slice none 0 0, .slice none 0 0, .slice none 0 0, .slice none 0 0, .slice none 0 0, .slice none 0 0] 32)).cell? ⟨w.heap.size, 0, none⟩ = some (.int .i64 rr.days) := by simp [go_sem]
  have x1 : (((w.alloc (.cells #[.int .i64 rr.days, .int .i64 rr.stages, .slice ra rr.strips.length rc] 24)).alloc (.cells #[.int .i64 rf.heads, .int .i64 rf.pace] 26)).alloc (.cells #[.slice none 0 0, .slice none 0 0, .slice none 0 0, .slice none 0 0, .slice none 0 0, .slice none 0 0, .slice none 0 0] 32)).cell? ⟨w.heap.size, 1, none⟩ = some (.int .i64 rr.stages) := by simp [go_sem]
  have x2 : (((w.alloc (.cells #[.int .i64 rr.days, .int .i64 rr.stages, .slice ra rr.strips.length rc] 24)).alloc (.cells #[.int .i64 rf.heads, .int .i64 rf.pace] 26)).alloc (.cells #[.slice none 0 0, .slice none 0 0, .slice none 0 0, .slice none 0 0, .slice none 0 0, .slice none 0 0, .slice none 0 0] 32)).cell? ⟨w.heap.size, 2, none⟩ = some (.slice ra rr.strips.length rc) := by simp [go_sem]
  have y0 : (((w.alloc (.cells #[.int .i64 rr.days, .int .i64 rr.stages, .slice ra rr.strips.length rc] 24)).alloc (.cells #[.int .i64 rf.heads, .int .i64 rf.pace] 26)).alloc (.cells #[.slice none 0 0, .slice none 0 0, .slice none 0 0, .slice none 0 0, .slice none 0 0, .slice none 0 0, .slice none 0 0] 32)).cell? ⟨w.heap.size + 1, 0, none⟩ = some (.int .i64 rf.heads) := by simp [go_sem]
  have y1 : (((w.alloc (.cells #[.int .i64 rr.days, .int .i64 rr.stages, .slice ra rr.strips.length rc] 24)).alloc (.cells #[.int .i64 rf.heads, .int .i64 rf.pace] 26)).alloc (.cells #[.slice none 0 0, .slice none 0 0, .slice none 0 0, .slice none 0 0, .slice none 0 0, .slice none 0 0, .slice none 0 0] 32)).cell? ⟨w.heap.size + 1, 1, none⟩ = some (.int .i64 rf.pace) := by simp [go_sem]
  have hres : (((w.alloc (.cells #[.int .i64 rr.days, .int .i64 rr.stages, .slice ra rr.strips.length rc] 24)).alloc (.cells #[.int .i64 rf.heads, .int .i64 rf.pace] 26)).alloc (.cells #[.slice none 0 0, .slice none 0 0, .slice none 0 0, .slice none 0 0, .slice none 0 0, .slice none 0 0, .slice none 0 0] 32)).heap[w.heap.size + 1 + 1]? = some (.cells #[.slice none 0 0, .slice none 0 0, .slice none 0 0, .slice none 0 0, .slice none 0 0, .slice none 0 0, .slice none 0 0] 32 (0, 0)) := by
    rw [show w.heap.size + 1 + 1 = ((w.alloc (.cells #[.int .i64 rr.days, .int .i64 rr.stages, .slice ra rr.strips.length rc] 24)).alloc (.cells #[.int .i64 rf.heads, .int .i64 rf.pace] 26)).heap.size by simp]
    exact heap_alloc_new _ _
  generalize (((w.alloc (.cells #[.int .i64 rr.days, .int .i64 rr.stages, .slice ra rr.strips.length rc] 24)).alloc (.cells #[.int .i64 rf.heads, .int .i64 rf.pace] 26)).alloc (.cells #[.slice none 0 0, .slice none 0 0, .slice none 0 0, .slice none 0 0, .slice none 0 0, .slice none 0 0, .slice none 0 0] 32)) = W1 at hb1 hz1 x0 x1 x2 y0 y1 hres ⊢
  have hB1 : Below w0.heap.size w0 W1 := hB.trans (hb1.mono hsb)
  have H1 := Lib.hid (hh.below hb1); clear hh
  have HW1 := Lib.hid hb1; clear hb1
  have hlt1 : hb < W1.heap.size := by omega
  go_wp2_with fail
  refine (RoadsOf_all W1 hb 0 a n c H1.out (by omega) 6 7 8 (by omega) (by omega) (by omega) (by omega) (by omega) (by omega)).mono ?_
  rintro e w2 ⟨r, v, hr, hown, rfl, hh2, hE2⟩
  obtain ⟨va, vc, rfl⟩ := hown.form
  have HR := Lib.hid hr; clear hr
  have HCAP := Lib.hid hown.cap
  have HO := Lib.hid hown; clear hown
  have H2 := Lib.hid hh2; clear hh2 H1
  have E2 := Lib.hid hE2; clear hE2
  go_wp2_with fail
  refine (FlockOf_any w2 hb (0 + 200) a n c H2.out (by omega)).mono ?_
  rintro e w3 ⟨_, ⟨f, hf, rfl⟩, rfl, hh3, hE3⟩
  have HF := Lib.hid hf; clear hf
  have HVA := Lib.hid (show ∀ ad, va = some ad → W1.heap.size ≤ ad.block from fun ad e => by subst e; exact (HO.out.at_block (g := ad.block) rfl).1)
  obtain ⟨hK, hlt3⟩ := RF.laid2 (f := f) hB1 h0 hlt1 HO.out E2.out hE3 hh3
  have hE13 := E2.out.trans hE3
  have HK := Lib.hid hK
  have E13 := Lib.hid (hE13.trans (Ext.of_below ((Below.alloc (Below.refl _ _) (Nat.le_refl _) (.cells #[.int .i64 r.days, .int .i64 r.stages, .slice va r.strips.length vc] 24)).alloc (by simp) (.cells #[.int .i64 f.heads, .int .i64 f.pace] 26))))
  clear hK hh3 hE3 E2 H2 HO hE13
  obtain ⟨s1, s2, d1, d2⟩ : 1 ≤ r.stages ∧ r.stages ≤ 6 ∧ 1 ≤ r.days ∧ r.days ≤ 10 := ⟨HR.out.s1, HR.out.s2, HR.out.d1, HR.out.d2⟩
  have hl8 := HR.out.n8
  clear HR HF
  go_wp2_with fail
  generalize hw4 : ((w3.alloc (.cells #[.int .i64 r.days, .int .i64 r.stages, .slice va r.strips.length vc] 24)).alloc (.cells #[.int .i64 f.heads, .int .i64 f.pace] 26)) = w4 at HK E13 ⊢
  generalize hp : w3.heap.size = p at HK ⊢
  have hpW : W1.heap.size ≤ p := by omega
  clear hlt3 hp hw4
  have hd := HK.out.drew
  have c0 := hd.rf.c0
  have c1 := hd.rf.c1
  have K1 := Lib.hid hd; clear hd HK
  have F1 := Lib.hid (E13.out.trans (Ext.of_below (Below.refl w4.heap.size w4).drew)); clear E13
  have X0 := Lib.hid x0; clear x0
  have X1 := Lib.hid x1; clear x1
  have X2 := Lib.hid x2; clear x2
  have Y0 := Lib.hid y0; clear y0
  have Y1 := Lib.hid y1; clear y1
  have HRES := Lib.hid hres; clear hres
  have q1 : IntKind.i64.wrap (r.stages - 1) = r.stages - 1 := IntWalk.i64_in _ (by omega)
  have q2 : IntKind.i64.wrap (r.days - 1) = r.days - 1 := IntWalk.i64_in _ (by omega)
  go_cut [19, 20, 21] (fun v19 v20 v21 wx => ∃ x y z : Nat, v19 = .int .i64 (x : Int) ∧ v20 = .int .i64 (y : Int) ∧ v21 = .int .i64 (z : Int) ∧ (x : Int) < r.stages ∧ (y : Int) < r.stages ∧ (z : Int) < r.days ∧ HRF w0 wx hb (206 + 1 + 1 + 1) p (p + 1) r f va vc a n c ∧ Ext hb W1 wx)
  case first =>
    go_region_held3 (fun w' => w'.cell? ⟨p, 1, none⟩ = some (.int .i64 r.stages) ∧ w'.cell? ⟨p, 0, none⟩ = some (.int .i64 r.days)) (first | exact ⟨m21, m20⟩ | exact ⟨m11, m10⟩ | exact ⟨m01, m00⟩ | exact ⟨c1, c0⟩) (first
      | (go_at_call 34; refine (K3.out.uptoE (by omega) (r.days - 1) (by omega) (by omega)).mono ?_; rintro e w7 ⟨z, z1, rfl, hk, hE⟩; have K4 := Lib.hid hk; have F4 := Lib.hid (F3.out.trans hE); have m20 := hk.rf.c0; have m21 := hk.rf.c1; clear hk hE)
      | (go_at_call 34; refine (K2.out.uptoE (by omega) (r.stages - 1) (by omega) (by omega)).mono ?_; rintro e w6 ⟨y, y1, rfl, hk, hE⟩; have K3 := Lib.hid hk; have F3 := Lib.hid (F2.out.trans hE); have m10 := hk.rf.c0; have m11 := hk.rf.c1; clear hk hE)
      | (go_at_call 34; refine (K1.out.uptoE (by omega) (r.stages - 1) (by omega) (by omega)).mono ?_; rintro e w5 ⟨x, x1, rfl, hk, hE⟩; have K2 := Lib.hid hk; have F2 := Lib.hid (F1.out.trans hE); have m00 := hk.rf.c0; have m01 := hk.rf.c1; clear hk hE))
    all_goals (go_wp2_with fail; go_meet; exact ⟨x, y, z, rfl, rfl, rfl, by omega, by omega, by omega, K4.out, F4.out⟩)
  case rest =>
    obtain ⟨x, y, z, rfl, rfl, rfl, hx, hy, hz, hk, hE⟩ := hcut
    clear c0 c1 K1 F1 q1
    have hd := hk.drew
    have c0 := hd.rf.c0
    have c2 := hd.rf.c2
    have K5 := Lib.hid hd; clear hd hk
    have F5 := Lib.hid (hE.trans (Ext.of_below (Below.refl _ _).drew)); clear hE
    obtain ⟨N, hN⟩ : ∃ N, r.strips.length = N := ⟨_, rfl⟩
    rw [hN] at hl8 c2
    have q3 : IntKind.i64.wrap ((N : Int) - 1) = (N : Int) - 1 := IntWalk.i64_in _ (by omega)
    go_upto_region 3 with (fail)
    go_cut [22, 23] (fun v22 v23 wx => ∃ d k : Int, v22 = .int .i64 d ∧ v23 = .int .i64 k ∧ HRF w0 wx hb (206 + 1 + 1 + 1 + 1 + 1) p (p + 1) r f va vc a n c ∧ Ext hb W1 wx)
    case first =>
      go_region_held3 (fun w' => w'.cell? ⟨p, 0, none⟩ = some (.int .i64 r.days) ∧ w'.cell? ⟨p, 2, none⟩ = some (.slice va N vc)) (first | exact ⟨m10, m12⟩ | exact ⟨m00, m02⟩ | exact ⟨c0, c2⟩) (first
        | (go_at_call 34; refine (K6.out.upto0 (by omega) ((N : Int) - 1) (by omega) (by omega)).mono ?_; rintro e w9 ⟨k, rfl, hk, hE⟩; have K7 := Lib.hid hk; have F7 := Lib.hid (F6.out.trans hE); have m10 := hk.rf.c0; have m12 := hk.rf.c2; rw [hN] at m12; clear hk hE)
        | (go_at_call 36; refine (K5.out.amongE (by omega) z (r.days - 1) (by omega) (by omega)).mono ?_; rintro e w8 ⟨d, hd1, hd2, rfl, hk, hE⟩; have K6 := Lib.hid hk; have F6 := Lib.hid (F5.out.trans hE); have m00 := hk.rf.c0; have m02 := hk.rf.c2; rw [hN] at m02; clear hk hE))
      all_goals (go_wp2_with fail; go_meet; exact ⟨d, k, rfl, rfl, K7.out, F7.out⟩)
    case rest =>
      obtain ⟨d, k, rfl, rfl, hk, hE⟩ := hcut
      clear c0 c2 K5 F5 q2 q3
      have x0 := hE.cell_ne X0.out (by omega)
      have x1 := hE.cell_ne X1.out (by omega)
      have x2 := hE.cell_ne X2.out (by omega)
      have y0 := hE.cell_ne Y0.out (by omega)
      have y1 := hE.cell_ne Y1.out (by omega)
      have hres := (hE.block (w.heap.size + 1 + 1) (by omega) (by omega)).trans HRES.out
      have hlR := (Array.getElem?_eq_some_iff.1 hres).1
      clear X0 X1 X2 Y0 Y1 HRES
      have c0 := hk.rf.c0
      have c1 := hk.rf.c1
      have c2 := hk.rf.c2
      have d0 := hk.rf.d0
      have d1' := hk.rf.d1
      have HK := Lib.hid hk; clear hk
      have HE := Lib.hid hE; clear hE
      have l0 := lt_of_cell x0
      have l1 := lt_of_cell y0
      have l2 := lt_of_cell c0
      have l3 := lt_of_cell d0
      have p0 : wc.frozen? ⟨w.heap.size + 1 + 1, 0, none⟩ = false := by simp [World.frozen?, hres]
      have r0 : wc.cell? ⟨w.heap.size + 1 + 1, 0, none⟩ = some (.slice none 0 0) := by simp [World.cell?, hres]
      have p1 : wc.frozen? ⟨w.heap.size + 1 + 1, 1, none⟩ = false := by simp [World.frozen?, hres]
      have r1 : wc.cell? ⟨w.heap.size + 1 + 1, 1, none⟩ = some (.slice none 0 0) := by simp [World.cell?, hres]
      have p2 : wc.frozen? ⟨w.heap.size + 1 + 1, 2, none⟩ = false := by simp [World.frozen?, hres]
      have r2 : wc.cell? ⟨w.heap.size + 1 + 1, 2, none⟩ = some (.slice none 0 0) := by simp [World.cell?, hres]
      have p3 : wc.frozen? ⟨w.heap.size + 1 + 1, 3, none⟩ = false := by simp [World.frozen?, hres]
      have r3 : wc.cell? ⟨w.heap.size + 1 + 1, 3, none⟩ = some (.slice none 0 0) := by simp [World.cell?, hres]
      have p4 : wc.frozen? ⟨w.heap.size + 1 + 1, 4, none⟩ = false := by simp [World.frozen?, hres]
      have r4 : wc.cell? ⟨w.heap.size + 1 + 1, 4, none⟩ = some (.slice none 0 0) := by simp [World.cell?, hres]
      have p5 : wc.frozen? ⟨w.heap.size + 1 + 1, 5, none⟩ = false := by simp [World.frozen?, hres]
      have r5 : wc.cell? ⟨w.heap.size + 1 + 1, 5, none⟩ = some (.slice none 0 0) := by simp [World.cell?, hres]
      have p6 : wc.frozen? ⟨w.heap.size + 1 + 1, 6, none⟩ = false := by simp [World.frozen?, hres]
      have r6 : wc.cell? ⟨w.heap.size + 1 + 1, 6, none⟩ = some (.slice none 0 0) := by simp [World.cell?, hres]
      have hA : Below wc.heap.size wc (((((((wc.alloc (.cells #[.int .i64 rr.days, .int .i64 rr.stages, .slice ra rr.strips.length rc, .int .i64 r.days, .int .i64 r.stages, .slice va N vc, .int .i64 r.days, .int .i64 r.stages, .slice va N vc, .int .i64 rr.days, .int .i64 rr.stages, .slice ra rr.strips.length rc, .int .i64 r.days, .int .i64 r.stages, .slice va N vc] 24)).alloc (.cells #[.int .i64 rf.heads, .int .i64 rf.pace, .int .i64 f.heads, .int .i64 f.pace, .int .i64 rf.heads, .int .i64 rf.pace, .int .i64 f.heads, .int .i64 f.pace, .int .i64 f.heads, .int .i64 f.pace] 26)).alloc (.cells #[.int .i64 fr, .int .i64 (x : Int), .int .i64 (x : Int), .int .i64 fr, .int .i64 fr] 3)).alloc (.cells #[.int .i64 tt, .int .i64 (y : Int), .int .i64 (y : Int), .int .i64 tt, .int .i64 tt] 3)).alloc (.cells #[.int .i64 z0, .int .i64 (z : Int), .int .i64 (z : Int), .int .i64 z0, .int .i64 z0] 3)).alloc (.cells #[.int .i64 b, .int .i64 d, .int .i64 d, .int .i64 b, .int .i64 b] 3)).alloc (.cells #[.int .i64 s, .int .i64 k, .int .i64 k, .int .i64 s, .int .i64 s] 3)) := (((((((Below.refl _ _).alloc (Nat.le_refl _) _).alloc (by simp) _).alloc (by simp; omega) _).alloc (by simp; omega) _).alloc (by simp; omega) _).alloc (by simp; omega) _).alloc (by simp; omega) _
      have hA1 : ∀ j0, (((((((wc.alloc (.cells #[.int .i64 rr.days, .int .i64 rr.stages, .slice ra rr.strips.length rc, .int .i64 r.days, .int .i64 r.stages, .slice va N vc, .int .i64 r.days, .int .i64 r.stages, .slice va N vc, .int .i64 rr.days, .int .i64 rr.stages, .slice ra rr.strips.length rc, .int .i64 r.days, .int .i64 r.stages, .slice va N vc] 24)).alloc (.cells #[.int .i64 rf.heads, .int .i64 rf.pace, .int .i64 f.heads, .int .i64 f.pace, .int .i64 rf.heads, .int .i64 rf.pace, .int .i64 f.heads, .int .i64 f.pace, .int .i64 f.heads, .int .i64 f.pace] 26)).alloc (.cells #[.int .i64 fr, .int .i64 (x : Int), .int .i64 (x : Int), .int .i64 fr, .int .i64 fr] 3)).alloc (.cells #[.int .i64 tt, .int .i64 (y : Int), .int .i64 (y : Int), .int .i64 tt, .int .i64 tt] 3)).alloc (.cells #[.int .i64 z0, .int .i64 (z : Int), .int .i64 (z : Int), .int .i64 z0, .int .i64 z0] 3)).alloc (.cells #[.int .i64 b, .int .i64 d, .int .i64 d, .int .i64 b, .int .i64 b] 3)).alloc (.cells #[.int .i64 s, .int .i64 k, .int .i64 k, .int .i64 s, .int .i64 s] 3)).cell? ⟨w.heap.size + 1 + 1, j0, none⟩ = wc.cell? ⟨w.heap.size + 1 + 1, j0, none⟩ := fun j0 => (bcell hA).1 _ _ hlR
      have hA2 : ∀ j0, (((((((wc.alloc (.cells #[.int .i64 rr.days, .int .i64 rr.stages, .slice ra rr.strips.length rc, .int .i64 r.days, .int .i64 r.stages, .slice va N vc, .int .i64 r.days, .int .i64 r.stages, .slice va N vc, .int .i64 rr.days, .int .i64 rr.stages, .slice ra rr.strips.length rc, .int .i64 r.days, .int .i64 r.stages, .slice va N vc] 24)).alloc (.cells #[.int .i64 rf.heads, .int .i64 rf.pace, .int .i64 f.heads, .int .i64 f.pace, .int .i64 rf.heads, .int .i64 rf.pace, .int .i64 f.heads, .int .i64 f.pace, .int .i64 f.heads, .int .i64 f.pace] 26)).alloc (.cells #[.int .i64 fr, .int .i64 (x : Int), .int .i64 (x : Int), .int .i64 fr, .int .i64 fr] 3)).alloc (.cells #[.int .i64 tt, .int .i64 (y : Int), .int .i64 (y : Int), .int .i64 tt, .int .i64 tt] 3)).alloc (.cells #[.int .i64 z0, .int .i64 (z : Int), .int .i64 (z : Int), .int .i64 z0, .int .i64 z0] 3)).alloc (.cells #[.int .i64 b, .int .i64 d, .int .i64 d, .int .i64 b, .int .i64 b] 3)).alloc (.cells #[.int .i64 s, .int .i64 k, .int .i64 k, .int .i64 s, .int .i64 s] 3)).frozen? ⟨w.heap.size + 1 + 1, j0, none⟩ = wc.frozen? ⟨w.heap.size + 1 + 1, j0, none⟩ := fun j0 => (bcell hA).2 _ _ hlR
      have HA := Lib.hid hA; clear hA
      go_wp2_with fail
      clear x0 x1 x2 y0 y1 c0 c1 c2 d0 d1' p0 p1 p2 p3 p4 p5 p6 hA2
      have hc7 : ∀ i0, i0 < 7 → (((((((wc.alloc (.cells #[.int .i64 rr.days, .int .i64 rr.stages, .slice ra rr.strips.length rc, .int .i64 r.days, .int .i64 r.stages, .slice va N vc, .int .i64 r.days, .int .i64 r.stages, .slice va N vc, .int .i64 rr.days, .int .i64 rr.stages, .slice ra rr.strips.length rc, .int .i64 r.days, .int .i64 r.stages, .slice va N vc] 24)).alloc (.cells #[.int .i64 rf.heads, .int .i64 rf.pace, .int .i64 f.heads, .int .i64 f.pace, .int .i64 rf.heads, .int .i64 rf.pace, .int .i64 f.heads, .int .i64 f.pace, .int .i64 f.heads, .int .i64 f.pace] 26)).alloc (.cells #[.int .i64 fr, .int .i64 (x : Int), .int .i64 (x : Int), .int .i64 fr, .int .i64 fr] 3)).alloc (.cells #[.int .i64 tt, .int .i64 (y : Int), .int .i64 (y : Int), .int .i64 tt, .int .i64 tt] 3)).alloc (.cells #[.int .i64 z0, .int .i64 (z : Int), .int .i64 (z : Int), .int .i64 z0, .int .i64 z0] 3)).alloc (.cells #[.int .i64 b, .int .i64 d, .int .i64 d, .int .i64 b, .int .i64 b] 3)).alloc (.cells #[.int .i64 s, .int .i64 k, .int .i64 k, .int .i64 s, .int .i64 s] 3)).cell? ⟨w.heap.size + 1 + 1, i0, none⟩ = some (.slice none 0 0) := fun i0 hi0 => by
        rw [hA1]
        obtain rfl | rfl | rfl | rfl | rfl | rfl | rfl : i0 = 0 ∨ i0 = 1 ∨ i0 = 2 ∨ i0 = 3 ∨ i0 = 4 ∨ i0 = 5 ∨ i0 = 6 := by omega
        · exact r0
        · exact r1
        · exact r2
        · exact r3
        · exact r4
        · exact r5
        · exact r6
      clear r0 r1 r2 r3 r4 r5 r6 hA1
      have h7 := seven (v0 := .slice (some ⟨wc.heap.size, 0, none⟩) 5 5) (v1 := .slice (some ⟨wc.heap.size + 1, 0, none⟩) 5 5) (v2 := .slice (some ⟨wc.heap.size + 1 + 1, 0, none⟩) 5 5) (v3 := .slice (some ⟨wc.heap.size + 1 + 1 + 1, 0, none⟩) 5 5) (v4 := .slice (some ⟨wc.heap.size + 1 + 1 + 1 + 1, 0, none⟩) 5 5) (v5 := .slice (some ⟨wc.heap.size + 1 + 1 + 1 + 1 + 1, 0, none⟩) 5 5) (v6 := .slice (some ⟨wc.heap.size + 1 + 1 + 1 + 1 + 1 + 1, 0, none⟩) 5 5) hc7
      clear hc7
      have e0 : (((((((wc.alloc (.cells #[.int .i64 rr.days, .int .i64 rr.stages, .slice ra rr.strips.length rc, .int .i64 r.days, .int .i64 r.stages, .slice va N vc, .int .i64 r.days, .int .i64 r.stages, .slice va N vc, .int .i64 rr.days, .int .i64 rr.stages, .slice ra rr.strips.length rc, .int .i64 r.days, .int .i64 r.stages, .slice va N vc] 24)).alloc (.cells #[.int .i64 rf.heads, .int .i64 rf.pace, .int .i64 f.heads, .int .i64 f.pace, .int .i64 rf.heads, .int .i64 rf.pace, .int .i64 f.heads, .int .i64 f.pace, .int .i64 f.heads, .int .i64 f.pace] 26)).alloc (.cells #[.int .i64 fr, .int .i64 (x : Int), .int .i64 (x : Int), .int .i64 fr, .int .i64 fr] 3)).alloc (.cells #[.int .i64 tt, .int .i64 (y : Int), .int .i64 (y : Int), .int .i64 tt, .int .i64 tt] 3)).alloc (.cells #[.int .i64 z0, .int .i64 (z : Int), .int .i64 (z : Int), .int .i64 z0, .int .i64 z0] 3)).alloc (.cells #[.int .i64 b, .int .i64 d, .int .i64 d, .int .i64 b, .int .i64 b] 3)).alloc (.cells #[.int .i64 s, .int .i64 k, .int .i64 k, .int .i64 s, .int .i64 s] 3)).heap[wc.heap.size]? = some (.cells #[.int .i64 rr.days, .int .i64 rr.stages, .slice ra rr.strips.length rc, .int .i64 r.days, .int .i64 r.stages, .slice va N vc, .int .i64 r.days, .int .i64 r.stages, .slice va N vc, .int .i64 rr.days, .int .i64 rr.stages, .slice ra rr.strips.length rc, .int .i64 r.days, .int .i64 r.stages, .slice va N vc] 24 (0, 0)) := by
        rw [heap_alloc_old _ _ (by simp <;> omega)]
        rw [heap_alloc_old _ _ (by simp <;> omega)]
        rw [heap_alloc_old _ _ (by simp <;> omega)]
        rw [heap_alloc_old _ _ (by simp <;> omega)]
        rw [heap_alloc_old _ _ (by simp <;> omega)]
        rw [heap_alloc_old _ _ (by simp <;> omega)]
        rw [show wc.heap.size = wc.heap.size by simp]
        exact heap_alloc_new _ _
      have e1 : (((((((wc.alloc (.cells #[.int .i64 rr.days, .int .i64 rr.stages, .slice ra rr.strips.length rc, .int .i64 r.days, .int .i64 r.stages, .slice va N vc, .int .i64 r.days, .int .i64 r.stages, .slice va N vc, .int .i64 rr.days, .int .i64 rr.stages, .slice ra rr.strips.length rc, .int .i64 r.days, .int .i64 r.stages, .slice va N vc] 24)).alloc (.cells #[.int .i64 rf.heads, .int .i64 rf.pace, .int .i64 f.heads, .int .i64 f.pace, .int .i64 rf.heads, .int .i64 rf.pace, .int .i64 f.heads, .int .i64 f.pace, .int .i64 f.heads, .int .i64 f.pace] 26)).alloc (.cells #[.int .i64 fr, .int .i64 (x : Int), .int .i64 (x : Int), .int .i64 fr, .int .i64 fr] 3)).alloc (.cells #[.int .i64 tt, .int .i64 (y : Int), .int .i64 (y : Int), .int .i64 tt, .int .i64 tt] 3)).alloc (.cells #[.int .i64 z0, .int .i64 (z : Int), .int .i64 (z : Int), .int .i64 z0, .int .i64 z0] 3)).alloc (.cells #[.int .i64 b, .int .i64 d, .int .i64 d, .int .i64 b, .int .i64 b] 3)).alloc (.cells #[.int .i64 s, .int .i64 k, .int .i64 k, .int .i64 s, .int .i64 s] 3)).heap[wc.heap.size + 1]? = some (.cells #[.int .i64 rf.heads, .int .i64 rf.pace, .int .i64 f.heads, .int .i64 f.pace, .int .i64 rf.heads, .int .i64 rf.pace, .int .i64 f.heads, .int .i64 f.pace, .int .i64 f.heads, .int .i64 f.pace] 26 (0, 0)) := by
        rw [heap_alloc_old _ _ (by simp <;> omega)]
        rw [heap_alloc_old _ _ (by simp <;> omega)]
        rw [heap_alloc_old _ _ (by simp <;> omega)]
        rw [heap_alloc_old _ _ (by simp <;> omega)]
        rw [heap_alloc_old _ _ (by simp <;> omega)]
        rw [show wc.heap.size + 1 = (wc.alloc (.cells #[.int .i64 rr.days, .int .i64 rr.stages, .slice ra rr.strips.length rc, .int .i64 r.days, .int .i64 r.stages, .slice va N vc, .int .i64 r.days, .int .i64 r.stages, .slice va N vc, .int .i64 rr.days, .int .i64 rr.stages, .slice ra rr.strips.length rc, .int .i64 r.days, .int .i64 r.stages, .slice va N vc] 24)).heap.size by simp]
        exact heap_alloc_new _ _
      have e2 : (((((((wc.alloc (.cells #[.int .i64 rr.days, .int .i64 rr.stages, .slice ra rr.strips.length rc, .int .i64 r.days, .int .i64 r.stages, .slice va N vc, .int .i64 r.days, .int .i64 r.stages, .slice va N vc, .int .i64 rr.days, .int .i64 rr.stages, .slice ra rr.strips.length rc, .int .i64 r.days, .int .i64 r.stages, .slice va N vc] 24)).alloc (.cells #[.int .i64 rf.heads, .int .i64 rf.pace, .int .i64 f.heads, .int .i64 f.pace, .int .i64 rf.heads, .int .i64 rf.pace, .int .i64 f.heads, .int .i64 f.pace, .int .i64 f.heads, .int .i64 f.pace] 26)).alloc (.cells #[.int .i64 fr, .int .i64 (x : Int), .int .i64 (x : Int), .int .i64 fr, .int .i64 fr] 3)).alloc (.cells #[.int .i64 tt, .int .i64 (y : Int), .int .i64 (y : Int), .int .i64 tt, .int .i64 tt] 3)).alloc (.cells #[.int .i64 z0, .int .i64 (z : Int), .int .i64 (z : Int), .int .i64 z0, .int .i64 z0] 3)).alloc (.cells #[.int .i64 b, .int .i64 d, .int .i64 d, .int .i64 b, .int .i64 b] 3)).alloc (.cells #[.int .i64 s, .int .i64 k, .int .i64 k, .int .i64 s, .int .i64 s] 3)).heap[wc.heap.size + 1 + 1]? = some (.cells #[.int .i64 fr, .int .i64 (x : Int), .int .i64 (x : Int), .int .i64 fr, .int .i64 fr] 3 (0, 0)) := by
        rw [heap_alloc_old _ _ (by simp <;> omega)]
        rw [heap_alloc_old _ _ (by simp <;> omega)]
        rw [heap_alloc_old _ _ (by simp <;> omega)]
        rw [heap_alloc_old _ _ (by simp <;> omega)]
        rw [show wc.heap.size + 1 + 1 = ((wc.alloc (.cells #[.int .i64 rr.days, .int .i64 rr.stages, .slice ra rr.strips.length rc, .int .i64 r.days, .int .i64 r.stages, .slice va N vc, .int .i64 r.days, .int .i64 r.stages, .slice va N vc, .int .i64 rr.days, .int .i64 rr.stages, .slice ra rr.strips.length rc, .int .i64 r.days, .int .i64 r.stages, .slice va N vc] 24)).alloc (.cells #[.int .i64 rf.heads, .int .i64 rf.pace, .int .i64 f.heads, .int .i64 f.pace, .int .i64 rf.heads, .int .i64 rf.pace, .int .i64 f.heads, .int .i64 f.pace, .int .i64 f.heads, .int .i64 f.pace] 26)).heap.size by simp]
        exact heap_alloc_new _ _
      have e3 : (((((((wc.alloc (.cells #[.int .i64 rr.days, .int .i64 rr.stages, .slice ra rr.strips.length rc, .int .i64 r.days, .int .i64 r.stages, .slice va N vc, .int .i64 r.days, .int .i64 r.stages, .slice va N vc, .int .i64 rr.days, .int .i64 rr.stages, .slice ra rr.strips.length rc, .int .i64 r.days, .int .i64 r.stages, .slice va N vc] 24)).alloc (.cells #[.int .i64 rf.heads, .int .i64 rf.pace, .int .i64 f.heads, .int .i64 f.pace, .int .i64 rf.heads, .int .i64 rf.pace, .int .i64 f.heads, .int .i64 f.pace, .int .i64 f.heads, .int .i64 f.pace] 26)).alloc (.cells #[.int .i64 fr, .int .i64 (x : Int), .int .i64 (x : Int), .int .i64 fr, .int .i64 fr] 3)).alloc (.cells #[.int .i64 tt, .int .i64 (y : Int), .int .i64 (y : Int), .int .i64 tt, .int .i64 tt] 3)).alloc (.cells #[.int .i64 z0, .int .i64 (z : Int), .int .i64 (z : Int), .int .i64 z0, .int .i64 z0] 3)).alloc (.cells #[.int .i64 b, .int .i64 d, .int .i64 d, .int .i64 b, .int .i64 b] 3)).alloc (.cells #[.int .i64 s, .int .i64 k, .int .i64 k, .int .i64 s, .int .i64 s] 3)).heap[wc.heap.size + 1 + 1 + 1]? = some (.cells #[.int .i64 tt, .int .i64 (y : Int), .int .i64 (y : Int), .int .i64 tt, .int .i64 tt] 3 (0, 0)) := by
        rw [heap_alloc_old _ _ (by simp <;> omega)]
        rw [heap_alloc_old _ _ (by simp <;> omega)]
        rw [heap_alloc_old _ _ (by simp <;> omega)]
        rw [show wc.heap.size + 1 + 1 + 1 = (((wc.alloc (.cells #[.int .i64 rr.days, .int .i64 rr.stages, .slice ra rr.strips.length rc, .int .i64 r.days, .int .i64 r.stages, .slice va N vc, .int .i64 r.days, .int .i64 r.stages, .slice va N vc, .int .i64 rr.days, .int .i64 rr.stages, .slice ra rr.strips.length rc, .int .i64 r.days, .int .i64 r.stages, .slice va N vc] 24)).alloc (.cells #[.int .i64 rf.heads, .int .i64 rf.pace, .int .i64 f.heads, .int .i64 f.pace, .int .i64 rf.heads, .int .i64 rf.pace, .int .i64 f.heads, .int .i64 f.pace, .int .i64 f.heads, .int .i64 f.pace] 26)).alloc (.cells #[.int .i64 fr, .int .i64 (x : Int), .int .i64 (x : Int), .int .i64 fr, .int .i64 fr] 3)).heap.size by simp]
        exact heap_alloc_new _ _
      have e4 : (((((((wc.alloc (.cells #[.int .i64 rr.days, .int .i64 rr.stages, .slice ra rr.strips.length rc, .int .i64 r.days, .int .i64 r.stages, .slice va N vc, .int .i64 r.days, .int .i64 r.stages, .slice va N vc, .int .i64 rr.days, .int .i64 rr.stages, .slice ra rr.strips.length rc, .int .i64 r.days, .int .i64 r.stages, .slice va N vc] 24)).alloc (.cells #[.int .i64 rf.heads, .int .i64 rf.pace, .int .i64 f.heads, .int .i64 f.pace, .int .i64 rf.heads, .int .i64 rf.pace, .int .i64 f.heads, .int .i64 f.pace, .int .i64 f.heads, .int .i64 f.pace] 26)).alloc (.cells #[.int .i64 fr, .int .i64 (x : Int), .int .i64 (x : Int), .int .i64 fr, .int .i64 fr] 3)).alloc (.cells #[.int .i64 tt, .int .i64 (y : Int), .int .i64 (y : Int), .int .i64 tt, .int .i64 tt] 3)).alloc (.cells #[.int .i64 z0, .int .i64 (z : Int), .int .i64 (z : Int), .int .i64 z0, .int .i64 z0] 3)).alloc (.cells #[.int .i64 b, .int .i64 d, .int .i64 d, .int .i64 b, .int .i64 b] 3)).alloc (.cells #[.int .i64 s, .int .i64 k, .int .i64 k, .int .i64 s, .int .i64 s] 3)).heap[wc.heap.size + 1 + 1 + 1 + 1]? = some (.cells #[.int .i64 z0, .int .i64 (z : Int), .int .i64 (z : Int), .int .i64 z0, .int .i64 z0] 3 (0, 0)) := by
        rw [heap_alloc_old _ _ (by simp <;> omega)]
        rw [heap_alloc_old _ _ (by simp <;> omega)]
        rw [show wc.heap.size + 1 + 1 + 1 + 1 = ((((wc.alloc (.cells #[.int .i64 rr.days, .int .i64 rr.stages, .slice ra rr.strips.length rc, .int .i64 r.days, .int .i64 r.stages, .slice va N vc, .int .i64 r.days, .int .i64 r.stages, .slice va N vc, .int .i64 rr.days, .int .i64 rr.stages, .slice ra rr.strips.length rc, .int .i64 r.days, .int .i64 r.stages, .slice va N vc] 24)).alloc (.cells #[.int .i64 rf.heads, .int .i64 rf.pace, .int .i64 f.heads, .int .i64 f.pace, .int .i64 rf.heads, .int .i64 rf.pace, .int .i64 f.heads, .int .i64 f.pace, .int .i64 f.heads, .int .i64 f.pace] 26)).alloc (.cells #[.int .i64 fr, .int .i64 (x : Int), .int .i64 (x : Int), .int .i64 fr, .int .i64 fr] 3)).alloc (.cells #[.int .i64 tt, .int .i64 (y : Int), .int .i64 (y : Int), .int .i64 tt, .int .i64 tt] 3)).heap.size by simp]
        exact heap_alloc_new _ _
      have e5 : (((((((wc.alloc (.cells #[.int .i64 rr.days, .int .i64 rr.stages, .slice ra rr.strips.length rc, .int .i64 r.days, .int .i64 r.stages, .slice va N vc, .int .i64 r.days, .int .i64 r.stages, .slice va N vc, .int .i64 rr.days, .int .i64 rr.stages, .slice ra rr.strips.length rc, .int .i64 r.days, .int .i64 r.stages, .slice va N vc] 24)).alloc (.cells #[.int .i64 rf.heads, .int .i64 rf.pace, .int .i64 f.heads, .int .i64 f.pace, .int .i64 rf.heads, .int .i64 rf.pace, .int .i64 f.heads, .int .i64 f.pace, .int .i64 f.heads, .int .i64 f.pace] 26)).alloc (.cells #[.int .i64 fr, .int .i64 (x : Int), .int .i64 (x : Int), .int .i64 fr, .int .i64 fr] 3)).alloc (.cells #[.int .i64 tt, .int .i64 (y : Int), .int .i64 (y : Int), .int .i64 tt, .int .i64 tt] 3)).alloc (.cells #[.int .i64 z0, .int .i64 (z : Int), .int .i64 (z : Int), .int .i64 z0, .int .i64 z0] 3)).alloc (.cells #[.int .i64 b, .int .i64 d, .int .i64 d, .int .i64 b, .int .i64 b] 3)).alloc (.cells #[.int .i64 s, .int .i64 k, .int .i64 k, .int .i64 s, .int .i64 s] 3)).heap[wc.heap.size + 1 + 1 + 1 + 1 + 1]? = some (.cells #[.int .i64 b, .int .i64 d, .int .i64 d, .int .i64 b, .int .i64 b] 3 (0, 0)) := by
        rw [heap_alloc_old _ _ (by simp <;> omega)]
        rw [show wc.heap.size + 1 + 1 + 1 + 1 + 1 = (((((wc.alloc (.cells #[.int .i64 rr.days, .int .i64 rr.stages, .slice ra rr.strips.length rc, .int .i64 r.days, .int .i64 r.stages, .slice va N vc, .int .i64 r.days, .int .i64 r.stages, .slice va N vc, .int .i64 rr.days, .int .i64 rr.stages, .slice ra rr.strips.length rc, .int .i64 r.days, .int .i64 r.stages, .slice va N vc] 24)).alloc (.cells #[.int .i64 rf.heads, .int .i64 rf.pace, .int .i64 f.heads, .int .i64 f.pace, .int .i64 rf.heads, .int .i64 rf.pace, .int .i64 f.heads, .int .i64 f.pace, .int .i64 f.heads, .int .i64 f.pace] 26)).alloc (.cells #[.int .i64 fr, .int .i64 (x : Int), .int .i64 (x : Int), .int .i64 fr, .int .i64 fr] 3)).alloc (.cells #[.int .i64 tt, .int .i64 (y : Int), .int .i64 (y : Int), .int .i64 tt, .int .i64 tt] 3)).alloc (.cells #[.int .i64 z0, .int .i64 (z : Int), .int .i64 (z : Int), .int .i64 z0, .int .i64 z0] 3)).heap.size by simp]
        exact heap_alloc_new _ _
      have e6 : (((((((wc.alloc (.cells #[.int .i64 rr.days, .int .i64 rr.stages, .slice ra rr.strips.length rc, .int .i64 r.days, .int .i64 r.stages, .slice va N vc, .int .i64 r.days, .int .i64 r.stages, .slice va N vc, .int .i64 rr.days, .int .i64 rr.stages, .slice ra rr.strips.length rc, .int .i64 r.days, .int .i64 r.stages, .slice va N vc] 24)).alloc (.cells #[.int .i64 rf.heads, .int .i64 rf.pace, .int .i64 f.heads, .int .i64 f.pace, .int .i64 rf.heads, .int .i64 rf.pace, .int .i64 f.heads, .int .i64 f.pace, .int .i64 f.heads, .int .i64 f.pace] 26)).alloc (.cells #[.int .i64 fr, .int .i64 (x : Int), .int .i64 (x : Int), .int .i64 fr, .int .i64 fr] 3)).alloc (.cells #[.int .i64 tt, .int .i64 (y : Int), .int .i64 (y : Int), .int .i64 tt, .int .i64 tt] 3)).alloc (.cells #[.int .i64 z0, .int .i64 (z : Int), .int .i64 (z : Int), .int .i64 z0, .int .i64 z0] 3)).alloc (.cells #[.int .i64 b, .int .i64 d, .int .i64 d, .int .i64 b, .int .i64 b] 3)).alloc (.cells #[.int .i64 s, .int .i64 k, .int .i64 k, .int .i64 s, .int .i64 s] 3)).heap[wc.heap.size + 1 + 1 + 1 + 1 + 1 + 1]? = some (.cells #[.int .i64 s, .int .i64 k, .int .i64 k, .int .i64 s, .int .i64 s] 3 (0, 0)) := by
        rw [show wc.heap.size + 1 + 1 + 1 + 1 + 1 + 1 = ((((((wc.alloc (.cells #[.int .i64 rr.days, .int .i64 rr.stages, .slice ra rr.strips.length rc, .int .i64 r.days, .int .i64 r.stages, .slice va N vc, .int .i64 r.days, .int .i64 r.stages, .slice va N vc, .int .i64 rr.days, .int .i64 rr.stages, .slice ra rr.strips.length rc, .int .i64 r.days, .int .i64 r.stages, .slice va N vc] 24)).alloc (.cells #[.int .i64 rf.heads, .int .i64 rf.pace, .int .i64 f.heads, .int .i64 f.pace, .int .i64 rf.heads, .int .i64 rf.pace, .int .i64 f.heads, .int .i64 f.pace, .int .i64 f.heads, .int .i64 f.pace] 26)).alloc (.cells #[.int .i64 fr, .int .i64 (x : Int), .int .i64 (x : Int), .int .i64 fr, .int .i64 fr] 3)).alloc (.cells #[.int .i64 tt, .int .i64 (y : Int), .int .i64 (y : Int), .int .i64 tt, .int .i64 tt] 3)).alloc (.cells #[.int .i64 z0, .int .i64 (z : Int), .int .i64 (z : Int), .int .i64 z0, .int .i64 z0] 3)).alloc (.cells #[.int .i64 b, .int .i64 d, .int .i64 d, .int .i64 b, .int .i64 b] 3)).heap.size by simp]
        exact heap_alloc_new _ _
      have hkp : ∀ b0, b0 ≠ w.heap.size + 1 + 1 → ((((((((((((((wc.alloc (.cells #[.int .i64 rr.days, .int .i64 rr.stages, .slice ra rr.strips.length rc, .int .i64 r.days, .int .i64 r.stages, .slice va N vc, .int .i64 r.days, .int .i64 r.stages, .slice va N vc, .int .i64 rr.days, .int .i64 rr.stages, .slice ra rr.strips.length rc, .int .i64 r.days, .int .i64 r.stages, .slice va N vc] 24)).alloc (.cells #[.int .i64 rf.heads, .int .i64 rf.pace, .int .i64 f.heads, .int .i64 f.pace, .int .i64 rf.heads, .int .i64 rf.pace, .int .i64 f.heads, .int .i64 f.pace, .int .i64 f.heads, .int .i64 f.pace] 26)).alloc (.cells #[.int .i64 fr, .int .i64 (x : Int), .int .i64 (x : Int), .int .i64 fr, .int .i64 fr] 3)).alloc (.cells #[.int .i64 tt, .int .i64 (y : Int), .int .i64 (y : Int), .int .i64 tt, .int .i64 tt] 3)).alloc (.cells #[.int .i64 z0, .int .i64 (z : Int), .int .i64 (z : Int), .int .i64 z0, .int .i64 z0] 3)).alloc (.cells #[.int .i64 b, .int .i64 d, .int .i64 d, .int .i64 b, .int .i64 b] 3)).alloc (.cells #[.int .i64 s, .int .i64 k, .int .i64 k, .int .i64 s, .int .i64 s] 3)).setCell ⟨w.heap.size + 1 + 1, 0, none⟩ (.slice (some ⟨wc.heap.size, 0, none⟩) 5 5)).setCell ⟨w.heap.size + 1 + 1, 1, none⟩ (.slice (some ⟨wc.heap.size + 1, 0, none⟩) 5 5)).setCell ⟨w.heap.size + 1 + 1, 2, none⟩ (.slice (some ⟨wc.heap.size + 1 + 1, 0, none⟩) 5 5)).setCell ⟨w.heap.size + 1 + 1, 3, none⟩ (.slice (some ⟨wc.heap.size + 1 + 1 + 1, 0, none⟩) 5 5)).setCell ⟨w.heap.size + 1 + 1, 4, none⟩ (.slice (some ⟨wc.heap.size + 1 + 1 + 1 + 1, 0, none⟩) 5 5)).setCell ⟨w.heap.size + 1 + 1, 5, none⟩ (.slice (some ⟨wc.heap.size + 1 + 1 + 1 + 1 + 1, 0, none⟩) 5 5)).setCell ⟨w.heap.size + 1 + 1, 6, none⟩ (.slice (some ⟨wc.heap.size + 1 + 1 + 1 + 1 + 1 + 1, 0, none⟩) 5 5)).heap[b0]? = (((((((wc.alloc (.cells #[.int .i64 rr.days, .int .i64 rr.stages, .slice ra rr.strips.length rc, .int .i64 r.days, .int .i64 r.stages, .slice va N vc, .int .i64 r.days, .int .i64 r.stages, .slice va N vc, .int .i64 rr.days, .int .i64 rr.stages, .slice ra rr.strips.length rc, .int .i64 r.days, .int .i64 r.stages, .slice va N vc] 24)).alloc (.cells #[.int .i64 rf.heads, .int .i64 rf.pace, .int .i64 f.heads, .int .i64 f.pace, .int .i64 rf.heads, .int .i64 rf.pace, .int .i64 f.heads, .int .i64 f.pace, .int .i64 f.heads, .int .i64 f.pace] 26)).alloc (.cells #[.int .i64 fr, .int .i64 (x : Int), .int .i64 (x : Int), .int .i64 fr, .int .i64 fr] 3)).alloc (.cells #[.int .i64 tt, .int .i64 (y : Int), .int .i64 (y : Int), .int .i64 tt, .int .i64 tt] 3)).alloc (.cells #[.int .i64 z0, .int .i64 (z : Int), .int .i64 (z : Int), .int .i64 z0, .int .i64 z0] 3)).alloc (.cells #[.int .i64 b, .int .i64 d, .int .i64 d, .int .i64 b, .int .i64 b] 3)).alloc (.cells #[.int .i64 s, .int .i64 k, .int .i64 k, .int .i64 s, .int .i64 s] 3)).heap[b0]? := fun b0 hb0 => by
        rw [Below.heap_setCell _ ⟨w.heap.size + 1 + 1, 6, none⟩ _ b0 hb0]; rw [Below.heap_setCell _ ⟨w.heap.size + 1 + 1, 5, none⟩ _ b0 hb0]; rw [Below.heap_setCell _ ⟨w.heap.size + 1 + 1, 4, none⟩ _ b0 hb0]; rw [Below.heap_setCell _ ⟨w.heap.size + 1 + 1, 3, none⟩ _ b0 hb0]; rw [Below.heap_setCell _ ⟨w.heap.size + 1 + 1, 2, none⟩ _ b0 hb0]; rw [Below.heap_setCell _ ⟨w.heap.size + 1 + 1, 1, none⟩ _ b0 hb0]; rw [Below.heap_setCell _ ⟨w.heap.size + 1 + 1, 0, none⟩ _ b0 hb0]
      have hbF : Below w0.heap.size w0 ((((((((((((((wc.alloc (.cells #[.int .i64 rr.days, .int .i64 rr.stages, .slice ra rr.strips.length rc, .int .i64 r.days, .int .i64 r.stages, .slice va N vc, .int .i64 r.days, .int .i64 r.stages, .slice va N vc, .int .i64 rr.days, .int .i64 rr.stages, .slice ra rr.strips.length rc, .int .i64 r.days, .int .i64 r.stages, .slice va N vc] 24)).alloc (.cells #[.int .i64 rf.heads, .int .i64 rf.pace, .int .i64 f.heads, .int .i64 f.pace, .int .i64 rf.heads, .int .i64 rf.pace, .int .i64 f.heads, .int .i64 f.pace, .int .i64 f.heads, .int .i64 f.pace] 26)).alloc (.cells #[.int .i64 fr, .int .i64 (x : Int), .int .i64 (x : Int), .int .i64 fr, .int .i64 fr] 3)).alloc (.cells #[.int .i64 tt, .int .i64 (y : Int), .int .i64 (y : Int), .int .i64 tt, .int .i64 tt] 3)).alloc (.cells #[.int .i64 z0, .int .i64 (z : Int), .int .i64 (z : Int), .int .i64 z0, .int .i64 z0] 3)).alloc (.cells #[.int .i64 b, .int .i64 d, .int .i64 d, .int .i64 b, .int .i64 b] 3)).alloc (.cells #[.int .i64 s, .int .i64 k, .int .i64 k, .int .i64 s, .int .i64 s] 3)).setCell ⟨w.heap.size + 1 + 1, 0, none⟩ (.slice (some ⟨wc.heap.size, 0, none⟩) 5 5)).setCell ⟨w.heap.size + 1 + 1, 1, none⟩ (.slice (some ⟨wc.heap.size + 1, 0, none⟩) 5 5)).setCell ⟨w.heap.size + 1 + 1, 2, none⟩ (.slice (some ⟨wc.heap.size + 1 + 1, 0, none⟩) 5 5)).setCell ⟨w.heap.size + 1 + 1, 3, none⟩ (.slice (some ⟨wc.heap.size + 1 + 1 + 1, 0, none⟩) 5 5)).setCell ⟨w.heap.size + 1 + 1, 4, none⟩ (.slice (some ⟨wc.heap.size + 1 + 1 + 1 + 1, 0, none⟩) 5 5)).setCell ⟨w.heap.size + 1 + 1, 5, none⟩ (.slice (some ⟨wc.heap.size + 1 + 1 + 1 + 1 + 1, 0, none⟩) 5 5)).setCell ⟨w.heap.size + 1 + 1, 6, none⟩ (.slice (some ⟨wc.heap.size + 1 + 1 + 1 + 1 + 1 + 1, 0, none⟩) 5 5)) := (((((((HK.out.rf.bel.trans (HA.out.mono HK.out.rf.bel.size)).setCell (p := ⟨w.heap.size + 1 + 1, 0, none⟩) (by show w0.heap.size ≤ w.heap.size + 1 + 1; omega) _).setCell (p := ⟨w.heap.size + 1 + 1, 1, none⟩) (by show w0.heap.size ≤ w.heap.size + 1 + 1; omega) _).setCell (p := ⟨w.heap.size + 1 + 1, 2, none⟩) (by show w0.heap.size ≤ w.heap.size + 1 + 1; omega) _).setCell (p := ⟨w.heap.size + 1 + 1, 3, none⟩) (by show w0.heap.size ≤ w.heap.size + 1 + 1; omega) _).setCell (p := ⟨w.heap.size + 1 + 1, 4, none⟩) (by show w0.heap.size ≤ w.heap.size + 1 + 1; omega) _).setCell (p := ⟨w.heap.size + 1 + 1, 5, none⟩) (by show w0.heap.size ≤ w.heap.size + 1 + 1; omega) _).setCell (p := ⟨w.heap.size + 1 + 1, 6, none⟩) (by show w0.heap.size ≤ w.heap.size + 1 + 1; omega) _
      have hh : HandAt ((((((((((((((wc.alloc (.cells #[.int .i64 rr.days, .int .i64 rr.stages, .slice ra rr.strips.length rc, .int .i64 r.days, .int .i64 r.stages, .slice va N vc, .int .i64 r.days, .int .i64 r.stages, .slice va N vc, .int .i64 rr.days, .int .i64 rr.stages, .slice ra rr.strips.length rc, .int .i64 r.days, .int .i64 r.stages, .slice va N vc] 24)).alloc (.cells #[.int .i64 rf.heads, .int .i64 rf.pace, .int .i64 f.heads, .int .i64 f.pace, .int .i64 rf.heads, .int .i64 rf.pace, .int .i64 f.heads, .int .i64 f.pace, .int .i64 f.heads, .int .i64 f.pace] 26)).alloc (.cells #[.int .i64 fr, .int .i64 (x : Int), .int .i64 (x : Int), .int .i64 fr, .int .i64 fr] 3)).alloc (.cells #[.int .i64 tt, .int .i64 (y : Int), .int .i64 (y : Int), .int .i64 tt, .int .i64 tt] 3)).alloc (.cells #[.int .i64 z0, .int .i64 (z : Int), .int .i64 (z : Int), .int .i64 z0, .int .i64 z0] 3)).alloc (.cells #[.int .i64 b, .int .i64 d, .int .i64 d, .int .i64 b, .int .i64 b] 3)).alloc (.cells #[.int .i64 s, .int .i64 k, .int .i64 k, .int .i64 s, .int .i64 s] 3)).setCell ⟨w.heap.size + 1 + 1, 0, none⟩ (.slice (some ⟨wc.heap.size, 0, none⟩) 5 5)).setCell ⟨w.heap.size + 1 + 1, 1, none⟩ (.slice (some ⟨wc.heap.size + 1, 0, none⟩) 5 5)).setCell ⟨w.heap.size + 1 + 1, 2, none⟩ (.slice (some ⟨wc.heap.size + 1 + 1, 0, none⟩) 5 5)).setCell ⟨w.heap.size + 1 + 1, 3, none⟩ (.slice (some ⟨wc.heap.size + 1 + 1 + 1, 0, none⟩) 5 5)).setCell ⟨w.heap.size + 1 + 1, 4, none⟩ (.slice (some ⟨wc.heap.size + 1 + 1 + 1 + 1, 0, none⟩) 5 5)).setCell ⟨w.heap.size + 1 + 1, 5, none⟩ (.slice (some ⟨wc.heap.size + 1 + 1 + 1 + 1 + 1, 0, none⟩) 5 5)).setCell ⟨w.heap.size + 1 + 1, 6, none⟩ (.slice (some ⟨wc.heap.size + 1 + 1 + 1 + 1 + 1 + 1, 0, none⟩) 5 5)) hb 211 a n c := HK.out.hand.keep fun b0 hb0 hle => (hkp b0 (by omega)).trans (HA.out.block b0 hb0)
      have hs2 : StripsAt (((((((wc.alloc (.cells #[.int .i64 rr.days, .int .i64 rr.stages, .slice ra rr.strips.length rc, .int .i64 r.days, .int .i64 r.stages, .slice va N vc, .int .i64 r.days, .int .i64 r.stages, .slice va N vc, .int .i64 rr.days, .int .i64 rr.stages, .slice ra rr.strips.length rc, .int .i64 r.days, .int .i64 r.stages, .slice va N vc] 24)).alloc (.cells #[.int .i64 rf.heads, .int .i64 rf.pace, .int .i64 f.heads, .int .i64 f.pace, .int .i64 rf.heads, .int .i64 rf.pace, .int .i64 f.heads, .int .i64 f.pace, .int .i64 f.heads, .int .i64 f.pace] 26)).alloc (.cells #[.int .i64 fr, .int .i64 (x : Int), .int .i64 (x : Int), .int .i64 fr, .int .i64 fr] 3)).alloc (.cells #[.int .i64 tt, .int .i64 (y : Int), .int .i64 (y : Int), .int .i64 tt, .int .i64 tt] 3)).alloc (.cells #[.int .i64 z0, .int .i64 (z : Int), .int .i64 (z : Int), .int .i64 z0, .int .i64 z0] 3)).alloc (.cells #[.int .i64 b, .int .i64 d, .int .i64 d, .int .i64 b, .int .i64 b] 3)).alloc (.cells #[.int .i64 s, .int .i64 k, .int .i64 k, .int .i64 s, .int .i64 s] 3)) va r.strips := HK.out.rf.strips.below HA.out
      generalize ((((((((((((((wc.alloc (.cells #[.int .i64 rr.days, .int .i64 rr.stages, .slice ra rr.strips.length rc, .int .i64 r.days, .int .i64 r.stages, .slice va N vc, .int .i64 r.days, .int .i64 r.stages, .slice va N vc, .int .i64 rr.days, .int .i64 rr.stages, .slice ra rr.strips.length rc, .int .i64 r.days, .int .i64 r.stages, .slice va N vc] 24)).alloc (.cells #[.int .i64 rf.heads, .int .i64 rf.pace, .int .i64 f.heads, .int .i64 f.pace, .int .i64 rf.heads, .int .i64 rf.pace, .int .i64 f.heads, .int .i64 f.pace, .int .i64 f.heads, .int .i64 f.pace] 26)).alloc (.cells #[.int .i64 fr, .int .i64 (x : Int), .int .i64 (x : Int), .int .i64 fr, .int .i64 fr] 3)).alloc (.cells #[.int .i64 tt, .int .i64 (y : Int), .int .i64 (y : Int), .int .i64 tt, .int .i64 tt] 3)).alloc (.cells #[.int .i64 z0, .int .i64 (z : Int), .int .i64 (z : Int), .int .i64 z0, .int .i64 z0] 3)).alloc (.cells #[.int .i64 b, .int .i64 d, .int .i64 d, .int .i64 b, .int .i64 b] 3)).alloc (.cells #[.int .i64 s, .int .i64 k, .int .i64 k, .int .i64 s, .int .i64 s] 3)).setCell ⟨w.heap.size + 1 + 1, 0, none⟩ (.slice (some ⟨wc.heap.size, 0, none⟩) 5 5)).setCell ⟨w.heap.size + 1 + 1, 1, none⟩ (.slice (some ⟨wc.heap.size + 1, 0, none⟩) 5 5)).setCell ⟨w.heap.size + 1 + 1, 2, none⟩ (.slice (some ⟨wc.heap.size + 1 + 1, 0, none⟩) 5 5)).setCell ⟨w.heap.size + 1 + 1, 3, none⟩ (.slice (some ⟨wc.heap.size + 1 + 1 + 1, 0, none⟩) 5 5)).setCell ⟨w.heap.size + 1 + 1, 4, none⟩ (.slice (some ⟨wc.heap.size + 1 + 1 + 1 + 1, 0, none⟩) 5 5)).setCell ⟨w.heap.size + 1 + 1, 5, none⟩ (.slice (some ⟨wc.heap.size + 1 + 1 + 1 + 1 + 1, 0, none⟩) 5 5)).setCell ⟨w.heap.size + 1 + 1, 6, none⟩ (.slice (some ⟨wc.heap.size + 1 + 1 + 1 + 1 + 1 + 1, 0, none⟩) 5 5)) = S at h7 hkp hbF hh ⊢
      have e0' := (hkp (wc.heap.size) (by omega)).trans e0
      have e1' := (hkp (wc.heap.size + 1) (by omega)).trans e1
      have e2' := (hkp (wc.heap.size + 1 + 1) (by omega)).trans e2
      have e3' := (hkp (wc.heap.size + 1 + 1 + 1) (by omega)).trans e3
      have e4' := (hkp (wc.heap.size + 1 + 1 + 1 + 1) (by omega)).trans e4
      have e5' := (hkp (wc.heap.size + 1 + 1 + 1 + 1 + 1) (by omega)).trans e5
      have e6' := (hkp (wc.heap.size + 1 + 1 + 1 + 1 + 1 + 1) (by omega)).trans e6
      obtain ⟨k0, k1, k2, k3, k4, k5, k6⟩ := h7
      have hlS : ∀ k0, k0 < 7 → wc.heap.size + k0 < S.heap.size := fun k0 hk0 => by
        have := (Array.getElem?_eq_some_iff.1 e6').1
        omega
      have hwc : w.heap.size ≤ wc.heap.size := by omega
      have hask : ∀ S' : World, (∀ k, (k < w0.heap.size ∨ w.heap.size ≤ k) → k < S.heap.size → S'.heap[k]? = S.heap[k]?) → AskedAt S' (wc.heap.size) (wc.heap.size + 1) (wc.heap.size + 1 + 1) (wc.heap.size + 1 + 1 + 1) (wc.heap.size + 1 + 1 + 1 + 1) (wc.heap.size + 1 + 1 + 1 + 1 + 1) (wc.heap.size + 1 + 1 + 1 + 1 + 1 + 1) (askOf rr rf fr tt z0 b s ra rc r f (x : Int) (y : Int) (z : Int) d k va vc) := fun S' hS' => by
        have hs1 : StripsAt S' ra rr.strips := by
          rcases hs with h | ⟨b0, o0, hb0, h⟩
          · exact .inl h
          · exact .inr ⟨b0, o0, hb0, fun i hi => (h i hi).keep fun k => World.cell?_of_block ((hS' b0 (.inl (lt_of_cell (h i hi).c0)) (Nat.lt_of_lt_of_le (lt_of_cell (h i hi).c0) hbF.size)).trans (hbF.block b0 (lt_of_cell (h i hi).c0)))⟩
        have hs2' : StripsAt S' va r.strips := by
          rcases hs2 with h | ⟨b0, o0, hb0, h⟩
          · exact .inl h
          · have hbW : W1.heap.size ≤ b0 := HVA.out _ hb0
            refine .inr ⟨b0, o0, hb0, fun i hi => (h i hi).keep fun k => World.cell?_of_block ((hS' b0 (.inr (by omega)) ?_).trans (hkp b0 (by omega)))⟩
            have h1 := lt_of_cell (h i hi).c0
            have h2 := hlS 6 (by omega)
            simp only [World.size_alloc] at h1
            omega
        exact asked_of (f := f) (x := x) (y := y) (z := z) (d := d) (k := k) hN ((hS' _ (.inr (by omega)) (by have := hlS 0 (by omega); omega)).trans e0') ((hS' _ (.inr (by omega)) (by have := hlS 1 (by omega); omega)).trans e1') ((hS' _ (.inr (by omega)) (by have := hlS 2 (by omega); omega)).trans e2') ((hS' _ (.inr (by omega)) (by have := hlS 3 (by omega); omega)).trans e3') ((hS' _ (.inr (by omega)) (by have := hlS 4 (by omega); omega)).trans e4') ((hS' _ (.inr (by omega)) (by have := hlS 5 (by omega); omega)).trans e5') ((hS' _ (.inr (by omega)) (by have := hlS 6 (by omega); omega)).trans e6') hs1 hs2' hl (by omega) hrc HCAP.out
      have hext : Ext hb w S := ⟨(hbF.os.trans hB.os.symm), (hbF.tape.trans hB.tape.symm), (hbF.output.trans hB.output.symm), by have := hlS 0 (by omega); omega, fun k0 hk0 hne => by
        rw [hkp k0 (by omega), HA.out.block k0 (by omega), HE.out.block k0 (by omega) hne, HW1.out.block k0 hk0]⟩
      have HASK := Lib.hid hask; clear hask hs2 e0' e1' e2' e3' e4' e5' e6' e0 e1 e2 e3 e4 e5 e6 hkp HA HK HE
      have HEXT := Lib.hid hext; clear hext
      have HBF := Lib.hid hbF; clear hbF
      have HH := Lib.hid hh; clear hh
      refine bodyPost_ret (v := .agg #[.slice (some ⟨wc.heap.size, 0, none⟩) 5 5, .slice (some ⟨wc.heap.size + 1, 0, none⟩) 5 5, .slice (some ⟨wc.heap.size + 1 + 1, 0, none⟩) 5 5, .slice (some ⟨wc.heap.size + 1 + 1 + 1, 0, none⟩) 5 5, .slice (some ⟨wc.heap.size + 1 + 1 + 1 + 1, 0, none⟩) 5 5, .slice (some ⟨wc.heap.size + 1 + 1 + 1 + 1 + 1, 0, none⟩) 5 5, .slice (some ⟨wc.heap.size + 1 + 1 + 1 + 1 + 1 + 1, 0, none⟩) 5 5]) ?_ rfl ⟨_, _, _, _, _, _, _, _, rfl, HASK.out, HBF.out, HH.out, HEXT.out⟩
      clear HASK HBF HH HEXT
      simp [results, Try.results22, go_sem, k0, k1, k2, k3, k4, k5, k6]
end Go.Proofs.Ytjgkgnfhglhklaa
