/- Numbers dealt next to roads and a flock, and what the laws ask of Comes and Late. -/
import Derived.Test.YtjgkgnfhglhklaaEarly
import Derived.Test.YtjgkgnfhglhklaaLastP
namespace Go.Proofs.Ytjgkgnfhglhklaa
set_option linter.unusedSimpArgs false
set_option linter.unusedVariables false
open Go.RowKit

/-- A hand next to roads and a flock. -/
structure HRF (w wx : World) (hb B p q : Nat) (r : Roads) (f : Flock) (va : Option Addr) (vc : Nat) (a : Option Addr) (n c : Nat) : Prop where
  rf : RF w wx p q r f va vc
  hand : HandAt wx hb B a n c
  hp : p ≠ hb
  hq : q ≠ hb
  hv : ∀ ad, va = some ad → ad.block ≠ hb
  hm : w.heap.size ≤ hb
theorem HRF.drew {w wx : World} {hb B p q : Nat} {r : Roads} {f : Flock} {va : Option Addr} {vc : Nat} {a : Option Addr} {n c : Nat} (h : HRF w wx hb B p q r f va vc a n c) : HRF w wx.drew hb B p q r f va vc a n c :=
  ⟨h.rf.below (Below.refl _ _).drew, h.hand.below (Below.refl _ _).drew, h.hp, h.hq, h.hv, h.hm⟩
theorem HRF.upto {w wx : World} {hb B p q : Nat} {r : Roads} {f : Flock} {va : Option Addr} {vc : Nat} {a : Option Addr} {n c : Nat} (h : HRF w wx hb B p q r f va vc a n c) (hB : B ≤ 900000) (most : Int) (h1 : 0 ≤ most) (h2 : most ≤ 1000) :
    Calls Try.prog 34 #[.pointer (some ⟨hb, 0, none⟩), .int .i64 most] wx fun e w' => ∃ x : Nat, (x : Int) ≤ most ∧ e = .returned (.int .i64 (x : Int)) ∧ HRF w w' hb (B + 1) p q r f va vc a n c :=
  (Upto_any wx hb B a n c h.hand (by omega) most (by omega) (by omega)).mono fun e w' hh => by
    obtain ⟨_, ⟨x, x1, x2, rfl⟩, rfl, hh1, hE⟩ := hh
    obtain ⟨k, rfl⟩ := Int.eq_ofNat_of_zero_le x1
    exact ⟨k, by omega, rfl, h.rf.ext hE h.hp h.hq h.hv h.hm, hh1, h.hp, h.hq, h.hv, h.hm⟩

theorem ready6 {r : Roads} {f : Flock} (g : Good r f) {x y z : Int} (h1 : 0 ≤ x) (h2 : x < r.stages) (h3 : 0 ≤ y) (h4 : y < r.stages) (h5 : 0 ≤ z) (h6 : z < r.days) : readyErr r f [x, r.stages, y, r.stages, z, r.days] = 0 := by
  obtain ⟨k1, k2⟩ := good_iff.1 g
  unfold readyErr
  rw [if_neg (by simp [k1]), if_neg (by simp [k2])]
  exact pairs6.2 ⟨⟨h1, h2⟩, ⟨h3, h4⟩, h5, h6⟩
/-- road.Late where its inputs are valid. -/
theorem Late_good (w : World) {r : Roads} {f : Flock} (g : Good r f) (a : Option Addr) (cap S : Nat) (hS : r.stages = (S : Int)) (hs : StripsAt w a r.strips) (fr tt b : Nat) (h1 : fr < S) (h2 : tt < S) (h3 : (b : Int) < r.days) :
    Calls Try.prog 43 #[.agg #[.int .i64 r.days, .int .i64 r.stages, .slice a r.strips.length cap], .agg #[.int .i64 f.heads, .int .i64 f.pace], .int .i64 (fr : Int), .int .i64 (tt : Int), .int .i64 (b : Int)] w
      fun e w' => Below w.heap.size w w' ∧ ((lateD r f fr tt (b : Int) < 0 ∧ e = .returned (.tuple #[.int .i64 0, .int .i64 11])) ∨ (0 ≤ lateD r f fr tt (b : Int) ∧ e = .returned (.tuple #[.int .i64 (lateD r f fr tt (b : Int)), .int .i64 0]))) :=
  (Late_any w r f a cap hs (by have := g.n8; unfold maxLen; omega) fr tt b).mono fun e w' h => by
    obtain ⟨hb, ⟨_, h⟩ | ⟨_, h⟩ | ⟨hz, _⟩⟩ := h
    · exact ⟨hb, .inl h⟩
    · exact ⟨hb, .inr h⟩
    · exact absurd (ready6 g (by omega) (by omega) (by omega) (by omega) (by omega) h3) hz

set_option maxRecDepth 100000 in
set_option maxHeartbeats 4000000 in
theorem in_last (w : World) {r : Roads} {f : Flock} (g : Good r f) (a : Option Addr) (cap S : Nat) (hS : r.stages = (S : Int)) (hs : StripsAt w a r.strips) (fr tt d b : Nat) (h1 : fr < S) (h2 : tt < S) (hdb : d ≤ b) (h3 : (b : Int) < r.days) :
    Calls Try.prog 39 #[.agg #[.int .i64 r.days, .int .i64 r.stages, .slice a r.strips.length cap], .agg #[.int .i64 f.heads, .int .i64 f.pace], .int .i64 (fr : Int), .int .i64 (tt : Int), .int .i64 (d : Int), .int .i64 (b : Int)] w
      fun e w' => e = .returned (.tuple #[.bool (decide ((d : Int) ≤ lateD r f fr tt (b : Int))), .bool true]) ∧ Below w.heap.size w w' := by
  have hb0 : Below w.heap.size w ((w.alloc (.cells #[.int .i64 r.days, .int .i64 r.stages, .slice a r.strips.length cap] 24)).alloc (.cells #[.int .i64 f.heads, .int .i64 f.pace] 26)) :=
    (Below.alloc (Below.refl _ _) (Nat.le_refl _) _).alloc (by simp) _
  have hs0 := Lib.hid (hs.below hb0); clear hs
  have G := Lib.hid g; clear g
  have HS := Lib.hid hS; clear hS
  go_enter Try.func39, Try.ntmps39
  go_wp2_with fail
  refine (Comes_good _ G.out a cap S HS.out hs0.out fr d h1 (by omega)).mono ?_
  rintro e w1 ⟨gb, lc, rfl, hdays, hb1⟩
  have hlS : (comesL r f (-1) fr (d : Int)).length = S := by rw [comesL_len, HS.out]; rfl
  have hl := last_day G.out (fr := fr) (tt := tt) (by rw [HS.out]; omega) hdb h3 (by rw [HS.out]; omega) (by omega)
  have x1 := hdays tt (by omega)
  generalize (comesL r f (-1) fr (d : Int))[tt] = y at x1 hl
  have c1 : w1.cell? ⟨w.heap.size, 1, none⟩ = some (.int .i64 (S : Int)) := by
    rw [← HS.out, (bcell hb1).1 _ _ (by simp; omega)]
    exact ((bcell (Below.alloc (Below.refl _ _) (Nat.le_refl _) _)).1 _ _ (by simp)).trans (by simp)
  have HL := Lib.hid hl; clear hl
  have HlS := Lib.hid hlS; clear hlS
  have HB := Lib.hid (hb0.trans (hb1.mono (by simp; omega))); clear hb0 hb1 hdays hs0
  have q2 : (tt : Int) < (S : Int) := by omega
  go_wp2_with fail
  refine (there_any w1 y b).mono ?_
  rintro e w2 ⟨rfl, rfl⟩
  rw [HL.out]
  go_wp2_with fail
  go_ret2
  exact ⟨rfl, HB.out⟩
end Go.Proofs.Ytjgkgnfhglhklaa
