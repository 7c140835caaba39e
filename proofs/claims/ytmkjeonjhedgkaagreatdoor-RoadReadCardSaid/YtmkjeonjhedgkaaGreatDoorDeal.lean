/- The last day to set out: the plain law. Numbers dealt next to roads and a flock, and what the laws ask of Comes and Late. A slice of integers that came in, as the shells say it. -/
import Derived.Test.YtmkjeonjhedgkaaGreatDoorEarly
import Derived.Test.YtmkjeonjhedgkaaGreatDoorReady
import Derived.Test.YtmkjeonjhedgkaaGreatDoorHand
namespace Go.Proofs.YtmkjeonjhedgkaaGreatDoor
set_option linter.unusedSimpArgs false
set_option linter.unusedVariables false
open Go.RowKit

theorem nights_grow {r : Roads} {f : Flock} (g : Good r f) {shut : Int} {n : Nat} {day : Int} {t : Nat} (ht : (t : Int) < r.stages) : ∀ (k j : Nat), j ≤ k → (nightsTo r f shut n day j).testBit t = true → (nightsTo r f shut n day k).testBit t = true
  | 0, j, hj, h => by obtain rfl : j = 0 := by omega
                      exact h
  | k + 1, j, hj, h => by
    by_cases e : j = k + 1
    · subst e; exact h
    · rw [nightsTo]
      exact afterN_stay g t ht (nights_grow g ht k j (by omega) h)
/-- A day of Comes that is not later than another one: the flock can be there on that. -/
theorem comes_can {r : Roads} {f : Flock} (g : Good r f) {shut : Int} {fr tt d b : Nat} (hdb : d ≤ b) (hb : (b : Int) < r.days) (htt : (tt : Int) < r.stages) (h : tt < (comesL r f shut fr (d : Int)).length) :
    (decide (0 ≤ (comesL r f shut fr (d : Int))[tt]) && decide ((comesL r f shut fr (d : Int))[tt] ≤ (b : Int))) = canB r f shut fr tt d b := by
  unfold canB
  rw [decide_eq_true (show (d : Int) ≤ (b : Int) by omega), Bool.true_and, show ((b : Int) - (d : Int) + 1).toNat = (b - d) + 1 by omega]
  rw [Bool.eq_iff_iff]
  simp only [Bool.and_eq_true, decide_eq_true_eq]
  constructor
  · rintro ⟨h1, h2⟩
    obtain ⟨j, j1, j2, j3⟩ := comesTo_get (shut := shut) (by omega) (r.days - (d : Int)).toNat tt h h1
    have j4 : (comesL r f shut fr (d : Int))[tt] = (d : Int) + (j : Int) := j2
    exact nights_grow g htt _ (j + 1) (by omega) j3
  · intro hn
    obtain ⟨i1, i2⟩ := comesTo_le (shut := shut) (by omega) (r.days - (d : Int)).toNat tt h (b - d) (by omega) hn
    refine ⟨i1, ?_⟩
    have i3 : (comesL r f shut fr (d : Int))[tt] ≤ (d : Int) + ((b - d : Nat) : Int) := i2
    omega
theorem can_shift {r : Roads} {f : Flock} (g : Good r f) {shut : Int} {fr tt : Nat} (hf : (fr : Int) < r.stages) {d b : Int} (h : canB r f shut fr tt (d + 1) b = true) : canB r f shut fr tt d b = true := by
  unfold canB at h ⊢
  simp only [Bool.and_eq_true, decide_eq_true_eq] at h ⊢
  refine ⟨by omega, ?_⟩
  have := nights_shift g hf _ _ h.2
  rwa [show (b - d + 1).toNat = (b - (d + 1) + 1).toNat + 1 by omega]
theorem can_down {r : Roads} {f : Flock} (g : Good r f) {shut : Int} {fr tt : Nat} (hf : (fr : Int) < r.stages) {b : Int} {d : Nat} : ∀ k : Nat, canB r f shut fr tt ((d + k : Nat) : Int) b = true → canB r f shut fr tt (d : Int) b = true
  | 0, h => h
  | k + 1, h => can_down g hf k (can_shift g hf (by rw [show ((d + k : Nat) : Int) + 1 = ((d + (k + 1) : Nat) : Int) by omega]; exact h))
theorem lateR_lt {r : Roads} {f : Flock} {shut : Int} {fr tt : Nat} {b : Int} : ∀ n : Nat, -1 ≤ lateR r f shut fr tt b n ∧ lateR r f shut fr tt b n < (n : Int)
  | 0 => by rw [lateR]; omega
  | n + 1 => by
    have := lateR_lt (r := r) (f := f) (shut := shut) (fr := fr) (tt := tt) (b := b) n
    rw [lateR]; split <;> omega
theorem lateR_can {r : Roads} {f : Flock} (g : Good r f) {shut : Int} {fr tt : Nat} (hf : (fr : Int) < r.stages) {b : Int} : ∀ (n d : Nat), d < n → canB r f shut fr tt (d : Int) b = decide ((d : Int) ≤ lateR r f shut fr tt b n)
  | 0, d, h => by omega
  | n + 1, d, h => by
    rw [lateR]
    cases hc : canB r f shut fr tt (n : Int) b
    · rw [if_neg (by simp)]
      by_cases e : d = n
      · subst e
        have := (lateR_lt (r := r) (f := f) (shut := shut) (fr := fr) (tt := tt) (b := b) d).2
        rw [hc, decide_eq_false (by omega)]
      · exact lateR_can g hf n d (by omega)
    · rw [if_pos rfl, decide_eq_true (by omega)]
      exact can_down g hf (n - d) (by rw [show d + (n - d) = n by omega]; exact hc)

/-- What RoadLast says of one day. -/
theorem last_day {r : Roads} {f : Flock} (g : Good r f) {fr tt d b : Nat} (hf : (fr : Int) < r.stages) (hdb : d ≤ b) (hb : (b : Int) < r.days) (htt : (tt : Int) < r.stages) (h : tt < (comesL r f (-1) fr (d : Int)).length) :
    (decide (0 ≤ (comesL r f (-1) fr (d : Int))[tt]) && decide ((comesL r f (-1) fr (d : Int))[tt] ≤ (b : Int))) = decide ((d : Int) ≤ lateD r f fr tt (b : Int)) := by
  rw [comes_can g hdb hb htt h]
  unfold lateD
  rw [show ((b : Int) + 1).toNat = b + 1 by omega]
  exact lateR_can g hf (b + 1) d (by omega)
theorem late_range {r : Roads} {f : Flock} {fr tt b : Nat} : -1 ≤ lateD r f fr tt (b : Int) ∧ lateD r f fr tt (b : Int) ≤ (b : Int) := by
  have := lateR_lt (r := r) (f := f) (shut := -1) (fr := fr) (tt := tt) (b := (b : Int)) ((b : Int) + 1).toNat
  unfold lateD
  omega
end Go.Proofs.YtmkjeonjhedgkaaGreatDoor

namespace Go.Proofs.YtmkjeonjhedgkaaGreatDoor
set_option linter.unusedSimpArgs false
set_option linter.unusedVariables false
open Go.RowKit

/-- A hand next to roads and a flock. -/
structure HRF (w wx : World) (hb B p q : Nat) (r : Roads) (f : Flock) (va : Option Addr) (vc : Nat) (a : Option Addr) (n c : Nat) : Prop where
  rf : RF w wx p q r f va vc
  hand : HandAt wx hb B a n c
  hp : p ≠ hb
  hq : q ≠ hb
  hv : ∀ ad, va = some ad → ad.block ≠ hb
  hm : w.heap.size ≤ hb
theorem HRF.drew {w wx : World} {hb B p q : Nat} {r : Roads} {f : Flock} {va : Option Addr} {vc : Nat} {a : Option Addr} {n c : Nat} (h : HRF w wx hb B p q r f va vc a n c) : HRF w wx.drew hb B p q r f va vc a n c :=
  ⟨h.rf.below (Below.refl _ _).drew, h.hand.below (Below.refl _ _).drew, h.hp, h.hq, h.hv, h.hm⟩
theorem HRF.upto {w wx : World} {hb B p q : Nat} {r : Roads} {f : Flock} {va : Option Addr} {vc : Nat} {a : Option Addr} {n c : Nat} (h : HRF w wx hb B p q r f va vc a n c) (hB : B ≤ 900000) (most : Int) (h1 : 0 ≤ most) (h2 : most ≤ 1000) :
    Calls Tryz.prog 26 #[.pointer (some ⟨hb, 0, none⟩), .int .i64 most] wx fun e w' => ∃ x : Nat, (x : Int) ≤ most ∧ e = .returned (.int .i64 (x : Int)) ∧ HRF w w' hb (B + 1) p q r f va vc a n c :=
  (Upto_any wx hb B a n c h.hand (by omega) most (by omega) (by omega)).mono fun e w' hh => by
    obtain ⟨_, ⟨x, x1, x2, rfl⟩, rfl, hh1, hE⟩ := hh
    obtain ⟨k, rfl⟩ := Int.eq_ofNat_of_zero_le x1
    exact ⟨k, by omega, rfl, h.rf.ext hE h.hp h.hq h.hv h.hm, hh1, h.hp, h.hq, h.hv, h.hm⟩

theorem ready6 {r : Roads} {f : Flock} (g : Good r f) {x y z : Int} (h1 : 0 ≤ x) (h2 : x < r.stages) (h3 : 0 ≤ y) (h4 : y < r.stages) (h5 : 0 ≤ z) (h6 : z < r.days) : readyErr r f [x, r.stages, y, r.stages, z, r.days] = 0 := by
  obtain ⟨k1, k2⟩ := good_iff.1 g
  unfold readyErr
  rw [if_neg (by simp [k1]), if_neg (by simp [k2])]
  exact pairs6.2 ⟨⟨h1, h2⟩, ⟨h3, h4⟩, h5, h6⟩
theorem HRF.among {w wx : World} {hb B p q : Nat} {r : Roads} {f : Flock} {va : Option Addr} {vc : Nat} {a : Option Addr} {n c : Nat} (h : HRF w wx hb B p q r f va vc a n c) (hB : B ≤ 900000) (least : Nat) (most : Int) (h1 : (least : Int) ≤ most) (h2 : most ≤ 1000) :
    Calls Tryz.prog 25 #[.pointer (some ⟨hb, 0, none⟩), .int .i64 (least : Int), .int .i64 most] wx fun e w' => ∃ x : Nat, least ≤ x ∧ (x : Int) ≤ most ∧ e = .returned (.int .i64 (x : Int)) ∧ HRF w w' hb (B + 1) p q r f va vc a n c :=
  (Among_any wx hb B a n c h.hand (by omega) least most (by omega) (by omega) (by omega) (by omega)).mono fun e w' hh => by
    obtain ⟨_, ⟨x, x1, x2, rfl⟩, rfl, hh1, hE⟩ := hh
    obtain ⟨k, rfl⟩ := Int.eq_ofNat_of_zero_le (a := x) (by omega)
    exact ⟨k, by omega, by omega, rfl, h.rf.ext hE h.hp h.hq h.hv h.hm, hh1, h.hp, h.hq, h.hv, h.hm⟩

theorem stayA_range {r : Roads} {f : Flock} {fr tt : Nat} {d : Nat} (hd : (d : Int) < r.days) (ht : (tt : Int) < r.stages) : -1 ≤ stayA r f fr tt (d : Int) ∧ stayA r f fr tt (d : Int) < r.days ∧ (0 ≤ stayA r f fr tt (d : Int) → (d : Int) ≤ stayA r f fr tt (d : Int)) := by
  unfold stayA
  have hl : tt < (comesL r f (-1) fr (d : Int)).length := by rw [comesL_len]; omega
  rw [List.getD_eq_getElem?_getD, List.getElem?_eq_getElem hl, Option.getD_some]
  have h1 := comesTo_range r f (-1) (0 ||| 1 <<< fr) (d : Int) (by omega) (r.days - (d : Int)).toNat _ (List.getElem_mem hl)
  refine ⟨by omega, by omega, fun h => ?_⟩
  obtain ⟨j, _, j2, _⟩ := comesTo_get (shut := -1) (by omega) (r.days - (d : Int)).toNat tt hl h
  have j3 : (comesL r f (-1) fr (d : Int))[tt] = (d : Int) + (j : Int) := j2
  omega

theorem ready8 {r : Roads} {f : Flock} (g : Good r f) {x y z t : Int} (h1 : 0 ≤ x) (h2 : x < r.stages) (h3 : 0 ≤ y) (h4 : y < r.stages) (h5 : 0 ≤ z) (h6 : z < r.days) (h7 : 0 ≤ t) (h8 : t < r.days) : readyErr r f [x, r.stages, y, r.stages, z, r.days, t, r.days] = 0 := by
  obtain ⟨k1, k2⟩ := good_iff.1 g
  unfold readyErr
  rw [if_neg (by simp [k1]), if_neg (by simp [k2])]
  exact pairs8.2 ⟨⟨h1, h2⟩, ⟨h3, h4⟩, ⟨h5, h6⟩, h7, h8⟩
/-- road.Stay where its inputs are valid. -/
theorem Stay_good (w : World) {r : Roads} {f : Flock} (g : Good r f) (a : Option Addr) (cap S : Nat) (hS : r.stages = (S : Int)) (hs : StripsAt w a r.strips) (fr tt d b : Nat) (h1 : fr < S) (h2 : tt < S) (h3 : (d : Int) < r.days) (h4 : (b : Int) < r.days) :
    Calls Tryz.prog 18 #[.agg #[.int .i64 r.days, .int .i64 r.stages, .slice a r.strips.length cap], .agg #[.int .i64 f.heads, .int .i64 f.pace], .int .i64 (fr : Int), .int .i64 (tt : Int), .int .i64 (d : Int), .int .i64 (b : Int)] w
      fun e w' => Below w.heap.size w w' ∧ (((stayA r f fr tt (d : Int) < 0 ∨ lateD r f tt fr (b : Int) ≤ stayA r f fr tt (d : Int)) ∧ e = .returned (.tuple #[.int .i64 0, .int .i64 11])) ∨
        (¬ (stayA r f fr tt (d : Int) < 0 ∨ lateD r f tt fr (b : Int) ≤ stayA r f fr tt (d : Int)) ∧ e = .returned (.tuple #[.int .i64 (lateD r f tt fr (b : Int) - stayA r f fr tt (d : Int)), .int .i64 0]))) :=
  (Stay_any w r f a cap hs (by have := g.n8; unfold maxLen; omega) fr tt d b).mono fun e w' h => by
    obtain ⟨hb, ⟨_, h⟩ | ⟨_, h⟩ | ⟨hz, _⟩⟩ := h
    · exact ⟨hb, .inl h⟩
    · exact ⟨hb, .inr h⟩
    · exact absurd (ready8 g (by omega) (by omega) (by omega) (by omega) (by omega) h3 (by omega) h4) hz


end Go.Proofs.YtmkjeonjhedgkaaGreatDoor

namespace Go.Proofs.YtmkjeonjhedgkaaGreatDoor
set_option linter.unusedSimpArgs false
set_option linter.unusedVariables false
open Go.RowKit

theorem row_ints {w : World} {a : Option Addr} {len cap : Nat} {zs : List Int}
    (h : (a = none ∧ len = 0 ∧ cap = 0 ∧ zs = []) ∨ ∃ x, a = some x ∧ len ≤ cap ∧ cap ≤ maxLen ∧ zs.length = cap ∧ (∀ i, i < zs.length → w.cell? (x.add i) = some (.int .i64 (zs.getD i 0))) ∧ ∀ n ∈ zs, (Lit.int .i64 n).wf = true) :
    ∃ l : List Int, IntsAt w a l ∧ l.length = len ∧ len ≤ maxLen ∧ (l = [] ∨ ∀ ad, a = some ad → ad.block < w.heap.size) := by
  rcases h with ⟨rfl, rfl, rfl, rfl⟩ | ⟨x, rfl, h1, h2, h3, h4, _⟩
  · exact ⟨[], .inl rfl, rfl, Nat.zero_le _, .inl rfl⟩
  · by_cases h0 : len = 0
    · exact ⟨[], .inl rfl, h0.symm, by omega, .inl rfl⟩
    · obtain ⟨b, o, sp⟩ := x
      have c0 := h4 0 (by omega)
      have hsp : sp = none := by
        cases sp with
        | none => rfl
        | some y =>
          simp only [Addr.add, if_true, World.cell?] at c0
          split at c0 <;> simp at c0
      subst hsp
      have key : ∀ i, i < zs.length → w.cell? ⟨b, o + i, none⟩ = some (.int .i64 (zs.getD i 0)) := fun i hi => by
        have := h4 i hi
        rwa [show (⟨b, o, none⟩ : Addr).add i = ⟨b, o + i, none⟩ by simp only [Addr.add]; split <;> simp_all] at this
      refine ⟨zs.take len, .inr ⟨b, o, rfl, fun i hi => ?_⟩, by rw [List.length_take]; omega, by omega, .inr fun ad e => by cases e; exact lt_of_cell (key 0 (by omega))⟩
      rw [List.length_take] at hi
      rw [key i (by omega), List.getElem_take, List.getD_eq_getElem?_getD, List.getElem?_eq_getElem (by omega)]; rfl
end Go.Proofs.YtmkjeonjhedgkaaGreatDoor
