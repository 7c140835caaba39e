/- Setting out early: the plain law. The walk of RoadEarly. -/
import Derived.Test.YtmkjeonjhedgkaaGreatDoorPlan
import Derived.Test.YtmkjeonjhedgkaaGreatDoorRoadsOf
import Derived.Test.YtmkjeonjhedgkaaGreatDoorAfoot
namespace Go.Proofs.YtmkjeonjhedgkaaGreatDoor
set_option linter.unusedSimpArgs false
set_option linter.unusedVariables false
open Go.RowKit

theorem Spot.mono {r : Roads} {f : Flock} {shut : Int} {n m : Nat} {day : Int} (h : ∀ t, n.testBit t = true → m.testBit t = true) {p : Int × Int} (hp : Spot r f shut n day p) : Spot r f shut m day p := by
  induction hp with
  | start s h1 h2 => exact .start s h1 (h s h2)
  | step p q i _ hi ih => exact .step p q i ih hi
theorem afterN_mono {r : Roads} {f : Flock} (g : Good r f) {shut : Int} {n m : Nat} {day : Int} (h : ∀ t, n.testBit t = true → m.testBit t = true) (t : Nat) (ht : (afterN r f shut n day).testBit t = true) : (afterN r f shut m day).testBit t = true := by
  obtain ⟨l, hl⟩ := (afterN_bit g t).1 ht
  exact (afterN_bit g t).2 ⟨l, hl.mono h⟩
theorem afterN_stay {r : Roads} {f : Flock} (g : Good r f) {shut : Int} {n : Nat} {day : Int} (t : Nat) (hr : (t : Int) < r.stages) (ht : n.testBit t = true) : (afterN r f shut n day).testBit t = true :=
  (afterN_bit g t).2 ⟨0, .start t hr ht⟩
theorem nights_shift {r : Roads} {f : Flock} (g : Good r f) {shut : Int} {fr : Nat} (hf : (fr : Int) < r.stages) {day : Int} : ∀ (k t : Nat), (nightsTo r f shut (0 ||| 1 <<< fr) (day + 1) k).testBit t = true → (nightsTo r f shut (0 ||| 1 <<< fr) day (k + 1)).testBit t = true
  | 0, t, h => by
    rw [nightsTo] at h
    have ht : (t : Int) < r.stages := by
      rw [testBit_or_one] at h; simp at h; omega
    exact afterN_stay g t ht (by rw [nightsTo]; exact h)
  | k + 1, t, h => by
    rw [nightsTo] at h ⊢
    rw [show day + ((k + 1 : Nat) : Int) = day + 1 + (k : Int) by omega]
    exact afterN_mono g (nights_shift g hf k) t h
theorem comesTo_le {r : Roads} {f : Flock} {shut : Int} {n0 : Nat} {day : Int} (h0 : 0 ≤ day) : ∀ (k : Nat) (t : Nat) (h : t < (comesTo r f shut n0 day k).length) (j : Nat), j < k → (nightsTo r f shut n0 day (j + 1)).testBit t = true →
    0 ≤ (comesTo r f shut n0 day k)[t] ∧ (comesTo r f shut n0 day k)[t] ≤ day + (j : Int)
  | 0, t, h, j, hj, hv => by omega
  | k + 1, t, h, j, hj, hb => by
    have hl : t < (comesTo r f shut n0 day k).length := by rw [comesTo_len] at h ⊢; exact h
    have ht : t < r.stages.toNat := by rw [comesTo_len] at h; exact h
    have e : (comesTo r f shut n0 day (k + 1))[t] = if decide (t < r.stages.toNat) && decide ((comesTo r f shut n0 day k)[t] < 0) && (nightsTo r f shut n0 day (k + 1)).testBit t then day + k else (comesTo r f shut n0 day k)[t] := by
      simp [comesTo, updTo]
    rw [e]
    by_cases hjk : j < k
    · obtain ⟨i1, i2⟩ := comesTo_le h0 k t hl j hjk hb
      rw [if_neg (by simp; omega)]
      exact ⟨i1, i2⟩
    · obtain rfl : j = k := by omega
      by_cases c : (comesTo r f shut n0 day j)[t] < 0
      · rw [if_pos (by simp [c, hb, ht])]; omega
      · rw [if_neg (by simp; omega)]
        obtain ⟨i, i1, i2, _⟩ := comesTo_get h0 j t hl (by omega)
        omega

theorem comesL_len (r : Roads) (f : Flock) (shut : Int) (fr : Nat) (day : Int) : (comesL r f shut fr day).length = r.stages.toNat := comesTo_len _ _ _ _ _ _
/-- The stage that the flock sets out from. -/
theorem comesL_from {r : Roads} {f : Flock} (g : Good r f) {shut : Int} {fr : Nat} (hf : (fr : Int) < r.stages) {day : Int} (h0 : 0 ≤ day) (h1 : day < r.days) (h : fr < (comesL r f shut fr day).length) : (comesL r f shut fr day)[fr] = day := by
  have hb : (nightsTo r f shut (0 ||| 1 <<< fr) day (0 + 1)).testBit fr = true := by
    rw [nightsTo, nightsTo]
    exact afterN_stay g fr hf (by rw [testBit_or_one]; simp)
  have k0 : 0 < (r.days - day).toNat := by omega
  obtain ⟨i1, i2⟩ := comesTo_le (shut := shut) h0 (r.days - day).toNat fr h 0 k0 hb
  obtain ⟨j, _, j2, _⟩ := comesTo_get (shut := shut) h0 (r.days - day).toNat fr h i1
  show (comesTo r f shut (0 ||| 1 <<< fr) day (r.days - day).toNat)[fr] = day
  omega
/-- Who sets out earlier comes no later. -/
theorem comesL_early {r : Roads} {f : Flock} (g : Good r f) {shut : Int} {fr : Nat} (hf : (fr : Int) < r.stages) {day : Int} (h0 : 0 ≤ day) (h1 : day + 1 < r.days) {t : Nat} (h : t < (comesL r f shut fr (day + 1)).length) (h' : t < (comesL r f shut fr day).length)
    (hv : 0 ≤ (comesL r f shut fr (day + 1))[t]) : 0 ≤ (comesL r f shut fr day)[t] ∧ (comesL r f shut fr day)[t] ≤ (comesL r f shut fr (day + 1))[t] := by
  obtain ⟨j, j1, j2, j3⟩ := comesTo_get (shut := shut) (by omega) (r.days - (day + 1)).toNat t h hv
  obtain ⟨i1, i2⟩ := comesTo_le (shut := shut) h0 (r.days - day).toNat t h' (j + 1) (by omega) (nights_shift g hf _ _ j3)
  refine ⟨i1, ?_⟩
  show (comesTo r f shut (0 ||| 1 <<< fr) day (r.days - day).toNat)[t] ≤ (comesTo r f shut (0 ||| 1 <<< fr) (day + 1) (r.days - (day + 1)).toNat)[t]
  omega
end Go.Proofs.YtmkjeonjhedgkaaGreatDoor

namespace Go.Proofs.YtmkjeonjhedgkaaGreatDoor
set_option linter.unusedSimpArgs false
set_option linter.unusedVariables false
open Go.RowKit

theorem OwnStrips.strips {w : World} {B : Nat} {a : Option Addr} {n c : Nat} {l : List Strip} (h : OwnStrips w B (.slice a n c) l) : StripsAt w a l ∧ n = l.length := by
  by_cases hv : Value.slice a n c = .slice none 0 0
  · have h0 : l.length = 0 := by
      rcases h.2 with ⟨_, h0⟩ | ⟨g, cap, cur, e, _⟩
      · exact h0
      · rw [hv] at e; simp at e
    simp only [Value.slice.injEq] at hv
    exact ⟨.inl (List.length_eq_zero_iff.1 h0), by omega⟩
  · obtain ⟨g, cap, e, _, _, hin⟩ := h.into hv
    simp only [Value.slice.injEq] at e
    obtain ⟨rfl, rfl, rfl⟩ := e
    exact ⟨.inr ⟨g, 0, rfl, fun i hi => by rw [Nat.zero_add]; exact hin.at_ i hi⟩, rfl⟩
theorem RoadsOK.good {r : Roads} {f : Flock} (h : RoadsOK r) (g : FlockOK f) : Good r f :=
  ⟨h.d1, h.d2, h.s1, h.s2, h.n8, fun s hs => by obtain ⟨a, b, c, d, e, i, j, k, m, o⟩ := h.strip s hs; exact ⟨a, b, c, d, e, i, j, k, m, o⟩, g.1, g.2.1, g.2.2.1, g.2.2.2⟩

/-- Roads and a flock in two blocks. -/
structure RF (w wx : World) (p q : Nat) (r : Roads) (f : Flock) (va : Option Addr) (vc : Nat) : Prop where
  c0 : wx.cell? ⟨p, 0, none⟩ = some (.int .i64 r.days)
  c1 : wx.cell? ⟨p, 1, none⟩ = some (.int .i64 r.stages)
  c2 : wx.cell? ⟨p, 2, none⟩ = some (.slice va r.strips.length vc)
  d0 : wx.cell? ⟨q, 0, none⟩ = some (.int .i64 f.heads)
  d1 : wx.cell? ⟨q, 1, none⟩ = some (.int .i64 f.pace)
  strips : StripsAt wx va r.strips
  bel : Below w.heap.size w wx
theorem RF.below {w wx w' : World} {p q : Nat} {r : Roads} {f : Flock} {va : Option Addr} {vc : Nat} (h : RF w wx p q r f va vc) (hb : Below wx.heap.size wx w') : RF w w' p q r f va vc :=
  ⟨((bcell hb).1 _ _ (lt_of_cell h.c0)).trans h.c0, ((bcell hb).1 _ _ (lt_of_cell h.c1)).trans h.c1, ((bcell hb).1 _ _ (lt_of_cell h.c2)).trans h.c2, ((bcell hb).1 _ _ (lt_of_cell h.d0)).trans h.d0, ((bcell hb).1 _ _ (lt_of_cell h.d1)).trans h.d1, h.strips.below hb, h.bel.trans (hb.mono h.bel.size)⟩
theorem RF.ext {w wx w' : World} {p q m : Nat} {r : Roads} {f : Flock} {va : Option Addr} {vc : Nat} (h : RF w wx p q r f va vc) (hE : Ext m wx w') (hp : p ≠ m) (hq : q ≠ m) (hv : ∀ ad, va = some ad → ad.block ≠ m) (hm : w.heap.size ≤ m) : RF w w' p q r f va vc := by
  refine ⟨hE.cell_ne h.c0 hp, hE.cell_ne h.c1 hp, hE.cell_ne h.c2 hp, hE.cell_ne h.d0 hq, hE.cell_ne h.d1 hq, ?_, hE.below h.bel hm h.bel.size⟩
  rcases h.strips with hs | ⟨b, o, hb, hs⟩
  · exact .inl hs
  · exact .inr ⟨b, o, hb, fun i hi => (hs i hi).keep fun _ => World.cell?_of_block (hE.block b (lt_of_cell (hs i hi).c0) (hv _ hb))⟩

/-- Roads and a flock that have been dealt: what every law of this chapter begins with. -/
theorem RF.laid {w w1 w2 w3 : World} {a : Option Addr} {n c : Nat} {r : Roads} {f : Flock} {va : Option Addr} {vc : Nat} (h1 : Below w.heap.size w w1) (hs1 : w1.heap.size = w.heap.size + 1)
    (hown : OwnStrips w2 w1.heap.size (.slice va r.strips.length vc) r.strips) (hE2 : Ext w.heap.size w1 w2) (hE3 : Ext w.heap.size w2 w3) (hh : HandAt w3 w.heap.size 206 a n c) :
    RF w ((w3.alloc (.cells #[.int .i64 r.days, .int .i64 r.stages, .slice va r.strips.length vc] 24)).alloc (.cells #[.int .i64 f.heads, .int .i64 f.pace] 45)) w3.heap.size (w3.heap.size + 1) r f va vc ∧
      HandAt ((w3.alloc (.cells #[.int .i64 r.days, .int .i64 r.stages, .slice va r.strips.length vc] 24)).alloc (.cells #[.int .i64 f.heads, .int .i64 f.pace] 45)) w.heap.size 206 a n c ∧ w.heap.size < w3.heap.size ∧ ∀ ad, va = some ad → ad.block ≠ w.heap.size := by
  have hb3 : Below w.heap.size w w3 := hE3.below (hE2.below h1 (Nat.le_refl _) h1.size) (Nat.le_refl _) (hE2.below h1 (Nat.le_refl _) h1.size).size
  have hlt : w.heap.size < w3.heap.size := by have := hE3.size; have := hE2.size; omega
  have hA : Below w3.heap.size w3 ((w3.alloc (.cells #[.int .i64 r.days, .int .i64 r.stages, .slice va r.strips.length vc] 24)).alloc (.cells #[.int .i64 f.heads, .int .i64 f.pace] 45)) :=
    (Below.alloc (Below.refl _ _) (Nat.le_refl _) _).alloc (by simp) _
  have hown3 : OwnStrips w3 w1.heap.size (.slice va r.strips.length vc) r.strips := hown.keep fun g hg => hE3.block g (hown.at_block hg).2 (by have := (hown.at_block hg).1; omega)
  have hva : ∀ ad, va = some ad → ad.block ≠ w.heap.size := fun ad e => by
    subst e
    have := (hown.at_block (g := ad.block) rfl).1
    omega
  refine ⟨⟨?_, ?_, ?_, ?_, ?_, hown3.strips.1.below hA, hb3.trans (hA.mono (by omega))⟩, hh.below hA, hlt, hva⟩
  · exact ((bcell (Below.alloc (Below.refl _ _) (Nat.le_refl _) _)).1 _ _ (by simp)).trans (by simp)
  · exact ((bcell (Below.alloc (Below.refl _ _) (Nat.le_refl _) _)).1 _ _ (by simp)).trans (by simp)
  · exact ((bcell (Below.alloc (Below.refl _ _) (Nat.le_refl _) _)).1 _ _ (by simp)).trans (by simp)
  · rw [World.cell?_alloc_at _ _ _ _ (by simp)]; rfl
  · rw [World.cell?_alloc_at _ _ _ _ (by simp)]; rfl

/-- A list of days in a block. -/
def Days (wx : World) (gb : Nat) (l : List Int) : Prop := ∀ i (h : i < l.length), wx.cell? ⟨gb, i, none⟩ = some (.int .i64 l[i])
theorem Days.below {w w' : World} {gb : Nat} {l : List Int} (h : Days w gb l) (hb : Below w.heap.size w w') : Days w' gb l :=
  fun i hi => ((bcell hb).1 _ _ (lt_of_cell (h i hi))).trans (h i hi)
/-- The days before, where there are any. -/
def Prev (wx : World) (r : Roads) (f : Flock) (fr S : Nat) (d : Nat) (v : Value) : Prop :=
  d = 0 ∨ ∃ k gb c, d = k + 1 ∧ v = .slice (some ⟨gb, 0, none⟩) S c ∧ Days wx gb (comesL r f (-1) fr (k : Int))
theorem Prev.below {w w' : World} {r : Roads} {f : Flock} {fr S d : Nat} {v : Value} (h : Prev w r f fr S d v) (hb : Below w.heap.size w w') : Prev w' r f fr S d v := by
  rcases h with h | ⟨k, gb, c, h1, h2, h3⟩
  · exact .inl h
  · exact .inr ⟨k, gb, c, h1, h2, h3.below hb⟩

theorem ready4 {r : Roads} {f : Flock} (g : Good r f) {x y : Int} (h1 : 0 ≤ x) (h2 : x < r.stages) (h3 : 0 ≤ y) (h4 : y < r.days) : readyErr r f [x, r.stages, y, r.days] = 0 := by
  obtain ⟨k1, k2⟩ := good_iff.1 g
  unfold readyErr
  rw [if_neg (by simp [k1]), if_neg (by simp [k2])]
  exact pairs4.2 ⟨⟨h1, h2⟩, h3, h4⟩
/-- road.Comes where its inputs are valid. -/
theorem Comes_good (w : World) {r : Roads} {f : Flock} (g : Good r f) (a : Option Addr) (cap S : Nat) (hS : r.stages = (S : Int)) (hs : StripsAt w a r.strips) (fr d : Nat) (h1 : fr < S) (h2 : (d : Int) < r.days) :
    Calls Tryz.prog 14 #[.agg #[.int .i64 r.days, .int .i64 r.stages, .slice a r.strips.length cap], .agg #[.int .i64 f.heads, .int .i64 f.pace], .int .i64 (fr : Int), .int .i64 (d : Int)] w
      fun e w' => ∃ gb c, e = .returned (.tuple #[.slice (some ⟨gb, 0, none⟩) S c, .int .i64 0]) ∧ Days w' gb (comesL r f (-1) fr (d : Int)) ∧ Below w.heap.size w w' :=
  (Comes_any w r f a cap hs (by have := g.n8; unfold maxLen; omega) fr d).mono fun e w' h => by
    rcases h with ⟨_, v, rfl, hown, hb⟩ | ⟨hz, _⟩
    · have hl : (comesL r f (-1) ((fr : Int)).toNat (d : Int)).length = S := by rw [comesL_len, hS]; rfl
      obtain ⟨gb, c, rfl⟩ := hown.ptr (by omega)
      refine ⟨gb, c, by rw [hl], fun i hi => (hown.cell hi).1, hb⟩
    · exact absurd (ready4 g (by omega) (by omega) (by omega) h2) hz
end Go.Proofs.YtmkjeonjhedgkaaGreatDoor
