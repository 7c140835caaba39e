/- A flock with fewer heads or a greater pace: the plain law. -/
import Derived.Test.YtmkjeonjhedgkaaGreatDoorDeal
namespace Go.Proofs.YtmkjeonjhedgkaaGreatDoor
set_option linter.unusedSimpArgs false
set_option linter.unusedVariables false
open Go.RowKit

theorem RF.drew {w wx : World} {p q : Nat} {r : Roads} {f : Flock} {va : Option Addr} {vc : Nat} (h : RF w wx p q r f va vc) : RF w wx.drew p q r f va vc := h.below (Below.refl _ _).drew
theorem OwnStrips.cap {w : World} {B : Nat} {a : Option Addr} {n c : Nat} {l : List Strip} (h : OwnStrips w B (.slice a n c) l) : l.length ≤ c := by
  rcases h.2 with ⟨hv, h0⟩ | ⟨g, cap, cur, hv, _, _, hc, _⟩
  · omega
  · simp only [Value.slice.injEq] at hv; omega

/-- Flock g is no worse than flock f. -/
structure Better (f g : Flock) : Prop where
  h : g.heads ≤ f.heads
  p : f.pace ≤ g.pace

theorem barsTo_mem {s : Strip} {f : Flock} {day x : Int} : ∀ k, x ∈ barsTo s f day k ↔ ∃ j : Nat, j < k ∧ barTest s f day j = true ∧ x = (j : Int) + 1
  | 0 => by simp [barsTo]
  | k + 1 => by
    rw [barsTo, List.mem_append, barsTo_mem k]
    constructor
    · rintro (⟨j, h1, h2, h3⟩ | h)
      · exact ⟨j, by omega, h2, h3⟩
      · by_cases c : barTest s f day k = true
        · rw [if_pos c] at h; exact ⟨k, by omega, c, by simpa using h⟩
        · rw [if_neg c] at h; simp at h
    · rintro ⟨j, h1, h2, h3⟩
      by_cases e : j = k
      · subst e; right; rw [if_pos h2]; simpa using h3
      · exact .inl ⟨j, by omega, h2, h3⟩
theorem legal_mono {m n : Int} (h : m ≤ n) : legalW m ≤ legalW n := by unfold legalW; repeat' split; all_goals omega
theorem bar_better {s : Strip} {f g : Flock} (b : Better f g) {day : Int} : ∀ k, barTest s g day k = true → barTest s f day k = true
  | 0 => by have := legal_mono b.h; show bar1 s g = true → bar1 s f = true; unfold bar1; simp only [decide_eq_true_eq]; omega
  | 1 => by have := b.p; show bar2 s g = true → bar2 s f = true; unfold bar2; simp only [decide_eq_true_eq]; omega
  | 2 => by have := b.h; show bar3 s g = true → bar3 s f = true; unfold bar3; simp only [Bool.and_eq_true, decide_eq_true_eq]; rintro ⟨h1, h2⟩; exact ⟨h1, by omega⟩
  | 3 => fun h => h
  | _ + 4 => fun h => h
/-- A better flock is barred for no more reasons. -/
theorem bars_better {s : Strip} {f g : Flock} (b : Better f g) {day x : Int} (h : x ∈ barsL s g day) : x ∈ barsL s f day := by
  obtain ⟨j, h1, h2, h3⟩ := (barsTo_mem 5).1 h
  exact (barsTo_mem 5).2 ⟨j, h1, bar_better b j h2, h3⟩
theorem open_better {r : Roads} {f g : Flock} (b : Better f g) {shut : Int} {i : Nat} {day : Int} (h : openB r f shut i day = true) : openB r g shut i day = true := by
  unfold openB at h ⊢
  split
  · rename_i s hs
    rw [hs] at h
    simp only [Bool.and_eq_true, List.isEmpty_iff] at h ⊢
    refine ⟨h.1, ?_⟩
    cases e : barsL s g day with
    | nil => rfl
    | cons x l =>
      have := bars_better (f := f) b (s := s) (day := day) (x := x) (by rw [e]; exact List.mem_cons_self)
      rw [h.2] at this; simp at this
  · rename_i hs; rw [hs] at h; simp at h
theorem Spot.better {r : Roads} {f g : Flock} (b : Better f g) {shut : Int} {n m : Nat} (hn : ∀ t, n.testBit t = true → m.testBit t = true) {day : Int} {p : Int × Int} (hp : Spot r f shut n day p) : Spot r g shut m day p := by
  induction hp with
  | start s h1 h2 => exact .start s h1 (hn s h2)
  | step p q i _ hi ih =>
    obtain ⟨s, hs, h1, h2, h3, rfl⟩ := stepOk_some.1 hi
    exact .step p _ i ih (stepOk_some.2 ⟨s, hs, h1, by have := b.p; omega, open_better b h3, rfl⟩)
theorem nights_better {r : Roads} {f g : Flock} (gf : Good r f) (gg : Good r g) (b : Better f g) {shut : Int} {n : Nat} {day : Int} : ∀ (k t : Nat), (nightsTo r f shut n day k).testBit t = true → (nightsTo r g shut n day k).testBit t = true
  | 0, t, h => by rw [nightsTo] at h ⊢; exact h
  | k + 1, t, h => by
    rw [nightsTo] at h ⊢
    obtain ⟨l, hl⟩ := (afterN_bit gf t).1 h
    exact (afterN_bit gg t).2 ⟨l, hl.better b (nights_better gf gg b k)⟩
/-- A better flock comes no later. -/
theorem comes_better {r : Roads} {f g : Flock} (gf : Good r f) (gg : Good r g) (b : Better f g) {shut : Int} {fr : Nat} {day : Int} (h0 : 0 ≤ day) {t : Nat} (h : t < (comesL r f shut fr day).length) (h' : t < (comesL r g shut fr day).length)
    (hv : 0 ≤ (comesL r f shut fr day)[t]) : 0 ≤ (comesL r g shut fr day)[t] ∧ (comesL r g shut fr day)[t] ≤ (comesL r f shut fr day)[t] := by
  obtain ⟨j, j1, j2, j3⟩ := comesTo_get (shut := shut) h0 (r.days - day).toNat t h hv
  obtain ⟨i1, i2⟩ := comesTo_le (shut := shut) h0 (r.days - day).toNat t h' j (by omega) (nights_better gf gg b _ _ j3)
  refine ⟨i1, ?_⟩
  show (comesTo r g shut (0 ||| 1 <<< fr) day (r.days - day).toNat)[t] ≤ (comesTo r f shut (0 ||| 1 <<< fr) day (r.days - day).toNat)[t]
  omega
theorem can_better {r : Roads} {f g : Flock} (gf : Good r f) (gg : Good r g) (b : Better f g) {shut : Int} {fr tt : Nat} {d by' : Int} (h : canB r f shut fr tt d by' = true) : canB r g shut fr tt d by' = true := by
  unfold canB at h ⊢
  simp only [Bool.and_eq_true, decide_eq_true_eq] at h ⊢
  exact ⟨h.1, nights_better gf gg b _ _ h.2⟩
end Go.Proofs.YtmkjeonjhedgkaaGreatDoor
