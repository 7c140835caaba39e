/- The fewest leagues still to walk: plain laws. -/
import Derived.Test.YtjgkgnfhglhklaaReach
namespace Go.Proofs.Ytjgkgnfhglhklaa
set_option linter.unusedSimpArgs false
set_option linter.unusedVariables false
open Go.RowKit

def farI : Int := 1073741824

/-- The best of b0 and of going on over one of the first k strips; V says what is still to walk at a spot of the same day. -/
def bestTo (r : Roads) (f : Flock) (shut : Int) (V : Int × Int → Int) (d : Int) (p : Int × Int) (b0 : Int) : Nat → Int
  | 0 => b0
  | k + 1 => match stepOk r f shut d p k with
    | some q => min (bestTo r f shut V d p b0 k) ((q.2 - p.2) + V q)
    | none => bestTo r f shut V d p b0 k

/-- The fewest leagues from a day and a spot on, to the stage tt at the end of the day last; with fuel. -/
def tg (r : Roads) (f : Flock) (shut : Int) (tt last : Int) : Nat → Int → Int × Int → Int
  | 0, _, _ => 0
  | k + 1, d, p => if last < d then (if p.1 = tt then 0 else farI) else bestTo r f shut (tg r f shut tt last k d) d p (tg r f shut tt last k (d + 1) (p.1, 0)) r.strips.length

def rank (f : Flock) (last d l : Int) : Int := (last + 1 - d) * (f.pace + 1) + (f.pace - l)

theorem bestTo_congr {r : Roads} {f : Flock} {shut : Int} {V V' : Int × Int → Int} {d : Int} {p : Int × Int} {b0 b1 : Int} (hb : b0 = b1) (h : ∀ k q, stepOk r f shut d p k = some q → V q = V' q) :
    ∀ k, bestTo r f shut V d p b0 k = bestTo r f shut V' d p b1 k
  | 0 => hb
  | k + 1 => by
    unfold bestTo
    have ih := bestTo_congr (shut := shut) (d := d) (p := p) hb h k
    cases hs : stepOk r f shut d p k with
    | none => exact ih
    | some q => simp only [ih, h k q hs]

theorem rank_day {f : Flock} {last d l : Int} (_h1 : d ≤ last) (_h0 : 0 ≤ f.pace) (h2 : l ≤ f.pace) : rank f last (d + 1) 0 < rank f last d l := by
  unfold rank
  have e : (last + 1 - d) * (f.pace + 1) = (last + 1 - (d + 1)) * (f.pace + 1) + (f.pace + 1) := by
    rw [show last + 1 - d = (last + 1 - (d + 1)) + 1 by omega, Int.add_mul]; omega
  omega
theorem rank_step {f : Flock} {last d l l' : Int} (h : l < l') : rank f last d l' < rank f last d l := by unfold rank; omega
theorem rank_nonneg {f : Flock} {last d l : Int} (h1 : d ≤ last + 1) (h0 : 0 ≤ f.pace) (h2 : l ≤ f.pace) : 0 ≤ rank f last d l := by
  unfold rank
  have : 0 ≤ (last + 1 - d) * (f.pace + 1) := Int.mul_nonneg (by omega) (by omega)
  omega

theorem stepOk_up {r : Roads} {f : Flock} (g : Good r f) {shut d : Int} {p q : Int × Int} {k : Nat} (h : stepOk r f shut d p k = some q) : p.2 < q.2 ∧ q.2 ≤ f.pace ∧ 0 ≤ q.1 ∧ q.1 < r.stages := by
  obtain ⟨s, hs, h1, h2, _, rfl⟩ := stepOk_some.1 h
  have hm := List.mem_of_getElem? hs
  have hL := (g.strip s hm).2.2.2.2.2.1
  obtain ⟨a, b⟩ := endOf_range g hm h1
  exact ⟨by dsimp only; omega, h2, a, b⟩

/-- Enough fuel is enough. -/
theorem tg_stable {r : Roads} {f : Flock} (g : Good r f) {shut tt last : Int} : ∀ (k k' : Nat) (d : Int) (p : Int × Int), d ≤ last + 1 → p.2 ≤ f.pace → rank f last d p.2 < (k : Int) → rank f last d p.2 < (k' : Int) →
    tg r f shut tt last k d p = tg r f shut tt last k' d p := by
  have hp := g.p1
  intro k
  induction k with
  | zero => intro k' d p h1 h2 h3; have := rank_nonneg h1 (by omega) h2; omega
  | succ k ih =>
    intro k' d p h1 h2 h3 h4
    cases k' with
    | zero => have := rank_nonneg h1 (by omega) h2; omega
    | succ k' =>
      unfold tg
      by_cases hd : last < d
      · simp [hd]
      · rw [if_neg hd, if_neg hd]
        have e1 := rank_day (f := f) (last := last) (d := d) (l := p.2) (by omega) (by omega) h2
        refine bestTo_congr (ih k' (d + 1) (p.1, 0) (by omega) (by dsimp only; omega) (by dsimp only; omega) (by dsimp only; omega)) (fun i q hq => ?_) _
        obtain ⟨u1, u2, _, _⟩ := stepOk_up g hq
        have e2 := rank_step (f := f) (last := last) (d := d) u1
        exact ih k' d q h1 u2 (by omega) (by omega)

/-- The fewest leagues to go. -/
def togoV (r : Roads) (f : Flock) (shut : Int) (tt last : Int) (d : Int) (p : Int × Int) : Int := tg r f shut tt last 2000 d p

theorem rank_lt {r : Roads} {f : Flock} (g : Good r f) {last d l : Int} (h1 : 0 ≤ d) (_h2 : d ≤ last + 1) (h3 : last ≤ 100) (h4 : 0 ≤ l) : rank f last d l < 1999 := by
  have := g.p2
  have := g.p1
  unfold rank
  have : (last + 1 - d) * (f.pace + 1) ≤ 101 * (f.pace + 1) := Int.mul_le_mul_of_nonneg_right (by omega) (by omega)
  omega

theorem togoV_end {r : Roads} {f : Flock} {shut tt last d : Int} {p : Int × Int} (h : last < d) : togoV r f shut tt last d p = if p.1 = tt then 0 else farI := by
  unfold togoV
  rw [show (2000 : Nat) = 1999 + 1 from rfl, tg, if_pos h]
theorem togoV_eq {r : Roads} {f : Flock} (g : Good r f) {shut tt last d : Int} {p : Int × Int} (h0 : 0 ≤ d) (h : d ≤ last) (h3 : last ≤ 100) (h4 : 0 ≤ p.2) (h5 : p.2 ≤ f.pace) :
    togoV r f shut tt last d p = bestTo r f shut (togoV r f shut tt last d) d p (togoV r f shut tt last (d + 1) (p.1, 0)) r.strips.length := by
  have hp := g.p1
  have e0 := rank_lt g h0 (by omega : d ≤ last + 1) h3 h4
  have e1 := rank_day (f := f) (last := last) (d := d) (l := p.2) h (by omega) h5
  conv => lhs; unfold togoV; rw [show (2000 : Nat) = 1999 + 1 from rfl, tg, if_neg (by omega)]
  refine bestTo_congr (tg_stable g 1999 2000 (d + 1) (p.1, 0) (by omega) (by dsimp only; omega) (by dsimp only; omega) (by dsimp only; omega)) (fun i q hq => ?_) _
  obtain ⟨u1, u2, _, _⟩ := stepOk_up g hq
  have e2 := rank_step (f := f) (last := last) (d := d) u1
  exact tg_stable g 1999 2000 d q (by omega) u2 (by omega) (by omega)

theorem bestTo_range {r : Roads} {f : Flock} (g : Good r f) {shut d : Int} {V : Int × Int → Int} {p : Int × Int} {b0 : Int} (h0 : 0 ≤ b0) (hV : ∀ k q, stepOk r f shut d p k = some q → 0 ≤ V q) : ∀ k, 0 ≤ bestTo r f shut V d p b0 k ∧ bestTo r f shut V d p b0 k ≤ b0
  | 0 => ⟨h0, Int.le_refl _⟩
  | k + 1 => by
    unfold bestTo
    have ih := bestTo_range (b0 := b0) g h0 hV k
    cases hs : stepOk r f shut d p k with
    | none => exact ih
    | some q =>
      have := hV k q hs
      obtain ⟨u1, _⟩ := stepOk_up g hs
      dsimp only
      omega
theorem tg_range {r : Roads} {f : Flock} (g : Good r f) {shut tt last : Int} : ∀ (k : Nat) (d : Int) (p : Int × Int), 0 ≤ tg r f shut tt last k d p ∧ tg r f shut tt last k d p ≤ farI
  | 0, _, _ => by simp [tg, farI]
  | k + 1, d, p => by
    unfold tg
    split
    · split <;> simp [farI]
    · have h1 := tg_range (shut := shut) (tt := tt) (last := last) g k (d + 1) (p.1, 0)
      have h2 := bestTo_range (shut := shut) (d := d) (p := p) (V := tg r f shut tt last k d) g h1.1 (fun i q _ => (tg_range g k d q).1) r.strips.length
      omega
theorem togoV_range {r : Roads} {f : Flock} (g : Good r f) {shut tt last d : Int} {p : Int × Int} : 0 ≤ togoV r f shut tt last d p ∧ togoV r f shut tt last d p ≤ farI := tg_range g _ _ _
end Go.Proofs.Ytjgkgnfhglhklaa
