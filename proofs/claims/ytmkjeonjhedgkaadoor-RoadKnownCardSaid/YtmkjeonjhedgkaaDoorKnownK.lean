/- The chapter's examples, call by call. -/
import Derived.Test.YtmkjeonjhedgkaaDoorAfoot
import Derived.Test.YtmkjeonjhedgkaaDoorHeadsPub
import Derived.Test.YtmkjeonjhedgkaaDoorBarsR
import Derived.Test.YtmkjeonjhedgkaaDoorPlayW
import Derived.Test.YtmkjeonjhedgkaaDoorCut
import Derived.Test.YtmkjeonjhedgkaaDoorWrite
namespace Go.Proofs.YtmkjeonjhedgkaaDoor
set_option linter.unusedSimpArgs false
set_option linter.unusedVariables false
open Go.RowKit

abbrev flV (a b : Int) : Value := .agg #[.int .i64 a, .int .i64 b]
abbrev i64V (a : Int) : Value := .int .i64 a
theorem four : exRoads.strips.length ≤ maxLen := by show 4 ≤ maxLen; unfold maxLen; omega
section
variable (w : World) (g : Nat) (hs : StripsAt w (some ⟨g, 0, none⟩) exRoads.strips) (f : Flock)
include hs
theorem BarsK (s d : Int) (l : List Int) (h : barsV exRoads f s d = (l, 0)) : Calls Tryd.prog 8 #[exV g, flV f.heads f.pace, i64V s, i64V d] w (ExInts w l l.length) :=
  (Bars_any w exRoads f (some ⟨g, 0, none⟩) 4 hs four s d).mono fun e w' hp => by
    obtain ⟨ga, gc, rfl, hi, hb⟩ := hp.val
    rw [h] at hi ⊢
    exact ⟨ga, gc, rfl, hi, hb⟩
theorem DaysK (s : Int) (l : List Int) (h : daysV exRoads f s = (l, 0)) : Calls Tryd.prog 12 #[exV g, flV f.heads f.pace, i64V s] w (ExInts w l l.length) :=
  (Days_any w exRoads f (some ⟨g, 0, none⟩) 4 hs four s).mono fun e w' hp => by
    obtain ⟨ga, gc, rfl, hi, hb⟩ := hp.val
    rw [h] at hi ⊢
    exact ⟨ga, gc, rfl, hi, hb⟩
theorem PlayK (s : Int) (pa : Option Addr) (pc : Nat) (pl : List (Int × Int)) (hp : StridesAt w pa pl) (hl : pl.length ≤ 1000) (l : List Int) (x : Int) (h : playV exRoads f s pl = (l, x)) :
    Calls Tryd.prog 13 #[exV g, flV f.heads f.pace, i64V s, .slice pa pl.length pc] w fun e w' => ∃ a c, e = .returned (.tuple #[.slice a l.length c, .int .i64 x]) ∧ IntsAt w' a l ∧ Below w.heap.size w w' :=
  (Play_any w exRoads f (some ⟨g, 0, none⟩) 4 hs four s pa pc pl hp hl).mono fun e w' hp => by
    obtain ⟨ga, gc, rfl, hi, hb⟩ := hp
    rw [h] at hi ⊢
    exact ⟨ga, gc, rfl, hi, hb⟩
theorem ComesK (a d : Int) (l : List Int) (h1 : readyErr exRoads f [a, 4, d, 6] = 0) (h : comesL exRoads f (-1) a.toNat d = l) : Calls Tryd.prog 14 #[exV g, flV f.heads f.pace, i64V a, i64V d] w (ExInts w l l.length) :=
  (Comes_any w exRoads f (some ⟨g, 0, none⟩) 4 hs four a d).mono fun e w' hp => by
    rcases hp with ⟨_, v, rfl, hown, hb⟩ | ⟨hz, _⟩
    · obtain ⟨ga, gc, rfl, hi, _⟩ := hown.ints
      rw [h] at hi ⊢
      exact ⟨ga, gc, rfl, hi, hb⟩
    · exact absurd h1 hz
theorem PlanK (a b d n : Int) (l : List (Int × Int)) (h1 : readyErr exRoads f [a, 4, b, 4, d, 6] = 0) (h2 : planDay exRoads f a.toNat b.toNat d = n) (h0 : 0 ≤ n) (h : planL exRoads f (-1) b n d a = l) : Calls Tryd.prog 16 #[exV g, flV f.heads f.pace, i64V a, i64V b, i64V d] w (ExStrides w l l.length) :=
  (Plan_any w exRoads f (some ⟨g, 0, none⟩) 4 hs four a b d).mono fun e w' hp => by
    obtain ⟨hb, ⟨_, hd, _⟩ | ⟨_, _, v, rfl, hown⟩ | ⟨hz, _⟩⟩ := hp
    · rw [h2] at hd; omega
    · obtain ⟨ga, gc, rfl, hi⟩ := hown.strides
      rw [h2, h] at hi ⊢
      exact ⟨ga, gc, rfl, hi, hb⟩
    · exact absurd h1 hz
theorem PlanN (a b d n : Int) (h1 : readyErr exRoads f [a, 4, b, 4, d, 6] = 0) (h2 : planDay exRoads f a.toNat b.toNat d = n) (h0 : n < 0) : Calls Tryd.prog 16 #[exV g, flV f.heads f.pace, i64V a, i64V b, i64V d] w fun e w' => e = .returned (.tuple #[.slice none 0 0, .int .i64 11]) ∧ Below w.heap.size w w' :=
  (Plan_any w exRoads f (some ⟨g, 0, none⟩) 4 hs four a b d).mono fun e w' hp => by
    obtain ⟨hb, ⟨_, hd, rfl⟩ | ⟨_, hd, _⟩ | ⟨hz, _⟩⟩ := hp
    · exact ⟨rfl, hb⟩
    · rw [h2] at hd; omega
    · exact absurd h1 hz
theorem LateK (a b d n : Int) (h1 : readyErr exRoads f [a, 4, b, 4, d, 6] = 0) (h2 : lateD exRoads f a.toNat b.toNat d = n) (h0 : 0 ≤ n) : Calls Tryd.prog 18 #[exV g, flV f.heads f.pace, i64V a, i64V b, i64V d] w fun e w' => e = .returned (.tuple #[.int .i64 n, .int .i64 0]) ∧ Below w.heap.size w w' :=
  (Late_any w exRoads f (some ⟨g, 0, none⟩) 4 hs four a b d).mono fun e w' hp => by
    obtain ⟨hb, ⟨_, hd, _⟩ | ⟨_, _, rfl⟩ | ⟨hz, _⟩⟩ := hp
    · rw [h2] at hd; omega
    · rw [h2]; exact ⟨rfl, hb⟩
    · exact absurd h1 hz
theorem LateN (a b d n : Int) (h1 : readyErr exRoads f [a, 4, b, 4, d, 6] = 0) (h2 : lateD exRoads f a.toNat b.toNat d = n) (h0 : n < 0) : Calls Tryd.prog 18 #[exV g, flV f.heads f.pace, i64V a, i64V b, i64V d] w fun e w' => e = .returned (.tuple #[.int .i64 0, .int .i64 11]) ∧ Below w.heap.size w w' :=
  (Late_any w exRoads f (some ⟨g, 0, none⟩) 4 hs four a b d).mono fun e w' hp => by
    obtain ⟨hb, ⟨_, hd, rfl⟩ | ⟨_, hd, _⟩ | ⟨hz, _⟩⟩ := hp
    · exact ⟨rfl, hb⟩
    · rw [h2] at hd; omega
    · exact absurd h1 hz
theorem StayK (a b d y p q : Int) (h1 : readyErr exRoads f [a, 4, b, 4, d, 6, y, 6] = 0) (h2 : stayA exRoads f a.toNat b.toNat d = p) (h3 : lateD exRoads f b.toNat a.toNat y = q) (h0 : 0 ≤ p ∧ p < q) : Calls Tryd.prog 19 #[exV g, flV f.heads f.pace, i64V a, i64V b, i64V d, i64V y] w fun e w' => e = .returned (.tuple #[.int .i64 (q - p), .int .i64 0]) ∧ Below w.heap.size w w' :=
  (Stay_any w exRoads f (some ⟨g, 0, none⟩) 4 hs four a b d y).mono fun e w' hp => by
    obtain ⟨hb, ⟨_, hd, _⟩ | ⟨_, _, rfl⟩ | ⟨hz, _⟩⟩ := hp
    · rw [h2, h3] at hd; omega
    · rw [h2, h3]; exact ⟨rfl, hb⟩
    · exact absurd h1 hz
theorem StayN (a b d y p q : Int) (h1 : readyErr exRoads f [a, 4, b, 4, d, 6, y, 6] = 0) (h2 : stayA exRoads f a.toNat b.toNat d = p) (h3 : lateD exRoads f b.toNat a.toNat y = q) (h0 : p < 0 ∨ q ≤ p) : Calls Tryd.prog 19 #[exV g, flV f.heads f.pace, i64V a, i64V b, i64V d, i64V y] w fun e w' => e = .returned (.tuple #[.int .i64 0, .int .i64 11]) ∧ Below w.heap.size w w' :=
  (Stay_any w exRoads f (some ⟨g, 0, none⟩) 4 hs four a b d y).mono fun e w' hp => by
    obtain ⟨hb, ⟨_, hd, rfl⟩ | ⟨_, hd, _⟩ | ⟨hz, _⟩⟩ := hp
    · exact ⟨rfl, hb⟩
    · rw [h2, h3] at hd; exact absurd h0 hd
    · exact absurd h1 hz
theorem HeadsK (p a b d y : Int) (n : Nat) (h1 : readyErr exRoads ⟨1, p⟩ [a, 4, b, 4, d, 6, y, 6] = 0) (h2 : headsN exRoads p a.toNat b.toNat d y = n) (h0 : n ≠ 0) : Calls Tryd.prog 20 #[exV g, i64V p, i64V a, i64V b, i64V d, i64V y] w fun e w' => e = .returned (.tuple #[.int .i64 (n : Int), .int .i64 0]) ∧ Below w.heap.size w w' :=
  (Heads_any w exRoads p (some ⟨g, 0, none⟩) 4 hs four a b d y).mono fun e w' hp => by
    obtain ⟨hb, ⟨_, hd, _⟩ | ⟨_, _, rfl⟩ | ⟨hz, _⟩⟩ := hp
    · rw [h2] at hd; exact absurd hd h0
    · rw [h2]; exact ⟨rfl, hb⟩
    · exact absurd h1 hz
theorem WidenK (a b d y : Int) (l : List Int) (h1 : readyErr exRoads f [a, 4, b, 4, d, 6, y, 6] = 0) (h : widenL exRoads f a.toNat b.toNat d y = some l) : Calls Tryd.prog 21 #[exV g, flV f.heads f.pace, i64V a, i64V b, i64V d, i64V y] w (ExInts w l l.length) :=
  (Widen_any w exRoads f (some ⟨g, 0, none⟩) 4 hs four a b d y).mono fun e w' hp => by
    obtain ⟨hb, ⟨_, hd, _⟩ | ⟨_, L, v, hL, rfl, hown⟩ | ⟨hz, _⟩⟩ := hp
    · rw [h] at hd; simp at hd
    · rw [h] at hL
      simp only [Option.some.injEq] at hL
      subst hL
      obtain ⟨ga, gc, rfl, hi, _⟩ := hown.ints
      exact ⟨ga, gc, rfl, hi, hb⟩
    · exact absurd h1 hz
theorem WidenN (a b d y : Int) (h1 : readyErr exRoads f [a, 4, b, 4, d, 6, y, 6] = 0) (h : widenL exRoads f a.toNat b.toNat d y = none) : Calls Tryd.prog 21 #[exV g, flV f.heads f.pace, i64V a, i64V b, i64V d, i64V y] w fun e w' => e = .returned (.tuple #[.slice none 0 0, .int .i64 11]) ∧ Below w.heap.size w w' :=
  (Widen_any w exRoads f (some ⟨g, 0, none⟩) 4 hs four a b d y).mono fun e w' hp => by
    obtain ⟨hb, ⟨_, _, rfl⟩ | ⟨_, L, v, hL, _⟩ | ⟨hz, _⟩⟩ := hp
    · exact ⟨rfl, hb⟩
    · rw [h] at hL; simp at hL
    · exact absurd h1 hz
theorem MustK (a b d y : Int) (l : List Int) (h1 : readyErr exRoads f [a, 4, b, 4, d, 6, y, 6] = 0) (h2 : canB exRoads f (-1) a.toNat b.toNat d y = true) (h : mustTo exRoads f a.toNat b.toNat d y exRoads.strips.length = l) : Calls Tryd.prog 22 #[exV g, flV f.heads f.pace, i64V a, i64V b, i64V d, i64V y] w (ExInts w l l.length) :=
  (Must_any w exRoads f (some ⟨g, 0, none⟩) 4 hs four a b d y).mono fun e w' hp => by
    obtain ⟨hb, ⟨_, hd, _⟩ | ⟨_, _, v, rfl, hown⟩ | ⟨hz, _⟩⟩ := hp
    · rw [h2] at hd; simp at hd
    · obtain ⟨ga, gc, rfl, hi, _⟩ := hown.ints
      rw [h] at hi ⊢
      exact ⟨ga, gc, rfl, hi, hb⟩
    · exact absurd h1 hz
theorem CutK (a d : Int) (l : List Int) (h : cutV exRoads f a d = (l, 0)) : Calls Tryd.prog 23 #[exV g, flV f.heads f.pace, i64V a, i64V d] w (ExInts w l l.length) :=
  (Cut_any w exRoads f (some ⟨g, 0, none⟩) 4 hs four a d).mono fun e w' hp => by
    obtain ⟨ga, gc, rfl, hi, hb⟩ := hp
    rw [h] at hi ⊢
    exact ⟨ga, gc, rfl, hi, hb⟩
theorem WayK (a b n : Int) (l : List Int) (h1 : readyErr exRoads f [a, 4, b, 4] = 0) (h2 : wayAll exRoads f a.toNat b ≠ []) (h3 : bestL exRoads (wayAll exRoads f a.toNat b) = l) (h : lenL exRoads l = n) : Calls Tryd.prog 24 #[exV g, flV f.heads f.pace, i64V a, i64V b] w fun e w' => ∃ x c, e = .returned (.tuple #[.slice x l.length c, .int .i64 n, .int .i64 0]) ∧ IntsAt w' x l ∧ Below w.heap.size w w' :=
  (Way_any w exRoads f (some ⟨g, 0, none⟩) 4 hs four a b).mono fun e w' hp => by
    obtain ⟨hb, ⟨_, hd, _⟩ | ⟨_, _, ga, gc, rfl, hi⟩ | ⟨hz, _⟩⟩ := hp
    · exact absurd hd h2
    · rw [h3] at hi ⊢
      rw [h]
      exact ⟨ga, gc, rfl, hi, hb⟩
    · exact absurd h1 hz
end
theorem kBars1 (w : World) (g : Nat) (hs : StripsAt w (some ⟨g, 0, none⟩) exRoads.strips) : Calls Tryd.prog 8 #[exV g, flV 10 6, .int .i64 3, .int .i64 0] w (ExInts w [2] 1) :=
  BarsK w g hs ⟨10, 6⟩ 3 0 [2] (by decide +kernel)

theorem kBars2 (w : World) (g : Nat) (hs : StripsAt w (some ⟨g, 0, none⟩) exRoads.strips) : Calls Tryd.prog 8 #[exV g, flV 10 6, .int .i64 1, .int .i64 0] w (ExInts w [4] 1) :=
  BarsK w g hs ⟨10, 6⟩ 1 0 [4] (by decide +kernel)

theorem kBars3 (w : World) (g : Nat) (hs : StripsAt w (some ⟨g, 0, none⟩) exRoads.strips) : Calls Tryd.prog 8 #[exV g, flV 10 6, .int .i64 2, .int .i64 1] w (ExInts w [5] 1) :=
  BarsK w g hs ⟨10, 6⟩ 2 1 [5] (by decide +kernel)

theorem kBars4 (w : World) (g : Nat) (hs : StripsAt w (some ⟨g, 0, none⟩) exRoads.strips) : Calls Tryd.prog 8 #[exV g, flV 30 9, .int .i64 3, .int .i64 0] w (ExInts w [1, 3] 2) :=
  BarsK w g hs ⟨30, 9⟩ 3 0 [1, 3] (by decide +kernel)

theorem kDays1 (w : World) (g : Nat) (hs : StripsAt w (some ⟨g, 0, none⟩) exRoads.strips) : Calls Tryd.prog 12 #[exV g, flV 10 6, .int .i64 1] w (ExInts w [2, 3, 4] 3) :=
  DaysK w g hs ⟨10, 6⟩ 1 [2, 3, 4] (by decide +kernel)

theorem kDays2 (w : World) (g : Nat) (hs : StripsAt w (some ⟨g, 0, none⟩) exRoads.strips) : Calls Tryd.prog 12 #[exV g, flV 10 6, .int .i64 2] w (ExInts w [2, 3, 4, 5] 4) :=
  DaysK w g hs ⟨10, 6⟩ 2 [2, 3, 4, 5] (by decide +kernel)

theorem kDays3 (w : World) (g : Nat) (hs : StripsAt w (some ⟨g, 0, none⟩) exRoads.strips) : Calls Tryd.prog 12 #[exV g, flV 10 6, .int .i64 3] w (ExInts w [] 0) :=
  DaysK w g hs ⟨10, 6⟩ 3 [] (by decide +kernel)

theorem kComes (w : World) (g : Nat) (hs : StripsAt w (some ⟨g, 0, none⟩) exRoads.strips) : Calls Tryd.prog 14 #[exV g, flV 10 9, .int .i64 0, .int .i64 0] w (ExInts w [0, 0, 2, 0] 4) :=
  ComesK w g hs ⟨10, 9⟩ 0 0 [0, 0, 2, 0] (by decide +kernel) (by decide +kernel)

theorem kPlan1 (w : World) (g : Nat) (hs : StripsAt w (some ⟨g, 0, none⟩) exRoads.strips) : Calls Tryd.prog 16 #[exV g, flV 10 9, .int .i64 0, .int .i64 3, .int .i64 0] w (ExStrides w [(0, 3)] 1) :=
  PlanK w g hs ⟨10, 9⟩ 0 3 0 0 [(0, 3)] (by decide +kernel) (by decide +kernel) (by omega) (by decide +kernel)

theorem kPlan2 (w : World) (g : Nat) (hs : StripsAt w (some ⟨g, 0, none⟩) exRoads.strips) : Calls Tryd.prog 16 #[exV g, flV 10 6, .int .i64 0, .int .i64 2, .int .i64 4] w fun e w' => e = .returned (.tuple #[.slice none 0 0, .int .i64 11]) ∧ Below w.heap.size w w' :=
  PlanN w g hs ⟨10, 6⟩ 0 2 4 (-1) (by decide +kernel) (by decide +kernel) (by omega)

theorem kLate1 (w : World) (g : Nat) (hs : StripsAt w (some ⟨g, 0, none⟩) exRoads.strips) : Calls Tryd.prog 18 #[exV g, flV 10 6, .int .i64 0, .int .i64 3, .int .i64 5] w fun e w' => e = .returned (.tuple #[.int .i64 3, .int .i64 0]) ∧ Below w.heap.size w w' :=
  LateK w g hs ⟨10, 6⟩ 0 3 5 3 (by decide +kernel) (by decide +kernel) (by omega)

theorem kLate2 (w : World) (g : Nat) (hs : StripsAt w (some ⟨g, 0, none⟩) exRoads.strips) : Calls Tryd.prog 18 #[exV g, flV 10 6, .int .i64 0, .int .i64 3, .int .i64 3] w fun e w' => e = .returned (.tuple #[.int .i64 1, .int .i64 0]) ∧ Below w.heap.size w w' :=
  LateK w g hs ⟨10, 6⟩ 0 3 3 1 (by decide +kernel) (by decide +kernel) (by omega)

theorem kLate3 (w : World) (g : Nat) (hs : StripsAt w (some ⟨g, 0, none⟩) exRoads.strips) : Calls Tryd.prog 18 #[exV g, flV 10 6, .int .i64 0, .int .i64 3, .int .i64 2] w fun e w' => e = .returned (.tuple #[.int .i64 0, .int .i64 11]) ∧ Below w.heap.size w w' :=
  LateN w g hs ⟨10, 6⟩ 0 3 2 (-1) (by decide +kernel) (by decide +kernel) (by omega)

theorem kStay1 (w : World) (g : Nat) (hs : StripsAt w (some ⟨g, 0, none⟩) exRoads.strips) : Calls Tryd.prog 19 #[exV g, flV 10 6, .int .i64 0, .int .i64 2, .int .i64 0, .int .i64 4] w fun e w' => e = .returned (.tuple #[.int .i64 1, .int .i64 0]) ∧ Below w.heap.size w w' :=
  StayK w g hs ⟨10, 6⟩ 0 2 0 4 2 3 (by decide +kernel) (by decide +kernel) (by decide +kernel) (by omega)

theorem kStay2 (w : World) (g : Nat) (hs : StripsAt w (some ⟨g, 0, none⟩) exRoads.strips) : Calls Tryd.prog 19 #[exV g, flV 10 6, .int .i64 0, .int .i64 2, .int .i64 0, .int .i64 3] w fun e w' => e = .returned (.tuple #[.int .i64 0, .int .i64 11]) ∧ Below w.heap.size w w' :=
  StayN w g hs ⟨10, 6⟩ 0 2 0 3 2 2 (by decide +kernel) (by decide +kernel) (by decide +kernel) (by omega)

theorem kHeads1 (w : World) (g : Nat) (hs : StripsAt w (some ⟨g, 0, none⟩) exRoads.strips) : Calls Tryd.prog 20 #[exV g, .int .i64 6, .int .i64 0, .int .i64 3, .int .i64 0, .int .i64 5] w fun e w' => e = .returned (.tuple #[.int .i64 10, .int .i64 0]) ∧ Below w.heap.size w w' :=
  HeadsK w g hs 6 0 3 0 5 10 (by decide +kernel) (by decide +kernel) (by omega)

theorem kHeads2 (w : World) (g : Nat) (hs : StripsAt w (some ⟨g, 0, none⟩) exRoads.strips) : Calls Tryd.prog 20 #[exV g, .int .i64 9, .int .i64 0, .int .i64 3, .int .i64 0, .int .i64 5] w fun e w' => e = .returned (.tuple #[.int .i64 20, .int .i64 0]) ∧ Below w.heap.size w w' :=
  HeadsK w g hs 9 0 3 0 5 20 (by decide +kernel) (by decide +kernel) (by omega)

theorem kWiden1 (w : World) (g : Nat) (hs : StripsAt w (some ⟨g, 0, none⟩) exRoads.strips) : Calls Tryd.prog 21 #[exV g, flV 20 6, .int .i64 0, .int .i64 3, .int .i64 0, .int .i64 5] w (ExInts w [2] 1) :=
  WidenK w g hs ⟨20, 6⟩ 0 3 0 5 [2] (by decide +kernel) (by decide +kernel)

theorem kWiden2 (w : World) (g : Nat) (hs : StripsAt w (some ⟨g, 0, none⟩) exRoads.strips) : Calls Tryd.prog 21 #[exV g, flV 10 6, .int .i64 0, .int .i64 3, .int .i64 0, .int .i64 5] w (ExInts w [] 0) :=
  WidenK w g hs ⟨10, 6⟩ 0 3 0 5 [] (by decide +kernel) (by decide +kernel)

theorem kWiden3 (w : World) (g : Nat) (hs : StripsAt w (some ⟨g, 0, none⟩) exRoads.strips) : Calls Tryd.prog 21 #[exV g, flV 10 6, .int .i64 0, .int .i64 3, .int .i64 0, .int .i64 2] w fun e w' => e = .returned (.tuple #[.slice none 0 0, .int .i64 11]) ∧ Below w.heap.size w w' :=
  WidenN w g hs ⟨10, 6⟩ 0 3 0 2 (by decide +kernel) (by decide +kernel)

theorem kMust1 (w : World) (g : Nat) (hs : StripsAt w (some ⟨g, 0, none⟩) exRoads.strips) : Calls Tryd.prog 22 #[exV g, flV 10 6, .int .i64 0, .int .i64 3, .int .i64 0, .int .i64 5] w (ExInts w [0, 1, 2] 3) :=
  MustK w g hs ⟨10, 6⟩ 0 3 0 5 [0, 1, 2] (by decide +kernel) (by decide +kernel) (by decide +kernel)

theorem kMust2 (w : World) (g : Nat) (hs : StripsAt w (some ⟨g, 0, none⟩) exRoads.strips) : Calls Tryd.prog 22 #[exV g, flV 10 9, .int .i64 0, .int .i64 3, .int .i64 0, .int .i64 5] w (ExInts w [] 0) :=
  MustK w g hs ⟨10, 9⟩ 0 3 0 5 [] (by decide +kernel) (by decide +kernel) (by decide +kernel)

theorem kMust3 (w : World) (g : Nat) (hs : StripsAt w (some ⟨g, 0, none⟩) exRoads.strips) : Calls Tryd.prog 22 #[exV g, flV 10 9, .int .i64 0, .int .i64 3, .int .i64 0, .int .i64 0] w (ExInts w [3] 1) :=
  MustK w g hs ⟨10, 9⟩ 0 3 0 0 [3] (by decide +kernel) (by decide +kernel) (by decide +kernel)

theorem kCut1 (w : World) (g : Nat) (hs : StripsAt w (some ⟨g, 0, none⟩) exRoads.strips) : Calls Tryd.prog 23 #[exV g, flV 10 6, .int .i64 0, .int .i64 0] w (ExInts w [3] 1) :=
  CutK w g hs ⟨10, 6⟩ 0 0 [3] (by decide +kernel)

theorem kCut2 (w : World) (g : Nat) (hs : StripsAt w (some ⟨g, 0, none⟩) exRoads.strips) : Calls Tryd.prog 23 #[exV g, flV 10 6, .int .i64 0, .int .i64 5] w (ExInts w [1, 2, 3] 3) :=
  CutK w g hs ⟨10, 6⟩ 0 5 [1, 2, 3] (by decide +kernel)

theorem kWay (w : World) (g : Nat) (hs : StripsAt w (some ⟨g, 0, none⟩) exRoads.strips) : Calls Tryd.prog 24 #[exV g, flV 10 6, .int .i64 0, .int .i64 3] w fun e w' => ∃ x c, e = .returned (.tuple #[.slice x 3 c, .int .i64 12, .int .i64 0]) ∧ IntsAt w' x [0, 1, 2] ∧ Below w.heap.size w w' :=
  WayK w g hs ⟨10, 6⟩ 0 3 12 [0, 1, 2] (by decide +kernel) (by decide +kernel) (by decide +kernel) (by decide +kernel)
theorem kPlay0 : playV exRoads ⟨10, 6⟩ 0 [(0, 0), (2, 1), (3, 2)] = ([1, 1, 2, 3, 3, 3], 0) := by decide +kernel
theorem kPlay1 : playV exRoads ⟨10, 6⟩ 0 [(0, 0), (1, 1)] = ([], 9) := by decide +kernel
theorem kPlay2 : playV exRoads ⟨10, 6⟩ 0 [(0, 1)] = ([], 12) := by decide +kernel
theorem kPlay3 : playV exRoads ⟨10, 6⟩ 0 [(0, 0), (0, 0)] = ([], 6) := by decide +kernel
theorem kPlay4 : playV exRoads ⟨10, 6⟩ 0 [(2, 0), (1, 0)] = ([], 5) := by decide +kernel
theorem kPlay5 : playV exRoads ⟨10, 6⟩ 0 [(0, 4)] = ([], 3) := by decide +kernel
theorem kWrite : writeV exRoads = ([114, 111, 97, 100, 115, 32, 52, 32, 115, 116, 97, 103, 101, 115, 32, 54, 32, 100, 97, 121, 115, 10, 48, 45, 49, 32, 53, 32, 108, 101, 97, 103, 117, 101, 115, 32, 57, 48, 32, 119, 105, 100, 101, 10, 49, 45, 50, 32, 52, 32, 108, 101, 97, 103, 117, 101, 115, 32, 52, 53, 32, 119, 105, 100, 101, 32, 112, 97, 115, 115, 32, 50, 45, 52, 10, 50, 45, 51, 32, 51, 32, 108, 101, 97, 103, 117, 101, 115, 32, 50, 53, 32, 119, 105, 100, 101, 32, 102, 111, 114, 100, 32, 49, 48, 32, 45, 49, 10, 48, 45, 51, 32, 57, 32, 108, 101, 97, 103, 117, 101, 115, 32, 52, 53, 32, 119, 105, 100, 101, 32, 98, 114, 105, 100, 103, 101, 32, 50, 48, 10, 101, 110, 100, 10], 0) := by decide +kernel
end Go.Proofs.YtmkjeonjhedgkaaDoor
