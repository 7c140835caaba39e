/- Plain definitions and laws about roads (no program in sight). -/
import Derived.WalkKit
import Derived.Handy
import Derived.Lib.Hide
import Derived.Deep.QuietTactic
import Derived.BigQuiet
import Derived.StillTailTactics
import Derived.Deep.RegionHeld3
import Derived.Deep.RegionWith
import Derived.Deep.Cut
import Derived.Deep.DeepCutAuto
import Derived.Deep.LoopGhost
import Derived.BigRegion
import Derived.Deep.DeepFit
import Derived.Laws.EntriesVeiled
import Derived.WalkLawsBesides
namespace Go.Proofs.Ytjgkgnfhglhklaa
set_option linter.unusedSimpArgs false
set_option linter.unusedVariables false
open Go.RowKit

theorem ret_int {k : IntKind} {a b : Int} (h : a = b) : Ending.returned (.int k a) = .returned (.int k b) := by rw [h]
theorem ret_bool {a b : Bool} (h : a = b) : Ending.returned (.bool a) = .returned (.bool b) := by rw [h]
theorem bcell {W w1 : World} (hb : Below W.heap.size W w1) : (∀ b o, b < W.heap.size → w1.cell? ⟨b, o, none⟩ = W.cell? ⟨b, o, none⟩) ∧ (∀ b o, b < W.heap.size → w1.frozen? ⟨b, o, none⟩ = W.frozen? ⟨b, o, none⟩) :=
  ⟨fun b o h => hb.cell (p := ⟨b, o, none⟩) h, fun b o h => hb.frozen (p := ⟨b, o, none⟩) h⟩

theorem below_drewN {B : Nat} {w w' : World} (h : Below B w w') (n : Nat) : Below B w (w'.drewN n) := h.trans (by induction n with
  | zero => exact Below.refl _ _
  | succ n ih => exact ih.drew)

/-- A region that draws its order, all but a tail of which only reads: the world behind the draw under a name. -/
theorem still_tail_at {P : Program} {id : Nat} {Q : Exit → Act → World → Prop} {a : Act} {w W : World} {l : List Oper} (hW : W = w.drew) (n : Nat) (hm : P.follows .mixedOrders = true) (hB : Region.lexTailB .any l.toArray n = true)
    (h : wpStill P l.toArray W (fun a' => wpList P l.toArray Q (l.drop n) a' W) (l.take n) a) : (Code.region id l.toArray true).wp P Q a w := by
  subst hW; exact wp_region_still_tail n hm hB h

structure Strip where
  A : Int
  B : Int
  L : Int
  W : Int
  K : Int
  X : Int
  Y : Int
  deriving DecidableEq

def Strip.val (s : Strip) : Value := .agg #[.int .i64 s.A, .int .i64 s.B, .int .i64 s.L, .int .i64 s.W, .int .i64 s.K, .int .i64 s.X, .int .i64 s.Y]

structure Roads where
  days : Int
  stages : Int
  strips : List Strip
  deriving DecidableEq

structure Flock where
  heads : Int
  pace : Int
  deriving DecidableEq

def btw (n lo hi : Int) : Bool := decide (lo ≤ n) && decide (n ≤ hi)
theorem btw_true {n lo hi : Int} : btw n lo hi = true ↔ lo ≤ n ∧ n ≤ hi := by simp [btw]
theorem btw_false {n lo hi : Int} : btw n lo hi = false ↔ ¬ (lo ≤ n ∧ n ≤ hi) := by rw [← btw_true]; simp

def legalW (n : Int) : Int := if n ≤ 10 then 25 else if n ≤ 25 then 45 else 90

def kindFine (s : Strip) (days : Int) : Bool :=
  if s.K = 1 then (s.X == 0 && s.Y == 0)
  else if s.K = 2 then btw s.X 0 (days - 1) && btw s.Y s.X (days - 1)
  else if s.K = 3 then btw s.X 0 20 && btw s.Y (-5) 5
  else btw s.X 1 40 && s.Y == 0
def kindErr (s : Strip) (days : Int) : Int :=
  if s.K = 1 ∨ s.K = 2 ∨ s.K = 3 ∨ s.K = 4 then (if kindFine s days then 0 else 1) else 8

/-- The error of one strip. -/
def stripErr (s : Strip) (days stages : Int) : Int :=
  if !(btw s.A 0 (stages - 1)) || !(btw s.B 0 (stages - 1)) then 3
  else if s.A == s.B then 4
  else if !(btw s.L 1 9) || !(btw s.W 1 99) then 1
  else kindErr s days
def stripsErr (days stages : Int) : List Strip → Int
  | [] => 0
  | s :: l => if stripErr s days stages == 0 then stripsErr days stages l else stripErr s days stages
def checkR (r : Roads) : Int :=
  if !(btw r.days 1 10) || !(btw r.stages 1 6) then 1
  else if 8 < r.strips.length then 6
  else stripsErr r.days r.stages r.strips
def flockErr (f : Flock) : Int := if !(btw f.heads 1 40) || !(btw f.pace 1 9) then 1 else 0
end Go.Proofs.Ytjgkgnfhglhklaa
