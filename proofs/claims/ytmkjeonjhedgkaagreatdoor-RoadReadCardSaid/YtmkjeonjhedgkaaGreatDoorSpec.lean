/- Plain definitions and laws about roads (no program in sight). How slices and structs of roads lie in memory: words on worlds, and that they stay. Contracts of the small functions of package road: between, legal, kindError, flockError. The contract of road.Check. Slices of integers that a call makes for itself: the word OwnInts, and append at the operation. -/
import Derived.WalkKit
import Derived.Handy
import Derived.Lib.Hide
import Derived.Deep.QuietTactic
import Derived.BigQuiet
import Derived.StillTailTactics
import Derived.Deep.RegionHeld3
import Derived.Deep.RegionWith
import Derived.Deep.Cut
import Derived.Deep.DeepCutAuto
import Derived.Deep.LoopGhost
import Derived.BigRegion
import Derived.Deep.DeepFit
import Derived.Laws.EntriesVeiled
import Derived.WalkLawsBesides
import Derived.Test.YtmkjeonjhedgkaaGreatDoorProg
namespace Go.Proofs.YtmkjeonjhedgkaaGreatDoor
set_option linter.unusedSimpArgs false
set_option linter.unusedVariables false
open Go.RowKit

theorem ret_int {k : IntKind} {a b : Int} (h : a = b) : Ending.returned (.int k a) = .returned (.int k b) := by rw [h]
theorem ret_bool {a b : Bool} (h : a = b) : Ending.returned (.bool a) = .returned (.bool b) := by rw [h]
theorem bcell {W w1 : World} (hb : Below W.heap.size W w1) : (∀ b o, b < W.heap.size → w1.cell? ⟨b, o, none⟩ = W.cell? ⟨b, o, none⟩) ∧ (∀ b o, b < W.heap.size → w1.frozen? ⟨b, o, none⟩ = W.frozen? ⟨b, o, none⟩) :=
  ⟨fun b o h => hb.cell (p := ⟨b, o, none⟩) h, fun b o h => hb.frozen (p := ⟨b, o, none⟩) h⟩

theorem below_drewN {B : Nat} {w w' : World} (h : Below B w w') (n : Nat) : Below B w (w'.drewN n) := h.trans (by induction n with
  | zero => exact Below.refl _ _
  | succ n ih => exact ih.drew)

/-- A region that draws its order, all but a tail of which only reads: the world behind the draw under a name. -/
theorem still_tail_at {P : Program} {id : Nat} {Q : Exit → Act → World → Prop} {a : Act} {w W : World} {l : List Oper} (hW : W = w.drew) (n : Nat) (hm : P.follows .mixedOrders = true) (hB : Region.lexTailB .any l.toArray n = true)
    (h : wpStill P l.toArray W (fun a' => wpList P l.toArray Q (l.drop n) a' W) (l.take n) a) : (Code.region id l.toArray true).wp P Q a w := by
  subst hW; exact wp_region_still_tail n hm hB h

structure Strip where
  A : Int
  B : Int
  L : Int
  W : Int
  K : Int
  X : Int
  Y : Int
  deriving DecidableEq

def Strip.val (s : Strip) : Value := .agg #[.int .i64 s.A, .int .i64 s.B, .int .i64 s.L, .int .i64 s.W, .int .i64 s.K, .int .i64 s.X, .int .i64 s.Y]

structure Roads where
  days : Int
  stages : Int
  strips : List Strip
  deriving DecidableEq

structure Flock where
  heads : Int
  pace : Int
  deriving DecidableEq

def btw (n lo hi : Int) : Bool := decide (lo ≤ n) && decide (n ≤ hi)
theorem btw_true {n lo hi : Int} : btw n lo hi = true ↔ lo ≤ n ∧ n ≤ hi := by simp [btw]
theorem btw_false {n lo hi : Int} : btw n lo hi = false ↔ ¬ (lo ≤ n ∧ n ≤ hi) := by rw [← btw_true]; simp

def legalW (n : Int) : Int := if n ≤ 10 then 25 else if n ≤ 25 then 45 else 90

def kindFine (s : Strip) (days : Int) : Bool :=
  if s.K = 1 then (s.X == 0 && s.Y == 0)
  else if s.K = 2 then btw s.X 0 (days - 1) && btw s.Y s.X (days - 1)
  else if s.K = 3 then btw s.X 0 20 && btw s.Y (-5) 5
  else btw s.X 1 40 && s.Y == 0
def kindErr (s : Strip) (days : Int) : Int :=
  if s.K = 1 ∨ s.K = 2 ∨ s.K = 3 ∨ s.K = 4 then (if kindFine s days then 0 else 1) else 8

/-- The error of one strip. -/
def stripErr (s : Strip) (days stages : Int) : Int :=
  if !(btw s.A 0 (stages - 1)) || !(btw s.B 0 (stages - 1)) then 3
  else if s.A == s.B then 4
  else if !(btw s.L 1 9) || !(btw s.W 1 99) then 1
  else kindErr s days
def stripsErr (days stages : Int) : List Strip → Int
  | [] => 0
  | s :: l => if stripErr s days stages == 0 then stripsErr days stages l else stripErr s days stages
def checkR (r : Roads) : Int :=
  if !(btw r.days 1 10) || !(btw r.stages 1 6) then 1
  else if 8 < r.strips.length then 6
  else stripsErr r.days r.stages r.strips
def flockErr (f : Flock) : Int := if !(btw f.heads 1 40) || !(btw f.pace 1 9) then 1 else 0
end Go.Proofs.YtmkjeonjhedgkaaGreatDoor

namespace Go.Proofs.YtmkjeonjhedgkaaGreatDoor
set_option linter.unusedSimpArgs false
set_option linter.unusedVariables false
open Go.RowKit

/-- Strip s lies at cells o .. o + 6 of block b. -/
structure StripAt (w : World) (b o : Nat) (s : Strip) : Prop where
  c0 : w.cell? ⟨b, o, none⟩ = some (.int .i64 s.A)
  c1 : w.cell? ⟨b, o + 1, none⟩ = some (.int .i64 s.B)
  c2 : w.cell? ⟨b, o + 2, none⟩ = some (.int .i64 s.L)
  c3 : w.cell? ⟨b, o + 3, none⟩ = some (.int .i64 s.W)
  c4 : w.cell? ⟨b, o + 4, none⟩ = some (.int .i64 s.K)
  c5 : w.cell? ⟨b, o + 5, none⟩ = some (.int .i64 s.X)
  c6 : w.cell? ⟨b, o + 6, none⟩ = some (.int .i64 s.Y)

theorem StripAt.keep {w w' : World} {b o : Nat} {s : Strip} (h : StripAt w b o s) (e : ∀ k, w'.cell? ⟨b, k, none⟩ = w.cell? ⟨b, k, none⟩) : StripAt w' b o s :=
  ⟨(e _).trans h.c0, (e _).trans h.c1, (e _).trans h.c2, (e _).trans h.c3, (e _).trans h.c4, (e _).trans h.c5, (e _).trans h.c6⟩

/-- The strips l lie behind a slice's address. -/
def StripsAt (w : World) (a : Option Addr) (l : List Strip) : Prop :=
  l = [] ∨ ∃ b o, a = some ⟨b, o, none⟩ ∧ ∀ (i : Nat) (h : i < l.length), StripAt w b (o + i * 7) l[i]

theorem lt_of_cell {w : World} {b o : Nat} {v : Value} (h : w.cell? ⟨b, o, none⟩ = some v) : b < w.heap.size := World.block_lt_of_cell? _ _ h

theorem StripsAt.below {w w' : World} {a : Option Addr} {l : List Strip} (h : StripsAt w a l) (hb : Below w.heap.size w w') : StripsAt w' a l := by
  rcases h with h | ⟨b, o, ha, h⟩
  · exact .inl h
  · exact .inr ⟨b, o, ha, fun i hi => (h i hi).keep fun k => (bcell hb).1 _ _ (lt_of_cell (h i hi).c0)⟩

/-- The integers l lie behind a slice's address. -/
def IntsAt (w : World) (a : Option Addr) (l : List Int) : Prop :=
  l = [] ∨ ∃ b o, a = some ⟨b, o, none⟩ ∧ ∀ (i : Nat) (h : i < l.length), w.cell? ⟨b, o + i, none⟩ = some (.int .i64 l[i])

theorem IntsAt.below {w w' : World} {a : Option Addr} {l : List Int} (h : IntsAt w a l) (hb : Below w.heap.size w w') : IntsAt w' a l := by
  rcases h with h | ⟨b, o, ha, h⟩
  · exact .inl h
  · exact .inr ⟨b, o, ha, fun i hi => by rw [(bcell hb).1 _ _ (lt_of_cell (h i hi))]; exact h i hi⟩
end Go.Proofs.YtmkjeonjhedgkaaGreatDoor

namespace Go.Proofs.YtmkjeonjhedgkaaGreatDoor
set_option linter.unusedSimpArgs false
set_option linter.unusedVariables false
open Go.RowKit

theorem between_any (n lo hi : Int) (w : World) :
    Calls Tryz.prog 56 #[.int .i64 n, .int .i64 lo, .int .i64 hi] w fun e w' => e = .returned (.bool (btw n lo hi)) ∧ w = w' := by
  by_cases h : lo ≤ n
  · go_enter Tryz.func56, Tryz.ntmps56
    go_wp2
    go_ret
    exact ⟨by simp [h, btw], rfl⟩
  · go_enter Tryz.func56, Tryz.ntmps56
    go_wp2
    go_ret
    exact ⟨by simp [btw]; omega, rfl⟩

theorem legal_any (n : Int) (w : World) :
    Calls Tryz.prog 87 #[.int .i64 n] w fun e w' => e = .returned (.int .i64 (legalW n)) ∧ w = w' := by
  by_cases h : n ≤ 10
  · go_enter Tryz.func87, Tryz.ntmps87
    go_wp2
    go_ret
    exact ⟨ret_int (by simp [legalW, h]), rfl⟩
  · by_cases h' : n ≤ 25
    · go_enter Tryz.func87, Tryz.ntmps87
      go_wp2
      go_ret
      exact ⟨ret_int (by rw [legalW, if_neg (by omega), if_pos h']), rfl⟩
    · go_enter Tryz.func87, Tryz.ntmps87
      go_wp2
      go_ret
      exact ⟨ret_int (by rw [legalW, if_neg (by omega), if_neg (by omega)]), rfl⟩

theorem kindError_any (A B L W K X Y days : Int) (w : World) (h1 : 1 ≤ days) (h2 : days ≤ 10) :
    Calls Tryz.prog 57 #[.agg #[.int .i64 A, .int .i64 B, .int .i64 L, .int .i64 W, .int .i64 K, .int .i64 X, .int .i64 Y], .int .i64 days] w
      fun e w' => e = .returned (.int .i64 (kindErr ⟨A, B, L, W, K, X, Y⟩ days)) ∧ Below w.heap.size w w' := by
  by_cases k1 : K = 1
  · subst k1
    go_enter Tryz.func57, Tryz.ntmps57
    go_wp2_with (go_at_call 56; refine (between_any _ _ _ _).mono ?_; rintro e w' ⟨rfl, rfl⟩)
    all_goals go_ret
    all_goals exact ⟨ret_int (by simp_all [kindErr, kindFine]), by go_grown⟩
  · by_cases k2 : K = 2
    · subst k2
      go_enter Tryz.func57, Tryz.ntmps57
      go_wp2_with (go_at_call 56; refine (between_any _ _ _ _).mono ?_; rintro e w' ⟨rfl, rfl⟩)
      all_goals go_ret
      all_goals exact ⟨ret_int (by simp_all [kindErr, kindFine]), by go_grown⟩
    · by_cases k3 : K = 3
      · subst k3
        go_enter Tryz.func57, Tryz.ntmps57
        go_wp2_with (go_at_call 56; refine (between_any _ _ _ _).mono ?_; rintro e w' ⟨rfl, rfl⟩)
        all_goals go_ret
        all_goals exact ⟨ret_int (by simp_all [kindErr, kindFine]), by go_grown⟩
      · by_cases k4 : K = 4
        · subst k4
          go_enter Tryz.func57, Tryz.ntmps57
          go_wp2_with (go_at_call 56; refine (between_any _ _ _ _).mono ?_; rintro e w' ⟨rfl, rfl⟩)
          all_goals go_ret
          all_goals exact ⟨ret_int (by simp_all [kindErr, kindFine]), by go_grown⟩
        · go_enter Tryz.func57, Tryz.ntmps57
          go_wp2_with (go_at_call 56; refine (between_any _ _ _ _).mono ?_; rintro e w' ⟨rfl, rfl⟩)
          all_goals go_ret
          all_goals exact ⟨ret_int (by simp_all [kindErr]), by go_grown⟩

theorem flockError_any (H P : Int) (w : World) :
    Calls Tryz.prog 68 #[.agg #[.int .i64 H, .int .i64 P]] w
      fun e w' => e = .returned (.int .i64 (flockErr ⟨H, P⟩)) ∧ Below w.heap.size w w' := by
  go_enter Tryz.func68, Tryz.ntmps68
  go_wp2_with (go_at_call 56; refine (between_any _ _ _ _).mono ?_; rintro e w' ⟨rfl, rfl⟩)
  all_goals go_ret
  all_goals exact ⟨ret_int (by simp_all [flockErr]), by go_grown⟩
end Go.Proofs.YtmkjeonjhedgkaaGreatDoor

namespace Go.Proofs.YtmkjeonjhedgkaaGreatDoor
set_option linter.unusedSimpArgs false
set_option linter.unusedVariables false
open Go.RowKit

theorem stripsErr_drop {D S : Int} {l : List Strip} {k : Nat} (h : k < l.length) :
    stripsErr D S (l.drop k) = if stripErr l[k] D S == 0 then stripsErr D S (l.drop (k + 1)) else stripErr l[k] D S := by
  rw [List.drop_eq_getElem_cons h]; rfl

theorem chk_end {D S : Int} {l : List Strip} {k : Nat} {s : Strip} {x : Int} (h : k < l.length) (hE : stripsErr D S (l.drop k) = stripsErr D S l) (hg : l[k] = s)
    (h0 : stripErr s D S = x) (h1 : x ≠ 0) : stripsErr D S l = x := by
  rw [← hE, stripsErr_drop h, hg, h0, if_neg (by simpa using h1)]
theorem chk_next {D S : Int} {l : List Strip} {k : Nat} {s : Strip} (h : k < l.length) (hE : stripsErr D S (l.drop k) = stripsErr D S l) (hg : l[k] = s)
    (h0 : stripErr s D S = 0) : stripsErr D S (l.drop (k + 1)) = stripsErr D S l := by
  rw [← hE, stripsErr_drop h, hg, h0]; rfl

set_option maxHeartbeats 2000000 in
theorem check_any (D S : Int) (l : List Strip) (a : Option Addr) (cap : Nat) (w : World) (hl : StripsAt w a l) (hm : l.length ≤ maxLen) :
    Calls Tryz.prog 28 #[.agg #[.int .i64 D, .int .i64 S, .slice a l.length cap]] w
      fun e w' => e = .returned (.int .i64 (checkR ⟨D, S, l⟩)) ∧ Below w.heap.size w w' := by
  unfold maxLen at hm
  by_cases hd : btw D 1 10 = true
  · by_cases hs : btw S 1 6 = true
    · by_cases h8 : 8 < l.length
      · go_enter Tryz.func28, Tryz.ntmps28
        go_wp2_with (go_at_call 56; refine (between_any _ _ _ _).mono ?_; rintro e w' ⟨rfl, rfl⟩)
        all_goals go_ret
        all_goals exact ⟨ret_int (by simp [checkR, hd, hs, h8]), by go_grown⟩
      · obtain ⟨hs1, hs2⟩ := btw_true.1 hs
        obtain ⟨hd1, hd2⟩ := btw_true.1 hd
        have hR : checkR ⟨D, S, l⟩ = stripsErr D S l := by simp [checkR, hd, hs, h8]
        have HR := Lib.hid hR; clear hR
        go_enter Tryz.func28, Tryz.ntmps28
        go_wp2_with (go_at_call 56; refine (between_any _ _ _ _).mono ?_; rintro e w' ⟨rfl, rfl⟩)
        go_loopw [23] (fun v wr => ∃ k : Nat, k ≤ l.length ∧ v = .int .i64 k ∧ stripsErr D S (l.drop k) = stripsErr D S l ∧ Below (w.heap.size + 1) (w.alloc (.cells #[.int .i64 D, .int .i64 S, .slice a l.length cap] 24)) wr) (fun v _ => l.length - (intOf v).toNat)
        case atStart => exact ⟨0, Nat.zero_le _, rfl, rfl, Below.refl _ _⟩
        case round =>
          obtain ⟨k, hk, rfl, hE, hb⟩ := hrel
          have HE := Lib.hid hE; clear hE
          have hb' := hb
          obtain ⟨hc, hf⟩ := bcell (W := w.alloc (.cells #[.int .i64 D, .int .i64 S, .slice a l.length cap] 24)) (by simpa using hb)
          have b0 : wr.cell? ⟨w.heap.size, 0, none⟩ = some (.int .i64 D) := by rw [hc _ _ (by simp)]; simp
          have b1 : wr.cell? ⟨w.heap.size, 1, none⟩ = some (.int .i64 S) := by rw [hc _ _ (by simp)]; simp
          have hz : w.heap.size < wr.heap.size := by have := hb.size; simp at this; omega
          by_cases hlt : k < l.length
          · rcases hl with rfl | ⟨b, o, rfl, hl⟩
            · simp at hlt
            · have hst := hl k hlt
              have hst' : StripAt wr b (o + k * 7) l[k] := hst.keep fun j => by rw [hc _ _ (by simp; have := lt_of_cell hst.c0; omega)]; exact World.cell?_alloc_past _ _ _ (lt_of_cell hst.c0)
              obtain ⟨s0, s1, s2, s3, s4, s5, s6⟩ := hst'
              clear hc hf hst hl hb
              generalize hg : l[k] = s at s0 s1 s2 s3 s4 s5 s6
              go_wp2_with (first | (go_at_call 56; refine (between_any _ _ _ _).mono ?_; rintro e w' ⟨rfl, rfl⟩) | (go_at_call 57; refine (kindError_any _ _ _ _ _ _ _ _ _ hd1 hd2).mono ?_; rintro e w2 ⟨rfl, hb2⟩))
              case roundEnd => exact ⟨⟨k + 1, by omega, by go_num, chk_next hlt HE.out hg (by simp_all [stripErr]), hb'.trans ((Below.alloc (Below.refl _ _) (by omega) _).trans (hb2.mono (by simp; omega)))⟩, by simp [intOf]; omega⟩
              all_goals go_ret
              all_goals refine ⟨ret_int ?_, ?_⟩
              all_goals first
                | (refine Below.trans (Below.alloc (Below.refl _ _) (Nat.le_refl _) _) ((Below.mono hb' (by omega)).trans ?_)
                   first | exact (Below.alloc (Below.refl _ _) (by omega) _) | exact (Below.alloc (Below.refl _ _) (by omega) _).trans (hb2.mono (by simp; omega)))
                | (rw [HR.out]; refine (chk_end hlt HE.out hg ?_ ?_).symm)
              all_goals clear b0 b1 s0 s1 s2 s3 s4 s5 s6
              all_goals simp_all [stripErr]
          · go_wp2
            go_ret
            refine ⟨ret_int ?_, Below.trans (Below.alloc (Below.refl _ _) (Nat.le_refl _) _) (Below.mono hb' (by omega))⟩
            rw [HR.out, ← HE.out, List.drop_of_length_le (by omega)]; rfl
    · go_enter Tryz.func28, Tryz.ntmps28
      go_wp2_with (go_at_call 56; refine (between_any _ _ _ _).mono ?_; rintro e w' ⟨rfl, rfl⟩)
      all_goals go_ret
      all_goals exact ⟨ret_int (by simp_all [checkR]), by go_grown⟩
  · go_enter Tryz.func28, Tryz.ntmps28
    go_wp2_with (go_at_call 56; refine (between_any _ _ _ _).mono ?_; rintro e w' ⟨rfl, rfl⟩)
    all_goals go_ret
    all_goals exact ⟨ret_int (by simp_all [checkR]), by go_grown⟩
end Go.Proofs.YtmkjeonjhedgkaaGreatDoor

namespace Go.Proofs.YtmkjeonjhedgkaaGreatDoor
set_option linter.unusedSimpArgs false
set_option linter.unusedVariables false
open Go.RowKit

/-- v is a slice of integers l in a block from B on (or nil). -/
def OwnInts (w : World) (B : Nat) (v : Value) (l : List Int) : Prop := w.ownsRow B 3 1 v l.length (l.map (Value.int .i64))

theorem OwnInts.nil (w : World) (B : Nat) : OwnInts w B (.slice none 0 0) [] := World.ownsRow_nil _ _ _ _

theorem OwnInts.below {w w' : World} {B : Nat} {v : Value} {l : List Int} (h : OwnInts w B v l) (hb : Below w.heap.size w w') : OwnInts w' B v l := by
  obtain ⟨h1, h2⟩ := h
  refine ⟨h1, ?_⟩
  rcases h2 with h2 | ⟨g, cap, cur, hv, hg, hh, r⟩
  · exact .inl h2
  · exact .inr ⟨g, cap, cur, hv, hg, by rw [hb.block g (Array.getElem?_eq_some_iff.1 hh).1]; exact hh, r⟩

theorem OwnInts.alloc {w : World} {B : Nat} {v : Value} {l : List Int} (h : OwnInts w B v l) (o : Obj) : OwnInts (w.alloc o) B v l :=
  h.below (Below.alloc (Below.refl _ _) (Nat.le_refl _) o)

theorem OwnInts.mono {w : World} {B B' : Nat} {v : Value} {l : List Int} (h : OwnInts w B v l) (hB : B' ≤ B) : OwnInts w B' v l := by
  obtain ⟨h1, h2⟩ := h
  refine ⟨h1, ?_⟩
  rcases h2 with h2 | ⟨g, cap, cur, hv, hg, r⟩
  · exact .inl h2
  · exact .inr ⟨g, cap, cur, hv, Nat.le_trans hB hg, r⟩

theorem OwnInts.ints {w : World} {B : Nat} {v : Value} {l : List Int} (h : OwnInts w B v l) :
    ∃ a cap, v = .slice a l.length cap ∧ IntsAt w a l ∧ l.length ≤ cap ∧ cap ≤ maxLen := by
  obtain ⟨h1, h2⟩ := h
  rcases h2 with ⟨hv, hn⟩ | ⟨g, cap, cur, hv, hg, hh, hc, hm, hs, ht⟩
  · have : l = [] := List.length_eq_zero_iff.1 hn
    subst this
    exact ⟨none, 0, hv, .inl rfl, Nat.le_refl _, by unfold maxLen; omega⟩
  · refine ⟨_, cap, hv, .inr ⟨g, 0, rfl, fun i hi => ?_⟩, hc, hm⟩
    have e : cur[i]? = some (.int .i64 l[i]) := by
      rw [← Array.getElem?_toList]
      have : (cur.toList.take (l.length * 1))[i]? = cur.toList[i]? := by rw [List.getElem?_take, if_pos (by omega)]
      rw [← this, ht]
      simp [hi]
    simp [World.cell?, hh, e]

/-- out = append(out, n) at the operation: the new element lies in a block of one cell. -/
theorem app_int {ops : Array Oper} {rest : List Oper} {o : Oper} {a : Act} {Q : Exit → Act → World → Prop} {w : World} (hgd : o.guard = none) (s x : Operand)
    (ho : o.op = .call { callee := .builtin .append, args := #[s, x], argTypes := #[25, 25] })
    (B : Nat) (v : Value) (l : List Int) (hs : a.eval s = v) (hown : OwnInts w B v l) (n : Int) (b : Nat) (hx : a.eval x = .slice (some ⟨b, 0, none⟩) 1 1)
    (hc : w.cell? ⟨b, 0, none⟩ = some (.int .i64 n)) (hlen : l.length ≤ 1000000) (hB : B ≤ w.heap.size)
    (h : ∀ v' w', OwnInts w' B v' (l ++ [n]) → Below B w w' → w.grownBy w' v.ownBlock → wpList Tryz.prog ops Q rest (a.put o.dst v') w') : wpList Tryz.prog ops Q (o :: rest) a w := by
  obtain ⟨i0, hi, hz0, hz1, hz2⟩ := info_parts (P := Tryz.prog) (e := 3) (z := .int .i64 0) (size := 1) (bytes := 8) (by kernel_rfl)
  refine wpList_append_own w hgd s x 25 ho B 3 i0 (.int .i64 0) 1 8 Tryz.underlying25 hi hz0 hz1 hz2 rfl (by decide) v l.length _ hs hown ⟨b, 0, none⟩ 1 1 [.int .i64 n] hx rfl ?_ ?_ ?_ ?_ hB ?_
  · intro j u hj
    match j, hj with
    | 0, hj => simp at hj; subst hj; simpa [Addr.add] using hc
  · intro u hu; simp at hu; subst hu; rfl
  · unfold maxLen; omega
  · omega
  · intro v' w' h1 h2 _
    refine h v' w' ?_ ?_ h2
    · unfold OwnInts; simpa using h1
    · refine Below.grown (Below.refl _ _) h2 hB fun k hk => ?_
      obtain ⟨_, h3⟩ := hown
      rcases h3 with ⟨hv, _⟩ | ⟨g, cap, cur, hv, hg, _⟩
      · subst hv; simp [Value.ownBlock] at hk
      · subst hv; simp [Value.ownBlock] at hk; omega

/-- The same where the new element's block has just been laid. -/
theorem app_int1 {ops : Array Oper} {rest : List Oper} {o : Oper} {a : Act} {Q : Exit → Act → World → Prop} {w : World} (hgd : o.guard = none) (s x : Operand)
    (ho : o.op = .call { callee := .builtin .append, args := #[s, x], argTypes := #[25, 25] })
    (B : Nat) (v : Value) (l : List Int) (hs : a.eval s = v) (hown : OwnInts w B v l) (n : Int) (hx : a.eval x = .slice (some ⟨w.heap.size, 0, none⟩) 1 1)
    (hlen : l.length ≤ 1000000) (hB : B ≤ w.heap.size)
    (h : ∀ v' w', OwnInts w' B v' (l ++ [n]) → Below B w w' → (w.alloc (.cells #[.int .i64 n] 3)).grownBy w' v.ownBlock → wpList Tryz.prog ops Q rest (a.put o.dst v') w') :
    wpList Tryz.prog ops Q (o :: rest) a (w.alloc (.cells #[.int .i64 n] 3)) :=
  app_int hgd s x ho B v l hs (hown.alloc _) n w.heap.size hx (by simp) hlen (by simp; omega) fun v' w' h1 h2 h3 => h v' w' h1 ((Below.alloc (Below.refl _ _) hB _).trans h2) h3
end Go.Proofs.YtmkjeonjhedgkaaGreatDoor
