/- RoadCutOff: strips that are never walked, by the fewest leagues. -/
import Derived.Test.YtjgkgnfhglhklaaCutP
import Derived.Test.YtjgkgnfhglhklaaWalksP
import Derived.Test.YtjgkgnfhglhklaaTogo
import Derived.BigQuiet
import Derived.Still
namespace Go.Proofs.Ytjgkgnfhglhklaa
set_option linter.unusedSimpArgs false
set_option linter.unusedVariables false
open Go.RowKit

/-- Whether strip i is walked from stage s on, by the fewest leagues. -/
def fromB (r : Roads) (f : Flock) (d : Int) (M : Nat → Nat → Int) (s i : Nat) : Bool := openB r f (-1) i d && (match r.strips[i]? with
  | some x => decide (min (M s x.A.toNat) (M s x.B.toNat) + x.L ≤ f.pace)
  | none => false)
/-- .. from one of the stages below s. -/
def fromTo (r : Roads) (f : Flock) (d : Int) (M : Nat → Nat → Int) (n : Nat) (i : Nat) : Nat → Bool
  | 0 => false
  | s + 1 => fromTo r f d M n i s || (n.testBit s && fromB r f d M s i)
theorem fromTo_iff {r : Roads} {f : Flock} {d : Int} {M : Nat → Nat → Int} {n i : Nat} : ∀ {S : Nat}, fromTo r f d M n i S = true ↔ ∃ s, s < S ∧ n.testBit s = true ∧ fromB r f d M s i = true
  | 0 => by simp [fromTo]
  | S + 1 => by
    rw [fromTo, Bool.or_eq_true, fromTo_iff, Bool.and_eq_true]
    constructor
    · rintro (⟨s, h1, h2⟩ | h)
      · exact ⟨s, by omega, h2⟩
      · exact ⟨S, by omega, h⟩
    · rintro ⟨s, h1, h2⟩
      by_cases e : s = S
      · subst e; exact .inr h2
      · exact .inl ⟨s, by omega, h2⟩
theorem from_all {r : Roads} {f : Flock} (g : Good r f) {S : Nat} (hS : r.stages = (S : Int)) {d : Int} {M : Nat → Nat → Int} (hM : Far r f d S M) (n i : Nat) : fromTo r f d M n i S = walkB r f n d i := by
  rw [Bool.eq_iff_iff, fromTo_iff, walkB_iff g]
  have hp := g.p2
  constructor
  · rintro ⟨s, h1, h2, h3⟩
    unfold fromB at h3
    rw [Bool.and_eq_true] at h3
    obtain ⟨h3, h4⟩ := h3
    cases hx : r.strips[i]? with
    | none => rw [hx] at h4; simp at h4
    | some x =>
      rw [hx] at h4
      simp only [decide_eq_true_eq] at h4
      obtain ⟨a1, a2, a3, a4, a5, a6, a7, _⟩ := g.strip x (List.mem_of_getElem? hx)
      by_cases c : M s x.A.toNat ≤ M s x.B.toNat
      · rw [Int.min_eq_left c] at h4
        obtain ⟨l, l1, l2⟩ := (hM.le s x.A.toNat h1 (by omega) (f.pace - x.L) (by omega)).1 (by omega)
        rw [show ((x.A.toNat : Nat) : Int) = x.A by omega] at l2
        refine ⟨(x.A, l), (spot_leads g).2 ⟨s, by omega, h2, l2, by show l ≤ _; omega⟩, ?_⟩
        rw [stepOk_is hx, h3]
        simp [endOf]; omega
      · rw [Int.min_eq_right (by omega)] at h4
        obtain ⟨l, l1, l2⟩ := (hM.le s x.B.toNat h1 (by omega) (f.pace - x.L) (by omega)).1 (by omega)
        rw [show ((x.B.toNat : Nat) : Int) = x.B by omega] at l2
        refine ⟨(x.B, l), (spot_leads g).2 ⟨s, by omega, h2, l2, by show l ≤ _; omega⟩, ?_⟩
        rw [stepOk_is hx, h3]
        have : (endOf x x.B).2 = true := by
          unfold endOf
          by_cases e : x.B = x.A
          · rw [if_pos e]
          · rw [if_neg e, if_pos rfl]
        rw [this]
        simp; omega
  · rintro ⟨p, h1, h2⟩
    obtain ⟨q, hq⟩ := Option.isSome_iff_exists.1 h2
    obtain ⟨x, hx, e1, e2, e3, _⟩ := stepOk_some.1 hq
    obtain ⟨s, s1, s2, s3, s4⟩ := (spot_leads g).1 h1
    have hsS : s < S := by omega
    obtain ⟨a1, a2, a3, a4, a5, a6, a7, _⟩ := g.strip x (List.mem_of_getElem? hx)
    refine ⟨s, hsS, s2, ?_⟩
    unfold fromB
    rw [e3, hx, Bool.true_and, decide_eq_true_eq]
    unfold endOf at e1
    by_cases eA : p.1 = x.A
    · have := (hM.le s x.A.toNat hsS (by omega) (f.pace - x.L) (by omega)).2 ⟨p.2, by omega, by rw [show ((x.A.toNat : Nat) : Int) = p.1 by omega]; exact s3⟩
      omega
    · rw [if_neg eA] at e1
      by_cases eB : p.1 = x.B
      · have := (hM.le s x.B.toNat hsS (by omega) (f.pace - x.L) (by omega)).2 ⟨p.2, by omega, by rw [show ((x.B.toNat : Nat) : Int) = p.1 by omega]; exact s3⟩
        omega
      · rw [if_neg eB] at e1; simp at e1
theorem hit_set {A B : Nat → Bool} {j : Nat} {v : Bool} (h : v = (A j || B j)) (i : Nat) : (if i = j then v else (A i || (decide (i < j) && B i))) = (A i || (decide (i < j + 1) && B i)) := by
  by_cases e : i = j
  · subst e; rw [if_pos rfl, h]; simp
  · rw [if_neg e]
    by_cases c : i < j
    · simp [c, show i < j + 1 by omega]
    · simp [c, show ¬ i < j + 1 by omega]
theorem Ext.setCell {m : Nat} (w : World) (o : Nat) (v : Value) : Ext m w (w.setCell ⟨m, o, none⟩ v) := ⟨rfl, rfl, rfl, by simp, fun k _ hne => Below.heap_setCell _ ⟨m, o, none⟩ _ k hne⟩
/-- Operations that only read may be walked by the quiet walk's steps (cheap in a big frame), ahead of a tail that writes. -/
theorem still_of_quiet {P : Program} {ops : Array Oper} {W : World} {Q : Act → Prop} : ∀ (l : List Oper) (a : Act), wpQuiet P ops (fun w' => w' = W) Q l a → wpStill P ops W Q l a
  | [], _, h => h
  | o :: rest, a, h => by
    rw [wpQuiet] at h
    rw [wpStill]
    by_cases hw : Region.wanted o (yielded ops a.tmps) = true
    · rw [if_pos hw] at h ⊢
      obtain ⟨v, h1, h2⟩ := h
      have h3 := h1 W rfl
      have h4 := still_of_quiet rest _ h2
      unfold Oper.quietAt at h3
      unfold Oper.still
      generalize (execOp a.eval o).run P W = res at h3
      cases res with
      | ok nx w' =>
        cases nx with
        | value u =>
          obtain ⟨e1, e2⟩ := h3
          subst e2
          exact ⟨e1, h4⟩
        | skip =>
          obtain ⟨e1, e2⟩ := h3
          subst e2
          exact ⟨e1, h4⟩
        | enter f args =>
          obtain ⟨e1, e2⟩ := h3
          exact ⟨e1, v, e2, h4⟩
        | _ => exact h3.elim
      | _ => exact h3.elim
    · rw [if_neg hw] at h ⊢
      exact still_of_quiet rest _ h
end Go.Proofs.Ytjgkgnfhglhklaa
