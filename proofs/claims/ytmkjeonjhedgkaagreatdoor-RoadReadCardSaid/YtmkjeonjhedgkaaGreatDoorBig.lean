/- Walking in a great frame: the frame stays a variable, of which the slots in use are told. -/
import Derived.Test.YtmkjeonjhedgkaaGreatDoorSpec
namespace Go.Proofs.YtmkjeonjhedgkaaGreatDoor
set_option linter.unusedSimpArgs false
set_option linter.unusedVariables false
open Go.RowKit

/-- The frame has n slots, no deferred calls, and these slots hold these values (the first of a slot counts). -/
structure Sl (a : Act) (n : Nat) (m : List (Nat × Value)) : Prop where
  size : a.tmps.size = n
  defers : a.defers = []
  get : ∀ t v, m.lookup t = some v → a.tmps[t]? = some v
theorem Sl.ev {a : Act} {n : Nat} {m : List (Nat × Value)} (h : Sl a n m) (t : Nat) {v : Value} (hm : m.lookup t = some v) : a.eval (.tmp t) = v := by
  have := h.get _ _ hm
  simp [Act.eval, Array.getD_eq_getD_getElem?, this]
theorem Sl.put {a : Act} {n : Nat} {m : List (Nat × Value)} (h : Sl a n m) (d : Nat) (v : Value) (hd : d < n) : Sl (a.put (some d) v) n ((d, v) :: m) := by
  refine ⟨by simp [Act.put, h.size], h.defers, fun t x hx => ?_⟩
  simp only [Act.put]
  rw [List.lookup_cons] at hx
  by_cases e : t = d
  · subst e
    simp at hx
    simp [h.size, hd, hx]
  · rw [Array.getElem?_setIfInBounds_ne (Ne.symm e)]
    have e2 : (t == d) = false := by simpa using e
    rw [e2] at hx
    exact h.get t x hx
theorem Sl.step {a : Act} {n : Nat} {m : List (Nat × Value)} (h : Sl a n m) {d : Nat} {v : Value} (hd : d < n) {G : Act → Prop} (hG : ∀ a', Sl a' n ((d, v) :: m) → G a') : G (a.put (some d) v) := hG _ (h.put d v hd)
theorem Sl.app {a : Act} {n : Nat} {s m : List (Nat × Value)} (h : Sl a n s) (h2 : Sl a n m) : Sl a n (s ++ m) := by
  refine ⟨h.size, h.defers, fun t v hv => ?_⟩
  rw [List.lookup_append] at hv
  cases e : s.lookup t with
  | none => rw [e] at hv; exact h2.get t v (by simpa using hv)
  | some u => rw [e] at hv; exact h.get t v (by simpa [e] using hv)
theorem Sl.nil {a : Act} {n : Nat} {m : List (Nat × Value)} (h : Sl a n m) : Sl a n [] := ⟨h.size, h.defers, fun t v hv => by simp at hv⟩
theorem Sl.cons {a : Act} {n : Nat} {m : List (Nat × Value)} (h : Sl a n m) {t : Nat} {v : Value} (e : a.tmps[t]? = some v) : Sl a n ((t, v) :: m) := by
  refine ⟨h.size, h.defers, fun s u hu => ?_⟩
  rw [List.lookup_cons] at hu
  by_cases c : s = t
  · subst c
    simp at hu
    rw [e, hu]
  · have c2 : (s == t) = false := by simpa using c
    rw [c2] at hu
    exact h.get s u hu
theorem Sl.put0 {a : Act} {n : Nat} {m : List (Nat × Value)} (h : Sl a n m) (v : Value) : Sl (a.put none v) n m := h
/-- The region of this number in a piece of code. -/
def regionOf (n : Nat) : Code → Option Code
  | .region id ops d => if id = n then some (.region id ops d) else none
  | .seq a b => match regionOf n a with | some c => some c | none => regionOf n b
  | .cond _ a b => match regionOf n a with | some c => some c | none => regionOf n b
  | .block _ a | .loop a | .scope a => regionOf n a
  | .rangeFunc _ _ a b => match regionOf n a with | some c => some c | none => regionOf n b
  | _ => none
def regionIn (f : Func) (n : Nat) : Code := (f.body.bind (regionOf n)).getD .skip
theorem ops_go {P : Program} {ops : Array Oper} {Q : Exit → Act → World → Prop} {i : Nat} {rest : List Nat} {o : Oper} {a : Act} {w : World} (ho : ops[i]? = some o) (hg : o.guard = none)
    (h : ∀ K : Act → World → Prop, (∀ a w, wpOps P ops Q rest a w → K a w) → o.wp P a w K Q) : wpOps P ops Q (i :: rest) a w := by
  rw [wpOps, ho]
  simp only [Region.wanted, hg, if_true]
  exact .inl (h _ fun _ _ h => h)
theorem ops_done {P : Program} {ops : Array Oper} {Q : Exit → Act → World → Prop} {a : Act} {w : World} (h : Q .normal a w) : wpOps P ops Q [] a w := h
theorem ops_want {P : Program} {ops : Array Oper} {Q : Exit → Act → World → Prop} {i : Nat} {rest : List Nat} {o : Oper} {a : Act} {w : World} {k : Nat} {b : Bool} {ok : Oper} {t : Nat} (ho : ops[i]? = some o) (hg : o.guard = some (k, b)) (hk : ops[k]? = some ok) (ht : ok.dst = some t) (hv : a.tmps[t]? = some (.bool b))
    (h : ∀ K : Act → World → Prop, (∀ a w, wpOps P ops Q rest a w → K a w) → o.wp P a w K Q) : wpOps P ops Q (i :: rest) a w := by
  rw [wpOps, ho]
  simp only [Region.wanted, hg, yielded, hk, Option.bind_some, ht, hv, beq_self_eq_true, if_true]
  exact .inl (h _ fun _ _ h => h)
theorem ops_skip {P : Program} {ops : Array Oper} {Q : Exit → Act → World → Prop} {i : Nat} {rest : List Nat} {o : Oper} {a : Act} {w : World} {k : Nat} {b c : Bool} {ok : Oper} {t : Nat} (ho : ops[i]? = some o) (hg : o.guard = some (k, b)) (hk : ops[k]? = some ok) (ht : ok.dst = some t) (hv : a.tmps[t]? = some (.bool c)) (hc : c ≠ b)
    (h : wpOps P ops Q rest (a.put o.dst undef) w) : wpOps P ops Q (i :: rest) a w := by
  rw [wpOps, ho]
  have hb : (some c == some b) = false := by simpa using hc
  simp only [Region.wanted, hg, yielded, hk, Option.bind_some, ht, hv, hb, Bool.false_eq_true, if_false]
  exact h
end Go.Proofs.YtmkjeonjhedgkaaGreatDoor
