/- A region that draws its order, by an invariant over the set of operations that are done: no order is gone through. -/
import Derived.Test.YtmkjeonjhedgkaaGreatDoorSpec
namespace Go.Proofs.YtmkjeonjhedgkaaGreatDoor
set_option linter.unusedSimpArgs false
set_option linter.unusedVariables false
open Go.RowKit

def updF {α : Type} (L : Nat → α) (i : Nat) (v : α) : Nat → α := fun k => if k = i then v else L k
theorem updF_same {α : Type} (L : Nat → α) (i : Nat) (v : α) : updF L i v i = v := by simp [updF]
theorem updF_ne {α : Type} (L : Nat → α) {i k : Nat} (v : α) (h : k ≠ i) : updF L i v k = L k := by simp [updF, h]
def doneF (listed : Array Bool) : Nat → Bool := fun k => listed.getD k false
/-- What must be done ahead of an operation is done. -/
def readyF (o : Oper) (L : Nat → Bool) : Bool := o.after.all fun e => !Region.binds .any e || L e.on
theorem doneF_set {listed : Array Bool} {i : Nat} (hi : i < listed.size) : doneF (listed.setIfInBounds i true) = updF (doneF listed) i true := by
  funext k
  unfold doneF updF
  by_cases e : k = i
  · subst e; simp [Array.getD_eq_getD_getElem?, hi]
  · rw [if_neg e]
    simp only [Array.getD_eq_getD_getElem?]
    rw [Array.getElem?_setIfInBounds_ne (by omega)]
theorem mem_ready {ops : Array Oper} {listed : Array Bool} (hsz : listed.size = ops.size) {i : Nat} (h : i ∈ Region.ready .any ops listed) : ∃ o, ops[i]? = some o ∧ i < ops.size ∧ doneF listed i = false ∧ readyF o (doneF listed) = true := by
  unfold Region.ready at h
  rw [List.mem_filter, List.mem_range, Bool.and_eq_true] at h
  obtain ⟨h1, h2, h3⟩ := h
  have ho : ops[i]? = some ops[i] := Array.getElem?_eq_getElem h1
  refine ⟨ops[i], ho, h1, ?_, ?_⟩
  · have e : listed.getD i true = listed.getD i false := by simp [Array.getD_eq_getD_getElem?, hsz, h1]
    rw [e] at h2
    simpa [doneF] using h2
  · rw [ho] at h3
    simpa [readyF, doneF] using h3
def leftN (n : Nat) (listed : Array Bool) : Nat := ((List.range n).filter fun i => !listed.getD i true).length
theorem filter_set_lt {listed : Array Bool} {i : Nat} (hi : i < listed.size) (hl : listed.getD i true = false) : ∀ n, ((List.range n).filter fun j => !(listed.setIfInBounds i true).getD j true).length + (if i < n then 1 else 0) = ((List.range n).filter fun j => !listed.getD j true).length
  | 0 => by simp
  | n + 1 => by
    have ih := filter_set_lt hi hl n
    rw [List.range_succ, List.filter_append, List.filter_append, List.length_append, List.length_append]
    by_cases e : i = n
    · subst e
      rw [if_neg (by omega)] at ih
      rw [if_pos (by omega)]
      have h1 : (listed.setIfInBounds i true).getD i true = true := by simp [Array.getD_eq_getD_getElem?, hi]
      simp only [List.filter_cons, List.filter_nil, h1, hl]
      simp at ih ⊢; omega
    · have h1 : (listed.setIfInBounds i true).getD n true = listed.getD n true := by
        simp only [Array.getD_eq_getD_getElem?]
        rw [Array.getElem?_setIfInBounds_ne (by omega)]
      have h2 : ([n].filter fun j => !(listed.setIfInBounds i true).getD j true) = [n].filter fun j => !listed.getD j true := by simp only [List.filter_cons, List.filter_nil, h1]
      rw [h2]
      by_cases c : i < n
      · rw [if_pos c] at ih; rw [if_pos (by omega)]; omega
      · rw [if_neg c] at ih; rw [if_neg (by omega)]; omega
theorem leftN_set {ops : Array Oper} {listed : Array Bool} (hsz : listed.size = ops.size) {i : Nat} (hi : i ∈ Region.ready .any ops listed) : leftN ops.size (listed.setIfInBounds i true) + 1 = leftN ops.size listed := by
  unfold Region.ready at hi
  rw [List.mem_filter, List.mem_range, Bool.and_eq_true] at hi
  obtain ⟨h1, h2, _⟩ := hi
  have := filter_set_lt (listed := listed) (i := i) (by omega) (by simpa using h2) ops.size
  rw [if_pos h1] at this
  exact this
theorem ready_left {ops : Array Oper} {listed : Array Bool} (h : leftN ops.size listed = 0) : Region.ready .any ops listed = [] := by
  unfold leftN at h
  have h0 := List.length_eq_zero_iff.1 h
  unfold Region.ready
  rw [List.filter_eq_nil_iff] at h0 ⊢
  intro i hi hc
  rw [Bool.and_eq_true] at hc
  exact h0 i hi hc.1
theorem leftN_start (n : Nat) : leftN n (Array.replicate n false) = n := by
  unfold leftN
  rw [List.filter_eq_self.2]
  · simp
  · intro i hi
    rw [List.mem_range] at hi
    simp [Array.getD_eq_getD_getElem?, hi]
theorem wpAny_inv {P : Program} {ops : Array Oper} {Q : Exit → Act → World → Prop} (Inv : (Nat → Bool) → Act → World → Prop)
    (hs : ∀ L a w i o, ops[i]? = some o → Inv L a w → L i = false → readyF o L = true → wpOp P ops Q i (fun a' w' => Inv (updF L i true) a' w') a w)
    (he : ∀ listed a w, listed.size = ops.size → Inv (doneF listed) a w → Region.ready .any ops listed = [] → Q .normal a w) : ∀ (n : Nat) (listed : Array Bool) (a : Act) (w : World), listed.size = ops.size → leftN ops.size listed ≤ n → Inv (doneF listed) a w → wpAny P .any ops Q n listed a w
  | 0, listed, a, w, hsz, hn, hI => by
    have h0 := ready_left (ops := ops) (listed := listed) (by omega)
    exact ⟨h0, he listed a w hsz hI h0⟩
  | n + 1, listed, a, w, hsz, hn, hI => by
    refine ⟨fun h0 => he listed a w hsz hI h0, fun i hi => ?_⟩
    obtain ⟨o, ho, hlt, h1, h2⟩ := mem_ready hsz hi
    refine wpOp_mono ?_ (hs _ a w i o ho hI h1 h2)
    intro a' w' hI'
    have hle := leftN_set hsz hi
    exact wpAny_inv Inv hs he n _ a' w' (by simpa using hsz) (by omega) (by rw [doneF_set (by omega)]; exact hI')
theorem wp_region_inv {P : Program} {id : Nat} {Q : Exit → Act → World → Prop} {a : Act} {w : World} {ops : Array Oper} (hm : P.follows .mixedOrders = true) (Inv : (Nat → Bool) → Act → World → Prop)
    (h0 : Inv (fun _ => false) a w.drew)
    (hs : ∀ L a w i o, ops[i]? = some o → Inv L a w → L i = false → readyF o L = true → wpOp P ops Q i (fun a' w' => Inv (updF L i true) a' w') a w)
    (he : ∀ L a w, (∀ i o, ops[i]? = some o → readyF o L = true → L i = true) → Inv L a w → Q .normal a w) : (Code.region id ops true).wp P Q a w := by
  refine wp_region_any hm (wpAny_inv Inv hs ?_ ops.size _ a _ (by simp) (by rw [leftN_start]; exact Nat.le_refl _) ?_)
  · intro listed a w hsz hI hr
    refine he _ a w (fun i o ho hre => ?_) hI
    have hlt := (Array.getElem?_eq_some_iff.1 ho).1
    cases hl : doneF listed i
    · exfalso
      have hm : i ∈ Region.ready .any ops listed := by
        unfold Region.ready
        rw [List.mem_filter, List.mem_range, Bool.and_eq_true]
        refine ⟨hlt, ?_, ?_⟩
        · have e : listed.getD i true = listed.getD i false := by simp [Array.getD_eq_getD_getElem?, hsz, hlt]
          rw [e]; unfold doneF at hl; rw [hl]; rfl
        · rw [ho]; simpa [readyF, doneF] using hre
      rw [hr] at hm; simp at hm
    · rfl
  · have e : doneF (Array.replicate ops.size false) = fun _ => false := by
      funext k
      unfold doneF
      by_cases h : k < ops.size <;> simp [Array.getD_eq_getD_getElem?, h]
    rw [e]; exact h0
/-- One operation that is wanted. -/
theorem wpOp_want {P : Program} {ops : Array Oper} {Q : Exit → Act → World → Prop} {i : Nat} {o : Oper} {K : Act → World → Prop} {a : Act} {w : World} (ho : ops[i]? = some o) (hg : o.guard = none) (h : o.wp P a w K Q) : wpOp P ops Q i K a w := by
  unfold wpOp
  rw [ho]
  simp only [Region.wanted, hg, if_true]
  exact .inl h
end Go.Proofs.YtmkjeonjhedgkaaGreatDoor
