/- Frames with deferred calls, of which the slots in use are told; a region that draws its order in them: what is told of a slot may change as further operations are done. -/
import Derived.Test.YtmkjeonjhedgkaaGreatDoorBigD
import Derived.Defers
namespace Go.Proofs.YtmkjeonjhedgkaaGreatDoor
set_option linter.unusedSimpArgs false
set_option linter.unusedVariables false
open Go.RowKit

/-- As Sl, but these calls are deferred. -/
structure SlD (a : Act) (n : Nat) (dq : List Deferred) (m : List (Nat × Value)) : Prop where
  sl : Sl ⟨a.tmps, []⟩ n m
  defers : a.defers = dq
section
variable {a : Act} {n : Nat} {dq : List Deferred} {m : List (Nat × Value)}
theorem SlD.get (h : SlD a n dq m) (t : Nat) (v : Value) (hv : m.lookup t = some v) : a.tmps[t]? = some v := h.sl.get t v hv
theorem SlD.ev (h : SlD a n dq m) (t : Nat) {v : Value} (hm : m.lookup t = some v) : a.eval (.tmp t) = v := by
  have := h.get _ _ hm
  simp [Act.eval, Array.getD_eq_getD_getElem?, this]
theorem SlD.put (h : SlD a n dq m) (d : Nat) (v : Value) (hd : d < n) : SlD (a.put (some d) v) n dq ((d, v) :: m) := ⟨h.sl.put d v hd, h.defers⟩
theorem SlD.step (h : SlD a n dq m) {d : Nat} {v : Value} (hd : d < n) {G : Act → Prop} (hG : ∀ a', SlD a' n dq ((d, v) :: m) → G a') : G (a.put (some d) v) := hG _ (h.put d v hd)
theorem SlD.go {P : Program} {ops : Array Oper} {Q : Exit → Act → World → Prop} {rest : List Nat} {w : World} {d : Nat} {v : Value} (h : SlD a n dq m) (hd : d < n) (hG : ∀ a', SlD a' n dq ((d, v) :: m) → wpOps P ops Q rest a' w) : wpOps P ops Q rest (a.put (some d) v) w := hG _ (h.put d v hd)
theorem SlD.nil (h : SlD a n dq m) : SlD a n dq [] := ⟨h.sl.nil, h.defers⟩
theorem SlD.cons (h : SlD a n dq m) {t : Nat} {v : Value} (e : a.tmps[t]? = some v) : SlD a n dq ((t, v) :: m) := ⟨h.sl.cons e, h.defers⟩
theorem Sl.later (h : Sl a n m) (d : Deferred) : SlD { a with defers := d :: a.defers } n [d] m := ⟨⟨h.size, rfl, h.get⟩, by show d :: a.defers = [d]; rw [h.defers]⟩
end
/-- What is told of the slots that are written, so far. -/
def SlotsOkL (ops : Array Oper) (V : (Nat → Bool) → Nat → Value → World → Prop) (L : Nat → Bool) (a : Act) (w : World) : Prop := ∀ j o d, ops[j]? = some o → o.dst = some d → L j = true → ∃ v, a.tmps[d]? = some v ∧ V L j v w
theorem wp_region_sld {P : Program} {id : Nat} {Q : Exit → Act → World → Prop} {a : Act} {w : World} {ops : Array Oper} {n : Nat} {dq : List Deferred} {m : List (Nat × Value)} (hm : P.follows .mixedOrders = true) (hsl : SlD a n dq m) (ds : List (Option Nat)) (hds : ops.toList.map Oper.dst = ds) (hok : okD n (m.map Prod.fst) ds = true) (hdag : dag ops = true)
    (V : (Nat → Bool) → Nat → Value → World → Prop) (I : (Nat → Bool) → World → Prop) (hI : I (fun _ => false) w.drew)
    (hk : ∀ (k : Nat) (o : Oper), k < ops.size → ops[k]? = some o → ∀ L a w, I L w → L k = false → SlD a n dq m → SlotsOkL ops V L a w → (∀ d ∈ waits o, L d = true) → wpOp P ops Q k (fun a' w' => ∃ v, a' = a.put o.dst v ∧ V (updF L k true) k v w' ∧ I (updF L k true) w' ∧ ∀ j u, L j = true → V L j u w → V (updF L k true) j u w') a w)
    (he : ∀ L a w, (∀ k, k < ops.size → L k = true) → I L w → SlD a n dq m → SlotsOkL ops V L a w → Q .normal a w) : (Code.region id ops true).wp P Q a w := by
  have hd : ∀ (j : Nat) (o : Oper), ops[j]? = some o → ds[j]? = some o.dst := fun j o h => by
    subst hds
    rw [List.getElem?_map, Array.getElem?_toList, h]; rfl
  refine wp_region_inv hm (fun L a' w' => I L w' ∧ SlD a' n dq m ∧ SlotsOkL ops V L a' w') ⟨hI, hsl, fun j o d _ _ h => by simp at h⟩ ?_ ?_
  · rintro L a' w' i o ho ⟨h1, h2, h3⟩ hli hri
    have hi := (Array.getElem?_eq_some_iff.1 ho).1
    refine wpOp_mono ?_ (hk i o hi ho L a' w' h1 hli h2 h3 (ready_waits hri))
    rintro a2 w2 ⟨v, rfl, hv, hI2, hmono⟩
    refine ⟨hI2, ?_, ?_⟩
    · cases e : o.dst with
      | none => exact h2
      | some d =>
        have hdd := hd i o ho
        rw [e] at hdd
        obtain ⟨hlt, hnm⟩ := okD_at hok hdd
        have hp := h2.put d v hlt
        refine ⟨⟨hp.sl.size, rfl, fun t u hu => hp.get t u ?_⟩, hp.defers⟩
        rw [List.lookup_cons]
        have e2 : (t == d) = false := by
          have : t ≠ d := by rintro rfl; exact hnm (lookup_fst hu)
          simpa using this
        rw [e2]; exact hu
    · intro j o' d hj hjd hLj
      have hdj := hd j o' hj
      rw [hjd] at hdj
      cases e : o.dst with
      | none =>
        have hne : j ≠ i := by
          rintro rfl
          rw [ho] at hj
          obtain rfl := Option.some.inj hj
          rw [e] at hjd; simp at hjd
        rw [updF_ne _ _ hne] at hLj
        obtain ⟨u, hu, hvu⟩ := h3 j o' d hj hjd hLj
        exact ⟨u, hu, hmono _ _ hLj hvu⟩
      | some x =>
        have hdi := hd i o ho
        rw [e] at hdi
        by_cases c : j = i
        · subst c
          rw [hdj] at hdi
          obtain rfl : d = x := by simpa using hdi
          obtain ⟨hlt, _⟩ := okD_at hok hdj
          exact ⟨v, by simp [Act.put, h2.sl.size, show a'.tmps.size = n from h2.sl.size, hlt], hv⟩
        · rw [updF_ne _ _ c] at hLj
          obtain ⟨u, hu, hvu⟩ := h3 j o' d hj hjd hLj
          have hxd : x ≠ d := by
            rintro rfl
            exact c (okD_ne hok hdj hdi)
          refine ⟨u, ?_, hmono _ _ hLj hvu⟩
          simp only [Act.put]
          rw [Array.getElem?_setIfInBounds_ne hxd]; exact hu
  · rintro L a' w' hall ⟨h1, h2, h3⟩
    exact he L a' w' (dag_all hdag hall) h1 h2 h3
theorem wp_region_inv2 {P : Program} {id : Nat} {Q : Exit → Act → World → Prop} {a : Act} {w : World} {ops : Array Oper} {n : Nat} {dq : List Deferred} {m : List (Nat × Value)} (hm : P.follows .mixedOrders = true) (hsl : SlD a n dq m) (ds : List (Option Nat)) (hds : ops.toList.map Oper.dst = ds) (hok : okD n (m.map Prod.fst) ds = true) (hdag : dag ops = true)
    (V : (Nat → Bool) → Nat → Value → World → Prop) (I : (Nat → Bool) → World → Prop) (hI : I (fun _ => false) w.drew)
    (hk : ∀ (k : Nat) (o : Oper), k < ops.size → ops[k]? = some o → ∀ L a w, I L w → L k = false → (∀ (j : Nat) (oj : Oper), ops[j]? = some oj → L j = true → ∀ d ∈ waits oj, L d = true) → SlD a n dq m → SlotsOkL ops V L a w → (∀ d ∈ waits o, L d = true) → wpOp P ops Q k (fun a' w' => ∃ v, a' = a.put o.dst v ∧ V (updF L k true) k v w' ∧ I (updF L k true) w' ∧ ∀ j u, L j = true → V L j u w → V (updF L k true) j u w') a w)
    (he : ∀ L a w, (∀ k, k < ops.size → L k = true) → I L w → SlD a n dq m → SlotsOkL ops V L a w → Q .normal a w) : (Code.region id ops true).wp P Q a w := by
  have hd : ∀ (j : Nat) (o : Oper), ops[j]? = some o → ds[j]? = some o.dst := fun j o h => by
    subst hds
    rw [List.getElem?_map, Array.getElem?_toList, h]; rfl
  refine wp_region_inv hm (fun L a' w' => (I L w' ∧ SlD a' n dq m ∧ SlotsOkL ops V L a' w') ∧ ∀ (j : Nat) (oj : Oper), ops[j]? = some oj → L j = true → ∀ d ∈ waits oj, L d = true) ⟨⟨hI, hsl, fun j o d _ _ h => by simp at h⟩, fun j oj _ h => by simp at h⟩ ?_ ?_
  · rintro L a' w' i o ho ⟨⟨h1, h2, h3⟩, hcl⟩ hli hri
    have hi := (Array.getElem?_eq_some_iff.1 ho).1
    refine wpOp_mono ?_ (hk i o hi ho L a' w' h1 hli hcl h2 h3 (ready_waits hri))
    rintro a2 w2 ⟨v, rfl, hv, hI2, hmono⟩
    refine ⟨⟨hI2, ?_, ?_⟩, fun j oj hj hLj d hd2 => ?_⟩
    rotate_left 2
    · have hup : ∀ d, L d = true → updF L i true d = true := fun d h => by
        unfold updF; split
        · rfl
        · exact h
      by_cases c : j = i
      · subst c
        obtain rfl := Option.some.inj (ho.symm.trans hj)
        exact hup d (ready_waits hri d hd2)
      · rw [updF_ne _ _ c] at hLj
        exact hup d (hcl j oj hj hLj d hd2)
    · cases e : o.dst with
      | none => exact h2
      | some d =>
        have hdd := hd i o ho
        rw [e] at hdd
        obtain ⟨hlt, hnm⟩ := okD_at hok hdd
        have hp := h2.put d v hlt
        refine ⟨⟨hp.sl.size, rfl, fun t u hu => hp.get t u ?_⟩, hp.defers⟩
        rw [List.lookup_cons]
        have e2 : (t == d) = false := by
          have : t ≠ d := by rintro rfl; exact hnm (lookup_fst hu)
          simpa using this
        rw [e2]; exact hu
    · intro j o' d hj hjd hLj
      have hdj := hd j o' hj
      rw [hjd] at hdj
      cases e : o.dst with
      | none =>
        have hne : j ≠ i := by
          rintro rfl
          rw [ho] at hj
          obtain rfl := Option.some.inj hj
          rw [e] at hjd; simp at hjd
        rw [updF_ne _ _ hne] at hLj
        obtain ⟨u, hu, hvu⟩ := h3 j o' d hj hjd hLj
        exact ⟨u, hu, hmono _ _ hLj hvu⟩
      | some x =>
        have hdi := hd i o ho
        rw [e] at hdi
        by_cases c : j = i
        · subst c
          rw [hdj] at hdi
          obtain rfl : d = x := by simpa using hdi
          obtain ⟨hlt, _⟩ := okD_at hok hdj
          exact ⟨v, by simp [Act.put, h2.sl.size, show a'.tmps.size = n from h2.sl.size, hlt], hv⟩
        · rw [updF_ne _ _ c] at hLj
          obtain ⟨u, hu, hvu⟩ := h3 j o' d hj hjd hLj
          have hxd : x ≠ d := by
            rintro rfl
            exact c (okD_ne hok hdj hdi)
          refine ⟨u, ?_, hmono _ _ hLj hvu⟩
          simp only [Act.put]
          rw [Array.getElem?_setIfInBounds_ne hxd]; exact hu
  · rintro L a' w' hall ⟨⟨h1, h2, h3⟩, _⟩
    exact he L a' w' (dag_all hdag hall) h1 h2 h3
end Go.Proofs.YtmkjeonjhedgkaaGreatDoor
