/- A region that draws its order, in a frame of which the slots in use are told: one case an operation; what an operation's value is may lean on the values ahead of it; the world by what holds when some operations are done. -/
import Derived.Test.YtmkjeonjhedgkaaGreatDoorRegLast
import Derived.Test.YtmkjeonjhedgkaaGreatDoorBig
namespace Go.Proofs.YtmkjeonjhedgkaaGreatDoor
set_option linter.unusedSimpArgs false
set_option linter.unusedVariables false
open Go.RowKit

/-- The slots are written once each, lie in the frame and are none of those told. -/
def okD (n : Nat) (ms : List Nat) : List (Option Nat) → Bool
  | [] => true
  | none :: l => okD n ms l
  | some d :: l => decide (d < n) && !ms.contains d && !l.contains (some d) && okD n ms l
theorem okD_at {n : Nat} {ms : List Nat} : ∀ {l : List (Option Nat)} {k d : Nat}, okD n ms l = true → l[k]? = some (some d) → d < n ∧ d ∉ ms
  | none :: l, 0, d, _, h => by simp at h
  | none :: l, k + 1, d, ho, h => okD_at (l := l) (k := k) (by simpa [okD] using ho) (by simpa using h)
  | some x :: l, 0, d, ho, h => by
    have e : x = d := by simpa using h
    subst e
    simp only [okD, Bool.and_eq_true, decide_eq_true_eq] at ho
    refine ⟨ho.1.1.1, fun hm => ?_⟩
    have := ho.1.1.2
    simp [hm] at this
  | some x :: l, k + 1, d, ho, h => okD_at (l := l) (k := k) (by simp only [okD, Bool.and_eq_true] at ho; exact ho.2) (by simpa using h)
theorem okD_ne {n : Nat} {ms : List Nat} : ∀ {l : List (Option Nat)} {j k d : Nat}, okD n ms l = true → l[j]? = some (some d) → l[k]? = some (some d) → j = k
  | [], _, _, _, _, h, _ => by simp at h
  | none :: l, 0, _, d, _, h, _ => by simp at h
  | none :: l, j + 1, 0, d, _, _, h => by simp at h
  | none :: l, j + 1, k + 1, d, ho, h, h2 => by
    have := okD_ne (l := l) (j := j) (k := k) (by simpa [okD] using ho) (by simpa using h) (by simpa using h2)
    omega
  | some x :: l, 0, 0, d, _, _, _ => rfl
  | some x :: l, 0, k + 1, d, ho, h, h2 => by
    have e : x = d := by simpa using h
    subst e
    simp only [okD, Bool.and_eq_true, decide_eq_true_eq] at ho
    have h3 := ho.1.2
    have h4 : some x ∈ l := List.mem_of_getElem? (by simpa using h2)
    simp [h4] at h3
  | some x :: l, j + 1, 0, d, ho, h, h2 => by
    have e : x = d := by simpa using h2
    subst e
    simp only [okD, Bool.and_eq_true, decide_eq_true_eq] at ho
    have h3 := ho.1.2
    have h4 : some x ∈ l := List.mem_of_getElem? (by simpa using h)
    simp [h4] at h3
  | some x :: l, j + 1, k + 1, d, ho, h, h2 => by
    simp only [okD, Bool.and_eq_true] at ho
    have := okD_ne (l := l) (j := j) (k := k) ho.2 (by simpa using h) (by simpa using h2)
    omega
theorem lookup_fst : ∀ {m : List (Nat × Value)} {t : Nat} {u : Value}, m.lookup t = some u → t ∈ m.map Prod.fst
  | [], _, _, h => by simp at h
  | (s, v) :: m, t, u, h => by
    rw [List.lookup_cons] at h
    by_cases e : t = s
    · simp [e]
    · have e2 : (t == s) = false := by simpa using e
      rw [e2] at h
      exact List.mem_cons_of_mem _ (lookup_fst h)
/-- What is told of the slots that are written. -/
def SlotsOk (ops : Array Oper) (V : Nat → Value → World → Prop) (L : Nat → Bool) (a : Act) (w : World) : Prop := ∀ j o d, ops[j]? = some o → o.dst = some d → L j = true → ∃ v, a.tmps[d]? = some v ∧ V j v w
theorem wp_region_sl {P : Program} {id : Nat} {Q : Exit → Act → World → Prop} {a : Act} {w : World} {ops : Array Oper} {n : Nat} {m : List (Nat × Value)} (hm : P.follows .mixedOrders = true) (hsl : Sl a n m) (ds : List (Option Nat)) (hds : ops.toList.map Oper.dst = ds) (hok : okD n (m.map Prod.fst) ds = true) (hdag : dag ops = true)
    (V : Nat → Value → World → Prop) (I : (Nat → Bool) → World → Prop) (hI : I (fun _ => false) w.drew)
    (hk : ∀ (k : Nat) (o : Oper), k < ops.size → ops[k]? = some o → ∀ L a w, I L w → L k = false → Sl a n m → SlotsOk ops V L a w → (∀ d ∈ waits o, L d = true) → wpOp P ops Q k (fun a' w' => ∃ v, a' = a.put o.dst v ∧ V k v w' ∧ I (updF L k true) w' ∧ ∀ j u, V j u w → V j u w') a w)
    (he : ∀ L a w, (∀ k, k < ops.size → L k = true) → I L w → Sl a n m → SlotsOk ops V L a w → Q .normal a w) : (Code.region id ops true).wp P Q a w := by
  have hd : ∀ (j : Nat) (o : Oper), ops[j]? = some o → ds[j]? = some o.dst := fun j o h => by
    subst hds
    rw [List.getElem?_map, Array.getElem?_toList, h]; rfl
  refine wp_region_inv hm (fun L a' w' => I L w' ∧ Sl a' n m ∧ SlotsOk ops V L a' w') ⟨hI, hsl, fun j o d _ _ h => by simp at h⟩ ?_ ?_
  · rintro L a' w' i o ho ⟨h1, h2, h3⟩ hli hri
    have hi := (Array.getElem?_eq_some_iff.1 ho).1
    refine wpOp_mono ?_ (hk i o hi ho L a' w' h1 hli h2 h3 (ready_waits hri))
    rintro a2 w2 ⟨v, rfl, hv, hI2, hmono⟩
    refine ⟨hI2, ?_, ?_⟩
    · cases e : o.dst with
      | none => exact h2
      | some d =>
        have hdd := hd i o ho
        rw [e] at hdd
        obtain ⟨hlt, hnm⟩ := okD_at hok hdd
        have hp := h2.put d v hlt
        refine ⟨hp.size, hp.defers, fun t u hu => hp.get t u ?_⟩
        rw [List.lookup_cons]
        have e2 : (t == d) = false := by
          have : t ≠ d := by rintro rfl; exact hnm (lookup_fst hu)
          simpa using this
        rw [e2]; exact hu
    · intro j o' d hj hjd hLj
      have hdj := hd j o' hj
      rw [hjd] at hdj
      cases e : o.dst with
      | none =>
        have hne : j ≠ i := by
          rintro rfl
          rw [ho] at hj
          obtain rfl := Option.some.inj hj
          rw [e] at hjd; simp at hjd
        rw [updF_ne _ _ hne] at hLj
        obtain ⟨u, hu, hvu⟩ := h3 j o' d hj hjd hLj
        exact ⟨u, hu, hmono _ _ hvu⟩
      | some x =>
        have hdi := hd i o ho
        rw [e] at hdi
        by_cases c : j = i
        · subst c
          rw [hdj] at hdi
          obtain rfl : d = x := by simpa using hdi
          obtain ⟨hlt, _⟩ := okD_at hok hdj
          exact ⟨v, by simp [Act.put, h2.size, hlt], hv⟩
        · rw [updF_ne _ _ c] at hLj
          obtain ⟨u, hu, hvu⟩ := h3 j o' d hj hjd hLj
          have hxd : x ≠ d := by
            rintro rfl
            exact c (okD_ne hok hdj hdi)
          refine ⟨u, ?_, hmono _ _ hvu⟩
          simp only [Act.put]
          rw [Array.getElem?_setIfInBounds_ne hxd]; exact hu
  · rintro L a' w' hall ⟨h1, h2, h3⟩
    exact he L a' w' (dag_all hdag hall) h1 h2 h3
theorem Sl.go {P : Program} {ops : Array Oper} {Q : Exit → Act → World → Prop} {rest : List Nat} {a : Act} {w : World} {n : Nat} {m : List (Nat × Value)} {d : Nat} {v : Value} (h : Sl a n m) (hd : d < n) (hG : ∀ a', Sl a' n ((d, v) :: m) → wpOps P ops Q rest a' w) : wpOps P ops Q rest (a.put (some d) v) w := hG _ (h.put d v hd)
end Go.Proofs.YtmkjeonjhedgkaaGreatDoor
