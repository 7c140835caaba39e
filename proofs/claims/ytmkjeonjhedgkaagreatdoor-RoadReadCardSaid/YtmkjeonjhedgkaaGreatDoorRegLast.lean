/- A region that draws its order, whose last operation waits for all others, and whose others only read, each to a known value: one case an operation, no order is gone through. -/
import Derived.Test.YtmkjeonjhedgkaaGreatDoorRegInv
namespace Go.Proofs.YtmkjeonjhedgkaaGreatDoor
set_option linter.unusedSimpArgs false
set_option linter.unusedVariables false
open Go.RowKit

def putV : List (Nat × Nat) → (Nat → Value) → Act → Act
  | [], _, a => a
  | (s, k) :: l, vs, a => putV l vs (a.put (some s) (vs k))
theorem putV_one (a : Act) (s : Nat) : a.put (some s) (a.tmps.getD s undef) = a := by
  obtain ⟨t, d⟩ := a
  simp only [Act.put, Act.mk.injEq, and_true]
  apply Array.ext_getElem?
  intro j
  by_cases e : j = s
  · subst e
    by_cases h : j < t.size
    · simp [h, Array.getD_eq_getD_getElem?]
    · simp [h]
  · rw [Array.getElem?_setIfInBounds_ne (by omega)]
theorem putV_self (a : Act) : ∀ (l : List (Nat × Nat)) (vs : Nat → Value), (∀ x ∈ l, vs x.2 = a.tmps.getD x.1 undef) → putV l vs a = a
  | [], _, _ => rfl
  | (s, k) :: l, vs, h => by
    have h1 := h (s, k) (by simp)
    dsimp only at h1
    rw [putV, h1, putV_one]
    exact putV_self a l vs fun x hx => h x (by simp [hx])
theorem wpOp_go {P : Program} {ops : Array Oper} {Q : Exit → Act → World → Prop} {i : Nat} {o : Oper} {K : Act → World → Prop} {a : Act} {w : World} (ho : ops[i]? = some o) (hg : o.guard = none) (h : ∀ K' : Act → World → Prop, (∀ a w, K a w → K' a w) → o.wp P a w K' Q) : wpOp P ops Q i K a w :=
  wpOp_want ho hg (h K fun _ _ h => h)

/-- What operation o waits for. -/
def waits (o : Oper) : List Nat := (o.after.toList.filter (Region.binds .any)).map (·.on)
theorem ready_waits {o : Oper} {L : Nat → Bool} (h : readyF o L = true) : ∀ d ∈ waits o, L d = true := by
  intro d hd
  unfold waits at hd
  rw [List.mem_map] at hd
  obtain ⟨e, he, rfl⟩ := hd
  rw [List.mem_filter] at he
  unfold readyF at h
  rw [Array.all_eq_true'] at h
  have := h e (Array.mem_toList_iff.1 he.1)
  rw [he.2] at this
  simpa using this
def anc (ops : Array Oper) : Nat → (Nat → Bool) → Nat → Bool
  | 0, S => S
  | t + 1, S => anc ops t fun k => S k || (List.range ops.size).any fun j => S j && (match ops[j]? with | some o => (waits o).contains k | none => false)
theorem anc_done {ops : Array Oper} {L : Nat → Bool} (hc : ∀ k o, ops[k]? = some o → L k = true → readyF o L = true) : ∀ (t : Nat) (S : Nat → Bool), (∀ k, S k = true → L k = true) → ∀ k, anc ops t S k = true → L k = true
  | 0, _, h => h
  | t + 1, S, h => by
    refine anc_done hc t _ fun k hk => ?_
    rw [Bool.or_eq_true] at hk
    rcases hk with hk | hk
    · exact h k hk
    · rw [List.any_eq_true] at hk
      obtain ⟨j, _, hj⟩ := hk
      rw [Bool.and_eq_true] at hj
      obtain ⟨h1, h2⟩ := hj
      cases ho : ops[j]? with
      | none => rw [ho] at h2; simp at h2
      | some o =>
        rw [ho] at h2
        exact ready_waits (hc j o ho (h j h1)) k (by simpa using h2)
def allAnc (ops : Array Oper) (m : Nat) : Bool := (List.range ops.size).all (anc ops ops.size (· == m))
def dag (ops : Array Oper) : Bool := (List.range ops.size).all fun k => match ops[k]? with | some o => (waits o).all (· < k) | none => true
theorem ready_of_waits {o : Oper} {L : Nat → Bool} (h : ∀ d ∈ waits o, L d = true) : readyF o L = true := by
  unfold readyF
  rw [Array.all_eq_true']
  intro e he
  cases hb : Region.binds .any e
  · rfl
  · have := h e.on (by
      unfold waits
      rw [List.mem_map]
      exact ⟨e, List.mem_filter.2 ⟨Array.mem_toList_iff.2 he, hb⟩, rfl⟩)
    simpa using this
theorem dag_all {ops : Array Oper} {L : Nat → Bool} (hd : dag ops = true) (h : ∀ i o, ops[i]? = some o → readyF o L = true → L i = true) (k : Nat) (hk : k < ops.size) : L k = true := by
  induction k using Nat.strongRecOn with
  | ind k ih =>
    have ho : ops[k]? = some ops[k] := Array.getElem?_eq_getElem hk
    refine h k _ ho (ready_of_waits fun d hdw => ?_)
    have h1 := (List.all_eq_true.1 hd) k (by rw [List.mem_range]; exact hk)
    rw [ho] at h1
    have h2 := (List.all_eq_true.1 h1) d hdw
    have h3 : d < k := by simpa using h2
    exact ih d h3 (by omega)
theorem readyF_mono {o : Oper} {L L' : Nat → Bool} (h : ∀ k, L k = true → L' k = true) (hr : readyF o L = true) : readyF o L' = true := by
  unfold readyF at *
  rw [Array.all_eq_true'] at hr ⊢
  intro e he
  have := hr e he
  rw [Bool.or_eq_true] at this ⊢
  exact this.imp id (h _)

theorem wp_region_last {P : Program} {id : Nat} {Q : Exit → Act → World → Prop} {a : Act} {w : World} {ops : Array Oper} (m : Nat) (hm : P.follows .mixedOrders = true) (hsz : ops.size = m + 1) (hanc : allAnc ops m = true) (hdag : dag ops = true) (slots : List (Nat × Nat)) (V V0 : Nat → Value) (C : World → Prop) (hC : C w.drew)
    (h0 : ∀ x ∈ slots, V0 x.2 = a.tmps.getD x.1 undef)
    (hk : ∀ k o, k < m → ops[k]? = some o → ∀ (vs : Nat → Value) (W : World), C W → (∀ d ∈ waits o, vs d = V d) → wpOp P ops Q k (fun a' w' => a' = putV slots (updF vs k (V k)) a ∧ C w') (putV slots vs a) W)
    (hl : ∀ (vs : Nat → Value) (W : World), C W → (∀ k, k < m → vs k = V k) → wpOp P ops Q m (fun a' w' => Q .normal a' w') (putV slots vs a) W) : (Code.region id ops true).wp P Q a w := by
  refine wp_region_inv hm (fun L a' w' => (∀ k, L k = true → k < ops.size) ∧ (∀ k o, ops[k]? = some o → L k = true → readyF o L = true) ∧ (L m = true → Q .normal a' w') ∧ (L m = false → ∃ vs : Nat → Value, a' = putV slots vs a ∧ C w' ∧ ∀ k, k < m → L k = true → vs k = V k)) ?_ ?_ ?_
  · exact ⟨fun _ h => by simp at h, fun _ _ _ h => by simp at h, fun h => by simp at h, fun _ => ⟨V0, (putV_self a slots V0 h0).symm, hC, fun _ _ h => by simp at h⟩⟩
  · intro L a' w' i o ho hI hli hri
    obtain ⟨hb, hc, h1, h2⟩ := hI
    have hbn : ∀ k, updF L i true k = true → k < ops.size := fun k hk => by
      by_cases e : k = i
      · rw [e]; exact (Array.getElem?_eq_some_iff.1 ho).1
      · rw [updF_ne _ _ e] at hk; exact hb k hk
    have hi : i < m + 1 := by have := (Array.getElem?_eq_some_iff.1 ho).1; omega
    have hall : L m = true → ∀ k, k < m + 1 → L k = true := fun hLm k hkm => by
      refine anc_done hc ops.size (· == m) (fun k hk => ?_) k ?_
      · have : k = m := by simpa using hk
        rw [this]; exact hLm
      · unfold allAnc at hanc
        rw [List.all_eq_true] at hanc
        exact hanc k (by rw [List.mem_range]; omega)
    have hm0 : L m = false := by
      cases e : L m
      · rfl
      · rw [hall e i hi] at hli; simp at hli
    obtain ⟨vs, rfl, hCw, hv⟩ := h2 hm0
    have hgo : ∀ k o', ops[k]? = some o' → updF L i true k = true → readyF o' (updF L i true) = true := by
      intro k o' hk' hLk
      have hmono : ∀ j, L j = true → updF L i true j = true := fun j hj => by
        unfold updF; split
        · rfl
        · exact hj
      by_cases e : k = i
      · subst e
        obtain rfl := Option.some.inj (ho.symm.trans hk')
        exact readyF_mono hmono hri
      · rw [updF_ne _ _ e] at hLk
        exact readyF_mono hmono (hc k o' hk' hLk)
    by_cases e : i = m
    · subst e
      refine wpOp_mono ?_ (hl vs _ hCw fun k hkm => hv k hkm ?_)
      · intro a' w' hq
        exact ⟨hbn, hgo, fun _ => hq, fun h => by rw [updF_same] at h; simp at h⟩
      · have hc2 : ∀ k o', ops[k]? = some o' → updF L i true k = true → readyF o' (updF L i true) = true := hgo
        have hk2 : updF L i true k = true := by
          refine anc_done hc2 ops.size (· == i) (fun k hk => ?_) k ?_
          · have : k = i := by simpa using hk
            rw [this, updF_same]
          · unfold allAnc at hanc
            rw [List.all_eq_true] at hanc
            exact hanc k (by rw [List.mem_range]; omega)
        rwa [updF_ne _ _ (by omega)] at hk2
    · have him : i < m := by omega
      refine wpOp_mono ?_ (hk i o him ho vs _ hCw fun d hd => ?_)
      · rintro a' w' ⟨rfl, hCw'⟩
        refine ⟨hbn, hgo, fun h => by rw [updF_ne _ _ (Ne.symm e), hm0] at h; simp at h, fun _ => ⟨_, rfl, hCw', fun k hkm hLk => ?_⟩⟩
        by_cases e2 : k = i
        · subst e2; rw [updF_same]
        · rw [updF_ne _ _ e2] at hLk ⊢
          exact hv k hkm hLk
      · have hLd := ready_waits hri d hd
        refine hv d ?_ hLd
        have hne : d ≠ m := fun e2 => by rw [e2, hm0] at hLd; simp at hLd
        have := hb d hLd
        omega
  · intro L a' w' hall hI
    obtain ⟨_, _, h1, _⟩ := hI
    exact h1 (dag_all hdag hall m (by omega))
end Go.Proofs.YtmkjeonjhedgkaaGreatDoor
