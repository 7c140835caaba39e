/- The best plan: plain laws. -/
import Derived.Test.YtjgkgnfhglhklaaTogo
import Derived.Maps.AppendAt
namespace Go.Proofs.Ytjgkgnfhglhklaa
set_option linter.unusedSimpArgs false
set_option linter.unusedVariables false
open Go.RowKit

/-- The first strip below n that goes on along a best plan. -/
def pickTo (r : Roads) (f : Flock) (shut : Int) (V : Int × Int → Int) (d : Int) (p : Int × Int) (left : Int) : Nat → Option (Nat × (Int × Int))
  | 0 => none
  | k + 1 => match pickTo r f shut V d p left k with
    | some x => some x
    | none => match stepOk r f shut d p k with
      | some q => if (q.2 - p.2) + V q = left then some (k, q) else none
      | none => none

def planF (r : Roads) (f : Flock) (shut : Int) (V : Int → Int × Int → Int) : Nat → Int → Int × Int → Int → List (Int × Int)
  | 0, _, _, _ => []
  | k + 1, d, p, left => if 0 < left then (match pickTo r f shut (V d) d p left r.strips.length with
      | some (i, q) => (d, (i : Int)) :: planF r f shut V k d q (left - (q.2 - p.2))
      | none => planF r f shut V k (d + 1) (p.1, 0) left) else []

def planL (r : Roads) (f : Flock) (shut tt last day fr : Int) : List (Int × Int) := planF r f shut (togoV r f shut tt last) 2000 day (fr, 0) (togoV r f shut tt last day (fr, 0))

section
variable {r : Roads} {f : Flock} {shut d left b0 : Int} {V : Int × Int → Int} {p q : Int × Int}
theorem pick_no {k : Nat} (h0 : pickTo r f shut V d p left k = none) (h : ∀ q, stepOk r f shut d p k ≠ some q) : pickTo r f shut V d p left (k + 1) = none := by
  rw [pickTo, h0]
  cases hs : stepOk r f shut d p k with
  | none => rfl
  | some q => exact absurd hs (h q)
theorem pick_other {k : Nat} (h0 : pickTo r f shut V d p left k = none) (h : stepOk r f shut d p k = some q) (hn : ¬ (q.2 - p.2) + V q = left) : pickTo r f shut V d p left (k + 1) = none := by
  rw [pickTo, h0]; dsimp only; rw [h]; dsimp only; rw [if_neg hn]
theorem pick_this {k : Nat} (h0 : pickTo r f shut V d p left k = none) (h : stepOk r f shut d p k = some q) (hn : (q.2 - p.2) + V q = left) : pickTo r f shut V d p left (k + 1) = some (k, q) := by
  rw [pickTo, h0]; dsimp only; rw [h]; dsimp only; rw [if_pos hn]
theorem pick_mono {k j : Nat} {x : Nat × (Int × Int)} (h : pickTo r f shut V d p left k = some x) (hj : k ≤ j) : pickTo r f shut V d p left j = some x := by
  induction j with
  | zero => obtain rfl : k = 0 := by omega
            exact h
  | succ j ih =>
    by_cases e : k = j + 1
    · subst e; exact h
    · rw [pickTo, ih (by omega)]
theorem pick_spec {i : Nat} : ∀ {k : Nat}, pickTo r f shut V d p left k = some (i, q) → stepOk r f shut d p i = some q ∧ (q.2 - p.2) + V q = left ∧ i < k
  | 0, h => by simp [pickTo] at h
  | k + 1, h => by
    rw [pickTo] at h
    cases h0 : pickTo r f shut V d p left k with
    | some x =>
      rw [h0] at h
      obtain rfl := Option.some.inj h
      have := pick_spec h0
      exact ⟨this.1, this.2.1, by omega⟩
    | none =>
      rw [h0] at h; dsimp only at h
      cases hs : stepOk r f shut d p k with
      | none => rw [hs] at h; simp at h
      | some q' =>
        rw [hs] at h; dsimp only at h
        split at h
        · rename_i he
          simp only [Option.some.injEq, Prod.mk.injEq] at h
          obtain ⟨rfl, rfl⟩ := h
          exact ⟨hs, he, by omega⟩
        · simp at h
/-- If no strip goes on along a best plan, the best is to wait. -/
theorem pick_none : ∀ {k : Nat}, pickTo r f shut V d p left k = none → bestTo r f shut V d p b0 k = left → b0 = left
  | 0, _, h => h
  | k + 1, h, hb => by
    rw [pickTo] at h
    cases h0 : pickTo r f shut V d p left k with
    | some x => rw [h0] at h; simp at h
    | none =>
      rw [h0] at h; dsimp only at h
      rw [bestTo] at hb
      cases hs : stepOk r f shut d p k with
      | none => rw [hs] at hb; exact pick_none h0 hb
      | some q =>
        rw [hs] at h hb; dsimp only at h hb
        split at h
        · simp at h
        · rename_i he
          exact pick_none h0 (by omega)
end

theorem planF_stop {r : Roads} {f : Flock} {shut d left : Int} {V : Int → Int × Int → Int} {p : Int × Int} {k : Nat} (h : ¬ 0 < left) : planF r f shut V k d p left = [] := by
  cases k with
  | zero => rfl
  | succ k => rw [planF, if_neg h]
theorem planF_step {r : Roads} {f : Flock} {shut d left : Int} {V : Int → Int × Int → Int} {p q : Int × Int} {k i : Nat} (h : 0 < left) (hp : pickTo r f shut (V d) d p left r.strips.length = some (i, q)) :
    planF r f shut V (k + 1) d p left = (d, (i : Int)) :: planF r f shut V k d q (left - (q.2 - p.2)) := by
  rw [planF, if_pos h, hp]
theorem planF_wait {r : Roads} {f : Flock} {shut d left : Int} {V : Int → Int × Int → Int} {p : Int × Int} {k : Nat} (h : 0 < left) (hp : pickTo r f shut (V d) d p left r.strips.length = none) :
    planF r f shut V (k + 1) d p left = planF r f shut V k (d + 1) (p.1, 0) left := by
  rw [planF, if_pos h, hp]

/-- A slice of strides (day and strip) of the call's own. -/
def OwnStrides (w : World) (B : Nat) (v : Value) (l : List (Int × Int)) : Prop := w.ownsRow B 89 2 v l.length (l.flatMap fun x => [Value.int .i64 x.1, Value.int .i64 x.2])
theorem OwnStrides.nil (w : World) (B : Nat) : OwnStrides w B (.slice none 0 0) [] := World.ownsRow_nil _ _ _ _
theorem OwnStrides.keep {w w' : World} {B : Nat} {v : Value} {l : List (Int × Int)} (h : OwnStrides w B v l) (hb : ∀ k, k < w.heap.size → B ≤ k → w'.heap[k]? = w.heap[k]?) : OwnStrides w' B v l := by
  obtain ⟨h1, h2⟩ := h
  refine ⟨h1, ?_⟩
  rcases h2 with h2 | ⟨g, cap, cur, hv, hg, hh, r⟩
  · exact .inl h2
  · exact .inr ⟨g, cap, cur, hv, hg, by rw [hb g (Array.getElem?_eq_some_iff.1 hh).1 hg]; exact hh, r⟩
theorem OwnStrides.below {w w' : World} {B : Nat} {v : Value} {l : List (Int × Int)} (h : OwnStrides w B v l) (hb : Below w.heap.size w w') : OwnStrides w' B v l := h.keep fun k hk _ => hb.block k hk
theorem OwnStrides.ext {w w' : World} {B m : Nat} {v : Value} {l : List (Int × Int)} (h : OwnStrides w B v l) (hb : Ext m w w') (hm : m < B) : OwnStrides w' B v l := h.keep fun k hk hB => hb.block k hk (by omega)
theorem OwnStrides.alloc {w : World} {B : Nat} {v : Value} {l : List (Int × Int)} (h : OwnStrides w B v l) (o : Obj) : OwnStrides (w.alloc o) B v l := h.below (Below.alloc (Below.refl _ _) (Nat.le_refl _) o)
theorem OwnStrides.mono {w : World} {B B' : Nat} {v : Value} {l : List (Int × Int)} (h : OwnStrides w B v l) (hB : B' ≤ B) : OwnStrides w B' v l := by
  obtain ⟨h1, h2⟩ := h
  refine ⟨h1, ?_⟩
  rcases h2 with h2 | ⟨g, cap, cur, hv, hg, r⟩
  · exact .inl h2
  · exact .inr ⟨g, cap, cur, hv, Nat.le_trans hB hg, r⟩
theorem OwnStrides.block_ne {w : World} {B b : Nat} {v : Value} {l : List (Int × Int)} (h : OwnStrides w B v l) (hb : b < B) : v.ownBlock ≠ some b := by
  obtain ⟨_, h2⟩ := h
  rcases h2 with ⟨hv, _⟩ | ⟨g, cap, cur, hv, hg, r⟩
  · subst hv; simp [Value.ownBlock]
  · subst hv; simp [Value.ownBlock]; omega
theorem OwnStrides.block_lt {w : World} {B b : Nat} {v : Value} {l : List (Int × Int)} (h : OwnStrides w B v l) (hb : v.ownBlock = some b) : b < w.heap.size ∧ B ≤ b := by
  obtain ⟨_, h2⟩ := h
  rcases h2 with ⟨hv, _⟩ | ⟨g, cap, cur, hv, hg, hh, r⟩
  · subst hv; simp [Value.ownBlock] at hb
  · subst hv; simp [Value.ownBlock] at hb; subst hb; exact ⟨(Array.getElem?_eq_some_iff.1 hh).1, hg⟩

theorem app_stride1 {ops : Array Oper} {rest : List Oper} {o : Oper} {a : Act} {Q : Exit → Act → World → Prop} {w : World} (hgd : o.guard = none) (s x : Operand)
    (ho : o.op = .call { callee := .builtin .append, args := #[s, x], argTypes := #[40, 40] })
    (B : Nat) (v : Value) (l : List (Int × Int)) (hs : a.eval s = v) (hown : OwnStrides w B v l) (n m : Int) (hx : a.eval x = .slice (some ⟨w.heap.size, 0, none⟩) 1 1)
    (hlen : l.length ≤ 1000000) (hB : B ≤ w.heap.size)
    (h : ∀ v' w', OwnStrides w' B v' (l ++ [(n, m)]) → Below B w w' → (w.alloc (.cells #[.int .i64 n, .int .i64 m] 89)).grownBy w' v.ownBlock → (v'.ownBlock = v.ownBlock ∨ v'.ownBlock = some (w.heap.size + 1)) → wpList Try.prog ops Q rest (a.put o.dst v') w') :
    wpList Try.prog ops Q (o :: rest) a (w.alloc (.cells #[.int .i64 n, .int .i64 m] 89)) := by
  obtain ⟨i0, hi, hz0, hz1, hz2⟩ := info_parts (P := Try.prog) (e := 89) (z := .agg #[.int .i64 0, .int .i64 0]) (size := 2) (bytes := 16) (by kernel_rfl)
  refine wpList_append_own_at (w.alloc _) hgd s x 40 ho B 89 i0 (.agg #[.int .i64 0, .int .i64 0]) 2 16 Try.underlying40 hi hz0 hz1 hz2 (by simp [Value.cells]) (by decide) v l.length _ hs (hown.alloc _) ⟨w.heap.size, 0, none⟩ 1 1 [.int .i64 n, .int .i64 m] hx rfl ?_ ?_ ?_ ?_ (by simp; omega) ?_
  · intro j u hj
    match j, hj with
    | 0, hj => simp at hj; subst hj; simp [Addr.add]
    | 1, hj => simp at hj; subst hj; simp [Addr.add]
  · intro u hu; simp at hu; rcases hu with rfl | rfl <;> rfl
  · unfold maxLen; omega
  · omega
  · intro v' w' h1 h2 _ h4
    have hb0 : Below B w (w.alloc (.cells #[.int .i64 n, .int .i64 m] 89)) := Below.alloc (Below.refl _ _) hB _
    refine h v' w' ?_ ?_ h2 (by simpa using h4)
    · unfold OwnStrides; simpa using h1
    · refine hb0.trans (Below.grown (Below.refl _ _) h2 (by simp; omega) fun k hk => ?_)
      exact (hown.block_lt hk).2
end Go.Proofs.Ytjgkgnfhglhklaa
