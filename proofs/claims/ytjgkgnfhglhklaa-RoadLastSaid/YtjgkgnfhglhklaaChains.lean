/- The contract of chains. -/
import Derived.Test.YtjgkgnfhglhklaaShorter
import Derived.Maps.AppendAt
namespace Go.Proofs.Ytjgkgnfhglhklaa
set_option linter.unusedSimpArgs false
set_option linter.unusedVariables false
open Go.RowKit

/-- Where strip i leads a chain on to from a stage, if it may. -/
def chainOf (r : Roads) (use : List Bool) (met : Nat) (p : Int) (i : Nat) : Option Int := match r.strips[i]? with
  | some s => if (endOf s p).2 && use.getD i false && !met.testBit (endOf s p).1.toNat then some (endOf s p).1 else none
  | none => none
def chainsTo (rec : Int → Nat → List (List Int)) (r : Roads) (use : List Bool) (met : Nat) (p : Int) : Nat → List (List Int)
  | 0 => []
  | k + 1 => chainsTo rec r use met p k ++ (match chainOf r use met p k with
    | some q => (rec q (met ||| 1 <<< q.toNat)).map ((k : Int) :: ·)
    | none => [])
def chainsF (r : Roads) (use : List Bool) (tt : Int) : Nat → Int → Nat → List (List Int)
  | 0, p, met => if p = tt then [[]] else chainsTo (fun _ _ => []) r use met p r.strips.length
  | k + 1, p, met => if p = tt then [[]] else chainsTo (chainsF r use tt k) r use met p r.strips.length

/-- How many stages are not met. -/
def freeN (met : Nat) : Nat := ((List.range 6).filter fun s => !met.testBit s).length
theorem freeN_lt : ∀ m < 64, ∀ q < 6, m.testBit q = false → freeN (m ||| 1 <<< q) < freeN m ∧ (m ||| 1 <<< q) < 64 := by decide +kernel

theorem chainOf_some {r : Roads} {use : List Bool} {met : Nat} {p q : Int} {i : Nat} : chainOf r use met p i = some q ↔
    ∃ s, r.strips[i]? = some s ∧ (endOf s p).2 = true ∧ use.getD i false = true ∧ met.testBit (endOf s p).1.toNat = false ∧ q = (endOf s p).1 := by
  unfold chainOf
  cases h : r.strips[i]? with
  | none => simp
  | some s =>
    simp only [Option.some.injEq, exists_eq_left', Option.ite_none_right_eq_some, Bool.and_eq_true, Bool.not_eq_true']
    constructor
    · rintro ⟨⟨⟨h1, h2⟩, h3⟩, h4⟩; exact ⟨h1, h2, h3, h4.symm⟩
    · rintro ⟨h1, h2, h3, h4⟩; exact ⟨⟨⟨h1, h2⟩, h3⟩, h4.symm⟩

theorem chainsTo_all {rec : Int → Nat → List (List Int)} {r : Roads} {use : List Bool} {met : Nat} {p : Int} {P : List Int → Prop}
    (h : ∀ i q, i < r.strips.length → ∀ l ∈ rec q (met ||| 1 <<< q.toNat), P ((i : Int) :: l)) : ∀ k, k ≤ r.strips.length → ∀ l ∈ chainsTo rec r use met p k, P l
  | 0, _, l, hl => by simp [chainsTo] at hl
  | k + 1, hk, l, hl => by
    rw [chainsTo, List.mem_append] at hl
    rcases hl with hl | hl
    · exact chainsTo_all h k (by omega) l hl
    · cases hc : chainOf r use met p k with
      | none => simp [hc] at hl
      | some q =>
        simp only [hc, List.mem_map] at hl
        obtain ⟨a, ha, rfl⟩ := hl
        exact h k q (by omega) a ha
theorem chainsTo_len {rec : Int → Nat → List (List Int)} {r : Roads} {use : List Bool} {met : Nat} {p : Int} {M : Nat} (h : ∀ q m, (rec q m).length ≤ M) : ∀ k, (chainsTo rec r use met p k).length ≤ k * M
  | 0 => by simp [chainsTo]
  | k + 1 => by
    have := chainsTo_len (r := r) (use := use) (met := met) (p := p) h k
    rw [chainsTo, List.length_append, Nat.succ_mul]
    cases hc : chainOf r use met p k with
    | none => simp; omega
    | some q => have := h q (met ||| 1 <<< q.toNat); simp only [List.length_map]; omega
theorem chains_in {r : Roads} {use : List Bool} {tt : Int} : ∀ (k : Nat) (p : Int) (met : Nat), ∀ l ∈ chainsF r use tt k p met, l.length ≤ k + 1 ∧ ∀ x ∈ l, 0 ≤ x ∧ x < r.strips.length
  | 0, p, met, l, hl => by
    rw [chainsF] at hl
    split at hl
    · simp at hl; subst hl; simp
    · exact chainsTo_all (P := fun l => l.length ≤ 0 + 1 ∧ ∀ x ∈ l, 0 ≤ x ∧ x < r.strips.length) (by simp) _ (Nat.le_refl _) l hl
  | k + 1, p, met, l, hl => by
    rw [chainsF] at hl
    split at hl
    · simp at hl; subst hl; simp
    · refine chainsTo_all (P := fun l => l.length ≤ k + 1 + 1 ∧ ∀ x ∈ l, 0 ≤ x ∧ x < r.strips.length) (fun i q hi a ha => ?_) _ (Nat.le_refl _) l hl
      obtain ⟨h1, h2⟩ := chains_in k q _ a ha
      refine ⟨by simp; omega, fun x hx => ?_⟩
      rcases List.mem_cons.1 hx with rfl | hx
      · omega
      · exact h2 x hx
theorem chains_len {r : Roads} {use : List Bool} {tt : Int} (hr : r.strips.length ≤ 8) : ∀ (k : Nat) (p : Int) (met : Nat), (chainsF r use tt k p met).length ≤ 8 ^ (k + 1)
  | 0, p, met => by
    rw [chainsF]
    split
    · simp
    · have := chainsTo_len (rec := fun _ _ => []) (r := r) (use := use) (met := met) (p := p) (M := 0) (by simp) r.strips.length; omega
  | k + 1, p, met => by
    rw [chainsF]
    split
    · have := Nat.pow_le_pow_right (n := 8) (by omega) (Nat.zero_le (k + 1 + 1)); simpa using this
    · have := chainsTo_len (rec := chainsF r use tt k) (r := r) (use := use) (met := met) (p := p) (fun q m => chains_len hr k q m) r.strips.length
      have h2 : r.strips.length * 8 ^ (k + 1) ≤ 8 * 8 ^ (k + 1) := Nat.mul_le_mul_right _ hr
      rw [Nat.pow_succ (n := 8) (m := k + 1)]; omega

/-- Integers at the head of block g. -/
def RowAt (w : World) (g : Nat) (l : List Int) : Prop := ∀ (j : Nat) (h : j < l.length), w.cell? ⟨g, j, none⟩ = some (.int .i64 l[j])

/-- A chain among the cells of a slice of chains v. -/
def InnerAt (w : World) (B : Nat) (v x : Value) (l : List Int) : Prop :=
  ∃ a cap, x = .slice a l.length cap ∧ (l = [] ∨ ∃ b o, a = some ⟨b, o, none⟩ ∧ B ≤ b ∧ v.ownBlock ≠ some b ∧ ∀ (i : Nat) (h : i < l.length), w.cell? ⟨b, o + i, none⟩ = some (.int .i64 l[i]))
theorem InnerAt.ints {w : World} {B : Nat} {v x : Value} {l : List Int} (h : InnerAt w B v x l) : ∃ a cap, x = .slice a l.length cap ∧ IntsAt w a l := by
  obtain ⟨a, cap, hx, h⟩ := h
  refine ⟨a, cap, hx, ?_⟩
  rcases h with h | ⟨b, o, ha, _, _, hc⟩
  · exact .inl h
  · exact .inr ⟨b, o, ha, hc⟩
theorem InnerAt.keep {w w' : World} {B : Nat} {v v' x : Value} {l : List Int} (h : InnerAt w B v x l) (hk : ∀ b, B ≤ b → b < w.heap.size → v.ownBlock ≠ some b → w'.heap[b]? = w.heap[b]? ∧ v'.ownBlock ≠ some b) : InnerAt w' B v' x l := by
  obtain ⟨a, cap, hx, h⟩ := h
  refine ⟨a, cap, hx, ?_⟩
  rcases h with h | ⟨b, o, ha, hB, hv, hc⟩
  · exact .inl h
  · by_cases hl : l = []
    · exact .inl hl
    · have h0 := hc 0 (by cases l with | nil => exact absurd rfl hl | cons x l => simp)
      obtain ⟨k1, k2⟩ := hk b hB (lt_of_cell h0) hv
      exact .inr ⟨b, o, ha, hB, k2, fun i hi => (World.cell?_of_block k1).trans (hc i hi)⟩

/-- A slice of chains of the call's own. -/
def OwnChains (w : World) (B : Nat) (v : Value) (L : List (List Int)) : Prop :=
  ∃ xs : List Value, w.ownsRow B 27 1 v L.length xs ∧ ∀ (i : Nat) (h : i < L.length), ∃ x, xs[i]? = some x ∧ InnerAt w B v x L[i]
theorem OwnChains.nil (w : World) (B : Nat) : OwnChains w B (.slice none 0 0) [] := ⟨[], World.ownsRow_nil _ _ _ _, by simp⟩
theorem OwnChains.keep {w w' : World} {B : Nat} {v : Value} {L : List (List Int)} (h : OwnChains w B v L) (hk : ∀ b, B ≤ b → b < w.heap.size → w'.heap[b]? = w.heap[b]?) : OwnChains w' B v L := by
  obtain ⟨xs, ⟨h1, h2⟩, h3⟩ := h
  refine ⟨xs, ⟨h1, ?_⟩, fun i hi => ?_⟩
  · rcases h2 with h2 | ⟨g, cap, cur, hv, hg, hh, r⟩
    · exact .inl h2
    · exact .inr ⟨g, cap, cur, hv, hg, by rw [hk g hg (Array.getElem?_eq_some_iff.1 hh).1]; exact hh, r⟩
  · obtain ⟨x, hx, hin⟩ := h3 i hi
    exact ⟨x, hx, hin.keep fun b hB hb' hv => ⟨hk b hB hb', hv⟩⟩
theorem OwnChains.below {w w' : World} {B : Nat} {v : Value} {L : List (List Int)} (h : OwnChains w B v L) (hb : Below w.heap.size w w') : OwnChains w' B v L := h.keep fun b _ hb' => hb.block b hb'
theorem InnerAt.mono {w : World} {B B' : Nat} {v x : Value} {l : List Int} (h : InnerAt w B v x l) (hB : B' ≤ B) : InnerAt w B' v x l := by
  obtain ⟨a, cap, hx, h⟩ := h
  refine ⟨a, cap, hx, ?_⟩
  rcases h with h | ⟨b, o, ha, hb, r⟩
  · exact .inl h
  · exact .inr ⟨b, o, ha, Nat.le_trans hB hb, r⟩
theorem OwnChains.mono {w : World} {B B' : Nat} {v : Value} {L : List (List Int)} (h : OwnChains w B v L) (hB : B' ≤ B) : OwnChains w B' v L := by
  obtain ⟨xs, ⟨h1, h2⟩, h3⟩ := h
  refine ⟨xs, ⟨h1, ?_⟩, fun i hi => let ⟨x, hx, hin⟩ := h3 i hi; ⟨x, hx, hin.mono hB⟩⟩
  rcases h2 with h2 | ⟨g, cap, cur, hv, hg, r⟩
  · exact .inl h2
  · exact .inr ⟨g, cap, cur, hv, Nat.le_trans hB hg, r⟩
theorem OwnChains.block_lt {w : World} {B b : Nat} {v : Value} {L : List (List Int)} (h : OwnChains w B v L) (hb : v.ownBlock = some b) : b < w.heap.size ∧ B ≤ b := by
  obtain ⟨xs, ⟨_, h2⟩, _⟩ := h
  rcases h2 with ⟨hv, _⟩ | ⟨g, cap, cur, hv, hg, hh, r⟩
  · subst hv; simp [Value.ownBlock] at hb
  · subst hv; simp [Value.ownBlock] at hb; subst hb; exact ⟨(Array.getElem?_eq_some_iff.1 hh).1, hg⟩
/-- The slice's form, and the cell of a chain. -/
theorem OwnChains.form {w : World} {B : Nat} {v : Value} {L : List (List Int)} (h : OwnChains w B v L) : ∃ a cap, v = .slice a L.length cap ∧ L.length ≤ cap ∧ (L ≠ [] → ∃ g, a = some ⟨g, 0, none⟩) ∧
    ∀ (i : Nat) (h : i < L.length), ∃ g x, a = some ⟨g, 0, none⟩ ∧ B ≤ g ∧ w.cell? ⟨g, i, none⟩ = some x ∧ InnerAt w B v x L[i] := by
  obtain ⟨xs, ⟨h1, h2⟩, h3⟩ := h
  rcases h2 with ⟨hv, hn⟩ | ⟨g, cap, cur, hv, hg, hh, hc, hm, hs, ht⟩
  · have : L = [] := List.length_eq_zero_iff.1 hn
    subst this
    exact ⟨none, 0, hv, Nat.le_refl _, fun h => absurd rfl h, fun i hi => by simp at hi⟩
  · refine ⟨_, cap, hv, hc, fun _ => ⟨g, rfl⟩, fun i hi => ?_⟩
    obtain ⟨x, hx, hin⟩ := h3 i hi
    refine ⟨g, x, rfl, hg, ?_, hin⟩
    have e : cur[i]? = some x := by
      rw [← Array.getElem?_toList]
      have : (cur.toList.take (L.length * 1))[i]? = cur.toList[i]? := by rw [List.getElem?_take, if_pos (by omega)]
      rw [← this, ht]; exact hx
    simp [World.cell?, hh, e]

/-- One chain more. -/
theorem OwnChains.push {w w' : World} {B : Nat} {v v' x : Value} {L : List (List Int)} {l : List Int} {xs : List Value} (h3 : ∀ (i : Nat) (h : i < L.length), ∃ x, xs[i]? = some x ∧ InnerAt w B v x L[i]) (hl : xs.length = L.length)
    (hx : InnerAt w B v x l) (hown : w'.ownsRow B 27 1 v' (L.length + 1) (xs ++ [x])) (hk : ∀ b, B ≤ b → b < w.heap.size → v.ownBlock ≠ some b → w'.heap[b]? = w.heap[b]? ∧ v'.ownBlock ≠ some b) : OwnChains w' B v' (L ++ [l]) := by
  refine ⟨xs ++ [x], by simpa using hown, fun i hi => ?_⟩
  simp only [List.length_append, List.length_cons, List.length_nil] at hi
  by_cases e : i < L.length
  · obtain ⟨y, hy, hin⟩ := h3 i e
    refine ⟨y, by rw [List.getElem?_append_left (by omega)]; exact hy, ?_⟩
    rw [List.getElem_append_left e]
    exact hin.keep hk
  · obtain rfl : i = L.length := by omega
    refine ⟨x, by rw [List.getElem?_append_right (by omega), hl]; simp, ?_⟩
    rw [List.getElem_append_right (Nat.le_refl _)]
    simpa using hx.keep hk

theorem info_ints : (Try.prog.info? 27).map (fun i => (i.zero, i.size, i.bytes)) = some (some (.slice none 0 0), 1, 24) := by kernel_rfl

/-- append([]int{i}, rest...) at the operation: one integer ahead of a chain, nil or not. -/
theorem app_rest {ops : Array Oper} {rest : List Oper} {o : Oper} {a : Act} {Q : Exit → Act → World → Prop} {w : World} (hgd : o.guard = none) (s x : Operand)
    (ho : o.op = .call { callee := .builtin .append, args := #[s, x], argTypes := #[27, 27] })
    (B g : Nat) (i : Int) (hs : a.eval s = .slice (some ⟨g, 0, none⟩) 1 1) (hg : w.heap[g]? = some (.cells #[.int .i64 i] 3 (0, 0))) (ra : Option Addr) (rc : Nat) (l : List Int) (hx : a.eval x = .slice ra l.length rc) (hl : IntsAt w ra l)
    (hlen : l.length ≤ 1000000) (hB : B ≤ g)
    (h : ∀ g' cap' w', RowAt w' g' (i :: l) → g' < w'.heap.size → B ≤ g' → Below B w w' → wpList Try.prog ops Q rest (a.put o.dst (.slice (some ⟨g', 0, none⟩) (l.length + 1) cap')) w') : wpList Try.prog ops Q (o :: rest) a w := by
  obtain ⟨i0, hi, hz0, hz1, hz2⟩ := info_parts info_int
  have hgl := (Array.getElem?_eq_some_iff.1 hg).1
  have hown : w.ownsRow B 3 1 (.slice (some ⟨g, 0, none⟩) 1 1) 1 [.int .i64 i] := ⟨rfl, .inr ⟨g, 1, _, rfl, hB, hg, Nat.le_refl _, by unfold maxLen; omega, rfl, rfl⟩⟩
  cases ra with
  | none =>
    have hl0 : l = [] := by
      rcases hl with hl | ⟨_, _, h, _⟩
      · exact hl
      · simp at h
    subst hl0
    refine wpList_plain hgd fun K hK => ?_
    have hr : ∀ ty, (Builtin.append_ #[27, 27] ty #[.slice (some ⟨g, 0, none⟩) 1 1, .slice none 0 rc]).run Try.prog w = .ok (.slice (some ⟨g, 0, none⟩) 1 1) w := by
      intro ty
      simp [Builtin.append_, run_underlying Try.underlying27, sizeOf, typeInfo, hi, Builtin.lenOf, Builtin.firstCells, storeCells]
    unfold Oper.wp execOp
    simp only [ho, resolve, invoke, builtin, Sem.run_bind, Sem.run_pure, Result.andThen_ok, List.map_toArray, List.map_cons, List.map_nil, hs, hx, List.length_nil, hr]
    exact hK _ _ (h g 1 w (fun j hj => by simp at hj; subst hj; simp [World.cell?, hg]) hgl hB (Below.refl _ _))
  | some ad =>
    refine wpList_append_own_at w hgd s x 27 ho B 3 i0 (.int .i64 0) 1 8 Try.underlying27 hi hz0 hz1 hz2 rfl (by decide) _ 1 _ hs hown ad l.length rc (l.map (Value.int .i64)) hx (by simp) ?_ ?_ ?_ ?_ (by omega) ?_
    · intro j u hj
      rw [List.getElem?_map] at hj
      cases hy : l[j]? with
      | none => simp [hy] at hj
      | some y =>
        simp [hy] at hj
        subst hj
        obtain ⟨hjl, rfl⟩ := List.getElem?_eq_some_iff.1 hy
        rcases hl with hl | ⟨b', o', e, hl⟩
        · subst hl; simp at hjl
        · simp only [Option.some.injEq] at e
          subst e
          rw [show (⟨b', o', none⟩ : Addr).add j = ⟨b', o' + j, none⟩ by simp [Addr.add]]
          exact hl j hjl
    · intro u hu; obtain ⟨x, _, rfl⟩ := List.mem_map.1 hu; rfl
    · unfold maxLen; omega
    · omega
    · intro v' w' h1 h2 h3 h4
      have hn : v' ≠ .slice none 0 0 := fun e => by simpa using h3.1 e
      obtain ⟨g1, g2⟩ := h1
      rcases g2 with ⟨hv, _⟩ | ⟨g', cap', cur, hv, hg', hh, hc, hm, hsz, ht⟩
      · exact absurd hv hn
      · rw [hv, Nat.add_comm 1 l.length]
        refine h g' cap' w' (fun j hj => ?_) (Array.getElem?_eq_some_iff.1 hh).1 hg' (Below.grown (Below.refl _ _) h2 (by omega) fun k hk => by simp [Value.ownBlock] at hk; omega)
        have e : cur[j]? = some (.int .i64 ((i :: l)[j])) := by
          rw [← Array.getElem?_toList]
          have : (cur.toList.take ((1 + l.length) * 1))[j]? = cur.toList[j]? := by rw [List.getElem?_take, if_pos (by simp at hj; omega)]
          rw [← this, ht, show [Value.int .i64 i] ++ l.map (Value.int .i64) = (i :: l).map (Value.int .i64) from rfl, List.getElem?_map, List.getElem?_eq_getElem hj]; rfl
        simp [World.cell?, hh, e]

/-- out = append(out, x) at the operation, x a chain whose block has just been laid. -/
theorem app_chain {ops : Array Oper} {rest : List Oper} {o : Oper} {a : Act} {Q : Exit → Act → World → Prop} {w : World} (hgd : o.guard = none) (s x : Operand)
    (ho : o.op = .call { callee := .builtin .append, args := #[s, x], argTypes := #[54, 54] })
    (B : Nat) (v : Value) (L : List (List Int)) (hs : a.eval s = v) (hown : OwnChains w B v L) (xv : Value) (l : List Int) (hin : InnerAt w B v xv l) (hx : a.eval x = .slice (some ⟨w.heap.size, 0, none⟩) 1 1)
    (hlen : L.length ≤ 10000000) (hB : B ≤ w.heap.size)
    (h : ∀ v' w', OwnChains w' B v' (L ++ [l]) → Below B w w' → (∀ b, b < w.heap.size → v.ownBlock ≠ some b → w'.heap[b]? = w.heap[b]?) → (v'.ownBlock = v.ownBlock ∨ v'.ownBlock = some (w.heap.size + 1)) → w.heap.size ≤ w'.heap.size →
      wpList Try.prog ops Q rest (a.put o.dst v') w') : wpList Try.prog ops Q (o :: rest) a (w.alloc (.cells #[xv] 27)) := by
  obtain ⟨i0, hi, hz0, hz1, hz2⟩ := info_parts info_ints
  have hb0 : Below w.heap.size w (w.alloc (.cells #[xv] 27)) := Below.alloc (Below.refl _ _) (Nat.le_refl _) _
  have h1c : xv.oneCell' = true := by obtain ⟨_, _, rfl, _⟩ := hin; rfl
  have hlt := fun b hb => (hown.block_lt (b := b) hb)
  obtain ⟨xs, hrow, h3⟩ := hown.below hb0
  have hxl : xs.length = L.length := by have := hrow.1; omega
  refine wpList_append_own_at (w.alloc _) hgd s x 54 ho B 27 i0 (.slice none 0 0) 1 24 Try.underlying54 hi hz0 hz1 hz2 rfl (by decide) v L.length xs hs hrow ⟨w.heap.size, 0, none⟩ 1 1 [xv] hx rfl ?_ ?_ ?_ ?_ (by simp; omega) ?_
  · intro j u hj
    match j, hj with
    | 0, hj => simp at hj; subst hj; simp [Addr.add]
  · intro u hu; simp at hu; subst hu; exact h1c
  · unfold maxLen; omega
  · omega
  · intro v' w' g1 g2 _ g4
    have hbb : Below B (w.alloc (.cells #[xv] 27)) w' := Below.grown (Below.refl _ _) g2 (by simp; omega) fun k hk => (hlt k hk).2
    have keep : ∀ b, b < w.heap.size → v.ownBlock ≠ some b → w'.heap[b]? = w.heap[b]? := fun b hb hv => by
      rw [g2.block b (by simp; omega) (fun e => hv e.symm), hb0.block b hb]
    refine h v' w' (OwnChains.push h3 hxl (hin.keep (w' := w.alloc _) (v' := v) fun b _ hb hv => ⟨hb0.block b hb, hv⟩) g1 fun b hBb hb hv => ?_) ((hb0.mono (by omega)).trans hbb) keep (by simpa using g4) (by have := g2.size; simp at this; omega)
    refine ⟨g2.block b hb (fun e => hv e.symm), fun e => ?_⟩
    rcases g4 with g4 | g4
    · exact hv (g4.symm.trans e)
    · rw [g4] at e; simp at e hb; omega
end Go.Proofs.Ytjgkgnfhglhklaa
