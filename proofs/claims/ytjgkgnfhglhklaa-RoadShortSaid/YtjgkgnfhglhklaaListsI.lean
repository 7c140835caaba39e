/- Slices of slices of ints, as mestalaw02.chains makes them: append of all of one onto another. -/
import Derived.Test.YtjgkgnfhglhklaaChains
import Derived.Test.YtjgkgnfhglhklaaCopyI
namespace Go.Proofs.Ytjgkgnfhglhklaa
set_option linter.unusedSimpArgs false
set_option linter.unusedVariables false
open Go.RowKit

/-- A slice of slices of the call's own (its cells at B or above); the ints of its rows lie at B0 or above, and elsewhere. -/
def ListsI (w : World) (B B0 : Nat) (v : Value) (L : List (List Int)) : Prop :=
  ∃ xs : List Value, w.ownsRow B 27 1 v L.length xs ∧ ∀ (i : Nat) (h : i < L.length), ∃ x, xs[i]? = some x ∧ InnerAt w B0 v x L[i]
theorem ListsI.nil (w : World) (B B0 : Nat) : ListsI w B B0 (.slice none 0 0) [] := ⟨[], World.ownsRow_nil _ _ _ _, by simp⟩
theorem ListsI.below {w w' : World} {B B0 : Nat} {v : Value} {L : List (List Int)} (h : ListsI w B B0 v L) (hb : Below w.heap.size w w') : ListsI w' B B0 v L := by
  obtain ⟨xs, ⟨h1, h2⟩, h3⟩ := h
  refine ⟨xs, ⟨h1, ?_⟩, fun i hi => ?_⟩
  · rcases h2 with h2 | ⟨g, cap, cur, hv, hg, hh, r⟩
    · exact .inl h2
    · exact .inr ⟨g, cap, cur, hv, hg, (hb.block g (Array.getElem?_eq_some_iff.1 hh).1).trans hh, r⟩
  · obtain ⟨x, hx, hin⟩ := h3 i hi
    exact ⟨x, hx, hin.keep fun b _ hb' hv => ⟨hb.block b hb', hv⟩⟩
theorem ListsI.mono {w : World} {B B' B0 B0' : Nat} {v : Value} {L : List (List Int)} (h : ListsI w B B0 v L) (hB : B' ≤ B) (hB0 : B0' ≤ B0) : ListsI w B' B0' v L := by
  obtain ⟨xs, ⟨h1, h2⟩, h3⟩ := h
  refine ⟨xs, ⟨h1, ?_⟩, fun i hi => let ⟨x, hx, hin⟩ := h3 i hi; ⟨x, hx, hin.mono hB0⟩⟩
  rcases h2 with h2 | ⟨g, cap, cur, hv, hg, r⟩
  · exact .inl h2
  · exact .inr ⟨g, cap, cur, hv, Nat.le_trans hB hg, r⟩
theorem ListsI.block_lt {w : World} {B B0 b : Nat} {v : Value} {L : List (List Int)} (h : ListsI w B B0 v L) (hb : v.ownBlock = some b) : b < w.heap.size ∧ B ≤ b := by
  obtain ⟨xs, ⟨_, h2⟩, _⟩ := h
  rcases h2 with ⟨hv, _⟩ | ⟨g, cap, cur, hv, hg, hh, r⟩
  · subst hv; simp [Value.ownBlock] at hb
  · subst hv; simp [Value.ownBlock] at hb; subst hb; exact ⟨(Array.getElem?_eq_some_iff.1 hh).1, hg⟩
/-- The slice's form, and the cell of a row. -/
theorem ListsI.form {w : World} {B B0 : Nat} {v : Value} {L : List (List Int)} (h : ListsI w B B0 v L) : ∃ a cap, v = .slice a L.length cap ∧
    ∀ (i : Nat) (h : i < L.length), ∃ g x, a = some ⟨g, 0, none⟩ ∧ w.cell? ⟨g, i, none⟩ = some x ∧ InnerAt w B0 v x L[i] := by
  obtain ⟨xs, ⟨h1, h2⟩, h3⟩ := h
  rcases h2 with ⟨hv, hn⟩ | ⟨g, cap, cur, hv, hg, hh, hc, hm, hs, ht⟩
  · have : L = [] := List.length_eq_zero_iff.1 hn
    subst this
    exact ⟨none, 0, hv, fun i hi => by simp at hi⟩
  · refine ⟨_, cap, hv, fun i hi => ?_⟩
    obtain ⟨x, hx, hin⟩ := h3 i hi
    refine ⟨g, x, rfl, ?_, hin⟩
    have e : cur[i]? = some x := by
      rw [← Array.getElem?_toList]
      have : (cur.toList.take (L.length * 1))[i]? = cur.toList[i]? := by rw [List.getElem?_take, if_pos (by omega)]
      rw [← this, ht]; exact hx
    simp [World.cell?, hh, e]
theorem run_app_lists (w : World) (ty : TypeId) (B B0 : Nat) (v : Value) (L : List (List Int)) (hown : ListsI w B B0 v L) (B1 B2 : Nat) (A : Option Addr) (c : Nat) (M : List (List Int)) (hM : ListsI w B1 B2 (.slice A M.length c) M)
    (hsep : ∀ b, v.ownBlock = some b → b < B2) (hB0 : B0 ≤ B2) (hlen : L.length + M.length ≤ 10000000) (hbase : B ≤ w.heap.size) :
    ∃ v' w', (Builtin.append_ #[54, 54] ty #[v, .slice A M.length c]).run Try.prog w = .ok v' w' ∧ ListsI w' B B0 v' (L ++ M) ∧ Below B w w' ∧ w.grownBy w' v.ownBlock ∧ (v'.ownBlock = v.ownBlock ∨ v'.ownBlock = some w.heap.size) := by
  obtain ⟨i0, hi, hz0, hz1, hz2⟩ := info_parts info_ints
  have hblk : ∀ k, v.ownBlock = some k → B ≤ k := fun k hk => (hown.block_lt hk).2
  obtain ⟨xs, hrow, hin⟩ := hown
  have hxl : xs.length = L.length := by have := hrow.1; omega
  obtain ⟨ys, hrowM, hinM⟩ := hM
  have hyl : ys.length = M.length := by have := hrowM.1; omega
  cases A with
  | none =>
    have hM0 : M = [] := by
      rcases hrowM.2 with ⟨_, hn⟩ | ⟨g2, cap2, cur, hv, _⟩
      · exact List.length_eq_zero_iff.1 hn
      · simp at hv
    subst hM0
    refine ⟨v, w, ?_, ⟨xs, by simpa using hrow, fun i hi => ?_⟩, Below.refl _ _, ⟨rfl, rfl, rfl, Nat.le_refl _, fun _ _ _ => rfl⟩, .inl rfl⟩
    · rcases hrow.2 with ⟨rfl, h0⟩ | ⟨g, cap, cur, rfl, _, _, hc, _⟩
      · simp [Builtin.append_, run_underlying Try.underlying54, sizeOf, typeInfo, hi, Builtin.lenOf, Builtin.firstCells]
      · simp [Builtin.append_, run_underlying Try.underlying54, sizeOf, typeInfo, hi, Builtin.lenOf, Builtin.firstCells, hc, storeCells]
    · have hi' : i < L.length := by simpa using hi
      obtain ⟨x, hx, hxin⟩ := hin i hi'
      exact ⟨x, hx, by simpa using hxin⟩
  | some ad =>
    obtain ⟨v', w', h1, h2, h3, h4, h5⟩ := run_append_own_at (P := Try.prog) w B 54 ty 27 i0 (.slice none 0 0) 1 24 Try.underlying54 hi hz0 hz1 hz2 rfl (by decide) v L.length xs hrow ad M.length c ys (by omega) (by
        intro j u hj
        have hjl : j < M.length := by have := (List.getElem?_eq_some_iff.1 hj).1; omega
        rcases hrowM.2 with ⟨hv, hn⟩ | ⟨g2, cap2, cur, hv, hg, hh, hc, hm, hs, ht⟩
        · omega
        · obtain rfl : ad = ⟨g2, 0, none⟩ := by simp only [Value.slice.injEq, Option.some.injEq] at hv; exact hv.1
          have e : cur[j]? = some u := by
            rw [← Array.getElem?_toList]
            have : (cur.toList.take (M.length * 1))[j]? = cur.toList[j]? := by rw [List.getElem?_take, if_pos (by omega)]
            rw [← this, ht]; exact hj
          rw [addr_add]
          simp [World.cell?, hh, e]) (by
        intro u hu
        obtain ⟨j, hj⟩ := List.mem_iff_getElem?.1 hu
        have hjl : j < M.length := by have := (List.getElem?_eq_some_iff.1 hj).1; omega
        obtain ⟨y, hy, a, cap, hyx, _⟩ := hinM j hjl
        rw [hj] at hy
        obtain rfl : u = y := by simpa using hy
        rw [hyx]; rfl) (by unfold maxLen; omega) (by omega) hbase
    refine ⟨v', w', h1, ⟨xs ++ ys, by rw [List.length_append]; exact h2, fun i hi => ?_⟩, Below.grown (Below.refl _ _) h3 hbase hblk, h3, h5⟩
    have keep : ∀ b, b < w.heap.size → v.ownBlock ≠ some b → w'.heap[b]? = w.heap[b]? ∧ v'.ownBlock ≠ some b := fun b hb hv => by
      refine ⟨h3.block b hb (fun e => hv e.symm), fun e => ?_⟩
      rcases h5 with h5 | h5
      · exact hv (h5.symm.trans e)
      · rw [h5] at e; simp at e; omega
    rw [List.length_append] at hi
    by_cases e : i < L.length
    · obtain ⟨y, hy, hyin⟩ := hin i e
      refine ⟨y, by rw [List.getElem?_append_left (by omega)]; exact hy, ?_⟩
      rw [List.getElem_append_left e]
      exact hyin.keep fun b _ hb hv => keep b hb hv
    · obtain ⟨y, hy, a, cap, hyx, hrest⟩ := hinM (i - L.length) (by omega)
      refine ⟨y, by rw [List.getElem?_append_right (by omega), hxl]; exact hy, ?_⟩
      rw [List.getElem_append_right (by omega)]
      refine ⟨a, cap, hyx, ?_⟩
      rcases hrest with h | ⟨b, o, hb1, hb2, hb3, hb4⟩
      · exact .inl h
      · by_cases hz : M[i - L.length] = []
        · exact .inl hz
        refine .inr ⟨b, o, hb1, by omega, ?_, fun j hj => ?_⟩
        · have hlt := lt_of_cell (hb4 0 (List.length_pos_iff.2 hz))
          exact (keep b hlt (fun e => by have := hsep b e; omega)).2
        · have hlt := lt_of_cell (hb4 j hj)
          rw [World.cell?_of_block (w := w) (keep b hlt (fun e => by have := hsep b e; omega)).1]
          exact hb4 j hj
end Go.Proofs.Ytjgkgnfhglhklaa
