/- The contracts of slices.Clone at []int and []Strip. -/
import Derived.Test.YtjgkgnfhglhklaaPlanPub
namespace Go.Proofs.Ytjgkgnfhglhklaa
set_option linter.unusedSimpArgs false
set_option linter.unusedVariables false
open Go.RowKit

/-- The cells of strips. -/
def Strip.cells (s : Strip) : List Value := [.int .i64 s.A, .int .i64 s.B, .int .i64 s.L, .int .i64 s.W, .int .i64 s.K, .int .i64 s.X, .int .i64 s.Y]
/-- A slice of strips of the call's own. -/
def OwnStrips (w : World) (B : Nat) (v : Value) (l : List Strip) : Prop := w.ownsRow B 57 7 v l.length (l.flatMap Strip.cells)

theorem cells_get : ∀ (l : List Strip) (i j : Nat) (hi : i < l.length), j < 7 → (l.flatMap Strip.cells)[i * 7 + j]? = (l[i].cells)[j]?
  | [], i, j, hi, _ => by simp at hi
  | s :: l, 0, j, hi, hj => by
    simp only [List.flatMap_cons, Nat.zero_mul, Nat.zero_add, List.getElem_cons_zero]
    rw [List.getElem?_append_left (by simpa [Strip.cells] using hj)]
  | s :: l, i + 1, j, hi, hj => by
    simp only [List.flatMap_cons, List.getElem_cons_succ]
    rw [List.getElem?_append_right (by simp [Strip.cells]; omega)]
    have := cells_get l i j (by simpa using hi) hj
    rw [← this]
    congr 1
    simp [Strip.cells]; omega
theorem cells_len (l : List Strip) : (l.flatMap Strip.cells).length = l.length * 7 := by
  induction l with
  | nil => rfl
  | cons s l ih => simp only [List.flatMap_cons, List.length_append, ih, List.length_cons]; simp [Strip.cells]; omega

set_option maxRecDepth 100000 in
set_option maxHeartbeats 4000000 in
theorem clone_ints_any (w : World) (b o cap : Nat) (l : List Int) (h : IntsAt w (some ⟨b, o, none⟩) l) (hlen : l.length ≤ 1000000) :
    Calls Try.prog 87 #[.slice (some ⟨b, o, none⟩) l.length cap] w fun e w' => ∃ v, e = .returned v ∧ OwnInts w' w.heap.size v l ∧ Below w.heap.size w w' := by
  have he : ∀ w : World, (binOp .eql 27 (.slice (some ⟨b, o, none⟩) l.length cap) (.slice none 0 0)).run Try.prog w = .ok (.bool false) w := fun _ => rfl
  obtain ⟨i0, hi, hz0, hz1, hz2⟩ := info_parts (P := Try.prog) (e := 3) (z := .int .i64 0) (size := 1) (bytes := 8) (by kernel_rfl)
  have HI := Lib.hid hi; have HZ := Lib.hid hz0; clear hi hz0
  go_enter Try.func87, Try.ntmps87
  go_wp2_with (at_builtin; refine wpList_append_own (w.alloc (.cells #[] 3)) rfl _ _ 27 rfl w.heap.size 3 i0 (.int .i64 0) 1 8 Try.underlying27 HI.out HZ.out hz1 hz2 rfl (by decide) (.slice (some ⟨w.heap.size, 0, none⟩) 0 0) 0 [] rfl ⟨rfl, .inr ⟨w.heap.size, 0, #[], rfl, Nat.le_refl _, heap_alloc_new w _, Nat.le_refl _, by unfold maxLen; omega, rfl, rfl⟩⟩ ⟨b, o, none⟩ l.length cap (l.map (Value.int .i64)) rfl (by simp) ?_ ?_ ?_ ?_ (by simp) ?_)
  · intro j u hj
    rw [List.getElem?_map] at hj
    cases hx : l[j]? with
    | none => simp [hx] at hj
    | some x =>
      simp [hx] at hj
      subst hj
      obtain ⟨hjl, rfl⟩ := List.getElem?_eq_some_iff.1 hx
      rcases h with h | ⟨b', o', e, h⟩
      · subst h; simp at hjl
      · simp only [Option.some.injEq, Addr.mk.injEq] at e
        obtain ⟨rfl, rfl, _⟩ := e
        have := h j hjl
        have hb := lt_of_cell this
        rw [show (⟨b, o, none⟩ : Addr).add j = ⟨b, o + j, none⟩ by simp [Addr.add]]
        rw [(bcell (Below.alloc (Below.refl _ _) (Nat.le_refl _) (.cells #[] 3))).1 _ _ hb]
        exact this
  · intro u hu; obtain ⟨x, _, rfl⟩ := List.mem_map.1 hu; rfl
  · unfold maxLen; omega
  · omega
  · intro v' w' h1 h2 _
    have hb : Below w.heap.size w w' := by
      refine Below.grown (Below.alloc (Below.refl _ _) (Nat.le_refl _) _) h2 (by simp) fun k hk => ?_
      simp [Value.ownBlock] at hk; omega
    go_wp2
    go_ret
    exact ⟨_, rfl, by unfold OwnInts; simpa using h1, hb⟩

set_option maxRecDepth 100000 in
set_option maxHeartbeats 4000000 in
theorem clone_strips_any (w : World) (ad : Addr) (cap : Nat) (l : List Strip) (h : StripsAt w (some ad) l) (hlen : l.length ≤ 1000000) :
    Calls Try.prog 122 #[.slice (some ad) l.length cap] w fun e w' => ∃ v, e = .returned v ∧ OwnStrips w' w.heap.size v l ∧ v ≠ .slice none 0 0 ∧ Below w.heap.size w w' := by
  have he : ∀ w : World, (binOp .eql 22 (.slice (some ad) l.length cap) (.slice none 0 0)).run Try.prog w = .ok (.bool false) w := fun _ => rfl
  obtain ⟨i0, hi, hz0, hz1, hz2⟩ := info_parts (P := Try.prog) (e := 57) (z := .agg #[.int .i64 0, .int .i64 0, .int .i64 0, .int .i64 0, .int .i64 0, .int .i64 0, .int .i64 0]) (size := 7) (bytes := 56) (by kernel_rfl)
  have HI := Lib.hid hi; have HZ := Lib.hid hz0; clear hi hz0
  go_enter Try.func122, Try.ntmps122
  go_wp2_with (at_builtin; refine wpList_append_own (w.alloc (.cells #[] 57)) rfl _ _ 22 rfl w.heap.size 57 i0 (.agg #[.int .i64 0, .int .i64 0, .int .i64 0, .int .i64 0, .int .i64 0, .int .i64 0, .int .i64 0]) 7 56 Try.underlying22 HI.out HZ.out hz1 hz2 (by simp [Value.cells]) (by decide) (.slice (some ⟨w.heap.size, 0, none⟩) 0 0) 0 [] rfl ⟨rfl, .inr ⟨w.heap.size, 0, #[], rfl, Nat.le_refl _, heap_alloc_new w _, Nat.le_refl _, by unfold maxLen; omega, rfl, rfl⟩⟩ ad l.length cap (l.flatMap Strip.cells) rfl (cells_len l) ?_ ?_ ?_ ?_ (by simp) ?_)
  · intro j u hj
    have hjl : j < (l.flatMap Strip.cells).length := (List.getElem?_eq_some_iff.1 hj).1
    rw [cells_len] at hjl
    have hi7 : j / 7 < l.length := by omega
    have hj7 : j % 7 < 7 := Nat.mod_lt _ (by omega)
    have e := cells_get l (j / 7) (j % 7) hi7 hj7
    rw [show j / 7 * 7 + j % 7 = j by omega, hj] at e
    rcases h with h | ⟨b', o', e', h⟩
    · subst h; simp at hi7
    · simp only [Option.some.injEq] at e'
      subst e'
      obtain ⟨s0, s1, s2, s3, s4, s5, s6⟩ := h (j / 7) hi7
      have hb := lt_of_cell s0
      rw [show (⟨b', o', none⟩ : Addr).add j = ⟨b', o' + j, none⟩ by simp [Addr.add]]
      rw [(bcell (Below.alloc (Below.refl _ _) (Nat.le_refl _) (.cells #[] 57))).1 _ _ hb]
      generalize hr : j % 7 = r at e hj7
      have hoj : o' + j = o' + j / 7 * 7 + r := by omega
      rw [hoj]
      obtain rfl | rfl | rfl | rfl | rfl | rfl | rfl : r = 0 ∨ r = 1 ∨ r = 2 ∨ r = 3 ∨ r = 4 ∨ r = 5 ∨ r = 6 := by omega
      all_goals simp only [Strip.cells, List.getElem?_cons_zero, List.getElem?_cons_succ, Option.some.injEq] at e
      all_goals subst e
      all_goals assumption
  · intro u hu
    obtain ⟨x, _, hx⟩ := List.mem_flatMap.1 hu
    simp only [Strip.cells, List.mem_cons, List.not_mem_nil, or_false] at hx
    rcases hx with rfl | rfl | rfl | rfl | rfl | rfl | rfl <;> rfl
  · unfold maxLen; omega
  · omega
  · intro v' w' h1 h2 h3
    have h3' : v' ≠ .slice none 0 0 := fun e => by simpa using h3 e
    clear h3
    have hb : Below w.heap.size w w' := by
      refine Below.grown (Below.alloc (Below.refl _ _) (Nat.le_refl _) _) h2 (by simp) fun k hk => ?_
      simp [Value.ownBlock] at hk; omega
    go_wp2
    go_ret
    exact ⟨_, rfl, by unfold OwnStrips; simpa using h1, h3', hb⟩
set_option maxRecDepth 100000 in
theorem clone_strips_none (w : World) (n cap : Nat) :
    Calls Try.prog 122 #[.slice none n cap] w fun e w' => e = .returned (.slice none 0 0) ∧ w = w' := by
  have he : ∀ w : World, (binOp .eql 22 (.slice none n cap) (.slice none 0 0)).run Try.prog w = .ok (.bool true) w := fun _ => rfl
  go_enter Try.func122, Try.ntmps122
  go_wp2_with fail
  go_ret
  exact ⟨rfl, rfl⟩
end Go.Proofs.Ytjgkgnfhglhklaa
