/- append of strides that come in onto a slice of the call's own, and mestakit.CopyStrides. -/
import Derived.Test.YtjgkgnfhglhklaaApp
import Derived.Test.YtjgkgnfhglhklaaAfoot
namespace Go.Proofs.Ytjgkgnfhglhklaa
set_option linter.unusedSimpArgs false
set_option linter.unusedVariables false
open Go.RowKit

/-- The cells of strides. -/
abbrev strideCells (l : List (Int × Int)) : List Value := l.flatMap fun x => [Value.int .i64 x.1, Value.int .i64 x.2]
theorem strideCells_len : ∀ l : List (Int × Int), (strideCells l).length = l.length * 2
  | [] => rfl
  | x :: l => by
    have := strideCells_len l
    simp only [strideCells, List.flatMap_cons, List.length_append, List.length_cons, List.length_nil] at this ⊢
    omega
theorem strideCells_get : ∀ (l : List (Int × Int)) (i : Nat) (h : i < l.length), (strideCells l)[i * 2]? = some (.int .i64 l[i].1) ∧ (strideCells l)[i * 2 + 1]? = some (.int .i64 l[i].2)
  | [], i, h => by simp at h
  | x :: l, 0, h => by simp [strideCells]
  | x :: l, i + 1, h => by
    obtain ⟨h1, h2⟩ := strideCells_get l i (by simpa using h)
    simp only [strideCells, List.flatMap_cons, List.getElem_cons_succ]
    rw [show (i + 1) * 2 = i * 2 + 1 + 1 by omega]
    exact ⟨by simpa [strideCells] using h1, by simpa [strideCells] using h2⟩

theorem run_app_nilS (w : World) (ty : TypeId) (base : Nat) (v : Value) (l : List (Int × Int)) (hown : OwnStrides w base v l) (c : Nat) : (Builtin.append_ #[40, 40] ty #[v, .slice none 0 c]).run Try.prog w = .ok v w := by
  obtain ⟨i0, hi, hz0, hz1, hz2⟩ := info_parts (P := Try.prog) (e := 89) (z := .agg #[.int .i64 0, .int .i64 0]) (size := 2) (bytes := 16) (by kernel_rfl)
  rcases hown.2 with ⟨rfl, h0⟩ | ⟨g, cap, cur, rfl, _, _, hc, _⟩
  · simp [Builtin.append_, run_underlying Try.underlying40, sizeOf, typeInfo, hi, Builtin.lenOf, Builtin.firstCells]
  · simp [Builtin.append_, run_underlying Try.underlying40, sizeOf, typeInfo, hi, Builtin.lenOf, Builtin.firstCells, hc, storeCells]
theorem run_app_strides (w : World) (ty : TypeId) (base : Nat) (v : Value) (l : List (Int × Int)) (hown : OwnStrides w base v l) (A : Option Addr) (c : Nat) (ys : List (Int × Int)) (hr : StridesAt w A ys) (hlen : l.length + ys.length ≤ 1000) (hbase : base ≤ w.heap.size) :
    ∃ v' w', (Builtin.append_ #[40, 40] ty #[v, .slice A ys.length c]).run Try.prog w = .ok v' w' ∧ OwnStrides w' base v' (l ++ ys) ∧ Below base w w' := by
  obtain ⟨i0, hi, hz0, hz1, hz2⟩ := info_parts (P := Try.prog) (e := 89) (z := .agg #[.int .i64 0, .int .i64 0]) (size := 2) (bytes := 16) (by kernel_rfl)
  have hblk : ∀ k, v.ownBlock = some k → base ≤ k := fun k hk => by
    rcases hown.2 with ⟨rfl, _⟩ | ⟨g, cap, cur, rfl, hg, _⟩
    · simp [Value.ownBlock] at hk
    · simp [Value.ownBlock] at hk; omega
  cases A with
  | none =>
    have : ys = [] := by rcases hr with h | ⟨_, _, h, _⟩; exact h; simp at h
    subst this
    exact ⟨v, w, run_app_nilS w ty base v l hown c, by simpa using hown, Below.refl _ _⟩
  | some ad =>
    obtain ⟨v', w', h1, h2, h3, h4, h5⟩ := run_append_own_at (P := Try.prog) w base 40 ty 89 i0 _ 2 16 Try.underlying40 hi hz0 hz1 hz2 (by simp [Value.cells]) (by decide) v l.length _ hown ad ys.length c (strideCells ys) (strideCells_len ys) (by
        intro j u hj
        have hjl : j < ys.length * 2 := by rw [← strideCells_len]; exact (List.getElem?_eq_some_iff.1 hj).1
        rcases hr with h | ⟨b, o, he, h⟩
        · subst h; simp at hjl
        · cases he
          have hi7 : j / 2 < ys.length := by omega
          obtain ⟨g1, g2⟩ := strideCells_get ys (j / 2) hi7
          obtain ⟨k1, k2⟩ := h (j / 2) hi7
          rw [addr_add]
          by_cases e : j % 2 = 0
          · have ej : j = j / 2 * 2 := by omega
            rw [ej] at hj
            rw [g1] at hj
            rw [ej, ← hj]
            have : j / 2 * 2 / 2 = j / 2 := by omega
            exact k1
          · have ej : j = j / 2 * 2 + 1 := by omega
            rw [ej] at hj
            rw [g2] at hj
            rw [ej, ← hj]
            exact k2) (by
        intro u hu
        obtain ⟨s, _, hu⟩ := List.mem_flatMap.1 hu
        simp only [List.mem_cons, List.not_mem_nil, or_false] at hu
        rcases hu with rfl | rfl <;> rfl) (by unfold maxLen; omega) (by omega) hbase
    refine ⟨v', w', h1, ?_, Below.grown (Below.refl _ _) h3 hbase hblk⟩
    unfold OwnStrides
    rw [List.length_append, List.flatMap_append]
    exact h2
theorem wp_app_strides {o : Oper} {a : Act} {K : Act → World → Prop} {Q : Exit → Act → World → Prop} {w : World} (s x : Operand)
    (ho : o.op = .call { callee := .builtin .append, args := #[s, x], argTypes := #[40, 40] })
    (base : Nat) (v : Value) (l : List (Int × Int)) (hs : a.eval s = v) (hown : OwnStrides w base v l) (A : Option Addr) (c : Nat) (m : Nat) (ys : List (Int × Int)) (hm : ys.length = m) (hx : a.eval x = .slice A m c) (hr : StridesAt w A ys) (hlen : l.length + ys.length ≤ 1000) (hbase : base ≤ w.heap.size)
    (h : ∀ v' w', OwnStrides w' base v' (l ++ ys) → Below base w w' → K (a.put o.dst v') w') : o.wp Try.prog a w K Q := by
  subst hm
  obtain ⟨v', w', hrun, h2, h3⟩ := run_app_strides w o.type base v l hown A c ys hr hlen hbase
  unfold Oper.wp execOp
  simp only [ho, resolve, invoke, builtin, Sem.run_bind, Sem.run_pure, Result.andThen_ok, List.map_toArray, List.map_cons, List.map_nil, hs, hx, hrun]
  exact h v' w' h2 h3
/-- In a plain region. -/
theorem list_app_strides {ops : Array Oper} {rest : List Oper} {o : Oper} {a : Act} {Q : Exit → Act → World → Prop} {w : World} (hgd : o.guard = none) (s x : Operand)
    (ho : o.op = .call { callee := .builtin .append, args := #[s, x], argTypes := #[40, 40] })
    (base : Nat) (v : Value) (l : List (Int × Int)) (hs : a.eval s = v) (hown : OwnStrides w base v l) (A : Option Addr) (c : Nat) (m : Nat) (ys : List (Int × Int)) (hm : ys.length = m) (hx : a.eval x = .slice A m c) (hr : StridesAt w A ys) (hlen : l.length + ys.length ≤ 1000) (hbase : base ≤ w.heap.size)
    (h : ∀ v' w', OwnStrides w' base v' (l ++ ys) → Below base w w' → wpList Try.prog ops Q rest (a.put o.dst v') w') : wpList Try.prog ops Q (o :: rest) a w :=
  wpList_plain hgd fun _ hK => wp_app_strides s x ho base v l hs hown A c m ys hm hx hr hlen hbase fun v' w' h2 h3 => hK _ _ (h v' w' h2 h3)
theorem own_emptyS (w : World) (B : Nat) (hB : B ≤ w.heap.size) : OwnStrides (w.alloc (.cells #[] 89)) B (.slice (some ⟨w.heap.size, 0, none⟩) 0 0) [] :=
  ⟨rfl, .inr ⟨w.heap.size, 0, #[], rfl, hB, heap_alloc_new w _, by simp, by unfold maxLen; omega, by simp, by simp⟩⟩

set_option maxRecDepth 100000 in
set_option maxHeartbeats 4000000 in
theorem CopyStrides_any (w : World) (l : List (Int × Int)) (a : Option Addr) (cap : Nat) (hs : StridesAt w a l) (hlen : l.length ≤ 500) :
    Calls Try.prog 67 #[.slice a l.length cap] w fun e w' => ∃ a' c', e = .returned (.slice a' l.length c') ∧ StridesAt w' a' l ∧ Below w.heap.size w w' := by
  have hb : Below w.heap.size w (w.alloc (.cells #[] 89)) := (Below.refl _ _).alloc (Nat.le_refl _) _
  have hown := own_emptyS w w.heap.size (Nat.le_refl _)
  have hs2 := hs.below hb
  have HB := Lib.hid hb; clear hb
  go_enter Try.func67, Try.ntmps67
  go_wp2_with (at_builtin; refine list_app_strides rfl _ _ rfl w.heap.size _ [] rfl hown a cap _ l rfl rfl hs2 (by simp; omega) (by simp) ?_)
  intro v' w' hown' hb'
  obtain ⟨a', c', rfl, hst⟩ := hown'.strides
  try simp only [List.nil_append] at hst ⊢
  have HST := Lib.hid hst; clear hst hown'
  have HB2 := Lib.hid (HB.out.trans hb'); clear hb'
  go_wp2_with fail
  go_ret
  exact ⟨a', c', rfl, HST.out, HB2.out⟩
end Go.Proofs.Ytjgkgnfhglhklaa
