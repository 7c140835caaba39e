/- append of ints onto a slice of the call's own, and mestakit.CopyInts. -/
import Derived.Test.YtjgkgnfhglhklaaApp
namespace Go.Proofs.Ytjgkgnfhglhklaa
set_option linter.unusedSimpArgs false
set_option linter.unusedVariables false
open Go.RowKit

theorem run_app_nilI (w : World) (ty : TypeId) (base : Nat) (v : Value) (l : List Int) (hown : OwnInts w base v l) (c : Nat) : (Builtin.append_ #[27, 27] ty #[v, .slice none 0 c]).run Try.prog w = .ok v w := by
  obtain ⟨i0, hi, hz0, hz1, hz2⟩ := info_parts info_int
  rcases hown.2 with ⟨rfl, h0⟩ | ⟨g, cap, cur, rfl, _, _, hc, _⟩
  · simp [Builtin.append_, run_underlying Try.underlying27, sizeOf, typeInfo, hi, Builtin.lenOf, Builtin.firstCells]
  · simp [Builtin.append_, run_underlying Try.underlying27, sizeOf, typeInfo, hi, Builtin.lenOf, Builtin.firstCells, hc, storeCells]
theorem run_app_ints (w : World) (ty : TypeId) (base : Nat) (v : Value) (l : List Int) (hown : OwnInts w base v l) (A : Option Addr) (c : Nat) (ys : List Int) (hr : IntsAt w A ys) (hlen : l.length + ys.length ≤ 100000) (hbase : base ≤ w.heap.size) :
    ∃ v' w', (Builtin.append_ #[27, 27] ty #[v, .slice A ys.length c]).run Try.prog w = .ok v' w' ∧ OwnInts w' base v' (l ++ ys) ∧ Below base w w' ∧ w.grownBy w' v.ownBlock := by
  obtain ⟨i0, hi, hz0, hz1, hz2⟩ := info_parts info_int
  have hblk : ∀ k, v.ownBlock = some k → base ≤ k := fun k hk => by
    rcases hown.2 with ⟨rfl, _⟩ | ⟨g, cap, cur, rfl, hg, _⟩
    · simp [Value.ownBlock] at hk
    · simp [Value.ownBlock] at hk; omega
  cases A with
  | none =>
    have : ys = [] := by rcases hr with h | ⟨_, _, h, _⟩; exact h; simp at h
    subst this
    exact ⟨v, w, run_app_nilI w ty base v l hown c, by simpa using hown, Below.refl _ _, ⟨rfl, rfl, rfl, Nat.le_refl _, fun _ _ _ => rfl⟩⟩
  | some ad =>
    obtain ⟨v', w', h1, h2, h3, h4, h5⟩ := run_append_own_at (P := Try.prog) w base 27 ty 3 i0 _ 1 8 Try.underlying27 hi hz0 hz1 hz2 (by simp [Value.cells]) (by decide) v l.length _ hown ad ys.length c (ys.map (Value.int .i64)) (by simp) (by
        intro j u hj
        have hjl : j < ys.length := by simpa using (List.getElem?_eq_some_iff.1 hj).1
        rcases hr with h | ⟨b, o, he, h⟩
        · subst h; simp at hjl
        · cases he
          rw [addr_add, h j hjl]
          simpa [hjl] using hj) (by
        intro u hu
        obtain ⟨s, _, rfl⟩ := List.mem_map.1 hu
        rfl) (by unfold maxLen; omega) (by omega) hbase
    refine ⟨v', w', h1, ?_, Below.grown (Below.refl _ _) h3 hbase hblk, h3⟩
    unfold OwnInts
    rw [List.length_append, List.map_append]
    exact h2
theorem wp_app_ints {o : Oper} {a : Act} {K : Act → World → Prop} {Q : Exit → Act → World → Prop} {w : World} (s x : Operand)
    (ho : o.op = .call { callee := .builtin .append, args := #[s, x], argTypes := #[27, 27] })
    (base : Nat) (v : Value) (l : List Int) (hs : a.eval s = v) (hown : OwnInts w base v l) (A : Option Addr) (c : Nat) (m : Nat) (ys : List Int) (hm : ys.length = m) (hx : a.eval x = .slice A m c) (hr : IntsAt w A ys) (hlen : l.length + ys.length ≤ 100000) (hbase : base ≤ w.heap.size)
    (h : ∀ v' w', OwnInts w' base v' (l ++ ys) → Below base w w' → w.grownBy w' v.ownBlock → K (a.put o.dst v') w') : o.wp Try.prog a w K Q := by
  subst hm
  obtain ⟨v', w', hrun, h2, h3, h4⟩ := run_app_ints w o.type base v l hown A c ys hr hlen hbase
  unfold Oper.wp execOp
  simp only [ho, resolve, invoke, builtin, Sem.run_bind, Sem.run_pure, Result.andThen_ok, List.map_toArray, List.map_cons, List.map_nil, hs, hx, hrun]
  exact h v' w' h2 h3 h4
theorem list_app_ints {ops : Array Oper} {rest : List Oper} {o : Oper} {a : Act} {Q : Exit → Act → World → Prop} {w : World} (hgd : o.guard = none) (s x : Operand)
    (ho : o.op = .call { callee := .builtin .append, args := #[s, x], argTypes := #[27, 27] })
    (base : Nat) (v : Value) (l : List Int) (hs : a.eval s = v) (hown : OwnInts w base v l) (A : Option Addr) (c : Nat) (m : Nat) (ys : List Int) (hm : ys.length = m) (hx : a.eval x = .slice A m c) (hr : IntsAt w A ys) (hlen : l.length + ys.length ≤ 100000) (hbase : base ≤ w.heap.size)
    (h : ∀ v' w', OwnInts w' base v' (l ++ ys) → Below base w w' → w.grownBy w' v.ownBlock → wpList Try.prog ops Q rest (a.put o.dst v') w') : wpList Try.prog ops Q (o :: rest) a w :=
  wpList_plain hgd fun _ hK => wp_app_ints s x ho base v l hs hown A c m ys hm hx hr hlen hbase fun v' w' h2 h3 h4 => hK _ _ (h v' w' h2 h3 h4)
theorem step_app_ints {ops : Array Oper} {o : Oper} {a : Act} {K : Act → World → Prop} {Q : Exit → Act → World → Prop} {E : Prop} {w : World} (hgd : o.guard = none) (s x : Operand)
    (ho : o.op = .call { callee := .builtin .append, args := #[s, x], argTypes := #[27, 27] })
    (base : Nat) (v : Value) (l : List Int) (hs : a.eval s = v) (hown : OwnInts w base v l) (A : Option Addr) (c : Nat) (m : Nat) (ys : List Int) (hm : ys.length = m) (hx : a.eval x = .slice A m c) (hr : IntsAt w A ys) (hlen : l.length + ys.length ≤ 100000) (hbase : base ≤ w.heap.size)
    (h : ∀ v' w', OwnInts w' base v' (l ++ ys) → Below base w w' → w.grownBy w' v.ownBlock → K (a.put o.dst v') w') :
    if Region.wanted o (yielded ops a.tmps) = true then Oper.wp Try.prog o a w K Q else E := by
  rw [if_pos (by simp [Region.wanted, hgd])]
  exact wp_app_ints s x ho base v l hs hown A c m ys hm hx hr hlen hbase h
theorem own_emptyI (w : World) (B : Nat) (hB : B ≤ w.heap.size) : OwnInts (w.alloc (.cells #[] 3)) B (.slice (some ⟨w.heap.size, 0, none⟩) 0 0) [] :=
  ⟨rfl, .inr ⟨w.heap.size, 0, #[], rfl, hB, heap_alloc_new w _, by simp, by unfold maxLen; omega, by simp, by simp⟩⟩

set_option maxRecDepth 100000 in
set_option maxHeartbeats 4000000 in
theorem CopyInts_any (w : World) (l : List Int) (a : Option Addr) (cap : Nat) (hs : IntsAt w a l) (hlen : l.length ≤ 500) :
    Calls Try.prog 97 #[.slice a l.length cap] w fun e w' => ∃ v, e = .returned v ∧ OwnInts w' w.heap.size v l ∧ Below w.heap.size w w' := by
  have hb : Below w.heap.size w (w.alloc (.cells #[] 3)) := (Below.refl _ _).alloc (Nat.le_refl _) _
  have hown := own_emptyI w w.heap.size (Nat.le_refl _)
  have hs2 := hs.below hb
  have HB := Lib.hid hb; clear hb
  go_enter Try.func97, Try.ntmps97
  go_wp2_with (at_builtin; refine list_app_ints rfl _ _ rfl w.heap.size _ [] rfl hown a cap _ l rfl rfl hs2 (by simp; omega) (by simp) ?_)
  intro v' w' hown' hb' _
  try simp only [List.nil_append] at hown'
  have HOW := Lib.hid hown'; clear hown'
  have HB2 := Lib.hid (HB.out.trans hb'); clear hb'
  go_wp2_with fail
  go_ret
  exact ⟨_, rfl, HOW.out, HB2.out⟩
end Go.Proofs.Ytjgkgnfhglhklaa
