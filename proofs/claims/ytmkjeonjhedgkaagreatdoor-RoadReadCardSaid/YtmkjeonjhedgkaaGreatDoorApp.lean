/- append of strips that come in onto a slice of the call's own, and copies of roads. -/
import Derived.Test.YtmkjeonjhedgkaaGreatDoorFewerP
import Derived.Maps.AppendAt
import Derived.Deep.AppendLies
import Derived.RegionTactic
namespace Go.Proofs.YtmkjeonjhedgkaaGreatDoor
set_option linter.unusedSimpArgs false
set_option linter.unusedVariables false
open Go.RowKit

theorem addr_add (b o j : Nat) : (⟨b, o, none⟩ : Addr).add j = ⟨b, o + j, none⟩ := by
  unfold Addr.add; split
  · rename_i h; subst h; rfl
  · rfl
theorem StripAt.nth {w : World} {b o : Nat} {s : Strip} (h : StripAt w b o s) : ∀ j, j < 7 → w.cell? ⟨b, o + j, none⟩ = s.cells[j]? := by
  intro j hj
  obtain rfl | rfl | rfl | rfl | rfl | rfl | rfl : j = 0 ∨ j = 1 ∨ j = 2 ∨ j = 3 ∨ j = 4 ∨ j = 5 ∨ j = 6 := by omega
  · exact h.c0
  · exact h.c1
  · exact h.c2
  · exact h.c3
  · exact h.c4
  · exact h.c5
  · exact h.c6
theorem StripAt.of_nth {w : World} {b o : Nat} {s : Strip} (h : ∀ j, j < 7 → w.cell? ⟨b, o + j, none⟩ = s.cells[j]?) : StripAt w b o s :=
  ⟨h 0 (by omega), h 1 (by omega), h 2 (by omega), h 3 (by omega), h 4 (by omega), h 5 (by omega), h 6 (by omega)⟩
/-- One field of one strip is stored. -/
theorem StripsIn.put {w : World} {g : Nat} {l : List Strip} (h : StripsIn w g l) {k j : Nat} (hk : k < l.length) (hj : j < 7) (s : Strip) (x : Value) (hs : s.cells = l[k].cells.set j x) :
    StripsIn (w.setCell ⟨g, k * 7 + j, none⟩ x) g (l.set k s) := by
  have other : ∀ o, o ≠ k * 7 + j → (w.setCell ⟨g, k * 7 + j, none⟩ x).cell? ⟨g, o, none⟩ = w.cell? ⟨g, o, none⟩ := fun o ho =>
    World.cell?_setCell_other w _ _ _ (fun e => by injection e with _ e2; omega)
  refine ⟨fun i hi => StripAt.of_nth fun n hn => ?_, fun o => by rw [World.frozen?_setCell]; exact h.free o⟩
  rw [List.length_set] at hi
  have h0 := (h.at_ i hi).nth n hn
  by_cases e : k = i
  · subst e
    rw [List.getElem_set_self, hs, List.getElem?_set]
    by_cases en : j = n
    · subst en
      have hl : j < l[k].cells.length := by simpa [Strip.cells] using hj
      rw [if_pos rfl, if_pos hl]
      rw [List.getElem?_eq_getElem hl] at h0
      exact World.cell?_setCell_same w _ _ h0
    · rw [if_neg en, other _ (by omega)]; exact h0
  · rw [List.getElem_set_ne e, other _ (by omega)]; exact h0

theorem run_app_nil (w : World) (ty : TypeId) (base : Nat) (v : Value) (l : List Strip) (hown : OwnStrips w base v l) (c : Nat) : (Builtin.append_ #[22, 22] ty #[v, .slice none 0 c]).run Tryz.prog w = .ok v w := by
  obtain ⟨i0, hi, hz0, hz1, hz2⟩ := info_parts (P := Tryz.prog) (e := 63) (z := .agg #[.int .i64 0, .int .i64 0, .int .i64 0, .int .i64 0, .int .i64 0, .int .i64 0, .int .i64 0]) (size := 7) (bytes := 56) (by kernel_rfl)
  rcases hown.2 with ⟨rfl, h0⟩ | ⟨g, cap, cur, rfl, _, _, hc, _⟩
  · simp [Builtin.append_, run_underlying Tryz.underlying22, sizeOf, typeInfo, hi, Builtin.lenOf, Builtin.firstCells]
  · simp [Builtin.append_, run_underlying Tryz.underlying22, sizeOf, typeInfo, hi, Builtin.lenOf, Builtin.firstCells, hc, storeCells]
theorem run_app_strips (w : World) (ty : TypeId) (base : Nat) (v : Value) (l : List Strip) (hown : OwnStrips w base v l) (A : Option Addr) (c : Nat) (ys : List Strip) (hr : StripsAt w A ys) (hlen : l.length + ys.length ≤ 1000) (hbase : base ≤ w.heap.size) :
    ∃ v' w', (Builtin.append_ #[22, 22] ty #[v, .slice A ys.length c]).run Tryz.prog w = .ok v' w' ∧ OwnStrips w' base v' (l ++ ys) ∧ Below base w w' ∧ (v ≠ .slice none 0 0 → v' ≠ .slice none 0 0) := by
  obtain ⟨i0, hi, hz0, hz1, hz2⟩ := info_parts (P := Tryz.prog) (e := 63) (z := .agg #[.int .i64 0, .int .i64 0, .int .i64 0, .int .i64 0, .int .i64 0, .int .i64 0, .int .i64 0]) (size := 7) (bytes := 56) (by kernel_rfl)
  have hblk : ∀ k, v.ownBlock = some k → base ≤ k := fun k hk => by
    rcases hown.2 with ⟨rfl, _⟩ | ⟨g, cap, cur, rfl, hg, _⟩
    · simp [Value.ownBlock] at hk
    · simp [Value.ownBlock] at hk; omega
  cases A with
  | none =>
    have : ys = [] := by rcases hr with h | ⟨_, _, h, _⟩; exact h; simp at h
    subst this
    exact ⟨v, w, run_app_nil w ty base v l hown c, by simpa using hown, Below.refl _ _, id⟩
  | some ad =>
    obtain ⟨v', w', h1, h2, h3, h4, h5⟩ := run_append_own_at (P := Tryz.prog) w base 22 ty 63 i0 _ 7 56 Tryz.underlying22 hi hz0 hz1 hz2 (by simp [Value.cells]) (by decide) v l.length _ hown ad ys.length c (ys.flatMap Strip.cells) (cells_len ys) (by
        intro j u hj
        have hjl : j < ys.length * 7 := by rw [← cells_len]; exact (List.getElem?_eq_some_iff.1 hj).1
        rcases hr with h | ⟨b, o, he, h⟩
        · subst h; simp at hjl
        · cases he
          have hi7 : j / 7 < ys.length := by omega
          have e : j = j / 7 * 7 + j % 7 := by omega
          have h7 := (h (j / 7) hi7).nth (j % 7) (by omega)
          rw [e, cells_get ys (j / 7) (j % 7) hi7 (by omega)] at hj
          rw [addr_add, show o + j = o + j / 7 * 7 + j % 7 by omega, h7, hj]) (by
        intro u hu
        obtain ⟨s, _, hu⟩ := List.mem_flatMap.1 hu
        simp only [Strip.cells, List.mem_cons, List.not_mem_nil, or_false] at hu
        rcases hu with rfl | rfl | rfl | rfl | rfl | rfl | rfl <;> rfl) (by unfold maxLen; omega) (by omega) hbase
    refine ⟨v', w', h1, ?_, Below.grown (Below.refl _ _) h3 hbase hblk, fun hv e => hv (h4.1 e).1⟩
    unfold OwnStrips
    rw [List.length_append, List.flatMap_append]
    exact h2
theorem wp_app_strips {o : Oper} {a : Act} {K : Act → World → Prop} {Q : Exit → Act → World → Prop} {w : World} (s x : Operand)
    (ho : o.op = .call { callee := .builtin .append, args := #[s, x], argTypes := #[22, 22] })
    (base : Nat) (v : Value) (l : List Strip) (hs : a.eval s = v) (hown : OwnStrips w base v l) (A : Option Addr) (c : Nat) (m : Nat) (ys : List Strip) (hm : ys.length = m) (hx : a.eval x = .slice A m c) (hr : StripsAt w A ys) (hlen : l.length + ys.length ≤ 1000) (hbase : base ≤ w.heap.size)
    (h : ∀ v' w', OwnStrips w' base v' (l ++ ys) → Below base w w' → (v ≠ .slice none 0 0 → v' ≠ .slice none 0 0) → K (a.put o.dst v') w') : o.wp Tryz.prog a w K Q := by
  subst hm
  obtain ⟨v', w', hrun, h2, h3, h4⟩ := run_app_strips w o.type base v l hown A c ys hr hlen hbase
  unfold Oper.wp execOp
  simp only [ho, resolve, invoke, builtin, Sem.run_bind, Sem.run_pure, Result.andThen_ok, List.map_toArray, List.map_cons, List.map_nil, hs, hx, hrun]
  exact h v' w' h2 h3 h4
/-- In a plain region. -/
theorem list_app_strips {ops : Array Oper} {rest : List Oper} {o : Oper} {a : Act} {Q : Exit → Act → World → Prop} {w : World} (hgd : o.guard = none) (s x : Operand)
    (ho : o.op = .call { callee := .builtin .append, args := #[s, x], argTypes := #[22, 22] })
    (base : Nat) (v : Value) (l : List Strip) (hs : a.eval s = v) (hown : OwnStrips w base v l) (A : Option Addr) (c : Nat) (m : Nat) (ys : List Strip) (hm : ys.length = m) (hx : a.eval x = .slice A m c) (hr : StripsAt w A ys) (hlen : l.length + ys.length ≤ 1000) (hbase : base ≤ w.heap.size)
    (h : ∀ v' w', OwnStrips w' base v' (l ++ ys) → Below base w w' → (v ≠ .slice none 0 0 → v' ≠ .slice none 0 0) → wpList Tryz.prog ops Q rest (a.put o.dst v') w') : wpList Tryz.prog ops Q (o :: rest) a w :=
  wpList_plain hgd fun _ hK => wp_app_strips s x ho base v l hs hown A c m ys hm hx hr hlen hbase fun v' w' h2 h3 h4 => hK _ _ (h v' w' h2 h3 h4)
/-- In a region that draws. -/
theorem step_app_strips {ops : Array Oper} {o : Oper} {a : Act} {K : Act → World → Prop} {Q : Exit → Act → World → Prop} {E : Prop} {w : World} (hgd : o.guard = none) (s x : Operand)
    (ho : o.op = .call { callee := .builtin .append, args := #[s, x], argTypes := #[22, 22] })
    (base : Nat) (v : Value) (l : List Strip) (hs : a.eval s = v) (hown : OwnStrips w base v l) (A : Option Addr) (c : Nat) (m : Nat) (ys : List Strip) (hm : ys.length = m) (hx : a.eval x = .slice A m c) (hr : StripsAt w A ys) (hlen : l.length + ys.length ≤ 1000) (hbase : base ≤ w.heap.size)
    (h : ∀ v' w', OwnStrips w' base v' (l ++ ys) → Below base w w' → (v ≠ .slice none 0 0 → v' ≠ .slice none 0 0) → K (a.put o.dst v') w') :
    if Region.wanted o (yielded ops a.tmps) = true then Oper.wp Tryz.prog o a w K Q else E := by
  rw [if_pos (by simp [Region.wanted, hgd])]
  exact wp_app_strips s x ho base v l hs hown A c m ys hm hx hr hlen hbase h

theorem own_empty (w : World) (B : Nat) (hB : B ≤ w.heap.size) : OwnStrips (w.alloc (.cells #[] 63)) B (.slice (some ⟨w.heap.size, 0, none⟩) 0 0) [] :=
  ⟨rfl, .inr ⟨w.heap.size, 0, #[], rfl, hB, heap_alloc_new w _, by simp, by unfold maxLen; omega, by simp, by simp⟩⟩

end Go.Proofs.YtmkjeonjhedgkaaGreatDoor
