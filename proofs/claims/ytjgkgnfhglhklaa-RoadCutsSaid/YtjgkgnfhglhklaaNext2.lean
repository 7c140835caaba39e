/- A walk that is made of another, in a region that draws its order: what holds when some of its operations are done. -/
import Derived.Test.YtjgkgnfhglhklaaSpec
import Derived.Test.YtjgkgnfhglhklaaCopyS
import Derived.Test.YtjgkgnfhglhklaaBeginR
/- A walk that is made of another: one law for each operation of a region that draws its order. -/
namespace Go.Proofs.Ytjgkgnfhglhklaa
set_option linter.unusedSimpArgs false
set_option linter.unusedVariables false
open Go.RowKit

/-- A box for a walk, still empty. -/
def BoxAt (w : World) (p : Nat) : Prop := w.cell? ⟨p, 0, none⟩ = some (.bool false) ∧ w.cell? ⟨p, 1, none⟩ = some (.int .i64 0) ∧ w.cell? ⟨p, 2, none⟩ = some (.slice none 0 0) ∧ w.frozen? ⟨p, 0, none⟩ = false ∧ w.frozen? ⟨p, 1, none⟩ = false ∧ w.frozen? ⟨p, 2, none⟩ = false
/-- A walk lies in its box. -/
def WalkIn (W2 w : World) (p : Nat) (a : Option Addr) (c n : Nat) (lg : Int) (l : List (Int × Int)) : Prop := w.cell? ⟨p, 0, none⟩ = some (.bool true) ∧ w.cell? ⟨p, 1, none⟩ = some (.int .i64 lg) ∧ w.cell? ⟨p, 2, none⟩ = some (.slice a n c) ∧ StridesAt w a l ∧ Below W2.heap.size W2 w
theorem WalkIn.drew {W2 w : World} {p : Nat} {a : Option Addr} {c n : Nat} {lg : Int} {l : List (Int × Int)} (h : WalkIn W2 w p a c n lg l) : WalkIn W2 w.drew p a c n lg l := ⟨h.1, h.2.1, h.2.2.1, h.2.2.2.1, h.2.2.2.2.drew⟩
/-- What the region has made so far: the plan that grows, the stride that is added, the box of the walk. -/
structure NStage (W2 W : World) (own : Option (Value × List (Int × Int))) (one : Option (Nat × Int × Int)) (box : Option Nat) : Prop where
  below : Below W2.heap.size W2 W
  own' : ∀ v l, own = some (v, l) → OwnStrides W W2.heap.size v l
  one' : ∀ g d i, one = some (g, d, i) → W2.heap.size ≤ g ∧ W.cell? ⟨g, 0, none⟩ = some (.int .i64 d) ∧ W.cell? ⟨g, 1, none⟩ = some (.int .i64 i)
  box' : ∀ p, box = some p → W2.heap.size ≤ p ∧ p < W.heap.size ∧ BoxAt W p
  s1 : ∀ v l g d i, own = some (v, l) → one = some (g, d, i) → v.ownBlock ≠ some g
  s2 : ∀ v l p, own = some (v, l) → box = some p → v.ownBlock ≠ some p
theorem NStage.start (W : World) : NStage W W none none none := ⟨Below.refl _ _, by simp, by simp, by simp, by simp, by simp⟩
theorem OwnStrides.keepB {w w' : World} {B : Nat} {v : Value} {l : List (Int × Int)} (h : OwnStrides w B v l) (hk : ∀ b, v.ownBlock = some b → w'.heap[b]? = w.heap[b]?) : OwnStrides w' B v l := by
  obtain ⟨h1, h2⟩ := h
  refine ⟨h1, ?_⟩
  rcases h2 with h2 | ⟨g, cap, cur, hv, hg, hh, r⟩
  · exact .inl h2
  · exact .inr ⟨g, cap, cur, hv, hg, (hk g (by rw [hv]; simp [Value.ownBlock])).trans hh, r⟩
theorem BoxAt.keep {w w' : World} {p : Nat} (h : BoxAt w p) (hk : w'.heap[p]? = w.heap[p]?) : BoxAt w' p := by
  obtain ⟨h1, h2, h3, h4, h5, h6⟩ := h
  exact ⟨(World.cell?_of_block hk).trans h1, (World.cell?_of_block hk).trans h2, (World.cell?_of_block hk).trans h3, (World.frozen?_of_block hk).trans h4, (World.frozen?_of_block hk).trans h5, (World.frozen?_of_block hk).trans h6⟩
section
variable {W2 w w' : World} {own : Option (Value × List (Int × Int))} {one : Option (Nat × Int × Int)} {box : Option Nat}
theorem NStage.keep (h : NStage W2 w own one box) (hb : Below w.heap.size w w') : NStage W2 w' own one box :=
  ⟨h.below.trans (hb.mono h.below.size), fun v l e => (h.own' v l e).below hb, fun g d i e => by
    obtain ⟨h1, h2, h3⟩ := h.one' g d i e
    exact ⟨h1, ((bcell hb).1 _ _ (lt_of_cell h2)).trans h2, ((bcell hb).1 _ _ (lt_of_cell h3)).trans h3⟩, fun p e => by
    obtain ⟨h1, h2, h3⟩ := h.box' p e
    exact ⟨h1, by have := hb.size; omega, h3.keep (hb.block p h2)⟩, h.s1, h.s2⟩
theorem NStage.drew (h : NStage W2 w own one box) : NStage W2 w.drew own one box := h.keep (Below.refl _ _).drew
theorem box_new (w : World) : BoxAt (w.alloc (.cells #[.bool false, .int .i64 0, .slice none 0 0] 104)) w.heap.size := by
  unfold BoxAt; simp [go_sem]
theorem NStage.newBox (h : NStage W2 w own one none) : NStage W2 (w.alloc (.cells #[.bool false, .int .i64 0, .slice none 0 0] 104)) own one (some w.heap.size) := by
  have hb : Below w.heap.size w (w.alloc (.cells #[.bool false, .int .i64 0, .slice none 0 0] 104)) := (Below.refl _ _).alloc (Nat.le_refl _) _
  have hk := h.keep hb
  refine ⟨hk.below, hk.own', hk.one', fun p e => ?_, hk.s1, fun v l p e1 e2 => ?_⟩
  · obtain rfl := Option.some.inj e
    exact ⟨h.below.size, by simp, box_new w⟩
  · obtain rfl := Option.some.inj e2
    intro hv
    have := ((h.own' v l e1).block_lt hv).1
    omega
theorem NStage.newOwn (h : NStage W2 w none one box) : NStage W2 (w.alloc (.cells #[] 89)) (some (.slice (some ⟨w.heap.size, 0, none⟩) 0 0, [])) one box := by
  have hb : Below w.heap.size w (w.alloc (.cells #[] 89)) := (Below.refl _ _).alloc (Nat.le_refl _) _
  have hk := h.keep hb
  refine ⟨hk.below, fun v l e => ?_, hk.one', hk.box', fun v l g d i e1 e2 => ?_, fun v l p e1 e2 => ?_⟩
  · simp only [Option.some.injEq, Prod.mk.injEq] at e
    obtain ⟨rfl, rfl⟩ := e
    exact own_emptyS w W2.heap.size h.below.size
  · simp only [Option.some.injEq, Prod.mk.injEq] at e1
    obtain ⟨rfl, rfl⟩ := e1
    have := lt_of_cell (h.one' g d i e2).2.1
    simp [Value.ownBlock]; omega
  · simp only [Option.some.injEq, Prod.mk.injEq] at e1
    obtain ⟨rfl, rfl⟩ := e1
    have := (h.box' p e2).2.1
    simp [Value.ownBlock]; omega
theorem NStage.newOne (h : NStage W2 w own none box) (d i : Int) : NStage W2 (w.alloc (.cells #[.int .i64 d, .int .i64 i] 89)) own (some (w.heap.size, d, i)) box := by
  have hb : Below w.heap.size w (w.alloc (.cells #[.int .i64 d, .int .i64 i] 89)) := (Below.refl _ _).alloc (Nat.le_refl _) _
  have hk := h.keep hb
  refine ⟨hk.below, hk.own', fun g d' i' e => ?_, hk.box', fun v l g d' i' e1 e2 => ?_, hk.s2⟩
  · simp only [Option.some.injEq, Prod.mk.injEq] at e
    obtain ⟨rfl, rfl, rfl⟩ := e
    exact ⟨h.below.size, by simp [go_sem], by simp [go_sem]⟩
  · simp only [Option.some.injEq, Prod.mk.injEq] at e2
    obtain ⟨rfl, rfl, rfl⟩ := e2
    intro hv
    have := ((h.own' v l e1).block_lt hv).1
    omega
theorem run_app_stridesG (w : World) (ty : TypeId) (base : Nat) (v : Value) (l : List (Int × Int)) (hown : OwnStrides w base v l) (A : Option Addr) (c : Nat) (ys : List (Int × Int)) (hr : StridesAt w A ys) (hlen : l.length + ys.length ≤ 2000) (hbase : base ≤ w.heap.size) :
    ∃ v' w', (Builtin.append_ #[40, 40] ty #[v, .slice A ys.length c]).run Try.prog w = .ok v' w' ∧ OwnStrides w' base v' (l ++ ys) ∧ Below base w w' ∧ w.grownBy w' v.ownBlock ∧ (v'.ownBlock = v.ownBlock ∨ v'.ownBlock = some w.heap.size) := by
  obtain ⟨i0, hi, hz0, hz1, hz2⟩ := info_parts (P := Try.prog) (e := 89) (z := .agg #[.int .i64 0, .int .i64 0]) (size := 2) (bytes := 16) (by kernel_rfl)
  have hblk : ∀ k, v.ownBlock = some k → base ≤ k := fun k hk => by
    rcases hown.2 with ⟨rfl, _⟩ | ⟨g, cap, cur, rfl, hg, _⟩
    · simp [Value.ownBlock] at hk
    · simp [Value.ownBlock] at hk; omega
  cases A with
  | none =>
    have : ys = [] := by rcases hr with h | ⟨_, _, h, _⟩; exact h; simp at h
    subst this
    exact ⟨v, w, run_app_nilS w ty base v l hown c, by simpa using hown, Below.refl _ _, ⟨rfl, rfl, rfl, Nat.le_refl _, fun _ _ _ => rfl⟩, .inl rfl⟩
  | some ad =>
    obtain ⟨v', w', h1, h2, h3, h4, h5⟩ := run_append_own_at (P := Try.prog) w base 40 ty 89 i0 _ 2 16 Try.underlying40 hi hz0 hz1 hz2 (by simp [Value.cells]) (by decide) v l.length _ hown ad ys.length c (strideCells ys) (strideCells_len ys) (by
        intro j u hj
        have hjl : j < ys.length * 2 := by rw [← strideCells_len]; exact (List.getElem?_eq_some_iff.1 hj).1
        rcases hr with h | ⟨b, o, he, h⟩
        · subst h; simp at hjl
        · cases he
          have hi7 : j / 2 < ys.length := by omega
          obtain ⟨g1, g2⟩ := strideCells_get ys (j / 2) hi7
          obtain ⟨k1, k2⟩ := h (j / 2) hi7
          rw [addr_add]
          by_cases e : j % 2 = 0
          · have ej : j = j / 2 * 2 := by omega
            rw [ej] at hj
            rw [g1] at hj
            rw [ej, ← hj]
            have : j / 2 * 2 / 2 = j / 2 := by omega
            exact k1
          · have ej : j = j / 2 * 2 + 1 := by omega
            rw [ej] at hj
            rw [g2] at hj
            rw [ej, ← hj]
            exact k2) (by
        intro u hu
        obtain ⟨s, _, hu⟩ := List.mem_flatMap.1 hu
        simp only [List.mem_cons, List.not_mem_nil, or_false] at hu
        rcases hu with rfl | rfl <;> rfl) (by unfold maxLen; omega) (by omega) hbase
    refine ⟨v', w', h1, ?_, Below.grown (Below.refl _ _) h3 hbase hblk, h3, h5⟩
    unfold OwnStrides
    rw [List.length_append, List.flatMap_append]
    exact h2
/-- The plan has grown. -/
theorem NStage.grown {v v' : Value} {l l' : List (Int × Int)} (h : NStage W2 w (some (v, l)) one box) (hown : OwnStrides w' W2.heap.size v' l') (hb : Below W2.heap.size w w') (hg : w.grownBy w' v.ownBlock) (hv : v'.ownBlock = v.ownBlock ∨ v'.ownBlock = some w.heap.size) : NStage W2 w' (some (v', l')) one box := by
  refine ⟨h.below.trans hb, fun u m e => ?_, fun g d i e => ?_, fun p e => ?_, fun u m g d i e1 e2 => ?_, fun u m p e1 e2 => ?_⟩
  · simp only [Option.some.injEq, Prod.mk.injEq] at e
    obtain ⟨rfl, rfl⟩ := e
    exact hown
  · obtain ⟨h1, h2, h3⟩ := h.one' g d i e
    have hne : some g ≠ v.ownBlock := fun e' => h.s1 v l g d i rfl e e'.symm
    exact ⟨h1, (hg.cell_far ⟨g, 0, none⟩ (lt_of_cell h2) hne).trans h2, (hg.cell_far ⟨g, 1, none⟩ (lt_of_cell h3) hne).trans h3⟩
  · obtain ⟨h1, h2, h3⟩ := h.box' p e
    have hne : some p ≠ v.ownBlock := fun e' => h.s2 v l p rfl e e'.symm
    exact ⟨h1, by have := hg.size; omega, h3.keep (hg.block p h2 hne)⟩
  · simp only [Option.some.injEq, Prod.mk.injEq] at e1
    obtain ⟨rfl, rfl⟩ := e1
    have h1 := lt_of_cell (h.one' g d i e2).2.1
    rcases hv with hv | hv
    · rw [hv]; exact h.s1 v l g d i rfl e2
    · rw [hv]; simp; omega
  · simp only [Option.some.injEq, Prod.mk.injEq] at e1
    obtain ⟨rfl, rfl⟩ := e1
    have h1 := (h.box' p e2).2.1
    rcases hv with hv | hv
    · rw [hv]; exact h.s2 v l p rfl e2
    · rw [hv]; simp; omega
end
section
variable {ops : Array Oper} {o : Oper} {a : Act} {K : Act → World → Prop} {Q : Exit → Act → World → Prop} {E : Prop} {W2 w : World}
theorem step_app1 (hgd : o.guard = none) {one : Option (Nat × Int × Int)} {box : Option Nat} {g g' : Nat} (hN : NStage W2 w (some (.slice (some ⟨g, 0, none⟩) 0 0, [])) one box) (s x : Operand)
    (ho : o.op = .call { callee := .builtin .append, args := #[s, x], argTypes := #[40, 40] }) (hs : a.eval s = .slice (some ⟨g', 0, none⟩) 0 0) (hgg : g' = g)
    (A : Option Addr) (c m : Nat) (ys : List (Int × Int)) (hm : ys.length = m) (hx : a.eval x = .slice A m c) (hr : StridesAt W2 A ys) (hlen : ys.length ≤ 1010)
    (h : ∀ v' w', NStage W2 w' (some (v', ys)) one box → K (a.put o.dst v') w') :
    if Region.wanted o (yielded ops a.tmps) = true then Oper.wp Try.prog o a w K Q else E := by
  rw [if_pos (by simp [Region.wanted, hgd])]
  subst hm hgg
  have hr2 : StridesAt w A ys := by
    rcases hr with hr | ⟨b, o, ha, hc⟩
    · exact .inl hr
    · exact .inr ⟨b, o, ha, fun i hi => ⟨(hN.below.cell (p := ⟨b, o + i * 2, none⟩) (lt_of_cell (hc i hi).1)).trans (hc i hi).1, (hN.below.cell (p := ⟨b, o + i * 2 + 1, none⟩) (lt_of_cell (hc i hi).2)).trans (hc i hi).2⟩⟩
  obtain ⟨v', w', hrun, h2, h3, h4, h5⟩ := run_app_stridesG w o.type W2.heap.size _ [] (hN.own' _ _ rfl) A c ys hr2 (by simp; omega) hN.below.size
  unfold Oper.wp execOp
  simp only [ho, resolve, invoke, builtin, Sem.run_bind, Sem.run_pure, Result.andThen_ok, List.map_toArray, List.map_cons, List.map_nil, hs, hx, hrun]
  exact h v' w' (hN.grown (by simpa using h2) h3 h4 h5)
theorem step_app1b (hgd : o.guard = none) {one : Option (Nat × Int × Int)} {p p' : Nat} {g g' : Nat} (hN : NStage W2 w (some (.slice (some ⟨g, 0, none⟩) 0 0, [])) one (some p)) (s x : Operand)
    (ho : o.op = .call { callee := .builtin .append, args := #[s, x], argTypes := #[40, 40] }) (hs : a.eval s = .slice (some ⟨g', 0, none⟩) 0 0) (hgg : g' = g) (y : Operand) (hp : a.eval y = .pointer (some ⟨p', 0, none⟩)) (hpp : p' = p)
    (A : Option Addr) (c m : Nat) (ys : List (Int × Int)) (hm : ys.length = m) (hx : a.eval x = .slice A m c) (hr : StridesAt W2 A ys) (hlen : ys.length ≤ 1010)
    (h : ∀ v' w', NStage W2 w' (some (v', ys)) one (some p') → K (a.put o.dst v') w') :
    if Region.wanted o (yielded ops a.tmps) = true then Oper.wp Try.prog o a w K Q else E := by
  subst hpp
  exact step_app1 hgd hN s x ho hs hgg A c m ys hm hx hr hlen h
theorem step_app2 (hgd : o.guard = none) {box : Option Nat} {v : Value} {l : List (Int × Int)} {g g' : Nat} {d i : Int} (hN : NStage W2 w (some (v, l)) (some (g, d, i)) box) (s x : Operand)
    (ho : o.op = .call { callee := .builtin .append, args := #[s, x], argTypes := #[40, 40] }) (hs : a.eval s = v)
    (hx : a.eval x = .slice (some ⟨g', 0, none⟩) 1 1) (hgg : g' = g) (hlen : l.length ≤ 1010)
    (h : ∀ A c w', NStage W2 w' (some (.slice A (l.length + 1) c, l ++ [(d, i)])) (some (g, d, i)) box → K (a.put o.dst (.slice A (l.length + 1) c)) w') :
    if Region.wanted o (yielded ops a.tmps) = true then Oper.wp Try.prog o a w K Q else E := by
  rw [if_pos (by simp [Region.wanted, hgd])]
  subst hgg
  have ho1 := hN.one' g' d i rfl
  obtain ⟨v', w', hrun, h2, h3, h4, h5⟩ := run_app_stridesG w o.type W2.heap.size v l (hN.own' _ _ rfl) (some ⟨g', 0, none⟩) 1 [(d, i)] (.inr ⟨g', 0, rfl, fun k hk => by
    obtain rfl : k = 0 := by simpa using hk
    exact ⟨ho1.2.1, ho1.2.2⟩⟩) (by simp; omega) hN.below.size
  obtain ⟨A, c, rfl, _⟩ := h2.strides
  rw [List.length_append, List.length_singleton] at hrun h2 h5
  unfold Oper.wp execOp
  simp only [ho, resolve, invoke, builtin, Sem.run_bind, Sem.run_pure, Result.andThen_ok, List.map_toArray, List.map_cons, List.map_nil, hs, hx]
  simp only [hrun, Result.andThen_ok, Sem.run_pure]
  exact h A c w' (hN.grown (v' := .slice A (l.length + 1) c) (by simpa using h2) h3 h4 (by simpa using h5))
theorem step_app2b (hgd : o.guard = none) {p p' : Nat} {v : Value} {l : List (Int × Int)} {g g' : Nat} {d i : Int} (hN : NStage W2 w (some (v, l)) (some (g, d, i)) (some p)) (s x : Operand)
    (ho : o.op = .call { callee := .builtin .append, args := #[s, x], argTypes := #[40, 40] }) (hs : a.eval s = v)
    (hx : a.eval x = .slice (some ⟨g', 0, none⟩) 1 1) (hgg : g' = g) (y : Operand) (hp : a.eval y = .pointer (some ⟨p', 0, none⟩)) (hpp : p' = p) (hlen : l.length ≤ 1010)
    (h : ∀ A c w', NStage W2 w' (some (.slice A (l.length + 1) c, l ++ [(d, i)])) (some (g, d, i)) (some p') → K (a.put o.dst (.slice A (l.length + 1) c)) w') :
    if Region.wanted o (yielded ops a.tmps) = true then Oper.wp Try.prog o a w K Q else E := by
  subst hpp
  exact step_app2 hgd hN s x ho hs hx hgg hlen h
end
section
variable {W2 w : World} {one : Option (Nat × Int × Int)} {A : Option Addr} {n c : Nat} {L : List (Int × Int)}
theorem NStage.sets {own : Option (Value × List (Int × Int))} {p : Nat} (h : NStage W2 w own one (some p)) (c0 c1 c2 : Value) : Below W2.heap.size W2 (((w.setCell ⟨p, 0, none⟩ c0).setCell ⟨p, 1, none⟩ c1).setCell ⟨p, 2, none⟩ c2) :=
  ((h.below.setCell (p := ⟨p, 0, none⟩) (h.box' p rfl).1 _).setCell (p := ⟨p, 1, none⟩) (h.box' p rfl).1 _).setCell (p := ⟨p, 2, none⟩) (h.box' p rfl).1 _
/-- The box came first. -/
theorem NStage.fin1 {p : Nat} (h : NStage W2 w (some (.slice A n c, L)) one (some p)) (lg : Int) : WalkIn W2 (((w.setCell ⟨p, 0, none⟩ (.bool true)).setCell ⟨p, 1, none⟩ (.int .i64 lg)).setCell ⟨p, 2, none⟩ (.slice A n c)) p A c n lg L := by
  obtain ⟨b1, b2, k1, k2, k3, k4, k5, k6⟩ := h.box' p rfl
  have hkk : ∀ b, b ≠ p → (((w.setCell ⟨p, 0, none⟩ (.bool true)).setCell ⟨p, 1, none⟩ (.int .i64 lg)).setCell ⟨p, 2, none⟩ (.slice A n c)).heap[b]? = w.heap[b]? := fun b hb => by
    rw [Below.heap_setCell _ ⟨p, 2, none⟩ _ b hb, Below.heap_setCell _ ⟨p, 1, none⟩ _ b hb, Below.heap_setCell _ ⟨p, 0, none⟩ _ b hb]
  have hown := (h.own' _ _ rfl).keepB (w' := (((w.setCell ⟨p, 0, none⟩ (.bool true)).setCell ⟨p, 1, none⟩ (.int .i64 lg)).setCell ⟨p, 2, none⟩ (.slice A n c))) fun b hb => hkk b (by intro e; subst e; exact h.s2 _ _ _ rfl rfl hb)
  obtain ⟨a3, c3, e3, hst⟩ := hown.strides
  simp only [Value.slice.injEq] at e3
  rw [← e3.1] at hst
  refine ⟨?_, ?_, ?_, hst, h.sets _ _ _⟩ <;> simp [go_sem, k1, k2, k3]
/-- The box came last. -/
theorem NStage.fin2 {box : Option Nat} (h : NStage W2 w (some (.slice A n c, L)) one box) (lg : Int) : WalkIn W2 (w.alloc (.cells #[.bool true, .int .i64 lg, .slice A n c] 104)) w.heap.size A c n lg L := by
  have hb : Below w.heap.size w (w.alloc (.cells #[.bool true, .int .i64 lg, .slice A n c] 104)) := (Below.refl _ _).alloc (Nat.le_refl _) _
  obtain ⟨a3, c3, e3, hst⟩ := ((h.own' _ _ rfl).below hb).strides
  simp only [Value.slice.injEq] at e3
  rw [← e3.1] at hst
  refine ⟨by simp [go_sem], by simp [go_sem], by simp [go_sem], hst, h.below.trans (hb.mono h.below.size)⟩
end
end Go.Proofs.Ytjgkgnfhglhklaa

/- A region that draws its order, by an invariant over the set of operations that are done: no order is gone through. -/
namespace Go.Proofs.Ytjgkgnfhglhklaa
set_option linter.unusedSimpArgs false
set_option linter.unusedVariables false
open Go.RowKit

def updF {α : Type} (L : Nat → α) (i : Nat) (v : α) : Nat → α := fun k => if k = i then v else L k
theorem updF_same {α : Type} (L : Nat → α) (i : Nat) (v : α) : updF L i v i = v := by simp [updF]
theorem updF_ne {α : Type} (L : Nat → α) {i k : Nat} (v : α) (h : k ≠ i) : updF L i v k = L k := by simp [updF, h]
def doneF (listed : Array Bool) : Nat → Bool := fun k => listed.getD k false
/-- What must be done ahead of an operation is done. -/
def readyF (o : Oper) (L : Nat → Bool) : Bool := o.after.all fun e => !Region.binds .any e || L e.on
theorem doneF_set {listed : Array Bool} {i : Nat} (hi : i < listed.size) : doneF (listed.setIfInBounds i true) = updF (doneF listed) i true := by
  funext k
  unfold doneF updF
  by_cases e : k = i
  · subst e; simp [Array.getD_eq_getD_getElem?, hi]
  · rw [if_neg e]
    simp only [Array.getD_eq_getD_getElem?]
    rw [Array.getElem?_setIfInBounds_ne (by omega)]
theorem mem_ready {ops : Array Oper} {listed : Array Bool} (hsz : listed.size = ops.size) {i : Nat} (h : i ∈ Region.ready .any ops listed) : ∃ o, ops[i]? = some o ∧ i < ops.size ∧ doneF listed i = false ∧ readyF o (doneF listed) = true := by
  unfold Region.ready at h
  rw [List.mem_filter, List.mem_range, Bool.and_eq_true] at h
  obtain ⟨h1, h2, h3⟩ := h
  have ho : ops[i]? = some ops[i] := Array.getElem?_eq_getElem h1
  refine ⟨ops[i], ho, h1, ?_, ?_⟩
  · have e : listed.getD i true = listed.getD i false := by simp [Array.getD_eq_getD_getElem?, hsz, h1]
    rw [e] at h2
    simpa [doneF] using h2
  · rw [ho] at h3
    simpa [readyF, doneF] using h3
def leftN (n : Nat) (listed : Array Bool) : Nat := ((List.range n).filter fun i => !listed.getD i true).length
theorem filter_set_lt {listed : Array Bool} {i : Nat} (hi : i < listed.size) (hl : listed.getD i true = false) : ∀ n, ((List.range n).filter fun j => !(listed.setIfInBounds i true).getD j true).length + (if i < n then 1 else 0) = ((List.range n).filter fun j => !listed.getD j true).length
  | 0 => by simp
  | n + 1 => by
    have ih := filter_set_lt hi hl n
    rw [List.range_succ, List.filter_append, List.filter_append, List.length_append, List.length_append]
    by_cases e : i = n
    · subst e
      rw [if_neg (by omega)] at ih
      rw [if_pos (by omega)]
      have h1 : (listed.setIfInBounds i true).getD i true = true := by simp [Array.getD_eq_getD_getElem?, hi]
      simp only [List.filter_cons, List.filter_nil, h1, hl]
      simp at ih ⊢; omega
    · have h1 : (listed.setIfInBounds i true).getD n true = listed.getD n true := by
        simp only [Array.getD_eq_getD_getElem?]
        rw [Array.getElem?_setIfInBounds_ne (by omega)]
      have h2 : ([n].filter fun j => !(listed.setIfInBounds i true).getD j true) = [n].filter fun j => !listed.getD j true := by simp only [List.filter_cons, List.filter_nil, h1]
      rw [h2]
      by_cases c : i < n
      · rw [if_pos c] at ih; rw [if_pos (by omega)]; omega
      · rw [if_neg c] at ih; rw [if_neg (by omega)]; omega
theorem leftN_set {ops : Array Oper} {listed : Array Bool} (hsz : listed.size = ops.size) {i : Nat} (hi : i ∈ Region.ready .any ops listed) : leftN ops.size (listed.setIfInBounds i true) + 1 = leftN ops.size listed := by
  unfold Region.ready at hi
  rw [List.mem_filter, List.mem_range, Bool.and_eq_true] at hi
  obtain ⟨h1, h2, _⟩ := hi
  have := filter_set_lt (listed := listed) (i := i) (by omega) (by simpa using h2) ops.size
  rw [if_pos h1] at this
  exact this
theorem ready_left {ops : Array Oper} {listed : Array Bool} (h : leftN ops.size listed = 0) : Region.ready .any ops listed = [] := by
  unfold leftN at h
  have h0 := List.length_eq_zero_iff.1 h
  unfold Region.ready
  rw [List.filter_eq_nil_iff] at h0 ⊢
  intro i hi hc
  rw [Bool.and_eq_true] at hc
  exact h0 i hi hc.1
theorem leftN_start (n : Nat) : leftN n (Array.replicate n false) = n := by
  unfold leftN
  rw [List.filter_eq_self.2]
  · simp
  · intro i hi
    rw [List.mem_range] at hi
    simp [Array.getD_eq_getD_getElem?, hi]
theorem wpAny_inv {P : Program} {ops : Array Oper} {Q : Exit → Act → World → Prop} (Inv : (Nat → Bool) → Act → World → Prop)
    (hs : ∀ L a w i o, ops[i]? = some o → Inv L a w → L i = false → readyF o L = true → wpOp P ops Q i (fun a' w' => Inv (updF L i true) a' w') a w)
    (he : ∀ listed a w, listed.size = ops.size → Inv (doneF listed) a w → Region.ready .any ops listed = [] → Q .normal a w) : ∀ (n : Nat) (listed : Array Bool) (a : Act) (w : World), listed.size = ops.size → leftN ops.size listed ≤ n → Inv (doneF listed) a w → wpAny P .any ops Q n listed a w
  | 0, listed, a, w, hsz, hn, hI => by
    have h0 := ready_left (ops := ops) (listed := listed) (by omega)
    exact ⟨h0, he listed a w hsz hI h0⟩
  | n + 1, listed, a, w, hsz, hn, hI => by
    refine ⟨fun h0 => he listed a w hsz hI h0, fun i hi => ?_⟩
    obtain ⟨o, ho, hlt, h1, h2⟩ := mem_ready hsz hi
    refine wpOp_mono ?_ (hs _ a w i o ho hI h1 h2)
    intro a' w' hI'
    have hle := leftN_set hsz hi
    exact wpAny_inv Inv hs he n _ a' w' (by simpa using hsz) (by omega) (by rw [doneF_set (by omega)]; exact hI')
theorem wp_region_inv {P : Program} {id : Nat} {Q : Exit → Act → World → Prop} {a : Act} {w : World} {ops : Array Oper} (hm : P.follows .mixedOrders = true) (Inv : (Nat → Bool) → Act → World → Prop)
    (h0 : Inv (fun _ => false) a w.drew)
    (hs : ∀ L a w i o, ops[i]? = some o → Inv L a w → L i = false → readyF o L = true → wpOp P ops Q i (fun a' w' => Inv (updF L i true) a' w') a w)
    (he : ∀ L a w, (∀ i o, ops[i]? = some o → readyF o L = true → L i = true) → Inv L a w → Q .normal a w) : (Code.region id ops true).wp P Q a w := by
  refine wp_region_any hm (wpAny_inv Inv hs ?_ ops.size _ a _ (by simp) (by rw [leftN_start]; exact Nat.le_refl _) ?_)
  · intro listed a w hsz hI hr
    refine he _ a w (fun i o ho hre => ?_) hI
    have hlt := (Array.getElem?_eq_some_iff.1 ho).1
    cases hl : doneF listed i
    · exfalso
      have hm : i ∈ Region.ready .any ops listed := by
        unfold Region.ready
        rw [List.mem_filter, List.mem_range, Bool.and_eq_true]
        refine ⟨hlt, ?_, ?_⟩
        · have e : listed.getD i true = listed.getD i false := by simp [Array.getD_eq_getD_getElem?, hsz, hlt]
          rw [e]; unfold doneF at hl; rw [hl]; rfl
        · rw [ho]; simpa [readyF, doneF] using hre
      rw [hr] at hm; simp at hm
    · rfl
  · have e : doneF (Array.replicate ops.size false) = fun _ => false := by
      funext k
      unfold doneF
      by_cases h : k < ops.size <;> simp [Array.getD_eq_getD_getElem?, h]
    rw [e]; exact h0
/-- One operation that is wanted. -/
theorem wpOp_want {P : Program} {ops : Array Oper} {Q : Exit → Act → World → Prop} {i : Nat} {o : Oper} {K : Act → World → Prop} {a : Act} {w : World} (ho : ops[i]? = some o) (hg : o.guard = none) (h : o.wp P a w K Q) : wpOp P ops Q i K a w := by
  unfold wpOp
  rw [ho]
  simp only [Region.wanted, hg, if_true]
  exact .inl h
end Go.Proofs.Ytjgkgnfhglhklaa
namespace Go.Proofs.Ytjgkgnfhglhklaa
set_option linter.unusedSimpArgs false
set_option linter.unusedVariables false
open Go.RowKit

theorem lt_17 : ∀ k, k < 17 → k = 0 ∨ k = 1 ∨ k = 2 ∨ k = 3 ∨ k = 4 ∨ k = 5 ∨ k = 6 ∨ k = 7 ∨ k = 8 ∨ k = 9 ∨ k = 10 ∨ k = 11 ∨ k = 12 ∨ k = 13 ∨ k = 14 ∨ k = 15 ∨ k = 16 := by decide
/-- A frame in which some slots hold other values. -/
def puts : List (Nat × Nat) → (Nat → Value) → Act → Act
  | [], _, a => a
  | (s, k) :: l, vs, a => puts l vs (a.put (some s) (vs k))
theorem put_self (a : Act) (s : Nat) : a.put (some s) (a.tmps.getD s undef) = a := by
  obtain ⟨t, d⟩ := a
  simp only [Act.put, Act.mk.injEq, and_true]
  apply Array.ext_getElem?
  intro j
  by_cases e : j = s
  · subst e
    by_cases h : j < t.size
    · simp [h, Array.getD_eq_getD_getElem?]
    · simp [h]
  · rw [Array.getElem?_setIfInBounds_ne (by omega)]
theorem puts_self (a : Act) : ∀ (l : List (Nat × Nat)) (vs : Nat → Value), (∀ x ∈ l, vs x.2 = a.tmps.getD x.1 undef) → puts l vs a = a
  | [], _, _ => rfl
  | (s, k) :: l, vs, h => by
    have h0 := h (s, k) (by simp)
    dsimp only at h0
    rw [puts, h0, put_self]
    exact puts_self a l vs fun x hx => h x (by simp [hx])
theorem wpOp_step {P : Program} {ops : Array Oper} {Q : Exit → Act → World → Prop} {i : Nat} {o : Oper} {K : Act → World → Prop} {a : Act} {w : World} (ho : ops[i]? = some o) (hg : o.guard = none) (h : ∀ K' : Act → World → Prop, (∀ a w, K a w → K' a w) → o.wp P a w K' Q) : wpOp P ops Q i K a w :=
  wpOp_want ho hg (h K fun _ _ h => h)
section
variable (W2 : World) (bo bx : Nat) (lgA xL : Int) (plA : List (Int × Int)) (pa : Option Addr) (pc : Nat) (d i : Int)
/-- The values of the operations that read and reckon. -/
def nval : Nat → Option Value
  | 0 => some (.pointer (some ⟨bo, 1, none⟩))
  | 1 => some (.int .i64 lgA)
  | 2 => some (.pointer (some ⟨bx, 2, none⟩))
  | 3 => some (.int .i64 xL)
  | 4 => some (.int .i64 (lgA + xL))
  | 6 => some (.pointer (some ⟨bo, 2, none⟩))
  | 7 => some (.slice pa plA.length pc)
  | 9 => some (.int .i64 d)
  | 10 => some (.int .i64 i)
  | 11 => some (.agg #[.int .i64 d, .int .i64 i])
  | _ => none
def ownOf (L : Nat → Bool) (vs : Nat → Value) : Option (Value × List (Int × Int)) := if L 13 then some (vs 13, plA ++ [(d, i)]) else if L 8 then some (vs 8, plA) else if L 5 then some (vs 5, []) else none
def oneOf (L : Nat → Bool) (vs : Nat → Value) : Option (Nat × Int × Int) := if L 12 then (match vs 12 with | .slice (some ad) _ _ => some (ad.block, d, i) | _ => none) else none
def boxOf (L : Nat → Bool) (vs : Nat → Value) : Option Nat := if L 15 then (match vs 15 with | .pointer (some ad) => some ad.block | _ => none) else none
structure NInv (L : Nat → Bool) (vs : Nat → Value) (w : World) : Prop where
  c : ∀ k v, L k = true → nval bo bx lgA xL plA pa pc d i k = some v → vs k = v
  s5 : L 5 = true → ∃ g, vs 5 = .slice (some ⟨g, 0, none⟩) 0 0
  s12 : L 12 = true → ∃ g, vs 12 = .slice (some ⟨g, 0, none⟩) 1 1
  s13 : L 13 = true → ∃ a2 c2, vs 13 = .slice a2 (plA.length + 1) c2
  s14 : L 14 = true → vs 14 = .agg #[.bool true, .int .i64 (lgA + xL), vs 13]
  s15 : L 15 = true → ∃ p, vs 15 = .pointer (some ⟨p, 0, none⟩)
  d8 : L 8 = true → L 5 = true
  d13 : L 13 = true → L 8 = true ∧ L 12 = true
  d14 : L 14 = true → L 13 = true
  d16 : L 16 = true → L 14 = true ∧ L 15 = true
  st : L 16 = false → NStage W2 w (ownOf plA d i L vs) (oneOf d i L vs) (boxOf L vs)
  fin : L 16 = true → ∃ p a2 c2, vs 15 = .pointer (some ⟨p, 0, none⟩) ∧ WalkIn W2 w p a2 c2 (plA.length + 1) (lgA + xL) (plA ++ [(d, i)])
end
section
variable {W2 : World} {bo bx : Nat} {lgA xL : Int} {plA : List (Int × Int)} {pa : Option Addr} {pc : Nat} {d i : Int} {L : Nat → Bool} {vs : Nat → Value} {w : World}
theorem NInv.start (h : w = W2.drew) : NInv W2 bo bx lgA xL plA pa pc d i (fun _ => false) vs w := by
  subst h
  exact ⟨by simp, by simp, by simp, by simp, by simp, by simp, by simp, by simp, by simp, by simp, fun _ => (NStage.start W2).drew, by simp⟩
/-- Every operation keeps what is said of the others' values. -/
theorem upd_c {k : Nat} {u : Value} (h : NInv W2 bo bx lgA xL plA pa pc d i L vs w) (hu : ∀ v, nval bo bx lgA xL plA pa pc d i k = some v → u = v) : ∀ j v, updF L k true j = true → nval bo bx lgA xL plA pa pc d i j = some v → updF vs k u j = v := fun j v hj hv => by
  by_cases e : j = k
  · subst e; rw [updF_same]; exact hu v hv
  · rw [updF_ne _ _ e] at hj ⊢; exact h.c j v hj hv
theorem NInv.pure {k : Nat} {v : Value} (h : NInv W2 bo bx lgA xL plA pa pc d i L vs w) (hk : nval bo bx lgA xL plA pa pc d i k = some v) : NInv W2 bo bx lgA xL plA pa pc d i (updF L k true) (updF vs k v) w := by
  have h5 : (5 : Nat) ≠ k := by rintro rfl; simp [nval] at hk
  have h8 : (8 : Nat) ≠ k := by rintro rfl; simp [nval] at hk
  have h12 : (12 : Nat) ≠ k := by rintro rfl; simp [nval] at hk
  have h13 : (13 : Nat) ≠ k := by rintro rfl; simp [nval] at hk
  have h14 : (14 : Nat) ≠ k := by rintro rfl; simp [nval] at hk
  have h15 : (15 : Nat) ≠ k := by rintro rfl; simp [nval] at hk
  have h16 : (16 : Nat) ≠ k := by rintro rfl; simp [nval] at hk
  refine ⟨upd_c h fun v' hv' => by rw [hk] at hv'; exact Option.some.inj hv', ?_, ?_, ?_, ?_, ?_, ?_, ?_, ?_, ?_, ?_, ?_⟩
  · rw [updF_ne _ _ h5, updF_ne _ _ h5]; exact h.s5
  · rw [updF_ne _ _ h12, updF_ne _ _ h12]; exact h.s12
  · rw [updF_ne _ _ h13, updF_ne _ _ h13]; exact h.s13
  · rw [updF_ne _ _ h14, updF_ne _ _ h14, updF_ne _ _ h13]; exact h.s14
  · rw [updF_ne _ _ h15, updF_ne _ _ h15]; exact h.s15
  · rw [updF_ne _ _ h8, updF_ne _ _ h5]; exact h.d8
  · rw [updF_ne _ _ h13, updF_ne _ _ h8, updF_ne _ _ h12]; exact h.d13
  · rw [updF_ne _ _ h14, updF_ne _ _ h13]; exact h.d14
  · rw [updF_ne _ _ h16, updF_ne _ _ h14, updF_ne _ _ h15]; exact h.d16
  · unfold ownOf oneOf boxOf
    rw [updF_ne _ _ h16, updF_ne _ _ h13, updF_ne _ _ h13, updF_ne _ _ h8, updF_ne _ _ h8, updF_ne _ _ h5, updF_ne _ _ h5, updF_ne _ _ h12, updF_ne _ _ h12, updF_ne _ _ h15, updF_ne _ _ h15]
    exact h.st
  · rw [updF_ne _ _ h16, updF_ne _ _ h15]; exact h.fin
theorem NInv.below (h : NInv W2 bo bx lgA xL plA pa pc d i L vs w) : Below W2.heap.size W2 w := by
  cases e : L 16
  · exact (h.st e).below
  · obtain ⟨_, _, _, _, hf⟩ := h.fin e
    exact hf.2.2.2.2
theorem NInv.early5 (h : NInv W2 bo bx lgA xL plA pa pc d i L vs w) (hl : L 5 = false) : L 8 = false ∧ L 13 = false ∧ L 14 = false ∧ L 16 = false := by
  have h8 : L 8 = false := by cases e : L 8 <;> simp; have := h.d8 e; rw [hl] at this; simp at this
  have h13 : L 13 = false := by cases e : L 13 <;> simp; have := (h.d13 e).1; rw [h8] at this; simp at this
  have h14 : L 14 = false := by cases e : L 14 <;> simp; have := h.d14 e; rw [h13] at this; simp at this
  have h16 : L 16 = false := by cases e : L 16 <;> simp; have := (h.d16 e).1; rw [h14] at this; simp at this
  exact ⟨h8, h13, h14, h16⟩
theorem NInv.early8 (h : NInv W2 bo bx lgA xL plA pa pc d i L vs w) (hl : L 8 = false) : L 13 = false ∧ L 14 = false ∧ L 16 = false := by
  have h13 : L 13 = false := by cases e : L 13 <;> simp; have := (h.d13 e).1; rw [hl] at this; simp at this
  have h14 : L 14 = false := by cases e : L 14 <;> simp; have := h.d14 e; rw [h13] at this; simp at this
  have h16 : L 16 = false := by cases e : L 16 <;> simp; have := (h.d16 e).1; rw [h14] at this; simp at this
  exact ⟨h13, h14, h16⟩
theorem NInv.early12 (h : NInv W2 bo bx lgA xL plA pa pc d i L vs w) (hl : L 12 = false) : L 13 = false ∧ L 14 = false ∧ L 16 = false := by
  have h13 : L 13 = false := by cases e : L 13 <;> simp; have := (h.d13 e).2; rw [hl] at this; simp at this
  have h14 : L 14 = false := by cases e : L 14 <;> simp; have := h.d14 e; rw [h13] at this; simp at this
  have h16 : L 16 = false := by cases e : L 16 <;> simp; have := (h.d16 e).1; rw [h14] at this; simp at this
  exact ⟨h13, h14, h16⟩
theorem NInv.early13 (h : NInv W2 bo bx lgA xL plA pa pc d i L vs w) (hl : L 13 = false) : L 14 = false ∧ L 16 = false := by
  have h14 : L 14 = false := by cases e : L 14 <;> simp; have := h.d14 e; rw [hl] at this; simp at this
  have h16 : L 16 = false := by cases e : L 16 <;> simp; have := (h.d16 e).1; rw [h14] at this; simp at this
  exact ⟨h14, h16⟩
theorem NInv.early14 (h : NInv W2 bo bx lgA xL plA pa pc d i L vs w) (hl : L 14 = false) : L 16 = false := by
  cases e : L 16 <;> simp; have := (h.d16 e).1; rw [hl] at this; simp at this
theorem NInv.early15 (h : NInv W2 bo bx lgA xL plA pa pc d i L vs w) (hl : L 15 = false) : L 16 = false := by
  cases e : L 16 <;> simp; have := (h.d16 e).2; rw [hl] at this; simp at this
/-- The empty slice. -/
theorem NInv.op5 (h : NInv W2 bo bx lgA xL plA pa pc d i L vs w) (hl : L 5 = false) : NInv W2 bo bx lgA xL plA pa pc d i (updF L 5 true) (updF vs 5 (.slice (some ⟨w.heap.size, 0, none⟩) 0 0)) (w.alloc (.cells #[] 89)) := by
  obtain ⟨h8, h13, h14, h16⟩ := h.early5 hl
  have hst := h.st h16
  have e : ownOf plA d i L vs = none := by simp [ownOf, hl, h8, h13]
  rw [e] at hst
  have hn := hst.newOwn
  refine ⟨upd_c h (by simp [nval]), fun _ => ⟨_, updF_same _ _ _⟩, h.s12, h.s13, h.s14, h.s15, fun _ => updF_same _ _ _, h.d13, h.d14, h.d16, fun _ => ?_, fun hf => ?_⟩
  · have e1 : ownOf plA d i (updF L 5 true) (updF vs 5 (.slice (some ⟨w.heap.size, 0, none⟩) 0 0)) = some (.slice (some ⟨w.heap.size, 0, none⟩) 0 0, []) := by simp [ownOf, updF, h8, h13]
    rw [e1]; exact hn
  · exact absurd hf (by simp [updF, h16])
/-- The box. -/
theorem NInv.op15 (h : NInv W2 bo bx lgA xL plA pa pc d i L vs w) (hl : L 15 = false) : NInv W2 bo bx lgA xL plA pa pc d i (updF L 15 true) (updF vs 15 (.pointer (some ⟨w.heap.size, 0, none⟩))) (w.alloc (.cells #[.bool false, .int .i64 0, .slice none 0 0] 104)) := by
  have h16 := h.early15 hl
  have hst := h.st h16
  have e : boxOf L vs = none := by simp [boxOf, hl]
  rw [e] at hst
  have hn := hst.newBox
  refine ⟨upd_c h (by simp [nval]), h.s5, h.s12, h.s13, h.s14, fun _ => ⟨_, updF_same _ _ _⟩, h.d8, h.d13, h.d14, fun hf => absurd hf (by simp [updF, h16]), fun _ => ?_, fun hf => absurd hf (by simp [updF, h16])⟩
  have e1 : boxOf (updF L 15 true) (updF vs 15 (.pointer (some ⟨w.heap.size, 0, none⟩))) = some w.heap.size := by simp [boxOf, updF]
  rw [e1]; exact hn
/-- The stride that is added. -/
theorem NInv.op12 (h : NInv W2 bo bx lgA xL plA pa pc d i L vs w) (hl : L 12 = false) : NInv W2 bo bx lgA xL plA pa pc d i (updF L 12 true) (updF vs 12 (.slice (some ⟨w.heap.size, 0, none⟩) 1 1)) (w.alloc (.cells #[.int .i64 d, .int .i64 i] 89)) := by
  obtain ⟨h13, h14, h16⟩ := h.early12 hl
  have hst := h.st h16
  have e : oneOf d i L vs = none := by simp [oneOf, hl]
  rw [e] at hst
  have hn := hst.newOne d i
  refine ⟨upd_c h (by simp [nval]), h.s5, fun _ => ⟨_, updF_same _ _ _⟩, h.s13, h.s14, h.s15, h.d8, fun hf => absurd hf (by simp [updF, h13]), h.d14, h.d16, fun _ => ?_, fun hf => absurd hf (by simp [updF, h16])⟩
  have e1 : oneOf d i (updF L 12 true) (updF vs 12 (.slice (some ⟨w.heap.size, 0, none⟩) 1 1)) = some (w.heap.size, d, i) := by simp [oneOf, updF]
  rw [e1]; exact hn
/-- The old plan is copied. -/
theorem NInv.own8 (h : NInv W2 bo bx lgA xL plA pa pc d i L vs w) (hl : L 8 = false) (h5 : L 5 = true) : ∃ g, vs 5 = .slice (some ⟨g, 0, none⟩) 0 0 ∧ NStage W2 w (some (.slice (some ⟨g, 0, none⟩) 0 0, [])) (oneOf d i L vs) (boxOf L vs) := by
  obtain ⟨h13, h14, h16⟩ := h.early8 hl
  obtain ⟨g, hg⟩ := h.s5 h5
  have hst := h.st h16
  have e : ownOf plA d i L vs = some (.slice (some ⟨g, 0, none⟩) 0 0, []) := by simp [ownOf, hl, h13, h5, hg]
  rw [e] at hst
  exact ⟨g, hg, hst⟩
theorem NInv.op8 (h : NInv W2 bo bx lgA xL plA pa pc d i L vs w) (hl : L 8 = false) (h5 : L 5 = true) {v' : Value} {w' : World} (hn : NStage W2 w' (some (v', plA)) (oneOf d i L vs) (boxOf L vs)) : NInv W2 bo bx lgA xL plA pa pc d i (updF L 8 true) (updF vs 8 v') w' := by
  obtain ⟨h13, h14, h16⟩ := h.early8 hl
  refine ⟨upd_c h (by simp [nval]), h.s5, h.s12, h.s13, h.s14, h.s15, fun _ => h5, fun hf => absurd hf (by simp [updF, h13]), h.d14, h.d16, fun _ => ?_, fun hf => absurd hf (by simp [updF, h16])⟩
  have e1 : ownOf plA d i (updF L 8 true) (updF vs 8 v') = some (v', plA) := by simp [ownOf, updF, h13]
  rw [e1]; exact hn
/-- The stride is added. -/
theorem NInv.own13 (h : NInv W2 bo bx lgA xL plA pa pc d i L vs w) (hl : L 13 = false) (h8 : L 8 = true) (h12 : L 12 = true) : ∃ g, vs 12 = .slice (some ⟨g, 0, none⟩) 1 1 ∧ NStage W2 w (some (vs 8, plA)) (some (g, d, i)) (boxOf L vs) := by
  obtain ⟨h14, h16⟩ := h.early13 hl
  obtain ⟨g, hg⟩ := h.s12 h12
  have hst := h.st h16
  have e : ownOf plA d i L vs = some (vs 8, plA) := by simp [ownOf, hl, h8]
  have e2 : oneOf d i L vs = some (g, d, i) := by simp [oneOf, h12, hg]
  rw [e, e2] at hst
  exact ⟨g, hg, hst⟩
theorem NInv.op13 (h : NInv W2 bo bx lgA xL plA pa pc d i L vs w) (hl : L 13 = false) (h8 : L 8 = true) (h12 : L 12 = true) {g c2 : Nat} {a2 : Option Addr} {w' : World} (hg : vs 12 = .slice (some ⟨g, 0, none⟩) 1 1) (hn : NStage W2 w' (some (.slice a2 (plA.length + 1) c2, plA ++ [(d, i)])) (some (g, d, i)) (boxOf L vs)) :
    NInv W2 bo bx lgA xL plA pa pc d i (updF L 13 true) (updF vs 13 (.slice a2 (plA.length + 1) c2)) w' := by
  obtain ⟨h14, h16⟩ := h.early13 hl
  refine ⟨upd_c h (by simp [nval]), h.s5, h.s12, fun _ => ⟨_, _, updF_same _ _ _⟩, fun hf => absurd hf (by simp [updF, h14]), h.s15, h.d8, fun _ => ⟨h8, h12⟩, fun _ => updF_same _ _ _, h.d16, fun _ => ?_, fun hf => absurd hf (by simp [updF, h16])⟩
  have e1 : ownOf plA d i (updF L 13 true) (updF vs 13 (.slice a2 (plA.length + 1) c2)) = some (.slice a2 (plA.length + 1) c2, plA ++ [(d, i)]) := by simp [ownOf, updF]
  have e2 : oneOf d i (updF L 13 true) (updF vs 13 (.slice a2 (plA.length + 1) c2)) = some (g, d, i) := by simp [oneOf, updF, h12, hg]
  rw [e1, e2]; exact hn
theorem NInv.op14 (h : NInv W2 bo bx lgA xL plA pa pc d i L vs w) (hl : L 14 = false) (h13 : L 13 = true) : NInv W2 bo bx lgA xL plA pa pc d i (updF L 14 true) (updF vs 14 (.agg #[.bool true, .int .i64 (lgA + xL), vs 13])) w := by
  have h16 := h.early14 hl
  refine ⟨upd_c h (by simp [nval]), h.s5, h.s12, h.s13, fun _ => by rw [updF_same, updF_ne _ _ (by decide)], h.s15, h.d8, h.d13, fun _ => h13, fun hf => absurd hf (by simp [updF, h16]), fun _ => h.st h16, fun hf => absurd hf (by simp [updF, h16])⟩
/-- The walk is laid in its box. -/
theorem NInv.own16 (h : NInv W2 bo bx lgA xL plA pa pc d i L vs w) (hl : L 16 = false) (h14 : L 14 = true) (h15 : L 15 = true) : ∃ p a2 c2, vs 15 = .pointer (some ⟨p, 0, none⟩) ∧ vs 14 = .agg #[.bool true, .int .i64 (lgA + xL), .slice a2 (plA.length + 1) c2] ∧ BoxAt w p ∧
    NInv W2 bo bx lgA xL plA pa pc d i (updF L 16 true) vs (((w.setCell ⟨p, 0, none⟩ (.bool true)).setCell ⟨p, 1, none⟩ (.int .i64 (lgA + xL))).setCell ⟨p, 2, none⟩ (.slice a2 (plA.length + 1) c2)) := by
  have h13 := h.d14 h14
  obtain ⟨p, hp⟩ := h.s15 h15
  obtain ⟨a2, c2, hv⟩ := h.s13 h13
  have hst := h.st hl
  have e1 : ownOf plA d i L vs = some (.slice a2 (plA.length + 1) c2, plA ++ [(d, i)]) := by simp [ownOf, h13, hv]
  have e2 : boxOf L vs = some p := by simp [boxOf, h15, hp]
  rw [e1, e2] at hst
  have hf := hst.fin1 (lgA + xL)
  have e14 := h.s14 h14
  rw [hv] at e14
  refine ⟨p, a2, c2, hp, e14, (hst.box' p rfl).2.2, ⟨fun k v hk hv' => h.c k v (by by_cases e : k = 16; subst e; simp [nval] at hv'; rwa [updF_ne _ _ e] at hk) hv', h.s5, h.s12, h.s13, h.s14, h.s15, h.d8, h.d13, h.d14, fun _ => ⟨h14, h15⟩, fun hx => ?_, fun _ => ⟨p, a2, c2, hp, hf⟩⟩⟩
  rw [updF_same] at hx; simp at hx
end
section
variable {o : Oper} {a : Act} {K : Act → World → Prop} {Q : Exit → Act → World → Prop} {W2 w : World}
theorem wp_app1 (hgd : o.guard = none) {one : Option (Nat × Int × Int)} {box : Option Nat} {g : Nat} (hN : NStage W2 w (some (.slice (some ⟨g, 0, none⟩) 0 0, [])) one box) (s x : Operand)
    (ho : o.op = .call { callee := .builtin .append, args := #[s, x], argTypes := #[40, 40] }) (hs : a.eval s = .slice (some ⟨g, 0, none⟩) 0 0)
    (A : Option Addr) (c : Nat) (ys : List (Int × Int)) (hx : a.eval x = .slice A ys.length c) (hr : StridesAt W2 A ys) (hlen : ys.length ≤ 1010)
    (h : ∀ v' w', NStage W2 w' (some (v', ys)) one box → K (a.put o.dst v') w') : Oper.wp Try.prog o a w K Q := by
  have h0 := step_app1 (ops := #[]) (E := True) hgd hN s x ho hs rfl A c ys.length ys rfl hx hr hlen h (Q := Q)
  rwa [if_pos (by simp [Region.wanted, hgd])] at h0
theorem wp_app2 (hgd : o.guard = none) {box : Option Nat} {v : Value} {l : List (Int × Int)} {g : Nat} {d i : Int} (hN : NStage W2 w (some (v, l)) (some (g, d, i)) box) (s x : Operand)
    (ho : o.op = .call { callee := .builtin .append, args := #[s, x], argTypes := #[40, 40] }) (hs : a.eval s = v)
    (hx : a.eval x = .slice (some ⟨g, 0, none⟩) 1 1) (hlen : l.length ≤ 1010)
    (h : ∀ A c w', NStage W2 w' (some (.slice A (l.length + 1) c, l ++ [(d, i)])) (some (g, d, i)) box → K (a.put o.dst (.slice A (l.length + 1) c)) w') : Oper.wp Try.prog o a w K Q := by
  have h0 := step_app2 (ops := #[]) (E := True) hgd hN s x ho hs hx rfl hlen h (Q := Q)
  rwa [if_pos (by simp [Region.wanted, hgd])] at h0
end
end Go.Proofs.Ytjgkgnfhglhklaa
