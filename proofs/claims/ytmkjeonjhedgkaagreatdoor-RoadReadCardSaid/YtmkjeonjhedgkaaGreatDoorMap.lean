/- Maps that a call makes, entry by entry in the order of insertion: looked up, stored into, ranged over. Over any program. A region with a send or a receive, on one goroutine, where nothing waits: a rule of the walk. Over any program. -/
import Derived.Test.YtmkjeonjhedgkaaGreatDoorSpec
import Derived.Maps.OwnSet
import Derived.Maps.RangeWalk
import Derived.Maps.RangeRun
import Derived.WideKeyArgs2
import Derived.Conc.LoneCalls
import Derived.Deep.Cut
namespace Go.Proofs.YtmkjeonjhedgkaaGreatDoor
set_option linter.unusedSimpArgs false
set_option linter.unusedVariables false
open Go.RowKit
open Go.ChangeMaps (setBlock)
open Go.WideMaps (KeyLaw)

/-- The entries of a map into which the pairs ps were stored, one after the other, all keys new. -/
def mkEs (ps : List (Value × Value)) : Array MapEntry := (ps.zipIdx.map fun q => ({ key := q.1.1, val := q.1.2, born := q.2 } : MapEntry)).toArray
def MapIs (w : World) (m : Nat) (ps : List (Value × Value)) : Prop := w.heap[m]? = some (.map (mkEs ps) ps.length)

theorem mkEs_size (ps : List (Value × Value)) : (mkEs ps).size = ps.length := by simp [mkEs]
theorem mkEs_getElem? (ps : List (Value × Value)) (i : Nat) : (mkEs ps)[i]? = (ps[i]?).map fun q => ({ key := q.1, val := q.2, born := i } : MapEntry) := by
  simp only [mkEs, List.getElem?_toArray, List.getElem?_map, List.getElem?_zipIdx, Option.map_map]
  cases ps[i]? <;> simp
theorem mem_mkEs {ps : List (Value × Value)} {e : MapEntry} : e ∈ (mkEs ps).toList ↔ ∃ i, ps[i]? = some (e.key, e.val) ∧ e.born = i := by
  constructor
  · intro h
    obtain ⟨i, hi⟩ := List.mem_iff_getElem?.1 h
    rw [Array.getElem?_toList, mkEs_getElem?] at hi
    cases hp : ps[i]? with
    | none => simp [hp] at hi
    | some q => simp [hp] at hi; subst hi; exact ⟨i, hp, rfl⟩
  · rintro ⟨i, hi, hb⟩
    refine List.mem_iff_getElem?.2 ⟨i, ?_⟩
    rw [Array.getElem?_toList, mkEs_getElem?, hi]
    simp [← hb]
theorem mkEs_push (ps : List (Value × Value)) (k v : Value) : (mkEs ps).push { key := k, val := v, born := ps.length } = mkEs (ps ++ [(k, v)]) := by
  simp [mkEs, List.zipIdx_append]
theorem mkEs_modify (ps : List (Value × Value)) (i : Nat) (k v : Value) (_hi : i < ps.length) :
    (mkEs ps).modify i (fun e => { e with key := k, val := v }) = mkEs (ps.set i (k, v)) := by
  apply Array.ext_getElem?
  intro j
  rw [Array.getElem?_modify, mkEs_getElem?, mkEs_getElem?, List.getElem?_set]
  by_cases h : i = j
  · subst h
    simp [_hi]
  · simp [h]

theorem MapIs.made (w : World) : MapIs (w.alloc (.map #[] 0)) w.heap.size [] := by
  show (w.heap.push _)[w.heap.size]? = some _
  simp [mkEs]
theorem MapIs.lt {w : World} {m : Nat} {ps : List (Value × Value)} (h : MapIs w m ps) : m < w.heap.size := (Array.getElem?_eq_some_iff.1 h).1
theorem MapIs.below {w w' : World} {m : Nat} {ps : List (Value × Value)} (h : MapIs w m ps) {B : Nat} (hb : Below B w w') (hB : m < B) : MapIs w' m ps := by
  unfold MapIs at *; rw [hb.block m hB]; exact h
theorem MapIs.drew {w : World} {m : Nat} {ps : List (Value × Value)} (h : MapIs w m ps) (n : Nat) : MapIs (w.drewN n) m ps := by
  unfold MapIs at *; simpa using h

section
variable {P : Program} {k e t : TypeId}

theorem find_mk (K : KeyLaw P k) (w : World) {ps : List (Value × Value)} {key : Value} {kl : Lit} (hkey : keyOf P k key = some kl) (hk : ∀ p ∈ ps, ∃ l, keyOf P k p.1 = some l) :
    ((Instr.findKey k key (mkEs ps).toList).run P w = .ok none w ∧ ∀ p ∈ ps, p.1 ≠ key) ∨
    ∃ i v, (Instr.findKey k key (mkEs ps).toList).run P w = .ok (some (i, v)) w ∧ ps[i]? = some (key, v) := by
  have hk' : ∀ x ∈ (mkEs ps).toList, ∃ l, keyOf P k x.key = some l := by
    intro x hx
    obtain ⟨i, hi, _⟩ := mem_mkEs.1 hx
    exact hk _ (List.mem_of_getElem? hi)
  rcases K.find w hkey (mkEs ps).toList hk' with ⟨h1, h2⟩ | ⟨j, x, h1, h2, h3⟩
  · refine .inl ⟨h1, fun p hp => ?_⟩
    obtain ⟨i, hi⟩ := List.mem_iff_getElem?.1 hp
    exact h2 ⟨p.1, p.2, i⟩ (mem_mkEs.2 ⟨i, hi, rfl⟩)
  · rw [Array.getElem?_toList, mkEs_getElem?] at h2
    cases hp : ps[j]? with
    | none => simp [hp] at h2
    | some q =>
      simp [hp] at h2
      subst h2
      dsimp only at h3 h1
      exact .inr ⟨j, q.2, h1, by rw [hp, ← h3]⟩

theorem run_look (c : Bool) (K : KeyLaw P k) (ht : P.underlying t = some (.map k e)) {w : World} {m : Nat} {ps : List (Value × Value)} (hm : MapIs w m ps) {z : Value} (hz : (zeroValue e).run P w = .ok z w)
    {key : Value} {kl : Lit} (hkey : keyOf P k key = some kl) (hk : ∀ p ∈ ps, ∃ l, keyOf P k p.1 = some l) :
    ((Instr.lookup t (.map (some m)) key c).run P w = .ok (if c then .tuple #[z, .bool false] else z) w ∧ ∀ p ∈ ps, p.1 ≠ key) ∨
    ∃ v, (Instr.lookup t (.map (some m)) key c).run P w = .ok (if c then .tuple #[v, .bool true] else v) w ∧ (key, v) ∈ ps := by
  rcases find_mk K w hkey hk with ⟨h1, h2⟩ | ⟨i, v, h1, h2⟩
  · exact .inl ⟨by simp [Instr.lookup, run_underlying ht, MapKept.run_getObj_map hm, K.check w _ hkey, h1, hz, Result.andThen], h2⟩
  · exact .inr ⟨v, by simp [Instr.lookup, run_underlying ht, MapKept.run_getObj_map hm, K.check w _ hkey, h1, Result.andThen], List.mem_of_getElem? h2⟩

theorem run_store (K : KeyLaw P k) (ht : P.underlying t = some (.map k e)) {w : World} {m : Nat} {ps : List (Value × Value)} (hm : MapIs w m ps)
    {key val : Value} {kl : Lit} (hkey : keyOf P k key = some kl) (hk : ∀ p ∈ ps, ∃ l, keyOf P k p.1 = some l) :
    ∃ ps', (Instr.mapUpdate t (.map (some m)) key val).run P w = .ok () (setBlock w m (.map (mkEs ps') ps'.length)) ∧
      (((∀ p ∈ ps, p.1 ≠ key) ∧ ps' = ps ++ [(key, val)]) ∨ ∃ i v, ps[i]? = some (key, v) ∧ ps' = ps.set i (key, val)) := by
  rcases find_mk K w hkey hk with ⟨h1, h2⟩ | ⟨i, v, h1, h2⟩
  · refine ⟨ps ++ [(key, val)], ?_, .inl ⟨h2, rfl⟩⟩
    rw [← mkEs_push]
    simp [Instr.mapUpdate, run_underlying ht, MapKept.run_getObj_map hm, K.check w false hkey, h1, MapKept.run_setObj_map _ hm, Result.andThen, setBlock]
  · refine ⟨ps.set i (key, val), ?_, .inr ⟨i, v, h2, rfl⟩⟩
    have hi : i < ps.length := (List.getElem?_eq_some_iff.1 h2).1
    have e1 := mkEs_modify ps i key val hi
    have e2 : (mkEs ps)[i]? = some ⟨key, v, i⟩ := by rw [mkEs_getElem?, h2]; rfl
    simp [Instr.mapUpdate, run_underlying ht, MapKept.run_getObj_map hm, K.check w false hkey, h1, e2, K.stays w hkey, MapKept.run_setObj_map _ hm, Result.andThen, setBlock, e1]

theorem setBlock_below {w w0 : World} {B m : Nat} (o : Obj) (hb : Below B w0 w) (hB : B ≤ m) : Below B w0 (setBlock w m o) :=
  hb.trans ⟨rfl, rfl, rfl, by simp [setBlock], fun k hk => by simp only [setBlock]; rw [Array.getElem?_setIfInBounds_ne (by omega)]⟩
theorem setBlock_other {w : World} {m j : Nat} (o : Obj) (h : m ≠ j) : (setBlock w m o).heap[j]? = w.heap[j]? := by simp only [setBlock]; rw [Array.getElem?_setIfInBounds_ne h]
theorem setBlock_cell {w : World} {m : Nat} (o : Obj) {a : Addr} (h : m ≠ a.block) : (setBlock w m o).cell? a = w.cell? a := World.cell?_of_block (setBlock_other o h)
theorem setBlock_size {w : World} {m : Nat} (o : Obj) : (setBlock w m o).heap.size = w.heap.size := by simp [setBlock]
theorem MapIs.set {w : World} {m : Nat} {ps : List (Value × Value)} (ps' : List (Value × Value)) (h : MapIs w m ps) : MapIs (setBlock w m (.map (mkEs ps') ps'.length)) m ps' := by
  have := h.lt
  simp [MapIs, setBlock, this]

/-- m[key] = val at the operation, the key new or not. -/
theorem store_op {ops : Array Oper} {rest : List Oper} {o : Oper} {a : Act} {Q : Exit → Act → World → Prop} {w : World} (hg : o.guard = none) (mo x v : Operand) (t k e : TypeId) (hop : o.op = Op.mapUpdate t mo x v)
    (K : KeyLaw P k) (ht : P.underlying t = some (.map k e)) (m : Nat) (ps : List (Value × Value)) (hmv : a.eval mo = .map (some m)) (hm : MapIs w m ps)
    (key val : Value) (hx : a.eval x = key) (hv : a.eval v = val) (hkey : ∃ kl, keyOf P k key = some kl) (hk : ∀ p ∈ ps, ∃ l, keyOf P k p.1 = some l)
    (hK : ∀ ps', (((∀ p ∈ ps, p.1 ≠ key) ∧ ps' = ps ++ [(key, val)]) ∨ ∃ i v, ps[i]? = some (key, v) ∧ ps' = ps.set i (key, val)) →
      wpList P ops Q rest (a.put o.dst undef) (setBlock w m (.map (mkEs ps') ps'.length))) :
    wpList P ops Q (o :: rest) a w := by
  obtain ⟨kl, hkey⟩ := hkey
  refine wpList_plain hg fun K' hK' => ?_
  obtain ⟨ps', hrun, h⟩ := run_store K ht hm (val := val) hkey hk
  unfold Oper.wp
  simp [execOp, hop, hmv, hx, hv, hrun, Result.andThen]
  exact hK' _ _ (hK ps' h)
end

/-- An iterator over the map m in block r: the entries in seen (by their number) have been met. -/
def IterIs (w : World) (r m : Nat) (n : Nat) (seen : List Nat) : Prop := w.heap[r]? = some (.mapIter (some m) n seen.toArray n)

theorem run_range {P : Program} {t k e : TypeId} (ht : P.underlying t = some (.map k e)) {w : World} {m : Nat} {ps : List (Value × Value)} (hm : MapIs w m ps) :
    (Instr.range t (.map (some m))).run P w = .ok (.pointer (some ⟨w.heap.size, 0, none⟩)) (w.alloc (.mapIter (some m) ps.length #[] ps.length)) := by
  simp only [Instr.range, Sem.run_bind, run_underlying ht, Result.andThen, MapKept.run_getObj_map hm, newObj]
  rfl
theorem IterIs.made {w : World} {m n : Nat} : IterIs (w.alloc (.mapIter (some m) n #[] n)) w.heap.size m n [] := by
  show (w.heap.push _)[w.heap.size]? = some _
  simp
theorem IterIs.below {w w' : World} {r m n : Nat} {seen : List Nat} (h : IterIs w r m n seen) {B : Nat} (hb : Below B w w') (hB : r < B) : IterIs w' r m n seen := by
  unfold IterIs at *; rw [hb.block r hB]; exact h
theorem IterIs.lt {w : World} {r m n : Nat} {seen : List Nat} (h : IterIs w r m n seen) : r < w.heap.size := (Array.getElem?_eq_some_iff.1 h).1

theorem mkEs_nodup (ps : List (Value × Value)) : ((mkEs ps).toList.map (·.born)).Nodup := by
  have : (mkEs ps).toList.map (·.born) = List.range ps.length := by
    simp only [mkEs, List.map_map]
    rw [show ((fun x : MapEntry => x.born) ∘ fun q : (Value × Value) × Nat => ({ key := q.1.1, val := q.1.2, born := q.2 } : MapEntry)) = Prod.snd from rfl, List.zipIdx_map_snd, List.range_eq_range']
  rw [this]; exact List.nodup_range

theorem filter_mk (ps : List (Value × Value)) (seen : List Nat) (x : MapEntry) : x ∈ ((mkEs ps).filter fun e => !seen.toArray.contains e.born) ↔ ∃ i, ps[i]? = some (x.key, x.val) ∧ x.born = i ∧ i ∉ seen := by
  rw [Array.mem_filter, ← Array.mem_toList_iff, mem_mkEs]
  constructor
  · rintro ⟨⟨i, h1, h2⟩, h3⟩
    exact ⟨i, h1, h2, by simpa [h2] using h3⟩
  · rintro ⟨i, h1, h2, h3⟩
    exact ⟨⟨i, h1, h2⟩, by simpa [h2] using h3⟩

/-- One step of the iterator: over, or an entry that has not been met; behind it the entry can be read. -/
theorem run_next {P : Program} {w : World} {r m : Nat} {ps : List (Value × Value)} {seen : List Nat} (ty : TypeId) (hm : MapIs w m ps) (hr : IterIs w r m ps.length seen) :
    ((∀ i, i < ps.length → i ∈ seen) ∧ (Instr.next (.pointer (some ⟨r, 0, none⟩)) false ty).run P w = .ok (.tuple #[.bool false]) w) ∨
    ∃ i q n, ps[i]? = some q ∧ i ∉ seen ∧
      (Instr.next (.pointer (some ⟨r, 0, none⟩)) false ty).run P w = .ok (.tuple #[.bool true, q.1, q.2]) (setBlock (w.drewN n) r (.mapIter (some m) ps.length (seen ++ [i]).toArray ps.length)) := by
  have hold : ∀ x ∈ (mkEs ps).toList, x.born < ps.length := by
    intro x hx
    obtain ⟨i, hi, hb⟩ := mem_mkEs.1 hx
    have := (List.getElem?_eq_some_iff.1 hi).1
    omega
  rcases run_next_at (P := P) w ty r m ps.length ps.length seen.toArray (mkEs ps) ps.length hr hm hold (Nat.le_refl _) with ⟨h1, h2⟩ | ⟨x, hx, w1, hw, hrun⟩
  · refine .inl ⟨fun i hi => ?_, h2⟩
    apply Classical.byContradiction
    intro hn
    have : (⟨ps[i].1, ps[i].2, i⟩ : MapEntry) ∈ (leftOf (mkEs ps) seen.toArray) := by
      unfold leftOf
      exact (filter_mk ps seen _).2 ⟨i, by simp [hi], rfl, hn⟩
    rw [Array.eq_empty_of_size_eq_zero h1] at this
    simp at this
  · have hx' : x ∈ (mkEs ps).filter fun e => !seen.toArray.contains e.born := by simpa [leftOf] using hx
    obtain ⟨i, h1, h2, h3⟩ := (filter_mk ps seen x).1 hx'
    have e1 : seen.toArray.push x.born = (seen ++ [i]).toArray := by simp [h2]
    rw [e1] at hrun
    rcases hw with rfl | rfl
    · exact .inr ⟨i, (x.key, x.val), 0, h1, h3, hrun⟩
    · exact .inr ⟨i, (x.key, x.val), 1, h1, h3, hrun⟩

theorem run_entry {P : Program} {w : World} {r m i : Nat} {ps : List (Value × Value)} {seen : List Nat} {q : Value × Value} (hm : MapIs w m ps) (hr : IterIs w r m ps.length (seen ++ [i])) (hi : ps[i]? = some q) :
    (Instr.entry (.pointer (some ⟨r, 0, none⟩))).run P w = .ok (.tuple #[q.1, q.2]) w := by
  have hr' : w.heap[r]? = some (.mapIter (some m) ps.length (seen.toArray.push i) ps.length) := by
    have h := hr
    unfold IterIs at h
    rw [h]; simp
  exact run_entry_at w r m ps.length seen.toArray (mkEs ps) ps.length ⟨q.1, q.2, i⟩ hr' hm (mem_mkEs.2 ⟨i, hi, rfl⟩) (mkEs_nodup ps)
end Go.Proofs.YtmkjeonjhedgkaaGreatDoor

namespace Go.Proofs.YtmkjeonjhedgkaaGreatDoor
set_option linter.unusedSimpArgs false
set_option linter.unusedVariables false
open Go.RowKit Go.Conc

/-- A communication that goes through at once: a send into a buffer with room; a receive (without ok) out of a buffer that holds something. -/
def CommGo (P : Program) (o : Oper) (a : Act) (w : World) (next : Act → World → Prop) : Prop :=
  (∃ c v z w1 cap buf s r tm, (execOp a.eval o).run P w = .ok (.comm #[scase c v z] true .send) w1 ∧ w1.heap[c]? = some (.chan cap buf false s r tm) ∧ buf.size < cap ∧
      next (a.put o.dst undef) (w1.setChan c cap (buf.push v) false (s + 1) r tm)) ∨
  (∃ c z w1 cap buf s r tm, (execOp a.eval o).run P w = .ok (.comm #[rcase c z] true (.recv false)) w1 ∧ w1.heap[c]? = some (.chan cap buf false s r tm) ∧ 0 < buf.size ∧
      next (a.put o.dst (buf.getD 0 undef)) (w1.setChan c cap (buf.extract 1 buf.size) false s (r + 1) tm))

/-- The operations l of a region, among them communications. -/
def wpC (P : Program) (ops : Array Oper) (Q : Exit → Act → World → Prop) : List Nat → Act → World → Prop
  | [], a, w => Q .normal a w
  | i :: rest, a, w =>
    match ops[i]? with
    | none => False
    | some o => o.guard = none ∧ (o.wp P a w (wpC P ops Q rest) Q ∨ (o.asks P a w ∧ LetsOut Q) ∨ CommGo P o a w (wpC P ops Q rest))

theorem stepG_comm {P : Program} {b : Frame} {a : Act} {k : List Item} {cs : List Frame} {w w1 : World} {ops : Array Oper} {i : Nat} {rest : List Nat} {o : Oper} {cases : Array CommCase} {shape : CommShape}
    (ho : ops[i]? = some o) (hg : o.guard = none) (hr : (execOp a.eval o).run P w = .ok (.comm cases true shape) w1) :
    ∃ es, stepG P true (G (b.at a (.inRegion ops (i :: rest) :: k)) cs) w = .comm (G (b.at a (.inRegion ops (i :: rest) :: k)) cs) cases true shape w1 es := by
  have hs := stepG_op (P := P) (b := b) (a := a) (k := k) (cs := cs) (w := w) (rest := rest) ho (by simp [Region.wanted, hg])
  unfold G
  rw [hs]
  simp only [stepG.apply, Sem.runT_eq, if_true, hr, GStep.after]
  exact ⟨_, rfl⟩

theorem wp_C {P : Program} {ops : Array Oper} {Q : Exit → Act → World → Prop} (l : List Nat) :
    ∀ (a : Act) (w : World), wpC P ops Q l a w → ∀ (b : Frame) (k : List Item) (cs : List Frame),
      ∃ e a' w', Q e a' w' ∧ Arrives P (lone (b.at a (.inRegion ops l :: k)) cs w) b k cs e a' w' := by
  induction l with
  | nil => exact fun a w h b k cs => ⟨.normal, a, w, h, .one step_region_end⟩
  | cons i rest ih =>
    intro a w h b k cs
    simp only [wpC] at h
    cases ho : ops[i]? with
    | none => simp [ho] at h
    | some o =>
      simp only [ho] at h
      obtain ⟨hgd, h⟩ := h
      have hfin : ∀ v, (b.at a (.inRegion ops (i :: rest) :: k)).finish v = b.at (a.put o.dst v) (.inRegion ops rest :: k) := by
        intro v; rw [Frame.finish_at, ho]; rfl
      rcases h with h | ⟨hasks, a₀, w₀, hq⟩ | h
      · simp only [Oper.wp, Oper.upon] at h
        have hg := stepG_op (P := P) (b := b) (a := a) (k := k) (cs := cs) (w := w) (rest := rest) ho (by simp [Region.wanted, hgd])
        split at h
        · rename_i v w' hr
          obtain ⟨e, a', w'', hq, harr⟩ := ih _ _ h b k cs
          refine ⟨e, a', w'', hq, .of_steps (.one (step_lone_go ?_)) harr⟩
          rw [hg, ← hfin]; simp [stepG.apply, hr]
        · rename_i w' hr
          obtain ⟨e, a', w'', hq, harr⟩ := ih _ _ h b k cs
          refine ⟨e, a', w'', hq, .of_steps (.one (step_lone_go ?_)) harr⟩
          rw [hg, ← hfin]; simp [stepG.apply, hr]
        · rename_i d w' hr
          obtain ⟨e, a', w'', hq, harr⟩ := ih _ _ h b k cs
          refine ⟨e, a', w'', hq, .of_steps (.one (step_lone_go ?_)) harr⟩
          have : ({ b.at a (.inRegion ops (i :: rest) :: k) with defers := d :: a.defers } : Frame).finish undef =
              b.at ({ a with defers := d :: a.defers }.put o.dst undef) (.inRegion ops rest :: k) := by
            have := Frame.finish_at b { a with defers := d :: a.defers } ops i rest k undef
            rw [ho] at this; exact this
          rw [hg]; simp only [stepG.apply, Sem.runT_eq, hr, GStep.bare_after]
          exact congrArg (fun fr => GStep.go { frame := fr, callers := cs, status := .running, dying := none } w') this
        · rename_i f args w' hr
          obtain ⟨e, w'', fr, hR, hsteps, _, hleave⟩ := h (b.at a (.inRegion ops (i :: rest) :: k) :: cs)
          have henter : step P (lone (b.at a (.inRegion ops (i :: rest) :: k)) cs w) =
              .next (lone (Frame.enter P f args .normal) (b.at a (.inRegion ops (i :: rest) :: k) :: cs) w') :=
            step_lone_go (by rw [hg]; simp [stepG.apply, hr, Frame.at])
          cases e with
          | returned v =>
            obtain ⟨e, a', w₃, hq, harr⟩ := ih _ _ hR b k cs
            refine ⟨e, a', w₃, hq, .of_steps (.head henter (hsteps.trans (.one ?_))) harr⟩
            rw [← hfin]; exact step_leave_returned hleave
          | panicked chain =>
            refine ⟨.panic chain, a, w'', hR, .inRegion ops (i :: rest) :: k, .head henter (hsteps.trans (.one ?_))⟩
            rw [← Frame.raise_at]; exact step_leave_panicked hleave
          | outgrown =>
            obtain ⟨a₀, w₀, hq⟩ := hR
            exact ⟨.outgrown, a₀, w₀, hq, .inr (Outgrown.of_steps (.one henter) hsteps)⟩
        · rename_i row args w' hr
          obtain ⟨v, w'', hR, hsteps⟩ := h (b.at a (.inRegion ops (i :: rest) :: k)) cs
          have henter : step P (lone (b.at a (.inRegion ops (i :: rest) :: k)) cs w) =
              .next (lone (Frame.ofRow P row args .normal) (b.at a (.inRegion ops (i :: rest) :: k) :: cs) w') :=
            step_lone_go (by rw [hg]; simp [stepG.apply, hr, Frame.at])
          obtain ⟨e, a', w₃, hq, harr⟩ := ih _ _ hR b k cs
          refine ⟨e, a', w₃, hq, .of_steps (.head henter ?_) harr⟩
          rw [← hfin]; exact hsteps
        · rename_i v w' hr
          refine ⟨_, a, w', h, .inRegion ops (i :: rest) :: k, .one (step_lone_go ?_)⟩
          rw [hg, ← Frame.raise_at]; simp [stepG.apply, hr]
        · exact h.elim
      · by_cases hk : b.kind = .early
        · exact ⟨.outgrown, a₀, w₀, hq, .inl hk⟩
        · exact ⟨.outgrown, a₀, w₀, hq, .inr (asks_outgrown ho (by simp [Region.wanted, hgd]) hk hasks)⟩
      · rcases h with ⟨c, v, z, w1, cap, buf, s, r, tm, hr, hc, hroom, hn⟩ | ⟨c, z, w1, cap, buf, s, r, tm, hr, hc, hsome, hn⟩
        · obtain ⟨es, hg⟩ := stepG_comm (b := b) (k := k) (cs := cs) (rest := rest) ho hgd hr
          have hs := step_lone_send_room hg hc hroom
          rw [hfin] at hs
          obtain ⟨e, a', w'', hq, harr⟩ := ih _ _ hn b k cs
          exact ⟨e, a', w'', hq, .of_steps (.one hs) harr⟩
        · obtain ⟨es, hg⟩ := stepG_comm (b := b) (k := k) (cs := cs) (rest := rest) ho hgd hr
          have hs := step_lone_recv_buf false hg hc hsome
          rw [hfin] at hs
          obtain ⟨e, a', w'', hq, harr⟩ := ih _ _ hn b k cs
          exact ⟨e, a', w'', hq, .of_steps (.one hs) harr⟩

theorem wp_region_C {P : Program} {id : Nat} {ops : Array Oper} {Q : Exit → Act → World → Prop} {a : Act} {w : World}
    (h : wpC P ops Q (List.range ops.size) a w) : (Code.region id ops false).wp P Q a w :=
  fun b k cs => let ⟨e, a', w', q, r⟩ := wp_C _ a w h b k cs; ⟨e, a', w', q, .of_steps (.one step_region) r⟩

theorem Oper.wp_mono' {P : Program} {o : Oper} {a : Act} {w : World} {K K' : Act → World → Prop} {Q Q' : Exit → Act → World → Prop} (hK : ∀ a w, K a w → K' a w) (hQ : ∀ ch a w, Q (.panic ch) a w → Q' (.panic ch) a w)
    (hL : LetsOut Q → LetsOut Q') (h : o.wp P a w K Q) : o.wp P a w K' Q' := by
  unfold Oper.wp at *
  generalize (execOp a.eval o).run P w = r at *
  cases r with
  | ok n w' =>
    cases n <;> simp only [Oper.upon] at h ⊢
    case value v => exact hK _ _ h
    case skip => exact hK _ _ h
    case defer d => exact hK _ _ h
    case enter f args =>
      refine h.mono fun e w'' q => ?_
      cases e with
      | returned v => exact hK _ _ q
      | panicked ch => exact hQ _ _ _ q
      | outgrown => exact hL q
    case row row args => exact h.mono fun v w'' q => hK _ _ q
  | halt x w' =>
    cases x <;> simp only [Oper.upon] at h ⊢
    case panic v => exact hQ _ _ _ h

/-- The operations before the communication are walked as ever. -/
theorem wpC_of_list {P : Program} {ops : Array Oper} {Q : Exit → Act → World → Prop} {K : Act → World → Prop} {rest : List Nat} (hK : ∀ a w, K a w → wpC P ops Q rest a w) :
    ∀ (l : List Oper) (n : Nat) (_ : ∀ j, j < l.length → l[j]? = ops[n + j]?) (_ : ∀ o ∈ l, o.guard = none) (a : Act) (w : World),
      wpList P ops (Exit.then K Q) l a w → wpC P ops Q (List.range' n l.length ++ rest) a w := by
  intro l
  induction l with
  | nil => intro n _ _ a w h; exact hK _ _ h
  | cons o l ih =>
    intro n hl hg a w h
    have h0 : ops[n]? = some o := by simpa using (hl 0 (by simp)).symm
    have hgo := hg o (by simp)
    have ih' := fun a w => ih (n + 1) (fun j hj => by have := hl (j + 1) (by simp; omega); simpa [Nat.add_assoc, Nat.add_comm 1 j] using this) (fun o' ho' => hg o' (by simp [ho'])) a w
    have hl' : LetsOut (Exit.then K Q) → LetsOut Q := fun ⟨a, w, q⟩ => ⟨a, w, q⟩
    simp only [List.length_cons, List.range'_succ, List.cons_append, wpC, h0]
    refine ⟨hgo, ?_⟩
    simp only [wpList] at h
    rw [if_pos (by simp [Region.wanted, hgo])] at h
    rcases h with h | ⟨h1, h2⟩
    · exact .inl (Oper.wp_mono' ih' (fun _ _ _ q => q) hl' h)
    · exact .inr (.inl ⟨h1, hl' h2⟩)

/-- A region whose operation number n communicates. -/
theorem wp_region_comm {P : Program} {id : Nat} {l : List Oper} {Q : Exit → Act → World → Prop} {a : Act} {w : World} (n : Nat) (o : Oper) (ho : l[n]? = some o) (hg : l.all (fun o => o.guard.isNone) = true)
    (h : wpList P l.toArray (Exit.then (fun a w => CommGo P o a w fun a w => wpList P l.toArray Q (l.drop (n + 1)) a w) Q) (l.take n) a w) : (Code.region id l.toArray false).wp P Q a w := by
  refine wp_region_C ?_
  have hn : n < l.length := (List.getElem?_eq_some_iff.1 ho).1
  have hgo : ∀ o' ∈ l, o'.guard = none := fun o' ho' => by have := List.all_eq_true.1 hg o' ho'; simpa using this
  have hsplit : List.range l.toArray.size = List.range' 0 n ++ (n :: List.range' (n + 1) (l.length - (n + 1))) := by
    rw [List.range_eq_range', List.size_toArray, ← List.range'_succ]
    have e := List.range'_append_1 (s := 0) (m := n) (n := l.length - (n + 1) + 1)
    rw [Nat.zero_add] at e
    rw [e]
    congr 1; omega
  rw [hsplit]
  have hlen : (l.take n).length = n := by simp; omega
  have := wpC_of_list (P := P) (ops := l.toArray) (Q := Q) (rest := n :: List.range' (n + 1) (l.length - (n + 1)))
    (K := fun a w => CommGo P o a w fun a w => wpList P l.toArray Q (l.drop (n + 1)) a w) (fun a w hc => ?_) (l.take n) 0 (fun j hj => ?_) (fun o' ho' => hgo o' (List.mem_of_mem_take ho')) a w h
  · rw [hlen] at this; exact this
  · have ho' : l.toArray[n]? = some o := by simpa using ho
    simp only [wpC, ho']
    refine ⟨hgo o (List.mem_of_getElem? ho), .inr (.inr ?_)⟩
    have key : ∀ a w, wpList P l.toArray Q (l.drop (n + 1)) a w → wpC P l.toArray Q (List.range' (n + 1) (l.length - (n + 1))) a w := by
      intro a w hh
      have := wpC_of_list (P := P) (ops := l.toArray) (Q := Q) (rest := []) (K := fun a w => Q .normal a w) (fun a w q => q) (l.drop (n + 1)) (n + 1) (fun j hj => by simp)
        (fun o' ho' => hgo o' (List.mem_of_mem_drop ho')) a w (by
          have e : Exit.then (fun a w => Q .normal a w) Q = Q := by funext e a w; cases e <;> rfl
          rw [e]; exact hh)
      simpa using this
    rcases hc with ⟨c, v, z, w1, cap, buf, s, r, tm, h1, h2, h3, h4⟩ | ⟨c, z, w1, cap, buf, s, r, tm, h1, h2, h3, h4⟩
    · exact .inl ⟨c, v, z, w1, cap, buf, s, r, tm, h1, h2, h3, key _ _ h4⟩
    · exact .inr ⟨c, z, w1, cap, buf, s, r, tm, h1, h2, h3, key _ _ h4⟩
  · rw [hlen] at hj
    simp [List.getElem?_take, hj]

/-- The same, the communication behind a name that the walk does not open. -/
theorem wp_region_met {P : Program} {id : Nat} {l : List Oper} {Q : Exit → Act → World → Prop} {a : Act} {w : World} (n : Nat) (o : Oper) (ho : l[n]? = some o) (hg : l.all (fun o => o.guard.isNone) = true)
    (h : ∀ (J K' : Act → World → Prop), (∀ a w, CommGo P o a w (fun a w => wpList P l.toArray Q (l.drop (n + 1)) a w) → J a w) → (∀ a w, Met J a w → K' a w) →
      wpList P l.toArray (Exit.then K' Q) (l.take n) a w) : (Code.region id l.toArray false).wp P Q a w :=
  wp_region_comm n o ho hg (h _ _ (fun _ _ q => q) (fun _ _ q => q))
end Go.Proofs.YtmkjeonjhedgkaaGreatDoor
