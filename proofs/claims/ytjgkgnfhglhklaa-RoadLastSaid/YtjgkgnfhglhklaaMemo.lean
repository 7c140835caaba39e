/- The map of what is known, keyed by hours. -/
import Derived.Test.YtjgkgnfhglhklaaTogoP
import Derived.Test.YtjgkgnfhglhklaaSpotsSt
namespace Go.Proofs.Ytjgkgnfhglhklaa
set_option linter.unusedSimpArgs false
set_option linter.unusedVariables false
open Go.RowKit
open Go.ChangeMaps (setBlock)

def hourV (d : Int) (p : Int × Int) : Value := .agg #[.int .i64 d, .int .i64 p.1, .int .i64 p.2]
theorem hourV_inj {d d' : Int} {p p' : Int × Int} (h : hourV d p = hourV d' p') : d = d' ∧ p = p' := by
  simp only [hourV, Value.agg.injEq, Array.mk.injEq, List.cons.injEq, Value.int.injEq, true_and, and_true] at h
  exact ⟨h.1, Prod.ext h.2.1 h.2.2⟩

theorem hour_key (d : Int) (p : Int × Int) (h1 : 0 ≤ d ∧ d ≤ 200) (h2 : 0 ≤ p.1 ∧ p.1 ≤ 200) (h3 : 0 ≤ p.2 ∧ p.2 ≤ 200) : ∃ l, keyOf Try.prog 152 (hourV d p) = some l := by
  have w0 : (Lit.int .i64 d).wf = true := WalkArith.wf_i64 (by omega)
  have w1 : (Lit.int .i64 p.1).wf = true := WalkArith.wf_i64 (by omega)
  have w2 : (Lit.int .i64 p.2).wf = true := WalkArith.wf_i64 (by omega)
  have hf : Value.formed Try.prog 152 (hourV d p) = true := by kernel_rfl
  have hk : Try.prog.keyType 152 = true := by kernel_rfl
  have hc0 : Try.prog.cellsOf 152 = 3 := by kernel_rfl
  have hc1 : Try.prog.cellsOf 127 = 2 := by kernel_rfl
  have hc2 : Try.prog.cellsOf 3 = 1 := by kernel_rfl
  obtain ⟨D, hz⟩ : ∃ D, Try.prog.types.size + 1 = D + 1 + 1 + 1 := ⟨Try.prog.types.size - 2, by have := of_decide_eq_true types_size; omega⟩
  unfold keyOf
  rw [Try.underlying152]
  dsimp only
  rw [hk, hf, hz]
  simp [Program.keyLits, Try.underlying152, Try.underlying127, Try.underlying3, hc0, hc1, hc2, hourV, Value.cells, w0, w1, w2]
  rw [if_pos (by decide)]
  exact ⟨_, rfl⟩
theorem hour_law : WideMaps.KeyLaw Try.prog 152 := deep_law_laid (by kernel_rfl) (m := 4) (by decide) (of_decide_eq_true (by kernel_rfl)) (by kernel_rfl) (by kernel_rfl)

def Near (d : Int) (p : Int × Int) : Prop := (0 ≤ d ∧ d ≤ 200) ∧ (0 ≤ p.1 ∧ p.1 ≤ 200) ∧ (0 ≤ p.2 ∧ p.2 ≤ 200)

/-- Block m is a map of hours; what stands there is what V says. -/
def Memo (w : World) (m : Nat) (V : Int → Int × Int → Int) : Prop := ∃ ps, MapIs w m ps ∧ ∀ x ∈ ps, ∃ d p, x = (hourV d p, .int .i64 (V d p)) ∧ Near d p

/-- Of what was there only block m may have turned. -/
structure Ext (m : Nat) (w w' : World) : Prop where
  os : w'.os = w.os
  tape : w'.tape = w.tape
  output : w'.output = w.output
  size : w.heap.size ≤ w'.heap.size
  block : ∀ k, k < w.heap.size → k ≠ m → w'.heap[k]? = w.heap[k]?
theorem Ext.refl (m : Nat) (w : World) : Ext m w w := ⟨rfl, rfl, rfl, Nat.le_refl _, fun _ _ _ => rfl⟩
theorem Ext.trans {m : Nat} {a b c : World} (h : Ext m a b) (k : Ext m b c) : Ext m a c :=
  ⟨k.os.trans h.os, k.tape.trans h.tape, k.output.trans h.output, Nat.le_trans h.size k.size, fun i hi hne => (k.block i (Nat.lt_of_lt_of_le hi h.size) hne).trans (h.block i hi hne)⟩
theorem Ext.of_below {m : Nat} {w w' : World} (h : Below w.heap.size w w') : Ext m w w' := ⟨h.os, h.tape, h.output, h.size, fun k hk _ => h.block k hk⟩
theorem Ext.below {m B : Nat} {w0 w w' : World} (h : Ext m w w') (hb : Below B w0 w) (hB : B ≤ m) (hBw : B ≤ w.heap.size) : Below B w0 w' :=
  hb.trans ⟨h.os, h.tape, h.output, h.size, fun k hk => h.block k (by omega) (by omega)⟩

theorem Memo.lt {w : World} {m : Nat} {V : Int → Int × Int → Int} (h : Memo w m V) : m < w.heap.size := by obtain ⟨ps, h, _⟩ := h; exact h.lt
theorem Memo.below {w w' : World} {m : Nat} {V : Int → Int × Int → Int} (h : Memo w m V) (hb : Below w.heap.size w w') : Memo w' m V := by
  have hl := h.lt
  obtain ⟨ps, h, h2⟩ := h
  exact ⟨ps, h.below hb hl, h2⟩
/-- A cell is no map. -/
theorem Memo.cell_ne {w : World} {m : Nat} {V : Int → Int × Int → Int} (h : Memo w m V) {b o : Nat} {v : Value} (hc : w.cell? ⟨b, o, none⟩ = some v) : b ≠ m := by
  intro e
  obtain ⟨ps, hm, _⟩ := h
  subst e
  unfold MapIs at hm
  simp [World.cell?, hm] at hc
theorem Ext.cell {w w' : World} {m : Nat} {V : Int → Int × Int → Int} (h : Ext m w w') (hm : Memo w m V) {b o : Nat} {v : Value} (hc : w.cell? ⟨b, o, none⟩ = some v) : w'.cell? ⟨b, o, none⟩ = some v := by
  rw [World.cell?_of_block (w := w) (h.block b (lt_of_cell hc) (hm.cell_ne hc))]; exact hc
theorem Ext.work {w w' : World} {m : Nat} {V : Int → Int × Int → Int} (h : Ext m w w') (hm : Memo w m V) {b : Nat} {r : Roads} {f : Flock} {shut : Int} {a : Option Addr} {cap : Nat} (hw : WorkAt w b r f shut a cap) : WorkAt w' b r f shut a cap := by
  obtain ⟨c0, c1, c2, c3, c4, c5, hs⟩ := hw
  refine ⟨h.cell hm c0, h.cell hm c1, h.cell hm c2, h.cell hm c3, h.cell hm c4, h.cell hm c5, ?_⟩
  rcases hs with hs | ⟨sb, so, e, hs⟩
  · exact .inl hs
  · exact .inr ⟨sb, so, e, fun i hi => by
      obtain ⟨s0, s1, s2, s3, s4, s5, s6⟩ := hs i hi
      exact ⟨h.cell hm s0, h.cell hm s1, h.cell hm s2, h.cell hm s3, h.cell hm s4, h.cell hm s5, h.cell hm s6⟩⟩

theorem memo_keys {V : Int → Int × Int → Int} {ps : List (Value × Value)} (h : ∀ x ∈ ps, ∃ d p, x = (hourV d p, .int .i64 (V d p)) ∧ Near d p) : ∀ x ∈ ps, ∃ l, keyOf Try.prog 152 x.1 = some l := by
  intro x hx
  obtain ⟨d, p, rfl, h1, h2, h3⟩ := h x hx
  exact hour_key d p h1 h2 h3

theorem memo_look {w : World} {m : Nat} {V : Int → Int × Int → Int} (h : Memo w m V) (d s l : Int) (hn : Near d (s, l)) :
    (Instr.lookup 150 (.map (some m)) (.agg #[.int .i64 d, .int .i64 s, .int .i64 l]) true).run Try.prog w = .ok (.tuple #[.int .i64 (V d (s, l)), .bool true]) w ∨
    (Instr.lookup 150 (.map (some m)) (.agg #[.int .i64 d, .int .i64 s, .int .i64 l]) true).run Try.prog w = .ok (.tuple #[.int .i64 0, .bool false]) w := by
  obtain ⟨ps, hm, hps⟩ := h
  obtain ⟨kl, hkl⟩ := hour_key d (s, l) hn.1 hn.2.1 hn.2.2
  rcases run_look true hour_law Try.underlying150 hm (z := .int .i64 0) (by kernel_rfl) hkl (memo_keys hps) with ⟨h1, _⟩ | ⟨v, h1, h2⟩
  · exact .inr h1
  · left
    obtain ⟨d', p', e, _⟩ := hps _ h2
    simp only [Prod.mk.injEq] at e
    obtain ⟨e1, rfl⟩ := e
    obtain ⟨rfl, rfl⟩ := hourV_inj e1
    exact h1

theorem memo_store {ops : Array Oper} {rest : List Oper} {o : Oper} {a : Act} {Q : Exit → Act → World → Prop} {w : World} {m : Nat} {V : Int → Int × Int → Int} (hg : o.guard = none) (mo x v : Operand)
    (hop : o.op = Op.mapUpdate 150 mo x v) (h : Memo w m V) (d s l : Int) (hn : Near d (s, l)) (hmv : a.eval mo = .map (some m)) (hx : a.eval x = .agg #[.int .i64 d, .int .i64 s, .int .i64 l])
    (hv : a.eval v = .int .i64 (V d (s, l)))
    (hK : ∀ w', Memo w' m V → Ext m w w' → wpList Try.prog ops Q rest (a.put o.dst undef) w') : wpList Try.prog ops Q (o :: rest) a w := by
  obtain ⟨ps, hm, hps⟩ := h
  refine store_op hg mo x v 150 152 3 hop hour_law Try.underlying150 m ps hmv hm (hourV d (s, l)) (.int .i64 (V d (s, l))) hx hv (hour_key d (s, l) hn.1 hn.2.1 hn.2.2) (memo_keys hps) fun ps' hps' => ?_
  refine hK _ ⟨ps', hm.set _, ?_⟩ ⟨rfl, rfl, rfl, by simp [setBlock], fun k _ hk => setBlock_other _ (Ne.symm hk)⟩
  intro y hy
  rcases hps' with ⟨_, rfl⟩ | ⟨i, v', _, rfl⟩
  · rcases List.mem_append.1 hy with hy | hy
    · exact hps y hy
    · simp at hy; subst hy; exact ⟨d, (s, l), rfl, hn⟩
  · rcases List.mem_or_eq_of_mem_set hy with hy | rfl
    · exact hps y hy
    · exact ⟨d, (s, l), rfl, hn⟩
end Go.Proofs.Ytjgkgnfhglhklaa
