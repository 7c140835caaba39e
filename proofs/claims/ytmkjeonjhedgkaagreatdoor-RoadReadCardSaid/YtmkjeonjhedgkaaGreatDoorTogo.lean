/- The fewest leagues still to walk: plain laws. The map of what is known, keyed by hours. The contract of togo. The best plan: plain laws. -/
import Derived.Test.YtmkjeonjhedgkaaGreatDoorBars
import Derived.Test.YtmkjeonjhedgkaaGreatDoorSpots
import Derived.Maps.AppendAt
namespace Go.Proofs.YtmkjeonjhedgkaaGreatDoor
set_option linter.unusedSimpArgs false
set_option linter.unusedVariables false
open Go.RowKit

def farI : Int := 1073741824

/-- The best of b0 and of going on over one of the first k strips; V says what is still to walk at a spot of the same day. -/
def bestTo (r : Roads) (f : Flock) (shut : Int) (V : Int × Int → Int) (d : Int) (p : Int × Int) (b0 : Int) : Nat → Int
  | 0 => b0
  | k + 1 => match stepOk r f shut d p k with
    | some q => min (bestTo r f shut V d p b0 k) ((q.2 - p.2) + V q)
    | none => bestTo r f shut V d p b0 k

/-- The fewest leagues from a day and a spot on, to the stage tt at the end of the day last; with fuel. -/
def tg (r : Roads) (f : Flock) (shut : Int) (tt last : Int) : Nat → Int → Int × Int → Int
  | 0, _, _ => 0
  | k + 1, d, p => if last < d then (if p.1 = tt then 0 else farI) else bestTo r f shut (tg r f shut tt last k d) d p (tg r f shut tt last k (d + 1) (p.1, 0)) r.strips.length

def rank (f : Flock) (last d l : Int) : Int := (last + 1 - d) * (f.pace + 1) + (f.pace - l)

theorem bestTo_congr {r : Roads} {f : Flock} {shut : Int} {V V' : Int × Int → Int} {d : Int} {p : Int × Int} {b0 b1 : Int} (hb : b0 = b1) (h : ∀ k q, stepOk r f shut d p k = some q → V q = V' q) :
    ∀ k, bestTo r f shut V d p b0 k = bestTo r f shut V' d p b1 k
  | 0 => hb
  | k + 1 => by
    unfold bestTo
    have ih := bestTo_congr (shut := shut) (d := d) (p := p) hb h k
    cases hs : stepOk r f shut d p k with
    | none => exact ih
    | some q => simp only [ih, h k q hs]

theorem rank_day {f : Flock} {last d l : Int} (_h1 : d ≤ last) (_h0 : 0 ≤ f.pace) (h2 : l ≤ f.pace) : rank f last (d + 1) 0 < rank f last d l := by
  unfold rank
  have e : (last + 1 - d) * (f.pace + 1) = (last + 1 - (d + 1)) * (f.pace + 1) + (f.pace + 1) := by
    rw [show last + 1 - d = (last + 1 - (d + 1)) + 1 by omega, Int.add_mul]; omega
  omega
theorem rank_step {f : Flock} {last d l l' : Int} (h : l < l') : rank f last d l' < rank f last d l := by unfold rank; omega
theorem rank_nonneg {f : Flock} {last d l : Int} (h1 : d ≤ last + 1) (h0 : 0 ≤ f.pace) (h2 : l ≤ f.pace) : 0 ≤ rank f last d l := by
  unfold rank
  have : 0 ≤ (last + 1 - d) * (f.pace + 1) := Int.mul_nonneg (by omega) (by omega)
  omega

theorem stepOk_up {r : Roads} {f : Flock} (g : Good r f) {shut d : Int} {p q : Int × Int} {k : Nat} (h : stepOk r f shut d p k = some q) : p.2 < q.2 ∧ q.2 ≤ f.pace ∧ 0 ≤ q.1 ∧ q.1 < r.stages := by
  obtain ⟨s, hs, h1, h2, _, rfl⟩ := stepOk_some.1 h
  have hm := List.mem_of_getElem? hs
  have hL := (g.strip s hm).2.2.2.2.2.1
  obtain ⟨a, b⟩ := endOf_range g hm h1
  exact ⟨by dsimp only; omega, h2, a, b⟩

/-- Enough fuel is enough. -/
theorem tg_stable {r : Roads} {f : Flock} (g : Good r f) {shut tt last : Int} : ∀ (k k' : Nat) (d : Int) (p : Int × Int), d ≤ last + 1 → p.2 ≤ f.pace → rank f last d p.2 < (k : Int) → rank f last d p.2 < (k' : Int) →
    tg r f shut tt last k d p = tg r f shut tt last k' d p := by
  have hp := g.p1
  intro k
  induction k with
  | zero => intro k' d p h1 h2 h3; have := rank_nonneg h1 (by omega) h2; omega
  | succ k ih =>
    intro k' d p h1 h2 h3 h4
    cases k' with
    | zero => have := rank_nonneg h1 (by omega) h2; omega
    | succ k' =>
      unfold tg
      by_cases hd : last < d
      · simp [hd]
      · rw [if_neg hd, if_neg hd]
        have e1 := rank_day (f := f) (last := last) (d := d) (l := p.2) (by omega) (by omega) h2
        refine bestTo_congr (ih k' (d + 1) (p.1, 0) (by omega) (by dsimp only; omega) (by dsimp only; omega) (by dsimp only; omega)) (fun i q hq => ?_) _
        obtain ⟨u1, u2, _, _⟩ := stepOk_up g hq
        have e2 := rank_step (f := f) (last := last) (d := d) u1
        exact ih k' d q h1 u2 (by omega) (by omega)

/-- The fewest leagues to go. -/
def togoV (r : Roads) (f : Flock) (shut : Int) (tt last : Int) (d : Int) (p : Int × Int) : Int := tg r f shut tt last 2000 d p

theorem rank_lt {r : Roads} {f : Flock} (g : Good r f) {last d l : Int} (h1 : 0 ≤ d) (_h2 : d ≤ last + 1) (h3 : last ≤ 100) (h4 : 0 ≤ l) : rank f last d l < 1999 := by
  have := g.p2
  have := g.p1
  unfold rank
  have : (last + 1 - d) * (f.pace + 1) ≤ 101 * (f.pace + 1) := Int.mul_le_mul_of_nonneg_right (by omega) (by omega)
  omega

theorem togoV_end {r : Roads} {f : Flock} {shut tt last d : Int} {p : Int × Int} (h : last < d) : togoV r f shut tt last d p = if p.1 = tt then 0 else farI := by
  unfold togoV
  rw [show (2000 : Nat) = 1999 + 1 from rfl, tg, if_pos h]
theorem togoV_eq {r : Roads} {f : Flock} (g : Good r f) {shut tt last d : Int} {p : Int × Int} (h0 : 0 ≤ d) (h : d ≤ last) (h3 : last ≤ 100) (h4 : 0 ≤ p.2) (h5 : p.2 ≤ f.pace) :
    togoV r f shut tt last d p = bestTo r f shut (togoV r f shut tt last d) d p (togoV r f shut tt last (d + 1) (p.1, 0)) r.strips.length := by
  have hp := g.p1
  have e0 := rank_lt g h0 (by omega : d ≤ last + 1) h3 h4
  have e1 := rank_day (f := f) (last := last) (d := d) (l := p.2) h (by omega) h5
  conv => lhs; unfold togoV; rw [show (2000 : Nat) = 1999 + 1 from rfl, tg, if_neg (by omega)]
  refine bestTo_congr (tg_stable g 1999 2000 (d + 1) (p.1, 0) (by omega) (by dsimp only; omega) (by dsimp only; omega) (by dsimp only; omega)) (fun i q hq => ?_) _
  obtain ⟨u1, u2, _, _⟩ := stepOk_up g hq
  have e2 := rank_step (f := f) (last := last) (d := d) u1
  exact tg_stable g 1999 2000 d q (by omega) u2 (by omega) (by omega)

theorem bestTo_range {r : Roads} {f : Flock} (g : Good r f) {shut d : Int} {V : Int × Int → Int} {p : Int × Int} {b0 : Int} (h0 : 0 ≤ b0) (hV : ∀ k q, stepOk r f shut d p k = some q → 0 ≤ V q) : ∀ k, 0 ≤ bestTo r f shut V d p b0 k ∧ bestTo r f shut V d p b0 k ≤ b0
  | 0 => ⟨h0, Int.le_refl _⟩
  | k + 1 => by
    unfold bestTo
    have ih := bestTo_range (b0 := b0) g h0 hV k
    cases hs : stepOk r f shut d p k with
    | none => exact ih
    | some q =>
      have := hV k q hs
      obtain ⟨u1, _⟩ := stepOk_up g hs
      dsimp only
      omega
theorem tg_range {r : Roads} {f : Flock} (g : Good r f) {shut tt last : Int} : ∀ (k : Nat) (d : Int) (p : Int × Int), 0 ≤ tg r f shut tt last k d p ∧ tg r f shut tt last k d p ≤ farI
  | 0, _, _ => by simp [tg, farI]
  | k + 1, d, p => by
    unfold tg
    split
    · split <;> simp [farI]
    · have h1 := tg_range (shut := shut) (tt := tt) (last := last) g k (d + 1) (p.1, 0)
      have h2 := bestTo_range (shut := shut) (d := d) (p := p) (V := tg r f shut tt last k d) g h1.1 (fun i q _ => (tg_range g k d q).1) r.strips.length
      omega
theorem togoV_range {r : Roads} {f : Flock} (g : Good r f) {shut tt last d : Int} {p : Int × Int} : 0 ≤ togoV r f shut tt last d p ∧ togoV r f shut tt last d p ≤ farI := tg_range g _ _ _
end Go.Proofs.YtmkjeonjhedgkaaGreatDoor

namespace Go.Proofs.YtmkjeonjhedgkaaGreatDoor
set_option linter.unusedSimpArgs false
set_option linter.unusedVariables false
open Go.RowKit
open Go.ChangeMaps (setBlock)

def hourV (d : Int) (p : Int × Int) : Value := .agg #[.int .i64 d, .int .i64 p.1, .int .i64 p.2]
theorem hourV_inj {d d' : Int} {p p' : Int × Int} (h : hourV d p = hourV d' p') : d = d' ∧ p = p' := by
  simp only [hourV, Value.agg.injEq, Array.mk.injEq, List.cons.injEq, Value.int.injEq, true_and, and_true] at h
  exact ⟨h.1, Prod.ext h.2.1 h.2.2⟩

theorem hour_key (d : Int) (p : Int × Int) (h1 : 0 ≤ d ∧ d ≤ 200) (h2 : 0 ≤ p.1 ∧ p.1 ≤ 200) (h3 : 0 ≤ p.2 ∧ p.2 ≤ 200) : ∃ l, keyOf Tryz.prog 132 (hourV d p) = some l := by
  have w0 : (Lit.int .i64 d).wf = true := WalkArith.wf_i64 (by omega)
  have w1 : (Lit.int .i64 p.1).wf = true := WalkArith.wf_i64 (by omega)
  have w2 : (Lit.int .i64 p.2).wf = true := WalkArith.wf_i64 (by omega)
  have hf : Value.formed Tryz.prog 132 (hourV d p) = true := by kernel_rfl
  have hk : Tryz.prog.keyType 132 = true := by kernel_rfl
  have hc0 : Tryz.prog.cellsOf 132 = 3 := by kernel_rfl
  have hc1 : Tryz.prog.cellsOf 130 = 2 := by kernel_rfl
  have hc2 : Tryz.prog.cellsOf 3 = 1 := by kernel_rfl
  obtain ⟨D, hz⟩ : ∃ D, Tryz.prog.types.size + 1 = D + 1 + 1 + 1 := ⟨Tryz.prog.types.size - 2, by have := of_decide_eq_true types_size; omega⟩
  unfold keyOf
  rw [Tryz.underlying132]
  dsimp only
  rw [hk, hf, hz]
  simp [Program.keyLits, Tryz.underlying132, Tryz.underlying130, Tryz.underlying3, hc0, hc1, hc2, hourV, Value.cells, w0, w1, w2]
  rw [if_pos (by decide)]
  exact ⟨_, rfl⟩
theorem hour_law : WideMaps.KeyLaw Tryz.prog 132 := deep_law_laid (by kernel_rfl) (m := 4) (by decide) (of_decide_eq_true (by kernel_rfl)) (by kernel_rfl) (by kernel_rfl)

def Near (d : Int) (p : Int × Int) : Prop := (0 ≤ d ∧ d ≤ 200) ∧ (0 ≤ p.1 ∧ p.1 ≤ 200) ∧ (0 ≤ p.2 ∧ p.2 ≤ 200)

/-- Block m is a map of hours; what stands there is what V says. -/
def Memo (w : World) (m : Nat) (V : Int → Int × Int → Int) : Prop := ∃ ps, MapIs w m ps ∧ ∀ x ∈ ps, ∃ d p, x = (hourV d p, .int .i64 (V d p)) ∧ Near d p

/-- Of what was there only block m may have turned. -/
structure Ext (m : Nat) (w w' : World) : Prop where
  os : w'.os = w.os
  tape : w'.tape = w.tape
  output : w'.output = w.output
  size : w.heap.size ≤ w'.heap.size
  block : ∀ k, k < w.heap.size → k ≠ m → w'.heap[k]? = w.heap[k]?
theorem Ext.refl (m : Nat) (w : World) : Ext m w w := ⟨rfl, rfl, rfl, Nat.le_refl _, fun _ _ _ => rfl⟩
theorem Ext.trans {m : Nat} {a b c : World} (h : Ext m a b) (k : Ext m b c) : Ext m a c :=
  ⟨k.os.trans h.os, k.tape.trans h.tape, k.output.trans h.output, Nat.le_trans h.size k.size, fun i hi hne => (k.block i (Nat.lt_of_lt_of_le hi h.size) hne).trans (h.block i hi hne)⟩
theorem Ext.of_below {m : Nat} {w w' : World} (h : Below w.heap.size w w') : Ext m w w' := ⟨h.os, h.tape, h.output, h.size, fun k hk _ => h.block k hk⟩
theorem Ext.below {m B : Nat} {w0 w w' : World} (h : Ext m w w') (hb : Below B w0 w) (hB : B ≤ m) (hBw : B ≤ w.heap.size) : Below B w0 w' :=
  hb.trans ⟨h.os, h.tape, h.output, h.size, fun k hk => h.block k (by omega) (by omega)⟩

theorem Memo.lt {w : World} {m : Nat} {V : Int → Int × Int → Int} (h : Memo w m V) : m < w.heap.size := by obtain ⟨ps, h, _⟩ := h; exact h.lt
theorem Memo.below {w w' : World} {m : Nat} {V : Int → Int × Int → Int} (h : Memo w m V) (hb : Below w.heap.size w w') : Memo w' m V := by
  have hl := h.lt
  obtain ⟨ps, h, h2⟩ := h
  exact ⟨ps, h.below hb hl, h2⟩
/-- A cell is no map. -/
theorem Memo.cell_ne {w : World} {m : Nat} {V : Int → Int × Int → Int} (h : Memo w m V) {b o : Nat} {v : Value} (hc : w.cell? ⟨b, o, none⟩ = some v) : b ≠ m := by
  intro e
  obtain ⟨ps, hm, _⟩ := h
  subst e
  unfold MapIs at hm
  simp [World.cell?, hm] at hc
theorem Ext.cell {w w' : World} {m : Nat} {V : Int → Int × Int → Int} (h : Ext m w w') (hm : Memo w m V) {b o : Nat} {v : Value} (hc : w.cell? ⟨b, o, none⟩ = some v) : w'.cell? ⟨b, o, none⟩ = some v := by
  rw [World.cell?_of_block (w := w) (h.block b (lt_of_cell hc) (hm.cell_ne hc))]; exact hc
theorem Ext.work {w w' : World} {m : Nat} {V : Int → Int × Int → Int} (h : Ext m w w') (hm : Memo w m V) {b : Nat} {r : Roads} {f : Flock} {shut : Int} {a : Option Addr} {cap : Nat} (hw : WorkAt w b r f shut a cap) : WorkAt w' b r f shut a cap := by
  obtain ⟨c0, c1, c2, c3, c4, c5, hs⟩ := hw
  refine ⟨h.cell hm c0, h.cell hm c1, h.cell hm c2, h.cell hm c3, h.cell hm c4, h.cell hm c5, ?_⟩
  rcases hs with hs | ⟨sb, so, e, hs⟩
  · exact .inl hs
  · exact .inr ⟨sb, so, e, fun i hi => by
      obtain ⟨s0, s1, s2, s3, s4, s5, s6⟩ := hs i hi
      exact ⟨h.cell hm s0, h.cell hm s1, h.cell hm s2, h.cell hm s3, h.cell hm s4, h.cell hm s5, h.cell hm s6⟩⟩

theorem memo_keys {V : Int → Int × Int → Int} {ps : List (Value × Value)} (h : ∀ x ∈ ps, ∃ d p, x = (hourV d p, .int .i64 (V d p)) ∧ Near d p) : ∀ x ∈ ps, ∃ l, keyOf Tryz.prog 132 x.1 = some l := by
  intro x hx
  obtain ⟨d, p, rfl, h1, h2, h3⟩ := h x hx
  exact hour_key d p h1 h2 h3

theorem memo_look {w : World} {m : Nat} {V : Int → Int × Int → Int} (h : Memo w m V) (d s l : Int) (hn : Near d (s, l)) :
    (Instr.lookup 128 (.map (some m)) (.agg #[.int .i64 d, .int .i64 s, .int .i64 l]) true).run Tryz.prog w = .ok (.tuple #[.int .i64 (V d (s, l)), .bool true]) w ∨
    (Instr.lookup 128 (.map (some m)) (.agg #[.int .i64 d, .int .i64 s, .int .i64 l]) true).run Tryz.prog w = .ok (.tuple #[.int .i64 0, .bool false]) w := by
  obtain ⟨ps, hm, hps⟩ := h
  obtain ⟨kl, hkl⟩ := hour_key d (s, l) hn.1 hn.2.1 hn.2.2
  rcases run_look true hour_law Tryz.underlying128 hm (z := .int .i64 0) (by kernel_rfl) hkl (memo_keys hps) with ⟨h1, _⟩ | ⟨v, h1, h2⟩
  · exact .inr h1
  · left
    obtain ⟨d', p', e, _⟩ := hps _ h2
    simp only [Prod.mk.injEq] at e
    obtain ⟨e1, rfl⟩ := e
    obtain ⟨rfl, rfl⟩ := hourV_inj e1
    exact h1

theorem memo_store {ops : Array Oper} {rest : List Oper} {o : Oper} {a : Act} {Q : Exit → Act → World → Prop} {w : World} {m : Nat} {V : Int → Int × Int → Int} (hg : o.guard = none) (mo x v : Operand)
    (hop : o.op = Op.mapUpdate 128 mo x v) (h : Memo w m V) (d s l : Int) (hn : Near d (s, l)) (hmv : a.eval mo = .map (some m)) (hx : a.eval x = .agg #[.int .i64 d, .int .i64 s, .int .i64 l])
    (hv : a.eval v = .int .i64 (V d (s, l)))
    (hK : ∀ w', Memo w' m V → Ext m w w' → wpList Tryz.prog ops Q rest (a.put o.dst undef) w') : wpList Tryz.prog ops Q (o :: rest) a w := by
  obtain ⟨ps, hm, hps⟩ := h
  refine store_op hg mo x v 128 132 3 hop hour_law Tryz.underlying128 m ps hmv hm (hourV d (s, l)) (.int .i64 (V d (s, l))) hx hv (hour_key d (s, l) hn.1 hn.2.1 hn.2.2) (memo_keys hps) fun ps' hps' => ?_
  refine hK _ ⟨ps', hm.set _, ?_⟩ ⟨rfl, rfl, rfl, by simp [setBlock], fun k _ hk => setBlock_other _ (Ne.symm hk)⟩
  intro y hy
  rcases hps' with ⟨_, rfl⟩ | ⟨i, v', _, rfl⟩
  · rcases List.mem_append.1 hy with hy | hy
    · exact hps y hy
    · simp at hy; subst hy; exact ⟨d, (s, l), rfl, hn⟩
  · rcases List.mem_or_eq_of_mem_set hy with hy | rfl
    · exact hps y hy
    · exact ⟨d, (s, l), rfl, hn⟩
end Go.Proofs.YtmkjeonjhedgkaaGreatDoor

namespace Go.Proofs.YtmkjeonjhedgkaaGreatDoor
set_option linter.unusedSimpArgs false
set_option linter.unusedVariables false
open Go.RowKit
open Go.ChangeMaps (setBlock)

theorem best_none {r : Roads} {f : Flock} {shut d b0 : Int} {V : Int × Int → Int} {p : Int × Int} {k : Nat} (h : ∀ q, stepOk r f shut d p k ≠ some q) : bestTo r f shut V d p b0 (k + 1) = bestTo r f shut V d p b0 k := by
  rw [bestTo]
  cases hs : stepOk r f shut d p k with
  | none => rfl
  | some q => exact absurd hs (h q)
theorem best_some {r : Roads} {f : Flock} {shut d b0 : Int} {V : Int × Int → Int} {p q : Int × Int} {k : Nat} (h : stepOk r f shut d p k = some q) : bestTo r f shut V d p b0 (k + 1) = min (bestTo r f shut V d p b0 k) ((q.2 - p.2) + V q) := by
  rw [bestTo, h]

theorem min_num {a b c : Int} (h : c = min b a) : Value.int .i64 (if a < b then a else b) = Value.int .i64 c := by
  rw [h]; congr 1; split <;> omega

section
variable {r : Roads} {f : Flock} {shut day : Int} {q : Int × Int} {k : Nat} {s : Strip} {eo : Int × Bool}
theorem nstep_far (hs : r.strips[k]? = some s) (h : ¬ q.2 + s.L ≤ f.pace) : ∀ p, stepOk r f shut day q k ≠ some p := by
  intro p hp
  obtain ⟨s', hs1, _, h2, _, _⟩ := stepOk_some.1 hp
  rw [hs] at hs1
  obtain rfl : s = s' := by simpa using hs1
  exact absurd h2 h
theorem nstep_off (hs : r.strips[k]? = some s) (he : endOf s q.1 = eo) (h : eo.2 = false) : ∀ p, stepOk r f shut day q k ≠ some p := by
  intro p hp
  obtain ⟨s', hs1, h1, _, _, _⟩ := stepOk_some.1 hp
  rw [hs] at hs1
  obtain rfl : s = s' := by simpa using hs1
  rw [he, h] at h1; simp at h1
theorem nstep_shut (h : openB r f shut k day = false) : ∀ p, stepOk r f shut day q k ≠ some p := by
  intro p hp
  obtain ⟨s', _, _, _, h3, _⟩ := stepOk_some.1 hp
  rw [h] at h3; simp at h3
theorem step_yes (hs : r.strips[k]? = some s) (he : endOf s q.1 = eo) (hA : eo.2 = true) (hP : q.2 + s.L ≤ f.pace) (hO : openB r f shut k day = true) : stepOk r f shut day q k = some (eo.1, q.2 + s.L) :=
  stepOk_some.2 ⟨s, hs, by rw [he]; exact hA, hP, hO, by rw [he]⟩
end

set_option maxRecDepth 100000 in
set_option maxHeartbeats 8000000 in
theorem togo_any (b : Nat) (r : Roads) (f : Flock) (shut : Int) (a : Option Addr) (cap : Nat) (g : Good r f) (tt last : Int) (h3 : last ≤ 100) (m : Nat) : ∀ (k : Nat) (d s l : Int) (w : World),
    0 ≤ d → d ≤ last + 1 → 0 ≤ s → s < r.stages → 0 ≤ l → l ≤ f.pace → rank f last d l < (k : Int) → WorkAt w b r f shut a cap → Memo w m (togoV r f shut tt last) →
    Calls Tryz.prog 72 #[.pointer (some ⟨b, 0, none⟩), .agg #[.int .i64 d, .int .i64 s, .int .i64 l], .int .i64 tt, .int .i64 last, .map (some m)] w
      fun e w' => e = .returned (.int .i64 (togoV r f shut tt last d (s, l))) ∧ Memo w' m (togoV r f shut tt last) ∧ Ext m w w' := by
  have g1 := g.s1
  have g2 := g.s2
  have gp1 := g.p1
  have gp2 := g.p2
  have hn8 := g.n8
  intro k
  induction k with
  | zero => intro d s l w h1 h2 _ _ h5 h6 h7; have := rank_nonneg h2 (by omega) h6; omega
  | succ k ih =>
    intro d s l w h1 h2 hs1 hs2 hl1 hl2 hrk hW hM
    have hb0 : Below w.heap.size w (w.alloc (.cells #[.int .i64 d, .int .i64 s, .int .i64 l] 132)) := Below.alloc (Below.refl _ _) (Nat.le_refl _) _
    by_cases hd : last < d
    · have hV := togoV_end (r := r) (f := f) (shut := shut) (tt := tt) (p := (s, l)) hd
      by_cases hst : s = tt
      · rw [if_pos hst] at hV
        have hbt : (s == tt) = true := by simpa using hst
        have Hst := Lib.hid hst; clear hst
        have HV := Lib.hid hV; clear hV
        go_enter Tryz.func72, Tryz.ntmps72
        go_wp2_with fail
        go_ret
        exact ⟨ret_int (by rw [HV.out]), hM.below hb0, Ext.of_below hb0⟩
      · rw [if_neg hst] at hV
        have hbt : (s == tt) = false := by simpa using hst
        have HV := Lib.hid hV; clear hV
        go_enter Tryz.func72, Tryz.ntmps72
        go_wp2_with fail
        go_ret
        exact ⟨ret_int (by rw [HV.out]; rfl), hM.below hb0, Ext.of_below hb0⟩
    · have hM0 := hM.below hb0
      have hW0 := hW.below hb0
      have hdl : d ≤ last := by omega
      rcases memo_look hM0 d s l ⟨⟨h1, by omega⟩, ⟨hs1, by dsimp only; omega⟩, ⟨hl1, by dsimp only; omega⟩⟩ with hlk | hlk
      · go_enter Tryz.func72, Tryz.ntmps72
        go_wp2_with fail
        go_ret
        exact ⟨rfl, hM0, Ext.of_below hb0⟩
      · have hV := togoV_eq g (shut := shut) (tt := tt) (p := (s, l)) h1 hdl h3 hl1 hl2
        have HV := Lib.hid hV; clear hV
        have hr1 := rank_day (f := f) (last := last) (d := d) (l := l) hdl (by omega) hl2
        have Hih := Lib.hid ih; clear ih
        have Hrk := Lib.hid hrk; clear hrk
        have Hr1 := Lib.hid hr1; clear hr1
        have HM0 := Lib.hid hM0; clear hM0
        have HW0 := Lib.hid hW0; clear hW0
        clear hW hM
        go_enter Tryz.func72, Tryz.ntmps72
        go_wp2_with fail
        refine (Hih.out (d + 1) s 0 _ (by omega) (by omega) hs1 hs2 (by omega) (by omega) (by have := Hrk.out; have := Hr1.out; omega) HW0.out HM0.out).mono ?_
        rintro e w1 ⟨rfl, hM1, hE1⟩
        clear hlk
        have c0 : w1.cell? ⟨w.heap.size, 0, none⟩ = some (.int .i64 d) := hE1.cell HM0.out (by simp)
        have c1 : w1.cell? ⟨w.heap.size, 1, none⟩ = some (.int .i64 s) := hE1.cell HM0.out (by simp)
        have c2 : w1.cell? ⟨w.heap.size, 2, none⟩ = some (.int .i64 l) := hE1.cell HM0.out (by simp)
        have HE1 := Lib.hid hE1; clear hE1
        have hW1 := HE1.out.work HM0.out HW0.out
        obtain ⟨d0, d1, d2, d3, d4, d5, ds⟩ := hW1
        clear ds
        have HW1 := Lib.hid (HE1.out.work HM0.out HW0.out)
        have HM1 := Lib.hid hM1; clear hM1
        have hwl := lt_of_cell c0
        go_wp2_with fail
        clear d0 d1 d2 d3 d4 d5
        go_loopw [13, 55] (fun v13 v55 wx => ∃ i : Nat, i ≤ r.strips.length ∧ v55 = .int .i64 i ∧
            v13 = .int .i64 (bestTo r f shut (togoV r f shut tt last d) d (s, l) (togoV r f shut tt last (d + 1) (s, 0)) i) ∧ Memo wx m (togoV r f shut tt last) ∧ Ext m w1 wx) (fun _ v _ => r.strips.length - (intOf v).toNat)
        case atStart => exact ⟨0, Nat.zero_le _, rfl, rfl, HM1.out, Ext.refl _ _⟩
        case round =>
          obtain ⟨i, hi, rfl, rfl, hM, hE⟩ := hrel
          have hWr := hE.work HM1.out HW1.out
          have HWr := Lib.hid hWr
          obtain ⟨d0, d1, d2, d3, d4, d5, ds⟩ := hWr
          have e0 : wr.cell? ⟨w.heap.size, 0, none⟩ = some (.int .i64 d) := hE.cell HM1.out c0
          have e1 : wr.cell? ⟨w.heap.size, 1, none⟩ = some (.int .i64 s) := hE.cell HM1.out c1
          have e2 : wr.cell? ⟨w.heap.size, 2, none⟩ = some (.int .i64 l) := hE.cell HM1.out c2
          clear c0 c1 c2
          have hbr := bestTo_range (b0 := togoV r f shut tt last (d + 1) (s, 0)) (p := (s, l)) (shut := shut) (d := d) (V := togoV r f shut tt last d) g (togoV_range g).1 (fun _ q _ => (togoV_range g).1) i
          have hbr2 := (togoV_range (shut := shut) (tt := tt) (last := last) (d := d + 1) (p := (s, 0)) g).2
          generalize hB : bestTo r f shut (togoV r f shut tt last d) d (s, l) (togoV r f shut tt last (d + 1) (s, 0)) i = B at hbr
          unfold farI at hbr2
          have HB := Lib.hid hB; clear hB
          have hB1 : 0 ≤ B := hbr.1
          have hB2 : B ≤ 1073741824 := by omega
          clear hbr hbr2
          have hwr := lt_of_cell e0
          by_cases hlt : i < r.strips.length
          · rcases ds with ds | ⟨sb, so, rfl, ds⟩
            · rw [ds] at hlt; simp at hlt
            obtain ⟨s0, s1, s2, s3, s4, s5, s6⟩ := ds i hlt
            clear ds
            generalize hst : r.strips[i] = st at s0 s1 s2 s3 s4 s5 s6
            have hsm : st ∈ r.strips := by rw [← hst]; exact List.getElem_mem hlt
            obtain ⟨_, _, _, _, _, hL1, hL2, _⟩ := g.strip st hsm
            have hsk : r.strips[i]? = some st := by rw [List.getElem?_eq_getElem hlt, hst]
            have Hsk := Lib.hid hsk; clear hsk
            have Hst := Lib.hid hst; clear hst
            have hx0 : Below wr.heap.size wr (wr.alloc (.cells #[.int .i64 st.A, .int .i64 st.B, .int .i64 st.L, .int .i64 st.W, .int .i64 st.K, .int .i64 st.X, .int .i64 st.Y] 63)) := Below.alloc (Below.refl _ _) (Nat.le_refl _) _
            have HM := Lib.hid hM; clear hM
            have HE := Lib.hid hE; clear hE
            go_wp2_with fail
            refine (end_any _ b r f shut _ cap (HWr.out.below hx0) i hlt s).mono ?_
            rintro e w2 ⟨rfl, hb2⟩
            rw [Hst.out]
            generalize heo : endOf st s = eo
            have Heo := Lib.hid heo; clear heo
            have hEo := @endOf_range r f g st hsm s
            rw [Heo.out] at hEo
            have HEo := Lib.hid hEo; clear hEo
            have hbx : Below wr.heap.size wr w2 := hx0.trans (hb2.mono (by simp))
            have eL : w2.cell? ⟨wr.heap.size, 2, none⟩ = some (.int .i64 st.L) := by rw [(bcell hb2).1 _ _ (by simp)]; simp
            obtain ⟨hc2, _⟩ := bcell hbx
            have f0 : w2.cell? ⟨w.heap.size, 0, none⟩ = some (.int .i64 d) := by rw [hc2 _ _ hwr]; exact e0
            have f1 : w2.cell? ⟨w.heap.size, 1, none⟩ = some (.int .i64 s) := by rw [hc2 _ _ hwr]; exact e1
            have f2 : w2.cell? ⟨w.heap.size, 2, none⟩ = some (.int .i64 l) := by rw [hc2 _ _ hwr]; exact e2
            have HW2 := Lib.hid (HWr.out.below hbx)
            have hW2 := HW2.out
            obtain ⟨k0, k1, k2, k3, k4, k5, _⟩ := hW2
            have HM2 := Lib.hid (HM.out.below hbx)
            have HE2 := Lib.hid (HE.out.trans (Ext.of_below hbx))
            clear hc2 hx0 hb2 hbx d0 d1 d2 d3 d4 d5 s0 s1 s2 s3 s4 s5 s6 e0 e1 e2
            by_cases hA : eo.2 = true
            · rw [hA]
              have HA := Lib.hid hA; clear hA
              by_cases hP : l + st.L ≤ f.pace
              · go_wp2_with fail
                refine (open_any w2 b r f shut _ cap HW2.out i hlt d).mono ?_
                rintro e w3 ⟨rfl, hb3⟩
                have HM3 := Lib.hid (HM2.out.below hb3)
                have HE3 := Lib.hid (HE2.out.trans (Ext.of_below hb3))
                cases hO : openB r f shut i d
                · have HO := Lib.hid hO; clear hO
                  go_wp2_with fail
                  exact ⟨⟨i + 1, by omega, by go_num, by rw [best_none (nstep_shut HO.out), HB.out], HM3.out, HE3.out⟩, by simp [intOf]; omega⟩
                · have HO := Lib.hid hO; clear hO
                  have hstep := step_yes Hsk.out (q := (s, l)) Heo.out HA.out hP HO.out
                  have HS := Lib.hid hstep; clear hstep
                  obtain ⟨hc3, _⟩ := bcell hb3
                  have z0 : w3.cell? ⟨w.heap.size, 0, none⟩ = some (.int .i64 d) := by rw [hc3 _ _ (lt_of_cell f0)]; exact f0
                  have zL : w3.cell? ⟨wr.heap.size, 2, none⟩ = some (.int .i64 st.L) := by rw [hc3 _ _ (lt_of_cell eL)]; exact eL
                  have HW3 := Lib.hid (HW2.out.below hb3)
                  clear hc3 hb3 f0 f1 f2 eL k0 k1 k2 k3 k4 k5
                  go_upto_region 15 with (fail)
                  have hE1 := (HEo.out HA.out).1
                  have hE2 := (HEo.out HA.out).2
                  have hr2 := rank_step (f := f) (last := last) (d := d) (l := l) (l' := l + st.L) (by omega)
                  have hr3 : rank f last d (l + st.L) < (k : Int) := by have := Hrk.out; omega
                  have HR3 := Lib.hid hr3; clear hr2 hr3
                  have hV1 := (togoV_range (shut := shut) (tt := tt) (last := last) (d := d) (p := (eo.1, l + st.L)) g).1
                  have hV2 := (togoV_range (shut := shut) (tt := tt) (last := last) (d := d) (p := (eo.1, l + st.L)) g).2
                  unfold farI at hV2
                  have hbd : Below w3.heap.size w3 w3.drew := (Below.refl _ _).drew
                  have HW3d := Lib.hid (HW3.out.below hbd)
                  have HM3d := Lib.hid (HM3.out.below hbd)
                  have HE3d := Lib.hid (HE3.out.trans (Ext.of_below hbd))
                  have zLd : w3.drew.cell? ⟨wr.heap.size, 2, none⟩ = some (.int .i64 st.L) := zL
                  have HZL := Lib.hid zLd; clear zLd hbd
                  go_region_with (go_at_call 72; refine (Hih.out d eo.1 (l + st.L) _ h1 h2 hE1 hE2 (by omega) hP HR3.out HW3d.out HM3d.out).mono ?_; rintro e w4 ⟨rfl, hM4, hE4⟩; have zL4 := hE4.cell HM3d.out HZL.out)
                  all_goals (go_wp2_with fail)
                  all_goals exact ⟨⟨i + 1, by omega, by go_num, min_num (by rw [best_some HS.out, HB.out]; dsimp only; rw [show l + st.L - l = st.L by omega]), hM4, HE3d.out.trans hE4⟩, by simp [intOf]; omega⟩
              · have hP' : decide (l + st.L ≤ f.pace) = false := decide_eq_false hP
                go_wp2_with fail
                exact ⟨⟨i + 1, by omega, by go_num, by rw [best_none (nstep_far Hsk.out (q := (s, l)) (by show ¬ l + st.L ≤ f.pace; omega)), HB.out], HM2.out, HE2.out⟩, by simp [intOf]; omega⟩
            · have hA' : eo.2 = false := by simpa using hA
              rw [hA']
              have HA := Lib.hid hA'; clear hA hA'
              go_wp2_with fail
              exact ⟨⟨i + 1, by omega, by go_num, by rw [best_none (nstep_off Hsk.out (q := (s, l)) Heo.out HA.out), HB.out], HM2.out, HE2.out⟩, by simp [intOf]; omega⟩
          · have hii : i = r.strips.length := by omega
            have hVB : togoV r f shut tt last d (s, l) = B := by rw [HV.out, ← hii]; exact HB.out
            have HVB := Lib.hid hVB; clear hVB hii
            have HM := Lib.hid hM; clear hM
            have HE := Lib.hid hE; clear hE
            go_wp2_with (at_mapUpdate; refine memo_store rfl _ _ _ rfl HM.out d s l ⟨⟨h1, by omega⟩, ⟨hs1, by dsimp only; omega⟩, ⟨hl1, by dsimp only; omega⟩⟩ rfl rfl (by rw [HVB.out]; rfl) ?_)
            intro w5 hM5 hE5
            go_wp2_with fail
            go_ret
            exact ⟨ret_int (by rw [HVB.out]), hM5, (Ext.of_below hb0).trans (HE1.out.trans (HE.out.trans hE5))⟩
end Go.Proofs.YtmkjeonjhedgkaaGreatDoor

namespace Go.Proofs.YtmkjeonjhedgkaaGreatDoor
set_option linter.unusedSimpArgs false
set_option linter.unusedVariables false
open Go.RowKit

/-- The first strip below n that goes on along a best plan. -/
def pickTo (r : Roads) (f : Flock) (shut : Int) (V : Int × Int → Int) (d : Int) (p : Int × Int) (left : Int) : Nat → Option (Nat × (Int × Int))
  | 0 => none
  | k + 1 => match pickTo r f shut V d p left k with
    | some x => some x
    | none => match stepOk r f shut d p k with
      | some q => if (q.2 - p.2) + V q = left then some (k, q) else none
      | none => none

def planF (r : Roads) (f : Flock) (shut : Int) (V : Int → Int × Int → Int) : Nat → Int → Int × Int → Int → List (Int × Int)
  | 0, _, _, _ => []
  | k + 1, d, p, left => if 0 < left then (match pickTo r f shut (V d) d p left r.strips.length with
      | some (i, q) => (d, (i : Int)) :: planF r f shut V k d q (left - (q.2 - p.2))
      | none => planF r f shut V k (d + 1) (p.1, 0) left) else []

def planL (r : Roads) (f : Flock) (shut tt last day fr : Int) : List (Int × Int) := planF r f shut (togoV r f shut tt last) 2000 day (fr, 0) (togoV r f shut tt last day (fr, 0))

section
variable {r : Roads} {f : Flock} {shut d left b0 : Int} {V : Int × Int → Int} {p q : Int × Int}
theorem pick_no {k : Nat} (h0 : pickTo r f shut V d p left k = none) (h : ∀ q, stepOk r f shut d p k ≠ some q) : pickTo r f shut V d p left (k + 1) = none := by
  rw [pickTo, h0]
  cases hs : stepOk r f shut d p k with
  | none => rfl
  | some q => exact absurd hs (h q)
theorem pick_other {k : Nat} (h0 : pickTo r f shut V d p left k = none) (h : stepOk r f shut d p k = some q) (hn : ¬ (q.2 - p.2) + V q = left) : pickTo r f shut V d p left (k + 1) = none := by
  rw [pickTo, h0]; dsimp only; rw [h]; dsimp only; rw [if_neg hn]
theorem pick_this {k : Nat} (h0 : pickTo r f shut V d p left k = none) (h : stepOk r f shut d p k = some q) (hn : (q.2 - p.2) + V q = left) : pickTo r f shut V d p left (k + 1) = some (k, q) := by
  rw [pickTo, h0]; dsimp only; rw [h]; dsimp only; rw [if_pos hn]
theorem pick_mono {k j : Nat} {x : Nat × (Int × Int)} (h : pickTo r f shut V d p left k = some x) (hj : k ≤ j) : pickTo r f shut V d p left j = some x := by
  induction j with
  | zero => obtain rfl : k = 0 := by omega
            exact h
  | succ j ih =>
    by_cases e : k = j + 1
    · subst e; exact h
    · rw [pickTo, ih (by omega)]
theorem pick_spec {i : Nat} : ∀ {k : Nat}, pickTo r f shut V d p left k = some (i, q) → stepOk r f shut d p i = some q ∧ (q.2 - p.2) + V q = left ∧ i < k
  | 0, h => by simp [pickTo] at h
  | k + 1, h => by
    rw [pickTo] at h
    cases h0 : pickTo r f shut V d p left k with
    | some x =>
      rw [h0] at h
      obtain rfl := Option.some.inj h
      have := pick_spec h0
      exact ⟨this.1, this.2.1, by omega⟩
    | none =>
      rw [h0] at h; dsimp only at h
      cases hs : stepOk r f shut d p k with
      | none => rw [hs] at h; simp at h
      | some q' =>
        rw [hs] at h; dsimp only at h
        split at h
        · rename_i he
          simp only [Option.some.injEq, Prod.mk.injEq] at h
          obtain ⟨rfl, rfl⟩ := h
          exact ⟨hs, he, by omega⟩
        · simp at h
/-- If no strip goes on along a best plan, the best is to wait. -/
theorem pick_none : ∀ {k : Nat}, pickTo r f shut V d p left k = none → bestTo r f shut V d p b0 k = left → b0 = left
  | 0, _, h => h
  | k + 1, h, hb => by
    rw [pickTo] at h
    cases h0 : pickTo r f shut V d p left k with
    | some x => rw [h0] at h; simp at h
    | none =>
      rw [h0] at h; dsimp only at h
      rw [bestTo] at hb
      cases hs : stepOk r f shut d p k with
      | none => rw [hs] at hb; exact pick_none h0 hb
      | some q =>
        rw [hs] at h hb; dsimp only at h hb
        split at h
        · simp at h
        · rename_i he
          exact pick_none h0 (by omega)
end

theorem planF_stop {r : Roads} {f : Flock} {shut d left : Int} {V : Int → Int × Int → Int} {p : Int × Int} {k : Nat} (h : ¬ 0 < left) : planF r f shut V k d p left = [] := by
  cases k with
  | zero => rfl
  | succ k => rw [planF, if_neg h]
theorem planF_step {r : Roads} {f : Flock} {shut d left : Int} {V : Int → Int × Int → Int} {p q : Int × Int} {k i : Nat} (h : 0 < left) (hp : pickTo r f shut (V d) d p left r.strips.length = some (i, q)) :
    planF r f shut V (k + 1) d p left = (d, (i : Int)) :: planF r f shut V k d q (left - (q.2 - p.2)) := by
  rw [planF, if_pos h, hp]
theorem planF_wait {r : Roads} {f : Flock} {shut d left : Int} {V : Int → Int × Int → Int} {p : Int × Int} {k : Nat} (h : 0 < left) (hp : pickTo r f shut (V d) d p left r.strips.length = none) :
    planF r f shut V (k + 1) d p left = planF r f shut V k (d + 1) (p.1, 0) left := by
  rw [planF, if_pos h, hp]

/-- A slice of strides (day and strip) of the call's own. -/
def OwnStrides (w : World) (B : Nat) (v : Value) (l : List (Int × Int)) : Prop := w.ownsRow B 59 2 v l.length (l.flatMap fun x => [Value.int .i64 x.1, Value.int .i64 x.2])
theorem OwnStrides.nil (w : World) (B : Nat) : OwnStrides w B (.slice none 0 0) [] := World.ownsRow_nil _ _ _ _
theorem OwnStrides.keep {w w' : World} {B : Nat} {v : Value} {l : List (Int × Int)} (h : OwnStrides w B v l) (hb : ∀ k, k < w.heap.size → B ≤ k → w'.heap[k]? = w.heap[k]?) : OwnStrides w' B v l := by
  obtain ⟨h1, h2⟩ := h
  refine ⟨h1, ?_⟩
  rcases h2 with h2 | ⟨g, cap, cur, hv, hg, hh, r⟩
  · exact .inl h2
  · exact .inr ⟨g, cap, cur, hv, hg, by rw [hb g (Array.getElem?_eq_some_iff.1 hh).1 hg]; exact hh, r⟩
theorem OwnStrides.below {w w' : World} {B : Nat} {v : Value} {l : List (Int × Int)} (h : OwnStrides w B v l) (hb : Below w.heap.size w w') : OwnStrides w' B v l := h.keep fun k hk _ => hb.block k hk
theorem OwnStrides.ext {w w' : World} {B m : Nat} {v : Value} {l : List (Int × Int)} (h : OwnStrides w B v l) (hb : Ext m w w') (hm : m < B) : OwnStrides w' B v l := h.keep fun k hk hB => hb.block k hk (by omega)
theorem OwnStrides.alloc {w : World} {B : Nat} {v : Value} {l : List (Int × Int)} (h : OwnStrides w B v l) (o : Obj) : OwnStrides (w.alloc o) B v l := h.below (Below.alloc (Below.refl _ _) (Nat.le_refl _) o)
theorem OwnStrides.mono {w : World} {B B' : Nat} {v : Value} {l : List (Int × Int)} (h : OwnStrides w B v l) (hB : B' ≤ B) : OwnStrides w B' v l := by
  obtain ⟨h1, h2⟩ := h
  refine ⟨h1, ?_⟩
  rcases h2 with h2 | ⟨g, cap, cur, hv, hg, r⟩
  · exact .inl h2
  · exact .inr ⟨g, cap, cur, hv, Nat.le_trans hB hg, r⟩
theorem OwnStrides.block_ne {w : World} {B b : Nat} {v : Value} {l : List (Int × Int)} (h : OwnStrides w B v l) (hb : b < B) : v.ownBlock ≠ some b := by
  obtain ⟨_, h2⟩ := h
  rcases h2 with ⟨hv, _⟩ | ⟨g, cap, cur, hv, hg, r⟩
  · subst hv; simp [Value.ownBlock]
  · subst hv; simp [Value.ownBlock]; omega
theorem OwnStrides.block_lt {w : World} {B b : Nat} {v : Value} {l : List (Int × Int)} (h : OwnStrides w B v l) (hb : v.ownBlock = some b) : b < w.heap.size ∧ B ≤ b := by
  obtain ⟨_, h2⟩ := h
  rcases h2 with ⟨hv, _⟩ | ⟨g, cap, cur, hv, hg, hh, r⟩
  · subst hv; simp [Value.ownBlock] at hb
  · subst hv; simp [Value.ownBlock] at hb; subst hb; exact ⟨(Array.getElem?_eq_some_iff.1 hh).1, hg⟩

theorem app_stride1 {ops : Array Oper} {rest : List Oper} {o : Oper} {a : Act} {Q : Exit → Act → World → Prop} {w : World} (hgd : o.guard = none) (s x : Operand)
    (ho : o.op = .call { callee := .builtin .append, args := #[s, x], argTypes := #[47, 47] })
    (B : Nat) (v : Value) (l : List (Int × Int)) (hs : a.eval s = v) (hown : OwnStrides w B v l) (n m : Int) (hx : a.eval x = .slice (some ⟨w.heap.size, 0, none⟩) 1 1)
    (hlen : l.length ≤ 1000000) (hB : B ≤ w.heap.size)
    (h : ∀ v' w', OwnStrides w' B v' (l ++ [(n, m)]) → Below B w w' → (w.alloc (.cells #[.int .i64 n, .int .i64 m] 59)).grownBy w' v.ownBlock → (v'.ownBlock = v.ownBlock ∨ v'.ownBlock = some (w.heap.size + 1)) → wpList Tryz.prog ops Q rest (a.put o.dst v') w') :
    wpList Tryz.prog ops Q (o :: rest) a (w.alloc (.cells #[.int .i64 n, .int .i64 m] 59)) := by
  obtain ⟨i0, hi, hz0, hz1, hz2⟩ := info_parts (P := Tryz.prog) (e := 59) (z := .agg #[.int .i64 0, .int .i64 0]) (size := 2) (bytes := 16) (by kernel_rfl)
  refine wpList_append_own_at (w.alloc _) hgd s x 47 ho B 59 i0 (.agg #[.int .i64 0, .int .i64 0]) 2 16 Tryz.underlying47 hi hz0 hz1 hz2 (by simp [Value.cells]) (by decide) v l.length _ hs (hown.alloc _) ⟨w.heap.size, 0, none⟩ 1 1 [.int .i64 n, .int .i64 m] hx rfl ?_ ?_ ?_ ?_ (by simp; omega) ?_
  · intro j u hj
    match j, hj with
    | 0, hj => simp at hj; subst hj; simp [Addr.add]
    | 1, hj => simp at hj; subst hj; simp [Addr.add]
  · intro u hu; simp at hu; rcases hu with rfl | rfl <;> rfl
  · unfold maxLen; omega
  · omega
  · intro v' w' h1 h2 _ h4
    have hb0 : Below B w (w.alloc (.cells #[.int .i64 n, .int .i64 m] 59)) := Below.alloc (Below.refl _ _) hB _
    refine h v' w' ?_ ?_ h2 (by simpa using h4)
    · unfold OwnStrides; simpa using h1
    · refine hb0.trans (Below.grown (Below.refl _ _) h2 (by simp; omega) fun k hk => ?_)
      exact (hown.block_lt hk).2
end Go.Proofs.YtmkjeonjhedgkaaGreatDoor
