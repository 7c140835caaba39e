/- The state of the search that spots makes: a map and a channel. -/
import Derived.Test.YtjgkgnfhglhklaaReach
import Derived.Test.YtjgkgnfhglhklaaMap
import Derived.Test.YtjgkgnfhglhklaaChan
namespace Go.Proofs.Ytjgkgnfhglhklaa
set_option linter.unusedSimpArgs false
set_option linter.unusedVariables false
open Go.RowKit Go.Conc
open Go.ChangeMaps (setBlock)

def spotV (p : Int × Int) : Value := .agg #[.int .i64 p.1, .int .i64 p.2]
def pairV (p : Int × Int) : Value × Value := (spotV p, .bool true)

theorem types_size : decide (2 ≤ Try.prog.types.size) = true := by kernel_rfl
theorem spot_key (p : Int × Int) (h1 : 0 ≤ p.1) (h2 : p.1 ≤ 100) (h3 : 0 ≤ p.2) (h4 : p.2 ≤ 100) : ∃ l, keyOf Try.prog 127 (spotV p) = some l := by
  have w1 : (Lit.int .i64 p.1).wf = true := WalkArith.wf_i64 (by omega)
  have w2 : (Lit.int .i64 p.2).wf = true := WalkArith.wf_i64 (by omega)
  have hf : Value.formed Try.prog 127 (spotV p) = true := by kernel_rfl
  have hk : Try.prog.keyType 127 = true := by kernel_rfl
  have hc1 : Try.prog.cellsOf 127 = 2 := by kernel_rfl
  have hc2 : Try.prog.cellsOf 3 = 1 := by kernel_rfl
  obtain ⟨D, hz⟩ : ∃ D, Try.prog.types.size + 1 = D + 1 + 1 := ⟨Try.prog.types.size - 1, by have := of_decide_eq_true types_size; omega⟩
  unfold keyOf
  rw [Try.underlying127]
  dsimp only
  rw [hk, hf, hz]
  simp [Program.keyLits, Try.underlying127, Try.underlying3, hc1, hc2, spotV, Value.cells, w1, w2]

theorem spot_law : WideMaps.KeyLaw Try.prog 127 := deep_law_laid (by kernel_rfl) (m := 3) (by decide) (of_decide_eq_true (by kernel_rfl)) (by kernel_rfl) (by kernel_rfl)

/-- The state of the search: S: the spots in the map, in order; T: those in the channel. -/
structure SpotsSt (w wr : World) (m c cap : Nat) (S T : List (Int × Int)) : Prop where
  below : Below w.heap.size w wr
  map : MapIs wr m (S.map pairV)
  chan : ∃ s r, wr.heap[c]? = some (.chan cap (T.map spotV).toArray false s r false)
  hm : w.heap.size ≤ m
  hc : w.heap.size ≤ c
  hne : m ≠ c

/-- Cells elsewhere read as they did. -/
structure Else (wr w' : World) (m : Nat) : Prop where
  cell : ∀ b o, b ≠ m → w'.cell? ⟨b, o, none⟩ = wr.cell? ⟨b, o, none⟩
  frozen : ∀ b o, b ≠ m → w'.frozen? ⟨b, o, none⟩ = wr.frozen? ⟨b, o, none⟩
  size : w'.heap.size = wr.heap.size

theorem SpotsSt.keep {w wr w' : World} {m c cap : Nat} {S T : List (Int × Int)} (h : SpotsSt w wr m c cap S T) (hb : Below wr.heap.size wr w') : SpotsSt w w' m c cap S T := by
  obtain ⟨h1, h2, ⟨s, r, h3⟩, h4, h5, h6⟩ := h
  have hs := h1.size
  refine ⟨h1.trans (hb.mono hs), h2.below hb h2.lt, ⟨s, r, ?_⟩, h4, h5, h6⟩
  rw [hb.block c (Array.getElem?_eq_some_iff.1 h3).1]; exact h3

theorem SpotsSt.own {w wr w' : World} {m c cap : Nat} {S T : List (Int × Int)} (h : SpotsSt w wr m c cap S T) {B : Nat} (hb : Below B wr w') (h1 : m < B) (h2 : c < B) (h3 : w.heap.size ≤ B) : SpotsSt w w' m c cap S T := by
  obtain ⟨g1, g2, ⟨s, r, g3⟩, g4, g5, g6⟩ := h
  refine ⟨g1.trans (hb.mono h3), g2.below hb h1, ⟨s, r, ?_⟩, g4, g5, g6⟩
  rw [hb.block c h2]; exact g3

def Small (p : Int × Int) : Prop := 0 ≤ p.1 ∧ p.1 ≤ 100 ∧ 0 ≤ p.2 ∧ p.2 ≤ 100

theorem spotV_inj {p q : Int × Int} (h : spotV p = spotV q) : p = q := by
  simp only [spotV, Value.agg.injEq, Array.mk.injEq, List.cons.injEq, Value.int.injEq, true_and, and_true] at h
  exact Prod.ext h.1 h.2

theorem sp_store {ops : Array Oper} {rest : List Oper} {o : Oper} {a : Act} {Q : Exit → Act → World → Prop} {w wr : World} {m c cap : Nat} {S T : List (Int × Int)} (hg : o.guard = none) (mo x v : Operand)
    (hop : o.op = Op.mapUpdate 124 mo x v) (hst : SpotsSt w wr m c cap S T) (q1 q2 : Int) (hmv : a.eval mo = .map (some m)) (hx : a.eval x = .agg #[.int .i64 q1, .int .i64 q2]) (hv : a.eval v = .bool true)
    (hq : (q1, q2) ∉ S) (hs : Small (q1, q2)) (hS : ∀ p ∈ S, Small p)
    (h : ∀ w', SpotsSt w w' m c cap (S ++ [(q1, q2)]) T → Else wr w' m → wpList Try.prog ops Q rest (a.put o.dst undef) w') : wpList Try.prog ops Q (o :: rest) a wr := by
  have key : ∀ p, Small p → ∃ l, keyOf Try.prog 127 (spotV p) = some l := fun p ⟨h1, h2, h3, h4⟩ => spot_key p h1 h2 h3 h4
  obtain ⟨g1, g2, ⟨s, r, g3⟩, g4, g5, g6⟩ := hst
  refine store_op hg mo x v 124 127 4 hop spot_law Try.underlying124 m (S.map pairV) hmv g2 (spotV (q1, q2)) (.bool true) hx hv (key _ hs)
    (fun p hp => by obtain ⟨p', hp', rfl⟩ := List.mem_map.1 hp; exact key p' (hS p' hp')) fun ps' hps => ?_
  rcases hps with ⟨_, rfl⟩ | ⟨i, v', hi, _⟩
  · have e : S.map pairV ++ [(spotV (q1, q2), .bool true)] = (S ++ [(q1, q2)]).map pairV := by simp [pairV]
    rw [e]
    refine h _ ⟨setBlock_below _ g1 g4, g2.set _, ⟨s, r, ?_⟩, g4, g5, g6⟩ ⟨fun b o hb => setBlock_cell _ (fun e => hb e.symm), fun b o hb => World.frozen?_of_block (setBlock_other _ (fun e => hb e.symm)), setBlock_size _⟩
    rw [setBlock_other _ g6]; exact g3
  · exfalso
    have := List.mem_of_getElem? hi
    obtain ⟨p, hp, e⟩ := List.mem_map.1 this
    simp only [pairV, Prod.mk.injEq] at e
    exact hq (spotV_inj e.1 ▸ hp)

theorem sp_send {o : Oper} {a : Act} {w wr : World} {m c cap : Nat} {S T : List (Int × Int)} {next : Act → World → Prop} (ch x : Operand) (hop : o.op = Op.send ch x) (hst : SpotsSt w wr m c cap S T) (q1 q2 : Int)
    (hcv : a.eval ch = .chan (some c)) (hx : a.eval x = .agg #[.int .i64 q1, .int .i64 q2]) (hroom : T.length < cap)
    (h : ∀ w', SpotsSt w w' m c cap S (T ++ [(q1, q2)]) → Else wr w' c → next (a.put o.dst undef) w') : CommGo Try.prog o a wr next := by
  obtain ⟨g1, g2, ⟨s, r, g3⟩, g4, g5, g6⟩ := hst
  have hlt := (Array.getElem?_eq_some_iff.1 g3).1
  refine .inl ⟨c, spotV (q1, q2), .tuple #[], wr, cap, _, s, r, false, ?_, g3, by simpa using hroom, ?_⟩
  · simp only [execOp, hop, hcv, hx]; rfl
  · have e : (T.map spotV).toArray.push (spotV (q1, q2)) = ((T ++ [(q1, q2)]).map spotV).toArray := by simp
    rw [e]
    refine h _ ⟨below_setChan g1 g5 _ _ _ _ _ _, ?_, ⟨s + 1, r, heap_setChan _ _ _ _ _ _ _ _ hlt⟩, g4, g5, g6⟩ ⟨fun b o hb => ?_, fun b o hb => ?_, size_setChan _ _ _ _ _ _ _ _⟩
    · unfold MapIs World.setChan; simp only; rw [Array.getElem?_setIfInBounds_ne (Ne.symm g6)]; exact g2
    · refine World.cell?_of_block (w := wr) ?_; unfold World.setChan; simp only; rw [Array.getElem?_setIfInBounds_ne (fun e => hb e.symm)]
    · refine World.frozen?_of_block (w := wr) ?_; unfold World.setChan; simp only; rw [Array.getElem?_setIfInBounds_ne (fun e => hb e.symm)]

theorem sp_recv {o : Oper} {a : Act} {w wr : World} {m c cap : Nat} {S T : List (Int × Int)} {next : Act → World → Prop} (ch : Operand) (hop : o.op = Op.recv 157 ch false) (q : Int × Int) (hst : SpotsSt w wr m c cap S (q :: T))
    (hcv : a.eval ch = .chan (some c))
    (h : ∀ w', SpotsSt w w' m c cap S T → Else wr w' c → next (a.put o.dst (.agg #[.int .i64 q.1, .int .i64 q.2])) w') : CommGo Try.prog o a wr next := by
  obtain ⟨g1, g2, ⟨s, r, g3⟩, g4, g5, g6⟩ := hst
  have hlt := (Array.getElem?_eq_some_iff.1 g3).1
  have hz : (zeroValue 127).run Try.prog wr = .ok (.agg #[.int .i64 0, .int .i64 0]) wr := by kernel_rfl
  refine .inr ⟨c, .agg #[.int .i64 0, .int .i64 0], wr, cap, _, s, r, false, ?_, g3, by simp, ?_⟩
  · simp only [execOp, hop, hcv, Sem.run_bind, run_underlying Try.underlying157, Result.andThen, hz]; rfl
  · have e : ((q :: T).map spotV).toArray.extract 1 ((q :: T).map spotV).toArray.size = (T.map spotV).toArray := by
      simp
      exact List.take_of_length_le (by simp)
    have e2 : ((q :: T).map spotV).toArray.getD 0 undef = .agg #[.int .i64 q.1, .int .i64 q.2] := by simp [spotV]
    rw [e, e2]
    refine h _ ⟨below_setChan g1 g5 _ _ _ _ _ _, ?_, ⟨s, r + 1, heap_setChan _ _ _ _ _ _ _ _ hlt⟩, g4, g5, g6⟩ ⟨fun b o hb => ?_, fun b o hb => ?_, size_setChan _ _ _ _ _ _ _ _⟩
    · unfold MapIs World.setChan; simp only; rw [Array.getElem?_setIfInBounds_ne (Ne.symm g6)]; exact g2
    · refine World.cell?_of_block (w := wr) ?_; unfold World.setChan; simp only; rw [Array.getElem?_setIfInBounds_ne (fun e => hb e.symm)]
    · refine World.frozen?_of_block (w := wr) ?_; unfold World.setChan; simp only; rw [Array.getElem?_setIfInBounds_ne (fun e => hb e.symm)]

theorem sp_len {w wr : World} {m c cap : Nat} {S T : List (Int × Int)} (hst : SpotsSt w wr m c cap S T) (ty : TypeId) :
    (Builtin.len_ #[157] ty #[.chan (some c)]).run Try.prog wr = .ok (.int .i64 T.length) wr := by
  obtain ⟨g1, g2, ⟨s, r, g3⟩, g4, g5, g6⟩ := hst
  have hg : (getObj c).run Try.prog wr = .ok (.chan cap (T.map spotV).toArray false s r false) wr := by simp [getObj, Sem.run, g3]
  simp [Builtin.len_, run_underlying Try.underlying157, hg, goInt, Result.andThen]

theorem sp_look {w wr : World} {m c cap : Nat} {S T : List (Int × Int)} (hst : SpotsSt w wr m c cap S T) (q1 q2 : Int) (hs : Small (q1, q2)) (hS : ∀ p ∈ S, Small p) :
    (Instr.lookup 124 (.map (some m)) (.agg #[.int .i64 q1, .int .i64 q2]) false).run Try.prog wr = .ok (.bool (decide ((q1, q2) ∈ S))) wr := by
  have key : ∀ p, Small p → ∃ l, keyOf Try.prog 127 (spotV p) = some l := fun p ⟨h1, h2, h3, h4⟩ => spot_key p h1 h2 h3 h4
  obtain ⟨kl, hkl⟩ := key _ hs
  rcases run_look false spot_law Try.underlying124 hst.map (z := .bool false) (by kernel_rfl) hkl (fun p hp => by obtain ⟨p', hp', rfl⟩ := List.mem_map.1 hp; exact key p' (hS p' hp')) with ⟨h1, h2⟩ | ⟨v, h1, h2⟩
  · have : (q1, q2) ∉ S := fun hm => h2 _ (List.mem_map.2 ⟨_, hm, rfl⟩) rfl
    rw [show decide ((q1, q2) ∈ S) = false by simpa using this]
    exact h1
  · obtain ⟨p, hp, e⟩ := List.mem_map.1 h2
    simp only [pairV, Prod.mk.injEq] at e
    obtain ⟨e1, rfl⟩ := e
    have : (q1, q2) ∈ S := spotV_inj e1 ▸ hp
    rw [show decide ((q1, q2) ∈ S) = true by simpa using this]
    exact h1

theorem run_makeChan (N : Int) (h1 : 0 ≤ N) (h2 : N ≤ 100) (w : World) :
    (Instr.makeChan 157 (.int .i64 N)).run Try.prog w = .ok (.chan (some w.heap.size)) (w.alloc (.chan N.toNat #[] false 0 0 false)) := by
  have hi : (Try.prog.info? 127).map (fun i => (i.zero, i.size, i.bytes)) = some (some (.agg #[.int .i64 0, .int .i64 0]), 2, 16) := by kernel_rfl
  obtain ⟨i0, hi, hz0, hz1, hz2⟩ := info_parts hi
  have hb : ¬ (N < 0 ∨ 9223372036854775807 < N ∨ 281474976710544 < 16 * N) := by omega
  simp [Instr.makeChan, run_underlying Try.underlying157, asInt, asIntOf, typeInfo, hi, hz2, newObj, Result.andThen, hb]
  rfl

end Go.Proofs.Ytjgkgnfhglhklaa
