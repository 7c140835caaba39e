/- The state of the search that spots makes: a map and a channel. The contract of spots. -/
import Derived.Test.YtmkjeonjhedgkaaGreatDoorBars
import Derived.Test.YtmkjeonjhedgkaaGreatDoorMap
namespace Go.Proofs.YtmkjeonjhedgkaaGreatDoor
set_option linter.unusedSimpArgs false
set_option linter.unusedVariables false
open Go.RowKit Go.Conc
open Go.ChangeMaps (setBlock)

def spotV (p : Int × Int) : Value := .agg #[.int .i64 p.1, .int .i64 p.2]
def pairV (p : Int × Int) : Value × Value := (spotV p, .bool true)

theorem types_size : decide (2 ≤ Tryz.prog.types.size) = true := by kernel_rfl
theorem spot_key (p : Int × Int) (h1 : 0 ≤ p.1) (h2 : p.1 ≤ 100) (h3 : 0 ≤ p.2) (h4 : p.2 ≤ 100) : ∃ l, keyOf Tryz.prog 130 (spotV p) = some l := by
  have w1 : (Lit.int .i64 p.1).wf = true := WalkArith.wf_i64 (by omega)
  have w2 : (Lit.int .i64 p.2).wf = true := WalkArith.wf_i64 (by omega)
  have hf : Value.formed Tryz.prog 130 (spotV p) = true := by kernel_rfl
  have hk : Tryz.prog.keyType 130 = true := by kernel_rfl
  have hc1 : Tryz.prog.cellsOf 130 = 2 := by kernel_rfl
  have hc2 : Tryz.prog.cellsOf 3 = 1 := by kernel_rfl
  obtain ⟨D, hz⟩ : ∃ D, Tryz.prog.types.size + 1 = D + 1 + 1 := ⟨Tryz.prog.types.size - 1, by have := of_decide_eq_true types_size; omega⟩
  unfold keyOf
  rw [Tryz.underlying130]
  dsimp only
  rw [hk, hf, hz]
  simp [Program.keyLits, Tryz.underlying130, Tryz.underlying3, hc1, hc2, spotV, Value.cells, w1, w2]

theorem spot_law : WideMaps.KeyLaw Tryz.prog 130 := deep_law_laid (by kernel_rfl) (m := 3) (by decide) (of_decide_eq_true (by kernel_rfl)) (by kernel_rfl) (by kernel_rfl)

/-- The state of the search: S: the spots in the map, in order; T: those in the channel. -/
structure SpotsSt (w wr : World) (m c cap : Nat) (S T : List (Int × Int)) : Prop where
  below : Below w.heap.size w wr
  map : MapIs wr m (S.map pairV)
  chan : ∃ s r, wr.heap[c]? = some (.chan cap (T.map spotV).toArray false s r false)
  hm : w.heap.size ≤ m
  hc : w.heap.size ≤ c
  hne : m ≠ c

/-- Cells elsewhere read as they did. -/
structure Else (wr w' : World) (m : Nat) : Prop where
  cell : ∀ b o, b ≠ m → w'.cell? ⟨b, o, none⟩ = wr.cell? ⟨b, o, none⟩
  frozen : ∀ b o, b ≠ m → w'.frozen? ⟨b, o, none⟩ = wr.frozen? ⟨b, o, none⟩
  size : w'.heap.size = wr.heap.size

theorem SpotsSt.keep {w wr w' : World} {m c cap : Nat} {S T : List (Int × Int)} (h : SpotsSt w wr m c cap S T) (hb : Below wr.heap.size wr w') : SpotsSt w w' m c cap S T := by
  obtain ⟨h1, h2, ⟨s, r, h3⟩, h4, h5, h6⟩ := h
  have hs := h1.size
  refine ⟨h1.trans (hb.mono hs), h2.below hb h2.lt, ⟨s, r, ?_⟩, h4, h5, h6⟩
  rw [hb.block c (Array.getElem?_eq_some_iff.1 h3).1]; exact h3

theorem SpotsSt.own {w wr w' : World} {m c cap : Nat} {S T : List (Int × Int)} (h : SpotsSt w wr m c cap S T) {B : Nat} (hb : Below B wr w') (h1 : m < B) (h2 : c < B) (h3 : w.heap.size ≤ B) : SpotsSt w w' m c cap S T := by
  obtain ⟨g1, g2, ⟨s, r, g3⟩, g4, g5, g6⟩ := h
  refine ⟨g1.trans (hb.mono h3), g2.below hb h1, ⟨s, r, ?_⟩, g4, g5, g6⟩
  rw [hb.block c h2]; exact g3

def Small (p : Int × Int) : Prop := 0 ≤ p.1 ∧ p.1 ≤ 100 ∧ 0 ≤ p.2 ∧ p.2 ≤ 100

theorem spotV_inj {p q : Int × Int} (h : spotV p = spotV q) : p = q := by
  simp only [spotV, Value.agg.injEq, Array.mk.injEq, List.cons.injEq, Value.int.injEq, true_and, and_true] at h
  exact Prod.ext h.1 h.2

theorem sp_store {ops : Array Oper} {rest : List Oper} {o : Oper} {a : Act} {Q : Exit → Act → World → Prop} {w wr : World} {m c cap : Nat} {S T : List (Int × Int)} (hg : o.guard = none) (mo x v : Operand)
    (hop : o.op = Op.mapUpdate 147 mo x v) (hst : SpotsSt w wr m c cap S T) (q1 q2 : Int) (hmv : a.eval mo = .map (some m)) (hx : a.eval x = .agg #[.int .i64 q1, .int .i64 q2]) (hv : a.eval v = .bool true)
    (hq : (q1, q2) ∉ S) (hs : Small (q1, q2)) (hS : ∀ p ∈ S, Small p)
    (h : ∀ w', SpotsSt w w' m c cap (S ++ [(q1, q2)]) T → Else wr w' m → wpList Tryz.prog ops Q rest (a.put o.dst undef) w') : wpList Tryz.prog ops Q (o :: rest) a wr := by
  have key : ∀ p, Small p → ∃ l, keyOf Tryz.prog 130 (spotV p) = some l := fun p ⟨h1, h2, h3, h4⟩ => spot_key p h1 h2 h3 h4
  obtain ⟨g1, g2, ⟨s, r, g3⟩, g4, g5, g6⟩ := hst
  refine store_op hg mo x v 147 130 4 hop spot_law Tryz.underlying147 m (S.map pairV) hmv g2 (spotV (q1, q2)) (.bool true) hx hv (key _ hs)
    (fun p hp => by obtain ⟨p', hp', rfl⟩ := List.mem_map.1 hp; exact key p' (hS p' hp')) fun ps' hps => ?_
  rcases hps with ⟨_, rfl⟩ | ⟨i, v', hi, _⟩
  · have e : S.map pairV ++ [(spotV (q1, q2), .bool true)] = (S ++ [(q1, q2)]).map pairV := by simp [pairV]
    rw [e]
    refine h _ ⟨setBlock_below _ g1 g4, g2.set _, ⟨s, r, ?_⟩, g4, g5, g6⟩ ⟨fun b o hb => setBlock_cell _ (fun e => hb e.symm), fun b o hb => World.frozen?_of_block (setBlock_other _ (fun e => hb e.symm)), setBlock_size _⟩
    rw [setBlock_other _ g6]; exact g3
  · exfalso
    have := List.mem_of_getElem? hi
    obtain ⟨p, hp, e⟩ := List.mem_map.1 this
    simp only [pairV, Prod.mk.injEq] at e
    exact hq (spotV_inj e.1 ▸ hp)

theorem sp_send {o : Oper} {a : Act} {w wr : World} {m c cap : Nat} {S T : List (Int × Int)} {next : Act → World → Prop} (ch x : Operand) (hop : o.op = Op.send ch x) (hst : SpotsSt w wr m c cap S T) (q1 q2 : Int)
    (hcv : a.eval ch = .chan (some c)) (hx : a.eval x = .agg #[.int .i64 q1, .int .i64 q2]) (hroom : T.length < cap)
    (h : ∀ w', SpotsSt w w' m c cap S (T ++ [(q1, q2)]) → Else wr w' c → next (a.put o.dst undef) w') : CommGo Tryz.prog o a wr next := by
  obtain ⟨g1, g2, ⟨s, r, g3⟩, g4, g5, g6⟩ := hst
  have hlt := (Array.getElem?_eq_some_iff.1 g3).1
  refine .inl ⟨c, spotV (q1, q2), .tuple #[], wr, cap, _, s, r, false, ?_, g3, by simpa using hroom, ?_⟩
  · simp only [execOp, hop, hcv, hx]; rfl
  · have e : (T.map spotV).toArray.push (spotV (q1, q2)) = ((T ++ [(q1, q2)]).map spotV).toArray := by simp
    rw [e]
    refine h _ ⟨below_setChan g1 g5 _ _ _ _ _ _, ?_, ⟨s + 1, r, heap_setChan _ _ _ _ _ _ _ _ hlt⟩, g4, g5, g6⟩ ⟨fun b o hb => ?_, fun b o hb => ?_, size_setChan _ _ _ _ _ _ _ _⟩
    · unfold MapIs World.setChan; simp only; rw [Array.getElem?_setIfInBounds_ne (Ne.symm g6)]; exact g2
    · refine World.cell?_of_block (w := wr) ?_; unfold World.setChan; simp only; rw [Array.getElem?_setIfInBounds_ne (fun e => hb e.symm)]
    · refine World.frozen?_of_block (w := wr) ?_; unfold World.setChan; simp only; rw [Array.getElem?_setIfInBounds_ne (fun e => hb e.symm)]

theorem sp_recv {o : Oper} {a : Act} {w wr : World} {m c cap : Nat} {S T : List (Int × Int)} {next : Act → World → Prop} (ch : Operand) (hop : o.op = Op.recv 167 ch false) (q : Int × Int) (hst : SpotsSt w wr m c cap S (q :: T))
    (hcv : a.eval ch = .chan (some c))
    (h : ∀ w', SpotsSt w w' m c cap S T → Else wr w' c → next (a.put o.dst (.agg #[.int .i64 q.1, .int .i64 q.2])) w') : CommGo Tryz.prog o a wr next := by
  obtain ⟨g1, g2, ⟨s, r, g3⟩, g4, g5, g6⟩ := hst
  have hlt := (Array.getElem?_eq_some_iff.1 g3).1
  have hz : (zeroValue 130).run Tryz.prog wr = .ok (.agg #[.int .i64 0, .int .i64 0]) wr := by kernel_rfl
  refine .inr ⟨c, .agg #[.int .i64 0, .int .i64 0], wr, cap, _, s, r, false, ?_, g3, by simp, ?_⟩
  · simp only [execOp, hop, hcv, Sem.run_bind, run_underlying Tryz.underlying167, Result.andThen, hz]; rfl
  · have e : ((q :: T).map spotV).toArray.extract 1 ((q :: T).map spotV).toArray.size = (T.map spotV).toArray := by
      simp
      exact List.take_of_length_le (by simp)
    have e2 : ((q :: T).map spotV).toArray.getD 0 undef = .agg #[.int .i64 q.1, .int .i64 q.2] := by simp [spotV]
    rw [e, e2]
    refine h _ ⟨below_setChan g1 g5 _ _ _ _ _ _, ?_, ⟨s, r + 1, heap_setChan _ _ _ _ _ _ _ _ hlt⟩, g4, g5, g6⟩ ⟨fun b o hb => ?_, fun b o hb => ?_, size_setChan _ _ _ _ _ _ _ _⟩
    · unfold MapIs World.setChan; simp only; rw [Array.getElem?_setIfInBounds_ne (Ne.symm g6)]; exact g2
    · refine World.cell?_of_block (w := wr) ?_; unfold World.setChan; simp only; rw [Array.getElem?_setIfInBounds_ne (fun e => hb e.symm)]
    · refine World.frozen?_of_block (w := wr) ?_; unfold World.setChan; simp only; rw [Array.getElem?_setIfInBounds_ne (fun e => hb e.symm)]

theorem sp_len {w wr : World} {m c cap : Nat} {S T : List (Int × Int)} (hst : SpotsSt w wr m c cap S T) (ty : TypeId) :
    (Builtin.len_ #[167] ty #[.chan (some c)]).run Tryz.prog wr = .ok (.int .i64 T.length) wr := by
  obtain ⟨g1, g2, ⟨s, r, g3⟩, g4, g5, g6⟩ := hst
  have hg : (getObj c).run Tryz.prog wr = .ok (.chan cap (T.map spotV).toArray false s r false) wr := by simp [getObj, Sem.run, g3]
  simp [Builtin.len_, run_underlying Tryz.underlying167, hg, goInt, Result.andThen]

theorem sp_look {w wr : World} {m c cap : Nat} {S T : List (Int × Int)} (hst : SpotsSt w wr m c cap S T) (q1 q2 : Int) (hs : Small (q1, q2)) (hS : ∀ p ∈ S, Small p) :
    (Instr.lookup 147 (.map (some m)) (.agg #[.int .i64 q1, .int .i64 q2]) false).run Tryz.prog wr = .ok (.bool (decide ((q1, q2) ∈ S))) wr := by
  have key : ∀ p, Small p → ∃ l, keyOf Tryz.prog 130 (spotV p) = some l := fun p ⟨h1, h2, h3, h4⟩ => spot_key p h1 h2 h3 h4
  obtain ⟨kl, hkl⟩ := key _ hs
  rcases run_look false spot_law Tryz.underlying147 hst.map (z := .bool false) (by kernel_rfl) hkl (fun p hp => by obtain ⟨p', hp', rfl⟩ := List.mem_map.1 hp; exact key p' (hS p' hp')) with ⟨h1, h2⟩ | ⟨v, h1, h2⟩
  · have : (q1, q2) ∉ S := fun hm => h2 _ (List.mem_map.2 ⟨_, hm, rfl⟩) rfl
    rw [show decide ((q1, q2) ∈ S) = false by simpa using this]
    exact h1
  · obtain ⟨p, hp, e⟩ := List.mem_map.1 h2
    simp only [pairV, Prod.mk.injEq] at e
    obtain ⟨e1, rfl⟩ := e
    have : (q1, q2) ∈ S := spotV_inj e1 ▸ hp
    rw [show decide ((q1, q2) ∈ S) = true by simpa using this]
    exact h1

theorem run_makeChan (N : Int) (h1 : 0 ≤ N) (h2 : N ≤ 100) (w : World) :
    (Instr.makeChan 167 (.int .i64 N)).run Tryz.prog w = .ok (.chan (some w.heap.size)) (w.alloc (.chan N.toNat #[] false 0 0 false)) := by
  have hi : (Tryz.prog.info? 130).map (fun i => (i.zero, i.size, i.bytes)) = some (some (.agg #[.int .i64 0, .int .i64 0]), 2, 16) := by kernel_rfl
  obtain ⟨i0, hi, hz0, hz1, hz2⟩ := info_parts hi
  have hb : ¬ (N < 0 ∨ 9223372036854775807 < N ∨ 281474976710544 < 16 * N) := by omega
  simp [Instr.makeChan, run_underlying Tryz.underlying167, asInt, asIntOf, typeInfo, hi, hz2, newObj, Result.andThen, hb]
  rfl

end Go.Proofs.YtmkjeonjhedgkaaGreatDoor

namespace Go.Proofs.YtmkjeonjhedgkaaGreatDoor
set_option linter.unusedSimpArgs false
set_option linter.unusedVariables false
open Go.RowKit Go.Conc
open Go.ChangeMaps (setBlock)

/-- The spots at which the flock begins, of the first k stages. -/
def startsTo (n : Nat) : Nat → List (Int × Int)
  | 0 => []
  | k + 1 => startsTo n k ++ (if n.testBit k then [((k : Int), 0)] else [])
theorem mem_starts {n : Nat} {p : Int × Int} : ∀ {k : Nat}, p ∈ startsTo n k ↔ ∃ s, s < k ∧ n.testBit s = true ∧ p = ((s : Int), 0)
  | 0 => by simp [startsTo]
  | k + 1 => by
    simp only [startsTo, List.mem_append, mem_starts (k := k)]
    constructor
    · rintro (⟨s, h1, h2, h3⟩ | h)
      · exact ⟨s, by omega, h2, h3⟩
      · by_cases hb : n.testBit k = true
        · rw [if_pos hb] at h; exact ⟨k, by omega, hb, by simpa using h⟩
        · rw [if_neg hb] at h; simp at h
    · rintro ⟨s, h1, h2, h3⟩
      by_cases e : s = k
      · subst e; exact .inr (by rw [if_pos h2]; simp [h3])
      · exact .inl ⟨s, by omega, h2, h3⟩
theorem starts_nodup (n : Nat) : ∀ k, (startsTo n k).Nodup
  | 0 => by simp [startsTo]
  | k + 1 => by
    unfold startsTo
    split
    · refine List.nodup_append.2 ⟨starts_nodup n k, by simp, fun a ha b hb e => ?_⟩
      subst e
      obtain ⟨s, h1, _, h3⟩ := mem_starts.1 ha
      simp at hb
      rw [h3] at hb
      simp at hb
      omega
    · simpa using starts_nodup n k
theorem starts_yes {n k : Nat} (h : n.testBit k = true) : startsTo n (k + 1) = startsTo n k ++ [((k : Int), 0)] := by simp [startsTo, h]
theorem starts_no {n k : Nat} (h : n.testBit k = false) : startsTo n (k + 1) = startsTo n k := by simp [startsTo, h]
theorem starts_len (n : Nat) : ∀ k, (startsTo n k).length ≤ k
  | 0 => by simp [startsTo]
  | k + 1 => by have := starts_len n k; unfold startsTo; split <;> simp <;> omega

/-- What the search has found out: S: spots met, in order; the first d of them have been looked at. -/
structure Bfs (r : Roads) (f : Flock) (shut : Int) (n : Nat) (day : Int) (S : List (Int × Int)) (d : Nat) : Prop where
  le : d ≤ S.length
  nodup : S.Nodup
  sound : ∀ p ∈ S, Spot r f shut n day p
  starts : ∀ s : Nat, (s : Int) < r.stages → n.testBit s = true → ((s : Int), 0) ∈ S
  closed : ∀ j p, j < d → S[j]? = some p → ∀ i q, stepOk r f shut day p i = some q → q ∈ S

theorem Bfs.complete {r : Roads} {f : Flock} {shut : Int} {n : Nat} {day : Int} {S : List (Int × Int)} (h : Bfs r f shut n day S S.length) (p : Int × Int) (hp : Spot r f shut n day p) : p ∈ S := by
  induction hp with
  | start s h1 h2 => exact h.starts s h1 h2
  | step p q i _ hq ih =>
    obtain ⟨j, hj⟩ := List.mem_iff_getElem?.1 ih
    exact h.closed j p (List.getElem?_eq_some_iff.1 hj).1 hj i q hq

theorem Bfs.len {r : Roads} {f : Flock} (g : Good r f) {shut : Int} {n : Nat} {day : Int} {S : List (Int × Int)} {d : Nat} (h : Bfs r f shut n day S d) : (S.length : Int) ≤ r.stages * (f.pace + 1) :=
  grid_length (by have := g.s1; omega) (by have := g.p1; omega) S h.nodup fun p hp => (h.sound p hp).range g

theorem next_in {r : Roads} {f : Flock} {shut day : Int} {q : Int × Int} {S : List (Int × Int)} {k : Nat} (h : ∀ i, i < k → ∀ p, stepOk r f shut day q i = some p → p ∈ S) (hk : ∀ p, stepOk r f shut day q k = some p → p ∈ S) :
    ∀ i, i < k + 1 → ∀ p, stepOk r f shut day q i = some p → p ∈ S := by
  intro i hi p hp
  by_cases e : i = k
  · subst e; exact hk p hp
  · exact h i (by omega) p hp

section
variable {r : Roads} {f : Flock} {shut day : Int} {q : Int × Int} {S : List (Int × Int)} {k : Nat} {s : Strip} {eo : Int × Bool}
theorem step_in (hs : r.strips[k]? = some s) (he : endOf s q.1 = eo) (hm : (eo.1, q.2 + s.L) ∈ S) : ∀ p, stepOk r f shut day q k = some p → p ∈ S := by
  intro p hp
  obtain ⟨s', hs1, _, _, _, rfl⟩ := stepOk_some.1 hp
  rw [hs] at hs1
  obtain rfl : s = s' := by simpa using hs1
  rw [he]; exact hm
theorem step_far (hs : r.strips[k]? = some s) (h : ¬ q.2 + s.L ≤ f.pace) : ∀ p, stepOk r f shut day q k = some p → p ∈ S := by
  intro p hp
  obtain ⟨s', hs1, _, h2, _, _⟩ := stepOk_some.1 hp
  rw [hs] at hs1
  obtain rfl : s = s' := by simpa using hs1
  exact absurd h2 h
theorem step_off (hs : r.strips[k]? = some s) (he : endOf s q.1 = eo) (h : eo.2 = false) : ∀ p, stepOk r f shut day q k = some p → p ∈ S := by
  intro p hp
  obtain ⟨s', hs1, h1, _, _, _⟩ := stepOk_some.1 hp
  rw [hs] at hs1
  obtain rfl : s = s' := by simpa using hs1
  rw [he, h] at h1; simp at h1
theorem step_shut (h : openB r f shut k day = false) : ∀ p, stepOk r f shut day q k = some p → p ∈ S := by
  intro p hp
  obtain ⟨s', _, _, _, h3, _⟩ := stepOk_some.1 hp
  rw [h] at h3; simp at h3
end

theorem bfs_push {r : Roads} {f : Flock} (_g : Good r f) {shut : Int} {n : Nat} {day : Int} {S : List (Int × Int)} {d k : Nat} {q : Int × Int} {s : Strip} {eo : Int × Bool} (h : Bfs r f shut n day S d) (hq : S[d]? = some q)
    (hs : r.strips[k]? = some s) (he : endOf s q.1 = eo) (hA : eo.2 = true) (hP : q.2 + s.L ≤ f.pace) (hO : openB r f shut k day = true) (hM : (eo.1, q.2 + s.L) ∉ S) : Bfs r f shut n day (S ++ [(eo.1, q.2 + s.L)]) d := by
  have hd := (List.getElem?_eq_some_iff.1 hq).1
  refine ⟨by simp; omega, ?_, ?_, fun s h1 h2 => List.mem_append_left _ (h.starts s h1 h2), ?_⟩
  · refine List.nodup_append.2 ⟨h.nodup, by simp, fun a ha b hb e => ?_⟩
    simp at hb; subst hb; exact hM (e ▸ ha)
  · intro p hp
    rcases List.mem_append.1 hp with hp | hp
    · exact h.sound p hp
    · simp at hp; subst hp
      exact .step q _ k (h.sound q (List.mem_of_getElem? hq)) (stepOk_some.2 ⟨s, hs, by rw [he]; exact hA, hP, hO, by rw [he]⟩)
  · intro j p hj hp i q' hq'
    rw [List.getElem?_append_left (by omega)] at hp
    exact List.mem_append_left _ (h.closed j p hj hp i q' hq')

theorem two_alloc (w : World) (o1 o2 : Obj) : ((w.alloc o1).alloc o2).heap[w.heap.size]? = some o1 ∧ ((w.alloc o1).alloc o2).heap[w.heap.size + 1]? = some o2 := by
  show ((w.heap.push o1).push o2)[w.heap.size]? = some o1 ∧ ((w.heap.push o1).push o2)[w.heap.size + 1]? = some o2
  constructor
  · rw [Array.getElem?_push, if_neg (by simp)]; simp
  · rw [Array.getElem?_push, if_pos (by simp)]

set_option maxRecDepth 100000 in
set_option maxHeartbeats 4000000 in
theorem spots_any (w : World) (b : Nat) (r : Roads) (f : Flock) (shut : Int) (a : Option Addr) (cap : Nat) (h : WorkAt w b r f shut a cap) (g : Good r f) (n : Nat) (hn : n < 65536) (day : Int) :
    Calls Tryz.prog 85 #[.pointer (some ⟨b, 0, none⟩), .int .u16 n, .int .i64 day] w
      fun e w' => ∃ (m : Nat) (S : List (Int × Int)), e = .returned (.map (some m)) ∧ (∀ p, p ∈ S ↔ Spot r f shut n day p) ∧ S.Nodup ∧ MapIs w' m (S.map pairV) ∧ Below w.heap.size w w' := by
  have H := h
  obtain ⟨c0, c1, c2, c3, c4, c5, hs⟩ := h
  have hmm := @run_makeMap Tryz.prog
  have g1 := g.s1
  have g2 := g.s2
  have g3 := g.p1
  have g4 := g.p2
  have hN0 : 0 ≤ r.stages * (f.pace + 1) := Int.mul_nonneg (a := r.stages) (b := f.pace + 1) (by omega) (by omega)
  have hN1 : r.stages * (f.pace + 1) ≤ 60 := by
    have := Int.mul_le_mul_of_nonneg_right (a := r.stages) (b := 6) (c := f.pace + 1) (by omega) (by omega)
    omega
  have hmc := run_makeChan _ hN0 (by omega)
  have hbl := lt_of_cell c0
  have hbl1 : b < w.heap.size + 1 := by omega
  have hbl2 : b < w.heap.size + 1 + 1 := by omega
  go_enter Tryz.func85, Tryz.ntmps85
  go_wp2_with fail
  go_region
  go_wp2_with fail
  have hst0 : SpotsSt w ((w.alloc (.map #[] 0)).alloc (.chan (r.stages * (f.pace + 1)).toNat #[] false 0 0 false)).drew w.heap.size (w.heap.size + 1) (r.stages * (f.pace + 1)).toNat [] [] := by
    refine ⟨(((Below.refl _ _).alloc (Nat.le_refl _) _).alloc (by simp) _).drew, ?_, ⟨0, 0, ?_⟩, Nat.le_refl _, by omega, by omega⟩
    · exact (two_alloc w _ _).1
    · exact (two_alloc w _ _).2
  go_loopw [9] (fun v9 wr => ∃ k : Nat, (k : Int) ≤ r.stages ∧ v9 = .int .i64 k ∧ SpotsSt w wr w.heap.size (w.heap.size + 1) (r.stages * (f.pace + 1)).toNat (startsTo n k) (startsTo n k)) (fun v _ => (r.stages - intOf v).toNat)
  case atStart => exact ⟨0, by omega, rfl, hst0⟩
  case round =>
    clear hst0
    obtain ⟨k, hk, rfl, hst⟩ := hrel
    obtain ⟨hc, _⟩ := bcell hst.below
    have b1 : wr.cell? ⟨b, 1, none⟩ = some (.int .i64 r.stages) := by rw [hc _ _ hbl]; exact c1
    clear hc
    by_cases hlt : (k : Int) < r.stages
    · cases hT : n.testBit k
      · go_wp2_with (go_at_call 71; refine (has_any n k hn (by omega) _).mono ?_; rintro e w' ⟨rfl, rfl⟩)
        exact ⟨⟨k + 1, by omega, by go_num, by rw [starts_no hT]; exact hst⟩, by simp [intOf]; omega⟩
      · go_wp2_with (first | (go_at_call 71; refine (has_any n k hn (by omega) _).mono ?_; rintro e w' ⟨rfl, rfl⟩) | (at_mapUpdate; refine sp_store rfl _ _ _ rfl hst k 0 rfl rfl rfl ?ca ?cb ?cc ?_))
        case ca => intro hm; obtain ⟨s, h1, _, h3⟩ := mem_starts.1 hm; simp at h3; omega
        case cb => exact ⟨by simp, by simp; omega, by simp, by simp⟩
        case cc => intro p hp; obtain ⟨s, h1, _, rfl⟩ := mem_starts.1 hp; exact ⟨by simp, by simp; omega, by simp, by simp⟩
        intro w1 hst1 he1
        clear hst
        go_upto_region 8 with (fail)
        refine wp_region_met 3 _ rfl rfl (fun J K' hJ hK' => ?_)
        go_wp2_with fail
        refine Met.intro (hJ _ _ (sp_send _ _ rfl hst1 _ _ rfl rfl ?_ ?_))
        · have := starts_len n k
          have : r.stages * 2 ≤ r.stages * (f.pace + 1) := Int.mul_le_mul_of_nonneg_left (by omega) (by omega)
          omega
        · intro w2 hst2 he2
          clear hst1 he1
          go_wp2_with fail
          exact ⟨⟨k + 1, by omega, by go_num, by rw [starts_yes hT]; exact hst2⟩, by simp [intOf]; omega⟩
    · go_wp2_with fail
      go_loopg [] 100 (fun g wx => ∃ (S : List (Int × Int)) (d : Nat), g + d = 100 ∧ SpotsSt w wx w.heap.size (w.heap.size + 1) (r.stages * (f.pace + 1)).toNat S (S.drop d) ∧ Bfs r f shut n day S d)
      case atStart =>
        have hks : (k : Int) = r.stages := by omega
        refine ⟨startsTo n k, 0, rfl, hst, Nat.zero_le _, starts_nodup n k, ?_, ?_, fun j p hj => by omega⟩
        · intro p hp
          obtain ⟨s, h1, h2, rfl⟩ := mem_starts.1 hp
          exact .start s (by omega) h2
        · intro s h1 h2
          exact mem_starts.2 ⟨s, by omega, h2, rfl⟩
      case round =>
        clear hst b1 hmm hmc hlt
        obtain ⟨S, d, hg, hst, hB⟩ := hrel
        have Hg := Lib.hid hg; clear hg
        by_cases hd : d = S.length
        · subst hd
          have hlen := sp_len hst
          simp only [List.drop_length, List.length_nil] at hlen
          go_wp2_with fail
          go_ret
          exact ⟨_, S, rfl, fun p => ⟨hB.sound p, hB.complete p⟩, hB.nodup, hst.map, hst.below⟩
        · have hdl : d < S.length := by have := hB.le; omega
          have hT : S.drop d = S[d] :: S.drop (d + 1) := List.drop_eq_getElem_cons hdl
          have hlen := sp_len hst
          rw [hT] at hst
          obtain ⟨N, hN⟩ : ∃ N, (S.drop d).length = N := ⟨_, rfl⟩
          rw [hN] at hlen
          have hN0 : 0 < N := by rw [← hN, List.length_drop]; omega
          generalize hq : S[d] = q at hst
          generalize hT' : S.drop (d + 1) = T at hst
          have HT := Lib.hid hT'; clear hT'
          have Hq := Lib.hid hq; clear hq
          clear hT hN
          have Hd := Lib.hid hd; clear hd
          go_upto_region 10 with (fail)
          refine wp_region_met 1 _ rfl rfl (fun J K' hJ hK' => ?_)
          go_wp2_with fail
          refine Met.intro (hJ _ _ (sp_recv _ rfl q hst rfl ?_))
          intro w1 hst1 he1
          obtain ⟨d0, d1, d2, d3, d4, d5, ds⟩ := H.below hst1.below
          have hz1 := hst1.below.size
          have hbl1 : b < w1.heap.size := by omega
          have hc1 : w.heap.size + 1 < w1.heap.size := by obtain ⟨_, _, hx⟩ := hst1.chan; exact (Array.getElem?_eq_some_iff.1 hx).1
          clear hst he1 c0 c1 c2 c3 c4 c5 hs hlen
          go_wp2_with fail
          go_loopw [59] (fun v59 wx => ∃ (k2 : Nat) (S' : List (Int × Int)), k2 ≤ r.strips.length ∧ v59 = .int .i64 k2 ∧
              SpotsSt w wx w.heap.size (w.heap.size + 1) (r.stages * (f.pace + 1)).toNat S' (S'.drop (d + 1)) ∧ Bfs r f shut n day S' d ∧ S'[d]? = some q ∧
              (∀ i, i < k2 → ∀ p, stepOk r f shut day q i = some p → p ∈ S') ∧ wx.cell? ⟨w1.heap.size, 0, none⟩ = some (.int .i64 q.1) ∧ wx.cell? ⟨w1.heap.size, 1, none⟩ = some (.int .i64 q.2)) (fun v _ => r.strips.length - (intOf v).toNat)
          case atStart =>
            refine ⟨0, S, Nat.zero_le _, rfl, ?_, hB, ?_, fun i hi => by omega, by simp, by simp⟩
            · rw [HT.out]; exact hst1.keep ((Below.refl _ _).alloc (Nat.le_refl _) _)
            · rw [List.getElem?_eq_getElem hdl, Hq.out]
          case round =>
            have hS60 := hB.len g
            clear hst1 hB d0 d1 d2 d3 d4 d5 ds
            obtain ⟨k2, S', hk2, rfl, hst, hB, hSd, hcl, b0, b1⟩ := hrel
            have HSd := Lib.hid hSd; clear hSd
            have Hcl := Lib.hid hcl; clear hcl
            by_cases hlt : k2 < r.strips.length
            · have hW := H.below hst.below
              obtain ⟨d0, d1, d2, d3, d4, d5, ds⟩ := hW
              rcases ds with ds | ⟨sb, so, rfl, ds⟩
              · rw [ds] at hlt; simp at hlt
              obtain ⟨s0, s1, s2, s3, s4, s5, s6⟩ := ds k2 hlt
              clear ds
              have hwx := lt_of_cell b0
              have hwx' : w1.heap.size < wr.heap.size + 1 := by omega
              have hsr := hst.below.size
              generalize hs' : r.strips[k2] = s at s0 s1 s2 s3 s4 s5 s6
              have hx0 : Below wr.heap.size wr (wr.alloc (.cells #[.int .i64 s.A, .int .i64 s.B, .int .i64 s.L, .int .i64 s.W, .int .i64 s.K, .int .i64 s.X, .int .i64 s.Y] 63)) := Below.alloc (Below.refl _ _) (Nat.le_refl _) _
              go_wp2_with fail
              refine (end_any _ b r f shut _ cap (H.below (hst.below.trans (hx0.mono hsr))) k2 hlt q.1).mono ?_
              rintro e w2 ⟨rfl, hb2⟩
              rw [hs']
              generalize heo : endOf s q.1 = eo
              have Hs := Lib.hid hs'; clear hs'
              have Heo := Lib.hid heo; clear heo
              have hbx : Below wr.heap.size wr w2 := hx0.trans (hb2.mono (by simp))
              have hz2 : wr.heap.size < w2.heap.size := by have := hb2.size; simp at this; omega
              obtain ⟨hc2, _⟩ := bcell hbx
              have e0 : w2.cell? ⟨w1.heap.size, 0, none⟩ = some (.int .i64 q.1) := by rw [hc2 _ _ hwx]; exact b0
              have e1 : w2.cell? ⟨w1.heap.size, 1, none⟩ = some (.int .i64 q.2) := by rw [hc2 _ _ hwx]; exact b1
              have eL : w2.cell? ⟨wr.heap.size, 2, none⟩ = some (.int .i64 s.L) := by rw [(bcell hb2).1 _ _ (by simp)]; simp
              clear hc2 hx0 hb2 d0 d1 d2 d3 d4 d5 s0 s1 s2 s3 s4 s5 s6 b0 b1
              have hst2 := hst.keep hbx
              clear hst
              obtain ⟨f0, f1, f2, f3, f4, f5, fs⟩ := H.below hst2.below
              clear fs
              have hw12 : w1.heap.size < w2.heap.size := by omega
              have hb2' : b < w2.heap.size := by omega
              have hqm : q ∈ S' := List.mem_of_getElem? HSd.out
              obtain ⟨r1, r2, hq1, hq2⟩ := (hB.sound q hqm).range g
              have hsm : s ∈ r.strips := by rw [← Hs.out]; exact List.getElem_mem hlt
              obtain ⟨_, _, _, _, _, hL1, hL2, _⟩ := g.strip s hsm
              have hsk : r.strips[k2]? = some s := by rw [List.getElem?_eq_getElem hlt, Hs.out]
              have Hsk := Lib.hid hsk; clear hsk
              clear r1 r2
              have hSm : ∀ p ∈ S', Small p := fun p hp => by obtain ⟨x1, x2, x3, x4⟩ := (hB.sound p hp).range g; exact ⟨by omega, by omega, by omega, by omega⟩
              have HSm := Lib.hid hSm; clear hSm
              have hn8 := g.n8
              have hEo := @endOf_range r f g s hsm q.1
              rw [Heo.out] at hEo
              have HEo := Lib.hid hEo; clear hEo
              have He0 := Lib.hid e0
              have He1 := Lib.hid e1
              obtain ⟨W, hW⟩ : ∃ W : World, W = (w2.alloc (.cells #[.int .i64 eo.1, .int .i64 (q.2 + s.L)] 130)).drew := ⟨_, rfl⟩
              have hbW : Below w2.heap.size w2 W := by rw [hW]; exact (Below.alloc (Below.refl _ _) (Nat.le_refl _) _).drew
              have n0 : W.cell? ⟨w2.heap.size, 0, none⟩ = some (.int .i64 eo.1) := by rw [hW]; simp
              have n1 : W.cell? ⟨w2.heap.size, 1, none⟩ = some (.int .i64 (q.2 + s.L)) := by rw [hW]; simp
              have n4 : W.cell? ⟨b, 4, none⟩ = some (.int .i64 f.pace) := by rw [(bcell hbW).1 _ _ hb2']; exact f4
              have HW := Lib.hid hW; clear hW
              have hstW := hst2.keep hbW
              have hzW := hbW.size
              clear f0 f1 f2 f3 f5
              have hcE0 : W.cell? ⟨w1.heap.size, 0, none⟩ = some (.int .i64 q.1) := by rw [(bcell hbW).1 _ _ hw12]; exact He0.out
              have hcE1 : W.cell? ⟨w1.heap.size, 1, none⟩ = some (.int .i64 q.2) := by rw [(bcell hbW).1 _ _ hw12]; exact He1.out
              have HcE0 := Lib.hid hcE0; clear hcE0
              have HcE1 := Lib.hid hcE1; clear hcE1
              have hzn : w2.heap.size < W.heap.size := lt_of_cell n0
              by_cases hA : eo.2 = true
              · have hE1 := (HEo.out hA).1
                have hE2 := (HEo.out hA).2
                rw [hA]
                have HA := Lib.hid hA; clear hA
                go_upto_region 16 with (fail)
                clear e0 e1 eL
                by_cases hP : q.2 + s.L ≤ f.pace
                · have hlk := sp_look hstW eo.1 (q.2 + s.L) ⟨hE1, by omega, by omega, by omega⟩ HSm.out
                  by_cases hM : (eo.1, q.2 + s.L) ∈ S'
                  · rw [decide_eq_true hM] at hlk
                    have HM := Lib.hid hM; clear hM
                    refine still_tail_at HW.out 21 (by kernel_rfl) (by kernel_rfl) ?_
                    simp only [List.take_succ_cons, List.take_zero, List.drop_succ_cons, List.drop_zero]
                    repeat still_step
                    refine wpStill_nil ?_
                    go_wp2
                    exact ⟨⟨k2 + 1, S', by omega, by go_num, hstW, hB, HSd.out, next_in Hcl.out (step_in Hsk.out Heo.out HM.out), HcE0.out, HcE1.out⟩, by simp [intOf]; omega⟩
                  · rw [decide_eq_false hM] at hlk
                    have HM := Lib.hid hM; clear hM
                    refine still_tail_at HW.out 21 (by kernel_rfl) (by kernel_rfl) ?_
                    simp only [List.take_succ_cons, List.take_zero, List.drop_succ_cons, List.drop_zero]
                    repeat still_step
                    refine wpStill_nil ?_
                    go_wp2_with fail
                    refine (open_any W b r f shut _ cap (H.below hstW.below) k2 hlt day).mono ?_
                    rintro e w3 ⟨rfl, hb3⟩
                    obtain ⟨hc3, _⟩ := bcell hb3
                    have m0 : w3.cell? ⟨w2.heap.size, 0, none⟩ = some (.int .i64 eo.1) := by rw [hc3 _ _ hzn]; exact n0
                    have m1 : w3.cell? ⟨w2.heap.size, 1, none⟩ = some (.int .i64 (q.2 + s.L)) := by rw [hc3 _ _ hzn]; exact n1
                    have hst3 := hstW.keep hb3
                    have hE0 : w3.cell? ⟨w1.heap.size, 0, none⟩ = some (.int .i64 q.1) := by rw [hc3 _ _ (by omega)]; exact HcE0.out
                    have hE1' : w3.cell? ⟨w1.heap.size, 1, none⟩ = some (.int .i64 q.2) := by rw [hc3 _ _ (by omega)]; exact HcE1.out
                    have HE0 := Lib.hid hE0; clear hE0
                    have HE1 := Lib.hid hE1'; clear hE1'
                    clear hc3 n0 n1 n4 hlk hstW hb3
                    cases hop : openB r f shut k2 day
                    · go_wp2
                      exact ⟨⟨k2 + 1, S', by omega, by go_num, hst3, hB, HSd.out, next_in Hcl.out (step_shut hop), HE0.out, HE1.out⟩, by simp [intOf]; omega⟩
                    · have Hop := Lib.hid hop; clear hop
                      go_wp2_with (at_mapUpdate; refine sp_store rfl _ _ _ rfl hst3 eo.1 (q.2 + s.L) rfl rfl rfl HM.out ⟨hE1, by omega, by omega, by omega⟩ HSm.out ?_)
                      intro w4 hst4 he4
                      have m0' : w4.cell? ⟨w2.heap.size, 0, none⟩ = some (.int .i64 eo.1) := by rw [he4.cell _ _ (by omega)]; exact m0
                      have m1' : w4.cell? ⟨w2.heap.size, 1, none⟩ = some (.int .i64 (q.2 + s.L)) := by rw [he4.cell _ _ (by omega)]; exact m1
                      have hE0 : w4.cell? ⟨w1.heap.size, 0, none⟩ = some (.int .i64 q.1) := by rw [he4.cell _ _ (by omega)]; exact HE0.out
                      have hE1' : w4.cell? ⟨w1.heap.size, 1, none⟩ = some (.int .i64 q.2) := by rw [he4.cell _ _ (by omega)]; exact HE1.out
                      have HE0 := Lib.hid hE0; clear hE0
                      have HE1 := Lib.hid hE1'; clear hE1'
                      clear hst3 m0 m1
                      go_upto_region 18 with (fail)
                      refine wp_region_met 2 _ rfl rfl (fun J K' hJ hK' => ?_)
                      go_wp2_with fail
                      refine Met.intro (hJ _ _ (sp_send _ _ rfl hst4 eo.1 (q.2 + s.L) rfl rfl ?_ ?_))
                      · have h1 := (bfs_push g hB HSd.out Hsk.out Heo.out HA.out hP Hop.out HM.out).len g
                        simp only [List.length_append, List.length_cons, List.length_nil] at h1
                        simp only [List.length_drop]; omega
                      · intro w5 hst5 he5
                        clear hst4
                        go_wp2_with fail
                        exact ⟨⟨k2 + 1, S' ++ [(eo.1, q.2 + s.L)], by omega, by go_num, by rw [List.drop_append_of_le_length (by have := (List.getElem?_eq_some_iff.1 HSd.out).1; omega)]; exact hst5,
                          bfs_push g hB HSd.out Hsk.out Heo.out HA.out hP Hop.out HM.out, by rw [List.getElem?_append_left (List.getElem?_eq_some_iff.1 HSd.out).1]; exact HSd.out,
                          next_in (fun i hi p hp => List.mem_append_left _ (Hcl.out i hi p hp)) (step_in Hsk.out Heo.out (by simp)),
                          by rw [he5.cell _ _ (by omega)]; exact HE0.out, by rw [he5.cell _ _ (by omega)]; exact HE1.out⟩, by simp [intOf]; omega⟩
                · have hP' : decide (q.2 + s.L ≤ f.pace) = false := decide_eq_false hP
                  go_quiet (fail)
                  go_wp2
                  have hbq := below_drewN (Below.alloc (Below.refl w2.heap.size w2) (Nat.le_refl _) (.cells #[.int .i64 eo.1, .int .i64 (q.2 + s.L)] 130)) nq
                  exact ⟨⟨k2 + 1, S', by omega, by go_num, (hst2.keep hbq), hB, HSd.out, next_in Hcl.out (step_far Hsk.out hP), ((bcell hbq).1 _ _ hw12).trans He0.out, ((bcell hbq).1 _ _ hw12).trans He1.out⟩, by simp [intOf]; omega⟩
              · have hA' : eo.2 = false := by simpa using hA
                rw [hA']
                have HA := Lib.hid hA'; clear hA hA'
                go_upto_region 16 with (fail)
                clear e0 e1 eL
                go_quiet (fail)
                go_wp2
                have hbq := below_drewN (Below.alloc (Below.refl w2.heap.size w2) (Nat.le_refl _) (.cells #[.int .i64 eo.1, .int .i64 (q.2 + s.L)] 130)) nq
                exact ⟨⟨k2 + 1, S', by omega, by go_num, (hst2.keep hbq), hB, HSd.out, next_in Hcl.out (step_off Hsk.out Heo.out HA.out), ((bcell hbq).1 _ _ hw12).trans He0.out, ((bcell hbq).1 _ _ hw12).trans He1.out⟩, by simp [intOf]; omega⟩
            · go_wp2_with fail
              go_roundg (gk - 1)
              case measure => have := Hg.out; have := Hd.out; omega
              case rel =>
                refine ⟨S', d + 1, by have := Hg.out; have := Hd.out; omega, hst, ⟨?_, hB.nodup, hB.sound, hB.starts, ?_⟩⟩
                · have := (List.getElem?_eq_some_iff.1 HSd.out).1; omega
                · intro j p hj hp i q' hq'
                  by_cases e : j = d
                  · subst e
                    rw [HSd.out] at hp
                    obtain rfl : q = p := by simpa using hp
                    have hi : i < r.strips.length := by obtain ⟨s, hs, _⟩ := stepOk_some.1 hq'; exact (List.getElem?_eq_some_iff.1 hs).1
                    exact Hcl.out i (by omega) q' hq'
                  · exact hB.closed j p (by omega) hp i q' hq'
end Go.Proofs.YtmkjeonjhedgkaaGreatDoor
