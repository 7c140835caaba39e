import Derived.Test.YtgdobbcjkiapkaaSt26
import Derived.Test.YtgdobbcjkiapkaaSt21
import Derived.Laws.Tables
import Derived.Laws.Rows
import Derived.RangeFuncNested
import Derived.RangeFuncBound
import Derived.RangeFuncCalls
import Derived.RangeFuncLeaves
import Derived.OrdersIn
import Derived.OwnWalkIn
import Derived.TacticsInMore
import Derived.Test.YtgdobbcjkiapkaaSt01
namespace Go.Proofs.Ytgdobbcjkiapkaa
set_option maxRecDepth 100000
set_option maxHeartbeats 4000000
set_option linter.unusedSimpArgs false
set_option linter.unusedVariables false
section
open Go Go.RowKit
def DK {α : Type} (f : α → List Value) (k : Nat) (w : World) (A : Option Addr) (ys : List α) : Prop :=
 ys = [] ∨ ∃ b o, A = some ⟨b, o, none⟩ ∧ ∀ (i : Nat) (hi : i < ys.length) (j : Nat) (u : Value), j < k → (f ys[i])[j]? = some u → w.cell? ⟨b, o + (i * k + j), none⟩ = some u
section
variable {α : Type} {f : α → List Value} {e : TypeId} {k : Nat} {w : World} {B : Nat} {v : Value} {l : List α}
theorem Bg.cells (h : Bg f e k w B v l) (hf : ∀ x, (f x).length = k) : ∃ a cap, v = .slice a l.length cap ∧ l.length ≤ cap ∧ cap ≤ maxLen ∧ DK f k w a l := by
 obtain ⟨a, cap, hv, h1, h2, hn, hs⟩ := h.form hf; refine ⟨a, cap, hv, h1, h2, ?_⟩
 cases a with
 | none => exact .inl (hn rfl).1
 | some ad =>
  obtain ⟨g, rfl, _, _, hc⟩ := hs ad rfl; exact .inr ⟨g, 0, rfl, fun i hi j u hj hu => by rw [Nat.zero_add]; exact hc i hi j u hj hu⟩
theorem Ug (w : World) (B : Nat) (st ty : TypeId) {z : Value} {bytes : Nat} (hst : Try.prog.underlying st = some (.slice e)) (hinfo : (Try.prog.info? e).map (fun i => (i.zero, i.size, i.bytes)) = some (some z, k, bytes)) (hz : z.cells.size = k) (hk : 0 < k) (hby : bytes ≤ 100)
  (hown : Bg f e k w B v l) (A : Option Addr) (c : Nat) (ys : List α) (hr : DK f k w A ys) (hf : ∀ y, (f y).length = k) (h1 : ∀ y ∈ ys, ∀ u ∈ f y, u.oneCell' = true) (hlen : l.length + ys.length ≤ 1000000) (hB : B ≤ w.heap.size) :
  ∃ v' w', (Builtin.append_ #[st, st] ty #[v, .slice A ys.length c]).run Try.prog w = .ok v' w' ∧ Bg f e k w' B v' (l ++ ys) ∧ w.grownBy w' v.ownBlock ∧ (v'.ownBlock = v.ownBlock ∨ v'.ownBlock = some w.heap.size) ∧ (v ≠ .slice none 0 0 → v' ≠ .slice none 0 0) := by
 obtain ⟨i0, hi, hz0, hz1, hz2⟩ := info_parts (P := Try.prog) hinfo
 cases A with
 | none =>
  have : ys = [] := by rcases hr with h | ⟨_, _, h, _⟩; exact h; simp at h
  subst this; refine ⟨v, w, ?_, by simpa using hown, ⟨rfl, rfl, rfl, Nat.le_refl _, fun _ _ _ => rfl⟩, .inl rfl, id⟩; rcases hown.2 with ⟨rfl, h0⟩ | ⟨g, cap, cur, rfl, _, _, hc, _⟩
  ·simp [Builtin.append_, run_underlying hst, sizeOf, typeInfo, hi, Builtin.lenOf, Builtin.firstCells]
  ·simp [Builtin.append_, run_underlying hst, sizeOf, typeInfo, hi, Builtin.lenOf, Builtin.firstCells, hc, storeCells]
 | some ad =>
  obtain ⟨v', w', q1, q2, q3, q4, q5⟩ := run_append_own_at (P := Try.prog) w B st ty e i0 z k bytes hst hi hz0 hz1 hz2 hz hk v l.length _ hown ad ys.length c (ys.flatMap f) (Ed hf ys) (by
    intro j u hj; have hjl : j < ys.length * k := by rw [← Ed hf ys]; exact (List.getElem?_eq_some_iff.1 hj).1
    rcases hr with h | ⟨b, o, he, h⟩
    ·subst h; simp at hjl
    ·cases he
     have hq : j / k < ys.length := (Nat.div_lt_iff_lt_mul hk).2 hjl; have hm : j % k < k := Nat.mod_lt _ hk; have hsp : j / k * k + j % k = j := by rw [Nat.mul_comm]; exact Nat.div_add_mod j k
     have h2 := flat_get hf ys (j / k) (j % k) hq hm; rw [hsp, hj] at h2; have h3 := h (j / k) hq (j % k) u hm h2.symm; rw [hsp] at h3; have e : (⟨b, o, none⟩ : Addr).add j = ⟨b, o + j, none⟩ := by by_cases h0 : j = 0 <;> simp [Addr.add, h0]
     rw [e]; exact h3) (by
    intro u hu; obtain ⟨y, hy, hu⟩ := List.mem_flatMap.1 hu; exact h1 y hy u hu) (by unfold maxLen; omega) (by
    have : (l.length + ys.length) * bytes ≤ 1000000 * 100 := Nat.mul_le_mul hlen hby
    omega) hB
  refine ⟨v', w', q1, ?_, q3, q5, fun hv e => hv (q4.1 e).1⟩; unfold Bg; rw [List.length_append, List.flatMap_append]; exact q2
theorem U0 {o : Oper} {a : Act} {K : Value → World → Prop} (st : TypeId) {z : Value} {bytes : Nat} (s x : Operand) (hst : Try.prog.underlying st = some (.slice e)) (hinfo : (Try.prog.info? e).map (fun i => (i.zero, i.size, i.bytes)) = some (some z, k, bytes)) (hz : z.cells.size = k) (hk : 0 < k) (hby : bytes ≤ 100)
  (ho : o.op = .call { callee := .builtin .append, args := #[s, x], argTypes := #[st, st] }) (hs : a.eval s = v) (hown : Bg f e k w B v l) {A : Option Addr} {c : Nat} {ys : List α} (hx : a.eval x = .slice A ys.length c) (hr : DK f k w A ys)
  (hf : ∀ y, (f y).length = k) (h1 : ∀ y ∈ ys, ∀ u ∈ f y, u.oneCell' = true) (hlen : l.length + ys.length ≤ 1000000) (hB : B ≤ w.heap.size)
  (h : ∀ v' w', Bg f e k w' B v' (l ++ ys) → w.grownBy w' v.ownBlock → (v'.ownBlock = v.ownBlock ∨ v'.ownBlock = some w.heap.size) → (v ≠ .slice none 0 0 → v' ≠ .slice none 0 0) → K v' w') : BG Try.prog o a w K := by
 obtain ⟨v', w', q1, q2, q3, q4, q5⟩ := Ug w B st o.type hst hinfo hz hk hby hown A c ys hr hf h1 hlen hB; unfold BG execOp; simp only [ho, resolve, invoke, builtin, Sem.run_bind, Sem.run_pure, Result.andThen_ok, List.map_toArray, List.map_cons, List.map_nil, hs, hx, q1]; exact h v' w' q2 q3 q4 q5
end
section
variable {w x x' : World} {b g B : Nat} {c : Array Value} {t : TypeId} {r : Option Nat}
theorem Rw.grown (h : Rw x b c t) (hG : x.grownBy x' r) (hne : some b ≠ r) : Rw x' b c t := (hG.block b h.lt hne).trans h
theorem Bg.grown {α : Type} {f : α → List Value} {e : TypeId} {k : Nat} {v : Value} {l : List α} (h : Bg f e k x B v l) (hG : x.grownBy x' r) (hne : v.ownBlock ≠ r) : Bg f e k x' B v l := h.keep fun q hq => hG.block q (h.Ai hq).2 (by rw [← hq]; exact hne)
theorem Bg.Hw {α : Type} {f : α → List Value} {e : TypeId} {k : Nat} {v : Value} {l : List α} (h : Bg f e k x B v l) (hb : x.heap.size ≤ b) : v.ownBlock ≠ some b := fun e => by have := (h.Ai e).2; omega
end
def GU (s : Strip) : List Value := [.int .i64 s.A, .int .i64 s.B, .int .i64 s.L, .int .i64 s.W, .int .i64 s.K, .int .i64 s.X, .int .i64 s.Y]
def Ul (p : BC) : List Value := [.int .i64 p.heads, .int .i64 p.free, .bool p.half]
def NQ (x : BD) : List Value := [.int .i64 x.strip, .int .i64 x.rate, .int .i64 x.farmer]
abbrev FY := Bg GU 96 7
abbrev Jd := Bg Ul 69 3
abbrev KG := Bg NQ 57 3
theorem seven {j : Nat} (h : j < 7) : j = 0 ∨ j = 1 ∨ j = 2 ∨ j = 3 ∨ j = 4 ∨ j = 5 ∨ j = 6 := by omega
theorem three {j : Nat} (h : j < 3) : j = 0 ∨ j = 1 ∨ j = 2 := by omega
theorem GR (l : List Strip) : ∀ y ∈ l, ∀ u ∈ GU y, u.oneCell' = true := fun y _ u hu => by simp only [GU, List.mem_cons, List.not_mem_nil, or_false] at hu; rcases hu with rfl | rfl | rfl | rfl | rfl | rfl | rfl <;> rfl
theorem VX (l : List BC) : ∀ y ∈ l, ∀ u ∈ Ul y, u.oneCell' = true := fun y _ u hu => by simp only [Ul, List.mem_cons, List.not_mem_nil, or_false] at hu; rcases hu with rfl | rfl | rfl <;> rfl
theorem TN (l : List BD) : ∀ y ∈ l, ∀ u ∈ NQ y, u.oneCell' = true := fun y _ u hu => by simp only [NQ, List.mem_cons, List.not_mem_nil, or_false] at hu; rcases hu with rfl | rfl | rfl <;> rfl
theorem DK.strips {w : World} {A : Option Addr} {l : List Strip} : DK GU 7 w A l ↔ EG w A l := by
 constructor
 ·rintro (h | ⟨b, o, ha, h⟩)
  ·exact .inl h
  ·exact .inr ⟨b, o, ha, fun i hi => ⟨h i hi 0 _ (by omega) rfl, (h i hi 1 _ (by omega) rfl :), (h i hi 2 _ (by omega) rfl :), (h i hi 3 _ (by omega) rfl :), (h i hi 4 _ (by omega) rfl :), (h i hi 5 _ (by omega) rfl :), (h i hi 6 _ (by omega) rfl :)⟩⟩
 ·rintro (h | ⟨b, o, ha, h⟩)
  ·exact .inl h
  ·refine .inr ⟨b, o, ha, fun i hi j u hj hu => ?_⟩; obtain ⟨c0, c1, c2, c3, c4, c5, c6⟩ := h i hi; rcases seven hj with rfl | rfl | rfl | rfl | rfl | rfl | rfl <;> (simp only [GU, List.getElem?_cons_zero, List.getElem?_cons_succ, Option.some.injEq] at hu; subst hu; assumption)
theorem DK.tri {α : Type} {f : α → List Value} {g : α → Value × Value × Value} (hfg : ∀ x, f x = [(g x).1, (g x).2.1, (g x).2.2]) {w : World} {A : Option Addr} {l : List α} : DK f 3 w A l ↔ Pq g w A l := by
 constructor
 ·rintro (h | ⟨b, o, ha, h⟩)
  ·exact .inl h
  ·exact .inr ⟨b, o, ha, fun i hi => ⟨h i hi 0 _ (by omega) (by rw [hfg]; rfl), (h i hi 1 _ (by omega) (by rw [hfg]; rfl) :), (h i hi 2 _ (by omega) (by rw [hfg]; rfl) :)⟩⟩
 ·rintro (h | ⟨b, o, ha, h⟩)
  ·exact .inl h
  ·refine .inr ⟨b, o, ha, fun i hi j u hj hu => ?_⟩; obtain ⟨c0, c1, c2⟩ := h i hi; rw [hfg] at hu; rcases three hj with rfl | rfl | rfl <;> (simp only [List.getElem?_cons_zero, List.getElem?_cons_succ, Option.some.injEq] at hu; subst hu; assumption)
theorem DK.Ac {w : World} {A : Option Addr} {l : List BC} : DK Ul 3 w A l ↔ TD w A l := DK.tri (f := Ul) (g := Zb) fun _ => rfl
theorem DK.Ag {w : World} {A : Option Addr} {l : List BD} : DK NQ 3 w A l ↔ Xw w A l := DK.tri (f := NQ) (g := PN) fun _ => rfl
structure D9 (w : World) (B : Nat) (t : Ad) (s : Ee) : Prop where
 os : FY w B (.slice s.sa t.roads.strips.length s.sc) t.roads.strips
 op : Jd w B (.slice s.pa t.Ac.length s.pc) t.Ac
 ot : KG w B (.slice s.ta t.Ag.length s.tc) t.Ag
theorem D9.tar {w : World} {B : Nat} {t : Ad} {s : Ee} (h : D9 w B t s) : CU w t s := by
 obtain ⟨a1, c1, e1, l1, m1, x1⟩ := h.os.cells (fun _ => rfl); obtain ⟨a2, c2, e2, l2, m2, x2⟩ := h.op.cells (fun _ => rfl); obtain ⟨a3, c3, e3, l3, m3, x3⟩ := h.ot.cells (fun _ => rfl); simp only [Value.slice.injEq, true_and] at e1 e2 e3; obtain ⟨rfl, rfl⟩ := e1; obtain ⟨rfl, rfl⟩ := e2; obtain ⟨rfl, rfl⟩ := e3; exact ⟨DK.strips.1 x1, DK.Ac.1 x2, DK.Ag.1 x3, Nat.le_trans l1 m1, Nat.le_trans l2 m2, Nat.le_trans l3 m3, l2, l3⟩
theorem D9.below {w w' : World} {B : Nat} {t : Ad} {s : Ee} (h : D9 w B t s) (hb : Below w.heap.size w w') : D9 w' B t s := ⟨h.os.below hb, h.op.below hb, h.ot.below hb⟩
theorem D9.ext {w w' : World} {B m : Nat} {t : Ad} {s : Ee} (h : D9 w B t s) (hE : Ext m w w') (hm : m < B) : D9 w' B t s := ⟨h.os.ext hE hm, h.op.ext hE hm, h.ot.ext hE hm⟩
theorem D9.lower {w : World} {B B' : Nat} {t : Ad} {s : Ee} (h : D9 w B t s) (hB : B' ≤ B) : D9 w B' t s := ⟨h.os.lower hB, h.op.lower hB, h.ot.lower hB⟩
theorem D9.make {w : World} {B : Nat} {r : DX} {p : Int} {ps : List BC} {ts : List BD} {v1 v2 v3 : Value} (h1 : FY w B v1 r.strips) (h2 : Jd w B v2 ps) (h3 : KG w B v3 ts) : ∃ s, D9 w B ⟨r, p, ps, ts⟩ s ∧ .agg #[.int .i64 r.days, .int .i64 r.stages, v1, .int .i64 p, v2, v3] = Value.agg (EI ⟨r, p, ps, ts⟩ s) := by
 obtain ⟨a1, c1, e1, _⟩ := h1.cells (fun _ => rfl); obtain ⟨a2, c2, e2, _⟩ := h2.cells (fun _ => rfl); obtain ⟨a3, c3, e3, _⟩ := h3.cells (fun _ => rfl); subst e1 e2 e3; exact ⟨⟨a1, c1, a2, c2, a3, c3⟩, ⟨h1, h2, h3⟩, rfl⟩
end
section
open Go Go.RowKit
section
variable {P : Program} {ops : Array Oper} {Q : Exit → Act → World → Prop} {i : Nat} {rest : List Nat} {o : Oper} {a : Act} {n d : Nat} {m : List (Nat × Value)} {v : Value} {w w' : World} {b : Nat} {c c' : Array Value} {t ty : TypeId}
theorem FB {x : Operand} {td : TypeDesc} (ho : o.op = .load ty x) (hx : a.eval x = .pointer (some ⟨b, 0, none⟩)) (hu : P.underlying ty = some td) (hd : (match td with | .struct _ | .array _ _ => true | _ => false) = true) (hi : (P.info? ty).map (·.size) = some c.size) (K : Rw w b c t) : (execOp a.eval o).run P w = .ok (.value (.agg c)) w := by
 have h := run_loadVar_row (P := P) w b t ty c (0, 0) td K hu hd hi; unfold execOp; simp only [ho, hx, Instr.loadAt, Instr.sureAddr, Sem.run_bind, Sem.run_pure, Result.andThen_ok, h]
theorem GY {x y : Operand} (ho : o.op = .store ty x y) (hx : a.eval x = .pointer (some ⟨b, 0, none⟩)) (hy : a.eval y = .agg c') (hi : (P.info? ty).map (·.size) = some c'.size) (K : Rw w b c t) (hs : c.size = c'.size) (h1 : c'.toList.all (·.oneCell') = true) : (execOp a.eval o).run P w = .ok .skip (w.setRow b c') := by
 have h := run_storeVar_row (P := P) w b t ty c c' K hi hs (by rw [← Array.all_toList]; exact h1); unfold execOp; simp only [ho, hx, hy, Instr.storeAt, Instr.sureAddr, Sem.run_bind, Sem.run_pure, Result.andThen_ok, h]
theorem Bh {x : Operand} {q : Nat} {td : TypeDesc} (ho : o.op = .load ty x) (hx : a.eval x = .pointer (some ⟨b, q, none⟩)) (hu : P.underlying ty = some td) (hd : (match td with | .struct _ | .array _ _ => true | _ => false) = false) (hc : w.cell? ⟨b, q, none⟩ = some v) : (execOp a.eval o).run P w = .ok (.value v) w := by
 have h : (isAgg ty).run P w = .ok false w := by cases td <;> simp_all [isAgg, run_underlying hu]
 unfold execOp; simp only [ho, hx, Instr.loadAt, Instr.sureAddr, loadVar, Sem.run_bind, Sem.run_pure, Result.andThen_ok, h]; simp [hc]
theorem DV {x y : Operand} {q : Nat} {u : Value} (ho : o.op = .store ty x y) (hx : a.eval x = .pointer (some ⟨b, q, none⟩)) (hy : a.eval y = v) (hi : (P.info? ty).map (·.size) = some 1) (hs : v.cells = #[v]) (h1 : v.oneCell' = true) (hc : w.cell? ⟨b, q, none⟩ = some u) (hf : w.frozen? ⟨b, q, none⟩ = false) : (execOp a.eval o).run P w = .ok .skip (w.setCell ⟨b, q, none⟩ v) := by
 have hst := Go.run_store P w ⟨b, q, none⟩ v .plain h1; rw [hc] at hst; simp only [hf] at hst; have e0 : (⟨b, q, none⟩ : Addr).add 0 = ⟨b, q, none⟩ := by simp [Addr.add]
 cases hq : P.info? ty with
 | none => simp [hq] at hi
 | some i =>
  have hsz : i.size = 1 := by simpa [hq] using hi
  unfold execOp; simp only [ho, hx, hy, Instr.storeAt, Instr.sureAddr, Sem.run_bind, Sem.run_pure, Result.andThen_ok]; simp [storeVar, sizeOf, typeInfo, hq, hsz, hs, storeCells, e0, hst]
theorem Sl.rv (h : Sl a n m) (ho : ops[i]? = some o) (hg : o.guard = none) (hd : o.dst = some d) (hn : d < n) (hr : (execOp a.eval o).run P w = .ok (.value v) w') (hG : ∀ a', Sl a' n ((d, v) :: m) → wpOps P ops Q rest a' w') : wpOps P ops Q (i :: rest) a w := by
 refine BB ho hg (fun K hK => ?_); unfold Oper.wp; rw [hr, Oper.upon_value, hd]; exact h.k hK hn hG
theorem Sl.rs (_h : Sl a n m) (ho : ops[i]? = some o) (hg : o.guard = none) (hd : o.dst = none) (hr : (execOp a.eval o).run P w = .ok .skip w') (hG : wpOps P ops Q rest a w') : wpOps P ops Q (i :: rest) a w := by
 refine BB ho hg (fun K hK => ?_); unfold Oper.wp; rw [hr, Oper.upon_skip, hd]; exact hK _ _ hG
theorem DD {K : Value → Prop} (hr : (execOp a.eval o).run P w = .ok (.value v) w) (hK : K v) : CX P o a w K := by unfold CX; rw [hr]; exact ⟨rfl, hK⟩
theorem Fq {C : World → Prop} {K : Value → Prop} (hr : (execOp a.eval o).run P w = .ok (.value v) w) (hK : K v) : Oper.Gn P o a C w K := by unfold Oper.Gn; rw [hr]; exact ⟨rfl, hK⟩
theorem Oe {K : Value → World → Prop} (hr : (execOp a.eval o).run P w = .ok .skip w') (hK : K undef w') : BG P o a w K := by unfold BG; rw [hr]; exact hK
theorem Rw.setRow (K : Rw w b c t) (c' : Array Value) : Rw (w.setRow b c') b c' t := setRow_heap w b c c' t (0, 0) K
theorem Ci (K : Rw w b c t) (c' : Array Value) : w.grownBy (w.setRow b c') (some b) := by
 refine ⟨rfl, rfl, rfl, by simp [World.setRow], fun k hk hne => ?_⟩; unfold World.setRow; simp only [Array.getElem?_modify]; rw [if_neg (fun e => hne (by rw [e]))]
end
section
variable {w x x' : World} {b g B : Nat} {c : Array Value} {t : TypeId}
theorem Bg.Wi {α : Type} {f : α → List Value} {e : TypeId} {k : Nat} {v : Value} {l : List α} (h : Bg f e k x B v l) (hg : g < B) : v.ownBlock ≠ some g := fun e => by have := (h.Ai e).1; omega
theorem Bg.XB {α : Type} {f : α → List Value} {e : TypeId} {k : Nat} {v : Value} {l : List α} (h : Bg f e k x B v l) (hne : v.ownBlock ≠ some g) (o : Nat) (u : Value) : Bg f e k (x.setCell ⟨g, o, none⟩ u) B v l := h.keep fun q hq => Below.heap_setCell _ ⟨g, o, none⟩ _ q (by intro e; apply hne; rw [hq, e])
theorem Bg.AaE {α : Type} {f : α → List Value} {e : TypeId} {k C : Nat} {v : Value} {l : List α} (h : Bg f e k x B v l) (hu : SB C v) (hg : g < B ∨ C ≤ g) : v.ownBlock ≠ some g := fun e => by have := (h.Ai e).1; have := hu g e; omega
theorem Bg.Aar {α : Type} {f : α → List Value} {e : TypeId} {k C : Nat} {v : Value} {l : List α} (h : Bg f e k x B v l) (hu : SB C v) (hg : g < B ∨ C ≤ g) (o : Nat) (u : Value) : Bg f e k (x.setCell ⟨g, o, none⟩ u) B v l := h.XB (h.AaE hu hg) o u
theorem AP.grown {hb n ca D : Nat} {a : Option Addr} (h : AP x hb D a n ca) (hG : x.grownBy x' (some g)) (hlt : hb < g) : AP x' hb D a n ca := h.keep fun k hk hle => hG.block k hk (by simp; omega)
theorem Ext.grown {m : Nat} (h : Ext m w x) (hG : x.grownBy x' (some g)) (hw : w.heap.size ≤ g) : Ext m w x' :=
 ⟨hG.os.trans h.os, hG.tape.trans h.tape, hG.output.trans h.output, Nat.le_trans h.size hG.size, fun k hk hne => (hG.block k (Nat.lt_of_lt_of_le hk h.size) (by simp; omega)).trans (h.block k hk hne)⟩
theorem Vd (h : Below w.heap.size w x) (hG : x.grownBy x' (some g)) (hw : w.heap.size ≤ g) : Below w.heap.size w x' := h.grown hG h.size fun k hk => by cases hk; exact hw
end
end
section
open Go.RowKit
end
section
open Go.RowKit
def FW (r : Option Nat) : Fence := { Fence.wide with round := r }
def JB (o : Oper) : Bool := match o.op with
 | .defer _ => false
 | _ => true
section
variable {P : Program} {r : Option Nat} {n : Nat}
theorem O3 {o : Oper} {a : Act} {w : World} {K : Act → World → Prop} {Q : Exit → Act → World → Prop} (hd : JB o = true) (h : o.wp P a w K Q) : o.wpIn (FW r) n P a w K Q := by
 have hd' : ∀ c, o.op ≠ .defer c := fun c e => by simp [JB, e] at hd
 unfold Oper.wp at h; refine ⟨fun _ _ => trivial, ?_⟩; rw [Oper.semAt_eq _ _ _ hd']; generalize (execOp a.eval o).run P w = x at h
 cases x with
 | ok x w' =>
  cases x with
  | value v => exact h
  | skip => exact h
  | defer d => exact h
  | enter f args => exact ⟨fun h => by simp [FW, Fence.wide] at h, callsIn_wide.2 h⟩
  | row row args => exact ⟨fun h => by simp [FW, Fence.wide] at h, fun c cs _ => let ⟨v, w', q, s⟩ := h c cs; ⟨v, w', q, stepsIn_wide.2 s⟩⟩
  | round _ _ _ _ _ => exact h.elim
  | _ => exact h
 | halt x w' => cases x <;> exact h
variable {ops : Array Oper} {Q : Exit → Act → World → Prop} {i : Nat} {rest : List Nat} {o : Oper} {a : Act} {w : World} {m : List (Nat × Value)} {d : Nat} {v : Value} {N : Nat}
theorem Bf (ho : ops[i]? = some o) (hg : o.guard = none) (hd : JB o = true)
  (h : ∀ K : Act → World → Prop, (∀ a w, wpOpsIn (FW r) n P ops Q rest a w → K a w) → o.wp P a w K Q) : wpOpsIn (FW r) n P ops Q (i :: rest) a w := by
 rw [wpOpsIn, ho]; simp only [Region.wanted, hg, if_true]; exact O3 hd (h _ fun _ _ h => h)
theorem D5 (h : Q .normal a w) : wpOpsIn (FW r) n P ops Q [] a w := h
theorem BF {k : Nat} {b : Bool} {ok : Oper} {t : Nat} (ho : ops[i]? = some o) (hg : o.guard = some (k, b)) (hd : JB o = true) (hk : ops[k]? = some ok) (ht : ok.dst = some t) (hv : a.tmps[t]? = some (.bool b))
  (h : ∀ K : Act → World → Prop, (∀ a w, wpOpsIn (FW r) n P ops Q rest a w → K a w) → o.wp P a w K Q) : wpOpsIn (FW r) n P ops Q (i :: rest) a w := by
 rw [wpOpsIn, ho]; simp only [Region.wanted, hg, yielded, hk, Option.bind_some, ht, hv, beq_self_eq_true, if_true]; exact O3 hd (h _ fun _ _ h => h)
theorem Cj {k : Nat} {b c : Bool} {ok : Oper} {t : Nat} (ho : ops[i]? = some o) (hg : o.guard = some (k, b)) (hk : ops[k]? = some ok) (ht : ok.dst = some t) (hv : a.tmps[t]? = some (.bool c)) (hc : c ≠ b)
  (h : wpOpsIn (FW r) n P ops Q rest (a.put o.dst undef) w) : wpOpsIn (FW r) n P ops Q (i :: rest) a w := by
 rw [wpOpsIn, ho]; have hb : (some c == some b) = false := by simpa using hc
 simp only [Region.wanted, hg, yielded, hk, Option.bind_some, ht, hv, hb, Bool.false_eq_true, if_false]; exact ⟨fun _ _ => trivial, h⟩
theorem Sl.kI (h : Sl a N m) {K : Act → World → Prop} (hK : ∀ a w, wpOpsIn (FW r) n P ops Q rest a w → K a w) (hd : d < N) (hG : ∀ a', Sl a' N ((d, v) :: m) → wpOpsIn (FW r) n P ops Q rest a' w) : K (a.put (some d) v) w := hK _ _ (hG _ (h.put d v hd))
theorem Uh {l : Nat} {f : FuncId} {tmps : Array Value} {assign body : Code} {R : Ending → World → Prop} (h : RoundIn Fence.wide 0 P l f tmps assign body w R) : RoundIn (FW r) n P l f tmps assign body w R :=
 ⟨trivial, fun c cs _ => h.2 c cs (room_wide _)⟩
theorem TF {k : Nat} {l : Nat} {args : Array Value} {R : Ending → World → Prop} (h : YieldAt Fence.wide k P l args w R) : YieldAt Fence.wide 0 P l args w R := by
 obtain ⟨fn, tmps, assign, body, h1, h2⟩ := h; exact ⟨fn, tmps, assign, body, h1, trivial, fun c cs _ => h2.2 c cs (room_wide _)⟩
theorem NY {K : Act → World → Prop} {s t : Nat} {ats : Array TypeId} {l : Nat} {x : Value} {R : Ending → World → Prop} (hop : o.op = .call { callee := .value (.tmp s), args := #[.tmp t], argTypes := ats }) (Es : a.tmps[s]? = some (.func (.yield l) #[] #[])) (Et : a.tmps[t]? = some x)
  (hy : YieldAt Fence.wide 0 P l #[x] w R) (h : ∀ e w', R e w' → ∃ u, e = .returned u ∧ K (a.put o.dst u) w') : o.wpIn (FW r) n P a w K Q := by
 have ev : ∀ {t : Nat} {v : Value}, a.tmps[t]? = some v → a.eval (.tmp t) = v := fun h => by simp [Act.eval, Array.getD_eq_getD_getElem?, h]
 obtain ⟨fn, tmps, assign, body, h1, h2⟩ := hy; refine ⟨fun _ _ => trivial, ?_⟩; rw [Oper.semAt_eq _ _ _ (fun c e => by rw [hop] at e; simp at e)]
 have hrun : (execOp a.eval o).run P w = .ok (.round l fn tmps assign body) w := by
  unfold execOp; simp only [hop, resolve, invoke, ev Es, Sem.run_bind, Sem.run_pure, Result.andThen_ok, List.map_toArray, List.map_cons, List.map_nil, ev Et]
  simpa [go_sem] using h1
 rw [hrun]; refine ⟨fun h => by simp [FW, Fence.wide] at h, (Uh h2).mono fun e w' hR => ?_⟩; obtain ⟨u, rfl, hk⟩ := h e w' hR; exact hk
theorem L6 {k : Nat} {b : Bool} {ok : Oper} {tt : Nat} {s t : Nat} {ats : Array TypeId} {l : Nat} {x : Value} {R : Ending → World → Prop} (ho : ops[i]? = some o) (hg : o.guard = some (k, b)) (hk : ops[k]? = some ok) (ht : ok.dst = some tt) (hv : a.tmps[tt]? = some (.bool b)) (hop : o.op = .call { callee := .value (.tmp s), args := #[.tmp t], argTypes := ats }) (Es : a.tmps[s]? = some (.func (.yield l) #[] #[])) (Et : a.tmps[t]? = some x)
  (hy : YieldAt Fence.wide 0 P l #[x] w R) (h : ∀ e w', R e w' → ∃ u, e = .returned u ∧ wpOpsIn (FW r) n P ops Q rest (a.put o.dst u) w') : wpOpsIn (FW r) n P ops Q (i :: rest) a w := by
 rw [wpOpsIn, ho]; simp only [Region.wanted, hg, yielded, hk, Option.bind_some, ht, hv, beq_self_eq_true, if_true]; exact NY hop Es Et hy h
theorem NP (Inv : (Nat → Bool) → Act → World → Prop)
  (hs : ∀ L a w i o, ops[i]? = some o → Inv L a w → L i = false → A8 o L = true → wpOpIn (FW r) n P ops Q i (fun a' w' => Inv (Bd L i true) a' w') a w)
  (he : ∀ listed a w, listed.size = ops.size → Inv (BK listed) a w → Region.ready .any ops listed = [] → Q .normal a w) : ∀ (k : Nat) (listed : Array Bool) (a : Act) (w : World), listed.size = ops.size → Me ops.size listed ≤ k → Inv (BK listed) a w → wpAnyIn (FW r) n P .any ops Q k listed a w
 | 0, listed, a, w, hsz, hn, hI => by
  have h0 := Gm (ops := ops) (listed := listed) (by omega); exact ⟨h0, he listed a w hsz hI h0⟩
 | k + 1, listed, a, w, hsz, hn, hI => by
  refine ⟨fun h0 => he listed a w hsz hI h0, fun i hi => ?_⟩; obtain ⟨o, ho, hlt, h1, h2⟩ := mem_ready hsz hi; refine wpOpIn_mono ?_ (hs _ a w i o ho hI h1 h2); intro a' w' hI'; have hle := Io hsz hi; exact NP Inv hs he k _ a' w' (by simpa using hsz) (by omega) (by rw [Iu (by omega)]; exact hI')
theorem Nk {id : Nat} (hm : P.follows .mixedOrders = true) (Inv : (Nat → Bool) → Act → World → Prop)
  (h0 : Inv (fun _ => false) a w.drew)
  (hs : ∀ L a w i o, ops[i]? = some o → Inv L a w → L i = false → A8 o L = true → wpOpIn (FW r) n P ops Q i (fun a' w' => Inv (Bd L i true) a' w') a w)
  (he : ∀ L a w, (∀ i o, ops[i]? = some o → A8 o L = true → L i = true) → Inv L a w → Q .normal a w) : (Code.region id ops true).wpIn (FW r) n P Q a w := by
 refine wpIn_region_any hm (NP Inv hs ?_ ops.size _ a _ (by simp) (by rw [FD]; exact Nat.le_refl _) ?_)
 ·intro listed a w hsz hI hr; refine he _ a w (fun i o ho hre => ?_) hI; have hlt := (Array.getElem?_eq_some_iff.1 ho).1
  cases hl : BK listed i
  ·exfalso
   have hm : i ∈ Region.ready .any ops listed := by
    unfold Region.ready; rw [List.mem_filter, List.mem_range, Bool.and_eq_true]; refine ⟨hlt, ?_, ?_⟩
    ·have e : listed.getD i true = listed.getD i false := by simp [Array.getD_eq_getD_getElem?, hsz, hlt]
     rw [e]; unfold BK at hl; rw [hl]; rfl
    ·rw [ho]; simpa [A8, BK] using hre
   rw [hr] at hm; simp at hm
  ·rfl
 ·have e : BK (Array.replicate ops.size false) = fun _ => false := by
   funext k
   unfold BK
   by_cases h : k < ops.size <;> simp [Array.getD_eq_getD_getElem?, h]
  rw [e]; exact h0
theorem EQ {K : Act → World → Prop} (ho : ops[i]? = some o) (hg : o.guard = none) (hd : JB o = true) (h : ∀ K' : Act → World → Prop, (∀ a w, K a w → K' a w) → o.wp P a w K' Q) : wpOpIn (FW r) n P ops Q i K a w := by
 unfold wpOpIn; rw [ho]; simp only [Region.wanted, hg, if_true]; exact O3 hd (h _ fun _ _ h => h)
theorem QT {K : Act → World → Prop} {s t : Nat} {ats : Array TypeId} {l : Nat} {x : Value} {R : Ending → World → Prop} (ho : ops[i]? = some o) (hg : o.guard = none) (hop : o.op = .call { callee := .value (.tmp s), args := #[.tmp t], argTypes := ats }) (Es : a.tmps[s]? = some (.func (.yield l) #[] #[])) (Et : a.tmps[t]? = some x)
  (hy : YieldAt Fence.wide 0 P l #[x] w R) (h : ∀ e w', R e w' → ∃ u, e = .returned u ∧ K (a.put o.dst u) w') : wpOpIn (FW r) n P ops Q i K a w := by
 unfold wpOpIn; rw [ho]; simp only [Region.wanted, hg, if_true]; exact NY hop Es Et hy h
theorem OB {id : Nat} (hm : P.follows .mixedOrders = true) (Z : Sl a N m) (ds : List (Option Nat)) (hds : ops.toList.map Oper.dst = ds) (hok : okD N (m.map Prod.fst) ds = true) (hdag : dag ops = true)
  (V : Nat → Value → World → Prop) (I : (Nat → Bool) → World → Prop) (hI : I (fun _ => false) w.drew)
  (hk : ∀ (k : Nat) (o : Oper), k < ops.size → ops[k]? = some o → ∀ L a w, I L w → L k = false → Sl a N m → Fa ops V L a w → (∀ d ∈ waits o, L d = true) → wpOpIn (FW r) n P ops Q k (fun a' w' => ∃ v, a' = a.put o.dst v ∧ V k v w' ∧ I (Bd L k true) w' ∧ ∀ j u, V j u w → V j u w') a w)
  (he : ∀ L a w, (∀ k, k < ops.size → L k = true) → I L w → Sl a N m → Fa ops V L a w → Q .normal a w) : (Code.region id ops true).wpIn (FW r) n P Q a w := by
 have hd : ∀ (j : Nat) (o : Oper), ops[j]? = some o → ds[j]? = some o.dst := fun j o h => by
  subst hds; rw [List.getElem?_map, Array.getElem?_toList, h]; rfl
 refine Nk hm (fun L a' w' => I L w' ∧ Sl a' N m ∧ Fa ops V L a' w') ⟨hI, Z, fun j o d _ _ h => by simp at h⟩ ?_ ?_
 ·rintro L a' w' i o ho ⟨h1, h2, h3⟩ hli hri; have hi := (Array.getElem?_eq_some_iff.1 ho).1; refine wpOpIn_mono ?_ (hk i o hi ho L a' w' h1 hli h2 h3 (CJ hri)); rintro a2 w2 ⟨v, rfl, hv, hI2, hmono⟩; refine ⟨hI2, ?_, ?_⟩
  ·cases e : o.dst with
   | none => exact h2
   | some d =>
    have hdd := hd i o ho; rw [e] at hdd; obtain ⟨hlt, hnm⟩ := FV hok hdd; have hp := h2.put d v hlt; refine ⟨hp.size, hp.defers, fun t u hu => hp.get t u ?_⟩; rw [List.lookup_cons]
    have e2 : (t == d) = false := by
     have : t ≠ d := by rintro rfl; exact hnm (EN hu)
     simpa using this
    rw [e2]; exact hu
  ·intro j o' d hj hjd hLj; have hdj := hd j o' hj; rw [hjd] at hdj
   cases e : o.dst with
   | none =>
    have hne : j ≠ i := by
     rintro rfl; rw [ho] at hj; obtain rfl := Option.some.inj hj; rw [e] at hjd; simp at hjd
    rw [Aq _ _ hne] at hLj; obtain ⟨u, hu, hvu⟩ := h3 j o' d hj hjd hLj; exact ⟨u, hu, hmono _ _ hvu⟩
   | some x =>
    have hdi := hd i o ho; rw [e] at hdi
    by_cases c : j = i
    ·subst c; rw [hdj] at hdi; obtain rfl : d = x := by simpa using hdi
     obtain ⟨hlt, _⟩ := FV hok hdj; exact ⟨v, by simp [Act.put, h2.size, hlt], hv⟩
    ·rw [Aq _ _ c] at hLj; obtain ⟨u, hu, hvu⟩ := h3 j o' d hj hjd hLj
     have hxd : x ≠ d := by
      rintro rfl; exact c (KZ hok hdj hdi)
     refine ⟨u, ?_, hmono _ _ hvu⟩; simp only [Act.put]; rw [Array.getElem?_setIfInBounds_ne hxd]; exact hu
 ·rintro L a' w' hall ⟨h1, h2, h3⟩; exact he L a' w' (Gg hdag hall) h1 h2 h3
end
def CE (B : Nat) (w w' : World) : Prop := w.heap.size ≤ w'.heap.size ∧ ∀ k, B ≤ k → k < w.heap.size → w'.heap[k]? = w.heap[k]?
theorem CE.refl (B : Nat) (w : World) : CE B w w := ⟨Nat.le_refl _, fun _ _ _ => rfl⟩
theorem CE.trans {B : Nat} {w w1 w2 : World} (h1 : CE B w w1) (h2 : CE B w1 w2) : CE B w w2 := ⟨Nat.le_trans h1.1 h2.1, fun k hk hl => (h2.2 k hk (Nat.lt_of_lt_of_le hl h1.1)).trans (h1.2 k hk hl)⟩
theorem CE.mono {B B' : Nat} {w w' : World} (h : CE B w w') (hB : B ≤ B') : CE B' w w' := ⟨h.1, fun k hk hl => h.2 k (Nat.le_trans hB hk) hl⟩
theorem Below.Wu {w w' : World} (h : Below w.heap.size w w') (B : Nat) : CE B w w' := ⟨h.size, fun k _ hl => h.block k hl⟩
section
variable {α : Type} (own : α → Option Nat)
def MV (pre : List α) (k : Nat) : Prop := ∃ x ∈ pre, own x = some k
def YM (P : Program) (gf : FuncId) (cap : Array Value) (enc : α → Value) (Given : Nat → World → α → Prop) (Env : World → Prop) (Done : List α → Prop) : Prop :=
 ∀ (l : Nat) (J : List α → World → Prop) (W : World),
  (∀ pre V, J pre V → Env V) →
  (∀ pre V V', J pre V → Below W.heap.size V V' → (∀ k, MV own pre k → V'.heap[k]? = V.heap[k]?) → J pre V') →
  (∀ pre V, J pre V → W.heap.size ≤ V.heap.size ∧ ∀ k, MV own pre k → k < V.heap.size) →
  (∀ pre x V, J pre V → Given W.heap.size V x → YieldAt Fence.wide 0 P l #[enc x] V fun e V' => e = .returned (.bool true) ∧ J (pre ++ [x]) V' ∧ CE W.heap.size V V') →
  J [] W → Calls P gf (#[.func (.yield l) #[] #[]] ++ cap) W fun e W' => (∃ v, e = .returned v) ∧ ∃ pre, Done pre ∧ J pre W'
theorem CY {w V : World} {B : Nat} (h : Below B w V) {l : Nat} (o : Obj) (hl : B ≤ l) : Below B w (V.putObj l o) :=
 h.trans ⟨rfl, rfl, rfl, by simp, fun _ hk => World.putObj_heap_other (by omega)⟩
variable {own}
theorem KH {P : Program} {g : Operand} {p : Nat} {assign body : Code} {Q : Exit → Act → World → Prop} {a : Act} {w : World} {gf : FuncId} {cap : Array Value} {enc : α → Value} {Given : Nat → World → α → Prop} {Env : World → Prop} {Done : List α → Prop} (hit : YM own P gf cap enc Given Env Done)
  (hg : a.eval g = .func (.func gf) #[] cap) (hinv : ∀ (l : Nat) (W : World), (invoke (.fn (.func gf) cap) #[.func (.yield l) #[] #[]]).run P W = .ok (.enter gf (#[.func (.yield l) #[] #[]] ++ cap)) W)
  (I : List α → World → Prop) (hEnv : ∀ pre V, I pre V → Env V)
  (hIk : ∀ pre V V', I pre V → Below w.heap.size V V' → (∀ k, MV own pre k → V'.heap[k]? = V.heap[k]?) → I pre V')
  (hIo : ∀ pre V, I pre V → w.heap.size ≤ V.heap.size ∧ ∀ k, MV own pre k → ∃ c t f, V.heap[k]? = some (.cells c t f))
  (hGo : ∀ B V x k, Given B V x → own x = some k → k < V.heap.size)
  (h0 : ∀ W, Below w.heap.size w W → I [] W)
  (hround : ∀ (l : Nat) pre x V rr, w.heap.size ≤ l → l < w.heap.size + 2 → I pre V → V.heap[l]? = some (.loop rr) → Given (w.heap.size + 2) V x →
   assign.wpIn (FW (some l)) 3 P (Exit.then (fun a' V' => CE w.heap.size V V' ∧ ∀ o, body.wpIn (FW (some l)) 3 P (fun e _ V'' => e = .normal ∧ CE w.heap.size (V'.putObj l o) V'' ∧ I (pre ++ [x]) V'') a' (V'.putObj l o)) (fun _ _ _ => False)) { tmps := a.tmps.setIfInBounds p (enc x), defers := [] } V)
  (hdone : ∀ (D : Nat) pre (W : World), Done pre → I pre W → w.heap.size ≤ D → W.heap[D]? = some (.deferred (some [])) → Q .normal { a with defers := { target := .collected D, args := #[] } :: a.defers } W) :
  (Code.rangeFunc g #[p] assign body).wp P Q a w := by
 refine (wpIn_wide (n := 5)).1 (wpIn_rangeFunc ?_); intro fn hfn; obtain ⟨rec, hrec⟩ : ∃ rec : LoopState → Option Code → Loop, rec = fun st pe => { state := st, pending := pe, fn, tmps := a.tmps, params := #[p], assign, body, defers := w.heap.size } := ⟨_, rfl⟩
 obtain ⟨W1, hW1⟩ : ∃ W1, (w.alloc (.deferred (some []))).alloc (.loop (rec .ready none)) = W1 := ⟨_, rfl⟩
 have hL1 : W1.heap[w.heap.size + 1]? = some (.loop (rec .ready none)) := by
  rw [← hW1]; have := World.alloc_heap_new (w.alloc (.deferred (some []))) (.loop (rec .ready none)); rwa [World.size_alloc] at this
 have hK1 : W1.heap[w.heap.size]? = some (.deferred (some [])) := by
  rw [← hW1]; exact (Below.heap_alloc _ _ _ (by simp)).trans (World.alloc_heap_new w _)
 have hb1 : Below w.heap.size w W1 := by
  rw [← hW1]; exact ((Below.refl _ w).alloc (Nat.le_refl _) _).alloc (by simp) _
 have hz1 : W1.heap.size = w.heap.size + 2 := by rw [← hW1]; simp
 refine ⟨w.heap.size + 1, [{ target := .collected w.heap.size, args := #[] }], W1, { target := .fn (.func gf) cap, args := #[.func (.yield (w.heap.size + 1)) #[] #[]] }, W1, gf,
  #[.func (.yield (w.heap.size + 1)) #[] #[]] ++ cap, W1, ?_, ?_, ?_, hinv _ _, fun _ => by omega, ?_⟩
 ·rw [← hW1, hrec]; exact run_enterLoop_outer _ _ _ _ _
 ·simp only [resolve, hg]; simp [go_sem]
 ·intro f' hf'; trivial
 ·refine callsIn_wide.2 ((hit (w.heap.size + 1) (fun pre V => I pre V ∧ V.heap[w.heap.size + 1]? = some (.loop (rec .ready none)) ∧ V.heap[w.heap.size]? = some (.deferred (some []))) W1
   (fun pre V h => hEnv pre V h.1) ?_ ?_ ?_ ⟨h0 W1 hb1, hL1, hK1⟩).mono ?_)
  ·rintro pre V V' ⟨h1, h2, h3⟩ hb hk; exact ⟨hIk pre V V' h1 (hb.mono (by omega)) hk, (hb.block _ (by omega)).trans h2, (hb.block _ (by omega)).trans h3⟩
  ·rintro pre V ⟨h1, h2, h3⟩; refine ⟨by have := (Array.getElem?_eq_some_iff.1 h2).1; omega, fun k hk => ?_⟩; obtain ⟨c, t, f, h⟩ := (hIo pre V h1).2 k hk; exact (Array.getElem?_eq_some_iff.1 h).1
  ·rintro pre x V ⟨h1, h2, h3⟩ hgv; rw [hz1] at hgv; have hlt : w.heap.size + 1 < V.heap.size := (Array.getElem?_eq_some_iff.1 h2).1; have hy := run_yield (P := P) (args := #[enc x]) h2 (by rw [hrec]; rfl); rw [hrec] at hy; have hy' : (Instr.yield (w.heap.size + 1) #[enc x]).run P V = .ok (.round (w.heap.size + 1) fn (a.tmps.setIfInBounds p (enc x)) assign body) V := by simpa using hy
   refine TF (k := 3) ⟨fn, _, assign, body, hy', roundIn_of_wpIn trivial ?_⟩; refine wpIn_mono (hround (w.heap.size + 1) pre x V _ (by omega) (by omega) h1 h2 hgv) ?_; rintro e a' V' he
   cases e with
   | normal =>
    obtain ⟨hkv, hbody⟩ := he; have h2' : V'.heap[w.heap.size + 1]? = some (.loop (rec .ready none)) := (hkv.2 _ (by omega) hlt).trans h2; have h3' : V'.heap[w.heap.size]? = some (.deferred (some [])) := (hkv.2 _ (by omega) (by omega)).trans h3; refine ⟨_, run_beginRound h2' (by rw [hrec]), ?_⟩; obtain ⟨V2, hV2⟩ : ∃ V2, V'.putObj (w.heap.size + 1) (.loop { rec .ready none with state := .busy }) = V2 := ⟨_, rfl⟩; have hlt' : w.heap.size + 1 < V'.heap.size := (Array.getElem?_eq_some_iff.1 h2').1; have hl2 : V2.heap[w.heap.size + 1]? = some (.loop { rec .ready none with state := .busy }) := by rw [← hV2]; exact World.putObj_heap_same hlt'
    have hk2 : V2.heap[w.heap.size]? = some (.deferred (some [])) := by rw [← hV2]; exact (World.putObj_heap_other (by omega)).trans h3'
    have ho2 : ∀ k, k ≠ w.heap.size + 1 → V2.heap[k]? = V'.heap[k]? := fun k hk => by rw [← hV2]; exact World.putObj_heap_other hk
    have hs2 : V2.heap.size = V'.heap.size := by rw [← hV2]; simp
    have hB := hbody (.loop { rec .ready none with state := .busy }); rw [hV2] at hB ⊢; refine wpIn_mono hB ?_; rintro e a3 V3 ⟨rfl, hk3, hI3⟩; have hl3 : V3.heap[w.heap.size + 1]? = V2.heap[w.heap.size + 1]? := hk3.2 _ (by omega) (by omega); have hd3 : V3.heap[w.heap.size]? = some (.deferred (some [])) := (hk3.2 _ (Nat.le_refl _) (by omega)).trans hk2
    have fin : (Instr.endRound (w.heap.size + 1) none).run P V3 = .ok (.bool true) (V3.putObj (w.heap.size + 1) (.loop (rec .ready none))) := by
     have := run_endRound (P := P) none (hl3.trans hl2); rw [hrec] at this ⊢; exact this
    have hlt3 : w.heap.size + 1 < V3.heap.size := (Array.getElem?_eq_some_iff.1 (hl3.trans hl2)).1
    have hI4 : I (pre ++ [x]) (V3.putObj (w.heap.size + 1) (.loop (rec .ready none))) := by
     refine hIk _ V3 _ hI3 (CY (Below.refl _ _) _ (by omega)) fun k hk => World.putObj_heap_other ?_
     rintro rfl; obtain ⟨c, t, f, h⟩ := (hIo _ V3 hI3).2 _ hk; rw [hl3, hl2] at h; simp at h
    refine ⟨_, _, fin, rfl, ⟨hI4, World.putObj_heap_same hlt3, (World.putObj_heap_other (by omega)).trans hd3⟩, ⟨by simp; have := hk3.1; have := hkv.1; omega, fun k hk1 hk2 => ?_⟩⟩; rw [World.putObj_heap_other (by omega), hk3.2 k (by omega) (by have := hkv.1; omega), ho2 k (by omega), hkv.2 k (by omega) hk2]
   | exit i => exact he.elim
   | ret => exact he.elim
   | goto t => exact he.elim
   | panic ch => exact he.elim
   | outgrown => exact he.elim
  ·rintro e W2 ⟨⟨v, rfl⟩, pre, hd, hI2, hl2, hd2⟩; refine ⟨none, _, by have := run_endLoop (P := P) hl2 (by rw [hrec]; simp); rw [hrec] at this; exact this, hdone _ pre _ hd ?_ (Nat.le_refl _) ((World.putObj_heap_other (by omega)).trans hd2)⟩; refine hIk _ W2 _ hI2 (CY (Below.refl _ _) _ (by omega)) fun k hk => World.putObj_heap_other ?_
   rintro rfl; obtain ⟨c, t, f, h⟩ := (hIo _ W2 hI2).2 _ hk; rw [hl2] at h; simp at h
end
end
section
open Go.RowKit
theorem GN {Γ : Type} {P : Program} {id : Nat} {Q : Exit → Act → World → Prop} {a : Act} {w : World} {ops : Array Oper} {n : Nat} {m : List (Nat × Value)} (hm : P.follows .mixedOrders = true) (Z : Sl a n m) (ds : List (Option Nat)) (hds : ops.toList.map Oper.dst = ds) (hok : okD n (m.map Prod.fst) ds = true) (hdag : dag ops = true)
  (V : Γ → Nat → Value → Prop) (I : Γ → (Nat → Bool) → World → Prop) (g0 : Γ) (hI : I g0 (fun _ => false) w.drew)
  (hk : ∀ (k : Nat) (o : Oper), k < ops.size → ops[k]? = some o → ∀ g L a w, I g L w → L k = false → Sl a n m → Fa ops (fun j v _ => V g j v) L a w → (∀ d ∈ waits o, L d = true) → wpOp P ops Q k (fun a' w' => ∃ g' v, a' = a.put o.dst v ∧ V g' k v ∧ I g' (Bd L k true) w' ∧ ∀ j u, L j = true → V g j u → V g' j u) a w)
  (he : ∀ g L a w, (∀ k, k < ops.size → L k = true) → I g L w → Sl a n m → Fa ops (fun j v _ => V g j v) L a w → Q .normal a w) : (Code.region id ops true).wp P Q a w := by
 have hd : ∀ (j : Nat) (o : Oper), ops[j]? = some o → ds[j]? = some o.dst := fun j o h => by
  subst hds; rw [List.getElem?_map, Array.getElem?_toList, h]; rfl
 refine DN hm (fun L a' w' => ∃ g, I g L w' ∧ Sl a' n m ∧ Fa ops (fun j v _ => V g j v) L a' w') ⟨g0, hI, Z, fun j o d _ _ h => by simp at h⟩ ?_ ?_
 ·rintro L a' w' i o ho ⟨g, h1, h2, h3⟩ hli hri; have hi := (Array.getElem?_eq_some_iff.1 ho).1; refine wpOp_mono ?_ (hk i o hi ho g L a' w' h1 hli h2 h3 (CJ hri)); rintro a2 w2 ⟨g', v, rfl, hv, hI2, hmono⟩; refine ⟨g', hI2, ?_, ?_⟩
  ·cases e : o.dst with
   | none => exact h2
   | some d =>
    have hdd := hd i o ho; rw [e] at hdd; obtain ⟨hlt, hnm⟩ := FV hok hdd; have hp := h2.put d v hlt; refine ⟨hp.size, hp.defers, fun t u hu => hp.get t u ?_⟩; rw [List.lookup_cons]
    have e2 : (t == d) = false := by
     have : t ≠ d := by rintro rfl; exact hnm (EN hu)
     simpa using this
    rw [e2]; exact hu
  ·intro j o' d hj hjd hLj; have hdj := hd j o' hj; rw [hjd] at hdj
   cases e : o.dst with
   | none =>
    have hne : j ≠ i := by
     rintro rfl; rw [ho] at hj; obtain rfl := Option.some.inj hj; rw [e] at hjd; simp at hjd
    rw [Aq _ _ hne] at hLj; obtain ⟨u, hu, hvu⟩ := h3 j o' d hj hjd hLj; exact ⟨u, hu, hmono _ _ hLj hvu⟩
   | some x =>
    have hdi := hd i o ho; rw [e] at hdi
    by_cases c : j = i
    ·subst c; rw [hdj] at hdi; obtain rfl : d = x := by simpa using hdi
     obtain ⟨hlt, _⟩ := FV hok hdj; exact ⟨v, by simp [Act.put, h2.size, hlt], hv⟩
    ·rw [Aq _ _ c] at hLj; obtain ⟨u, hu, hvu⟩ := h3 j o' d hj hjd hLj
     have hxd : x ≠ d := by
      rintro rfl; exact c (KZ hok hdj hdi)
     refine ⟨u, ?_, hmono _ _ hLj hvu⟩; simp only [Act.put]; rw [Array.getElem?_setIfInBounds_ne hxd]; exact hu
 ·rintro L a' w' hall ⟨g, h1, h2, h3⟩; exact he g L a' w' (Gg hdag hall) h1 h2 h3
end
end Go.Proofs.Ytgdobbcjkiapkaa
