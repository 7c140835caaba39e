import Derived.Test.YtgdobbcjkiapkaaSt04
import Derived.Test.YtgdobbcjkiapkaaSt02
import Derived.Test.YtgdobbcjkiapkaaSt24
import Derived.Test.YtgdobbcjkiapkaaSt35
import Derived.Test.YtgdobbcjkiapkaaSt20
namespace Go.Proofs.Ytgdobbcjkiapkaa
set_option maxRecDepth 100000
set_option maxHeartbeats 4000000
set_option linter.unusedSimpArgs false
set_option linter.unusedVariables false
section
open Go.RowKit
theorem UH : Try.f28.body = some (Code.seq (Aa Try.f28 0) (Code.seq (Code.seq (Aa Try.f28 1) (Code.cond (Operand.tmp 10) (Code.seq (Aa Try.f28 2) Code.ret) Code.skip)) (Code.seq (Code.seq (Aa Try.f28 3) (Code.block 0 (Code.loop (Code.seq (Code.seq (Aa Try.f28 4) (Code.cond (Operand.tmp 14) Code.skip (Code.exit 0))) (Code.seq (Code.block 1 (Code.seq (Aa Try.f28 6) (Code.cond (Operand.tmp 25) (Code.seq (Aa Try.f28 7) Code.ret) Code.skip))) (Aa Try.f28 5)))))) (Code.seq (Aa Try.f28 8) Code.ret)))) := by kernel_rfl
theorem VL {w : World} {la lb : Option Addr} {ca cb : Nat} {l m : List Int} (ha : AU w la l) (hb : AU w lb m) (hn : l.length ≤ 1000000) : Calls Try.prog 28 #[.slice la l.length ca, .slice lb m.length cb] w (fun e w' => e = .returned (.bool (decide (l = m))) ∧ Below w.heap.size w w') := by
 refine Lt Try.func28 UH Try.ntmps28 ?_; intro a Z; refine wsr ?_; refine Z.s ?_; clear Z; intro a Z; refine od ?_; refine wp_seq ?_; refine wsr ?_; (iterate 4 refine Z.s ?_; clear Z; intro a Z)
 by_cases hne : l.length = m.length
 ·have q0 : ((l.length : Int) != (m.length : Int)) = false := by simp [hne]
  have HN := Lib.hid hne; clear hne; refine Z.s ?_; clear Z; intro a Z; refine od ?_; refine wp_cond_false (Z.ev 10 rfl) ?_; refine wp_skip ?_; refine wp_seq ?_; refine wsr ?_; refine Z.s ?_; clear Z; intro a Z; refine od ?_; refine wp_block ?_; have hb1 := Below.refl w.heap.size w; refine wp_loop_ghost (fun n p x => ∃ k : Nat, k + n = l.length ∧ l.take k = m.take k ∧ Sl p 26 [(5, .int .i64 (k : Int)), (0, .slice la l.length ca), (1, .slice lb m.length cb)] ∧ Below w.heap.size w x) (l.length) ⟨0, by omega, rfl, Z.sb, hb1⟩ ?_; clear Z hb1; rintro n a x ⟨k, hkn, hT, Z, hb1⟩; have HT := Lib.hid hT; clear hT; refine wp_seq ?_; refine wsr ?_; (iterate 3 refine Z.s ?_; clear Z; intro a Z)
  by_cases hlt : k < l.length
  ·have q1 : (k : Int) < (l.length : Int) := by omega
   have hlm : k < m.length := by rw [← HN.out]; exact hlt
   have q3 : (k : Int) < (m.length : Int) := by omega
   obtain ⟨b, o, rfl, hc⟩ := (ha.below hb1).at hlt; obtain ⟨b2, o2, rfl, hc2⟩ := (hb.below hb1).at hlm; refine Z.s ?_; clear Z; intro a Z; refine od ?_; refine wp_cond_true (Z.ev 14 rfl) ?_; refine wp_skip ?_; refine wp_seq ?_; refine wp_block ?_; refine wp_seq ?_; refine QQ rfl (by kernel_rfl) (by kernel_rfl) ?_; (iterate 3 refine Z.u ?_; clear Z; intro a Z); refine Z.q rfl rfl rfl (by decide) ⟨?_, fun y hy K hK => ?_, ?_⟩; rotate_left
   ·have e19 := Z.g 19; replace hb1 := hb1.trans (hy.mono hb1.size); replace hc := BA hy hc; replace hc2 := BA hy hc2; unfold Oper.Gn; go_simp; exact hK
   clear Z; intro a Z; (iterate 3 refine Z.u ?_; clear Z; intro a Z); refine Z.q rfl rfl rfl (by decide) ⟨?_, fun y hy K hK => ?_, ?_⟩; rotate_left
   ·have e23 := Z.g 23; replace hb1 := hb1.trans (hy.mono hb1.size); replace hc := BA hy hc; replace hc2 := BA hy hc2; unfold Oper.Gn; go_simp; exact hK
   clear Z; intro a Z
   by_cases he : l[k] = m[k]
   ·have q2 : (l[k] != m[k]) = false := by simp [he]
    have HE := Lib.hid he; clear he; refine Z.u ?_; clear Z; intro a Z; refine KR ?_; intro x hb2; replace hb1 := hb1.trans (hb2.mono hb1.size); replace hc := BA hb2 hc; replace hc2 := BA hb2 hc2; clear hb2; refine wp_cond_false (Z.ev 25 rfl) ?_; refine wp_skip ?_; refine wr ?_; refine Z.s ?_; clear Z; intro a Z; refine og fun K hK => ?_
    have e15 := Z.g 15; have hw := AY k (by omega); unfold Oper.wp; go_simp; clear e15; refine Z.K hK ?_; clear Z hK; intro a Z; refine Z.s ?_; clear Z; intro a Z; refine od ?_; exact ⟨n - 1, by omega, k + 1, by omega, by rw [List.take_succ_eq_append_getElem hlt, List.take_succ_eq_append_getElem hlm, HT.out, HE.out], Z.sb, hb1⟩
   ·have q2 : (l[k] != m[k]) = true := by simp [he]
    have HE := Lib.hid he; clear he; refine Z.u ?_; clear Z; intro a Z; refine KR ?_; intro x hb2; replace hb1 := hb1.trans (hb2.mono hb1.size); replace hc := BA hb2 hc; replace hc2 := BA hb2 hc2; clear hb2; refine wp_cond_true (Z.ev 25 rfl) ?_; refine wsr ?_; refine Z.s ?_; clear Z; intro a Z; refine od ?_; refine wp_ret ?_
    try simp only [Exit.then, Exit.inBlock]
    have HR := Lib.hid (show decide (l = m) = false from decide_eq_false (fun h => HE.out (by simp only [h]))); rw [HR.out]; refine bodyPost_ret (v := .bool false) ?_ Z.defers ⟨rfl, hb1⟩; simp [results, Try.results28, Z.get 4 _ rfl]
  ·have q1 : ¬ (k : Int) < (l.length : Int) := by omega
   obtain rfl : k = l.length := by omega
   refine Z.s ?_; clear Z; intro a Z; refine od ?_; refine wp_cond_false (Z.ev 14 rfl) ?_; refine wp_exit ?_; refine wsr ?_; refine Z.s ?_; clear Z; intro a Z; refine od ?_; refine wp_ret ?_
   try simp only [Exit.then, Exit.inBlock]
   have HR := Lib.hid (show decide (l = m) = true from decide_eq_true (by rw [← List.take_length (l := l), HT.out, HN.out, List.take_length])); rw [HR.out]; refine bodyPost_ret (v := .bool true) ?_ Z.defers ⟨rfl, hb1⟩; simp [results, Try.results28, Z.get 4 _ rfl]
 ·have q0 : ((l.length : Int) != (m.length : Int)) = true := by simp; omega
  refine Z.s ?_; clear Z; intro a Z; refine od ?_; refine wp_cond_true (Z.ev 10 rfl) ?_; refine wsr ?_; refine Z.s ?_; clear Z; intro a Z; refine od ?_; refine wp_ret ?_
  try simp only [Exit.then, Exit.inBlock]
  have HR := Lib.hid (show decide (l = m) = false from decide_eq_false (fun h => by rw [h] at q0; simp at q0)); rw [HR.out]; refine bodyPost_ret (v := .bool false) ?_ Z.defers ⟨rfl, Below.refl _ _⟩; simp [results, Try.results28, Z.get 4 _ rfl]
theorem AaY {α : Type} {p q r : Prop} [Decidable p] [Decidable q] [Decidable r] {A B : α} (h : p → q → r → False) : (if p then if q then if r then A else B else B else B) = B := by
 by_cases hp : p
 ·by_cases hq : q
  ·rw [if_pos hp, if_pos hq, if_neg (fun hr => h hp hq hr)]
  ·rw [if_pos hp, if_neg hq]
 ·rw [if_neg hp]
theorem Ar.AaZ {x y : Ar} (h0 : x.toll = y.toll) (h1 : x.owner = y.owner) (h2 : x.heads = y.heads) : x = y := by cases x; cases y; simp_all
theorem RD : Try.f41.body = some (Code.seq (Aa Try.f41 0) (Code.seq (Code.seq (Aa Try.f41 1) (Code.cond (Operand.tmp 10) (Code.seq (Aa Try.f41 2) Code.ret) Code.skip)) (Code.seq (Code.seq (Aa Try.f41 3) (Code.block 0 (Code.loop (Code.seq (Code.seq (Aa Try.f41 4) (Code.cond (Operand.tmp 14) Code.skip (Code.exit 0))) (Code.seq (Code.block 1 (Code.seq (Aa Try.f41 6) (Code.cond (Operand.tmp 25) (Code.seq (Aa Try.f41 7) Code.ret) Code.skip))) (Aa Try.f41 5)))))) (Code.seq (Aa Try.f41 8) Code.ret)))) := by kernel_rfl
theorem VK {w : World} {la lb : Option Addr} {ca cb : Nat} {l m : List Ar} (ha : DJ w la l) (hb : DJ w lb m) (hn : l.length ≤ 1000000) : Calls Try.prog 41 #[.slice la l.length ca, .slice lb m.length cb] w (fun e w' => e = .returned (.bool (decide (l = m))) ∧ Below w.heap.size w w') := by
 refine Lt Try.func41 RD Try.ntmps41 ?_; intro a Z; refine wsr ?_; refine Z.s ?_; clear Z; intro a Z; refine od ?_; refine wp_seq ?_; refine wsr ?_; (iterate 4 refine Z.s ?_; clear Z; intro a Z)
 by_cases hne : l.length = m.length
 ·have q0 : ((l.length : Int) != (m.length : Int)) = false := by simp [hne]
  have HN := Lib.hid hne; clear hne; refine Z.s ?_; clear Z; intro a Z; refine od ?_; refine wp_cond_false (Z.ev 10 rfl) ?_; refine wp_skip ?_; refine wp_seq ?_; refine wsr ?_; refine Z.s ?_; clear Z; intro a Z; refine od ?_; refine wp_block ?_; have hb1 := Below.refl w.heap.size w; refine wp_loop_ghost (fun n p x => ∃ k : Nat, k + n = l.length ∧ l.take k = m.take k ∧ Sl p 26 [(5, .int .i64 (k : Int)), (0, .slice la l.length ca), (1, .slice lb m.length cb)] ∧ Below w.heap.size w x) (l.length) ⟨0, by omega, rfl, Z.sb, hb1⟩ ?_; clear Z hb1; rintro n a x ⟨k, hkn, hT, Z, hb1⟩; have HT := Lib.hid hT; clear hT; refine wp_seq ?_; refine wsr ?_; (iterate 3 refine Z.s ?_; clear Z; intro a Z)
  by_cases hlt : k < l.length
  ·have q1 : (k : Int) < (l.length : Int) := by omega
   have hlm : k < m.length := by rw [← HN.out]; exact hlt
   have q3 : (k : Int) < (m.length : Int) := by omega
   obtain ⟨b, o, rfl, c0, c1, c2⟩ := (ha.below hb1).at hlt; obtain ⟨b2, o2, rfl, d0, d1, d2⟩ := (hb.below hb1).at hlm; simp only [Qg] at c0 c1 c2 d0 d1 d2; refine Z.s ?_; clear Z; intro a Z; refine od ?_; refine wp_cond_true (Z.ev 14 rfl) ?_; refine wp_skip ?_; refine wp_seq ?_; refine wp_block ?_; refine wp_seq ?_; refine QQ rfl (by kernel_rfl) (by kernel_rfl) ?_; (iterate 3 refine Z.u ?_; clear Z; intro a Z); refine Z.q rfl rfl rfl (by decide) ⟨?_, fun y hy K hK => ?_, ?_⟩; rotate_left
   ·have e19 := Z.g 19; replace hb1 := hb1.trans (hy.mono hb1.size); replace c0 := BA hy c0; replace c1 := BA hy c1; replace c2 := BA hy c2; replace d0 := BA hy d0; replace d1 := BA hy d1; replace d2 := BA hy d2; unfold Oper.Gn; go_simp; exact hK
   clear Z; intro a Z; (iterate 3 refine Z.u ?_; clear Z; intro a Z); refine Z.q rfl rfl rfl (by decide) ⟨?_, fun y hy K hK => ?_, ?_⟩; rotate_left
   ·have e23 := Z.g 23; replace hb1 := hb1.trans (hy.mono hb1.size); replace c0 := BA hy c0; replace c1 := BA hy c1; replace c2 := BA hy c2; replace d0 := BA hy d0; replace d1 := BA hy d1; replace d2 := BA hy d2; unfold Oper.Gn; go_simp; exact hK
   clear Z; intro a Z
   by_cases he : l[k] = m[k]
   ·have HE := Lib.hid he; rw [he] at Z; clear he; refine Z.u ?_; clear Z; intro a Z; refine KR ?_; intro x hb2; replace hb1 := hb1.trans (hb2.mono hb1.size); replace c0 := BA hb2 c0; replace c1 := BA hb2 c1; replace c2 := BA hb2 c2; replace d0 := BA hb2 d0; replace d1 := BA hb2 d1; replace d2 := BA hb2 d2; clear hb2; refine wp_cond_false (Z.ev 25 rfl) ?_; refine wp_skip ?_; refine wr ?_; refine Z.s ?_; clear Z; intro a Z; refine og fun K hK => ?_
    have e15 := Z.g 15; have hw := AY k (by omega); unfold Oper.wp; go_simp; clear e15; refine Z.K hK ?_; clear Z hK; intro a Z; refine Z.s ?_; clear Z; intro a Z; refine od ?_; exact ⟨n - 1, by omega, k + 1, by omega, by rw [List.take_succ_eq_append_getElem hlt, List.take_succ_eq_append_getElem hlm, HT.out, HE.out], Z.sb, hb1⟩
   ·have HE := Lib.hid he; clear he; refine Z.q rfl rfl rfl (by decide) ⟨?_, fun y hy K hK => ?_, ?_⟩; rotate_left
    ·have e20 := Z.g 20; have e24 := Z.g 24; unfold Oper.Gn; go_simp; rw [AaY (fun h0 h1 h2 => HE.out (Ar.AaZ h0 h1 h2))]; refine ⟨rfl, ?_⟩; exact hK
    clear Z; intro a Z; refine KR ?_; intro x hb2; replace hb1 := hb1.trans (hb2.mono hb1.size); replace c0 := BA hb2 c0; replace c1 := BA hb2 c1; replace c2 := BA hb2 c2; replace d0 := BA hb2 d0; replace d1 := BA hb2 d1; replace d2 := BA hb2 d2; clear hb2; refine wp_cond_true (Z.ev 25 rfl) ?_; refine wsr ?_; refine Z.s ?_; clear Z; intro a Z; refine od ?_; refine wp_ret ?_
    try simp only [Exit.then, Exit.inBlock]
    have HR := Lib.hid (show decide (l = m) = false from decide_eq_false (fun h => HE.out (by simp only [h]))); rw [HR.out]; refine bodyPost_ret (v := .bool false) ?_ Z.defers ⟨rfl, hb1⟩; simp [results, Try.results41, Z.get 4 _ rfl]
  ·have q1 : ¬ (k : Int) < (l.length : Int) := by omega
   obtain rfl : k = l.length := by omega
   refine Z.s ?_; clear Z; intro a Z; refine od ?_; refine wp_cond_false (Z.ev 14 rfl) ?_; refine wp_exit ?_; refine wsr ?_; refine Z.s ?_; clear Z; intro a Z; refine od ?_; refine wp_ret ?_
   try simp only [Exit.then, Exit.inBlock]
   have HR := Lib.hid (show decide (l = m) = true from decide_eq_true (by rw [← List.take_length (l := l), HT.out, HN.out, List.take_length])); rw [HR.out]; refine bodyPost_ret (v := .bool true) ?_ Z.defers ⟨rfl, hb1⟩; simp [results, Try.results41, Z.get 4 _ rfl]
 ·have q0 : ((l.length : Int) != (m.length : Int)) = true := by simp; omega
  refine Z.s ?_; clear Z; intro a Z; refine od ?_; refine wp_cond_true (Z.ev 10 rfl) ?_; refine wsr ?_; refine Z.s ?_; clear Z; intro a Z; refine od ?_; refine wp_ret ?_
  try simp only [Exit.then, Exit.inBlock]
  have HR := Lib.hid (show decide (l = m) = false from decide_eq_false (fun h => by rw [h] at q0; simp at q0)); rw [HR.out]; refine bodyPost_ret (v := .bool false) ?_ Z.defers ⟨rfl, Below.refl _ _⟩; simp [results, Try.results41, Z.get 4 _ rfl]
end
section
open Go Go.Conc
open Go.RowKit
section
variable {P : Program} {M : Machine} {ops : Array Oper} {Q : Exit → Act → World → Prop} {i : Nat} {rest : List Nat} {o : Oper} {a : Act} {w : World} {n d : Nat} {m : List (Nat × Value)} {v : Value}
theorem Ak {id : Nat} (h : Hu Q) : Hu (Exit.inBlock id Q) := fun a w hx => h a w hx
theorem IP {fn : Func} {R : Ending → World → Prop} (h : ∀ w, ¬ R .outgrown w) : Hu (bodyPost P fn R) := fun _ w hx => h w hx
theorem Sl.kX (h : Sl a n m) {K : Act → World → Prop} (hK : ∀ a w, I9 P M ops Q rest a w → K a w) (hd : d < n) (hG : ∀ a', Sl a' n ((d, v) :: m) → I9 P M ops Q rest a' w) : K (a.put (some d) v) w := hK _ _ (hG _ (h.put d v hd))
theorem Sl.goX (h : Sl a n m) (hd : d < n) (hG : ∀ a', Sl a' n ((d, v) :: m) → I9 P M ops Q rest a' w) : I9 P M ops Q rest (a.put (some d) v) w := hG _ (h.put d v hd)
theorem Ko {fc : FuncId} {F : Func} {ars : Array Operand} {ats : Array TypeId} (ho : ops[i]? = some o) (hg : o.guard = none) (hop : o.op = .call { callee := .value (.func fc), args := ars, argTypes := ats })
  (hF : P.funcs[fc]? = some F) (hname : (F.name == "runtime.NumGoroutine") = false) (hbody : F.body.isNone = false) {args : Array Value} (ha : ars.map a.eval = args) {R : Ending → World → Prop} (hc : CW P M fc args w R)
  (h : ∀ e w'', R e w'' → ∃ v, e = .returned v ∧ I9 P M ops Q rest (a.put o.dst v) w'') : I9 P M ops Q (i :: rest) a w := by
 have hr := Ij (P := P) (w := w) (a := a) hop rfl hF hname hbody; refine V6 ho hg (f := fc) (args := args) (w' := w) ?_ hc h; rw [hr, ← ha]; simp
theorem OA (hP : Ea P) {f : Func} {k id : Nat} (hno : Hu Q) (e : Aa f k = Code.region id ops false) (h : I9 P M ops Q (List.range ops.size) a w) : wpX P M (Aa f k) Q a w := by
 rw [e]; exact JV hP hno h
theorem Nj (hP : Ea P) {c : Code} (I : Nat → Act → World → Prop) (n : Nat) (h₀ : I n a w)
  (round : ∀ n a w, I n a w → wpX P M c (Exit.then (fun a' w' => ∃ m, m < n ∧ I m a' w') Q) a w) : wpX P M (.loop c) Q a w := by
 intro b k cs n₁ hg
 have key : ∀ (m : Nat) (a : Act) (w : World) (n₁ : Nat), I m a w → Ic P M n₁ (G (b.at a (.code c :: .inLoop c :: k)) cs) w → ∃ e a' w', Q e a' w' ∧ XA P M n₁ b k cs e a' w' := by
  intro m
  induction m using Nat.strongRecOn with
  | _ m ih =>
   intro a w n₁ hI hg; obtain ⟨e, a₁, w₁, hq, harr⟩ := round m a w hI b (.inLoop c :: k) cs n₁ hg
   cases e with
   | normal =>
    obtain ⟨m', hlt, hI₁⟩ := hq; obtain ⟨n1, hn1, hg1⟩ := harr; obtain ⟨n2, hn2, hg2⟩ := Au hP (.one step_inLoop) hg1; obtain ⟨e₂, a₂, w₂, hq₂, harr₂⟩ := ih m' hlt a₁ w₁ n2 hI₁ hg2; exact ⟨e₂, a₂, w₂, hq₂, harr₂.later (by omega)⟩
   | exit id => exact ⟨_, a₁, w₁, hq, harr.pass (x := .inLoop c) rfl (by simp)⟩
   | goto l => exact ⟨_, a₁, w₁, hq, harr.pass (x := .inLoop c) rfl (by simp)⟩
   | ret => exact ⟨_, a₁, w₁, hq, harr.pass (x := .inLoop c) rfl (by simp)⟩
   | panic ch => exact ⟨_, a₁, w₁, hq, harr.pass (x := .inLoop c) rfl (by simp)⟩
   | outgrown => exact harr.elim
 obtain ⟨n0, hn0, hg0⟩ := Au hP (.one step_loop) hg; obtain ⟨e, a', w', hq, harr⟩ := key n a w n0 h₀ hg0; exact ⟨e, a', w', hq, harr.later hn0⟩
end
theorem ZF {t : Ad} {l : List Ar} {qs : List ((Int × Int) × Int)} (hq : ∀ key, (atK qs key).getD 0 = AA l key) (o i : Nat) : atV t.Ac t.Ag qs o i = atL t l o i := by unfold atV atL; rw [hq]
theorem Qy {t : Ad} {l : List Ar} {qs : List ((Int × Int) × Int)} (hq : ∀ key, (atK qs key).getD 0 = AA l key) (o : Nat) : YY t.Ac t.Ag qs o = Fj t l o := by
 unfold YY Fj Gw; rw [show atV t.Ac t.Ag qs o = atL t l o from funext fun i => ZF hq o i]
theorem F5.c {w : World} {bd mb : Nat} {t : Ad} {s : Ee} {l : List Ar} (hT : CU w t s) (hD : F5 w bd mb t s l) (ho : BM t l = 0) :
  ∃ q pb po pc tb to_ tc clock ents, MW w.heap.size w bd t.Ac t.Ag q pb po pc tb to_ tc mb clock ents ∧ ∀ key, (atK q key).getD 0 = AA l key := by
 have hck := G6 ho; have hF := DY.of hck (Cm ho).1 (Cm ho).2; obtain ⟨_, _, _, hp1, _⟩ := Bo hck; obtain ⟨qs, hm, hq⟩ := hD.map; have d4 := hD.kd.cell (o := 4) rfl; have d5 := hD.kd.cell (o := 5) rfl; have d6 := hD.kd.cell (o := 6) rfl
 change w.cell? _ = some (.slice s.pa t.Ac.length s.pc) at d4
 change w.cell? _ = some (.slice s.ta t.Ag.length s.tc) at d5
 change w.cell? _ = some (.map (some mb)) at d6
 obtain ⟨pb, po, hpa, _, _, _⟩ := hT.Ac.at (i := 0) (by omega)
 have hpay : ∀ (o : Nat) (h : o < t.Ac.length), w.cell? ⟨pb, po + o * 3, none⟩ = some (.int .i64 t.Ac[o].heads) ∧ w.cell? ⟨pb, po + o * 3 + 1, none⟩ = some (.int .i64 t.Ac[o].free) ∧ w.cell? ⟨pb, po + o * 3 + 2, none⟩ = some (.bool t.Ac[o].half) := fun o h => by
  obtain ⟨b', o', e, h1, h2, h3⟩ := hT.Ac.at h; rw [hpa] at e; simp only [Option.some.injEq, Addr.mk.injEq, and_true] at e; obtain ⟨rfl, rfl⟩ := e; exact ⟨h1, h2, h3⟩
 have lpb : pb < w.heap.size := lt_of_cell (hpay 0 (by omega)).1
 obtain ⟨tb, to_, htb, hta, htl⟩ : ∃ tb to_, tb < w.heap.size ∧ (t.Ag ≠ [] → s.ta = some ⟨tb, to_, none⟩) ∧ ∀ (i : Nat) (h : i < t.Ag.length), w.cell? ⟨tb, to_ + i * 3 + 1, none⟩ = some (.int .i64 t.Ag[i].rate) := by
  rcases hT.Ag with h | ⟨b, o, ha, h⟩
  ·exact ⟨pb, 0, lpb, fun hne => absurd h hne, fun i hi => by rw [h] at hi; simp at hi⟩
  ·by_cases hz : 0 < t.Ag.length
   ·exact ⟨b, o, lt_of_cell (h 0 hz).1, fun _ => ha, fun i hi => (h i hi).2.1⟩
   ·exact ⟨pb, 0, lpb, fun hne => absurd (List.length_pos_iff.2 hne) hz, fun i hi => absurd (by omega) hz⟩
 rw [hpa] at d4; exact ⟨qs, pb, po, s.pc, tb, to_, s.tc, _, _, ⟨lt_of_cell d4, lpb, htb, hm.lt, d4, ⟨s.ta, d5, hta⟩, d6, fun o h => (hpay o h).1, fun o h => (hpay o h).2.1, fun o h => (hpay o h).2.2, htl, hm, Pi qs, hF.pf, hF.rt, fun k => by rw [hq]; exact hF.ps k⟩, hq⟩
end
section
open Go Go.Conc
open Go.RowKit
def Ef (w0 : World) (L : List Int) (err : Int) (e : Ending) (w' : World) : Prop :=
 Below w0.heap.size w0 w' ∧ (err ≠ 0 → e = .returned (.tuple #[.slice none 0 0, .int .i64 err])) ∧ (err = 0 → ∃ g, e = .returned (.tuple #[.slice (some ⟨g, 0, none⟩) L.length L.length, .int .i64 0]) ∧ w0.heap.size ≤ g ∧ Rw w' g (FH L) 3)
theorem Ef.no {w0 : World} {L : List Int} {err : Int} (w' : World) : ¬ Ef w0 L err .outgrown w' := fun h => by
 rcases Classical.em (err = 0) with e | e
 ·obtain ⟨g, hx, _⟩ := h.2.2 e; cases hx
 ·cases h.2.1 e
def E8 (f : Nat → Int) (n : Nat) : List Int := (List.range n).map f
theorem D7 (f : Nat → Int) (n : Nat) : (E8 f n).length = n := by simp [E8]
theorem AaO {row : Array Value} {n : Nat} {f g : Nat → Int} (hs : row.size = n) (h : ∀ i, i < n → row[i]? = some (.int .i64 (g i))) (hfg : ∀ i, g i = f i) : row = FH (E8 f n) := by
 apply Array.ext
 ·simp [FH, E8, hs]
 ·intro i h1 h2; have := h i (by omega); rw [Array.getElem?_eq_getElem h1, hfg] at this; rw [Option.some.inj this]; simp [FH, E8]
theorem TT : Try.f30.body = some (Code.seq (Aa Try.f30 0) (Code.seq (Aa Try.f30 1) (Code.seq (Code.seq (Aa Try.f30 2) (Code.cond (Operand.tmp 15) (Code.seq (Aa Try.f30 3) Code.ret) Code.skip)) (Code.seq (Aa Try.f30 4) Code.ret)))) := by kernel_rfl
theorem Tq {M : Machine} {t : Ad} {s : Ee} {l : List Ar} {la : Option Addr} {lc : Nat} {w : World} (ht : CU w t s) (hl : DJ w la l) (hlm : l.length ≤ maxLen) : CW Try.prog M 30 #[.agg (EI t s), .slice la l.length lc] w (Ef w (E8 (Fj t l) t.Ac.length) (BM t l)) := by
 have hno : Hu (bodyPost Try.prog Try.f30 (Ef w (E8 (Fj t l) t.Ac.length) (BM t l))) := IP Ef.no; refine Fp Dz Try.func30 TT ?_ Ef.no; have Z : Sl (⟨#[.agg (EI t s), .slice la l.length lc] ++ Array.replicate (Try.f30.ntmps - (#[.agg (EI t s), .slice la l.length lc] : Array Value).size) undef, []⟩ : Act) 21 [(0, .agg (EI t s)), (1, .slice la l.length lc)] := by rw [Try.ntmps30]; exact Sl.WQ _ _ (by omega)
 revert Z; generalize (Act.mk _ _) = a; intro Z; refine Bv Dz ?_; refine wpX.of Dz ?_ (by repeat (first | assumption | apply Am | apply Ak)); refine wr ?_; refine Z.s ?_; clear Z; intro a Z; refine Af (G := fun W => wpOps _ _ _ _ _ W) ?_; intro x hz X hb; have hI := TI.made (Below.refl _ _) ht X hb; obtain ⟨bt, hbt⟩ : ∃ b, b = w.heap.size := ⟨_, rfl⟩; rw [← hbt] at Z hI; clear hz X hb hbt; (iterate 2 refine Z.s ?_; clear Z; intro a Z); refine od ?_; refine Bv Dz ?_; refine wpX.of Dz ?_ (by repeat (first | assumption | apply Am | apply Ak)); refine wr ?_; refine og fun K hK => ?_
 have e2 := Z.g 2; have c0 := hI.c0; have c1 := hI.c1; have c2 := hI.c2; have c3 := hI.c3; have c4 := hI.c4; have c5 := hI.c5; unfold Oper.wp; go_simp; clear e2; refine Z.K hK ?_; clear Z hK; intro a Z; refine Z.s ?_; clear Z; intro a Z; refine og fun K hK => ?_
 have e9 := Z.g 9; have e10 := Z.g 10; unfold Oper.wp; go_simp; refine (LJ hI.tar (hl.below hI.below) hlm).mono ?_; rintro e x2 ⟨hb2, hN, hS⟩; have hxx := hI.below.size; replace hI := hI.keep hb2; clear e9 e10
 by_cases h1 : BM t l = 0
 ·obtain ⟨bd, mb, rfl, hbd, hmb, hD⟩ := hS h1; have HE := Lib.hid h1; have hne := Cf h1; clear hS hN hb2 hxx h1; refine Z.K hK ?_; clear Z hK; intro a Z; obtain ⟨x, hx2⟩ : ∃ x, x = x2 := ⟨_, rfl⟩; rw [← hx2] at hI ⊢ hD; clear hx2; (iterate 5 refine Z.s ?_; clear Z; intro a Z); refine od ?_; refine Bv Dz ?_; refine wpX.of Dz ?_ (by repeat (first | assumption | apply Am | apply Ak)); refine wsr ?_; (iterate 2 refine Z.s ?_; clear Z; intro a Z); refine od ?_; refine wp_cond_false (Z.ev 15 rfl) ?_; refine wp_skip ?_; refine Bv Dz ?_; rw [show Aa Try.f30 4 = Code.region 4 _ false from rfl]; refine JV Dz (by repeat (first | assumption | apply Am | apply Ak)) ?_; refine Bj rfl rfl (fun K hK => ?_); have e6 := Z.g 6; unfold Oper.wp; go_simp; clear e6; refine Z.kX hK (by decide) ?_; clear Z hK; intro a Z; refine Bj rfl rfl (fun K hK => ?_); have e6 := Z.g 6; unfold Oper.wp; go_simp; clear e6; refine Z.kX hK (by decide) ?_; clear Z hK; intro a Z; refine Bj rfl rfl (fun K hK => ?_); have e18 := Z.g 18; unfold Oper.wp; go_simp; clear e18; refine Z.kX hK (by decide) ?_; clear Z hK; intro a Z; have e17 := Z.g 17; have e19 := Z.g 19; obtain ⟨qs, pb, po, pc, tb, to_, tc, clock, ents, hDC, hq⟩ := F5.c hI.tar hD HE.out; have hFL := DY.of (G6 HE.out) (Cm HE.out).1 (Cm HE.out).2
  refine Ko rfl rfl rfl Try.func78 (by kernel_rfl) (by kernel_rfl) (args := #[.pointer (some ⟨bd, 0, none⟩), .func (.func 79) #[.pointer (some ⟨bd, 0, none⟩)] #[]]) (by simp [Act.eval, Array.getD_eq_getD_getElem?, e17, e19]) (Tn hDC hFL.nt hFL.np) ?_; clear e17 e19; rintro e x2 ⟨g, row, rfl, hb, hg, hrow, hrs, hri⟩; have hxx := hI.below.size; have hG : Rw x2 g (FH (E8 (Fj t l) t.Ac.length)) 3 := by have := AaO hrs hri (fun i => Qy hq i); rw [this] at hrow; exact hrow
  replace hI := hI.keep hb; have hgw : w.heap.size ≤ g := Nat.le_trans hxx hg; clear hrow hrs hri hb hD hDC hq hxx hg; obtain ⟨x, hx2⟩ : ∃ x, x = x2 := ⟨_, rfl⟩; rw [← hx2] at hI hG ⊢; clear hx2; refine ⟨_, rfl, ?_⟩; refine Z.goX (by decide) ?_; clear Z; intro a Z; refine Bj rfl rfl (fun K hK => ?_); have e20 := Z.g 20; unfold Oper.wp; go_simp; clear e20; refine Z.kX hK (by decide) ?_; clear Z hK; intro a Z; refine Bj rfl rfl (fun K hK => ?_); unfold Oper.wp; go_simp; refine Z.kX hK (by decide) ?_; clear Z hK; intro a Z; refine Gp ?_; refine wpX.of Dz ?_ (by repeat (first | assumption | apply Am | apply Ak)); refine wp_ret ?_
  try simp only [Exit.then, Exit.inBlock]
  refine bodyPost_ret (v := .tuple #[.slice (some ⟨g, 0, none⟩) t.Ac.length t.Ac.length, .int .i64 0]) ?_ Z.defers ⟨hI.below, fun h => absurd HE.out h, fun _ => ⟨g, by rw [D7], hgw, hG⟩⟩; simp [results, Try.results30, Z.get 4 _ rfl, Z.get 5 _ rfl]
 ·obtain rfl := hN h1; have HE := Lib.hid h1; have hne := Dk h1; clear hS hN hb2 hxx h1; refine Z.K hK ?_; clear Z hK; intro a Z; obtain ⟨x, hx2⟩ : ∃ x, x = x2 := ⟨_, rfl⟩; rw [← hx2] at hI ⊢; clear hx2; (iterate 5 refine Z.s ?_; clear Z; intro a Z); refine od ?_; refine Bv Dz ?_; refine wpX.of Dz ?_ (by repeat (first | assumption | apply Am | apply Ak)); refine wsr ?_; (iterate 2 refine Z.s ?_; clear Z; intro a Z); refine od ?_; refine wp_cond_true (Z.ev 15 rfl) ?_; refine wsr ?_; (iterate 3 refine Z.s ?_; clear Z; intro a Z); refine od ?_; refine wp_ret ?_
  try simp only [Exit.then, Exit.inBlock]
  refine bodyPost_ret (v := .tuple #[.slice none 0 0, .int .i64 (BM t l)]) ?_ Z.defers ⟨hI.below, fun _ => rfl, fun h => absurd h HE.out⟩; simp [results, Try.results30, Z.get 4 _ rfl, Z.get 5 _ rfl]
def Jz (n : Int) (p : Dq) : Int := if btw p.owner 0 (n - 1) = false then 3 else if btw p.coins 0 9999 = false then 1 else 0
def J8 (n : Int) : List Dq → Int
 | [] => 0
 | p :: ps => if Jz n p ≠ 0 then Jz n p else J8 n ps
theorem NU {n : Int} {ps : List Dq} {k : Nat} {e : Int} (h : k < ps.length) (he : Jz n ps[k] = e) (h0 : e ≠ 0) : J8 n (ps.drop k) = e := by
 rw [List.drop_eq_getElem_cons h, J8, if_pos (by rw [he]; exact h0), he]
theorem Uo {n : Int} {ps : List Dq} {k : Nat} (h : k < ps.length) (he : Jz n ps[k] = 0) : J8 n (ps.drop k) = J8 n (ps.drop (k + 1)) := by
 rw [List.drop_eq_getElem_cons h, J8, if_neg (by simp [he])]
theorem NV {n : Int} : ∀ {ps : List Dq}, J8 n ps = 0 → ∀ p ∈ ps, btw p.owner 0 (n - 1) = true ∧ btw p.coins 0 9999 = true
 | [], _, p, hp => by simp at hp
 | x :: ps, h, p, hp => by
  rw [J8] at h
  by_cases h1 : Jz n x ≠ 0
  ·rw [if_pos h1] at h; exact absurd h h1
  ·rw [if_neg h1] at h; rcases List.mem_cons.1 hp with rfl | hp
   ·have h2 : Jz n p = 0 := Classical.not_not.1 h1; unfold Jz at h2
    split at h2
    ·exact absurd h2 (by decide)
    ·split at h2
     ·exact absurd h2 (by decide)
     ·rename_i a b; simp only [Bool.not_eq_false] at a b; exact ⟨a, b⟩
   ·exact NV h p hp
def J9 (t : Ad) (l : List Ar) (ps : List Dq) : Int := if BM t l = 0 then (if 8 < ps.length then 6 else J8 t.Ac.length ps) else BM t l
def Qh (t : Ad) (l : List Ar) (ps : List Dq) : List Int := Ro (E8 (Fj t l) t.Ac.length) ps
theorem TL : Try.f53.body = some (Code.seq (Aa Try.f53 0) (Code.seq (Aa Try.f53 1) (Code.seq (Code.seq (Aa Try.f53 2) (Code.cond (Operand.tmp 20) (Code.seq (Aa Try.f53 3) Code.ret) Code.skip)) (Code.seq (Code.seq (Aa Try.f53 4) (Code.cond (Operand.tmp 24) (Code.seq (Aa Try.f53 5) Code.ret) Code.skip)) (Code.seq (Code.seq (Aa Try.f53 6) (Code.block 0 (Code.loop (Code.seq (Aa Try.f53 7) (Code.seq (Code.cond (Operand.tmp 28) Code.skip (Code.exit 0)) (Code.seq (Code.block 1 (Code.seq (Aa Try.f53 8) (Code.seq (Code.seq (Aa Try.f53 9) (Code.cond (Operand.tmp 35) (Code.seq (Aa Try.f53 10) Code.ret) Code.skip)) (Code.seq (Aa Try.f53 11) (Code.cond (Operand.tmp 39) (Code.seq (Aa Try.f53 12) Code.ret) Code.skip))))) (Aa Try.f53 13))))))) (Code.seq (Aa Try.f53 14) (Code.seq (Aa Try.f53 15) (Code.seq (Aa Try.f53 16) Code.ret)))))))) := by kernel_rfl
theorem VZ {M : Machine} {t : Ad} {s : Ee} {l : List Ar} {la : Option Addr} {lc : Nat} {ps : List Dq} {pa : Option Addr} {pc : Nat} {w : World} (ht : CU w t s) (hl : DJ w la l) (hlm : l.length ≤ maxLen) (hp : JQ w pa ps) (hpm : ps.length ≤ maxLen) : CW Try.prog M 53 #[.agg (EI t s), .slice la l.length lc, .slice pa ps.length pc] w (Ef w (Qh t l ps) (J9 t l ps)) := by
 have hno : Hu (bodyPost Try.prog Try.f53 (Ef w (Qh t l ps) (J9 t l ps))) := IP Ef.no; refine Fp Dz Try.func53 TL ?_ Ef.no; have Z : Sl (⟨#[.agg (EI t s), .slice la l.length lc, .slice pa ps.length pc] ++ Array.replicate (Try.f53.ntmps - (#[.agg (EI t s), .slice la l.length lc, .slice pa ps.length pc] : Array Value).size) undef, []⟩ : Act) 49 [(0, .agg (EI t s)), (1, .slice la l.length lc), (2, .slice pa ps.length pc)] := by rw [Try.ntmps53]; exact Sl.YW _ _ _ (by omega)
 revert Z; generalize (Act.mk _ _) = a; intro Z; refine Bv Dz ?_; refine wpX.of Dz ?_ (by repeat (first | assumption | apply Am | apply Ak)); refine wr ?_; refine Z.s ?_; clear Z; intro a Z; refine Af (G := fun W => wpOps _ _ _ _ _ W) ?_; intro x hz X hb; have hI := TI.made (Below.refl _ _) ht X hb; obtain ⟨bt, hbt⟩ : ∃ b, b = w.heap.size := ⟨_, rfl⟩; rw [← hbt] at Z hI; clear hz X hb hbt; (iterate 2 refine Z.s ?_; clear Z; intro a Z); refine od ?_; refine Bv Dz ?_; refine wpX.of Dz ?_ (by repeat (first | assumption | apply Am | apply Ak)); refine wr ?_; refine og fun K hK => ?_
 have e3 := Z.g 3; have c0 := hI.c0; have c1 := hI.c1; have c2 := hI.c2; have c3 := hI.c3; have c4 := hI.c4; have c5 := hI.c5; unfold Oper.wp; go_simp; clear e3; refine Z.K hK ?_; clear Z hK; intro a Z; refine Z.s ?_; clear Z; intro a Z; refine og fun K hK => ?_
 have e14 := Z.g 14; have e15 := Z.g 15; unfold Oper.wp; go_simp; refine (LJ hI.tar (hl.below hI.below) hlm).mono ?_; rintro e x2 ⟨hb2, hN, hS⟩; have hxx := hI.below.size; replace hI := hI.keep hb2; clear e14 e15
 by_cases h1 : BM t l = 0
 ·obtain ⟨bd, mb, rfl, hbd, hmb, hD⟩ := hS h1; have HE := Lib.hid h1; have hne := Cf h1; clear hS hN hb2 hxx h1; refine Z.K hK ?_; clear Z hK; intro a Z; obtain ⟨x, hx2⟩ : ∃ x, x = x2 := ⟨_, rfl⟩; rw [← hx2] at hI ⊢ hD; clear hx2; (iterate 5 refine Z.s ?_; clear Z; intro a Z); refine od ?_; refine Bv Dz ?_; refine wpX.of Dz ?_ (by repeat (first | assumption | apply Am | apply Ak)); refine wsr ?_; (iterate 2 refine Z.s ?_; clear Z; intro a Z); refine od ?_; refine wp_cond_false (Z.ev 20 rfl) ?_; refine wp_skip ?_; refine Bv Dz ?_; refine wpX.of Dz ?_ (by repeat (first | assumption | apply Am | apply Ak)); refine wsr ?_; (iterate 2 refine Z.s ?_; clear Z; intro a Z)
  by_cases h8 : 8 < ps.length
  ·have q1 : (8 : Int) < (ps.length : Int) := by omega
   have H8 := Lib.hid h8; refine Z.s ?_; clear Z; intro a Z; refine od ?_; refine wp_cond_true (Z.ev 24 rfl) ?_; refine wsr ?_; (iterate 2 refine Z.s ?_; clear Z; intro a Z); refine od ?_; refine wp_ret ?_
   try simp only [Exit.then, Exit.inBlock]
   have hR := Lib.hid (show J9 t l ps = 6 from by unfold J9; rw [if_pos HE.out, if_pos H8.out]); rw [hR.out]; refine bodyPost_ret (v := .tuple #[.slice none 0 0, .int .i64 6]) ?_ Z.defers ⟨hI.below, fun _ => rfl, fun h => absurd h (by decide)⟩; simp [results, Try.results53, Z.get 6 _ rfl, Z.get 7 _ rfl]
  ·have q1 : ¬ (8 : Int) < (ps.length : Int) := by omega
   have H8 := Lib.hid h8; refine Z.s ?_; clear Z; intro a Z; refine od ?_; refine wp_cond_false (Z.ev 24 rfl) ?_; refine wp_skip ?_; refine Bv Dz ?_; refine wpX.of Dz ?_ (by repeat (first | assumption | apply Am | apply Ak)); refine wsr ?_; (iterate 3 refine Z.s ?_; clear Z; intro a Z); refine od ?_; refine wp_block ?_; have h8b := H8.out; refine wp_loop_ghost (fun n p x => ∃ k : Nat, k + n = ps.length ∧ J8 t.Ac.length (ps.drop k) = J8 t.Ac.length ps ∧ Sl p 49 [(2, .slice pa ps.length pc), (3, .pointer (some ⟨bt, 0, none⟩)), (8, .pointer (some ⟨bd, 0, none⟩)), (25, .slice pa ps.length pc), (26, .int .i64 (ps.length : Int)), (27, .int .i64 (k : Int))] ∧ TI w x bt t s ∧ F5 x bd mb t s l) ps.length ⟨0, by omega, rfl, Z.sb, hI, hD⟩ ?_; clear Z hI hD; rintro n a x ⟨k, hkn, hC, Z, hI, hD⟩; have HC := Lib.hid hC; clear hC; refine wsr ?_
   by_cases hlt : k < ps.length
   ·have q1 : (k : Int) < (ps.length : Int) := by omega
    obtain ⟨pb, po, hpa, p0, p1⟩ := (hp.below hI.below).at hlt; rw [hpa] at Z; refine Z.s ?_; clear Z; intro a Z; refine od ?_; refine wp_seq ?_; refine wp_cond_true (Z.ev 28 rfl) ?_; refine wp_skip ?_; refine wp_seq ?_; refine wp_block ?_; refine wsr ?_; (iterate 2 refine Z.s ?_; clear Z; intro a Z); refine og fun K hK => ?_
    obtain ⟨gp, hgp⟩ : ∃ b, b = x.heap.size := ⟨_, rfl⟩; unfold Oper.wp; go_simp; refine Z.K hK ?_; clear Z hK; intro a Z; refine og fun K hK => ?_
    have e11 := Z.g 11; have e30 := Z.g 30; unfold Oper.wp; go_simp; clear e11 e30; refine hK _ _ ?_; clear hK; refine Af (G := fun W => wpOps _ _ _ _ _ W) ?_; intro x hz G hb; rw [← hgp] at Z G; replace hI := hI.keep hb; replace hD := hD.below hb; clear hz hgp hb p0 p1; refine od ?_; refine wp_seq ?_; refine wsr ?_; (iterate 2 refine Z.s ?_; clear Z; intro a Z); refine og fun K hK => ?_
    have e32 := Z.g 32; have c := G.cell (o := 0) rfl; unfold Oper.wp; go_simp; clear e32; refine Z.K hK ?_; clear Z hK; intro a Z; refine og fun K hK => ?_
    have e31 := Z.g 31; have e33 := Z.g 33; unfold Oper.wp; go_simp; refine (LY (hD.kd.cell (o := 4) rfl) ht.lp).mono ?_; rintro e x2 ⟨rfl, hxe⟩; rw [← hxe]; clear hxe x2; clear e31 e33; refine Z.K hK ?_; clear Z hK; intro a Z; rcases Bool.eq_false_or_eq_true (btw ps[k].owner 0 ((t.Ac.length : Int) - 1)) with h2 | h2
    ·rw [h2] at Z; refine Z.s ?_; clear Z; intro a Z; refine od ?_; refine wp_cond_false (Z.ev 35 rfl) ?_; refine wp_skip ?_; refine wsr ?_; refine Z.s ?_; clear Z; intro a Z; refine og fun K hK => ?_
     have e36 := Z.g 36; have c := G.cell (o := 1) rfl; unfold Oper.wp; go_simp; clear e36; refine Z.K hK ?_; clear Z hK; intro a Z; refine og fun K hK => ?_
     have e37 := Z.g 37; unfold Oper.wp; go_simp; refine (A7 _ _ _ _).mono ?_; rintro e x2 ⟨rfl, hxe⟩; rw [← hxe]; clear hxe x2; clear e37; refine Z.K hK ?_; clear Z hK; intro a Z; rcases Bool.eq_false_or_eq_true (btw ps[k].coins 0 9999) with h3 | h3
     ·rw [h3] at Z; refine Z.s ?_; clear Z; intro a Z; refine od ?_; refine wp_cond_false (Z.ev 39 rfl) ?_; refine wp_skip ?_; refine wr ?_; refine og fun K hK => ?_
      have e27 := Z.g 27; have hw := AY k (by omega); unfold Oper.wp; go_simp; clear e27; refine Z.K hK ?_; clear Z hK; intro a Z; refine Z.s ?_; clear Z; intro a Z; refine od ?_; show Exists _; exact ⟨n - 1, by omega, k + 1, by omega, (Uo hlt ((if_neg (by rw [h2]; decide)).trans (if_neg (by rw [h3]; decide)))).symm.trans HC.out, by rw [hpa]; exact Z.sb, hI, hD⟩
     ·rw [h3] at Z; have HR := Lib.hid (HC.out.symm.trans (NU hlt (e := 1) ((if_neg (by rw [h2]; decide)).trans (if_pos h3)) (by decide))); refine Z.s ?_; clear Z; intro a Z; refine od ?_; refine wp_cond_true (Z.ev 39 rfl) ?_; refine wsr ?_; (iterate 2 refine Z.s ?_; clear Z; intro a Z); refine od ?_; refine wp_ret ?_
      try simp only [Exit.then, Exit.inBlock]
      have hR := Lib.hid (show J9 t l ps = 1 from by unfold J9; rw [if_pos HE.out, if_neg H8.out]; exact HR.out); rw [hR.out]; refine bodyPost_ret (v := .tuple #[.slice none 0 0, .int .i64 1]) ?_ Z.defers ⟨hI.below, fun _ => rfl, fun h => absurd h (by decide)⟩; simp [results, Try.results53, Z.get 6 _ rfl, Z.get 7 _ rfl]
    ·rw [h2] at Z; have HR := Lib.hid (HC.out.symm.trans (NU hlt (e := 3) (if_pos h2) (by decide))); refine Z.s ?_; clear Z; intro a Z; refine od ?_; refine wp_cond_true (Z.ev 35 rfl) ?_; refine wsr ?_; (iterate 2 refine Z.s ?_; clear Z; intro a Z); refine od ?_; refine wp_ret ?_
     try simp only [Exit.then, Exit.inBlock]
     have hR := Lib.hid (show J9 t l ps = 3 from by unfold J9; rw [if_pos HE.out, if_neg H8.out]; exact HR.out); rw [hR.out]; refine bodyPost_ret (v := .tuple #[.slice none 0 0, .int .i64 3]) ?_ Z.defers ⟨hI.below, fun _ => rfl, fun h => absurd h (by decide)⟩; simp [results, Try.results53, Z.get 6 _ rfl, Z.get 7 _ rfl]
   ·obtain rfl : k = ps.length := by omega
    refine Z.s ?_; clear Z; intro a Z; refine od ?_; refine wp_seq ?_; refine wp_cond_false (Z.ev 28 rfl) ?_; refine wp_exit ?_; have HPE := Lib.hid (show J8 t.Ac.length ps = 0 from by rw [← HC.out, List.drop_of_length_le (Nat.le_refl _)]; rfl); refine Bv Dz ?_; rw [show Aa Try.f53 14 = Code.region 14 _ false from rfl]; refine JV Dz (by repeat (first | assumption | apply Am | apply Ak)) ?_; refine Bj rfl rfl (fun K hK => ?_); have e8 := Z.g 8; unfold Oper.wp; go_simp; clear e8; refine Z.kX hK (by decide) ?_; clear Z hK; intro a Z; refine Bj rfl rfl (fun K hK => ?_); have e8 := Z.g 8; unfold Oper.wp; go_simp; clear e8; refine Z.kX hK (by decide) ?_; clear Z hK; intro a Z; refine Bj rfl rfl (fun K hK => ?_); have e42 := Z.g 42; unfold Oper.wp; go_simp; clear e42; refine Z.kX hK (by decide) ?_; clear Z hK; intro a Z; have e41 := Z.g 41; have e43 := Z.g 43; obtain ⟨qs, pb, po, pc2, tb, to_, tc, clock, ents, hDC, hq⟩ := F5.c hI.tar hD HE.out; have hFL := DY.of (G6 HE.out) (Cm HE.out).1 (Cm HE.out).2; refine Ko rfl rfl rfl Try.func78 (by kernel_rfl) (by kernel_rfl) (args := #[.pointer (some ⟨bd, 0, none⟩), .func (.func 79) #[.pointer (some ⟨bd, 0, none⟩)] #[]]) (by simp [Act.eval, Array.getD_eq_getD_getElem?, e41, e43]) (Tn hDC hFL.nt hFL.np) ?_; clear e41 e43; rintro e x2 ⟨g, row, rfl, hb, hg, hrow, hrs, hri⟩; have hxx := hI.below.size
    have hG : Rw x2 g (FH (E8 (Fj t l) t.Ac.length)) 3 := by have := AaO hrs hri (fun i => Qy hq i); rw [this] at hrow; exact hrow
    replace hI := hI.keep hb; have hgw : w.heap.size ≤ g := Nat.le_trans hxx hg; clear hrow hrs hri hb hD hDC hq hxx hg; obtain ⟨x, hx2⟩ : ∃ x, x = x2 := ⟨_, rfl⟩; rw [← hx2] at hI hG ⊢; clear hx2; refine ⟨_, rfl, ?_⟩; refine Z.goX (by decide) ?_; clear Z; intro a Z; refine Bj rfl rfl (fun K hK => ?_); have e44 := Z.g 44; unfold Oper.wp; go_simp; clear e44; refine Z.kX hK (by decide) ?_; clear Z hK; intro a Z; refine Gp ?_; refine wpX.of Dz ?_ (by repeat (first | assumption | apply Am | apply Ak)); refine wsr ?_; (iterate 2 refine Z.s ?_; clear Z; intro a Z); refine og fun K hK => ?_
    have e45 := Z.g 45; have e46 := Z.g 46; unfold Oper.wp; go_simp; have hdl := fun o (ho : o < t.Ac.length) => Og (DY.of (G6 HE.out) (Cm HE.out).1 (Cm HE.out).2) (o := o) ho
    have hll := D7 (Fj t l) t.Ac.length; obtain ⟨_, _, _, _, _, _, _, hl6, _⟩ := Bo (G6 HE.out); have HBD := Lib.hid (show ∀ z ∈ E8 (Fj t l) t.Ac.length, -10000000000000 ≤ z ∧ z ≤ 10000000000000 from fun z hz => by obtain ⟨o, ho, rfl⟩ := List.mem_map.1 hz; have := hdl o (List.mem_range.1 ho); omega); have HPD := Lib.hid (show ∀ p ∈ ps, 0 ≤ p.owner ∧ p.owner < ((E8 (Fj t l) t.Ac.length).length : Int) ∧ 0 ≤ p.coins ∧ p.coins ≤ 1000000 from fun p hpp => by have h1 := NV HPE.out p hpp; have h2 := Aj.1 h1.1; have h3 := Aj.1 h1.2; rw [hll]; omega); have hpay := Za (w0 := w) (cap := t.Ac.length) (l := E8 (Fj t l) t.Ac.length) (pc := pc) hI.below hgw hp hG (by have := H8.out; omega) HBD.out HPD.out; rw [hll] at hpay; refine hpay.mono ?_; rintro e x ⟨rfl, hb, hPL⟩; clear hI hG HBD HPD hpay hll hdl hl6; clear e45 e46; refine Z.K hK ?_; clear Z hK; intro a Z; refine od ?_; refine wsr ?_; (iterate 3 refine Z.s ?_; clear Z; intro a Z); refine od ?_; refine wp_ret ?_
    try simp only [Exit.then, Exit.inBlock]
    have hR := Lib.hid (show J9 t l ps = 0 from by unfold J9; rw [if_pos HE.out, if_neg H8.out]; exact HPE.out); rw [hR.out]; refine bodyPost_ret (v := .tuple #[.slice (some ⟨g, 0, none⟩) t.Ac.length t.Ac.length, .int .i64 0]) ?_ Z.defers ⟨hb, fun h => absurd rfl h, fun _ => ⟨g, by unfold Qh; rw [OZ, D7], hgw, hPL⟩⟩; simp [results, Try.results53, Z.get 6 _ rfl, Z.get 7 _ rfl]
 ·obtain rfl := hN h1; have HE := Lib.hid h1; have hne := Dk h1; clear hS hN hb2 hxx h1; refine Z.K hK ?_; clear Z hK; intro a Z; obtain ⟨x, hx2⟩ : ∃ x, x = x2 := ⟨_, rfl⟩; rw [← hx2] at hI ⊢; clear hx2; (iterate 5 refine Z.s ?_; clear Z; intro a Z); refine od ?_; refine Bv Dz ?_; refine wpX.of Dz ?_ (by repeat (first | assumption | apply Am | apply Ak)); refine wsr ?_; (iterate 2 refine Z.s ?_; clear Z; intro a Z); refine od ?_; refine wp_cond_true (Z.ev 20 rfl) ?_; refine wsr ?_; (iterate 3 refine Z.s ?_; clear Z; intro a Z); refine od ?_; refine wp_ret ?_
  try simp only [Exit.then, Exit.inBlock]
  have hR := Lib.hid (show J9 t l ps = (BM t l) from if_neg HE.out); rw [hR.out]; refine bodyPost_ret (v := .tuple #[.slice none 0 0, .int .i64 (BM t l)]) ?_ Z.defers ⟨hI.below, fun _ => rfl, fun h => absurd h HE.out⟩; simp [results, Try.results53, Z.get 6 _ rfl, Z.get 7 _ rfl]
end
end Go.Proofs.Ytgdobbcjkiapkaa
