import Derived.Test.YtgdobbcjkiapkaaOn04
import Derived.Test.YtgdobbcjkiapkaaOn02
import Derived.Test.YtgdobbcjkiapkaaOn26
import Derived.Test.YtgdobbcjkiapkaaOn38
import Derived.Test.YtgdobbcjkiapkaaOn21
import Derived.Test.YtgdobbcjkiapkaaOn20
namespace Go.Proofs.Ytgdobbcjkiapkaa
set_option maxRecDepth 100000
set_option maxHeartbeats 4000000
set_option linter.unusedSimpArgs false
set_option linter.unusedVariables false
section
open Go.RowKit
theorem ksame_body : Try.f28.body = some (Code.seq (regionIn Try.f28 0) (Code.seq (Code.seq (regionIn Try.f28 1) (Code.cond (Operand.tmp 10) (Code.seq (regionIn Try.f28 2) Code.ret) Code.skip)) (Code.seq (Code.seq (regionIn Try.f28 3) (Code.block 0 (Code.loop (Code.seq (Code.seq (regionIn Try.f28 4) (Code.cond (Operand.tmp 14) Code.skip (Code.exit 0))) (Code.seq (Code.block 1 (Code.seq (regionIn Try.f28 6) (Code.cond (Operand.tmp 25) (Code.seq (regionIn Try.f28 7) Code.ret) Code.skip))) (regionIn Try.f28 5)))))) (Code.seq (regionIn Try.f28 8) Code.ret)))) := by kernel_rfl
theorem sameI_any {w : World} {la lb : Option Addr} {ca cb : Nat} {l m : List Int} (ha : IntsAt w la l) (hb : IntsAt w lb m) (hn : l.length ≤ 1000000) : Calls Try.prog 28 #[.slice la l.length ca, .slice lb m.length cb] w (fun e w' => e = .returned (.bool (decide (l = m))) ∧ Below w.heap.size w w') := by
 refine call2 Try.func28 ksame_body Try.ntmps28 ?_; intro a hsl; refine wsr ?_; refine hsl.s ?_; clear hsl; intro a hsl; refine od ?_; refine wp_seq ?_; refine wsr ?_; (iterate 4 refine hsl.s ?_; clear hsl; intro a hsl)
 by_cases hne : l.length = m.length
 ·have q0 : ((l.length : Int) != (m.length : Int)) = false := by simp [hne]
  have HN := Lib.hid hne; clear hne; refine hsl.s ?_; clear hsl; intro a hsl; refine od ?_; refine wp_cond_false (hsl.ev 10 rfl) ?_; refine wp_skip ?_; refine wp_seq ?_; refine wsr ?_; refine hsl.s ?_; clear hsl; intro a hsl; refine od ?_; refine wp_block ?_; have hb1 := Below.refl w.heap.size w; refine wp_loop_ghost (fun n p x => ∃ k : Nat, k + n = l.length ∧ l.take k = m.take k ∧ Sl p 26 [(5, .int .i64 (k : Int)), (0, .slice la l.length ca), (1, .slice lb m.length cb)] ∧ Below w.heap.size w x) (l.length) ⟨0, by omega, rfl, hsl.sb, hb1⟩ ?_; clear hsl hb1; rintro n a x ⟨k, hkn, hT, hsl, hb1⟩; have HT := Lib.hid hT; clear hT; refine wp_seq ?_; refine wsr ?_; (iterate 3 refine hsl.s ?_; clear hsl; intro a hsl)
  by_cases hlt : k < l.length
  ·have q1 : (k : Int) < (l.length : Int) := by omega
   have hlm : k < m.length := by rw [← HN.out]; exact hlt
   have q3 : (k : Int) < (m.length : Int) := by omega
   obtain ⟨b, o, rfl, hc⟩ := (ha.below hb1).at hlt; obtain ⟨b2, o2, rfl, hc2⟩ := (hb.below hb1).at hlm; refine hsl.s ?_; clear hsl; intro a hsl; refine od ?_; refine wp_cond_true (hsl.ev 14 rfl) ?_; refine wp_skip ?_; refine wp_seq ?_; refine wp_block ?_; refine wp_seq ?_; refine wp_regq rfl (by kernel_rfl) (by kernel_rfl) ?_; (iterate 3 refine hsl.u ?_; clear hsl; intro a hsl); refine hsl.q rfl rfl rfl (by decide) ⟨?_, fun y hy K hK => ?_, ?_⟩; rotate_left
   ·have e19 := hsl.g 19; replace hb1 := hb1.trans (hy.mono hb1.size); replace hc := cellB hy hc; replace hc2 := cellB hy hc2; unfold Oper.quietK; go_simp; exact hK
   clear hsl; intro a hsl; (iterate 3 refine hsl.u ?_; clear hsl; intro a hsl); refine hsl.q rfl rfl rfl (by decide) ⟨?_, fun y hy K hK => ?_, ?_⟩; rotate_left
   ·have e23 := hsl.g 23; replace hb1 := hb1.trans (hy.mono hb1.size); replace hc := cellB hy hc; replace hc2 := cellB hy hc2; unfold Oper.quietK; go_simp; exact hK
   clear hsl; intro a hsl
   by_cases he : l[k] = m[k]
   ·have q2 : (l[k] != m[k]) = false := by simp [he]
    have HE := Lib.hid he; clear he; refine hsl.u ?_; clear hsl; intro a hsl; refine q_done ?_; intro x hb2; replace hb1 := hb1.trans (hb2.mono hb1.size); replace hc := cellB hb2 hc; replace hc2 := cellB hb2 hc2; clear hb2; refine wp_cond_false (hsl.ev 25 rfl) ?_; refine wp_skip ?_; refine wr ?_; refine hsl.s ?_; clear hsl; intro a hsl; refine og fun K hK => ?_
    have e15 := hsl.g 15; have hw := add_one k (by omega); unfold Oper.wp; go_simp; clear e15; refine hsl.K hK ?_; clear hsl hK; intro a hsl; refine hsl.s ?_; clear hsl; intro a hsl; refine od ?_; exact ⟨n - 1, by omega, k + 1, by omega, by rw [List.take_succ_eq_append_getElem hlt, List.take_succ_eq_append_getElem hlm, HT.out, HE.out], hsl.sb, hb1⟩
   ·have q2 : (l[k] != m[k]) = true := by simp [he]
    have HE := Lib.hid he; clear he; refine hsl.u ?_; clear hsl; intro a hsl; refine q_done ?_; intro x hb2; replace hb1 := hb1.trans (hb2.mono hb1.size); replace hc := cellB hb2 hc; replace hc2 := cellB hb2 hc2; clear hb2; refine wp_cond_true (hsl.ev 25 rfl) ?_; refine wsr ?_; refine hsl.s ?_; clear hsl; intro a hsl; refine od ?_; refine wp_ret ?_
    try simp only [Exit.then, Exit.inBlock]
    have HR := Lib.hid (show decide (l = m) = false from decide_eq_false (fun h => HE.out (by simp only [h]))); rw [HR.out]; refine bodyPost_ret (v := .bool false) ?_ hsl.defers ⟨rfl, hb1⟩; simp [results, Try.results28, hsl.get 4 _ rfl]
  ·have q1 : ¬ (k : Int) < (l.length : Int) := by omega
   obtain rfl : k = l.length := by omega
   refine hsl.s ?_; clear hsl; intro a hsl; refine od ?_; refine wp_cond_false (hsl.ev 14 rfl) ?_; refine wp_exit ?_; refine wsr ?_; refine hsl.s ?_; clear hsl; intro a hsl; refine od ?_; refine wp_ret ?_
   try simp only [Exit.then, Exit.inBlock]
   have HR := Lib.hid (show decide (l = m) = true from decide_eq_true (by rw [← List.take_length (l := l), HT.out, HN.out, List.take_length])); rw [HR.out]; refine bodyPost_ret (v := .bool true) ?_ hsl.defers ⟨rfl, hb1⟩; simp [results, Try.results28, hsl.get 4 _ rfl]
 ·have q0 : ((l.length : Int) != (m.length : Int)) = true := by simp; omega
  refine hsl.s ?_; clear hsl; intro a hsl; refine od ?_; refine wp_cond_true (hsl.ev 10 rfl) ?_; refine wsr ?_; refine hsl.s ?_; clear hsl; intro a hsl; refine od ?_; refine wp_ret ?_
  try simp only [Exit.then, Exit.inBlock]
  have HR := Lib.hid (show decide (l = m) = false from decide_eq_false (fun h => by rw [h] at q0; simp at q0)); rw [HR.out]; refine bodyPost_ret (v := .bool false) ?_ hsl.defers ⟨rfl, Below.refl _ _⟩; simp [results, Try.results28, hsl.get 4 _ rfl]
theorem ite3 {α : Type} {p q r : Prop} [Decidable p] [Decidable q] [Decidable r] {A B : α} (h : p → q → r → False) : (if p then if q then if r then A else B else B else B) = B := by
 by_cases hp : p
 ·by_cases hq : q
  ·rw [if_pos hp, if_pos hq, if_neg (fun hr => h hp hq hr)]
  ·rw [if_pos hp, if_neg hq]
 ·rw [if_neg hp]
theorem PassV.ext3 {x y : PassV} (h0 : x.toll = y.toll) (h1 : x.owner = y.owner) (h2 : x.heads = y.heads) : x = y := by cases x; cases y; simp_all
theorem ksamep_body : Try.f41.body = some (Code.seq (regionIn Try.f41 0) (Code.seq (Code.seq (regionIn Try.f41 1) (Code.cond (Operand.tmp 10) (Code.seq (regionIn Try.f41 2) Code.ret) Code.skip)) (Code.seq (Code.seq (regionIn Try.f41 3) (Code.block 0 (Code.loop (Code.seq (Code.seq (regionIn Try.f41 4) (Code.cond (Operand.tmp 14) Code.skip (Code.exit 0))) (Code.seq (Code.block 1 (Code.seq (regionIn Try.f41 6) (Code.cond (Operand.tmp 25) (Code.seq (regionIn Try.f41 7) Code.ret) Code.skip))) (regionIn Try.f41 5)))))) (Code.seq (regionIn Try.f41 8) Code.ret)))) := by kernel_rfl
theorem sameP_any {w : World} {la lb : Option Addr} {ca cb : Nat} {l m : List PassV} (ha : PassAt w la l) (hb : PassAt w lb m) (hn : l.length ≤ 1000000) : Calls Try.prog 41 #[.slice la l.length ca, .slice lb m.length cb] w (fun e w' => e = .returned (.bool (decide (l = m))) ∧ Below w.heap.size w w') := by
 refine call2 Try.func41 ksamep_body Try.ntmps41 ?_; intro a hsl; refine wsr ?_; refine hsl.s ?_; clear hsl; intro a hsl; refine od ?_; refine wp_seq ?_; refine wsr ?_; (iterate 4 refine hsl.s ?_; clear hsl; intro a hsl)
 by_cases hne : l.length = m.length
 ·have q0 : ((l.length : Int) != (m.length : Int)) = false := by simp [hne]
  have HN := Lib.hid hne; clear hne; refine hsl.s ?_; clear hsl; intro a hsl; refine od ?_; refine wp_cond_false (hsl.ev 10 rfl) ?_; refine wp_skip ?_; refine wp_seq ?_; refine wsr ?_; refine hsl.s ?_; clear hsl; intro a hsl; refine od ?_; refine wp_block ?_; have hb1 := Below.refl w.heap.size w; refine wp_loop_ghost (fun n p x => ∃ k : Nat, k + n = l.length ∧ l.take k = m.take k ∧ Sl p 26 [(5, .int .i64 (k : Int)), (0, .slice la l.length ca), (1, .slice lb m.length cb)] ∧ Below w.heap.size w x) (l.length) ⟨0, by omega, rfl, hsl.sb, hb1⟩ ?_; clear hsl hb1; rintro n a x ⟨k, hkn, hT, hsl, hb1⟩; have HT := Lib.hid hT; clear hT; refine wp_seq ?_; refine wsr ?_; (iterate 3 refine hsl.s ?_; clear hsl; intro a hsl)
  by_cases hlt : k < l.length
  ·have q1 : (k : Int) < (l.length : Int) := by omega
   have hlm : k < m.length := by rw [← HN.out]; exact hlt
   have q3 : (k : Int) < (m.length : Int) := by omega
   obtain ⟨b, o, rfl, c0, c1, c2⟩ := (ha.below hb1).at hlt; obtain ⟨b2, o2, rfl, d0, d1, d2⟩ := (hb.below hb1).at hlm; simp only [passC] at c0 c1 c2 d0 d1 d2; refine hsl.s ?_; clear hsl; intro a hsl; refine od ?_; refine wp_cond_true (hsl.ev 14 rfl) ?_; refine wp_skip ?_; refine wp_seq ?_; refine wp_block ?_; refine wp_seq ?_; refine wp_regq rfl (by kernel_rfl) (by kernel_rfl) ?_; (iterate 3 refine hsl.u ?_; clear hsl; intro a hsl); refine hsl.q rfl rfl rfl (by decide) ⟨?_, fun y hy K hK => ?_, ?_⟩; rotate_left
   ·have e19 := hsl.g 19; replace hb1 := hb1.trans (hy.mono hb1.size); replace c0 := cellB hy c0; replace c1 := cellB hy c1; replace c2 := cellB hy c2; replace d0 := cellB hy d0; replace d1 := cellB hy d1; replace d2 := cellB hy d2; unfold Oper.quietK; go_simp; exact hK
   clear hsl; intro a hsl; (iterate 3 refine hsl.u ?_; clear hsl; intro a hsl); refine hsl.q rfl rfl rfl (by decide) ⟨?_, fun y hy K hK => ?_, ?_⟩; rotate_left
   ·have e23 := hsl.g 23; replace hb1 := hb1.trans (hy.mono hb1.size); replace c0 := cellB hy c0; replace c1 := cellB hy c1; replace c2 := cellB hy c2; replace d0 := cellB hy d0; replace d1 := cellB hy d1; replace d2 := cellB hy d2; unfold Oper.quietK; go_simp; exact hK
   clear hsl; intro a hsl
   by_cases he : l[k] = m[k]
   ·have HE := Lib.hid he; rw [he] at hsl; clear he; refine hsl.u ?_; clear hsl; intro a hsl; refine q_done ?_; intro x hb2; replace hb1 := hb1.trans (hb2.mono hb1.size); replace c0 := cellB hb2 c0; replace c1 := cellB hb2 c1; replace c2 := cellB hb2 c2; replace d0 := cellB hb2 d0; replace d1 := cellB hb2 d1; replace d2 := cellB hb2 d2; clear hb2; refine wp_cond_false (hsl.ev 25 rfl) ?_; refine wp_skip ?_; refine wr ?_; refine hsl.s ?_; clear hsl; intro a hsl; refine og fun K hK => ?_
    have e15 := hsl.g 15; have hw := add_one k (by omega); unfold Oper.wp; go_simp; clear e15; refine hsl.K hK ?_; clear hsl hK; intro a hsl; refine hsl.s ?_; clear hsl; intro a hsl; refine od ?_; exact ⟨n - 1, by omega, k + 1, by omega, by rw [List.take_succ_eq_append_getElem hlt, List.take_succ_eq_append_getElem hlm, HT.out, HE.out], hsl.sb, hb1⟩
   ·have HE := Lib.hid he; clear he; refine hsl.q rfl rfl rfl (by decide) ⟨?_, fun y hy K hK => ?_, ?_⟩; rotate_left
    ·have e20 := hsl.g 20; have e24 := hsl.g 24; unfold Oper.quietK; go_simp; rw [ite3 (fun h0 h1 h2 => HE.out (PassV.ext3 h0 h1 h2))]; refine ⟨rfl, ?_⟩; exact hK
    clear hsl; intro a hsl; refine q_done ?_; intro x hb2; replace hb1 := hb1.trans (hb2.mono hb1.size); replace c0 := cellB hb2 c0; replace c1 := cellB hb2 c1; replace c2 := cellB hb2 c2; replace d0 := cellB hb2 d0; replace d1 := cellB hb2 d1; replace d2 := cellB hb2 d2; clear hb2; refine wp_cond_true (hsl.ev 25 rfl) ?_; refine wsr ?_; refine hsl.s ?_; clear hsl; intro a hsl; refine od ?_; refine wp_ret ?_
    try simp only [Exit.then, Exit.inBlock]
    have HR := Lib.hid (show decide (l = m) = false from decide_eq_false (fun h => HE.out (by simp only [h]))); rw [HR.out]; refine bodyPost_ret (v := .bool false) ?_ hsl.defers ⟨rfl, hb1⟩; simp [results, Try.results41, hsl.get 4 _ rfl]
  ·have q1 : ¬ (k : Int) < (l.length : Int) := by omega
   obtain rfl : k = l.length := by omega
   refine hsl.s ?_; clear hsl; intro a hsl; refine od ?_; refine wp_cond_false (hsl.ev 14 rfl) ?_; refine wp_exit ?_; refine wsr ?_; refine hsl.s ?_; clear hsl; intro a hsl; refine od ?_; refine wp_ret ?_
   try simp only [Exit.then, Exit.inBlock]
   have HR := Lib.hid (show decide (l = m) = true from decide_eq_true (by rw [← List.take_length (l := l), HT.out, HN.out, List.take_length])); rw [HR.out]; refine bodyPost_ret (v := .bool true) ?_ hsl.defers ⟨rfl, hb1⟩; simp [results, Try.results41, hsl.get 4 _ rfl]
 ·have q0 : ((l.length : Int) != (m.length : Int)) = true := by simp; omega
  refine hsl.s ?_; clear hsl; intro a hsl; refine od ?_; refine wp_cond_true (hsl.ev 10 rfl) ?_; refine wsr ?_; refine hsl.s ?_; clear hsl; intro a hsl; refine od ?_; refine wp_ret ?_
  try simp only [Exit.then, Exit.inBlock]
  have HR := Lib.hid (show decide (l = m) = false from decide_eq_false (fun h => by rw [h] at q0; simp at q0)); rw [HR.out]; refine bodyPost_ret (v := .bool false) ?_ hsl.defers ⟨rfl, Below.refl _ _⟩; simp [results, Try.results41, hsl.get 4 _ rfl]
end
section
open Go Go.Conc
open Go.RowKit
section
variable {P : Program} {M : Machine} {ops : Array Oper} {Q : Exit → Act → World → Prop} {i : Nat} {rest : List Nat} {o : Oper} {a : Act} {w : World} {n d : Nat} {m : List (Nat × Value)} {v : Value}
theorem noOut_block {id : Nat} (h : NoOut Q) : NoOut (Exit.inBlock id Q) := fun a w hx => h a w hx
theorem noOut_body {fn : Func} {R : Ending → World → Prop} (h : ∀ w, ¬ R .outgrown w) : NoOut (bodyPost P fn R) := fun _ w hx => h w hx
theorem Sl.kX (h : Sl a n m) {K : Act → World → Prop} (hK : ∀ a w, opsX P M ops Q rest a w → K a w) (hd : d < n) (hG : ∀ a', Sl a' n ((d, v) :: m) → opsX P M ops Q rest a' w) : K (a.put (some d) v) w := hK _ _ (hG _ (h.put d v hd))
theorem Sl.goX (h : Sl a n m) (hd : d < n) (hG : ∀ a', Sl a' n ((d, v) :: m) → opsX P M ops Q rest a' w) : opsX P M ops Q rest (a.put (some d) v) w := hG _ (h.put d v hd)
theorem opsX_fn {fc : FuncId} {F : Func} {ars : Array Operand} {ats : Array TypeId} (ho : ops[i]? = some o) (hg : o.guard = none) (hop : o.op = .call { callee := .value (.func fc), args := ars, argTypes := ats })
  (hF : P.funcs[fc]? = some F) (hname : (F.name == "runtime.NumGoroutine") = false) (hbody : F.body.isNone = false) {args : Array Value} (ha : ars.map a.eval = args) {R : Ending → World → Prop} (hc : CallsX P M fc args w R)
  (h : ∀ e w'', R e w'' → ∃ v, e = .returned v ∧ opsX P M ops Q rest (a.put o.dst v) w'') : opsX P M ops Q (i :: rest) a w := by
 have hr := run_callV (P := P) (w := w) (a := a) hop rfl hF hname hbody; refine opsX_call ho hg (f := fc) (args := args) (w' := w) ?_ hc h; rw [hr, ← ha]; simp
theorem wpX_reg (hP : Tame P) {f : Func} {k id : Nat} (hno : NoOut Q) (e : regionIn f k = Code.region id ops false) (h : opsX P M ops Q (List.range ops.size) a w) : wpX P M (regionIn f k) Q a w := by
 rw [e]; exact wpX_region hP hno h
end
theorem atV_atL {t : TariffV} {l : List PassV} {qs : List ((Int × Int) × Int)} (hq : ∀ key, (atK qs key).getD 0 = passSum l key) (o i : Nat) : atV t.payers t.tolls qs o i = atL t l o i := by unfold atV atL; rw [hq]
theorem dueV_dueL {t : TariffV} {l : List PassV} {qs : List ((Int × Int) × Int)} (hq : ∀ key, (atK qs key).getD 0 = passSum l key) (o : Nat) : dueV t.payers t.tolls qs o = dueL t l o := by
 unfold dueV dueL exactL; rw [show atV t.payers t.tolls qs o = atL t l o from funext fun i => atV_atL hq o i]
def sevL (t : TariffV) (l : List PassV) (o : Nat) : Int := sumV (fun i => coinsV (atL t l o i)) t.tolls.length
theorem sevV_sevL {t : TariffV} {l : List PassV} {qs : List ((Int × Int) × Int)} (hq : ∀ key, (atK qs key).getD 0 = passSum l key) (o : Nat) : sevV t.payers t.tolls qs o = sevL t l o := by
 unfold sevV sevL; rw [show (fun i => coinsV (atV t.payers t.tolls qs o i)) = fun i => coinsV (atL t l o i) from funext fun i => by rw [atV_atL hq]]
theorem DeskIs.c {w : World} {bd mb : Nat} {t : TariffV} {s : TarS} {l : List PassV} (hT : TarIn w t s) (hD : DeskIs w bd mb t s l) (ho : openE t l = 0) :
  ∃ q pb po pc tb to_ tc clock ents, DeskC w.heap.size w bd t.payers t.tolls q pb po pc tb to_ tc mb clock ents ∧ ∀ key, (atK q key).getD 0 = passSum l key := by
 have hck := open_ok ho; have hF := FineL.of hck (open_fine ho).1 (open_fine ho).2; obtain ⟨_, _, _, hp1, _⟩ := check_lens hck; obtain ⟨qs, hm, hq⟩ := hD.map; have d4 := hD.kd.cell (o := 4) rfl; have d5 := hD.kd.cell (o := 5) rfl; have d6 := hD.kd.cell (o := 6) rfl
 change w.cell? _ = some (.slice s.pa t.payers.length s.pc) at d4
 change w.cell? _ = some (.slice s.ta t.tolls.length s.tc) at d5
 change w.cell? _ = some (.map (some mb)) at d6
 obtain ⟨pb, po, hpa, _, _, _⟩ := hT.payers.at (i := 0) (by omega)
 have hpay : ∀ (o : Nat) (h : o < t.payers.length), w.cell? ⟨pb, po + o * 3, none⟩ = some (.int .i64 t.payers[o].heads) ∧ w.cell? ⟨pb, po + o * 3 + 1, none⟩ = some (.int .i64 t.payers[o].free) ∧ w.cell? ⟨pb, po + o * 3 + 2, none⟩ = some (.bool t.payers[o].half) := fun o h => by
  obtain ⟨b', o', e, h1, h2, h3⟩ := hT.payers.at h; rw [hpa] at e; simp only [Option.some.injEq, Addr.mk.injEq, and_true] at e; obtain ⟨rfl, rfl⟩ := e; exact ⟨h1, h2, h3⟩
 have lpb : pb < w.heap.size := lt_of_cell (hpay 0 (by omega)).1
 obtain ⟨tb, to_, htb, hta, htl⟩ : ∃ tb to_, tb < w.heap.size ∧ (t.tolls ≠ [] → s.ta = some ⟨tb, to_, none⟩) ∧ ∀ (i : Nat) (h : i < t.tolls.length), w.cell? ⟨tb, to_ + i * 3 + 1, none⟩ = some (.int .i64 t.tolls[i].rate) := by
  rcases hT.tolls with h | ⟨b, o, ha, h⟩
  ·exact ⟨pb, 0, lpb, fun hne => absurd h hne, fun i hi => by rw [h] at hi; simp at hi⟩
  ·by_cases hz : 0 < t.tolls.length
   ·exact ⟨b, o, lt_of_cell (h 0 hz).1, fun _ => ha, fun i hi => (h i hi).2.1⟩
   ·exact ⟨pb, 0, lpb, fun hne => absurd (List.length_pos_iff.2 hne) hz, fun i hi => absurd (by omega) hz⟩
 rw [hpa] at d4; exact ⟨qs, pb, po, s.pc, tb, to_, s.tc, _, _, ⟨lt_of_cell d4, lpb, htb, hm.lt, d4, ⟨s.ta, d5, hta⟩, d6, fun o h => (hpay o h).1, fun o h => (hpay o h).2.1, fun o h => (hpay o h).2.2, htl, hm, ents_mk qs, hF.pf, hF.rt, fun k => by rw [hq]; exact hF.ps k⟩, hq⟩
end
section
open Go Go.Conc
open Go.RowKit
def ListPost (w0 : World) (L : List Int) (err : Int) (e : Ending) (w' : World) : Prop :=
 Below w0.heap.size w0 w' ∧ (err ≠ 0 → e = .returned (.tuple #[.slice none 0 0, .int .i64 err])) ∧ (err = 0 → ∃ g, e = .returned (.tuple #[.slice (some ⟨g, 0, none⟩) L.length L.length, .int .i64 0]) ∧ w0.heap.size ≤ g ∧ Rw w' g (intsA L) 3)
theorem ListPost.no {w0 : World} {L : List Int} {err : Int} (w' : World) : ¬ ListPost w0 L err .outgrown w' := fun h => by
 rcases Classical.em (err = 0) with e | e
 ·obtain ⟨g, hx, _⟩ := h.2.2 e; cases hx
 ·cases h.2.1 e
def listF (f : Nat → Int) (n : Nat) : List Int := (List.range n).map f
theorem listF_len (f : Nat → Int) (n : Nat) : (listF f n).length = n := by simp [listF]
theorem rowF {row : Array Value} {n : Nat} {f g : Nat → Int} (hs : row.size = n) (h : ∀ i, i < n → row[i]? = some (.int .i64 (g i))) (hfg : ∀ i, g i = f i) : row = intsA (listF f n) := by
 apply Array.ext
 ·simp [intsA, listF, hs]
 ·intro i h1 h2; have := h i (by omega); rw [Array.getElem?_eq_getElem h1, hfg] at this; rw [Option.some.inj this]; simp [intsA, listF]
theorem tdueX_body : Try.f30.body = some (Code.seq (regionIn Try.f30 0) (Code.seq (regionIn Try.f30 1) (Code.seq (Code.seq (regionIn Try.f30 2) (Code.cond (Operand.tmp 15) (Code.seq (regionIn Try.f30 3) Code.ret) Code.skip)) (Code.seq (regionIn Try.f30 4) Code.ret)))) := by kernel_rfl
theorem dueX_any {M : Machine} {t : TariffV} {s : TarS} {l : List PassV} {la : Option Addr} {lc : Nat} {w : World} (ht : TarIn w t s) (hl : PassAt w la l) (hlm : l.length ≤ maxLen) : CallsX Try.prog M 30 #[.agg (tarC t s), .slice la l.length lc] w (ListPost w (listF (dueL t l) t.payers.length) (openE t l)) := by
 have hno : NoOut (bodyPost Try.prog Try.f30 (ListPost w (listF (dueL t l) t.payers.length) (openE t l))) := noOut_body ListPost.no; refine callsX_of_wpX tame Try.func30 tdueX_body ?_ ListPost.no; have hsl : Sl (⟨#[.agg (tarC t s), .slice la l.length lc] ++ Array.replicate (Try.f30.ntmps - (#[.agg (tarC t s), .slice la l.length lc] : Array Value).size) undef, []⟩ : Act) 21 [(0, .agg (tarC t s)), (1, .slice la l.length lc)] := by rw [Try.ntmps30]; exact Sl.entry2 _ _ (by omega)
 revert hsl; generalize (Act.mk _ _) = a; intro hsl; refine wpX_seq tame ?_; refine wpX.of tame ?_ (by repeat (first | assumption | apply noOut_then | apply noOut_block)); refine wr ?_; refine hsl.s ?_; clear hsl; intro a hsl; refine alloc_rwB (G := fun W => wpOps _ _ _ _ _ W) ?_; intro x hz X hb; have hI := TI.made (Below.refl _ _) ht X hb; obtain ⟨bt, hbt⟩ : ∃ b, b = w.heap.size := ⟨_, rfl⟩; rw [← hbt] at hsl hI; clear hz X hb hbt; (iterate 2 refine hsl.s ?_; clear hsl; intro a hsl); refine od ?_; refine wpX_seq tame ?_; refine wpX.of tame ?_ (by repeat (first | assumption | apply noOut_then | apply noOut_block)); refine wr ?_; refine og fun K hK => ?_
 have e2 := hsl.g 2; have c0 := hI.c0; have c1 := hI.c1; have c2 := hI.c2; have c3 := hI.c3; have c4 := hI.c4; have c5 := hI.c5; unfold Oper.wp; go_simp; clear e2; refine hsl.K hK ?_; clear hsl hK; intro a hsl; refine hsl.s ?_; clear hsl; intro a hsl; refine og fun K hK => ?_
 have e9 := hsl.g 9; have e10 := hsl.g 10; unfold Oper.wp; go_simp; refine (topen_any hI.tar (hl.below hI.below) hlm).mono ?_; rintro e x2 ⟨hb2, hN, hS⟩; have hxx := hI.below.size; replace hI := hI.keep hb2; clear e9 e10
 by_cases h1 : openE t l = 0
 ·obtain ⟨bd, mb, rfl, hbd, hmb, hD⟩ := hS h1; have HE := Lib.hid h1; have hne := bne_falseI h1; clear hS hN hb2 hxx h1; refine hsl.K hK ?_; clear hsl hK; intro a hsl; obtain ⟨x, hx2⟩ : ∃ x, x = x2 := ⟨_, rfl⟩; rw [← hx2] at hI ⊢ hD; clear hx2; (iterate 5 refine hsl.s ?_; clear hsl; intro a hsl); refine od ?_; refine wpX_seq tame ?_; refine wpX.of tame ?_ (by repeat (first | assumption | apply noOut_then | apply noOut_block)); refine wsr ?_; (iterate 2 refine hsl.s ?_; clear hsl; intro a hsl); refine od ?_; refine wp_cond_false (hsl.ev 15 rfl) ?_; refine wp_skip ?_; refine wpX_seq tame ?_; rw [show regionIn Try.f30 4 = Code.region 4 _ false from rfl]; refine wpX_region tame (by repeat (first | assumption | apply noOut_then | apply noOut_block)) ?_; refine opsX_go rfl rfl (fun K hK => ?_); have e6 := hsl.g 6; unfold Oper.wp; go_simp; clear e6; refine hsl.kX hK (by decide) ?_; clear hsl hK; intro a hsl; refine opsX_go rfl rfl (fun K hK => ?_); have e6 := hsl.g 6; unfold Oper.wp; go_simp; clear e6; refine hsl.kX hK (by decide) ?_; clear hsl hK; intro a hsl; refine opsX_go rfl rfl (fun K hK => ?_); have e18 := hsl.g 18; unfold Oper.wp; go_simp; clear e18; refine hsl.kX hK (by decide) ?_; clear hsl hK; intro a hsl; have e17 := hsl.g 17; have e19 := hsl.g 19; obtain ⟨qs, pb, po, pc, tb, to_, tc, clock, ents, hDC, hq⟩ := DeskIs.c hI.tar hD HE.out; have hFL := FineL.of (open_ok HE.out) (open_fine HE.out).1 (open_fine HE.out).2
  refine opsX_fn rfl rfl rfl Try.func78 (by kernel_rfl) (by kernel_rfl) (args := #[.pointer (some ⟨bd, 0, none⟩), .func (.func 79) #[.pointer (some ⟨bd, 0, none⟩)] #[]]) (by simp [Act.eval, Array.getD_eq_getD_getElem?, e17, e19]) (each_due hDC hFL.nt hFL.np) ?_; clear e17 e19; rintro e x2 ⟨g, row, rfl, hb, hg, hrow, hrs, hri⟩; have hxx := hI.below.size; have hG : Rw x2 g (intsA (listF (dueL t l) t.payers.length)) 3 := by have := rowF hrs hri (fun i => dueV_dueL hq i); rw [this] at hrow; exact hrow
  replace hI := hI.keep hb; have hgw : w.heap.size ≤ g := Nat.le_trans hxx hg; clear hrow hrs hri hb hD hDC hq hxx hg; obtain ⟨x, hx2⟩ : ∃ x, x = x2 := ⟨_, rfl⟩; rw [← hx2] at hI hG ⊢; clear hx2; refine ⟨_, rfl, ?_⟩; refine hsl.goX (by decide) ?_; clear hsl; intro a hsl; refine opsX_go rfl rfl (fun K hK => ?_); have e20 := hsl.g 20; unfold Oper.wp; go_simp; clear e20; refine hsl.kX hK (by decide) ?_; clear hsl hK; intro a hsl; refine opsX_go rfl rfl (fun K hK => ?_); unfold Oper.wp; go_simp; refine hsl.kX hK (by decide) ?_; clear hsl hK; intro a hsl; refine opsX_done ?_; refine wpX.of tame ?_ (by repeat (first | assumption | apply noOut_then | apply noOut_block)); refine wp_ret ?_
  try simp only [Exit.then, Exit.inBlock]
  refine bodyPost_ret (v := .tuple #[.slice (some ⟨g, 0, none⟩) t.payers.length t.payers.length, .int .i64 0]) ?_ hsl.defers ⟨hI.below, fun h => absurd HE.out h, fun _ => ⟨g, by rw [listF_len], hgw, hG⟩⟩; simp [results, Try.results30, hsl.get 4 _ rfl, hsl.get 5 _ rfl]
 ·obtain rfl := hN h1; have HE := Lib.hid h1; have hne := bne_trueI h1; clear hS hN hb2 hxx h1; refine hsl.K hK ?_; clear hsl hK; intro a hsl; obtain ⟨x, hx2⟩ : ∃ x, x = x2 := ⟨_, rfl⟩; rw [← hx2] at hI ⊢; clear hx2; (iterate 5 refine hsl.s ?_; clear hsl; intro a hsl); refine od ?_; refine wpX_seq tame ?_; refine wpX.of tame ?_ (by repeat (first | assumption | apply noOut_then | apply noOut_block)); refine wsr ?_; (iterate 2 refine hsl.s ?_; clear hsl; intro a hsl); refine od ?_; refine wp_cond_true (hsl.ev 15 rfl) ?_; refine wsr ?_; (iterate 3 refine hsl.s ?_; clear hsl; intro a hsl); refine od ?_; refine wp_ret ?_
  try simp only [Exit.then, Exit.inBlock]
  refine bodyPost_ret (v := .tuple #[.slice none 0 0, .int .i64 (openE t l)]) ?_ hsl.defers ⟨hI.below, fun _ => rfl, fun h => absurd h HE.out⟩; simp [results, Try.results30, hsl.get 4 _ rfl, hsl.get 5 _ rfl]
theorem tsevX_body : Try.f46.body = some (Code.seq (regionIn Try.f46 0) (Code.seq (regionIn Try.f46 1) (Code.seq (Code.seq (regionIn Try.f46 2) (Code.cond (Operand.tmp 15) (Code.seq (regionIn Try.f46 3) Code.ret) Code.skip)) (Code.seq (regionIn Try.f46 4) Code.ret)))) := by kernel_rfl
theorem sevX_any {M : Machine} {t : TariffV} {s : TarS} {l : List PassV} {la : Option Addr} {lc : Nat} {w : World} (ht : TarIn w t s) (hl : PassAt w la l) (hlm : l.length ≤ maxLen) : CallsX Try.prog M 46 #[.agg (tarC t s), .slice la l.length lc] w (ListPost w (listF (sevL t l) t.payers.length) (openE t l)) := by
 have hno : NoOut (bodyPost Try.prog Try.f46 (ListPost w (listF (sevL t l) t.payers.length) (openE t l))) := noOut_body ListPost.no; refine callsX_of_wpX tame Try.func46 tsevX_body ?_ ListPost.no; have hsl : Sl (⟨#[.agg (tarC t s), .slice la l.length lc] ++ Array.replicate (Try.f46.ntmps - (#[.agg (tarC t s), .slice la l.length lc] : Array Value).size) undef, []⟩ : Act) 20 [(0, .agg (tarC t s)), (1, .slice la l.length lc)] := by rw [Try.ntmps46]; exact Sl.entry2 _ _ (by omega)
 revert hsl; generalize (Act.mk _ _) = a; intro hsl; refine wpX_seq tame ?_; refine wpX.of tame ?_ (by repeat (first | assumption | apply noOut_then | apply noOut_block)); refine wr ?_; refine hsl.s ?_; clear hsl; intro a hsl; refine alloc_rwB (G := fun W => wpOps _ _ _ _ _ W) ?_; intro x hz X hb; have hI := TI.made (Below.refl _ _) ht X hb; obtain ⟨bt, hbt⟩ : ∃ b, b = w.heap.size := ⟨_, rfl⟩; rw [← hbt] at hsl hI; clear hz X hb hbt; (iterate 2 refine hsl.s ?_; clear hsl; intro a hsl); refine od ?_; refine wpX_seq tame ?_; refine wpX.of tame ?_ (by repeat (first | assumption | apply noOut_then | apply noOut_block)); refine wr ?_; refine og fun K hK => ?_
 have e2 := hsl.g 2; have c0 := hI.c0; have c1 := hI.c1; have c2 := hI.c2; have c3 := hI.c3; have c4 := hI.c4; have c5 := hI.c5; unfold Oper.wp; go_simp; clear e2; refine hsl.K hK ?_; clear hsl hK; intro a hsl; refine hsl.s ?_; clear hsl; intro a hsl; refine og fun K hK => ?_
 have e9 := hsl.g 9; have e10 := hsl.g 10; unfold Oper.wp; go_simp; refine (topen_any hI.tar (hl.below hI.below) hlm).mono ?_; rintro e x2 ⟨hb2, hN, hS⟩; have hxx := hI.below.size; replace hI := hI.keep hb2; clear e9 e10
 by_cases h1 : openE t l = 0
 ·obtain ⟨bd, mb, rfl, hbd, hmb, hD⟩ := hS h1; have HE := Lib.hid h1; have hne := bne_falseI h1; clear hS hN hb2 hxx h1; refine hsl.K hK ?_; clear hsl hK; intro a hsl; obtain ⟨x, hx2⟩ : ∃ x, x = x2 := ⟨_, rfl⟩; rw [← hx2] at hI ⊢ hD; clear hx2; (iterate 3 refine hsl.s ?_; clear hsl; intro a hsl); refine og fun K hK => ?_
  obtain ⟨vb, hg⟩ : ∃ b, b = x.heap.size := ⟨_, rfl⟩; unfold Oper.wp; go_simp; refine hsl.K hK ?_; clear hsl hK; intro a hsl; refine og fun K hK => ?_
  have e6 := hsl.g 6; have e12 := hsl.g 12; unfold Oper.wp; go_simp; clear e6 e12; refine hK _ _ ?_; clear hK; refine alloc_rwB (G := fun W => wpOps _ _ _ _ _ W) ?_; intro x hz KP hb; rw [← hg] at hsl KP; replace hI := hI.keep hb; replace hD := hD.below hb; clear hz hb hg; refine hsl.s ?_; clear hsl; intro a hsl; refine od ?_; refine wpX_seq tame ?_; refine wpX.of tame ?_ (by repeat (first | assumption | apply noOut_then | apply noOut_block)); refine wsr ?_; (iterate 2 refine hsl.s ?_; clear hsl; intro a hsl); refine od ?_; refine wp_cond_false (hsl.ev 15 rfl) ?_; refine wp_skip ?_; refine wpX_seq tame ?_; rw [show regionIn Try.f46 4 = Code.region 4 _ false from rfl]; refine wpX_region tame (by repeat (first | assumption | apply noOut_then | apply noOut_block)) ?_; refine opsX_go rfl rfl (fun K hK => ?_); have e6 := hsl.g 6; have c := KP.cell (o := 0) rfl; unfold Oper.wp; go_simp; clear e6; refine hsl.kX hK (by decide) ?_; clear hsl hK; intro a hsl; refine opsX_go rfl rfl (fun K hK => ?_); have e2 := hsl.g 2; have e6 := hsl.g 6; unfold Oper.wp; go_simp; clear e2 e6; refine hsl.kX hK (by decide) ?_; clear hsl hK; intro a hsl; have e17 := hsl.g 17; have e18 := hsl.g 18; obtain ⟨qs, pb, po, pc, tb, to_, tc, clock, ents, hDC, hq⟩ := DeskIs.c hI.tar hD HE.out; have hFL := FineL.of (open_ok HE.out) (open_fine HE.out).1 (open_fine HE.out).2
  refine opsX_fn rfl rfl rfl Try.func78 (by kernel_rfl) (by kernel_rfl) (args := #[.pointer (some ⟨bd, 0, none⟩), .func (.func 93) #[] #[.pointer (some ⟨bt, 0, none⟩), .pointer (some ⟨vb, 0, none⟩)]]) (by simp [Act.eval, Array.getD_eq_getD_getElem?, e17, e18]) (each_sev hDC KP.lt hI.kb.lt (KP.cell (o := 0) rfl) (hI.kb.cell (o := 5) rfl) hFL.nt hFL.np) ?_; clear e17 e18; rintro e x2 ⟨g, row, rfl, hb, hg, hrow, hrs, hri⟩; have hxx := hI.below.size; have hG : Rw x2 g (intsA (listF (sevL t l) t.payers.length)) 3 := by have := rowF hrs hri (fun i => sevV_sevL hq i); rw [this] at hrow; exact hrow
  replace hI := hI.keep hb; have hgw : w.heap.size ≤ g := Nat.le_trans hxx hg; clear hrow hrs hri hb hD hDC hq hxx hg KP; obtain ⟨x, hx2⟩ : ∃ x, x = x2 := ⟨_, rfl⟩; rw [← hx2] at hI hG ⊢; clear hx2; refine ⟨_, rfl, ?_⟩; refine hsl.goX (by decide) ?_; clear hsl; intro a hsl; refine opsX_go rfl rfl (fun K hK => ?_); have e19 := hsl.g 19; unfold Oper.wp; go_simp; clear e19; refine hsl.kX hK (by decide) ?_; clear hsl hK; intro a hsl; refine opsX_go rfl rfl (fun K hK => ?_); unfold Oper.wp; go_simp; refine hsl.kX hK (by decide) ?_; clear hsl hK; intro a hsl; refine opsX_done ?_; refine wpX.of tame ?_ (by repeat (first | assumption | apply noOut_then | apply noOut_block)); refine wp_ret ?_
  try simp only [Exit.then, Exit.inBlock]
  refine bodyPost_ret (v := .tuple #[.slice (some ⟨g, 0, none⟩) t.payers.length t.payers.length, .int .i64 0]) ?_ hsl.defers ⟨hI.below, fun h => absurd HE.out h, fun _ => ⟨g, by rw [listF_len], hgw, hG⟩⟩; simp [results, Try.results46, hsl.get 4 _ rfl, hsl.get 5 _ rfl]
 ·obtain rfl := hN h1; have HE := Lib.hid h1; have hne := bne_trueI h1; clear hS hN hb2 hxx h1; refine hsl.K hK ?_; clear hsl hK; intro a hsl; obtain ⟨x, hx2⟩ : ∃ x, x = x2 := ⟨_, rfl⟩; rw [← hx2] at hI ⊢; clear hx2; (iterate 3 refine hsl.s ?_; clear hsl; intro a hsl); refine og fun K hK => ?_
  obtain ⟨vb, hg⟩ : ∃ b, b = x.heap.size := ⟨_, rfl⟩; unfold Oper.wp; go_simp; refine hsl.K hK ?_; clear hsl hK; intro a hsl; refine og fun K hK => ?_
  have e6 := hsl.g 6; have e12 := hsl.g 12; unfold Oper.wp; go_simp; clear e6 e12; refine hK _ _ ?_; clear hK; refine alloc_rwB (G := fun W => wpOps _ _ _ _ _ W) ?_; intro x hz KP hb; rw [← hg] at hsl KP; replace hI := hI.keep hb; clear hz hb hg; refine hsl.s ?_; clear hsl; intro a hsl; refine od ?_; refine wpX_seq tame ?_; refine wpX.of tame ?_ (by repeat (first | assumption | apply noOut_then | apply noOut_block)); refine wsr ?_; (iterate 2 refine hsl.s ?_; clear hsl; intro a hsl); refine od ?_; refine wp_cond_true (hsl.ev 15 rfl) ?_; refine wsr ?_; (iterate 3 refine hsl.s ?_; clear hsl; intro a hsl); refine od ?_; refine wp_ret ?_
  try simp only [Exit.then, Exit.inBlock]
  refine bodyPost_ret (v := .tuple #[.slice none 0 0, .int .i64 (openE t l)]) ?_ hsl.defers ⟨hI.below, fun _ => rfl, fun h => absurd h HE.out⟩; simp [results, Try.results46, hsl.get 4 _ rfl, hsl.get 5 _ rfl]
end
end Go.Proofs.Ytgdobbcjkiapkaa
