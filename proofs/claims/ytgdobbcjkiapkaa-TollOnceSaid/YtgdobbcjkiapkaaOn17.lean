import Derived.Test.YtgdobbcjkiapkaaOn15
import Derived.Test.YtgdobbcjkiapkaaOn04
import Derived.Conc.SmallLaws
namespace Go.Proofs.Ytgdobbcjkiapkaa
set_option maxRecDepth 100000
set_option maxHeartbeats 4000000
set_option linter.unusedSimpArgs false
set_option linter.unusedVariables false
section
open Go Go.Conc
open Go.RowKit
theorem Sl.entryE {n : Nat} (x y : Value) (hn : 2 ≤ n) : Sl (⟨#[x, y] ++ Array.replicate (n - 2) undef, []⟩ : Act) n [(0, x), (1, y)] := by
 refine ⟨by simp; omega, rfl, fun t v h => ?_⟩; rw [List.lookup_cons] at h
 by_cases e : t = 0
 ·subst e; simp at h; rw [h, Array.getElem?_append_left (by simp)]; rfl
 ·have e2 : (t == 0) = false := by simpa using e
  rw [e2, List.lookup_cons] at h
  by_cases e3 : t = 1
  ·subst e3; simp at h; rw [h, Array.getElem?_append_left (by simp)]; rfl
  ·have e4 : (t == 1) = false := by simpa using e3
   rw [e4] at h; simp at h
section
variable {P : Program} {M : Machine} {Safe : Obj → Prop} {c : Nat} {fn : FuncId} {Q : Exit → Act → World → List Value → Nat → Prop} {a : Act} {w : World} {L : List Value} {K : Nat}
theorem Sl.goP {ops : Array Oper} {rest : List Nat} {n : Nat} {m : List (Nat × Value)} {d : Nat} {v : Value} (h : Sl a n m) (hd : d < n) (hG : ∀ a', Sl a' n ((d, v) :: m) → opsP P M Safe c fn ops rest Q a' w L K) : opsP P M Safe c fn ops rest Q (a.put (some d) v) w L K := hG _ (h.put d v hd)
end
section
variable {P : Program} {main : Bool} {R : World → World → Prop} {D : World → World → Array Event → Prop} {fn : FuncId} {Q : Exit → Act → World → Prop} {a : Act} {w : World}
theorem Sl.goC {ops : Array Oper} {rest : List Nat} {k n : Nat} {m : List (Nat × Value)} {d : Nat} {v : Value} (h : Sl a n m) (hd : d < n) (hG : ∀ a', Sl a' n ((d, v) :: m) → OpsC P main R D fn ops rest k Q a' w) : OpsC P main R D fn ops rest k Q (a.put (some d) v) w := hG _ (h.put d v hd)
end
theorem alloc_get (w : World) (o : Obj) (k : Nat) : (w.alloc o).heap[k]? = if k = w.heap.size then some o else w.heap[k]? := by
 show (w.heap.push o)[k]? = _; rw [Array.getElem?_push]
def SafeO : Obj → Prop := fun o => ∃ cs fz, o = .cells cs 69 fz
theorem mkchan (w : World) : (Instr.makeChan 141 (.int .i64 0)).run Try.prog w = .ok (.chan (some w.heap.size)) (w.alloc (.chan 0 #[] false 0 0 false)) := by
 obtain ⟨i, hi, hb⟩ : ∃ i, Try.prog.info? 143 = some i ∧ i.bytes = 16 := by
  have h : (Try.prog.info? 143).map (·.bytes) = some 16 := by kernel_rfl
  obtain ⟨i, hi, hb⟩ := Option.map_eq_some_iff.1 h; exact ⟨i, hi, hb⟩
 simpa using run_makeChan (P := Try.prog) (w := w) Try.underlying141 hi .i64 0 (by omega) (by rw [hb]; omega)
theorem each_body : Try.f78.body = some (Code.seq (regionIn Try.f78 0) (Code.seq (regionIn Try.f78 1) (Code.seq (Code.seq (regionIn Try.f78 2) (Code.block 0 (Code.loop (Code.seq (regionIn Try.f78 3) (Code.seq (Code.cond (Operand.tmp 17) Code.skip (Code.exit 0)) (Code.seq (Code.block 1 (Code.seq (regionIn Try.f78 4) (regionIn Try.f78 5))) (regionIn Try.f78 6)))))))
  (Code.seq (regionIn Try.f78 7) (Code.seq (Code.seq (regionIn Try.f78 8) (Code.block 2 (Code.loop (Code.seq (regionIn Try.f78 9) (Code.seq (Code.cond (Operand.tmp 35) Code.skip (Code.exit 2)) (Code.seq (Code.block 3 (Code.seq (regionIn Try.f78 10) (regionIn Try.f78 11))) (regionIn Try.f78 12))))))) (Code.seq (regionIn Try.f78 13) Code.ret)))))) := by kernel_rfl
theorem each_h0 {Q : Exit → Act → World → Prop} (w : World) (bd : Nat) (fc : FuncId) (first cap : Array Value) (a : Act) (hsl : Sl a 46 [(0, .pointer (some ⟨bd, 0, none⟩)), (1, .func (.func fc) first cap)])
  (hQ : ∀ a' w', Sl a' 46 [(0, .pointer (some ⟨bd, 0, none⟩)), (3, .pointer (some ⟨w.heap.size, 0, none⟩))] → w' = w.alloc (.cells #[.func (.func fc) first cap] 35) → Q .normal a' w') :
  (regionIn Try.f78 0).wp Try.prog Q a w := by
 refine wr ?_; refine og fun K hK => ?_
 have e1 := hsl.g 1; unfold Oper.wp; go_simp; refine hK _ _ ?_; clear hK e1; refine hsl.go (by decide) ?_; clear hsl; intro a1 hsl; refine og fun K hK => ?_
 unfold Oper.wp; go_simp; refine hK _ _ ?_; clear hK; refine hsl.go (by decide) ?_; clear hsl; intro a1 hsl; refine od ?_; exact hQ _ _ hsl.sb rfl
theorem each_h1 {Q : Exit → Act → World → Prop} (w : World) (bd : Nat) (fc : FuncId) (first cap : Array Value) (a : Act) (wx : World) (hwx : wx = w.alloc (.cells #[.func (.func fc) first cap] 35)) (hsl : Sl a 46 [(0, .pointer (some ⟨bd, 0, none⟩)), (3, .pointer (some ⟨w.heap.size, 0, none⟩))])
  (hQ : ∀ a' w', Sl a' 46 [(0, .pointer (some ⟨bd, 0, none⟩)), (3, .pointer (some ⟨w.heap.size, 0, none⟩)), (5, .pointer (some ⟨w.heap.size + 2, 0, none⟩))] → Below w.heap.size w w' → w'.heap[w.heap.size]? = some (.cells #[.func (.func fc) first cap] 35 (0, 0)) → w'.heap[w.heap.size + 1]? = some (.chan 0 #[] false 0 0 false) →
   w'.heap[w.heap.size + 2]? = some (.cells #[.chan (some (w.heap.size + 1))] 141 (0, 0)) → w'.heap.size = w.heap.size + 3 → Q .normal a' w') :
  (regionIn Try.f78 1).wp Try.prog Q a wx := by
 subst hwx; refine wr ?_; refine og fun K hK => ?_
 unfold Oper.wp; go_simp; rw [mkchan]; go_simp; refine hK _ _ ?_; clear hK; refine hsl.go (by decide) ?_; clear hsl; intro a1 hsl; refine og fun K hK => ?_
 unfold Oper.wp; go_simp; refine hK _ _ ?_; clear hK; refine hsl.go (by decide) ?_; clear hsl; intro a1 hsl; refine og fun K hK => ?_
 have e5 := hsl.g 5; have e9 := hsl.g 9; unfold Oper.wp; go_simp; refine hK _ _ ?_; clear hK; refine od ?_; refine hQ _ _ ?_ ?_ ?_ ?_ ?_ ?_
 ·exact hsl.sb
 ·exact (((Below.refl _ w).alloc (Nat.le_refl _) _).alloc (by simp) _).alloc (by simp; omega) _
 ·rw [alloc_get, alloc_get, alloc_get, if_neg (by simp; omega), if_neg (by simp), if_pos rfl]
 ·rw [alloc_get, alloc_get, if_neg (by simp), if_pos (by simp)]
 ·rw [alloc_get, if_pos (by simp)]
 ·simp
theorem run_callV {P : Program} {a : Act} {w : World} {o : Oper} {x : Operand} {f : FuncId} {first cap : Array Value} {F : Func} {args : Array Operand} {ats : Array TypeId} (hop : o.op = .call { callee := .value x, args, argTypes := ats }) (hx : a.eval x = .func (.func f) first cap)
  (hf : P.funcs[f]? = some F) (hname : (F.name == "runtime.NumGoroutine") = false) (hb : F.body.isNone = false) : (execOp a.eval o).run P w = .ok (.enter f (first ++ args.map a.eval ++ cap)) w := by
 have h1 : ¬ F.name = "runtime.NumGoroutine" := by simpa using hname
 have h2 : ¬ F.body = none := by cases hx : F.body <;> simp_all
 unfold execOp; simp [hop, resolve, Deferred.ofValue, invoke, callFunc, hf, h1, h2, hx]
theorem events_callV {P : Program} {a : Act} {w : World} {o : Oper} {x : Operand} {f : FuncId} {first cap : Array Value} {F : Func} {args : Array Operand} {ats : Array TypeId} (hop : o.op = .call { callee := .value x, args, argTypes := ats }) (hx : a.eval x = .func (.func f) first cap)
  (hf : P.funcs[f]? = some F) (hname : (F.name == "runtime.NumGoroutine") = false) (hb : F.body.isNone = false) (es : Array Event) : (execOp a.eval o).events P w es = es := by
 have h1 : ¬ F.name = "runtime.NumGoroutine" := by simpa using hname
 have h2 : ¬ F.body = none := by cases hx : F.body <;> simp_all
 unfold execOp; simp [hop, resolve, Deferred.ofValue, invoke, callFunc, hf, h1, h2, hx]
noncomputable def bot : Frame := { (default : Frame) with fn := Try.prog.funcs.size, defers := [], mode := .panicking [goexitEntry] }
noncomputable def baseD (f : FuncId) : Frame := { (default : Frame) with fn := f, kind := .deferred }
theorem each1_body : Try.f110.body = some (regionIn Try.f110 0) := by kernel_rfl
theorem born_step (x y z : Value) (w : World) : stepG Try.prog false (born Try.prog { target := .fn (.func 110) #[x, y, z], args := #[] }) w =
  .go (G ((baseD 110).at ⟨#[x, y, z, undef, undef, undef, undef, undef, undef], []⟩ [.code (regionIn Try.f110 0)]) [bot]) w #[] := by
 have hn : ¬ Try.f110.name = "runtime.NumGoroutine" := by
  have : (Try.f110.name == "runtime.NumGoroutine") = false := by kernel_rfl
  simpa using this
 simp [hn, Try.ntmps110, born, stepG, unwind, callDeferred, invoke, callFunc, Try.func110, each1_body, seen, GStep.after, G, Frame.enter, Frame.at, baseD, bot]
theorem quitsTail (T : Array Value) : QuitsD Try.prog 2 0 (G { (baseD 110).at ⟨T, []⟩ [] with mode := .returning } [bot]) := by
 refine QuitsD.ctl (g' := G bot []) rfl (fun w => ?_) ?_
 ·simp [G, stepG, unwind, doReturn, results, Frame.at, baseD, bot, Try.func110, Try.results110, seen, GStep.after, goexitEntry]
 refine QuitsD.ctl (g' := { G bot [] with status := .finished }) rfl (fun w => ?_) ⟨rfl, rfl⟩; simp [G, stepG, unwind, bot, goexitEntry, Frame.catches]
 rfl
theorem quitsAll (a : Act) (hd : a.defers = []) (ops : Array Oper) (ho : (ops[6]?).bind (·.dst) = none) : QuitsD Try.prog 4 0 (Conc.served (G ((baseD 110).at a [.inRegion ops [6]]) [bot]) undef) := by
 have e : Conc.served (G ((baseD 110).at a [.inRegion ops [6]]) [bot]) undef = G ((baseD 110).at a [.inRegion ops []]) [bot] := by
  have hfin := Frame.finish_at (baseD 110) a ops 6 [] [] undef; rw [ho] at hfin; unfold Conc.served G; simp only [hfin]
  rfl
 rw [e]; obtain ⟨T, ds⟩ := a; obtain rfl : ds = [] := hd; refine QuitsD.ctl rfl (fun w => stepG_region_end) ?_; refine QuitsD.ctl rfl (fun w => stepG_end) ?_; exact quitsTail _
theorem row_cell {w : World} {b o : Nat} {cs : Array Value} {ty : TypeId} {fz : Nat × Nat} {v : Value} (h : w.heap[b]? = some (.cells cs ty fz)) (ho : cs[o]? = some v) : w.cell? ⟨b, o, none⟩ = some v := by simp [World.cell?, h, ho]
theorem waits_mem {o : Oper} {d : Nat} (h : (waits o).contains d = true) : d ∈ waits o := by simpa using h
theorem RelyW.row {Safe : Obj → Prop} {c N : Nat} {w w₁ : World} (h : RelyW Safe c N w w₁) {b : Nat} {o : Obj} (ho : w.heap[b]? = some o) (hb : b < N) (hc : b ≠ c) : w₁.heap[b]? = some o :=
 (h.block b (lt_of_some ho) (.inl ⟨hb, hc⟩)).trans ho
theorem reads_cell {Safe : Obj → Prop} {c N : Nat} {w : World} {b o : Nat} (hb : b < w.heap.size) (hf : Fixed Safe c N w b) : ∀ x, (MemAct.ofEvent ⟨.cell ⟨b, o, none⟩, false, false⟩).touch? = some x → ∀ b', blk x.loc = some b' → x.write = false ∧ b' < w.heap.size ∧ Fixed Safe c N w b' := by
 intro x hx b' hb'; simp [MemAct.ofEvent, MemAct.touch?] at hx; subst hx; simp [blk] at hb'; subst hb'; exact ⟨rfl, hb, hf⟩
theorem tkey {c N mf : Nat} {w : World} {i v : Int} {fc : FuncId} {first cap : Array Value} (a : Act) (fn : FuncId)
  (hcall : ∀ w₁, RelyW SafeO c N w w₁ → CallsC Try.prog false (RelyW SafeO c N) (GuarW SafeO c N) fc (first ++ #[.int .i64 i] ++ cap) mf w₁ (fun x w' => x = .int .i64 v ∧ RelyW SafeO c N w₁ w'))
 (ops : Array Oper) (o : Oper) (h4 : ops[4]? = some o) (hgd : o.guard = none) (hr : ∀ w, (execOp a.eval o).run Try.prog w = .ok (.enter fc (first ++ #[.int .i64 i] ++ cap)) w ∧ listed Try.prog fn a o w = #[]) : OpN Try.prog false (RelyW SafeO c N) (GuarW SafeO c N) fn ops 4 (mf + 3) (fun a' w' => RelyW SafeO c N w w' ∧ ∃ x, a' = a.put o.dst x ∧ x = .int .i64 v) a w := by
 have hcl := hcall w (RelyW.refl w); exact opN_callV termsW h4 hgd hr hcl (fun x w' hx => ⟨hx.2, _, rfl, hx.1⟩)
theorem tkey2 {w : World} {i : Int} {fc : FuncId} {F : Func} {first cap : Array Value} (a : Act)
  (hF : Try.prog.funcs[fc]? = some F) (hname : (F.name == "runtime.NumGoroutine") = false) (hbody : F.body.isNone = false)
  (E5 : a.eval (.tmp 5) = .func (.func fc) first cap) (E6 : a.eval (.tmp 6) = .int .i64 i)
 (o : Oper) (hop : o.op = .call { callee := .value (.tmp 5), args := #[.tmp 6], argTypes := #[3] }) : (execOp a.eval o).run Try.prog w = .ok (.enter fc (first ++ #[.int .i64 i] ++ cap)) w := by
 have h := run_callV (P := Try.prog) (w := w) hop E5 hF hname hbody; rw [h, List.map_toArray, List.map_cons, List.map_nil, E6]
theorem tkey3 {w : World} {fn : FuncId} {fc : FuncId} {F : Func} {first cap : Array Value} (a : Act)
  (hF : Try.prog.funcs[fc]? = some F) (hname : (F.name == "runtime.NumGoroutine") = false) (hbody : F.body.isNone = false)
  (E5 : a.eval (.tmp 5) = .func (.func fc) first cap)
 (o : Oper) (hop : o.op = .call { callee := .value (.tmp 5), args := #[.tmp 6], argTypes := #[3] }) : listed Try.prog fn a o w = #[] := listed_nil (events_callV (P := Try.prog) hop E5 hF hname hbody #[])
theorem each1_goes {c N mf : Nat} {w : World} {bs bo bc : Nat} {i v : Int} {fc : FuncId} {F : Func} {first cap : Array Value}
  (hs : w.heap[bs]? = some (.cells #[.chan (some c)] 141 (0, 0))) (hsN : bs < N) (hsc : bs ≠ c) (ho : w.heap[bo]? = some (.cells #[.int .i64 i] 3 (0, 0))) (hoN : bo < N) (hoc : bo ≠ c)
  (hf : w.heap[bc]? = some (.cells #[.func (.func fc) first cap] 35 (0, 0))) (hfN : bc < N) (hfc : bc ≠ c)
  (hF : Try.prog.funcs[fc]? = some F) (hname : (F.name == "runtime.NumGoroutine") = false) (hbody : F.body.isNone = false)
  (hcall : ∀ w₁, RelyW SafeO c N w w₁ → CallsC Try.prog false (RelyW SafeO c N) (GuarW SafeO c N) fc (first ++ #[.int .i64 i] ++ cap) mf w₁ (fun x w' => x = .int .i64 v ∧ RelyW SafeO c N w₁ w')) :
  Goes Try.prog false (RelyW SafeO c N) (GuarW SafeO c N) (AtSnd Try.prog SafeO c N (.agg #[.int .i64 i, .int .i64 v])) (7 * (mf + 3) + 2)
   (born Try.prog { target := .fn (.func 110) #[.pointer (some ⟨bs, 0, none⟩), .pointer (some ⟨bo, 0, none⟩), .pointer (some ⟨bc, 0, none⟩)], args := #[] }) w := by
 refine Goes.step rfl fun w₁ h₁ => ?_
 rw [born_step]; refine ⟨GuarW.idle _, ?_⟩; have hs' := h₁.row hs hsN hsc; have ho' := h₁.row ho hoN hoc; have hf' := h₁.row hf hfN hfc; have hcall' : ∀ w₂, RelyW SafeO c N w₁ w₂ → CallsC Try.prog false (RelyW SafeO c N) (GuarW SafeO c N) fc (first ++ #[.int .i64 i] ++ cap) mf w₂ (fun x w' => x = .int .i64 v ∧ RelyW SafeO c N w₂ w') := fun w₂ h₂ => hcall w₂ (h₁.trans h₂)
 clear hs ho hf hcall h₁; revert hs' ho' hf' hcall'; generalize w₁ = w; intro hs ho hf hcall; rw [show regionIn Try.f110 0 = Code.region 0 _ true from rfl]
 have hsl : Sl (⟨#[.pointer (some ⟨bs, 0, none⟩), .pointer (some ⟨bo, 0, none⟩), .pointer (some ⟨bc, 0, none⟩), undef, undef, undef, undef, undef, undef], []⟩ : Act) 9 [(0, .pointer (some ⟨bs, 0, none⟩)), (1, .pointer (some ⟨bo, 0, none⟩)), (2, .pointer (some ⟨bc, 0, none⟩))] :=
  ((Sl.nil ⟨rfl, rfl, fun t v hv => by simp at hv⟩ (m := [])).cons (t := 2) rfl |>.cons (t := 1) rfl).cons (t := 0) rfl
 have hread : ∀ (bb : Nat) (ob : Obj), w.heap[bb]? = some ob → bb < N → bb ≠ c → ∀ w₂, RelyW SafeO c N w w₂ → ∀ x, (MemAct.ofEvent ⟨.cell ⟨bb, 0, none⟩, false, false⟩).touch? = some x → ∀ b', blk x.loc = some b' → x.write = false ∧ b' < w₂.heap.size ∧ Fixed SafeO c N w₂ b' :=
  fun bb ob h1 h2 h3 w₂ h => reads_cell (Nat.lt_of_lt_of_le (lt_of_some h1) h.size) (.inl ⟨h2, h3⟩)
 refine goes_sl_last (B := mf + 3) (fn := 110) (by kernel_rfl) termsW letsDrawW drawW (z := 6) rfl (by kernel_rfl) hsl [some 3, some 4, some 5, some 6, some 7, some 8, none] rfl rfl (by kernel_rfl)
  (fun j x => match j with | 0 => x = .chan (some c) | 1 => x = .int .i64 i | 2 => x = .func (.func fc) first cap | 3 => x = .int .i64 i | 4 => x = .int .i64 v | 5 => x = .agg #[.int .i64 i, .int .i64 v] | _ => True) rfl (by simp [baseD]) ?_ ?_
 ·clear hsl; intro k o hk ho' L a hLk hsl hsc' hd; have hlt : ∀ k : Nat, k < 6 → k = 0 ∨ k = 1 ∨ k = 2 ∨ k = 3 ∨ k = 4 ∨ k = 5 := by decide
  rcases hlt k hk with rfl | rfl | rfl | rfl | rfl | rfl
  ·obtain rfl := Option.some.inj ho'; have e0 := hsl.g 0; clear hsc' hd; refine (opN_val (.chan (some c)) rfl rfl (fun w₂ h₂ => ?_) (fun w₂ h₂ => ⟨h₂, _, rfl, rfl⟩)).more (by omega); have hc := row_cell (o := 0) (h₂.row hs hsN hsc) rfl; refine ⟨run_eq_of (fun K hK => ?_), GuarW.still ?_⟩
   ·go_simp; exact hK
   ·have hr := hread _ _ hs hsN hsc w₂ h₂
    co_evs (exact hr)
  ·obtain rfl := Option.some.inj ho'; have e1 := hsl.g 1; clear hsc' hd; refine (opN_val (.int .i64 i) rfl rfl (fun w₂ h₂ => ?_) (fun w₂ h₂ => ⟨h₂, _, rfl, rfl⟩)).more (by omega); have hc := row_cell (o := 0) (h₂.row ho hoN hoc) rfl; refine ⟨run_eq_of (fun K hK => ?_), GuarW.still ?_⟩
   ·go_simp; exact hK
   ·have hr := hread _ _ ho hoN hoc w₂ h₂
    co_evs (exact hr)
  ·obtain rfl := Option.some.inj ho'; have e2 := hsl.g 2; clear hsc' hd; refine (opN_val (.func (.func fc) first cap) rfl rfl (fun w₂ h₂ => ?_) (fun w₂ h₂ => ⟨h₂, _, rfl, rfl⟩)).more (by omega); have hc := row_cell (o := 0) (h₂.row hf hfN hfc) rfl; refine ⟨run_eq_of (fun K hK => ?_), GuarW.still ?_⟩
   ·go_simp; exact hK
   ·have hr := hread _ _ hf hfN hfc w₂ h₂
    co_evs (exact hr)
  ·obtain rfl := Option.some.inj ho'; have e1 := hsl.g 1; clear hsc' hd; refine (opN_val (.int .i64 i) rfl rfl (fun w₂ h₂ => ?_) (fun w₂ h₂ => ⟨h₂, _, rfl, rfl⟩)).more (by omega); have hc := row_cell (o := 0) (h₂.row ho hoN hoc) rfl; refine ⟨run_eq_of (fun K hK => ?_), GuarW.still ?_⟩
   ·go_simp; exact hK
   ·have hr := hread _ _ ho hoN hoc w₂ h₂
    co_evs (exact hr)
  ·obtain rfl := Option.some.inj ho'; obtain ⟨v5, e5, hv5⟩ := hsc' 2 _ 5 rfl rfl (hd 2 wm); obtain rfl := hv5; obtain ⟨v6, e6, hv6⟩ := hsc' 3 _ 6 rfl rfl (hd 3 wm); obtain rfl := hv6; clear hsc' hd; have E5 : a.eval (.tmp 5) = .func (.func fc) first cap := by simp [Act.eval, Array.getD_eq_getD_getElem?, e5]
   have E6 : a.eval (.tmp 6) = .int .i64 i := by simp [Act.eval, Array.getD_eq_getD_getElem?, e6]
   exact tkey a _ hcall _ _ rfl rfl (fun w₂ => ⟨tkey2 a hF hname hbody E5 E6 _ rfl, tkey3 a hF hname hbody E5 _ rfl⟩)
  ·obtain rfl := Option.some.inj ho'; obtain ⟨v4, e4, hv4⟩ := hsc' 1 _ 4 rfl rfl (hd 1 wm); obtain rfl := hv4; obtain ⟨v7, e7, hv7⟩ := hsc' 4 _ 7 rfl rfl (hd 4 wm); obtain rfl := hv7; clear hsc' hd; refine (opN_val (.agg #[.int .i64 i, .int .i64 v]) rfl rfl (fun w₂ h₂ => ?_) (fun w₂ h₂ => ⟨h₂, _, rfl, rfl⟩)).more (by omega); exact oq
 ·intro a w' hr hsl' hd'; obtain ⟨v3, e3, hv3⟩ := hd' 0 _ 3 (by omega) rfl rfl; obtain rfl := hv3; obtain ⟨v8, e8, hv8⟩ := hd' 5 _ 8 (by omega) rfl rfl; obtain rfl := hv8; clear hd'; refine fun w₂ h₂ => ⟨rfl, _, .tuple #[], _, 4, stepG_comm rfl (by rfl) (by simp [baseD]) ?_, ?_, ?_⟩
  ·simp [execOp, scase, Act.eval, Array.getD_eq_getD_getElem?, e3, e8]
  ·rw [listed_nil (by simp [go_sem, execOp, Act.eval, Array.getD_eq_getD_getElem?, e3, e8])]; exact GuarW.idle _
  ·exact quitsAll _ hsl'.defers _ rfl
end
section
open Go Go.Conc
open Go.RowKit
theorem eq_gate (w : World) (es : Array Event) (a b x y : Int) : (Op.equal 140 (.agg #[.int .i64 a, .int .i64 b]) (.agg #[.int .i64 x, .int .i64 y])).run Try.prog w = .ok (a == x && b == y) w ∧
  (Op.equal 140 (.agg #[.int .i64 a, .int .i64 b]) (.agg #[.int .i64 x, .int .i64 y])).events Try.prog w es = es := by
 have hu := Try.underlying140; have hi := Try.underlying3; have hst : Try.prog.stoodInHeld 140 = false := by kernel_rfl
 have hp : (Sem.program Sem.pure : Sem Program).run Try.prog w = .ok Try.prog w := rfl; have hpe : ∀ es, (Sem.program Sem.pure : Sem Program).events Try.prog w es = es := fun _ => rfl
 have he : Op.equal 140 (.agg #[.int .i64 a, .int .i64 b]) (.agg #[.int .i64 x, .int .i64 y]) = Op.equalIn (9998 + 1 + 1) 140 (.agg #[.int .i64 a, .int .i64 b]) (.agg #[.int .i64 x, .int .i64 y]) := rfl; rw [he, Op.equalIn]
 constructor
 ·simp [run_underlying hu, hst, go_sem, program, hp]
  by_cases h1 : a = x <;> by_cases h2 : b = y <;> simp [h1, h2]
 ·have hei : ∀ (x y : Int) (w : World) (es : Array Event), (Op.equalIn 9999 3 (.int .i64 x) (.int .i64 y)).events Try.prog w es = es := fun x y w es => by
   rw [show (9999 : Nat) = 9998 + 1 from rfl, Op.equalIn]; simp [run_underlying hi, go_sem]
  simp [run_underlying hu, hst, go_sem, program, hp, hpe]
  by_cases h1 : a = x <;> by_cases h2 : b = y <;> simp [h1, h2, hei]
def gk (k : Int × Int) : Value := .agg #[.int .i64 k.1, .int .i64 k.2]
def EntsOf (ents : List MapEntry) (l : List ((Int × Int) × Int)) : Prop := ents.map (fun e => (e.key, e.val)) = l.map fun p => (gk p.1, .int .i64 p.2)
def atK (l : List ((Int × Int) × Int)) (k : Int × Int) : Option Int := (l.find? fun p => p.1 == k).map (·.2)
theorem findA_gate (w : World) (k : Int × Int) : ∀ (ents : List MapEntry) (l : List ((Int × Int) × Int)) (i : Nat) (es : Array Event), EntsOf ents l →
  (∃ r, (Instr.findAsking 140 (gk k) ents i).run Try.prog w = .ok r w ∧ r.map (·.2) = (atK l k).map (Value.int .i64)) ∧ (Instr.findAsking 140 (gk k) ents i).events Try.prog w es = es
 | [], l, i, es, h => by
  have : l = [] := by cases l with | nil => rfl | cons x l => simp [EntsOf] at h
  subst this; exact ⟨⟨none, rfl, rfl⟩, rfl⟩
 | e :: ents, l, i, es, h => by
  cases l with
  | nil => simp [EntsOf] at h
  | cons p l =>
   obtain ⟨⟨p1, p2⟩, pv⟩ := p; obtain ⟨k1, k2⟩ := k; simp only [EntsOf, List.map_cons, List.cons.injEq, Prod.mk.injEq] at h; obtain ⟨⟨hk, hv⟩, hr⟩ := h; obtain ⟨⟨r, ih1, ih2⟩, ih3⟩ := findA_gate w (k1, k2) ents l (i + 1) es hr; have heq := eq_gate w es k1 k2 p1 p2; rw [Instr.findAsking, hk]; unfold gk at *
   by_cases hkk : k1 = p1 ∧ k2 = p2
   ·obtain ⟨rfl, rfl⟩ := hkk; refine ⟨⟨some (i, e.val), ?_, ?_⟩, ?_⟩
    ·simp [go_sem, heq.1]
    ·simp [atK, hv]
    ·simp [go_sem, heq.1, heq.2]
   ·have hne : (k1 == p1 && k2 == p2) = false := by
     simp only [Bool.and_eq_false_iff, beq_eq_false_iff_ne]
     by_cases h1 : k1 = p1
     ·exact .inr fun h2 => hkk ⟨h1, h2⟩
     ·exact .inl h1
    have hne2 : ((p1, p2) == (k1, k2)) = false := by
     simp only [beq_eq_false_iff_ne, ne_eq, Prod.mk.injEq]; exact fun h => hkk ⟨h.1.symm, h.2.symm⟩
    rw [hne] at heq; refine ⟨⟨r, ?_, ?_⟩, ?_⟩
    ·simp [go_sem, heq.1, ih1]
    ·rw [ih2]; simp [atK, hne2]
    ·simp [go_sem, heq.1, heq.2, ih3]
theorem check_gate (em : Bool) (w : World) (es : Array Event) (k : Int × Int) : (Instr.checkKey em 10000 140 (gk k)).run Try.prog w = .ok () w ∧ (Instr.checkKey em 10000 140 (gk k)).events Try.prog w es = es := by
 have hu := Try.underlying140; have hi := Try.underlying3
 have hci : ∀ (x : Int) (w : World) (es : Array Event), (Instr.checkKey em 9999 3 (.int .i64 x)).run Try.prog w = .ok () w ∧ (Instr.checkKey em 9999 3 (.int .i64 x)).events Try.prog w es = es := fun x w es => by
  rw [show (9999 : Nat) = 9998 + 1 from rfl, Instr.checkKey]
  constructor <;> simp [run_underlying hi, go_sem]
 have hc1 : ∀ (x : Int) (w : World), (Instr.checkKey em 9999 3 (.int .i64 x)).run Try.prog w = .ok () w := fun x w => (hci x w #[]).1
 have hc2 : ∀ (x : Int) (w : World) (es : Array Event), (Instr.checkKey em 9999 3 (.int .i64 x)).events Try.prog w es = es := fun x w es => (hci x w es).2
 clear hci; rw [show (10000 : Nat) = 9999 + 1 from rfl, Instr.checkKey]; unfold gk
 constructor
 ·simp [run_underlying hu, go_sem, hc1]
 ·simp [run_underlying hu, go_sem, hc1, hc2]
theorem findK_gate (w : World) (k : Int × Int) (ents : List MapEntry) (l : List ((Int × Int) × Int)) (es : Array Event) (h : EntsOf ents l) :
  (∃ r, (Instr.findKey 140 (gk k) ents).run Try.prog w = .ok r w ∧ r.map (·.2) = (atK l k).map (Value.int .i64)) ∧ (Instr.findKey 140 (gk k) ents).events Try.prog w es = es := by
 have hu := Try.underlying140; obtain ⟨⟨r, h1, h2⟩, h3⟩ := findA_gate w k ents l 0 es h
 cases ents with
 | nil =>
  have : l = [] := by cases l with | nil => rfl | cons x l => simp [EntsOf] at h
  subst this; refine ⟨⟨none, ?_, rfl⟩, ?_⟩
  ·simp [Instr.findKey, run_underlying hu, go_sem, Instr.findNow]
  ·simp [Instr.findKey, run_underlying hu, go_sem, Instr.findNow]
 | cons e ents =>
  refine ⟨⟨r, ?_, h2⟩, ?_⟩
  ·simp [Instr.findKey, run_underlying hu, go_sem, Instr.findNow, Instr.sameNow, h1]
  ·simp [Instr.findKey, run_underlying hu, go_sem, Instr.findNow, Instr.sameNow, h3]
theorem events_getMap {w : World} {mb clock : Nat} {ents : Array MapEntry} (hm : w.heap[mb]? = some (.map ents clock)) (es : Array Event) : (getObj mb).events Try.prog w es = es.push ⟨.obj mb, false, false⟩ := by
 simp [getObj, Sem.events, Sem.runT, hm, Obj.isChan, -Sem.runT_eq]
theorem lookup_gate (w : World) (mb clock : Nat) (ents : Array MapEntry) (l : List ((Int × Int) × Int)) (es : Array Event) (k : Int × Int) (hm : w.heap[mb]? = some (.map ents clock)) (h : EntsOf ents.toList l) :
  (Instr.lookup 101 (.map (some mb)) (gk k) false).run Try.prog w = .ok (.int .i64 ((atK l k).getD 0)) w ∧
   (Instr.lookup 101 (.map (some mb)) (gk k) false).events Try.prog w es = es.push ⟨.obj mb, false, false⟩ := by
 have hu := Try.underlying101; obtain ⟨⟨r, h1, h2⟩, h3⟩ := findK_gate w k ents.toList l (es.push ⟨.obj mb, false, false⟩) h; have hc := check_gate ents.isEmpty w (es.push ⟨.obj mb, false, false⟩) k; have hz : (zeroValue 3).run Try.prog w = .ok (.int .i64 0) w := by simp [go_sem]
 have hres : (∃ j v, r = some (j, .int .i64 v) ∧ atK l k = some v) ∨ (r = none ∧ atK l k = none) := by
  cases hk : atK l k with
  | none => rw [hk] at h2; cases r with | none => exact .inr ⟨rfl, rfl⟩ | some x => simp at h2
  | some v =>
   rw [hk] at h2
   cases r with
   | none => simp at h2
   | some x =>
    obtain ⟨j, y⟩ := x; simp at h2; subst h2; exact .inl ⟨j, v, rfl, rfl⟩
 constructor
 ·simp [Instr.lookup, run_underlying hu, go_sem, MapKept.run_getObj_map hm, hc.1, h1]; rcases hres with ⟨j, v, rfl, hk⟩ | ⟨rfl, hk⟩
  ·rw [hk]; simp
  ·rw [hk]; simp
 ·simp [Instr.lookup, run_underlying hu, go_sem, MapKept.run_getObj_map hm, hc.1, hc.2, h1, h3]; rcases hres with ⟨j, v, rfl, hk⟩ | ⟨rfl, hk⟩
  ·rw [events_getMap hm, hc.2, h3]; rfl
  ·rw [events_getMap hm, hc.2, h3]; simp [go_sem]
end
end Go.Proofs.Ytgdobbcjkiapkaa
