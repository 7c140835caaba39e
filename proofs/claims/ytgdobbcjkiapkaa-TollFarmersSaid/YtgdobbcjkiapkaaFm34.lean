import Derived.Test.YtgdobbcjkiapkaaFm04
import Derived.Test.YtgdobbcjkiapkaaFm02
import Derived.Test.YtgdobbcjkiapkaaFm21
import Derived.Test.YtgdobbcjkiapkaaFm33
import Derived.Test.YtgdobbcjkiapkaaFm18
import Derived.Test.YtgdobbcjkiapkaaFm32
namespace Go.Proofs.Ytgdobbcjkiapkaa
set_option maxRecDepth 100000
set_option maxHeartbeats 4000000
set_option linter.unusedSimpArgs false
set_option linter.unusedVariables false
section
open Go.RowKit
def Hq (l:List Int):Int:=l.foldl (·+·) 0
theorem LC {l:List Int} {k:Nat} (h:k < l.length):Hq (l.take (k+1))=Hq (l.take k)+l[k]:=by
 unfold Hq;rw [List.take_succ_eq_append_getElem h,List.foldl_append];rfl
theorem Oz {l:List Int} (h:∀ x∈l,-1000000000≤x∧x≤1000000000):∀ k,k≤l.length→-(1000000000*(k:Int))≤Hq (l.take k)∧Hq (l.take k)≤1000000000*(k:Int):=by
 intro k
 induction k with
 | zero=>intro _;simp [Hq]
 | succ k ih =>
  intro hk;have:=ih (by omega);have h2:=h _ (List.getElem_mem (show k < l.length by omega));rw [LC (by omega)]
  push_cast;omega
theorem Rj:Try.f32.body=some (Code.seq (Aa Try.f32 0) (Code.seq (Aa Try.f32 1) (Code.seq (Code.seq (Aa Try.f32 2) (Code.block 0 (Code.loop (Code.seq (Code.seq (Aa Try.f32 3) (Code.cond (Operand.tmp 8) Code.skip (Code.exit 0))) (Code.seq (Code.block 1 (Aa Try.f32 5)) (Aa Try.f32 4)))))) (Code.seq (Aa Try.f32 6) Code.ret)))):=by kernel_rfl
theorem total_any {w:World} {la:Option Addr} {lc:Nat} {l:List Int} (hl:AV w la l) (hn:l.length≤1000000) (hB:∀ x∈l,-1000000000≤x∧x≤1000000000):Calls Try.prog 32 #[.slice la l.length lc] w (fun e w'=>e = .returned (.int .i64 (Hq l))∧w=w'):=by
 refine Qs Try.func32 Rj Try.ntmps32 ?_;intro a Z;refine wsr ?_;refine Z.s ?_;clear Z;intro a Z;refine od ?_;refine wsr ?_;refine Z.s ?_;clear Z;intro a Z;refine od ?_;refine wp_seq ?_;refine wsr ?_;refine Z.s ?_;clear Z;intro a Z;refine od ?_;refine wp_block ?_;refine wp_loop_ghost (fun n p x=>∃ k:Nat,k+n=l.length∧x=w∧Sl p 18 [(4, .int .i64 (k:Int)),(0, .slice la l.length lc),(3, .int .i64 (Hq (l.take k)))]) (l.length) ⟨0,by omega,rfl,Z.sb⟩ ?_;clear Z;rintro n a x ⟨k,hkn,hwx,Z⟩;subst hwx;refine wp_seq ?_;refine wsr ?_;(iterate 3 refine Z.s ?_;clear Z;intro a Z)
 by_cases hlt:k < l.length
 ·have q1:(k:Int) < (l.length:Int):=by omega
  refine Z.s ?_;clear Z;intro a Z;refine od ?_;refine wp_cond_true (Z.ev 8 rfl) ?_;refine wp_skip ?_;refine wp_seq ?_;refine wp_block ?_;refine wr ?_;(iterate 3 refine Z.s ?_;clear Z;intro a Z);refine og fun K hK =>?_
  have e12:=Z.g 12;have e13:=Z.g 13;obtain ⟨b,o,rfl,hc⟩:=hl.at hlt;unfold Oper.wp;go_simp;clear e12 e13;refine Z.K hK ?_;clear Z hK;intro a Z;refine Z.s ?_;clear Z;intro a Z;refine og fun K hK =>?_
  have e11:=Z.g 11;have e15:=Z.g 15;have hw:=IntWalk.i64_in (Hq (l.take k)+l[k]) (by have:=Oz hB k (by omega);have:=hB _ (List.getElem_mem hlt);omega);unfold Oper.wp;go_simp;clear e11 e15;refine Z.K hK ?_;clear Z hK;intro a Z;refine Z.s ?_;clear Z;intro a Z;refine od ?_;refine wr ?_;refine Z.s ?_;clear Z;intro a Z;refine og fun K hK =>?_
  have e9:=Z.g 9;have hw:=A8 k (by omega);unfold Oper.wp;go_simp;clear e9;refine Z.K hK ?_;clear Z hK;intro a Z;refine Z.s ?_;clear Z;intro a Z;refine od ?_;rw [← LC hlt] at Z;exact ⟨n-1,by omega,k+1,by omega,rfl,Z.sb⟩
 ·have q1:¬ (k:Int) < (l.length:Int):=by omega
  obtain rfl:k=l.length:=by omega
  refine Z.s ?_;clear Z;intro a Z;refine od ?_;refine wp_cond_false (Z.ev 8 rfl) ?_;refine wp_exit ?_;refine wsr ?_;(iterate 2 refine Z.s ?_;clear Z;intro a Z);refine od ?_;refine wp_ret ?_
  try simp only [Exit.then,Exit.inBlock]
  rw [List.take_length] at Z;refine bodyPost_ret (v := .int .i64 (Hq l)) ?_ Z.defers ⟨rfl,rfl⟩;simp [results,Try.results32,Z.get 2 _ rfl]
theorem Ui:Try.f28.body=some (Code.seq (Aa Try.f28 0) (Code.seq (Code.seq (Aa Try.f28 1) (Code.cond (Operand.tmp 10) (Code.seq (Aa Try.f28 2) Code.ret) Code.skip)) (Code.seq (Code.seq (Aa Try.f28 3) (Code.block 0 (Code.loop (Code.seq (Code.seq (Aa Try.f28 4) (Code.cond (Operand.tmp 14) Code.skip (Code.exit 0))) (Code.seq (Code.block 1 (Code.seq (Aa Try.f28 6) (Code.cond (Operand.tmp 25) (Code.seq (Aa Try.f28 7) Code.ret) Code.skip))) (Aa Try.f28 5)))))) (Code.seq (Aa Try.f28 8) Code.ret)))):=by kernel_rfl
theorem PR {w:World} {la lb:Option Addr} {ca cb:Nat} {l m:List Int} (ha:AV w la l) (hb:AV w lb m) (hn:l.length≤1000000):Calls Try.prog 28 #[.slice la l.length ca, .slice lb m.length cb] w (fun e w'=>e = .returned (.bool (decide (l=m)))∧Below w.heap.size w w'):=by
 refine MN Try.func28 Ui Try.ntmps28 ?_;intro a Z;refine wsr ?_;refine Z.s ?_;clear Z;intro a Z;refine od ?_;refine wp_seq ?_;refine wsr ?_;(iterate 4 refine Z.s ?_;clear Z;intro a Z)
 by_cases hne:l.length=m.length
 ·have q0:((l.length:Int) != (m.length:Int))=false:=by simp [hne]
  have HN:=Lib.hid hne;clear hne;refine Z.s ?_;clear Z;intro a Z;refine od ?_;refine wp_cond_false (Z.ev 10 rfl) ?_;refine wp_skip ?_;refine wp_seq ?_;refine wsr ?_;refine Z.s ?_;clear Z;intro a Z;refine od ?_;refine wp_block ?_;have hb1:=Below.refl w.heap.size w;refine wp_loop_ghost (fun n p x=>∃ k:Nat,k+n=l.length∧l.take k=m.take k∧Sl p 26 [(5, .int .i64 (k:Int)),(0, .slice la l.length ca),(1, .slice lb m.length cb)]∧Below w.heap.size w x) (l.length) ⟨0,by omega,rfl,Z.sb,hb1⟩ ?_;clear Z hb1;rintro n a x ⟨k,hkn,hT,Z,hb1⟩;have HT:=Lib.hid hT;clear hT;refine wp_seq ?_;refine wsr ?_;(iterate 3 refine Z.s ?_;clear Z;intro a Z)
  by_cases hlt:k < l.length
  ·have q1:(k:Int) < (l.length:Int):=by omega
   have hlm:k < m.length:=by rw [← HN.out];exact hlt
   have q3:(k:Int) < (m.length:Int):=by omega
   obtain ⟨b,o,rfl,hc⟩:=(ha.below hb1).at hlt;obtain ⟨b2,o2,rfl,hc2⟩:=(hb.below hb1).at hlm;refine Z.s ?_;clear Z;intro a Z;refine od ?_;refine wp_cond_true (Z.ev 14 rfl) ?_;refine wp_skip ?_;refine wp_seq ?_;refine wp_block ?_;refine wp_seq ?_;refine Lt rfl (by kernel_rfl) (by kernel_rfl) ?_;(iterate 3 refine Z.u ?_;clear Z;intro a Z);refine Z.q rfl rfl rfl (by decide) ⟨?_,fun y hy K hK =>?_,?_⟩;rotate_left
   ·have e19:=Z.g 19;replace hb1:=hb1.trans (hy.mono hb1.size);replace hc:=AQ hy hc;replace hc2:=AQ hy hc2;unfold Oper.Fp;go_simp;exact hK
   clear Z;intro a Z;(iterate 3 refine Z.u ?_;clear Z;intro a Z);refine Z.q rfl rfl rfl (by decide) ⟨?_,fun y hy K hK =>?_,?_⟩;rotate_left
   ·have e23:=Z.g 23;replace hb1:=hb1.trans (hy.mono hb1.size);replace hc:=AQ hy hc;replace hc2:=AQ hy hc2;unfold Oper.Fp;go_simp;exact hK
   clear Z;intro a Z
   by_cases he:l[k]=m[k]
   ·have q2:(l[k] != m[k])=false:=by simp [he]
    have HE:=Lib.hid he;clear he;refine Z.u ?_;clear Z;intro a Z;refine IW ?_;intro x hb2;replace hb1:=hb1.trans (hb2.mono hb1.size);replace hc:=AQ hb2 hc;replace hc2:=AQ hb2 hc2;clear hb2;refine wp_cond_false (Z.ev 25 rfl) ?_;refine wp_skip ?_;refine wr ?_;refine Z.s ?_;clear Z;intro a Z;refine og fun K hK =>?_
    have e15:=Z.g 15;have hw:=A8 k (by omega);unfold Oper.wp;go_simp;clear e15;refine Z.K hK ?_;clear Z hK;intro a Z;refine Z.s ?_;clear Z;intro a Z;refine od ?_;exact ⟨n-1,by omega,k+1,by omega,by rw [List.take_succ_eq_append_getElem hlt,List.take_succ_eq_append_getElem hlm,HT.out,HE.out],Z.sb,hb1⟩
   ·have q2:(l[k] != m[k])=true:=by simp [he]
    have HE:=Lib.hid he;clear he;refine Z.u ?_;clear Z;intro a Z;refine IW ?_;intro x hb2;replace hb1:=hb1.trans (hb2.mono hb1.size);replace hc:=AQ hb2 hc;replace hc2:=AQ hb2 hc2;clear hb2;refine wp_cond_true (Z.ev 25 rfl) ?_;refine wsr ?_;refine Z.s ?_;clear Z;intro a Z;refine od ?_;refine wp_ret ?_
    try simp only [Exit.then,Exit.inBlock]
    have HR:=Lib.hid (show decide (l=m)=false from decide_eq_false (fun h=>HE.out (by simp only [h])));rw [HR.out];refine bodyPost_ret (v := .bool false) ?_ Z.defers ⟨rfl,hb1⟩;simp [results,Try.results28,Z.get 4 _ rfl]
  ·have q1:¬ (k:Int) < (l.length:Int):=by omega
   obtain rfl:k=l.length:=by omega
   refine Z.s ?_;clear Z;intro a Z;refine od ?_;refine wp_cond_false (Z.ev 14 rfl) ?_;refine wp_exit ?_;refine wsr ?_;refine Z.s ?_;clear Z;intro a Z;refine od ?_;refine wp_ret ?_
   try simp only [Exit.then,Exit.inBlock]
   have HR:=Lib.hid (show decide (l=m)=true from decide_eq_true (by rw [← List.take_length (l:=l),HT.out,HN.out,List.take_length]));rw [HR.out];refine bodyPost_ret (v := .bool true) ?_ Z.defers ⟨rfl,hb1⟩;simp [results,Try.results28,Z.get 4 _ rfl]
 ·have q0:((l.length:Int) != (m.length:Int))=true:=by simp;omega
  refine Z.s ?_;clear Z;intro a Z;refine od ?_;refine wp_cond_true (Z.ev 10 rfl) ?_;refine wsr ?_;refine Z.s ?_;clear Z;intro a Z;refine od ?_;refine wp_ret ?_
  try simp only [Exit.then,Exit.inBlock]
  have HR:=Lib.hid (show decide (l=m)=false from decide_eq_false (fun h=>by rw [h] at q0;simp at q0));rw [HR.out];refine bodyPost_ret (v := .bool false) ?_ Z.defers ⟨rfl,Below.refl _ _⟩;simp [results,Try.results28,Z.get 4 _ rfl]
theorem AaY {α:Type} {p q r:Prop} [Decidable p] [Decidable q] [Decidable r] {A B:α} (h:p→q→r→False):(if p then if q then if r then A else B else B else B)=B:=by
 by_cases hp:p
 ·by_cases hq:q
  ·rw [if_pos hp,if_pos hq,if_neg (fun hr=>h hp hq hr)]
  ·rw [if_pos hp,if_neg hq]
 ·rw [if_neg hp]
theorem Am.AaZ {x y:Am} (h0:x.toll=y.toll) (h1:x.owner=y.owner) (h2:x.heads=y.heads):x=y:=by cases x;cases y;simp_all
theorem Rk:Try.f41.body=some (Code.seq (Aa Try.f41 0) (Code.seq (Code.seq (Aa Try.f41 1) (Code.cond (Operand.tmp 10) (Code.seq (Aa Try.f41 2) Code.ret) Code.skip)) (Code.seq (Code.seq (Aa Try.f41 3) (Code.block 0 (Code.loop (Code.seq (Code.seq (Aa Try.f41 4) (Code.cond (Operand.tmp 14) Code.skip (Code.exit 0))) (Code.seq (Code.block 1 (Code.seq (Aa Try.f41 6) (Code.cond (Operand.tmp 25) (Code.seq (Aa Try.f41 7) Code.ret) Code.skip))) (Aa Try.f41 5)))))) (Code.seq (Aa Try.f41 8) Code.ret)))):=by kernel_rfl
theorem Vm {w:World} {la lb:Option Addr} {ca cb:Nat} {l m:List Am} (ha:DL w la l) (hb:DL w lb m) (hn:l.length≤1000000):Calls Try.prog 41 #[.slice la l.length ca, .slice lb m.length cb] w (fun e w'=>e = .returned (.bool (decide (l=m)))∧Below w.heap.size w w'):=by
 refine MN Try.func41 Rk Try.ntmps41 ?_;intro a Z;refine wsr ?_;refine Z.s ?_;clear Z;intro a Z;refine od ?_;refine wp_seq ?_;refine wsr ?_;(iterate 4 refine Z.s ?_;clear Z;intro a Z)
 by_cases hne:l.length=m.length
 ·have q0:((l.length:Int) != (m.length:Int))=false:=by simp [hne]
  have HN:=Lib.hid hne;clear hne;refine Z.s ?_;clear Z;intro a Z;refine od ?_;refine wp_cond_false (Z.ev 10 rfl) ?_;refine wp_skip ?_;refine wp_seq ?_;refine wsr ?_;refine Z.s ?_;clear Z;intro a Z;refine od ?_;refine wp_block ?_;have hb1:=Below.refl w.heap.size w;refine wp_loop_ghost (fun n p x=>∃ k:Nat,k+n=l.length∧l.take k=m.take k∧Sl p 26 [(5, .int .i64 (k:Int)),(0, .slice la l.length ca),(1, .slice lb m.length cb)]∧Below w.heap.size w x) (l.length) ⟨0,by omega,rfl,Z.sb,hb1⟩ ?_;clear Z hb1;rintro n a x ⟨k,hkn,hT,Z,hb1⟩;have HT:=Lib.hid hT;clear hT;refine wp_seq ?_;refine wsr ?_;(iterate 3 refine Z.s ?_;clear Z;intro a Z)
  by_cases hlt:k < l.length
  ·have q1:(k:Int) < (l.length:Int):=by omega
   have hlm:k < m.length:=by rw [← HN.out];exact hlt
   have q3:(k:Int) < (m.length:Int):=by omega
   obtain ⟨b,o,rfl,c0,c1,c2⟩:=(ha.below hb1).at hlt;obtain ⟨b2,o2,rfl,d0,d1,d2⟩:=(hb.below hb1).at hlm;simp only [OO] at c0 c1 c2 d0 d1 d2;refine Z.s ?_;clear Z;intro a Z;refine od ?_;refine wp_cond_true (Z.ev 14 rfl) ?_;refine wp_skip ?_;refine wp_seq ?_;refine wp_block ?_;refine wp_seq ?_;refine Lt rfl (by kernel_rfl) (by kernel_rfl) ?_;(iterate 3 refine Z.u ?_;clear Z;intro a Z);refine Z.q rfl rfl rfl (by decide) ⟨?_,fun y hy K hK =>?_,?_⟩;rotate_left
   ·have e19:=Z.g 19;replace hb1:=hb1.trans (hy.mono hb1.size);replace c0:=AQ hy c0;replace c1:=AQ hy c1;replace c2:=AQ hy c2;replace d0:=AQ hy d0;replace d1:=AQ hy d1;replace d2:=AQ hy d2;unfold Oper.Fp;go_simp;exact hK
   clear Z;intro a Z;(iterate 3 refine Z.u ?_;clear Z;intro a Z);refine Z.q rfl rfl rfl (by decide) ⟨?_,fun y hy K hK =>?_,?_⟩;rotate_left
   ·have e23:=Z.g 23;replace hb1:=hb1.trans (hy.mono hb1.size);replace c0:=AQ hy c0;replace c1:=AQ hy c1;replace c2:=AQ hy c2;replace d0:=AQ hy d0;replace d1:=AQ hy d1;replace d2:=AQ hy d2;unfold Oper.Fp;go_simp;exact hK
   clear Z;intro a Z
   by_cases he:l[k]=m[k]
   ·have HE:=Lib.hid he;rw [he] at Z;clear he;refine Z.u ?_;clear Z;intro a Z;refine IW ?_;intro x hb2;replace hb1:=hb1.trans (hb2.mono hb1.size);replace c0:=AQ hb2 c0;replace c1:=AQ hb2 c1;replace c2:=AQ hb2 c2;replace d0:=AQ hb2 d0;replace d1:=AQ hb2 d1;replace d2:=AQ hb2 d2;clear hb2;refine wp_cond_false (Z.ev 25 rfl) ?_;refine wp_skip ?_;refine wr ?_;refine Z.s ?_;clear Z;intro a Z;refine og fun K hK =>?_
    have e15:=Z.g 15;have hw:=A8 k (by omega);unfold Oper.wp;go_simp;clear e15;refine Z.K hK ?_;clear Z hK;intro a Z;refine Z.s ?_;clear Z;intro a Z;refine od ?_;exact ⟨n-1,by omega,k+1,by omega,by rw [List.take_succ_eq_append_getElem hlt,List.take_succ_eq_append_getElem hlm,HT.out,HE.out],Z.sb,hb1⟩
   ·have HE:=Lib.hid he;clear he;refine Z.q rfl rfl rfl (by decide) ⟨?_,fun y hy K hK =>?_,?_⟩;rotate_left
    ·have e20:=Z.g 20;have e24:=Z.g 24;unfold Oper.Fp;go_simp;rw [AaY (fun h0 h1 h2=>HE.out (Am.AaZ h0 h1 h2))];refine ⟨rfl,?_⟩;exact hK
    clear Z;intro a Z;refine IW ?_;intro x hb2;replace hb1:=hb1.trans (hb2.mono hb1.size);replace c0:=AQ hb2 c0;replace c1:=AQ hb2 c1;replace c2:=AQ hb2 c2;replace d0:=AQ hb2 d0;replace d1:=AQ hb2 d1;replace d2:=AQ hb2 d2;clear hb2;refine wp_cond_true (Z.ev 25 rfl) ?_;refine wsr ?_;refine Z.s ?_;clear Z;intro a Z;refine od ?_;refine wp_ret ?_
    try simp only [Exit.then,Exit.inBlock]
    have HR:=Lib.hid (show decide (l=m)=false from decide_eq_false (fun h=>HE.out (by simp only [h])));rw [HR.out];refine bodyPost_ret (v := .bool false) ?_ Z.defers ⟨rfl,hb1⟩;simp [results,Try.results41,Z.get 4 _ rfl]
  ·have q1:¬ (k:Int) < (l.length:Int):=by omega
   obtain rfl:k=l.length:=by omega
   refine Z.s ?_;clear Z;intro a Z;refine od ?_;refine wp_cond_false (Z.ev 14 rfl) ?_;refine wp_exit ?_;refine wsr ?_;refine Z.s ?_;clear Z;intro a Z;refine od ?_;refine wp_ret ?_
   try simp only [Exit.then,Exit.inBlock]
   have HR:=Lib.hid (show decide (l=m)=true from decide_eq_true (by rw [← List.take_length (l:=l),HT.out,HN.out,List.take_length]));rw [HR.out];refine bodyPost_ret (v := .bool true) ?_ Z.defers ⟨rfl,hb1⟩;simp [results,Try.results41,Z.get 4 _ rfl]
 ·have q0:((l.length:Int) != (m.length:Int))=true:=by simp;omega
  refine Z.s ?_;clear Z;intro a Z;refine od ?_;refine wp_cond_true (Z.ev 10 rfl) ?_;refine wsr ?_;refine Z.s ?_;clear Z;intro a Z;refine od ?_;refine wp_ret ?_
  try simp only [Exit.then,Exit.inBlock]
  have HR:=Lib.hid (show decide (l=m)=false from decide_eq_false (fun h=>by rw [h] at q0;simp at q0));rw [HR.out];refine bodyPost_ret (v := .bool false) ?_ Z.defers ⟨rfl,Below.refl _ _⟩;simp [results,Try.results41,Z.get 4 _ rfl]
end
section
open Go Go.Conc
open Go.RowKit
section
variable {P:Program} {M:Machine} {ops:Array Oper} {Q:Exit→Act→World→Prop} {i:Nat} {rest:List Nat} {o:Oper} {a:Act} {w:World} {n d:Nat} {m:List (Nat×Value)} {v:Value}
theorem Az {id:Nat} (h:Ky Q):Ky (Exit.inBlock id Q):=fun a w hx=>h a w hx
theorem J4 {fn:Func} {R:Ending→World→Prop} (h:∀ w,¬ R .outgrown w):Ky (bodyPost P fn R):=fun _ w hx=>h w hx
theorem Sl.kX (h:Sl a n m) {K:Act→World→Prop} (hK:∀ a w,Ll P M ops Q rest a w→K a w) (hd:d < n) (hG:∀ a',Sl a' n ((d,v) :: m)→Ll P M ops Q rest a' w):K (a.put (some d) v) w:=hK _ _ (hG _ (h.put d v hd))
theorem Sl.goX (h:Sl a n m) (hd:d < n) (hG:∀ a',Sl a' n ((d,v) :: m)→Ll P M ops Q rest a' w):Ll P M ops Q rest (a.put (some d) v) w:=hG _ (h.put d v hd)
theorem OT {fc:FuncId} {F:Func} {ars:Array Operand} {ats:Array TypeId} (ho:ops[i]? = some o) (hg:o.guard=none) (hop:o.op = .call { callee := .value (.func fc),args:=ars,argTypes:=ats })
  (hF:P.funcs[fc]? = some F) (hname:(F.name == "runtime.NumGoroutine")=false) (hbody:F.body.isNone=false) {args:Array Value} (ha:ars.map a.eval=args) {R:Ending→World→Prop} (hc:DX P M fc args w R)
  (h:∀ e w'',R e w''→∃ v,e = .returned v∧Ll P M ops Q rest (a.put o.dst v) w''):Ll P M ops Q (i :: rest) a w:=by
 have hr:=Jr (P:=P) (w:=w) (a:=a) hop rfl hF hname hbody;refine VC ho hg (f:=fc) (args:=args) (w':=w) ?_ hc h;rw [hr,← ha];simp
theorem QI (hP:EJ P) {f:Func} {k id:Nat} (hno:Ky Q) (e:Aa f k=Code.region id ops false) (h:Ll P M ops Q (List.range ops.size) a w):wpX P M (Aa f k) Q a w:=by
 rw [e];exact NJ hP hno h
end
theorem Zt {t:Ad} {l:List Am} {qs:List ((Int×Int)×Int)} (hq:∀ key,(atK qs key).getD 0=Aj l key) (o i:Nat):atV t.Ac t.Ag qs o i=atL t l o i:=by unfold atV atL;rw [hq]
theorem Wx {t:Ad} {l:List Am} {qs:List ((Int×Int)×Int)} (hq:∀ key,(atK qs key).getD 0=Aj l key) (o:Nat):YN t.Ac t.Ag qs o=EX t l o:=by
 unfold YN EX FZ;rw [show atV t.Ac t.Ag qs o=atL t l o from funext fun i=>Zt hq o i]
theorem HY.c {w:World} {bd mb:Nat} {t:Ad} {s:DY} {l:List Am} (hT:CB w t s) (hD:HY w bd mb t s l) (ho:BK t l=0) :
  ∃ q pb po pc tb to_ tc clock ents,MV w.heap.size w bd t.Ac t.Ag q pb po pc tb to_ tc mb clock ents∧∀ key,(atK q key).getD 0=Aj l key:=by
 have hck:=EE ho;have hF:=Dv.of hck (DI ho).1 (DI ho).2;obtain ⟨_,_,_,hp1,_⟩:=Ba hck;obtain ⟨qs,hm,hq⟩:=hD.map;have d4:=hD.kd.cell (o:=4) rfl;have d5:=hD.kd.cell (o:=5) rfl;have d6:=hD.kd.cell (o:=6) rfl
 change w.cell? _=some (.slice s.pa t.Ac.length s.pc) at d4
 change w.cell? _=some (.slice s.ta t.Ag.length s.tc) at d5
 change w.cell? _=some (.map (some mb)) at d6
 obtain ⟨pb,po,hpa,_,_,_⟩:=hT.Ac.at (i:=0) (by omega)
 have hpay:∀ (o:Nat) (h:o < t.Ac.length),w.cell? ⟨pb,po+o*3,none⟩=some (.int .i64 t.Ac[o].heads)∧w.cell? ⟨pb,po+o*3+1,none⟩=some (.int .i64 t.Ac[o].free)∧w.cell? ⟨pb,po+o*3+2,none⟩=some (.bool t.Ac[o].half):=fun o h=>by
  obtain ⟨b',o',e,h1,h2,h3⟩:=hT.Ac.at h;rw [hpa] at e;simp only [Option.some.injEq,Addr.mk.injEq,and_true] at e;obtain ⟨rfl,rfl⟩:=e;exact ⟨h1,h2,h3⟩
 have lpb:pb < w.heap.size:=lt_of_cell (hpay 0 (by omega)).1
 obtain ⟨tb,to_,htb,hta,htl⟩:∃ tb to_,tb < w.heap.size∧(t.Ag≠[]→s.ta=some ⟨tb,to_,none⟩)∧∀ (i:Nat) (h:i < t.Ag.length),w.cell? ⟨tb,to_+i*3+1,none⟩=some (.int .i64 t.Ag[i].rate):=by
  rcases hT.Ag with h | ⟨b,o,ha,h⟩
  ·exact ⟨pb,0,lpb,fun hne=>absurd h hne,fun i hi=>by rw [h] at hi;simp at hi⟩
  ·by_cases hz:0 < t.Ag.length
   ·exact ⟨b,o,lt_of_cell (h 0 hz).1,fun _=>ha,fun i hi=>(h i hi).2.1⟩
   ·exact ⟨pb,0,lpb,fun hne=>absurd (List.length_pos_iff.2 hne) hz,fun i hi=>absurd (by omega) hz⟩
 rw [hpa] at d4;exact ⟨qs,pb,po,s.pc,tb,to_,s.tc,_,_,⟨lt_of_cell d4,lpb,htb,hm.lt,d4,⟨s.ta,d5,hta⟩,d6,fun o h=>(hpay o h).1,fun o h=>(hpay o h).2.1,fun o h=>(hpay o h).2.2,htl,hm,O7 qs,hF.pf,hF.rt,fun k=>by rw [hq];exact hF.ps k⟩,hq⟩
end
section
open Go Go.Conc
open Go.RowKit
def F7 (w0:World) (L:List Int) (err:Int) (e:Ending) (w':World):Prop :=
 Below w0.heap.size w0 w'∧(err≠0→e = .returned (.tuple #[.slice none 0 0, .int .i64 err]))∧(err=0→∃ g,e = .returned (.tuple #[.slice (some ⟨g,0,none⟩) L.length L.length, .int .i64 0])∧w0.heap.size≤g∧Rw w' g (J6 L) 3)
theorem F7.no {w0:World} {L:List Int} {err:Int} (w':World):¬ F7 w0 L err .outgrown w':=fun h=>by
 rcases Classical.em (err=0) with e | e
 ·obtain ⟨g,hx,_⟩:=h.2.2 e;cases hx
 ·cases h.2.1 e
def Jd (f:Nat→Int) (n:Nat):List Int:=(List.range n).map f
theorem L8 (f:Nat→Int) (n:Nat):(Jd f n).length=n:=by simp [Jd]
theorem AaQ {row:Array Value} {n:Nat} {f g:Nat→Int} (hs:row.size=n) (h:∀ i,i < n→row[i]? = some (.int .i64 (g i))) (hfg:∀ i,g i=f i):row=J6 (Jd f n):=by
 apply Array.ext
 ·simp [J6,Jd,hs]
 ·intro i h1 h2;have:=h i (by omega);rw [Array.getElem?_eq_getElem h1,hfg] at this;rw [Option.some.inj this];simp [J6,Jd]
theorem TA:Try.f30.body=some (Code.seq (Aa Try.f30 0) (Code.seq (Aa Try.f30 1) (Code.seq (Code.seq (Aa Try.f30 2) (Code.cond (Operand.tmp 15) (Code.seq (Aa Try.f30 3) Code.ret) Code.skip)) (Code.seq (Aa Try.f30 4) Code.ret)))):=by kernel_rfl
theorem SQ {M:Machine} {t:Ad} {s:DY} {l:List Am} {la:Option Addr} {lc:Nat} {w:World} (ht:CB w t s) (hl:DL w la l) (hlm:l.length≤maxLen):DX Try.prog M 30 #[.agg (EK t s), .slice la l.length lc] w (F7 w (Jd (EX t l) t.Ac.length) (BK t l)):=by
 have hno:Ky (bodyPost Try.prog Try.f30 (F7 w (Jd (EX t l) t.Ac.length) (BK t l))):=J4 F7.no;refine Hf FO Try.func30 TA ?_ F7.no;have Z:Sl (⟨#[.agg (EK t s), .slice la l.length lc]++Array.replicate (Try.f30.ntmps-(#[.agg (EK t s), .slice la l.length lc]:Array Value).size) undef,[]⟩:Act) 21 [(0, .agg (EK t s)),(1, .slice la l.length lc)]:=by rw [Try.ntmps30];exact Sl.Wl _ _ (by omega)
 revert Z;generalize (Act.mk _ _)=a;intro Z;refine CX FO ?_;refine wpX.of FO ?_ (by repeat (first | assumption | apply AP | apply Az));refine wr ?_;refine Z.s ?_;clear Z;intro a Z;refine Af (G:=fun W=>wpOps _ _ _ _ _ W) ?_;intro x hz X hb;have hI:=TI.made (Below.refl _ _) ht X hb;obtain ⟨bt,hbt⟩:∃ b,b=w.heap.size:=⟨_,rfl⟩;rw [← hbt] at Z hI;clear hz X hb hbt;(iterate 2 refine Z.s ?_;clear Z;intro a Z);refine od ?_;refine CX FO ?_;refine wpX.of FO ?_ (by repeat (first | assumption | apply AP | apply Az));refine wr ?_;refine og fun K hK =>?_
 have e2:=Z.g 2;have c0:=hI.c0;have c1:=hI.c1;have c2:=hI.c2;have c3:=hI.c3;have c4:=hI.c4;have c5:=hI.c5;unfold Oper.wp;go_simp;clear e2;refine Z.K hK ?_;clear Z hK;intro a Z;refine Z.s ?_;clear Z;intro a Z;refine og fun K hK =>?_
 have e9:=Z.g 9;have e10:=Z.g 10;unfold Oper.wp;go_simp;refine (Pz hI.tar (hl.below hI.below) hlm).mono ?_;rintro e x2 ⟨hb2,hN,hS⟩;have hxx:=hI.below.size;replace hI:=hI.keep hb2;clear e9 e10
 by_cases h1:BK t l=0
 ·obtain ⟨bd,mb,rfl,hbd,hmb,hD⟩:=hS h1;have HE:=Lib.hid h1;have hne:=CV h1;clear hS hN hb2 hxx h1;refine Z.K hK ?_;clear Z hK;intro a Z;obtain ⟨x,hx2⟩:∃ x,x=x2:=⟨_,rfl⟩;rw [← hx2] at hI ⊢ hD;clear hx2;(iterate 5 refine Z.s ?_;clear Z;intro a Z);refine od ?_;refine CX FO ?_;refine wpX.of FO ?_ (by repeat (first | assumption | apply AP | apply Az));refine wsr ?_;(iterate 2 refine Z.s ?_;clear Z;intro a Z);refine od ?_;refine wp_cond_false (Z.ev 15 rfl) ?_;refine wp_skip ?_;refine CX FO ?_;rw [show Aa Try.f30 4=Code.region 4 _ false from rfl];refine NJ FO (by repeat (first | assumption | apply AP | apply Az)) ?_;refine CS rfl rfl (fun K hK =>?_);have e6:=Z.g 6;unfold Oper.wp;go_simp;clear e6;refine Z.kX hK (by decide) ?_;clear Z hK;intro a Z;refine CS rfl rfl (fun K hK =>?_);have e6:=Z.g 6;unfold Oper.wp;go_simp;clear e6;refine Z.kX hK (by decide) ?_;clear Z hK;intro a Z;refine CS rfl rfl (fun K hK =>?_);have e18:=Z.g 18;unfold Oper.wp;go_simp;clear e18;refine Z.kX hK (by decide) ?_;clear Z hK;intro a Z;have e17:=Z.g 17;have e19:=Z.g 19;obtain ⟨qs,pb,po,pc,tb,to_,tc,clock,ents,hDC,hq⟩:=HY.c hI.tar hD HE.out;have hFL:=Dv.of (EE HE.out) (DI HE.out).1 (DI HE.out).2
  refine OT rfl rfl rfl Try.func78 (by kernel_rfl) (by kernel_rfl) (args:=#[.pointer (some ⟨bd,0,none⟩), .func (.func 79) #[.pointer (some ⟨bd,0,none⟩)] #[]]) (by simp [Act.eval,Array.getD_eq_getD_getElem?,e17,e19]) (X6 hDC hFL.nt hFL.np) ?_;clear e17 e19;rintro e x2 ⟨g,row,rfl,hb,hg,hrow,hrs,hri⟩;have hxx:=hI.below.size;have hG:Rw x2 g (J6 (Jd (EX t l) t.Ac.length)) 3:=by have:=AaQ hrs hri (fun i=>Wx hq i);rw [this] at hrow;exact hrow
  replace hI:=hI.keep hb;have hgw:w.heap.size≤g:=Nat.le_trans hxx hg;clear hrow hrs hri hb hD hDC hq hxx hg;obtain ⟨x,hx2⟩:∃ x,x=x2:=⟨_,rfl⟩;rw [← hx2] at hI hG ⊢;clear hx2;refine ⟨_,rfl,?_⟩;refine Z.goX (by decide) ?_;clear Z;intro a Z;refine CS rfl rfl (fun K hK =>?_);have e20:=Z.g 20;unfold Oper.wp;go_simp;clear e20;refine Z.kX hK (by decide) ?_;clear Z hK;intro a Z;refine CS rfl rfl (fun K hK =>?_);unfold Oper.wp;go_simp;refine Z.kX hK (by decide) ?_;clear Z hK;intro a Z;refine Ju ?_;refine wpX.of FO ?_ (by repeat (first | assumption | apply AP | apply Az));refine wp_ret ?_
  try simp only [Exit.then,Exit.inBlock]
  refine bodyPost_ret (v := .tuple #[.slice (some ⟨g,0,none⟩) t.Ac.length t.Ac.length, .int .i64 0]) ?_ Z.defers ⟨hI.below,fun h=>absurd HE.out h,fun _=>⟨g,by rw [L8],hgw,hG⟩⟩;simp [results,Try.results30,Z.get 4 _ rfl,Z.get 5 _ rfl]
 ·obtain rfl:=hN h1;have HE:=Lib.hid h1;have hne:=DJ h1;clear hS hN hb2 hxx h1;refine Z.K hK ?_;clear Z hK;intro a Z;obtain ⟨x,hx2⟩:∃ x,x=x2:=⟨_,rfl⟩;rw [← hx2] at hI ⊢;clear hx2;(iterate 5 refine Z.s ?_;clear Z;intro a Z);refine od ?_;refine CX FO ?_;refine wpX.of FO ?_ (by repeat (first | assumption | apply AP | apply Az));refine wsr ?_;(iterate 2 refine Z.s ?_;clear Z;intro a Z);refine od ?_;refine wp_cond_true (Z.ev 15 rfl) ?_;refine wsr ?_;(iterate 3 refine Z.s ?_;clear Z;intro a Z);refine od ?_;refine wp_ret ?_
  try simp only [Exit.then,Exit.inBlock]
  refine bodyPost_ret (v := .tuple #[.slice none 0 0, .int .i64 (BK t l)]) ?_ Z.defers ⟨hI.below,fun _=>rfl,fun h=>absurd h HE.out⟩;simp [results,Try.results30,Z.get 4 _ rfl,Z.get 5 _ rfl]
end
end Go.Proofs.Ytgdobbcjkiapkaa
