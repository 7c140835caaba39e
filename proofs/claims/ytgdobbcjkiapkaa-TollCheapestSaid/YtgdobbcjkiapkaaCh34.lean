import Derived.Test.YtgdobbcjkiapkaaCh04
import Derived.Test.YtgdobbcjkiapkaaCh02
import Derived.Test.YtgdobbcjkiapkaaCh22
import Derived.Test.YtgdobbcjkiapkaaCh33
import Derived.Test.YtgdobbcjkiapkaaCh19
namespace Go.Proofs.Ytgdobbcjkiapkaa
set_option maxRecDepth 100000
set_option maxHeartbeats 4000000
set_option linter.unusedSimpArgs false
set_option linter.unusedVariables false
section
open Go.RowKit
theorem U7:Try.f28.body=some (Code.seq (Aa Try.f28 0) (Code.seq (Code.seq (Aa Try.f28 1) (Code.cond (Operand.tmp 10) (Code.seq (Aa Try.f28 2) Code.ret) Code.skip)) (Code.seq (Code.seq (Aa Try.f28 3) (Code.block 0 (Code.loop (Code.seq (Code.seq (Aa Try.f28 4) (Code.cond (Operand.tmp 14) Code.skip (Code.exit 0))) (Code.seq (Code.block 1 (Code.seq (Aa Try.f28 6) (Code.cond (Operand.tmp 25) (Code.seq (Aa Try.f28 7) Code.ret) Code.skip))) (Aa Try.f28 5)))))) (Code.seq (Aa Try.f28 8) Code.ret)))):=by kernel_rfl
theorem Qp {w:World} {la lb:Option Addr} {ca cb:Nat} {l m:List Int} (ha:Aq w la l) (hb:Aq w lb m) (hn:l.length≤1000000):Calls Try.prog 28 #[.slice la l.length ca, .slice lb m.length cb] w (fun e w'=>e = .returned (.bool (decide (l=m)))∧Below w.heap.size w w'):=by
 refine KI Try.func28 U7 Try.ntmps28 ?_;intro a Z;refine wsr ?_;refine Z.s ?_;clear Z;intro a Z;refine od ?_;refine wp_seq ?_;refine wsr ?_;(iterate 4 refine Z.s ?_;clear Z;intro a Z)
 by_cases hne:l.length=m.length
 ·have q0:((l.length:Int) != (m.length:Int))=false:=by simp [hne]
  have HN:=Lib.hid hne;clear hne;refine Z.s ?_;clear Z;intro a Z;refine od ?_;refine wp_cond_false (Z.ev 10 rfl) ?_;refine wp_skip ?_;refine wp_seq ?_;refine wsr ?_;refine Z.s ?_;clear Z;intro a Z;refine od ?_;refine wp_block ?_;have hb1:=Below.refl w.heap.size w;refine wp_loop_ghost (fun n p x=>∃ k:Nat,k+n=l.length∧l.take k=m.take k∧Sl p 26 [(5, .int .i64 (k:Int)),(0, .slice la l.length ca),(1, .slice lb m.length cb)]∧Below w.heap.size w x) (l.length) ⟨0,by omega,rfl,Z.sb,hb1⟩ ?_;clear Z hb1;rintro n a x ⟨k,hkn,hT,Z,hb1⟩;have HT:=Lib.hid hT;clear hT;refine wp_seq ?_;refine wsr ?_;(iterate 3 refine Z.s ?_;clear Z;intro a Z)
  by_cases hlt:k < l.length
  ·have q1:(k:Int) < (l.length:Int):=by omega
   have hlm:k < m.length:=by rw [← HN.out];exact hlt
   have q3:(k:Int) < (m.length:Int):=by omega
   obtain ⟨b,o,rfl,hc⟩:=(ha.below hb1).at hlt;obtain ⟨b2,o2,rfl,hc2⟩:=(hb.below hb1).at hlm;refine Z.s ?_;clear Z;intro a Z;refine od ?_;refine wp_cond_true (Z.ev 14 rfl) ?_;refine wp_skip ?_;refine wp_seq ?_;refine wp_block ?_;refine wp_seq ?_;refine EN rfl (by kernel_rfl) (by kernel_rfl) ?_;(iterate 3 refine Z.u ?_;clear Z;intro a Z);refine Z.q rfl rfl rfl (by decide) ⟨?_,fun y hy K hK =>?_,?_⟩;rotate_left
   ·have e19:=Z.g 19;replace hb1:=hb1.trans (hy.mono hb1.size);replace hc:=AB hy hc;replace hc2:=AB hy hc2;unfold Oper.Fp;go_simp;exact hK
   clear Z;intro a Z;(iterate 3 refine Z.u ?_;clear Z;intro a Z);refine Z.q rfl rfl rfl (by decide) ⟨?_,fun y hy K hK =>?_,?_⟩;rotate_left
   ·have e23:=Z.g 23;replace hb1:=hb1.trans (hy.mono hb1.size);replace hc:=AB hy hc;replace hc2:=AB hy hc2;unfold Oper.Fp;go_simp;exact hK
   clear Z;intro a Z
   by_cases he:l[k]=m[k]
   ·have q2:(l[k] != m[k])=false:=by simp [he]
    have HE:=Lib.hid he;clear he;refine Z.u ?_;clear Z;intro a Z;refine EK ?_;intro x hb2;replace hb1:=hb1.trans (hb2.mono hb1.size);replace hc:=AB hb2 hc;replace hc2:=AB hb2 hc2;clear hb2;refine wp_cond_false (Z.ev 25 rfl) ?_;refine wp_skip ?_;refine wr ?_;refine Z.s ?_;clear Z;intro a Z;refine og fun K hK =>?_
    have e15:=Z.g 15;have hw:=Bf k (by omega);unfold Oper.wp;go_simp;clear e15;refine Z.K hK ?_;clear Z hK;intro a Z;refine Z.s ?_;clear Z;intro a Z;refine od ?_;exact ⟨n-1,by omega,k+1,by omega,by rw [List.take_succ_eq_append_getElem hlt,List.take_succ_eq_append_getElem hlm,HT.out,HE.out],Z.sb,hb1⟩
   ·have q2:(l[k] != m[k])=true:=by simp [he]
    have HE:=Lib.hid he;clear he;refine Z.u ?_;clear Z;intro a Z;refine EK ?_;intro x hb2;replace hb1:=hb1.trans (hb2.mono hb1.size);replace hc:=AB hb2 hc;replace hc2:=AB hb2 hc2;clear hb2;refine wp_cond_true (Z.ev 25 rfl) ?_;refine wsr ?_;refine Z.s ?_;clear Z;intro a Z;refine od ?_;refine wp_ret ?_
    try simp only [Exit.then,Exit.inBlock]
    have HR:=Lib.hid (show decide (l=m)=false from decide_eq_false (fun h=>HE.out (by simp only [h])));rw [HR.out];refine bodyPost_ret (v := .bool false) ?_ Z.defers ⟨rfl,hb1⟩;simp [results,Try.results28,Z.get 4 _ rfl]
  ·have q1:¬ (k:Int) < (l.length:Int):=by omega
   obtain rfl:k=l.length:=by omega
   refine Z.s ?_;clear Z;intro a Z;refine od ?_;refine wp_cond_false (Z.ev 14 rfl) ?_;refine wp_exit ?_;refine wsr ?_;refine Z.s ?_;clear Z;intro a Z;refine od ?_;refine wp_ret ?_
   try simp only [Exit.then,Exit.inBlock]
   have HR:=Lib.hid (show decide (l=m)=true from decide_eq_true (by rw [← List.take_length (l:=l),HT.out,HN.out,List.take_length]));rw [HR.out];refine bodyPost_ret (v := .bool true) ?_ Z.defers ⟨rfl,hb1⟩;simp [results,Try.results28,Z.get 4 _ rfl]
 ·have q0:((l.length:Int) != (m.length:Int))=true:=by simp;omega
  refine Z.s ?_;clear Z;intro a Z;refine od ?_;refine wp_cond_true (Z.ev 10 rfl) ?_;refine wsr ?_;refine Z.s ?_;clear Z;intro a Z;refine od ?_;refine wp_ret ?_
  try simp only [Exit.then,Exit.inBlock]
  have HR:=Lib.hid (show decide (l=m)=false from decide_eq_false (fun h=>by rw [h] at q0;simp at q0));rw [HR.out];refine bodyPost_ret (v := .bool false) ?_ Z.defers ⟨rfl,Below.refl _ _⟩;simp [results,Try.results28,Z.get 4 _ rfl]
theorem AbH {α:Type} {p q r:Prop} [Decidable p] [Decidable q] [Decidable r] {A B:α} (h:p→q→r→False):(if p then if q then if r then A else B else B else B)=B:=by
 by_cases hp:p
 ·by_cases hq:q
  ·rw [if_pos hp,if_pos hq,if_neg (fun hr=>h hp hq hr)]
  ·rw [if_pos hp,if_neg hq]
 ·rw [if_neg hp]
theorem AV.AbI {x y:AV} (h0:x.toll=y.toll) (h1:x.owner=y.owner) (h2:x.heads=y.heads):x=y:=by cases x;cases y;simp_all
theorem SI:Try.f41.body=some (Code.seq (Aa Try.f41 0) (Code.seq (Code.seq (Aa Try.f41 1) (Code.cond (Operand.tmp 10) (Code.seq (Aa Try.f41 2) Code.ret) Code.skip)) (Code.seq (Code.seq (Aa Try.f41 3) (Code.block 0 (Code.loop (Code.seq (Code.seq (Aa Try.f41 4) (Code.cond (Operand.tmp 14) Code.skip (Code.exit 0))) (Code.seq (Code.block 1 (Code.seq (Aa Try.f41 6) (Code.cond (Operand.tmp 25) (Code.seq (Aa Try.f41 7) Code.ret) Code.skip))) (Aa Try.f41 5)))))) (Code.seq (Aa Try.f41 8) Code.ret)))):=by kernel_rfl
theorem Wp {w:World} {la lb:Option Addr} {ca cb:Nat} {l m:List AV} (ha:GY w la l) (hb:GY w lb m) (hn:l.length≤1000000):Calls Try.prog 41 #[.slice la l.length ca, .slice lb m.length cb] w (fun e w'=>e = .returned (.bool (decide (l=m)))∧Below w.heap.size w w'):=by
 refine KI Try.func41 SI Try.ntmps41 ?_;intro a Z;refine wsr ?_;refine Z.s ?_;clear Z;intro a Z;refine od ?_;refine wp_seq ?_;refine wsr ?_;(iterate 4 refine Z.s ?_;clear Z;intro a Z)
 by_cases hne:l.length=m.length
 ·have q0:((l.length:Int) != (m.length:Int))=false:=by simp [hne]
  have HN:=Lib.hid hne;clear hne;refine Z.s ?_;clear Z;intro a Z;refine od ?_;refine wp_cond_false (Z.ev 10 rfl) ?_;refine wp_skip ?_;refine wp_seq ?_;refine wsr ?_;refine Z.s ?_;clear Z;intro a Z;refine od ?_;refine wp_block ?_;have hb1:=Below.refl w.heap.size w;refine wp_loop_ghost (fun n p x=>∃ k:Nat,k+n=l.length∧l.take k=m.take k∧Sl p 26 [(5, .int .i64 (k:Int)),(0, .slice la l.length ca),(1, .slice lb m.length cb)]∧Below w.heap.size w x) (l.length) ⟨0,by omega,rfl,Z.sb,hb1⟩ ?_;clear Z hb1;rintro n a x ⟨k,hkn,hT,Z,hb1⟩;have HT:=Lib.hid hT;clear hT;refine wp_seq ?_;refine wsr ?_;(iterate 3 refine Z.s ?_;clear Z;intro a Z)
  by_cases hlt:k < l.length
  ·have q1:(k:Int) < (l.length:Int):=by omega
   have hlm:k < m.length:=by rw [← HN.out];exact hlt
   have q3:(k:Int) < (m.length:Int):=by omega
   obtain ⟨b,o,rfl,c0,c1,c2⟩:=(ha.below hb1).at hlt;obtain ⟨b2,o2,rfl,d0,d1,d2⟩:=(hb.below hb1).at hlm;simp only [SB] at c0 c1 c2 d0 d1 d2;refine Z.s ?_;clear Z;intro a Z;refine od ?_;refine wp_cond_true (Z.ev 14 rfl) ?_;refine wp_skip ?_;refine wp_seq ?_;refine wp_block ?_;refine wp_seq ?_;refine EN rfl (by kernel_rfl) (by kernel_rfl) ?_;(iterate 3 refine Z.u ?_;clear Z;intro a Z);refine Z.q rfl rfl rfl (by decide) ⟨?_,fun y hy K hK =>?_,?_⟩;rotate_left
   ·have e19:=Z.g 19;replace hb1:=hb1.trans (hy.mono hb1.size);replace c0:=AB hy c0;replace c1:=AB hy c1;replace c2:=AB hy c2;replace d0:=AB hy d0;replace d1:=AB hy d1;replace d2:=AB hy d2;unfold Oper.Fp;go_simp;exact hK
   clear Z;intro a Z;(iterate 3 refine Z.u ?_;clear Z;intro a Z);refine Z.q rfl rfl rfl (by decide) ⟨?_,fun y hy K hK =>?_,?_⟩;rotate_left
   ·have e23:=Z.g 23;replace hb1:=hb1.trans (hy.mono hb1.size);replace c0:=AB hy c0;replace c1:=AB hy c1;replace c2:=AB hy c2;replace d0:=AB hy d0;replace d1:=AB hy d1;replace d2:=AB hy d2;unfold Oper.Fp;go_simp;exact hK
   clear Z;intro a Z
   by_cases he:l[k]=m[k]
   ·have HE:=Lib.hid he;rw [he] at Z;clear he;refine Z.u ?_;clear Z;intro a Z;refine EK ?_;intro x hb2;replace hb1:=hb1.trans (hb2.mono hb1.size);replace c0:=AB hb2 c0;replace c1:=AB hb2 c1;replace c2:=AB hb2 c2;replace d0:=AB hb2 d0;replace d1:=AB hb2 d1;replace d2:=AB hb2 d2;clear hb2;refine wp_cond_false (Z.ev 25 rfl) ?_;refine wp_skip ?_;refine wr ?_;refine Z.s ?_;clear Z;intro a Z;refine og fun K hK =>?_
    have e15:=Z.g 15;have hw:=Bf k (by omega);unfold Oper.wp;go_simp;clear e15;refine Z.K hK ?_;clear Z hK;intro a Z;refine Z.s ?_;clear Z;intro a Z;refine od ?_;exact ⟨n-1,by omega,k+1,by omega,by rw [List.take_succ_eq_append_getElem hlt,List.take_succ_eq_append_getElem hlm,HT.out,HE.out],Z.sb,hb1⟩
   ·have HE:=Lib.hid he;clear he;refine Z.q rfl rfl rfl (by decide) ⟨?_,fun y hy K hK =>?_,?_⟩;rotate_left
    ·have e20:=Z.g 20;have e24:=Z.g 24;unfold Oper.Fp;go_simp;rw [AbH (fun h0 h1 h2=>HE.out (AV.AbI h0 h1 h2))];refine ⟨rfl,?_⟩;exact hK
    clear Z;intro a Z;refine EK ?_;intro x hb2;replace hb1:=hb1.trans (hb2.mono hb1.size);replace c0:=AB hb2 c0;replace c1:=AB hb2 c1;replace c2:=AB hb2 c2;replace d0:=AB hb2 d0;replace d1:=AB hb2 d1;replace d2:=AB hb2 d2;clear hb2;refine wp_cond_true (Z.ev 25 rfl) ?_;refine wsr ?_;refine Z.s ?_;clear Z;intro a Z;refine od ?_;refine wp_ret ?_
    try simp only [Exit.then,Exit.inBlock]
    have HR:=Lib.hid (show decide (l=m)=false from decide_eq_false (fun h=>HE.out (by simp only [h])));rw [HR.out];refine bodyPost_ret (v := .bool false) ?_ Z.defers ⟨rfl,hb1⟩;simp [results,Try.results41,Z.get 4 _ rfl]
  ·have q1:¬ (k:Int) < (l.length:Int):=by omega
   obtain rfl:k=l.length:=by omega
   refine Z.s ?_;clear Z;intro a Z;refine od ?_;refine wp_cond_false (Z.ev 14 rfl) ?_;refine wp_exit ?_;refine wsr ?_;refine Z.s ?_;clear Z;intro a Z;refine od ?_;refine wp_ret ?_
   try simp only [Exit.then,Exit.inBlock]
   have HR:=Lib.hid (show decide (l=m)=true from decide_eq_true (by rw [← List.take_length (l:=l),HT.out,HN.out,List.take_length]));rw [HR.out];refine bodyPost_ret (v := .bool true) ?_ Z.defers ⟨rfl,hb1⟩;simp [results,Try.results41,Z.get 4 _ rfl]
 ·have q0:((l.length:Int) != (m.length:Int))=true:=by simp;omega
  refine Z.s ?_;clear Z;intro a Z;refine od ?_;refine wp_cond_true (Z.ev 10 rfl) ?_;refine wsr ?_;refine Z.s ?_;clear Z;intro a Z;refine od ?_;refine wp_ret ?_
  try simp only [Exit.then,Exit.inBlock]
  have HR:=Lib.hid (show decide (l=m)=false from decide_eq_false (fun h=>by rw [h] at q0;simp at q0));rw [HR.out];refine bodyPost_ret (v := .bool false) ?_ Z.defers ⟨rfl,Below.refl _ _⟩;simp [results,Try.results41,Z.get 4 _ rfl]
end
section
open Go Go.Conc
open Go.RowKit
section
variable {P:Program} {M:Machine} {ops:Array Oper} {Q:Exit→Act→World→Prop} {i:Nat} {rest:List Nat} {o:Oper} {a:Act} {w:World} {n d:Nat} {m:List (Nat×Value)} {v:Value}
theorem AY {id:Nat} (h:KU Q):KU (Exit.inBlock id Q):=fun a w hx=>h a w hx
theorem Kz {fn:Func} {R:Ending→World→Prop} (h:∀ w,¬ R .outgrown w):KU (bodyPost P fn R):=fun _ w hx=>h w hx
theorem Sl.kX (h:Sl a n m) {K:Act→World→Prop} (hK:∀ a w,Ns P M ops Q rest a w→K a w) (hd:d < n) (hG:∀ a',Sl a' n ((d,v) :: m)→Ns P M ops Q rest a' w):K (a.put (some d) v) w:=hK _ _ (hG _ (h.put d v hd))
theorem Sl.goX (h:Sl a n m) (hd:d < n) (hG:∀ a',Sl a' n ((d,v) :: m)→Ns P M ops Q rest a' w):Ns P M ops Q rest (a.put (some d) v) w:=hG _ (h.put d v hd)
theorem SC {fc:FuncId} {F:Func} {ars:Array Operand} {ats:Array TypeId} (ho:ops[i]? = some o) (hg:o.guard=none) (hop:o.op = .call { callee := .value (.func fc),args:=ars,argTypes:=ats })
  (hF:P.funcs[fc]? = some F) (hname:(F.name == "runtime.NumGoroutine")=false) (hbody:F.body.isNone=false) {args:Array Value} (ha:ars.map a.eval=args) {R:Ending→World→Prop} (hc:Ed P M fc args w R)
  (h:∀ e w'',R e w''→∃ v,e = .returned v∧Ns P M ops Q rest (a.put o.dst v) w''):Ns P M ops Q (i :: rest) a w:=by
 have hr:=JG (P:=P) (w:=w) (a:=a) hop rfl hF hname hbody;refine WL ho hg (f:=fc) (args:=args) (w':=w) ?_ hc h;rw [hr,← ha];simp
theorem VN (hP:EJ P) {f:Func} {k id:Nat} (hno:KU Q) (e:Aa f k=Code.region id ops false) (h:Ns P M ops Q (List.range ops.size) a w):wpX P M (Aa f k) Q a w:=by
 rw [e];exact N8 hP hno h
end
theorem Aaj {t:Ac} {l:List AV} {qs:List ((Int×Int)×Int)} (hq:∀ key,(atK qs key).getD 0=Ba l key) (o i:Nat):atV t.Ad t.Ai qs o i=atL t l o i:=by unfold atV atL;rw [hq]
theorem XA {t:Ac} {l:List AV} {qs:List ((Int×Int)×Int)} (hq:∀ key,(atK qs key).getD 0=Ba l key) (o:Nat):Zw t.Ad t.Ai qs o=Jz t l o:=by
 unfold Zw Jz QR;rw [show atV t.Ad t.Ai qs o=atL t l o from funext fun i=>Aaj hq o i]
theorem Il.c {w:World} {bd mb:Nat} {t:Ac} {s:DF} {l:List AV} (hT:BM w t s) (hD:Il w bd mb t s l) (ho:Ea t l=0) :
  ∃ q pb po pc tb to_ tc clock ents,Nq w.heap.size w bd t.Ad t.Ai q pb po pc tb to_ tc mb clock ents∧∀ key,(atK q key).getD 0=Ba l key:=by
 have hck:=Pn ho;have hF:=Fz.of hck (Gw ho).1 (Gw ho).2;obtain ⟨_,_,_,hp1,_⟩:=Au hck;obtain ⟨qs,hm,hq⟩:=hD.map;have d4:=hD.kd.cell (o:=4) rfl;have d5:=hD.kd.cell (o:=5) rfl;have d6:=hD.kd.cell (o:=6) rfl
 change w.cell? _=some (.slice s.pa t.Ad.length s.pc) at d4
 change w.cell? _=some (.slice s.ta t.Ai.length s.tc) at d5
 change w.cell? _=some (.map (some mb)) at d6
 obtain ⟨pb,po,hpa,_,_,_⟩:=hT.Ad.at (i:=0) (by omega)
 have hpay:∀ (o:Nat) (h:o < t.Ad.length),w.cell? ⟨pb,po+o*3,none⟩=some (.int .i64 t.Ad[o].heads)∧w.cell? ⟨pb,po+o*3+1,none⟩=some (.int .i64 t.Ad[o].free)∧w.cell? ⟨pb,po+o*3+2,none⟩=some (.bool t.Ad[o].half):=fun o h=>by
  obtain ⟨b',o',e,h1,h2,h3⟩:=hT.Ad.at h;rw [hpa] at e;simp only [Option.some.injEq,Addr.mk.injEq,and_true] at e;obtain ⟨rfl,rfl⟩:=e;exact ⟨h1,h2,h3⟩
 have lpb:pb < w.heap.size:=lt_of_cell (hpay 0 (by omega)).1
 obtain ⟨tb,to_,htb,hta,htl⟩:∃ tb to_,tb < w.heap.size∧(t.Ai≠[]→s.ta=some ⟨tb,to_,none⟩)∧∀ (i:Nat) (h:i < t.Ai.length),w.cell? ⟨tb,to_+i*3+1,none⟩=some (.int .i64 t.Ai[i].rate):=by
  rcases hT.Ai with h | ⟨b,o,ha,h⟩
  ·exact ⟨pb,0,lpb,fun hne=>absurd h hne,fun i hi=>by rw [h] at hi;simp at hi⟩
  ·by_cases hz:0 < t.Ai.length
   ·exact ⟨b,o,lt_of_cell (h 0 hz).1,fun _=>ha,fun i hi=>(h i hi).2.1⟩
   ·exact ⟨pb,0,lpb,fun hne=>absurd (List.length_pos_iff.2 hne) hz,fun i hi=>absurd (by omega) hz⟩
 rw [hpa] at d4;exact ⟨qs,pb,po,s.pc,tb,to_,s.tc,_,_,⟨lt_of_cell d4,lpb,htb,hm.lt,d4,⟨s.ta,d5,hta⟩,d6,fun o h=>(hpay o h).1,fun o h=>(hpay o h).2.1,fun o h=>(hpay o h).2.2,htl,hm,PI qs,hF.pf,hF.rt,fun k=>by rw [hq];exact hF.ps k⟩,hq⟩
end
section
open Go Go.Conc
open Go.RowKit
def I7 (w0:World) (L:List Int) (err:Int) (e:Ending) (w':World):Prop :=
 Below w0.heap.size w0 w'∧(err≠0→e = .returned (.tuple #[.slice none 0 0, .int .i64 err]))∧(err=0→∃ g,e = .returned (.tuple #[.slice (some ⟨g,0,none⟩) L.length L.length, .int .i64 0])∧w0.heap.size≤g∧Rw w' g (NP L) 3)
theorem I7.no {w0:World} {L:List Int} {err:Int} (w':World):¬ I7 w0 L err .outgrown w':=fun h=>by
 rcases Classical.em (err=0) with e | e
 ·obtain ⟨g,hx,_⟩:=h.2.2 e;cases hx
 ·cases h.2.1 e
def NL (f:Nat→Int) (n:Nat):List Int:=(List.range n).map f
theorem WX (f:Nat→Int) (n:Nat):(NL f n).length=n:=by simp [NL]
theorem Abz {row:Array Value} {n:Nat} {f g:Nat→Int} (hs:row.size=n) (h:∀ i,i < n→row[i]? = some (.int .i64 (g i))) (hfg:∀ i,g i=f i):row=NP (NL f n):=by
 apply Array.ext
 ·simp [NP,NL,hs]
 ·intro i h1 h2;have:=h i (by omega);rw [Array.getElem?_eq_getElem h1,hfg] at this;rw [Option.some.inj this];simp [NP,NL]
theorem UE:Try.f30.body=some (Code.seq (Aa Try.f30 0) (Code.seq (Aa Try.f30 1) (Code.seq (Code.seq (Aa Try.f30 2) (Code.cond (Operand.tmp 15) (Code.seq (Aa Try.f30 3) Code.ret) Code.skip)) (Code.seq (Aa Try.f30 4) Code.ret)))):=by kernel_rfl
theorem YY {M:Machine} {t:Ac} {s:DF} {l:List AV} {la:Option Addr} {lc:Nat} {w:World} (ht:BM w t s) (hl:GY w la l) (hlm:l.length≤maxLen):Ed Try.prog M 30 #[.agg (Em t s), .slice la l.length lc] w (I7 w (NL (Jz t l) t.Ad.length) (Ea t l)):=by
 have hno:KU (bodyPost Try.prog Try.f30 (I7 w (NL (Jz t l) t.Ad.length) (Ea t l))):=Kz I7.no;refine Ia G5 Try.func30 UE ?_ I7.no;have Z:Sl (⟨#[.agg (Em t s), .slice la l.length lc]++Array.replicate (Try.f30.ntmps-(#[.agg (Em t s), .slice la l.length lc]:Array Value).size) undef,[]⟩:Act) 21 [(0, .agg (Em t s)),(1, .slice la l.length lc)]:=by rw [Try.ntmps30];exact Sl.Xv _ _ (by omega)
 revert Z;generalize (Act.mk _ _)=a;intro Z;refine D6 G5 ?_;refine wpX.of G5 ?_ (by repeat (first | assumption | apply Be | apply AY));refine wr ?_;refine Z.s ?_;clear Z;intro a Z;refine Ae (G:=fun W=>wpOps _ _ _ _ _ W) ?_;intro x hz X hb;have hI:=TI.made (Below.refl _ _) ht X hb;obtain ⟨bt,hbt⟩:∃ b,b=w.heap.size:=⟨_,rfl⟩;rw [← hbt] at Z hI;clear hz X hb hbt;(iterate 2 refine Z.s ?_;clear Z;intro a Z);refine od ?_;refine D6 G5 ?_;refine wpX.of G5 ?_ (by repeat (first | assumption | apply Be | apply AY));refine wr ?_;refine og fun K hK =>?_
 have e2:=Z.g 2;have c0:=hI.c0;have c1:=hI.c1;have c2:=hI.c2;have c3:=hI.c3;have c4:=hI.c4;have c5:=hI.c5;unfold Oper.wp;go_simp;clear e2;refine Z.K hK ?_;clear Z hK;intro a Z;refine Z.s ?_;clear Z;intro a Z;refine og fun K hK =>?_
 have e9:=Z.g 9;have e10:=Z.g 10;unfold Oper.wp;go_simp;refine (P6 hI.tar (hl.below hI.below) hlm).mono ?_;rintro e x2 ⟨hb2,hN,hS⟩;have hxx:=hI.below.size;replace hI:=hI.keep hb2;clear e9 e10
 by_cases h1:Ea t l=0
 ·obtain ⟨bd,mb,rfl,hbd,hmb,hD⟩:=hS h1;have HE:=Lib.hid h1;have hne:=Cf h1;clear hS hN hb2 hxx h1;refine Z.K hK ?_;clear Z hK;intro a Z;obtain ⟨x,hx2⟩:∃ x,x=x2:=⟨_,rfl⟩;rw [← hx2] at hI ⊢ hD;clear hx2;(iterate 5 refine Z.s ?_;clear Z;intro a Z);refine od ?_;refine D6 G5 ?_;refine wpX.of G5 ?_ (by repeat (first | assumption | apply Be | apply AY));refine wsr ?_;(iterate 2 refine Z.s ?_;clear Z;intro a Z);refine od ?_;refine wp_cond_false (Z.ev 15 rfl) ?_;refine wp_skip ?_;refine D6 G5 ?_;rw [show Aa Try.f30 4=Code.region 4 _ false from rfl];refine N8 G5 (by repeat (first | assumption | apply Be | apply AY)) ?_;refine ER rfl rfl (fun K hK =>?_);have e6:=Z.g 6;unfold Oper.wp;go_simp;clear e6;refine Z.kX hK (by decide) ?_;clear Z hK;intro a Z;refine ER rfl rfl (fun K hK =>?_);have e6:=Z.g 6;unfold Oper.wp;go_simp;clear e6;refine Z.kX hK (by decide) ?_;clear Z hK;intro a Z;refine ER rfl rfl (fun K hK =>?_);have e18:=Z.g 18;unfold Oper.wp;go_simp;clear e18;refine Z.kX hK (by decide) ?_;clear Z hK;intro a Z;have e17:=Z.g 17;have e19:=Z.g 19;obtain ⟨qs,pb,po,pc,tb,to_,tc,clock,ents,hDC,hq⟩:=Il.c hI.tar hD HE.out;have hFL:=Fz.of (Pn HE.out) (Gw HE.out).1 (Gw HE.out).2
  refine SC rfl rfl rfl Try.func78 (by kernel_rfl) (by kernel_rfl) (args:=#[.pointer (some ⟨bd,0,none⟩), .func (.func 79) #[.pointer (some ⟨bd,0,none⟩)] #[]]) (by simp [Act.eval,Array.getD_eq_getD_getElem?,e17,e19]) (YW hDC hFL.nt hFL.np) ?_;clear e17 e19;rintro e x2 ⟨g,row,rfl,hb,hg,hrow,hrs,hri⟩;have hxx:=hI.below.size;have hG:Rw x2 g (NP (NL (Jz t l) t.Ad.length)) 3:=by have:=Abz hrs hri (fun i=>XA hq i);rw [this] at hrow;exact hrow
  replace hI:=hI.keep hb;have hgw:w.heap.size≤g:=Nat.le_trans hxx hg;clear hrow hrs hri hb hD hDC hq hxx hg;obtain ⟨x,hx2⟩:∃ x,x=x2:=⟨_,rfl⟩;rw [← hx2] at hI hG ⊢;clear hx2;refine ⟨_,rfl,?_⟩;refine Z.goX (by decide) ?_;clear Z;intro a Z;refine ER rfl rfl (fun K hK =>?_);have e20:=Z.g 20;unfold Oper.wp;go_simp;clear e20;refine Z.kX hK (by decide) ?_;clear Z hK;intro a Z;refine ER rfl rfl (fun K hK =>?_);unfold Oper.wp;go_simp;refine Z.kX hK (by decide) ?_;clear Z hK;intro a Z;refine Me ?_;refine wpX.of G5 ?_ (by repeat (first | assumption | apply Be | apply AY));refine wp_ret ?_
  try simp only [Exit.then,Exit.inBlock]
  refine bodyPost_ret (v := .tuple #[.slice (some ⟨g,0,none⟩) t.Ad.length t.Ad.length, .int .i64 0]) ?_ Z.defers ⟨hI.below,fun h=>absurd HE.out h,fun _=>⟨g,by rw [WX],hgw,hG⟩⟩;simp [results,Try.results30,Z.get 4 _ rfl,Z.get 5 _ rfl]
 ·obtain rfl:=hN h1;have HE:=Lib.hid h1;have hne:=C9 h1;clear hS hN hb2 hxx h1;refine Z.K hK ?_;clear Z hK;intro a Z;obtain ⟨x,hx2⟩:∃ x,x=x2:=⟨_,rfl⟩;rw [← hx2] at hI ⊢;clear hx2;(iterate 5 refine Z.s ?_;clear Z;intro a Z);refine od ?_;refine D6 G5 ?_;refine wpX.of G5 ?_ (by repeat (first | assumption | apply Be | apply AY));refine wsr ?_;(iterate 2 refine Z.s ?_;clear Z;intro a Z);refine od ?_;refine wp_cond_true (Z.ev 15 rfl) ?_;refine wsr ?_;(iterate 3 refine Z.s ?_;clear Z;intro a Z);refine od ?_;refine wp_ret ?_
  try simp only [Exit.then,Exit.inBlock]
  refine bodyPost_ret (v := .tuple #[.slice none 0 0, .int .i64 (Ea t l)]) ?_ Z.defers ⟨hI.below,fun _=>rfl,fun h=>absurd h HE.out⟩;simp [results,Try.results30,Z.get 4 _ rfl,Z.get 5 _ rfl]
end
end Go.Proofs.Ytgdobbcjkiapkaa
