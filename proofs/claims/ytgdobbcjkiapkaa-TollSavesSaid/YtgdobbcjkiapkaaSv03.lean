import Derived.Test.YtgdobbcjkiapkaaSv01
import Derived.Test.YtgdobbcjkiapkaaSv02
import Derived.Defers
namespace Go.Proofs.Ytgdobbcjkiapkaa
set_option maxRecDepth 100000
set_option maxHeartbeats 4000000
set_option linter.unusedSimpArgs false
set_option linter.unusedVariables false
section
open Go Go.RowKit
def AbX (ops:Array Oper) (tab:List (List Nat)):Bool :=
 (List.range ops.size).all fun i=>match ops[i]? with|some o=>(tab.getD i []).all fun j=>decide (j<i) && ((waits o).contains j || (waits o).any fun d=>decide (d<i) && (tab.getD d []).contains j)|none=>true
def OT (tab:List (List Nat)) (i j:Nat):Bool:=(tab.getD i []).contains j
theorem Ui {ops:Array Oper}{tab:List (List Nat)}(ht:AbX ops tab=true) {L:Nat→Bool}(hc:∀ k o,ops[k]?=some o→L k=true→BP o L=true) (i:Nat):i<ops.size→L i=true→∀ j,OT tab i j=true→j<i∧L j=true:=by
 induction i using Nat.strongRecOn with
 | ind i ih =>
  intro hi hL j hj;have ho:ops[i]?=some ops[i]:=Array.getElem?_eq_getElem hi;have h1:=(List.all_eq_true.1 ht) i (by rw[List.mem_range];exact hi);rw[ho]at h1
  dsimp only at h1
  have h2:=(List.all_eq_true.1 h1) j (by simpa[OT] using hj);rw[Bool.and_eq_true]at h2;obtain⟨h3,h4⟩:=h2;have hr:=CX (hc i _ ho hL);refine⟨by simpa using h3,?_⟩;rw[Bool.or_eq_true]at h4;rcases h4 with h4|h4
  ·exact hr j (by simpa using h4)
  ·rw[List.any_eq_true]at h4;obtain⟨d,hd,h5⟩:=h4;rw[Bool.and_eq_true]at h5;have hdi:d<i:=by simpa using h5.1
   exact(ih d hdi (by omega) (hr d hd) j h5.2).2
def lastB (n:Nat) (tab:List (List Nat)) (i:Nat):Bool:=decide (i+1=n) && (List.range i).all (OT tab i)
def Ab3 (ops:Array Oper) (tab:List (List Nat)) (eff:Nat→Bool):Bool :=
 Region.noSelect ops && dag ops && AbX ops tab && (List.range ops.size).all fun i=>(List.range i).all fun j=>OT tab i j ||
  (match ops[i]?,ops[j]? with|some oi,some oj=>oj.apart ops oi && !(eff i && eff j)|_,_=>false)
section
variable {P:Program}{ops:Array Oper}{C:World→Prop}{Q:Exit→Act→World→Prop}{lb eff:Nat→Bool}
def BJ (P:Program) (o:Oper) (a:Act) (w:World) (K:Value→World→Prop):Prop :=
 match (execOp a.eval o).run P w with
 | .ok (.value u) w'=>K u w'
 | .ok .skip w'=>K undef w'
 | .ok (.enter f args) w'=>Calls P f args w' fun e w''=>∃ u,e=.returned u∧K u w''
 | _=>False
def MB (P:Program) (C:World→Prop) (o:Oper) (a:Act) (v:Value):Prop:=∀ y,C y→(execOp a.eval o).run P y=.ok (.value v) y
theorem LM {o:Oper}{a:Act}{w:World}{K K':Value→World→Prop}(h:BJ P o a w K) (hk:∀ u w',K u w'→K' u w'):BJ P o a w K':=by
 unfold BJ at *;generalize (execOp a.eval o).run P w=r at *
 cases r with
 | ok n w' =>
  cases n<;>simp only at h ⊢
  case value u=>exact hk _ _ h
  case skip=>exact hk _ _ h
  case enter f args=>exact h.mono fun e w'' ⟨u,he,hu⟩=>⟨u,he,hk _ _ hu⟩
  all_goals exact h
 | halt x w'=>exact h
theorem Zz {o:Oper}{a:Act}{w:World}{K:Value→World→Prop}(h:BJ P o a w K):∃ u w',K u w':=by
 unfold BJ at h;generalize (execOp a.eval o).run P w=r at *
 cases r with
 | ok n w' =>
  cases n<;>simp only at h
  case value u=>exact⟨_,_,h⟩
  case skip=>exact⟨_,_,h⟩
  case enter f args =>
   obtain⟨e,w',fr,⟨u,_,hu⟩,_⟩:=h [];exact⟨_,_,hu⟩
 | halt x w'=>exact h.elim
theorem Uy {o:Oper}{a:Act}{w:World}{K:Value→World→Prop}{K':Act→World→Prop}(h:BJ P o a w K) (hk:∀ u w',K u w'→K' (a.put o.dst u) w'):o.wp P a w K' Q:=by
 unfold BJ at h;unfold Oper.wp Oper.upon;generalize (execOp a.eval o).run P w=r at *
 cases r with
 | ok n w' =>
  cases n<;>simp only at h ⊢
  case value u=>exact hk _ _ h
  case skip=>exact hk _ _ h
  case enter f args=>exact h.mono fun e w'' ⟨u,he,hu⟩=>by subst he;exact hk _ _ hu
  all_goals exact h
 | halt x w'=>exact h.elim
def stepM (P:Program) (ops:Array Oper) (C:World→Prop) (lb eff:Nat→Bool) (i:Nat) (K:Act→World→Prop) (a:Act) (w:World):Prop :=
 match ops[i]? with
 | none=>False
 | some o =>
  if Region.wanted o (yielded ops a.tmps) then
   (if eff i then BJ P o a w fun u w'=>(lb i=true∨C w')∧K (a.put o.dst u) w' else ∃ v,MB P C o a v∧K (a.put o.dst v) w)
  else K (a.put o.dst undef) w
def ER (P:Program) (ops:Array Oper) (C:World→Prop) (lb eff:Nat→Bool) (Q:Exit→Act→World→Prop):List Nat→Act→World→Prop
 | [],a,w=>Q .normal a w
 | i::rest,a,w=>stepM P ops C lb eff i (ER P ops C lb eff Q rest) a w
theorem LC {i:Nat}{K K':Act→World→Prop}{a:Act}{w:World}(hl:lb i=false) (hC:C w) (h:stepM P ops C lb eff i K a w) (hk:∀ a w,C w→K a w→K' a w):stepM P ops C lb eff i K' a w:=by
 unfold stepM at *
 cases ho:ops[i]? with
 | none=>rw[ho]at h;exact h
 | some o =>
  rw[ho]at h
  dsimp only at h ⊢
  split
  ·rename_i hw
   rw[if_pos hw]at h
   split
   ·rename_i he
    rw[if_pos he]at h;refine LM h fun u w' ⟨h1,h2⟩ =>?_
    rcases h1 with h1|h1
    ·rw[hl]at h1;simp at h1
    ·exact⟨.inr h1,hk _ _ h1 h2⟩
   ·rename_i he
    rw[if_neg he]at h;obtain⟨v,hv,h2⟩:=h;exact⟨v,hv,hk _ _ hC h2⟩
  ·rename_i hw
   rw[if_neg hw]at h;exact hk _ _ hC h
theorem OV {i j:Nat}{oi oj:Oper}{K:Act→World→Prop}{a:Act}{w:World}(hoi:ops[i]?=some oi) (hoj:ops[j]?=some oj) (hap:oj.apart ops oi=true)
  (hsi:∀ cs b,oi.op ≠ .select cs b) (hsj:∀ cs b,oj.op ≠ .select cs b) (hne:¬ (eff i=true∧eff j=true)) (hli:lb i=false) (hlj:lb j=false) (hC:C w)
  (h:stepM P ops C lb eff j (stepM P ops C lb eff i K) a w):stepM P ops C lb eff i (stepM P ops C lb eff j K) a w:=by
 obtain⟨h1,h2,h3⟩:=Oper.apart_spec hap;have wi:∀ (a:Act) v,Region.wanted oi (yielded ops (a.put oj.dst v).tmps)=Region.wanted oi (yielded ops a.tmps):=fun a v=>wanted_put oi a oj.dst v h1
 have wj:∀ (a:Act) v,Region.wanted oj (yielded ops (a.put oi.dst v).tmps)=Region.wanted oj (yielded ops a.tmps):=fun a v=>wanted_put oj a oi.dst v h3
 have ei:∀ (a:Act) v,execOp (a.put oj.dst v).eval oi=execOp a.eval oi:=fun a v=>execOp_put oi hsi a oj.dst v h1
 have ej:∀ (a:Act) v,execOp (a.put oi.dst v).eval oj=execOp a.eval oj:=fun a v=>execOp_put oj hsj a oi.dst v h3
 have pc:∀ (a:Act) u v,(a.put oj.dst u).put oi.dst v=(a.put oi.dst v).put oj.dst u:=fun a u v=>Act.put_comm a u v h2
 have li:∀ {w'},(lb i=true∨C w')→C w':=fun h=>by rcases h with h|h;(rw[hli]at h;simp at h);exact h
 have lj:∀ {w'},(lb j=true∨C w')→C w':=fun h=>by rcases h with h|h;(rw[hlj]at h;simp at h);exact h
 have Ei:∀ {a:Act} {v w K},BJ P oi (a.put oj.dst v) w K=BJ P oi a w K:=fun {a v w K}=>by unfold BJ;rw[ei]
 have Ej:∀ {a:Act} {v w K},BJ P oj (a.put oi.dst v) w K=BJ P oj a w K:=fun {a v w K}=>by unfold BJ;rw[ej]
 have Qi:∀ {a:Act} {v u},MB P C oi (a.put oj.dst v) u=MB P C oi a u:=fun {a v u}=>by unfold MB;rw[ei]
 have Qj:∀ {a:Act} {v u},MB P C oj (a.put oi.dst v) u=MB P C oj a u:=fun {a v u}=>by unfold MB;rw[ej]
 unfold stepM at *;rw[hoj]at h;rw[hoi];simp only[hoi,hoj,wi,wj,Ei,Ej,Qi,Qj,pc]at h ⊢
 by_cases cj:Region.wanted oj (yielded ops a.tmps)=true<;>by_cases ci:Region.wanted oi (yielded ops a.tmps)=true<;>simp only[cj,ci,if_true,Bool.false_eq_true,if_false]at h ⊢
 ·by_cases dj:eff j=true<;>by_cases di:eff i=true<;>simp only[dj,di,if_true,Bool.false_eq_true,if_false]at h ⊢
  ·exact absurd ⟨di,dj⟩ hne
  ·obtain⟨u,w',_,v,hv,_⟩:=Zz h;refine⟨v,hv,LM h fun u' w'' ⟨hc,v',hv',hk⟩=>⟨hc,?_⟩⟩
   have e:v'=v:=by
    have q1:=hv w hC;have q2:=hv' w hC;rw[q1]at q2;simpa using q2.symm
   rw[← e];exact hk
  ·obtain⟨v,hv,h⟩:=h;exact LM h fun u w' ⟨hc,hk⟩=>⟨hc,v,hv,hk⟩
  ·obtain⟨v,hv,u,hu,hk⟩:=h;exact⟨u,hu,v,hv,hk⟩
 ·exact h
 ·exact h
 ·exact h
theorem Acd {i:Nat}{oi:Oper}{post:List Nat}(hoi:ops[i]?=some oi) (hsel:∀ (j:Nat) (o:Oper) cs b,ops[j]?=some o→o.op ≠ .select cs b) (hli:lb i=false):∀ (pre:List Nat) (a:Act) (w:World),C w →
  (∀ j∈pre,∃ oj,ops[j]?=some oj∧oj.apart ops oi=true∧¬ (eff i=true∧eff j=true)∧lb j=false)→ER P ops C lb eff Q (pre++i::post) a w→ER P ops C lb eff Q (i::(pre++post)) a w
 | [],a,w,_,_,h=>h
 | j::pre,a,w,hC,hp,h=>by
  obtain⟨oj,hoj,hap,hne,hlj⟩:=hp j (by simp);have h':stepM P ops C lb eff j (ER P ops C lb eff Q (i::(pre++post))) a w:=LC hlj hC h fun a' w' hC' h2=>Acd hoi hsel hli pre a' w' hC' (fun k hk=>hp k (by simp[hk])) h2
  exact OV hoi hoj hap (fun cs b=>hsel i oi cs b hoi) (fun cs b=>hsel j oj cs b hoj) hne hli hlj hC h'
theorem Xb {n i:Nat}{L:Nat→Bool}(hi:i<n) (hl:L i=false):∃ pre post,(List.range n).filter (fun k => !L k)=pre++i::post∧(∀ j∈pre,j<i∧L j=false)∧(List.range n).filter (fun k => !BC L i true k)=pre++post:=by
 have key:List.range n=List.range i++i::(List.range' (i+1) (n-(i+1))):=by
  rw[List.range_eq_range',List.range_eq_range'];have:n=i+((n-(i+1))+1):=by omega
  conv=>lhs;rw[this]
  rw[← List.range'_append_1];simp[List.range'_succ]
 refine⟨(List.range i).filter fun k => !L k,(List.range' (i+1) (n-(i+1))).filter fun k => !L k,?_,?_,?_⟩
 ·rw[key,List.filter_append,List.filter_cons,hl];simp
 ·intro j hj;rw[List.mem_filter,List.mem_range]at hj;exact⟨hj.1,by simpa using hj.2⟩
 ·rw[key,List.filter_append,List.filter_cons]
  have e1:(List.range i).filter (fun k => !BC L i true k)=(List.range i).filter fun k => !L k:=by
   apply List.filter_congr;intro k hk;rw[List.mem_range]at hk;rw[Ap _ _ (by omega)]
  have e2:(List.range' (i+1) (n-(i+1))).filter (fun k => !BC L i true k)=(List.range' (i+1) (n-(i+1))).filter fun k => !L k:=by
   apply List.filter_congr;intro k hk;rw[List.mem_range'_1]at hk;rw[Ap _ _ (by omega)]
  rw[e1,e2,Ez];simp
theorem Py {id:Nat}{a:Act}{w:World}(tab:List (List Nat)) (eff:Nat→Bool) (C:World→Prop) (hm:P.follows .mixedOrders=true) (hB:Ab3 ops tab eff=true) (hC:C w.drew) (h:ER P ops C (lastB ops.size tab) eff Q (List.range ops.size) a w.drew):(Code.region id ops true).wp P Q a w:=by
 unfold Ab3 at hB;rw[Bool.and_eq_true,Bool.and_eq_true,Bool.and_eq_true]at hB;obtain⟨⟨⟨hsel,hdag⟩,htab⟩,hpair⟩:=hB;have hsel':=Region.noSelect_spec hsel;refine DC hm (fun L a' w'=>(∀ k o,ops[k]?=some o→L k=true→BP o L=true)∧(C w'∨∀ k,k<ops.size→L k=true)∧ER P ops C (lastB ops.size tab) eff Q ((List.range ops.size).filter fun k => !L k) a' w') ?_ ?_ ?_
 ·exact⟨fun _ _ _ h=>by simp at h,.inl hC,by rw[show (List.range ops.size).filter (fun k => !(fun _=>false) k)=List.range ops.size from List.filter_eq_self.2 (fun _ _=>rfl)];exact h⟩
 ·intro L a' w' i o ho hI hli hri;obtain⟨hc,hCw,hw⟩:=hI;have hi:i<ops.size:=(Array.getElem?_eq_some_iff.1 ho).1
  have hgo:∀ k o',ops[k]?=some o'→BC L i true k=true→BP o' (BC L i true)=true:=by
   intro k o' hk' hLk
   have hmono:∀ j,L j=true→BC L i true j=true:=fun j hj=>by
    unfold BC;split
    ·rfl
    ·exact hj
   by_cases e:k=i
   ·subst e;obtain rfl:=Option.some.inj (ho.symm.trans hk');exact DD hmono hri
   ·rw[Ap _ _ e]at hLk;exact DD hmono (hc k o' hk' hLk)
  have hC':C w':=by
   rcases hCw with h|h
   ·exact h
   ·rw[h i hi]at hli;simp at hli
  have hanc:∀ j,OT tab i j=true→j<i∧L j=true:=by
   intro j hj;obtain⟨h1,h2⟩:=Ui htab hgo i hi (Ez _ _ _) j hj;rw[Ap _ _ (by omega)]at h2;exact⟨h1,h2⟩
  obtain⟨pre,post,e1,e2,e3⟩:=Xb hi hli;rw[e1]at hw
  have hfront:ER P ops C (lastB ops.size tab) eff Q (i::(pre++post)) a' w':=by
   cases hpre:pre with
   | nil=>rw[hpre]at hw;exact hw
   | cons j0 pre0 =>
    rw[← hpre]
    have hlast:∀ j,j<i→L j=false→lastB ops.size tab i=false:=fun j hj hL=>by
     cases hb:lastB ops.size tab i with
     | false=>rfl
     | true =>
      unfold lastB at hb;rw[Bool.and_eq_true]at hb;have:=(hanc j ((List.all_eq_true.1 hb.2) j (by rw[List.mem_range];exact hj))).2;rw[hL]at this;simp at this
    have hj0:=e2 j0 (by rw[hpre];simp);refine Acd ho hsel' (hlast j0 hj0.1 hj0.2) pre a' w' hC' (fun j hj=>?_) hw;obtain⟨hji,hLj⟩:=e2 j hj;have hoj:ops[j]?=some ops[j]:=Array.getElem?_eq_getElem (by omega);have hp:=(List.all_eq_true.1 hpair) i (by rw[List.mem_range];exact hi);have hp2:=(List.all_eq_true.1 hp) j (by rw[List.mem_range];exact hji);rw[Bool.or_eq_true]at hp2;rcases hp2 with hp2|hp2
    ·have h:=(hanc j hp2).2;rw[hLj]at h;simp at h
    ·rw[ho,hoj]at hp2
     dsimp only at hp2
     rw[Bool.and_eq_true]at hp2;refine⟨_,hoj,hp2.1,fun ⟨x1,x2⟩ =>?_,?_⟩
     ·have:=hp2.2;rw[x1,x2]at this;simp at this
     ·unfold lastB;have:¬ (j+1=ops.size):=by omega
      simp[this]
  have hs:stepM P ops C (lastB ops.size tab) eff i (ER P ops C (lastB ops.size tab) eff Q (pre++post)) a' w':=hfront
  have hfin:∀ a'' w'',(lastB ops.size tab i=true∨C w'')→ER P ops C (lastB ops.size tab) eff Q (pre++post) a'' w''→(∀ k o',ops[k]?=some o'→BC L i true k=true→BP o' (BC L i true)=true)∧(C w''∨∀ k,k<ops.size→BC L i true k=true)∧ER P ops C (lastB ops.size tab) eff Q ((List.range ops.size).filter fun k => !BC L i true k) a'' w'':=by
   intro a'' w'' hx hmx;refine⟨hgo,?_,by rw[e3];exact hmx⟩;rcases hx with hx|hx
   ·refine .inr fun k hk=>?_
    unfold lastB at hx;rw[Bool.and_eq_true]at hx;have hki:i+1=ops.size:=by simpa using hx.1
    by_cases e:k=i
    ·subst e;exact Ez _ _ _
    ·rw[Ap _ _ e];exact(hanc k ((List.all_eq_true.1 hx.2) k (by rw[List.mem_range];omega))).2
   ·exact .inl hx
  unfold stepM at hs;rw[ho]at hs
  dsimp only at hs
  unfold wpOp;rw[ho]
  dsimp only
  split
  ·rename_i hwn
   rw[if_pos hwn]at hs;refine .inl ?_
   split at hs
   ·exact Uy hs fun u w'' ⟨hx,hmx⟩=>hfin _ _ hx hmx
   ·obtain⟨v,hv,hmx⟩:=hs;unfold Oper.wp;rw[hv w' hC',Oper.upon_value];exact hfin _ _ (.inr hC') hmx
  ·rename_i hwn
   rw[if_neg hwn]at hs;exact hfin _ _ (.inr hC') hs
 ·intro L a' w' hall hI;obtain⟨_,_,hw⟩:=hI;have hk:=GY hdag hall
  have e:(List.range ops.size).filter (fun k => !L k)=[]:=by
   rw[List.filter_eq_nil_iff];intro k hk';rw[List.mem_range]at hk';simp[hk k hk']
  rw[e]at hw;exact hw
theorem IP {f:Func}{k id:Nat}{a:Act}{w:World}(tab:List (List Nat)) (eff:Nat→Bool) (C:World→Prop) (e:Ac f k=Code.region id ops true) (hm:P.follows .mixedOrders=true) (hB:Ab3 ops tab eff=true) (hC:C w.drew) (h:ER P ops C (lastB ops.size tab) eff Q (List.range ops.size) a w.drew):(Ac f k).wp P Q a w:=by
 rw[e];exact Py tab eff C hm hB hC h
end
section
variable {P:Program}{ops:Array Oper}{C:World→Prop}{Q:Exit→Act→World→Prop}{eff:Nat→Bool}{Qt:Act→World→Prop}{n0:Nat}
def FO (ops:Array Oper) (n0:Nat) (L:Nat→Bool):List Nat:=(List.range n0).filter fun i => !L i && (match ops[i]? with|some o=>BP o L|none=>false)
def anyM (P:Program) (ops:Array Oper) (C:World→Prop) (eff:Nat→Bool) (n0:Nat) (Qt:Act→World→Prop):Nat→(Nat→Bool)→Act→World→Prop
 | 0,L,a,w=>FO ops n0 L=[]∧Qt a w
 | fuel+1,L,a,w=>(FO ops n0 L=[]→Qt a w)∧∀ i∈FO ops n0 L,stepM P ops C (fun _=>false) eff i (anyM P ops C eff n0 Qt fuel (BC L i true)) a w
theorem Hq {L:Nat→Bool}{i:Nat}:i∈FO ops n0 L↔i<n0∧L i=false∧∃ o,ops[i]?=some o∧BP o L=true:=by
 unfold FO;rw[List.mem_filter,List.mem_range,Bool.and_eq_true]
 constructor
 ·rintro⟨h1,h2,h3⟩
  cases ho:ops[i]? with
  | none=>rw[ho]at h3;simp at h3
  | some o=>rw[ho]at h3;exact⟨h1,by simpa using h2,o,rfl,h3⟩
 ·rintro⟨h1,h2,o,ho,h3⟩;exact⟨h1,by simp[h2],by rw[ho];exact h3⟩
theorem JL {L:Nat→Bool}{i j:Nat}(h:j∈FO ops n0 L) (hne:j≠i):j∈FO ops n0 (BC L i true):=by
 obtain⟨h1,h2,o,ho,h3⟩:=Hq.1 h;refine Hq.2 ⟨h1,by rw[Ap _ _ hne];exact h2,o,ho,DD (fun k hk=>?_) h3⟩;unfold BC;split
 ·rfl
 ·exact hk
theorem Ws {L:Nat→Bool}{i j:Nat}:BC (BC L i true) j true=BC (BC L j true) i true:=by
 funext k;unfold BC;split<;>split<;>rfl
theorem UZ {i:Nat}{o:Oper}{K:Act→World→Prop}{a:Act}{w:World}(ho:ops[i]?=some o) (hC:C w) (h:stepM P ops C (fun _=>false) eff i K a w):wpOp P ops Q i (fun a' w'=>C w'∧K a' w') a w:=by
 unfold stepM at h;rw[ho]at h
 dsimp only at h
 unfold wpOp;rw[ho]
 dsimp only
 split
 ·rename_i hwn
  rw[if_pos hwn]at h;refine .inl ?_
  split at h
  ·exact Uy h fun u w'' ⟨hx,hmx⟩=>⟨by simpa using hx,hmx⟩
  ·obtain⟨v,hv,hmx⟩:=h;unfold Oper.wp;rw[hv w hC,Oper.upon_value];exact⟨hC,hmx⟩
 ·rename_i hwn
  rw[if_neg hwn]at h;exact⟨hC,h⟩
def Abn (ops:Array Oper) (n0:Nat) (L:Nat→Bool) (i:Nat):Bool:=(List.range n0).all fun j=>j == i || L j || (match ops[i]?,ops[j]? with|some oi,some oj=>(waits oj).contains i || oi.apart ops oj|_,_=>false)
theorem V5 {i:Nat}{oi:Oper}(hi:ops[i]?=some oi) (hei:eff i=false) (hsel:∀ (j:Nat) (o:Oper) cs b,ops[j]?=some o→o.op ≠ .select cs b):∀ (fuel:Nat) (L:Nat→Bool) (a:Act) (w:World),
  (∀ j oj,j<n0→ops[j]?=some oj→j≠i→L j=false→i ∉ waits oj→oi.apart ops oj=true) →
  i∈FO ops n0 L→C w→stepM P ops C (fun _=>false) eff i (anyM P ops C eff n0 Qt fuel (BC L i true)) a w→anyM P ops C eff n0 Qt (fuel+1) L a w:=by
 intro fuel
 induction fuel with
 | zero =>
  intro L a w _ hr hC H;refine⟨fun h=>(by rw[h]at hr;cases hr),fun j hj=>?_⟩
  by_cases hji:j=i
  ·subst hji;exact H
  ·exfalso
   have hrd:=JL hj hji
   have:∃ a' w',anyM P ops C eff n0 Qt 0 (BC L i true) a' w':=by
    unfold stepM at H;rw[hi]at H
    dsimp only at H
    split at H
    ·rw[hei]at H;simp only[Bool.false_eq_true,if_false]at H;obtain⟨v,_,H⟩:=H;exact⟨_,_,H⟩
    ·exact⟨_,_,H⟩
   obtain⟨a',w',H'⟩:=this;rw[H'.1]at hrd
   cases hrd
 | succ fuel ih =>
  intro L a w hfree hr hC H;refine⟨fun h=>(by rw[h]at hr;cases hr),fun j hj=>?_⟩
  by_cases hji:j=i
  ·subst hji;exact H
  ·obtain⟨hj0,hjun,oj,hoj,hall⟩:=Hq.1 hj
   have hnot:i ∉ waits oj:=fun hw=>by
    have h1:=CX hall i hw;have h0:=(Hq.1 hr).2.1;rw[h1]at h0;simp at h0
   have hap:=hfree j oj hj0 hoj hji hjun hnot;have h1:stepM P ops C (fun _=>false) eff i (stepM P ops C (fun _=>false) eff j (anyM P ops C eff n0 Qt fuel (BC (BC L i true) j true))) a w:=LC rfl hC H fun a' w' _ h=>h.2 j (JL hj hji)
   have h2:=OV hoj hi hap (fun cs b=>hsel j oj cs b hoj) (fun cs b=>hsel i oi cs b hi) (by rw[hei];simp) rfl rfl hC h1
   have hfree':∀ k ok,k<n0→ops[k]?=some ok→k≠i→BC L j true k=false→i ∉ waits ok→oi.apart ops ok=true:=fun k ok hk0 hk hki hun hno=>by
    refine hfree k ok hk0 hk hki ?_ hno
    by_cases hjk:k=j
    ·subst hjk;exact hjun
    ·rw[Ap _ _ hjk]at hun;exact hun
   refine LC rfl hC h2 fun a' w' hC' h3=>ih (BC L j true) a' w' hfree' (JL hr (Ne.symm hji)) hC' ?_
   rw[Ws];exact h3
def Aas (ops:Array Oper) (tab:List (List Nat)) (n0:Nat):Bool:=dag ops && AbX ops tab && (List.range ops.size).all fun i=>decide (i<n0) || (List.range i).all (OT tab i)
theorem VQ {n m:Nat}(h:m<n):(List.range n).drop m=m::(List.range n).drop (m+1):=by
 rw[List.drop_eq_getElem_cons (by simpa using h)];simp
theorem Oc {id:Nat}{a:Act}{w:World}(tab:List (List Nat)) (hm:P.follows .mixedOrders=true) (hn:n0≤ops.size) (hT:Aas ops tab n0=true) (hC:C w.drew)
  (h:anyM P ops C eff n0 (fun a' w'=>wpOps P ops Q ((List.range ops.size).drop n0) a' w') n0 (fun _=>false) a w.drew):(Code.region id ops true).wp P Q a w:=by
 unfold Aas at hT;rw[Bool.and_eq_true,Bool.and_eq_true]at hT;obtain⟨⟨hdag,htab⟩,htail⟩:=hT
 refine DC hm (fun L a' w'=>(∀ k o,ops[k]?=some o→L k=true→BP o L=true) ∧
  (((∀ i,n0≤i→L i=false)∧C w'∧∃ fuel,anyM P ops C eff n0 (fun a' w'=>wpOps P ops Q ((List.range ops.size).drop n0) a' w') fuel L a' w') ∨
   ((∀ j,j<n0→L j=true)∧∃ m,n0≤m∧(∀ i,n0≤i→i<ops.size→(L i=true↔i<m))∧wpOps P ops Q ((List.range ops.size).drop m) a' w'))) ?_ ?_ ?_
 ·exact⟨fun _ _ _ h=>by simp at h,.inl ⟨fun _ _=>rfl,hC,_,h⟩⟩
 ·intro L a' w' i o ho hI hli hri;obtain⟨hc,hI⟩:=hI;have hi:i<ops.size:=(Array.getElem?_eq_some_iff.1 ho).1
  have hgo:∀ k o',ops[k]?=some o'→BC L i true k=true→BP o' (BC L i true)=true:=by
   intro k o' hk' hLk
   have hmono:∀ j,L j=true→BC L i true j=true:=fun j hj=>by
    unfold BC;split
    ·rfl
    ·exact hj
   by_cases e:k=i
   ·subst e;obtain rfl:=Option.some.inj (ho.symm.trans hk');exact DD hmono hri
   ·rw[Ap _ _ e]at hLk;exact DD hmono (hc k o' hk' hLk)
  have hbefore:n0≤i→∀ j,j<i→L j=true:=fun hni j hj=>by
   have h1:=(List.all_eq_true.1 htail) i (by rw[List.mem_range];exact hi);rw[Bool.or_eq_true]at h1;rcases h1 with h1|h1
   ·simp at h1;omega
   ·have h2:=(List.all_eq_true.1 h1) j (by rw[List.mem_range];exact hj);have:=(Ui htab hgo i hi (Ez _ _ _) j h2).2
    rwa [Ap _ _ (by omega)]at this
  by_cases hin:i<n0
  ·rcases hI with ⟨hz,hCw,fuel,hany⟩|⟨hall,_⟩
   ·have hmem:i∈FO ops n0 L:=Hq.2 ⟨hin,hli,o,ho,hri⟩
    cases fuel with
    | zero=>have:=hany.1;rw[this]at hmem;cases hmem
    | succ fuel =>
     refine wpOp_mono (fun a'' w'' ⟨h1,h2⟩=>⟨hgo,.inl ⟨fun k hk=>by rw[Ap _ _ (by omega)];exact hz k hk,h1,fuel,h2⟩⟩) (UZ ho hCw (hany.2 i hmem))
   ·rw[hall i hin]at hli;simp at hli
  ·have hb:=hbefore (by omega)
   have hgoal:wpOps P ops Q ((List.range ops.size).drop i) a' w'→wpOp P ops Q i (fun a'' w''=>(∀ k o,ops[k]?=some o→BC L i true k=true→BP o (BC L i true)=true) ∧
     (((∀ k,n0≤k→BC L i true k=false)∧C w''∧∃ fuel,anyM P ops C eff n0 (fun a' w'=>wpOps P ops Q ((List.range ops.size).drop n0) a' w') fuel (BC L i true) a'' w'') ∨
      ((∀ j,j<n0→BC L i true j=true)∧∃ m,n0≤m∧(∀ k,n0≤k→k<ops.size→(BC L i true k=true↔k<m))∧wpOps P ops Q ((List.range ops.size).drop m) a'' w''))) a' w':=fun hw=>by
    rw[VQ hi,wpOps_cons]at hw;refine wpOp_mono (fun a'' w'' h2=>⟨hgo,.inr ⟨fun j hj=>by rw[Ap _ _ (by omega)];exact hb j (by omega),i+1,by omega,fun k hk hks=>?_,h2⟩⟩) hw
    by_cases e:k=i
    ·subst e;rw[Ez];simp
    ·rw[Ap _ _ e]
     constructor
     ·intro hLk;rcases Nat.lt_or_ge k i with hlt|hge
      ·omega
      ·exfalso
       rcases hI with ⟨hz,_⟩|⟨_,m,hm0,hmm,_⟩
       ·rw[hz k hk]at hLk;simp at hLk
       ·have h3:=(hmm k hk hks).1 hLk;have h4:=(hmm i (by omega) hi).2 (by omega);rw[hli]at h4;simp at h4
     ·intro hlt;exact hb k (by omega)
   refine hgoal ?_;rcases hI with ⟨hz,_,fuel,hany⟩|⟨_,m,hm0,hmm,hw⟩
   ·have e:i=n0:=by
     rcases Nat.lt_or_ge n0 i with h|h
     ·have h1:=hb n0 h;rw[hz n0 (Nat.le_refl _)]at h1;simp at h1
     ·omega
    have hr0:FO ops n0 L=[]:=by
     unfold FO;rw[List.filter_eq_nil_iff];intro k hk;rw[List.mem_range]at hk;rw[hb k (by omega)];simp
    rw[e]
    cases fuel with
    | zero=>exact hany.2
    | succ fuel=>exact hany.1 hr0
   ·have e:i=m:=by
     rcases Nat.lt_or_ge m i with h|h
     ·have h1:=hb m h;have:=(hmm m hm0 (by omega)).1 h1;omega
     ·rcases Nat.lt_or_ge i m with h2|h2
      ·have:=(hmm i (by omega) hi).2 h2;rw[hli]at this;simp at this
      ·omega
    rw[e];exact hw
 ·intro L a' w' hall hI;obtain⟨_,hI⟩:=hI;have hk:=GY hdag hall;rcases hI with ⟨hz,_,fuel,hany⟩|⟨_,m,hm0,hmm,hw⟩
  ·have hle:ops.size≤n0:=by
    rcases Nat.lt_or_ge n0 ops.size with h|h
    ·have h1:=hk n0 h;rw[hz n0 (Nat.le_refl _)]at h1;simp at h1
    ·exact h
   have hr0:FO ops n0 L=[]:=by
    unfold FO;rw[List.filter_eq_nil_iff];intro k hk';rw[List.mem_range]at hk';rw[hk k (by omega)];simp
   have hq:wpOps P ops Q ((List.range ops.size).drop n0) a' w':=by
    cases fuel with
    | zero=>exact hany.2
    | succ fuel=>exact hany.1 hr0
   rw[List.drop_of_length_le (by simpa using hle)]at hq;exact hq
  ·have hle:ops.size≤m:=by
    rcases Nat.lt_or_ge m ops.size with h|h
    ·have:=(hmm m hm0 h).1 (hk m h);omega
    ·exact h
   rw[List.drop_of_length_le (by simpa using hle)]at hw;exact hw
theorem Wj {f:Func}{k id:Nat}{a:Act}{w:World}(tab:List (List Nat)) (eff:Nat→Bool) (C:World→Prop) (n0:Nat) (e:Ac f k=Code.region id ops true) (hm:P.follows .mixedOrders=true) (hn:n0≤ops.size) (hT:Aas ops tab n0=true) (tl:List Nat) (htl:(List.range ops.size).drop n0=tl) (hC:C w.drew) (h:anyM P ops C eff n0 (fun a' w'=>wpOps P ops Q tl a' w') n0 (fun _=>false) a w.drew):(Ac f k).wp P Q a w:=by
 subst htl;rw[e];exact Oc tab hm hn hT hC h
theorem VG {L:Nat→Bool}{i:Nat}{oi:Oper}(hi:ops[i]?=some oi) (h:Abn ops n0 L i=true):∀ j oj,j<n0→ops[j]?=some oj→j≠i→L j=false→i ∉ waits oj→oi.apart ops oj=true:=by
 intro j oj hj hoj hne hL hw;have h1:=(List.all_eq_true.1 h) j (by rw[List.mem_range];exact hj);rw[hi,hoj,hL]at h1;have e:(j == i)=false:=by simpa using hne
 rw[e]at h1;simp only[Bool.or_false,Bool.false_or,Bool.or_eq_true]at h1;rcases h1 with h1|h1
 ·exact absurd (by simpa using h1) hw
 ·exact h1
theorem D6 {i:Nat}{oi:Oper}{fuel:Nat}{L:Nat→Bool}{a:Act}{w:World}(hi:ops[i]?=some oi) (hei:eff i=false) (hs:Region.noSelect ops=true) (hf:Abn ops n0 L i=true) (hr:(FO ops n0 L).contains i=true) (hC:C w)
  (h:stepM P ops C (fun _=>false) eff i (anyM P ops C eff n0 Qt fuel (BC L i true)) a w):anyM P ops C eff n0 Qt (fuel+1) L a w :=
 V5 hi hei (Region.noSelect_spec hs) fuel L a w (VG hi hf) (by simpa using hr) hC h
theorem Fj {i fuel:Nat}{L:Nat→Bool}{a:Act}{w:World}(hr:FO ops n0 L=[i]) (h:stepM P ops C (fun _=>false) eff i (anyM P ops C eff n0 Qt fuel (BC L i true)) a w):anyM P ops C eff n0 Qt (fuel+1) L a w :=
 ⟨fun h0=>(by rw[hr]at h0;cases h0),fun j hj=>by rw[hr]at hj;rw[List.mem_singleton.1 hj];exact h⟩
theorem NW {i j fuel:Nat}{L:Nat→Bool}{a:Act}{w:World}(hr:FO ops n0 L=[i,j]) (h:stepM P ops C (fun _=>false) eff i (anyM P ops C eff n0 Qt fuel (BC L i true)) a w) (h2:stepM P ops C (fun _=>false) eff j (anyM P ops C eff n0 Qt fuel (BC L j true)) a w):anyM P ops C eff n0 Qt (fuel+1) L a w :=
 ⟨fun h0=>(by rw[hr]at h0;cases h0),fun k hk=>by
  rw[hr]at hk;rcases List.mem_cons.1 hk with rfl|hk
  ·exact h
  ·rw[List.mem_singleton.1 hk];exact h2⟩
theorem IB {L:Nat→Bool}{a:Act}{w:World}(hr:FO ops n0 L=[]) (h:Qt a w):anyM P ops C eff n0 Qt 0 L a w:=⟨hr,h⟩
end
section
variable {P:Program}{ops:Array Oper}{C:World→Prop}{Q:Exit→Act→World→Prop}{lb eff:Nat→Bool}{i:Nat}{rest:List Nat}{o:Oper}{a:Act}{n d:Nat}{m:List (Nat×Value)}{v:Value}{w:World}
theorem MH (h:Q .normal a w):ER P ops C lb eff Q [] a w:=h
def CO (P:Program) (o:Oper) (a:Act) (w:World) (K:Value→Prop):Prop :=
 match (execOp a.eval o).run P w with
 | .ok (.value u) w'=>w'=w∧K u
 | _=>False
theorem QV (h:∀ y,C y→∀ K:Value→Prop,K v→CO P o a y K):MB P C o a v:=by
 intro y hy;have h2:=h y hy (· = v) rfl;unfold CO at h2;generalize (execOp a.eval o).run P y=r at *
 cases r with
 | ok n w' =>
  cases n<;>simp only at h2
  case value u=>rw[h2.1,h2.2]
 | halt x w'=>exact h2.elim
theorem Sl.mr (h:Sl a n m) (ho:ops[i]?=some o) (he:eff i=false) (hg:o.guard=none) (hd:o.dst=some d) (hn:d<n)
  (hv:∃ v,(∀ y,C y→∀ K:Value→Prop,K v→CO P o a y K)∧∀ a',Sl a' n ((d,v)::m)→ER P ops C lb eff Q rest a' w):ER P ops C lb eff Q (i::rest) a w:=by
 obtain⟨v,h1,h2⟩:=hv;show stepM P ops C lb eff i _ a w;unfold stepM;rw[ho];simp only[Region.wanted,hg,if_true,he,Bool.false_eq_true,if_false];exact⟨v,QV h1,by rw[hd];exact h2 _ (h.put d v hn)⟩
theorem Sl.me (h:Sl a n m) (ho:ops[i]?=some o) (he:eff i=true) (hg:o.guard=none) (hd:o.dst=some d) (hn:d<n)
  (hv:∀ K:Value→World→Prop,(∀ u w',C w'→(∀ a',Sl a' n ((d,u)::m)→ER P ops C lb eff Q rest a' w')→K u w')→BJ P o a w K):ER P ops C lb eff Q (i::rest) a w:=by
 show stepM P ops C lb eff i _ a w;unfold stepM;rw[ho];simp only[Region.wanted,hg,if_true,he];exact hv _ fun u w' hC hG=>⟨.inr hC,by rw[hd];exact hG _ (h.put d u hn)⟩
theorem Sl.ml (h:Sl a n m) (ho:ops[i]?=some o) (he:eff i=true) (hl:lb i=true) (hg:o.guard=none) (hd:o.dst=none)
  (hv:∀ K:Value→World→Prop,(∀ u w',ER P ops C lb eff Q rest a w'→K u w')→BJ P o a w K):ER P ops C lb eff Q (i::rest) a w:=by
 show stepM P ops C lb eff i _ a w;unfold stepM;rw[ho];simp only[Region.wanted,hg,if_true,he];exact hv _ fun u w' hG=>⟨.inl hl,by rw[hd];exact hG⟩
theorem Um {x:Operand}{y:World}{K:Value→Prop}(hp:o.op=.move x∨o.op=.assign x) (hK:K (a.eval x)):CO P o a y K:=by
 have:execOp a.eval o=pure (.value (a.eval x)):=by unfold execOp;rcases hp with hp|hp<;>rw[hp]
 unfold CO;rw[this,Sem.run_pure];exact⟨rfl,hK⟩
theorem Sl.mmv (h:Sl a n m) {x:Nat}(ho:ops[i]?=some o) (he:eff i=false) (hg:o.guard=none) (hp:o.op=.move (.tmp x)∨o.op=.assign (.tmp x)) (hd:o.dst=some d) (hn:d<n) (hx:m.lookup x=some v) (hG:∀ a',Sl a' n ((d,v)::m)→ER P ops C lb eff Q rest a' w):ER P ops C lb eff Q (i::rest) a w :=
 h.mr ho he hg hd hn ⟨v,fun _ _ _ hK=>Um hp (by rw[h.ev x hx];exact hK),hG⟩
variable {K:Act→World→Prop}
theorem Sl.ar (h:Sl a n m) (ho:ops[i]?=some o) (he:eff i=false) (hg:o.guard=none) (hd:o.dst=some d) (hn:d<n)
  (hv:∃ v,(∀ y,C y→∀ K:Value→Prop,K v→CO P o a y K)∧∀ a',Sl a' n ((d,v)::m)→K a' w):stepM P ops C (fun _=>false) eff i K a w:=by
 obtain⟨v,h1,h2⟩:=hv;unfold stepM;rw[ho];simp only[Region.wanted,hg,if_true,he,Bool.false_eq_true,if_false];exact⟨v,QV h1,by rw[hd];exact h2 _ (h.put d v hn)⟩
theorem Sl.ae (h:Sl a n m) (ho:ops[i]?=some o) (he:eff i=true) (hg:o.guard=none) (hd:o.dst=some d) (hn:d<n)
  (hv:∀ K':Value→World→Prop,(∀ u w',C w'→(∀ a',Sl a' n ((d,u)::m)→K a' w')→K' u w')→BJ P o a w K'):stepM P ops C (fun _=>false) eff i K a w:=by
 unfold stepM;rw[ho];simp only[Region.wanted,hg,if_true,he];exact hv _ fun u w' hC hG=>⟨.inr hC,by rw[hd];exact hG _ (h.put d u hn)⟩
theorem Sl.amv (h:Sl a n m) {x:Nat}(ho:ops[i]?=some o) (he:eff i=false) (hg:o.guard=none) (hp:o.op=.move (.tmp x)∨o.op=.assign (.tmp x)) (hd:o.dst=some d) (hn:d<n) (hx:m.lookup x=some v) (hG:∀ a',Sl a' n ((d,v)::m)→K a' w):stepM P ops C (fun _=>false) eff i K a w :=
 h.ar ho he hg hd hn ⟨v,fun _ _ _ hK=>Um hp (by rw[h.ev x hx];exact hK),hG⟩
end
end
section
open Go.RowKit
structure SlD (a:Act) (n:Nat) (dq:List Deferred) (m:List (Nat×Value)):Prop where
 sl:Sl ⟨a.tmps,[]⟩ n m
 defers:a.defers=dq
section
variable {a:Act}{n:Nat}{dq:List Deferred}{m:List (Nat×Value)}
theorem SlD.get (h:SlD a n dq m) (t:Nat) (v:Value) (hv:m.lookup t=some v):a.tmps[t]?=some v:=h.sl.get t v hv
theorem SlD.ev (h:SlD a n dq m) (t:Nat) {v:Value}(hm:m.lookup t=some v):a.eval (.tmp t)=v:=by
 have:=h.get _ _ hm;simp[Act.eval,Array.getD_eq_getD_getElem?,this]
theorem SlD.put (h:SlD a n dq m) (d:Nat) (v:Value) (hd:d<n):SlD (a.put (some d) v) n dq ((d,v)::m):=⟨h.sl.put d v hd,h.defers⟩
theorem SlD.nil (h:SlD a n dq m):SlD a n dq []:=⟨h.sl.nil,h.defers⟩
theorem SlD.cons (h:SlD a n dq m) {t:Nat}{v:Value}(e:a.tmps[t]?=some v):SlD a n dq ((t,v)::m):=⟨h.sl.cons e,h.defers⟩
theorem Sl.later (h:Sl a n m) (d:Deferred):SlD { a with defers:=d::a.defers } n [d] m:=⟨⟨h.size,rfl,h.get⟩,by show d::a.defers=[d];rw[h.defers]⟩
end
def Ql (ops:Array Oper) (V:(Nat→Bool)→Nat→Value→World→Prop) (L:Nat→Bool) (a:Act) (w:World):Prop:=∀ j o d,ops[j]?=some o→o.dst=some d→L j=true→∃ v,a.tmps[d]?=some v∧V L j v w
theorem JZ {P:Program}{id:Nat}{Q:Exit→Act→World→Prop}{a:Act}{w:World}{ops:Array Oper}{n:Nat}{dq:List Deferred}{m:List (Nat×Value)}(hm:P.follows .mixedOrders=true) (hsl:SlD a n dq m) (ds:List (Option Nat)) (hds:ops.toList.map Oper.dst=ds) (hok:okD n (m.map Prod.fst) ds=true) (hdag:dag ops=true)
  (V:(Nat→Bool)→Nat→Value→World→Prop) (I:(Nat→Bool)→World→Prop) (hI:I (fun _=>false) w.drew)
  (hk:∀ (k:Nat) (o:Oper),k<ops.size→ops[k]?=some o→∀ L a w,I L w→L k=false→SlD a n dq m→Ql ops V L a w→(∀ d∈waits o,L d=true)→wpOp P ops Q k (fun a' w'=>∃ v,a'=a.put o.dst v∧V (BC L k true) k v w'∧I (BC L k true) w'∧∀ j u,L j=true→V L j u w→V (BC L k true) j u w') a w)
  (he:∀ L a w,(∀ k,k<ops.size→L k=true)→I L w→SlD a n dq m→Ql ops V L a w→Q .normal a w):(Code.region id ops true).wp P Q a w:=by
 have hd:∀ (j:Nat) (o:Oper),ops[j]?=some o→ds[j]?=some o.dst:=fun j o h=>by
  subst hds;rw[List.getElem?_map,Array.getElem?_toList,h];rfl
 refine DC hm (fun L a' w'=>I L w'∧SlD a' n dq m∧Ql ops V L a' w') ⟨hI,hsl,fun j o d _ _ h=>by simp at h⟩ ?_ ?_
 ·rintro L a' w' i o ho ⟨h1,h2,h3⟩ hli hri;have hi:=(Array.getElem?_eq_some_iff.1 ho).1;refine wpOp_mono ?_ (hk i o hi ho L a' w' h1 hli h2 h3 (CX hri));rintro a2 w2 ⟨v,rfl,hv,hI2,hmono⟩;refine⟨hI2,?_,?_⟩
  ·cases e:o.dst with
   | none=>exact h2
   | some d =>
    have hdd:=hd i o ho;rw[e]at hdd;obtain⟨hlt,hnm⟩:=FY hok hdd;have hp:=h2.put d v hlt;refine⟨⟨hp.sl.size,rfl,fun t u hu=>hp.get t u ?_⟩,hp.defers⟩;rw[List.lookup_cons]
    have e2:(t == d)=false:=by
     have:t≠d:=by rintro rfl;exact hnm (ES hu)
     simpa using this
    rw[e2];exact hu
  ·intro j o' d hj hjd hLj;have hdj:=hd j o' hj;rw[hjd]at hdj
   cases e:o.dst with
   | none =>
    have hne:j≠i:=by
     rintro rfl;rw[ho]at hj;obtain rfl:=Option.some.inj hj;rw[e]at hjd;simp at hjd
    rw[Ap _ _ hne]at hLj;obtain⟨u,hu,hvu⟩:=h3 j o' d hj hjd hLj;exact⟨u,hu,hmono _ _ hLj hvu⟩
   | some x =>
    have hdi:=hd i o ho;rw[e]at hdi
    by_cases c:j=i
    ·subst c;rw[hdj]at hdi;obtain rfl:d=x:=by simpa using hdi
     obtain⟨hlt,_⟩:=FY hok hdj;exact⟨v,by simp[Act.put,h2.sl.size,show a'.tmps.size=n from h2.sl.size,hlt],hv⟩
    ·rw[Ap _ _ c]at hLj;obtain⟨u,hu,hvu⟩:=h3 j o' d hj hjd hLj
     have hxd:x≠d:=by
      rintro rfl;exact c (Ky hok hdj hdi)
     refine⟨u,?_,hmono _ _ hLj hvu⟩;simp only[Act.put];rw[Array.getElem?_setIfInBounds_ne hxd];exact hu
 ·rintro L a' w' hall ⟨h1,h2,h3⟩;exact he L a' w' (GY hdag hall) h1 h2 h3
end
end Go.Proofs.Ytgdobbcjkiapkaa
