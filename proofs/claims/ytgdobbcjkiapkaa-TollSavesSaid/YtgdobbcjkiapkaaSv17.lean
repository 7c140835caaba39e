import Derived.Test.YtgdobbcjkiapkaaSv14
import Derived.Test.YtgdobbcjkiapkaaSv04
import Derived.Conc.AppendWalk
import Derived.Deep.OwnRows
namespace Go.Proofs.Ytgdobbcjkiapkaa
set_option maxRecDepth 100000
set_option maxHeartbeats 4000000
set_option linter.unusedSimpArgs false
set_option linter.unusedVariables false
section
open Go Go.Conc
open Go.RowKit
theorem LG {ad:Addr}:∀ x,(MemAct.ofEvent ⟨.cell ad,false,false⟩).touch?=some x→∀ b',blk x.loc=some b'→x.write=false:=by
 intro x hx b' hb';simp[MemAct.ofEvent,MemAct.touch?]at hx;subst hx
 rfl
theorem Di.new {Safe:Obj→Prop}{K:Nat}(w:World) (o:Obj):Di Safe K w (w.alloc o) #[]:=by
 have hold:∀ b,b<w.heap.size→(w.alloc o).heap[b]?=w.heap[b]?:=fun b hb=>Below.heap_alloc _ _ _ hb
 refine⟨rfl,rfl,rfl,by simp,fun b hb _=>hold b hb,fun b hb h=>h.same (hold b hb).symm,fun e he=>by simp at he⟩
theorem Di.put {K:Nat}{w:World}{g o:Nat}{cs:Array Value}{ty:TypeId}{fz:Nat×Nat}{v:Value}{es:Array Event}(h:w.heap[g]?=some (.cells cs ty fz)) (hK:K≤g) (ht:ty≠69)
  (hes:∀ e∈es,∀ x,(MemAct.ofEvent e).touch?=some x→∀ b,blk x.loc=some b→x.write=true→b=g):Di Aw K w (w.setCell ⟨g,o,none⟩ v) es:=by
 have hold:∀ b,b≠g→(w.setCell ⟨g,o,none⟩ v).heap[b]?=w.heap[b]?:=fun b hb=>Below.heap_setCell _ _ _ _ (by simpa using hb)
 have hnew:(w.setCell ⟨g,o,none⟩ v).heap[g]?=some (.cells (cs.setIfInBounds o v) ty fz):=by
  simp[World.setCell,Array.getElem?_modify,h]
 have hn1:¬ DU Aw w g:=fun ⟨ob,h1,c',f',h2⟩=>by rw[h]at h1;cases h1;cases h2;exact ht rfl
 have hn2:¬ DU Aw (w.setCell ⟨g,o,none⟩ v) g:=fun ⟨ob,h1,c',f',h2⟩=>by rw[hnew]at h1;cases h1;cases h2;exact ht rfl
 refine⟨rfl,rfl,rfl,by simp[World.setCell],fun b hb hs=>hold b fun e=>?_,fun b hb hs=>?_,fun e he x hx b hb hw=>?_⟩
 ·subst e;exact hs.elim (fun x=>by omega) hn1
 ·have:b≠g:=fun e=>by subst e;exact hn2 hs
  exact hs.same (hold b this).symm
 ·have:=hes e he x hx b hb hw;subst this;exact⟨hK,by simpa[World.setCell] using lt_of_some h,hn2⟩
theorem Px {ad:Addr}{wr:Bool}:∀ x,(MemAct.ofEvent ⟨.cell ad,wr,false⟩).touch?=some x→∀ b',blk x.loc=some b'→x.write=true→b'=ad.block:=by
 intro x hx b' hb' _;simp[MemAct.ofEvent,MemAct.touch?]at hx;subst hx
 simpa[blk] using hb'.symm
theorem QK {r:Result Next}{d:Deferred}{w:World}(h:∀ K:Result Next→Prop,K (.ok (.spawn d) w)→K r):r=.ok (.spawn d) w:=h (· = .ok (.spawn d) w) rfl
theorem Sl.goN {P:Program}{M:Machine}{Safe:Obj→Prop}{c:Nat}{fn:FuncId}{Q:Exit→Act→World→List Value→Nat→Prop}{a:Act}{w:World}{L:List Value}{K:Nat}{ops:Array Oper}{rest:List Nat}{n:Nat}{m:List (Nat×Value)}{v:Value}(_:Sl a n m) (hG:Qo P M Safe c fn ops rest Q a w L K):Qo P M Safe c fn ops rest Q (a.put none v) w L K:=hG
theorem Vd {P:Program}(d:Deferred):DR (born P d):=⟨fun it hi=>(by cases hi),fun c hc=>(by cases hc)⟩
theorem Lh (k:Nat) (h:k≤1000000):IntKind.i64.wrap ((k:Int)+1)=((k+1:Nat):Int):=by rw[IntWalk.i64_in _ (by omega)];simp
theorem Q9:(Try.prog.info? 3).map (fun i=>(i.zero,i.size,i.bytes))=some (some (.int .i64 0),1,8):=by kernel_rfl
theorem Xv (n:Nat) (hn:n≤1000) (w:World) (es:Array Event):(Instr.makeSlice 29 (.int .i64 (n:Int)) (.int .i64 (n:Int))).events Try.prog w es=es:=by
 obtain⟨i,hi,hzz⟩:=Option.map_eq_some_iff.1 Q9;simp only[Prod.mk.injEq]at hzz;obtain⟨hz,hs,hb⟩:=hzz;exact events_make w _ _ i _ Try.underlying29 hi hz .i64 .i64 n n (by omega) (Int.le_refl _) (by rw[hb];omega) (by omega) (by rw[hb];simp;omega) es
theorem SV {r:Result Next}{cs:Array CommCase}{b:Bool}{sh:CommShape}{w:World}(h:∀ K:Result Next→Prop,K (.ok (.comm cs b sh) w)→K r):r=.ok (.comm cs b sh) w:=h (· = .ok (.comm cs b sh) w) rfl
theorem LJ {w:World}{g o:Nat}{cs:Array Value}{ty:TypeId}{fz:Nat×Nat}{v:Value}(h:w.heap[g]?=some (.cells cs ty fz)):(w.setCell ⟨g,o,none⟩ v).heap[g]?=some (.cells (cs.setIfInBounds o v) ty fz):=by
 simp[World.setCell,Array.getElem?_modify,h]
theorem Di.puts {K:Nat}{w w':World}{g:Nat}{cs cs':Array Value}{ty:TypeId}{fz fz':Nat×Nat}{es:Array Event}(h:w.heap[g]?=some (.cells cs ty fz)) (hos:w'.os=w.os) (hta:w'.tape=w.tape) (hou:w'.output=w.output) (hsz:w'.heap.size=w.heap.size)
  (hold:∀ b,b≠g→w'.heap[b]?=w.heap[b]?) (hnew:w'.heap[g]?=some (.cells cs' ty fz')) (hK:K≤g) (ht:ty≠69)
  (hes:∀ e∈es,∀ x,(MemAct.ofEvent e).touch?=some x→∀ b,blk x.loc=some b→x.write=true→b=g):Di Aw K w w' es:=by
 have hn1:¬ DU Aw w g:=fun ⟨ob,h1,c',f',h2⟩=>by rw[h]at h1;cases h1;cases h2;exact ht rfl
 have hn2:¬ DU Aw w' g:=fun ⟨ob,h1,c',f',h2⟩=>by rw[hnew]at h1;cases h1;cases h2;exact ht rfl
 refine⟨hos,hta,hou,by omega,fun b hb hs=>hold b fun e=>?_,fun b hb hs=>?_,fun e he x hx b hb hw=>?_⟩
 ·subst e;exact hs.elim (fun x=>by omega) hn1
 ·have:b≠g:=fun e=>by subst e;exact hn2 hs
  exact hs.same (hold b this).symm
 ·have:=hes e he x hx b hb hw;subst this;exact⟨hK,by rw[hsz];exact lt_of_some h,hn2⟩
theorem JK {r:Result Next}{w:World}(h:∀ K:Result Next→Prop,K (.ok .skip w)→K r):r=.ok .skip w:=h (· = .ok .skip w) rfl
structure FV (w0:World) (cv:Value) (w:World):Prop where
 below:Below w0.heap.size w0 w
 coins:w.heap[w0.heap.size]?=some (.cells #[cv] 35 (0,0))
 shares:w.heap[w0.heap.size+2]?=some (.cells #[.chan (some (w0.heap.size+1))] 141 (0,0))
theorem FV.grown {w0 w w₁:World}{cv:Value}(h:FV w0 cv w) (hg:Grown (w0.heap.size+1) w w₁):FV w0 cv w₁ :=
 ⟨h.below.trans (hg.below h.below.size (by omega)),(hg.block _ (lt_of_some h.coins) (by omega)).trans h.coins,(hg.block _ (lt_of_some h.shares) (by omega)).trans h.shares⟩
theorem FV.more {w0 w w₁:World}{cv:Value}(h:FV w0 cv w) (hs:w.heap.size≤w₁.heap.size) (ho:w₁.os=w.os) (hu:w₁.output=w.output) (ht:w₁.tape=w.tape) (hb:∀ b,b<w0.heap.size+3→w₁.heap[b]?=w.heap[b]?):FV w0 cv w₁ :=
 ⟨h.below.trans ⟨ho,ht,hu,hs,fun b hb'=>hb b (by omega)⟩,(hb _ (by omega)).trans h.coins,(hb _ (by omega)).trans h.shares⟩
theorem FV.alloc {w0 w:World}{cv:Value}(h:FV w0 cv w) (o:Obj):FV w0 cv (w.alloc o) :=
 h.more (by simp) rfl rfl rfl fun b hb=>Below.heap_alloc _ _ _ (by have:=lt_of_some h.shares;omega)
theorem FV.put {w0 w:World}{cv:Value}(h:FV w0 cv w) {g o:Nat}(hg:w0.heap.size+3≤g) (v:Value):FV w0 cv (w.setCell ⟨g,o,none⟩ v) :=
 h.more (by simp[World.setCell]) rfl rfl rfl fun b hb=>Below.heap_setCell _ _ _ _ (by simp;omega)
def sv (vals:Nat→Int) (i:Nat):Value:=.agg #[.int .i64 (i:Int),.int .i64 (vals i)]
def NZ (w0:World) (n mf:Nat) (fc:FuncId) (first cap:Array Value) (vals:Nat→Int):Prop :=
 ∀ (N c:Nat) (w₁:World) (i:Nat),i<n→w0.heap.size≤N→w0.heap.size≤c→(w0.heap.size≤w₁.heap.size∧∀ b,b<w0.heap.size→w₁.heap[b]?=w0.heap[b]?)→CallsC Try.prog false (Az Aw c N) (Be Aw c N) fc (first++#[.int .i64 (i:Int)]++cap) mf w₁ (fun x w'=>x=.int .i64 (vals i)∧Az Aw c N w₁ w')
section
variable {M:Machine}{w0:World}{bd n pc mf:Nat}{pa:Option Addr}{vals:Nat→Int}{fc:FuncId}{Fn1:Func}{first cap:Array Value}
theorem AaT (hP:EK Try.prog) (hd:w0.cell? ⟨bd,4,none⟩=some (.slice pa n pc)) (hn:n≤1000) (hF:Try.prog.funcs[fc]?=some Fn1) (hname:(Fn1.name == "runtime.NumGoroutine")=false) (hbody:Fn1.body.isNone=false) (hcall:NZ w0 n mf fc first cap vals) {a:Act}{w:World}{K:Nat}(hW:FV w0 (.func (.func fc) first cap) w) (hK:w0.heap.size+3≤K) (hKs:K≤w.heap.size) (Z:Sl a 46 [(0,.pointer (some ⟨bd,0,none⟩)),(3,.pointer (some ⟨w0.heap.size,0,none⟩)),(5,.pointer (some ⟨w0.heap.size+2,0,none⟩))]) {Q:Exit→Act→World→List Value→Nat→Prop}
  (hQ:∀ a' w' K',Sl a' 46 [(0,.pointer (some ⟨bd,0,none⟩)),(3,.pointer (some ⟨w0.heap.size,0,none⟩)),(5,.pointer (some ⟨w0.heap.size+2,0,none⟩))]→FV w0 (.func (.func fc) first cap) w'→w0.heap.size+3≤K'→K'≤w'.heap.size→Q .normal a' w' ((List.range n).map (sv vals)) K'):wpP Try.prog M Aw (w0.heap.size+1) 78 (Code.seq (Ac Try.f78 2) (Code.block 0 (Code.loop (Code.seq (Ac Try.f78 3) (Code.seq (Code.cond (Operand.tmp 17) Code.skip (Code.exit 0)) (Code.seq (Code.block 1 (Code.seq (Ac Try.f78 4) (Ac Try.f78 5))) (Ac Try.f78 6))))))) Q a w [] K:=by
 refine EX hP ?_;rw[show Ac Try.f78 2=Code.region 2 _ false from rfl];refine Dj hP ?_;refine AO hP (.pointer (some ⟨bd,0,none⟩)) rfl rfl (fun _ _=>(by have e0:=Z.g 0;exact om)) (Z.goP (by decide) ?_);clear Z;intro a Z;refine AO hP (.pointer (some ⟨bd,0,none⟩)) rfl rfl (fun _ _=>(by have e10:=Z.g 10;exact om)) (Z.goP (by decide) ?_);clear Z;intro a Z;refine AO hP (.pointer (some ⟨bd,0,none⟩)) rfl rfl (fun _ _=>(by have e11:=Z.g 11;exact om)) (Z.goP (by decide) ?_);clear Z;intro a Z;refine AO hP (.pointer (some ⟨bd,4,none⟩)) rfl rfl (fun _ _=>(by have e12:=Z.g 12;exact om)) (Z.goP (by decide) ?_);clear Z;intro a Z;refine AO hP (.slice pa n pc) rfl rfl (fun w₁ hgr=>⟨run_eq_of (fun Kk hKk=>?_),Di.still ?_⟩) (Z.goP (by decide) fun a' Z'=>?_)
 ·
  have e13:=Z.g 13;have hc:=((hW.grown hgr).below.cell (p:=⟨bd,4,none⟩) (lt_of_cell hd)).trans hd;go_simp;exact hKk
 ·
  have e13:=Z.g 13;have hc:=((hW.grown hgr).below.cell (p:=⟨bd,4,none⟩) (lt_of_cell hd)).trans hd
  co_evs (exact LG)
 clear Z;revert Z';generalize a'=a;intro Z;refine AO hP (.int .i64 (n:Int)) rfl rfl (fun _ _=>(by have e14:=Z.g 14;exact om)) (Z.goP (by decide) ?_);clear Z;intro a Z;refine AO hP (.int .i64 0) rfl rfl (fun _ _=>(by exact om)) (Z.goP (by decide) ?_);clear Z;intro a Z;refine EM hP ?_
 try simp only[xt,↓reduceIte,Nat.reduceEqDiff]
 replace Z:Sl a 46 [(16,.int .i64 ((0:Nat):Int)),(15,.int .i64 (n:Int)),(0,.pointer (some ⟨bd,0,none⟩)),(3,.pointer (some ⟨w0.heap.size,0,none⟩)),(5,.pointer (some ⟨w0.heap.size+2,0,none⟩))]:=Z.sb;refine J6 hP ?_;refine Ug hP (fun a w L K=>∃ k:Nat,k≤n∧Sl a 46 [(16,.int .i64 (k:Int)),(15,.int .i64 (n:Int)),(0,.pointer (some ⟨bd,0,none⟩)),(3,.pointer (some ⟨w0.heap.size,0,none⟩)),(5,.pointer (some ⟨w0.heap.size+2,0,none⟩))]∧FV w0 (.func (.func fc) first cap) w∧w0.heap.size+3≤K∧K≤w.heap.size∧L=(List.range k).map (sv vals)) (fun _ _ L _=>n-L.length) ⟨0,by omega,Z,hW,hK,hKs,rfl⟩ ?_;clear Z hW hK hKs;rintro a w L K ⟨k,hk,Z,hW,hK,hKs,rfl⟩;refine EX hP ?_;rw[show Ac Try.f78 3=Code.region 3 _ false from rfl];refine Dj hP ?_;refine AO hP (.bool (decide (k<n))) rfl rfl (fun w₁ hgr=>⟨run_eq_of (fun Kk hKk=>?_),?_⟩) (Z.goP (by decide) fun a' Z'=>?_)
 ·
  have e16:=Z.g 16;have e15:=Z.g 15;have hdec:decide ((k:Int)<(n:Int))=decide (k<n):=by simp
  go_simp;exact hKk
 ·
  have e16:=Z.g 16;have e15:=Z.g 15;have hdec:decide ((k:Int)<(n:Int))=decide (k<n):=by simp
  rw[listed_nil (by simp[go_sem, *])];exact Di.idle _
 clear Z;revert Z';generalize a'=a;intro Z;refine EM hP ?_
 try simp only[xt,↓reduceIte,Nat.reduceEqDiff]
 refine EX hP ?_
 by_cases hkn:k<n
 rotate_left
 ·have e17:=Z.ev 17 rfl;rw[decide_eq_false hkn]at e17;refine MZ hP e17 (Uh hP ?_);simp only[xt,↓reduceIte,Nat.reduceEqDiff];obtain rfl:k=n:=by omega
  exact hQ _ _ _ Z.sb hW hK hKs
 have e17:=Z.ev 17 rfl;rw[decide_eq_true hkn]at e17;refine MZ hP e17 (Uf hP ?_);simp only[xt,↓reduceIte,Nat.reduceEqDiff];clear e17;replace Z:Sl a 46 [(16,.int .i64 (k:Int)),(15,.int .i64 (n:Int)),(0,.pointer (some ⟨bd,0,none⟩)),(3,.pointer (some ⟨w0.heap.size,0,none⟩)),(5,.pointer (some ⟨w0.heap.size+2,0,none⟩))]:=Z.sb;refine EX hP ?_;refine J6 hP ?_;refine EX hP ?_;rw[show Ac Try.f78 4=Code.region 4 _ false from rfl];refine Dj hP ?_;refine AO hP (.int .i64 (k:Int)) rfl rfl (fun _ _=>(by have e16:=Z.g 16;exact om)) (Z.goP (by decide) ?_);clear Z;intro a Z;refine G9 hP rfl rfl fun w₁ hgr=>⟨.pointer (some ⟨w₁.heap.size,0,none⟩),w₁.alloc (.cells #[.int .i64 0] 3),.inl (run_eq_of (fun Kk hKk=>?_)),?_,Z.goP (by decide) fun a' Z'=>?_⟩
 ·go_simp;exact hKk
 ·rw[listed_nil (by simp[go_sem, *])];exact Di.new _ _
 have hW':=(hW.grown hgr).alloc (.cells #[.int .i64 0] 3);have hg0:w0.heap.size+3≤w₁.heap.size:=by have:=lt_of_some (hW.grown hgr).shares;omega
 have hgrow:(w₁.alloc (.cells #[.int .i64 0] 3)).heap[w₁.heap.size]?=some (.cells #[.int .i64 0] 3 (0,0)):=by rw[Eg,if_pos rfl]
 have hKg:K≤w₁.heap.size:=Nat.le_trans hKs hgr.size;have hgs:w₁.heap.size<(w₁.alloc (.cells #[.int .i64 0] 3)).heap.size:=by simp
 clear Z hgr hW hKs;revert Z' hW' hgrow hg0 hKg hgs;generalize w₁.alloc (.cells #[.int .i64 0] 3)=wg;generalize w₁.heap.size=g;intro Z hW hg0 hgrow hKg hgs;refine G9 hP rfl rfl fun w₁ hgr=>⟨undef,w₁.setCell ⟨g,0,none⟩ (.int .i64 (k:Int)),.inr ⟨?_,rfl⟩,?_,?_⟩
 ·have e6:=Z.g 6;have e18:=Z.g 18;have hrow:=(hgr.block g (lt_of_some hgrow) (by omega)).trans hgrow;have hc:=Cf (o:=0) hrow rfl;have hz:w₁.frozen? ⟨g,0,none⟩=false:=by simp[World.frozen?,hrow]
  refine JK (fun Kk hKk=>?_);go_simp
  try (unfold stored;go_simp)
  exact hKk
 ·have e6:=Z.g 6;have e18:=Z.g 18;have hrow:=(hgr.block g (lt_of_some hgrow) (by omega)).trans hgrow;have hc:=Cf (o:=0) hrow rfl;have hz:w₁.frozen? ⟨g,0,none⟩=false:=by simp[World.frozen?,hrow]
  refine Di.put hrow hKg (by decide) ?_
  co_evs (exact Px)
 have hW':=(hW.grown hgr).put (o:=0) hg0 (.int .i64 (k:Int))
 have hrow:(w₁.setCell ⟨g,0,none⟩ (.int .i64 (k:Int))).heap[g]?=some (.cells #[.int .i64 (k:Int)] 3 (0,0)):=by
  have hrow:=(hgr.block g (lt_of_some hgrow) (by omega)).trans hgrow;simp[World.setCell,Array.getElem?_modify,hrow]
 clear hgr hW hgrow hgs;revert hW' hrow;generalize w₁.setCell ⟨g,0,none⟩ (.int .i64 (k:Int))=w;intro hW hrow;refine Z.goN ?_;refine EM hP ?_
 try simp only[xt,↓reduceIte,Nat.reduceEqDiff]
 rw[show Ac Try.f78 5=Code.region 5 _ false from rfl];refine Dj hP ?_;refine AO hP (.func (.func 110) #[] #[.pointer (some ⟨w0.heap.size+2,0,none⟩),.pointer (some ⟨g,0,none⟩),.pointer (some ⟨w0.heap.size,0,none⟩)]) rfl rfl (fun _ _=>(by have e5:=Z.g 5;have e6:=Z.g 6;have e3:=Z.g 3;exact om)) (Z.goP (by decide) ?_);clear Z;intro a Z;refine Vj hP rfl (by simp[Region.wanted]) (v:=sv vals k) (m:=7*(mf+3)+2) fun w₁ hgr=>⟨{ target:=.fn (.func 110) #[.pointer (some ⟨w0.heap.size+2,0,none⟩),.pointer (some ⟨g,0,none⟩),.pointer (some ⟨w0.heap.size,0,none⟩)],args:=#[] },_,_,?_,rfl,?_,?_,?_,?_⟩
 ·have e19:=Z.g 19;refine QK (fun Kk hKk=>?_);go_simp;exact hKk
 ·have e19:=Z.g 19;rw[listed_nil (by simp[go_sem, *])];exact Di.idle _
 ·exact Vd _
 ·have hW1:=hW.grown hgr;have hrow1:=(hgr.block g (lt_of_some hrow) (by omega)).trans hrow;have hg1:=lt_of_some hrow1;have hs1:=lt_of_some hW1.shares
  exact VN (i:=(k:Int)) (v:=vals k) hW1.shares hs1 (by omega) hrow1 hg1 (by omega) hW1.coins (by omega) (by omega) hF hname hbody (fun w₂ h₂ =>
   have hb:=hW1.below.trans (h₂.below (by omega) (by omega) (by omega))
   hcall _ _ _ k hkn (by omega) (by omega) ⟨hb.size,hb.block⟩)
 have hW':=hW.grown hgr;have hKs:w0.heap.size+3≤w₁.heap.size:=by have:=lt_of_some hW'.shares;omega
 clear hgr hW hrow hKg hg0 hK;revert hW' hKs;generalize w₁=w;intro hW hK;refine Z.goN ?_;refine EM hP ?_
 try simp only[xt,↓reduceIte,Nat.reduceEqDiff]
 rw[show Ac Try.f78 6=Code.region 6 _ false from rfl];refine Dj hP ?_;refine AO hP (.int .i64 ((k+1:Nat):Int)) rfl rfl (fun w₁ hgr=>⟨run_eq_of (fun Kk hKk=>?_),?_⟩) (Z.goP (by decide) fun a' Z'=>?_)
 ·
  have e16:=Z.g 16;have hadd:=Lh k (by omega);go_simp;exact hKk
 ·
  have e16:=Z.g 16;have hadd:=Lh k (by omega);rw[listed_nil (by simp[go_sem, *])];exact Di.idle _
 clear Z;revert Z';generalize a'=a;intro Z;refine AO hP (.int .i64 ((k+1:Nat):Int)) rfl rfl (fun _ _=>(by have e20:=Z.g 20;exact om)) (Z.goP (by decide) ?_);clear Z;intro a Z;refine EM hP ?_
 try simp only[xt,↓reduceIte,Nat.reduceEqDiff]
 refine⟨⟨k+1,by omega,Z.sb,hW,hK,Nat.le_refl _,by rw[List.range_succ,List.map_append];rfl⟩,?_⟩;simp
 omega
theorem AaR (hP:EK Try.prog) (hd:w0.cell? ⟨bd,4,none⟩=some (.slice pa n pc)) (hn:n≤1000) {a:Act}{w:World}{L:List Value}{K:Nat}{cv:Value}(hW:FV w0 cv w) (hK:w0.heap.size+3≤K) (hKs:K≤w.heap.size) (Z:Sl a 46 [(0,.pointer (some ⟨bd,0,none⟩)),(3,.pointer (some ⟨w0.heap.size,0,none⟩)),(5,.pointer (some ⟨w0.heap.size+2,0,none⟩))]) {Q:Exit→Act→World→List Value→Nat→Prop}
  (hQ:∀ a' w' g,Sl a' 46 [(7,.slice (some ⟨g,0,none⟩) n n),(0,.pointer (some ⟨bd,0,none⟩)),(5,.pointer (some ⟨w0.heap.size+2,0,none⟩))]→FV w0 cv w'→K≤g→w'.heap[g]?=some (.cells (madeCells #[.int .i64 0] n) 3 (0,0))→Q .normal a' w' L K):wpP Try.prog M Aw (w0.heap.size+1) 78 (Ac Try.f78 7) Q a w L K:=by
 rw[show Ac Try.f78 7=Code.region 7 _ false from rfl];refine Dj hP ?_;refine AO hP (.pointer (some ⟨bd,0,none⟩)) rfl rfl (fun _ _=>(by have e0:=Z.g 0;exact om)) (Z.goP (by decide) ?_);clear Z;intro a Z;refine AO hP (.pointer (some ⟨bd,0,none⟩)) rfl rfl (fun _ _=>(by have e21:=Z.g 21;exact om)) (Z.goP (by decide) ?_);clear Z;intro a Z;refine AO hP (.pointer (some ⟨bd,0,none⟩)) rfl rfl (fun _ _=>(by have e22:=Z.g 22;exact om)) (Z.goP (by decide) ?_);clear Z;intro a Z;refine AO hP (.pointer (some ⟨bd,4,none⟩)) rfl rfl (fun _ _=>(by have e23:=Z.g 23;exact om)) (Z.goP (by decide) ?_);clear Z;intro a Z;refine AO hP (.slice pa n pc) rfl rfl (fun w₁ hgr=>⟨run_eq_of (fun Kk hKk=>?_),Di.still ?_⟩) (Z.goP (by decide) fun a' Z'=>?_)
 ·
  have e24:=Z.g 24;have hc:=((hW.grown hgr).below.cell (p:=⟨bd,4,none⟩) (lt_of_cell hd)).trans hd;go_simp;exact hKk
 ·
  have e24:=Z.g 24;have hc:=((hW.grown hgr).below.cell (p:=⟨bd,4,none⟩) (lt_of_cell hd)).trans hd
  co_evs (exact LG)
 clear Z;revert Z';generalize a'=a;intro Z;refine AO hP (.int .i64 (n:Int)) rfl rfl (fun _ _=>(by have e25:=Z.g 25;exact om)) (Z.goP (by decide) ?_);clear Z;intro a Z;have hmk:=fun w=>run_make_row' (P:=Try.prog) 29 3 (.int .i64 0) 8 Try.underlying29 Q9 rfl .i64 .i64 n (by omega) (by omega) w
 refine G9 hP rfl rfl fun w₁ hgr=>⟨.slice (some ⟨w₁.heap.size,0,none⟩) n n,w₁.alloc (.cells (madeCells #[.int .i64 0] n) 3),.inl (run_eq_of (fun Kk hKk=>?_)),?_,Z.goP (by decide) fun a' Z'=>?_⟩
 ·have e26:=Z.g 26;go_simp;exact hKk
 ·have e26:=Z.g 26;rw[listed_nil (by simp[go_sem, *,Xv])];exact Di.new _ _
 have hW':=(hW.grown hgr).alloc (.cells (madeCells #[.int .i64 0] n) 3);have hKg:K≤w₁.heap.size:=Nat.le_trans hKs hgr.size;have hrow:(w₁.alloc (.cells (madeCells #[.int .i64 0] n) 3)).heap[w₁.heap.size]?=some (.cells (madeCells #[.int .i64 0] n) 3 (0,0)):=by rw[Eg,if_pos rfl]
 clear Z hgr hW hmk;revert Z' hW' hrow hKg;generalize w₁.alloc (.cells (madeCells #[.int .i64 0] n) 3)=w;generalize w₁.heap.size=g;intro Z hW hKg hrow;refine AO hP (.slice (some ⟨g,0,none⟩) n n) rfl rfl (fun _ _=>(by have e27:=Z.g 27;exact om)) (Z.goP (by decide) ?_);clear Z;intro a Z;refine EM hP ?_
 try simp only[xt,↓reduceIte,Nat.reduceEqDiff]
 exact hQ _ _ g Z.sb hW hKg hrow
structure AbU (n g K:Nat) (vals:Nat→Int) (L:List Value) (k:Nat) (rem:List Nat) (row:Array Value) (w:World):Prop where
 kn:k+rem.length=n
 lt:∀ i∈rem,i<n
 nodup:rem.Nodup
 perm:L.Perm (rem.map (sv vals))
 at_:w.heap[g]?=some (.cells row 3 (0,0))
 size:row.size=n
 full:∀ i,i<n→i ∉ rem→row[i]?=some (.int .i64 (vals i))
theorem ZC (hP:EK Try.prog) (hn:n≤1000) {a:Act}{w:World}{L:List Value}{K g k:Nat}{rem:List Nat}{row:Array Value}{cv:Value}(hW:FV w0 cv w) (hK:w0.heap.size+3≤K) (hKs:K≤w.heap.size) (hKg:K≤g) (hO:AbU n g K vals L k rem row w) (hkn:k<n) (Z:Sl a 46 [(34,.int .i64 (k:Int)),(33,.int .i64 (n:Int)),(7,.slice (some ⟨g,0,none⟩) n n),(0,.pointer (some ⟨bd,0,none⟩)),(5,.pointer (some ⟨w0.heap.size+2,0,none⟩))]) {Q:Exit→Act→World→List Value→Nat→Prop}
  (hQ:∀ a' w' L' i x,Sl a' 46 ((8,.pointer (some ⟨x,0,none⟩))::[(34,.int .i64 (k:Int)),(33,.int .i64 (n:Int)),(7,.slice (some ⟨g,0,none⟩) n n),(0,.pointer (some ⟨bd,0,none⟩)),(5,.pointer (some ⟨w0.heap.size+2,0,none⟩))])→FV w0 cv w'→K≤w'.heap.size→K≤x→x≠g→i∈rem→w'.heap[g]?=some (.cells row 3 (0,0))→L.Perm (sv vals i::L')→w'.heap[x]?=some (.cells #[.int .i64 (i:Int),.int .i64 (vals i)] 143 (0,0))→Q .normal a' w' L' K):wpP Try.prog M Aw (w0.heap.size+1) 78 (Ac Try.f78 10) Q a w L K:=by
 rw[show Ac Try.f78 10=Code.region 10 _ false from rfl];refine Dj hP ?_;refine AO hP (.chan (some (w0.heap.size+1))) rfl rfl (fun w₁ hgr=>⟨run_eq_of (fun Kk hKk=>?_),Di.still ?_⟩) (Z.goP (by decide) fun a' Z'=>?_)
 ·
  have e5:=Z.g 5;have hc:=Cf (o:=0) (hW.grown hgr).shares rfl;go_simp;exact hKk
 ·
  have e5:=Z.g 5;have hc:=Cf (o:=0) (hW.grown hgr).shares rfl
  co_evs (exact LG)
 clear Z;revert Z';generalize a'=a;intro Z
 have hne:L≠[]:=fun e=>by
  have h1:=hO.perm;rw[e]at h1;have h2:=List.Perm.length_eq h1;have h3:=hO.kn;simp at h2
  omega
 refine Xn hP (z:=.agg #[.int .i64 0,.int .i64 0]) (f:=false) rfl (by simp[Region.wanted]) hne (fun w₁ hgr=>⟨SV (fun Kk hKk=>?_),?_⟩) fun w₁ v L' hgr hpm=>?_
 ·have e36:=Z.g 36;go_simp;exact hKk
 ·have e36:=Z.g 36;rw[listed_nil (by simp[go_sem, *])];exact Di.idle _
 obtain⟨i,hi,rfl⟩:∃ i,i∈rem∧sv vals i=v:=by
  have hv:v∈rem.map (sv vals):=hO.perm.subset (hpm.symm.subset (List.mem_cons_self ..));obtain⟨i,hi,e⟩:=List.mem_map.1 hv;exact⟨i,hi,e⟩
 refine Z.goP (by decide) fun a' Z'=>?_
 clear Z;revert Z';generalize a'=a;intro Z;replace Z:Sl a 46 [(37,.agg #[.int .i64 (i:Int),.int .i64 (vals i)]),(34,.int .i64 (k:Int)),(33,.int .i64 (n:Int)),(7,.slice (some ⟨g,0,none⟩) n n),(0,.pointer (some ⟨bd,0,none⟩)),(5,.pointer (some ⟨w0.heap.size+2,0,none⟩))]:=Z.sb;have hW1:=hW.grown hgr;have hKs1:=Nat.le_trans hKs hgr.size;have hat1:=(hgr.block g (lt_of_some hO.at_) (by omega)).trans hO.at_;clear hgr hW hKs;revert hW1 hKs1 hat1;generalize w₁=w;intro hW hKs hat;refine G9 hP rfl rfl fun w₁ hgr=>⟨.pointer (some ⟨w₁.heap.size,0,none⟩),w₁.alloc (.cells #[.int .i64 0,.int .i64 0] 143),.inl (run_eq_of (fun Kk hKk=>?_)),?_,Z.goP (by decide) fun a' Z'=>?_⟩
 ·go_simp;exact hKk
 ·rw[listed_nil (by simp[go_sem, *])];exact Di.new _ _
 have hW':=(hW.grown hgr).alloc (.cells #[.int .i64 0,.int .i64 0] 143);have hKx:K≤w₁.heap.size:=Nat.le_trans hKs hgr.size;have hat0:=(hgr.block g (lt_of_some hat) (by omega)).trans hat;have hxg:w₁.heap.size≠g:=by have:=lt_of_some hat0;omega
 have hat':(w₁.alloc (.cells #[.int .i64 0,.int .i64 0] 143)).heap[g]?=some (.cells row 3 (0,0)):=by rw[Eg,if_neg (Ne.symm hxg)];exact hat0
 have hx:(w₁.alloc (.cells #[.int .i64 0,.int .i64 0] 143)).heap[w₁.heap.size]?=some (.cells #[.int .i64 0,.int .i64 0] 143 (0,0)):=by rw[Eg,if_pos rfl]
 have hKs':K≤(w₁.alloc (.cells #[.int .i64 0,.int .i64 0] 143)).heap.size:=by simp;omega
 clear Z hgr hW hat hat0 hKs;revert Z' hW' hKx hxg hat' hx hKs';generalize w₁.alloc (.cells #[.int .i64 0,.int .i64 0] 143)=w;generalize w₁.heap.size=x;intro Z hW hKx hxg hat hx hKs;refine G9 hP rfl rfl fun w₁ hgr=>⟨undef,(w₁.setCell ⟨x,0,none⟩ (.int .i64 (i:Int))).setCell ⟨x,1,none⟩ (.int .i64 (vals i)),.inr ⟨?_,rfl⟩,?_,?_⟩
 ·have e8:=Z.g 8;have e37:=Z.g 37;have hrow:=(hgr.block x (lt_of_some hx) (by omega)).trans hx;have hc0:=Cf (o:=0) hrow rfl;have hc1:=Cf (o:=1) hrow rfl;have hz0:w₁.frozen? ⟨x,0,none⟩=false:=by simp[World.frozen?,hrow]
  have hz1:w₁.frozen? ⟨x,1,none⟩=false:=by simp[World.frozen?,hrow]
  refine JK (fun Kk hKk=>?_);go_simp
  try (unfold stored;go_simp)
  exact hKk
 ·have e8:=Z.g 8;have e37:=Z.g 37;have hrow:=(hgr.block x (lt_of_some hx) (by omega)).trans hx;refine Di.puts (g:=x) hrow rfl rfl rfl (by simp[World.setCell]) (fun b hb=>?_) (LJ (LJ hrow)) hKx (by decide) ?_
  ·rw[Below.heap_setCell _ _ _ _ (by simpa using hb),Below.heap_setCell _ _ _ _ (by simpa using hb)]
  ·have hc0:=Cf (o:=0) hrow rfl;have hc1:=Cf (o:=1) hrow rfl;have hz0:w₁.frozen? ⟨x,0,none⟩=false:=by simp[World.frozen?,hrow]
   have hrow2:=LJ (o:=0) (v:=.int .i64 (i:Int)) hrow;have hd1:=Cf (o:=1) hrow2 rfl;have hy1:(w₁.setCell ⟨x,0,none⟩ (.int .i64 (i:Int))).frozen? ⟨x,1,none⟩=false:=by simp[World.frozen?,hrow2]
   clear hrow2 hrow;intro e he;have hm:=mem_listed he;simp[go_sem,e8,e37,hc0,hc1,hz0,hd1,hy1]at hm;rcases hm with rfl|rfl<;>exact Px
 have hW':=((hW.grown hgr).put (g:=x) (o:=0) (by omega) (.int .i64 (i:Int))).put (g:=x) (o:=1) (by omega) (.int .i64 (vals i));have hrow:=(hgr.block x (lt_of_some hx) (by omega)).trans hx;have hx':=LJ (o:=1) (v:=.int .i64 (vals i)) (LJ (o:=0) (v:=.int .i64 (i:Int)) hrow)
 have hat':((w₁.setCell ⟨x,0,none⟩ (.int .i64 (i:Int))).setCell ⟨x,1,none⟩ (.int .i64 (vals i))).heap[g]?=some (.cells row 3 (0,0)):=by
  rw[Below.heap_setCell _ _ _ _ (by simpa using Ne.symm hxg),Below.heap_setCell _ _ _ _ (by simpa using Ne.symm hxg)];exact(hgr.block g (lt_of_some hat) (by omega)).trans hat
 have hKs':K≤((w₁.setCell ⟨x,0,none⟩ (.int .i64 (i:Int))).setCell ⟨x,1,none⟩ (.int .i64 (vals i))).heap.size:=by
  have:=hgr.size;simp[World.setCell];omega
 refine Z.goN ?_;refine EM hP ?_
 try simp only[xt,↓reduceIte,Nat.reduceEqDiff]
 exact hQ _ _ L' i x Z.sb hW' hKs' hKx hxg hi hat' hpm hx'
theorem ZB (hP:EK Try.prog) (hn:n≤1000) {a:Act}{w:World}{L:List Value}{K g k i x:Nat}{row:Array Value}{cv:Value}(hW:FV w0 cv w) (hK:w0.heap.size+3≤K) (hKs:K≤w.heap.size) (hKg:K≤g) (hKx:K≤x) (hxg:x≠g) (hat:w.heap[g]?=some (.cells row 3 (0,0))) (hsz:row.size=n) (hin:i<n)
  (hx:w.heap[x]?=some (.cells #[.int .i64 (i:Int),.int .i64 (vals i)] 143 (0,0))) (Z:Sl a 46 ((8,.pointer (some ⟨x,0,none⟩))::[(34,.int .i64 (k:Int)),(33,.int .i64 (n:Int)),(7,.slice (some ⟨g,0,none⟩) n n),(0,.pointer (some ⟨bd,0,none⟩)),(5,.pointer (some ⟨w0.heap.size+2,0,none⟩))])) {Q:Exit→Act→World→List Value→Nat→Prop}
  (hQ:∀ a' w',Sl a' 46 [(34,.int .i64 (k:Int)),(33,.int .i64 (n:Int)),(7,.slice (some ⟨g,0,none⟩) n n),(0,.pointer (some ⟨bd,0,none⟩)),(5,.pointer (some ⟨w0.heap.size+2,0,none⟩))]→FV w0 cv w'→K≤w'.heap.size→w'.heap[g]?=some (.cells (row.setIfInBounds i (.int .i64 (vals i))) 3 (0,0))→Q .normal a' w' L K):wpP Try.prog M Aw (w0.heap.size+1) 78 (Ac Try.f78 11) Q a w L K:=by
 rw[show Ac Try.f78 11=Code.region 11 _ false from rfl];refine Dj hP ?_;refine AO hP (.slice (some ⟨g,0,none⟩) n n) rfl rfl (fun _ _=>(by have e7:=Z.g 7;exact om)) (Z.goP (by decide) ?_);clear Z;intro a Z;refine AO hP (.pointer (some ⟨x,0,none⟩)) rfl rfl (fun _ _=>(by have e8:=Z.g 8;exact om)) (Z.goP (by decide) ?_);clear Z;intro a Z;refine AO hP (.int .i64 (i:Int)) rfl rfl (fun w₁ hgr=>⟨run_eq_of (fun Kk hKk=>?_),Di.still ?_⟩) (Z.goP (by decide) fun a' Z'=>?_)
 ·
  have e39:=Z.g 39;have hrow:=(hgr.block x (lt_of_some hx) (by omega)).trans hx;have hc:=Cf (o:=0) hrow rfl;clear hrow;go_simp;exact hKk
 ·
  have e39:=Z.g 39;have hrow:=(hgr.block x (lt_of_some hx) (by omega)).trans hx;have hc:=Cf (o:=0) hrow rfl;clear hrow
  co_evs (exact LG)
 clear Z;revert Z';generalize a'=a;intro Z;refine AO hP (.pointer (some ⟨x,1,none⟩)) rfl rfl (fun _ _=>(by have e8:=Z.g 8;exact om)) (Z.goP (by decide) ?_);clear Z;intro a Z;refine AO hP (.int .i64 (vals i)) rfl rfl (fun w₁ hgr=>⟨run_eq_of (fun Kk hKk=>?_),Di.still ?_⟩) (Z.goP (by decide) fun a' Z'=>?_)
 ·
  have e41:=Z.g 41;have hrow:=(hgr.block x (lt_of_some hx) (by omega)).trans hx;have hc:=Cf (o:=1) hrow rfl;clear hrow;go_simp;exact hKk
 ·
  have e41:=Z.g 41;have hrow:=(hgr.block x (lt_of_some hx) (by omega)).trans hx;have hc:=Cf (o:=1) hrow rfl;clear hrow
  co_evs (exact LG)
 clear Z;revert Z';generalize a'=a;intro Z;refine AO hP (.pointer (some ⟨g,i,none⟩)) rfl rfl (fun w₁ hgr=>⟨run_eq_of (fun Kk hKk=>?_),?_⟩) (Z.goP (by decide) fun a' Z'=>?_)
 ·
  have e38:=Z.g 38;have e40:=Z.g 40;have hi1:¬ (n:Int)≤(i:Int):=by omega
  have hi2:¬ (i:Int)<0:=by omega
  go_simp;exact hKk
 ·
  have e38:=Z.g 38;have e40:=Z.g 40;have hi1:¬ (n:Int)≤(i:Int):=by omega
  have hi2:¬ (i:Int)<0:=by omega
  rw[listed_nil (by simp[go_sem, *])];exact Di.idle _
 clear Z;revert Z';generalize a'=a;intro Z;refine G9 hP rfl rfl fun w₁ hgr=>⟨undef,w₁.setCell ⟨g,i,none⟩ (.int .i64 (vals i)),.inr ⟨?_,rfl⟩,?_,?_⟩
 ·have e42:=Z.g 42;have e43:=Z.g 43;have hrow:=(hgr.block g (lt_of_some hat) (by omega)).trans hat;have hc:=Cf (o:=i) (v:=row[i]) hrow (Array.getElem?_eq_getElem (by omega));have hz:w₁.frozen? ⟨g,i,none⟩=false:=by simp[World.frozen?,hrow]
  refine JK (fun Kk hKk=>?_);go_simp
  try (unfold stored;go_simp)
  exact hKk
 ·have e42:=Z.g 42;have e43:=Z.g 43;have hrow:=(hgr.block g (lt_of_some hat) (by omega)).trans hat;have hc:=Cf (o:=i) (v:=row[i]) hrow (Array.getElem?_eq_getElem (by omega));have hz:w₁.frozen? ⟨g,i,none⟩=false:=by simp[World.frozen?,hrow]
  refine Di.put hrow hKg (by decide) ?_;clear hrow
  co_evs (exact Px)
 have hW':=(hW.grown hgr).put (g:=g) (o:=i) (by omega) (.int .i64 (vals i));have hat':=LJ (o:=i) (v:=.int .i64 (vals i)) ((hgr.block g (lt_of_some hat) (by omega)).trans hat)
 have hKs':K≤(w₁.setCell ⟨g,i,none⟩ (.int .i64 (vals i))).heap.size:=by
  have:=hgr.size;simp[World.setCell];omega
 refine Z.goN ?_;refine EM hP ?_
 try simp only[xt,↓reduceIte,Nat.reduceEqDiff]
 exact hQ _ _ Z.sb hW' hKs' hat'
theorem AaS (hP:EK Try.prog) (hd:w0.cell? ⟨bd,4,none⟩=some (.slice pa n pc)) (hn:n≤1000) {a:Act}{w:World}{L:List Value}{K g:Nat}{row:Array Value}{cv:Value}(hW:FV w0 cv w) (hK:w0.heap.size+3≤K) (hKs:K≤w.heap.size) (hKg:K≤g) (hL:L=(List.range n).map (sv vals)) (hat:w.heap[g]?=some (.cells row 3 (0,0))) (hsz:row.size=n) (Z:Sl a 46 [(7,.slice (some ⟨g,0,none⟩) n n),(0,.pointer (some ⟨bd,0,none⟩)),(5,.pointer (some ⟨w0.heap.size+2,0,none⟩))]) {Q:Exit→Act→World→List Value→Nat→Prop}
  (hQ:∀ a' w' row',Sl a' 46 [(7,.slice (some ⟨g,0,none⟩) n n),(0,.pointer (some ⟨bd,0,none⟩)),(5,.pointer (some ⟨w0.heap.size+2,0,none⟩))]→FV w0 cv w'→w'.heap[g]?=some (.cells row' 3 (0,0))→row'.size=n→(∀ i,i<n→row'[i]?=some (.int .i64 (vals i)))→Q .normal a' w' [] K):wpP Try.prog M Aw (w0.heap.size+1) 78 (Code.seq (Ac Try.f78 8) (Code.block 2 (Code.loop (Code.seq (Ac Try.f78 9) (Code.seq (Code.cond (Operand.tmp 35) Code.skip (Code.exit 2)) (Code.seq (Code.block 3 (Code.seq (Ac Try.f78 10) (Ac Try.f78 11))) (Ac Try.f78 12))))))) Q a w L K:=by
 have hO:AbU n g K vals L 0 (List.range n) row w:=⟨by simp,fun i hi=>by simpa using hi,List.nodup_range,by rw[hL],hat,hsz,fun i hi hni=>absurd (by simpa using hi) hni⟩;clear hat hsz hL;refine EX hP ?_;rw[show Ac Try.f78 8=Code.region 8 _ false from rfl];refine Dj hP ?_;refine AO hP (.pointer (some ⟨bd,0,none⟩)) rfl rfl (fun _ _=>(by have e0:=Z.g 0;exact om)) (Z.goP (by decide) ?_);clear Z;intro a Z;refine AO hP (.pointer (some ⟨bd,0,none⟩)) rfl rfl (fun _ _=>(by have e28:=Z.g 28;exact om)) (Z.goP (by decide) ?_);clear Z;intro a Z;refine AO hP (.pointer (some ⟨bd,0,none⟩)) rfl rfl (fun _ _=>(by have e29:=Z.g 29;exact om)) (Z.goP (by decide) ?_);clear Z;intro a Z;refine AO hP (.pointer (some ⟨bd,4,none⟩)) rfl rfl (fun _ _=>(by have e30:=Z.g 30;exact om)) (Z.goP (by decide) ?_);clear Z;intro a Z;refine AO hP (.slice pa n pc) rfl rfl (fun w₁ hgr=>⟨run_eq_of (fun Kk hKk=>?_),Di.still ?_⟩) (Z.goP (by decide) fun a' Z'=>?_)
 ·
  have e31:=Z.g 31;have hc:=((hW.grown hgr).below.cell (p:=⟨bd,4,none⟩) (lt_of_cell hd)).trans hd;go_simp;exact hKk
 ·
  have e31:=Z.g 31;have hc:=((hW.grown hgr).below.cell (p:=⟨bd,4,none⟩) (lt_of_cell hd)).trans hd
  co_evs (exact LG)
 clear Z;revert Z';generalize a'=a;intro Z;refine AO hP (.int .i64 (n:Int)) rfl rfl (fun _ _=>(by have e32:=Z.g 32;exact om)) (Z.goP (by decide) ?_);clear Z;intro a Z;refine AO hP (.int .i64 0) rfl rfl (fun _ _=>(by exact om)) (Z.goP (by decide) ?_);clear Z;intro a Z;refine EM hP ?_
 try simp only[xt,↓reduceIte,Nat.reduceEqDiff]
 replace Z:Sl a 46 [(34,.int .i64 ((0:Nat):Int)),(33,.int .i64 (n:Int)),(7,.slice (some ⟨g,0,none⟩) n n),(0,.pointer (some ⟨bd,0,none⟩)),(5,.pointer (some ⟨w0.heap.size+2,0,none⟩))]:=Z.sb;refine J6 hP ?_;refine Ug hP (fun a w L K'=>∃ (k:Nat) (rem:List Nat) (row:Array Value),K'=K∧k≤n∧Sl a 46 [(34,.int .i64 (k:Int)),(33,.int .i64 (n:Int)),(7,.slice (some ⟨g,0,none⟩) n n),(0,.pointer (some ⟨bd,0,none⟩)),(5,.pointer (some ⟨w0.heap.size+2,0,none⟩))]∧FV w0 cv w∧K≤w.heap.size∧AbU n g K vals L k rem row w) (fun _ _ L _=>L.length) ⟨0,_,row,rfl,by omega,Z,hW,hKs,hO⟩ ?_;clear Z hW hO hKs;rintro a w L K' ⟨k,rem,row,rfl,hk,Z,hW,hKs,hO⟩;refine EX hP ?_;rw[show Ac Try.f78 9=Code.region 9 _ false from rfl];refine Dj hP ?_;refine AO hP (.bool (decide (k<n))) rfl rfl (fun w₁ hgr=>⟨run_eq_of (fun Kk hKk=>?_),?_⟩) (Z.goP (by decide) fun a' Z'=>?_)
 ·
  have e34:=Z.g 34;have e33:=Z.g 33;have hdec:decide ((k:Int)<(n:Int))=decide (k<n):=by simp
  go_simp;exact hKk
 ·
  have e34:=Z.g 34;have e33:=Z.g 33;have hdec:decide ((k:Int)<(n:Int))=decide (k<n):=by simp
  rw[listed_nil (by simp[go_sem, *])];exact Di.idle _
 clear Z;revert Z';generalize a'=a;intro Z;refine EM hP ?_
 try simp only[xt,↓reduceIte,Nat.reduceEqDiff]
 refine EX hP ?_
 by_cases hkn:k<n
 rotate_left
 ·have e35:=Z.ev 35 rfl;rw[decide_eq_false hkn]at e35;refine MZ hP e35 (Uh hP ?_);simp only[xt,↓reduceIte,Nat.reduceEqDiff]
  obtain rfl:rem=[]:=by
   have:=hO.kn;exact List.eq_nil_of_length_eq_zero (by omega)
  have hnil:L=[]:=List.Perm.eq_nil hO.perm;subst hnil;exact hQ _ _ row Z.sb hW hO.at_ hO.size fun i hi=>hO.full i hi (by simp)
 have e35:=Z.ev 35 rfl;rw[decide_eq_true hkn]at e35;refine MZ hP e35 (Uf hP ?_);simp only[xt,↓reduceIte,Nat.reduceEqDiff];clear e35;replace Z:Sl a 46 [(34,.int .i64 (k:Int)),(33,.int .i64 (n:Int)),(7,.slice (some ⟨g,0,none⟩) n n),(0,.pointer (some ⟨bd,0,none⟩)),(5,.pointer (some ⟨w0.heap.size+2,0,none⟩))]:=Z.sb;refine EX hP ?_;refine J6 hP ?_;refine EX hP ?_;refine ZC hP hn hW hK hKs hKg hO hkn Z fun a w L' i x Z hW hKs hKx hxg hi hat hpm hx=>?_
 simp only[xt,↓reduceIte,Nat.reduceEqDiff];have hin:=hO.lt i hi;refine ZB hP hn hW hK hKs hKg hKx hxg hat hO.size hin hx Z fun a w Z hW hKs hat=>?_
 simp only[xt,↓reduceIte,Nat.reduceEqDiff];have hlen:L'.length<L.length:=by have:=hpm.length_eq;simp at this;omega
 have hO':AbU n g K' vals L' (k+1) (rem.erase i) (row.setIfInBounds i (.int .i64 (vals i))) w:=by
  have hp1:rem.Perm (i::rem.erase i):=List.perm_cons_erase hi;refine⟨?_,fun q hq=>hO.lt q (List.mem_of_mem_erase hq),hO.nodup.erase i,?_,hat,by simp[hO.size],fun q hq hnq=>?_⟩
  ·have h1:=hp1.length_eq;have h2:=hO.kn;simp at h1
   omega
  ·have h3:=(hpm.symm.trans hO.perm).trans (hp1.map (sv vals));rw[List.map_cons]at h3;exact h3.cons_inv
  ·by_cases e:q=i
   ·subst e;simp[hO.size,hq]
   ·rw[Array.getElem?_setIfInBounds_ne (Ne.symm e)];exact hO.full q hq fun hm=>hnq ((List.mem_erase_of_ne e).2 hm)
 clear hO hpm hat hx;rw[show Ac Try.f78 12=Code.region 12 _ false from rfl];refine Dj hP ?_;refine AO hP (.int .i64 ((k+1:Nat):Int)) rfl rfl (fun w₁ hgr=>⟨run_eq_of (fun Kk hKk=>?_),?_⟩) (Z.goP (by decide) fun a' Z'=>?_)
 ·
  have e34:=Z.g 34;have hadd:=Lh k (by omega);go_simp;exact hKk
 ·
  have e34:=Z.g 34;have hadd:=Lh k (by omega);rw[listed_nil (by simp[go_sem, *])];exact Di.idle _
 clear Z;revert Z';generalize a'=a;intro Z;refine AO hP (.int .i64 ((k+1:Nat):Int)) rfl rfl (fun _ _=>(by have e44:=Z.g 44;exact om)) (Z.goP (by decide) ?_);clear Z;intro a Z;refine EM hP ?_
 try simp only[xt,↓reduceIte,Nat.reduceEqDiff]
 exact⟨⟨k+1,_,_,by trivial,by omega,Z.sb,hW,hKs,hO'⟩,hlen⟩
theorem Qg (hP:EK Try.prog) (hd:w0.cell? ⟨bd,4,none⟩=some (.slice pa n pc)) (hn:n≤1000) (hF:Try.prog.funcs[fc]?=some Fn1) (hname:(Fn1.name == "runtime.NumGoroutine")=false) (hbody:Fn1.body.isNone=false) (hcall:NZ w0 n mf fc first cap vals):Dz Try.prog M 78 #[.pointer (some ⟨bd,0,none⟩),.func (.func fc) first cap] w0
  fun e w'=>∃ g row,e=.returned (.slice (some ⟨g,0,none⟩) n n)∧Below w0.heap.size w0 w'∧w0.heap.size≤g∧w'.heap[g]?=some (.cells row 3 (0,0))∧row.size=n∧∀ i,i<n→row[i]?=some (.int .i64 (vals i)):=by
 have hno:∀ w':World,¬ ∃ g row,(Ending.outgrown:Ending)=.returned (.slice (some ⟨g,0,none⟩) n n)∧Below w0.heap.size w0 w'∧w0.heap.size≤g∧w'.heap[g]?=some (.cells row 3 (0,0))∧row.size=n∧∀ i,i<n→row[i]?=some (.int .i64 (vals i)):=fun w' ⟨_,_,h,_⟩=>by cases h
 refine OM hP Try.func78 XT ?_ hno
 have Z:Sl (⟨#[.pointer (some ⟨bd,0,none⟩),.func (.func fc) first cap]++Array.replicate (Try.f78.ntmps-(#[.pointer (some ⟨bd,0,none⟩),.func (.func fc) first cap]:Array Value).size) undef,[]⟩:Act) 46 [(0,.pointer (some ⟨bd,0,none⟩)),(1,.func (.func fc) first cap)]:=by
  rw[Try.ntmps78];exact Sl.Abv _ _ (by omega)
 revert Z;generalize (Act.mk _ _)=a0;intro Z;refine Ud hP (Wl (wpX.cut hP (fun a w h=>hno w h) fun K1 hK1=>?_));refine AaV w0 bd fc first cap _ Z fun a w Z hw=>?_
 refine hK1 _ _ ?_;clear hK1 K1;refine Ud hP (Wl (wpX.cut hP (fun a w h=>hno w h) fun K1 hK1=>?_));refine AaU w0 bd fc first cap _ w hw Z fun a w Z hB h1 h2 h3 h4=>?_
 refine hK1 _ _ ?_;clear hK1 K1;refine Si (Safe:=Aw) (c:=w0.heap.size+1) h2 (fun s r tm ⟨cs,fz,h⟩=>by cases h) fun W hh hos hou=>?_
 obtain⟨w0',rfl⟩:∃ w0':World,w0'={ w0 with tape:=W.tape }:=⟨_,rfl⟩;have hW:FV { w0 with tape:=W.tape } (.func (.func fc) first cap) W:=⟨⟨hos.trans hB.os,rfl,hou.trans hB.output,by rw[hh];exact hB.size,fun b hb=>by rw[hh];exact hB.block b hb⟩,by rw[hh];exact h1,by rw[hh];exact h3⟩
 have hend:∀ (w' w₂ w₃:World),FV { w0 with tape:=W.tape } (.func (.func fc) first cap) w'→Grown (w0.heap.size+1) w' w₂→w₃.heap=w₂.heap→w₃.os=w₂.os→w₃.output=w₂.output→w₃.tape=w.tape→Below w0.heap.size w0 w₃:=fun w' w₂ w₃ hE hG e1 e2 e3 e4=>by
  have hb:=(hE.grown hG).below;exact⟨e2.trans hb.os,e4.trans hB.tape,e3.trans hb.output,by rw[e1];exact hb.size,fun b hb'=>by rw[e1];exact hb.block b hb'⟩
 refine EX hP ?_;refine AaT (w0:={ w0 with tape:=W.tape }) hP hd hn hF hname hbody hcall hW (by rw[h4];exact Nat.le_refl _) (by rw[hh];exact Nat.le_refl _) Z fun a w K Z hW hK hKs=>?_
 simp only[xt,↓reduceIte,Nat.reduceEqDiff];refine EX hP ?_;refine AaR (w0:={ w0 with tape:=W.tape }) hP hd hn hW hK hKs Z fun a w g Z hW hKg hat=>?_
 simp only[xt,↓reduceIte,Nat.reduceEqDiff];refine EX hP ?_;refine AaS (w0:={ w0 with tape:=W.tape }) hP hd hn hW hK (by have:=lt_of_some hat;omega) hKg rfl hat (by simp[madeCells]) Z fun a w row Z hW hat hsz hfull=>?_
 simp only[xt,↓reduceIte,Nat.reduceEqDiff];refine EX hP ?_;rw[show Ac Try.f78 13=Code.region 13 _ false from rfl];refine Dj hP ?_;refine AO hP (.slice (some ⟨g,0,none⟩) n n) rfl rfl (fun _ _=>(by have e7:=Z.g 7;exact om)) (Z.goP (by decide) ?_);clear Z;intro a Z;refine AO hP (.slice (some ⟨g,0,none⟩) n n) rfl rfl (fun _ _=>(by have e45:=Z.g 45;exact om)) (Z.goP (by decide) ?_);clear Z;intro a Z;refine EM hP ?_
 try simp only[xt,↓reduceIte,Nat.reduceEqDiff]
 refine Aaq hP ?_;simp only[xt,↓reduceIte,Nat.reduceEqDiff];refine⟨by trivial,.inl (by trivial),fun w₂ w₃ hG e1 e2 e3 e4=>?_⟩;have hg0:w0.heap.size+3≤g:=Nat.le_trans hK hKg;refine bodyPost_ret (v:=.slice (some ⟨g,0,none⟩) n n) ?_ Z.defers ⟨g,row,rfl,hend _ _ _ hW hG e1 e2 e3 e4,by omega,?_,hsz,hfull⟩
 ·simp[results,Try.results78,Z.get 4 _ rfl]
 ·rw[e1];exact(hG.block g (lt_of_some hat) (by omega)).trans hat
end
end
end Go.Proofs.Ytgdobbcjkiapkaa
