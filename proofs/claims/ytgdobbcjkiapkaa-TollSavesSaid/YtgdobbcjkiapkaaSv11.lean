import Derived.Test.YtgdobbcjkiapkaaSv10
import Derived.Conc.CompanyCalls
import Derived.Conc.Script
import Derived.Below
namespace Go.Proofs.Ytgdobbcjkiapkaa
set_option maxRecDepth 100000
set_option maxHeartbeats 4000000
set_option linter.unusedSimpArgs false
set_option linter.unusedVariables false
section
open Go Go.Conc
open Go.RowKit (Below)
open Go.ConcN (sumTo upd sumTo_upd upd_ne upd_same)
structure Wk where
 N:Nat
 v:Value
def blk:Loc→Option Nat
 | .cell a=>some a.block
 | .obj r=>some r
 | _=>none
theorem Pn {l:Loc}(h:l.isMemory=true):∃ b,blk l=some b:=by cases l<;>first|exact⟨_,rfl⟩|cases h
section
variable (Safe:Obj→Prop) (c:Nat)
def DU (w:World) (b:Nat):Prop:=∃ o,w.heap[b]?=some o∧Safe o
def Qm (N:Nat) (w:World) (b:Nat):Prop:=(b<N∧b≠c)∨DU Safe w b
structure Az (N:Nat) (w w₁:World):Prop where
 os:w₁.os=w.os
 tape:w₁.tape=w.tape
 output:w₁.output=w.output
 size:w.heap.size≤w₁.heap.size
 block:∀ b,b<w.heap.size→Qm Safe c N w b→w₁.heap[b]?=w.heap[b]?
structure Be (N:Nat) (w w':World) (es:Array Event):Prop where
 os:w'.os=w.os
 tape:w'.tape=w.tape
 output:w'.output=w.output
 size:w.heap.size≤w'.heap.size
 block:∀ b,b<w.heap.size→w'.heap[b]?=w.heap[b]?
 reads:∀ e∈es,∀ x,(MemAct.ofEvent e).touch?=some x→∀ b,blk x.loc=some b→x.write=false∧b<w.heap.size∧Qm Safe c N w b
structure Grown (w w₁:World):Prop where
 os:w₁.os=w.os
 tape:w₁.tape=w.tape
 output:w₁.output=w.output
 size:w.heap.size≤w₁.heap.size
 block:∀ b,b<w.heap.size→b≠c→w₁.heap[b]?=w.heap[b]?
structure Di (K:Nat) (w w':World) (es:Array Event):Prop where
 os:w'.os=w.os
 tape:w'.tape=w.tape
 output:w'.output=w.output
 size:w.heap.size≤w'.heap.size
 block:∀ b,b<w.heap.size→(b<K∨DU Safe w b)→w'.heap[b]?=w.heap[b]?
 unsafe_:∀ b,b<w.heap.size→DU Safe w' b→DU Safe w b
 writes:∀ e∈es,∀ x,(MemAct.ofEvent e).touch?=some x→∀ b,blk x.loc=some b→x.write=true→K≤b∧b<w'.heap.size∧¬ DU Safe w' b
end
section
variable {Safe:Obj→Prop}{c:Nat}{N K:Nat}{w w' w₁ w₂:World}{es:Array Event}
theorem W9 {b:Nat}(h:DU Safe w b):b<w.heap.size:=by
 obtain⟨o,ho,_⟩:=h;rcases Nat.lt_or_ge b w.heap.size with h'|h'
 ·exact h'
 ·rw[Array.getElem?_eq_none h']at ho;cases ho
theorem DU.same {b:Nat}(h:DU Safe w b) (e:w₁.heap[b]?=w.heap[b]?):DU Safe w₁ b:=by
 obtain⟨o,ho,hs⟩:=h;exact⟨o,by rw[e];exact ho,hs⟩
theorem Az.refl (w:World):Az Safe c N w w:=⟨rfl,rfl,rfl,Nat.le_refl _,fun _ _ _=>rfl⟩
theorem Az.fixed (h:Az Safe c N w w₁) {b:Nat}(hb:b<w.heap.size) (hf:Qm Safe c N w b):Qm Safe c N w₁ b:=hf.imp id fun s=>s.same (h.block b hb hf)
theorem Az.trans (h:Az Safe c N w w₁) (k:Az Safe c N w₁ w₂):Az Safe c N w w₂ :=
 ⟨k.os.trans h.os,k.tape.trans h.tape,k.output.trans h.output,Nat.le_trans h.size k.size,fun b hb hf=>(k.block b (Nat.lt_of_lt_of_le hb h.size) (h.fixed hb hf)).trans (h.block b hb hf)⟩
theorem Az.below {B:Nat}(h:Az Safe c N w w₁) (hB:B≤N) (hs:B≤w.heap.size) (hc:B≤c):Below B w w₁ :=
 ⟨h.os,h.tape,h.output,h.size,fun b hb=>h.block b (by omega) (.inl ⟨by omega,by omega⟩)⟩
theorem Grown.below {B:Nat}(h:Grown c w w₁) (hs:B≤w.heap.size) (hc:B≤c):Below B w w₁ :=
 ⟨h.os,h.tape,h.output,h.size,fun b hb=>h.block b (by omega) (by omega)⟩
theorem Be.idle (w:World):Be Safe c N w w #[]:=⟨rfl,rfl,rfl,Nat.le_refl _,fun _ _=>rfl,fun e he=>by simp at he⟩
theorem Ah:Terms (Az Safe c N) (Be Safe c N):=⟨fun _ _ _=>Az.trans,Be.idle⟩
theorem Grown.refl (w:World):Grown c w w:=⟨rfl,rfl,rfl,Nat.le_refl _,fun _ _ _=>rfl⟩
theorem Grown.trans (h:Grown c w w₁) (k:Grown c w₁ w₂):Grown c w w₂ :=
 ⟨k.os.trans h.os,k.tape.trans h.tape,k.output.trans h.output,Nat.le_trans h.size k.size,fun b hb hc=>(k.block b (Nat.lt_of_lt_of_le hb h.size) hc).trans (h.block b hb hc)⟩
theorem Be.grown (h:Be Safe c N w w' es):Grown c w w':=⟨h.os,h.tape,h.output,h.size,fun b hb _=>h.block b hb⟩
theorem Di.idle (w:World):Di Safe K w w #[]:=⟨rfl,rfl,rfl,Nat.le_refl _,fun _ _ _=>rfl,fun _ _ h=>h,fun e he=>by simp at he⟩
theorem Be.rely {N':Nat}(h:Be Safe c N w w' es):Az Safe c N' w w':=⟨h.os,h.tape,h.output,h.size,fun b hb _=>h.block b hb⟩
theorem Di.rely (hN:N≤K) (h:Di Safe K w w' es):Az Safe c N w w':=⟨h.os,h.tape,h.output,h.size,fun b hb hf=>h.block b hb (hf.imp (fun x=>by omega) id)⟩
end
section
variable (Safe:Obj→Prop) (K:Nat)
structure BF (A:Nat→Option Wk) (W:World) (t:Trace):Prop where
 clean:∀ said,¬ Race said t
 known:∀ i a,touchAt t i=some a→a.loc.isMemory=true→Knows t 0 i∨(a.write=false∧∃ j d b,A j=some d∧t.g? i=some j∧blk a.loc=some b∧b<W.heap.size∧(b<K∨DU Safe W b))
 wrote:∀ j d,A j=some d→∀ i a b,touchAt t i=some a→a.write=true→blk a.loc=some b→Knows t j i∨(d.N≤b∧b<W.heap.size∧¬ DU Safe W b)
 hears:Deaf t 0=0
end
theorem Tq {said:Bool}{t u:Trace}(h:¬ Race said t) (hu:∀ op∈u,op.act.touch?=none):¬ Race said (t++u):=by
 rintro⟨i,j,hij,⟨a,b,ha,hb,hc⟩,n1,n2⟩;obtain⟨x,hx,hxa⟩:=touch_of ha;obtain⟨y,hy,hyb⟩:=touch_of hb;rcases getElem?_append_cases hy with ⟨hj,hy'⟩|⟨_,hyu⟩
 ·have hi:i<t.size:=Nat.lt_trans hij hj;have hx':t[i]?=some x:=by rw[← getElem?_append_old (u:=u) hi];exact hx
  exact h ⟨i,j,hij,⟨a,b,by simp[Trace.act?,hx',hxa],by simp[Trace.act?,hy',hyb],hc⟩,fun e=>n1 (hb_app u e),fun e=>n2 (hb_app u e)⟩
 ·rw[hu y hyu]at hyb;cases hyb
theorem Eb {t u:Trace}{i:Nat}{a:Touch}(h:touchAt (t++u) i=some a):(i<t.size∧touchAt t i=some a∧(t++u).g? i=t.g? i)∨(t.size≤i∧∃ op∈u,(t++u)[i]?=some op∧op.act.touch?=some a):=by
 obtain⟨x,hx,hxa⟩:=touch_of h;rcases getElem?_append_cases hx with ⟨hi,hx'⟩|⟨hi,hxu⟩
 ·exact .inl ⟨hi,by rw[touchAt_of hx'];exact hxa,g?_old hi⟩
 ·exact .inr ⟨hi,x,hxu,hx,hxa⟩
theorem g?_of {t:Trace}{i:Nat}{op:MemOp}(h:t[i]?=some op):t.g? i=some op.g:=by simp[Trace.g?,h]
section
variable {Safe:Obj→Prop}{c K N:Nat}{A:Nat→Option Wk}{W W':World}{t u:Trace}{es:Array Event}
theorem BF.world (h:BF Safe K A W t) (hs:W.heap.size≤W'.heap.size) (hb:∀ b,b<W.heap.size→(b<K∨DU Safe W b)→(b<K∨DU Safe W' b)) (hu:∀ b,b<W.heap.size→DU Safe W' b→DU Safe W b):BF Safe K A W' t :=
 ⟨h.clean,fun i a ha hm=>(h.known i a ha hm).imp id fun ⟨h1,j,d,b,h2,h3,h4,h5,h6⟩=>⟨h1,j,d,b,h2,h3,h4,by omega,hb b h5 h6⟩,
  fun j d hj i a b ha hw hbl=>(h.wrote j d hj i a b ha hw hbl).imp id fun ⟨h1,h2,h3⟩=>⟨h1,by omega,fun x=>h3 (hu b h2 x)⟩,h.hears⟩
theorem BF.mute (h:BF Safe K A W t) (hu:∀ op∈u,op.act.touch?=none) (hd:Deaf (t++u) 0=0):BF Safe K A W (t++u):=by
 refine⟨fun said=>Tq (h.clean said) hu,fun i a ha hm=>?_,fun j d hj i a b ha hw hbl=>?_,hd⟩
 ·rcases Eb ha with ⟨hi,ha',hg⟩|⟨_,op,hop,_,hx⟩
  ·exact(h.known i a ha' hm).imp (·.app u) fun ⟨h1,j,d,b,h2,h3,h4⟩=>⟨h1,j,d,b,h2,by rw[hg];exact h3,h4⟩
  ·rw[hu op hop]at hx;cases hx
 ·rcases Eb ha with ⟨hi,ha',hg⟩|⟨_,op,hop,_,hx⟩
  ·exact(h.wrote j d hj i a b ha' hw hbl).imp (·.app u) id
  ·rw[hu op hop]at hx;cases hx
theorem BF.worker (h:BF Safe K A W t) {j:Nat}{d:Wk}(hj:A j=some d) (hN:d.N≤K) (hpos:0<j) (hd:Be Safe c d.N W W' es) (fn:FuncId) (pos:String):BF Safe K A W' (t++MemOp.ofEvents j fn pos es):=by
 have hown:∀ op∈MemOp.ofEvents j fn pos es,op.g=j:=fun op hop=>by obtain⟨e,_,rfl⟩:=Conc.mem_ofEvents hop;rfl
 have hrd:∀ op∈MemOp.ofEvents j fn pos es,∀ x,op.act.touch?=some x→∀ b,blk x.loc=some b→x.write=false∧b<W.heap.size∧Qm Safe c d.N W b:=fun op hop=>by
  obtain⟨e,he,rfl⟩:=Conc.mem_ofEvents hop;exact hd.reads e he
 have safe':∀ b,DU Safe W b→DU Safe W' b:=fun b s=>s.same (hd.block b (W9 s))
 have h':BF Safe K A W' t:=h.world hd.size (fun b _ x=>x.imp id (safe' b)) (fun b hb s=>s.same (hd.block b hb).symm);refine⟨fun said=>noRace_append (h.clean said) hown fun i a ha op hop x hx hc=>?_,fun i a ha hm=>?_,fun k d' hk i a b ha hw hbl=>?_,?_⟩
 ·obtain⟨hloc,hmem,hwr,_⟩:=hc;obtain⟨b,hb⟩:=Pn hmem;obtain⟨r1,r2,r3⟩:=hrd op hop x hx b (hloc ▸ hb);have hw:a.write=true:=hwr.elim id fun e=>by rw[r1]at e;cases e
  rcases h.wrote j d hj i a b ha hw hb with hk|⟨k1,_,k3⟩
  ·exact hk
  ·rcases r3 with ⟨r3,_⟩|r3
   ·omega
   ·exact absurd r3 k3
 ·rcases Eb ha with ⟨hi,ha',hg⟩|⟨_,op,hop,hi,hx⟩
  ·exact(h'.known i a ha' hm).imp (·.app _) fun ⟨h1,j,d,b,h2,h3,h4⟩=>⟨h1,j,d,b,h2,by rw[hg];exact h3,h4⟩
  ·obtain⟨b,hb⟩:=Pn hm;obtain⟨r1,r2,r3⟩:=hrd op hop a hx b hb;refine .inr ⟨r1,j,d,b,hj,by rw[g?_of hi,hown op hop],hb,Nat.lt_of_lt_of_le r2 hd.size,r3.imp (fun x=>by omega) (safe' b)⟩
 ·rcases Eb ha with ⟨hi,ha',hg⟩|⟨_,op,hop,hi,hx⟩
  ·exact(h'.wrote k d' hk i a b ha' hw hbl).imp (·.app _) id
  ·have:=(hrd op hop a hx b hbl).1;rw[hw]at this;cases this
 ·rw[Deaf_other t (by omega) _ hown];exact h.hears
theorem BF.own (h:BF Safe K A W t) (hN:∀ j d,A j=some d→d.N≤K) (hd:Di Safe K W W' es) (he:deafBehind 0 es=0) (fn:FuncId) (pos:String):BF Safe K A W' (t++MemOp.ofEvents 0 fn pos es):=by
 have hown:∀ op∈MemOp.ofEvents 0 fn pos es,op.g=0:=fun op hop=>by obtain⟨e,_,rfl⟩:=Conc.mem_ofEvents hop;rfl
 have hwr:∀ op∈MemOp.ofEvents 0 fn pos es,∀ x,op.act.touch?=some x→∀ b,blk x.loc=some b→x.write=true→K≤b∧b<W'.heap.size∧¬ DU Safe W' b:=fun op hop=>by
  obtain⟨e,he,rfl⟩:=Conc.mem_ofEvents hop;exact hd.writes e he
 have safe':∀ b,DU Safe W b→DU Safe W' b:=fun b s=>s.same (hd.block b (W9 s) (.inr s))
 have h':BF Safe K A W' t:=h.world hd.size (fun b _ x=>x.imp id (safe' b)) (fun b hb s=>hd.unsafe_ b hb s);refine⟨fun said=>noRace_append (h.clean said) hown fun i a ha op hop x hx hc=>?_,fun i a ha hm=>?_,fun k d' hk i a b ha hw hbl=>?_,?_⟩
 ·obtain⟨hloc,hmem,hw,_⟩:=hc;rcases h.known i a ha hmem with hk|⟨k1,j,d,b,k2,k3,k4,k5,k6⟩
  ·exact hk
  ·have hw':x.write=true:=hw.elim (fun e=>by rw[k1]at e;cases e) id;obtain⟨r1,r2,r3⟩:=hwr op hop x hx b (hloc ▸ k4) hw';rcases k6 with k6|k6
   ·omega
   ·exact absurd (safe' b k6) r3
 ·rcases Eb ha with ⟨hi,ha',hg⟩|⟨_,op,hop,hi,hx⟩
  ·exact(h'.known i a ha' hm).imp (·.app _) fun ⟨h1,j,d,b,h2,h3,h4⟩=>⟨h1,j,d,b,h2,by rw[hg];exact h3,h4⟩
  ·have:=knows_own hi;rw[hown op hop]at this;exact .inl this
 ·rcases Eb ha with ⟨hi,ha',hg⟩|⟨_,op,hop,hi,hx⟩
  ·exact(h'.wrote k d' hk i a b ha' hw hbl).imp (·.app _) id
  ·obtain⟨r1,r2,r3⟩:=hwr op hop a hx b hbl hw;exact .inr ⟨Nat.le_trans (hN k d' hk) r1,r2,r3⟩
 ·rw[Deaf_own,h.hears,he]
theorem BF.more {K':Nat}(hK:K≤K') (h:BF Safe K A W t):BF Safe K' A W t :=
 ⟨h.clean,fun i a ha hm=>(h.known i a ha hm).imp id fun ⟨h1,j,d,b,h2,h3,h4,h5,h6⟩=>⟨h1,j,d,b,h2,h3,h4,h5,h6.imp (fun x=>by omega) id⟩,h.wrote,h.hears⟩
theorem Ls (t:Trace) (g:Nat) (u:Trace) (hu:∀ op∈u,∀ mk,op.act ≠ .mark mk):Deaf (t++u) g=Deaf t g:=by
 obtain⟨l⟩:=u;rw[Deaf_append]
 induction l generalizing t with
 | nil=>rfl
 | cons y l ih =>
  have hy:=hu y (by simp)
  have e1:deafStep g (Deaf t g) y=Deaf t g:=by
   unfold deafStep
   split<;>first|rfl|(rename_i hx;exact absurd hx (hy _))
  rw[List.foldl_cons,e1];exact ih t (fun op hop=>hu op (by simp at hop ⊢;exact .inr hop))
theorem heard_new {t u:Trace}{op:MemOp}(hu:∀ x∈u,∀ mk,x.act ≠ .mark mk) (i:Nat) (hi:t.size≤i) (h:(t++u)[i]?=some op) (hd:Deaf t op.g=0):(t++u).heard i:=by
 refine⟨op.g,g?_of h,?_⟩
 have key:∀ k,(t++u).deaf op.g (t.size+k)=Deaf t op.g:=by
  intro k
  induction k with
  | zero=>exact deaf_old (Nat.le_refl _)
  | succ k ih =>
   rw[show t.size+(k+1)=(t.size+k)+1 by omega,Trace.deaf]
   split
   ·rename_i hh heq
    rcases getElem?_append_cases heq with ⟨hlt,_⟩|⟨_,hm⟩
    ·omega
    ·exact absurd rfl (hu _ hm _)
   ·rename_i hh heq
    rcases getElem?_append_cases heq with ⟨hlt,_⟩|⟨_,hm⟩
    ·omega
    ·exact absurd rfl (hu _ hm _)
   ·exact ih
 have:=key (i-t.size);rw[show t.size+(i-t.size)=i by omega]at this;rw[this,hd]
theorem BF.fork (h:BF Safe K A W t) (hN:∀ j d,A j=some d→d.N≤K) {k:Nat}(hk:0<k) (hfree:A k=none) (hdk:Deaf t k=0) (d:Wk) {x y:MemOp}(hx:x.g=0) (hxa:x.act=.go k) (hy:y.g=k) (hya:y.act=.start) :
  BF Safe K (fun j=>if j=k then some d else A j) W (t++#[x,y]):=by
 have hu:∀ op∈(#[x,y]:Trace),op.act.touch?=none:=fun op hop=>by
  simp at hop;rcases hop with rfl|rfl<;>simp[hxa,hya,MemAct.touch?]
 have hm:∀ op∈(#[x,y]:Trace),∀ mk,op.act ≠ .mark mk:=fun op hop mk=>by
  simp at hop;rcases hop with rfl|rfl<;>simp[hxa,hya]
 have h':=h.mute hu (by rw[Ls _ _ _ hm];exact h.hears);have h1:(t++#[x,y])[t.size]?=some x:=by rw[Array.getElem?_append_right (Nat.le_refl _)];simp
 have h2:(t++#[x,y])[t.size+1]?=some y:=by rw[Array.getElem?_append_right (Nat.le_succ _)];simp
 have e2:HappensBefore (t++#[x,y]) t.size (t.size+1):=.single (.inr ⟨.spawn (child:=k) (by simp[act?_of h1,hxa]) (by simp[act?_of h2,hya]) (by rw[g?_of h2,hy]),
  heard_new hm _ (Nat.le_refl _) h1 (by rw[hx];exact h.hears),heard_new hm _ (Nat.le_succ _) h2 (by rw[hy];exact hdk)⟩)
 refine⟨h'.clean,fun i a ha hmm=>?_,fun j dd hj i a b ha hw hbl=>?_,h'.hears⟩
 ·rcases h'.known i a ha hmm with hkn|⟨k1,j,dd,b,k2,k3⟩
  ·exact .inl hkn
  ·have:j≠k:=fun e=>by subst e;rw[hfree]at k2;cases k2
   exact .inr ⟨k1,j,dd,b,by simp[this,k2],k3⟩
 ·by_cases hjk:j=k
  ·subst hjk;rcases Eb ha with ⟨hi,ha',hg⟩|⟨_,op,hop,_,hxx⟩
   ·have hmem:a.loc.isMemory=true:=by cases hl:a.loc<;>rw[hl]at hbl<;>first|rfl|cases hbl
    rcases h.known i a ha' hmem with hkn|⟨k1,_⟩
    ·exact .inl ⟨_,y,h2,hy,.inr ((hkn.hb_new (u:=#[x,y]) (Nat.le_refl _) h1 hx).trans e2)⟩
    ·rw[hw]at k1;cases k1
   ·rw[hu op hop]at hxx;cases hxx
  ·simp only[hjk,if_false]at hj;exact h'.wrote j dd hj i a b ha hw hbl
theorem BF.hand (h:BF Safe K A W t) {j:Nat}(hj:j≠0) (hdj:Deaf t j=0) {u:Trace}{ps pr s c:Nat}{x y:MemOp}(hu:∀ op∈u,op.act.touch?=none) (hm:∀ op∈u,∀ mk,op.act ≠ .mark mk)
  (hs:u[ps]?=some x) (hr:u[pr]?=some y) (hx:x.g=j) (hxa:x.act=.send c s) (hy:y.g=0) (hya:y.act=.recvDone c s) :
  BF Safe K (fun i=>if i=j then none else A i) W (t++u):=by
 have h':=h.mute hu (by rw[Ls _ _ _ hm];exact h.hears);have h1:(t++u)[t.size+ps]?=some x:=by rw[Array.getElem?_append_right (Nat.le_add_right _ _)];simpa using hs
 have h2:(t++u)[t.size+pr]?=some y:=by rw[Array.getElem?_append_right (Nat.le_add_right _ _)];simpa using hr
 have e2:HappensBefore (t++u) (t.size+ps) (t.size+pr):=.single (.inr ⟨.handOver (c:=c) (k:=s) (by simp[act?_of h1,hxa]) (by simp[act?_of h2,hya]),
  heard_new hm _ (Nat.le_add_right _ _) h1 (by rw[hx];exact hdj),heard_new hm _ (Nat.le_add_right _ _) h2 (by rw[hy];exact h.hears)⟩)
 refine⟨h'.clean,fun i a ha hmm=>?_,fun k dd hk i a b ha hw hbl=>?_,h'.hears⟩
 ·rcases Eb ha with ⟨hi,ha',hg⟩|⟨_,op,hop,_,hxx⟩
  ·rcases h.known i a ha' hmm with hkn|⟨k1,k,dd,b,k2,k3,k4⟩
   ·exact .inl (hkn.app u)
   ·by_cases hkj:k=j
    ·subst hkj;obtain⟨op,hop,hg'⟩:=Option.map_eq_some_iff.1 k3;have hop':(t++u)[i]?=some op:=by rw[getElem?_append_old hi];exact hop
     exact .inl ⟨_,y,h2,hy,.inr ((hb_po (by omega) hop' h1 (by rw[hg',hx])).trans e2)⟩
    ·exact .inr ⟨k1,k,dd,b,by simp[hkj,k2],by rw[hg];exact k3,k4⟩
  ·rw[hu op hop]at hxx;cases hxx
 ·by_cases hkj:k=j
  ·simp[hkj]at hk
  ·simp only[hkj,if_false]at hk;exact h'.wrote k dd hk i a b ha hw hbl
theorem BF.start {B:Nat}(h:Past (fun _=>False) B t):BF Safe K (fun _=>none) W t :=
 ⟨h.clean,fun i a ha hm=>(h.known i a ha hm).imp id fun x=>x.1.elim,fun j d hj=>(by cases hj),h.hears⟩
theorem Zk:∀ t:Trace,∃ B,∀ op∈t,op.act.low B:=by
 intro t;obtain⟨l⟩:=t
 induction l with
 | nil=>exact⟨0,fun op hop=>by simp at hop⟩
 | cons x l ih =>
  obtain⟨B,hB⟩:=ih
  have low1:∃ B,x.act.low B:=by
   cases x.act with
   | access e =>
    obtain⟨l,wr,sy⟩:=e
    cases l with
    | cell a=>exact⟨a.block+1,Nat.lt_succ_self _⟩
    | obj r=>exact⟨r+1,Nat.lt_succ_self _⟩
    | _=>exact⟨0,trivial⟩
   | mark m=>cases m with
    | acquire a=>exact⟨a.block+1,Nat.lt_succ_self _⟩
    | release a=>exact⟨a.block+1,Nat.lt_succ_self _⟩
    | releaseMerge a=>exact⟨a.block+1,Nat.lt_succ_self _⟩
    | read a=>exact⟨a.block+1,Nat.lt_succ_self _⟩
    | write a=>exact⟨a.block+1,Nat.lt_succ_self _⟩
    | _=>exact⟨0,trivial⟩
   | go _=>exact⟨0,trivial⟩
   | start=>exact⟨0,trivial⟩
   | send c _=>exact⟨c+1,Nat.lt_succ_self _⟩
   | sendDone c _=>exact⟨c+1,Nat.lt_succ_self _⟩
   | recv c _ _=>exact⟨c+1,Nat.lt_succ_self _⟩
   | recvDone c _=>exact⟨c+1,Nat.lt_succ_self _⟩
   | close c=>exact⟨c+1,Nat.lt_succ_self _⟩
   | recvClosed c=>exact⟨c+1,Nat.lt_succ_self _⟩
  obtain⟨B',hB'⟩:=low1;refine⟨max B B',fun op hop=>?_⟩;simp at hop;rcases hop with rfl|hop
  ·exact MemAct.low_mono (Nat.le_max_right _ _) hB'
  ·exact MemAct.low_mono (Nat.le_max_left _ _) (hB op (by simpa using hop))
theorem BF.past (h:BF Safe K A W t) (hA:∀ j,A j=none):∃ B,Past (fun _=>False) B t:=by
 have hk:∀ i a,touchAt t i=some a→a.loc.isMemory=true→Knows t 0 i:=fun i a ha hm=>(h.known i a ha hm).elim id fun ⟨_,j,d,_,k2,_⟩=>by rw[hA j]at k2;cases k2
 obtain⟨B,hB⟩:=Zk t;refine⟨B,h.clean,fun i a ha hm => .inl (hk i a ha hm),fun i g hg hne hc=>?_,h.hears,hB⟩;obtain⟨x,hx,hxm,_⟩:=hc;obtain⟨q,z,h1,h2,h3⟩:=hk i x hx hxm;rcases h3 with rfl|h3
 ·rw[g?_of h1,h2]at hg;cases hg;exact absurd rfl hne
 ·exact⟨q,by rw[g?_of h1,h2],h3⟩
end
end
end Go.Proofs.Ytgdobbcjkiapkaa
