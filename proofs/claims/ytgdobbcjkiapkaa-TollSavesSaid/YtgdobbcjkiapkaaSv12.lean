import Derived.Test.YtgdobbcjkiapkaaSv11
namespace Go.Proofs.Ytgdobbcjkiapkaa
set_option maxRecDepth 100000
set_option maxHeartbeats 4000000
set_option linter.unusedSimpArgs false
set_option linter.unusedVariables false
section
open Go Go.Conc
open Go.ConcN (sumTo upd sumTo_upd upd_ne upd_same)
section
variable (P:Program) (Safe:Obj→Prop) (c:Nat)
def RU (N:Nat) (v:Value) (g:Goroutine) (w:World):Prop :=
 g.status=.running∧∃ g₂ z es k,stepG P false g w=.comm g₂ #[scase c v z] true .send w es∧Be Safe c N w w es∧QuitsD P k 0 (Conc.served g₂ undef)
def UG (v:Value) (x:Goroutine):Prop:=∃ g₂ z k,x=parked g₂ #[scase c v z] .send∧QuitsD P k 0 (Conc.served g₂ undef)
def Fp:Option Wk→Nat→Nat→Goroutine→World→Prop
 | none,q,δ,x,_=>QuitsD P q δ x
 | some d,q,δ,x,W=>δ=0∧((DR x∧∃ m,q=m+1∧Goes P false (Az Safe c d.N) (Be Safe c d.N) (RU P Safe c d.N d.v) m x W)∨(q=0∧UG P c d.v x))
structure IL (M:Machine) (n:Nat) (gs:Array Goroutine) (W:World) (sl:Option (Nat×Nat)) (t:Trace) (q:Nat→Nat) (A:Nat→Option Wk) (K:Nat) (g:Goroutine):Prop where
 run:runNT P n M #[]=(.next (crowd gs W sl),t)
 zero:gs[0]?=some g
 tape:W.tape=M.world.tape
 plain:DR g
 chan:∃ s tm,W.heap[c]?=some (.chan 0 #[] false s s tm)
 low:c<K
 size:K≤W.heap.size
 chanU:∀ s r tm,¬ Safe (.chan 0 #[] false s r tm)
 trace:BF Safe K A W t
 act0:A 0=none
 others:∀ j x,0<j→gs[j]?=some x→Fp P Safe c (A j) (q j) (Deaf t j) x W
 above:∀ j,gs.size≤j→Deaf t j=0∧A j=none
 below:∀ j d,A j=some d→d.N≤K
end
section
variable {P:Program}{Safe:Obj→Prop}{c:Nat}{M:Machine}{n:Nat}{gs:Array Goroutine}{W W':World}{sl sl':Option (Nat×Nat)}{t:Trace}{q:Nat→Nat}{A:Nat→Option Wk}{K:Nat}{g:Goroutine}
theorem Fp.rely {o:Option Wk}{k δ:Nat}{x:Goroutine}(h:Fp P Safe c o k δ x W) (hr:∀ d,o=some d→Az Safe c d.N W W'):Fp P Safe c o k δ x W':=by
 cases o with
 | none=>exact h
 | some d=>exact⟨h.1,h.2.imp (fun ⟨hp,m,hm,hg⟩=>⟨hp,m,hm,hg.rely Ah.trans (hr d rfl)⟩) id⟩
theorem Dw {d:Wk}{m:Nat}{x:Goroutine}(h:Goes P false (Az Safe c d.N) (Be Safe c d.N) (RU P Safe c d.N d.v) m x W):x.status=.running:=by
 cases m with
 | zero=>exact(h W (Az.refl W)).1
 | succ m=>exact h.elim (fun x=>(x W (Az.refl W)).1) (·.1)
theorem Fp.status {o:Option Wk}{k δ:Nat}{x:Goroutine}(h:Fp P Safe c o k δ x W):x.status=.running∨x.status=.blocked∨x.status=.finished:=by
 cases o with
 | none=>exact(QuitsD.status h).elim .inl (fun x => .inr (.inr x))
 | some d =>
  rcases h.2 with ⟨_,m,_,hg⟩|⟨_,g₂,z,k',rfl,_⟩
  ·exact .inl (Dw hg)
  ·exact .inr (.inl rfl)
theorem Fp.woken {o:Option Wk}{k δ:Nat}{x a a':Goroutine}{w':World}(h:Fp P Safe c o k δ x W) {s r:Nat}{tm:Bool}(hc:w'.heap[c]?=some (.chan 0 #[] false s r tm)):Go.Conc.woken P a a' w' x=x:=by
 cases o with
 | none=>exact woken_quitsD h
 | some d =>
  rcases h.2 with ⟨_,m,_,hg⟩|⟨_,g₂,z,k',rfl,_⟩
  ·exact woken_run (Dw hg)
  ·exact woken_send_open a a' hc
theorem IL.awake (h:IL P Safe c M n gs W sl t q A K g) (hg:g.status=.running∨g.status=.blocked):∀ x∈gs,Conc.awake x:=by
 intro x hx;obtain⟨i,hi,rfl⟩:=Array.mem_iff_getElem.1 hx;rcases Nat.eq_zero_or_pos i with rfl|hpos
 ·have:gs[0]=g:=by have:=h.zero;simpa[Array.getElem?_eq_getElem hi] using this
  rw[this];exact awake_of (hg.imp id .inl)
 ·exact awake_of (h.others i _ hpos (Array.getElem?_eq_getElem hi)).status
theorem IL.next {m':Machine}{ops:Array MemOp}(h:IL P Safe c M n gs W sl t q A K g) (hs:stepT P (crowd gs W sl)=(.next m',ops)):runNT P (n+1) M #[]=(.next m',t++ops):=LD h.run hs
theorem BF.at (h:BF Safe K A W t) (d:Nat):BF Safe K A (W.at d) t:=h.world (Nat.le_refl _) (fun _ _ x=>x) (fun _ _ x=>x)
theorem Az.at {N:Nat}(W:World) (d:Nat):Az Safe c N W (W.at d):=⟨rfl,rfl,rfl,Nat.le_refl _,fun _ _ _=>rfl⟩
theorem Grown.at (W:World) (d:Nat):Grown c W (W.at d):=⟨rfl,rfl,rfl,Nat.le_refl _,fun _ _ _=>rfl⟩
theorem NP {s r:Nat}{tm:Bool}(h:W.heap[c]?=some (.chan 0 #[] false s r tm)) (e:W'.heap[c]?=W.heap[c]?):W'.heap[c]?=some (.chan 0 #[] false s r tm):=e.trans h
theorem lt_of_some {b:Nat}{o:Obj}(h:W.heap[b]?=some o):b<W.heap.size:=by
 rcases Nat.lt_or_ge b W.heap.size with h'|h'
 ·exact h'
 ·rw[Array.getElem?_eq_none h']at h;cases h
theorem JP {i:Nat}{k:Nat}{g':Goroutine}{A':Nat→Option Wk}{ops:Array MemOp}{a a':Goroutine}(h:IL P Safe c M n gs W sl t q A K g) (hlt:i<gs.size) (hA:∀ j,j≠i→A' j=A j)
  (hops:∀ op∈ops,op.g=i) {s r:Nat}{tm:Bool}(hc:W'.heap[c]?=some (.chan 0 #[] false s r tm)) (hr:∀ j d,j≠i→A j=some d→Az Safe c d.N W W')
  (hi:0<i→Fp P Safe c (A' i) k (Deaf (t++ops) i) g' W') :
  (∀ j x,0<j→((gs.map (woken P a a' W')).setIfInBounds i g')[j]?=some x→Fp P Safe c (A' j) (upd q i k j) (Deaf (t++ops) j) x W') ∧
   (∀ j,((gs.map (woken P a a' W')).setIfInBounds i g').size≤j→Deaf (t++ops) j=0∧A' j=none):=by
 refine⟨fun j x hj hx=>?_,fun j hj=>?_⟩
 ·by_cases hji:i=j
  ·subst hji;rw[Array.getElem?_setIfInBounds_self_of_lt (by simpa using hlt)]at hx;obtain rfl:=Option.some.inj hx;rw[upd_same];exact hi hj
  ·rw[Array.getElem?_setIfInBounds_ne hji,Array.getElem?_map]at hx;obtain⟨z,hz,rfl⟩:=Option.map_eq_some_iff.1 hx;have hz':=h.others j z hj hz;rw[hz'.woken hc,upd_ne q k (Ne.symm hji),Deaf_other t hji _ hops,hA j (Ne.symm hji)];exact hz'.rely fun d hd=>hr j d (Ne.symm hji) hd
 ·simp at hj;have hne:i≠j:=by omega
  rw[Deaf_other t hne _ hops,hA j (Ne.symm hne)];exact h.above j hj
theorem IL.own (hP:EK P) (h:IL P Safe c M n gs W sl t q A K g) {d:Nat}(hm:move P (crowd gs W sl)=.goroutine (crowd gs (W.at d) sl') 0) {g':Goroutine}{w':World}{es:Array Event}
  (hs:stepG P true g (W.at d)=.go g' w' es) (hD:Di Safe K (W.at d) w' es):∃ gs' t',IL P Safe c M (n+1) gs' w' sl' t' q A K g'∧gs'.size=gs.size:=by
 have hok:=(Bg hP h.plain true).ok (W.at d);have hdr:=(Bg hP h.plain true).drew (W.at d);rw[hs]at hok hdr;have hrunT:=runT_crowd_go (P:=P) (sl:=sl') (i:=0) h.zero (show stepG P (0 == 0) g (W.at d)=_ from hs);have hst:stepT P (crowd gs W sl)=_:=(Bi hm).trans hrunT;have hlt:0<gs.size:=(Array.getElem?_eq_some_iff.1 h.zero).1;obtain⟨s,tm,hc⟩:=h.chan;have hc':w'.heap[c]?=some (.chan 0 #[] false s s tm):=NP (W:=W) hc (hD.block c (lt_of_some (W:=W) hc) (.inl h.low))
 obtain⟨h1,h2⟩:=JP (i:=0) (k:=q 0) (g':=g') (A':=A) (a:=g) (a':=g') (W':=w') h hlt (fun _ _=>rfl) (ops:=MemOp.ofEvents 0 g.frame.fn g.frame.place es)
  (fun op hop=>by obtain⟨e,_,rfl⟩:=Conc.mem_ofEvents hop;rfl) hc' (fun j dd _ hj=>(Az.at W d).trans (hD.rely (h.below j dd hj))) (fun x=>absurd x (by omega))
 have hq:upd q 0 (q 0)=q:=by funext j;by_cases hj:j=0<;>simp[upd,hj]
 rw[hq]at h1;exact⟨_,_,⟨h.next hst,by simp[hlt],hdr.tape.trans h.tape,hok.1,⟨s,tm,hc'⟩,h.low,Nat.le_trans h.size hD.size,h.chanU,(h.trace.at d).own h.below hD hok.2.2 _ _,h.act0,h1,h2,h.below⟩,by simp⟩
theorem IL.spawn (hP:EK P) (h:IL P Safe c M n gs W sl t q A K g) {d:Nat}(hm:move P (crowd gs W sl)=.goroutine (crowd gs (W.at d) sl') 0) {g' child:Goroutine}{w':World}{es:Array Event}{v:Value}{m:Nat}
  (hs:stepG P true g (W.at d)=.spawn g' child w' es) (hD:Di Safe K (W.at d) w' es) (hcp:DR child)
  (hch:Goes P false (Az Safe c w'.heap.size) (Be Safe c w'.heap.size) (RU P Safe c w'.heap.size v) m child w') :
  ∃ gs' t' q',IL P Safe c M (n+1) gs' w' sl' t' q' (fun j=>if j=gs.size then some ⟨w'.heap.size,v⟩ else A j) w'.heap.size g'∧gs'.size=gs.size+1:=by
 have hok:=(Bg hP h.plain true).ok (W.at d);have hdr:=(Bg hP h.plain true).drew (W.at d);rw[hs]at hok hdr;have hrunT:=runT_crowd_spawn (P:=P) (sl:=sl') (i:=0) h.zero (show stepG P (0 == 0) g (W.at d)=_ from hs);have hst:stepT P (crowd gs W sl)=_:=(Bi hm).trans hrunT;have hlt:0<gs.size:=(Array.getElem?_eq_some_iff.1 h.zero).1;obtain⟨s,tm,hc⟩:=h.chan;have hc':w'.heap[c]?=some (.chan 0 #[] false s s tm):=NP (W:=W) hc (hD.block c (lt_of_some (W:=W) hc) (.inl h.low));have hKs:K≤w'.heap.size:=Nat.le_trans h.size hD.size;have hrun:=h.next hst;generalize hx:({ g:=0,fn:=g.frame.fn,pos:=g.frame.place,act:=.go gs.size }:MemOp)=x at hrun;generalize hy:({ g:=gs.size,fn:=child.frame.fn,pos:=g.frame.place,act:=.start }:MemOp)=y at hrun
 have et:t++((MemOp.ofEvents 0 g.frame.fn g.frame.place es).push x).push y=(t++MemOp.ofEvents 0 g.frame.fn g.frame.place es)++#[x,y]:=by
  rw[Array.push_eq_append,Array.push_eq_append,Array.append_assoc,Array.append_assoc];rfl
 rw[et]at hrun;have hown:∀ op∈MemOp.ofEvents 0 g.frame.fn g.frame.place es,op.g=0:=fun op hop=>by obtain⟨e,_,rfl⟩:=Conc.mem_ofEvents hop;rfl
 have hmk:∀ op∈(#[x,y]:Trace),∀ mk,op.act ≠ .mark mk:=fun op hop mk=>by
  simp at hop;rcases hop with rfl|rfl
  ·rw[← hx];simp
  ·rw[← hy];simp
 have hdeaf:∀ j,0<j→Deaf ((t++MemOp.ofEvents 0 g.frame.fn g.frame.place es)++#[x,y]) j=Deaf t j:=fun j hj=>by
  rw[Ls _ _ _ hmk,Deaf_other t (by omega) _ hown]
 have hab:=h.above gs.size (Nat.le_refl _);have h1:=(h.trace.at d).own h.below hD hok.2.2 g.frame.fn g.frame.place;have h2:=(h1.more hKs).fork (fun j dd hj=>Nat.le_trans (h.below j dd hj) hKs) hlt hab.2 (by rw[Deaf_other t (by omega) _ hown];exact hab.1) ⟨w'.heap.size,v⟩ (x:=x) (y:=y) (by rw[← hx]) (by rw[← hx]) (by rw[← hy]) (by rw[← hy]);refine⟨_,_,upd q gs.size (m+1),⟨hrun,?_,hdr.tape.trans h.tape,hok.1,⟨s,tm,hc'⟩,Nat.lt_of_lt_of_le h.low hKs,Nat.le_refl _,h.chanU,h2,?_,fun j x hj hx=>?_,fun j hj=>?_,fun j dd hj=>?_⟩,by simp⟩
 ·rw[Array.getElem?_push];simp[hlt];intro e;omega
 ·have:(0:Nat)≠gs.size:=by omega
  simp[this,h.act0]
 ·rw[Array.getElem?_push]at hx;simp only[Array.size_setIfInBounds]at hx;rw[hdeaf j hj]
  by_cases hjs:j=gs.size
  ·subst hjs;simp only[if_true,Option.some.injEq]at hx;subst hx;simp only[if_true];exact⟨hab.1,.inl ⟨hcp,m,upd_same _ _ _,hch⟩⟩
  ·simp only[hjs,if_false]at hx ⊢;rw[Array.getElem?_setIfInBounds_ne (by omega)]at hx;rw[upd_ne q (m+1) hjs];exact(h.others j x hj hx).rely fun dd hd=>(Az.at W d).trans (hD.rely (h.below j dd hd))
 ·simp at hj;rw[hdeaf j (by omega)];have:j≠gs.size:=by omega
  simp only[this,if_false];exact h.above j (by omega)
 ·by_cases hjs:j=gs.size
  ·simp only[hjs,if_true,Option.some.injEq]at hj;subst hj;exact Nat.le_refl _
  ·simp only[hjs,if_false]at hj;exact Nat.le_trans (h.below j dd hj) hKs
theorem IL.meet (h:IL P Safe c M n gs W sl t q A K g) {j:Nat}{dd:Wk}(hA:A j=some dd) {t1 u:Trace}{d s:Nat}{tm:Bool}{gs':Array Goroutine}{g' x':Goroutine}{k ps pr:Nat}{x y:MemOp}
  (hj:0<j) (hlt:j<gs.size) (hc:W.heap[c]?=some (.chan 0 #[] false s s tm)) (hdj:Deaf t j=0) (ht1:BF Safe K A (W.at d) t1) (hd1:∀ i,0<i→Deaf t1 i=Deaf t i)
  (hgs:∀ i,0<i→i≠j→gs'[i]?=gs[i]?) (hsz:gs'.size=gs.size) (h0:gs'[0]?=some g') (hj':gs'[j]?=some x') (hq:QuitsD P k 0 x') (hg':DR g')
  (hrun:runNT P (n+1) M #[]=(.next (crowd gs' ((W.at d).setChan c 0 #[] false (s+1) (s+1) tm) sl'),t1++u))
  (hu:∀ op∈u,op.act.touch?=none) (hm:∀ op∈u,∀ mk,op.act ≠ .mark mk) (hps:u[ps]?=some x) (hpr:u[pr]?=some y) (hx:x.g=j) (hxa:x.act=.send c s) (hy:y.g=0) (hya:y.act=.recvDone c s) :
  ∃ q',IL P Safe c M (n+1) gs' ((W.at d).setChan c 0 #[] false (s+1) (s+1) tm) sl' (t1++u) q' (fun i=>if i=j then none else A i) K g':=by
 have hcl:=lt_of_some (W:=W) hc
 have hget:∀ b,b≠c→((W.at d).setChan c 0 #[] false (s+1) (s+1) tm).heap[b]?=W.heap[b]?:=fun b hb=>by
  simp[World.setChan,World.at,Ne.symm hb]
 have hself:((W.at d).setChan c 0 #[] false (s+1) (s+1) tm).heap[c]?=some (.chan 0 #[] false (s+1) (s+1) tm):=by
  simp[World.setChan,World.at,hcl]
 have hns:∀ W₁:World,∀ s' r' tm',W₁.heap[c]?=some (.chan 0 #[] false s' r' tm')→¬ DU Safe W₁ c:=fun W₁ s' r' tm' e ⟨o,ho,hs⟩=>by
  rw[e]at ho;cases ho;exact h.chanU _ _ _ hs
 have hsize:((W.at d).setChan c 0 #[] false (s+1) (s+1) tm).heap.size=W.heap.size:=by simp[World.setChan,World.at]
 have hrel:∀ N,Az Safe c N W ((W.at d).setChan c 0 #[] false (s+1) (s+1) tm):=fun N=>⟨rfl,rfl,rfl,by rw[hsize];exact Nat.le_refl _,fun b hb hf=>by
  have:b≠c:=fun e=>by
   subst e;rcases hf with hf|hf
   ·exact hf.2 rfl
   ·exact hns W _ _ _ hc hf
  exact hget b this⟩
 have hT:=((ht1.world (W':=(W.at d).setChan c 0 #[] false (s+1) (s+1) tm) (by rw[hsize];exact Nat.le_refl _) (fun b _ x=>x.imp id fun hs=>by
   have:b≠c:=fun e=>by subst e;exact hns (W.at d) _ _ _ hc hs
   exact hs.same (by rw[hget b this];rfl)) (fun b _ hs=>by
   have:b≠c:=fun e=>by subst e;exact hns _ _ _ _ hself hs
   exact hs.same (by rw[hget b this];rfl))).hand (j:=j) (by omega) (by rw[hd1 j hj];exact hdj) hu hm hps hpr hx hxa hy hya)
 have hdeaf:∀ i,0<i→Deaf (t1++u) i=Deaf t i:=fun i hi=>by rw[Ls _ _ _ hm,hd1 i hi]
 refine⟨upd q j k,hrun,h0,by rw[← h.tape];rfl,hg',⟨s+1,tm,hself⟩,h.low,by rw[hsize];exact h.size,h.chanU,hT,?_,fun i z hi hz=>?_,fun i hi=>?_,fun i di hdi=>?_⟩
 ·have:(0:Nat)≠j:=by omega
  simp[this,h.act0]
 ·rw[hdeaf i hi]
  by_cases hij:i=j
  ·subst hij;rw[hj']at hz;obtain rfl:=Option.some.inj hz;rw[upd_same,hdj];simp only[if_true];exact hq
  ·rw[hgs i hi hij]at hz;rw[upd_ne q k hij];simp only[hij,if_false];exact(h.others i z hi hz).rely fun di _=>hrel di.N
 ·rw[hsz]at hi;have:i≠j:=by omega
  rw[hdeaf i (by omega)];simp only[this,if_false];exact h.above i hi
 ·by_cases hij:i=j
  ·simp[hij]at hdi
  ·simp only[hij,if_false]at hdi;exact h.below i di hdi
theorem Fp.Aad {o:Option Wk}{k δ:Nat}{x:Goroutine}(h:Fp P Safe c o k δ x W) (r:Nat):offersAt x r false=[]:=by
 cases o with
 | none=>exact offersAt_of_not_blocked (by rcases QuitsD.status h with e|e<;>rw[e]<;>simp) _ _
 | some d =>
  rcases h.2 with ⟨_,m,_,hg⟩|⟨_,g₂,z,k',rfl,_⟩
  ·exact offersAt_of_not_blocked (by rw[Dw hg];simp) _ _
  ·exact offersAt_parked_send' _ _ _ _ _ _
theorem IL.work (hP:EK P) (h:IL P Safe c M n gs W sl t q A K g) (hg:g.status=.running∨∃ g₂ z f,g=parked g₂ #[rcase c z] (.recv f)) {i d:Nat}{x:Goroutine}
  (hm:move P (crowd gs W sl)=.goroutine (crowd gs (W.at d) sl') i) (hi:gs[i]?=some x) (hx:x.status=.running) (hpos:0<i) :
  (∃ gs' W' t' q',IL P Safe c M (n+1) gs' W' sl' t' q' A K g∧Grown c W W'∧gs'.size=gs.size∧sumTo gs'.size q'<sumTo gs.size q∧(g.status=.blocked→(∀ j dd,A j=some dd→0<q j)→∀ j dd,A j=some dd→0<q' j)) ∨
  (∃ g₂ z f gs' W' t' q' dd,g=parked g₂ #[rcase c z] (.recv f)∧A i=some dd∧IL P Safe c M (n+1) gs' W' sl' t' q' (fun j=>if j=i then none else A j) K (Conc.served g₂ (recvd f dd.v true))∧Grown c W W'∧gs'.size=gs.size):=by
 have hlt:i<gs.size:=(Array.getElem?_eq_some_iff.1 hi).1;have hlt0:0<gs.size:=by omega
 have hi0:(i == 0)=false:=by simp;omega
 have hne0:i≠0:=by omega
 obtain⟨s,tm,hc⟩:=h.chan
 have hstable:∀ (a a':Goroutine) (w':World) (s r:Nat) (tm:Bool),w'.heap[c]?=some (.chan 0 #[] false s r tm)→woken P a a' w' g=g:=fun a a' w' s r tm hc=>by
  rcases hg with hg|⟨g₂,z,f,rfl⟩
  ·exact woken_run hg
  ·exact woken_recv_open a a' hc
 have hown:∀ es,∀ op∈MemOp.ofEvents i x.frame.fn x.frame.place es,op.g=i:=fun es op hop=>by obtain⟨e,_,rfl⟩:=Conc.mem_ofEvents hop;rfl
 have hwk:=h.others i x hpos hi
 have hsum:∀ k,k<q i→sumTo gs.size (upd q i k)<sumTo gs.size q:=fun k hk=>by
  have h1:sumTo gs.size (upd q i k)+q i=sumTo gs.size q+k:=sumTo_upd q k id hlt
  omega
 cases hA:A i with
 | none =>
  rw[hA]at hwk
  cases hqi:q i with
  | zero=>rw[hqi]at hwk;rw[hwk.1]at hx;cases hx
  | succ k =>
   rw[hqi]at hwk;rcases hwk with ⟨hf,_⟩|⟨_,g',es,hmu,hstp,hq'⟩
   ·rw[hf]at hx;cases hx
   have hrunT:=runT_crowd_go (P:=P) (w:=W.at d) (sl:=sl') (i:=i) hi (by rw[hi0];exact hstp (W.at d));have hst:stepT P (crowd gs W sl)=_:=(Bi hm).trans hrunT
   obtain⟨h1,h2⟩:=JP (W':=W.at d) (i:=i) (k:=k) (g':=g') (A':=A) (a:=x) (a':=g') h hlt (fun _ _=>rfl) (ops:=MemOp.ofEvents i x.frame.fn x.frame.place es) (hown es) hc
    (fun j dd _ _=>Az.at W d) (fun _=>by rw[hA,Deaf_own];exact hq')
   refine .inl ⟨_,_,_,upd q i k,⟨h.next hst,?_,h.tape,h.plain,⟨s,tm,hc⟩,h.low,h.size,h.chanU,(h.trace.at d).mute (fun op hop=>by obtain⟨e,he,rfl⟩:=Conc.mem_ofEvents hop;exact touch_mute (hmu e he)) (by rw[Deaf_other t hne0 _ (hown es)];exact h.trace.hears),h.act0,h1,h2,h.below⟩,Grown.at W d,by simp,?_⟩
   ·rw[Array.getElem?_setIfInBounds_ne hne0,Array.getElem?_map,h.zero];simp[hstable x g' (W.at d) s s tm hc]
   ·refine⟨by simp only[Array.size_setIfInBounds,Array.size_map];exact hsum k (by omega),fun _ hz j dd hj=>?_⟩;have:j≠i:=fun e=>by subst e;rw[hA]at hj;cases hj
    rw[upd_ne q k this];exact hz j dd hj
 | some dd =>
  rw[hA]at hwk;obtain⟨hdf,hwk⟩:=hwk;rcases hwk with ⟨hxp,m,hqm,hgo⟩|⟨_,g₂,z,k',rfl,_⟩
  rotate_left
  ·cases hx
  have hcases:(∀ w₁,Az Safe c dd.N W w₁→RU P Safe c dd.N dd.v x w₁)∨∃ m',m=m'+1∧∀ w₁,Az Safe c dd.N W w₁→(stepG P false x w₁).goes fun g' w' es=>Be Safe c dd.N w₁ w' es∧Goes P false (Az Safe c dd.N) (Be Safe c dd.N) (RU P Safe c dd.N dd.v) m' g' w':=by
   cases m with
   | zero=>exact .inl hgo
   | succ m'=>exact hgo.imp id fun x=>⟨m',rfl,x.2⟩
  have hok:=(Bg hP hxp false).ok (W.at d);have hdr:=(Bg hP hxp false).drew (W.at d);rcases hcases with hstop|⟨m',rfl,hstep⟩
  ·obtain⟨_,g₂,z,es,k,hs,hD,hq⟩:=hstop (W.at d) (Az.at W d);rw[hs]at hok;have ht1:BF Safe K A (W.at d) (t++MemOp.ofEvents i x.frame.fn x.frame.place es):=(h.trace.at d).worker hA (h.below i dd hA) hpos hD _ _;rcases hg with hg|⟨g₃,z',f,rfl⟩
   ·
    have hp:partners (gs.setIfInBounds i ph) c false=[]:=partners_nil fun j y hy=>by
     rcases getElem?_stand gs i j y hy with ⟨_,rfl⟩|⟨_,hy⟩
     ·exact offersAt_ph _ _
     ·rcases Nat.eq_zero_or_pos j with rfl|hj
      ·rw[h.zero]at hy;obtain rfl:=Option.some.inj hy;exact offersAt_of_not_blocked (by rw[hg];simp) _ _
      ·exact(h.others j y hj hy).Aad c
    have hrunT:=crowd_waits (P:=P) (sl:=sl') (i:=i) (w:=W.at d) (shape:=.send) hi (by rw[hi0];exact hs) (fun cc hcc=>by
     simp at hcc;subst hcc;exact ways_send_none (w₁:=W.at d) (buf:=#[]) hc (Nat.le_refl _) hp)
    have hst:stepT P (crowd gs W sl)=_:=(Bi hm).trans hrunT;refine .inl ⟨_,_,_,upd q i 0,⟨h.next hst,?_,h.tape,h.plain,⟨s,tm,hc⟩,h.low,h.size,h.chanU,ht1,h.act0,fun j y hj hy=>?_,fun j hj=>?_,h.below⟩,Grown.at W d,by simp,?_⟩
    ·rw[Array.getElem?_setIfInBounds_ne hne0,h.zero]
    ·by_cases hji:i=j
     ·subst hji;rw[Array.getElem?_setIfInBounds_self_of_lt hlt]at hy;obtain rfl:=Option.some.inj hy;rw[upd_same,hA,Deaf_own,hdf,hok.2.2];exact⟨rfl,.inr ⟨rfl,g₂,z,k,rfl,hq⟩⟩
     ·rw[Array.getElem?_setIfInBounds_ne hji]at hy;rw[upd_ne q 0 (Ne.symm hji),Deaf_other t hji _ (hown es)];exact(h.others j y hj hy).rely fun di _=>Az.at W d
    ·simp at hj;rw[Deaf_other t (by omega) _ (hown es)];exact h.above j hj
    ·exact⟨by simp only[Array.size_setIfInBounds];exact hsum 0 (by omega),fun e=>by rw[hg]at e;cases e⟩
   ·
    have hp:partners (gs.setIfInBounds i ph) c false=[(0,0)]:=by
     rw[partners_one (j:=0) (g:=parked g₃ #[rcase c z'] (.recv f)) (by rw[Array.getElem?_setIfInBounds_ne hne0];exact h.zero) (fun j y hj hy=>by
      rcases getElem?_stand gs i j y hy with ⟨_,rfl⟩|⟨_,hy⟩
      ·exact offersAt_ph _ _
      ·exact(h.others j y (by omega) hy).Aad c),offersAt_parked_recv]
     simp
    have hrunT:=crowd_send_meets (P:=P) (sl:=sl') (i:=i) (w:=W.at d) (shape:=.send) (shj:=.recv f) hi (by rw[hi0];exact hs) (show (W.at d).heap[c]?=some (.chan 0 #[] false s s tm) from hc) (Ne.symm hne0) h.zero hp;rw[finishComm_recv,finishComm_send]at hrunT;have hst:stepT P (crowd gs W sl)=_:=(Bi hm).trans hrunT;have hrun:=h.next hst;rw[← Array.append_assoc]at hrun;have hpl:DR (Conc.served g₃ (recvd f dd.v true)):=⟨BB h.plain.1 _,h.plain.2⟩
    obtain⟨q',hM⟩:=h.meet (j:=i) (dd:=dd) (k:=k) (d:=d) (ps:=0) (pr:=3) (x':=Conc.served g₂ undef) hA hpos hlt hc hdf ht1 (fun j hj=>by
      by_cases hji:j=i
      ·subst hji;rw[Deaf_own,hdf,hok.2.2]
      ·exact Deaf_other t (Ne.symm hji) _ (hown es))
     (fun j hj hji=>by rw[Array.getElem?_setIfInBounds_ne (Ne.symm hji),Array.getElem?_setIfInBounds_ne (by omega)]) (by simp) (by rw[Array.getElem?_setIfInBounds_ne hne0,Array.getElem?_setIfInBounds_self_of_lt hlt0]) (by rw[Array.getElem?_setIfInBounds_self_of_lt (by simpa using hlt)]) hq hpl hrun
     (fun op hop=>by simp at hop;rcases hop with rfl|rfl|rfl|rfl<;>rfl) (fun op hop mk=>by simp at hop;rcases hop with rfl|rfl|rfl|rfl<;>simp) rfl rfl rfl rfl rfl rfl
    refine .inr ⟨g₃,z',f,_,_,_,q',dd,rfl,rfl,hM,⟨rfl,rfl,rfl,by simp[World.setChan,World.at],fun b _ hb=>by simp[World.setChan,World.at,Ne.symm hb]⟩,by simp⟩
  ·obtain⟨g',w',es,hs,hD,hgo'⟩:=goes_elim (hstep (W.at d) (Az.at W d));rw[hs]at hok hdr;have hrunT:=runT_crowd_go (P:=P) (w:=W.at d) (sl:=sl') (i:=i) hi (by rw[hi0];exact hs);have hst:stepT P (crowd gs W sl)=_:=(Bi hm).trans hrunT;have hc':w'.heap[c]?=some (.chan 0 #[] false s s tm):=NP (W:=W) hc (hD.block c (lt_of_some (W:=W) hc))
   obtain⟨h1,h2⟩:=JP (W':=w') (i:=i) (k:=m'+1) (g':=g') (A':=A) (a:=x) (a':=g') h hlt (fun _ _=>rfl) (ops:=MemOp.ofEvents i x.frame.fn x.frame.place es) (hown es) hc'
    (fun j di _ _=>(Az.at W d).trans hD.rely) (fun _=>by rw[hA,Deaf_own,hdf,hok.2.2];exact⟨rfl,.inl ⟨hok.1,m',rfl,hgo'⟩⟩)
   refine .inl ⟨_,_,_,upd q i (m'+1),⟨h.next hst,?_,hdr.tape.trans h.tape,h.plain,⟨s,tm,hc'⟩,h.low,Nat.le_trans h.size hD.size,h.chanU,(h.trace.at d).worker hA (h.below i dd hA) hpos hD _ _,h.act0,h1,h2,h.below⟩,(Grown.at W d).trans hD.grown,by simp,?_⟩
   ·rw[Array.getElem?_setIfInBounds_ne hne0,Array.getElem?_map,h.zero];simp[hstable x g' w' s s tm hc']
   ·refine⟨by simp only[Array.size_setIfInBounds,Array.size_map];exact hsum _ (by omega),fun _ hz j di hj=>?_⟩
    by_cases hji:j=i
    ·subst hji;rw[upd_same];omega
    ·rw[upd_ne q _ hji];exact hz j di hj
theorem IL.pick (hP:EK P) (hg:g.status=.running):∀ (B n:Nat) (gs:Array Goroutine) (W:World) (sl:Option (Nat×Nat)) (t:Trace) (q:Nat→Nat),sumTo gs.size q≤B→IL P Safe c M n gs W sl t q A K g →
  ∃ n' gs' W' sl' t' q' d sl'',n≤n'∧IL P Safe c M n' gs' W' sl' t' q' A K g∧Grown c W W'∧gs'.size=gs.size∧move P (crowd gs' W' sl')=.goroutine (crowd gs' (W'.at d) sl'') 0:=by
 intro B
 induction B with
 | zero =>
  intro n gs W sl t q hB h;obtain⟨i,x,d,sl',hi,hx,hm⟩:=Hy (P:=P) (W:=W) (sl:=sl) (h.awake (.inl hg)) ⟨0,g,h.zero,hg⟩;rcases Nat.eq_zero_or_pos i with rfl|hpos
  ·exact⟨n,gs,W,sl,t,q,d,sl',Nat.le_refl _,h,Grown.refl _,rfl,hm⟩
  ·rcases h.work hP (.inl hg) hm hi hx hpos with ⟨gs',W',t',q',_,_,_,hlt,_⟩|⟨g₂,z,f,_,_,_,_,_,rfl,_⟩
   ·omega
   ·cases hg
 | succ B ih =>
  intro n gs W sl t q hB h;obtain⟨i,x,d,sl',hi,hx,hm⟩:=Hy (P:=P) (W:=W) (sl:=sl) (h.awake (.inl hg)) ⟨0,g,h.zero,hg⟩;rcases Nat.eq_zero_or_pos i with rfl|hpos
  ·exact⟨n,gs,W,sl,t,q,d,sl',Nat.le_refl _,h,Grown.refl _,rfl,hm⟩
  ·rcases h.work hP (.inl hg) hm hi hx hpos with ⟨gs',W',t',q',h',hgr,hsz,hlt,_⟩|⟨g₂,z,f,_,_,_,_,_,rfl,_⟩
   ·obtain⟨n',gs'',W'',sl'',t'',q'',d',sl3,hn,hb,hgr',hsz',hm'⟩:=ih (n+1) gs' W' sl' t' q' (by omega) h';exact⟨n',gs'',W'',sl'',t'',q'',d',sl3,by omega,hb,hgr.trans hgr',hsz'.trans hsz,hm'⟩
   ·cases hg
theorem IL.wait (hP:EK P) {g₂:Goroutine}{z:Value}{f:Bool}(hact:∃ j d,A j=some d):∀ (B n:Nat) (gs:Array Goroutine) (W:World) (sl:Option (Nat×Nat)) (t:Trace) (q:Nat→Nat),sumTo gs.size q≤B →
  (∀ j d,A j=some d→0<q j)→IL P Safe c M n gs W sl t q A K (parked g₂ #[rcase c z] (.recv f)) →
  ∃ n' gs' W' sl' t' q' i dd,n≤n'∧A i=some dd∧i<gs.size∧IL P Safe c M n' gs' W' sl' t' q' (fun j=>if j=i then none else A j) K (Conc.served g₂ (recvd f dd.v true))∧Grown c W W'∧gs'.size=gs.size:=by
 have key:∀ (n:Nat) (gs:Array Goroutine) (W:World) (sl:Option (Nat×Nat)) (t:Trace) (q:Nat→Nat),(∀ j d,A j=some d→0<q j)→IL P Safe c M n gs W sl t q A K (parked g₂ #[rcase c z] (.recv f)) →
   (∃ gs' W' sl' t' q',IL P Safe c M (n+1) gs' W' sl' t' q' A K (parked g₂ #[rcase c z] (.recv f))∧Grown c W W'∧gs'.size=gs.size∧sumTo gs'.size q'<sumTo gs.size q∧∀ j d,A j=some d→0<q' j) ∨
   (∃ gs' W' sl' t' q' i dd,A i=some dd∧i<gs.size∧IL P Safe c M (n+1) gs' W' sl' t' q' (fun j=>if j=i then none else A j) K (Conc.served g₂ (recvd f dd.v true))∧Grown c W W'∧gs'.size=gs.size):=by
  intro n gs W sl t q hq h;obtain⟨j,dj,hj⟩:=hact
  have hj0:0<j:=by
   rcases Nat.eq_zero_or_pos j with rfl|h'
   ·rw[h.act0]at hj;cases hj
   ·exact h'
  have hjl:j<gs.size:=by
   rcases Nat.lt_or_ge j gs.size with h'|h'
   ·exact h'
   ·rw[(h.above j h').2]at hj;cases hj
  have hgj:gs[j]?=some gs[j]:=Array.getElem?_eq_getElem hjl
  have hst:gs[j].status=.running:=by
   have:=h.others j _ hj0 hgj;rw[hj]at this;rcases this.2 with ⟨_,m,_,hg⟩|⟨e,_⟩
   ·exact Dw hg
   ·have:=hq j dj hj;omega
  obtain⟨i,x,d,sl',hi,hx,hm⟩:=Hy (P:=P) (W:=W) (sl:=sl) (h.awake (.inr rfl)) ⟨j,_,hgj,hst⟩
  have hpos:0<i:=by
   rcases Nat.eq_zero_or_pos i with rfl|h'
   ·rw[h.zero]at hi;obtain rfl:=Option.some.inj hi;cases hx
   ·exact h'
  have hil:i<gs.size:=(Array.getElem?_eq_some_iff.1 hi).1;rcases h.work hP (.inr ⟨g₂,z,f,rfl⟩) hm hi hx hpos with ⟨gs',W',t',q',h',hgr,hsz,hlt,hz⟩|⟨g₃,z',f',gs',W',t',q',dd,e,hA,hM,hgr,hsz⟩
  ·exact .inl ⟨gs',W',sl',t',q',h',hgr,hsz,hlt,hz rfl hq⟩
  ·have e1:f'=f:=by simp only[parked,Goroutine.mk.injEq,Option.some.injEq,Prod.mk.injEq,CommShape.recv.injEq]at e;exact e.2.2.2.2.2.symm
   have e2:Conc.served g₃ (recvd f' dd.v true)=Conc.served g₂ (recvd f dd.v true):=by
    subst e1;simp only[parked,Goroutine.mk.injEq]at e;simp[Conc.served,e.1,e.2.1,e.2.2.2.1]
   rw[e2]at hM;exact .inr ⟨gs',W',sl',t',q',i,dd,hA,hil,hM,hgr,hsz⟩
 intro B
 induction B with
 | zero =>
  intro n gs W sl t q hB hq h;rcases key n gs W sl t q hq h with ⟨gs',W',sl',t',q',_,_,_,hlt,_⟩|⟨gs',W',sl',t',q',i,dd,hA,hil,hM,hgr,hsz⟩
  ·omega
  ·exact⟨n+1,gs',W',sl',t',q',i,dd,by omega,hA,hil,hM,hgr,hsz⟩
 | succ B ih =>
  intro n gs W sl t q hB hq h;rcases key n gs W sl t q hq h with ⟨gs',W',sl',t',q',h',hgr,hsz,hlt,hq'⟩|⟨gs',W',sl',t',q',i,dd,hA,hil,hM,hgr,hsz⟩
  ·obtain⟨n',gs'',W'',sl'',t'',q'',i,dd,hn,hA,hil,hM,hgr',hsz'⟩:=ih (n+1) gs' W' sl' t' q' (by omega) hq' h';exact⟨n',gs'',W'',sl'',t'',q'',i,dd,by omega,hA,by omega,hM,hgr.trans hgr',hsz'.trans hsz⟩
  ·exact⟨n+1,gs',W',sl',t',q',i,dd,by omega,hA,hil,hM,hgr,hsz⟩
theorem Fp.offers {o:Option Wk}{k δ:Nat}{x:Goroutine}(h:Fp P Safe c o k δ x W) {r m:Nat}(hm:m∈offersAt x r true):m=0∧∃ d,o=some d∧UG P c d.v x:=by
 cases o with
 | none =>
  rw[offersAt_of_not_blocked (by rcases QuitsD.status h with e|e<;>rw[e]<;>simp)]at hm
  cases hm
 | some d =>
  rcases h.2 with ⟨_,m',_,hg⟩|⟨_,g₂,z,k',rfl,hq⟩
  ·rw[offersAt_of_not_blocked (by rw[Dw hg];simp)]at hm
   cases hm
  ·rw[offersAt_parked_send]at hm
   split at hm
   ·simp at hm;exact⟨hm,d,rfl,g₂,z,k',rfl,hq⟩
   ·cases hm
theorem IL.recv (hP:EK P) (h:IL P Safe c M n gs W sl t q A K g) (hact:∃ j d,A j=some d) {d:Nat}(hm:move P (crowd gs W sl)=.goroutine (crowd gs (W.at d) sl') 0) {g₂:Goroutine}{z:Value}{f:Bool}{es:Array Event}
  (hs:stepG P true g (W.at d)=.comm g₂ #[rcase c z] true (.recv f) (W.at d) es) (hD:Di Safe K (W.at d) (W.at d) es) :
  ∃ n' gs' W' sl' t' q' i dd,n≤n'∧A i=some dd∧i<gs.size∧IL P Safe c M n' gs' W' sl' t' q' (fun j=>if j=i then none else A j) K (Conc.served g₂ (recvd f dd.v true))∧Grown c W W'∧gs'.size=gs.size:=by
 have hok:=(Bg hP h.plain true).ok (W.at d);rw[hs]at hok;obtain⟨s,tm,hc⟩:=h.chan;have hlt0:0<gs.size:=(Array.getElem?_eq_some_iff.1 h.zero).1;have hown:∀ op∈MemOp.ofEvents 0 g.frame.fn g.frame.place es,op.g=0:=fun op hop=>by obtain⟨e,_,rfl⟩:=Conc.mem_ofEvents hop;rfl
 have ht1:BF Safe K A (W.at d) (t++MemOp.ofEvents 0 g.frame.fn g.frame.place es):=(h.trace.at d).own h.below hD hok.2.2 _ _
 have hstand:∀ (j:Nat) (x:Goroutine),(gs.setIfInBounds 0 ph)[j]?=some x→x=ph∨(0<j∧gs[j]?=some x):=fun j x hx=>by
  rcases getElem?_stand gs 0 j x hx with ⟨_,e⟩|⟨hne,hx⟩
  ·exact .inl e
  ·exact .inr ⟨by omega,hx⟩
 by_cases hz:∀ j dd,A j=some dd→0<q j
 ·have hp:partners (gs.setIfInBounds 0 ph) c true=[]:=partners_nil fun j x hx=>by
   rcases hstand j x hx with rfl|⟨hj,hx⟩
   ·exact offersAt_ph _ _
   ·refine List.eq_nil_iff_forall_not_mem.2 fun m hm'=>?_
    have hx':=h.others j x hj hx;obtain⟨_,dd,hA,hpk⟩:=hx'.offers hm';rw[hA]at hx';rcases hx'.2 with ⟨_,m',_,hg⟩|⟨e,_⟩
    ·have:=Dw hg;obtain⟨g₃,z,k,rfl,_⟩:=hpk
     cases this
    ·have:=hz j dd hA;omega
  have hrunT:=crowd_waits (P:=P) (sl:=sl') (i:=0) (w:=W.at d) (shape:=.recv f) h.zero (show stepG P (0 == 0) g (W.at d)=_ from hs) (fun cc hcc=>by
   simp at hcc;subst hcc;exact ways_recv_none (w₁:=W.at d) hc hp)
  have hst:stepT P (crowd gs W sl)=_:=(Bi hm).trans hrunT
  have hM:IL P Safe c M (n+1) (gs.setIfInBounds 0 (parked g₂ #[rcase c z] (.recv f))) (W.at d) sl' (t++MemOp.ofEvents 0 g.frame.fn g.frame.place es) q A K (parked g₂ #[rcase c z] (.recv f)) :=
   ⟨h.next hst,by simp[hlt0],h.tape,⟨hok.1.1,hok.1.2⟩,⟨s,tm,hc⟩,h.low,h.size,h.chanU,ht1,h.act0,fun j x hj hx=>by
    rw[Array.getElem?_setIfInBounds_ne (by omega)]at hx;rw[Deaf_other t (by omega) _ hown];exact(h.others j x hj hx).rely fun di _=>Az.at W d,fun j hj=>by
    simp at hj;rw[Deaf_other t (by omega) _ hown];exact h.above j hj,h.below⟩
  obtain⟨n',gs',W',sl'',t',q',i,dd,hn,hA,hil,hM',hgr,hsz⟩:=IL.wait hP hact _ (n+1) _ _ _ _ _ (Nat.le_refl _) hz hM;simp only[Array.size_setIfInBounds]at hil hsz;exact⟨n',gs',W',sl'',t',q',i,dd,by omega,hA,hil,hM',(Grown.at W d).trans hgr,hsz⟩
 ·have hall:∀ j k,(j,k)∈partners (gs.setIfInBounds 0 ph) c true→k=0∧j≠0∧∃ gj vj zj shj,gs[j]?=some (parked gj #[scase c vj zj] shj):=fun j k hjk=>by
   obtain⟨x,hx,hk⟩:=mem_partners.1 hjk;rcases hstand j x hx with rfl|⟨hj,hx⟩
   ·rw[offersAt_ph]at hk;cases hk
   ·obtain⟨e,dd,_,g₃,z',k',rfl,_⟩:=(h.others j x hj hx).offers hk;exact⟨e,by omega,g₃,_,z',_,hx⟩
  have hne:partners (gs.setIfInBounds 0 ph) c true≠[]:=by
   have:∃ j dd,A j=some dd∧q j=0:=Classical.byContradiction fun hx=>hz fun j dd hj=>by
    rcases Nat.eq_zero_or_pos (q j) with e|e
    ·exact absurd ⟨j,dd,hj,e⟩ hx
    ·exact e
   obtain⟨j,dd,hj,e⟩:=this
   have hj0:0<j:=by
    rcases Nat.eq_zero_or_pos j with rfl|h'
    ·rw[h.act0]at hj;cases hj
    ·exact h'
   have hjl:j<gs.size:=by
    rcases Nat.lt_or_ge j gs.size with h'|h'
    ·exact h'
    ·rw[(h.above j h').2]at hj;cases hj
   have hgj:gs[j]?=some gs[j]:=Array.getElem?_eq_getElem hjl;have hx:=h.others j _ hj0 hgj;rw[hj]at hx;rcases hx.2 with ⟨_,m,hm',_⟩|⟨_,g₃,z',k',hpk,_⟩
   ·omega
   ·have:(j,0)∈partners (gs.setIfInBounds 0 ph) c true:=mem_partners.2 ⟨gs[j],by rw[Array.getElem?_setIfInBounds_ne (by omega)];exact hgj,by rw[hpk,offersAt_parked_send];simp⟩;exact fun e=>by rw[e]at this;cases this
  obtain⟨j,gj,vj,zj,shj,d',hj0,hgj,hrunT⟩:=crowd_recv_meets_some (P:=P) (sl:=sl') (i:=0) (w:=W.at d) (shape:=.recv f) h.zero (show stepG P (0 == 0) g (W.at d)=_ from hs) (show (W.at d).heap[c]?=some (.chan 0 #[] false s s tm) from hc) hne hall;have hjpos:0<j:=by omega
  have hjl:j<gs.size:=(Array.getElem?_eq_some_iff.1 hgj).1;have hoff:(0:Nat)∈offersAt (parked gj #[scase c vj zj] shj) c true:=by rw[offersAt_parked_send];simp
  have hoj:=h.others j _ hjpos hgj;obtain⟨_,dd,hA,g₃,z',k,hpk,hq⟩:=hoj.offers hoff;have hdj:Deaf t j=0:=by rw[hA]at hoj;exact hoj.1
  have e1:vj=dd.v∧shj=.send:=by
   simp only[parked,scase,Goroutine.mk.injEq,Option.some.injEq,Prod.mk.injEq,CommCase.mk.injEq,Array.mk.injEq,List.cons.injEq,and_true,true_and]at hpk;exact⟨hpk.2.2.2.1.1,hpk.2.2.2.2⟩
  obtain⟨rfl,rfl⟩:=e1
  have e2:Conc.served gj undef=Conc.served g₃ undef:=by
   simp only[parked,Goroutine.mk.injEq]at hpk;simp[Conc.served,hpk.1,hpk.2.1,hpk.2.2.2.1]
  rw[finishComm_recv,finishComm_send,e2]at hrunT;have hst:stepT P (crowd gs W sl)=_:=(Bi hm).trans hrunT;have hrun:=h.next hst;rw[← Array.append_assoc]at hrun;have hpl:DR (Conc.served g₂ (recvd f dd.v true)):=⟨BB hok.1.1 _,hok.1.2⟩
  obtain⟨q',hM⟩:=h.meet (j:=j) (dd:=dd) (k:=k) (d:=d') (ps:=0) (pr:=3) (x':=Conc.served g₃ undef) hA hjpos hjl hc hdj (ht1.at d') (fun i hi=>Deaf_other t (by omega) _ hown)
   (fun i hi hij=>by rw[Array.getElem?_setIfInBounds_ne (by omega),Array.getElem?_setIfInBounds_ne (Ne.symm hij)]) (by simp) (by rw[Array.getElem?_setIfInBounds_self_of_lt (by simpa using hlt0)]) (by rw[Array.getElem?_setIfInBounds_ne (Ne.symm hj0),Array.getElem?_setIfInBounds_self_of_lt hjl]) hq hpl hrun
   (fun op hop=>by simp at hop;rcases hop with rfl|rfl|rfl|rfl<;>rfl) (fun op hop mk=>by simp at hop;rcases hop with rfl|rfl|rfl|rfl<;>simp) rfl rfl rfl rfl rfl rfl
  exact⟨n+1,_,_,_,_,q',j,dd,by omega,hA,hjl,hM,⟨rfl,rfl,rfl,by simp[World.setChan,World.at],fun b _ hb=>by simp[World.setChan,World.at,Ne.symm hb]⟩,by simp⟩
end
end
end Go.Proofs.Ytgdobbcjkiapkaa
