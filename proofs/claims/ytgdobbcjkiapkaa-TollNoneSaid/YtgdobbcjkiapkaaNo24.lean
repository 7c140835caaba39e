import Derived.RangeFuncNested
import Derived.RangeFuncBound
import Derived.RangeFuncCalls
import Derived.RangeFuncLeaves
import Derived.OrdersIn
import Derived.OwnWalkIn
import Derived.TacticsInMore
import Derived.Test.YtgdobbcjkiapkaaNo01
namespace Go.Proofs.Ytgdobbcjkiapkaa
set_option maxRecDepth 100000
set_option maxHeartbeats 4000000
set_option linter.unusedSimpArgs false
set_option linter.unusedVariables false
section
open Go.RowKit
def FW (r:Option Nat):Fence:={ Fence.wide with round:=r }
def JR (o:Oper):Bool:=match o.op with
 | .defer _=>false
 | _=>true
section
variable {P:Program} {r:Option Nat} {n:Nat}
theorem Px {o:Oper} {a:Act} {w:World} {K:Act→World→Prop} {Q:Exit→Act→World→Prop} (hd:JR o=true) (h:o.wp P a w K Q):o.wpIn (FW r) n P a w K Q:=by
 have hd':∀ c,o.op ≠ .defer c:=fun c e=>by simp [JR,e] at hd
 unfold Oper.wp at h;refine ⟨fun _ _=>trivial,?_⟩;rw [Oper.semAt_eq _ _ _ hd'];generalize (execOp a.eval o).run P w=x at h
 cases x with
 | ok x w' =>
  cases x with
  | value v=>exact h
  | skip=>exact h
  | defer d=>exact h
  | enter f args=>exact ⟨fun h=>by simp [FW,Fence.wide] at h,callsIn_wide.2 h⟩
  | row row args=>exact ⟨fun h=>by simp [FW,Fence.wide] at h,fun c cs _=>let ⟨v,w',q,s⟩:=h c cs;⟨v,w',q,stepsIn_wide.2 s⟩⟩
  | round _ _ _ _ _=>exact h.elim
  | _=>exact h
 | halt x w'=>cases x <;> exact h
variable {ops:Array Oper} {Q:Exit→Act→World→Prop} {i:Nat} {rest:List Nat} {o:Oper} {a:Act} {w:World} {m:List (Nat×Value)} {d:Nat} {v:Value} {N:Nat}
theorem Bg (ho:ops[i]? = some o) (hg:o.guard=none) (hd:JR o=true)
  (h:∀ K:Act→World→Prop,(∀ a w,wpOpsIn (FW r) n P ops Q rest a w→K a w)→o.wp P a w K Q):wpOpsIn (FW r) n P ops Q (i :: rest) a w:=by
 rw [wpOpsIn,ho];simp only [Region.wanted,hg,if_true];exact Px hd (h _ fun _ _ h=>h)
theorem D9 (h:Q .normal a w):wpOpsIn (FW r) n P ops Q [] a w:=h
theorem BL {k:Nat} {b:Bool} {ok:Oper} {t:Nat} (ho:ops[i]? = some o) (hg:o.guard=some (k,b)) (hd:JR o=true) (hk:ops[k]? = some ok) (ht:ok.dst=some t) (hv:a.tmps[t]? = some (.bool b))
  (h:∀ K:Act→World→Prop,(∀ a w,wpOpsIn (FW r) n P ops Q rest a w→K a w)→o.wp P a w K Q):wpOpsIn (FW r) n P ops Q (i :: rest) a w:=by
 rw [wpOpsIn,ho];simp only [Region.wanted,hg,yielded,hk,Option.bind_some,ht,hv,beq_self_eq_true,if_true];exact Px hd (h _ fun _ _ h=>h)
theorem CO {k:Nat} {b c:Bool} {ok:Oper} {t:Nat} (ho:ops[i]? = some o) (hg:o.guard=some (k,b)) (hk:ops[k]? = some ok) (ht:ok.dst=some t) (hv:a.tmps[t]? = some (.bool c)) (hc:c≠b)
  (h:wpOpsIn (FW r) n P ops Q rest (a.put o.dst undef) w):wpOpsIn (FW r) n P ops Q (i :: rest) a w:=by
 rw [wpOpsIn,ho];have hb:(some c == some b)=false:=by simpa using hc
 simp only [Region.wanted,hg,yielded,hk,Option.bind_some,ht,hv,hb,Bool.false_eq_true,if_false];exact ⟨fun _ _=>trivial,h⟩
theorem Sl.kI (h:Sl a N m) {K:Act→World→Prop} (hK:∀ a w,wpOpsIn (FW r) n P ops Q rest a w→K a w) (hd:d < N) (hG:∀ a',Sl a' N ((d,v) :: m)→wpOpsIn (FW r) n P ops Q rest a' w):K (a.put (some d) v) w:=hK _ _ (hG _ (h.put d v hd))
theorem Uu {l:Nat} {f:FuncId} {tmps:Array Value} {assign body:Code} {R:Ending→World→Prop} (h:RoundIn Fence.wide 0 P l f tmps assign body w R):RoundIn (FW r) n P l f tmps assign body w R :=
 ⟨trivial,fun c cs _=>h.2 c cs (room_wide _)⟩
theorem TZ {k:Nat} {l:Nat} {args:Array Value} {R:Ending→World→Prop} (h:YieldAt Fence.wide k P l args w R):YieldAt Fence.wide 0 P l args w R:=by
 obtain ⟨fn,tmps,assign,body,h1,h2⟩:=h;exact ⟨fn,tmps,assign,body,h1,trivial,fun c cs _=>h2.2 c cs (room_wide _)⟩
theorem Ou {K:Act→World→Prop} {s t:Nat} {ats:Array TypeId} {l:Nat} {x:Value} {R:Ending→World→Prop} (hop:o.op = .call { callee := .value (.tmp s),args:=#[.tmp t],argTypes:=ats }) (Es:a.tmps[s]? = some (.func (.yield l) #[] #[])) (Et:a.tmps[t]? = some x)
  (hy:YieldAt Fence.wide 0 P l #[x] w R) (h:∀ e w',R e w'→∃ u,e = .returned u∧K (a.put o.dst u) w'):o.wpIn (FW r) n P a w K Q:=by
 have ev:∀ {t:Nat} {v:Value},a.tmps[t]? = some v→a.eval (.tmp t)=v:=fun h=>by simp [Act.eval,Array.getD_eq_getD_getElem?,h]
 obtain ⟨fn,tmps,assign,body,h1,h2⟩:=hy;refine ⟨fun _ _=>trivial,?_⟩;rw [Oper.semAt_eq _ _ _ (fun c e=>by rw [hop] at e;simp at e)]
 have hrun:(execOp a.eval o).run P w = .ok (.round l fn tmps assign body) w:=by
  unfold execOp;simp only [hop,resolve,invoke,ev Es,Sem.run_bind,Sem.run_pure,Result.andThen_ok,List.map_toArray,List.map_cons,List.map_nil,ev Et]
  simpa [go_sem] using h1
 rw [hrun];refine ⟨fun h=>by simp [FW,Fence.wide] at h,(Uu h2).mono fun e w' hR =>?_⟩;obtain ⟨u,rfl,hk⟩:=h e w' hR;exact hk
theorem MP {k:Nat} {b:Bool} {ok:Oper} {tt:Nat} {s t:Nat} {ats:Array TypeId} {l:Nat} {x:Value} {R:Ending→World→Prop} (ho:ops[i]? = some o) (hg:o.guard=some (k,b)) (hk:ops[k]? = some ok) (ht:ok.dst=some tt) (hv:a.tmps[tt]? = some (.bool b)) (hop:o.op = .call { callee := .value (.tmp s),args:=#[.tmp t],argTypes:=ats }) (Es:a.tmps[s]? = some (.func (.yield l) #[] #[])) (Et:a.tmps[t]? = some x)
  (hy:YieldAt Fence.wide 0 P l #[x] w R) (h:∀ e w',R e w'→∃ u,e = .returned u∧wpOpsIn (FW r) n P ops Q rest (a.put o.dst u) w'):wpOpsIn (FW r) n P ops Q (i :: rest) a w:=by
 rw [wpOpsIn,ho];simp only [Region.wanted,hg,yielded,hk,Option.bind_some,ht,hv,beq_self_eq_true,if_true];exact Ou hop Es Et hy h
theorem Oi (Inv:(Nat→Bool)→Act→World→Prop)
  (hs:∀ L a w i o,ops[i]? = some o→Inv L a w→L i=false→BD o L=true→wpOpIn (FW r) n P ops Q i (fun a' w'=>Inv (Bq L i true) a' w') a w)
  (he:∀ listed a w,listed.size=ops.size→Inv (CE listed) a w→Region.ready .any ops listed=[]→Q .normal a w):∀ (k:Nat) (listed:Array Bool) (a:Act) (w:World),listed.size=ops.size→NY ops.size listed≤k→Inv (CE listed) a w→wpAnyIn (FW r) n P .any ops Q k listed a w
 | 0,listed,a,w,hsz,hn,hI=>by
  have h0:=I7 (ops:=ops) (listed:=listed) (by omega);exact ⟨h0,he listed a w hsz hI h0⟩
 | k+1,listed,a,w,hsz,hn,hI=>by
  refine ⟨fun h0=>he listed a w hsz hI h0,fun i hi =>?_⟩;obtain ⟨o,ho,hlt,h1,h2⟩:=mem_ready hsz hi;refine wpOpIn_mono ?_ (hs _ a w i o ho hI h1 h2);intro a' w' hI';have hle:=JU hsz hi;exact Oi Inv hs he k _ a' w' (by simpa using hsz) (by omega) (by rw [J5 (by omega)];exact hI')
theorem NG {id:Nat} (hm:P.follows .mixedOrders=true) (Inv:(Nat→Bool)→Act→World→Prop)
  (h0:Inv (fun _=>false) a w.drew)
  (hs:∀ L a w i o,ops[i]? = some o→Inv L a w→L i=false→BD o L=true→wpOpIn (FW r) n P ops Q i (fun a' w'=>Inv (Bq L i true) a' w') a w)
  (he:∀ L a w,(∀ i o,ops[i]? = some o→BD o L=true→L i=true)→Inv L a w→Q .normal a w):(Code.region id ops true).wpIn (FW r) n P Q a w:=by
 refine wpIn_region_any hm (Oi Inv hs ?_ ops.size _ a _ (by simp) (by rw [Hf];exact Nat.le_refl _) ?_)
 ·intro listed a w hsz hI hr;refine he _ a w (fun i o ho hre =>?_) hI;have hlt:=(Array.getElem?_eq_some_iff.1 ho).1
  cases hl:CE listed i
  ·exfalso
   have hm:i∈Region.ready .any ops listed:=by
    unfold Region.ready;rw [List.mem_filter,List.mem_range,Bool.and_eq_true];refine ⟨hlt,?_,?_⟩
    ·have e:listed.getD i true=listed.getD i false:=by simp [Array.getD_eq_getD_getElem?,hsz,hlt]
     rw [e];unfold CE at hl;rw [hl];rfl
    ·rw [ho];simpa [BD,CE] using hre
   rw [hr] at hm;simp at hm
  ·rfl
 ·have e:CE (Array.replicate ops.size false)=fun _=>false:=by
   funext k
   unfold CE
   by_cases h:k < ops.size <;> simp [Array.getD_eq_getD_getElem?,h]
  rw [e];exact h0
theorem EP {K:Act→World→Prop} (ho:ops[i]? = some o) (hg:o.guard=none) (hd:JR o=true) (h:∀ K':Act→World→Prop,(∀ a w,K a w→K' a w)→o.wp P a w K' Q):wpOpIn (FW r) n P ops Q i K a w:=by
 unfold wpOpIn;rw [ho];simp only [Region.wanted,hg,if_true];exact Px hd (h _ fun _ _ h=>h)
theorem Rk {K:Act→World→Prop} {s t:Nat} {ats:Array TypeId} {l:Nat} {x:Value} {R:Ending→World→Prop} (ho:ops[i]? = some o) (hg:o.guard=none) (hop:o.op = .call { callee := .value (.tmp s),args:=#[.tmp t],argTypes:=ats }) (Es:a.tmps[s]? = some (.func (.yield l) #[] #[])) (Et:a.tmps[t]? = some x)
  (hy:YieldAt Fence.wide 0 P l #[x] w R) (h:∀ e w',R e w'→∃ u,e = .returned u∧K (a.put o.dst u) w'):wpOpIn (FW r) n P ops Q i K a w:=by
 unfold wpOpIn;rw [ho];simp only [Region.wanted,hg,if_true];exact Ou hop Es Et hy h
theorem O3 {id:Nat} (hm:P.follows .mixedOrders=true) (Z:Sl a N m) (ds:List (Option Nat)) (hds:ops.toList.map Oper.dst=ds) (hok:okD N (m.map Prod.fst) ds=true) (hdag:dag ops=true)
  (V:Nat→Value→World→Prop) (I:(Nat→Bool)→World→Prop) (hI:I (fun _=>false) w.drew)
  (hk:∀ (k:Nat) (o:Oper),k < ops.size→ops[k]? = some o→∀ L a w,I L w→L k=false→Sl a N m→Fe ops V L a w→(∀ d∈waits o,L d=true)→wpOpIn (FW r) n P ops Q k (fun a' w'=>∃ v,a'=a.put o.dst v∧V k v w'∧I (Bq L k true) w'∧∀ j u,V j u w→V j u w') a w)
  (he:∀ L a w,(∀ k,k < ops.size→L k=true)→I L w→Sl a N m→Fe ops V L a w→Q .normal a w):(Code.region id ops true).wpIn (FW r) n P Q a w:=by
 have hd:∀ (j:Nat) (o:Oper),ops[j]? = some o→ds[j]? = some o.dst:=fun j o h=>by
  subst hds;rw [List.getElem?_map,Array.getElem?_toList,h];rfl
 refine NG hm (fun L a' w'=>I L w'∧Sl a' N m∧Fe ops V L a' w') ⟨hI,Z,fun j o d _ _ h=>by simp at h⟩ ?_ ?_
 ·rintro L a' w' i o ho ⟨h1,h2,h3⟩ hli hri;have hi:=(Array.getElem?_eq_some_iff.1 ho).1;refine wpOpIn_mono ?_ (hk i o hi ho L a' w' h1 hli h2 h3 (CS hri));rintro a2 w2 ⟨v,rfl,hv,hI2,hmono⟩;refine ⟨hI2,?_,?_⟩
  ·cases e:o.dst with
   | none=>exact h2
   | some d =>
    have hdd:=hd i o ho;rw [e] at hdd;obtain ⟨hlt,hnm⟩:=FY hok hdd;have hp:=h2.put d v hlt;refine ⟨hp.size,hp.defers,fun t u hu=>hp.get t u ?_⟩;rw [List.lookup_cons]
    have e2:(t == d)=false:=by
     have:t≠d:=by rintro rfl;exact hnm (EM hu)
     simpa using this
    rw [e2];exact hu
  ·intro j o' d hj hjd hLj;have hdj:=hd j o' hj;rw [hjd] at hdj
   cases e:o.dst with
   | none =>
    have hne:j≠i:=by
     rintro rfl;rw [ho] at hj;obtain rfl:=Option.some.inj hj;rw [e] at hjd;simp at hjd
    rw [Ar _ _ hne] at hLj;obtain ⟨u,hu,hvu⟩:=h3 j o' d hj hjd hLj;exact ⟨u,hu,hmono _ _ hvu⟩
   | some x =>
    have hdi:=hd i o ho;rw [e] at hdi
    by_cases c:j=i
    ·subst c;rw [hdj] at hdi;obtain rfl:d=x:=by simpa using hdi
     obtain ⟨hlt,_⟩:=FY hok hdj;exact ⟨v,by simp [Act.put,h2.size,hlt],hv⟩
    ·rw [Ar _ _ c] at hLj;obtain ⟨u,hu,hvu⟩:=h3 j o' d hj hjd hLj
     have hxd:x≠d:=by
      rintro rfl;exact c (LJ hok hdj hdi)
     refine ⟨u,?_,hmono _ _ hvu⟩;simp only [Act.put];rw [Array.getElem?_setIfInBounds_ne hxd];exact hu
 ·rintro L a' w' hall ⟨h1,h2,h3⟩;exact he L a' w' (Hq hdag hall) h1 h2 h3
end
def CQ (B:Nat) (w w':World):Prop:=w.heap.size≤w'.heap.size∧∀ k,B≤k→k < w.heap.size→w'.heap[k]? = w.heap[k]?
theorem CQ.refl (B:Nat) (w:World):CQ B w w:=⟨Nat.le_refl _,fun _ _ _=>rfl⟩
theorem CQ.trans {B:Nat} {w w1 w2:World} (h1:CQ B w w1) (h2:CQ B w1 w2):CQ B w w2:=⟨Nat.le_trans h1.1 h2.1,fun k hk hl=>(h2.2 k hk (Nat.lt_of_lt_of_le hl h1.1)).trans (h1.2 k hk hl)⟩
theorem CQ.mono {B B':Nat} {w w':World} (h:CQ B w w') (hB:B≤B'):CQ B' w w':=⟨h.1,fun k hk hl=>h.2 k (Nat.le_trans hB hk) hl⟩
theorem Below.WH {w w':World} (h:Below w.heap.size w w') (B:Nat):CQ B w w':=⟨h.size,fun k _ hl=>h.block k hl⟩
section
variable {α:Type} (own:α→Option Nat)
def Nz (pre:List α) (k:Nat):Prop:=∃ x∈pre,own x=some k
def Y9 (P:Program) (gf:FuncId) (cap:Array Value) (enc:α→Value) (Given:Nat→World→α→Prop) (Env:World→Prop) (Done:List α→Prop):Prop :=
 ∀ (l:Nat) (J:List α→World→Prop) (W:World),
  (∀ pre V,J pre V→Env V) →
  (∀ pre V V',J pre V→Below W.heap.size V V'→(∀ k,Nz own pre k→V'.heap[k]? = V.heap[k]?)→J pre V') →
  (∀ pre V,J pre V→W.heap.size≤V.heap.size∧∀ k,Nz own pre k→k < V.heap.size) →
  (∀ pre x V,J pre V→Given W.heap.size V x→YieldAt Fence.wide 0 P l #[enc x] V fun e V'=>e = .returned (.bool true)∧J (pre++[x]) V'∧CQ W.heap.size V V') →
  J [] W→Calls P gf (#[.func (.yield l) #[] #[]]++cap) W fun e W'=>(∃ v,e = .returned v)∧∃ pre,Done pre∧J pre W'
theorem Dh {w V:World} {B:Nat} (h:Below B w V) {l:Nat} (o:Obj) (hl:B≤l):Below B w (V.putObj l o) :=
 h.trans ⟨rfl,rfl,rfl,by simp,fun _ hk=>World.putObj_heap_other (by omega)⟩
variable {own}
theorem Lp {P:Program} {g:Operand} {p:Nat} {assign body:Code} {Q:Exit→Act→World→Prop} {a:Act} {w:World} {gf:FuncId} {cap:Array Value} {enc:α→Value} {Given:Nat→World→α→Prop} {Env:World→Prop} {Done:List α→Prop} (hit:Y9 own P gf cap enc Given Env Done)
  (hg:a.eval g = .func (.func gf) #[] cap) (hinv:∀ (l:Nat) (W:World),(invoke (.fn (.func gf) cap) #[.func (.yield l) #[] #[]]).run P W = .ok (.enter gf (#[.func (.yield l) #[] #[]]++cap)) W)
  (I:List α→World→Prop) (hEnv:∀ pre V,I pre V→Env V)
  (hIk:∀ pre V V',I pre V→Below w.heap.size V V'→(∀ k,Nz own pre k→V'.heap[k]? = V.heap[k]?)→I pre V')
  (hIo:∀ pre V,I pre V→w.heap.size≤V.heap.size∧∀ k,Nz own pre k→∃ c t f,V.heap[k]? = some (.cells c t f))
  (hGo:∀ B V x k,Given B V x→own x=some k→k < V.heap.size)
  (h0:∀ W,Below w.heap.size w W→I [] W)
  (hround:∀ (l:Nat) pre x V rr,w.heap.size≤l→l < w.heap.size+2→I pre V→V.heap[l]? = some (.loop rr)→Given (w.heap.size+2) V x →
   assign.wpIn (FW (some l)) 3 P (Exit.then (fun a' V'=>CQ w.heap.size V V'∧∀ o,body.wpIn (FW (some l)) 3 P (fun e _ V''=>e = .normal∧CQ w.heap.size (V'.putObj l o) V''∧I (pre++[x]) V'') a' (V'.putObj l o)) (fun _ _ _=>False)) { tmps:=a.tmps.setIfInBounds p (enc x),defers:=[] } V)
  (hdone:∀ (D:Nat) pre (W:World),Done pre→I pre W→w.heap.size≤D→W.heap[D]? = some (.deferred (some []))→Q .normal { a with defers:={ target := .collected D,args:=#[] } :: a.defers } W) :
  (Code.rangeFunc g #[p] assign body).wp P Q a w:=by
 refine (wpIn_wide (n:=5)).1 (wpIn_rangeFunc ?_);intro fn hfn;obtain ⟨rec,hrec⟩:∃ rec:LoopState→Option Code→Loop,rec=fun st pe=>{ state:=st,pending:=pe,fn,tmps:=a.tmps,params:=#[p],assign,body,defers:=w.heap.size }:=⟨_,rfl⟩
 obtain ⟨W1,hW1⟩:∃ W1,(w.alloc (.deferred (some []))).alloc (.loop (rec .ready none))=W1:=⟨_,rfl⟩
 have hL1:W1.heap[w.heap.size+1]? = some (.loop (rec .ready none)):=by
  rw [← hW1];have:=World.alloc_heap_new (w.alloc (.deferred (some []))) (.loop (rec .ready none));rwa [World.size_alloc] at this
 have hK1:W1.heap[w.heap.size]? = some (.deferred (some [])):=by
  rw [← hW1];exact (Below.heap_alloc _ _ _ (by simp)).trans (World.alloc_heap_new w _)
 have hb1:Below w.heap.size w W1:=by
  rw [← hW1];exact ((Below.refl _ w).alloc (Nat.le_refl _) _).alloc (by simp) _
 have hz1:W1.heap.size=w.heap.size+2:=by rw [← hW1];simp
 refine ⟨w.heap.size+1,[{ target := .collected w.heap.size,args:=#[] }],W1,{ target := .fn (.func gf) cap,args:=#[.func (.yield (w.heap.size+1)) #[] #[]] },W1,gf,
  #[.func (.yield (w.heap.size+1)) #[] #[]]++cap,W1,?_,?_,?_,hinv _ _,fun _=>by omega,?_⟩
 ·rw [← hW1,hrec];exact run_enterLoop_outer _ _ _ _ _
 ·simp only [resolve,hg];simp [go_sem]
 ·intro f' hf';trivial
 ·refine callsIn_wide.2 ((hit (w.heap.size+1) (fun pre V=>I pre V∧V.heap[w.heap.size+1]? = some (.loop (rec .ready none))∧V.heap[w.heap.size]? = some (.deferred (some []))) W1
   (fun pre V h=>hEnv pre V h.1) ?_ ?_ ?_ ⟨h0 W1 hb1,hL1,hK1⟩).mono ?_)
  ·rintro pre V V' ⟨h1,h2,h3⟩ hb hk;exact ⟨hIk pre V V' h1 (hb.mono (by omega)) hk,(hb.block _ (by omega)).trans h2,(hb.block _ (by omega)).trans h3⟩
  ·rintro pre V ⟨h1,h2,h3⟩;refine ⟨by have:=(Array.getElem?_eq_some_iff.1 h2).1;omega,fun k hk =>?_⟩;obtain ⟨c,t,f,h⟩:=(hIo pre V h1).2 k hk;exact (Array.getElem?_eq_some_iff.1 h).1
  ·rintro pre x V ⟨h1,h2,h3⟩ hgv;rw [hz1] at hgv;have hlt:w.heap.size+1 < V.heap.size:=(Array.getElem?_eq_some_iff.1 h2).1;have hy:=run_yield (P:=P) (args:=#[enc x]) h2 (by rw [hrec];rfl);rw [hrec] at hy;have hy':(Instr.yield (w.heap.size+1) #[enc x]).run P V = .ok (.round (w.heap.size+1) fn (a.tmps.setIfInBounds p (enc x)) assign body) V:=by simpa using hy
   refine TZ (k:=3) ⟨fn,_,assign,body,hy',roundIn_of_wpIn trivial ?_⟩;refine wpIn_mono (hround (w.heap.size+1) pre x V _ (by omega) (by omega) h1 h2 hgv) ?_;rintro e a' V' he
   cases e with
   | normal =>
    obtain ⟨hkv,hbody⟩:=he;have h2':V'.heap[w.heap.size+1]? = some (.loop (rec .ready none)):=(hkv.2 _ (by omega) hlt).trans h2;have h3':V'.heap[w.heap.size]? = some (.deferred (some [])):=(hkv.2 _ (by omega) (by omega)).trans h3;refine ⟨_,run_beginRound h2' (by rw [hrec]),?_⟩;obtain ⟨V2,hV2⟩:∃ V2,V'.putObj (w.heap.size+1) (.loop { rec .ready none with state := .busy })=V2:=⟨_,rfl⟩;have hlt':w.heap.size+1 < V'.heap.size:=(Array.getElem?_eq_some_iff.1 h2').1;have hl2:V2.heap[w.heap.size+1]? = some (.loop { rec .ready none with state := .busy }):=by rw [← hV2];exact World.putObj_heap_same hlt'
    have hk2:V2.heap[w.heap.size]? = some (.deferred (some [])):=by rw [← hV2];exact (World.putObj_heap_other (by omega)).trans h3'
    have ho2:∀ k,k≠w.heap.size+1→V2.heap[k]? = V'.heap[k]?:=fun k hk=>by rw [← hV2];exact World.putObj_heap_other hk
    have hs2:V2.heap.size=V'.heap.size:=by rw [← hV2];simp
    have hB:=hbody (.loop { rec .ready none with state := .busy });rw [hV2] at hB ⊢;refine wpIn_mono hB ?_;rintro e a3 V3 ⟨rfl,hk3,hI3⟩;have hl3:V3.heap[w.heap.size+1]? = V2.heap[w.heap.size+1]?:=hk3.2 _ (by omega) (by omega);have hd3:V3.heap[w.heap.size]? = some (.deferred (some [])):=(hk3.2 _ (Nat.le_refl _) (by omega)).trans hk2
    have fin:(Instr.endRound (w.heap.size+1) none).run P V3 = .ok (.bool true) (V3.putObj (w.heap.size+1) (.loop (rec .ready none))):=by
     have:=run_endRound (P:=P) none (hl3.trans hl2);rw [hrec] at this ⊢;exact this
    have hlt3:w.heap.size+1 < V3.heap.size:=(Array.getElem?_eq_some_iff.1 (hl3.trans hl2)).1
    have hI4:I (pre++[x]) (V3.putObj (w.heap.size+1) (.loop (rec .ready none))):=by
     refine hIk _ V3 _ hI3 (Dh (Below.refl _ _) _ (by omega)) fun k hk=>World.putObj_heap_other ?_
     rintro rfl;obtain ⟨c,t,f,h⟩:=(hIo _ V3 hI3).2 _ hk;rw [hl3,hl2] at h;simp at h
    refine ⟨_,_,fin,rfl,⟨hI4,World.putObj_heap_same hlt3,(World.putObj_heap_other (by omega)).trans hd3⟩,⟨by simp;have:=hk3.1;have:=hkv.1;omega,fun k hk1 hk2 =>?_⟩⟩;rw [World.putObj_heap_other (by omega),hk3.2 k (by omega) (by have:=hkv.1;omega),ho2 k (by omega),hkv.2 k (by omega) hk2]
   | exit i=>exact he.elim
   | ret=>exact he.elim
   | goto t=>exact he.elim
   | panic ch=>exact he.elim
   | outgrown=>exact he.elim
  ·rintro e W2 ⟨⟨v,rfl⟩,pre,hd,hI2,hl2,hd2⟩;refine ⟨none,_,by have:=run_endLoop (P:=P) hl2 (by rw [hrec];simp);rw [hrec] at this;exact this,hdone _ pre _ hd ?_ (Nat.le_refl _) ((World.putObj_heap_other (by omega)).trans hd2)⟩;refine hIk _ W2 _ hI2 (Dh (Below.refl _ _) _ (by omega)) fun k hk=>World.putObj_heap_other ?_
   rintro rfl;obtain ⟨c,t,f,h⟩:=(hIo _ W2 hI2).2 _ hk;rw [hl2] at h;simp at h
end
end
section
open Go.RowKit
theorem GZ {Γ:Type} {P:Program} {id:Nat} {Q:Exit→Act→World→Prop} {a:Act} {w:World} {ops:Array Oper} {n:Nat} {m:List (Nat×Value)} (hm:P.follows .mixedOrders=true) (Z:Sl a n m) (ds:List (Option Nat)) (hds:ops.toList.map Oper.dst=ds) (hok:okD n (m.map Prod.fst) ds=true) (hdag:dag ops=true)
  (V:Γ→Nat→Value→Prop) (I:Γ→(Nat→Bool)→World→Prop) (g0:Γ) (hI:I g0 (fun _=>false) w.drew)
  (hk:∀ (k:Nat) (o:Oper),k < ops.size→ops[k]? = some o→∀ g L a w,I g L w→L k=false→Sl a n m→Fe ops (fun j v _=>V g j v) L a w→(∀ d∈waits o,L d=true)→wpOp P ops Q k (fun a' w'=>∃ g' v,a'=a.put o.dst v∧V g' k v∧I g' (Bq L k true) w'∧∀ j u,L j=true→V g j u→V g' j u) a w)
  (he:∀ g L a w,(∀ k,k < ops.size→L k=true)→I g L w→Sl a n m→Fe ops (fun j v _=>V g j v) L a w→Q .normal a w):(Code.region id ops true).wp P Q a w:=by
 have hd:∀ (j:Nat) (o:Oper),ops[j]? = some o→ds[j]? = some o.dst:=fun j o h=>by
  subst hds;rw [List.getElem?_map,Array.getElem?_toList,h];rfl
 refine DR hm (fun L a' w'=>∃ g,I g L w'∧Sl a' n m∧Fe ops (fun j v _=>V g j v) L a' w') ⟨g0,hI,Z,fun j o d _ _ h=>by simp at h⟩ ?_ ?_
 ·rintro L a' w' i o ho ⟨g,h1,h2,h3⟩ hli hri;have hi:=(Array.getElem?_eq_some_iff.1 ho).1;refine wpOp_mono ?_ (hk i o hi ho g L a' w' h1 hli h2 h3 (CS hri));rintro a2 w2 ⟨g',v,rfl,hv,hI2,hmono⟩;refine ⟨g',hI2,?_,?_⟩
  ·cases e:o.dst with
   | none=>exact h2
   | some d =>
    have hdd:=hd i o ho;rw [e] at hdd;obtain ⟨hlt,hnm⟩:=FY hok hdd;have hp:=h2.put d v hlt;refine ⟨hp.size,hp.defers,fun t u hu=>hp.get t u ?_⟩;rw [List.lookup_cons]
    have e2:(t == d)=false:=by
     have:t≠d:=by rintro rfl;exact hnm (EM hu)
     simpa using this
    rw [e2];exact hu
  ·intro j o' d hj hjd hLj;have hdj:=hd j o' hj;rw [hjd] at hdj
   cases e:o.dst with
   | none =>
    have hne:j≠i:=by
     rintro rfl;rw [ho] at hj;obtain rfl:=Option.some.inj hj;rw [e] at hjd;simp at hjd
    rw [Ar _ _ hne] at hLj;obtain ⟨u,hu,hvu⟩:=h3 j o' d hj hjd hLj;exact ⟨u,hu,hmono _ _ hLj hvu⟩
   | some x =>
    have hdi:=hd i o ho;rw [e] at hdi
    by_cases c:j=i
    ·subst c;rw [hdj] at hdi;obtain rfl:d=x:=by simpa using hdi
     obtain ⟨hlt,_⟩:=FY hok hdj;exact ⟨v,by simp [Act.put,h2.size,hlt],hv⟩
    ·rw [Ar _ _ c] at hLj;obtain ⟨u,hu,hvu⟩:=h3 j o' d hj hjd hLj
     have hxd:x≠d:=by
      rintro rfl;exact c (LJ hok hdj hdi)
     refine ⟨u,?_,hmono _ _ hLj hvu⟩;simp only [Act.put];rw [Array.getElem?_setIfInBounds_ne hxd];exact hu
 ·rintro L a' w' hall ⟨g,h1,h2,h3⟩;exact he g L a' w' (Hq hdag hall) h1 h2 h3
end
section
open Go.RowKit
def GI (x:World) (a s:Nat) (c0 c1:Array Value) (t:TypeId) (g:Nat) (L:Nat→Bool) (y:World):Prop :=
 (L s=true→L a=true)∧(L a=true→x.heap.size≤g∧Rw y g (bif L s then c1 else c0) t)
section
variable {x y y2:World} {a s:Nat} {c0 c1:Array Value} {t:TypeId} {g:Nat} {L:Nat→Bool}
theorem GI.init:GI x a s c0 c1 t g (fun _=>false) y:=⟨fun h=>by simp at h,fun h=>by simp at h⟩
theorem GI.below (h:GI x a s c0 c1 t g L y) (hb:Below y.heap.size y y2):GI x a s c0 c1 t g L y2:=⟨h.1,fun ha=>⟨(h.2 ha).1,(h.2 ha).2.below hb⟩⟩
theorem GI.other (h:GI x a s c0 c1 t g L y) {j:Nat} (h1:a≠j) (h2:s≠j):GI x a s c0 c1 t g (Bq L j true) y:=by
 refine ⟨?_,?_⟩
 ·rw [Ar _ _ h1,Ar _ _ h2];exact h.1
 ·rw [Ar _ _ h1,Ar _ _ h2];exact h.2
theorem GI.made (h:GI x a s c0 c1 t g L y) (hla:L a=false) (hx:x.heap.size≤y.heap.size) (hne:s≠a):GI x a s c0 c1 t y.heap.size (Bq L a true) (y.alloc (.cells c0 t)):=by
 have hls:L s=false:=by
  cases e:L s with
  | false=>rfl
  | true=>rw [h.1 e] at hla;exact absurd hla (by decide)
 refine ⟨fun _=>by simp [Bq],fun _=>⟨hx,?_⟩⟩;rw [Ar _ _ hne,hls];exact Rw.new _ _ _
theorem GI.get (h:GI x a s c0 c1 t g L y) (hla:L a=true) (hls:L s=false):Rw y g c0 t:=by have:=(h.2 hla).2;rw [hls] at this;exact this
theorem GI.full (h:GI x a s c0 c1 t g L y) (hla:L a=true) (hls:L s=true):x.heap.size≤g∧Rw y g c1 t:=by have:=h.2 hla;rw [hls] at this;exact this
theorem GI.far (h:GI x a s c0 c1 t g L y) {g2:Nat} (hne:L a=true→g≠g2) (o:Nat) (v:Value):GI x a s c0 c1 t g L (y.setCell ⟨g2,o,none⟩ v):=⟨h.1,fun ha=>⟨(h.2 ha).1,(h.2 ha).2.far (hne ha) o v⟩⟩
theorem GI.stored (h:GI x a s c0 c1 t g L y) (hla:L a=true) (hne:a≠s) (hr:Rw y2 g c1 t):GI x a s c0 c1 t g (Bq L s true) y2:=by
 refine ⟨fun _=>by rw [Ar _ _ hne];exact hla,fun _=>⟨(h.2 hla).1,?_⟩⟩;have e:Bq L s true s=true:=by simp [Bq]
 rw [e];exact hr
theorem GI.lt (h:GI x a s c0 c1 t g L y) (hla:L a=true):g < y.heap.size:=(h.2 hla).2.lt
end
end
end Go.Proofs.Ytgdobbcjkiapkaa
