import Derived.Test.YtgdobbcjkiapkaaCh24
import Derived.Laws.Tables
import Derived.Laws.Rows
import Derived.RangeFuncNested
import Derived.RangeFuncBound
import Derived.RangeFuncCalls
import Derived.RangeFuncLeaves
import Derived.OrdersIn
import Derived.OwnWalkIn
import Derived.TacticsInMore
import Derived.Test.YtgdobbcjkiapkaaCh01
namespace Go.Proofs.Ytgdobbcjkiapkaa
set_option maxRecDepth 100000
set_option maxHeartbeats 4000000
set_option linter.unusedSimpArgs false
set_option linter.unusedVariables false
section
open Go Go.RowKit
section
variable {P:Program} {ops:Array Oper} {Q:Exit→Act→World→Prop} {i:Nat} {rest:List Nat} {o:Oper} {a:Act} {n d:Nat} {m:List (Nat×Value)} {v:Value} {w w':World} {b:Nat} {c c':Array Value} {t ty:TypeId}
theorem En {x:Operand} {td:TypeDesc} (ho:o.op = .load ty x) (hx:a.eval x = .pointer (some ⟨b,0,none⟩)) (hu:P.underlying ty=some td) (hd:(match td with | .struct _ | .array _ _=>true | _=>false)=true) (hi:(P.info? ty).map (·.size)=some c.size) (K:Rw w b c t):(execOp a.eval o).run P w = .ok (.value (.agg c)) w:=by
 have h:=run_loadVar_row (P:=P) w b t ty c (0,0) td K hu hd hi;unfold execOp;simp only [ho,hx,Instr.loadAt,Instr.sureAddr,Sem.run_bind,Sem.run_pure,Result.andThen_ok,h]
theorem FI {x y:Operand} (ho:o.op = .store ty x y) (hx:a.eval x = .pointer (some ⟨b,0,none⟩)) (hy:a.eval y = .agg c') (hi:(P.info? ty).map (·.size)=some c'.size) (K:Rw w b c t) (hs:c.size=c'.size) (h1:c'.toList.all (·.oneCell')=true):(execOp a.eval o).run P w = .ok .skip (w.setRow b c'):=by
 have h:=run_storeVar_row (P:=P) w b t ty c c' K hi hs (by rw [← Array.all_toList];exact h1);unfold execOp;simp only [ho,hx,hy,Instr.storeAt,Instr.sureAddr,Sem.run_bind,Sem.run_pure,Result.andThen_ok,h]
theorem Aw {x:Operand} {q:Nat} {td:TypeDesc} (ho:o.op = .load ty x) (hx:a.eval x = .pointer (some ⟨b,q,none⟩)) (hu:P.underlying ty=some td) (hd:(match td with | .struct _ | .array _ _=>true | _=>false)=false) (hc:w.cell? ⟨b,q,none⟩=some v):(execOp a.eval o).run P w = .ok (.value v) w:=by
 have h:(isAgg ty).run P w = .ok false w:=by cases td <;> simp_all [isAgg,run_underlying hu]
 unfold execOp;simp only [ho,hx,Instr.loadAt,Instr.sureAddr,loadVar,Sem.run_bind,Sem.run_pure,Result.andThen_ok,h];simp [hc]
theorem DN {x y:Operand} {q:Nat} {u:Value} (ho:o.op = .store ty x y) (hx:a.eval x = .pointer (some ⟨b,q,none⟩)) (hy:a.eval y=v) (hi:(P.info? ty).map (·.size)=some 1) (hs:v.cells = #[v]) (h1:v.oneCell'=true) (hc:w.cell? ⟨b,q,none⟩=some u) (hf:w.frozen? ⟨b,q,none⟩=false):(execOp a.eval o).run P w = .ok .skip (w.setCell ⟨b,q,none⟩ v):=by
 have hst:=Go.run_store P w ⟨b,q,none⟩ v .plain h1;rw [hc] at hst;simp only [hf] at hst;have e0:(⟨b,q,none⟩:Addr).add 0=⟨b,q,none⟩:=by simp [Addr.add]
 cases hq:P.info? ty with
 | none=>simp [hq] at hi
 | some i =>
  have hsz:i.size=1:=by simpa [hq] using hi
  unfold execOp;simp only [ho,hx,hy,Instr.storeAt,Instr.sureAddr,Sem.run_bind,Sem.run_pure,Result.andThen_ok];simp [storeVar,sizeOf,typeInfo,hq,hsz,hs,storeCells,e0,hst]
theorem Sl.rv (h:Sl a n m) (ho:ops[i]? = some o) (hg:o.guard=none) (hd:o.dst=some d) (hn:d < n) (hr:(execOp a.eval o).run P w = .ok (.value v) w') (hG:∀ a',Sl a' n ((d,v) :: m)→wpOps P ops Q rest a' w'):wpOps P ops Q (i :: rest) a w:=by
 refine BG ho hg (fun K hK =>?_);unfold Oper.wp;rw [hr,Oper.upon_value,hd];exact h.k hK hn hG
theorem Sl.rs (_h:Sl a n m) (ho:ops[i]? = some o) (hg:o.guard=none) (hd:o.dst=none) (hr:(execOp a.eval o).run P w = .ok .skip w') (hG:wpOps P ops Q rest a w'):wpOps P ops Q (i :: rest) a w:=by
 refine BG ho hg (fun K hK =>?_);unfold Oper.wp;rw [hr,Oper.upon_skip,hd];exact hK _ _ hG
theorem Dt {K:Value→Prop} (hr:(execOp a.eval o).run P w = .ok (.value v) w) (hK:K v):CS P o a w K:=by unfold CS;rw [hr];exact ⟨rfl,hK⟩
theorem Bv {C:World→Prop} {K:Value→Prop} (hr:(execOp a.eval o).run P w = .ok (.value v) w) (hK:K v):Oper.Fp P o a C w K:=by unfold Oper.Fp;rw [hr];exact ⟨rfl,hK⟩
theorem KE {K:Value→World→Prop} (hr:(execOp a.eval o).run P w = .ok .skip w') (hK:K undef w'):BD P o a w K:=by unfold BD;rw [hr];exact hK
theorem Rw.setRow (K:Rw w b c t) (c':Array Value):Rw (w.setRow b c') b c' t:=setRow_heap w b c c' t (0,0) K
theorem BQ (K:Rw w b c t) (c':Array Value):w.grownBy (w.setRow b c') (some b):=by
 refine ⟨rfl,rfl,rfl,by simp [World.setRow],fun k hk hne =>?_⟩;unfold World.setRow;simp only [Array.getElem?_modify];rw [if_neg (fun e=>hne (by rw [e]))]
end
section
variable {w x x':World} {b g B:Nat} {c:Array Value} {t:TypeId}
theorem AC.WR {α:Type} {f:α→List Value} {e:TypeId} {k:Nat} {v:Value} {l:List α} (h:AC f e k x B v l) (hg:g < B):v.ownBlock≠some g:=fun e=>by have:=(h.Ah e).1;omega
theorem AC.Yc {α:Type} {f:α→List Value} {e:TypeId} {k:Nat} {v:Value} {l:List α} (h:AC f e k x B v l) (hne:v.ownBlock≠some g) (o:Nat) (u:Value):AC f e k (x.setCell ⟨g,o,none⟩ u) B v l:=h.keep fun q hq=>Below.heap_setCell _ ⟨g,o,none⟩ _ q (by intro e;apply hne;rw [hq,e])
theorem AC.Abi {α:Type} {f:α→List Value} {e:TypeId} {k C:Nat} {v:Value} {l:List α} (h:AC f e k x B v l) (hu:TC C v) (hg:g < B∨C≤g):v.ownBlock≠some g:=fun e=>by have:=(h.Ah e).1;have:=hu g e;omega
theorem AC.Aa3 {α:Type} {f:α→List Value} {e:TypeId} {k C:Nat} {v:Value} {l:List α} (h:AC f e k x B v l) (hu:TC C v) (hg:g < B∨C≤g) (o:Nat) (u:Value):AC f e k (x.setCell ⟨g,o,none⟩ u) B v l:=h.Yc (h.Abi hu hg) o u
theorem A8.grown {hb n ca D:Nat} {a:Option Addr} (h:A8 x hb D a n ca) (hG:x.grownBy x' (some g)) (hlt:hb < g):A8 x' hb D a n ca:=h.keep fun k hk hle=>hG.block k hk (by simp;omega)
theorem Ext.grown {m:Nat} (h:Ext m w x) (hG:x.grownBy x' (some g)) (hw:w.heap.size≤g):Ext m w x' :=
 ⟨hG.os.trans h.os,hG.tape.trans h.tape,hG.output.trans h.output,Nat.le_trans h.size hG.size,fun k hk hne=>(hG.block k (Nat.lt_of_lt_of_le hk h.size) (by simp;omega)).trans (h.block k hk hne)⟩
theorem KN (h:Below w.heap.size w x) (hG:x.grownBy x' (some g)) (hw:w.heap.size≤g):Below w.heap.size w x':=h.grown hG h.size fun k hk=>by cases hk;exact hw
end
end
section
open Go.RowKit
end
section
open Go.RowKit
def FW (r:Option Nat):Fence:={ Fence.wide with round:=r }
def JJ (o:Oper):Bool:=match o.op with
 | .defer _=>false
 | _=>true
section
variable {P:Program} {r:Option Nat} {n:Nat}
theorem Pm {o:Oper} {a:Act} {w:World} {K:Act→World→Prop} {Q:Exit→Act→World→Prop} (hd:JJ o=true) (h:o.wp P a w K Q):o.wpIn (FW r) n P a w K Q:=by
 have hd':∀ c,o.op ≠ .defer c:=fun c e=>by simp [JJ,e] at hd
 unfold Oper.wp at h;refine ⟨fun _ _=>trivial,?_⟩;rw [Oper.semAt_eq _ _ _ hd'];generalize (execOp a.eval o).run P w=x at h
 cases x with
 | ok x w' =>
  cases x with
  | value v=>exact h
  | skip=>exact h
  | defer d=>exact h
  | enter f args=>exact ⟨fun h=>by simp [FW,Fence.wide] at h,callsIn_wide.2 h⟩
  | row row args=>exact ⟨fun h=>by simp [FW,Fence.wide] at h,fun c cs _=>let ⟨v,w',q,s⟩:=h c cs;⟨v,w',q,stepsIn_wide.2 s⟩⟩
  | round _ _ _ _ _=>exact h.elim
  | _=>exact h
 | halt x w'=>cases x <;> exact h
variable {ops:Array Oper} {Q:Exit→Act→World→Prop} {i:Nat} {rest:List Nat} {o:Oper} {a:Act} {w:World} {m:List (Nat×Value)} {d:Nat} {v:Value} {N:Nat}
theorem Bj (ho:ops[i]? = some o) (hg:o.guard=none) (hd:JJ o=true)
  (h:∀ K:Act→World→Prop,(∀ a w,wpOpsIn (FW r) n P ops Q rest a w→K a w)→o.wp P a w K Q):wpOpsIn (FW r) n P ops Q (i :: rest) a w:=by
 rw [wpOpsIn,ho];simp only [Region.wanted,hg,if_true];exact Pm hd (h _ fun _ _ h=>h)
theorem D9 (h:Q .normal a w):wpOpsIn (FW r) n P ops Q [] a w:=h
theorem BJ {k:Nat} {b:Bool} {ok:Oper} {t:Nat} (ho:ops[i]? = some o) (hg:o.guard=some (k,b)) (hd:JJ o=true) (hk:ops[k]? = some ok) (ht:ok.dst=some t) (hv:a.tmps[t]? = some (.bool b))
  (h:∀ K:Act→World→Prop,(∀ a w,wpOpsIn (FW r) n P ops Q rest a w→K a w)→o.wp P a w K Q):wpOpsIn (FW r) n P ops Q (i :: rest) a w:=by
 rw [wpOpsIn,ho];simp only [Region.wanted,hg,yielded,hk,Option.bind_some,ht,hv,beq_self_eq_true,if_true];exact Pm hd (h _ fun _ _ h=>h)
theorem CG {k:Nat} {b c:Bool} {ok:Oper} {t:Nat} (ho:ops[i]? = some o) (hg:o.guard=some (k,b)) (hk:ops[k]? = some ok) (ht:ok.dst=some t) (hv:a.tmps[t]? = some (.bool c)) (hc:c≠b)
  (h:wpOpsIn (FW r) n P ops Q rest (a.put o.dst undef) w):wpOpsIn (FW r) n P ops Q (i :: rest) a w:=by
 rw [wpOpsIn,ho];have hb:(some c == some b)=false:=by simpa using hc
 simp only [Region.wanted,hg,yielded,hk,Option.bind_some,ht,hv,hb,Bool.false_eq_true,if_false];exact ⟨fun _ _=>trivial,h⟩
theorem Sl.kI (h:Sl a N m) {K:Act→World→Prop} (hK:∀ a w,wpOpsIn (FW r) n P ops Q rest a w→K a w) (hd:d < N) (hG:∀ a',Sl a' N ((d,v) :: m)→wpOpsIn (FW r) n P ops Q rest a' w):K (a.put (some d) v) w:=hK _ _ (hG _ (h.put d v hd))
theorem UN {l:Nat} {f:FuncId} {tmps:Array Value} {assign body:Code} {R:Ending→World→Prop} (h:RoundIn Fence.wide 0 P l f tmps assign body w R):RoundIn (FW r) n P l f tmps assign body w R :=
 ⟨trivial,fun c cs _=>h.2 c cs (room_wide _)⟩
theorem Uw {k:Nat} {l:Nat} {args:Array Value} {R:Ending→World→Prop} (h:YieldAt Fence.wide k P l args w R):YieldAt Fence.wide 0 P l args w R:=by
 obtain ⟨fn,tmps,assign,body,h1,h2⟩:=h;exact ⟨fn,tmps,assign,body,h1,trivial,fun c cs _=>h2.2 c cs (room_wide _)⟩
theorem Oj {K:Act→World→Prop} {s t:Nat} {ats:Array TypeId} {l:Nat} {x:Value} {R:Ending→World→Prop} (hop:o.op = .call { callee := .value (.tmp s),args:=#[.tmp t],argTypes:=ats }) (Es:a.tmps[s]? = some (.func (.yield l) #[] #[])) (Et:a.tmps[t]? = some x)
  (hy:YieldAt Fence.wide 0 P l #[x] w R) (h:∀ e w',R e w'→∃ u,e = .returned u∧K (a.put o.dst u) w'):o.wpIn (FW r) n P a w K Q:=by
 have ev:∀ {t:Nat} {v:Value},a.tmps[t]? = some v→a.eval (.tmp t)=v:=fun h=>by simp [Act.eval,Array.getD_eq_getD_getElem?,h]
 obtain ⟨fn,tmps,assign,body,h1,h2⟩:=hy;refine ⟨fun _ _=>trivial,?_⟩;rw [Oper.semAt_eq _ _ _ (fun c e=>by rw [hop] at e;simp at e)]
 have hrun:(execOp a.eval o).run P w = .ok (.round l fn tmps assign body) w:=by
  unfold execOp;simp only [hop,resolve,invoke,ev Es,Sem.run_bind,Sem.run_pure,Result.andThen_ok,List.map_toArray,List.map_cons,List.map_nil,ev Et]
  simpa [go_sem] using h1
 rw [hrun];refine ⟨fun h=>by simp [FW,Fence.wide] at h,(UN h2).mono fun e w' hR =>?_⟩;obtain ⟨u,rfl,hk⟩:=h e w' hR;exact hk
theorem MB {k:Nat} {b:Bool} {ok:Oper} {tt:Nat} {s t:Nat} {ats:Array TypeId} {l:Nat} {x:Value} {R:Ending→World→Prop} (ho:ops[i]? = some o) (hg:o.guard=some (k,b)) (hk:ops[k]? = some ok) (ht:ok.dst=some tt) (hv:a.tmps[tt]? = some (.bool b)) (hop:o.op = .call { callee := .value (.tmp s),args:=#[.tmp t],argTypes:=ats }) (Es:a.tmps[s]? = some (.func (.yield l) #[] #[])) (Et:a.tmps[t]? = some x)
  (hy:YieldAt Fence.wide 0 P l #[x] w R) (h:∀ e w',R e w'→∃ u,e = .returned u∧wpOpsIn (FW r) n P ops Q rest (a.put o.dst u) w'):wpOpsIn (FW r) n P ops Q (i :: rest) a w:=by
 rw [wpOpsIn,ho];simp only [Region.wanted,hg,yielded,hk,Option.bind_some,ht,hv,beq_self_eq_true,if_true];exact Oj hop Es Et hy h
theorem N9 (Inv:(Nat→Bool)→Act→World→Prop)
  (hs:∀ L a w i o,ops[i]? = some o→Inv L a w→L i=false→BB o L=true→wpOpIn (FW r) n P ops Q i (fun a' w'=>Inv (Bq L i true) a' w') a w)
  (he:∀ listed a w,listed.size=ops.size→Inv (Cm listed) a w→Region.ready .any ops listed=[]→Q .normal a w):∀ (k:Nat) (listed:Array Bool) (a:Act) (w:World),listed.size=ops.size→NM ops.size listed≤k→Inv (Cm listed) a w→wpAnyIn (FW r) n P .any ops Q k listed a w
 | 0,listed,a,w,hsz,hn,hI=>by
  have h0:=IX (ops:=ops) (listed:=listed) (by omega);exact ⟨h0,he listed a w hsz hI h0⟩
 | k+1,listed,a,w,hsz,hn,hI=>by
  refine ⟨fun h0=>he listed a w hsz hI h0,fun i hi =>?_⟩;obtain ⟨o,ho,hlt,h1,h2⟩:=mem_ready hsz hi;refine wpOpIn_mono ?_ (hs _ a w i o ho hI h1 h2);intro a' w' hI';have hle:=JL hsz hi;exact N9 Inv hs he k _ a' w' (by simpa using hsz) (by omega) (by rw [JV (by omega)];exact hI')
theorem Nv {id:Nat} (hm:P.follows .mixedOrders=true) (Inv:(Nat→Bool)→Act→World→Prop)
  (h0:Inv (fun _=>false) a w.drew)
  (hs:∀ L a w i o,ops[i]? = some o→Inv L a w→L i=false→BB o L=true→wpOpIn (FW r) n P ops Q i (fun a' w'=>Inv (Bq L i true) a' w') a w)
  (he:∀ L a w,(∀ i o,ops[i]? = some o→BB o L=true→L i=true)→Inv L a w→Q .normal a w):(Code.region id ops true).wpIn (FW r) n P Q a w:=by
 refine wpIn_region_any hm (N9 Inv hs ?_ ops.size _ a _ (by simp) (by rw [Hq];exact Nat.le_refl _) ?_)
 ·intro listed a w hsz hI hr;refine he _ a w (fun i o ho hre =>?_) hI;have hlt:=(Array.getElem?_eq_some_iff.1 ho).1
  cases hl:Cm listed i
  ·exfalso
   have hm:i∈Region.ready .any ops listed:=by
    unfold Region.ready;rw [List.mem_filter,List.mem_range,Bool.and_eq_true];refine ⟨hlt,?_,?_⟩
    ·have e:listed.getD i true=listed.getD i false:=by simp [Array.getD_eq_getD_getElem?,hsz,hlt]
     rw [e];unfold Cm at hl;rw [hl];rfl
    ·rw [ho];simpa [BB,Cm] using hre
   rw [hr] at hm;simp at hm
  ·rfl
 ·have e:Cm (Array.replicate ops.size false)=fun _=>false:=by
   funext k
   unfold Cm
   by_cases h:k < ops.size <;> simp [Array.getD_eq_getD_getElem?,h]
  rw [e];exact h0
theorem EU {K:Act→World→Prop} (ho:ops[i]? = some o) (hg:o.guard=none) (hd:JJ o=true) (h:∀ K':Act→World→Prop,(∀ a w,K a w→K' a w)→o.wp P a w K' Q):wpOpIn (FW r) n P ops Q i K a w:=by
 unfold wpOpIn;rw [ho];simp only [Region.wanted,hg,if_true];exact Pm hd (h _ fun _ _ h=>h)
theorem Rx {K:Act→World→Prop} {s t:Nat} {ats:Array TypeId} {l:Nat} {x:Value} {R:Ending→World→Prop} (ho:ops[i]? = some o) (hg:o.guard=none) (hop:o.op = .call { callee := .value (.tmp s),args:=#[.tmp t],argTypes:=ats }) (Es:a.tmps[s]? = some (.func (.yield l) #[] #[])) (Et:a.tmps[t]? = some x)
  (hy:YieldAt Fence.wide 0 P l #[x] w R) (h:∀ e w',R e w'→∃ u,e = .returned u∧K (a.put o.dst u) w'):wpOpIn (FW r) n P ops Q i K a w:=by
 unfold wpOpIn;rw [ho];simp only [Region.wanted,hg,if_true];exact Oj hop Es Et hy h
theorem OT {id:Nat} (hm:P.follows .mixedOrders=true) (Z:Sl a N m) (ds:List (Option Nat)) (hds:ops.toList.map Oper.dst=ds) (hok:okD N (m.map Prod.fst) ds=true) (hdag:dag ops=true)
  (V:Nat→Value→World→Prop) (I:(Nat→Bool)→World→Prop) (hI:I (fun _=>false) w.drew)
  (hk:∀ (k:Nat) (o:Oper),k < ops.size→ops[k]? = some o→∀ L a w,I L w→L k=false→Sl a N m→Fg ops V L a w→(∀ d∈waits o,L d=true)→wpOpIn (FW r) n P ops Q k (fun a' w'=>∃ v,a'=a.put o.dst v∧V k v w'∧I (Bq L k true) w'∧∀ j u,V j u w→V j u w') a w)
  (he:∀ L a w,(∀ k,k < ops.size→L k=true)→I L w→Sl a N m→Fg ops V L a w→Q .normal a w):(Code.region id ops true).wpIn (FW r) n P Q a w:=by
 have hd:∀ (j:Nat) (o:Oper),ops[j]? = some o→ds[j]? = some o.dst:=fun j o h=>by
  subst hds;rw [List.getElem?_map,Array.getElem?_toList,h];rfl
 refine Nv hm (fun L a' w'=>I L w'∧Sl a' N m∧Fg ops V L a' w') ⟨hI,Z,fun j o d _ _ h=>by simp at h⟩ ?_ ?_
 ·rintro L a' w' i o ho ⟨h1,h2,h3⟩ hli hri;have hi:=(Array.getElem?_eq_some_iff.1 ho).1;refine wpOpIn_mono ?_ (hk i o hi ho L a' w' h1 hli h2 h3 (CQ hri));rintro a2 w2 ⟨v,rfl,hv,hI2,hmono⟩;refine ⟨hI2,?_,?_⟩
  ·cases e:o.dst with
   | none=>exact h2
   | some d =>
    have hdd:=hd i o ho;rw [e] at hdd;obtain ⟨hlt,hnm⟩:=F7 hok hdd;have hp:=h2.put d v hlt;refine ⟨hp.size,hp.defers,fun t u hu=>hp.get t u ?_⟩;rw [List.lookup_cons]
    have e2:(t == d)=false:=by
     have:t≠d:=by rintro rfl;exact hnm (ES hu)
     simpa using this
    rw [e2];exact hu
  ·intro j o' d hj hjd hLj;have hdj:=hd j o' hj;rw [hjd] at hdj
   cases e:o.dst with
   | none =>
    have hne:j≠i:=by
     rintro rfl;rw [ho] at hj;obtain rfl:=Option.some.inj hj;rw [e] at hjd;simp at hjd
    rw [Ar _ _ hne] at hLj;obtain ⟨u,hu,hvu⟩:=h3 j o' d hj hjd hLj;exact ⟨u,hu,hmono _ _ hvu⟩
   | some x =>
    have hdi:=hd i o ho;rw [e] at hdi
    by_cases c:j=i
    ·subst c;rw [hdj] at hdi;obtain rfl:d=x:=by simpa using hdi
     obtain ⟨hlt,_⟩:=F7 hok hdj;exact ⟨v,by simp [Act.put,h2.size,hlt],hv⟩
    ·rw [Ar _ _ c] at hLj;obtain ⟨u,hu,hvu⟩:=h3 j o' d hj hjd hLj
     have hxd:x≠d:=by
      rintro rfl;exact c (Lj hok hdj hdi)
     refine ⟨u,?_,hmono _ _ hvu⟩;simp only [Act.put];rw [Array.getElem?_setIfInBounds_ne hxd];exact hu
 ·rintro L a' w' hall ⟨h1,h2,h3⟩;exact he L a' w' (Hy hdag hall) h1 h2 h3
end
def CO (B:Nat) (w w':World):Prop:=w.heap.size≤w'.heap.size∧∀ k,B≤k→k < w.heap.size→w'.heap[k]? = w.heap[k]?
theorem CO.refl (B:Nat) (w:World):CO B w w:=⟨Nat.le_refl _,fun _ _ _=>rfl⟩
theorem CO.trans {B:Nat} {w w1 w2:World} (h1:CO B w w1) (h2:CO B w1 w2):CO B w w2:=⟨Nat.le_trans h1.1 h2.1,fun k hk hl=>(h2.2 k hk (Nat.lt_of_lt_of_le hl h1.1)).trans (h1.2 k hk hl)⟩
theorem CO.mono {B B':Nat} {w w':World} (h:CO B w w') (hB:B≤B'):CO B' w w':=⟨h.1,fun k hk hl=>h.2 k (Nat.le_trans hB hk) hl⟩
theorem Below.Xb {w w':World} (h:Below w.heap.size w w') (B:Nat):CO B w w':=⟨h.size,fun k _ hl=>h.block k hl⟩
section
variable {α:Type} (own:α→Option Nat)
def Np (pre:List α) (k:Nat):Prop:=∃ x∈pre,own x=some k
def Zk (P:Program) (gf:FuncId) (cap:Array Value) (enc:α→Value) (Given:Nat→World→α→Prop) (Env:World→Prop) (Done:List α→Prop):Prop :=
 ∀ (l:Nat) (J:List α→World→Prop) (W:World),
  (∀ pre V,J pre V→Env V) →
  (∀ pre V V',J pre V→Below W.heap.size V V'→(∀ k,Np own pre k→V'.heap[k]? = V.heap[k]?)→J pre V') →
  (∀ pre V,J pre V→W.heap.size≤V.heap.size∧∀ k,Np own pre k→k < V.heap.size) →
  (∀ pre x V,J pre V→Given W.heap.size V x→YieldAt Fence.wide 0 P l #[enc x] V fun e V'=>e = .returned (.bool true)∧J (pre++[x]) V'∧CO W.heap.size V V') →
  J [] W→Calls P gf (#[.func (.yield l) #[] #[]]++cap) W fun e W'=>(∃ v,e = .returned v)∧∃ pre,Done pre∧J pre W'
theorem Dj {w V:World} {B:Nat} (h:Below B w V) {l:Nat} (o:Obj) (hl:B≤l):Below B w (V.putObj l o) :=
 h.trans ⟨rfl,rfl,rfl,by simp,fun _ hk=>World.putObj_heap_other (by omega)⟩
variable {own}
theorem KY {P:Program} {g:Operand} {p:Nat} {assign body:Code} {Q:Exit→Act→World→Prop} {a:Act} {w:World} {gf:FuncId} {cap:Array Value} {enc:α→Value} {Given:Nat→World→α→Prop} {Env:World→Prop} {Done:List α→Prop} (hit:Zk own P gf cap enc Given Env Done)
  (hg:a.eval g = .func (.func gf) #[] cap) (hinv:∀ (l:Nat) (W:World),(invoke (.fn (.func gf) cap) #[.func (.yield l) #[] #[]]).run P W = .ok (.enter gf (#[.func (.yield l) #[] #[]]++cap)) W)
  (I:List α→World→Prop) (hEnv:∀ pre V,I pre V→Env V)
  (hIk:∀ pre V V',I pre V→Below w.heap.size V V'→(∀ k,Np own pre k→V'.heap[k]? = V.heap[k]?)→I pre V')
  (hIo:∀ pre V,I pre V→w.heap.size≤V.heap.size∧∀ k,Np own pre k→∃ c t f,V.heap[k]? = some (.cells c t f))
  (hGo:∀ B V x k,Given B V x→own x=some k→k < V.heap.size)
  (h0:∀ W,Below w.heap.size w W→I [] W)
  (hround:∀ (l:Nat) pre x V rr,w.heap.size≤l→l < w.heap.size+2→I pre V→V.heap[l]? = some (.loop rr)→Given (w.heap.size+2) V x →
   assign.wpIn (FW (some l)) 3 P (Exit.then (fun a' V'=>CO w.heap.size V V'∧∀ o,body.wpIn (FW (some l)) 3 P (fun e _ V''=>e = .normal∧CO w.heap.size (V'.putObj l o) V''∧I (pre++[x]) V'') a' (V'.putObj l o)) (fun _ _ _=>False)) { tmps:=a.tmps.setIfInBounds p (enc x),defers:=[] } V)
  (hdone:∀ (D:Nat) pre (W:World),Done pre→I pre W→w.heap.size≤D→W.heap[D]? = some (.deferred (some []))→Q .normal { a with defers:={ target := .collected D,args:=#[] } :: a.defers } W) :
  (Code.rangeFunc g #[p] assign body).wp P Q a w:=by
 refine (wpIn_wide (n:=5)).1 (wpIn_rangeFunc ?_);intro fn hfn;obtain ⟨rec,hrec⟩:∃ rec:LoopState→Option Code→Loop,rec=fun st pe=>{ state:=st,pending:=pe,fn,tmps:=a.tmps,params:=#[p],assign,body,defers:=w.heap.size }:=⟨_,rfl⟩
 obtain ⟨W1,hW1⟩:∃ W1,(w.alloc (.deferred (some []))).alloc (.loop (rec .ready none))=W1:=⟨_,rfl⟩
 have hL1:W1.heap[w.heap.size+1]? = some (.loop (rec .ready none)):=by
  rw [← hW1];have:=World.alloc_heap_new (w.alloc (.deferred (some []))) (.loop (rec .ready none));rwa [World.size_alloc] at this
 have hK1:W1.heap[w.heap.size]? = some (.deferred (some [])):=by
  rw [← hW1];exact (Below.heap_alloc _ _ _ (by simp)).trans (World.alloc_heap_new w _)
 have hb1:Below w.heap.size w W1:=by
  rw [← hW1];exact ((Below.refl _ w).alloc (Nat.le_refl _) _).alloc (by simp) _
 have hz1:W1.heap.size=w.heap.size+2:=by rw [← hW1];simp
 refine ⟨w.heap.size+1,[{ target := .collected w.heap.size,args:=#[] }],W1,{ target := .fn (.func gf) cap,args:=#[.func (.yield (w.heap.size+1)) #[] #[]] },W1,gf,
  #[.func (.yield (w.heap.size+1)) #[] #[]]++cap,W1,?_,?_,?_,hinv _ _,fun _=>by omega,?_⟩
 ·rw [← hW1,hrec];exact run_enterLoop_outer _ _ _ _ _
 ·simp only [resolve,hg];simp [go_sem]
 ·intro f' hf';trivial
 ·refine callsIn_wide.2 ((hit (w.heap.size+1) (fun pre V=>I pre V∧V.heap[w.heap.size+1]? = some (.loop (rec .ready none))∧V.heap[w.heap.size]? = some (.deferred (some []))) W1
   (fun pre V h=>hEnv pre V h.1) ?_ ?_ ?_ ⟨h0 W1 hb1,hL1,hK1⟩).mono ?_)
  ·rintro pre V V' ⟨h1,h2,h3⟩ hb hk;exact ⟨hIk pre V V' h1 (hb.mono (by omega)) hk,(hb.block _ (by omega)).trans h2,(hb.block _ (by omega)).trans h3⟩
  ·rintro pre V ⟨h1,h2,h3⟩;refine ⟨by have:=(Array.getElem?_eq_some_iff.1 h2).1;omega,fun k hk =>?_⟩;obtain ⟨c,t,f,h⟩:=(hIo pre V h1).2 k hk;exact (Array.getElem?_eq_some_iff.1 h).1
  ·rintro pre x V ⟨h1,h2,h3⟩ hgv;rw [hz1] at hgv;have hlt:w.heap.size+1 < V.heap.size:=(Array.getElem?_eq_some_iff.1 h2).1;have hy:=run_yield (P:=P) (args:=#[enc x]) h2 (by rw [hrec];rfl);rw [hrec] at hy;have hy':(Instr.yield (w.heap.size+1) #[enc x]).run P V = .ok (.round (w.heap.size+1) fn (a.tmps.setIfInBounds p (enc x)) assign body) V:=by simpa using hy
   refine Uw (k:=3) ⟨fn,_,assign,body,hy',roundIn_of_wpIn trivial ?_⟩;refine wpIn_mono (hround (w.heap.size+1) pre x V _ (by omega) (by omega) h1 h2 hgv) ?_;rintro e a' V' he
   cases e with
   | normal =>
    obtain ⟨hkv,hbody⟩:=he;have h2':V'.heap[w.heap.size+1]? = some (.loop (rec .ready none)):=(hkv.2 _ (by omega) hlt).trans h2;have h3':V'.heap[w.heap.size]? = some (.deferred (some [])):=(hkv.2 _ (by omega) (by omega)).trans h3;refine ⟨_,run_beginRound h2' (by rw [hrec]),?_⟩;obtain ⟨V2,hV2⟩:∃ V2,V'.putObj (w.heap.size+1) (.loop { rec .ready none with state := .busy })=V2:=⟨_,rfl⟩;have hlt':w.heap.size+1 < V'.heap.size:=(Array.getElem?_eq_some_iff.1 h2').1;have hl2:V2.heap[w.heap.size+1]? = some (.loop { rec .ready none with state := .busy }):=by rw [← hV2];exact World.putObj_heap_same hlt'
    have hk2:V2.heap[w.heap.size]? = some (.deferred (some [])):=by rw [← hV2];exact (World.putObj_heap_other (by omega)).trans h3'
    have ho2:∀ k,k≠w.heap.size+1→V2.heap[k]? = V'.heap[k]?:=fun k hk=>by rw [← hV2];exact World.putObj_heap_other hk
    have hs2:V2.heap.size=V'.heap.size:=by rw [← hV2];simp
    have hB:=hbody (.loop { rec .ready none with state := .busy });rw [hV2] at hB ⊢;refine wpIn_mono hB ?_;rintro e a3 V3 ⟨rfl,hk3,hI3⟩;have hl3:V3.heap[w.heap.size+1]? = V2.heap[w.heap.size+1]?:=hk3.2 _ (by omega) (by omega);have hd3:V3.heap[w.heap.size]? = some (.deferred (some [])):=(hk3.2 _ (Nat.le_refl _) (by omega)).trans hk2
    have fin:(Instr.endRound (w.heap.size+1) none).run P V3 = .ok (.bool true) (V3.putObj (w.heap.size+1) (.loop (rec .ready none))):=by
     have:=run_endRound (P:=P) none (hl3.trans hl2);rw [hrec] at this ⊢;exact this
    have hlt3:w.heap.size+1 < V3.heap.size:=(Array.getElem?_eq_some_iff.1 (hl3.trans hl2)).1
    have hI4:I (pre++[x]) (V3.putObj (w.heap.size+1) (.loop (rec .ready none))):=by
     refine hIk _ V3 _ hI3 (Dj (Below.refl _ _) _ (by omega)) fun k hk=>World.putObj_heap_other ?_
     rintro rfl;obtain ⟨c,t,f,h⟩:=(hIo _ V3 hI3).2 _ hk;rw [hl3,hl2] at h;simp at h
    refine ⟨_,_,fin,rfl,⟨hI4,World.putObj_heap_same hlt3,(World.putObj_heap_other (by omega)).trans hd3⟩,⟨by simp;have:=hk3.1;have:=hkv.1;omega,fun k hk1 hk2 =>?_⟩⟩;rw [World.putObj_heap_other (by omega),hk3.2 k (by omega) (by have:=hkv.1;omega),ho2 k (by omega),hkv.2 k (by omega) hk2]
   | exit i=>exact he.elim
   | ret=>exact he.elim
   | goto t=>exact he.elim
   | panic ch=>exact he.elim
   | outgrown=>exact he.elim
  ·rintro e W2 ⟨⟨v,rfl⟩,pre,hd,hI2,hl2,hd2⟩;refine ⟨none,_,by have:=run_endLoop (P:=P) hl2 (by rw [hrec];simp);rw [hrec] at this;exact this,hdone _ pre _ hd ?_ (Nat.le_refl _) ((World.putObj_heap_other (by omega)).trans hd2)⟩;refine hIk _ W2 _ hI2 (Dj (Below.refl _ _) _ (by omega)) fun k hk=>World.putObj_heap_other ?_
   rintro rfl;obtain ⟨c,t,f,h⟩:=(hIo _ W2 hI2).2 _ hk;rw [hl2] at h;simp at h
end
end
section
open Go.RowKit
theorem G7 {Γ:Type} {P:Program} {id:Nat} {Q:Exit→Act→World→Prop} {a:Act} {w:World} {ops:Array Oper} {n:Nat} {m:List (Nat×Value)} (hm:P.follows .mixedOrders=true) (Z:Sl a n m) (ds:List (Option Nat)) (hds:ops.toList.map Oper.dst=ds) (hok:okD n (m.map Prod.fst) ds=true) (hdag:dag ops=true)
  (V:Γ→Nat→Value→Prop) (I:Γ→(Nat→Bool)→World→Prop) (g0:Γ) (hI:I g0 (fun _=>false) w.drew)
  (hk:∀ (k:Nat) (o:Oper),k < ops.size→ops[k]? = some o→∀ g L a w,I g L w→L k=false→Sl a n m→Fg ops (fun j v _=>V g j v) L a w→(∀ d∈waits o,L d=true)→wpOp P ops Q k (fun a' w'=>∃ g' v,a'=a.put o.dst v∧V g' k v∧I g' (Bq L k true) w'∧∀ j u,L j=true→V g j u→V g' j u) a w)
  (he:∀ g L a w,(∀ k,k < ops.size→L k=true)→I g L w→Sl a n m→Fg ops (fun j v _=>V g j v) L a w→Q .normal a w):(Code.region id ops true).wp P Q a w:=by
 have hd:∀ (j:Nat) (o:Oper),ops[j]? = some o→ds[j]? = some o.dst:=fun j o h=>by
  subst hds;rw [List.getElem?_map,Array.getElem?_toList,h];rfl
 refine DW hm (fun L a' w'=>∃ g,I g L w'∧Sl a' n m∧Fg ops (fun j v _=>V g j v) L a' w') ⟨g0,hI,Z,fun j o d _ _ h=>by simp at h⟩ ?_ ?_
 ·rintro L a' w' i o ho ⟨g,h1,h2,h3⟩ hli hri;have hi:=(Array.getElem?_eq_some_iff.1 ho).1;refine wpOp_mono ?_ (hk i o hi ho g L a' w' h1 hli h2 h3 (CQ hri));rintro a2 w2 ⟨g',v,rfl,hv,hI2,hmono⟩;refine ⟨g',hI2,?_,?_⟩
  ·cases e:o.dst with
   | none=>exact h2
   | some d =>
    have hdd:=hd i o ho;rw [e] at hdd;obtain ⟨hlt,hnm⟩:=F7 hok hdd;have hp:=h2.put d v hlt;refine ⟨hp.size,hp.defers,fun t u hu=>hp.get t u ?_⟩;rw [List.lookup_cons]
    have e2:(t == d)=false:=by
     have:t≠d:=by rintro rfl;exact hnm (ES hu)
     simpa using this
    rw [e2];exact hu
  ·intro j o' d hj hjd hLj;have hdj:=hd j o' hj;rw [hjd] at hdj
   cases e:o.dst with
   | none =>
    have hne:j≠i:=by
     rintro rfl;rw [ho] at hj;obtain rfl:=Option.some.inj hj;rw [e] at hjd;simp at hjd
    rw [Ar _ _ hne] at hLj;obtain ⟨u,hu,hvu⟩:=h3 j o' d hj hjd hLj;exact ⟨u,hu,hmono _ _ hLj hvu⟩
   | some x =>
    have hdi:=hd i o ho;rw [e] at hdi
    by_cases c:j=i
    ·subst c;rw [hdj] at hdi;obtain rfl:d=x:=by simpa using hdi
     obtain ⟨hlt,_⟩:=F7 hok hdj;exact ⟨v,by simp [Act.put,h2.size,hlt],hv⟩
    ·rw [Ar _ _ c] at hLj;obtain ⟨u,hu,hvu⟩:=h3 j o' d hj hjd hLj
     have hxd:x≠d:=by
      rintro rfl;exact c (Lj hok hdj hdi)
     refine ⟨u,?_,hmono _ _ hLj hvu⟩;simp only [Act.put];rw [Array.getElem?_setIfInBounds_ne hxd];exact hu
 ·rintro L a' w' hall ⟨g,h1,h2,h3⟩;exact he g L a' w' (Hy hdag hall) h1 h2 h3
end
section
open Go.RowKit
def GI (x:World) (a s:Nat) (c0 c1:Array Value) (t:TypeId) (g:Nat) (L:Nat→Bool) (y:World):Prop :=
 (L s=true→L a=true)∧(L a=true→x.heap.size≤g∧Rw y g (bif L s then c1 else c0) t)
section
variable {x y y2:World} {a s:Nat} {c0 c1:Array Value} {t:TypeId} {g:Nat} {L:Nat→Bool}
theorem GI.init:GI x a s c0 c1 t g (fun _=>false) y:=⟨fun h=>by simp at h,fun h=>by simp at h⟩
theorem GI.below (h:GI x a s c0 c1 t g L y) (hb:Below y.heap.size y y2):GI x a s c0 c1 t g L y2:=⟨h.1,fun ha=>⟨(h.2 ha).1,(h.2 ha).2.below hb⟩⟩
theorem GI.other (h:GI x a s c0 c1 t g L y) {j:Nat} (h1:a≠j) (h2:s≠j):GI x a s c0 c1 t g (Bq L j true) y:=by
 refine ⟨?_,?_⟩
 ·rw [Ar _ _ h1,Ar _ _ h2];exact h.1
 ·rw [Ar _ _ h1,Ar _ _ h2];exact h.2
theorem GI.made (h:GI x a s c0 c1 t g L y) (hla:L a=false) (hx:x.heap.size≤y.heap.size) (hne:s≠a):GI x a s c0 c1 t y.heap.size (Bq L a true) (y.alloc (.cells c0 t)):=by
 have hls:L s=false:=by
  cases e:L s with
  | false=>rfl
  | true=>rw [h.1 e] at hla;exact absurd hla (by decide)
 refine ⟨fun _=>by simp [Bq],fun _=>⟨hx,?_⟩⟩;rw [Ar _ _ hne,hls];exact Rw.new _ _ _
theorem GI.get (h:GI x a s c0 c1 t g L y) (hla:L a=true) (hls:L s=false):Rw y g c0 t:=by have:=(h.2 hla).2;rw [hls] at this;exact this
theorem GI.full (h:GI x a s c0 c1 t g L y) (hla:L a=true) (hls:L s=true):x.heap.size≤g∧Rw y g c1 t:=by have:=h.2 hla;rw [hls] at this;exact this
theorem GI.far (h:GI x a s c0 c1 t g L y) {g2:Nat} (hne:L a=true→g≠g2) (o:Nat) (v:Value):GI x a s c0 c1 t g L (y.setCell ⟨g2,o,none⟩ v):=⟨h.1,fun ha=>⟨(h.2 ha).1,(h.2 ha).2.far (hne ha) o v⟩⟩
theorem GI.stored (h:GI x a s c0 c1 t g L y) (hla:L a=true) (hne:a≠s) (hr:Rw y2 g c1 t):GI x a s c0 c1 t g (Bq L s true) y2:=by
 refine ⟨fun _=>by rw [Ar _ _ hne];exact hla,fun _=>⟨(h.2 hla).1,?_⟩⟩;have e:Bq L s true s=true:=by simp [Bq]
 rw [e];exact hr
theorem GI.lt (h:GI x a s c0 c1 t g L y) (hla:L a=true):g < y.heap.size:=(h.2 hla).2.lt
end
end
end Go.Proofs.Ytgdobbcjkiapkaa
