import Derived.Test.YtgdobbcjkiapkaaSv13
import Derived.Test.YtgdobbcjkiapkaaSv01
import Derived.Conc.CompanyMem
import Derived.Test.YtgdobbcjkiapkaaSv04
import Derived.Conc.SmallLaws
namespace Go.Proofs.Ytgdobbcjkiapkaa
set_option maxRecDepth 100000
set_option maxHeartbeats 4000000
set_option linter.unusedSimpArgs false
set_option linter.unusedVariables false
section
open Go Go.Conc
open Go.RowKit
section
variable {P:Program}{main:Bool}{R:World→World→Prop}{D:World→World→Array Event→Prop}{fn:FuncId}{Q:Exit→Act→World→Prop}{a:Act}{w:World}
theorem Xp (T:Terms R D) {ops:Array Oper}{todo:List Nat}{n:Nat}{w₁:World}(h:OpsC P main R D fn ops todo n Q a w) (hr:R w w₁):OpsC P main R D fn ops todo n Q a w₁ :=
 fun b k cs Stop m hb hk hc=>(h b k cs Stop m hb hk hc).rely T.trans hr
theorem Ai (T:Terms R D) {ops:Array Oper}{i:Nat}{rest:List Nat}{o:Oper}{n:Nat}(v:Value) (ho:ops[i]?=some o) (hg:o.guard=none)
  (h:∀ w₁,R w w₁→(execOp a.eval o).run P w₁=.ok (.value v) w₁∧D w₁ w₁ (listed P fn a o w₁)) (hn:OpsC P main R D fn ops rest n Q (a.put o.dst v) w):OpsC P main R D fn ops (i::rest) (n+1) Q a w :=
 opsC_cons ho (by simp[Region.wanted,hg]) fun w₁ h₁=>by
  obtain⟨h2,h3⟩:=h w₁ h₁;rw[h2];exact⟨h3,Xp T hn h₁⟩
def OpN (P:Program) (main:Bool) (R:World→World→Prop) (D:World→World→Array Event→Prop) (fn:FuncId) (ops:Array Oper) (i m:Nat) (K:Act→World→Prop) (a:Act) (w:World):Prop :=
 ∀ (b:Frame) (k:List Item) (cs:List Frame) (Stop:Goroutine→World→Prop) (rest:List Nat) (n:Nat),b.fn=fn→b.kind ≠ .early →
  (∀ a' w',K a' w'→Goes P main R D Stop n (G (b.at a' (.inRegion ops rest::k)) cs) w')→Goes P main R D Stop (n+m) (G (b.at a (.inRegion ops (i::rest)::k)) cs) w
theorem OpN.ops {ops:Array Oper}{i m:Nat}{K:Act→World→Prop}(h:OpN P main R D fn ops i m K a w) {rest:List Nat}{n:Nat}(hK:∀ a' w',K a' w'→OpsC P main R D fn ops rest n Q a' w'):OpsC P main R D fn ops (i::rest) (n+m) Q a w :=
 fun b k cs Stop m' hb hk hc=>by
  have:=h b k cs Stop rest (m'+n) hb hk fun a' w' x=>hK a' w' x b k cs Stop m' hb hk hc
  exact this.mono (by omega)
theorem OpN.rely (T:Terms R D) {ops:Array Oper}{i m:Nat}{K:Act→World→Prop}{w₁:World}(h:OpN P main R D fn ops i m K a w) (hr:R w w₁):OpN P main R D fn ops i m K a w₁ :=
 fun b k cs Stop rest n hb hk hK=>(h b k cs Stop rest n hb hk hK).rely T.trans hr
theorem OpN.more {ops:Array Oper}{i m m':Nat}{K:Act→World→Prop}(h:OpN P main R D fn ops i m K a w) (hm:m≤m'):OpN P main R D fn ops i m' K a w :=
 fun b k cs Stop rest n hb hk hK=>(h b k cs Stop rest n hb hk hK).mono (by omega)
theorem OpN.mono {ops:Array Oper}{i m:Nat}{K K':Act→World→Prop}(h:OpN P main R D fn ops i m K a w) (hm:∀ a w,K a w→K' a w):OpN P main R D fn ops i m K' a w :=
 fun b k cs Stop rest n hb hk hK=>h b k cs Stop rest n hb hk fun a' w' x=>hK a' w' (hm _ _ x)
theorem AC {ops:Array Oper}{i:Nat}{o:Oper}{K:Act→World→Prop}(v:Value) (ho:ops[i]?=some o) (hg:o.guard=none)
  (h:∀ w₁,R w w₁→(execOp a.eval o).run P w₁=.ok (.value v) w₁∧D w₁ w₁ (listed P fn a o w₁)) (hK:∀ w₁,R w w₁→K (a.put o.dst v) w₁):OpN P main R D fn ops i 1 K a w :=
 fun b k cs Stop rest n hb hk hn=>Goes.step rfl fun w₁ h₁=>goes_oper ho (by simp[Region.wanted,hg]) hk (by
  obtain⟨h2,h3⟩:=h w₁ h₁;rw[h2,hb];exact⟨h3,hn _ _ (hK w₁ h₁)⟩)
theorem Uo (T:Terms R D) {ops:Array Oper}{i:Nat}{o:Oper}{f:FuncId}{args:Array Operand}{ats:Array TypeId}{nf:Nat}{Post:Value→World→Prop}{K:Act→World→Prop}
  (ho:ops[i]?=some o) (hg:o.guard=none) (hop:o.op=.call { callee:=.value (.func f),args,argTypes:=ats }) (hcall:CallsC P main R D f (args.map a.eval) nf w Post) (hK:∀ v w',Post v w'→K (a.put o.dst v) w') :
  OpN P main R D fn ops i (nf+3) K a w :=
 fun b k cs Stop rest n hb hk hn=>by
  have:=Goes.call (Stop:=Stop) (m:=n) (b:=b) (k:=k) (cs:=cs) (rest:=rest) T ho (by simp[Region.wanted,hg]) hk hop hcall fun v w' hp=>hn _ _ (hK v w' hp)
  exact this.mono (by omega)
theorem Goes.AbA (T:Terms R D) {b:Frame}{k:List Item}{cs:List Frame}{ops:Array Oper}{i:Nat}{rest:List Nat}{o:Oper}{f:FuncId}{av:Array Value}{nf m:Nat}{Post:Value→World→Prop}{Stop:Goroutine→World→Prop}
  (ho:ops[i]?=some o) (hw:Region.wanted o (yielded ops a.tmps)=true) (hk:b.kind ≠ .early) (hr:∀ w,(execOp a.eval o).run P w=.ok (.enter f av) w∧listed P b.fn a o w = #[])
  (hcall:CallsC P main R D f av nf w Post) (hnext:∀ v w',Post v w'→Goes P main R D Stop m (G (b.at (a.put o.dst v) (.inRegion ops rest::k)) cs) w') :
  Goes P main R D Stop (m+nf+3) (G (b.at a (.inRegion ops (i::rest)::k)) cs) w:=by
 obtain⟨F,c,hf,hname,hbody,hwp⟩:=hcall;have hfin:∀ v,(b.at a (.inRegion ops (i::rest)::k)).finish v=b.at (a.put o.dst v) (.inRegion ops rest::k):=fun v=>by rw[Frame.finish_at,ho];rfl
 have hleave:∀ (a':Act) (w':World) (todo:List Item),(a'.defers=[]∧∃ v,ResultsC P F a'.tmps v∧Post v w') →
   Goes P main R D Stop (m+1) (G { (base f).at a' todo with mode:=.returning } (b.at a (.inRegion ops (i::rest)::k)::cs)) w':=by
  rintro a' w' todo ⟨hd,v,hr,hp⟩;refine Goes.step rfl fun w₁ h₁=>?_
  rw[stepG_leave (b:=base f) rfl hd hf (hr w₁).1 (hr w₁).2,hfin];exact⟨T.idle _,(hnext v w' hp).rely T.trans h₁⟩
 have hbodyG:Goes P main R D Stop (m+2+nf) (G ((base f).at { tmps:=av++Array.replicate (F.ntmps-av.size) undef,defers:=[] } [.code c]) (b.at a (.inRegion ops (i::rest)::k)::cs)) w:=by
  refine hwp (base f) [] _ Stop (m+2) rfl (by simp[base]) fun e a' w' q=>?_
  cases e with
  | normal=>exact Goes.step rfl fun w₁ h₁=>by rw[stepG_end];exact⟨T.idle _,(hleave a' w' [] q).rely T.trans h₁⟩
  | ret=>exact fun todo=>(hleave a' w' todo q).more
  | exit id=>exact q.elim
  | goto l=>exact q.elim
  | panic ch=>exact q.elim
  | outgrown=>exact q.elim
 have e:m+nf+3=(m+2+nf)+1:=by omega
 rw[e];refine Goes.step rfl fun w₁ h₁=>?_
 rw[stepG_enter ho hw hk (hr w₁).1,enter_at av hf hbody,(hr w₁).2];exact⟨T.idle _,hbodyG.rely T.trans h₁⟩
theorem Vk (T:Terms R D) {ops:Array Oper}{i:Nat}{rest:List Nat}{o:Oper}{f:FuncId}{av:Array Value}{nf n:Nat}{Post:Value→World→Prop}
  (ho:ops[i]?=some o) (hg:o.guard=none) (hr:∀ w,(execOp a.eval o).run P w=.ok (.enter f av) w∧listed P fn a o w = #[])
  (hcall:CallsC P main R D f av nf w Post) (hnext:∀ v w',Post v w'→OpsC P main R D fn ops rest n Q (a.put o.dst v) w'):OpsC P main R D fn ops (i::rest) (n+nf+3) Q a w:=by
 intro b k cs Stop m hb hk hc;have:=Goes.AbA (Stop:=Stop) (m:=m+n) (b:=b) (k:=k) (cs:=cs) T ho (by simp[Region.wanted,hg]) hk (fun w=>by rw[hb];exact hr w) hcall fun v w' hp=>hnext v w' hp b k cs Stop m hb hk hc
 exact this.mono (by omega)
theorem Xq (T:Terms R D) {ops:Array Oper}{i:Nat}{o:Oper}{f:FuncId}{av:Array Value}{nf:Nat}{Post:Value→World→Prop}{K:Act→World→Prop}
  (ho:ops[i]?=some o) (hg:o.guard=none) (hr:∀ w,(execOp a.eval o).run P w=.ok (.enter f av) w∧listed P fn a o w = #[])
  (hcall:CallsC P main R D f av nf w Post) (hK:∀ v w',Post v w'→K (a.put o.dst v) w'):OpN P main R D fn ops i (nf+3) K a w :=
 fun b k cs Stop rest n hb hk hn=>by
  have:=Goes.AbA (Stop:=Stop) (m:=n) (b:=b) (k:=k) (cs:=cs) (rest:=rest) T ho (by simp[Region.wanted,hg]) hk (fun w=>by rw[hb];exact hr w) hcall fun v w' hp=>hn _ _ (hK v w' hp)
  exact this.mono (by omega)
theorem Zd (T:Terms R D) {ops:Array Oper}(B:Nat) (Inv:(Nat→Bool)→Act→World→Prop)
  (hs:∀ L a w i o,ops[i]?=some o→Inv L a w→L i=false→BP o L=true→OpN P main R D fn ops i B (fun a' w'=>Inv (BC L i true) a' w') a w)
  (he:∀ listed a w,listed.size=ops.size→Inv (Dh listed) a w→Region.ready .any ops listed=[]→Q .normal a w) :
  ∀ (n t:Nat) (listed:Array Bool) (a:Act) (w:World),listed.size=ops.size→OB ops.size listed≤n→Inv (Dh listed) a w→OpsC P main R D fn ops (Region.linearise.go .any ops n t listed []) (n*B+1) Q a w:=by
 intro n
 induction n with
 | zero =>
  intro t listed a w hsz hn hI;have h0:=Jm (ops:=ops) (listed:=listed) (by omega)
  simpa[Region.linearise.go] using opsC_nil T (he listed a w hsz hI h0)
 | succ n ih =>
  intro t listed a w hsz hn hI;simp only[Region.linearise.go]
  change OpsC P main R D fn ops (match (Region.ready .any ops listed)[t % (Region.ready .any ops listed).length]? with
   | some i=>Region.linearise.go .any ops n (t / (Region.ready .any ops listed).length) (listed.setIfInBounds i true) [i]
   | none=>[].reverse) ((n+1)*B+1) Q a w
  cases hi:(Region.ready .any ops listed)[t % (Region.ready .any ops listed).length]? with
  | none =>
   have hnil:Region.ready .any ops listed=[]:=by
    cases hr:Region.ready .any ops listed with
    | nil=>rfl
    | cons x xs =>
     rw[hr]at hi;have hlt:t % (x::xs).length<(x::xs).length:=Nat.mod_lt _ (by simp);simp at hi;simp at hlt
     omega
   exact opsC_more (by simpa using opsC_nil T (he listed a w hsz hI hnil)) (by omega)
  | some i =>
   simp only[];rw[linearise_go_acc,List.reverse_singleton,List.singleton_append];obtain⟨o,ho,hlt,h1,h2⟩:=mem_ready hsz (List.mem_of_getElem? hi)
   have:=(hs _ a w i o ho hI h1 h2).ops (n:=n*B+1) (Q:=Q) fun a' w' hI'=>ih (t / (Region.ready .any ops listed).length) (listed.setIfInBounds i true) a' w' (by simpa using hsz) (by
    have hle:=KF hsz (List.mem_of_getElem? hi)
    omega) (by rw[KR (by omega)];exact hI')
   exact opsC_more this (by rw[Nat.succ_mul];omega)
theorem Oi (hm:P.follows .mixedOrders=true) (T:Terms R D) (hd:LetsDraw D) {id:Nat}{ops:Array Oper}(B:Nat) (Inv:(Nat→Bool)→Act→World→Prop)
  (h0:∀ w₁,R w w₁→Inv (fun _=>false) a { w₁ with drawn:=w₁.drawn+1 })
  (hs:∀ L a w i o,ops[i]?=some o→Inv L a w→L i=false→BP o L=true→OpN P main R D fn ops i B (fun a' w'=>Inv (BC L i true) a' w') a w)
  (he:∀ L a w,(∀ i o,ops[i]?=some o→BP o L=true→L i=true)→Inv L a w→Q .normal a w):(Code.region id ops true).wpC P main R D fn (ops.size*B+2) Q a w:=by
 refine wpC_region_draw hd fun w₁ h₁ t=>?_
 have e:Dh (Array.replicate ops.size false)=fun _=>false:=by
  funext k
  unfold Dh
  by_cases h:k<ops.size<;>simp[Array.getD_eq_getD_getElem?,h]
 have:=Zd (Q:=Q) T B Inv hs (fun listed a w hsz hI hr=>he _ a w (fun i o ho hre=>by
  have hlt:=(Array.getElem?_eq_some_iff.1 ho).1
  cases hl:Dh listed i
  ·exfalso
   have hm:i∈Region.ready .any ops listed:=by
    unfold Region.ready;rw[List.mem_filter,List.mem_range,Bool.and_eq_true];refine⟨hlt,?_,?_⟩
    ·have e:listed.getD i true=listed.getD i false:=by simp[Array.getD_eq_getD_getElem?,hsz,hlt]
     rw[e];unfold Dh at hl;rw[hl];rfl
    ·rw[ho];simpa[BP,Dh] using hre
   rw[hr]at hm;simp at hm
  ·rfl) hI) ops.size t (Array.replicate ops.size false) a _ (by simp) (by rw[Io];exact Nat.le_refl _) (by rw[e];exact h0 w₁ h₁)
 unfold Region.schedule;simp only[hm];exact opsC_more this (by omega)
def N8 (ops:Array Oper) (V:Nat→Value→Prop) (L:Nat→Bool) (a:Act):Prop:=∀ j o d,ops[j]?=some o→o.dst=some d→L j=true→∃ v,a.tmps[d]?=some v∧V j v
theorem N8.more {ops:Array Oper}{n:Nat}{m:List (Nat×Value)}{ds:List (Option Nat)}(hds:ops.toList.map Oper.dst=ds) (hok:okD n (m.map Prod.fst) ds=true) {V:Nat→Value→Prop}{L:Nat→Bool}{i:Nat}{o:Oper}{v:Value}(ho:ops[i]?=some o) (h2:Sl a n m) (h3:N8 ops V L a) (hv:V i v) :
  Sl (a.put o.dst v) n m∧N8 ops V (BC L i true) (a.put o.dst v):=by
 have hd':∀ (j:Nat) (o:Oper),ops[j]?=some o→ds[j]?=some o.dst:=fun j o h=>by
  subst hds;rw[List.getElem?_map,Array.getElem?_toList,h];rfl
 refine⟨?_,?_⟩
 ·cases e:o.dst with
  | none=>exact h2
  | some d =>
   have hdd:=hd' i o ho;rw[e]at hdd;obtain⟨hlt,hnm⟩:=FY hok hdd;have hp:=h2.put d v hlt;refine⟨hp.size,hp.defers,fun t u hu=>hp.get t u ?_⟩;rw[List.lookup_cons]
   have e2:(t == d)=false:=by
    have:t≠d:=by rintro rfl;exact hnm (ES hu)
    simpa using this
   rw[e2];exact hu
 ·intro j o' d hj hjd hLj;have hdj:=hd' j o' hj;rw[hjd]at hdj
  cases e:o.dst with
  | none =>
   have hne:j≠i:=by
    rintro rfl;rw[ho]at hj;obtain rfl:=Option.some.inj hj;rw[e]at hjd;simp at hjd
   rw[Ap _ _ hne]at hLj;exact h3 j o' d hj hjd hLj
  | some x =>
   have hdi:=hd' i o ho;rw[e]at hdi
   by_cases c:j=i
   ·subst c;rw[hdj]at hdi;obtain rfl:d=x:=by simpa using hdi
    obtain⟨hlt,_⟩:=FY hok hdj;exact⟨v,by simp[Act.put,h2.size,hlt],hv⟩
   ·rw[Ap _ _ c]at hLj;obtain⟨u,hu,hvu⟩:=h3 j o' d hj hjd hLj
    have hxd:x≠d:=by
     rintro rfl;exact c (Ky hok hdj hdi)
    refine⟨u,?_,hvu⟩;simp only[Act.put];rw[Array.getElem?_setIfInBounds_ne hxd];exact hu
theorem Ig (hm:P.follows .mixedOrders=true) (T:Terms R D) (hd:LetsDraw D) (hdr:∀ w:World,R w { w with drawn:=w.drawn+1 }) {id:Nat}{ops:Array Oper}(B:Nat) {n:Nat}{m:List (Nat×Value)}(Z:Sl a n m) (ds:List (Option Nat)) (hds:ops.toList.map Oper.dst=ds)
  (hok:okD n (m.map Prod.fst) ds=true) (hdag:dag ops=true) (V:Nat→Value→Prop)
  (hk:∀ (k:Nat) (o:Oper),k<ops.size→ops[k]?=some o→∀ L a,L k=false→Sl a n m→N8 ops V L a→(∀ d∈waits o,L d=true)→OpN P main R D fn ops k B (fun a' w'=>R w w'∧∃ v,a'=a.put o.dst v∧V k v) a w)
  (he:∀ a w',R w w'→Sl a n m→(∀ j o d,ops[j]?=some o→o.dst=some d→∃ v,a.tmps[d]?=some v∧V j v)→Q .normal a w'):(Code.region id ops true).wpC P main R D fn (ops.size*B+2) Q a w:=by
 refine Oi hm T hd B (fun L a' w'=>R w w'∧Sl a' n m∧N8 ops V L a') (fun w₁ h₁=>⟨T.trans _ _ _ h₁ (hdr w₁),Z,fun j o d _ _ h=>by simp at h⟩) ?_ ?_
 ·rintro L a' w' i o ho ⟨h1,h2,h3⟩ hli hri;have hi:=(Array.getElem?_eq_some_iff.1 ho).1;refine((hk i o hi ho L a' hli h2 h3 (CX hri)).rely T h1).mono ?_;rintro a2 w2 ⟨hI2,v,rfl,hv⟩;exact⟨hI2,h3.more hds hok ho h2 hv⟩
 ·rintro L a' w' hall ⟨h1,h2,h3⟩;exact he a' w' h1 h2 fun j o d hj hjd=>h3 j o d hj hjd (GY hdag hall j (Array.getElem?_eq_some_iff.1 hj).1)
theorem XK (T:Terms R D) {ops:Array Oper}(B z:Nat) (hsz:ops.size=z+1) (hanc:Pq ops z=true) (hdag:dag ops=true) (Inv:(Nat→Bool)→Act→World→Prop) {b:Frame}{k:List Item}{cs:List Frame}{Stop:Goroutine→World→Prop}(hb:b.fn=fn) (hk:b.kind ≠ .early)
  (hs:∀ L a w i o,i<z→ops[i]?=some o→Inv L a w→L i=false→BP o L=true→OpN P main R D fn ops i B (fun a' w'=>Inv (BC L i true) a' w') a w)
  (hz:∀ L a w,(∀ i,i<z→L i=true)→Inv L a w→Goes P main R D Stop 0 (G (b.at a (.inRegion ops [z]::k)) cs) w) :
  ∀ (n t:Nat) (listed:Array Bool) (a:Act) (w:World),listed.size=ops.size→OB ops.size listed≤n→Dh listed z=false→(∀ i o,ops[i]?=some o→Dh listed i=true→BP o (Dh listed)=true)→Inv (Dh listed) a w →
   Goes P main R D Stop (n*B) (G (b.at a (.inRegion ops (Region.linearise.go .any ops n t listed [])::k)) cs) w:=by
 have hgone:∀ (listed:Array Bool),listed.size=ops.size→Region.ready .any ops listed=[]→Dh listed z=true:=fun listed hls hr=>GY hdag (fun i o ho hre=>by
  have hlt:=(Array.getElem?_eq_some_iff.1 ho).1
  cases hl:Dh listed i
  ·exfalso
   have hm:i∈Region.ready .any ops listed:=by
    unfold Region.ready;rw[List.mem_filter,List.mem_range,Bool.and_eq_true];refine⟨hlt,?_,?_⟩
    ·have e:listed.getD i true=listed.getD i false:=by simp[Array.getD_eq_getD_getElem?,hls,hlt]
     rw[e];unfold Dh at hl;rw[hl];rfl
    ·rw[ho];simpa[BP,Dh] using hre
   rw[hr]at hm;simp at hm
  ·rfl) z (by omega)
 intro n
 induction n with
 | zero =>
  intro t listed a w hls hn hdz _ hI;have h0:=hgone listed hls (Jm (ops:=ops) (listed:=listed) (by omega));rw[hdz]at h0;cases h0
 | succ n ih =>
  intro t listed a w hls hn hdz hcl hI;simp only[Region.linearise.go]
  change Goes P main R D Stop ((n+1)*B) (G (b.at a (.inRegion ops (match (Region.ready .any ops listed)[t % (Region.ready .any ops listed).length]? with
   | some i=>Region.linearise.go .any ops n (t / (Region.ready .any ops listed).length) (listed.setIfInBounds i true) [i]
   | none=>[].reverse)::k)) cs) w
  cases hi:(Region.ready .any ops listed)[t % (Region.ready .any ops listed).length]? with
  | none =>
   have hnil:Region.ready .any ops listed=[]:=by
    cases hr:Region.ready .any ops listed with
    | nil=>rfl
    | cons x xs =>
     rw[hr]at hi;have hlt:t % (x::xs).length<(x::xs).length:=Nat.mod_lt _ (by simp);simp at hi;simp at hlt
     omega
   have h0:=hgone listed hls hnil;rw[hdz]at h0;cases h0
  | some i =>
   simp only[];rw[linearise_go_acc,List.reverse_singleton,List.singleton_append];have hmem:=List.mem_of_getElem? hi;obtain⟨o,ho,hlt,h1,h2⟩:=mem_ready hls hmem;have hle:=KF hls hmem;have hdone:Dh (listed.setIfInBounds i true)=BC (Dh listed) i true:=KR (by omega)
   have hcl':∀ j o,ops[j]?=some o→Dh (listed.setIfInBounds i true) j=true→BP o (Dh (listed.setIfInBounds i true))=true:=fun j o' hj hd=>by
    rw[hdone]at hd ⊢
    have mono:∀ q,Dh listed q=true→BC (Dh listed) i true q=true:=fun q hq=>by
     by_cases e:q=i
     ·rw[e,Ez]
     ·rw[Ap _ _ e];exact hq
    by_cases e:j=i
    ·subst e;rw[ho]at hj;obtain rfl:=Option.some.inj hj;exact DD mono h2
    ·rw[Ap _ _ e]at hd;exact DD mono (hcl j o' hj hd)
   by_cases hiz:i=z
   ·subst hiz
    have hall:∀ j,j<ops.size→Dh (listed.setIfInBounds i true) j=true:=fun j hj=>Qk hcl' ops.size (· == i) (fun k hk=>by
      have:k=i:=by simpa using hk
      rw[this,hdone,Ez]) j (by
      unfold Pq at hanc;rw[List.all_eq_true]at hanc;exact hanc j (by rw[List.mem_range];exact hj))
    have hnil:Region.ready .any ops (listed.setIfInBounds i true)=[]:=by
     refine List.eq_nil_iff_forall_not_mem.2 fun j hj=>?_
     obtain⟨_,_,hlt',hd',_⟩:=mem_ready (by simpa using hls) hj;rw[hall j hlt']at hd';cases hd'
    have hrest:∀ n t,Region.linearise.go .any ops n t (listed.setIfInBounds i true) []=[]:=fun n t=>by
     cases n with
     | zero=>rfl
     | succ n =>
      simp only[Region.linearise.go]
      change (match (Region.ready .any ops (listed.setIfInBounds i true))[t % (Region.ready .any ops (listed.setIfInBounds i true)).length]? with
       | some j=>Region.linearise.go .any ops n (t / (Region.ready .any ops (listed.setIfInBounds i true)).length) ((listed.setIfInBounds i true).setIfInBounds j true) [j]
       | none=>[].reverse)=[]
      rw[hnil]
      rfl
    rw[hrest]
    exact(hz _ a w (fun j hj=>by
     have:=hall j (by omega);rw[hdone,Ap _ _ (by omega)]at this;exact this) hI).mono (by omega)
   ·have:=(hs _ a w i o (by omega) ho hI h1 h2) b k cs Stop (Region.linearise.go .any ops n (t / (Region.ready .any ops listed).length) (listed.setIfInBounds i true) []) (n*B) hb hk fun a' w' hI'=>ih _ (listed.setIfInBounds i true) a' w' (by simpa using hls) (by omega)
     (by rw[hdone,Ap _ _ (Ne.symm hiz)];exact hdz) hcl' (by rw[hdone];exact hI')
    exact this.mono (by rw[Nat.succ_mul];omega)
theorem MV (hm:P.follows .mixedOrders=true) (T:Terms R D) (hd:LetsDraw D) {id:Nat}{ops:Array Oper}(B z:Nat) (hsz:ops.size=z+1) (hanc:Pq ops z=true) (hdag:dag ops=true) (Inv:(Nat→Bool)→Act→World→Prop) {b:Frame}{k:List Item}{cs:List Frame}{Stop:Goroutine→World→Prop}(hb:b.fn=fn) (hk:b.kind ≠ .early)
  (h0:∀ w₁,R w w₁→Inv (fun _=>false) a { w₁ with drawn:=w₁.drawn+1 })
  (hs:∀ L a w i o,i<z→ops[i]?=some o→Inv L a w→L i=false→BP o L=true→OpN P main R D fn ops i B (fun a' w'=>Inv (BC L i true) a' w') a w)
  (hz:∀ L a w,(∀ i,i<z→L i=true)→Inv L a w→Goes P main R D Stop 0 (G (b.at a (.inRegion ops [z]::k)) cs) w):Goes P main R D Stop (ops.size*B+1) (G (b.at a (.code (.region id ops true)::k)) cs) w:=by
 refine Goes.step rfl fun w₁ h₁=>?_
 rw[stepG_region_draw];refine⟨hd _,?_⟩
 have e:Dh (Array.replicate ops.size false)=fun _=>false:=by
  funext k
  unfold Dh
  by_cases h:k<ops.size<;>simp[Array.getD_eq_getD_getElem?,h]
 have hf:∀ k,Dh (Array.replicate ops.size false) k=false:=fun k=>by rw[e]
 have:=XK T B z hsz hanc hdag Inv hb hk hs hz ops.size (w₁.tape w₁.drawn (.order b.fn id)) (Array.replicate ops.size false) a { w₁ with drawn:=w₁.drawn+1 } (by simp) (by rw[Io];exact Nat.le_refl _) (hf z) (fun i o _ hd=>by rw[hf]at hd;cases hd) (by rw[e];exact h0 w₁ h₁);unfold Region.schedule;simp only[hm];exact this
theorem Rh (hm:P.follows .mixedOrders=true) (T:Terms R D) (hd:LetsDraw D) (hdr:∀ w:World,R w { w with drawn:=w.drawn+1 }) {id:Nat}{ops:Array Oper}(B z:Nat) (hsz:ops.size=z+1) (hanc:Pq ops z=true) {n:Nat}{m:List (Nat×Value)}(Z:Sl a n m) (ds:List (Option Nat)) (hds:ops.toList.map Oper.dst=ds)
  (hok:okD n (m.map Prod.fst) ds=true) (hdag:dag ops=true) (V:Nat→Value→Prop) {b:Frame}{k:List Item}{cs:List Frame}{Stop:Goroutine→World→Prop}(hb:b.fn=fn) (hk:b.kind ≠ .early)
  (hs:∀ (i:Nat) (o:Oper),i<z→ops[i]?=some o→∀ L a,L i=false→Sl a n m→N8 ops V L a→(∀ d∈waits o,L d=true)→OpN P main R D fn ops i B (fun a' w'=>R w w'∧∃ v,a'=a.put o.dst v∧V i v) a w)
  (hz:∀ a w',R w w'→Sl a n m→(∀ j o d,j<z→ops[j]?=some o→o.dst=some d→∃ v,a.tmps[d]?=some v∧V j v)→Goes P main R D Stop 0 (G (b.at a (.inRegion ops [z]::k)) cs) w'):Goes P main R D Stop (ops.size*B+1) (G (b.at a (.code (.region id ops true)::k)) cs) w:=by
 refine MV hm T hd B z hsz hanc hdag (fun L a' w'=>R w w'∧Sl a' n m∧N8 ops V L a') hb hk (fun w₁ h₁=>⟨T.trans _ _ _ h₁ (hdr w₁),Z,fun j o d _ _ h=>by simp at h⟩) ?_ ?_
 ·rintro L a' w' i o hi ho ⟨h1,h2,h3⟩ hli hri;refine((hs i o hi ho L a' hli h2 h3 (CX hri)).rely T h1).mono ?_;rintro a2 w2 ⟨hI2,v,rfl,hv⟩;exact⟨hI2,h3.more hds hok ho h2 hv⟩
 ·rintro L a' w' hall ⟨h1,h2,h3⟩;exact hz a' w' h1 h2 fun j o d hj ho hjd=>h3 j o d ho hjd (hall j hj)
end
section
variable {P:Program}{M:Machine}{Safe:Obj→Prop}{c:Nat}{fn:FuncId}{Q:Exit→Act→World→List Value→Nat→Prop}{a:Act}{w:World}{L:List Value}{K:Nat}
theorem AO (hP:EK P) {ops:Array Oper}{i:Nat}{rest:List Nat}{o:Oper}(v:Value) (ho:ops[i]?=some o) (hg:o.guard=none)
  (h:∀ w₁,Grown c w w₁→(execOp a.eval o).run P w₁=.ok (.value v) w₁∧Di Safe K w₁ w₁ (listed P fn a o w₁)) (hn:Qo P M Safe c fn ops rest Q (a.put o.dst v) w L K):Qo P M Safe c fn ops (i::rest) Q a w L K :=
 QZ hP ho (by simp[Region.wanted,hg]) fun w₁ h₁ Kk hK=>by
  obtain⟨h2,h3⟩:=h w₁ h₁;rw[h2];exact hK _ _ ⟨h3,Wn hn h₁⟩
theorem G9 (hP:EK P) {ops:Array Oper}{i:Nat}{rest:List Nat}{o:Oper}(ho:ops[i]?=some o) (hg:o.guard=none)
  (h:∀ w₁,Grown c w w₁→∃ v w',((execOp a.eval o).run P w₁=.ok (.value v) w'∨((execOp a.eval o).run P w₁=.ok .skip w'∧v=undef))∧Di Safe K w₁ w' (listed P fn a o w₁)∧Qo P M Safe c fn ops rest Q (a.put o.dst v) w' L K):Qo P M Safe c fn ops (i::rest) Q a w L K :=
 QZ hP ho (by simp[Region.wanted,hg]) fun w₁ h₁ Kk hK=>by
  obtain⟨v,w',h2,h3,h4⟩:=h w₁ h₁;rcases h2 with h2|⟨h2,rfl⟩
  ·rw[h2];exact hK _ _ ⟨h3,h4⟩
  ·rw[h2];exact hK _ _ ⟨h3,h4⟩
end
section
variable {Safe:Obj→Prop}{c N K:Nat}{w:World}{es:Array Event}
theorem Be.still (h:∀ e∈es,∀ x,(MemAct.ofEvent e).touch?=some x→∀ b,blk x.loc=some b→x.write=false∧b<w.heap.size∧Qm Safe c N w b):Be Safe c N w w es:=⟨rfl,rfl,rfl,Nat.le_refl _,fun _ _=>rfl,h⟩
theorem Di.still (h:∀ e∈es,∀ x,(MemAct.ofEvent e).touch?=some x→∀ b,blk x.loc=some b→x.write=false):Di Safe K w w es :=
 ⟨rfl,rfl,rfl,Nat.le_refl _,fun _ _ _=>rfl,fun _ _ h=>h,fun e he x hx b hb hw=>by rw[h e he x hx b hb]at hw;cases hw⟩
theorem KE:LetsDraw (Be Safe c N):=fun w=>⟨rfl,rfl,rfl,Nat.le_refl _,fun _ _=>rfl,fun e he=>by simp at he⟩
theorem ZG (w:World):Az Safe c N w { w with drawn:=w.drawn+1 }:=⟨rfl,rfl,rfl,Nat.le_refl _,fun _ _ _=>rfl⟩
end
end
section
open Go Go.Conc
open Go.RowKit
theorem oq {p q:Prop}(h1:p:=by refine run_eq_of (fun K hK=>?_);go_simp;exact hK) (h2:q:=by rw[listed_nil (by simp[go_sem, *])];exact Be.idle _):p∧q:=⟨h1,h2⟩
theorem om {p q:Prop}(h1:p:=by refine run_eq_of (fun K hK=>?_);go_simp;exact hK) (h2:q:=by rw[listed_nil (by simp[go_sem, *])];exact Di.idle _):p∧q:=⟨h1,h2⟩
end
section
open Go Go.Conc
open Go.RowKit
theorem Sl.Abv {n:Nat}(x y:Value) (hn:2≤n):Sl (⟨#[x,y]++Array.replicate (n-2) undef,[]⟩:Act) n [(0,x),(1,y)]:=by
 refine⟨by simp;omega,rfl,fun t v h=>?_⟩;rw[List.lookup_cons]at h
 by_cases e:t=0
 ·subst e;simp at h;rw[h,Array.getElem?_append_left (by simp)];rfl
 ·have e2:(t == 0)=false:=by simpa using e
  rw[e2,List.lookup_cons]at h
  by_cases e3:t=1
  ·subst e3;simp at h;rw[h,Array.getElem?_append_left (by simp)];rfl
  ·have e4:(t == 1)=false:=by simpa using e3
   rw[e4]at h;simp at h
section
variable {P:Program}{M:Machine}{Safe:Obj→Prop}{c:Nat}{fn:FuncId}{Q:Exit→Act→World→List Value→Nat→Prop}{a:Act}{w:World}{L:List Value}{K:Nat}
theorem Sl.goP {ops:Array Oper}{rest:List Nat}{n:Nat}{m:List (Nat×Value)}{d:Nat}{v:Value}(h:Sl a n m) (hd:d<n) (hG:∀ a',Sl a' n ((d,v)::m)→Qo P M Safe c fn ops rest Q a' w L K):Qo P M Safe c fn ops rest Q (a.put (some d) v) w L K:=hG _ (h.put d v hd)
end
section
variable {P:Program}{main:Bool}{R:World→World→Prop}{D:World→World→Array Event→Prop}{fn:FuncId}{Q:Exit→Act→World→Prop}{a:Act}{w:World}
theorem Sl.goC {ops:Array Oper}{rest:List Nat}{k n:Nat}{m:List (Nat×Value)}{d:Nat}{v:Value}(h:Sl a n m) (hd:d<n) (hG:∀ a',Sl a' n ((d,v)::m)→OpsC P main R D fn ops rest k Q a' w):OpsC P main R D fn ops rest k Q (a.put (some d) v) w:=hG _ (h.put d v hd)
end
theorem Eg (w:World) (o:Obj) (k:Nat):(w.alloc o).heap[k]?=if k=w.heap.size then some o else w.heap[k]?:=by
 show (w.heap.push o)[k]?=_;rw[Array.getElem?_push]
def Aw:Obj→Prop:=fun o=>∃ cs fz,o=.cells cs 69 fz
theorem Abh (w:World):(Instr.makeChan 141 (.int .i64 0)).run Try.prog w=.ok (.chan (some w.heap.size)) (w.alloc (.chan 0 #[] false 0 0 false)):=by
 obtain⟨i,hi,hb⟩:∃ i,Try.prog.info? 143=some i∧i.bytes=16:=by
  have h:(Try.prog.info? 143).map (·.bytes)=some 16:=by kernel_rfl
  obtain⟨i,hi,hb⟩:=Option.map_eq_some_iff.1 h;exact⟨i,hi,hb⟩
 simpa using run_makeChan (P:=Try.prog) (w:=w) Try.underlying141 hi .i64 0 (by omega) (by rw[hb];omega)
theorem XT:(fun r=>Try.f78.body=some (.seq (r 0) (.seq (r 1) (.seq (.seq (r 2) (.block 0 (.loop (.seq (r 3) (.seq (.cond (.tmp 17) .skip (.exit 0)) (.seq (.block 1 (.seq (r 4) (r 5))) (r 6))))))) (.seq (r 7) (.seq (.seq (r 8) (.block 2 (.loop (.seq (r 9) (.seq (.cond (.tmp 35) .skip (.exit 2)) (.seq (.block 3 (.seq (r 10) (r 11))) (r 12))))))) (.seq (r 13) .ret))))))) (Ac Try.f78):=by show _=_;kernel_rfl
theorem AaV {Q:Exit→Act→World→Prop}(w:World) (bd:Nat) (fc:FuncId) (first cap:Array Value) (a:Act) (Z:Sl a 46 [(0,.pointer (some ⟨bd,0,none⟩)),(1,.func (.func fc) first cap)])
  (hQ:∀ a' w',Sl a' 46 [(0,.pointer (some ⟨bd,0,none⟩)),(3,.pointer (some ⟨w.heap.size,0,none⟩))]→w'=w.alloc (.cells #[.func (.func fc) first cap] 35)→Q .normal a' w') :
  (Ac Try.f78 0).wp Try.prog Q a w:=by
 refine wr ?_;refine oz fun K hK=>?_
 have e1:=Z.g 1;go_simp;refine hK _ _ ?_;clear hK e1;refine Z.go (by decide) ?_;clear Z;intro a1 Z;refine oz fun K hK=>?_
 go_simp;refine hK _ _ ?_;clear hK;refine Z.go (by decide) ?_;clear Z;intro a1 Z;refine od ?_;exact hQ _ _ Z.sb rfl
theorem AaU {Q:Exit→Act→World→Prop}(w:World) (bd:Nat) (fc:FuncId) (first cap:Array Value) (a:Act) (wx:World) (hwx:wx=w.alloc (.cells #[.func (.func fc) first cap] 35)) (Z:Sl a 46 [(0,.pointer (some ⟨bd,0,none⟩)),(3,.pointer (some ⟨w.heap.size,0,none⟩))])
  (hQ:∀ a' w',Sl a' 46 [(0,.pointer (some ⟨bd,0,none⟩)),(3,.pointer (some ⟨w.heap.size,0,none⟩)),(5,.pointer (some ⟨w.heap.size+2,0,none⟩))]→Below w.heap.size w w'→w'.heap[w.heap.size]?=some (.cells #[.func (.func fc) first cap] 35 (0,0))→w'.heap[w.heap.size+1]?=some (.chan 0 #[] false 0 0 false) →
   w'.heap[w.heap.size+2]?=some (.cells #[.chan (some (w.heap.size+1))] 141 (0,0))→w'.heap.size=w.heap.size+3→Q .normal a' w') :
  (Ac Try.f78 1).wp Try.prog Q a wx:=by
 subst hwx;refine wr ?_;refine oz fun K hK=>?_
 go_simp;rw[Abh];go_simp;refine hK _ _ ?_;clear hK;refine Z.go (by decide) ?_;clear Z;intro a1 Z;refine oz fun K hK=>?_
 go_simp;refine hK _ _ ?_;clear hK;refine Z.go (by decide) ?_;clear Z;intro a1 Z;refine oz fun K hK=>?_
 have e5:=Z.g 5;have e9:=Z.g 9;go_simp;refine hK _ _ ?_;clear hK;refine od ?_;refine hQ _ _ ?_ ?_ ?_ ?_ ?_ ?_
 ·exact Z.sb
 ·exact(((Below.refl _ w).alloc (Nat.le_refl _) _).alloc (by simp) _).alloc (by simp;omega) _
 ·rw[Eg,Eg,Eg,if_neg (by simp;omega),if_neg (by simp),if_pos rfl]
 ·rw[Eg,Eg,if_neg (by simp),if_pos (by simp)]
 ·rw[Eg,if_pos (by simp)]
 ·simp
theorem Kq {P:Program}{a:Act}{w:World}{o:Oper}{x:Operand}{f:FuncId}{first cap:Array Value}{F:Func}{args:Array Operand}{ats:Array TypeId}(hop:o.op=.call { callee:=.value x,args,argTypes:=ats }) (hx:a.eval x=.func (.func f) first cap)
  (hf:P.funcs[f]?=some F) (hname:(F.name == "runtime.NumGoroutine")=false) (hb:F.body.isNone=false):(execOp a.eval o).run P w=.ok (.enter f (first++args.map a.eval++cap)) w:=by
 have h1:¬ F.name = "runtime.NumGoroutine" := by simpa using hname
 have h2:¬ F.body=none:=by cases hx:F.body<;>simp_all
 unfold execOp;simp[hop,resolve,Deferred.ofValue,invoke,callFunc,hf,h1,h2,hx]
theorem MK {P:Program}{a:Act}{w:World}{o:Oper}{x:Operand}{f:FuncId}{first cap:Array Value}{F:Func}{args:Array Operand}{ats:Array TypeId}(hop:o.op=.call { callee:=.value x,args,argTypes:=ats }) (hx:a.eval x=.func (.func f) first cap)
  (hf:P.funcs[f]?=some F) (hname:(F.name == "runtime.NumGoroutine")=false) (hb:F.body.isNone=false) (es:Array Event):(execOp a.eval o).events P w es=es:=by
 have h1:¬ F.name = "runtime.NumGoroutine" := by simpa using hname
 have h2:¬ F.body=none:=by cases hx:F.body<;>simp_all
 unfold execOp;simp[hop,resolve,Deferred.ofValue,invoke,callFunc,hf,h1,h2,hx]
noncomputable def bot:Frame:={ (default:Frame) with fn:=Try.prog.funcs.size,defers:=[],mode:=.panicking [goexitEntry] }
noncomputable def baseD (f:FuncId):Frame:={ (default:Frame) with fn:=f,kind:=.deferred }
theorem VO:(fun r=>Try.f110.body=some (r 0)) (Ac Try.f110):=by show _=_;kernel_rfl
theorem born_step (x y z:Value) (w:World):stepG Try.prog false (born Try.prog { target:=.fn (.func 110) #[x,y,z],args:=#[] }) w =
  .go (G ((baseD 110).at ⟨#[x,y,z,undef,undef,undef,undef,undef,undef],[]⟩ [.code (Ac Try.f110 0)]) [bot]) w #[]:=by
 have hn:¬ Try.f110.name = "runtime.NumGoroutine" := by
  have:(Try.f110.name == "runtime.NumGoroutine")=false:=by kernel_rfl
  simpa using this
 simp[hn,Try.ntmps110,born,stepG,unwind,callDeferred,invoke,callFunc,Try.func110,VO,seen,GStep.after,G,Frame.enter,Frame.at,baseD,bot]
theorem quitsTail (T:Array Value):QuitsD Try.prog 2 0 (G { (baseD 110).at ⟨T,[]⟩ [] with mode:=.returning } [bot]):=by
 refine QuitsD.ctl (g':=G bot []) rfl (fun w=>?_) ?_
 ·simp[G,stepG,unwind,doReturn,results,Frame.at,baseD,bot,Try.func110,Try.results110,seen,GStep.after,goexitEntry]
 refine QuitsD.ctl (g':={ G bot [] with status:=.finished }) rfl (fun w=>?_) ⟨rfl,rfl⟩;simp[G,stepG,unwind,bot,goexitEntry,Frame.catches]
 rfl
theorem Y1 (a:Act) (hd:a.defers=[]) (ops:Array Oper) (ho:(ops[6]?).bind (·.dst)=none):QuitsD Try.prog 4 0 (Conc.served (G ((baseD 110).at a [.inRegion ops [6]]) [bot]) undef):=by
 have e:Conc.served (G ((baseD 110).at a [.inRegion ops [6]]) [bot]) undef=G ((baseD 110).at a [.inRegion ops []]) [bot]:=by
  have hfin:=Frame.finish_at (baseD 110) a ops 6 [] [] undef;rw[ho]at hfin;unfold Conc.served G;simp only[hfin]
  rfl
 rw[e];obtain⟨T,ds⟩:=a;obtain rfl:ds=[]:=hd;refine QuitsD.ctl rfl (fun w=>stepG_region_end) ?_;refine QuitsD.ctl rfl (fun w=>stepG_end) ?_;exact quitsTail _
theorem Cf {w:World}{b o:Nat}{cs:Array Value}{ty:TypeId}{fz:Nat×Nat}{v:Value}(h:w.heap[b]?=some (.cells cs ty fz)) (ho:cs[o]?=some v):w.cell? ⟨b,o,none⟩=some v:=by simp[World.cell?,h,ho]
theorem Ey {o:Oper}{d:Nat}(h:(waits o).contains d=true):d∈waits o:=by simpa using h
theorem Az.row {Safe:Obj→Prop}{c N:Nat}{w w₁:World}(h:Az Safe c N w w₁) {b:Nat}{o:Obj}(ho:w.heap[b]?=some o) (hb:b<N) (hc:b≠c):w₁.heap[b]?=some o :=
 (h.block b (lt_of_some ho) (.inl ⟨hb,hc⟩)).trans ho
theorem BZ {Safe:Obj→Prop}{c N:Nat}{w:World}{b o:Nat}(hb:b<w.heap.size) (hf:Qm Safe c N w b):∀ x,(MemAct.ofEvent ⟨.cell ⟨b,o,none⟩,false,false⟩).touch?=some x→∀ b',blk x.loc=some b'→x.write=false∧b'<w.heap.size∧Qm Safe c N w b':=by
 intro x hx b' hb';simp[MemAct.ofEvent,MemAct.touch?]at hx;subst hx;simp[blk]at hb';subst hb';exact⟨rfl,hb,hf⟩
theorem Acj {c N mf:Nat}{w:World}{i v:Int}{fc:FuncId}{first cap:Array Value}(a:Act) (fn:FuncId)
  (hcall:∀ w₁,Az Aw c N w w₁→CallsC Try.prog false (Az Aw c N) (Be Aw c N) fc (first++#[.int .i64 i]++cap) mf w₁ (fun x w'=>x=.int .i64 v∧Az Aw c N w₁ w'))
 (ops:Array Oper) (o:Oper) (h4:ops[4]?=some o) (hgd:o.guard=none) (hr:∀ w,(execOp a.eval o).run Try.prog w=.ok (.enter fc (first++#[.int .i64 i]++cap)) w∧listed Try.prog fn a o w = #[]):OpN Try.prog false (Az Aw c N) (Be Aw c N) fn ops 4 (mf+3) (fun a' w'=>Az Aw c N w w'∧∃ x,a'=a.put o.dst x∧x=.int .i64 v) a w:=by
 have hcl:=hcall w (Az.refl w);exact Xq Ah h4 hgd hr hcl (fun x w' hx=>⟨hx.2,_,rfl,hx.1⟩)
theorem AbW {w:World}{i:Int}{fc:FuncId}{F:Func}{first cap:Array Value}(a:Act)
  (hF:Try.prog.funcs[fc]?=some F) (hname:(F.name == "runtime.NumGoroutine")=false) (hbody:F.body.isNone=false)
  (E5:a.eval (.tmp 5)=.func (.func fc) first cap) (E6:a.eval (.tmp 6)=.int .i64 i)
 (o:Oper) (hop:o.op=.call { callee:=.value (.tmp 5),args:=#[.tmp 6],argTypes:=#[3] }):(execOp a.eval o).run Try.prog w=.ok (.enter fc (first++#[.int .i64 i]++cap)) w:=by
 have h:=Kq (P:=Try.prog) (w:=w) hop E5 hF hname hbody;rw[h,List.map_toArray,List.map_cons,List.map_nil,E6]
theorem AbV {w:World}{fn:FuncId}{fc:FuncId}{F:Func}{first cap:Array Value}(a:Act)
  (hF:Try.prog.funcs[fc]?=some F) (hname:(F.name == "runtime.NumGoroutine")=false) (hbody:F.body.isNone=false)
  (E5:a.eval (.tmp 5)=.func (.func fc) first cap)
 (o:Oper) (hop:o.op=.call { callee:=.value (.tmp 5),args:=#[.tmp 6],argTypes:=#[3] }):listed Try.prog fn a o w = #[]:=listed_nil (MK (P:=Try.prog) hop E5 hF hname hbody #[])
theorem VN {c N mf:Nat}{w:World}{bs bo bc:Nat}{i v:Int}{fc:FuncId}{F:Func}{first cap:Array Value}
  (hs:w.heap[bs]?=some (.cells #[.chan (some c)] 141 (0,0))) (hsN:bs<N) (hsc:bs≠c) (ho:w.heap[bo]?=some (.cells #[.int .i64 i] 3 (0,0))) (hoN:bo<N) (hoc:bo≠c)
  (hf:w.heap[bc]?=some (.cells #[.func (.func fc) first cap] 35 (0,0))) (hfN:bc<N) (hfc:bc≠c)
  (hF:Try.prog.funcs[fc]?=some F) (hname:(F.name == "runtime.NumGoroutine")=false) (hbody:F.body.isNone=false)
  (hcall:∀ w₁,Az Aw c N w w₁→CallsC Try.prog false (Az Aw c N) (Be Aw c N) fc (first++#[.int .i64 i]++cap) mf w₁ (fun x w'=>x=.int .i64 v∧Az Aw c N w₁ w')) :
  Goes Try.prog false (Az Aw c N) (Be Aw c N) (RU Try.prog Aw c N (.agg #[.int .i64 i,.int .i64 v])) (7*(mf+3)+2)
   (born Try.prog { target:=.fn (.func 110) #[.pointer (some ⟨bs,0,none⟩),.pointer (some ⟨bo,0,none⟩),.pointer (some ⟨bc,0,none⟩)],args:=#[] }) w:=by
 refine Goes.step rfl fun w₁ h₁=>?_
 rw[born_step];refine⟨Be.idle _,?_⟩;have hs':=h₁.row hs hsN hsc;have ho':=h₁.row ho hoN hoc;have hf':=h₁.row hf hfN hfc;have hcall':∀ w₂,Az Aw c N w₁ w₂→CallsC Try.prog false (Az Aw c N) (Be Aw c N) fc (first++#[.int .i64 i]++cap) mf w₂ (fun x w'=>x=.int .i64 v∧Az Aw c N w₂ w'):=fun w₂ h₂=>hcall w₂ (h₁.trans h₂)
 clear hs ho hf hcall h₁;revert hs' ho' hf' hcall';generalize w₁=w;intro hs ho hf hcall;rw[show Ac Try.f110 0=Code.region 0 _ true from rfl]
 have Z:Sl (⟨#[.pointer (some ⟨bs,0,none⟩),.pointer (some ⟨bo,0,none⟩),.pointer (some ⟨bc,0,none⟩),undef,undef,undef,undef,undef,undef],[]⟩:Act) 9 [(0,.pointer (some ⟨bs,0,none⟩)),(1,.pointer (some ⟨bo,0,none⟩)),(2,.pointer (some ⟨bc,0,none⟩))] :=
  ((Sl.nil ⟨rfl,rfl,fun t v hv=>by simp at hv⟩ (m:=[])).cons (t:=2) rfl |>.cons (t:=1) rfl).cons (t:=0) rfl
 have hread:∀ (bb:Nat) (ob:Obj),w.heap[bb]?=some ob→bb<N→bb≠c→∀ w₂,Az Aw c N w w₂→∀ x,(MemAct.ofEvent ⟨.cell ⟨bb,0,none⟩,false,false⟩).touch?=some x→∀ b',blk x.loc=some b'→x.write=false∧b'<w₂.heap.size∧Qm Aw c N w₂ b' :=
  fun bb ob h1 h2 h3 w₂ h=>BZ (Nat.lt_of_lt_of_le (lt_of_some h1) h.size) (.inl ⟨h2,h3⟩)
 refine Rh (B:=mf+3) (fn:=110) (by kernel_rfl) Ah KE ZG (z:=6) rfl (by kernel_rfl) Z [some 3,some 4,some 5,some 6,some 7,some 8,none] rfl rfl (by kernel_rfl)
  (fun j x=>match j with|0=>x=.chan (some c)|1=>x=.int .i64 i|2=>x=.func (.func fc) first cap|3=>x=.int .i64 i|4=>x=.int .i64 v|5=>x=.agg #[.int .i64 i,.int .i64 v]|_=>True) rfl (by simp[baseD]) ?_ ?_
 ·clear Z;intro k o hk ho' L a hLk Z hsc' hd;have hlt:∀ k:Nat,k<6→k=0∨k=1∨k=2∨k=3∨k=4∨k=5:=by decide
  rcases hlt k hk with rfl|rfl|rfl|rfl|rfl|rfl
  ·obtain rfl:=Option.some.inj ho';have e0:=Z.g 0;clear hsc' hd;refine(AC (.chan (some c)) rfl rfl (fun w₂ h₂=>?_) (fun w₂ h₂=>⟨h₂,_,rfl,rfl⟩)).more (by omega);have hc:=Cf (o:=0) (h₂.row hs hsN hsc) rfl;refine⟨run_eq_of (fun K hK=>?_),Be.still ?_⟩
   ·go_simp;exact hK
   ·have hr:=hread _ _ hs hsN hsc w₂ h₂
    co_evs (exact hr)
  ·obtain rfl:=Option.some.inj ho';have e1:=Z.g 1;clear hsc' hd;refine(AC (.int .i64 i) rfl rfl (fun w₂ h₂=>?_) (fun w₂ h₂=>⟨h₂,_,rfl,rfl⟩)).more (by omega);have hc:=Cf (o:=0) (h₂.row ho hoN hoc) rfl;refine⟨run_eq_of (fun K hK=>?_),Be.still ?_⟩
   ·go_simp;exact hK
   ·have hr:=hread _ _ ho hoN hoc w₂ h₂
    co_evs (exact hr)
  ·obtain rfl:=Option.some.inj ho';have e2:=Z.g 2;clear hsc' hd;refine(AC (.func (.func fc) first cap) rfl rfl (fun w₂ h₂=>?_) (fun w₂ h₂=>⟨h₂,_,rfl,rfl⟩)).more (by omega);have hc:=Cf (o:=0) (h₂.row hf hfN hfc) rfl;refine⟨run_eq_of (fun K hK=>?_),Be.still ?_⟩
   ·go_simp;exact hK
   ·have hr:=hread _ _ hf hfN hfc w₂ h₂
    co_evs (exact hr)
  ·obtain rfl:=Option.some.inj ho';have e1:=Z.g 1;clear hsc' hd;refine(AC (.int .i64 i) rfl rfl (fun w₂ h₂=>?_) (fun w₂ h₂=>⟨h₂,_,rfl,rfl⟩)).more (by omega);have hc:=Cf (o:=0) (h₂.row ho hoN hoc) rfl;refine⟨run_eq_of (fun K hK=>?_),Be.still ?_⟩
   ·go_simp;exact hK
   ·have hr:=hread _ _ ho hoN hoc w₂ h₂
    co_evs (exact hr)
  ·obtain rfl:=Option.some.inj ho';obtain⟨v5,e5,hv5⟩:=hsc' 2 _ 5 rfl rfl (hd 2 wm);obtain rfl:=hv5;obtain⟨v6,e6,hv6⟩:=hsc' 3 _ 6 rfl rfl (hd 3 wm);obtain rfl:=hv6;clear hsc' hd;have E5:a.eval (.tmp 5)=.func (.func fc) first cap:=by simp[Act.eval,Array.getD_eq_getD_getElem?,e5]
   have E6:a.eval (.tmp 6)=.int .i64 i:=by simp[Act.eval,Array.getD_eq_getD_getElem?,e6]
   exact Acj a _ hcall _ _ rfl rfl (fun w₂=>⟨AbW a hF hname hbody E5 E6 _ rfl,AbV a hF hname hbody E5 _ rfl⟩)
  ·obtain rfl:=Option.some.inj ho';obtain⟨v4,e4,hv4⟩:=hsc' 1 _ 4 rfl rfl (hd 1 wm);obtain rfl:=hv4;obtain⟨v7,e7,hv7⟩:=hsc' 4 _ 7 rfl rfl (hd 4 wm);obtain rfl:=hv7;clear hsc' hd;refine(AC (.agg #[.int .i64 i,.int .i64 v]) rfl rfl (fun w₂ h₂=>?_) (fun w₂ h₂=>⟨h₂,_,rfl,rfl⟩)).more (by omega);exact oq
 ·intro a w' hr Z' hd';obtain⟨v3,e3,hv3⟩:=hd' 0 _ 3 (by omega) rfl rfl;obtain rfl:=hv3;obtain⟨v8,e8,hv8⟩:=hd' 5 _ 8 (by omega) rfl rfl;obtain rfl:=hv8;clear hd';refine fun w₂ h₂=>⟨rfl,_,.tuple #[],_,4,stepG_comm rfl (by rfl) (by simp[baseD]) ?_,?_,?_⟩
  ·simp[execOp,scase,Act.eval,Array.getD_eq_getD_getElem?,e3,e8]
  ·rw[listed_nil (by simp[go_sem,execOp,Act.eval,Array.getD_eq_getD_getElem?,e3,e8])];exact Be.idle _
  ·exact Y1 _ Z'.defers _ rfl
end
end Go.Proofs.Ytgdobbcjkiapkaa
