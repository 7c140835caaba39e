import Derived.Test.YtgdobbcjkiapkaaCh13
import Derived.Test.YtgdobbcjkiapkaaCh01
import Derived.Conc.CompanyMem
import Derived.Maps.OwnSet
import Derived.Maps.RangeWalk
import Derived.Maps.RangeRun
import Derived.WideKeyArgs2
import Derived.Conc.LoneCalls
import Derived.Deep.Cut
import Derived.Test.YtgdobbcjkiapkaaCh02
import Derived.Maps.AppendAt
import Derived.Laws.CopyOwn
import Derived.Deep.RegionLaw
namespace Go.Proofs.Ytgdobbcjkiapkaa
set_option maxRecDepth 100000
set_option maxHeartbeats 4000000
set_option linter.unusedSimpArgs false
set_option linter.unusedVariables false
section
open Go Go.Conc
open Go.RowKit
section
variable {P:Program} {main:Bool} {R:World→World→Prop} {D:World→World→Array Event→Prop} {fn:FuncId} {Q:Exit→Act→World→Prop} {a:Act} {w:World}
theorem WO (T:Terms R D) {ops:Array Oper} {todo:List Nat} {n:Nat} {w₁:World} (h:OpsC P main R D fn ops todo n Q a w) (hr:R w w₁):OpsC P main R D fn ops todo n Q a w₁ :=
 fun b k cs Stop m hb hk hc=>(h b k cs Stop m hb hk hc).rely T.trans hr
theorem Ap (T:Terms R D) {ops:Array Oper} {i:Nat} {rest:List Nat} {o:Oper} {n:Nat} (v:Value) (ho:ops[i]? = some o) (hg:o.guard=none)
  (h:∀ w₁,R w w₁→(execOp a.eval o).run P w₁ = .ok (.value v) w₁∧D w₁ w₁ (listed P fn a o w₁)) (hn:OpsC P main R D fn ops rest n Q (a.put o.dst v) w):OpsC P main R D fn ops (i :: rest) (n+1) Q a w :=
 opsC_cons ho (by simp [Region.wanted,hg]) fun w₁ h₁=>by
  obtain ⟨h2,h3⟩:=h w₁ h₁;rw [h2];exact ⟨h3,WO T hn h₁⟩
def OpN (P:Program) (main:Bool) (R:World→World→Prop) (D:World→World→Array Event→Prop) (fn:FuncId) (ops:Array Oper) (i m:Nat) (K:Act→World→Prop) (a:Act) (w:World):Prop :=
 ∀ (b:Frame) (k:List Item) (cs:List Frame) (Stop:Goroutine→World→Prop) (rest:List Nat) (n:Nat),b.fn=fn→b.kind ≠ .early →
  (∀ a' w',K a' w'→Goes P main R D Stop n (G (b.at a' (.inRegion ops rest :: k)) cs) w')→Goes P main R D Stop (n+m) (G (b.at a (.inRegion ops (i :: rest) :: k)) cs) w
theorem OpN.ops {ops:Array Oper} {i m:Nat} {K:Act→World→Prop} (h:OpN P main R D fn ops i m K a w) {rest:List Nat} {n:Nat} (hK:∀ a' w',K a' w'→OpsC P main R D fn ops rest n Q a' w'):OpsC P main R D fn ops (i :: rest) (n+m) Q a w :=
 fun b k cs Stop m' hb hk hc=>by
  have:=h b k cs Stop rest (m'+n) hb hk fun a' w' x=>hK a' w' x b k cs Stop m' hb hk hc
  exact this.mono (by omega)
theorem OpN.rely (T:Terms R D) {ops:Array Oper} {i m:Nat} {K:Act→World→Prop} {w₁:World} (h:OpN P main R D fn ops i m K a w) (hr:R w w₁):OpN P main R D fn ops i m K a w₁ :=
 fun b k cs Stop rest n hb hk hK=>(h b k cs Stop rest n hb hk hK).rely T.trans hr
theorem OpN.more {ops:Array Oper} {i m m':Nat} {K:Act→World→Prop} (h:OpN P main R D fn ops i m K a w) (hm:m≤m'):OpN P main R D fn ops i m' K a w :=
 fun b k cs Stop rest n hb hk hK=>(h b k cs Stop rest n hb hk hK).mono (by omega)
theorem OpN.mono {ops:Array Oper} {i m:Nat} {K K':Act→World→Prop} (h:OpN P main R D fn ops i m K a w) (hm:∀ a w,K a w→K' a w):OpN P main R D fn ops i m K' a w :=
 fun b k cs Stop rest n hb hk hK=>h b k cs Stop rest n hb hk fun a' w' x=>hK a' w' (hm _ _ x)
theorem AX {ops:Array Oper} {i:Nat} {o:Oper} {K:Act→World→Prop} (v:Value) (ho:ops[i]? = some o) (hg:o.guard=none)
  (h:∀ w₁,R w w₁→(execOp a.eval o).run P w₁ = .ok (.value v) w₁∧D w₁ w₁ (listed P fn a o w₁)) (hK:∀ w₁,R w w₁→K (a.put o.dst v) w₁):OpN P main R D fn ops i 1 K a w :=
 fun b k cs Stop rest n hb hk hn=>Goes.step rfl fun w₁ h₁=>goes_oper ho (by simp [Region.wanted,hg]) hk (by
  obtain ⟨h2,h3⟩:=h w₁ h₁;rw [h2,hb];exact ⟨h3,hn _ _ (hK w₁ h₁)⟩)
theorem Yw (T:Terms R D) {ops:Array Oper} {i:Nat} {o:Oper} {f:FuncId} {args:Array Operand} {ats:Array TypeId} {nf:Nat} {Post:Value→World→Prop} {K:Act→World→Prop}
  (ho:ops[i]? = some o) (hg:o.guard=none) (hop:o.op = .call { callee := .value (.func f),args,argTypes:=ats }) (hcall:CallsC P main R D f (args.map a.eval) nf w Post) (hK:∀ v w',Post v w'→K (a.put o.dst v) w') :
  OpN P main R D fn ops i (nf+3) K a w :=
 fun b k cs Stop rest n hb hk hn=>by
  have:=Goes.call (Stop:=Stop) (m:=n) (b:=b) (k:=k) (cs:=cs) (rest:=rest) T ho (by simp [Region.wanted,hg]) hk hop hcall fun v w' hp=>hn _ _ (hK v w' hp)
  exact this.mono (by omega)
theorem Goes.AaO (T:Terms R D) {b:Frame} {k:List Item} {cs:List Frame} {ops:Array Oper} {i:Nat} {rest:List Nat} {o:Oper} {f:FuncId} {av:Array Value} {nf m:Nat} {Post:Value→World→Prop} {Stop:Goroutine→World→Prop}
  (ho:ops[i]? = some o) (hw:Region.wanted o (yielded ops a.tmps)=true) (hk:b.kind ≠ .early) (hr:∀ w,(execOp a.eval o).run P w = .ok (.enter f av) w∧listed P b.fn a o w = #[])
  (hcall:CallsC P main R D f av nf w Post) (hnext:∀ v w',Post v w'→Goes P main R D Stop m (G (b.at (a.put o.dst v) (.inRegion ops rest :: k)) cs) w') :
  Goes P main R D Stop (m+nf+3) (G (b.at a (.inRegion ops (i :: rest) :: k)) cs) w:=by
 obtain ⟨F,c,hf,hname,hbody,hwp⟩:=hcall;have hfin:∀ v,(b.at a (.inRegion ops (i :: rest) :: k)).finish v=b.at (a.put o.dst v) (.inRegion ops rest :: k):=fun v=>by rw [Frame.finish_at,ho];rfl
 have hleave:∀ (a':Act) (w':World) (todo:List Item),(a'.defers=[]∧∃ v,ResultsC P F a'.tmps v∧Post v w') →
   Goes P main R D Stop (m+1) (G { (base f).at a' todo with mode := .returning } (b.at a (.inRegion ops (i :: rest) :: k) :: cs)) w':=by
  rintro a' w' todo ⟨hd,v,hr,hp⟩;refine Goes.step rfl fun w₁ h₁ =>?_
  rw [stepG_leave (b:=base f) rfl hd hf (hr w₁).1 (hr w₁).2,hfin];exact ⟨T.idle _,(hnext v w' hp).rely T.trans h₁⟩
 have hbodyG:Goes P main R D Stop (m+2+nf) (G ((base f).at { tmps:=av++Array.replicate (F.ntmps-av.size) undef,defers:=[] } [.code c]) (b.at a (.inRegion ops (i :: rest) :: k) :: cs)) w:=by
  refine hwp (base f) [] _ Stop (m+2) rfl (by simp [base]) fun e a' w' q =>?_
  cases e with
  | normal=>exact Goes.step rfl fun w₁ h₁=>by rw [stepG_end];exact ⟨T.idle _,(hleave a' w' [] q).rely T.trans h₁⟩
  | ret=>exact fun todo=>(hleave a' w' todo q).more
  | exit id=>exact q.elim
  | goto l=>exact q.elim
  | panic ch=>exact q.elim
  | outgrown=>exact q.elim
 have e:m+nf+3=(m+2+nf)+1:=by omega
 rw [e];refine Goes.step rfl fun w₁ h₁ =>?_
 rw [stepG_enter ho hw hk (hr w₁).1,enter_at av hf hbody,(hr w₁).2];exact ⟨T.idle _,hbodyG.rely T.trans h₁⟩
theorem UZ (T:Terms R D) {ops:Array Oper} {i:Nat} {rest:List Nat} {o:Oper} {f:FuncId} {av:Array Value} {nf n:Nat} {Post:Value→World→Prop}
  (ho:ops[i]? = some o) (hg:o.guard=none) (hr:∀ w,(execOp a.eval o).run P w = .ok (.enter f av) w∧listed P fn a o w = #[])
  (hcall:CallsC P main R D f av nf w Post) (hnext:∀ v w',Post v w'→OpsC P main R D fn ops rest n Q (a.put o.dst v) w'):OpsC P main R D fn ops (i :: rest) (n+nf+3) Q a w:=by
 intro b k cs Stop m hb hk hc;have:=Goes.AaO (Stop:=Stop) (m:=m+n) (b:=b) (k:=k) (cs:=cs) T ho (by simp [Region.wanted,hg]) hk (fun w=>by rw [hb];exact hr w) hcall fun v w' hp=>hnext v w' hp b k cs Stop m hb hk hc
 exact this.mono (by omega)
theorem WP (T:Terms R D) {ops:Array Oper} {i:Nat} {o:Oper} {f:FuncId} {av:Array Value} {nf:Nat} {Post:Value→World→Prop} {K:Act→World→Prop}
  (ho:ops[i]? = some o) (hg:o.guard=none) (hr:∀ w,(execOp a.eval o).run P w = .ok (.enter f av) w∧listed P fn a o w = #[])
  (hcall:CallsC P main R D f av nf w Post) (hK:∀ v w',Post v w'→K (a.put o.dst v) w'):OpN P main R D fn ops i (nf+3) K a w :=
 fun b k cs Stop rest n hb hk hn=>by
  have:=Goes.AaO (Stop:=Stop) (m:=n) (b:=b) (k:=k) (cs:=cs) (rest:=rest) T ho (by simp [Region.wanted,hg]) hk (fun w=>by rw [hb];exact hr w) hcall fun v w' hp=>hn _ _ (hK v w' hp)
  exact this.mono (by omega)
theorem Yu (T:Terms R D) {ops:Array Oper} (B:Nat) (Inv:(Nat→Bool)→Act→World→Prop)
  (hs:∀ L a w i o,ops[i]? = some o→Inv L a w→L i=false→BB o L=true→OpN P main R D fn ops i B (fun a' w'=>Inv (Bq L i true) a' w') a w)
  (he:∀ listed a w,listed.size=ops.size→Inv (Cm listed) a w→Region.ready .any ops listed=[]→Q .normal a w) :
  ∀ (n t:Nat) (listed:Array Bool) (a:Act) (w:World),listed.size=ops.size→NM ops.size listed≤n→Inv (Cm listed) a w→OpsC P main R D fn ops (Region.linearise.go .any ops n t listed []) (n*B+1) Q a w:=by
 intro n
 induction n with
 | zero =>
  intro t listed a w hsz hn hI;have h0:=IX (ops:=ops) (listed:=listed) (by omega)
  simpa [Region.linearise.go] using opsC_nil T (he listed a w hsz hI h0)
 | succ n ih =>
  intro t listed a w hsz hn hI;simp only [Region.linearise.go]
  change OpsC P main R D fn ops (match (Region.ready .any ops listed)[t % (Region.ready .any ops listed).length]? with
   | some i=>Region.linearise.go .any ops n (t / (Region.ready .any ops listed).length) (listed.setIfInBounds i true) [i]
   | none=>[].reverse) ((n+1)*B+1) Q a w
  cases hi:(Region.ready .any ops listed)[t % (Region.ready .any ops listed).length]? with
  | none =>
   have hnil:Region.ready .any ops listed=[]:=by
    cases hr:Region.ready .any ops listed with
    | nil=>rfl
    | cons x xs =>
     rw [hr] at hi;have hlt:t % (x :: xs).length < (x :: xs).length:=Nat.mod_lt _ (by simp);simp at hi;simp at hlt
     omega
   exact opsC_more (by simpa using opsC_nil T (he listed a w hsz hI hnil)) (by omega)
  | some i =>
   simp only [];rw [linearise_go_acc,List.reverse_singleton,List.singleton_append];obtain ⟨o,ho,hlt,h1,h2⟩:=mem_ready hsz (List.mem_of_getElem? hi)
   have:=(hs _ a w i o ho hI h1 h2).ops (n:=n*B+1) (Q:=Q) fun a' w' hI'=>ih (t / (Region.ready .any ops listed).length) (listed.setIfInBounds i true) a' w' (by simpa using hsz) (by
    have hle:=JL hsz (List.mem_of_getElem? hi)
    omega) (by rw [JV (by omega)];exact hI')
   exact opsC_more this (by rw [Nat.succ_mul];omega)
theorem Nw (hm:P.follows .mixedOrders=true) (T:Terms R D) (hd:LetsDraw D) {id:Nat} {ops:Array Oper} (B:Nat) (Inv:(Nat→Bool)→Act→World→Prop)
  (h0:∀ w₁,R w w₁→Inv (fun _=>false) a { w₁ with drawn:=w₁.drawn+1 })
  (hs:∀ L a w i o,ops[i]? = some o→Inv L a w→L i=false→BB o L=true→OpN P main R D fn ops i B (fun a' w'=>Inv (Bq L i true) a' w') a w)
  (he:∀ L a w,(∀ i o,ops[i]? = some o→BB o L=true→L i=true)→Inv L a w→Q .normal a w):(Code.region id ops true).wpC P main R D fn (ops.size*B+2) Q a w:=by
 refine wpC_region_draw hd fun w₁ h₁ t =>?_
 have e:Cm (Array.replicate ops.size false)=fun _=>false:=by
  funext k
  unfold Cm
  by_cases h:k < ops.size <;> simp [Array.getD_eq_getD_getElem?,h]
 have:=Yu (Q:=Q) T B Inv hs (fun listed a w hsz hI hr=>he _ a w (fun i o ho hre=>by
  have hlt:=(Array.getElem?_eq_some_iff.1 ho).1
  cases hl:Cm listed i
  ·exfalso
   have hm:i∈Region.ready .any ops listed:=by
    unfold Region.ready;rw [List.mem_filter,List.mem_range,Bool.and_eq_true];refine ⟨hlt,?_,?_⟩
    ·have e:listed.getD i true=listed.getD i false:=by simp [Array.getD_eq_getD_getElem?,hsz,hlt]
     rw [e];unfold Cm at hl;rw [hl];rfl
    ·rw [ho];simpa [BB,Cm] using hre
   rw [hr] at hm;simp at hm
  ·rfl) hI) ops.size t (Array.replicate ops.size false) a _ (by simp) (by rw [Hq];exact Nat.le_refl _) (by rw [e];exact h0 w₁ h₁)
 unfold Region.schedule;simp only [hm];exact opsC_more this (by omega)
def Nk (ops:Array Oper) (V:Nat→Value→Prop) (L:Nat→Bool) (a:Act):Prop:=∀ j o d,ops[j]? = some o→o.dst=some d→L j=true→∃ v,a.tmps[d]? = some v∧V j v
theorem Nk.more {ops:Array Oper} {n:Nat} {m:List (Nat×Value)} {ds:List (Option Nat)} (hds:ops.toList.map Oper.dst=ds) (hok:okD n (m.map Prod.fst) ds=true) {V:Nat→Value→Prop} {L:Nat→Bool} {i:Nat} {o:Oper} {v:Value} (ho:ops[i]? = some o) (h2:Sl a n m) (h3:Nk ops V L a) (hv:V i v) :
  Sl (a.put o.dst v) n m∧Nk ops V (Bq L i true) (a.put o.dst v):=by
 have hd':∀ (j:Nat) (o:Oper),ops[j]? = some o→ds[j]? = some o.dst:=fun j o h=>by
  subst hds;rw [List.getElem?_map,Array.getElem?_toList,h];rfl
 refine ⟨?_,?_⟩
 ·cases e:o.dst with
  | none=>exact h2
  | some d =>
   have hdd:=hd' i o ho;rw [e] at hdd;obtain ⟨hlt,hnm⟩:=F7 hok hdd;have hp:=h2.put d v hlt;refine ⟨hp.size,hp.defers,fun t u hu=>hp.get t u ?_⟩;rw [List.lookup_cons]
   have e2:(t == d)=false:=by
    have:t≠d:=by rintro rfl;exact hnm (ES hu)
    simpa using this
   rw [e2];exact hu
 ·intro j o' d hj hjd hLj;have hdj:=hd' j o' hj;rw [hjd] at hdj
  cases e:o.dst with
  | none =>
   have hne:j≠i:=by
    rintro rfl;rw [ho] at hj;obtain rfl:=Option.some.inj hj;rw [e] at hjd;simp at hjd
   rw [Ar _ _ hne] at hLj;exact h3 j o' d hj hjd hLj
  | some x =>
   have hdi:=hd' i o ho;rw [e] at hdi
   by_cases c:j=i
   ·subst c;rw [hdj] at hdi;obtain rfl:d=x:=by simpa using hdi
    obtain ⟨hlt,_⟩:=F7 hok hdj;exact ⟨v,by simp [Act.put,h2.size,hlt],hv⟩
   ·rw [Ar _ _ c] at hLj;obtain ⟨u,hu,hvu⟩:=h3 j o' d hj hjd hLj
    have hxd:x≠d:=by
     rintro rfl;exact c (Lj hok hdj hdi)
    refine ⟨u,?_,hvu⟩;simp only [Act.put];rw [Array.getElem?_setIfInBounds_ne hxd];exact hu
theorem JD (hm:P.follows .mixedOrders=true) (T:Terms R D) (hd:LetsDraw D) (hdr:∀ w:World,R w { w with drawn:=w.drawn+1 }) {id:Nat} {ops:Array Oper} (B:Nat) {n:Nat} {m:List (Nat×Value)} (Z:Sl a n m) (ds:List (Option Nat)) (hds:ops.toList.map Oper.dst=ds)
  (hok:okD n (m.map Prod.fst) ds=true) (hdag:dag ops=true) (V:Nat→Value→Prop)
  (hk:∀ (k:Nat) (o:Oper),k < ops.size→ops[k]? = some o→∀ L a,L k=false→Sl a n m→Nk ops V L a→(∀ d∈waits o,L d=true)→OpN P main R D fn ops k B (fun a' w'=>R w w'∧∃ v,a'=a.put o.dst v∧V k v) a w)
  (he:∀ a w',R w w'→Sl a n m→(∀ j o d,ops[j]? = some o→o.dst=some d→∃ v,a.tmps[d]? = some v∧V j v)→Q .normal a w'):(Code.region id ops true).wpC P main R D fn (ops.size*B+2) Q a w:=by
 refine Nw hm T hd B (fun L a' w'=>R w w'∧Sl a' n m∧Nk ops V L a') (fun w₁ h₁=>⟨T.trans _ _ _ h₁ (hdr w₁),Z,fun j o d _ _ h=>by simp at h⟩) ?_ ?_
 ·rintro L a' w' i o ho ⟨h1,h2,h3⟩ hli hri;have hi:=(Array.getElem?_eq_some_iff.1 ho).1;refine ((hk i o hi ho L a' hli h2 h3 (CQ hri)).rely T h1).mono ?_;rintro a2 w2 ⟨hI2,v,rfl,hv⟩;exact ⟨hI2,h3.more hds hok ho h2 hv⟩
 ·rintro L a' w' hall ⟨h1,h2,h3⟩;exact he a' w' h1 h2 fun j o d hj hjd=>h3 j o d hj hjd (Hy hdag hall j (Array.getElem?_eq_some_iff.1 hj).1)
theorem Xj (T:Terms R D) {ops:Array Oper} (B z:Nat) (hsz:ops.size=z+1) (hanc:OH ops z=true) (hdag:dag ops=true) (Inv:(Nat→Bool)→Act→World→Prop) {b:Frame} {k:List Item} {cs:List Frame} {Stop:Goroutine→World→Prop} (hb:b.fn=fn) (hk:b.kind ≠ .early)
  (hs:∀ L a w i o,i < z→ops[i]? = some o→Inv L a w→L i=false→BB o L=true→OpN P main R D fn ops i B (fun a' w'=>Inv (Bq L i true) a' w') a w)
  (hz:∀ L a w,(∀ i,i < z→L i=true)→Inv L a w→Goes P main R D Stop 0 (G (b.at a (.inRegion ops [z] :: k)) cs) w) :
  ∀ (n t:Nat) (listed:Array Bool) (a:Act) (w:World),listed.size=ops.size→NM ops.size listed≤n→Cm listed z=false→(∀ i o,ops[i]? = some o→Cm listed i=true→BB o (Cm listed)=true)→Inv (Cm listed) a w →
   Goes P main R D Stop (n*B) (G (b.at a (.inRegion ops (Region.linearise.go .any ops n t listed []) :: k)) cs) w:=by
 have hgone:∀ (listed:Array Bool),listed.size=ops.size→Region.ready .any ops listed=[]→Cm listed z=true:=fun listed hls hr=>Hy hdag (fun i o ho hre=>by
  have hlt:=(Array.getElem?_eq_some_iff.1 ho).1
  cases hl:Cm listed i
  ·exfalso
   have hm:i∈Region.ready .any ops listed:=by
    unfold Region.ready;rw [List.mem_filter,List.mem_range,Bool.and_eq_true];refine ⟨hlt,?_,?_⟩
    ·have e:listed.getD i true=listed.getD i false:=by simp [Array.getD_eq_getD_getElem?,hls,hlt]
     rw [e];unfold Cm at hl;rw [hl];rfl
    ·rw [ho];simpa [BB,Cm] using hre
   rw [hr] at hm;simp at hm
  ·rfl) z (by omega)
 intro n
 induction n with
 | zero =>
  intro t listed a w hls hn hdz _ hI;have h0:=hgone listed hls (IX (ops:=ops) (listed:=listed) (by omega));rw [hdz] at h0;cases h0
 | succ n ih =>
  intro t listed a w hls hn hdz hcl hI;simp only [Region.linearise.go]
  change Goes P main R D Stop ((n+1)*B) (G (b.at a (.inRegion ops (match (Region.ready .any ops listed)[t % (Region.ready .any ops listed).length]? with
   | some i=>Region.linearise.go .any ops n (t / (Region.ready .any ops listed).length) (listed.setIfInBounds i true) [i]
   | none=>[].reverse) :: k)) cs) w
  cases hi:(Region.ready .any ops listed)[t % (Region.ready .any ops listed).length]? with
  | none =>
   have hnil:Region.ready .any ops listed=[]:=by
    cases hr:Region.ready .any ops listed with
    | nil=>rfl
    | cons x xs =>
     rw [hr] at hi;have hlt:t % (x :: xs).length < (x :: xs).length:=Nat.mod_lt _ (by simp);simp at hi;simp at hlt
     omega
   have h0:=hgone listed hls hnil;rw [hdz] at h0;cases h0
  | some i =>
   simp only [];rw [linearise_go_acc,List.reverse_singleton,List.singleton_append];have hmem:=List.mem_of_getElem? hi;obtain ⟨o,ho,hlt,h1,h2⟩:=mem_ready hls hmem;have hle:=JL hls hmem;have hdone:Cm (listed.setIfInBounds i true)=Bq (Cm listed) i true:=JV (by omega)
   have hcl':∀ j o,ops[j]? = some o→Cm (listed.setIfInBounds i true) j=true→BB o (Cm (listed.setIfInBounds i true))=true:=fun j o' hj hd=>by
    rw [hdone] at hd ⊢
    have mono:∀ q,Cm listed q=true→Bq (Cm listed) i true q=true:=fun q hq=>by
     by_cases e:q=i
     ·rw [e,D8]
     ·rw [Ar _ _ e];exact hq
    by_cases e:j=i
    ·subst e;rw [ho] at hj;obtain rfl:=Option.some.inj hj;exact Di mono h2
    ·rw [Ar _ _ e] at hd;exact Di mono (hcl j o' hj hd)
   by_cases hiz:i=z
   ·subst hiz
    have hall:∀ j,j < ops.size→Cm (listed.setIfInBounds i true) j=true:=fun j hj=>PP hcl' ops.size (· == i) (fun k hk=>by
      have:k=i:=by simpa using hk
      rw [this,hdone,D8]) j (by
      unfold OH at hanc;rw [List.all_eq_true] at hanc;exact hanc j (by rw [List.mem_range];exact hj))
    have hnil:Region.ready .any ops (listed.setIfInBounds i true)=[]:=by
     refine List.eq_nil_iff_forall_not_mem.2 fun j hj =>?_
     obtain ⟨_,_,hlt',hd',_⟩:=mem_ready (by simpa using hls) hj;rw [hall j hlt'] at hd';cases hd'
    have hrest:∀ n t,Region.linearise.go .any ops n t (listed.setIfInBounds i true) []=[]:=fun n t=>by
     cases n with
     | zero=>rfl
     | succ n =>
      simp only [Region.linearise.go]
      change (match (Region.ready .any ops (listed.setIfInBounds i true))[t % (Region.ready .any ops (listed.setIfInBounds i true)).length]? with
       | some j=>Region.linearise.go .any ops n (t / (Region.ready .any ops (listed.setIfInBounds i true)).length) ((listed.setIfInBounds i true).setIfInBounds j true) [j]
       | none=>[].reverse)=[]
      rw [hnil]
      rfl
    rw [hrest]
    exact (hz _ a w (fun j hj=>by
     have:=hall j (by omega);rw [hdone,Ar _ _ (by omega)] at this;exact this) hI).mono (by omega)
   ·have:=(hs _ a w i o (by omega) ho hI h1 h2) b k cs Stop (Region.linearise.go .any ops n (t / (Region.ready .any ops listed).length) (listed.setIfInBounds i true) []) (n*B) hb hk fun a' w' hI'=>ih _ (listed.setIfInBounds i true) a' w' (by simpa using hls) (by omega)
     (by rw [hdone,Ar _ _ (Ne.symm hiz)];exact hdz) hcl' (by rw [hdone];exact hI')
    exact this.mono (by rw [Nat.succ_mul];omega)
theorem LM (hm:P.follows .mixedOrders=true) (T:Terms R D) (hd:LetsDraw D) {id:Nat} {ops:Array Oper} (B z:Nat) (hsz:ops.size=z+1) (hanc:OH ops z=true) (hdag:dag ops=true) (Inv:(Nat→Bool)→Act→World→Prop) {b:Frame} {k:List Item} {cs:List Frame} {Stop:Goroutine→World→Prop} (hb:b.fn=fn) (hk:b.kind ≠ .early)
  (h0:∀ w₁,R w w₁→Inv (fun _=>false) a { w₁ with drawn:=w₁.drawn+1 })
  (hs:∀ L a w i o,i < z→ops[i]? = some o→Inv L a w→L i=false→BB o L=true→OpN P main R D fn ops i B (fun a' w'=>Inv (Bq L i true) a' w') a w)
  (hz:∀ L a w,(∀ i,i < z→L i=true)→Inv L a w→Goes P main R D Stop 0 (G (b.at a (.inRegion ops [z] :: k)) cs) w):Goes P main R D Stop (ops.size*B+1) (G (b.at a (.code (.region id ops true) :: k)) cs) w:=by
 refine Goes.step rfl fun w₁ h₁ =>?_
 rw [stepG_region_draw];refine ⟨hd _,?_⟩
 have e:Cm (Array.replicate ops.size false)=fun _=>false:=by
  funext k
  unfold Cm
  by_cases h:k < ops.size <;> simp [Array.getD_eq_getD_getElem?,h]
 have hf:∀ k,Cm (Array.replicate ops.size false) k=false:=fun k=>by rw [e]
 have:=Xj T B z hsz hanc hdag Inv hb hk hs hz ops.size (w₁.tape w₁.drawn (.order b.fn id)) (Array.replicate ops.size false) a { w₁ with drawn:=w₁.drawn+1 } (by simp) (by rw [Hq];exact Nat.le_refl _) (hf z) (fun i o _ hd=>by rw [hf] at hd;cases hd) (by rw [e];exact h0 w₁ h₁);unfold Region.schedule;simp only [hm];exact this
theorem QP (hm:P.follows .mixedOrders=true) (T:Terms R D) (hd:LetsDraw D) (hdr:∀ w:World,R w { w with drawn:=w.drawn+1 }) {id:Nat} {ops:Array Oper} (B z:Nat) (hsz:ops.size=z+1) (hanc:OH ops z=true) {n:Nat} {m:List (Nat×Value)} (Z:Sl a n m) (ds:List (Option Nat)) (hds:ops.toList.map Oper.dst=ds)
  (hok:okD n (m.map Prod.fst) ds=true) (hdag:dag ops=true) (V:Nat→Value→Prop) {b:Frame} {k:List Item} {cs:List Frame} {Stop:Goroutine→World→Prop} (hb:b.fn=fn) (hk:b.kind ≠ .early)
  (hs:∀ (i:Nat) (o:Oper),i < z→ops[i]? = some o→∀ L a,L i=false→Sl a n m→Nk ops V L a→(∀ d∈waits o,L d=true)→OpN P main R D fn ops i B (fun a' w'=>R w w'∧∃ v,a'=a.put o.dst v∧V i v) a w)
  (hz:∀ a w',R w w'→Sl a n m→(∀ j o d,j < z→ops[j]? = some o→o.dst=some d→∃ v,a.tmps[d]? = some v∧V j v)→Goes P main R D Stop 0 (G (b.at a (.inRegion ops [z] :: k)) cs) w'):Goes P main R D Stop (ops.size*B+1) (G (b.at a (.code (.region id ops true) :: k)) cs) w:=by
 refine LM hm T hd B z hsz hanc hdag (fun L a' w'=>R w w'∧Sl a' n m∧Nk ops V L a') hb hk (fun w₁ h₁=>⟨T.trans _ _ _ h₁ (hdr w₁),Z,fun j o d _ _ h=>by simp at h⟩) ?_ ?_
 ·rintro L a' w' i o hi ho ⟨h1,h2,h3⟩ hli hri;refine ((hs i o hi ho L a' hli h2 h3 (CQ hri)).rely T h1).mono ?_;rintro a2 w2 ⟨hI2,v,rfl,hv⟩;exact ⟨hI2,h3.more hds hok ho h2 hv⟩
 ·rintro L a' w' hall ⟨h1,h2,h3⟩;exact hz a' w' h1 h2 fun j o d hj ho hjd=>h3 j o d ho hjd (hall j hj)
end
section
variable {P:Program} {M:Machine} {Safe:Obj→Prop} {c:Nat} {fn:FuncId} {Q:Exit→Act→World→List Value→Nat→Prop} {a:Act} {w:World} {L:List Value} {K:Nat}
theorem Az (hP:EJ P) {ops:Array Oper} {i:Nat} {rest:List Nat} {o:Oper} (v:Value) (ho:ops[i]? = some o) (hg:o.guard=none)
  (h:∀ w₁,Grown c w w₁→(execOp a.eval o).run P w₁ = .ok (.value v) w₁∧CB Safe K w₁ w₁ (listed P fn a o w₁)) (hn:PV P M Safe c fn ops rest Q (a.put o.dst v) w L K):PV P M Safe c fn ops (i :: rest) Q a w L K :=
 QC hP ho (by simp [Region.wanted,hg]) fun w₁ h₁ Kk hK=>by
  obtain ⟨h2,h3⟩:=h w₁ h₁;rw [h2];exact hK _ _ ⟨h3,VO hn h₁⟩
theorem Gv (hP:EJ P) {ops:Array Oper} {i:Nat} {rest:List Nat} {o:Oper} (ho:ops[i]? = some o) (hg:o.guard=none)
  (h:∀ w₁,Grown c w w₁→∃ v w',((execOp a.eval o).run P w₁ = .ok (.value v) w'∨((execOp a.eval o).run P w₁ = .ok .skip w'∧v=undef))∧CB Safe K w₁ w' (listed P fn a o w₁)∧PV P M Safe c fn ops rest Q (a.put o.dst v) w' L K):PV P M Safe c fn ops (i :: rest) Q a w L K :=
 QC hP ho (by simp [Region.wanted,hg]) fun w₁ h₁ Kk hK=>by
  obtain ⟨v,w',h2,h3,h4⟩:=h w₁ h₁;rcases h2 with h2 | ⟨h2,rfl⟩
  ·rw [h2];exact hK _ _ ⟨h3,h4⟩
  ·rw [h2];exact hK _ _ ⟨h3,h4⟩
end
section
variable {Safe:Obj→Prop} {c N K:Nat} {w:World} {es:Array Event}
theorem Bo.still (h:∀ e∈es,∀ x,(MemAct.ofEvent e).touch? = some x→∀ b,blk x.loc=some b→x.write=false∧b < w.heap.size∧PT Safe c N w b):Bo Safe c N w w es:=⟨rfl,rfl,rfl,Nat.le_refl _,fun _ _=>rfl,h⟩
theorem CB.still (h:∀ e∈es,∀ x,(MemAct.ofEvent e).touch? = some x→∀ b,blk x.loc=some b→x.write=false):CB Safe K w w es :=
 ⟨rfl,rfl,rfl,Nat.le_refl _,fun _ _ _=>rfl,fun _ _ h=>h,fun e he x hx b hb hw=>by rw [h e he x hx b hb] at hw;cases hw⟩
theorem MG:LetsDraw (Bo Safe c N):=fun w=>⟨rfl,rfl,rfl,Nat.le_refl _,fun _ _=>rfl,fun e he=>by simp at he⟩
theorem Aab (w:World):AO Safe c N w { w with drawn:=w.drawn+1 }:=⟨rfl,rfl,rfl,Nat.le_refl _,fun _ _ _=>rfl⟩
end
end
section
open Go Go.Conc
open Go.RowKit
theorem oq {p q:Prop} (h1:p:=by refine run_eq_of (fun K hK =>?_);go_simp;exact hK) (h2:q:=by rw [listed_nil (by simp [go_sem, *])];exact Bo.idle _):p∧q:=⟨h1,h2⟩
theorem om {p q:Prop} (h1:p:=by refine run_eq_of (fun K hK =>?_);go_simp;exact hK) (h2:q:=by rw [listed_nil (by simp [go_sem, *])];exact CB.idle _):p∧q:=⟨h1,h2⟩
end
section
open Go.RowKit
open Go.ChangeMaps (setBlock)
open Go.WideMaps (KeyLaw)
def MF (ps:List (Value×Value)):Array MapEntry:=(ps.zipIdx.map fun q=>({ key:=q.1.1,val:=q.1.2,born:=q.2 }:MapEntry)).toArray
def Gs (w:World) (m:Nat) (ps:List (Value×Value)):Prop:=w.heap[m]? = some (.map (MF ps) ps.length)
theorem MC (ps:List (Value×Value)):(MF ps).size=ps.length:=by simp [MF]
theorem DY (ps:List (Value×Value)) (i:Nat):(MF ps)[i]? = (ps[i]?).map fun q=>({ key:=q.1,val:=q.2,born:=i }:MapEntry):=by
 simp only [MF,List.getElem?_toArray,List.getElem?_map,List.getElem?_zipIdx,Option.map_map]
 cases ps[i]? <;> simp
theorem WU (ps:List (Value×Value)) (k v:Value):(MF ps).push { key:=k,val:=v,born:=ps.length }=MF (ps++[(k,v)]):=by
 simp [MF,List.zipIdx_append]
theorem Gs.made (w:World):Gs (w.alloc (.map #[] 0)) w.heap.size []:=by
 show (w.heap.push _)[w.heap.size]? = some _;simp [MF]
theorem Gs.lt {w:World} {m:Nat} {ps:List (Value×Value)} (h:Gs w m ps):m < w.heap.size:=(Array.getElem?_eq_some_iff.1 h).1
theorem Gs.below {w w':World} {m:Nat} {ps:List (Value×Value)} (h:Gs w m ps) {B:Nat} (hb:Below B w w') (hB:m < B):Gs w' m ps:=by
 unfold Gs at *;rw [hb.block m hB];exact h
section
variable {P:Program} {k e t:TypeId}
theorem Gi {w w0:World} {B m:Nat} (o:Obj) (hb:Below B w0 w) (hB:B≤m):Below B w0 (setBlock w m o) :=
 hb.trans ⟨rfl,rfl,rfl,by simp [setBlock],fun k hk=>by simp only [setBlock];rw [Array.getElem?_setIfInBounds_ne (by omega)]⟩
theorem NE {w:World} {m j:Nat} (o:Obj) (h:m≠j):(setBlock w m o).heap[j]? = w.heap[j]?:=by simp only [setBlock];rw [Array.getElem?_setIfInBounds_ne h]
theorem Gs.set {w:World} {m:Nat} {ps:List (Value×Value)} (ps':List (Value×Value)) (h:Gs w m ps):Gs (setBlock w m (.map (MF ps') ps'.length)) m ps':=by
 have:=h.lt;simp [Gs,setBlock,this]
end
end
section
open Go.RowKit Go.Conc
def AaY (P:Program) (o:Oper) (a:Act) (w:World) (next:Act→World→Prop):Prop :=
 (∃ c v z w1 cap buf s r tm,(execOp a.eval o).run P w = .ok (.comm #[scase c v z] true .send) w1∧w1.heap[c]? = some (.chan cap buf false s r tm)∧buf.size < cap ∧
   next (a.put o.dst undef) (w1.setChan c cap (buf.push v) false (s+1) r tm)) ∨
 (∃ c z w1 cap buf s r tm,(execOp a.eval o).run P w = .ok (.comm #[rcase c z] true (.recv false)) w1∧w1.heap[c]? = some (.chan cap buf false s r tm)∧0 < buf.size ∧
   next (a.put o.dst (buf.getD 0 undef)) (w1.setChan c cap (buf.extract 1 buf.size) false s (r+1) tm))
def wpC (P:Program) (ops:Array Oper) (Q:Exit→Act→World→Prop):List Nat→Act→World→Prop
 | [],a,w=>Q .normal a w
 | i :: rest,a,w =>
  match ops[i]? with
  | none=>False
  | some o=>o.guard=none∧(o.wp P a w (wpC P ops Q rest) Q∨(o.asks P a w∧LetsOut Q)∨AaY P o a w (wpC P ops Q rest))
end
section
open Go.RowKit Go.Conc
open Go.ChangeMaps (setBlock)
end
section
open Go.RowKit Go.Conc
open Go.ChangeMaps (setBlock)
section
variable {r:BU} {f:Flock} {shut day:Int} {q:Int×Int} {S:List (Int×Int)} {k:Nat} {s:Strip} {eo:Int×Bool}
end
end
section
open Go.RowKit
end
section
open Go.RowKit
open Go.ChangeMaps (setBlock)
structure Ext (m:Nat) (w w':World):Prop where
 os:w'.os=w.os
 tape:w'.tape=w.tape
 output:w'.output=w.output
 size:w.heap.size≤w'.heap.size
 block:∀ k,k < w.heap.size→k≠m→w'.heap[k]? = w.heap[k]?
theorem Ext.refl (m:Nat) (w:World):Ext m w w:=⟨rfl,rfl,rfl,Nat.le_refl _,fun _ _ _=>rfl⟩
theorem Ext.trans {m:Nat} {a b c:World} (h:Ext m a b) (k:Ext m b c):Ext m a c :=
 ⟨k.os.trans h.os,k.tape.trans h.tape,k.output.trans h.output,Nat.le_trans h.size k.size,fun i hi hne=>(k.block i (Nat.lt_of_lt_of_le hi h.size) hne).trans (h.block i hi hne)⟩
theorem Ext.of_below {m:Nat} {w w':World} (h:Below w.heap.size w w'):Ext m w w':=⟨h.os,h.tape,h.output,h.size,fun k hk _=>h.block k hk⟩
theorem Ext.below {m B:Nat} {w0 w w':World} (h:Ext m w w') (hb:Below B w0 w) (hB:B≤m) (hBw:B≤w.heap.size):Below B w0 w' :=
 hb.trans ⟨h.os,h.tape,h.output,h.size,fun k hk=>h.block k (by omega) (by omega)⟩
end
section
open Go.RowKit
open Go.ChangeMaps (setBlock)
section
variable {r:BU} {f:Flock} {shut day:Int} {q:Int×Int} {k:Nat} {s:Strip} {eo:Int×Bool}
end
end
section
open Go.RowKit
section
variable {r:BU} {f:Flock} {shut d left b0:Int} {V:Int×Int→Int} {p q:Int×Int}
end
end
section
open Go.RowKit
open Go.ChangeMaps (setBlock)
end
section
open Go.RowKit
end
section
open Go.RowKit
end
section
open Go.RowKit
end
section
open Go.RowKit
end
section
open Go.RowKit
def CW:List Int→Int
 | a :: b :: l=>if btw a 0 (b-1) then CW l else 3
 | _=>0
def BP (r:BU) (f:Flock) (l:List Int):Int:=if BN r != 0 then BN r else if DZ f != 0 then DZ f else CW l
theorem UW {l:List Int} {i:Nat} (h:i+1 < l.length):CW (l.drop i)=if btw l[i] 0 (l[i+1]-1) then CW (l.drop (i+2)) else 3:=by
 rw [List.drop_eq_getElem_cons (show i < l.length by omega),List.drop_eq_getElem_cons h];rfl
theorem WH {l:List Int} {i:Nat} (h:¬ i+1 < l.length):CW (l.drop i)=0:=by
 by_cases e:i < l.length
 ·rw [List.drop_eq_getElem_cons e,List.drop_of_length_le (by omega)];rfl
 ·rw [List.drop_of_length_le (by omega)];rfl
def X6 (w:World) (r:BU) (f:Flock) (l:List Int) (a:Option Addr) (cap:Nat) (e:Ending) (w':World):Prop :=
 (BP r f l=0∧∃ b,e = .returned (.tuple #[.pointer (some ⟨b,0,none⟩), .int .i64 0])∧OL w' b r f (-1) a cap∧w.heap.size≤b∧(∀ k,w'.frozen? ⟨b,k,none⟩=false)∧Below w.heap.size w w') ∨
 (BP r f l≠0∧e = .returned (.tuple #[.pointer none, .int .i64 (BP r f l)])∧Below w.heap.size w w')
theorem Wx (w:World) (r:BU) (f:Flock) (l:List Int) (a:Option Addr) (cap:Nat) (pa:Option Addr) (pc:Nat) (hs:EH w a r.strips) (hm:r.strips.length≤maxLen) (hp:Aq w pa l) (hl:l.length≤100)
  (hr:BN r=0→∀ i (h:i < l.length),i % 2=1→0≤l[i]∧l[i]≤1000) :
  Calls Try.prog 100 #[.agg #[.int .i64 r.days, .int .i64 r.stages, .slice a r.strips.length cap], .agg #[.int .i64 f.heads, .int .i64 f.pace], .slice pa l.length pc] w (X6 w r f l a cap):=by
 have hb0:Below w.heap.size w ((w.alloc (.cells #[.int .i64 r.days, .int .i64 r.stages, .slice a r.strips.length cap] 24)).alloc (.cells #[.int .i64 f.heads, .int .i64 f.pace] 87)):=((Below.refl _ _).alloc (Nat.le_refl _) _).alloc (by simp) _;obtain ⟨r1,r2,rs⟩:=r;obtain ⟨f1,f2⟩:=f
 dsimp only at hs hm hr hb0 ⊢
 have HM:=Lib.hid hm;clear hm
 go_enter Try.func100,Try.ntmps100
 go_wp2_with fail
 refine (check_any r1 r2 rs a cap _ (hs.below hb0) HM.out).mono ?_;rintro e w1 ⟨rfl,hb1⟩;obtain ⟨hc1,_⟩:=Eo hb1;have e0:w1.cell? ⟨w.heap.size,0,none⟩=some (.int .i64 r1):=by rw [hc1 _ _ (by simp;omega)];simp [go_sem]
 have e1:w1.cell? ⟨w.heap.size,1,none⟩=some (.int .i64 r2):=by rw [hc1 _ _ (by simp;omega)];simp [go_sem]
 have e2:w1.cell? ⟨w.heap.size,2,none⟩=some (.slice a rs.length cap):=by rw [hc1 _ _ (by simp;omega)];simp [go_sem]
 have e3:w1.cell? ⟨w.heap.size+1,0,none⟩=some (.int .i64 f1):=by rw [hc1 _ _ (by simp)];simp [go_sem]
 have e4:w1.cell? ⟨w.heap.size+1,1,none⟩=some (.int .i64 f2):=by rw [hc1 _ _ (by simp)];simp [go_sem]
 have hb01:Below w.heap.size w w1:=hb0.trans (hb1.mono (by simp;omega));have hz1:w.heap.size+1 < w1.heap.size:=lt_of_cell e3;clear hc1 hb1 hb0
 by_cases hck:BN ⟨r1,r2,rs⟩=0
 ·have hck':(BN ⟨r1,r2,rs⟩ != 0)=false:=by simp [hck]
  rw [hck];have Hck:=Lib.hid hck;clear hck hck'
  go_wp2_with fail
  refine (NR f1 f2 _).mono ?_;rintro e w2 ⟨rfl,hb2⟩;obtain ⟨hc2,_⟩:=Eo hb2;have e0':w2.cell? ⟨w.heap.size,0,none⟩=some (.int .i64 r1):=by rw [hc2 _ _ (by omega)];exact e0
  have e1':w2.cell? ⟨w.heap.size,1,none⟩=some (.int .i64 r2):=by rw [hc2 _ _ (by omega)];exact e1
  have e2':w2.cell? ⟨w.heap.size,2,none⟩=some (.slice a rs.length cap):=by rw [hc2 _ _ (by omega)];exact e2
  have e3':w2.cell? ⟨w.heap.size+1,0,none⟩=some (.int .i64 f1):=by rw [hc2 _ _ (by omega)];exact e3
  have e4':w2.cell? ⟨w.heap.size+1,1,none⟩=some (.int .i64 f2):=by rw [hc2 _ _ (by omega)];exact e4
  have hb02:Below w.heap.size w w2:=hb01.trans (hb2.mono hb01.size);clear e0 e1 e2 e3 e4 hc2 hb2 hb01
  by_cases hfk:DZ ⟨f1,f2⟩=0
  ·rw [hfk];have Hfk:=Lib.hid hfk;clear hfk;have He:BP ⟨r1,r2,rs⟩ ⟨f1,f2⟩ l=CW l:=by simp [BP,Hck.out,Hfk.out]
   have HE:=Lib.hid He;clear He;have Hr:=Lib.hid (hr Hck.out);clear hr;have hp2:=hp.below hb02;clear hp;have Hp2:=Lib.hid hp2;clear hp2;have e:True:=trivial
   go_wp2_with fail
   go_loopw [10] (fun v10 wx=>∃ i:Nat,i≤l.length+1∧v10 = .int .i64 i∧CW (l.drop i)=CW l∧i % 2=0∧Below w2.heap.size w2 wx) (fun v _=>l.length+2-(intOf v).toNat)
   case atStart=>exact ⟨0,by omega,rfl,rfl,rfl,Below.refl _ _⟩
   case round =>
    obtain ⟨i,hi,rfl,hE,hpar,hbr⟩:=hrel;obtain ⟨hcr,_⟩:=Eo hbr;have e0:wr.cell? ⟨w.heap.size,0,none⟩=some (.int .i64 r1):=by rw [hcr _ _ (lt_of_cell e0')];exact e0'
    have e1:wr.cell? ⟨w.heap.size,1,none⟩=some (.int .i64 r2):=by rw [hcr _ _ (lt_of_cell e0')];exact e1'
    have e2:wr.cell? ⟨w.heap.size,2,none⟩=some (.slice a rs.length cap):=by rw [hcr _ _ (lt_of_cell e0')];exact e2'
    have e3:wr.cell? ⟨w.heap.size+1,0,none⟩=some (.int .i64 f1):=by rw [hcr _ _ (lt_of_cell e3')];exact e3'
    have e4:wr.cell? ⟨w.heap.size+1,1,none⟩=some (.int .i64 f2):=by rw [hcr _ _ (lt_of_cell e3')];exact e4'
    have hb0r:Below w.heap.size w wr:=hb02.trans (hbr.mono hb02.size);clear e0' e1' e2' e3' e4' hcr;have HEi:=Lib.hid hE;clear hE;have Hpar:=Lib.hid hpar;clear hpar
    by_cases hlt:i+1 < l.length
    ·rcases Hp2.out with hx | ⟨pb,po,rfl,hpc⟩
     ·rw [hx] at hlt;simp at hlt
     have x0:=(Eo hbr).1 _ _ (lt_of_cell (hpc i (by omega))) |>.trans (hpc i (by omega))
     have x1:=(Eo hbr).1 _ _ (lt_of_cell (hpc (i+1) hlt)) |>.trans (hpc (i+1) hlt)
     obtain ⟨y1,y2⟩:=Hr.out (i+1) hlt (by have:=Hpar.out;omega);have hst:=UW hlt;generalize hg1:l[i]=p1 at x0 hst;generalize hg2:l[i+1]=p2 at x1 y1 y2 hst;have Hst:=Lib.hid hst;clear hst;have Hg1:=Lib.hid hg1;clear hg1;have Hg2:=Lib.hid hg2;clear hg2;clear hpc;have q1:(i:Int) < (l.length:Int):=by omega
     have q2:(i:Int)+1 < (l.length:Int):=by omega
     have q3:0≤(i:Int)+1:=by omega
     have s1:IntKind.i64.wrap ((i:Int)+1)=(i:Int)+1:=IntWalk.i64_in _ (by omega);have s2:((i:Int)+1).toNat=i+1:=by omega
     have s3:IntKind.i64.wrap (p2-1)=p2-1:=IntWalk.i64_in _ (by omega)
     go_wp2_with fail
     go_quiet ((go_at_call 111;exact Calls.quiet_of_same ((BL _ _ _ _).mono fun e w' h=>⟨h.1,h.2.symm⟩)))
     clear q1 q2 q3 s1 s2 s3
     cases hbt:btw p1 0 (p2-1)
     ·have Hbt:=Lib.hid hbt;clear hbt
      go_wp2_with fail
      go_ret2
      have h3:CW l=3:=by rw [← HEi.out,Hst.out,Hbt.out];rfl
      exact .inr ⟨by rw [HE.out,h3];decide,by rw [HE.out,h3];rfl,below_drewN hb0r _⟩
     ·have Hbt:=Lib.hid hbt;clear hbt
      go_wp2_with fail
      exact ⟨⟨i+2,by omega,by go_num,by rw [← HEi.out,Hst.out,Hbt.out];rfl,by have:=Hpar.out;omega,below_drewN hbr _⟩,by simp [intOf];omega⟩
    ·have h0:CW l=0:=by rw [← HEi.out];exact WH hlt
     have H0:=Lib.hid h0;clear h0
     go_wp2_with fail
     go_ret2
     refine .inl ⟨by rw [HE.out,H0.out],_,rfl,⟨by simp,by simp,by simp,by simp,by simp,by simp,?_⟩,hb0r.size,fun k=>by simp,?_⟩
     ·exact hs.below (hb0r.trans (Below.alloc (Below.refl _ _) hb0r.size _))
     ·exact hb0r.trans (Below.alloc (Below.refl _ _) hb0r.size _)
  ·have He:BP ⟨r1,r2,rs⟩ ⟨f1,f2⟩ l=DZ ⟨f1,f2⟩:=by simp [BP,Hck.out,hfk]
   have hne:(DZ ⟨f1,f2⟩ != 0)=true:=by simpa using hfk
   go_wp2_with fail
   go_ret2
   exact .inr ⟨by rw [He];exact hfk,by rw [He];rfl,hb02⟩
 ·have He:BP ⟨r1,r2,rs⟩ ⟨f1,f2⟩ l=BN ⟨r1,r2,rs⟩:=by simp [BP,hck]
  have hne:(BN ⟨r1,r2,rs⟩ != 0)=true:=by simpa using hck
  go_wp2_with fail
  go_ret2
  exact .inr ⟨by rw [He];exact hck,by rw [He];rfl,hb01⟩
end
section
open Go.RowKit
theorem Vu {r:BU} (h:BN r=0):1≤r.days∧r.days≤10∧1≤r.stages∧r.stages≤6∧r.strips.length≤8:=by
 unfold BN at h
 by_cases c1:(!(btw r.days 1 10) || !(btw r.stages 1 6))=true
 ·rw [if_pos c1] at h;omega
 ·rw [if_neg c1] at h;simp [btw] at c1
  by_cases c2:8 < r.strips.length
  ·rw [if_pos c2] at h;omega
  ·omega
theorem UR {r:BU} {f:Flock} {l:List Int} (h:BP r f l=0):Good r f∧CW l=0:=by
 unfold BP at h
 by_cases c1:(BN r != 0)=true
 ·rw [if_pos c1] at h;simp [h] at c1
 ·rw [if_neg c1] at h
  by_cases c2:(DZ f != 0)=true
  ·rw [if_pos c2] at h;simp [h] at c2
  ·rw [if_neg c2] at h;exact ⟨TZ.2 ⟨by simpa using c1,by simpa using c2⟩,h⟩
theorem Aas {a b:Int}:CW [a,b]=0↔0≤a∧a < b:=by
 rw [CW]
 by_cases h:btw a 0 (b-1)=true
 ·rw [if_pos h];rw [Aj] at h;simp [CW];omega
 ·rw [if_neg h];rw [Aj] at h;omega
end
section
open Go.RowKit
end
section
open Go.RowKit
end
end Go.Proofs.Ytgdobbcjkiapkaa
