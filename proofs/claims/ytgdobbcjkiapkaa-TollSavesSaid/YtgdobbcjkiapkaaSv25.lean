import Derived.Test.YtgdobbcjkiapkaaSv24
import Derived.Test.YtgdobbcjkiapkaaSv01
import Derived.Test.YtgdobbcjkiapkaaSv19
import Derived.Test.YtgdobbcjkiapkaaSv04
namespace Go.Proofs.Ytgdobbcjkiapkaa
set_option maxRecDepth 100000
set_option maxHeartbeats 4000000
set_option linter.unusedSimpArgs false
set_option linter.unusedVariables false
section
open Go.RowKit
theorem Ie {Γ:Type}{P:Program}{id:Nat}{Q:Exit→Act→World→Prop}{a:Act}{w:World}{ops:Array Oper}{n:Nat}{m:List (Nat×Value)}(hm:P.follows .mixedOrders=true) (Z:Sl a n m) (ds:List (Option Nat)) (hds:ops.toList.map Oper.dst=ds) (hok:okD n (m.map Prod.fst) ds=true) (hdag:dag ops=true)
  (V:Γ→Nat→Value→Prop) (I:Γ→(Nat→Bool)→World→Prop) (g0:Γ) (hI:I g0 (fun _=>false) w.drew)
  (hk:∀ (k:Nat) (o:Oper),k<ops.size→ops[k]?=some o→∀ g L a w,I g L w→L k=false→Sl a n m→EO ops (fun j v _=>V g j v) L a w→(∀ d∈waits o,L d=true)→wpOp P ops Q k (fun a' w'=>∃ g' v,a'=a.put o.dst v∧V g' k v∧I g' (BC L k true) w'∧∀ j u,L j=true→V g j u→V g' j u) a w)
  (he:∀ g L a w,(∀ k,k<ops.size→L k=true)→I g L w→Sl a n m→EO ops (fun j v _=>V g j v) L a w→Q .normal a w):(Code.region id ops true).wp P Q a w:=by
 have hd:∀ (j:Nat) (o:Oper),ops[j]?=some o→ds[j]?=some o.dst:=fun j o h=>by
  subst hds;rw[List.getElem?_map,Array.getElem?_toList,h];rfl
 refine DC hm (fun L a' w'=>∃ g,I g L w'∧Sl a' n m∧EO ops (fun j v _=>V g j v) L a' w') ⟨g0,hI,Z,fun j o d _ _ h=>by simp at h⟩ ?_ ?_
 ·rintro L a' w' i o ho ⟨g,h1,h2,h3⟩ hli hri;have hi:=(Array.getElem?_eq_some_iff.1 ho).1;refine wpOp_mono ?_ (hk i o hi ho g L a' w' h1 hli h2 h3 (CX hri));rintro a2 w2 ⟨g',v,rfl,hv,hI2,hmono⟩;refine⟨g',hI2,?_,?_⟩
  ·cases e:o.dst with
   | none=>exact h2
   | some d =>
    have hdd:=hd i o ho;rw[e]at hdd;obtain⟨hlt,hnm⟩:=FY hok hdd;have hp:=h2.put d v hlt;refine⟨hp.size,hp.defers,fun t u hu=>hp.get t u ?_⟩;rw[List.lookup_cons]
    have e2:(t == d)=false:=by
     have:t≠d:=by rintro rfl;exact hnm (ES hu)
     simpa using this
    rw[e2];exact hu
  ·intro j o' d hj hjd hLj;have hdj:=hd j o' hj;rw[hjd]at hdj
   cases e:o.dst with
   | none =>
    have hne:j≠i:=by
     rintro rfl;rw[ho]at hj;obtain rfl:=Option.some.inj hj;rw[e]at hjd;simp at hjd
    rw[Ap _ _ hne]at hLj;obtain⟨u,hu,hvu⟩:=h3 j o' d hj hjd hLj;exact⟨u,hu,hmono _ _ hLj hvu⟩
   | some x =>
    have hdi:=hd i o ho;rw[e]at hdi
    by_cases c:j=i
    ·subst c;rw[hdj]at hdi;obtain rfl:d=x:=by simpa using hdi
     obtain⟨hlt,_⟩:=FY hok hdj;exact⟨v,by simp[Act.put,h2.size,hlt],hv⟩
    ·rw[Ap _ _ c]at hLj;obtain⟨u,hu,hvu⟩:=h3 j o' d hj hjd hLj
     have hxd:x≠d:=by
      rintro rfl;exact c (Ky hok hdj hdi)
     refine⟨u,?_,hmono _ _ hLj hvu⟩;simp only[Act.put];rw[Array.getElem?_setIfInBounds_ne hxd];exact hu
 ·rintro L a' w' hall ⟨g,h1,h2,h3⟩;exact he g L a' w' (GY hdag hall) h1 h2 h3
end
section
open Go.RowKit
def GI (x:World) (a s:Nat) (c0 c1:Array Value) (t:TypeId) (g:Nat) (L:Nat→Bool) (y:World):Prop :=
 (L s=true→L a=true)∧(L a=true→x.heap.size≤g∧Rw y g (bif L s then c1 else c0) t)
section
variable {x y y2:World}{a s:Nat}{c0 c1:Array Value}{t:TypeId}{g:Nat}{L:Nat→Bool}
theorem GI.init:GI x a s c0 c1 t g (fun _=>false) y:=⟨fun h=>by simp at h,fun h=>by simp at h⟩
theorem GI.below (h:GI x a s c0 c1 t g L y) (hb:Below y.heap.size y y2):GI x a s c0 c1 t g L y2:=⟨h.1,fun ha=>⟨(h.2 ha).1,(h.2 ha).2.below hb⟩⟩
theorem GI.other (h:GI x a s c0 c1 t g L y) {j:Nat}(h1:a≠j) (h2:s≠j):GI x a s c0 c1 t g (BC L j true) y:=by
 refine⟨?_,?_⟩
 ·rw[Ap _ _ h1,Ap _ _ h2];exact h.1
 ·rw[Ap _ _ h1,Ap _ _ h2];exact h.2
theorem GI.made (h:GI x a s c0 c1 t g L y) (hla:L a=false) (hx:x.heap.size≤y.heap.size) (hne:s≠a):GI x a s c0 c1 t y.heap.size (BC L a true) (y.alloc (.cells c0 t)):=by
 have hls:L s=false:=by
  cases e:L s with
  | false=>rfl
  | true=>rw[h.1 e]at hla;exact absurd hla (by decide)
 refine⟨fun _=>by simp[BC],fun _=>⟨hx,?_⟩⟩;rw[Ap _ _ hne,hls];exact Rw.new _ _ _
theorem GI.get (h:GI x a s c0 c1 t g L y) (hla:L a=true) (hls:L s=false):Rw y g c0 t:=by have:=(h.2 hla).2;rw[hls]at this;exact this
theorem GI.full (h:GI x a s c0 c1 t g L y) (hla:L a=true) (hls:L s=true):x.heap.size≤g∧Rw y g c1 t:=by have:=h.2 hla;rw[hls]at this;exact this
theorem GI.far (h:GI x a s c0 c1 t g L y) {g2:Nat}(hne:L a=true→g≠g2) (o:Nat) (v:Value):GI x a s c0 c1 t g L (y.setCell ⟨g2,o,none⟩ v):=⟨h.1,fun ha=>⟨(h.2 ha).1,(h.2 ha).2.far (hne ha) o v⟩⟩
theorem GI.stored (h:GI x a s c0 c1 t g L y) (hla:L a=true) (hne:a≠s) (hr:Rw y2 g c1 t):GI x a s c0 c1 t g (BC L s true) y2:=by
 refine⟨fun _=>by rw[Ap _ _ hne];exact hla,fun _=>⟨(h.2 hla).1,?_⟩⟩;have e:BC L s true s=true:=by simp[BC]
 rw[e];exact hr
theorem GI.lt (h:GI x a s c0 c1 t g L y) (hla:L a=true):g<y.heap.size:=(h.2 hla).2.lt
end
end
section
open Go.RowKit
theorem J3 {P:Program}{id:Nat}{Q:Exit→Act→World→Prop}{a:Act}{w:World}{ops:Array Oper}{n:Nat}{m:List (Nat×Value)}(hm:P.follows .mixedOrders=true) (Z:Sl a n m) (ds:List (Option Nat)) (hds:ops.toList.map Oper.dst=ds) (hok:okD n (m.map Prod.fst) ds=true) (hdag:dag ops=true)
  (V:(Nat→Bool)→Nat→Value→World→Prop) (I:(Nat→Bool)→World→Prop) (hI:I (fun _=>false) w.drew)
  (hk:∀ (k:Nat) (o:Oper),k<ops.size→ops[k]?=some o→∀ L a w,I L w→L k=false→Sl a n m→EO ops (V L) L a w→(∀ d∈waits o,L d=true)→wpOp P ops Q k (fun a' w'=>∃ v,a'=a.put o.dst v∧V (BC L k true) k v w'∧I (BC L k true) w'∧∀ j u,(∀ d,ds[j]?=some (some d)→a.tmps[d]?=some u)→L j=true→V L j u w→V (BC L k true) j u w') a w)
  (he:∀ L a w,(∀ k,k<ops.size→L k=true)→I L w→Sl a n m→EO ops (V L) L a w→Q .normal a w):(Code.region id ops true).wp P Q a w:=by
 have hd:∀ (j:Nat) (o:Oper),ops[j]?=some o→ds[j]?=some o.dst:=fun j o h=>by
  subst hds;rw[List.getElem?_map,Array.getElem?_toList,h];rfl
 refine DC hm (fun L a' w'=>I L w'∧Sl a' n m∧EO ops (V L) L a' w') ⟨hI,Z,fun j o d _ _ h=>by simp at h⟩ ?_ ?_
 ·rintro L a' w' i o ho ⟨h1,h2,h3⟩ hli hri;have hi:=(Array.getElem?_eq_some_iff.1 ho).1;refine wpOp_mono ?_ (hk i o hi ho L a' w' h1 hli h2 h3 (CX hri));rintro a2 w2 ⟨v,rfl,hv,hI2,hmono⟩;have keep:∀ j d u,ds[j]?=some (some d)→a'.tmps[d]?=some u→L j=true→V L j u w'→V (BC L i true) j u w2:=fun j d u hdj hu hL hvu=>hmono j u (fun d' h=>by rw[hdj]at h;cases h;exact hu) hL hvu
  refine⟨hI2,?_,?_⟩
  ·cases e:o.dst with
   | none=>exact h2
   | some d =>
    have hdd:=hd i o ho;rw[e]at hdd;obtain⟨hlt,hnm⟩:=FY hok hdd;have hp:=h2.put d v hlt;refine⟨hp.size,hp.defers,fun t u hu=>hp.get t u ?_⟩;rw[List.lookup_cons]
    have e2:(t == d)=false:=by
     have:t≠d:=by rintro rfl;exact hnm (ES hu)
     simpa using this
    rw[e2];exact hu
  ·intro j o' d hj hjd hLj;have hdj:=hd j o' hj;rw[hjd]at hdj
   cases e:o.dst with
   | none =>
    have hne:j≠i:=by
     rintro rfl;rw[ho]at hj;obtain rfl:=Option.some.inj hj;rw[e]at hjd;simp at hjd
    rw[Ap _ _ hne]at hLj;obtain⟨u,hu,hvu⟩:=h3 j o' d hj hjd hLj;exact⟨u,hu,keep _ _ _ hdj hu hLj hvu⟩
   | some x =>
    have hdi:=hd i o ho;rw[e]at hdi
    by_cases c:j=i
    ·subst c;rw[hdj]at hdi;obtain rfl:d=x:=by simpa using hdi
     obtain⟨hlt,_⟩:=FY hok hdj;exact⟨v,by simp[Act.put,h2.size,hlt],hv⟩
    ·rw[Ap _ _ c]at hLj;obtain⟨u,hu,hvu⟩:=h3 j o' d hj hjd hLj
     have hxd:x≠d:=by
      rintro rfl;exact c (Ky hok hdj hdi)
     refine⟨u,?_,keep _ _ _ hdj hu hLj hvu⟩;simp only[Act.put];rw[Array.getElem?_setIfInBounds_ne hxd];exact hu
 ·rintro L a' w' hall ⟨h1,h2,h3⟩;exact he L a' w' (GY hdag hall) h1 h2 h3
theorem AV {L:Nat→Bool}{k c:Nat}(h:L c=true):BC L k true c=true:=by
 by_cases e:c=k
 ·subst e;simp[BC]
 ·rw[Ap _ _ e];exact h
theorem PD (L:Nat→Bool) (k:Nat):BC L k true k=true:=by simp[BC]
end
section
open Go.RowKit
structure EU where
 way:List Int
 coins:Int
 leagues:Int
 deriving DecidableEq
structure ChB where
 ch:EU
 v:Value
def ChB.own (x:ChB):Option Nat:=x.v.ownBlock
def ChB.enc (x:ChB):Value:=.agg #[x.v,.int .i64 x.ch.coins,.int .i64 x.ch.leagues]
abbrev Df:=AU (fun x:Int=>[Value.int .i64 x]) 3 1
def ChB.Given (B:Nat) (V:World) (x:ChB):Prop:=Df V B x.v x.ch.way∧x.v ≠ .slice none 0 0∧x.ch.way.length≤1000
theorem Df.sl {V:World}{B:Nat}{v:Value}{l:List Int}(h:Df V B v l) (hn:v ≠ .slice none 0 0):∃ g c,v=.slice (some ⟨g,0,none⟩) l.length c∧B≤g∧g<V.heap.size∧l.length≤c∧c≤maxLen∧AX V (some ⟨g,0,none⟩) l:=by
 obtain⟨a,cap,hv,hc,hm,hnn,hs⟩:=AU.form h (fun _=>rfl)
 cases a with
 | none=>obtain⟨rfl,rfl⟩:=hnn rfl;exact absurd hv hn
 | some ad =>
  obtain⟨g,rfl,h1,h2,hcell⟩:=hs ad rfl;refine⟨g,cap,hv,h1,h2,hc,hm,.inr ⟨g,0,rfl,fun i hi=>?_⟩⟩;have:=hcell i hi 0 _ (by omega) rfl;simpa using this
theorem Df.empty {V:World}{B g:Nat}(h:Rw V g #[] 3) (hB:B≤g):Df V B (.slice (some ⟨g,0,none⟩) 0 0) [] :=
 ⟨rfl,.inr ⟨g,0,#[],rfl,hB,h,Nat.le_refl _,by unfold maxLen;omega,rfl,rfl⟩⟩
theorem Df.one {V:World}{B g:Nat}{x:Int}(h:Rw V g #[.int .i64 x] 3) (hB:B≤g):Df V B (.slice (some ⟨g,0,none⟩) 1 1) [x] :=
 ⟨rfl,.inr ⟨g,1,_,rfl,hB,h,Nat.le_refl _,by unfold maxLen;omega,rfl,rfl⟩⟩
theorem Df.drop {V:World}{B g c:Nat}{l:List Int}{x:Int}(h:Df V B (.slice (some ⟨g,0,none⟩) (l++[x]).length c) (l++[x])):Df V B (.slice (some ⟨g,0,none⟩) l.length c) l:=by
 obtain⟨h1,h2⟩:=h;rcases h2 with ⟨hv,_⟩|⟨g',cap,cur,hv,hB,hh,hc,hm,hs,ht⟩
 ·simp at hv
 ·simp only[Value.slice.injEq,Option.some.injEq,Addr.mk.injEq]at hv;obtain⟨⟨rfl,_⟩,_,rfl⟩:=hv;refine⟨by rw[EN (k:=1) (fun _=>rfl)],.inr ⟨g,c,cur,rfl,hB,hh,by simp at hc;omega,hm,hs,?_⟩⟩;have e:(cur.toList.take ((l++[x]).length*1)).take (l.length*1)=cur.toList.take (l.length*1):=by rw[List.take_take];congr 1;simp
  rw[← e,ht,List.flatMap_append,List.take_append_of_le_length (by rw[EN (k:=1) (fun _=>rfl)];omega),List.take_of_length_le (by rw[EN (k:=1) (fun _=>rfl)];omega)]
def Qa (t:Ae) (op:List Bool) (from_ to_:Int):Nat→List Int→List Int→Int→List EU
 | 0,_,_,_=>[]
 | d+1,st,wy,lg =>
  if st.getLastD 0=to_ then [⟨wy,OH t from_ wy,lg⟩]
  else (List.range t.roads.strips.length).flatMap fun k =>
   if Jv (t.roads.strips.getD k default) (st.getLastD 0)<0∨op.getD k false=false∨Jv (t.roads.strips.getD k default) (st.getLastD 0)∈st then []
   else Qa t op from_ to_ d (st++[Jv (t.roads.strips.getD k default) (st.getLastD 0)]) (wy++[(k:Int)]) (lg+(t.roads.strips.getD k default).L)
structure GP where
 t:Ae
 s:Dt
 from_:Int
 to_:Int
 op:List Bool
 B:Nat
 l:Nat
 bt:Nat
 bf:Nat
 bto:Nat
 by_:Nat
 go:Nat
 bo:Nat
 bs:Nat
 bw:Nat
 bl:Nat
 bg:Nat
def GP.caps (p:GP):Array Value:=#[.pointer (some ⟨p.bs,0,none⟩),.pointer (some ⟨p.bto,0,none⟩),.pointer (some ⟨p.by_,0,none⟩),.pointer (some ⟨p.bw,0,none⟩),.pointer (some ⟨p.bt,0,none⟩),.pointer (some ⟨p.bf,0,none⟩),.pointer (some ⟨p.bl,0,none⟩),.pointer (some ⟨p.bo,0,none⟩),.pointer (some ⟨p.bg,0,none⟩)]
structure GP.Ord (p:GP):Prop where
 b:p.B≤p.by_
 o1:p.by_<p.go
 o2:p.go<p.bo
 o3:p.bo<p.bs
 o4:p.bs<p.bw
 o5:p.bw<p.bl
 o6:p.bl<p.bg
def GP.boxes (p:GP):List Nat:=[p.by_,p.go,p.bo,p.bs,p.bw,p.bl,p.bg]
structure V9 (t:Ae) (s:Dt) (from_ to_:Int) (bt bf bto:Nat) (V:World):Prop where
 tar:Bf V t s
 kt:Rw V bt (CJ t s) 28
 kf:Rw V bf #[.int .i64 from_] 3
 kto:Rw V bto #[.int .i64 to_] 3
abbrev Gs:=N9 ChB.own
structure JOk (J:List ChB→World→Prop) (p:GP):Prop where
 env:∀ pre V,J pre V→V9 p.t p.s p.from_ p.to_ p.bt p.bf p.bto V
 keep:∀ pre V V',J pre V→Below p.B V V'→(∀ k,Gs pre k→V'.heap[k]?=V.heap[k]?)→J pre V'
 lt:∀ pre V,J pre V→p.B≤V.heap.size∧∀ k,Gs pre k→k<V.heap.size
 yld:∀ pre x V,J pre V→ChB.Given p.B V x→YieldAt Fence.wide 0 Try.prog p.l #[x.enc] V fun e V'=>e=.returned (.bool true)∧J (pre++[x]) V'∧Dp p.B V V'
structure GM (J:List ChB→World→Prop) (p:GP) (x:World) (pre:List ChB) (xs xw:Value) (xl:Int) (rs rw:Value) (ls lw:List Int):Prop where
 j:J pre x
 ky:Rw x p.by_ #[.func (.yield p.l) #[] #[]] 152
 kr:Rw x p.go (p.op.map Value.bool).toArray 4
 ko:Rw x p.bo #[.slice (some ⟨p.go,0,none⟩) p.op.length p.op.length] 132
 ks:Rw x p.bs #[xs] 29
 kw:Rw x p.bw #[xw] 29
 kl:Rw x p.bl #[.int .i64 xl] 3
 kg:Rw x p.bg #[.func (.func 125) #[] p.caps] 31
 os:Df x p.B rs ls
 ow:Df x p.B rw lw
 ds:∀ k,rs.ownBlock=some k→k ∉ p.boxes∧rw.ownBlock≠some k
 dw:∀ k,rw.ownBlock=some k→k ∉ p.boxes
 dp:∀ k,Gs pre k→k ∉ p.boxes∧rs.ownBlock≠some k∧rw.ownBlock≠some k
section
variable {J:List ChB→World→Prop}{p:GP}{x x':World}{pre:List ChB}{xs xw:Value}{xl:Int}{rs rw:Value}{ls lw:List Int}
theorem GM.env (h:GM J p x pre xs xw xl rs rw ls lw) (hJ:JOk J p):V9 p.t p.s p.from_ p.to_ p.bt p.bf p.bto x:=hJ.env _ _ h.j
theorem GM.size (h:GM J p x pre xs xw xl rs rw ls lw) (hJ:JOk J p):p.B≤x.heap.size:=(hJ.lt _ _ h.j).1
theorem GM.below (h:GM J p x pre xs xw xl rs rw ls lw) (hJ:JOk J p) (hb:Below x.heap.size x x'):GM J p x' pre xs xw xl rs rw ls lw :=
 ⟨hJ.keep _ _ _ h.j (hb.mono (h.size hJ)) (fun k hk=>hb.block k ((hJ.lt _ _ h.j).2 k hk)),h.ky.below hb,h.kr.below hb,h.ko.below hb,h.ks.below hb,h.kw.below hb,h.kl.below hb,h.kg.below hb,h.os.below hb,h.ow.below hb,h.ds,h.dw,h.dp⟩
theorem GM.drew (h:GM J p x pre xs xw xl rs rw ls lw) (hJ:JOk J p):GM J p x.drew pre xs xw xl rs rw ls lw:=h.below hJ (Below.refl _ _).drew
theorem GM.round (h:GM J p x pre xs xw xl rs rw ls lw) {y:ChB}(hb:p.Ord) (hj:J (pre++[y]) x') (hk:Dp p.B x x') (hy:∀ k,y.own=some k→k ∉ p.boxes∧rs.ownBlock≠some k∧rw.ownBlock≠some k):GM J p x' (pre++[y]) xs xw xl rs rw ls lw:=by
 obtain⟨b,o1,o2,o3,o4,o5,o6⟩:=hb;have kp:∀ {g:Nat}{c:Array Value}{ty:TypeId},p.B≤g→Rw x g c ty→Rw x' g c ty:=fun hg hr=>(hk.2 _ hg hr.lt).trans hr
 refine⟨hj,kp b h.ky,kp (by omega) h.kr,kp (by omega) h.ko,kp (by omega) h.ks,kp (by omega) h.kw,kp (by omega) h.kl,kp (by omega) h.kg,h.os.keep fun g hg=>hk.2 g (h.os.Ak hg).1 (h.os.Ak hg).2,h.ow.keep fun g hg=>hk.2 g (h.ow.Ak hg).1 (h.ow.Ak hg).2,h.ds,h.dw,?_⟩;rintro k ⟨z,hz,hk2⟩;rcases List.mem_append.1 hz with hz|hz
 ·exact h.dp k ⟨z,hz,hk2⟩
 ·simp at hz;subst hz;exact hy k hk2
theorem GM.Nj (h:GM J p x pre xs xw xl rs rw ls lw) (hJ:JOk J p) (hO:p.Ord) (g:Nat) (hg:g=p.bs∨g=p.bw∨g=p.bl) (v:Value) :
  J pre (x.setCell ⟨g,0,none⟩ v)∧Df (x.setCell ⟨g,0,none⟩ v) p.B rs ls∧Df (x.setCell ⟨g,0,none⟩ v) p.B rw lw:=by
 have hm:g∈p.boxes:=by rcases hg with rfl|rfl|rfl<;>simp[GP.boxes]
 have hBg:p.B≤g:=by have:=hO.b;have:=hO.o1;have:=hO.o2;have:=hO.o3;have:=hO.o4;have:=hO.o5;rcases hg with rfl|rfl|rfl<;>omega
 have other:∀ k,k≠g→(x.setCell ⟨g,0,none⟩ v).heap[k]?=x.heap[k]?:=fun k hk=>Below.heap_setCell _ _ _ _ (by simpa using hk)
 refine⟨hJ.keep _ _ _ h.j ((Below.refl _ _).setCell (p:=⟨g,0,none⟩) hBg v) fun k hk=>other k fun e=>(h.dp k hk).1 (e ▸ hm),h.os.keep fun k hk=>other k fun e=>(h.ds k hk).1 (e ▸ hm),h.ow.keep fun k hk=>other k fun e=>h.dw k hk (e ▸ hm)⟩
theorem GM.Ab9 (h:GM J p x pre xs xw xl rs rw ls lw) (hJ:JOk J p) (hO:p.Ord) (v:Value):GM J p (x.setCell ⟨p.bs,0,none⟩ v) pre v xw xl rs rw ls lw:=by
 obtain⟨h1,h2,h3⟩:=h.Nj hJ hO p.bs (.inl rfl) v;have o:=hO.o1;have o2:=hO.o2;have o3:=hO.o3;have o4:=hO.o4;have o5:=hO.o5;have o6:=hO.o6;exact⟨h1,h.ky.far (by omega) _ _,h.kr.far (by omega) _ _,h.ko.far (by omega) _ _,h.ks.set _ _,h.kw.far (by omega) _ _,h.kl.far (by omega) _ _,h.kg.far (by omega) _ _,h2,h3,h.ds,h.dw,h.dp⟩
theorem GM.setW (h:GM J p x pre xs xw xl rs rw ls lw) (hJ:JOk J p) (hO:p.Ord) (v:Value):GM J p (x.setCell ⟨p.bw,0,none⟩ v) pre xs v xl rs rw ls lw:=by
 obtain⟨h1,h2,h3⟩:=h.Nj hJ hO p.bw (.inr (.inl rfl)) v;have o:=hO.o1;have o2:=hO.o2;have o3:=hO.o3;have o4:=hO.o4;have o5:=hO.o5;have o6:=hO.o6;exact⟨h1,h.ky.far (by omega) _ _,h.kr.far (by omega) _ _,h.ko.far (by omega) _ _,h.ks.far (by omega) _ _,h.kw.set _ _,h.kl.far (by omega) _ _,h.kg.far (by omega) _ _,h2,h3,h.ds,h.dw,h.dp⟩
theorem GM.Aca (h:GM J p x pre xs xw xl rs rw ls lw) (hJ:JOk J p) (hO:p.Ord) (z:Int):GM J p (x.setCell ⟨p.bl,0,none⟩ (.int .i64 z)) pre xs xw z rs rw ls lw:=by
 obtain⟨h1,h2,h3⟩:=h.Nj hJ hO p.bl (.inr (.inr rfl)) (.int .i64 z);have o:=hO.o1;have o2:=hO.o2;have o3:=hO.o3;have o4:=hO.o4;have o5:=hO.o5;have o6:=hO.o6;exact⟨h1,h.ky.far (by omega) _ _,h.kr.far (by omega) _ _,h.ko.far (by omega) _ _,h.ks.far (by omega) _ _,h.kw.far (by omega) _ _,h.kl.set _ _,h.kg.far (by omega) _ _,h2,h3,h.ds,h.dw,h.dp⟩
theorem UC (h:GM J p x pre xs xw xl rs rw ls lw) {k:Nat}(hk:k∈p.boxes):k<x.heap.size:=by
 simp only[GP.boxes,List.mem_cons,List.not_mem_nil,or_false]at hk;rcases hk with rfl|rfl|rfl|rfl|rfl|rfl|rfl
 ·exact h.ky.lt
 ·exact h.kr.lt
 ·exact h.ko.lt
 ·exact h.ks.lt
 ·exact h.kw.lt
 ·exact h.kl.lt
 ·exact h.kg.lt
theorem GM.Aa6 (h:GM J p x pre xs xw xl rs rw ls lw) (hJ:JOk J p) {v:Value}{l2:List Int}(ho:Df x' p.B v l2) (hb:Below p.B x x') (hg:x.grownBy x' rs.ownBlock) (hv:v.ownBlock=rs.ownBlock∨v.ownBlock=some x.heap.size):GM J p x' pre xs xw xl v rw l2 lw:=by
 have other:∀ k,k<x.heap.size→rs.ownBlock≠some k→x'.heap[k]?=x.heap[k]?:=fun k hk hne=>hg.block k hk fun e=>hne e.symm
 have kp:∀ {g:Nat}{c:Array Value}{ty:TypeId},g∈p.boxes→Rw x g c ty→Rw x' g c ty:=fun hgm hr=>(other _ hr.lt fun e=>(h.ds _ e).1 hgm).trans hr
 have hnew:∀ k,v.ownBlock=some k→rs.ownBlock=some k∨k=x.heap.size:=fun k hk=>by
  rcases hv with e|e
  ·exact .inl (e ▸ hk)
  ·rw[e]at hk;exact .inr (by simpa using hk.symm)
 refine⟨hJ.keep _ _ _ h.j hb fun k hk=>other k ((hJ.lt _ _ h.j).2 k hk) (h.dp k hk).2.1,kp (by simp[GP.boxes]) h.ky,kp (by simp[GP.boxes]) h.kr,kp (by simp[GP.boxes]) h.ko,kp (by simp[GP.boxes]) h.ks,kp (by simp[GP.boxes]) h.kw,kp (by simp[GP.boxes]) h.kl,kp (by simp[GP.boxes]) h.kg,ho,
  h.ow.keep fun k hk=>other k (h.ow.Ak hk).2 fun e=>(h.ds k e).2 hk,fun k hk=>?_,h.dw,fun k hk=>⟨(h.dp k hk).1,fun e=>?_,(h.dp k hk).2.2⟩⟩
 ·rcases hnew k hk with e|e
  ·exact h.ds k e
  ·exact⟨fun hm=>by have:=UC h hm;omega,fun e2=>by have:=(h.ow.Ak e2).2;omega⟩
 ·rcases hnew k e with e|e
  ·exact(h.dp k hk).2.1 e
  ·have:=(hJ.lt _ _ h.j).2 k hk;omega
theorem GM.appW (h:GM J p x pre xs xw xl rs rw ls lw) (hJ:JOk J p) {v:Value}{l2:List Int}(ho:Df x' p.B v l2) (hb:Below p.B x x') (hg:x.grownBy x' rw.ownBlock) (hv:v.ownBlock=rw.ownBlock∨v.ownBlock=some x.heap.size):GM J p x' pre xs xw xl rs v ls l2:=by
 have other:∀ k,k<x.heap.size→rw.ownBlock≠some k→x'.heap[k]?=x.heap[k]?:=fun k hk hne=>hg.block k hk fun e=>hne e.symm
 have kp:∀ {g:Nat}{c:Array Value}{ty:TypeId},g∈p.boxes→Rw x g c ty→Rw x' g c ty:=fun hgm hr=>(other _ hr.lt fun e=>h.dw _ e hgm).trans hr
 have hnew:∀ k,v.ownBlock=some k→rw.ownBlock=some k∨k=x.heap.size:=fun k hk=>by
  rcases hv with e|e
  ·exact .inl (e ▸ hk)
  ·rw[e]at hk;exact .inr (by simpa using hk.symm)
 refine⟨hJ.keep _ _ _ h.j hb fun k hk=>other k ((hJ.lt _ _ h.j).2 k hk) (h.dp k hk).2.2,kp (by simp[GP.boxes]) h.ky,kp (by simp[GP.boxes]) h.kr,kp (by simp[GP.boxes]) h.ko,kp (by simp[GP.boxes]) h.ks,kp (by simp[GP.boxes]) h.kw,kp (by simp[GP.boxes]) h.kl,kp (by simp[GP.boxes]) h.kg,
  h.os.keep fun k hk=>other k (h.os.Ak hk).2 fun e=>(h.ds k hk).2 e,ho,fun k hk=>⟨(h.ds k hk).1,fun e=>?_⟩,fun k hk=>?_,fun k hk=>⟨(h.dp k hk).1,(h.dp k hk).2.1,fun e=>?_⟩⟩
 ·rcases hnew k e with e|e
  ·exact(h.ds k hk).2 e
  ·have:=(h.os.Ak hk).2;omega
 ·rcases hnew k hk with e|e
  ·exact h.dw k e
  ·exact fun hm=>by have:=UC h hm;omega
 ·rcases hnew k e with e|e
  ·exact(h.dp k hk).2.2 e
  ·have:=(hJ.lt _ _ h.j).2 k hk;omega
theorem GM.rows (h:GM J p x pre xs xw xl rs rw ls lw) {rs2 rw2:Value}{ls2 lw2:List Int}(h1:Df x p.B rs2 ls2) (h2:Df x p.B rw2 lw2) (e1:rs2.ownBlock=rs.ownBlock) (e2:rw2.ownBlock=rw.ownBlock):GM J p x pre xs xw xl rs2 rw2 ls2 lw2 :=
 ⟨h.j,h.ky,h.kr,h.ko,h.ks,h.kw,h.kl,h.kg,h1,h2,by rw[e1,e2];exact h.ds,by rw[e2];exact h.dw,by rw[e1,e2];exact h.dp⟩
end
structure FR (p:GP) (x0 x:World) (vs0 vw0 rs rw:Value):Prop where
 size:x0.heap.size≤x.heap.size
 kept:∀ k,p.B≤k→k<x0.heap.size→k ∉ p.boxes→vs0.ownBlock≠some k→vw0.ownBlock≠some k→x.heap[k]?=x0.heap[k]?
 fs:∀ k,rs.ownBlock=some k→vs0.ownBlock=some k∨x0.heap.size≤k
 fw:∀ k,rw.ownBlock=some k→vw0.ownBlock=some k∨x0.heap.size≤k
theorem FR.refl (p:GP) (x:World) (vs vw:Value):FR p x x vs vw vs vw:=⟨Nat.le_refl _,fun _ _ _ _ _ _=>rfl,fun _ h => .inl h,fun _ h => .inl h⟩
section
variable {p:GP}{x0 x x':World}{vs0 vw0 rs rw rs2 rw2:Value}
theorem FR.trans (h:FR p x0 x vs0 vw0 rs rw) (h2:FR p x x' rs rw rs2 rw2):FR p x0 x' vs0 vw0 rs2 rw2:=by
 refine⟨Nat.le_trans h.size h2.size,fun k hB hk hx h1 h3=>?_,fun k hk=>?_,fun k hk=>?_⟩
 ·refine(h2.kept k hB (Nat.lt_of_lt_of_le hk h.size) hx (fun e=>?_) (fun e=>?_)).trans (h.kept k hB hk hx h1 h3)
  ·rcases h.fs k e with e2|e2
   ·exact h1 e2
   ·omega
  ·rcases h.fw k e with e2|e2
   ·exact h3 e2
   ·omega
 ·rcases h2.fs k hk with e|e
  ·exact h.fs k e
  ·exact .inr (Nat.le_trans h.size e)
 ·rcases h2.fw k hk with e|e
  ·exact h.fw k e
  ·exact .inr (Nat.le_trans h.size e)
theorem FR.below (h:FR p x0 x vs0 vw0 rs rw) (hb:Below x.heap.size x x'):FR p x0 x' vs0 vw0 rs rw:=h.trans ⟨hb.size,fun k _ hk _ _ _=>hb.block k hk,fun _ e => .inl e,fun _ e => .inl e⟩
theorem FR.round (h:FR p x0 x vs0 vw0 rs rw) (hk:Dp p.B x x'):FR p x0 x' vs0 vw0 rs rw:=h.trans ⟨hk.1,fun k hB hl _ _ _=>hk.2 k hB hl,fun _ e => .inl e,fun _ e => .inl e⟩
theorem FR.Nj (h:FR p x0 x vs0 vw0 rs rw) {g:Nat}(hg:g∈p.boxes) (v:Value):FR p x0 (x.setCell ⟨g,0,none⟩ v) vs0 vw0 rs rw :=
 h.trans ⟨by simp,fun k _ _ hx _ _=>Below.heap_setCell _ _ _ _ (by simpa using fun e:k=g=>hx (e ▸ hg)),fun _ e => .inl e,fun _ e => .inl e⟩
theorem FR.Aa6 (h:FR p x0 x vs0 vw0 rs rw) {v:Value}(hz:x.heap.size≤x'.heap.size) (hg:x.grownBy x' rs.ownBlock) (hv:v.ownBlock=rs.ownBlock∨v.ownBlock=some x.heap.size):FR p x0 x' vs0 vw0 v rw :=
 h.trans ⟨hz,fun k _ hk _ h1 _=>hg.block k hk fun e=>h1 e.symm,fun k e=>by rcases hv with e2|e2<;>rw[e2]at e;(exact .inl e);exact .inr (by simp at e;omega),fun _ e => .inl e⟩
theorem FR.appW (h:FR p x0 x vs0 vw0 rs rw) {v:Value}(hz:x.heap.size≤x'.heap.size) (hg:x.grownBy x' rw.ownBlock) (hv:v.ownBlock=rw.ownBlock∨v.ownBlock=some x.heap.size):FR p x0 x' vs0 vw0 rs v :=
 h.trans ⟨hz,fun k _ hk _ _ h1=>hg.block k hk fun e=>h1 e.symm,fun _ e => .inl e,fun k e=>by rcases hv with e2|e2<;>rw[e2]at e;(exact .inl e);exact .inr (by simp at e;omega)⟩
theorem FR.rows (h:FR p x0 x vs0 vw0 rs rw) (e1:rs2.ownBlock=rs.ownBlock) (e2:rw2.ownBlock=rw.ownBlock):FR p x0 x vs0 vw0 rs2 rw2:=⟨h.size,h.kept,by rw[e1];exact h.fs,by rw[e2];exact h.fw⟩
structure TB (p:GP) (x:World) (g:Nat) (c:Array Value) (ty:TypeId) (rs rw:Value):Prop where
 r:Rw x g c ty
 b:p.B≤g
 n:g ∉ p.boxes
 s:rs.ownBlock≠some g
 w:rw.ownBlock≠some g
variable {g:Nat}{c:Array Value}{ty:TypeId}
theorem TB.below (h:TB p x g c ty rs rw) (hb:Below x.heap.size x x'):TB p x' g c ty rs rw:=⟨h.r.below hb,h.b,h.n,h.s,h.w⟩
theorem TB.Nj (h:TB p x g c ty rs rw) {k:Nat}(hk:k∈p.boxes) (v:Value):TB p (x.setCell ⟨k,0,none⟩ v) g c ty rs rw:=⟨h.r.far (fun e=>h.n (e ▸ hk)) _ _,h.b,h.n,h.s,h.w⟩
theorem TB.Aa6 (h:TB p x g c ty rs rw) {v:Value}(hg:x.grownBy x' rs.ownBlock) (hv:v.ownBlock=rs.ownBlock∨v.ownBlock=some x.heap.size):TB p x' g c ty v rw :=
 ⟨(hg.block g h.r.lt fun e=>h.s e.symm).trans h.r,h.b,h.n,fun e=>by rcases hv with e2|e2<;>rw[e2]at e;(exact h.s e);(have:=h.r.lt;simp at e;omega),h.w⟩
theorem TB.appW (h:TB p x g c ty rs rw) {v:Value}(hg:x.grownBy x' rw.ownBlock) (hv:v.ownBlock=rw.ownBlock∨v.ownBlock=some x.heap.size):TB p x' g c ty rs v :=
 ⟨(hg.block g h.r.lt fun e=>h.w e.symm).trans h.r,h.b,h.n,h.s,fun e=>by rcases hv with e2|e2<;>rw[e2]at e;(exact h.w e);(have:=h.r.lt;simp at e;omega)⟩
theorem TB.fr (h:TB p x g c ty rs rw) (hf:FR p x x' rs rw rs2 rw2):TB p x' g c ty rs2 rw2 :=
 ⟨(hf.kept g h.b h.r.lt h.n h.s h.w).trans h.r,h.b,h.n,fun e=>by rcases hf.fs g e with e2|e2;(exact h.s e2);(have:=h.r.lt;omega),fun e=>by rcases hf.fw g e with e2|e2;(exact h.w e2);(have:=h.r.lt;omega)⟩
theorem TB.new {J:List ChB→World→Prop}{pre:List ChB}{xs xw:Value}{xl:Int}{ls lw:List Int}(h:GM J p x pre xs xw xl rs rw ls lw) (hJ:JOk J p) (hr:Rw x' x.heap.size c ty):TB p x' x.heap.size c ty rs rw :=
 ⟨hr,h.size hJ,fun e=>by have:=UC h e;omega,fun e=>by have:=(h.os.Ak e).2;omega,fun e=>by have:=(h.ow.Ak e).2;omega⟩
end
def PO (t:Ae) (op:List Bool) (from_ to_:Int) (d:Nat) (st wy:List Int) (lg:Int) (k:Nat):List EU :=
 if Jv (t.roads.strips.getD k default) (st.getLastD 0)<0∨op.getD k false=false∨Jv (t.roads.strips.getD k default) (st.getLastD 0)∈st then []
 else Qa t op from_ to_ d (st++[Jv (t.roads.strips.getD k default) (st.getLastD 0)]) (wy++[(k:Int)]) (lg+(t.roads.strips.getD k default).L)
theorem XJ {t:Ae}{op:List Bool}{from_ to_:Int}{d:Nat}{st wy:List Int}{lg:Int}(h:st.getLastD 0=to_):Qa t op from_ to_ (d+1) st wy lg=[⟨wy,OH t from_ wy,lg⟩]:=by rw[Qa,if_pos h]
theorem Zt {t:Ae}{op:List Bool}{from_ to_:Int}{d:Nat}{st wy:List Int}{lg:Int}(h:¬ st.getLastD 0=to_):Qa t op from_ to_ (d+1) st wy lg=(List.range t.roads.strips.length).flatMap (PO t op from_ to_ d st wy lg):=by rw[Qa,if_neg h];rfl
theorem QD {r:Ew}(h:Bo r=0):∀ s∈r.strips,(0≤s.A∧s.A<r.stages)∧(0≤s.B∧s.B<r.stages)∧1≤s.L∧s.L≤9:=by
 unfold Bo at h
 split at h
 ·exact absurd h (by decide)
 ·split at h
  ·exact absurd h (by decide)
  ·intro s hs;generalize r.strips=l at h hs
   induction l with
   | nil=>simp at hs
   | cons y l ih =>
    rw[Bq]at h
    by_cases e:BL y r.days r.stages=0
    ·rw[if_pos (by simpa using e)]at h;rcases List.mem_cons.1 hs with rfl|hs
     ·unfold BL at e
      split at e
      ·exact absurd e (by decide)
      ·split at e
       ·exact absurd e (by decide)
       ·split at e
        ·exact absurd e (by decide)
        ·rename_i h1 _ h3
         simp only[Bool.or_eq_true,Bool.not_eq_true',not_or,Bool.not_eq_false]at h1 h3;have a:=Am.1 h1.1;have b:=Am.1 h1.2;have c:=Am.1 h3.1
         omega
     ·exact ih h hs
    ·rw[if_neg (by simpa using e)]at h;exact absurd h e
theorem Abq {r:Ew}(h:Bo r=0) {k:Nat}(hk:k<r.strips.length) (at_:Int) : -1≤Jv (r.strips.getD k default) at_∧Jv (r.strips.getD k default) at_<r.stages:=by
 have:=QD h _ (getD_mem hk);have hs:=(FC h).1;unfold Jv
 split
 ·omega
 ·split<;>omega
theorem P5:∀ (n:Nat) (l:List Int),l.Nodup→(∀ y∈l,0≤y∧y<(n:Int))→l.length≤n
 | 0,l,_,h=>by
  cases l with
  | nil=>simp
  | cons y l=>have:=h y (by simp);omega
 | n+1,l,hn,h=>by
  by_cases c:(n:Int)∈l
  ·have h1:=P5 n (l.erase (n:Int)) (hn.erase _) (fun y hy=>by
    have:=(hn.mem_erase_iff).1 hy;have:=h y this.2
    omega)
   rw[List.length_erase_of_mem c]at h1
   omega
  ·have:=P5 n l hn (fun y hy=>by
    have h1:=h y hy;have:y≠(n:Int):=fun e=>c (e ▸ hy)
    omega)
   omega
theorem Ny {st:List Int}(hn:st.Nodup) (h:∀ y∈st,0≤y∧y≤5):st.length≤6:=P5 6 st hn fun y hy=>by have:=h y hy;omega
end
section
open Go.RowKit
theorem SN:(fun r=>Try.f126.body=some (.seq (r 0) (.seq (.seq (r 1) (.cond (.tmp 4) (.seq (r 2) .ret) .skip)) (.seq (r 3) .ret)))) (Ac Try.f126):=by show _=_;kernel_rfl
theorem U2 {w:World}{b o cap:Nat}{l:List Int}(hl:AX w (some ⟨b,o,none⟩) l) (hn:l.length≤1000):Calls Try.prog 126 #[.slice (some ⟨b,o,none⟩) l.length cap] w (fun e w'=>∃ v,e=.returned v∧Df w' w.heap.size v l∧v ≠ .slice none 0 0∧Below w.heap.size w w'):=by
 have he:∀ w:World,(binOp .eql 29 (.slice (some ⟨b,o,none⟩) l.length cap) (.slice none 0 0)).run Try.prog w=.ok (.bool false) w:=fun _=>rfl
 refine MW Try.func126 SN Try.ntmps126 ?_;intro a Z;refine wsr ?_;refine Z.e ?_;clear Z;intro a Z;refine wss ?_;refine Z.s ?_;clear Z;intro a Z
 skip
 ·refine Z.e ?_;clear Z;intro a Z;refine Z.cs 4 ?_;refine wsr ?_;refine Z.s ?_;clear Z;intro a Z;refine aw ?_;obtain⟨g,hg⟩:∃ b,b=w.heap.size:=⟨_,rfl⟩;intro x hz S hb;rw[← hg]at Z S;have hO:Df x g (.slice (some ⟨g,0,none⟩) 0 0) []:=Df.empty S (Nat.le_refl _);have hL:=hl.below hb;clear he;refine Z.s ?_;clear Z;intro a Z;refine og fun K hK=>?_
  have e5:=Z.g 5;have e6:=Z.g 6;refine Aao (k:=1) (e:=3) 29 (.tmp 5) (.tmp 6) Try.underlying29 (z:=.int .i64 0) (bytes:=8) (by kernel_rfl) rfl (by decide) (by decide) rfl (by simp[Act.eval,Array.getD_eq_getD_getElem?,e5]) hO b o cap l (by simp[Act.eval,Array.getD_eq_getD_getElem?,e6]) (fun _=>rfl) (fun i hi j u hj hu=>?_) (fun y _ u hu=>by simp at hu;subst hu;rfl) (by simp;omega) (by omega) ?_
  ·obtain rfl:j=0:=by omega
   obtain⟨b2,o2,hbo,hc⟩:=hL.at hi;simp at hbo hu;obtain⟨rfl,rfl⟩:=hbo;subst hu;simpa using hc
  intro v2 x2 hO2 hb2 hgr hov hnn;refine Z.K hK ?_;clear Z hK;intro a Z;refine Z.e ?_;clear Z;intro a Z;refine wp_ret ?_
  try simp only[xt]
  refine bodyPost_ret (v:=v2) ?_ Z.defers ⟨v2,rfl,by rw[← hg];simpa using hO2,fun e=>by simpa using (hnn.1 e).1,hb.trans (hb2.mono (by omega))⟩;simp[results,Try.results126,Z.get 2 _ rfl]
end
end Go.Proofs.Ytgdobbcjkiapkaa
