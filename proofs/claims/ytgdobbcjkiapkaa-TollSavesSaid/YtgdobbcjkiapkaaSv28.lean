import Derived.Test.YtgdobbcjkiapkaaSv19
import Derived.Test.YtgdobbcjkiapkaaSv04
import Derived.Test.YtgdobbcjkiapkaaSv27
import Derived.Test.YtgdobbcjkiapkaaSv20
import Derived.Laws.CopyOwn
import Derived.Deep.RegionLaw
import Derived.Deep.RegionHeld3
namespace Go.Proofs.Ytgdobbcjkiapkaa
set_option maxRecDepth 100000
set_option maxHeartbeats 4000000
set_option linter.unusedSimpArgs false
set_option linter.unusedVariables false
section
open Go.RowKit
theorem PN {t:Ae}{op:List Bool}{from_ to_:Int}{d:Nat}{st wy:List Int}{lg:Int}{k:Nat}{nx:Int}(hn:Jv (t.roads.strips.getD k default) (st.getLastD 0)=nx) (h:nx<0∨op.getD k false=false∨nx∈st):PO t op from_ to_ d st wy lg k=[]:=by unfold PO;rw[hn,if_pos h]
theorem WL {t:Ae}{op:List Bool}{from_ to_:Int}{d:Nat}{st wy:List Int}{lg:Int}{k:Nat}{nx:Int}{s:Strip}(hs:t.roads.strips.getD k default=s) (hn:Jv s (st.getLastD 0)=nx) (h1:¬ nx<0) (h2:op.getD k false=true) (h3:¬ nx∈st):PO t op from_ to_ d st wy lg k=Qa t op from_ to_ d (st++[nx]) (wy++[(k:Int)]) (lg+s.L):=by
 unfold PO;rw[hs,hn,if_neg (by rw[h2];simp[h1,h3])]
theorem Jn {t:Ae}{op:List Bool}{from_ to_:Int}{d:Nat}{st wy:List Int}{lg:Int}{k:Nat}(l:List EU):l++(List.range (k+1)).flatMap (PO t op from_ to_ d st wy lg)=l++(List.range k).flatMap (PO t op from_ to_ d st wy lg)++PO t op from_ to_ d st wy lg k:=by simp[List.range_succ]
theorem last_at {st:List Int}{m:Nat}(h:st.length=m+1):st.getLastD 0=st[m]:=by
 rw[List.getLastD_eq_getLast?,List.getLast?_eq_getElem?,show st.length-1=m by omega,List.getElem?_eq_getElem (by omega)];rfl
theorem Vo {st:List Int}{x:Int}(h:∀ j (hj:j<st.length),st[j]≠x):¬ x∈st:=fun hm=>by
 obtain⟨j,hj,e⟩:=List.getElem_of_mem hm;exact h j hj e
theorem Ri {l:List Bool}{k:Nat}(h:k<l.length):l.getD k false=l[k]:=by
 rw[List.getD_eq_getElem?_getD,List.getElem?_eq_getElem h];rfl
theorem Zr {p:GP}{J:List ChB→World→Prop}(hJ:JOk J p) (hO:p.Ord) (hT:Aq p.t=0) (hop:p.op.length=p.t.roads.strips.length):∀ (d:Nat) (st wy:List Int) (lg:Int) (pre:List ChB) (gs0 cs0 gw0 cw0:Nat) (x:World),GM J p x (pre) (.slice (some ⟨gs0,0,none⟩) st.length cs0) (.slice (some ⟨gw0,0,none⟩) wy.length cw0) (lg) (.slice (some ⟨gs0,0,none⟩) st.length cs0) (.slice (some ⟨gw0,0,none⟩) wy.length cw0) (st) (wy)→st.Nodup→(∀ y∈st,0≤y∧y≤5)→st≠[]→st.length+d=8→wy.length+1=st.length→0≤lg→lg≤9*(wy.length:Int) →
  Calls Try.prog 125 p.caps x (Lp J p d st wy lg pre (.slice (some ⟨gs0,0,none⟩) st.length cs0) (.slice (some ⟨gw0,0,none⟩) wy.length cw0) x):=by
 intro d
 induction d with
 | zero =>
  intro st wy lg pre gs0 cs0 gw0 cw0 x hM hnd hrg hne hlen hwl hl0 hl1;have:=Ny hnd hrg
  omega
 | succ d ih =>
  intro st wy lg pre gs0 cs0 gw0 cw0 x hM hnd hrg hne hlen hwl hl0 hl1;have hsm:=Ny hnd hrg;obtain⟨hck,_,_,_,_,_,_,_,_⟩:=AY hT;obtain⟨hst1,hst6,hsl8,_,_⟩:=FC hck;obtain⟨m1,hm1⟩:∃ m,st.length=m+1:=⟨st.length-1,by cases st with|nil=>exact absurd rfl hne|cons _ _=>simp⟩;have hq1:m1<st.length:=by omega
  obtain⟨at_,hat⟩:∃ z,st[m1]=z:=⟨_,rfl⟩;have HAT:=Lib.hid (show st.getLastD 0=at_ from (last_at hm1).trans hat);have hw1:IntKind.i64.wrap ((st.length:Int)-1)=(m1:Int):=by rw[IntWalk.i64_in _ (by omega)];omega
  have HW1:=Lib.hid hw1;clear hw1;have HAT2:=Lib.hid hat;clear hat;have HM1:=Lib.hid hm1;clear hm1;have HIH:=Lib.hid ih;clear ih;have hF:FR p x x (.slice (some ⟨gs0,0,none⟩) st.length cs0) (.slice (some ⟨gw0,0,none⟩) wy.length cw0) (.slice (some ⟨gs0,0,none⟩) st.length cs0) (.slice (some ⟨gw0,0,none⟩) wy.length cw0):=FR.refl _ _ _ _;obtain⟨x0,hx0⟩:∃ x0,x0=x:=⟨_,rfl⟩;rw[show Lp J p (d+1) st wy lg pre (.slice (some ⟨gs0,0,none⟩) st.length cs0) (.slice (some ⟨gw0,0,none⟩) wy.length cw0) x=Lp J p (d+1) st wy lg pre (.slice (some ⟨gs0,0,none⟩) st.length cs0) (.slice (some ⟨gw0,0,none⟩) wy.length cw0) x0 from by rw[hx0]];rw[← hx0]at hF;replace hF:FR p x0 x (.slice (some ⟨gs0,0,none⟩) st.length cs0) (.slice (some ⟨gw0,0,none⟩) wy.length cw0) (.slice (some ⟨gs0,0,none⟩) st.length cs0) (.slice (some ⟨gw0,0,none⟩) wy.length cw0):=by rw[hx0]at hF ⊢;exact hF
  clear hx0;obtain⟨gs,hgs⟩:∃ g,g=gs0:=⟨_,rfl⟩;obtain⟨cs,hcs⟩:∃ g,g=cs0:=⟨_,rfl⟩;obtain⟨gw,hgw⟩:∃ g,g=gw0:=⟨_,rfl⟩;obtain⟨cw,hcw⟩:∃ g,g=cw0:=⟨_,rfl⟩;replace hM:GM J p x (pre) (.slice (some ⟨gs,0,none⟩) st.length cs) (.slice (some ⟨gw,0,none⟩) wy.length cw) (lg) (.slice (some ⟨gs,0,none⟩) st.length cs) (.slice (some ⟨gw,0,none⟩) wy.length cw) (st) (wy):=by rw[hgs,hcs,hgw,hcw];exact hM
  replace hF:FR p x0 x (.slice (some ⟨gs0,0,none⟩) st.length cs0) (.slice (some ⟨gw0,0,none⟩) wy.length cw0) (.slice (some ⟨gs,0,none⟩) st.length cs) (.slice (some ⟨gw,0,none⟩) wy.length cw):=by rw[hgs,hcs,hgw,hcw];exact hF
  clear hgs hcs hgw hcw;unfold GP.caps;refine calls_of_wp Try.func125 UQ ?_
  have Z:Sl (⟨#[.pointer (some ⟨p.bs,0,none⟩),.pointer (some ⟨p.bto,0,none⟩),.pointer (some ⟨p.by_,0,none⟩),.pointer (some ⟨p.bw,0,none⟩),.pointer (some ⟨p.bt,0,none⟩),.pointer (some ⟨p.bf,0,none⟩),.pointer (some ⟨p.bl,0,none⟩),.pointer (some ⟨p.bo,0,none⟩),.pointer (some ⟨p.bg,0,none⟩)]++Array.replicate (Try.f125.ntmps-(#[.pointer (some ⟨p.bs,0,none⟩),.pointer (some ⟨p.bto,0,none⟩),.pointer (some ⟨p.by_,0,none⟩),.pointer (some ⟨p.bw,0,none⟩),.pointer (some ⟨p.bt,0,none⟩),.pointer (some ⟨p.bf,0,none⟩),.pointer (some ⟨p.bl,0,none⟩),.pointer (some ⟨p.bo,0,none⟩),.pointer (some ⟨p.bg,0,none⟩)]:Array Value).size) undef,[]⟩:Act) 96 [(0,.pointer (some ⟨p.bs,0,none⟩)),(1,.pointer (some ⟨p.bto,0,none⟩)),(2,.pointer (some ⟨p.by_,0,none⟩)),(3,.pointer (some ⟨p.bw,0,none⟩)),(4,.pointer (some ⟨p.bt,0,none⟩)),(5,.pointer (some ⟨p.bf,0,none⟩)),(6,.pointer (some ⟨p.bl,0,none⟩)),(7,.pointer (some ⟨p.bo,0,none⟩)),(8,.pointer (some ⟨p.bg,0,none⟩))]:=by rw[Try.ntmps125];exact Sl.Uw [.pointer (some ⟨p.bs,0,none⟩),.pointer (some ⟨p.bto,0,none⟩),.pointer (some ⟨p.by_,0,none⟩),.pointer (some ⟨p.bw,0,none⟩),.pointer (some ⟨p.bt,0,none⟩),.pointer (some ⟨p.bf,0,none⟩),.pointer (some ⟨p.bl,0,none⟩),.pointer (some ⟨p.bo,0,none⟩),.pointer (some ⟨p.bg,0,none⟩)] (by simp only[List.length_cons,List.length_nil];omega)
  revert Z;generalize (Act.mk _ _)=a;intro Z;refine wsr ?_;refine Z.e ?_;clear Z;intro a Z;refine wp_scope_straight ?_;refine wsr ?_;refine Z.f (hM.ks.cell (o:=0) rfl) ?_;clear Z;intro a Z;refine Z.f (hM.ks.cell (o:=0) rfl) ?_;clear Z;intro a Z;refine Z.s ?_;clear Z;intro a Z;refine Z.f HW1.out ?_;clear Z;intro a Z;refine Z.f hq1 ?_;clear Z;intro a Z;refine oz fun K hK=>?_
  have e20:=Z.g 20;obtain⟨_,hcsl,_,hsi,_,_⟩:=Df.at0 hM.os;have c:=Abj hsi hq1;rw[HAT2.out]at c;go_simp;refine Z.K hK ?_;clear Z hK;intro a Z;refine Z.e ?_;clear Z;intro a Z;refine wss ?_;refine Z.s ?_;clear Z;intro a Z;refine Z.f ((hM.env hJ).kto.cell (o:=0) rfl) ?_;clear Z;intro a Z
  by_cases h1:at_=p.to_
  ·have hb:=EI h1;refine Z.e ?_;clear Z;intro a Z;refine Z.ct 24 ?_;refine wp_seq ?_;clear HIH;refine Ab5 hJ hO hT hM hF (by omega) a Z.sb _ ?_;clear Z hM hF;intro a x y Z hM hF hy;refine wp_ret ?_
   try simp only[xt]
   refine bodyPost_ret (v:=.bool true) ?_ Z.defers ⟨rfl,pre++[y],gs,cs,gw,cw,hM,hF,by rw[XJ (by rw[HAT.out];exact h1),List.map_append,List.map_cons,List.map_nil,hy]⟩;simp[results,Try.results125,Z.get 9 _ rfl]
  ·have hb:=DW h1;refine Z.e ?_;clear Z;intro a Z;refine Z.cs 24 ?_;refine wp_seq ?_;refine wp_label ?_;refine wss ?_;(iterate 2 refine Z.s ?_;clear Z;intro a Z);refine Z.f ((hM.env hJ).kt.cell (o:=2) rfl) ?_;clear Z;intro a Z;(iterate 2 refine Z.s ?_;clear Z;intro a Z);refine od ?_;refine wp_block ?_;refine wp_loop_ghost (fun n a x=>∃ (k:Nat) (pre2:List ChB) (gs cs gw cw:Nat),k+n=p.t.roads.strips.length∧pre2.map ChB.ch=pre.map ChB.ch++(List.range k).flatMap (PO p.t p.op p.from_ p.to_ d st wy lg)∧Sl a 96 [(0,.pointer (some ⟨p.bs,0,none⟩)),(1,.pointer (some ⟨p.bto,0,none⟩)),(2,.pointer (some ⟨p.by_,0,none⟩)),(3,.pointer (some ⟨p.bw,0,none⟩)),(4,.pointer (some ⟨p.bt,0,none⟩)),(5,.pointer (some ⟨p.bf,0,none⟩)),(6,.pointer (some ⟨p.bl,0,none⟩)),(7,.pointer (some ⟨p.bo,0,none⟩)),(8,.pointer (some ⟨p.bg,0,none⟩)),(10,.int .i64 at_),(37,.slice p.s.sa p.t.roads.strips.length p.s.sc),(38,.int .i64 (p.t.roads.strips.length:Int)),(39,.int .i64 (k:Int))]∧GM J p x (pre2) (.slice (some ⟨gs,0,none⟩) st.length cs) (.slice (some ⟨gw,0,none⟩) wy.length cw) (lg) (.slice (some ⟨gs,0,none⟩) st.length cs) (.slice (some ⟨gw,0,none⟩) wy.length cw) (st) (wy)∧FR p x0 x (.slice (some ⟨gs0,0,none⟩) st.length cs0) (.slice (some ⟨gw0,0,none⟩) wy.length cw0) (.slice (some ⟨gs,0,none⟩) st.length cs) (.slice (some ⟨gw,0,none⟩) wy.length cw)) p.t.roads.strips.length ⟨0,pre,gs,cs,gw,cw,by omega,by simp,Z.sb,hM,hF⟩ ?_;clear Z hM hF
   rintro n a x ⟨k,pre2,gs,cs,gw,cw,hkn,hpre,Z,hM,hF⟩;have HP:=Lib.hid hpre;clear hpre;refine wsr ?_
   by_cases hlt:k<p.t.roads.strips.length
   ·have q1:(k:Int)<(p.t.roads.strips.length:Int):=by omega
    have hE:=hM.env hJ;obtain⟨sb,so,hsa,hst⟩:=hE.tar.strips.at hlt;rw[← getD_at hlt]at hst;obtain⟨s,hs⟩:∃ z,z=p.t.roads.strips.getD k default:=⟨_,rfl⟩;rw[← hs]at hst;have HS:=Lib.hid hs;clear hs;rw[hsa]at Z;refine Z.e ?_;clear Z;intro a Z;refine wp_seq ?_;refine Z.ct 40 ?_;refine wp_skip ?_;refine wp_seq ?_;refine wp_block ?_;refine wsr ?_;(iterate 2 refine Z.s ?_;clear Z;intro a Z);refine oz fun K hK=>?_
    have e42:=Z.g 42;obtain⟨s0,s1,s2,s3,s4,s5,s6⟩:=hst;go_simp;refine Z.K hK ?_;clear Z hK;intro a Z;refine oz fun K hK=>?_
    obtain⟨gt,hg⟩:∃ b,b=x.heap.size:=⟨_,rfl⟩;go_simp;refine Z.K hK ?_;clear Z hK;intro a Z;refine Z.s ?_;clear Z;intro a Z;refine oz fun K hK=>?_
    have e12:=Z.g 12;have e43:=Z.g 43;go_simp;clear e12 e43;refine hK _ _ ?_;clear hK;have hnew:=fun (W:World) (h:Rw W x.heap.size #[.int .i64 s.A,.int .i64 s.B,.int .i64 s.L,.int .i64 s.W,.int .i64 s.K,.int .i64 s.X,.int .i64 s.Y] 96)=>TB.new hM hJ h
    refine aw ?_;intro x hz X hb;replace hM:=hM.below hJ hb;replace hF:=hF.below hb;have hTB:=hnew _ X;rw[← hg]at Z hTB;clear hz X hb hg hnew s0 s1 s2 s3 s4 s5 s6;refine od ?_;refine wsr ?_;refine oz fun K hK=>?_
    have e12:=Z.g 12;have z0:=hTB.r.cell (o:=0) rfl;have z1:=hTB.r.cell (o:=1) rfl;have z2:=hTB.r.cell (o:=2) rfl;have z3:=hTB.r.cell (o:=3) rfl;have z4:=hTB.r.cell (o:=4) rfl;have z5:=hTB.r.cell (o:=5) rfl;have z6:=hTB.r.cell (o:=6) rfl;go_simp;refine Z.K hK ?_;clear Z hK;intro a Z;refine Z.s ?_;clear Z;intro a Z;refine oz fun K hK=>?_
    have e44:=Z.g 44;have e45:=Z.g 45;go_simp;clear z0 z1 z2 z3 z4 z5 z6;refine(Uu s at_).mono ?_;rintro e x ⟨rfl,hb⟩;replace hM:=hM.below hJ hb;replace hF:=hF.below hb;replace hTB:=hTB.below hb;clear hb;have hfr:=Abq hck hlt at_;rw[← HS.out]at hfr;obtain⟨nx,hnx⟩:∃ z,z=Jv s at_:=⟨_,rfl⟩;rw[← hnx]at hfr ⊢;have HNX:=Lib.hid (show Jv (p.t.roads.strips.getD k default) (st.getLastD 0)=nx from by rw[HAT.out,← HS.out,hnx]);clear hnx;have hop2:k<p.op.length:=by omega
    refine Z.K hK ?_;clear Z hK;intro a Z;refine Z.e ?_;clear Z;intro a Z;refine wss ?_;refine Z.s ?_;clear Z;intro a Z
    by_cases h2:nx<0
    ·have hno:=Lib.hid (PN (t:=p.t) (op:=p.op) (from_:=p.from_) (to_:=p.to_) (d:=d) (st:=st) (wy:=wy) (lg:=lg) HNX.out (.inl h2));(iterate 8 refine Z.x ?_;clear Z;intro a Z);refine od ?_;refine Z.ct 55 ?_;refine wp_exit ?_;refine wr ?_;refine Z.f (Bz k (by omega)) ?_;clear Z;intro a Z;refine Z.e ?_;clear Z;intro a Z;show Exists _;exact⟨n-1,by omega,k+1,pre2,gs,cs,gw,cw,by omega,by rw[Jn,hno.out,List.append_nil];exact HP.out,by rw[hsa];exact Z.sb,hM,hF⟩
    ·have h2b:¬ nx<0:=h2;(iterate 2 refine Z.s ?_;clear Z;intro a Z);refine oy (Z.g 49) fun K hK=>?_
     have e7:=Z.g 7;have c:=hM.ko.cell (o:=0) rfl;go_simp;refine Z.K hK ?_;clear Z hK;intro a Z;refine Z.t ?_;clear Z;intro a Z;refine oy (Z.g 49) fun K hK=>?_
     have e50:=Z.g 50;have e51:=Z.g 51;have q3:=hop2;have q4:(k:Int)<(p.op.length:Int):=by omega
     go_simp;refine Z.K hK ?_;clear Z hK;intro a Z;rcases Bool.eq_false_or_eq_true (p.op.getD k false) with h3|h3
     ·have hv3:p.op[k]=true:=by rw[← h3,Ri hop2]
      have c53:x.cell? ⟨p.go,k,none⟩=some (.bool true):=by have c:=hM.kr.cell (o:=k) (v:=.bool p.op[k]) (by simp[hop2]);rw[hv3]at c;exact c
      (iterate 3 refine Z.x ?_;clear Z;intro a Z);refine od ?_;refine Z.cs 55 ?_;refine wss ?_;refine Z.f (hM.ks.cell (o:=0) rfl) ?_;clear Z;intro a Z;(iterate 2 refine Z.s ?_;clear Z;intro a Z);refine od ?_;refine wp_block ?_
      refine wp_loop_ghost (fun n2 a x=>∃ j:Nat,j+n2=st.length∧(∀ i (hi:i<st.length),i<j→st[i]≠nx)∧Sl a 96 [(0,.pointer (some ⟨p.bs,0,none⟩)),(1,.pointer (some ⟨p.bto,0,none⟩)),(2,.pointer (some ⟨p.by_,0,none⟩)),(3,.pointer (some ⟨p.bw,0,none⟩)),(4,.pointer (some ⟨p.bt,0,none⟩)),(5,.pointer (some ⟨p.bf,0,none⟩)),(6,.pointer (some ⟨p.bl,0,none⟩)),(7,.pointer (some ⟨p.bo,0,none⟩)),(8,.pointer (some ⟨p.bg,0,none⟩)),(10,.int .i64 at_),(37,.slice (some ⟨sb,so,none⟩) p.t.roads.strips.length p.s.sc),(38,.int .i64 (p.t.roads.strips.length:Int)),(39,.int .i64 (k:Int)),(11,.int .i64 (k:Int)),(12,.pointer (some ⟨gt,0,none⟩)),(13,.int .i64 nx),(56,.slice (some ⟨gs,0,none⟩) st.length cs),(57,.int .i64 (st.length:Int)),(58,.int .i64 (j:Int))]∧GM J p x (pre2) (.slice (some ⟨gs,0,none⟩) st.length cs) (.slice (some ⟨gw,0,none⟩) wy.length cw) (lg) (.slice (some ⟨gs,0,none⟩) st.length cs) (.slice (some ⟨gw,0,none⟩) wy.length cw) (st) (wy)∧FR p x0 x (.slice (some ⟨gs0,0,none⟩) st.length cs0) (.slice (some ⟨gw0,0,none⟩) wy.length cw0) (.slice (some ⟨gs,0,none⟩) st.length cs) (.slice (some ⟨gw,0,none⟩) wy.length cw)∧TB p x gt #[.int .i64 s.A,.int .i64 s.B,.int .i64 s.L,.int .i64 s.W,.int .i64 s.K,.int .i64 s.X,.int .i64 s.Y] 96 (.slice (some ⟨gs,0,none⟩) st.length cs) (.slice (some ⟨gw,0,none⟩) wy.length cw)) st.length ⟨0,by omega,fun i hi h=>by omega,Z.sb,hM,hF,hTB⟩ ?_
      clear Z hM hF hTB;rintro n2 a x ⟨j,hjn,hall,Z,hM,hF,hTB⟩;have HALL:=Lib.hid hall;clear hall;refine wsr ?_
      by_cases hj:j<st.length
      ·have q2:(j:Int)<(st.length:Int):=by omega
       refine Z.e ?_;clear Z;intro a Z;refine wp_seq ?_;refine Z.ct 59 ?_;refine wp_skip ?_;refine wp_seq ?_;refine wp_block ?_;refine wsr ?_;refine Z.s ?_;clear Z;intro a Z;refine oz fun K hK=>?_
       have e60:=Z.g 60;obtain⟨_,hcsl,_,hsi,_,_⟩:=Df.at0 hM.os;have c:=Abj hsi hj;go_simp;refine Z.K hK ?_;clear Z hK;intro a Z;refine Z.e ?_;clear Z;intro a Z;refine wsr ?_;(iterate 2 refine Z.s ?_;clear Z;intro a Z)
       by_cases h4:st[j]=nx
       ·have hb:=EI h4;have hno:=Lib.hid (PN (t:=p.t) (op:=p.op) (from_:=p.from_) (to_:=p.to_) (d:=d) (st:=st) (wy:=wy) (lg:=lg) HNX.out (.inr (.inr (by rw[← h4];exact List.getElem_mem hj))));refine Z.e ?_;clear Z;intro a Z;refine Z.ct 64 ?_;refine wp_exit ?_;refine wr ?_;refine Z.f (Bz k (by omega)) ?_;clear Z;intro a Z;refine Z.e ?_;clear Z;intro a Z;show Exists _;exact⟨n-1,by omega,k+1,pre2,gs,cs,gw,cw,by omega,by rw[Jn,hno.out,List.append_nil];exact HP.out,by rw[hsa];exact Z.sb,hM,hF⟩
       ·have hb:=DW h4;refine Z.e ?_;clear Z;intro a Z;refine Z.cs 64 ?_;refine wr ?_;refine Z.f (Bz j (by omega)) ?_;clear Z;intro a Z;refine Z.e ?_;clear Z;intro a Z;show Exists _;exact⟨n2-1,by omega,j+1,by omega,fun i hi h=>by by_cases c:i=j;(subst c;exact h4);exact HALL.out i hi (by omega),Z.sb,hM,hF,hTB⟩
      ·obtain rfl:j=st.length:=by omega
       refine Z.e ?_;clear Z;intro a Z;refine wp_seq ?_;refine Z.cf 59 ?_;refine wp_exit ?_;have h5:¬ nx∈st:=Vo fun i hi=>HALL.out i hi hi
       refine wp_seq ?_;have hsL:=QD hck s (by rw[HS.out];exact getD_mem hlt);refine Abm hJ hO (s:=s) hM hF hTB (by omega) (by omega) hl0 (by omega) (by omega) (by omega) a Z.sb _ ?_;clear Z hM hF hTB;intro a x u1 u2 Z hM hF hTB hu1 hu2;obtain⟨gs2,cs2,rfl,_⟩:=Df.sl hM.os hu1;obtain⟨gw2,cw2,rfl,_⟩:=Df.sl hM.ow hu2;clear hu1 hu2;refine wss ?_;refine Z.f (hM.kg.cell (o:=0) rfl) ?_;clear Z;intro a Z;refine og fun K hK=>?_
       have e78:=Z.g 78;refine MM Try.func125 (by kernel_rfl) (by kernel_rfl) e78 rfl (HIH.out (st++[nx]) (wy++[(k:Int)]) (lg+s.L) pre2 gs2 cs2 gw2 cw2 x hM (List.nodup_append.2 ⟨hnd,by simp,by simp;intro y hy e;exact h5 (e ▸ hy)⟩) (fun y hy=>by rcases List.mem_append.1 hy with h|h;(exact hrg y h);(simp at h;omega)) (by simp) (by simp;omega) (by simp;omega) (by omega) (by simp only[List.length_append,List.length_cons,List.length_nil];push_cast;omega)) ?_;rintro e x2 ⟨rfl,pre3,gs3,cs3,gw3,cw3,hM3,hF3,hpre3⟩;refine⟨_,rfl,?_⟩;replace hTB:=hTB.fr hF3;replace hF:=hF.trans hF3;clear hM hF3;have hM:=hM3;clear hM3;refine Z.K hK ?_;clear Z hK;intro a Z;refine Z.e ?_;clear Z;intro a Z;refine Z.cs 80 ?_;refine Abl hJ hO (s:=s) (nx:=nx) (kk:=(k:Int)) rfl rfl hM hF hTB (by omega) (by omega) hl0 (by omega) (by omega) (by omega) a Z.sb _ ?_;clear Z hM hF hTB;intro a x Z hM hF;refine wr ?_;refine Z.f (Bz k (by omega)) ?_;clear Z;intro a Z;refine Z.e ?_;clear Z;intro a Z;show Exists _;exact⟨n-1,by omega,k+1,pre3,gs3,cs3,gw3,cw3,by omega,by rw[Jn,hpre3,HP.out,WL HS.out.symm (by rw[HAT.out];rw[← HS.out,HAT.out]at HNX;exact HNX.out) h2b h3 h5],by rw[hsa];exact Z.sb,hM,hF⟩
     ·have hv3:p.op[k]=false:=by rw[← h3,Ri hop2]
      have c53:x.cell? ⟨p.go,k,none⟩=some (.bool false):=by have c:=hM.kr.cell (o:=k) (v:=.bool p.op[k]) (by simp[hop2]);rw[hv3]at c;exact c
      have hno:=Lib.hid (PN (t:=p.t) (op:=p.op) (from_:=p.from_) (to_:=p.to_) (d:=d) (st:=st) (wy:=wy) (lg:=lg) HNX.out (.inr (.inl h3)));(iterate 3 refine Z.x ?_;clear Z;intro a Z);refine od ?_;refine Z.ct 55 ?_;refine wp_exit ?_;refine wr ?_;refine Z.f (Bz k (by omega)) ?_;clear Z;intro a Z;refine Z.e ?_;clear Z;intro a Z;show Exists _;exact⟨n-1,by omega,k+1,pre2,gs,cs,gw,cw,by omega,by rw[Jn,hno.out,List.append_nil];exact HP.out,by rw[hsa];exact Z.sb,hM,hF⟩
   ·obtain rfl:k=p.t.roads.strips.length:=by omega
    refine Z.e ?_;clear Z;intro a Z;refine wp_seq ?_;refine Z.cf 40 ?_;refine wp_exit ?_;refine wsr ?_;refine Z.e ?_;clear Z;intro a Z;refine wp_ret ?_
    try simp only[xt]
    refine bodyPost_ret (v:=.bool true) ?_ Z.defers ⟨rfl,pre2,gs,cs,gw,cw,hM,hF,by rw[Zt (by rw[HAT.out];exact h1)];exact HP.out⟩;simp[results,Try.results125,Z.get 9 _ rfl]
end
section
open Go.RowKit
open Go.ChangeMaps (setBlock)
end
section
open Go.RowKit
end
section
open Go.RowKit
theorem Zp:(Try.prog.info? 3).map (fun i=>(i.zero,i.size,i.bytes))=some (some (.int .i64 0),1,8):=by kernel_rfl
end
section
open Go.RowKit
end
section
open Go.RowKit
end
section
open Go.RowKit
def D5:List Int→Int
 | a::b::l=>if btw a 0 (b-1) then D5 l else 3
 | _=>0
def Dc (r:Ew) (f:Flock) (l:List Int):Int:=if Bo r != 0 then Bo r else if Fg f != 0 then Fg f else D5 l
theorem Vg {l:List Int}{i:Nat}(h:i+1<l.length):D5 (l.drop i)=if btw l[i] 0 (l[i+1]-1) then D5 (l.drop (i+2)) else 3:=by
 rw[List.drop_eq_getElem_cons (show i<l.length by omega),List.drop_eq_getElem_cons h];rfl
theorem Xk {l:List Int}{i:Nat}(h:¬ i+1<l.length):D5 (l.drop i)=0:=by
 by_cases e:i<l.length
 ·rw[List.drop_eq_getElem_cons e,List.drop_of_length_le (by omega)];rfl
 ·rw[List.drop_of_length_le (by omega)];rfl
def Yu (w:World) (r:Ew) (f:Flock) (l:List Int) (a:Option Addr) (cap:Nat) (e:Ending) (w':World):Prop :=
 (Dc r f l=0∧∃ b,e=.returned (.tuple #[.pointer (some ⟨b,0,none⟩),.int .i64 0])∧Pv w' b r f (-1) a cap∧w.heap.size≤b∧(∀ k,w'.frozen? ⟨b,k,none⟩=false)∧Below w.heap.size w w') ∨
 (Dc r f l≠0∧e=.returned (.tuple #[.pointer none,.int .i64 (Dc r f l)])∧Below w.heap.size w w')
theorem Xc (w:World) (r:Ew) (f:Flock) (l:List Int) (a:Option Addr) (cap:Nat) (pa:Option Addr) (pc:Nat) (hs:DN w a r.strips) (hm:r.strips.length≤maxLen) (hp:AX w pa l) (hl:l.length≤100)
  (hr:Bo r=0→∀ i (h:i<l.length),i % 2=1→0≤l[i]∧l[i]≤1000) :
  Calls Try.prog 100 #[.agg #[.int .i64 r.days,.int .i64 r.stages,.slice a r.strips.length cap],.agg #[.int .i64 f.heads,.int .i64 f.pace],.slice pa l.length pc] w (Yu w r f l a cap):=by
 have hb0:Below w.heap.size w ((w.alloc (.cells #[.int .i64 r.days,.int .i64 r.stages,.slice a r.strips.length cap] 24)).alloc (.cells #[.int .i64 f.heads,.int .i64 f.pace] 87)):=((Below.refl _ _).alloc (Nat.le_refl _) _).alloc (by simp) _;obtain⟨r1,r2,rs⟩:=r;obtain⟨f1,f2⟩:=f
 dsimp only at hs hm hr hb0 ⊢
 have HM:=Lib.hid hm;clear hm
 go_enter Try.func100,Try.ntmps100
 go_wp2_with fail
 refine(check_any r1 r2 rs a cap _ (hs.below hb0) HM.out).mono ?_;rintro e w1 ⟨rfl,hb1⟩;obtain⟨hc1,_⟩:=Ef hb1;have e0:w1.cell? ⟨w.heap.size,0,none⟩=some (.int .i64 r1):=by rw[hc1 _ _ (by simp;omega)];simp[go_sem]
 have e1:w1.cell? ⟨w.heap.size,1,none⟩=some (.int .i64 r2):=by rw[hc1 _ _ (by simp;omega)];simp[go_sem]
 have e2:w1.cell? ⟨w.heap.size,2,none⟩=some (.slice a rs.length cap):=by rw[hc1 _ _ (by simp;omega)];simp[go_sem]
 have e3:w1.cell? ⟨w.heap.size+1,0,none⟩=some (.int .i64 f1):=by rw[hc1 _ _ (by simp)];simp[go_sem]
 have e4:w1.cell? ⟨w.heap.size+1,1,none⟩=some (.int .i64 f2):=by rw[hc1 _ _ (by simp)];simp[go_sem]
 have hb01:Below w.heap.size w w1:=hb0.trans (hb1.mono (by simp;omega));have hz1:w.heap.size+1<w1.heap.size:=lt_of_cell e3;clear hc1 hb1 hb0
 by_cases hck:Bo ⟨r1,r2,rs⟩=0
 ·have hck':(Bo ⟨r1,r2,rs⟩ != 0)=false:=by simp[hck]
  rw[hck];have Hck:=Lib.hid hck;clear hck hck'
  go_wp2_with fail
  refine(OD f1 f2 _).mono ?_;rintro e w2 ⟨rfl,hb2⟩;obtain⟨hc2,_⟩:=Ef hb2;have e0':w2.cell? ⟨w.heap.size,0,none⟩=some (.int .i64 r1):=by rw[hc2 _ _ (by omega)];exact e0
  have e1':w2.cell? ⟨w.heap.size,1,none⟩=some (.int .i64 r2):=by rw[hc2 _ _ (by omega)];exact e1
  have e2':w2.cell? ⟨w.heap.size,2,none⟩=some (.slice a rs.length cap):=by rw[hc2 _ _ (by omega)];exact e2
  have e3':w2.cell? ⟨w.heap.size+1,0,none⟩=some (.int .i64 f1):=by rw[hc2 _ _ (by omega)];exact e3
  have e4':w2.cell? ⟨w.heap.size+1,1,none⟩=some (.int .i64 f2):=by rw[hc2 _ _ (by omega)];exact e4
  have hb02:Below w.heap.size w w2:=hb01.trans (hb2.mono hb01.size);clear e0 e1 e2 e3 e4 hc2 hb2 hb01
  by_cases hfk:Fg ⟨f1,f2⟩=0
  ·rw[hfk];have Hfk:=Lib.hid hfk;clear hfk;have He:Dc ⟨r1,r2,rs⟩ ⟨f1,f2⟩ l=D5 l:=by simp[Dc,Hck.out,Hfk.out]
   have HE:=Lib.hid He;clear He;have Hr:=Lib.hid (hr Hck.out);clear hr;have hp2:=hp.below hb02;clear hp;have Hp2:=Lib.hid hp2;clear hp2;have e:True:=trivial
   go_wp2_with fail
   go_loopw [10] (fun v10 wx=>∃ i:Nat,i≤l.length+1∧v10=.int .i64 i∧D5 (l.drop i)=D5 l∧i % 2=0∧Below w2.heap.size w2 wx) (fun v _=>l.length+2-(intOf v).toNat)
   case atStart=>exact⟨0,by omega,rfl,rfl,rfl,Below.refl _ _⟩
   case round =>
    obtain⟨i,hi,rfl,hE,hpar,hbr⟩:=hrel;obtain⟨hcr,_⟩:=Ef hbr;have e0:wr.cell? ⟨w.heap.size,0,none⟩=some (.int .i64 r1):=by rw[hcr _ _ (lt_of_cell e0')];exact e0'
    have e1:wr.cell? ⟨w.heap.size,1,none⟩=some (.int .i64 r2):=by rw[hcr _ _ (lt_of_cell e0')];exact e1'
    have e2:wr.cell? ⟨w.heap.size,2,none⟩=some (.slice a rs.length cap):=by rw[hcr _ _ (lt_of_cell e0')];exact e2'
    have e3:wr.cell? ⟨w.heap.size+1,0,none⟩=some (.int .i64 f1):=by rw[hcr _ _ (lt_of_cell e3')];exact e3'
    have e4:wr.cell? ⟨w.heap.size+1,1,none⟩=some (.int .i64 f2):=by rw[hcr _ _ (lt_of_cell e3')];exact e4'
    have hb0r:Below w.heap.size w wr:=hb02.trans (hbr.mono hb02.size);clear e0' e1' e2' e3' e4' hcr;have HEi:=Lib.hid hE;clear hE;have Hpar:=Lib.hid hpar;clear hpar
    by_cases hlt:i+1<l.length
    ·rcases Hp2.out with hx|⟨pb,po,rfl,hpc⟩
     ·rw[hx]at hlt;simp at hlt
     have x0:=(Ef hbr).1 _ _ (lt_of_cell (hpc i (by omega))) |>.trans (hpc i (by omega))
     have x1:=(Ef hbr).1 _ _ (lt_of_cell (hpc (i+1) hlt)) |>.trans (hpc (i+1) hlt)
     obtain⟨y1,y2⟩:=Hr.out (i+1) hlt (by have:=Hpar.out;omega);have hst:=Vg hlt;generalize hg1:l[i]=p1 at x0 hst;generalize hg2:l[i+1]=p2 at x1 y1 y2 hst;have Hst:=Lib.hid hst;clear hst;have Hg1:=Lib.hid hg1;clear hg1;have Hg2:=Lib.hid hg2;clear hg2;clear hpc;have q1:(i:Int)<(l.length:Int):=by omega
     have q2:(i:Int)+1<(l.length:Int):=by omega
     have q3:0≤(i:Int)+1:=by omega
     have s1:IntKind.i64.wrap ((i:Int)+1)=(i:Int)+1:=IntWalk.i64_in _ (by omega);have s2:((i:Int)+1).toNat=i+1:=by omega
     have s3:IntKind.i64.wrap (p2-1)=p2-1:=IntWalk.i64_in _ (by omega)
     go_wp2_with fail
     go_quiet ((go_at_call 111;exact Calls.quiet_of_same ((Cb _ _ _ _).mono fun e w' h=>⟨h.1,h.2.symm⟩)))
     clear q1 q2 q3 s1 s2 s3
     cases hbt:btw p1 0 (p2-1)
     ·have Hbt:=Lib.hid hbt;clear hbt
      go_wp2_with fail
      go_ret2
      have h3:D5 l=3:=by rw[← HEi.out,Hst.out,Hbt.out];rfl
      exact .inr ⟨by rw[HE.out,h3];decide,by rw[HE.out,h3];rfl,below_drewN hb0r _⟩
     ·have Hbt:=Lib.hid hbt;clear hbt
      go_wp2_with fail
      exact⟨⟨i+2,by omega,by go_num,by rw[← HEi.out,Hst.out,Hbt.out];rfl,by have:=Hpar.out;omega,below_drewN hbr _⟩,by simp[intOf];omega⟩
    ·have h0:D5 l=0:=by rw[← HEi.out];exact Xk hlt
     have H0:=Lib.hid h0;clear h0
     go_wp2_with fail
     go_ret2
     refine .inl ⟨by rw[HE.out,H0.out],_,rfl,⟨by simp,by simp,by simp,by simp,by simp,by simp,?_⟩,hb0r.size,fun k=>by simp,?_⟩
     ·exact hs.below (hb0r.trans (Below.alloc (Below.refl _ _) hb0r.size _))
     ·exact hb0r.trans (Below.alloc (Below.refl _ _) hb0r.size _)
  ·have He:Dc ⟨r1,r2,rs⟩ ⟨f1,f2⟩ l=Fg ⟨f1,f2⟩:=by simp[Dc,Hck.out,hfk]
   have hne:(Fg ⟨f1,f2⟩ != 0)=true:=by simpa using hfk
   go_wp2_with fail
   go_ret2
   exact .inr ⟨by rw[He];exact hfk,by rw[He];rfl,hb02⟩
 ·have He:Dc ⟨r1,r2,rs⟩ ⟨f1,f2⟩ l=Bo ⟨r1,r2,rs⟩:=by simp[Dc,hck]
  have hne:(Bo ⟨r1,r2,rs⟩ != 0)=true:=by simpa using hck
  go_wp2_with fail
  go_ret2
  exact .inr ⟨by rw[He];exact hck,by rw[He];rfl,hb01⟩
end
section
open Go.RowKit
theorem VR {r:Ew}(h:Bo r=0):1≤r.days∧r.days≤10∧1≤r.stages∧r.stages≤6∧r.strips.length≤8:=by
 unfold Bo at h
 by_cases c1:(!(btw r.days 1 10) || !(btw r.stages 1 6))=true
 ·rw[if_pos c1]at h;omega
 ·rw[if_neg c1]at h;simp[btw]at c1
  by_cases c2:8<r.strips.length
  ·rw[if_pos c2]at h;omega
  ·omega
theorem U7 {r:Ew}{f:Flock}{l:List Int}(h:Dc r f l=0):Good r f∧D5 l=0:=by
 unfold Dc at h
 by_cases c1:(Bo r != 0)=true
 ·rw[if_pos c1]at h;simp[h]at c1
 ·rw[if_neg c1]at h
  by_cases c2:(Fg f != 0)=true
  ·rw[if_pos c2]at h;simp[h]at c2
  ·rw[if_neg c2]at h;exact⟨Zu.2 ⟨by simpa using c1,by simpa using c2⟩,h⟩
theorem Abd {a b:Int}:D5 [a,b]=0↔0≤a∧a<b:=by
 rw[D5]
 by_cases h:btw a 0 (b-1)=true
 ·rw[if_pos h];rw[Am]at h;simp[D5];omega
 ·rw[if_neg h];rw[Am]at h;omega
end
section
open Go.RowKit
end
section
open Go.RowKit
end
section
open Go.RowKit
theorem XD {w:World}{l:List Int}:AX (w.alloc (.cells (l.map (Value.int .i64)).toArray 3)) (some ⟨w.heap.size,0,none⟩) l:=by
 refine .inr ⟨_,0,rfl,fun i h=>?_⟩;rw[World.cell?_alloc_at _ _ _ _ (by simp)];simp[h]
theorem Acn {r:Ew}(hc:Bo r=0) {l:List Int}(hl:∀ i (h:i<l.length),i % 2=1→l[i]=r.stages∨l[i]=r.days∨l[i]=r.strips.length):∀ i (h:i<l.length),i % 2=1→0≤l[i]∧l[i]≤1000:=by
 have:=VR hc;intro i h hi;have:=hl i h hi
 omega
def Hw (r:Ew) (f:Flock) (i:Nat):Nat→List Int
 | 0=>[]
 | k+1=>Hw r f i k++(if Tn r f (-1) i (k:Int) then [(k:Int)] else [])
theorem Rq (r:Ew) (f:Flock) (i:Nat):∀ k,(Hw r f i k).length≤k
 | 0=>Nat.le_refl _
 | k+1=>by have:=Rq r f i k;simp only[Hw,List.length_append];split<;>simp<;>omega
def Qn (w:World) (r:Ew) (f:Flock) (strip:Int) (e:Ending) (w':World):Prop :=
 (Dc r f [strip,r.strips.length]=0∧∃ v,e=.returned (.tuple #[v,.int .i64 0])∧CG w' w.heap.size v (Hw r f strip.toNat r.days.toNat)∧Below w.heap.size w w') ∨
 (Dc r f [strip,r.strips.length]≠0∧e=.returned (.tuple #[.slice none 0 0,.int .i64 (Dc r f [strip,r.strips.length])])∧Below w.heap.size w w')
theorem Z5 (w:World) (r:Ew) (f:Flock) (a:Option Addr) (cap:Nat) (hs:DN w a r.strips) (hm:r.strips.length≤maxLen) (strip:Int) :
  Calls Try.prog 94 #[.agg #[.int .i64 r.days,.int .i64 r.stages,.slice a r.strips.length cap],.agg #[.int .i64 f.heads,.int .i64 f.pace],.int .i64 strip] w (Qn w r f strip):=by
 have hb0:Below w.heap.size w (((w.alloc (.cells #[.int .i64 r.days,.int .i64 r.stages,.slice a r.strips.length cap] 24)).alloc (.cells #[.int .i64 f.heads,.int .i64 f.pace] 87)).alloc (.cells #[.int .i64 strip,.int .i64 r.strips.length] 3)) :=
  (((Below.refl _ _).alloc (Nat.le_refl _) _).alloc (by simp) _).alloc (by simp;omega) _
 have hp:AX (((w.alloc (.cells #[.int .i64 r.days,.int .i64 r.stages,.slice a r.strips.length cap] 24)).alloc (.cells #[.int .i64 f.heads,.int .i64 f.pace] 87)).alloc (.cells #[.int .i64 strip,.int .i64 r.strips.length] 3))
   (some ⟨w.heap.size+1+1,0,none⟩) [strip,r.strips.length]:=by
  have:=@XD ((w.alloc (.cells #[.int .i64 r.days,.int .i64 r.stages,.slice a r.strips.length cap] 24)).alloc (.cells #[.int .i64 f.heads,.int .i64 f.pace] 87)) [strip,r.strips.length]
  simpa using this
 have HM:=Lib.hid hm;clear hm
 have HO:=Lib.hid (fun hc=>@Acn r hc [strip,r.strips.length] (by
  intro i h hi;simp only[List.length_cons,List.length_nil]at h;obtain rfl:i=1:=by omega
  exact .inr (.inr rfl)))
 go_enter Try.func94,Try.ntmps94
 go_wp2_with fail
 refine(Xc _ r f [strip,r.strips.length] a cap _ 2 (hs.below hb0) HM.out hp (by simp) HO.out).mono ?_;rintro e w1 (⟨hz,b,rfl,hW,hbb,_,hb1⟩|⟨hz,rfl,hb1⟩)
 ·obtain⟨g,hpz⟩:=U7 hz;obtain⟨p1,p2⟩:=Abd.1 hpz;obtain⟨k,hk⟩:=Int.eq_ofNat_of_zero_le p1;have Hz:=Lib.hid hz;clear hz hpz;subst hk;have hkl:k<r.strips.length:=by omega
  have gd1:=g.d1;have gd2:=g.d2;have hb01:=hb0.trans (hb1.mono hb0.size);have HB1:=Lib.hid hb01;clear hb0 hb1 hp hs;have HW:=Lib.hid hW;clear hW
  go_wp2_with fail
  go_loopw [10,11] (fun v10 v11 wx=>∃ d:Nat,(d:Int)≤r.days∧v11=.int .i64 (d:Int)∧CG wx w1.heap.size v10 (Hw r f k d)∧Below w1.heap.size w1 wx) (fun _ v _=>r.days.toNat-(intOf v).toNat)
  case atStart=>exact⟨0,by omega,rfl,CG.nil _ _,Below.refl _ _⟩
  case round =>
   obtain⟨d,hd,rfl,hown,hbr⟩:=hrel;have hle:=Rq r f k d;have hW':=HW.out.below hbr;have c0:=hW'.c0
   by_cases hlt:(d:Int)<r.days
   ·go_wp2_with fail
    refine(open_any wr b r f (-1) a cap hW' k hkl (d:Int)).mono ?_;rintro e w2 ⟨rfl,hb2⟩;have hbr2:=hbr.trans (hb2.mono hbr.size);have hown2:=hown.below hb2
    cases hT:Tn r f (-1) k (d:Int)
    ·have he:Hw r f k (d+1)=Hw r f k d:=by simp[Hw,hT]
     have HE:=Lib.hid he;clear he hT
     go_wp2_with fail
     exact⟨⟨d+1,by omega,by go_num,by rw[HE.out];exact hown2,hbr2⟩,by simp[intOf];omega⟩
    ·have he:Hw r f k (d+1)=Hw r f k d++[(d:Int)]:=by simp[Hw,hT]
     have HE:=Lib.hid he;clear he hT
     go_wp2_with (at_builtin;refine Js rfl _ _ rfl w1.heap.size _ _ rfl hown2 _ rfl (by omega) hbr2.size ?_)
     intro v' w' hown' hbel _
     go_wp2_with fail
     exact⟨⟨d+1,by omega,by go_num,by rw[HE.out];exact hown',hbr2.trans hbel⟩,by simp[intOf];omega⟩
   ·obtain rfl:d=r.days.toNat:=by omega
    go_wp2_with fail
    go_ret2
    exact .inl ⟨Hz.out,_,rfl,hown.mono HB1.out.size,HB1.out.trans (hbr.mono HB1.out.size)⟩
 ·have hne:(Dc r f [strip,r.strips.length] != 0)=true:=by simpa using hz
  have Hz:=Lib.hid hz;clear hz
  go_wp2_with fail
  go_ret2
  exact .inr ⟨Hz.out,rfl,hb0.trans (hb1.mono hb0.size)⟩
def IK (r:Ew) (f:Flock) (strip:Int):List Int×Int :=
 if Dc r f [strip,r.strips.length]=0 then (Hw r f strip.toNat r.days.toNat,0) else ([],Dc r f [strip,r.strips.length])
theorem Qn.val {w w':World}{r:Ew}{f:Flock}{strip:Int}{e:Ending}(h:Qn w r f strip e w') :
  ∃ ga gc,e=.returned (.tuple #[.slice ga (IK r f strip).1.length gc,.int .i64 (IK r f strip).2])∧AX w' ga (IK r f strip).1∧Below w.heap.size w w':=by
 obtain⟨h1,v,rfl,hown,hb⟩|⟨h1,rfl,hb⟩:=h
 ·obtain⟨ga,gc,rfl,hi,_⟩:=hown.ints;have e:IK r f strip=(Hw r f strip.toNat r.days.toNat,0):=by rw[IK,if_pos h1]
  rw[e];exact⟨ga,gc,rfl,hi,hb⟩
 ·have e:IK r f strip=([],Dc r f [strip,r.strips.length]):=by rw[IK,if_neg h1]
  rw[e];exact⟨none,0,rfl,.inl rfl,hb⟩
end
section
open Go.RowKit
theorem En (n lo hi:Int) (w:World) :
  Calls Try.prog 113 #[.int .i64 n,.int .i64 lo,.int .i64 hi] w fun e w'=>e=.returned (.bool (btw n lo hi))∧w=w':=by
 by_cases h:lo≤n
 ·go_enter Try.func113,Try.ntmps113
  go_wp2
  go_ret
  exact⟨by simp[h,btw],rfl⟩
 ·go_enter Try.func113,Try.ntmps113
  go_wp2
  go_ret
  exact⟨by simp[btw];omega,rfl⟩
set_option maxHeartbeats 8000000 in
theorem QQ (D S:Int) (sl:Value) (Z:sl.oneCell'=true) (A B L W K X Y:Int) (w:World) (h1:1≤D) (h2:D≤10) (h3:1≤S) (h4:S≤6) :
  Calls Try.prog 114 #[.agg #[.int .i64 D,.int .i64 S,sl],.agg #[.int .i64 A,.int .i64 B,.int .i64 L,.int .i64 W,.int .i64 K,.int .i64 X,.int .i64 Y]] w
   fun e w'=>e=.returned (.int .i64 (BL ⟨A,B,L,W,K,X,Y⟩ D S))∧Below w.heap.size w w':=by
 by_cases k1:K=1
 ·subst k1
  go_enter Try.func114,Try.ntmps114
  go_wp2_with (go_at_call 113;refine(En _ _ _ _).mono ?_;rintro e w' ⟨rfl,rfl⟩)
  all_goals go_ret
  all_goals exact⟨BX (by simp_all [BL,Ff,Fe]),by go_grown⟩
 ·by_cases k2:K=2
  ·subst k2
   go_enter Try.func114,Try.ntmps114
   go_wp2_with (go_at_call 113;refine(En _ _ _ _).mono ?_;rintro e w' ⟨rfl,rfl⟩)
   all_goals go_ret
   all_goals exact⟨BX (by simp_all [BL,Ff,Fe]),by go_grown⟩
  ·by_cases k3:K=3
   ·subst k3
    go_enter Try.func114,Try.ntmps114
    go_wp2_with (go_at_call 113;refine(En _ _ _ _).mono ?_;rintro e w' ⟨rfl,rfl⟩)
    all_goals go_ret
    all_goals exact⟨BX (by simp_all [BL,Ff,Fe]),by go_grown⟩
   ·by_cases k4:K=4
    ·subst k4
     go_enter Try.func114,Try.ntmps114
     go_wp2_with (go_at_call 113;refine(En _ _ _ _).mono ?_;rintro e w' ⟨rfl,rfl⟩)
     all_goals go_ret
     all_goals exact⟨BX (by simp_all [BL,Ff,Fe]),by go_grown⟩
    ·go_enter Try.func114,Try.ntmps114
     go_wp2_with (go_at_call 113;refine(En _ _ _ _).mono ?_;rintro e w' ⟨rfl,rfl⟩)
     all_goals go_ret
     all_goals exact⟨BX (by simp_all [BL,Ff]),by go_grown⟩
theorem QS (D S:Int) (l:List Strip) (a:Option Addr) (cap:Nat) (w:World) (hl:DN w a l) (hm:l.length≤maxLen) :
  Calls Try.prog 89 #[.agg #[.int .i64 D,.int .i64 S,.slice a l.length cap]] w
   fun e w'=>e=.returned (.int .i64 (Bo ⟨D,S,l⟩))∧Below w.heap.size w w':=by
 unfold maxLen at hm
 by_cases hd:btw D 1 10=true
 ·by_cases hs:btw S 1 6=true
  ·by_cases h8:8<l.length
   ·go_enter Try.func89,Try.ntmps89
    go_wp2_with (go_at_call 113;refine(En _ _ _ _).mono ?_;rintro e w' ⟨rfl,rfl⟩)
    all_goals go_ret
    all_goals exact⟨BX (by simp[Bo,hd,hs,h8]),by go_grown⟩
   ·obtain⟨hs1,hs2⟩:=Am.1 hs;obtain⟨hd1,hd2⟩:=Am.1 hd;have hR:Bo ⟨D,S,l⟩=Bq D S l:=by simp[Bo,hd,hs,h8]
    have HR:=Lib.hid hR;clear hR;have hb0:Below w.heap.size w (w.alloc (.cells #[.int .i64 D,.int .i64 S,.slice a l.length cap] 24)):=Below.alloc (Below.refl _ _) (Nat.le_refl _) _;have hs0:(w.alloc (.cells #[.int .i64 D,.int .i64 S,.slice a l.length cap] 24)).heap.size=w.heap.size+1:=by simp
    have x0:(w.alloc (.cells #[.int .i64 D,.int .i64 S,.slice a l.length cap] 24)).cell? ⟨w.heap.size,0,none⟩=some (.int .i64 D):=by simp[go_sem]
    have x1:(w.alloc (.cells #[.int .i64 D,.int .i64 S,.slice a l.length cap] 24)).cell? ⟨w.heap.size,1,none⟩=some (.int .i64 S):=by simp[go_sem]
    have x2:(w.alloc (.cells #[.int .i64 D,.int .i64 S,.slice a l.length cap] 24)).cell? ⟨w.heap.size,2,none⟩=some (.slice a l.length cap):=by simp[go_sem]
    have HST:=Lib.hid (hl.below hb0)
    go_enter Try.func89,Try.ntmps89
    go_wp2_with (go_at_call 113;refine(En _ _ _ _).mono ?_;rintro e w' ⟨rfl,rfl⟩)
    generalize (w.alloc (.cells #[.int .i64 D,.int .i64 S,.slice a l.length cap] 24))=W0 at hb0 hs0 x0 x1 x2 HST ⊢;have X0:=Lib.hid x0;clear x0;have X1:=Lib.hid x1;clear x1;have X2:=Lib.hid x2;clear x2;have HB0:=Lib.hid hb0;clear hb0;have HS0:=Lib.hid hs0;clear hs0
    go_loopw [3] (fun v wr=>∃ k:Nat,k≤l.length∧v=.int .i64 (k:Int)∧Bq D S (l.drop k)=Bq D S l∧Below W0.heap.size W0 wr) (fun v _=>l.length-(intOf v).toNat)
    case atStart=>exact⟨0,Nat.zero_le _,rfl,rfl,Below.refl _ _⟩
    case round =>
     obtain⟨k,hk,rfl,hE,hb⟩:=hrel;have HE:=Lib.hid hE;clear hE;have x0:=((Ef hb).1 _ _ (lt_of_cell X0.out)).trans X0.out;have x1:=((Ef hb).1 _ _ (lt_of_cell X1.out)).trans X1.out;have x2:=((Ef hb).1 _ _ (lt_of_cell X2.out)).trans X2.out;have HB:=Lib.hid (HB0.out.trans (hb.mono HB0.out.size));have HBW:=Lib.hid hb
     by_cases hlt:k<l.length
     ·rcases HST.out.below hb with h0|⟨b,o,rfl,hc⟩
      ·rw[h0]at hlt;simp at hlt
      obtain⟨s0,s1,s2,s3,s4,s5,s6⟩:=hc k hlt;have hnx:=@UA D S l k l[k] hlt HE.out rfl;have hnd:=fun x=>@chk_end D S l k l[k] x hlt HE.out rfl
      clear hc hb;generalize l[k]=s at s0 s1 s2 s3 s4 s5 s6 hnx hnd;have HNX:=Lib.hid hnx;clear hnx;have HND:=Lib.hid hnd;clear hnd;have q1:(k:Int)<(l.length:Int):=by omega
      go_wp2_with fail
      go_cut [4] (fun v4 wx=>v4=.int .i64 (BL s D S)∧Below wr.heap.size wr wx)
      case first =>
       go_region_held3 (fun w'=>w'.cell? ⟨w.heap.size,0,none⟩=some (.int .i64 D)∧w'.cell? ⟨w.heap.size,1,none⟩=some (.int .i64 S)∧w'.cell? ⟨w.heap.size,2,none⟩=some (.slice (some ⟨b,o,none⟩) l.length cap)∧w'.cell? ⟨b,o+k*7,none⟩=some (.int .i64 s.A)∧w'.cell? ⟨b,o+k*7+1,none⟩=some (.int .i64 s.B)∧w'.cell? ⟨b,o+k*7+2,none⟩=some (.int .i64 s.L)∧w'.cell? ⟨b,o+k*7+3,none⟩=some (.int .i64 s.W)∧w'.cell? ⟨b,o+k*7+4,none⟩=some (.int .i64 s.K)∧w'.cell? ⟨b,o+k*7+5,none⟩=some (.int .i64 s.X)∧w'.cell? ⟨b,o+k*7+6,none⟩=some (.int .i64 s.Y)) (first|exact⟨back x0,back x1,back x2,back s0,back s1,back s2,back s3,back s4,back s5,back s6⟩|exact⟨x0,x1,x2,s0,s1,s2,s3,s4,s5,s6⟩)
        (first|(go_at_call 114;refine(QQ D S (.slice (some ⟨b,o,none⟩) l.length cap) rfl s.A s.B s.L s.W s.K s.X s.Y _ hd1 hd2 hs1 hs2).mono ?_;rintro e w5 ⟨rfl,hb5⟩;have HB5:=Lib.hid ((Below.refl wr.heap.size wr).drew.trans hb5);have back:∀ {b o:Nat}{v:Value},wr.cell? ⟨b,o,none⟩=some v→w5.cell? ⟨b,o,none⟩=some v:=fun h=>((Ef hb5).1 _ _ (lt_of_cell h)).trans h))
       all_goals (go_wp2_with fail;go_meet;exact⟨rfl,HB5.out⟩)
      case rest =>
       obtain⟨rfl,hb5⟩:=hcut
       by_cases hz:BL s D S=0
       ·have HZ:=Lib.hid hz;rw[hz];clear hz x0 x1 x2 s0 s1 s2 s3 s4 s5 s6
        go_wp2_with fail
        exact⟨⟨k+1,by omega,by go_num,HNX.out HZ.out,HBW.out.trans (hb5.mono HBW.out.size)⟩,by simp[intOf];omega⟩
       ·have hne:(BL s D S != 0)=true:=by simpa using hz
        have HX:=Lib.hid (HND.out _ rfl hz);clear hz x0 x1 x2 s0 s1 s2 s3 s4 s5 s6
        go_wp2_with fail
        go_ret
        exact⟨BX (by rw[HR.out,HX.out]),HB.out.trans (hb5.mono HB.out.size)⟩
     ·go_wp2_with fail
      go_ret
      refine⟨BX ?_,HB.out⟩;rw[HR.out,← HE.out,List.drop_of_length_le (by omega)];rfl
  ·go_enter Try.func89,Try.ntmps89
   go_wp2_with (go_at_call 113;refine(En _ _ _ _).mono ?_;rintro e w' ⟨rfl,rfl⟩)
   all_goals go_ret
   all_goals exact⟨BX (by simp_all [Bo]),by go_grown⟩
 ·go_enter Try.func89,Try.ntmps89
  go_wp2_with (go_at_call 113;refine(En _ _ _ _).mono ?_;rintro e w' ⟨rfl,rfl⟩)
  all_goals go_ret
  all_goals exact⟨BX (by simp_all [Bo]),by go_grown⟩
end
end Go.Proofs.Ytgdobbcjkiapkaa
