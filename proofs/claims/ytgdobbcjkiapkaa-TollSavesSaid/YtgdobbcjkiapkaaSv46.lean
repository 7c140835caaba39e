import Derived.Test.YtgdobbcjkiapkaaSv44
import Derived.Test.YtgdobbcjkiapkaaSv45
import Derived.Test.YtgdobbcjkiapkaaSv33
import Derived.Deep.OwnRows
import Derived.Test.YtgdobbcjkiapkaaSv43
import Derived.Test.YtgdobbcjkiapkaaSv42
import Derived.Test.YtgdobbcjkiapkaaSv25
import Derived.Test.YtgdobbcjkiapkaaSv19
import Derived.Test.YtgdobbcjkiapkaaSv04
namespace Go.Proofs.Ytgdobbcjkiapkaa
set_option maxRecDepth 100000
set_option maxHeartbeats 4000000
set_option linter.unusedSimpArgs false
set_option linter.unusedVariables false
section
open Go Go.Conc Go.RowKit
def Aa1 (w:World) (L:List Int) (e:Ending) (w':World):Prop:=∃ oa oc,e=.returned (.slice oa L.length oc)∧Df w' w.heap.size (.slice oa L.length oc) L∧Below w.heap.size w w'
def Ll (w:World) (p:List Int×Int) (e:Ending) (w':World):Prop:=∃ oa oc,e=.returned (.tuple #[.slice oa p.1.length oc,.int .i64 p.2])∧AX w' oa p.1∧Below w.heap.size w w'
def AaP (L:List Int) (err:Int):List Int×Int:=if err=0 then (L,0) else ([],err)
theorem TK {L:List Int}{err:Int}(h:err≠0):AaP L err=([],err):=if_neg h
theorem TJ {L:List Int}{err:Int}(h:err=0):AaP L err=(L,0):=if_pos h
theorem Dv.pair {w w':World}{L:List Int}{err:Int}{e:Ending}(h:Dv w L err e w'):Ll w (AaP L err) e w':=by
 obtain⟨hb,h1,h2⟩:=h
 by_cases c:err=0
 ·obtain⟨g,he,_,hr⟩:=h2 c;rw[TJ c];exact⟨_,_,he,CS hr,hb⟩
 ·rw[TK c];exact⟨none,0,h1 c,.inl rfl,hb⟩
def Aau (t:Ae) (l:List Ar):List Int×Int:=AaP (Bv (YJ t l) t.Aa.length) (Bc t l)
def Nl (t:Ae) (l:List Ar):List Int×Int:=AaP (Bv (JC t l) t.Aa.length) (Bc t l)
theorem Vt (f:Nat→Int) (n:Nat):Bv f (n+1)=Bv f n++[f n]:=by simp[Bv,List.range_succ]
theorem Xy {f:Nat→Int}{n i:Nat}(x:Int):(F7 (Bv f n)).setIfInBounds i (.int .i64 x)=F7 (Bv (upd f i x) n):=by
 rw[XF]
 congr 1
 apply List.ext_getElem (by simp[Bv]);intro j h1 h2;simp only[Bv,List.getElem_set,List.getElem_map,List.getElem_range];unfold upd
 by_cases c:i=j
 ·rw[if_pos c,if_pos c.symm]
 ·rw[if_neg c,if_neg (fun e=>c e.symm)]
theorem Vu (n:Nat):madeCells #[.int .i64 0] n=F7 (Bv (fun _=>0) n):=by
 apply Array.ext_getElem?;intro i;unfold madeCells F7 Bv
 by_cases h:i<n<;>simp[h,Nat.mod_one]
theorem NI {t:Ae}{l:List Ar}(ho:Bc t l=0) {o:Nat}(hio:o<t.Aa.length) (k:Nat) (hk:k≤6):0≤Dy (atL t l o) k∧Dy (atL t l o) k≤1200000000000:=by
 have:=CV ((IZ ho).EJ hio) k
 omega
def BM (t:Ae):Ae:=⟨t.roads,t.pace,t.Aa.map fun p=>⟨p.heads,0,false⟩,t.Af⟩
theorem IW (t:Ae):(BM t).Aa.length=t.Aa.length:=by simp[BM]
theorem Nr:∀ ps:List A8,AL (ps.map fun p=>(⟨p.heads,0,false⟩:A8))=AL ps
 | []=>rfl
 | p::ps=>by simp only[List.map_cons,AL];rw[Nr ps]
theorem S9 {t:Ae}(h:Aq t=0):Aq (BM t)=0:=by
 have hl:=AY h;have h1:=hl.1;have h2:=hl.2.1;have h3:=hl.2.2.1;unfold Aq at h ⊢;have e1:(BM t).roads=t.roads:=rfl;have e2:(BM t).pace=t.pace:=rfl;have e3:AL (BM t).Aa=AL t.Aa:=Nr _;have e4:DY (BM t)=DY t:=rfl
 have e5:(BM t).Aa.all AZ=true:=by
  rw[List.all_eq_true];intro p hp;obtain⟨q,hq,rfl⟩:=List.mem_map.1 hp;have:=List.all_eq_true.1 hl.2.2.2.2.2.1 q hq;simp only[AZ,Bool.and_eq_true]at this ⊢;exact⟨this.1,by decide⟩
 rw[e1,e2,e3,e4,e5,IW];have e6:t.Aa.all AZ=true:=hl.2.2.2.2.2.1;rw[e6]at h;exact h
theorem OZ {t:Ae}:∀ l:List Ar,Ed (BM t) l=Ed t l
 | []=>rfl
 | p::l=>by
  have e:ED (BM t) p=ED t p:=by unfold ED;rw[IW];rfl
  rw[Ed,Ed,e,OZ l]
theorem Vb {t:Ae}{l:List Ar}(h:Bc t l=0):Bc (BM t) l=0:=by
 have hT:=Ee h;unfold Bc at h ⊢;rw[if_neg (by simp[S9 hT]),OZ];rw[if_neg (by simp[hT])]at h;exact h
theorem Xh {t:Ae}{l:List Ar}{o:Nat}(ho:o<t.Aa.length):Eh (BM t) l o-Eh t l o=JC t l o:=by
 unfold JC
 congr 1
 unfold Eh Hu
 congr 1
 show Dy (atL (BM t) l o) t.Af.length=_;refine OU _ fun i _=>?_
 unfold atL Un;have e:(BM t).Aa.getD o default=⟨(t.Aa[o]).heads,0,false⟩:=by simp[BM,List.getD_eq_getElem?_getD,ho]
 rw[e];rfl
def YN (t:Ae) (l:List Ar) (k m:Nat):Int:=if m<k then JC t l m else Eh (BM t) l m
theorem WY {t:Ae}{l:List Ar}{k:Nat}(hk:k<t.Aa.length):(Bv (YN t l k) t.Aa.length).set k (Eh (BM t) l k-Eh t l k)=Bv (YN t l (k+1)) t.Aa.length:=by
 apply List.ext_getElem (by simp[Bv]);intro j h1 h2;simp only[Bv,List.getElem_set,List.getElem_map,List.getElem_range];unfold YN
 by_cases c:k=j
 ·subst c;rw[if_pos rfl,if_pos (by omega),Xh hk]
 ·rw[if_neg c]
  by_cases c2:j<k
  ·rw[if_pos c2,if_pos (by omega)]
  ·rw[if_neg c2,if_neg (by omega)]
theorem Aaw (t:Ae) (l:List Ar) (k:Nat):YN t l k k=Eh (BM t) l k:=if_neg (by omega)
theorem WX (t:Ae) (l:List Ar) (n:Nat):Bv (YN t l 0) n=Bv (Eh (BM t) l) n:=JR fun i _=>if_neg (by omega)
theorem YM (t:Ae) (l:List Ar):Bv (YN t l t.Aa.length) t.Aa.length=Bv (JC t l) t.Aa.length:=JR fun i hi=>if_pos hi
def SL (t:Ae) (l:List Ar) (o k m:Nat):Int:=if m<o then YJ t l m else if m=o then Dy (fun i=>A7 (atL t l o i)) k else 0
theorem WR (t:Ae) (l:List Ar):SL t l 0 0=fun _=>0:=funext fun m=>by
 unfold SL;rw[if_neg (by omega)];split<;>rfl
theorem QG (t:Ae) (l:List Ar) (o k:Nat):SL t l o k o=Dy (fun i=>A7 (atL t l o i)) k:=by unfold SL;rw[if_neg (by omega),if_pos rfl]
theorem WS (t:Ae) (l:List Ar) (o k:Nat):upd (SL t l o k) o (Dy (fun i=>A7 (atL t l o i)) k+A7 (atL t l o k))=SL t l o (k+1):=funext fun m=>by
 unfold upd
 by_cases c:m=o
 ·subst c;rw[if_pos rfl,QG];rfl
 ·rw[if_neg c];unfold SL
  by_cases c2:m<o
  ·rw[if_pos c2,if_pos c2]
  ·rw[if_neg c2,if_neg c2,if_neg c,if_neg c]
theorem YK (t:Ae) (l:List Ar) (o:Nat):SL t l o t.Af.length=SL t l (o+1) 0:=funext fun m=>by
 unfold SL
 by_cases c:m<o
 ·rw[if_pos c,if_pos (by omega)]
 ·by_cases c2:m=o
  ·subst c2;rw[if_neg c,if_pos rfl,if_pos (by omega)];rfl
  ·rw[if_neg c,if_neg c2,if_neg (by omega)];split<;>rfl
theorem YL (t:Ae) (l:List Ar):Bv (SL t l t.Aa.length 0) t.Aa.length=Bv (YJ t l) t.Aa.length:=JR fun i hi=>if_pos hi
theorem Y6 {w:World}{t:Ae}{sa pa ta na:Option Addr}{sc pc tc nc B:Nat}(hT:Bf w t ⟨sa,sc,pa,pc,ta,tc⟩) (hN:Ia w B (.slice na (BM t).Aa.length nc) (BM t).Aa):Bf w (BM t) ⟨sa,sc,na,nc,ta,tc⟩:=by
 obtain⟨a,c,e,h1,h2,h3⟩:=AU.cells hN (fun _=>rfl);simp only[Value.slice.injEq,true_and]at e;obtain⟨rfl,rfl⟩:=e;exact⟨hT.strips,Bl.Aa.1 h3,hT.Af,hT.ls,by rw[IW];exact hT.lp,hT.lt,h1,hT.qt⟩
theorem Va {t:Ae}{k:Nat}(hk:k<t.Aa.length):((t.Aa.take k).map fun p=>(⟨p.heads,0,false⟩:A8))++[⟨t.Aa[k].heads,0,false⟩]=(t.Aa.take (k+1)).map fun p=>⟨p.heads,0,false⟩:=by
 rw[List.take_succ_eq_append_getElem hk,List.map_append];rfl
theorem WT {w:World}{t:Ae}{l:List Ar}{g o k n:Nat}{ty:TypeId}(h:Rw w g (F7 (Bv (SL t l o k) n)) ty) (ho:o<n):w.cell? ⟨g,o,none⟩=some (.int .i64 (Dy (fun i=>A7 (atL t l o i)) k)):=by
 have:=Zm h ho
 rwa [QG]at this
theorem WP {t:Ae}{l:List Ar}(ho:Bc t l=0) {o:Nat}(hio:o<t.Aa.length) (k:Nat) (hk:k≤6):0≤Dy (fun i=>A7 (atL t l o i)) k∧Dy (fun i=>A7 (atL t l o i)) k≤1200000000000:=by
 have:=CV (f:=fun i=>A7 (atL t l o i)) (fun i=>by
  have:=(IZ ho).EJ hio i;unfold A7;omega) k
 omega
theorem AaB {w:World}{B g c n i:Nat}{f:Nat→Int}(h:Df w B (.slice (some ⟨g,0,none⟩) (Bv f n).length c) (Bv f n)) (hi:i<n):w.cell? ⟨g,i,none⟩=some (.int .i64 (f i)):=by
 have:=(Df.cell1 h (i:=i) (by rw[EG];exact hi)).1
 simpa[Bv] using this
end
section
open Go Go.Conc Go.RowKit
structure Ab8 (x:World) (g i:Nat) (t:Ae) (s:Dt):Prop where
 c0:x.cell? ⟨g,i*6,none⟩=some (.int .i64 t.roads.days)
 c1:x.cell? ⟨g,i*6+1,none⟩=some (.int .i64 t.roads.stages)
 c2:x.cell? ⟨g,i*6+2,none⟩=some (.slice s.sa t.roads.strips.length s.sc)
 c3:x.cell? ⟨g,i*6+3,none⟩=some (.int .i64 t.pace)
 c4:x.cell? ⟨g,i*6+4,none⟩=some (.slice s.pa t.Aa.length s.pc)
 c5:x.cell? ⟨g,i*6+5,none⟩=some (.slice s.ta t.Af.length s.tc)
structure Lj (t:Ae):Prop where
 h1:t.roads.strips.length≤20
 h2:t.Aa.length≤20
 h3:t.Af.length≤20
theorem Lj.of {t:Ae}(h:IC t=false):Lj t:=by
 unfold IC at h;simp only[Bool.or_eq_false_iff,decide_eq_false_iff_not]at h;exact⟨by omega,by omega,by omega⟩
theorem Lj.ok {ns nt:Nat}{t:Ae}(h:V7 ns nt t) (h8:ns≤8) (h6:nt≤6):Lj t:=⟨by have:=h.ls;omega,by have:=h.lp;omega,by have:=h.lt;omega⟩
section
variable {w:World}{t:Ae}{s:Dt}{l:List Ar}{la:Option Addr}{lc:Nat}
theorem Ack {M:Machine}(hT:Bf w t s) (hP:BV w la l) (hlm:l.length≤maxLen):Dz Try.prog M 46 #[.agg (CJ t s),.slice la l.length lc] w (Ll w (Aau t l)):=(YI hT hP hlm).mono fun _ _ h=>h.pair
theorem Abb {M:Machine}(hT:Bf w t s) (hP:BV w la l) (hlm:l.length≤maxLen):Dz Try.prog M 43 #[.agg (CJ t s),.slice la l.length lc] w (Ll w (Nl t l)):=(U3 hT hP hlm).mono fun _ _ h=>h.pair
theorem Z9 {va ga:Option Addr}{vc gc:Nat}{W:List Int}(h1:AX w va W) (h2:AX w ga W) (hn:W.length≤1000):Calls Try.prog 28 #[.slice va W.length vc,.slice ga W.length gc] w (fun e w'=>e=.returned (.bool true)∧Below w.heap.size w w'):=by
 refine(QJ h1 h2 (by omega)).mono ?_;rintro e w' ⟨rfl,hb⟩;exact⟨by simp,hb⟩
theorem Abc {ga:Option Addr}{gc:Nat}(h1:BV w la l) (h2:BV w ga l) (hn:l.length≤1000):Calls Try.prog 41 #[.slice la l.length lc,.slice ga l.length gc] w (fun e w'=>e=.returned (.bool true)∧Below w.heap.size w w'):=by
 refine(QI h1 h2 (by omega)).mono ?_;rintro e w' ⟨rfl,hb⟩;exact⟨by simp,hb⟩
end
theorem Yy {P:Program}{o:Oper}{a:Act}{w w':World}{K:Act→World→Prop}{Q:Exit→Act→World→Prop}(hr:(execOp a.eval o).run P w=.ok .skip w') (hd:o.dst=none) (hK:K (a.put none undef) w'):o.wp P a w K Q:=by
 unfold Oper.wp;rw[hr,Oper.upon_skip,hd];exact hK
theorem Y9 {w:World}{A:Option Addr}{l:List Ar}(h:BV w A l):Bl G8 3 w A l:=Bl.passes.2 h
theorem O9 {L:List Int}{err:Int}(h:L.length≤1000):(AaP L err).1.length≤1000:=by
 unfold AaP;split<;>simp[h]
theorem QW {t:Ae}(h:Lj t) (f:Nat→Int):(Bv f t.Aa.length).length≤1000:=by rw[EG];have:=h.h2;omega
end
section
open Go.RowKit
theorem YX:(fun r=>Try.f75.body=some (.seq (r 0) (.seq (r 1) (.seq (.seq (r 2) (.block 0 (.loop (.seq (.seq (r 3) (.cond (.tmp 13) .skip (.exit 0))) (.seq (.block 1 (r 5)) (r 4)))))) (.seq (r 6) .ret))))) (Ac Try.f75):=by show _=_;kernel_rfl
theorem QP {w:World}{t:Ae}{s:Dt}{l:List Ar}{la:Option Addr}{lc:Nat}(hT:Bf w t s) (hP:BV w la l) (ho:Hid (Bc t l=0)) {o:Nat}(hio:o<t.Aa.length):Calls Try.prog 75 #[.agg (CJ t s),.slice la l.length lc,.int .i64 (o:Int)] w (fun e w'=>e=.returned (.int .i64 (Hu t l o))∧Below w.heap.size w w'):=by
 obtain⟨sa,sc,pa,pc,ta,tc⟩:=s;have hB:=Below.refl w.heap.size w;have hl6:t.Af.length≤6:=by obtain⟨_,_,_,_,_,_,_,h6,_⟩:=AY (Ee ho.out);exact h6
 have HSB:=Lib.hid (NI ho.out hio);have HAB:=Lib.hid ((IZ ho.out).EJ hio);refine NU Try.func75 YX Try.ntmps75 ?_;intro a Z;refine wsr ?_;refine Z.s ?_;clear Z;intro a Z;refine aw ?_;obtain⟨b3,hg⟩:∃ b,b=w.heap.size:=⟨_,rfl⟩;intro x hz K3 hb2;rw[← hg]at Z K3;have hhB3:w.heap.size≤b3:=by rw[hg];exact hB.size
 replace hB:=hB.trans (hb2.mono hB.size);replace hT:=hT.below hb2;replace hP:=hP.below hb2;clear hz hg hb2;refine Z.e ?_;clear Z;intro a Z;refine wsr ?_;refine Z.e ?_;clear Z;intro a Z;refine wss ?_;refine Z.e ?_;clear Z;intro a Z;refine wp_block ?_;refine wp_loop_ghost (fun n p x=>∃ k:Nat,k+n=t.Af.length∧Sl p 24 [(8,.int .i64 (k:Int)),(1,.slice la l.length lc),(2,.int .i64 (o:Int)),(3,.pointer (some ⟨b3,0,none⟩)),(7,.int .i64 (Dy (atL t l o) k))]∧Below w.heap.size w x∧Bf x t ⟨sa,sc,pa,pc,ta,tc⟩∧BV x la l∧Rw x b3 (CJ t ⟨sa,sc,pa,pc,ta,tc⟩) 28) (t.Af.length) ⟨0,by omega,Z.sb,hB,hT,hP,K3⟩ ?_;clear Z hB hT hP K3;rintro n a x ⟨k,hkn,Z,hB,hT,hP,K3⟩;refine wss ?_;(iterate 2 refine Z.s ?_;clear Z;intro a Z);refine Z.rv rfl rfl rfl (by decide) (Aj rfl (Z.ev 10 rfl) Try.underlying26 rfl (K3.cell (o:=5) (v:=.slice ta t.Af.length tc) rfl)) ?_;clear Z;intro a Z;refine Z.s ?_;clear Z;intro a Z
 by_cases hlt:k<t.Af.length
 ·have q1:(k:Int)<(t.Af.length:Int):=by omega
  refine Z.e ?_;clear Z;intro a Z;refine Z.ct 13 ?_;refine wp_skip ?_;refine wp_seq ?_;refine wp_block ?_;have hsb:=HSB.out k (by omega);have hab:=HAB.out k;refine wr ?_;refine Z.s ?_;clear Z;intro a Z;refine Z.rv rfl rfl rfl (by decide) (CQ rfl (Z.ev 3 rfl) Try.underlying28 rfl (by kernel_rfl) K3) ?_;clear Z;intro a Z;(iterate 3 refine Z.s ?_;clear Z;intro a Z);refine oz fun K hK=>?_
  have e17:=Z.g 17;have e18:=Z.g 18;have e19:=Z.g 19;have e20:=Z.g 20;go_simp;refine(QT (s:=⟨sa,sc,pa,pc,ta,tc⟩) hT hP ho hio hlt).mono ?_;rintro e x ⟨rfl,hb2⟩;replace hB:=hB.trans (hb2.mono hB.size);replace hT:=hT.below hb2;replace hP:=hP.below hb2;replace K3:=K3.below hb2;clear hb2;refine Z.K hK ?_;clear Z hK;intro a Z;refine Z.f (IntWalk.i64_in ((Dy (atL t l o) k)+(atL t l o k)) (by omega)) ?_;clear Z;intro a Z;refine Z.e ?_;clear Z;intro a Z;refine wr ?_;refine Z.s ?_;clear Z;intro a Z;refine Z.f (IntWalk.i64_in ((k:Int)+1) (by omega)) ?_;clear Z;intro a Z;refine Z.e ?_;clear Z;intro a Z;have hnx:Dy (atL t l o) (k+1)=Dy (atL t l o) k+atL t l o k:=rfl;rw[← hnx]at Z;exact⟨n-1,by omega,k+1,by omega,Z.sb,hB,hT,hP,K3⟩
 ·have q1:¬ (k:Int)<(t.Af.length:Int):=by omega
  obtain rfl:k=t.Af.length:=by omega
  refine Z.e ?_;clear Z;intro a Z;refine Z.cf 13 ?_;refine wp_exit ?_;refine wsr ?_;(iterate 2 refine Z.s ?_;clear Z;intro a Z);refine od ?_;refine wp_ret ?_
  try simp only[xt]
  refine bodyPost_ret (v:=.int .i64 (Hu t l o)) ?_ Z.defers ⟨rfl,hB⟩;simp[results,Try.results75,Z.get 6 _ rfl,Hu]
theorem YZ:(fun r=>Try.f84.body=some (.seq (r 0) (.seq (r 1) (.seq (.seq (r 2) (.block 0 (.loop (.seq (.seq (r 3) (.cond (.tmp 11) .skip (.exit 0))) (.seq (.block 1 (r 5)) (r 4)))))) (.seq (r 6) .ret))))) (Ac Try.f84):=by show _=_;kernel_rfl
theorem OX {w:World}{t:Ae}{s:Dt}{l:List Ar}{la:Option Addr}{lc:Nat}(hT:Bf w t s) (hP:BV w la l) (ho:Hid (Bc t l=0)):Calls Try.prog 84 #[.agg (CJ t s),.slice la l.length lc] w (Aa1 w (Bv (Eh t l) t.Aa.length)):=by
 obtain⟨sa,sc,pa,pc,ta,tc⟩:=s;have hB:=Below.refl w.heap.size w;have hl4:t.Aa.length≤4:=by obtain⟨_,_,_,_,h4,_⟩:=AY (Ee ho.out);exact h4
 have hl6:t.Af.length≤6:=by obtain⟨_,_,_,_,_,_,_,h6,_⟩:=AY (Ee ho.out);exact h6
 refine I7 Try.func84 YZ Try.ntmps84 ?_;intro a Z;refine wsr ?_;refine Z.s ?_;clear Z;intro a Z;refine aw ?_;obtain⟨b2,hg⟩:∃ b,b=w.heap.size:=⟨_,rfl⟩;intro x hz K2 hb2;rw[← hg]at Z K2;have hhB2:w.heap.size≤b2:=by rw[hg];exact hB.size
 replace hB:=hB.trans (hb2.mono hB.size);replace hT:=hT.below hb2;replace hP:=hP.below hb2;clear hz hg hb2;refine Z.e ?_;clear Z;intro a Z;refine wsr ?_;refine Z.e ?_;clear Z;intro a Z;refine wss ?_;refine Z.e ?_;clear Z;intro a Z;refine wp_block ?_;obtain⟨x1,hx0⟩:∃ q,q=x:=⟨_,rfl⟩;rw[← hx0]at hB hT hP K2 ⊢;clear hx0;have K20:Rw x1 b2 (CJ t ⟨sa,sc,pa,pc,ta,tc⟩) 28:=K2;have hT0:Bf x1 t ⟨sa,sc,pa,pc,ta,tc⟩:=hT;have hP0:BV x1 la l:=hP;clear hT;clear hP;clear K2;have hB1:=Below.refl x1.heap.size x1;have hN:Df x1 x1.heap.size (.slice none ([]:List Int).length 0) []:=AU.nil;have HDS:Hid (([]:List Int)=Bv (Eh t l) 0):=Lib.hid rfl;refine wp_loop_ghost (fun n p x=>∃ (k:Nat) (ds:List Int) (na:Option Addr) (nc:Nat),k+n=t.Aa.length∧Hid (ds=Bv (Eh t l) k)∧ds.length≤k∧Sl p 23 [(6,.int .i64 (k:Int)),(5,.slice na ds.length nc),(1,.slice la l.length lc),(2,.pointer (some ⟨b2,0,none⟩))]∧Below x1.heap.size x1 x∧Df x x1.heap.size (.slice na ds.length nc) ds) t.Aa.length ⟨0,[],none,0,by omega,HDS,by simp,Z.sb,hB1,hN⟩ ?_;clear Z hB1 hN HDS;rintro n a x ⟨k,ds,na,nc,hkn,HDS,hdl,Z,hB1,hN⟩;have K2:=K20.below hB1;have hT:=hT0.below hB1;have hP:=hP0.below hB1;refine wss ?_
 (iterate 2 refine Z.s ?_;clear Z;intro a Z);refine Z.rv rfl rfl rfl (by decide) (Aj rfl (Z.ev 8 rfl) Try.underlying25 rfl (K2.cell (o:=4) (v:=.slice pa t.Aa.length pc) rfl)) ?_;clear Z;intro a Z;refine Z.s ?_;clear Z;intro a Z
 by_cases hlt:k<t.Aa.length
 ·have q1:(k:Int)<(t.Aa.length:Int):=by omega
  refine Z.e ?_;clear Z;intro a Z;refine Z.ct 11 ?_;refine wp_skip ?_;refine wp_seq ?_;refine wp_block ?_;have hex:0≤Hu t l k∧Hu t l k≤1200000000000:=NI ho.out hlt _ hl6;refine wr ?_;refine Z.s ?_;clear Z;intro a Z;refine Z.rv rfl rfl rfl (by decide) (CQ rfl (Z.ev 2 rfl) Try.underlying28 rfl (by kernel_rfl) K2) ?_;clear Z;intro a Z;(iterate 2 refine Z.s ?_;clear Z;intro a Z);refine oz fun K hK=>?_
  have e15:=Z.g 15;have e16:=Z.g 16;have e17:=Z.g 17;go_simp;refine(QP hT hP ho hlt).mono ?_;rintro e x ⟨rfl,hb2⟩;replace hB1:=hB1.trans (hb2.mono hB1.size);replace hN:=hN.below hb2;replace K2:=K2.below hb2;replace hT:=hT.below hb2;replace hP:=hP.below hb2;clear hb2;refine Z.K hK ?_;clear Z hK;intro a Z;refine oz fun K hK=>?_
  have e18:=Z.g 18;go_simp;refine(QN (p:=Hu t l k) (by omega) (by omega)).mono ?_;rintro e x2 ⟨rfl,hxe⟩;subst hxe
  skip
  refine Z.K hK ?_;clear Z hK;intro a Z
  skip
  refine Z.s ?_;clear Z;intro a Z;refine aw ?_;obtain⟨b20,hg⟩:∃ b,b=x.heap.size:=⟨_,rfl⟩;intro x hz K20 hb2;rw[← hg]at Z K20;have hhB120:x1.heap.size≤b20:=by rw[hg];exact hB1.size
  have h2_20:b2<b20:=by rw[hg];exact K2.lt
  replace hB1:=hB1.trans (hb2.mono hB1.size);replace hN:=hN.below hb2;replace K2:=K2.below hb2;replace hT:=hT.below hb2;replace hP:=hP.below hb2;clear hz hg hb2;refine og fun K hK=>?_
  have e14:=Z.g 14;have e20:=Z.g 20;refine J4 (k:=1) (A:=some ⟨b20,0,none⟩) (c:=1) (ys:=[Eh t l k]) 29 (.tmp 14) (.tmp 20) Try.underlying29 (z:=.int .i64 0) (bytes:=8) (by kernel_rfl) rfl (by decide) (by decide) rfl (by simp[Act.eval,Array.getD_eq_getD_getElem?,e14]) hN (by simp[Act.eval,Array.getD_eq_getD_getElem?,e20]) (Abg (f:=fun x:Int=>[Value.int .i64 x]) K20 (by rfl)) (fun _=>rfl) (XG _) (by simp;omega) (hB1.size) ?_;intro v_ xx hN2 hG _ _;replace hB1:=hB1.grown hG hB1.size (fun k_ hk_=>(hN.Ak hk_).1);obtain⟨na2,nc2,rfl,_,_,_⟩:=hN2.cells (fun _=>rfl);clear hG hN K2 hT hP K20;have hN:=hN2;clear hN2;obtain⟨x,hx2⟩:∃ x,x=xx:=⟨_,rfl⟩;rw[← hx2]at hB1 hN ⊢;clear hx2;have K2:=K20.below hB1;have hT:=hT0.below hB1;have hP:=hP0.below hB1;refine Z.K hK ?_;clear Z hK;intro a Z;refine Z.e ?_;clear Z;intro a Z;refine wr ?_;refine Z.s ?_;clear Z;intro a Z;refine Z.f (IntWalk.i64_in ((k:Int)+1) (by omega)) ?_;clear Z;intro a Z;refine Z.e ?_;clear Z;intro a Z;have HD2:Hid (ds++[Eh t l k]=Bv (Eh t l) (k+1)):=Lib.hid (by rw[Vt,HDS.out]);exact⟨n-1,by omega,k+1,_,na2,nc2,by omega,HD2,by simp only[List.length_append,List.length_cons,List.length_nil];omega,Z.sb,hB1,hN⟩
 ·have q1:¬ (k:Int)<(t.Aa.length:Int):=by omega
  obtain rfl:k=t.Aa.length:=by omega
  refine Z.e ?_;clear Z;intro a Z;refine Z.cf 11 ?_;refine wp_exit ?_;refine wsr ?_;(iterate 2 refine Z.s ?_;clear Z;intro a Z);refine od ?_;refine wp_ret ?_
  try simp only[xt]
  rw[← HDS.out];exact Z.rt (v:=.slice na ds.length nc) 4 ⟨na,nc,rfl,AU.lower hN hB.size,hB.trans (hB1.mono hB.size)⟩
theorem YV:(fun r=>Try.f97.body=some (.seq (r 0) (.seq (r 1) (.seq (.seq (r 2) (.block 0 (.loop (.seq (.seq (r 3) (.cond (.tmp 9) .skip (.exit 0))) (.seq (.block 1 (r 5)) (r 4)))))) (.seq (r 6) (.seq (r 7) .ret)))))) (Ac Try.f97):=by show _=_;kernel_rfl
theorem QO {w:World}{t:Ae}{s:Dt}(hT:Bf w t s) (h4:t.Aa.length≤1000):Calls Try.prog 97 #[.agg (CJ t s)] w (fun e w'=>∃ s',e=.returned (.agg (CJ (BM t) s'))∧Bf w' (BM t) s'∧Below w.heap.size w w'):=by
 obtain⟨sa,sc,pa,pc,ta,tc⟩:=s;have hB:=Below.refl w.heap.size w;have hT00:=hT;refine MW Try.func97 YV Try.ntmps97 ?_;intro a Z;refine wsr ?_;refine Z.s ?_;clear Z;intro a Z;refine aw ?_;obtain⟨b1,hg⟩:∃ b,b=w.heap.size:=⟨_,rfl⟩;intro x hz K1 hb2;rw[← hg]at Z K1;have hhB1:w.heap.size≤b1:=by rw[hg];exact hB.size
 replace hB:=hB.trans (hb2.mono hB.size);replace hT:=hT.below hb2;clear hz hg hb2;refine Z.s ?_;clear Z;intro a Z;refine aw ?_;obtain⟨b2,hg⟩:∃ b,b=x.heap.size:=⟨_,rfl⟩;intro x hz K2 hb2;rw[← hg]at Z K2;have hhB2:w.heap.size≤b2:=by rw[hg];exact hB.size
 have h1_2:b1<b2:=by rw[hg];exact K1.lt
 replace hB:=hB.trans (hb2.mono hB.size);replace hT:=hT.below hb2;replace K1:=K1.below hb2;clear hz hg hb2;refine od ?_;refine wsr ?_;refine Z.e ?_;clear Z;intro a Z;refine wss ?_;refine Z.e ?_;clear Z;intro a Z;refine wp_block ?_;have hx1:b1<x.heap.size:=K1.lt;have hx2:b2<x.heap.size:=K2.lt;obtain⟨x1,hx0⟩:∃ q,q=x:=⟨_,rfl⟩;rw[← hx0]at hB hT K1 K2 ⊢;clear hx0;have K10:Rw x1 b1 (CJ t ⟨sa,sc,pa,pc,ta,tc⟩) 28:=K1;have K20:Rw x1 b2 #[.int .i64 0,.int .i64 0,.slice none 0 0,.int .i64 0,.slice none 0 0,.slice none 0 0] 28:=K2;have hT0:Bf x1 t ⟨sa,sc,pa,pc,ta,tc⟩:=hT;clear hT;clear K1;clear K2;have hB1:=Below.refl x1.heap.size x1;replace hx1:b1<x1.heap.size:=K10.lt;replace hx2:b2<x1.heap.size:=K20.lt;have hN:Ia x1 x1.heap.size (.slice none ([]:List A8).length 0) []:=AU.nil;have HUS:Hid (([]:List A8)=(t.Aa.take 0).map fun p=>⟨p.heads,0,false⟩):=Lib.hid rfl
 refine wp_loop_ghost (fun n p x=>∃ (k:Nat) (us:List A8) (na:Option Addr) (nc:Nat),k+n=t.Aa.length∧Hid (us=(t.Aa.take k).map fun p=>⟨p.heads,0,false⟩)∧us.length≤k∧Sl p 25 [(4,.int .i64 (k:Int)),(3,.slice na us.length nc),(1,.pointer (some ⟨b1,0,none⟩)),(2,.pointer (some ⟨b2,0,none⟩))]∧Below x1.heap.size x1 x∧Ia x x1.heap.size (.slice na us.length nc) us) t.Aa.length ⟨0,[],none,0,by omega,HUS,by simp,Z.sb,hB1,hN⟩ ?_;clear Z hB1 hN HUS;rintro n a x ⟨k,us,na,nc,hkn,HUS,hul,Z,hB1,hN⟩;have K1:=K10.below hB1;have K2:=K20.below hB1;have hT:=hT0.below hB1;refine wss ?_;(iterate 2 refine Z.s ?_;clear Z;intro a Z);refine Z.rv rfl rfl rfl (by decide) (Aj rfl (Z.ev 6 rfl) Try.underlying25 rfl (K1.cell (o:=4) (v:=.slice pa t.Aa.length pc) rfl)) ?_;clear Z;intro a Z;refine Z.s ?_;clear Z;intro a Z
 by_cases hlt:k<t.Aa.length
 ·have q1:(k:Int)<(t.Aa.length:Int):=by omega
  refine Z.e ?_;clear Z;intro a Z;refine Z.ct 9 ?_;refine wp_skip ?_;refine wp_seq ?_;refine wp_block ?_;obtain⟨pb,po,hpa,y0,_,_⟩:=hT.Aa.at hlt;replace hpa:pa=some ⟨pb,po,none⟩:=hpa;subst hpa;simp only[Xj]at y0;have qk:(k:Int)<(t.Aa.length:Int):=by omega
  replace K1:Rw x b1 #[.int .i64 t.roads.days,.int .i64 t.roads.stages,.slice sa t.roads.strips.length sc,.int .i64 t.pace,.slice (some ⟨pb,po,none⟩) t.Aa.length pc,.slice ta t.Af.length tc] 28:=K1;refine wr ?_;(iterate 2 refine Z.s ?_;clear Z;intro a Z);refine Z.rv rfl rfl rfl (by decide) (Aj rfl (Z.ev 13 rfl) Try.underlying25 rfl (K1.cell (o:=4) (v:=.slice (some ⟨pb,po,none⟩) t.Aa.length pc) rfl)) ?_;clear Z;intro a Z;(iterate 3 refine Z.s ?_;clear Z;intro a Z);refine Z.rv rfl rfl rfl (by decide) (Aj rfl (Z.ev 17 rfl) Try.underlying3 rfl (y0)) ?_;clear Z;intro a Z;(iterate 2 refine Z.s ?_;clear Z;intro a Z);refine aw ?_;obtain⟨b20,hg⟩:∃ b,b=x.heap.size:=⟨_,rfl⟩;intro x hz K20 hb2;rw[← hg]at Z K20;have hhB120:x1.heap.size≤b20:=by rw[hg];exact hB1.size
  have h1_20:b1<b20:=by rw[hg];exact K1.lt
  have h2_20:b2<b20:=by rw[hg];exact K2.lt
  replace hB1:=hB1.trans (hb2.mono hB1.size);replace hN:=hN.below hb2;replace K1:=K1.below hb2;replace K2:=K2.below hb2;replace hT:=hT.below hb2;replace y0:=Ad hb2 y0;clear hz hg hb2;refine og fun K hK=>?_
  have e12:=Z.g 12;have e20:=Z.g 20;clear y0;refine J4 (k:=3) (A:=some ⟨b20,0,none⟩) (c:=1) (ys:=[(⟨t.Aa[k].heads,0,false⟩:A8)]) 25 (.tmp 12) (.tmp 20) Try.underlying25 (z:=.agg #[.int .i64 0,.int .i64 0,.bool false]) (bytes:=24) (by kernel_rfl) rfl (by decide) (by decide) rfl (by simp[Act.eval,Array.getD_eq_getD_getElem?,e12]) hN (by simp[Act.eval,Array.getD_eq_getD_getElem?,e20]) (Abg (f:=Nu) K20 (by rfl)) (fun _=>rfl) (IX _) (by simp;omega) (hB1.size) ?_;intro v_ xx hN2 hG _ _;replace hB1:=hB1.grown hG hB1.size (fun k_ hk_=>(hN.Ak hk_).1);obtain⟨na2,nc2,rfl,_,_,_⟩:=hN2.cells (fun _=>rfl);clear hG hN K1 K2 hT K20;have hN:=hN2;clear hN2;obtain⟨x,hx2⟩:∃ x,x=xx:=⟨_,rfl⟩;rw[← hx2]at hB1 hN ⊢;clear hx2;have K1:=K10.below hB1;have K2:=K20.below hB1;have hT:=hT0.below hB1;refine Z.K hK ?_;clear Z hK;intro a Z;refine Z.e ?_;clear Z;intro a Z;refine wr ?_;refine Z.s ?_;clear Z;intro a Z;refine Z.f (IntWalk.i64_in ((k:Int)+1) (by omega)) ?_;clear Z;intro a Z;refine Z.e ?_;clear Z;intro a Z;have HU2:=Lib.hid (show us++[(⟨t.Aa[k].heads,0,false⟩:A8)]=(t.Aa.take (k+1)).map (fun p=>⟨p.heads,0,false⟩) by rw[HUS.out];exact Va hlt);exact⟨n-1,by omega,k+1,_,na2,nc2,by omega,HU2,by simp only[List.length_append,List.length_cons,List.length_nil];omega,Z.sb,hB1,hN⟩
 ·have q1:¬ (k:Int)<(t.Aa.length:Int):=by omega
  obtain rfl:k=t.Aa.length:=by omega
  refine Z.e ?_;clear Z;intro a Z;refine Z.cf 9 ?_;refine wp_exit ?_;have hus:us=(BM t).Aa:=by rw[HUS.out,List.take_length];rfl
  subst hus;clear HUS hT;have hBn:=hB.trans (hB1.mono hB.size);clear hB1 hB;have hB:=hBn;clear hBn;refine wsr ?_;(iterate 2 refine Z.s ?_;clear Z;intro a Z);refine Z.rs rfl rfl rfl (Cj (v:=.slice na (BM t).Aa.length nc) rfl (Z.ev 23 rfl) (Z.ev 22 rfl) (by kernel_rfl) rfl rfl (K1.cell (o:=4) (v:=.slice pa t.Aa.length pc) rfl) (K1.fz 4)) ?_;replace hB:=hB.setCell (p:=⟨b1,4,none⟩) (by show _≤b1;omega) (.slice na (BM t).Aa.length nc);replace K1:Rw _ b1 #[.int .i64 t.roads.days,.int .i64 t.roads.stages,.slice sa t.roads.strips.length sc,.int .i64 t.pace,.slice na (BM t).Aa.length nc,.slice ta t.Af.length tc] 28:=K1.set 4 (.slice na (BM t).Aa.length nc);replace K2:=K2.far (g:=b1) (by omega) 4 (.slice na (BM t).Aa.length nc);replace hN:=AU.far hN (g:=b1) (by omega) 4 (.slice na (BM t).Aa.length nc);obtain⟨x,hx2⟩:∃ q,q=x.setCell ⟨b1,4,none⟩ (.slice na (BM t).Aa.length nc):=⟨_,rfl⟩;rw[← hx2]at hB K1 K2 hN ⊢;clear hx2;refine od ?_;refine wsr ?_;refine Z.rv rfl rfl rfl (by decide) (CQ rfl (Z.ev 1 rfl) Try.underlying28 rfl (by kernel_rfl) K1) ?_;clear Z;intro a Z;refine Z.rs rfl rfl rfl (Eu rfl (Z.ev 2 rfl) (Z.ev 24 rfl) (by kernel_rfl) K2 rfl rfl) ?_
  have hG:=Bh K2 #[.int .i64 t.roads.days,.int .i64 t.roads.stages,.slice sa t.roads.strips.length sc,.int .i64 t.pace,.slice na (BM t).Aa.length nc,.slice ta t.Af.length tc];have K_:=K2.setRow #[.int .i64 t.roads.days,.int .i64 t.roads.stages,.slice sa t.roads.strips.length sc,.int .i64 t.pace,.slice na (BM t).Aa.length nc,.slice ta t.Af.length tc];replace hB:=ET hB hG (by omega);replace K1:=K1.grown hG (by simp;omega);replace hN:=hN.grown hG (AU.Hm hN (by omega));have K2:=K_;clear hG K_;obtain⟨x,hx2⟩:∃ q,q=x.setRow b2 #[.int .i64 t.roads.days,.int .i64 t.roads.stages,.slice sa t.roads.strips.length sc,.int .i64 t.pace,.slice na (BM t).Aa.length nc,.slice ta t.Af.length tc]:=⟨_,rfl⟩;rw[← hx2]at hB K1 K2 hN ⊢;clear hx2;refine od ?_;refine wp_ret ?_
  try simp only[xt]
  have hIn:=Y6 (hT00.below hB) hN;have c0:=K2.cell (o:=0) rfl;have c1:=K2.cell (o:=1) rfl;have c2:=K2.cell (o:=2) rfl;have c3:=K2.cell (o:=3) rfl;have c4:=K2.cell (o:=4) rfl;have c5:=K2.cell (o:=5) rfl;refine bodyPost_ret (v:=.agg (CJ (BM t) ⟨sa,sc,na,nc,ta,tc⟩)) ?_ Z.defers ⟨_,rfl,hIn,hB⟩;simp[results,Try.results97,Z.get 2 _ rfl,go_sem,c0,c1,c2,c3,c4,c5,CJ,BM]
theorem YT:(fun r=>Try.f52.body=some (.seq (r 0) (.seq (.seq (r 1) (.seq (r 2) (.cond (.tmp 14) (.seq (r 3) .ret) .skip))) (.seq (r 4) (.seq (.seq (r 5) (.block 0 (.loop (.seq (.seq (r 6) (.cond (.tmp 26) .skip (.exit 0))) (.seq (.block 1 (r 8)) (r 7)))))) (.seq (r 9) .ret)))))) (Ac Try.f52):=by show _=_;kernel_rfl
theorem QR {w:World}{t:Ae}{s:Dt}{l:List Ar}{la:Option Addr}{lc:Nat}(hT:Bf w t s) (hP:BV w la l) (hlm:l.length≤maxLen):Calls Try.prog 52 #[.agg (CJ t s),.slice la l.length lc] w (Ll w (Nl t l)):=by
 obtain⟨sa,sc,pa,pc,ta,tc⟩:=s;have hB:=Below.refl w.heap.size w
 refine I7 Try.func52 YT Try.ntmps52 ?_;intro a Z;refine wsr ?_;refine Z.s ?_;clear Z;intro a Z;refine aw ?_;obtain⟨b2,hg⟩:∃ b,b=w.heap.size:=⟨_,rfl⟩;intro x hz K2 hb2;rw[← hg]at Z K2;have hhB2:w.heap.size≤b2:=by rw[hg];exact hB.size
 replace hB:=hB.trans (hb2.mono hB.size);replace hT:=hT.below hb2;replace hP:=hP.below hb2;clear hz hg hb2;(iterate 2 refine Z.s ?_;clear Z;intro a Z);refine od ?_;refine wss ?_;refine Z.rv rfl rfl rfl (by decide) (CQ rfl (Z.ev 2 rfl) Try.underlying28 rfl (by kernel_rfl) K2) ?_;clear Z;intro a Z;refine Z.s ?_;clear Z;intro a Z;refine oz fun K hK=>?_
 have e10:=Z.g 10;have e11:=Z.g 11;go_simp;refine(Kr hT hP hlm).mono ?_;rintro e x ⟨rfl,hb2⟩;replace hB:=hB.trans (hb2.mono hB.size);replace hT:=hT.below hb2;replace hP:=hP.below hb2;replace K2:=K2.below hb2;clear hb2;refine Z.K hK ?_;clear Z hK;intro a Z;refine Z.e ?_;clear Z;intro a Z;refine wsr ?_;refine Z.s ?_;clear Z;intro a Z
 by_cases hop:Bc t l=0
 ·have qo:(Bc t l != 0)=false:=BO hop;have HO:=Lib.hid hop;clear hop;refine Z.e ?_;clear Z;intro a Z;refine Z.cs 14 ?_;refine wp_seq ?_;have HOP:Hid (Bc (BM t) l=0):=Lib.hid (Vb HO.out);have hl4:t.Aa.length≤4:=(AY (Ee HO.out)).2.2.2.2.1;have hb2:Below x.heap.size x x.drew:=(Below.refl _ _).drew;replace hB:=hB.trans (hb2.mono hB.size);replace hT:=hT.below hb2;replace hP:=hP.below hb2;replace K2:=K2.below hb2;refine IP [[],[0],[],[0,1,2],[],[],[0,1,2,3,4,5],[0,1,2,3,4,5,6],[0,1,2,3,4,5,6,7]] (fun i=>[1,3,6].contains i) (fun y=>Rw y b2 (CJ t ⟨sa,sc,pa,pc,ta,tc⟩) 28) rfl (by kernel_rfl) (by kernel_rfl) K2 ?_;clear hb2;obtain⟨x,hx2⟩:∃ q,q=x.drew:=⟨_,rfl⟩;rw[← hx2]at hB hT hP K2 ⊢;clear hx2;refine Z.mr rfl rfl rfl rfl (by decide) ⟨?_,fun y hy K hK=>?_,?_⟩;rotate_left
  ·have e2:=Z.g 2;have K2:=hy;refine Cm (CQ rfl (Z.ev 2 rfl) Try.underlying28 rfl (by kernel_rfl) K2) ?_;exact hK
  clear Z;intro a Z;refine Z.me rfl rfl rfl rfl (by decide) (fun K hK=>?_);have e16:=Z.g 16;unfold BJ;go_simp;refine(QO hT (by have:=(AY (Ee HO.out)).2.2.2.2.1;omega)).mono ?_;rintro e x ⟨s',rfl,hTp,hb2⟩;replace hB:=hB.trans (hb2.mono hB.size);replace hT:=hT.below hb2;replace hP:=hP.below hb2;replace K2:=K2.below hb2;clear hb2;refine⟨_,rfl,?_⟩;clear e16;refine hK _ _ K2 ?_;clear Z hK;intro a Z;refine Z.mmv rfl rfl rfl (.inl rfl) rfl (by decide) rfl ?_;clear Z;intro a Z;refine Z.me rfl rfl rfl rfl (by decide) (fun K hK=>?_);have e17:=Z.g 17;have e18:=Z.g 18;have hBs:=hB.size;unfold BJ;go_simp;refine(OX hTp hP HOP).mono ?_;rintro e x ⟨aa,ac,rfl,hA,hb2⟩;replace hB:=hB.trans (hb2.mono hB.size);replace hT:=hT.below hb2;replace hP:=hP.below hb2;replace K2:=K2.below hb2;replace hTp:=hTp.below hb2;clear hb2;rw[IW]at hA ⊢;replace hA:=AU.lower hA hBs;clear hBs;refine⟨_,rfl,?_⟩;clear e17 e18;refine hK _ _ K2 ?_;clear Z hK;intro a Z;refine Z.mr rfl rfl rfl rfl (by decide) ⟨?_,fun y hy K hK=>?_,?_⟩;rotate_left
  ·have e2:=Z.g 2;have K2:=hy;refine Cm (CQ rfl (Z.ev 2 rfl) Try.underlying28 rfl (by kernel_rfl) K2) ?_;exact hK
  clear Z;intro a Z;refine Z.mmv rfl rfl rfl (.inl rfl) rfl (by decide) rfl ?_;clear Z;intro a Z;refine Z.me rfl rfl rfl rfl (by decide) (fun K hK=>?_);have e20:=Z.g 20;have e21:=Z.g 21;have hBs:=hB.size;have hub:=fun g (h:(Value.slice aa (Bv (Eh (BM t) l) t.Aa.length).length ac).ownBlock=some g)=>(AU.Ak hA h).2
  unfold BJ;go_simp;refine(OX hT hP HO).mono ?_;rintro e x ⟨da,dc,rfl,hD,hb2⟩;replace hB:=hB.trans (hb2.mono hB.size);replace hT:=hT.below hb2;replace hP:=hP.below hb2;replace K2:=K2.below hb2;replace hTp:=hTp.below hb2;replace hA:=hA.below hb2;clear hb2;have hne:Hid (∀ g,(Value.slice aa (Bv (Eh (BM t) l) t.Aa.length).length ac).ownBlock=some g→(Value.slice da (Bv (Eh t l) t.Aa.length).length dc).ownBlock≠some g):=Lib.hid fun g h1 h2=>by have:=hub g h1;have:=(AU.Ak hD h2).1;omega
  replace hD:=AU.lower hD hBs;clear hBs hub;refine⟨_,rfl,?_⟩;clear e20 e21;refine hK _ _ K2 ?_;clear Z hK;intro a Z;refine Z.mmv rfl rfl rfl (.inr rfl) rfl (by decide) rfl ?_;clear Z;intro a Z;refine Z.mmv rfl rfl rfl (.inr rfl) rfl (by decide) rfl ?_;clear Z;intro a Z;refine MH ?_;refine wss ?_;refine Z.e ?_;clear Z;intro a Z;refine wp_block ?_;obtain⟨D,hDe⟩:∃ q,q=(Bv (Eh (BM t) l) t.Aa.length):=⟨_,rfl⟩;rw[← hDe]at Z hA hne;have HDV:Hid (D=Bv (YN t l 0) t.Aa.length):=Lib.hid (by rw[WX];exact hDe);have HDL:Hid (D.length=t.Aa.length):=Lib.hid (by rw[hDe,EG]);clear hDe hTp K2 hT hP;refine wp_loop_ghost (fun n p x=>∃ (k:Nat) (D:List Int) (aa da:Option Addr),k+n=t.Aa.length∧Hid (D=Bv (YN t l k) t.Aa.length)∧Hid (D.length=t.Aa.length)∧Hid (∀ g,(Value.slice aa D.length ac).ownBlock=some g→(Value.slice da (Bv (Eh t l) t.Aa.length).length dc).ownBlock≠some g)∧Sl p 42 [(9,.int .i64 (k:Int)),(7,.slice aa D.length ac),(8,.slice da (Bv (Eh t l) t.Aa.length).length dc)]∧Below w.heap.size w x∧Df x w.heap.size (.slice aa D.length ac) D∧Df x w.heap.size (.slice da (Bv (Eh t l) t.Aa.length).length dc) (Bv (Eh t l) t.Aa.length)) t.Aa.length ⟨0,D,aa,da,by omega,HDV,HDL,hne,Z.sb,hB,hA,hD⟩ ?_
  clear Z hB hA hD HDV HDL hne
  skip
  rintro n a x ⟨k,D,aa,da,hkn,HDV,HDL,hne,Z,hB,hA,hD⟩;refine wss ?_;(iterate 3 refine Z.s ?_;clear Z;intro a Z)
  by_cases hlt:k<t.Aa.length
  ·have q1:(k:Int)<(D.length:Int):=by have:=HDL.out;omega
   refine Z.e ?_;clear Z;intro a Z;refine Z.ct 26 ?_;refine wp_skip ?_;refine wp_seq ?_;refine wp_block ?_;have hDL:=HDL.out;have hkD:k<D.length:=by omega
   obtain⟨ga,rfl,hga0,hga1⟩:=Df.Aa9 hA (by omega);obtain⟨gd,rfl,_,_⟩:=Df.Aa9 hD (by rw[EG];omega);have hkv:D[k]=Eh (BM t) l k:=by have e:=HDV.out;subst e;simp[Bv,Aaw]
   have hb1:=Rl HOP.out k (by rw[IW];exact hlt);have hb2:=Rl HO.out k hlt;have qk:(k:Int)<(D.length:Int):=by omega
   have qk2:(k:Int)<((Bv (Eh t l) t.Aa.length).length:Int):=by rw[EG];omega
   have HKV:=Lib.hid hkv;rw[← hkv]at hb1;clear hkv hDL;have hb2:Below x.heap.size x x.drew:=(Below.refl _ _).drew;replace hB:=hB.trans (hb2.mono hB.size);replace hA:=hA.below hb2;replace hD:=hD.below hb2;refine IP [[],[],[],[],[2,3],[2,3,4],[],[],[6,7],[6,7,8],[2,3,4,5,6,7,8,9],[0,1,2,3,4,5,6,7,8,9,10],[0,1,2,3,4,5,6,7,8,9,10,11]] (fun i=>[12].contains i) (fun y=>Df y w.heap.size (.slice (some ⟨ga,0,none⟩) D.length ac) D∧Df y w.heap.size (.slice (some ⟨gd,0,none⟩) (Bv (Eh t l) t.Aa.length).length dc) (Bv (Eh t l) t.Aa.length)) rfl (by kernel_rfl) (by kernel_rfl) ⟨hA,hD⟩ ?_;clear hb2;obtain⟨x,hx2⟩:∃ q,q=x.drew:=⟨_,rfl⟩;rw[← hx2]at hB hA hD ⊢;clear hx2;refine Z.mmv rfl rfl rfl (.inl rfl) rfl (by decide) rfl ?_;clear Z;intro a Z;refine Z.mmv rfl rfl rfl (.inl rfl) rfl (by decide) rfl ?_;clear Z;intro a Z;refine Z.mmv rfl rfl rfl (.inl rfl) rfl (by decide) rfl ?_;clear Z;intro a Z;refine Z.mmv rfl rfl rfl (.inl rfl) rfl (by decide) rfl ?_;clear Z;intro a Z;refine Z.mr rfl rfl rfl rfl (by decide) ⟨?_,fun y hy K hK=>?_,?_⟩;rotate_left
   ·have e31:=Z.g 31;have e32:=Z.g 32;unfold CO;go_simp;exact hK
   clear Z;intro a Z;refine Z.mr rfl rfl rfl rfl (by decide) ⟨?_,fun y hy K hK=>?_,?_⟩;rotate_left
   ·have e33:=Z.g 33;obtain⟨hA,hD⟩:=hy;refine Cm (Aj rfl (Z.ev 33 rfl) Try.underlying3 rfl ((Df.cell1 hA hkD).1)) ?_;exact hK
   clear Z;intro a Z;refine Z.mmv rfl rfl rfl (.inl rfl) rfl (by decide) rfl ?_;clear Z;intro a Z;refine Z.mmv rfl rfl rfl (.inl rfl) rfl (by decide) rfl ?_;clear Z;intro a Z;refine Z.mr rfl rfl rfl rfl (by decide) ⟨?_,fun y hy K hK=>?_,?_⟩;rotate_left
   ·have e35:=Z.g 35;have e36:=Z.g 36;unfold CO;go_simp;exact hK
   clear Z;intro a Z;refine Z.mr rfl rfl rfl rfl (by decide) ⟨?_,fun y hy K hK=>?_,?_⟩;rotate_left
   ·have e37:=Z.g 37;obtain⟨hA,hD⟩:=hy;refine Cm (Aj rfl (Z.ev 37 rfl) Try.underlying3 rfl (AaB hD hlt)) ?_;exact hK
   clear Z;intro a Z;refine Z.mr rfl rfl rfl rfl (by decide) ⟨?_,fun y hy K hK=>?_,?_⟩;rotate_left
   ·have e34:=Z.g 34;have e38:=Z.g 38;have hw39:=IntWalk.i64_in (D[k]-(Eh t l k)) (by omega);unfold CO;go_simp;exact hK
   clear Z;intro a Z;refine Z.mr rfl rfl rfl rfl (by decide) ⟨?_,fun y hy K hK=>?_,?_⟩;rotate_left
   ·have e29:=Z.g 29;have e30:=Z.g 30;unfold CO;go_simp;exact hK
   clear Z;intro a Z;refine Z.ml rfl rfl (by kernel_rfl) rfl rfl (fun K hK=>?_);have e39:=Z.g 39;have e40:=Z.g 40;have hcf:=Df.cell1 hA hkD;refine Jp (Cj (v:=.int .i64 (D[k]-Eh t l k)) rfl (Z.ev 40 rfl) (Z.ev 39 rfl) (by kernel_rfl) rfl rfl hcf.1 hcf.2) ?_;clear hcf;replace hB:=hB.setCell (p:=⟨ga,k,none⟩) hga0 (.int .i64 (D[k]-Eh t l k));replace hD:=AU.XN hD (hne.out ga rfl) k (.int .i64 (D[k]-Eh t l k));have hA2:=Df.Acl hA hkD (D[k]-Eh t l k);clear hA;have hA:=hA2;clear hA2;obtain⟨x,hx2⟩:∃ q,q=x.setCell ⟨ga,k,none⟩ (.int .i64 (D[k]-Eh t l k)):=⟨_,rfl⟩;rw[← hx2]at hB hD hA ⊢;clear hx2 e39 e40;refine hK _ _ ?_;clear hK;refine MH ?_;refine wr ?_;refine Z.s ?_;clear Z;intro a Z;refine Z.f (IntWalk.i64_in ((k:Int)+1) (by omega)) ?_;clear Z;intro a Z;refine Z.e ?_;clear Z;intro a Z;have HD2:Hid (D.set k (D[k]-Eh t l k)=Bv (YN t l (k+1)) t.Aa.length):=Lib.hid (by rw[HKV.out,← WY hlt,← HDV.out]);have HL2:Hid ((D.set k (D[k]-Eh t l k)).length=t.Aa.length):=Lib.hid (by rw[List.length_set];exact HDL.out);have hne2:Hid (∀ g,(Value.slice (some ⟨ga,0,none⟩) (D.set k (D[k]-Eh t l k)).length ac).ownBlock=some g→(Value.slice (some ⟨gd,0,none⟩) (Bv (Eh t l) t.Aa.length).length dc).ownBlock≠some g):=hne;have hl2:D.length=(D.set k (D[k]-Eh t l k)).length:=by simp
   rw[hl2]at Z;exact⟨n-1,by omega,k+1,_,_,_,by omega,HD2,HL2,hne2,Z.sb,hB,hA,hD⟩
  ·have q1:¬ (k:Int)<(D.length:Int):=by have:=HDL.out;omega
   obtain rfl:k=t.Aa.length:=by omega
   refine Z.e ?_;clear Z;intro a Z;refine Z.cf 26 ?_;refine wp_exit ?_;refine wsr ?_;(iterate 3 refine Z.s ?_;clear Z;intro a Z);refine od ?_;refine wp_ret ?_
   try simp only[xt]
   have HR:=Lib.hid (show Nl t l=(D,0) from (TJ HO.out).trans (by rw[HDV.out,YM]));rw[HR.out];refine bodyPost_ret (v:=.tuple #[.slice aa D.length ac,.int .i64 0]) ?_ Z.defers ⟨aa,ac,rfl,Df.ints hA,hB⟩;simp[results,Try.results52,Z.get 4 _ rfl,Z.get 5 _ rfl]
 ·have qo:(Bc t l != 0)=true:=CB hop;have HO:=Lib.hid hop;clear hop;refine Z.e ?_;clear Z;intro a Z;refine Z.ct 14 ?_;refine wsr ?_;(iterate 3 refine Z.s ?_;clear Z;intro a Z);refine od ?_;refine wp_ret ?_
  try simp only[xt]
  have HR:=Lib.hid (show Nl t l=([],Bc t l) from TK HO.out);rw[HR.out];refine bodyPost_ret (v:=.tuple #[.slice none 0 0,.int .i64 (Bc t l)]) ?_ Z.defers ⟨none,0,rfl,.inl rfl,hB⟩;simp[results,Try.results52,Z.get 4 _ rfl,Z.get 5 _ rfl]
end
end Go.Proofs.Ytgdobbcjkiapkaa
