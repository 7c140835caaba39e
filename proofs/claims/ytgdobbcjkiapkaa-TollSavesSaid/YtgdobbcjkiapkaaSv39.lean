import Derived.Test.YtgdobbcjkiapkaaSv37
import Derived.Test.YtgdobbcjkiapkaaSv38
namespace Go.Proofs.Ytgdobbcjkiapkaa
set_option maxRecDepth 100000
set_option maxHeartbeats 4000000
set_option linter.unusedSimpArgs false
set_option linter.unusedVariables false
section
open Go Go.RowKit
theorem PM {D S:Int}{s:Strip}(h:LY D S s) (_hD:1≤D):BL s D S=0:=by
 obtain⟨h1,h2,h3,h4,h5,h6,h7,h8,h9,hk⟩:=h;unfold BL;have b1:btw s.A 0 (S-1)=true:=Am.2 (by omega);have b2:btw s.B 0 (S-1)=true:=Am.2 (by omega);have b3:(s.A == s.B)=false:=by simpa using h5
 have b4:btw s.L 1 9=true:=Am.2 (by omega);have b5:btw s.W 1 99=true:=Am.2 (by omega);simp only[b1,b2,b3,b4,b5,Bool.not_true,Bool.or_self,Bool.false_eq_true,if_false];unfold Ff;rcases hk with ⟨k,x,y⟩|⟨k,x,y,z⟩|⟨k,x,y,z,u⟩|⟨k,x,y,z⟩
 all_goals
  rw[if_pos (by simp[k])];rw[if_pos];unfold Fe;simp only[k];simp
 ·exact⟨x,y⟩
 ·exact⟨Am.2 (by omega),Am.2 (by omega)⟩
 ·exact⟨Am.2 (by omega),Am.2 (by omega)⟩
 ·exact⟨Am.2 (by omega),z⟩
theorem JA {D S:Int}(hD:1≤D):∀ {l:List Strip},(∀ s∈l,LY D S s)→Bq D S l=0
 | [],_=>rfl
 | s::l,h=>by
  have h1:=PM (h s (by simp)) hD;unfold Bq;rw[h1]
  simpa using JA hD fun x hx=>h x (by simp[hx])
theorem P7 {D S A k L W K X Y:Int}(hS:2≤S) (h0:0≤A) (h1:A≤max (S-1) 0) (k1:1≤k) (k2:k≤max (S-1) 1) (l1:1≤L) (l2:L≤max 4 1) (hW:W∈(90:Int)::[90,90,45,25])
  (hk:(K=1∧X=0∧Y=0)∨(K=2∧0≤X∧X≤Y∧Y<D)∨(K=3∧0≤X∧X≤20∧-5≤Y∧Y≤5)∨(K=4∧1≤X∧X≤40∧Y=0)):LY D S ⟨A,(A+k) % S,L,W,K,X,Y⟩:=by
 have e1:=Int.emod_nonneg (A+k) (show S≠0 by omega);have e2:=Int.emod_lt_of_pos (A+k) (show 0<S by omega)
 have hne:A≠(A+k) % S:=by
  by_cases hlt:A+k<S
  ·rw[Int.emod_eq_of_lt (by omega) hlt];omega
  ·have:(A+k) % S=A+k-S:=by
    rw[← Int.sub_emod_right,Int.emod_eq_of_lt (by omega) (by omega)]
   rw[this];omega
 have hw:1≤W∧W≤99:=by
  simp only[List.mem_cons,List.mem_nil_iff,or_false]at hW
  omega
 exact⟨h0,by show A<S;omega,e1,e2,hne,by show 1≤L;omega,by show L≤9;omega,hw.1,hw.2,hk⟩
theorem L8 {n:Int}{x:BA}:∀ {l pre:List BA},BK n pre l=0→CP n (pre++l) x=0→BK n pre (l++[x])=0
 | [],pre,_,h=>by
  rw[List.append_nil]at h;show (if CP n pre x=0 then BK n (pre++[x]) [] else CP n pre x)=0;rw[if_pos h];rfl
 | y::l,pre,h1,h2=>by
  have hy:CP n pre y=0:=by
   by_cases c:CP n pre y=0
   ·exact c
   ·rw[BK,if_neg c]at h1;exact absurd h1 c
  rw[BK,if_pos hy]at h1;show (if CP n pre y=0 then BK n (pre++[y]) (l++[x]) else CP n pre y)=0;rw[if_pos hy];exact L8 h1 (by rw[List.append_assoc];exact h2)
structure V7 (ns nt:Nat) (t:Ae):Prop where
 ok:Aq t=0
 ls:t.roads.strips.length≤ns
 lt:t.Af.length≤nt
 lp:t.Aa.length≤3
 p1:1≤t.Aa.length
 st:2≤t.roads.stages∧t.roads.stages≤4
theorem VE {ps:List A8}(h:∀ p∈ps,0≤p.heads∧p.heads≤12):0≤AL ps∧AL ps≤12*(ps.length:Int):=by
 induction ps with
 | nil=>simp[AL]
 | cons p l ih =>
  have h1:=h p (by simp);have h2:=ih fun x hx=>h x (by simp[hx])
  simp only[AL,List.length_cons]
  push_cast;omega
theorem UY {ns nt:Nat}{D S pace:Int}{l:List Strip}{p:A8}{ps:List A8}{ts:List BA}(hD:1≤D∧D≤3) (hS:2≤S∧S≤4) (hl:∀ s∈l,LY D S s) (hns:l.length≤ns) (h8:ns≤8) (hp:1≤pace∧pace≤9)
  (hps:∀ q∈p::ps,(0≤q.heads∧q.heads≤12)∧0≤q.free∧q.free≤5) (hn:ps.length≤2) (ht:BK l.length [] ts=0) (hnt:ts.length≤nt) (h6:nt≤6):V7 ns nt ⟨⟨D,S,l⟩,pace,{ p with heads:=p.heads+1 }::ps,ts⟩:=by
 refine⟨?_,hns,hnt,by show ps.length+1≤3;omega,by show 1≤ps.length+1;omega,hS⟩
 have c1:Bo ⟨D,S,l⟩=0:=by
  unfold Bo;have b1:btw D 1 10=true:=Am.2 (by omega);have b2:btw S 1 6=true:=Am.2 (by omega);simp only[b1,b2,Bool.not_true,Bool.or_self,Bool.false_eq_true,if_false];rw[if_neg (by omega)];exact JA hD.1 hl
 have hh:=VE (ps:=ps) fun q hq=>(hps q (by simp[hq])).1
 have h0:=hps p (by simp)
 have c2:({ p with heads:=p.heads+1 }::ps).all AZ=true:=by
  rw[List.all_eq_true];intro q hq;unfold AZ;rw[Bool.and_eq_true];rcases List.mem_cons.1 hq with rfl|hq
  ·exact⟨Am.2 (by show 0≤p.heads+1∧p.heads+1≤40;omega),Am.2 (by show 0≤p.free∧p.free≤40;omega)⟩
  ·have:=hps q (by simp[hq]);exact⟨Am.2 (by omega),Am.2 (by omega)⟩
 have c3:btw (AL ({ p with heads:=p.heads+1 }::ps)) 1 40=true:=Am.2 (by simp only[AL];omega)
 have c4:O8 (({ p with heads:=p.heads+1 }::ps).length:Int) 1 4=0:=by
  unfold O8;rw[if_neg (by simp only[List.length_cons];push_cast;omega),if_neg (by simp only[List.length_cons];push_cast;omega)]
 have c5:btw pace 1 9=true:=Am.2 hp;unfold Aq;simp only[c1,c2,c3,c4,c5,ne_eq,not_true_eq_false,if_false,Bool.not_true,Bool.false_eq_true];unfold DY;rw[if_neg (by show ¬ 6<ts.length;omega)];exact ht
theorem Qw {n X R F z:Int}{ts:List BA}(hn:0<n) (hX:0≤X∧X≤max (n-1) 0) (hR:R∈(0:Int)::[25,50,z]) (hz:0≤z∧z≤max 500 0) (hF:1≤F∧F≤max 3 1) (hf:ts.all (fun y=>y.strip != X || y.farmer != F)=true):CP n ts ⟨X,R,F⟩=0:=by
 have hr:0≤R∧R≤500:=by
  simp only[List.mem_cons,List.mem_nil_iff,or_false]at hR
  omega
 unfold CP;have b1:btw X 0 (n-1)=true:=Am.2 (by omega);have b2:btw R 0 500=true:=Am.2 hr;have b3:btw F 1 4=true:=Am.2 (by omega)
 have b4:(ts.any fun y=>y.strip == X && y.farmer == F)=false:=by
  rw[List.any_eq_false];intro y hy;have:=(List.all_eq_true.1 hf) y hy;intro hc;rw[Bool.and_eq_true]at hc;simp only[beq_iff_eq]at hc;simp[hc.1,hc.2]at this
 simp only[b1,b2,b3,b4,Bool.not_true,Bool.or_self,Bool.false_eq_true,if_false]
theorem AU.put {α:Type}{f:α→List Value}{e:TypeId}{k:Nat}{w:World}{B g c:Nat}{l:List α}(h:AU f e k w B (.slice (some ⟨g,0,none⟩) l.length c) l) (hf:∀ x,(f x).length=k) {i j:Nat}(hi:i<l.length) (hj:j<k) {y:α}{u:Value}(hy:f y=(f l[i]).set j u) :
  AU f e k (w.setCell ⟨g,i*k+j,none⟩ u) B (.slice (some ⟨g,0,none⟩) (l.set i y).length c) (l.set i y):=by
 obtain⟨h1,h2⟩:=h;refine⟨EN hf _,?_⟩;rcases h2 with ⟨hv,_⟩|⟨g',cap,cur,hv,hb,hh,hc,hm,hs,hcells⟩
 ·simp at hv
 ·simp only[Value.slice.injEq,Option.some.injEq,Addr.mk.injEq,and_true,true_and]at hv;obtain⟨rfl,rfl⟩:=hv;refine .inr ⟨g,c,cur.setIfInBounds (i*k+j) u,by simp,hb,?_,by simpa using hc,hm,by simpa using hs,?_⟩
  ·simp[World.setCell,Array.getElem?_modify,hh]
  ·have hlt:i*k+j<l.length*k:=by
    have:(i+1)*k≤l.length*k:=Nat.mul_le_mul_right k hi;rw[Nat.add_mul]at this;omega
   rw[Array.toList_setIfInBounds,List.length_set,List.take_set,hcells];apply List.ext_getElem?;intro q
   by_cases hq:q<l.length*k
   ·have hk0:0<k:=by omega
    have hqd:q / k<l.length:=(Nat.div_lt_iff_lt_mul hk0).2 hq;have hqm:q % k<k:=Nat.mod_lt _ hk0;have hsp:q / k*k+q % k=q:=by rw[Nat.mul_comm];exact Nat.div_add_mod q k
    have e1:=flat_get hf (l.set i y) (q / k) (q % k) (by simpa using hqd) hqm;have e2:=flat_get hf l (q / k) (q % k) hqd hqm;rw[hsp]at e1 e2;rw[e1,List.getElem?_set]
    by_cases ei:q / k=i
    ·subst ei;rw[List.getElem_set_self,hy,List.getElem?_set];have hfl:(l.flatMap f).length=l.length*k:=EN hf l
     by_cases ej:j=q % k
     ·subst ej;rw[if_pos hsp,if_pos rfl,hfl,if_pos hlt,hf,if_pos hj]
     ·rw[if_neg (fun e=>ej (by omega)),if_neg ej,e2]
    ·rw[List.getElem_set_ne (Ne.symm ei),if_neg (fun e=>ei (by rw[← e,Nat.mul_comm,Nat.mul_add_div hk0,Nat.div_eq_of_lt hj];rfl)),e2]
   ·rw[List.getElem?_eq_none (by rw[List.length_set,EN hf];omega),List.getElem?_eq_none (by rw[EN hf];simpa using Nat.le_of_not_lt hq)]
theorem AU.at0 {α:Type}{f:α→List Value}{e:TypeId}{k:Nat}{w:World}{B c:Nat}{a:Option Addr}{l:List α}(h:AU f e k w B (.slice a l.length c) l) (hf:∀ x,(f x).length=k) (hpos:0<l.length):∃ g,a=some ⟨g,0,none⟩∧B≤g∧g<w.heap.size∧(∀ (i:Nat) (hi:i<l.length) (j:Nat) (u:Value),j<k→(f l[i])[j]?=some u→w.cell? ⟨g,i*k+j,none⟩=some u)∧∀ o,w.frozen? ⟨g,o,none⟩=false:=by
 obtain⟨a',c',hv,_,_,hn,hs⟩:=h.form hf;simp only[Value.slice.injEq,true_and]at hv;obtain⟨rfl,rfl⟩:=hv
 cases a with
 | none=>have:=(hn rfl).1;subst this;simp at hpos
 | some ad =>
  obtain⟨g,rfl,hg1,hg2,hc⟩:=hs ad rfl;refine⟨g,rfl,hg1,hg2,hc,fun o=>?_⟩;rcases h.2 with ⟨hv,_⟩|⟨g',cap,cur,hv,_,hh,_⟩
  ·simp at hv
  ·simp only[Value.slice.injEq,Option.some.injEq,Addr.mk.injEq,and_true,true_and]at hv;obtain⟨rfl,rfl⟩:=hv;simp[World.frozen?,hh]
theorem Nb {α:Type}{P:α→Bool}{l:List α}{k:Nat}(h:k<l.length):(l.take (k+1)).all P=((l.take k).all P && P l[k]):=by
 rw[List.take_succ_eq_append_getElem h,List.all_append];simp
theorem ZZ (w:World) (hb B:Nat) (a:Option Addr) (n c:Nat) (h:Ba w hb B a n c) (hB:B≤1000000) (some_ all:Int) (h3 : -1000≤all) (h4:all≤1000) :
  Calls Try.prog 45 #[.pointer (some ⟨hb,0,none⟩),.int .i64 some_,.int .i64 all] w (Yw w hb (B+1) a n c fun v=>∃ x:Bool,v=.bool x):=by
 have H:=Lib.hid h;clear h
 go_enter Try.func45,Try.ntmps45
 go_wp2_with fail
 refine(Du w hb B a n c H.out hB (all-1) (by omega) (by omega)).mono ?_;rintro e w1 ⟨_,⟨x,x1,x2,rfl⟩,rfl,hh,hE⟩;have HH:=Lib.hid hh;clear hh;have HE:=Lib.hid hE;clear hE
 go_wp2_with fail
 go_ret
 exact⟨_,⟨_,rfl⟩,rfl,HH.out,HE.out⟩
theorem ZX (w:World) {x n:Int}(h0:0≤x) (hx:x≤1000) (h1:1≤n) (hn:n≤1000):Calls Try.prog 61 #[.int .i64 x,.int .i64 n] w fun e w'=>e=.returned (.int .i64 (x % n))∧w=w':=by
 have e1:x.tmod n=x % n:=Int.tmod_eq_emod_of_nonneg h0;have e2:=Int.emod_nonneg x (show n≠0 by omega);have e3:=Int.emod_lt_of_pos x (show 0<n by omega);have c1:¬ n<1:=by omega
 have c2:¬ x % n<0:=by omega
 have c3:n≠0:=by omega
 have hw:IntKind.i64.wrap (x % n)=x % n:=IntWalk.i64_in _ (by omega)
 go_enter Try.func61,Try.ntmps61
 go_wp2_with fail
 go_ret
 exact⟨rfl,rfl⟩
end
end Go.Proofs.Ytgdobbcjkiapkaa
