import Derived.Test.YtgdobbcjkiapkaaSv04
import Derived.Test.YtgdobbcjkiapkaaSv19
import Derived.Test.YtgdobbcjkiapkaaSv28
import Derived.Deep.OwnRows
import Derived.Test.YtgdobbcjkiapkaaSv26
import Derived.Test.YtgdobbcjkiapkaaSv03
namespace Go.Proofs.Ytgdobbcjkiapkaa
set_option maxRecDepth 100000
set_option maxHeartbeats 4000000
set_option linter.unusedSimpArgs false
set_option linter.unusedVariables false
section
open Go.RowKit
theorem VC:(Try.prog.info? 4).map (fun i=>(i.zero,i.size,i.bytes))=some (some (.bool false),1,1):=by kernel_rfl
def Q3 (t:Ae) (k:Nat):Bool:=decide (0<(IK t.roads (FZ t) (k:Int)).1.length)
def Hf (t:Ae) (m:Nat):List Bool:=(List.range t.roads.strips.length).map fun k=>decide (k<m) && Q3 t k
def PZ (t:Ae):List Bool:=(List.range t.roads.strips.length).map (Q3 t)
theorem Vm (t:Ae):Hf t t.roads.strips.length=PZ t:=by
 unfold Hf PZ;refine List.map_congr_left fun k hk=>?_
 rw[decide_eq_true (List.mem_range.1 hk)];rfl
theorem O1 (t:Ae) (m:Nat):(Hf t m).length=t.roads.strips.length:=by simp[Hf]
theorem Tm (t:Ae):((Hf t 0).map Value.bool).toArray=madeCells #[.bool false] t.roads.strips.length:=by
 apply Array.ext_getElem?;intro i;unfold madeCells Hf
 by_cases h:i<t.roads.strips.length<;>simp[h,Nat.mod_one]
theorem Vl (t:Ae) {m:Nat}(hm:m<t.roads.strips.length):(((Hf t m).map Value.bool).toArray).setIfInBounds m (.bool (Q3 t m))=((Hf t (m+1)).map Value.bool).toArray:=by
 apply Array.ext_getElem?;intro i;rw[Array.getElem?_setIfInBounds];unfold Hf
 by_cases h:i<t.roads.strips.length
 ·by_cases e:m=i
  ·subst e;simp[h]
  ·rw[if_neg e];have:decide (i<m+1)=decide (i<m):=by rw[decide_eq_decide];omega
   simp[h,this]
 ·by_cases e:m=i
  ·omega
  ·rw[if_neg e];simp[h]
def NQ (t:Ae) (from_ to_:Int):List EU:=Qa t (PZ t) from_ to_ 7 [from_] [] 0
theorem PK:(fun r=>Try.f123.body=some (.seq (r 0) (.seq (r 1) (.seq (.seq (r 2) (.block 0 (.loop (.seq (r 3) (.seq (.cond (.tmp 21) .skip (.exit 0)) (.seq (.block 1 (.seq (r 4) (.seq (r 5) (r 6)))) (r 7))))))) (.seq (r 8) (.seq (r 9) (.seq (r 10) (r 11)))))))) (Ac Try.f123):=by show _=_;kernel_rfl
structure C1 (W x:World) (t:Ae) (s:Dt) (from_ to_:Int) (bt bf bto l by_ go bo:Nat) (op:List Bool):Prop where
 below:Below W.heap.size W x
 ky:Rw x by_ #[.func (.yield l) #[] #[]] 152
 kr:Rw x go (op.map Value.bool).toArray 4
 ko:Rw x bo #[.slice (some ⟨go,0,none⟩) t.roads.strips.length t.roads.strips.length] 132
 n1:W.heap.size≤by_∧by_<go∧go<bo
section
variable {W x x2:World}{t:Ae}{s:Dt}{from_ to_:Int}{bt bf bto l by_ go bo:Nat}{op:List Bool}
theorem C1.keep (h:C1 W x t s from_ to_ bt bf bto l by_ go bo op) (hb:Below x.heap.size x x2):C1 W x2 t s from_ to_ bt bf bto l by_ go bo op:=⟨h.below.trans (hb.mono h.below.size),h.ky.below hb,h.kr.below hb,h.ko.below hb,h.n1⟩
theorem C1.store (h:C1 W x t s from_ to_ bt bf bto l by_ go bo op) {g:Nat}(hg:bo<g) (v:Value):C1 W (x.setCell ⟨g,0,none⟩ v) t s from_ to_ bt bf bto l by_ go bo op :=
 ⟨h.below.setCell (p:=⟨g,0,none⟩) (by have:=h.n1;show W.heap.size≤g;omega) v,h.ky.far (by have:=h.n1;omega) _ _,h.kr.far (by have:=h.n1;omega) _ _,h.ko.far (by have:=h.n1;omega) _ _,h.n1⟩
theorem C1.drew (h:C1 W x t s from_ to_ bt bf bto l by_ go bo op):C1 W x.drew t s from_ to_ bt bf bto l by_ go bo op:=h.keep (Below.refl _ _).drew
theorem C1.set (h:C1 W x t s from_ to_ bt bf bto l by_ go bo op) (k:Nat) (v:Value) {op2:List Bool}(he:((op.map Value.bool).toArray).setIfInBounds k v=(op2.map Value.bool).toArray):C1 W (x.setCell ⟨go,k,none⟩ v) t s from_ to_ bt bf bto l by_ go bo op2 :=
 ⟨h.below.setCell (p:=⟨go,k,none⟩) (by have:=h.n1;show W.heap.size≤go;omega) v,h.ky.far (by have:=h.n1;omega) _ _,he ▸ h.kr.set k v,h.ko.far (by have:=h.n1;omega) _ _,h.n1⟩
end
theorem Ry {t:Ae}{s:Dt}{from_ to_:Int}{bt bf bto:Nat}(hT:Aq t=0) (hfr:btw from_ 0 (t.roads.stages-1)=true):Z4 ChB.own Try.prog 123 #[.pointer (some ⟨bt,0,none⟩),.pointer (some ⟨bf,0,none⟩),.pointer (some ⟨bto,0,none⟩)] ChB.enc ChB.Given (V9 t s from_ to_ bt bf bto) (fun pre=>pre.map ChB.ch=NQ t from_ to_):=by
 intro l J W hEnv hKJ hlt hY h0;obtain⟨hck,_,_,_,_,_,_,_,_⟩:=AY hT;obtain⟨hst1,hst6,hsl8,_,_⟩:=FC hck;have hfr2:=Am.1 hfr;have HJ0:=Lib.hid (fun (x:World) (hb:Below W.heap.size W x)=>hKJ [] W x h0 hb (fun k hk=>by obtain⟨y,hy,_⟩:=hk;simp at hy));have HEV:=Lib.hid (fun (x:World) (hb:Below W.heap.size W x)=>hEnv [] x (HJ0.out x hb));have hmk:=run_make_row' (P:=Try.prog) 132 4 (.bool false) 1 Try.underlying132 VC rfl .i64 .i64 t.roads.strips.length (by omega) (by omega);obtain⟨x,hx⟩:∃ x,x=W:=⟨_,rfl⟩;have hbW:Below W.heap.size W x:=by rw[hx];exact Below.refl _ _
 rw[show Calls Try.prog 123 (#[.func (.yield l) #[] #[]]++#[.pointer (some ⟨bt,0,none⟩),.pointer (some ⟨bf,0,none⟩),.pointer (some ⟨bto,0,none⟩)]) W=Calls Try.prog 123 #[.func (.yield l) #[] #[],.pointer (some ⟨bt,0,none⟩),.pointer (some ⟨bf,0,none⟩),.pointer (some ⟨bto,0,none⟩)] x from by rw[hx];rfl];have hxz:x.heap.size=W.heap.size:=by rw[hx]
 have HXZ:=Lib.hid hxz;clear hx hxz;have HMK:=Lib.hid hmk;clear hmk;refine calls_of_wp Try.func123 PK ?_;have Z:Sl (⟨#[.func (.yield l) #[] #[],.pointer (some ⟨bt,0,none⟩),.pointer (some ⟨bf,0,none⟩),.pointer (some ⟨bto,0,none⟩)]++Array.replicate (Try.f123.ntmps-(#[.func (.yield l) #[] #[],.pointer (some ⟨bt,0,none⟩),.pointer (some ⟨bf,0,none⟩),.pointer (some ⟨bto,0,none⟩)]:Array Value).size) undef,[]⟩:Act) 45 [(0,.func (.yield l) #[] #[]),(1,.pointer (some ⟨bt,0,none⟩)),(2,.pointer (some ⟨bf,0,none⟩)),(3,.pointer (some ⟨bto,0,none⟩))]:=by rw[Try.ntmps123];exact Sl.Abw _ _ _ _ (by omega)
 revert Z;generalize (Act.mk _ _)=a;intro Z;refine wp_seq ?_;have e:Ac Try.f123 0=Code.region 0 _ false:=rfl;rw[e];clear e;refine wp_region ?_;refine BQ rfl rfl (fun K hK=>?_);have e0:=Z.get 0 _ rfl;unfold Oper.wp;go_simp;clear e0;refine Z.k hK (by decide) ?_;clear Z hK;intro a Z;refine aw ?_;obtain⟨by_,hg⟩:∃ b,b=x.heap.size:=⟨_,rfl⟩;intro x hz Y hb;rw[← hg]at Z Y hb;have hxz:=HXZ.out;have hby:W.heap.size≤by_:=by omega
 replace hbW:=hbW.trans (hb.mono (by omega));have hzy:by_<x.heap.size:=Y.lt;clear hz hb hg hxz HXZ;refine EL ?_
 try simp only[xt,↓reduceIte,Nat.reduceEqDiff]
 refine wp_seq ?_;have e:Ac Try.f123 1=Code.region 1 _ false:=rfl;rw[e];clear e;refine wp_region ?_;refine BQ rfl rfl (fun K hK=>?_);have e1:=Z.get 1 _ rfl;unfold Oper.wp;go_simp;clear e1;refine Z.k hK (by decide) ?_;clear Z hK;intro a Z;refine BQ rfl rfl (fun K hK=>?_);have e13:=Z.get 13 _ rfl;unfold Oper.wp;go_simp;clear e13;refine Z.k hK (by decide) ?_;clear Z hK;intro a Z;refine BQ rfl rfl (fun K hK=>?_);have e14:=Z.get 14 _ rfl;have hE:=HEV.out x hbW;have c:=hE.kt.cell (o:=2) rfl;unfold Oper.wp;go_simp;clear e14;refine Z.k hK (by decide) ?_;clear Z hK;intro a Z;refine BQ rfl rfl (fun K hK=>?_);have e15:=Z.get 15 _ rfl;unfold Oper.wp;go_simp;clear e15;refine Z.k hK (by decide) ?_;clear Z hK;intro a Z;refine BQ rfl rfl (fun K hK=>?_);have e16:=Z.get 16 _ rfl;have hmk:=HMK.out x;obtain⟨go,hgo⟩:∃ b,b=x.heap.size:=⟨_,rfl⟩;unfold Oper.wp;go_simp;clear e16;refine Z.k hK (by decide) ?_;clear Z hK;intro a Z;clear hmk hE c;refine aw ?_;intro x hz R hb;rw[← hgo]at Z R;replace Y:=Y.below hb;replace hbW:=hbW.trans (hb.mono hbW.size);have hog:by_<go:=by omega
 clear hz hb hgo;refine BQ rfl rfl (fun K hK=>?_);obtain⟨bo,hg⟩:∃ b,b=x.heap.size:=⟨_,rfl⟩;unfold Oper.wp;go_simp;refine Z.k hK (by decide) ?_;clear Z hK;intro a Z;refine BQ rfl rfl (fun K hK=>?_);have e5:=Z.get 5 _ rfl;have e17:=Z.get 17 _ rfl;unfold Oper.wp;go_simp;clear e5 e17;refine hK _ _ ?_;clear hK;refine aw ?_;have hRl:=R.lt;intro x hz O hb;rw[← hg]at Z O;replace Y:=Y.below hb;replace R:=R.below hb;replace hbW:=hbW.trans (hb.mono hbW.size);rw[← Tm]at R;have hC:C1 W x t s from_ to_ bt bf bto l by_ go bo (Hf t 0):=⟨hbW,Y,R,O,by omega⟩;clear hz hb hg Y R O hbW hog hRl hzy;refine EL ?_
 try simp only[xt,↓reduceIte,Nat.reduceEqDiff]
 refine wp_seq ?_;refine wp_seq ?_;have e:Ac Try.f123 2=Code.region 2 _ false:=rfl;rw[e];clear e;refine wp_region ?_;refine BQ rfl rfl (fun K hK=>?_);have e5:=Z.get 5 _ rfl;have c:=hC.ko.cell (o:=0) rfl;unfold Oper.wp;go_simp;clear e5;refine Z.k hK (by decide) ?_;clear Z hK;intro a Z;refine BQ rfl rfl (fun K hK=>?_);have e18:=Z.get 18 _ rfl;unfold Oper.wp;go_simp;clear e18;refine Z.k hK (by decide) ?_;clear Z hK;intro a Z;refine Z.co rfl rfl (.inl rfl) rfl (by decide) ?_;clear Z;intro a Z;refine EL ?_
 try simp only[xt,↓reduceIte,Nat.reduceEqDiff]
 refine wp_block ?_;refine wp_loop_ghost (fun n a x=>∃ k:Nat,k+n=t.roads.strips.length∧Sl a 45 [(1,.pointer (some ⟨bt,0,none⟩)),(2,.pointer (some ⟨bf,0,none⟩)),(3,.pointer (some ⟨bto,0,none⟩)),(4,.pointer (some ⟨by_,0,none⟩)),(5,.pointer (some ⟨bo,0,none⟩)),(18,.slice (some ⟨go,0,none⟩) t.roads.strips.length t.roads.strips.length),(19,.int .i64 (t.roads.strips.length:Int)),(20,.int .i64 (k:Int))]∧C1 W x t s from_ to_ bt bf bto l by_ go bo (Hf t k)) t.roads.strips.length ⟨0,by omega,((((((((Z.nil.cons (Z.g 20)).cons (Z.g 19)).cons (Z.g 18)).cons (Z.g 5)).cons (Z.g 4)).cons (Z.g 3)).cons (Z.g 2)).cons (Z.g 1)),hC⟩ ?_;clear Z hC;rintro n a x ⟨k,hkn,Z,hC⟩;refine wp_seq ?_;have e:Ac Try.f123 3=Code.region 3 _ false:=rfl;rw[e];clear e;refine wp_region ?_
 by_cases hlt2:k<t.roads.strips.length
 ·have q1:(k:Int)<(t.roads.strips.length:Int):=by omega
  refine BQ rfl rfl (fun K hK=>?_);have e19:=Z.get 19 _ rfl;have e20:=Z.get 20 _ rfl;unfold Oper.wp;go_simp;clear e19 e20;refine Z.k hK (by decide) ?_;clear Z hK;intro a Z;refine EL ?_
  try simp only[xt,↓reduceIte,Nat.reduceEqDiff]
  refine wp_seq ?_;refine Z.ct 21 ?_;refine wp_skip ?_
  try simp only[xt,↓reduceIte,Nat.reduceEqDiff]
  refine wp_seq ?_;refine wp_block ?_;refine wp_seq ?_;have e:Ac Try.f123 4=Code.region 4 _ false:=rfl;rw[e];clear e;refine wp_region ?_;refine Z.mv rfl rfl (.inl rfl) rfl (by decide) rfl ?_;clear Z;intro a Z;refine Z.mv rfl rfl (.inr rfl) rfl (by decide) rfl ?_;clear Z;intro a Z;refine EL ?_
  try simp only[xt,↓reduceIte,Nat.reduceEqDiff]
  refine wp_seq ?_;have hE:=HEV.out x hC.below;have ht:=hE.tar;have e:Ac Try.f123 5=Code.region 5 _ true:=rfl;rw[e];clear e
  refine D8 (by kernel_rfl) ((((((((((Z.nil.cons (Z.g 20)).cons (Z.g 19)).cons (Z.g 18)).cons (Z.g 5)).cons (Z.g 4)).cons (Z.g 3)).cons (Z.g 2)).cons (Z.g 6)).cons (Z.g 1))) [some 24,some 25,some 26,some 27,some 28,some 29,some 23,some 30,some 31,some 7,some 8] rfl rfl (by kernel_rfl) (fun j v _=>match j with|0=>v=.pointer (some ⟨bt,0,none⟩)|1=>v=.agg #[.int .i64 t.roads.days,.int .i64 t.roads.stages,.slice s.sa t.roads.strips.length s.sc]|2=>v=.agg (CJ t s)|3=>v=.agg #[.int .i64 (FZ t).heads,.int .i64 (FZ t).pace]|4=>v=.int .i64 (k:Int)|5=>(∃ ga gc,v=.tuple #[.slice ga (IK t.roads (FZ t) (k:Int)).1.length gc,.int .i64 (IK t.roads (FZ t) (k:Int)).2])|6=>(∃ ga gc,v=.tuple #[.slice ga (IK t.roads (FZ t) (k:Int)).1.length gc,.int .i64 (IK t.roads (FZ t) (k:Int)).2])|7=>(∃ ga gc,v=.slice ga (IK t.roads (FZ t) (k:Int)).1.length gc)|8=>v=.int .i64 (IK t.roads (FZ t) (k:Int)).2|9=>(∃ ga gc,v=.slice ga (IK t.roads (FZ t) (k:Int)).1.length gc)|10=>v=.int .i64 (IK t.roads (FZ t) (k:Int)).2|_=>True) (fun _ x=>C1 W x t s from_ to_ bt bf bto l by_ go bo (Hf t k)) hC.drew ?_ ?_
  ·clear Z hC;intro k2 o hkl ho L a x hI hLk Z hs hd;have hlt3:∀ k:Nat,k<11→k=0∨k=1∨k=2∨k=3∨k=4∨k=5∨k=6∨k=7∨k=8∨k=9∨k=10:=by decide
   rcases hlt3 k2 hkl with rfl|rfl|rfl|rfl|rfl|rfl|rfl|rfl|rfl|rfl|rfl
   ·obtain rfl:=Option.some.inj ho;have e1:=Z.get 1 _ rfl;clear hs hd;refine Fz rfl rfl (fun K hK=>?_);unfold Oper.wp;go_simp;exact hK _ _ ⟨_,rfl,rfl,hI,fun _ _ h=>h⟩
   ·obtain rfl:=Option.some.inj ho;obtain⟨_,e24,rfl⟩:=hs 0 _ 24 rfl rfl (hd 0 (Ey (by kernel_rfl)));have hE:=HEV.out x hI.below;have c0:x.cell? ⟨bt,0,none⟩=_:=hE.kt.cell (o:=0) rfl;have c1:x.cell? ⟨bt,1,none⟩=_:=hE.kt.cell (o:=1) rfl;have c2:x.cell? ⟨bt,2,none⟩=_:=hE.kt.cell (o:=2) rfl;clear hs hd;refine Fz rfl rfl (fun K hK=>?_);unfold Oper.wp;go_simp;exact hK _ _ ⟨_,rfl,rfl,hI,fun _ _ h=>h⟩
   ·obtain rfl:=Option.some.inj ho;have e1:=Z.get 1 _ rfl;have hE:=HEV.out x hI.below;have c0:x.cell? ⟨bt,0,none⟩=_:=hE.kt.cell (o:=0) rfl;have c1:x.cell? ⟨bt,1,none⟩=_:=hE.kt.cell (o:=1) rfl;have c2:x.cell? ⟨bt,2,none⟩=_:=hE.kt.cell (o:=2) rfl;have c3:x.cell? ⟨bt,3,none⟩=_:=hE.kt.cell (o:=3) rfl;have c4:x.cell? ⟨bt,4,none⟩=_:=hE.kt.cell (o:=4) rfl;have c5:x.cell? ⟨bt,5,none⟩=_:=hE.kt.cell (o:=5) rfl;clear hs hd;refine Fz rfl rfl (fun K hK=>?_);unfold Oper.wp;go_simp;exact hK _ _ ⟨_,rfl,rfl,hI,fun _ _ h=>h⟩
   ·obtain rfl:=Option.some.inj ho;obtain⟨_,e26,rfl⟩:=hs 2 _ 26 rfl rfl (hd 2 (Ey (by kernel_rfl)));clear hs hd;refine Fz rfl rfl (fun K hK=>?_);unfold Oper.wp;go_simp;refine(UR (HEV.out x hI.below).tar hT).mono ?_;rintro e x2 ⟨rfl,hb⟩;replace hI:=hI.keep hb;exact hK _ _ ⟨_,rfl,rfl,hI,fun _ _ h=>h⟩
   ·obtain rfl:=Option.some.inj ho;have e6:=Z.get 6 _ rfl;clear hs hd;refine Fz rfl rfl (fun K hK=>?_);unfold Oper.wp;go_simp;exact hK _ _ ⟨_,rfl,rfl,hI,fun _ _ h=>h⟩
   ·obtain rfl:=Option.some.inj ho;obtain⟨_,e25,rfl⟩:=hs 1 _ 25 rfl rfl (hd 1 (Ey (by kernel_rfl)));obtain⟨_,e27,rfl⟩:=hs 3 _ 27 rfl rfl (hd 3 (Ey (by kernel_rfl)));obtain⟨_,e28,rfl⟩:=hs 4 _ 28 rfl rfl (hd 4 (Ey (by kernel_rfl)));clear hs hd;refine Fz rfl rfl (fun K hK=>?_);unfold Oper.wp;go_simp;have hE:=HEV.out x hI.below;refine(Z5 x t.roads (FZ t) s.sa s.sc hE.tar.strips hE.tar.ls (k:Int)).mono ?_;rintro e x2 hP;obtain⟨ga,gc,rfl,_,hb⟩:=hP.val;exact hK _ _ ⟨_,rfl,⟨ga,gc,rfl⟩,hI.keep hb,fun _ _ h=>h⟩
   ·obtain rfl:=Option.some.inj ho;obtain⟨v29,e29,hv29⟩:=hs 5 _ 29 rfl rfl (hd 5 (Ey (by kernel_rfl)));obtain⟨ga,gc,rfl⟩:=hv29;clear hs hd;refine Fz rfl rfl (fun K hK=>?_);unfold Oper.wp;go_simp;exact hK _ _ ⟨_,rfl,⟨_,_,rfl⟩,hI,fun _ _ h=>h⟩
   ·obtain rfl:=Option.some.inj ho;obtain⟨v23,e23,hv23⟩:=hs 6 _ 23 rfl rfl (hd 6 (Ey (by kernel_rfl)));obtain⟨ga,gc,rfl⟩:=hv23;clear hs hd;refine Fz rfl rfl (fun K hK=>?_);unfold Oper.wp;go_simp;exact hK _ _ ⟨_,rfl,⟨_,_,rfl⟩,hI,fun _ _ h=>h⟩
   ·obtain rfl:=Option.some.inj ho;obtain⟨v23,e23,hv23⟩:=hs 6 _ 23 rfl rfl (hd 6 (Ey (by kernel_rfl)));obtain⟨ga,gc,rfl⟩:=hv23;clear hs hd;refine Fz rfl rfl (fun K hK=>?_);unfold Oper.wp;go_simp;exact hK _ _ ⟨_,rfl,rfl,hI,fun _ _ h=>h⟩
   ·obtain rfl:=Option.some.inj ho;obtain⟨v30,e30,hv30⟩:=hs 7 _ 30 rfl rfl (hd 7 (Ey (by kernel_rfl)));obtain⟨ga,gc,rfl⟩:=hv30;clear hs hd;refine Fz rfl rfl (fun K hK=>?_);unfold Oper.wp;go_simp;exact hK _ _ ⟨_,rfl,⟨_,_,rfl⟩,hI,fun _ _ h=>h⟩
   ·obtain rfl:=Option.some.inj ho;obtain⟨_,e31,rfl⟩:=hs 8 _ 31 rfl rfl (hd 8 (Ey (by kernel_rfl)));clear hs hd;refine Fz rfl rfl (fun K hK=>?_);unfold Oper.wp;go_simp;exact hK _ _ ⟨_,rfl,rfl,hI,fun _ _ h=>h⟩
  ·clear Z hC;intro L a x hall hI Z hs;obtain⟨v7,e7,hv7⟩:=hs 9 _ 7 rfl rfl (hall 9 (by decide));obtain⟨ga,gc,rfl⟩:=hv7;replace Z:=Z.cons e7;clear hs hall e7;have hC:=hI;clear hI
   try simp only[xt,↓reduceIte,Nat.reduceEqDiff]
   have e:Ac Try.f123 6=Code.region 6 _ false:=rfl;rw[e];clear e;refine wp_region ?_;refine BQ rfl rfl (fun K hK=>?_);have e5:=Z.get 5 _ rfl;have c:=hC.ko.cell (o:=0) rfl;unfold Oper.wp;go_simp;clear e5;refine Z.k hK (by decide) ?_;clear Z hK;intro a Z;refine Z.mv rfl rfl (.inl rfl) rfl (by decide) rfl ?_;clear Z;intro a Z;refine Z.mv rfl rfl (.inl rfl) rfl (by decide) rfl ?_;clear Z;intro a Z;refine BQ rfl rfl (fun K hK=>?_);have e34:=Z.get 34 _ rfl;unfold Oper.wp;go_simp;clear e34;refine Z.k hK (by decide) ?_;clear Z hK;intro a Z;refine BQ rfl rfl (fun K hK=>?_);have e35:=Z.get 35 _ rfl;have hb7:decide (0<(IK t.roads (FZ t) (k:Int)).1.length)=Q3 t k:=rfl;obtain⟨nD,hnD⟩:∃ n,n=(IK t.roads (FZ t) (k:Int)).1.length:=⟨_,rfl⟩;rw[← hnD]at e35 hb7;clear hnD;unfold Oper.wp;go_simp;clear e35;refine Z.k hK (by decide) ?_;clear Z hK;intro a Z;clear hb7;refine BQ rfl rfl (fun K hK=>?_);have e32:=Z.get 32 _ rfl;have e33:=Z.get 33 _ rfl;unfold Oper.wp;go_simp;clear e32 e33;refine Z.k hK (by decide) ?_;clear Z hK;intro a Z;refine BQ rfl rfl (fun K hK=>?_);have e36:=Z.get 36 _ rfl;have e37:=Z.get 37 _ rfl;have c:x.cell? ⟨go,k,none⟩=some (.bool ((Hf t k)[k]'(by rw[O1];exact hlt2))):=hC.kr.cell (by simp[O1,hlt2]);have cz:=hC.kr.fz k
   unfold Oper.wp;go_simp;clear e36 e37;refine hK _ _ ?_;clear hK;clear c cz;replace hC:=hC.set k (.bool (Q3 t k)) (Vl t hlt2);refine EL ?_
   try simp only[xt,↓reduceIte,Nat.reduceEqDiff]
   have e:Ac Try.f123 7=Code.region 7 _ false:=rfl;rw[e];clear e;refine wp_region ?_;refine BQ rfl rfl (fun K hK=>?_);have e20:=Z.get 20 _ rfl;have hw:=Bz k (by omega);unfold Oper.wp;go_simp;clear e20;refine Z.k hK (by decide) ?_;clear Z hK;intro a Z;refine Z.mv rfl rfl (.inl rfl) rfl (by decide) rfl ?_;clear Z;intro a Z;refine EL ?_
   try simp only[xt,↓reduceIte,Nat.reduceEqDiff]
   exact⟨n-1,by omega,k+1,by omega,((((((((Z.nil.cons (Z.g 20)).cons (Z.g 19)).cons (Z.g 18)).cons (Z.g 5)).cons (Z.g 4)).cons (Z.g 3)).cons (Z.g 2)).cons (Z.g 1)),hC⟩
 ·obtain rfl:k=t.roads.strips.length:=by omega
  refine BQ rfl rfl (fun K hK=>?_);have e19:=Z.get 19 _ rfl;have e20:=Z.get 20 _ rfl;unfold Oper.wp;go_simp;clear e19 e20;refine Z.k hK (by decide) ?_;clear Z hK;intro a Z;refine EL ?_
  try simp only[xt,↓reduceIte,Nat.reduceEqDiff]
  refine wp_seq ?_;refine Z.cf 21 ?_;refine wp_exit ?_
  try simp only[xt,↓reduceIte,Nat.reduceEqDiff]
  try simp only[xt,↓reduceIte,Nat.reduceEqDiff]
  refine wp_seq ?_;have e:Ac Try.f123 8=Code.region 8 _ false:=rfl;rw[e];clear e;refine wp_region ?_;refine BQ rfl rfl (fun K hK=>?_);have e2:=Z.get 2 _ rfl;have hE:=HEV.out x hC.below;have c:=hE.kf.cell (o:=0) rfl;unfold Oper.wp;go_simp;clear e2;refine Z.k hK (by decide) ?_;clear Z hK;intro a Z;refine BQ rfl rfl (fun K hK=>?_);have e39:=Z.get 39 _ rfl;unfold Oper.wp;go_simp;clear e39;refine Z.k hK (by decide) ?_;clear Z hK;intro a Z;refine aw ?_;obtain⟨gs0,hg1⟩:∃ b,b=x.heap.size:=⟨_,rfl⟩;have hbo:=hC.ko.lt;intro x hz1 RS hb;rw[← hg1]at Z RS hz1;replace hC:=hC.keep hb;have HZ1:=Lib.hid (And.intro hg1 hz1);have hbg:bo<gs0:=by omega
  clear hbo;clear hb hz1 hg1;refine BQ rfl rfl (fun K hK=>?_);unfold Oper.wp;go_simp;refine Z.k hK (by decide) ?_;clear Z hK;intro a Z;refine aw ?_;obtain⟨gw0,hg2⟩:∃ b,b=x.heap.size:=⟨_,rfl⟩;intro x hz2 RW hb;rw[← hg2]at Z RW hz2;replace hC:=hC.keep hb;replace RS:=RS.below hb;have HZ2:=Lib.hid (And.intro hg2 hz2);clear hb hz2 hg2;refine BQ rfl rfl (fun K hK=>?_);obtain⟨bs,hg⟩:∃ b,b=x.heap.size:=⟨_,rfl⟩;unfold Oper.wp;go_simp;refine Z.k hK (by decide) ?_;clear Z hK;intro a Z;refine aw ?_;have hl1:=RW.lt;have hl0:=HZ2.out.1;have hl2:=RS.lt;have hl6:=HZ1.out.2;intro x hz S hb;rw[← hg]at Z S;replace hC:=hC.keep hb;replace RS:=RS.below hb;replace RW:=RW.below hb;have o3:gw0<bs∧gs0<bs∧gs0<gw0:=by omega
  clear hb hz hg hl0 hl6;refine BQ rfl rfl (fun K hK=>?_);obtain⟨bw,hg⟩:∃ b,b=x.heap.size:=⟨_,rfl⟩;unfold Oper.wp;go_simp;refine Z.k hK (by decide) ?_;clear Z hK;intro a Z;refine aw ?_;have hl3:=S.lt;intro x hz Wr hb;rw[← hg]at Z Wr;replace hC:=hC.keep hb;replace RS:=RS.below hb;replace RW:=RW.below hb;replace S:=S.below hb;have o4:bs<bw:=by omega
  clear hb hz hg;refine BQ rfl rfl (fun K hK=>?_);obtain⟨bl,hg⟩:∃ b,b=x.heap.size:=⟨_,rfl⟩;unfold Oper.wp;go_simp;refine Z.k hK (by decide) ?_;clear Z hK;intro a Z;refine aw ?_;have hl4:=Wr.lt;intro x hz Lr hb;rw[← hg]at Z Lr;replace hC:=hC.keep hb;replace RS:=RS.below hb;replace RW:=RW.below hb;replace S:=S.below hb;replace Wr:=Wr.below hb;have o5:bw<bl:=by omega
  clear hb hz hg;refine BQ rfl rfl (fun K hK=>?_);have e9:=Z.get 9 _ rfl;have e40:=Z.get 40 _ rfl;have z1:=S.cell (o:=0) rfl;have z2:=S.fz 0;unfold Oper.wp;go_simp;clear e9 e40;refine hK _ _ ?_;clear hK;clear z1 z2;have hCn:=hC.n1;replace hC:=hC.store (g:=bs) (by omega) (.slice (some ⟨gs0,0,none⟩) 1 1);replace S:=S.set 0 (.slice (some ⟨gs0,0,none⟩) 1 1);replace RS:=RS.far (g:=bs) (by omega) 0 (.slice (some ⟨gs0,0,none⟩) 1 1);replace RW:=RW.far (g:=bs) (by omega) 0 (.slice (some ⟨gs0,0,none⟩) 1 1);replace Wr:=Wr.far (g:=bs) (by omega) 0 (.slice (some ⟨gs0,0,none⟩) 1 1);replace Lr:=Lr.far (g:=bs) (by omega) 0 (.slice (some ⟨gs0,0,none⟩) 1 1);clear hCn;obtain⟨x,hx'⟩:∃ W',W'=x.setCell ⟨bs,0,none⟩ (.slice (some ⟨gs0,0,none⟩) 1 1):=⟨_,rfl⟩;rw[← hx']at hC RS RW S Wr Lr ⊢;clear hx';refine BQ rfl rfl (fun K hK=>?_);have e10:=Z.get 10 _ rfl;have e41:=Z.get 41 _ rfl;have z1:=Wr.cell (o:=0) rfl;have z2:=Wr.fz 0;unfold Oper.wp;go_simp;clear e10 e41;refine hK _ _ ?_;clear hK;clear z1 z2;have hCn:=hC.n1;replace hC:=hC.store (g:=bw) (by omega) (.slice (some ⟨gw0,0,none⟩) 0 0);replace Wr:=Wr.set 0 (.slice (some ⟨gw0,0,none⟩) 0 0);replace RS:=RS.far (g:=bw) (by omega) 0 (.slice (some ⟨gw0,0,none⟩) 0 0);replace RW:=RW.far (g:=bw) (by omega) 0 (.slice (some ⟨gw0,0,none⟩) 0 0)
  replace S:=S.far (g:=bw) (by omega) 0 (.slice (some ⟨gw0,0,none⟩) 0 0);replace Lr:=Lr.far (g:=bw) (by omega) 0 (.slice (some ⟨gw0,0,none⟩) 0 0);clear hCn;obtain⟨x,hx'⟩:∃ W',W'=x.setCell ⟨bw,0,none⟩ (.slice (some ⟨gw0,0,none⟩) 0 0):=⟨_,rfl⟩;rw[← hx']at hC RS RW S Wr Lr ⊢;clear hx';refine BQ rfl rfl (fun K hK=>?_);have e11:=Z.get 11 _ rfl;have z1:=Lr.cell (o:=0) rfl;have z2:=Lr.fz 0;unfold Oper.wp;go_simp;clear e11;refine hK _ _ ?_;clear hK;clear z1 z2;have hCn:=hC.n1;replace hC:=hC.store (g:=bl) (by omega) (.int .i64 0);replace Lr:=Lr.set 0 (.int .i64 0);replace RS:=RS.far (g:=bl) (by omega) 0 (.int .i64 0);replace RW:=RW.far (g:=bl) (by omega) 0 (.int .i64 0);replace S:=S.far (g:=bl) (by omega) 0 (.int .i64 0);replace Wr:=Wr.far (g:=bl) (by omega) 0 (.int .i64 0);clear hCn;obtain⟨x,hx'⟩:∃ W',W'=x.setCell ⟨bl,0,none⟩ (.int .i64 0):=⟨_,rfl⟩;rw[← hx']at hC RS RW S Wr Lr ⊢;clear hx';refine EL ?_
  try simp only[xt,↓reduceIte,Nat.reduceEqDiff]
  refine wp_seq ?_;have e:Ac Try.f123 9=Code.region 9 _ false:=rfl;rw[e];clear e;refine wp_region ?_;refine BQ rfl rfl (fun K hK=>?_);obtain⟨bg,hg⟩:∃ b,b=x.heap.size:=⟨_,rfl⟩;unfold Oper.wp;go_simp;refine Z.k hK (by decide) ?_;clear Z hK;intro a Z;refine aw ?_;have hl5:=Lr.lt;intro x hz Gr hb;rw[← hg]at Z Gr;replace hC:=hC.keep hb;replace RS:=RS.below hb;replace RW:=RW.below hb;replace S:=S.below hb;replace Wr:=Wr.below hb;replace Lr:=Lr.below hb;have o6:bl<bg:=by omega
  clear hb hz hg hl5;refine EL ?_
  try simp only[xt,↓reduceIte,Nat.reduceEqDiff]
  refine wp_seq ?_;have e:Ac Try.f123 10=Code.region 10 _ false:=rfl;rw[e];clear e;refine wp_region ?_;refine BQ rfl rfl (fun K hK=>?_);have e1:=Z.get 1 _ rfl;have e2:=Z.get 2 _ rfl;have e3:=Z.get 3 _ rfl;have e4:=Z.get 4 _ rfl;have e5:=Z.get 5 _ rfl;have e9:=Z.get 9 _ rfl;have e10:=Z.get 10 _ rfl;have e11:=Z.get 11 _ rfl;have e12:=Z.get 12 _ rfl;unfold Oper.wp;go_simp;clear e1 e2 e3 e4 e5 e9 e10 e11 e12;refine Z.k hK (by decide) ?_;clear Z hK;intro a Z;refine BQ rfl rfl (fun K hK=>?_);have e12:=Z.get 12 _ rfl;have e42:=Z.get 42 _ rfl;have z1:=Gr.cell (o:=0) rfl;have z2:=Gr.fz 0;unfold Oper.wp;go_simp;clear e12 e42;refine hK _ _ ?_;clear hK;clear z1 z2;have hCn:=hC.n1;replace hC:=hC.store (g:=bg) (by omega) (.func (.func 125) #[] #[.pointer (some ⟨bs,0,none⟩),.pointer (some ⟨bto,0,none⟩),.pointer (some ⟨by_,0,none⟩),.pointer (some ⟨bw,0,none⟩),.pointer (some ⟨bt,0,none⟩),.pointer (some ⟨bf,0,none⟩),.pointer (some ⟨bl,0,none⟩),.pointer (some ⟨bo,0,none⟩),.pointer (some ⟨bg,0,none⟩)]);replace Gr:=Gr.set 0 (.func (.func 125) #[] #[.pointer (some ⟨bs,0,none⟩),.pointer (some ⟨bto,0,none⟩),.pointer (some ⟨by_,0,none⟩),.pointer (some ⟨bw,0,none⟩),.pointer (some ⟨bt,0,none⟩),.pointer (some ⟨bf,0,none⟩),.pointer (some ⟨bl,0,none⟩),.pointer (some ⟨bo,0,none⟩),.pointer (some ⟨bg,0,none⟩)])
  replace RS:=RS.far (g:=bg) (by omega) 0 (.func (.func 125) #[] #[.pointer (some ⟨bs,0,none⟩),.pointer (some ⟨bto,0,none⟩),.pointer (some ⟨by_,0,none⟩),.pointer (some ⟨bw,0,none⟩),.pointer (some ⟨bt,0,none⟩),.pointer (some ⟨bf,0,none⟩),.pointer (some ⟨bl,0,none⟩),.pointer (some ⟨bo,0,none⟩),.pointer (some ⟨bg,0,none⟩)]);replace RW:=RW.far (g:=bg) (by omega) 0 (.func (.func 125) #[] #[.pointer (some ⟨bs,0,none⟩),.pointer (some ⟨bto,0,none⟩),.pointer (some ⟨by_,0,none⟩),.pointer (some ⟨bw,0,none⟩),.pointer (some ⟨bt,0,none⟩),.pointer (some ⟨bf,0,none⟩),.pointer (some ⟨bl,0,none⟩),.pointer (some ⟨bo,0,none⟩),.pointer (some ⟨bg,0,none⟩)]);replace S:=S.far (g:=bg) (by omega) 0 (.func (.func 125) #[] #[.pointer (some ⟨bs,0,none⟩),.pointer (some ⟨bto,0,none⟩),.pointer (some ⟨by_,0,none⟩),.pointer (some ⟨bw,0,none⟩),.pointer (some ⟨bt,0,none⟩),.pointer (some ⟨bf,0,none⟩),.pointer (some ⟨bl,0,none⟩),.pointer (some ⟨bo,0,none⟩),.pointer (some ⟨bg,0,none⟩)]);replace Wr:=Wr.far (g:=bg) (by omega) 0 (.func (.func 125) #[] #[.pointer (some ⟨bs,0,none⟩),.pointer (some ⟨bto,0,none⟩),.pointer (some ⟨by_,0,none⟩),.pointer (some ⟨bw,0,none⟩),.pointer (some ⟨bt,0,none⟩),.pointer (some ⟨bf,0,none⟩),.pointer (some ⟨bl,0,none⟩),.pointer (some ⟨bo,0,none⟩),.pointer (some ⟨bg,0,none⟩)])
  replace Lr:=Lr.far (g:=bg) (by omega) 0 (.func (.func 125) #[] #[.pointer (some ⟨bs,0,none⟩),.pointer (some ⟨bto,0,none⟩),.pointer (some ⟨by_,0,none⟩),.pointer (some ⟨bw,0,none⟩),.pointer (some ⟨bt,0,none⟩),.pointer (some ⟨bf,0,none⟩),.pointer (some ⟨bl,0,none⟩),.pointer (some ⟨bo,0,none⟩),.pointer (some ⟨bg,0,none⟩)]);clear hCn;obtain⟨x,hx'⟩:∃ W',W'=x.setCell ⟨bg,0,none⟩ (.func (.func 125) #[] #[.pointer (some ⟨bs,0,none⟩),.pointer (some ⟨bto,0,none⟩),.pointer (some ⟨by_,0,none⟩),.pointer (some ⟨bw,0,none⟩),.pointer (some ⟨bt,0,none⟩),.pointer (some ⟨bf,0,none⟩),.pointer (some ⟨bl,0,none⟩),.pointer (some ⟨bo,0,none⟩),.pointer (some ⟨bg,0,none⟩)]):=⟨_,rfl⟩;rw[← hx']at hC RS RW S Wr Lr Gr ⊢;clear hx';refine EL ?_
  try simp only[xt,↓reduceIte,Nat.reduceEqDiff]
  have e:Ac Try.f123 11=Code.region 11 _ false:=rfl;rw[e];clear e;refine wp_region ?_;refine BQ rfl rfl (fun K hK=>?_);have e12:=Z.get 12 _ rfl;have c:=Gr.cell (o:=0) rfl;unfold Oper.wp;go_simp;clear e12;refine Z.k hK (by decide) ?_;clear Z hK;intro a Z;refine BQ rfl rfl (fun K hK=>?_);have e43:=Z.get 43 _ rfl;have hCn:=hC.n1;obtain⟨p,hp⟩:∃ p:GP,p=⟨t,s,from_,to_,PZ t,W.heap.size,l,bt,bf,bto,by_,go,bo,bs,bw,bl,bg⟩:=⟨_,rfl⟩;have hO:p.Ord:=by rw[hp];exact⟨hCn.1,hCn.2.1,hCn.2.2,by show bo<bs;omega,o4,o5,o6⟩
  have hJ:JOk J p:=by rw[hp];exact⟨hEnv,hKJ,hlt,hY⟩
  have hol:(PZ t).length=t.roads.strips.length:=by simp[PZ]
  have hM:GM J p x [] (.slice (some ⟨gs0,0,none⟩) ([from_]:List Int).length 1) (.slice (some ⟨gw0,0,none⟩) ([]:List Int).length 0) 0 (.slice (some ⟨gs0,0,none⟩) ([from_]:List Int).length 1) (.slice (some ⟨gw0,0,none⟩) ([]:List Int).length 0) [from_] []:=by
   rw[hp];have hnb:∀ k,(k=gs0∨k=gw0)→k ∉ (⟨t,s,from_,to_,PZ t,W.heap.size,l,bt,bf,bto,by_,go,bo,bs,bw,bl,bg⟩:GP).boxes:=fun k hk hm=>by simp only[GP.boxes,List.mem_cons,List.not_mem_nil,or_false]at hm;omega
   exact⟨HJ0.out x hC.below,hC.ky,by have:=hC.kr;rw[Vm]at this;exact this,by show Rw x bo #[.slice (some ⟨go,0,none⟩) (PZ t).length (PZ t).length] _;rw[hol];exact hC.ko,S,Wr,Lr,Gr,Df.one RS (by show W.heap.size≤gs0;omega),Df.empty RW (by show W.heap.size≤gw0;omega),fun k hk=>⟨hnb k (.inl (by simpa[Value.ownBlock,eq_comm] using hk)),fun e=>by simp[Value.ownBlock]at hk e;omega⟩,fun k hk=>hnb k (.inr (by simpa[Value.ownBlock,eq_comm] using hk)),fun k hk=>by obtain⟨y,hy,_⟩:=hk;simp at hy⟩
  have hgr:=Zr hJ hO (by rw[hp];exact hT) (by rw[hp];exact hol) 7 [from_] [] 0 [] gs0 1 gw0 0 x hM (by simp) (by simp;omega) (by simp) rfl rfl (Int.le_refl _) (by simp);have hcap:p.caps = #[.pointer (some ⟨bs,0,none⟩),.pointer (some ⟨bto,0,none⟩),.pointer (some ⟨by_,0,none⟩),.pointer (some ⟨bw,0,none⟩),.pointer (some ⟨bt,0,none⟩),.pointer (some ⟨bf,0,none⟩),.pointer (some ⟨bl,0,none⟩),.pointer (some ⟨bo,0,none⟩),.pointer (some ⟨bg,0,none⟩)]:=by rw[hp];rfl
  rw[← hcap]at e43;refine MM Try.func125 (by kernel_rfl) (by kernel_rfl) e43 rfl hgr ?_;rintro e x2 ⟨rfl,pre2,gs1,cs1,gw1,cw1,hM2,_,hpre⟩;refine⟨_,rfl,?_⟩;have hj2:=hM2.j;rw[List.map_nil,List.nil_append,hp]at hpre;clear hM hM2 hgr hcap e43;refine Z.k hK (by decide) ?_;clear Z hK;intro a Z;refine EL ?_
  try simp only[xt,↓reduceIte,Nat.reduceEqDiff]
  exact⟨Z.defers,_,results_none Try.results123 _ _ _,⟨_,rfl⟩,pre2,hpre,hj2⟩
end
section
open Go.RowKit
theorem Sl.goI {P:Program}{r:Option Nat}{n N:Nat}{ops:Array Oper}{Q:Exit→Act→World→Prop}{rest:List Nat}{a:Act}{w:World}{m:List (Nat×Value)}{d:Nat}{v:Value}(h:Sl a N m) (hd:d<N) (hG:∀ a',Sl a' N ((d,v)::m)→wpOpsIn (FW r) n P ops Q rest a' w):wpOpsIn (FW r) n P ops Q rest (a.put (some d) v) w:=hG _ (h.put d v hd)
theorem Sl.round {a:Act}{N:Nat}{m:List (Nat×Value)}(h:Sl a N m) (p:Nat) (v:Value) (hp:p<N):Sl ⟨a.tmps.setIfInBounds p v,[]⟩ N ((p,v)::m):=by
 have:=h.put p v hp;have e:a.put (some p) v=⟨a.tmps.setIfInBounds p v,[]⟩:=by simp[Act.put,h.defers]
 rw[e]at this;exact this
theorem HY {f:FuncId}{fn:Func}{c:Code}{args:Array Value}{w:World}{R:Ending→World→Prop}(hf:Try.prog.funcs[f]?=some fn) (hb:fn.body=some c)
  (h:c.wp Try.prog (bodyPostM Fence.wide 5 Try.prog fn R) { tmps:=args++Array.replicate (fn.ntmps-args.size) undef,defers:=[] } w):Calls Try.prog f args w R:=callsIn_wide.1 (callsIn_of_wp_marks (n:=5) hf hb trivial (wpIn_wide.2 h) rfl)
theorem JS {fn:Func}{R:Ending→World→Prop}{a:Act}{W:World}{D:Nat}{v:Value}(ha:a.defers=[{ target:=.collected D,args:=#[] }]) (hD:W.heap[D]?=some (.deferred (some []))) (hv:∀ X:World,X=W.putObj D (.deferred none)→(results fn a.tmps).run Try.prog X=.ok v X) (hR:R (.returned v) (W.putObj D (.deferred none))):LeavesInM Fence.wide 5 Try.prog fn a.tmps R a.defers .returning W:=by
 rw[ha];exact⟨by simp,.inl ⟨D,_,rfl,run_takeDeferred hD,v,hv _ rfl,hR⟩⟩
def YG (o:Option EU) (x:EU):Option EU:=match o with|none=>some x|some b=>if ZL x b<0 then some x else some b
def Yd (l:List EU):Option EU:=l.foldl YG none
def PP (o:Option ChB) (x:ChB):Option ChB:=match o with|none=>some x|some b=>if ZL x.ch b.ch<0 then some x else some b
def Jc (l:List ChB):Option ChB:=l.foldl PP none
theorem WM (o:Option ChB) (x:ChB):(PP o x).map ChB.ch=YG (o.map ChB.ch) x.ch:=by
 cases o with
 | none=>rfl
 | some b=>simp only[PP,YG,Option.map_some];split<;>rfl
theorem VZ (l:List ChB):∀ o:Option ChB,(l.foldl PP o).map ChB.ch=(l.map ChB.ch).foldl YG (o.map ChB.ch):=by
 induction l with
 | nil=>intro o;rfl
 | cons x l ih=>intro o;rw[List.foldl_cons,List.map_cons,List.foldl_cons,ih,WM]
theorem Yg (l:List ChB):(Jc l).map ChB.ch=Yd (l.map ChB.ch):=VZ l none
theorem LV (l:List ChB) (x:ChB):Jc (l++[x])=PP (Jc l) x:=by simp[Jc]
theorem XM (l:List ChB):∀ (o:Option ChB) {b:ChB},l.foldl PP o=some b→b∈l∨o=some b:=by
 induction l with
 | nil=>intro o b h;exact .inr h
 | cons x l ih =>
  intro o b h;rw[List.foldl_cons]at h;rcases ih _ h with h1|h1
  ·exact .inl (by simp[h1])
  ·unfold PP at h1
   cases o with
   | none=>simp at h1;exact .inl (by simp[h1])
   | some b0 =>
    dsimp only at h1
    split at h1
    ·simp at h1;exact .inl (by simp[h1])
    ·exact .inr h1
theorem RH {l:List ChB}{b:ChB}(h:Jc l=some b):b∈l:=(XM l none h).resolve_right (by simp)
def D7 (V:World) (B:Nat) (pre:List ChB):Prop:=∀ y∈pre,Df V B y.v y.ch.way∧y.v ≠ .slice none 0 0∧y.ch.way.length≤1000
theorem D7.keep {V V':World}{B:Nat}{pre:List ChB}(h:D7 V B pre) (hk:∀ k,Gs pre k→V'.heap[k]?=V.heap[k]?):D7 V' B pre:=fun y hy=>⟨(h y hy).1.keep fun g hg=>hk g ⟨y,hy,hg⟩,(h y hy).2⟩
theorem D7.cells {V:World}{B:Nat}{pre:List ChB}(h:D7 V B pre):∀ k,Gs pre k→∃ c t f,V.heap[k]?=some (.cells c t f):=by
 rintro k ⟨y,hy,hk⟩;rcases(h y hy).1.2 with ⟨hv,_⟩|⟨g,cap,cur,hv,_,hh,_⟩
 ·exact absurd hv (h y hy).2.1
 ·have:g=k:=by unfold ChB.own at hk;rw[hv]at hk;simpa[Value.ownBlock] using hk
  subst this;exact⟨_,_,_,hh⟩
theorem D7.snoc {V:World}{B:Nat}{pre:List ChB}{x:ChB}(h:D7 V B pre) (hx:Df V B x.v x.ch.way∧x.v ≠ .slice none 0 0∧x.ch.way.length≤1000):D7 V B (pre++[x]):=fun y hy=>by
 rcases List.mem_append.1 hy with hy|hy
 ·exact h y hy
 ·simp at hy;subst hy;exact hx
theorem D7.nil (V:World) (B:Nat):D7 V B []:=fun y hy=>by simp at hy
theorem N9.Xt {V:World}{pre:List ChB}{B l:Nat}{r:Loop}(h:D7 V B pre) (hl:V.heap[l]?=some (.loop r)):∀ k,Gs pre k→k≠l:=fun k hk e=>by
 obtain⟨c,t,f,hc⟩:=h.cells k hk;rw[e,hl]at hc;simp at hc
theorem N9.Aaf {V:World}{pre:List ChB}{B D:Nat}{o:Option (List Deferred)}(h:D7 V B pre) (hl:V.heap[D]?=some (.deferred o)):∀ k,Gs pre k→k≠D:=fun k hk e=>by
 obtain⟨c,t,f,hc⟩:=h.cells k hk;rw[e,hl]at hc;simp at hc
theorem Rw.putObj {w:World}{b l:Nat}{c:Array Value}{ty:TypeId}(h:Rw w b c ty) (o:Obj) (hne:b≠l):Rw (w.putObj l o) b c ty:=(World.putObj_heap_other hne).trans h
end
end Go.Proofs.Ytgdobbcjkiapkaa
