import Derived.Test.YtgdobbcjkiapkaaSv19
import Derived.Test.YtgdobbcjkiapkaaSv04
import Derived.Test.YtgdobbcjkiapkaaSv34
import Derived.Test.YtgdobbcjkiapkaaSv01
import Derived.Test.YtgdobbcjkiapkaaSv32
import Derived.Test.YtgdobbcjkiapkaaSv35
import Derived.Test.YtgdobbcjkiapkaaSv33
import Derived.Test.YtgdobbcjkiapkaaSv03
import Derived.Test.YtgdobbcjkiapkaaSv02
import Derived.Test.YtgdobbcjkiapkaaSv20
import Derived.Maps.AppendAt
import Derived.Test.YtgdobbcjkiapkaaSv28
namespace Go.Proofs.Ytgdobbcjkiapkaa
set_option maxRecDepth 100000
set_option maxHeartbeats 4000000
set_option linter.unusedSimpArgs false
set_option linter.unusedVariables false
section
open Go.RowKit
theorem UT:(fun r=>Try.f31.body=some (.seq (r 0) (.seq (r 1) (.seq (.seq (r 2) (.cond (.tmp 23) (.seq (r 3) .ret) .skip)) (.seq (r 4) (.seq (.seq (r 5) (.block 0 (.loop (.seq (r 6) (.seq (.cond (.tmp 30) .skip (.exit 0)) (.seq (.block 1 (.seq (r 7) (.seq (r 8) (.seq (.seq (r 9) (.block 2 (.loop (.seq (r 10) (.seq (.cond (.tmp 36) .skip (.exit 2)) (.seq (.block 3 (.seq (r 11) (r 12))) (r 13))))))) (.seq (r 14) (.block 4 (.loop (.seq (r 15) (.seq (.cond (.tmp 56) .skip (.exit 4)) (.seq (.block 5 (.seq (r 16) (.seq (.seq (r 17) (.block 6 (.loop (.seq (r 18) (.seq (.cond (.tmp 59) .skip (.exit 6)) (.seq (.block 7 (.seq (r 19) (.seq (r 20) (.cond (.tmp 66) (r 21) .skip)))) (r 22))))))) (.seq (r 23) (r 24))))) (r 25))))))))))) (r 26))))))) (.seq (r 27) .ret))))))) (Ac Try.f31):=by show _=_;kernel_rfl
theorem Abp {w xs x0:World}{bt bd mb bo br g k j:Nat}{t:Ae}{s:Dt}{l:List Ar}{R:Nat→Int}(hI0:TI w x0 bt t s) (hD0:GL x0 bd mb t s l) (hFL:Fq t l) (hT:Aq t=0) (hk:k<t.Aa.length) (hj:j<t.Af.length) (HB:Below x0.heap.size x0 xs) (hbr:x0.heap.size≤br) (hg:br<g) (K:Rw xs br (ar4 R) 118) (G:Rw xs g #[.int .i64 t.Af[j].strip,.int .i64 t.Af[j].rate,.int .i64 t.Af[j].farmer] 57) (hRb:∀ m,0≤R m∧R m≤200000000000*(j:Int)) {v2 v8 v28 v29 v33 v34 v35:Value}(a:Act) (Z:Sl a 83 [(2,v2),(6,.pointer (some ⟨bd,0,none⟩)),(8,v8),(28,v28),(29,v29),(9,.int .i64 (k:Int)),(10,.pointer (some ⟨br,0,none⟩)),(33,v33),(34,v34),(35,v35),(11,.int .i64 (j:Int)),(12,.pointer (some ⟨g,0,none⟩))]) (Q:Exit→Act→World→Prop)
  (h:∀ a x2,Sl a 83 [(2,v2),(6,.pointer (some ⟨bd,0,none⟩)),(8,v8),(28,v28),(29,v29),(9,.int .i64 (k:Int)),(10,.pointer (some ⟨br,0,none⟩)),(33,v33),(34,v34),(35,v35)]→(∀ B,B≤br→Below B xs x2)→Rw x2 br (ar4 (upd R (TF t j) (R (TF t j)+atL t l k j))) 118→Q .normal a x2):(Ac Try.f31 12).wp Try.prog Q a xs:=by
 obtain⟨_,_,_,_,_,_,_,hl6,hte⟩:=AY hT;have hfm:=Am.1 (Ji hte _ (List.getElem_mem hj)).2.2;obtain⟨m,hm⟩:∃ m:Nat,t.Af[j].farmer-1=(m:Int):=⟨(t.Af[j].farmer-1).toNat,by omega⟩;have hm4:m<4:=by omega
 have hmi:TF t j=m:=by unfold TF;rw[getD_at hj,hm];simp
 rw[hmi]at h;have hww:IntKind.i64.wrap (t.Af[j].farmer-1)=(m:Int):=by rw[IntWalk.i64_in _ (by omega),hm]
 have hab:=hFL.EJ hk j;have hRm:=hRb m;have hw2:IntKind.i64.wrap (R m+atL t l k j)=R m+atL t l k j:=IntWalk.i64_in _ (by omega);clear hm hmi hRb hfm;rw[show Ac Try.f31 12=Code.region 12 _ true from rfl];refine Ic 11 (by kernel_rfl) rfl (by kernel_rfl) (by kernel_rfl) (Z) [some 40,some 41,some 42,some 43,some 44,some 45,some 46,some 47,some 48,some 49,some 50] rfl rfl (fun jj v _=>match jj with|0=>v=.pointer (some ⟨g,2,none⟩)|1=>v=.int .i64 t.Af[j].farmer|2=>v=.int .i64 (m:Int)|3=>v=.pointer (some ⟨br,m,none⟩)|4=>v=.int .i64 (R m)|5=>v=.pointer (some ⟨bd,0,none⟩)|6=>v=.int .i64 (k:Int)|7=>v=.int .i64 (j:Int)|8=>v=.int .i64 (atL t l k j)|9=>v=.int .i64 (R m+atL t l k j)|10=>v=.pointer (some ⟨br,m,none⟩)|_=>True) (fun _ y=>Rw y br (ar4 R) 118∧Rw y g #[.int .i64 t.Af[j].strip,.int .i64 t.Af[j].rate,.int .i64 t.Af[j].farmer] 57∧Below x0.heap.size x0 y∧(∀ B,B≤br→Below B xs y)) ⟨K.below (Below.refl _ _).drew,G.below (Below.refl _ _).drew,HB.trans ((Below.refl _ _).drew.mono HB.size),fun B _=>(Below.refl B xs).drew⟩ ?_ ?_
 ·clear Z;intro k o hkl ho L a x hI hLk Z hs hd;have hlt:∀ k:Nat,k<11→k=0∨k=1∨k=2∨k=3∨k=4∨k=5∨k=6∨k=7∨k=8∨k=9∨k=10:=by decide
  rcases hlt k hkl with rfl|rfl|rfl|rfl|rfl|rfl|rfl|rfl|rfl|rfl|rfl
  ·obtain rfl:=Option.some.inj ho;have e12:=Z.g 12;clear hs hd;refine wz fun K hK=>?_
   go_simp;exact hK _ _ ⟨_,rfl,rfl,hI,fun _ _ h=>h⟩
  ·obtain rfl:=Option.some.inj ho;obtain⟨_,e40,rfl⟩:=hs 0 _ 40 rfl rfl (hd 0 wm);have c:=hI.2.1.cell (o:=2) rfl;clear hs hd;refine wz fun K hK=>?_
   go_simp;exact hK _ _ ⟨_,rfl,rfl,hI,fun _ _ h=>h⟩
  ·obtain rfl:=Option.some.inj ho;obtain⟨_,e41,rfl⟩:=hs 1 _ 41 rfl rfl (hd 1 wm);clear hs hd;refine wz fun K hK=>?_
   go_simp;exact hK _ _ ⟨_,rfl,rfl,hI,fun _ _ h=>h⟩
  ·obtain rfl:=Option.some.inj ho;have e10:=Z.g 10;obtain⟨_,e42,rfl⟩:=hs 2 _ 42 rfl rfl (hd 2 wm);have q4:(m:Int)<4:=by omega
   clear hs hd;refine wz fun K hK=>?_
   go_simp;exact hK _ _ ⟨_,rfl,rfl,hI,fun _ _ h=>h⟩
  ·obtain rfl:=Option.some.inj ho;obtain⟨_,e43,rfl⟩:=hs 3 _ 43 rfl rfl (hd 3 wm);have c:=hI.1.cell (o:=m) (GZ hm4);clear hs hd;refine wz fun K hK=>?_
   go_simp;exact hK _ _ ⟨_,rfl,rfl,hI,fun _ _ h=>h⟩
  ·obtain rfl:=Option.some.inj ho;have e6:=Z.g 6;clear hs hd;refine wz fun K hK=>?_
   go_simp;exact hK _ _ ⟨_,rfl,rfl,hI,fun _ _ h=>h⟩
  ·obtain rfl:=Option.some.inj ho;have e9:=Z.g 9;clear hs hd;refine wz fun K hK=>?_
   go_simp;exact hK _ _ ⟨_,rfl,rfl,hI,fun _ _ h=>h⟩
  ·obtain rfl:=Option.some.inj ho;have e11:=Z.g 11;clear hs hd;refine wz fun K hK=>?_
   go_simp;exact hK _ _ ⟨_,rfl,rfl,hI,fun _ _ h=>h⟩
  ·obtain rfl:=Option.some.inj ho;obtain⟨_,e45,rfl⟩:=hs 5 _ 45 rfl rfl (hd 5 wm);obtain⟨_,e46,rfl⟩:=hs 6 _ 46 rfl rfl (hd 6 wm);obtain⟨_,e47,rfl⟩:=hs 7 _ 47 rfl rfl (hd 7 wm);clear hs hd;refine wz fun K hK=>?_
   go_simp;refine(Aai (hI0.keep hI.2.2.1).tar (hD0.below hI.2.2.1) hFL hk hj).mono ?_;rintro e x2 ⟨rfl,hb⟩;have hI2:Rw x2 br (ar4 R) 118∧Rw x2 g #[.int .i64 t.Af[j].strip,.int .i64 t.Af[j].rate,.int .i64 t.Af[j].farmer] 57∧Below x0.heap.size x0 x2∧(∀ B,B≤br→Below B xs x2):=⟨hI.1.below hb,hI.2.1.below hb,hI.2.2.1.trans (hb.mono hI.2.2.1.size),fun B hB=>(hI.2.2.2 B hB).trans (hb.mono (by have:=hI.1.lt;omega))⟩;clear hI;have hI:=hI2;exact hK _ _ ⟨_,rfl,rfl,hI,fun _ _ h=>h⟩
  ·obtain rfl:=Option.some.inj ho;obtain⟨_,e44,rfl⟩:=hs 4 _ 44 rfl rfl (hd 4 wm);obtain⟨_,e48,rfl⟩:=hs 8 _ 48 rfl rfl (hd 8 wm);clear hs hd;refine wz fun K hK=>?_
   go_simp;exact hK _ _ ⟨_,rfl,rfl,hI,fun _ _ h=>h⟩
  ·obtain rfl:=Option.some.inj ho;have e10:=Z.g 10;obtain⟨_,e42,rfl⟩:=hs 2 _ 42 rfl rfl (hd 2 wm);have q4:(m:Int)<4:=by omega
   clear hs hd;refine wz fun K hK=>?_
   go_simp;exact hK _ _ ⟨_,rfl,rfl,hI,fun _ _ h=>h⟩
 ·clear Z;intro L a x hall hI Z hs;obtain⟨_,e49,rfl⟩:=hs 9 _ 49 rfl rfl (hall 9 (by decide));obtain⟨_,e50,rfl⟩:=hs 10 _ 50 rfl rfl (hall 10 (by decide));have q4:(m:Int)<4:=by omega
  have c:=hI.1.cell (o:=m) (GZ hm4);have z:=hI.1.fz m;clear hs;refine wz fun K hK=>?_
  go_simp;refine hK _ _ (h _ _ Z.sb (fun B hB=>(hI.2.2.2 B hB).setCell (p:=⟨br,m,none⟩) (by show B≤br;exact hB) _) ?_);have:=hI.1.set m (.int .i64 (R m+atL t l k j));rw[TZ hm4]at this;exact this
theorem TE {t:Ae}{s:Dt}{l:List Ar}{la:Option Addr}{lc:Nat}{w:World}(ht:Bf w t s) (hl:BV w la l) (hlm:l.length≤maxLen):Calls Try.prog 31 #[.agg (CJ t s),.slice la l.length lc] w (fun e w'=>Below w.heap.size w w'∧(Bc t l≠0→e=.returned (.tuple #[.slice none 0 0,.int .i64 (Bc t l)]))∧(Bc t l=0→∃ bo,e=.returned (.tuple #[.slice (some ⟨bo,0,none⟩) 4 4,.int .i64 0])∧w.heap.size≤bo∧Rw w' bo (ar4 (Ht t l t.Aa.length)) 3)):=by
 refine I7 Try.func31 UT Try.ntmps31 ?_;intro a Z;refine wsr ?_;refine Z.s ?_;clear Z;intro a Z;refine aw ?_;intro x hz X hb;have hI:=TI.made (Below.refl _ _) ht X hb;obtain⟨bt,hbt⟩:∃ b,b=w.heap.size:=⟨_,rfl⟩;rw[← hbt]at Z hI;clear hz X hb hbt;(iterate 2 refine Z.s ?_;clear Z;intro a Z);refine od ?_;refine wsr ?_;refine oz fun K hK=>?_
 have e2:=Z.g 2;have c0:=hI.c0;have c1:=hI.c1;have c2:=hI.c2;have c3:=hI.c3;have c4:=hI.c4;have c5:=hI.c5;go_simp;refine Z.K hK ?_;clear Z hK;intro a Z;refine Z.s ?_;clear Z;intro a Z;refine oz fun K hK=>?_
 have e17:=Z.g 17;have e18:=Z.g 18;go_simp;refine(J7 hI.tar (hl.below hI.below) hlm).mono ?_;rintro e x2 ⟨hb2,hN,hS⟩;have hxx:=hI.below.size;replace hI:=hI.keep hb2;clear e17 e18
 by_cases h1:Bc t l=0
 ·obtain⟨bd,mb,rfl,hbd,hmb,hD⟩:=hS h1;have HE:=Lib.hid h1;have hne:=BO h1;clear hS hN hb2 hxx h1;refine Z.K hK ?_;clear Z hK;intro a Z;obtain⟨x,hx2⟩:∃ x,x=x2:=⟨_,rfl⟩;rw[← hx2]at hI ⊢ hD;clear hx2;(iterate 5 refine Z.s ?_;clear Z;intro a Z);refine od ?_;refine wss ?_;(iterate 2 refine Z.s ?_;clear Z;intro a Z);refine od ?_;refine Z.cs 23 ?_;refine wsr ?_;refine Z.s ?_;clear Z;intro a Z;refine aw ?_;obtain⟨bo,hg⟩:∃ b,b=x.heap.size:=⟨_,rfl⟩;have hxx:=hI.below.size;obtain⟨x0,hx0⟩:∃ x0,x0=x:=⟨_,rfl⟩;have hI0:=hI;have hD0:=hD;intro x hz O HB;rw[← hg]at Z O;rw[← hx0]at HB hI0 hD0 hxx hg;replace O:Rw x bo (ar4 fun _=>0) 3:=by refine Eq.mp (congrArg (fun c=>Rw x bo c 3) ?_) O;kernel_rfl
  have hbo:x0.heap.size≤bo:=by omega
  clear hI hD hz hg hx0;refine Z.e ?_;clear Z;intro a Z;refine wss ?_;refine Z.s ?_;clear Z;intro a Z;refine Z.f ((hI0.keep HB).c4) ?_;clear Z;intro a Z;(iterate 2 refine Z.s ?_;clear Z;intro a Z);refine od ?_;refine wp_block ?_;have hT:=Ee HE.out;have hFL:=Fq.of hT (CZ HE.out).1 (CZ HE.out).2;obtain⟨_,_,_,_,hl4,_,_,hl6,_⟩:=AY hT;refine wp_loop_ghost (fun n p x=>∃ k:Nat,k+n=t.Aa.length∧Sl p 83 [(2,.pointer (some ⟨bt,0,none⟩)),(6,.pointer (some ⟨bd,0,none⟩)),(8,.slice (some ⟨bo,0,none⟩) 4 4),(28,.int .i64 (t.Aa.length:Int)),(29,.int .i64 (k:Int))]∧Below x0.heap.size x0 x∧Rw x bo (ar4 (Ht t l k)) 3) t.Aa.length ⟨0,by omega,Z.sb,HB,O⟩ ?_;clear Z HB O;rintro n a x ⟨k,hkn,Z,HB,O⟩;refine wsr ?_
  by_cases hlt:k<t.Aa.length
  ·have q1:(k:Int)<(t.Aa.length:Int):=by omega
   refine Z.e ?_;clear Z;intro a Z;refine wp_seq ?_;refine Z.ct 30 ?_;refine wp_skip ?_;refine wp_seq ?_;refine wp_block ?_;refine wsr ?_;(iterate 2 refine Z.s ?_;clear Z;intro a Z);refine od ?_;refine wsr ?_;refine oz fun K hK=>?_
   obtain⟨br,hg⟩:∃ b,b=x.heap.size:=⟨_,rfl⟩;go_simp;refine Z.K hK ?_;clear Z hK;intro a Z;refine aw ?_;have hl1:=O.lt;intro x hz R hb;rw[← hg]at Z R;replace R:Rw x br (ar4 fun _=>0) 118:=R;replace O:=O.below hb;have hbr:bo<br:=by omega
   replace HB:=HB.trans (hb.mono HB.size);clear hz hg hb hl1;refine od ?_;refine wss ?_;refine Z.s ?_;clear Z;intro a Z;refine Z.f ((hI0.keep HB).c5) ?_;clear Z;intro a Z;(iterate 2 refine Z.s ?_;clear Z;intro a Z);refine od ?_;refine wp_block ?_;refine wp_loop_ghost (fun n p x=>∃ j:Nat,j+n=t.Af.length∧Sl p 83 [(2,.pointer (some ⟨bt,0,none⟩)),(6,.pointer (some ⟨bd,0,none⟩)),(8,.slice (some ⟨bo,0,none⟩) 4 4),(28,.int .i64 (t.Aa.length:Int)),(29,.int .i64 (k:Int)),(9,.int .i64 (k:Int)),(10,.pointer (some ⟨br,0,none⟩)),(33,.slice s.ta t.Af.length s.tc),(34,.int .i64 (t.Af.length:Int)),(35,.int .i64 (j:Int))]∧Below x0.heap.size x0 x∧Rw x bo (ar4 (Ht t l k)) 3∧Rw x br (ar4 (PT t l k j)) 118) t.Af.length ⟨0,by omega,Z.sb,HB,O,R⟩ ?_;clear Z HB O R;rintro n2 a x ⟨j,hjn,Z,HB,O,R⟩;refine wsr ?_
   by_cases hj:j<t.Af.length
   ·have q2:(j:Int)<(t.Af.length:Int):=by omega
    obtain⟨tb,to_,hta,p0,p1,p2⟩:=(hI0.keep HB).tar.Af.at hj;rw[hta]at Z;simp only[MQ]at p0 p1 p2;refine Z.e ?_;clear Z;intro a Z;refine wp_seq ?_;refine Z.ct 36 ?_;refine wp_skip ?_;refine wp_seq ?_;refine wp_block ?_;refine wsr ?_;(iterate 3 refine Z.s ?_;clear Z;intro a Z);refine oz fun K hK=>?_
    obtain⟨g,hg⟩:∃ b,b=x.heap.size:=⟨_,rfl⟩;go_simp;refine Z.K hK ?_;clear Z hK;intro a Z;refine Z.s ?_;clear Z;intro a Z;refine oz fun K hK=>?_
    have e12:=Z.g 12;have e39:=Z.g 39;go_simp;clear e12 e39;refine hK _ _ ?_;clear hK;refine aw ?_;have hl1:=R.lt;intro x hz G hb;rw[← hg]at Z G;replace R:=R.below hb;replace O:=O.below hb;have hbg:br<g:=by omega
    replace HB:=HB.trans (hb.mono HB.size);clear hz hg hb hl1 p0 p1 p2;refine od ?_;refine Abp (bo:=bo) hI0 hD0 hFL hT hlt hj HB (by omega) hbg R G (Gu hFL hlt j) a Z.sb _ ?_;clear Z;intro a x2 Z hb R2;replace O:=(hb (bo+1) (by omega)).block bo (by omega) |>.trans O
    replace HB:=HB.trans (hb x0.heap.size (by omega));clear hb R G;have R:=R2;clear R2;obtain⟨x,hx2⟩:∃ x,x=x2:=⟨_,rfl⟩;rw[← hx2]at R O HB ⊢;clear hx2;replace O:Rw x bo (ar4 (Ht t l k)) 3:=O;refine wr ?_;refine Z.f (Bz j (by omega)) ?_;clear Z;intro a Z;refine Z.e ?_;clear Z;intro a Z;show Exists _;exact⟨n2-1,by omega,j+1,by omega,by rw[hta];exact Z.sb,HB,O,R⟩
   ·obtain rfl:j=t.Af.length:=by omega
    refine Z.e ?_;clear Z;intro a Z;refine wp_seq ?_;refine Z.cf 36 ?_;refine wp_exit ?_;refine wsr ?_;(iterate 2 refine Z.s ?_;clear Z;intro a Z);refine oz fun K hK=>?_
    have e52:=Z.g 52;have e53:=Z.g 53;go_simp;refine(XW (hI0.keep HB).tar (hD0.below HB) hFL hlt).mono ?_;rintro e x ⟨rfl,hb⟩;replace O:=O.below hb;replace R:=R.below hb;replace HB:=HB.trans (hb.mono HB.size);clear hb;refine Z.K hK ?_;clear Z hK;intro a Z;obtain⟨D,hDe⟩:∃ D:Nat,Eh t l k=(D:Int):=⟨(Eh t l k).toNat,by have:=(XV hFL hlt hl6).1;omega⟩;rw[hDe]at Z;have HDE:=Lib.hid (show (Eh t l k).toNat=D from by rw[hDe];simp);have hDb:D≤6000000001:=by have:=(XV hFL hlt hl6).2;omega
    clear hDe;refine Z.e ?_;clear Z;intro a Z;refine wp_block ?_;obtain⟨p0,hp0⟩:∃ p0,p0=(PT t l k t.Af.length,Ht t l k):=⟨_,rfl⟩;have hbb:=Iu (Gu hFL hlt t.Af.length) (fun z=>MJ hFL hl6 k z (by omega));rw[← hp0]at hbb;have HBB:=Lib.hid hbb;have HNX:=Lib.hid (show (Fv p0 D).2=Ht t l (k+1) from by rw[hp0,← HDE.out];rfl);replace R:Rw x br (ar4 (Fv p0 0).1) 118:=by rw[hp0];exact R
    replace O:Rw x bo (ar4 (Fv p0 0).2) 3:=by rw[hp0];exact O
    clear hp0 hbb HDE;refine wp_loop_ghost (fun n p x=>∃ i:Nat,i+n=D∧Sl p 83 [(2,.pointer (some ⟨bt,0,none⟩)),(6,.pointer (some ⟨bd,0,none⟩)),(8,.slice (some ⟨bo,0,none⟩) 4 4),(28,.int .i64 (t.Aa.length:Int)),(29,.int .i64 (k:Int)),(9,.int .i64 (k:Int)),(10,.pointer (some ⟨br,0,none⟩)),(54,.int .i64 (D:Int)),(55,.int .i64 (i:Int))]∧Below x0.heap.size x0 x∧Rw x bo (ar4 (Fv p0 i).2) 3∧Rw x br (ar4 (Fv p0 i).1) 118) D ⟨0,by omega,Z.sb,HB,O,R⟩ ?_;clear Z HB O R;rintro n3 a x ⟨i,hin,Z,HB,O,R⟩;refine wsr ?_
    by_cases hi:i<D
    ·have q3:(i:Int)<(D:Int):=by omega
     refine Z.e ?_;clear Z;intro a Z;refine wp_seq ?_;refine Z.ct 56 ?_;refine wp_skip ?_;refine wp_seq ?_;refine wp_block ?_;refine wp_seq ?_;have HST:Hid (Fv p0 (i+1)=Aat (Fv p0 i)):=Lib.hid rfl;have hcb:=HBB.out i;generalize Fv p0 i=cp at HST hcb O R;obtain⟨r,o4⟩:=cp;have hrb:∀ z,-(200*(i:Int))≤r z∧r z≤200000000000*(t.Af.length:Int):=fun z=>⟨(hcb z).1,(hcb z).2.1⟩
     have hob:∀ z,0≤o4 z∧o4 z≤6000000001*(k:Int)+(i:Int):=fun z=>⟨(hcb z).2.2.1,(hcb z).2.2.2⟩
     clear hcb;replace R:Rw x br (ar4 r) 118:=R;replace O:Rw x bo (ar4 o4) 3:=O;refine wr ?_;refine Z.e ?_;clear Z;intro a Z;refine wss ?_;refine oz fun K hK=>?_
     have e10:=Z.g 10;have c0:=R.cell (o:=0) rfl;have c1:=R.cell (o:=1) rfl;have c2:=R.cell (o:=2) rfl;have c3:=R.cell (o:=3) rfl;go_simp;refine Z.K hK ?_;clear Z hK;intro a Z;refine Z.e ?_;clear Z;intro a Z;refine wp_block ?_;refine wp_loop_ghost (fun n p x=>∃ f:Nat,f+n=4∧Sl p 83 [(2,.pointer (some ⟨bt,0,none⟩)),(6,.pointer (some ⟨bd,0,none⟩)),(8,.slice (some ⟨bo,0,none⟩) 4 4),(28,.int .i64 (t.Aa.length:Int)),(29,.int .i64 (k:Int)),(9,.int .i64 (k:Int)),(10,.pointer (some ⟨br,0,none⟩)),(54,.int .i64 (D:Int)),(55,.int .i64 (i:Int)),(13,.int .i64 (DT r f:Int)),(57,.agg #[.int .i64 (r 0),.int .i64 (r 1),.int .i64 (r 2),.int .i64 (r 3)]),(58,.int .i64 (f:Int))]∧Below x0.heap.size x0 x∧Rw x bo (ar4 o4) 3∧Rw x br (ar4 r) 118) 4 ⟨0,by omega,Z.sb,HB,O,R⟩ ?_;clear Z HB O R;rintro n4 a x ⟨f,hfn,Z,HB,O,R⟩;refine wsr ?_
     by_cases hf:f<4
     ·have q5:(f:Int)<4:=by omega
      refine Z.e ?_;clear Z;intro a Z;refine wp_seq ?_;refine Z.ct 59 ?_;refine wp_skip ?_;refine wp_seq ?_;refine wp_block ?_;refine wsr ?_;refine Z.s ?_;clear Z;intro a Z;rcases lt4 hf with hfe|hfe|hfe|hfe
      ·subst hfe;refine Z.s ?_;clear Z;intro a Z;replace Z:=(show Sl _ 83 ((61,.int .i64 (r 0))::_) from Z);(iterate 2 refine Z.s ?_;clear Z;intro a Z);refine od ?_;refine wsr ?_;(iterate 2 refine Z.s ?_;clear Z;intro a Z);refine oz fun K hK=>?_
       have e10:=Z.g 10;have e63:=Z.g 63;have q4:(DT r 0:Int)<4:=by have:=F6 r (f:=0) (by omega);omega
       go_simp;refine Z.K hK ?_;clear Z hK;intro a Z;refine Z.f (R.cell (o:=DT r 0) (GZ (F6 r (by omega)))) ?_;clear Z;intro a Z
       by_cases h7:r 0 > r (DT r 0)
       ·have HP:=Lib.hid (show DT r (0+1)=0 from if_pos h7);refine Z.e ?_;clear Z;intro a Z;refine Z.ct 66 ?_;refine wr ?_;(iterate 2 refine Z.s ?_;clear Z;intro a Z);refine od ?_;refine wr ?_;refine Z.f (Bz 0 (by omega)) ?_;clear Z;intro a Z;refine Z.e ?_;clear Z;intro a Z;show Exists _;exact⟨n4-1,by omega,0+1,by omega,by rw[HP.out];exact Z.sb,HB,O,R⟩
       ·have HP:=Lib.hid (show DT r (0+1)=DT r 0 from if_neg h7);refine Z.e ?_;clear Z;intro a Z;refine Z.cs 66 ?_;refine wr ?_;refine Z.f (Bz 0 (by omega)) ?_;clear Z;intro a Z;refine Z.e ?_;clear Z;intro a Z;show Exists _;exact⟨n4-1,by omega,0+1,by omega,by rw[HP.out];exact Z.sb,HB,O,R⟩
      ·subst hfe;refine Z.s ?_;clear Z;intro a Z;replace Z:=(show Sl _ 83 ((61,.int .i64 (r 1))::_) from Z);(iterate 2 refine Z.s ?_;clear Z;intro a Z);refine od ?_;refine wsr ?_;(iterate 2 refine Z.s ?_;clear Z;intro a Z);refine oz fun K hK=>?_
       have e10:=Z.g 10;have e63:=Z.g 63;have q4:(DT r 1:Int)<4:=by have:=F6 r (f:=1) (by omega);omega
       go_simp;refine Z.K hK ?_;clear Z hK;intro a Z;refine Z.f (R.cell (o:=DT r 1) (GZ (F6 r (by omega)))) ?_;clear Z;intro a Z
       by_cases h7:r 1 > r (DT r 1)
       ·have HP:=Lib.hid (show DT r (1+1)=1 from if_pos h7);refine Z.e ?_;clear Z;intro a Z;refine Z.ct 66 ?_;refine wr ?_;(iterate 2 refine Z.s ?_;clear Z;intro a Z);refine od ?_;refine wr ?_;refine Z.f (Bz 1 (by omega)) ?_;clear Z;intro a Z;refine Z.e ?_;clear Z;intro a Z;show Exists _;exact⟨n4-1,by omega,1+1,by omega,by rw[HP.out];exact Z.sb,HB,O,R⟩
       ·have HP:=Lib.hid (show DT r (1+1)=DT r 1 from if_neg h7);refine Z.e ?_;clear Z;intro a Z;refine Z.cs 66 ?_;refine wr ?_;refine Z.f (Bz 1 (by omega)) ?_;clear Z;intro a Z;refine Z.e ?_;clear Z;intro a Z;show Exists _;exact⟨n4-1,by omega,1+1,by omega,by rw[HP.out];exact Z.sb,HB,O,R⟩
      ·subst hfe;refine Z.s ?_;clear Z;intro a Z;replace Z:=(show Sl _ 83 ((61,.int .i64 (r 2))::_) from Z);(iterate 2 refine Z.s ?_;clear Z;intro a Z);refine od ?_;refine wsr ?_;(iterate 2 refine Z.s ?_;clear Z;intro a Z);refine oz fun K hK=>?_
       have e10:=Z.g 10;have e63:=Z.g 63;have q4:(DT r 2:Int)<4:=by have:=F6 r (f:=2) (by omega);omega
       go_simp;refine Z.K hK ?_;clear Z hK;intro a Z;refine Z.f (R.cell (o:=DT r 2) (GZ (F6 r (by omega)))) ?_;clear Z;intro a Z
       by_cases h7:r 2 > r (DT r 2)
       ·have HP:=Lib.hid (show DT r (2+1)=2 from if_pos h7);refine Z.e ?_;clear Z;intro a Z;refine Z.ct 66 ?_;refine wr ?_;(iterate 2 refine Z.s ?_;clear Z;intro a Z);refine od ?_;refine wr ?_;refine Z.f (Bz 2 (by omega)) ?_;clear Z;intro a Z;refine Z.e ?_;clear Z;intro a Z;show Exists _;exact⟨n4-1,by omega,2+1,by omega,by rw[HP.out];exact Z.sb,HB,O,R⟩
       ·have HP:=Lib.hid (show DT r (2+1)=DT r 2 from if_neg h7);refine Z.e ?_;clear Z;intro a Z;refine Z.cs 66 ?_;refine wr ?_;refine Z.f (Bz 2 (by omega)) ?_;clear Z;intro a Z;refine Z.e ?_;clear Z;intro a Z;show Exists _;exact⟨n4-1,by omega,2+1,by omega,by rw[HP.out];exact Z.sb,HB,O,R⟩
      ·subst hfe;refine Z.s ?_;clear Z;intro a Z;replace Z:=(show Sl _ 83 ((61,.int .i64 (r 3))::_) from Z);(iterate 2 refine Z.s ?_;clear Z;intro a Z);refine od ?_;refine wsr ?_;(iterate 2 refine Z.s ?_;clear Z;intro a Z);refine oz fun K hK=>?_
       have e10:=Z.g 10;have e63:=Z.g 63;have q4:(DT r 3:Int)<4:=by have:=F6 r (f:=3) (by omega);omega
       go_simp;refine Z.K hK ?_;clear Z hK;intro a Z;refine Z.f (R.cell (o:=DT r 3) (GZ (F6 r (by omega)))) ?_;clear Z;intro a Z
       by_cases h7:r 3 > r (DT r 3)
       ·have HP:=Lib.hid (show DT r (3+1)=3 from if_pos h7);refine Z.e ?_;clear Z;intro a Z;refine Z.ct 66 ?_;refine wr ?_;(iterate 2 refine Z.s ?_;clear Z;intro a Z);refine od ?_;refine wr ?_;refine Z.f (Bz 3 (by omega)) ?_;clear Z;intro a Z;refine Z.e ?_;clear Z;intro a Z;show Exists _;exact⟨n4-1,by omega,3+1,by omega,by rw[HP.out];exact Z.sb,HB,O,R⟩
       ·have HP:=Lib.hid (show DT r (3+1)=DT r 3 from if_neg h7);refine Z.e ?_;clear Z;intro a Z;refine Z.cs 66 ?_;refine wr ?_;refine Z.f (Bz 3 (by omega)) ?_;clear Z;intro a Z;refine Z.e ?_;clear Z;intro a Z;show Exists _;exact⟨n4-1,by omega,3+1,by omega,by rw[HP.out];exact Z.sb,HB,O,R⟩
     ·obtain rfl:f=4:=by omega
      refine Z.e ?_;clear Z;intro a Z;refine wp_seq ?_;refine Z.cf 59 ?_;refine wp_exit ?_
      try simp only[xt,↓reduceIte,Nat.reduceEqDiff]
      obtain⟨m,hm⟩:∃ m,m=DT r 4:=⟨_,rfl⟩;have hm4:m<4:=by rw[hm];exact F6 r (Nat.le_refl _)
      rw[← hm]at Z;replace HST:=Lib.hid (show Fv p0 (i+1)=(upd r m (r m-200),upd o4 m (o4 m+1)) from by rw[HST.out,hm];rfl);clear hm;refine wsr ?_;refine Z.s ?_;clear Z;intro a Z;refine oz fun K hK=>?_
      have e10:=Z.g 10;have e69:=Z.g 69;have q4:(m:Int)<4:=by omega
      go_simp;refine Z.K hK ?_;clear Z hK;intro a Z;refine Z.f (R.cell (o:=m) (GZ hm4)) ?_;clear Z;intro a Z;refine oz fun K hK=>?_
      have e71:=Z.g 71;have hww:IntKind.i64.wrap (r m-200)=r m-200:=IntWalk.i64_in _ (by have:=hrb m;omega);go_simp;refine Z.K hK ?_;clear Z hK;intro a Z;refine oz fun K hK=>?_
      have e10:=Z.g 10;have e69:=Z.g 69;have q4:(m:Int)<4:=by omega
      go_simp;refine Z.K hK ?_;clear Z hK;intro a Z;refine oz fun K hK=>?_
      have e72:=Z.g 72;have e73:=Z.g 73;have c:=R.cell (o:=m) (GZ hm4);have z:=R.fz m;go_simp;clear e72 e73;refine hK _ _ ?_;clear hK;replace R:=R.set m (.int .i64 (r m-200));rw[TZ hm4]at R;replace O:=O.far (g:=br) (by omega) m (.int .i64 (r m-200));replace HB:=HB.setCell (p:=⟨br,m,none⟩) (by show x0.heap.size≤br;omega) (.int .i64 (r m-200));clear c z;obtain⟨x,hx2⟩:∃ q,q=x.setCell ⟨br,m,none⟩ (.int .i64 (r m-200)):=⟨_,rfl⟩;rw[← hx2]at R O HB ⊢;clear hx2;refine od ?_;refine wr ?_;(iterate 2 refine Z.s ?_;clear Z;intro a Z);refine oz fun K hK=>?_
      have e74:=Z.g 74;have e75:=Z.g 75;have q4:(m:Int)<4:=by omega
      go_simp;refine Z.K hK ?_;clear Z hK;intro a Z;refine Z.f (O.cell (o:=m) (GZ hm4)) ?_;clear Z;intro a Z;refine oz fun K hK=>?_
      have e77:=Z.g 77;have hww:IntKind.i64.wrap (o4 m+1)=o4 m+1:=IntWalk.i64_in _ (by have:=hob m;omega);go_simp;refine Z.K hK ?_;clear Z hK;intro a Z;refine oz fun K hK=>?_
      have e74:=Z.g 74;have e75:=Z.g 75;have q4:(m:Int)<4:=by omega
      go_simp;refine Z.K hK ?_;clear Z hK;intro a Z;refine oz fun K hK=>?_
      have e78:=Z.g 78;have e79:=Z.g 79;have c:=O.cell (o:=m) (GZ hm4);have z:=O.fz m;go_simp;clear e78 e79;refine hK _ _ ?_;clear hK;replace O:=O.set m (.int .i64 (o4 m+1));rw[TZ hm4]at O;replace R:=R.far (g:=bo) (by omega) m (.int .i64 (o4 m+1));replace HB:=HB.setCell (p:=⟨bo,m,none⟩) (by show x0.heap.size≤bo;omega) (.int .i64 (o4 m+1));clear c z;refine od ?_;refine wr ?_;refine oz fun K hK=>?_
      have e55:=Z.g 55;have hww:IntKind.i64.wrap ((i:Int)+1)=((i+1:Nat):Int):=by rw[IntWalk.i64_in _ (by omega)];simp
      go_simp;refine Z.K hK ?_;clear Z hK;intro a Z;refine Z.e ?_;clear Z;intro a Z;show Exists _;exact⟨n3-1,by omega,i+1,by omega,Z.sb,HB,(by rw[HST.out];exact O),(by rw[HST.out];exact R)⟩
    ·obtain rfl:i=D:=by omega
     refine Z.e ?_;clear Z;intro a Z;refine wp_seq ?_;refine Z.cf 56 ?_;refine wp_exit ?_
     try simp only[xt,↓reduceIte,Nat.reduceEqDiff]
     rw[HNX.out]at O;refine wr ?_;refine Z.f (Bz k (by omega)) ?_;clear Z;intro a Z;refine Z.e ?_;clear Z;intro a Z;show Exists _;exact⟨n-1,by omega,k+1,by omega,Z.sb,HB,O⟩
  ·obtain rfl:k=t.Aa.length:=by omega
   refine Z.e ?_;clear Z;intro a Z;refine wp_seq ?_;refine Z.cf 30 ?_;refine wp_exit ?_;refine wsr ?_;(iterate 3 refine Z.s ?_;clear Z;intro a Z);refine od ?_;refine wp_ret ?_
   try simp only[xt]
   refine bodyPost_ret (v:=.tuple #[.slice (some ⟨bo,0,none⟩) 4 4,.int .i64 0]) ?_ Z.defers ⟨(hI0.keep HB).below,fun h=>absurd HE.out h,fun _=>⟨bo,rfl,by omega,O⟩⟩;simp[results,Try.results31,Z.get 4 _ rfl,Z.get 5 _ rfl]
 ·obtain rfl:=hN h1;have HE:=Lib.hid h1;have hne:=CB h1;clear hS hN hb2 hxx h1;refine Z.K hK ?_;clear Z hK;intro a Z;obtain⟨x,hx2⟩:∃ x,x=x2:=⟨_,rfl⟩;rw[← hx2]at hI ⊢;clear hx2;(iterate 5 refine Z.s ?_;clear Z;intro a Z);refine od ?_;refine wss ?_;(iterate 2 refine Z.s ?_;clear Z;intro a Z);refine od ?_;refine Z.ct 23 ?_;refine wsr ?_;(iterate 3 refine Z.s ?_;clear Z;intro a Z);refine od ?_;refine wp_ret ?_
  try simp only[xt]
  refine bodyPost_ret (v:=.tuple #[.slice none 0 0,.int .i64 (Bc t l)]) ?_ Z.defers ⟨hI.below,fun _=>rfl,fun h=>absurd h HE.out⟩;simp[results,Try.results31,Z.get 4 _ rfl,Z.get 5 _ rfl]
end
section
open Go Go.Conc
open Go.RowKit
theorem CS {w:World}{b:Nat}{l:List Int}{t:TypeId}(K:Rw w b (F7 l) t):AX w (some ⟨b,0,none⟩) l:=.inr ⟨b,0,rfl,fun i hi=>by rw[Nat.zero_add];exact K.cell (ND hi)⟩
theorem Np {w:World}{la lb:Option Addr}{ca cb n m:Nat}{l:List Int}(ha:AX w la l) (hb:AX w lb l) (h1:n=l.length) (h2:m=l.length) (hn:l.length≤1000000):Calls Try.prog 28 #[.slice la n ca,.slice lb m cb] w (fun e w'=>e=.returned (.bool true)∧Below w.heap.size w w'):=by
 subst h1 h2;exact(QJ ha hb hn).mono fun e w' h=>⟨by rw[h.1,decide_eq_true rfl],h.2⟩
theorem WZ {w:World}{la lb:Option Addr}{ca cb n m:Nat}{l:List Ar}(ha:BV w la l) (hb:BV w lb l) (h1:n=l.length) (h2:m=l.length) (hn:l.length≤1000000):Calls Try.prog 41 #[.slice la n ca,.slice lb m cb] w (fun e w'=>e=.returned (.bool true)∧Below w.heap.size w w'):=by
 subst h1 h2;exact(QI ha hb hn).mono fun e w' h=>⟨by rw[h.1,decide_eq_true rfl],h.2⟩
theorem Abu {M:Machine}{w:World}{s:Dt}{la:Option Addr}{lc:Nat}(hT:Bf w exT s) (hP:BV w la exL):Dz Try.prog M 30 #[.agg (CJ exT s),.slice la 4 lc] w (fun e w'=>Below w.heap.size w w'∧∃ g,e=.returned (.tuple #[.slice (some ⟨g,0,none⟩) 2 2,.int .i64 0])∧AX w' (some ⟨g,0,none⟩) [9,5]):=by
 refine(ZF (l:=exL) (lc:=lc) hT hP (by show 4≤maxLen;decide)).mono ?_;rintro e w' ⟨hb,_,hz⟩;obtain⟨g,rfl,_,hG⟩:=hz XO;have e2:Bv (Eh exT exL) exT.Aa.length=[9,5]:=Abr;rw[e2]at hG ⊢;exact⟨hb,g,rfl,CS hG⟩
theorem Abt {w:World}{s:Dt}{la:Option Addr}{lc:Nat}(hT:Bf w exT s) (hP:BV w la exL):Calls Try.prog 31 #[.agg (CJ exT s),.slice la 4 lc] w (fun e w'=>Below w.heap.size w w'∧∃ g,e=.returned (.tuple #[.slice (some ⟨g,0,none⟩) 4 4,.int .i64 0])∧AX w' (some ⟨g,0,none⟩) [9,5,0,0]):=by
 refine(TE (l:=exL) (lc:=lc) hT hP (by show 4≤maxLen;decide)).mono ?_;rintro e w' ⟨hb,_,hz⟩;obtain⟨g,rfl,_,hG⟩:=hz XO;refine⟨hb,g,rfl,CS (l:=[9,5,0,0]) (t:=3) ?_⟩;have h:=AaL;simp only[Prod.mk.injEq]at h;obtain⟨h0,h1,h2,h3⟩:=h
 have e2:ar4 (Ht exT exL exT.Aa.length)=F7 [9,5,0,0]:=by
  show #[Value.int .i64 (Ht exT exL 2 0),.int .i64 (Ht exT exL 2 1),.int .i64 (Ht exT exL 2 2),.int .i64 (Ht exT exL 2 3)]=_;rw[h0,h1,h2,h3];rfl
 rw[← e2];exact hG
theorem AaO {w:World}{s:Dt}{wa:Option Addr}(hT:Bf w exT s) (hw:AX w wa [0,1]):Calls Try.prog 35 #[.agg (CJ exT s),.int .i64 0,.slice wa 2 2] w (fun e w'=>Below w.heap.size w w'∧∃ la lc,e=.returned (.tuple #[.slice la 4 lc,.int .i64 0])∧BV w' la exL):=by
 refine(V6 (way:=[0,1]) hT hw (by decide) (by decide)).mono ?_;rintro e w' ⟨hb,v,rfl,hO,_⟩;have h:=Zx;rw[h]at hO ⊢;obtain⟨a,c,rfl,_,_,hP⟩:=hO.at;exact⟨hb,a,c,rfl,hP⟩
theorem AaM {w:World}{s:Dt}{wa:Option Addr}(hT:Bf w exT s) (hw:AX w wa [0,1]):Calls Try.prog 25 #[.agg (CJ exT s),.int .i64 0,.slice wa 2 2,.int .i64 1,.int .i64 5] w (fun e w'=>e=.returned (.tuple #[.int .i64 11,.int .i64 0])∧Below w.heap.size w w'):=by
 refine(XI (way:=[0,1]) hT hw (by decide) (by decide)).mono ?_;rintro e w' ⟨rfl,hb⟩;rw[Zv];exact⟨rfl,hb⟩
theorem AaN {w:World}{s:Dt}(hT:Bf w exT s):Calls Try.prog 48 #[.agg (CJ exT s),.int .i64 0,.int .i64 2] w (fun e w'=>Below w.heap.size w w'∧∃ la lc,e=.returned (.tuple #[.slice la 2 lc,.int .i64 14,.int .i64 0])∧AX w' la [0,1]):=by
 refine(Rx hT).mono ?_;rintro e w' ⟨hb,_,hz⟩;have h:=Zw;obtain⟨c,hc,hcc⟩:=Option.map_eq_some_iff.1 h;simp only[Prod.mk.injEq]at hcc;obtain⟨v,rfl,hO,hn,_⟩:=hz c hc;obtain⟨g,cc,rfl,_,_,_,_,hi⟩:=hO.sl hn;rw[hcc.1]at hi ⊢;rw[hcc.2];exact⟨hb,some ⟨g,0,none⟩,cc,rfl,hi⟩
theorem Tf:(fun r=>Try.f18.body=some (.seq (r 0) (.seq (r 1) (.seq (r 2) (.seq (r 3) (.seq (r 4) (.seq (r 5) (.seq (r 6) .ret)))))))) (Ac Try.f18):=by show _=_;kernel_rfl
theorem JM {M:Machine}{w:World}:Dz Try.prog M 18 #[] w (fun e w'=>e=.returned (.bool true)∧Below w.heap.size w w'):=by
 have hno:Je (bodyPost Try.prog Try.f18 (fun e w'=>e=.returned (.bool true)∧Below w.heap.size w w')):=Hl (fun w h=>by cases h.1);have hb:=Below.refl w.heap.size w;refine Fh Dk Try.func18 Tf ?_ (fun w h=>by cases h.1);have Z:Sl (⟨#[]++Array.replicate (Try.f18.ntmps-(#[]:Array Value).size) undef,[]⟩:Act) 88 []:=by rw[Try.ntmps18];exact Sl.Abx
 revert Z;generalize (Act.mk _ _)=a;intro Z;refine BD Dk ?_;refine wpo Dk ?_;refine wr ?_;refine Z.e ?_;clear Z;intro a Z;refine BD Dk ?_;refine wpr Dk ?_;refine Bj rfl rfl (fun K hK=>?_);unfold Oper.wp;go_simp;refine(I4).mono ?_;rintro e x ⟨hb2,s13,rfl,hT13⟩;replace hb:=hb.trans (hb2.mono hb.size);clear hb2;refine Z.kX hK (by decide) ?_;clear Z hK;intro a Z;refine Bj rfl rfl (fun K hK=>?_);unfold Oper.wp;go_simp;refine(NJ).mono ?_;rintro e x ⟨hb2,b14,rfl,hbw14,hP14⟩;replace hb:=hb.trans (hb2.mono hb.size);replace hT13:=hT13.below hb2;clear hb2;refine Z.kX hK (by decide) ?_;clear Z hK;intro a Z;have e13:=Z.g 13;have e14:=Z.g 14;refine Il rfl rfl rfl Try.func30 (by kernel_rfl) (by kernel_rfl) (args:=#[.agg (CJ exT s13),.slice (some ⟨b14,0,none⟩) 4 4]) (by simp[Act.eval,Array.getD_eq_getD_getElem?,e13,e14]) (Abu hT13 hP14) ?_;clear e13 e14;rintro e x ⟨hb2,g15,rfl,hI15⟩;replace hb:=hb.trans (hb2.mono hb.size);clear hb2 hT13 hP14;refine⟨_,rfl,?_⟩;refine Z.goX (by decide) ?_;clear Z;intro a Z;refine Bj rfl rfl (fun K hK=>?_);have e15:=Z.g 15;unfold Oper.wp;go_simp;clear e15;refine Z.kX hK (by decide) ?_;clear Z hK;intro a Z
 refine Bj rfl rfl (fun K hK=>?_);have e12:=Z.g 12;unfold Oper.wp;go_simp;clear e12;refine Z.kX hK (by decide) ?_;clear Z hK;intro a Z;refine Bj rfl rfl (fun K hK=>?_);have e12:=Z.g 12;unfold Oper.wp;go_simp;clear e12;refine Z.kX hK (by decide) ?_;clear Z hK;intro a Z;refine Bj rfl rfl (fun K hK=>?_);have e16:=Z.g 16;unfold Oper.wp;go_simp;clear e16;refine Z.kX hK (by decide) ?_;clear Z hK;intro a Z;refine Bj rfl rfl (fun K hK=>?_);have e17:=Z.g 17;unfold Oper.wp;go_simp;clear e17;refine Z.kX hK (by decide) ?_;clear Z hK;intro a Z;refine Fb ?_;refine wpo Dk ?_;refine wsr ?_;refine oz fun K hK=>?_
 go_simp;refine(I4).mono ?_;rintro e x ⟨hb2,s19,rfl,hT19⟩;replace hb:=hb.trans (hb2.mono hb.size);replace hI15:=hI15.below hb2;clear hb2;refine Z.K hK ?_;clear Z hK;intro a Z;refine oz fun K hK=>?_
 go_simp;refine(NJ).mono ?_;rintro e x ⟨hb2,b20,rfl,hbw20,hP20⟩;replace hb:=hb.trans (hb2.mono hb.size);replace hI15:=hI15.below hb2;replace hT19:=hT19.below hb2;clear hb2;refine Z.K hK ?_;clear Z hK;intro a Z;refine oz fun K hK=>?_
 have e19:=Z.g 19;have e20:=Z.g 20;go_simp;refine(Abt hT19 hP20).mono ?_;rintro e x ⟨hb2,g21,rfl,hI21⟩;replace hb:=hb.trans (hb2.mono hb.size);replace hI15:=hI15.below hb2;replace hT19:=hT19.below hb2;replace hP20:=hP20.below hb2;clear hb2;clear hT19 hP20;refine Z.K hK ?_;clear Z hK;intro a Z;(iterate 5 refine Z.s ?_;clear Z;intro a Z);refine od ?_;refine wsr ?_;refine oz fun K hK=>?_
 go_simp;refine(I4).mono ?_;rintro e x ⟨hb2,s25,rfl,hT25⟩;replace hb:=hb.trans (hb2.mono hb.size);replace hI15:=hI15.below hb2;replace hI21:=hI21.below hb2;clear hb2;refine Z.K hK ?_;clear Z hK;intro a Z;refine Z.s ?_;clear Z;intro a Z;refine aw ?_;obtain⟨b26,hg⟩:∃ b,b=x.heap.size:=⟨_,rfl⟩;intro x hz K26 hb2;rw[← hg]at Z K26;have hhb26:w.heap.size≤b26:=by rw[hg];exact hb.size
 replace hb:=hb.trans (hb2.mono hb.size);replace hI15:=hI15.below hb2;replace hI21:=hI21.below hb2;replace hT25:=hT25.below hb2;clear hz hg hb2;refine oz fun K hK=>?_
 have e25:=Z.g 25;have e26:=Z.g 26;go_simp;refine(AaO hT25 (CS (l:=[0,1]) K26)).mono ?_;rintro e x ⟨hb2,la27,lc27,rfl,hP27⟩;replace hb:=hb.trans (hb2.mono hb.size);replace hI15:=hI15.below hb2;replace hI21:=hI21.below hb2;replace hT25:=hT25.below hb2;replace K26:=K26.below hb2;clear hb2;clear hT25 K26;refine Z.K hK ?_;clear Z hK;intro a Z;(iterate 5 refine Z.s ?_;clear Z;intro a Z);refine od ?_;refine wsr ?_;refine oz fun K hK=>?_
 go_simp;refine(I4).mono ?_;rintro e x ⟨hb2,s31,rfl,hT31⟩;replace hb:=hb.trans (hb2.mono hb.size);replace hI15:=hI15.below hb2;replace hI21:=hI21.below hb2;replace hP27:=hP27.below hb2;clear hb2;refine Z.K hK ?_;clear Z hK;intro a Z;refine oz fun K hK=>?_
 have e31:=Z.g 31;go_simp;refine(AaN hT31).mono ?_;rintro e x ⟨hb2,la32,lc32,rfl,hI32⟩;replace hb:=hb.trans (hb2.mono hb.size);replace hI15:=hI15.below hb2;replace hI21:=hI21.below hb2;replace hP27:=hP27.below hb2;replace hT31:=hT31.below hb2;clear hb2;clear hT31;refine Z.K hK ?_;clear Z hK;intro a Z;(iterate 7 refine Z.s ?_;clear Z;intro a Z);refine od ?_;refine wsr ?_;refine oz fun K hK=>?_
 go_simp;refine(I4).mono ?_;rintro e x ⟨hb2,s37,rfl,hT37⟩;replace hb:=hb.trans (hb2.mono hb.size);replace hI15:=hI15.below hb2;replace hI21:=hI21.below hb2;replace hP27:=hP27.below hb2;replace hI32:=hI32.below hb2;clear hb2;refine Z.K hK ?_;clear Z hK;intro a Z;refine Z.s ?_;clear Z;intro a Z;refine aw ?_;obtain⟨b38,hg⟩:∃ b,b=x.heap.size:=⟨_,rfl⟩;intro x hz K38 hb2;rw[← hg]at Z K38;have hhb38:w.heap.size≤b38:=by rw[hg];exact hb.size
 replace hb:=hb.trans (hb2.mono hb.size);replace hI15:=hI15.below hb2;replace hI21:=hI21.below hb2;replace hP27:=hP27.below hb2;replace hI32:=hI32.below hb2;replace hT37:=hT37.below hb2;clear hz hg hb2;refine oz fun K hK=>?_
 have e37:=Z.g 37;have e38:=Z.g 38;go_simp;refine(AaM hT37 (CS (l:=[0,1]) K38)).mono ?_;rintro e x ⟨rfl,hb2⟩;replace hb:=hb.trans (hb2.mono hb.size);replace hI15:=hI15.below hb2;replace hI21:=hI21.below hb2;replace hP27:=hP27.below hb2;replace hI32:=hI32.below hb2;replace hT37:=hT37.below hb2;replace K38:=K38.below hb2;clear hb2;clear hT37 K38;refine Z.K hK ?_;clear Z hK;intro a Z;(iterate 5 refine Z.s ?_;clear Z;intro a Z);refine od ?_;refine wsr ?_;(iterate 29 refine Z.x ?_;clear Z;intro a Z);refine aw ?_;obtain⟨b70,hg⟩:∃ b,b=x.heap.size:=⟨_,rfl⟩;intro x hz K70 hb2;rw[← hg]at Z K70
 have hhb70:w.heap.size≤b70:=by rw[hg];exact hb.size
 replace hb:=hb.trans (hb2.mono hb.size);replace hI15:=hI15.below hb2;replace hI21:=hI21.below hb2;replace hP27:=hP27.below hb2;replace hI32:=hI32.below hb2;clear hz hg hb2;refine oy (Z.g 68) fun K hK=>?_
 have e69:=Z.g 69;have e70:=Z.g 70;go_simp;refine(Np hI15 (CS (l:=[9,5]) K70) rfl rfl (by decide)).mono ?_;rintro e x ⟨rfl,hb2⟩;replace hb:=hb.trans (hb2.mono hb.size);replace hI15:=hI15.below hb2;replace hI21:=hI21.below hb2;replace hP27:=hP27.below hb2;replace hI32:=hI32.below hb2;replace K70:=K70.below hb2;clear hb2;refine Z.K hK ?_;clear Z hK;intro a Z;(iterate 4 refine Z.x ?_;clear Z;intro a Z);refine aw ?_;obtain⟨b75,hg⟩:∃ b,b=x.heap.size:=⟨_,rfl⟩;intro x hz K75 hb2;rw[← hg]at Z K75;have hhb75:w.heap.size≤b75:=by rw[hg];exact hb.size
 have h70_75:b70<b75:=by rw[hg];exact K70.lt
 replace hb:=hb.trans (hb2.mono hb.size);replace hI15:=hI15.below hb2;replace hI21:=hI21.below hb2;replace hP27:=hP27.below hb2;replace hI32:=hI32.below hb2;replace K70:=K70.below hb2;clear hz hg hb2;refine oy (Z.g 73) fun K hK=>?_
 have e74:=Z.g 74;have e75:=Z.g 75;go_simp;refine(Np hI21 (CS (l:=[9,5,0,0]) K75) rfl rfl (by decide)).mono ?_;rintro e x ⟨rfl,hb2⟩;replace hb:=hb.trans (hb2.mono hb.size);replace hI15:=hI15.below hb2;replace hI21:=hI21.below hb2;replace hP27:=hP27.below hb2;replace hI32:=hI32.below hb2;replace K70:=K70.below hb2;replace K75:=K75.below hb2;clear hb2;refine Z.K hK ?_;clear Z hK;intro a Z;(iterate 3 refine Z.x ?_;clear Z;intro a Z);refine oy (Z.g 78) fun K hK=>?_
 go_simp;refine(NJ).mono ?_;rintro e x ⟨hb2,b80,rfl,hbw80,hP80⟩;replace hb:=hb.trans (hb2.mono hb.size);replace hI15:=hI15.below hb2;replace hI21:=hI21.below hb2;replace hP27:=hP27.below hb2;replace hI32:=hI32.below hb2;replace K70:=K70.below hb2;replace K75:=K75.below hb2;clear hb2;refine Z.K hK ?_;clear Z hK;intro a Z;refine oy (Z.g 78) fun K hK=>?_
 have e79:=Z.g 79;have e80:=Z.g 80;go_simp;refine(WZ hP27 hP80 rfl rfl (by decide)).mono ?_;rintro e x ⟨rfl,hb2⟩;replace hb:=hb.trans (hb2.mono hb.size);replace hI15:=hI15.below hb2;replace hI21:=hI21.below hb2;replace hP27:=hP27.below hb2;replace hI32:=hI32.below hb2;replace K70:=K70.below hb2;replace K75:=K75.below hb2;replace hP80:=hP80.below hb2;clear hb2;refine Z.K hK ?_;clear Z hK;intro a Z;(iterate 4 refine Z.x ?_;clear Z;intro a Z);refine aw ?_;obtain⟨b85,hg⟩:∃ b,b=x.heap.size:=⟨_,rfl⟩;intro x hz K85 hb2;rw[← hg]at Z K85;have hhb85:w.heap.size≤b85:=by rw[hg];exact hb.size
 have h75_85:b75<b85:=by rw[hg];exact K75.lt
 replace hb:=hb.trans (hb2.mono hb.size);replace hI15:=hI15.below hb2;replace hI21:=hI21.below hb2;replace hP27:=hP27.below hb2;replace hI32:=hI32.below hb2;replace K70:=K70.below hb2;replace K75:=K75.below hb2;replace hP80:=hP80.below hb2;clear hz hg hb2;refine oy (Z.g 83) fun K hK=>?_
 have e84:=Z.g 84;have e85:=Z.g 85;go_simp;refine(Np hI32 (CS (l:=[0,1]) K85) rfl rfl (by decide)).mono ?_;rintro e x ⟨rfl,hb2⟩;replace hb:=hb.trans (hb2.mono hb.size);replace hI15:=hI15.below hb2;replace hI21:=hI21.below hb2;replace hP27:=hP27.below hb2;replace hI32:=hI32.below hb2;replace K70:=K70.below hb2;replace K75:=K75.below hb2;replace hP80:=hP80.below hb2;replace K85:=K85.below hb2;clear hb2;refine Z.K hK ?_;clear Z hK;intro a Z;(iterate 2 refine Z.s ?_;clear Z;intro a Z);refine od ?_;refine wp_ret ?_
 try simp only[xt]
 exact Z.rt (v:=.bool true) 0 ⟨rfl,hb⟩
end
section
open Go Go.Conc Go.RowKit
section
variable {P:Program}{M:Machine}{ops:Array Oper}{Q:Exit→Act→World→Prop}{C:World→Prop}{lb eff:Nat→Bool}
end
section
variable {P:Program}{M:Machine}{ops:Array Oper}{C:World→Prop}{Q:Exit→Act→World→Prop}{lb eff:Nat→Bool}{i:Nat}{rest:List Nat}{o:Oper}{a:Act}{w:World}{n d:Nat}{m:List (Nat×Value)}{v:Value}
end
section
variable {P:Program}{ops:Array Oper}{C:World→Prop}{eff:Nat→Bool}{Qt:Act→World→Prop}{n0:Nat}
end
section
variable {P:Program}{ops:Array Oper}{C:World→Prop}{Q:Exit→Act→World→Prop}{lb eff:Nat→Bool}{i:Nat}{rest:List Nat}{o:Oper}{a:Act}{w:World}{n d:Nat}{m:List (Nat×Value)}
end
end
section
open Go Go.Conc Go.RowKit
section
variable {P:Program}{M:Machine}{ops:Array Oper}{C:World→Prop}{Q:Exit→Act→World→Prop}{lb eff:Nat→Bool}{i:Nat}{rest:List Nat}{o:Oper}{a:Act}{w:World}{n d:Nat}{m:List (Nat×Value)}{v:Value}
end
end
section
open Go.RowKit
end
section
open Go.RowKit
open Go.ChangeMaps (setBlock)
structure Ext (m:Nat) (w w':World):Prop where
 os:w'.os=w.os
 tape:w'.tape=w.tape
 output:w'.output=w.output
 size:w.heap.size≤w'.heap.size
 block:∀ k,k<w.heap.size→k≠m→w'.heap[k]?=w.heap[k]?
theorem Ext.refl (m:Nat) (w:World):Ext m w w:=⟨rfl,rfl,rfl,Nat.le_refl _,fun _ _ _=>rfl⟩
theorem Ext.trans {m:Nat}{a b c:World}(h:Ext m a b) (k:Ext m b c):Ext m a c :=
 ⟨k.os.trans h.os,k.tape.trans h.tape,k.output.trans h.output,Nat.le_trans h.size k.size,fun i hi hne=>(k.block i (Nat.lt_of_lt_of_le hi h.size) hne).trans (h.block i hi hne)⟩
theorem Ext.of_below {m:Nat}{w w':World}(h:Below w.heap.size w w'):Ext m w w':=⟨h.os,h.tape,h.output,h.size,fun k hk _=>h.block k hk⟩
theorem Ext.below {m B:Nat}{w0 w w':World}(h:Ext m w w') (hb:Below B w0 w) (hB:B≤m) (hBw:B≤w.heap.size):Below B w0 w' :=
 hb.trans ⟨h.os,h.tape,h.output,h.size,fun k hk=>h.block k (by omega) (by omega)⟩
end
section
open Go.RowKit
open Go.ChangeMaps (setBlock)
section
variable {r:Ew}{f:Flock}{shut day:Int}{q:Int×Int}{k:Nat}{s:Strip}{eo:Int×Bool}
end
end
section
open Go.RowKit
section
variable {r:Ew}{f:Flock}{shut d left b0:Int}{V:Int×Int→Int}{p q:Int×Int}
end
end
section
open Go.RowKit
open Go.ChangeMaps (setBlock)
end
section
open Go.RowKit
def bd (f:Flock) (last d l:Int):Int:=(last+1-d)*f.pace-l
end
section
open Go.RowKit
end
end Go.Proofs.Ytgdobbcjkiapkaa
