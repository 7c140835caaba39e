import Derived.Test.YtgdobbcjkiapkaaSv19
import Derived.Test.YtgdobbcjkiapkaaSv04
import Derived.Test.YtgdobbcjkiapkaaSv43
namespace Go.Proofs.Ytgdobbcjkiapkaa
set_option maxRecDepth 100000
set_option maxHeartbeats 4000000
set_option linter.unusedSimpArgs false
set_option linter.unusedVariables false
section
open Go.RowKit
theorem Xu {fr q r:Int}(hf:0≤fr) (h0:0≤q) (h1:q≤40*24) (r0:0≤r) (r1:r≤500):0≤(if fr<q then q-fr else 0)*r∧(if fr<q then q-fr else 0)*r≤480000:=by
 have a:0≤(if fr<q then q-fr else 0)∧(if fr<q then q-fr else 0)≤960:=by split<;>omega
 have b:=Int.mul_le_mul a.2 r1 r0 (by omega);exact⟨Int.mul_nonneg a.1 r0,by omega⟩
theorem Abi {t:Ae}{l:List Ar}(ho:Bc t l=0):l.length≤24:=Classical.byContradiction fun c=>by
 unfold Bc at ho;rw[if_neg (by rw[Ee ho];simp),if_pos (by omega)]at ho;exact absurd ho (by decide)
theorem YD {t:Ae}{l:List Ar}(ho:Bc t l=0) (key:Int×Int) (k:Nat) (hk:k≤l.length):0≤Au (l.take k) key∧Au (l.take k) key≤40*24:=by
 have h1:=EC (l:=l.take k) (t:=t) (fun p hp=>(CZ ho).1 p (List.mem_of_mem_take hp)) key;have h2:=Abi ho;rw[List.length_take]at h1
 omega
theorem Y0:(fun r=>Try.f81.body=some (.seq (r 0) (.seq (r 1) (.seq (.seq (r 2) (.block 0 (.loop (.seq (.seq (r 3) (.cond (.tmp 16) .skip (.exit 0))) (.seq (.block 1 (.seq (r 5) (.cond (.tmp 34) (r 6) .skip))) (r 4)))))) (.seq (r 7) (.seq (r 8) (.seq (.seq (r 9) (.cond (.tmp 60) (.seq (r 10) .ret) .skip)) (.seq (r 11) .ret)))))))) (Ac Try.f81):=by show _=_;kernel_rfl
theorem QT {w:World}{t:Ae}{s:Dt}{l:List Ar}{la:Option Addr}{lc o i:Nat}(hT:Bf w t s) (hP:BV w la l) (ho:Hid (Bc t l=0)) (hio:o<t.Aa.length) (hii:i<t.Af.length):Calls Try.prog 81 #[.agg (CJ t s),.slice la l.length lc,.int .i64 (o:Int),.int .i64 (i:Int)] w (fun e w'=>e=.returned (.int .i64 (atL t l o i))∧Below w.heap.size w w'):=by
 obtain⟨sa,sc,pa,pc,ta,tc⟩:=s;obtain⟨yb,yo,hya,y0,y1,y2⟩:=hT.Aa.at hio;obtain⟨tb,to2,hta,u0,u1,u2⟩:=hT.Af.at hii;replace hya:pa=some ⟨yb,yo,none⟩:=hya;replace hta:ta=some ⟨tb,to2,none⟩:=hta;subst hya;subst hta;simp only[Xj]at y0 y1 y2;simp only[MQ]at u0 u1 u2;have hck:=AY (Ee ho.out);have hpf:=(List.all_eq_true.1 hck.2.2.2.2.2.1) _ (List.getElem_mem hio);simp only[AZ,Bool.and_eq_true]at hpf;have hfr:=Am.1 hpf.2;have hrt:=Am.1 (Ji hck.2.2.2.2.2.2.2.2 _ (List.getElem_mem hii)).2.1;have hl24:=Abi ho.out;have HS:=Lib.hid (YD ho.out ((i:Int),(o:Int)));clear hck hpf;show Calls Try.prog 81 #[.agg #[.int .i64 t.roads.days,.int .i64 t.roads.stages,.slice sa t.roads.strips.length sc,.int .i64 t.pace,.slice (some ⟨yb,yo,none⟩) t.Aa.length pc,.slice (some ⟨tb,to2,none⟩) t.Af.length tc],.slice la l.length lc,.int .i64 (o:Int),.int .i64 (i:Int)] w _;have hB:=Below.refl w.heap.size w;refine call4 Try.func81 Y0 Try.ntmps81 ?_;intro a Z;refine wsr ?_;refine Z.s ?_;clear Z;intro a Z;refine aw ?_;obtain⟨b4,hg⟩:∃ b,b=w.heap.size:=⟨_,rfl⟩;have hy_b4:yb<b4:=by rw[hg];exact lt_of_cell y0
 have ht_b4:tb<b4:=by rw[hg];exact lt_of_cell u1
 intro x hz K4 hb2;rw[← hg]at Z K4;have hhB4:w.heap.size≤b4:=by rw[hg];exact hB.size
 replace hB:=hB.trans (hb2.mono hB.size);replace hP:=hP.below hb2;replace y0:=Ad hb2 y0;replace y1:=Ad hb2 y1;replace y2:=Ad hb2 y2;replace u1:=Ad hb2 u1;clear hz hg hb2;refine Z.e ?_;clear Z;intro a Z;refine wsr ?_;refine Z.e ?_;clear Z;intro a Z;refine wss ?_;refine Z.e ?_;clear Z;intro a Z;refine wp_block ?_
 skip
 refine wp_loop_ghost (fun n p x=>∃ k:Nat,k+n=l.length∧Sl p 64 [(10,.int .i64 (k:Int)),(1,.slice la l.length lc),(2,.int .i64 (o:Int)),(3,.int .i64 (i:Int)),(4,.pointer (some ⟨b4,0,none⟩)),(9,.int .i64 (Au (l.take k) ((i:Int),(o:Int))))]∧Below w.heap.size w x∧BV x la l∧x.cell? ⟨yb,yo+o*3,none⟩=some (.int .i64 t.Aa[o].heads)∧x.cell? ⟨yb,yo+o*3+1,none⟩=some (.int .i64 t.Aa[o].free)∧x.cell? ⟨yb,yo+o*3+2,none⟩=some (.bool t.Aa[o].half)∧x.cell? ⟨tb,to2+i*3+1,none⟩=some (.int .i64 t.Af[i].rate)∧Rw x b4 #[.int .i64 t.roads.days,.int .i64 t.roads.stages,.slice sa t.roads.strips.length sc,.int .i64 t.pace,.slice (some ⟨yb,yo,none⟩) t.Aa.length pc,.slice (some ⟨tb,to2,none⟩) t.Af.length tc] 28) (l.length) ⟨0,by omega,Z.sb,hB,hP,y0,y1,y2,u1,K4⟩ ?_;clear Z hB hP y0 y1 y2 u1 K4;rintro n a x ⟨k,hkn,Z,hB,hP,y0,y1,y2,u1,K4⟩;refine wss ?_;(iterate 3 refine Z.s ?_;clear Z;intro a Z)
 by_cases hlt:k<l.length
 ·have q1:(k:Int)<(l.length:Int):=by omega
  refine Z.e ?_;clear Z;intro a Z;refine Z.ct 16 ?_;refine wp_skip ?_;refine wp_seq ?_;refine wp_block ?_;refine wp_seq ?_;obtain⟨pb,po,hpa,c0,c1,c2⟩:=hP.at hlt;subst hpa;simp only[Oy]at c0 c1 c2;have qk:(k:Int)<(l.length:Int):=by omega
  refine wr ?_;(iterate 4 refine Z.s ?_;clear Z;intro a Z);refine Z.rv rfl rfl rfl (by decide) (Aj rfl (Z.ev 22 rfl) Try.underlying3 rfl (c1)) ?_;clear Z;intro a Z;refine Z.s ?_;clear Z;intro a Z
  by_cases he1:l[k].owner=(o:Int)
  ·have q25:(l[k].owner == (o:Int))=true:=by simp[he1]
   have HE1:=Lib.hid he1;clear he1;(iterate 6 refine Z.x ?_;clear Z;intro a Z);refine oy (Z.g 26) fun K hK=>?_
   have e30:=Z.g 30;have d0:=c0;go_simp;refine Z.K hK ?_;clear Z hK;intro a Z;refine Z.t ?_;clear Z;intro a Z
   by_cases he2:l[k].toll=(i:Int)
   ·have q33:(l[k].toll == (i:Int))=true:=by simp[he2]
    have HE2:=Lib.hid he2;clear he2;(iterate 2 refine Z.x ?_;clear Z;intro a Z);refine od ?_;refine Z.ct 34 ?_;have hs0:=HS.out k (by omega);have hh0:=Am.1 (Td ((CZ ho.out).1 _ (List.getElem_mem hlt))).2.2;refine wr ?_;(iterate 5 refine Z.s ?_;clear Z;intro a Z);refine Z.rv rfl rfl rfl (by decide) (Aj rfl (Z.ev 39 rfl) Try.underlying3 rfl (c2)) ?_;clear Z;intro a Z;refine Z.f (IntWalk.i64_in ((Au (l.take k) ((i:Int),(o:Int)))+l[k].heads) (by omega)) ?_;clear Z;intro a Z;refine Z.e ?_;clear Z;intro a Z;refine wr ?_;refine Z.s ?_;clear Z;intro a Z;refine Z.f (IntWalk.i64_in ((k:Int)+1) (by omega)) ?_;clear Z;intro a Z;refine Z.e ?_;clear Z;intro a Z;have hnx:=Gy hlt ((i:Int),(o:Int));rw[if_pos (by rw[HE1.out,HE2.out])]at hnx;rw[← hnx]at Z;exact⟨n-1,by omega,k+1,by omega,Z.sb,hB,hP,y0,y1,y2,u1,K4⟩
   ·have q33:(l[k].toll == (i:Int))=false:=by simp[he2]
    have HE2:=Lib.hid he2;clear he2;(iterate 2 refine Z.x ?_;clear Z;intro a Z);refine od ?_;refine Z.cs 34 ?_;refine wr ?_;refine Z.s ?_;clear Z;intro a Z;refine Z.f (IntWalk.i64_in ((k:Int)+1) (by omega)) ?_;clear Z;intro a Z;refine Z.e ?_;clear Z;intro a Z;have hnx:=Gy hlt ((i:Int),(o:Int));rw[if_neg (by intro e;simp only[Prod.mk.injEq]at e;exact HE2.out e.1),Int.add_zero]at hnx;rw[← hnx]at Z;exact⟨n-1,by omega,k+1,by omega,Z.sb,hB,hP,y0,y1,y2,u1,K4⟩
  ·have q25:(l[k].owner == (o:Int))=false:=by simp[he1]
   have HE1:=Lib.hid he1;clear he1;(iterate 10 refine Z.x ?_;clear Z;intro a Z);refine od ?_;refine Z.cs 34 ?_;refine wr ?_;refine Z.s ?_;clear Z;intro a Z;refine Z.f (IntWalk.i64_in ((k:Int)+1) (by omega)) ?_;clear Z;intro a Z;refine Z.e ?_;clear Z;intro a Z;have hnx:=Gy hlt ((i:Int),(o:Int));rw[if_neg (by intro e;simp only[Prod.mk.injEq]at e;exact HE1.out e.2),Int.add_zero]at hnx;rw[← hnx]at Z;exact⟨n-1,by omega,k+1,by omega,Z.sb,hB,hP,y0,y1,y2,u1,K4⟩
 ·have q1:¬ (k:Int)<(l.length:Int):=by omega
  obtain rfl:k=l.length:=by omega
  refine Z.e ?_;clear Z;intro a Z;refine Z.cf 16 ?_;refine wp_exit ?_;refine wp_seq ?_;clear hP;rw[List.take_length]at Z;have hsf:=HS.out l.length (Nat.le_refl _);rw[List.take_length]at hsf;have qo:(o:Int)<(t.Aa.length:Int):=by omega
  have qi:(i:Int)<(t.Af.length:Int):=by omega
  have hmb:=Xu (fr:=t.Aa[o].free) (q:=Au l ((i:Int),(o:Int))) (r:=t.Af[i].rate) hfr.1 hsf.1 hsf.2 hrt.1 hrt.2;refine wr ?_;refine Z.s ?_;clear Z;intro a Z;refine Z.rv rfl rfl rfl (by decide) (Aj rfl (Z.ev 42 rfl) Try.underlying25 rfl (K4.cell (o:=4) (v:=.slice (some ⟨yb,yo,none⟩) t.Aa.length pc) rfl)) ?_;clear Z;intro a Z;(iterate 2 refine Z.s ?_;clear Z;intro a Z);refine oz fun K hK=>?_
  have e45:=Z.g 45;have d0:=y0;have d1:=y1;have d2:=y2;go_simp;refine Z.K hK ?_;clear Z hK;intro a Z;refine Z.s ?_;clear Z;intro a Z;refine aw ?_;obtain⟨b11,hg⟩:∃ b,b=x.heap.size:=⟨_,rfl⟩;have hy_b11:yb<b11:=by rw[hg];exact lt_of_cell y0
  have ht_b11:tb<b11:=by rw[hg];exact lt_of_cell u1
  intro x hz K11 hb2;rw[← hg]at Z K11;have hhB11:w.heap.size≤b11:=by rw[hg];exact hB.size
  have h4_11:b4<b11:=by rw[hg];exact K4.lt
  replace hB:=hB.trans (hb2.mono hB.size);replace y0:=Ad hb2 y0;replace y1:=Ad hb2 y1;replace y2:=Ad hb2 y2;replace u1:=Ad hb2 u1;replace K4:=K4.below hb2;clear hz hg hb2;refine Z.rs rfl rfl rfl (Eu rfl (Z.ev 11 rfl) (Z.ev 46 rfl) (by kernel_rfl) K11 rfl rfl) ?_;have hG:=Bh K11 #[.int .i64 t.Aa[o].heads,.int .i64 t.Aa[o].free,.bool t.Aa[o].half];have K_:=K11.setRow #[.int .i64 t.Aa[o].heads,.int .i64 t.Aa[o].free,.bool t.Aa[o].half];replace hB:=ET hB hG (by omega);replace y0:=TS hG y0 (by omega);replace y1:=TS hG y1 (by omega);replace y2:=TS hG y2 (by omega);replace u1:=TS hG u1 (by omega);replace K4:=K4.grown hG (by simp;omega);have K11:=K_;clear hG K_;obtain⟨x,hx2⟩:∃ q,q=x.setRow b11 #[.int .i64 t.Aa[o].heads,.int .i64 t.Aa[o].free,.bool t.Aa[o].half]:=⟨_,rfl⟩;rw[← hx2]at hB y0 y1 y2 u1 K4 K11 ⊢;clear hx2;refine od ?_;refine wp_seq ?_;refine GN rfl (by kernel_rfl) (by kernel_rfl) ?_;(iterate 2 refine Z.u ?_;clear Z;intro a Z);refine Z.q rfl rfl rfl (by decide) ⟨?_,fun y hy K hK=>?_,?_⟩;rotate_left
  ·have e48:=Z.g 48;replace hB:=hB.trans (hy.mono hB.size);replace y0:=Ad hy y0;replace y1:=Ad hy y1;replace y2:=Ad hy y2;replace u1:=Ad hy u1;replace K4:=K4.below hy;replace K11:=K11.below hy;refine AB (Aj rfl (Z.ev 48 rfl) Try.underlying3 rfl (K11.cell (o:=1) (v:=.int .i64 t.Aa[o].free) rfl)) ?_;exact hK
  clear Z;intro a Z;refine Z.q rfl rfl rfl (by decide) ⟨?_,fun y hy K hK=>?_,?_⟩;rotate_left
  ·have e47:=Z.g 47;have e49:=Z.g 49;have hw50:=IntWalk.i64_in ((Au l ((i:Int),(o:Int)))-t.Aa[o].free) (by omega);unfold Oper.Dl;go_simp;exact hK
  clear Z;intro a Z;(iterate 2 refine Z.u ?_;clear Z;intro a Z);refine Z.q rfl rfl rfl (by decide) ⟨?_,fun y hy K hK=>?_,?_⟩;rotate_left
  ·have e52:=Z.g 52;replace hB:=hB.trans (hy.mono hB.size);replace y0:=Ad hy y0;replace y1:=Ad hy y1;replace y2:=Ad hy y2;replace u1:=Ad hy u1;replace K4:=K4.below hy;replace K11:=K11.below hy;refine AB (Aj rfl (Z.ev 52 rfl) Try.underlying26 rfl (K4.cell (o:=5) (v:=.slice (some ⟨tb,to2,none⟩) t.Af.length tc) rfl)) ?_;exact hK
  clear Z;intro a Z;(iterate 3 refine Z.u ?_;clear Z;intro a Z);refine Z.q rfl rfl rfl (by decide) ⟨?_,fun y hy K hK=>?_,?_⟩;rotate_left
  ·have e56:=Z.g 56;replace hB:=hB.trans (hy.mono hB.size);replace y0:=Ad hy y0;replace y1:=Ad hy y1;replace y2:=Ad hy y2;replace u1:=Ad hy u1;replace K4:=K4.below hy;replace K11:=K11.below hy;refine AB (Aj rfl (Z.ev 56 rfl) Try.underlying3 rfl (u1)) ?_;exact hK
  clear Z;intro a Z;refine Z.q rfl rfl rfl (by decide) ⟨?_,fun y hy K hK=>?_,?_⟩;rotate_left
  ·have e51:=Z.g 51;have e57:=Z.g 57;have hw58:=IntWalk.i64_in ((if t.Aa[o].free<Au l ((i:Int),(o:Int)) then Au l ((i:Int),(o:Int))-t.Aa[o].free else 0)*t.Af[i].rate) (by omega);unfold Oper.Dl;go_simp;exact hK
  clear Z;intro a Z;refine Z.u ?_;clear Z;intro a Z;refine E8 ?_;intro x hb2;replace hB:=hB.trans (hb2.mono hB.size);replace y0:=Ad hb2 y0;replace y1:=Ad hb2 y1;replace y2:=Ad hb2 y2;replace u1:=Ad hb2 u1;replace K4:=K4.below hb2;replace K11:=K11.below hb2;clear hb2;refine wss ?_;refine Z.s ?_;clear Z;intro a Z;refine Z.rv rfl rfl rfl (by decide) (Aj rfl (Z.ev 59 rfl) Try.underlying4 rfl (K11.cell (o:=2) (v:=.bool t.Aa[o].half) rfl)) ?_;clear Z;intro a Z;rcases Bool.eq_false_or_eq_true (t.Aa[o].half) with hhf|hhf
  ·rw[hhf]at Z;refine od ?_;refine Z.ct 60 ?_;refine wsr ?_;(iterate 2 refine Z.s ?_;clear Z;intro a Z);refine od ?_;refine wp_ret ?_
   try simp only[xt]
   have eg:t.Aa.getD o default=t.Aa[o]:=by simp[List.getD_eq_getElem?_getD,hio]
   have et:t.Af.getD i default=t.Af[i]:=by simp[List.getD_eq_getElem?_getD,hii]
   have HR:=Lib.hid (show atL t l o i=(if t.Aa[o].free<Au l ((i:Int),(o:Int)) then Au l ((i:Int),(o:Int))-t.Aa[o].free else 0)*t.Af[i].rate from by unfold atL ofV;rw[eg,et,hhf];simp);rw[HR.out];refine bodyPost_ret (v:=.int .i64 ((if t.Aa[o].free<Au l ((i:Int),(o:Int)) then Au l ((i:Int),(o:Int))-t.Aa[o].free else 0)*t.Af[i].rate)) ?_ Z.defers ⟨rfl,hB⟩;simp[results,Try.results81,Z.get 8 _ rfl]
  ·rw[hhf]at Z;refine od ?_;refine Z.cs 60 ?_;refine wsr ?_;refine Z.s ?_;clear Z;intro a Z;refine Z.f (IntWalk.i64_in (2*((if t.Aa[o].free<Au l ((i:Int),(o:Int)) then Au l ((i:Int),(o:Int))-t.Aa[o].free else 0)*t.Af[i].rate)) (by omega)) ?_;clear Z;intro a Z;refine Z.e ?_;clear Z;intro a Z;refine wp_ret ?_
   try simp only[xt]
   have eg:t.Aa.getD o default=t.Aa[o]:=by simp[List.getD_eq_getElem?_getD,hio]
   have et:t.Af.getD i default=t.Af[i]:=by simp[List.getD_eq_getElem?_getD,hii]
   have HR:=Lib.hid (show atL t l o i=2*((if t.Aa[o].free<Au l ((i:Int),(o:Int)) then Au l ((i:Int),(o:Int))-t.Aa[o].free else 0)*t.Af[i].rate) from by unfold atL ofV;rw[eg,et,hhf];show (if false=true then _ else (if t.Aa[o].free<Au l ((i:Int),(o:Int)) then Au l ((i:Int),(o:Int))-t.Aa[o].free else 0)*t.Af[i].rate*2)=_;rw[if_neg (by decide)];omega);rw[HR.out];refine bodyPost_ret (v:=.int .i64 (2*((if t.Aa[o].free<Au l ((i:Int),(o:Int)) then Au l ((i:Int),(o:Int))-t.Aa[o].free else 0)*t.Af[i].rate))) ?_ Z.defers ⟨rfl,hB⟩;simp[results,Try.results81,Z.get 8 _ rfl]
end
end Go.Proofs.Ytgdobbcjkiapkaa
