import Derived.Test.YtgdobbcjkiapkaaSv19
import Derived.Test.YtgdobbcjkiapkaaSv04
import Derived.Test.YtgdobbcjkiapkaaSv42
import Derived.Test.YtgdobbcjkiapkaaSv37
import Derived.Test.YtgdobbcjkiapkaaSv39
import Derived.Test.YtgdobbcjkiapkaaSv38
import Derived.Test.YtgdobbcjkiapkaaSv36
namespace Go.Proofs.Ytgdobbcjkiapkaa
set_option maxRecDepth 100000
set_option maxHeartbeats 4000000
set_option linter.unusedSimpArgs false
set_option linter.unusedVariables false
section
open Go.RowKit
theorem Tv:(fun r=>Try.f27.body=some (.seq (r 0) (.seq (.seq (r 1) (.cond (.tmp 59) (.seq (r 2) .ret) .skip)) (.seq (.seq (r 3) (.block 0 (.loop (.seq (.seq (r 4) (.cond (.tmp 65) .skip (.exit 0))) (.seq (.block 1 (.seq (r 6) (.cond (.tmp 80) (.seq (r 7) .ret) .skip))) (r 5)))))) (.seq (.seq (r 8) (.block 2 (.loop (.seq (.seq (r 9) (.cond (.tmp 85) .skip (.exit 2))) (.seq (.block 3 (.seq (r 11) (.cond (.tmp 98) (.seq (r 12) .ret) .skip))) (r 10)))))) (.seq (.seq (r 13) (.block 4 (.loop (.seq (.seq (r 14) (.cond (.tmp 103) .skip (.exit 4))) (.seq (.block 5 (.seq (r 16) (.cond (.tmp 116) (.seq (r 17) .ret) .skip))) (r 15)))))) (.seq (r 18) .ret))))))) (Ac Try.f27):=by show _=_;kernel_rfl
theorem U4 {w:World}{t:Ae}{s s2:Dt}(hT:Bf w t s) (hU:Bf w t s2) (h1:t.roads.strips.length≤1000) (h2:t.Aa.length≤1000) (h3:t.Af.length≤1000):Calls Try.prog 27 #[.agg (CJ t s),.agg (CJ t s2)] w (fun e w'=>e=.returned (.bool true)∧Below w.heap.size w w'):=by
 obtain⟨sa,sc,pa,pc,ta,tc⟩:=s;obtain⟨sa2,sc2,pa2,pc2,ta2,tc2⟩:=s2;have hB:=Below.refl w.heap.size w;have hT0:=hT;have hU0:=hU;have q1:(t.roads.days != t.roads.days)=false:=by simp
 have q2:(t.roads.stages != t.roads.stages)=false:=by simp
 have q3:(t.pace != t.pace)=false:=by simp
 have q4:((t.roads.strips.length:Int) != (t.roads.strips.length:Int))=false:=by simp
 have q5:((t.Aa.length:Int) != (t.Aa.length:Int))=false:=by simp
 have q6:((t.Af.length:Int) != (t.Af.length:Int))=false:=by simp
 refine I7 Try.func27 Tv Try.ntmps27 ?_;intro a Z;refine wsr ?_;refine Z.s ?_;clear Z;intro a Z;refine aw ?_;obtain⟨b2,hg⟩:∃ b,b=w.heap.size:=⟨_,rfl⟩;intro x hz K2 hb2;rw[← hg]at Z K2;have hhB2:w.heap.size≤b2:=by rw[hg];exact hB.size
 replace hB:=hB.trans (hb2.mono hB.size);replace hT:=hT0.below hB;replace hU:=hU0.below hB;clear hz hg hb2;refine Z.s ?_;clear Z;intro a Z;refine aw ?_;obtain⟨b3,hg⟩:∃ b,b=x.heap.size:=⟨_,rfl⟩;intro x hz K3 hb2;rw[← hg]at Z K3;have hhB3:w.heap.size≤b3:=by rw[hg];exact hB.size
 have h2_3:b2<b3:=by rw[hg];exact K2.lt
 replace hB:=hB.trans (hb2.mono hB.size);replace hT:=hT0.below hB;replace hU:=hU0.below hB;replace K2:=K2.below hb2;clear hz hg hb2;refine Z.e ?_;clear Z;intro a Z;refine wss ?_;(iterate 2 refine Z.s ?_;clear Z;intro a Z);refine Z.rv rfl rfl rfl (by decide) (Aj rfl (Z.ev 9 rfl) Try.underlying3 rfl (K2.cell (o:=0) (v:=.int .i64 t.roads.days) rfl)) ?_;clear Z;intro a Z;(iterate 2 refine Z.s ?_;clear Z;intro a Z);refine Z.rv rfl rfl rfl (by decide) (Aj rfl (Z.ev 12 rfl) Try.underlying3 rfl (K3.cell (o:=0) (v:=.int .i64 t.roads.days) rfl)) ?_;clear Z;intro a Z;(iterate 4 refine Z.x ?_;clear Z;intro a Z);refine oy (Z.g 15) fun K hK=>?_
 have e17:=Z.g 17;have c1:=K2.cell (o:=1) (v:=.int .i64 t.roads.stages) rfl;go_simp;refine Z.K hK ?_;clear Z hK;intro a Z;(iterate 2 refine Z.t ?_;clear Z;intro a Z);refine oy (Z.g 15) fun K hK=>?_
 have e20:=Z.g 20;have c1:=K3.cell (o:=1) (v:=.int .i64 t.roads.stages) rfl;go_simp;refine Z.K hK ?_;clear Z hK;intro a Z;(iterate 4 refine Z.x ?_;clear Z;intro a Z);refine oy (Z.g 24) fun K hK=>?_
 have e25:=Z.g 25;have c3:=K2.cell (o:=3) (v:=.int .i64 t.pace) rfl;go_simp;refine Z.K hK ?_;clear Z hK;intro a Z;refine Z.t ?_;clear Z;intro a Z;refine oy (Z.g 24) fun K hK=>?_
 have e27:=Z.g 27;have c3:=K3.cell (o:=3) (v:=.int .i64 t.pace) rfl;go_simp;refine Z.K hK ?_;clear Z hK;intro a Z;(iterate 5 refine Z.x ?_;clear Z;intro a Z);refine oy (Z.g 31) fun K hK=>?_
 have e33:=Z.g 33;have c2:=K2.cell (o:=2) (v:=.slice sa t.roads.strips.length sc) rfl;go_simp;refine Z.K hK ?_;clear Z hK;intro a Z;(iterate 3 refine Z.t ?_;clear Z;intro a Z);refine oy (Z.g 31) fun K hK=>?_
 have e37:=Z.g 37;have c2:=K3.cell (o:=2) (v:=.slice sa2 t.roads.strips.length sc2) rfl;go_simp;refine Z.K hK ?_;clear Z hK;intro a Z;(iterate 5 refine Z.x ?_;clear Z;intro a Z);refine oy (Z.g 42) fun K hK=>?_
 have e43:=Z.g 43;have c4:=K2.cell (o:=4) (v:=.slice pa t.Aa.length pc) rfl;go_simp;refine Z.K hK ?_;clear Z hK;intro a Z;(iterate 2 refine Z.t ?_;clear Z;intro a Z);refine oy (Z.g 42) fun K hK=>?_
 have e46:=Z.g 46;have c4:=K3.cell (o:=4) (v:=.slice pa2 t.Aa.length pc2) rfl;go_simp;refine Z.K hK ?_;clear Z hK;intro a Z;(iterate 5 refine Z.x ?_;clear Z;intro a Z);refine oy (Z.g 51) fun K hK=>?_
 have e52:=Z.g 52;have c5:=K2.cell (o:=5) (v:=.slice ta t.Af.length tc) rfl;go_simp;refine Z.K hK ?_;clear Z hK;intro a Z;(iterate 2 refine Z.t ?_;clear Z;intro a Z);refine oy (Z.g 51) fun K hK=>?_
 have e55:=Z.g 55;have c5:=K3.cell (o:=5) (v:=.slice ta2 t.Af.length tc2) rfl;go_simp;refine Z.K hK ?_;clear Z hK;intro a Z;(iterate 3 refine Z.x ?_;clear Z;intro a Z);refine od ?_;refine Z.cs 59 ?_;refine wss ?_;refine Z.e ?_;clear Z;intro a Z;refine wp_block ?_;refine wp_loop_ghost (fun n p x=>∃ k:Nat,k+n=t.roads.strips.length∧Sl p 117 [(5,.int .i64 (k:Int)),(2,.pointer (some ⟨b2,0,none⟩)),(3,.pointer (some ⟨b3,0,none⟩))]∧Below w.heap.size w x∧Bf x t ⟨sa,sc,pa,pc,ta,tc⟩∧Bf x t ⟨sa2,sc2,pa2,pc2,ta2,tc2⟩∧Rw x b2 #[.int .i64 t.roads.days,.int .i64 t.roads.stages,.slice sa t.roads.strips.length sc,.int .i64 t.pace,.slice pa t.Aa.length pc,.slice ta t.Af.length tc] 28∧Rw x b3 #[.int .i64 t.roads.days,.int .i64 t.roads.stages,.slice sa2 t.roads.strips.length sc2,.int .i64 t.pace,.slice pa2 t.Aa.length pc2,.slice ta2 t.Af.length tc2] 28) (t.roads.strips.length) ⟨0,by omega,Z.sb,hB,hT,hU,K2,K3⟩ ?_;clear Z hB hT hU K2 K3;rintro n a x ⟨k,hkn,Z,hB,hT,hU,K2,K3⟩;refine wss ?_;(iterate 3 refine Z.s ?_;clear Z;intro a Z)
 refine Z.rv rfl rfl rfl (by decide) (Aj rfl (Z.ev 62 rfl) Try.underlying22 rfl (K2.cell (o:=2) (v:=.slice sa t.roads.strips.length sc) rfl)) ?_;clear Z;intro a Z;refine Z.s ?_;clear Z;intro a Z
 by_cases hlt:k<t.roads.strips.length
 ·have q1:(k:Int)<(t.roads.strips.length:Int):=by omega
  refine Z.e ?_;clear Z;intro a Z;refine Z.ct 65 ?_;refine wp_skip ?_;refine wp_seq ?_;refine wp_block ?_;refine wp_seq ?_;obtain⟨b_,o_,ha_,u0,u1,u2,u3,u4,u5,u6⟩:=hT.strips.at hlt;replace ha_:sa=some ⟨b_,o_,none⟩:=ha_;subst ha_;obtain⟨b2_,o2_,ha2_,y0,y1,y2,y3,y4,y5,y6⟩:=hU.strips.at hlt;replace ha2_:sa2=some ⟨b2_,o2_,none⟩:=ha2_;subst ha2_;have qk:(k:Int)<(t.roads.strips.length:Int):=by omega
  replace K2:Rw x b2 #[.int .i64 t.roads.days,.int .i64 t.roads.stages,.slice (some ⟨b_,o_,none⟩) t.roads.strips.length sc,.int .i64 t.pace,.slice pa t.Aa.length pc,.slice ta t.Af.length tc] 28:=K2;replace K3:Rw x b3 #[.int .i64 t.roads.days,.int .i64 t.roads.stages,.slice (some ⟨b2_,o2_,none⟩) t.roads.strips.length sc2,.int .i64 t.pace,.slice pa2 t.Aa.length pc2,.slice ta2 t.Af.length tc2] 28:=K3;refine GN rfl (by kernel_rfl) (by kernel_rfl) ?_;(iterate 2 refine Z.u ?_;clear Z;intro a Z);refine Z.q rfl rfl rfl (by decide) ⟨?_,fun y hy K hK=>?_,?_⟩;rotate_left
  ·have e69:=Z.g 69;replace hB:=hB.trans (hy.mono hB.size);replace hT:=hT0.below hB;replace hU:=hU0.below hB;replace K2:=K2.below hy;replace K3:=K3.below hy;replace u0:=Ad hy u0;replace y0:=Ad hy y0;replace u1:=Ad hy u1;replace y1:=Ad hy y1;replace u2:=Ad hy u2;replace y2:=Ad hy y2;replace u3:=Ad hy u3;replace y3:=Ad hy y3;replace u4:=Ad hy u4;replace y4:=Ad hy y4;replace u5:=Ad hy u5;replace y5:=Ad hy y5;replace u6:=Ad hy u6;replace y6:=Ad hy y6;refine AB (Aj rfl (Z.ev 69 rfl) Try.underlying22 rfl (K2.cell (o:=2) (v:=.slice (some ⟨b_,o_,none⟩) t.roads.strips.length sc) rfl)) ?_;exact hK
  clear Z;intro a Z;(iterate 2 refine Z.u ?_;clear Z;intro a Z);refine Z.q rfl rfl rfl (by decide) ⟨?_,fun y hy K hK=>?_,?_⟩;rotate_left
  ·have e72:=Z.g 72;replace hB:=hB.trans (hy.mono hB.size);replace hT:=hT0.below hB;replace hU:=hU0.below hB;replace K2:=K2.below hy;replace K3:=K3.below hy;replace u0:=Ad hy u0;replace y0:=Ad hy y0;replace u1:=Ad hy u1;replace y1:=Ad hy y1;replace u2:=Ad hy u2;replace y2:=Ad hy y2;replace u3:=Ad hy u3;replace y3:=Ad hy y3;replace u4:=Ad hy u4;replace y4:=Ad hy y4;replace u5:=Ad hy u5;replace y5:=Ad hy y5;replace u6:=Ad hy u6;replace y6:=Ad hy y6;have d0:=u0;have d1:=u1;have d2:=u2;have d3:=u3;have d4:=u4;have d5:=u5;have d6:=u6;unfold Oper.Dl;go_simp;exact hK
  clear Z;intro a Z;(iterate 2 refine Z.u ?_;clear Z;intro a Z);refine Z.q rfl rfl rfl (by decide) ⟨?_,fun y hy K hK=>?_,?_⟩;rotate_left
  ·have e75:=Z.g 75;replace hB:=hB.trans (hy.mono hB.size);replace hT:=hT0.below hB;replace hU:=hU0.below hB;replace K2:=K2.below hy;replace K3:=K3.below hy;replace u0:=Ad hy u0;replace y0:=Ad hy y0;replace u1:=Ad hy u1;replace y1:=Ad hy y1;replace u2:=Ad hy u2;replace y2:=Ad hy y2;replace u3:=Ad hy u3;replace y3:=Ad hy y3;replace u4:=Ad hy u4;replace y4:=Ad hy y4;replace u5:=Ad hy u5;replace y5:=Ad hy y5;replace u6:=Ad hy u6;replace y6:=Ad hy y6;refine AB (Aj rfl (Z.ev 75 rfl) Try.underlying22 rfl (K3.cell (o:=2) (v:=.slice (some ⟨b2_,o2_,none⟩) t.roads.strips.length sc2) rfl)) ?_;exact hK
  clear Z;intro a Z;(iterate 2 refine Z.u ?_;clear Z;intro a Z);refine Z.q rfl rfl rfl (by decide) ⟨?_,fun y hy K hK=>?_,?_⟩;rotate_left
  ·have e78:=Z.g 78;replace hB:=hB.trans (hy.mono hB.size);replace hT:=hT0.below hB;replace hU:=hU0.below hB;replace K2:=K2.below hy;replace K3:=K3.below hy;replace u0:=Ad hy u0;replace y0:=Ad hy y0;replace u1:=Ad hy u1;replace y1:=Ad hy y1;replace u2:=Ad hy u2;replace y2:=Ad hy y2;replace u3:=Ad hy u3;replace y3:=Ad hy y3;replace u4:=Ad hy u4;replace y4:=Ad hy y4;replace u5:=Ad hy u5;replace y5:=Ad hy y5;replace u6:=Ad hy u6;replace y6:=Ad hy y6;have d0:=y0;have d1:=y1;have d2:=y2;have d3:=y3;have d4:=y4;have d5:=y5;have d6:=y6;unfold Oper.Dl;go_simp;exact hK
  clear Z;intro a Z;refine Z.u ?_;clear Z;intro a Z;refine E8 ?_;intro x hb2;replace hB:=hB.trans (hb2.mono hB.size);replace hT:=hT0.below hB;replace hU:=hU0.below hB;replace K2:=K2.below hb2;replace K3:=K3.below hb2;replace u0:=Ad hb2 u0;replace y0:=Ad hb2 y0;replace u1:=Ad hb2 u1;replace y1:=Ad hb2 y1;replace u2:=Ad hb2 u2;replace y2:=Ad hb2 y2;replace u3:=Ad hb2 u3;replace y3:=Ad hb2 y3;replace u4:=Ad hb2 u4;replace y4:=Ad hb2 y4;replace u5:=Ad hb2 u5;replace y5:=Ad hb2 y5;replace u6:=Ad hb2 u6;replace y6:=Ad hb2 y6;clear hb2;refine Z.cs 80 ?_;refine wr ?_;refine Z.s ?_;clear Z;intro a Z;refine Z.f (IntWalk.i64_in ((k:Int)+1) (by omega)) ?_;clear Z;intro a Z;refine Z.e ?_;clear Z;intro a Z;exact⟨n-1,by omega,k+1,by omega,Z.sb,hB,hT,hU,K2,K3⟩
 ·have q1:¬ (k:Int)<(t.roads.strips.length:Int):=by omega
  obtain rfl:k=t.roads.strips.length:=by omega
  refine Z.e ?_;clear Z;intro a Z;refine Z.cf 65 ?_;refine wp_exit ?_;refine wss ?_;refine Z.e ?_;clear Z;intro a Z;refine wp_block ?_;refine wp_loop_ghost (fun n p x=>∃ k:Nat,k+n=t.Aa.length∧Sl p 117 [(6,.int .i64 (k:Int)),(2,.pointer (some ⟨b2,0,none⟩)),(3,.pointer (some ⟨b3,0,none⟩))]∧Below w.heap.size w x∧Bf x t ⟨sa,sc,pa,pc,ta,tc⟩∧Bf x t ⟨sa2,sc2,pa2,pc2,ta2,tc2⟩∧Rw x b2 #[.int .i64 t.roads.days,.int .i64 t.roads.stages,.slice sa t.roads.strips.length sc,.int .i64 t.pace,.slice pa t.Aa.length pc,.slice ta t.Af.length tc] 28∧Rw x b3 #[.int .i64 t.roads.days,.int .i64 t.roads.stages,.slice sa2 t.roads.strips.length sc2,.int .i64 t.pace,.slice pa2 t.Aa.length pc2,.slice ta2 t.Af.length tc2] 28) (t.Aa.length) ⟨0,by omega,Z.sb,hB,hT,hU,K2,K3⟩ ?_;clear Z hB hT hU K2 K3;rintro n a x ⟨k,hkn,Z,hB,hT,hU,K2,K3⟩;refine wss ?_;(iterate 2 refine Z.s ?_;clear Z;intro a Z);refine Z.rv rfl rfl rfl (by decide) (Aj rfl (Z.ev 82 rfl) Try.underlying25 rfl (K2.cell (o:=4) (v:=.slice pa t.Aa.length pc) rfl)) ?_;clear Z;intro a Z;refine Z.s ?_;clear Z;intro a Z
  by_cases hlt:k<t.Aa.length
  ·have q1:(k:Int)<(t.Aa.length:Int):=by omega
   refine Z.e ?_;clear Z;intro a Z;refine Z.ct 85 ?_;refine wp_skip ?_;refine wp_seq ?_;refine wp_block ?_;refine wp_seq ?_;obtain⟨b_,o_,ha_,u0,u1,u2⟩:=hT.Aa.at hlt;replace ha_:pa=some ⟨b_,o_,none⟩:=ha_;subst ha_;obtain⟨b2_,o2_,ha2_,y0,y1,y2⟩:=hU.Aa.at hlt;replace ha2_:pa2=some ⟨b2_,o2_,none⟩:=ha2_;subst ha2_;simp only[Xj]at u0 u1 u2 y0 y1 y2;have qk:(k:Int)<(t.Aa.length:Int):=by omega
   replace K2:Rw x b2 #[.int .i64 t.roads.days,.int .i64 t.roads.stages,.slice sa t.roads.strips.length sc,.int .i64 t.pace,.slice (some ⟨b_,o_,none⟩) t.Aa.length pc,.slice ta t.Af.length tc] 28:=K2;replace K3:Rw x b3 #[.int .i64 t.roads.days,.int .i64 t.roads.stages,.slice sa2 t.roads.strips.length sc2,.int .i64 t.pace,.slice (some ⟨b2_,o2_,none⟩) t.Aa.length pc2,.slice ta2 t.Af.length tc2] 28:=K3;refine GN rfl (by kernel_rfl) (by kernel_rfl) ?_;refine Z.u ?_;clear Z;intro a Z;refine Z.q rfl rfl rfl (by decide) ⟨?_,fun y hy K hK=>?_,?_⟩;rotate_left
   ·have e88:=Z.g 88;replace hB:=hB.trans (hy.mono hB.size);replace hT:=hT0.below hB;replace hU:=hU0.below hB;replace K2:=K2.below hy;replace K3:=K3.below hy;replace u0:=Ad hy u0;replace y0:=Ad hy y0;replace u1:=Ad hy u1;replace y1:=Ad hy y1;replace u2:=Ad hy u2;replace y2:=Ad hy y2;refine AB (Aj rfl (Z.ev 88 rfl) Try.underlying25 rfl (K2.cell (o:=4) (v:=.slice (some ⟨b_,o_,none⟩) t.Aa.length pc) rfl)) ?_;exact hK
   clear Z;intro a Z;(iterate 2 refine Z.u ?_;clear Z;intro a Z);refine Z.q rfl rfl rfl (by decide) ⟨?_,fun y hy K hK=>?_,?_⟩;rotate_left
   ·have e91:=Z.g 91;replace hB:=hB.trans (hy.mono hB.size);replace hT:=hT0.below hB;replace hU:=hU0.below hB;replace K2:=K2.below hy;replace K3:=K3.below hy;replace u0:=Ad hy u0;replace y0:=Ad hy y0;replace u1:=Ad hy u1;replace y1:=Ad hy y1;replace u2:=Ad hy u2;replace y2:=Ad hy y2;have d0:=u0;have d1:=u1;have d2:=u2;unfold Oper.Dl;go_simp;exact hK
   clear Z;intro a Z;refine Z.u ?_;clear Z;intro a Z;refine Z.q rfl rfl rfl (by decide) ⟨?_,fun y hy K hK=>?_,?_⟩;rotate_left
   ·have e93:=Z.g 93;replace hB:=hB.trans (hy.mono hB.size);replace hT:=hT0.below hB;replace hU:=hU0.below hB;replace K2:=K2.below hy;replace K3:=K3.below hy;replace u0:=Ad hy u0;replace y0:=Ad hy y0;replace u1:=Ad hy u1;replace y1:=Ad hy y1;replace u2:=Ad hy u2;replace y2:=Ad hy y2;refine AB (Aj rfl (Z.ev 93 rfl) Try.underlying25 rfl (K3.cell (o:=4) (v:=.slice (some ⟨b2_,o2_,none⟩) t.Aa.length pc2) rfl)) ?_;exact hK
   clear Z;intro a Z;(iterate 2 refine Z.u ?_;clear Z;intro a Z);refine Z.q rfl rfl rfl (by decide) ⟨?_,fun y hy K hK=>?_,?_⟩;rotate_left
   ·have e96:=Z.g 96;replace hB:=hB.trans (hy.mono hB.size);replace hT:=hT0.below hB;replace hU:=hU0.below hB;replace K2:=K2.below hy;replace K3:=K3.below hy;replace u0:=Ad hy u0;replace y0:=Ad hy y0;replace u1:=Ad hy u1;replace y1:=Ad hy y1;replace u2:=Ad hy u2;replace y2:=Ad hy y2;have d0:=y0;have d1:=y1;have d2:=y2;unfold Oper.Dl;go_simp;exact hK
   clear Z;intro a Z;refine Z.u ?_;clear Z;intro a Z;refine E8 ?_;intro x hb2;replace hB:=hB.trans (hb2.mono hB.size);replace hT:=hT0.below hB;replace hU:=hU0.below hB;replace K2:=K2.below hb2;replace K3:=K3.below hb2;replace u0:=Ad hb2 u0;replace y0:=Ad hb2 y0;replace u1:=Ad hb2 u1;replace y1:=Ad hb2 y1;replace u2:=Ad hb2 u2;replace y2:=Ad hb2 y2;clear hb2;refine Z.cs 98 ?_;refine wr ?_;refine Z.s ?_;clear Z;intro a Z;refine Z.f (IntWalk.i64_in ((k:Int)+1) (by omega)) ?_;clear Z;intro a Z;refine Z.e ?_;clear Z;intro a Z;exact⟨n-1,by omega,k+1,by omega,Z.sb,hB,hT,hU,K2,K3⟩
  ·have q1:¬ (k:Int)<(t.Aa.length:Int):=by omega
   obtain rfl:k=t.Aa.length:=by omega
   refine Z.e ?_;clear Z;intro a Z;refine Z.cf 85 ?_;refine wp_exit ?_;refine wss ?_;refine Z.e ?_;clear Z;intro a Z;refine wp_block ?_;refine wp_loop_ghost (fun n p x=>∃ k:Nat,k+n=t.Af.length∧Sl p 117 [(7,.int .i64 (k:Int)),(2,.pointer (some ⟨b2,0,none⟩)),(3,.pointer (some ⟨b3,0,none⟩))]∧Below w.heap.size w x∧Bf x t ⟨sa,sc,pa,pc,ta,tc⟩∧Bf x t ⟨sa2,sc2,pa2,pc2,ta2,tc2⟩∧Rw x b2 #[.int .i64 t.roads.days,.int .i64 t.roads.stages,.slice sa t.roads.strips.length sc,.int .i64 t.pace,.slice pa t.Aa.length pc,.slice ta t.Af.length tc] 28∧Rw x b3 #[.int .i64 t.roads.days,.int .i64 t.roads.stages,.slice sa2 t.roads.strips.length sc2,.int .i64 t.pace,.slice pa2 t.Aa.length pc2,.slice ta2 t.Af.length tc2] 28) (t.Af.length) ⟨0,by omega,Z.sb,hB,hT,hU,K2,K3⟩ ?_;clear Z hB hT hU K2 K3;rintro n a x ⟨k,hkn,Z,hB,hT,hU,K2,K3⟩;refine wss ?_;(iterate 2 refine Z.s ?_;clear Z;intro a Z);refine Z.rv rfl rfl rfl (by decide) (Aj rfl (Z.ev 100 rfl) Try.underlying26 rfl (K2.cell (o:=5) (v:=.slice ta t.Af.length tc) rfl)) ?_;clear Z;intro a Z;refine Z.s ?_;clear Z;intro a Z
   by_cases hlt:k<t.Af.length
   ·have q1:(k:Int)<(t.Af.length:Int):=by omega
    refine Z.e ?_;clear Z;intro a Z;refine Z.ct 103 ?_;refine wp_skip ?_;refine wp_seq ?_;refine wp_block ?_;refine wp_seq ?_;obtain⟨b_,o_,ha_,u0,u1,u2⟩:=hT.Af.at hlt;replace ha_:ta=some ⟨b_,o_,none⟩:=ha_;subst ha_;obtain⟨b2_,o2_,ha2_,y0,y1,y2⟩:=hU.Af.at hlt;replace ha2_:ta2=some ⟨b2_,o2_,none⟩:=ha2_;subst ha2_;simp only[MQ]at u0 u1 u2 y0 y1 y2;have qk:(k:Int)<(t.Af.length:Int):=by omega
    replace K2:Rw x b2 #[.int .i64 t.roads.days,.int .i64 t.roads.stages,.slice sa t.roads.strips.length sc,.int .i64 t.pace,.slice pa t.Aa.length pc,.slice (some ⟨b_,o_,none⟩) t.Af.length tc] 28:=K2;replace K3:Rw x b3 #[.int .i64 t.roads.days,.int .i64 t.roads.stages,.slice sa2 t.roads.strips.length sc2,.int .i64 t.pace,.slice pa2 t.Aa.length pc2,.slice (some ⟨b2_,o2_,none⟩) t.Af.length tc2] 28:=K3;refine GN rfl (by kernel_rfl) (by kernel_rfl) ?_;refine Z.u ?_;clear Z;intro a Z;refine Z.q rfl rfl rfl (by decide) ⟨?_,fun y hy K hK=>?_,?_⟩;rotate_left
    ·have e106:=Z.g 106;replace hB:=hB.trans (hy.mono hB.size);replace hT:=hT0.below hB;replace hU:=hU0.below hB;replace K2:=K2.below hy;replace K3:=K3.below hy;replace u0:=Ad hy u0;replace y0:=Ad hy y0;replace u1:=Ad hy u1;replace y1:=Ad hy y1;replace u2:=Ad hy u2;replace y2:=Ad hy y2;refine AB (Aj rfl (Z.ev 106 rfl) Try.underlying26 rfl (K2.cell (o:=5) (v:=.slice (some ⟨b_,o_,none⟩) t.Af.length tc) rfl)) ?_;exact hK
    clear Z;intro a Z;(iterate 2 refine Z.u ?_;clear Z;intro a Z);refine Z.q rfl rfl rfl (by decide) ⟨?_,fun y hy K hK=>?_,?_⟩;rotate_left
    ·have e109:=Z.g 109;replace hB:=hB.trans (hy.mono hB.size);replace hT:=hT0.below hB;replace hU:=hU0.below hB;replace K2:=K2.below hy;replace K3:=K3.below hy;replace u0:=Ad hy u0;replace y0:=Ad hy y0;replace u1:=Ad hy u1;replace y1:=Ad hy y1;replace u2:=Ad hy u2;replace y2:=Ad hy y2;have d0:=u0;have d1:=u1;have d2:=u2;unfold Oper.Dl;go_simp;exact hK
    clear Z;intro a Z;refine Z.u ?_;clear Z;intro a Z;refine Z.q rfl rfl rfl (by decide) ⟨?_,fun y hy K hK=>?_,?_⟩;rotate_left
    ·have e111:=Z.g 111;replace hB:=hB.trans (hy.mono hB.size);replace hT:=hT0.below hB;replace hU:=hU0.below hB;replace K2:=K2.below hy;replace K3:=K3.below hy;replace u0:=Ad hy u0;replace y0:=Ad hy y0;replace u1:=Ad hy u1;replace y1:=Ad hy y1;replace u2:=Ad hy u2;replace y2:=Ad hy y2;refine AB (Aj rfl (Z.ev 111 rfl) Try.underlying26 rfl (K3.cell (o:=5) (v:=.slice (some ⟨b2_,o2_,none⟩) t.Af.length tc2) rfl)) ?_;exact hK
    clear Z;intro a Z;(iterate 2 refine Z.u ?_;clear Z;intro a Z);refine Z.q rfl rfl rfl (by decide) ⟨?_,fun y hy K hK=>?_,?_⟩;rotate_left
    ·have e114:=Z.g 114;replace hB:=hB.trans (hy.mono hB.size);replace hT:=hT0.below hB;replace hU:=hU0.below hB;replace K2:=K2.below hy;replace K3:=K3.below hy;replace u0:=Ad hy u0;replace y0:=Ad hy y0;replace u1:=Ad hy u1;replace y1:=Ad hy y1;replace u2:=Ad hy u2;replace y2:=Ad hy y2;have d0:=y0;have d1:=y1;have d2:=y2;unfold Oper.Dl;go_simp;exact hK
    clear Z;intro a Z;refine Z.u ?_;clear Z;intro a Z;refine E8 ?_;intro x hb2;replace hB:=hB.trans (hb2.mono hB.size);replace hT:=hT0.below hB;replace hU:=hU0.below hB;replace K2:=K2.below hb2;replace K3:=K3.below hb2;replace u0:=Ad hb2 u0;replace y0:=Ad hb2 y0;replace u1:=Ad hb2 u1;replace y1:=Ad hb2 y1;replace u2:=Ad hb2 u2;replace y2:=Ad hb2 y2;clear hb2;refine Z.cs 116 ?_;refine wr ?_;refine Z.s ?_;clear Z;intro a Z;refine Z.f (IntWalk.i64_in ((k:Int)+1) (by omega)) ?_;clear Z;intro a Z;refine Z.e ?_;clear Z;intro a Z;exact⟨n-1,by omega,k+1,by omega,Z.sb,hB,hT,hU,K2,K3⟩
   ·have q1:¬ (k:Int)<(t.Af.length:Int):=by omega
    obtain rfl:k=t.Af.length:=by omega
    refine Z.e ?_;clear Z;intro a Z;refine Z.cf 103 ?_;refine wp_exit ?_;refine wsr ?_;refine Z.e ?_;clear Z;intro a Z;refine wp_ret ?_
    try simp only[xt]
    exact Z.rt (v:=.bool true) 4 ⟨rfl,hB⟩
def IC (t:Ae):Bool:=decide (20<t.roads.strips.length) || decide (20<t.Aa.length) || decide (20<t.Af.length)
theorem Tu:(fun r=>Try.f17.body=some (.seq (r 0) (.seq (r 1) .ret))) (Ac Try.f17):=by show _=_;kernel_rfl
theorem XA {w:World}{t:Ae}{s:Dt}:Calls Try.prog 17 #[.agg (CJ t s)] w (fun e w'=>e=.returned (.bool (IC t))∧Below w.heap.size w w'):=by
 have hB:=Below.refl w.heap.size w;refine MW Try.func17 Tu Try.ntmps17 ?_;intro a Z;refine wsr ?_;refine Z.s ?_;clear Z;intro a Z;refine aw ?_;obtain⟨b1,hg⟩:∃ b,b=w.heap.size:=⟨_,rfl⟩;intro x hz K1 hb2;rw[← hg]at Z K1;have hhB1:w.heap.size≤b1:=by rw[hg];exact hB.size
 replace hB:=hB.trans (hb2.mono hB.size);clear hz hg hb2;refine Z.e ?_;clear Z;intro a Z;refine wsr ?_;(iterate 2 refine Z.s ?_;clear Z;intro a Z);refine Z.rv rfl rfl rfl (by decide) (Aj rfl (Z.ev 4 rfl) Try.underlying22 rfl (K1.cell (o:=2) (v:=.slice s.sa t.roads.strips.length s.sc) rfl)) ?_;clear Z;intro a Z;refine Z.s ?_;clear Z;intro a Z
 by_cases h1:20<t.roads.strips.length
 ·have qh1:(t.roads.strips.length:Int) > 20:=by omega
  (iterate 14 refine Z.x ?_;clear Z;intro a Z);refine od ?_;refine wp_ret ?_
  try simp only[xt]
  have HR:=Lib.hid (show IC t=true from by simp[IC,h1]);rw[HR.out];exact Z.rt (v:=.bool true) 2 ⟨rfl,hB⟩
 ·have qh1:¬ (t.roads.strips.length:Int) > 20:=by omega
  (iterate 3 refine Z.x ?_;clear Z;intro a Z);refine oy (Z.g 8) fun K hK=>?_
  have e9:=Z.g 9;have c4:=K1.cell (o:=4) (v:=.slice s.pa t.Aa.length s.pc) rfl;go_simp;refine Z.K hK ?_;clear Z hK;intro a Z;refine Z.t ?_;clear Z;intro a Z
  by_cases h2:20<t.Aa.length
  ·have qh2:(t.Aa.length:Int) > 20:=by omega
   (iterate 9 refine Z.x ?_;clear Z;intro a Z);refine od ?_;refine wp_ret ?_
   try simp only[xt]
   have HR:=Lib.hid (show IC t=true from by simp[IC,h1,h2]);rw[HR.out];exact Z.rt (v:=.bool true) 2 ⟨rfl,hB⟩
  ·have qh2:¬ (t.Aa.length:Int) > 20:=by omega
   (iterate 4 refine Z.x ?_;clear Z;intro a Z);refine oy (Z.g 14) fun K hK=>?_
   have e15:=Z.g 15;have c5:=K1.cell (o:=5) (v:=.slice s.ta t.Af.length s.tc) rfl;go_simp;refine Z.K hK ?_;clear Z hK;intro a Z;refine Z.t ?_;clear Z;intro a Z
   by_cases h3:20<t.Af.length
   ·have qh3:(t.Af.length:Int) > 20:=by omega
    (iterate 3 refine Z.x ?_;clear Z;intro a Z);refine od ?_;refine wp_ret ?_
    try simp only[xt]
    have HR:=Lib.hid (show IC t=true from by simp[IC,h1,h2,h3]);rw[HR.out];exact Z.rt (v:=.bool true) 2 ⟨rfl,hB⟩
   ·have qh3:¬ (t.Af.length:Int) > 20:=by omega
    (iterate 3 refine Z.x ?_;clear Z;intro a Z);refine od ?_;refine wp_ret ?_
    try simp only[xt]
    have HR:=Lib.hid (show IC t=false from by simp[IC,h1,h2,h3]);rw[HR.out];exact Z.rt (v:=.bool false) 2 ⟨rfl,hB⟩
end
section
open Go.RowKit
theorem OU {f g:Nat→Int}:∀ n:Nat,(∀ i,i<n→f i=g i)→Dy f n=Dy g n
 | 0,_=>rfl
 | n+1,h=>by show Dy f n+f n=Dy g n+g n;rw[OU n fun i hi=>h i (by omega),h n (by omega)]
end
section
open Go Go.RowKit
section
variable {α β:Type}{f:α→List Value}{f':β→List Value}{e e':TypeId}{k k':Nat}{w w' x x':World}{B B' b g m n c:Nat}{v v':Value}{l:List α}{l':List β}{cs cur:Array Value}{t:TypeId}{r:Option Nat}
theorem AU.TW (h:AU f e k x B v l) (hb:v.ownBlock=some g):∃ cur,x.heap[g]?=some (.cells cur e (0,0)):=by
 rcases h.2 with ⟨hv,_⟩|⟨g',cap,cur,hv,_,hh,_⟩
 ·rw[hv]at hb;simp[Value.ownBlock]at hb
 ·rw[hv]at hb;simp only[Value.ownBlock,Option.some.injEq]at hb;subst hb;exact⟨cur,hh⟩
theorem Rw.Q5 (K:Rw x b cs t) (hg:x.heap[g]?=some (.cells cur e (0,0))) (hne:t≠e):b≠g:=by
 rintro rfl;unfold Rw at K;rw[K]at hg;simp only[Option.some.injEq,Obj.cells.injEq]at hg;exact hne hg.2.1
theorem AU.Q5 (h:AU f' e' k' x B' v' l') (hg:x.heap[g]?=some (.cells cur e (0,0))) (hne:e'≠e):v'.ownBlock≠some g:=fun hb=>by
 obtain⟨cur2,h2⟩:=h.TW hb;rw[h2]at hg;simp only[Option.some.injEq,Obj.cells.injEq]at hg;exact hne hg.2.1
theorem AU.Yp (h:AU f e k x B v l) (h':AU f' e' k' x B' v' l') (hne:e'≠e):∀ g,v.ownBlock=some g→v'.ownBlock≠some g:=fun g hg=>by
 obtain⟨cur,h2⟩:=h.TW hg;exact h'.Q5 h2 hne
theorem AU.JG (h':AU f' e' k' x B' v' l') (hG:x.grownBy x' r) (ha:∀ g,r=some g→v'.ownBlock≠some g):AU f' e' k' x' B' v' l':=by
 refine h'.keep fun q hq=>hG.block q (h'.Ak hq).2 fun e=>?_
 exact ha q e.symm hq
theorem Rw.JG (K:Rw x b cs t) (hG:x.grownBy x' r) (ha:∀ g,r=some g→b≠g):Rw x' b cs t:=K.grown hG fun e=>ha b e.symm rfl
theorem Ce.JG {t:Ae}{s:Dt}(h:Ce x B t s) (hG:x.grownBy x' r) (h1:∀ g,r=some g→(Value.slice s.sa t.roads.strips.length s.sc).ownBlock≠some g) (h2:∀ g,r=some g→(Value.slice s.pa t.Aa.length s.pc).ownBlock≠some g) (h3:∀ g,r=some g→(Value.slice s.ta t.Af.length s.tc).ownBlock≠some g):Ce x' B t s:=⟨h.os.JG hG h1,h.op.JG hG h2,h.ot.JG hG h3⟩
theorem Ce.Rf {t:Ae}{s:Dt}(h:Ce x B t s) (hG:x.grownBy x' v.ownBlock) (ho:AU f e k x B' v l) (h1:96≠e) (h2:69≠e) (h3:57≠e):Ce x' B t s :=
 h.JG hG (ho.Yp h.os h1) (ho.Yp h.op h2) (ho.Yp h.ot h3)
theorem Rw.Rf (K:Rw x b cs t) (hG:x.grownBy x' v.ownBlock) (ho:AU f e k x B' v l) (hne:t≠e):Rw x' b cs t:=K.JG hG fun g hg=>by
 obtain⟨cur,h2⟩:=ho.TW hg;exact K.Q5 h2 hne
theorem Ce.rowT {t:Ae}{s:Dt}{e:TypeId}(h:Ce x B t s) (hG:x.grownBy x' (some b)) (K:Rw x b cs e) (h1:96≠e) (h2:69≠e) (h3:57≠e):Ce x' B t s :=
 h.JG hG (fun g hg=>by cases hg;exact h.os.Q5 K h1) (fun g hg=>by cases hg;exact h.op.Q5 K h2) (fun g hg=>by cases hg;exact h.ot.Q5 K h3)
theorem AU.rowT {e:TypeId}(h:AU f' e' k' x B' v' l') (hG:x.grownBy x' (some b)) (K:Rw x b cs e) (hne:e'≠e):AU f' e' k' x' B' v' l':=h.JG hG fun g hg=>by cases hg;exact h.Q5 K hne
end
end
section
open Go Go.Conc Go.RowKit
structure AbI (m ms:List Ar):Prop where
 len:ms.length=m.length
 same:∀ i (h:i<m.length) (h':i<ms.length),ms[i].toll=m[i].toll∧ms[i].owner=m[i].owner∧m[i].heads≤ms[i].heads∧ms[i].heads≤40
theorem AbI.ok {nt np:Nat}{m ms:List Ar}(h:AbI m ms) (hm:JJ nt np m):JJ nt np ms:=fun p hp=>by
 obtain⟨i,hi,rfl⟩:=List.getElem_of_mem hp;have hi2:i<m.length:=by rw[← h.len];exact hi
 have hs:=h.same i hi2 hi;have:=hm m[i] (List.getElem_mem hi2);rw[hs.1,hs.2.1];omega
structure AbH (ts us:List BA):Prop where
 len:us.length=ts.length
 same:∀ i (h:i<ts.length) (h':i<us.length),us[i].strip=ts[i].strip∧us[i].farmer=ts[i].farmer∧ts[i].rate≤us[i].rate∧us[i].rate≤500
theorem AbH.range {ts us:List BA}(h:AbH ts us) (h0:∀ x∈ts,0≤x.rate∧x.rate≤500):∀ u∈us,0≤u.rate∧u.rate≤500:=fun u hu=>by
 obtain⟨i,hi,rfl⟩:=List.getElem_of_mem hu;have hi2:i<ts.length:=by rw[← h.len];exact hi
 have:=h.same i hi2 hi;have:=h0 _ (List.getElem_mem hi2)
 omega
section
variable {w:World}{t:Ae}{s:Dt}
end
section
variable {α:Type}{f:α→List Value}{e:TypeId}{k:Nat}{w:World}{B g c:Nat}{l:List α}
theorem AU.src {a:Option Addr}(h:AU f e k w B (.slice a l.length c) l) (hf:∀ x,(f x).length=k):Bl f k w a l:=by
 obtain⟨a',c',hv,_,_,hC⟩:=h.cells hf;simp only[Value.slice.injEq,true_and]at hv;obtain⟨rfl,_⟩:=hv;exact hC
theorem AU.cellAt (h:AU f e k w B (.slice (some ⟨g,0,none⟩) l.length c) l) (hf:∀ x,(f x).length=k) {i j:Nat}(hi:i<l.length) (hj:j<k) {u:Value}(hu:(f l[i])[j]?=some u):w.cell? ⟨g,i*k+j,none⟩=some u∧w.frozen? ⟨g,i*k+j,none⟩=false:=by
 obtain⟨g',hg,_,_,hC,hz⟩:=h.at0 hf (by omega);simp only[Option.some.injEq,Addr.mk.injEq,and_true]at hg;obtain rfl:=hg;refine⟨?_,hz _⟩;rcases h.src hf with h0|⟨b,o,ha,hc⟩
 ·rw[h0]at hi;simp at hi
 ·simp only[Option.some.injEq,Addr.mk.injEq,and_true]at ha;obtain⟨rfl,rfl⟩:=ha;have:=hc i hi j u hj hu
  simpa using this
end
end
section
open Go.RowKit
structure Aci (nt np:Nat) (l:List Ar) (i:Nat) (ps os:List Ar):Prop where
 pl:ps.length≤2*i
 ol:os.length≤i
 pk:JJ nt np ps
 ok:JJ nt np os
 ps:∀ key,Au ps key=Au (l.take i) key
 os:∀ a b:Int,Au os (a,b)=if b=0 then Au (l.take i) (a,b) else 0
theorem Aci.nil (nt np:Nat) (l:List Ar):Aci nt np l 0 [] []:=⟨by simp,by simp,fun p h=>by simp at h,fun p h=>by simp at h,fun key=>by simp[Au],fun a b=>by simp[Au]⟩
theorem JR {f g:Nat→Int}{n:Nat}(h:∀ i,i<n→f i=g i):Bv f n=Bv g n:=List.map_congr_left fun i hi=>h i (by simpa using hi)
end
section
open Go.RowKit
end
section
open Go Go.RowKit
section
variable {w:World}{B g c:Nat}{a:Option Addr}{l:List Int}{v:Value}
theorem XG (l:List Int):∀ y∈l,∀ u∈[Value.int .i64 y],u.oneCell'=true:=fun y _ u hu=>by simp at hu;subst hu;rfl
theorem Df.ints (h:Df w B (.slice a l.length c) l):AX w a l:=by
 rcases AU.src h (fun _=>rfl) with h0|⟨b,o,ha,hc⟩
 ·exact .inl h0
 ·exact .inr ⟨b,o,ha,fun i hi=>by have:=hc i hi 0 _ (by omega) rfl;simpa using this⟩
theorem Df.cell1 (h:Df w B (.slice (some ⟨g,0,none⟩) l.length c) l) {i:Nat}(hi:i<l.length):w.cell? ⟨g,i,none⟩=some (.int .i64 l[i])∧w.frozen? ⟨g,i,none⟩=false:=by
 have:=AU.cellAt h (fun _=>rfl) hi (j:=0) (by omega) rfl
 simpa using this
theorem Df.Acl (h:Df w B (.slice (some ⟨g,0,none⟩) l.length c) l) {i:Nat}(hi:i<l.length) (y:Int):Df (w.setCell ⟨g,i,none⟩ (.int .i64 y)) B (.slice (some ⟨g,0,none⟩) (l.set i y).length c) (l.set i y):=by
 have:=AU.put h (fun _=>rfl) hi (j:=0) (by omega) (y:=y) (u:=.int .i64 y) rfl
 simpa using this
theorem Df.Aa9 (h:Df w B (.slice a l.length c) l) (hp:0<l.length):∃ g,a=some ⟨g,0,none⟩∧B≤g∧g<w.heap.size:=by
 obtain⟨g,h1,h2,h3,_⟩:=AU.at0 h (fun _=>rfl) hp;exact⟨g,h1,h2,h3⟩
end
end
section
open Go.RowKit
end
section
open Go Go.Conc Go.RowKit
structure Aak (x:World) (B:Nat) (v1:Value) (l1:List Ar) (v2:Value) (l2:List Ar):Prop where
 h1:Cc x B v1 l1
 h2:Cc x B v2 l2
 ne:∀ g,v1.ownBlock=some g→v2.ownBlock≠some g
section
variable {x x' w:World}{B b m:Nat}{v1 v2 v:Value}{l1 l2 l:List Ar}{cs:Array Value}{e:TypeId}{r:Option Nat}
theorem Aak.nil:Aak x B (.slice none 0 0) [] (.slice none 0 0) []:=⟨AU.nil,AU.nil,fun g h=>by simp[Value.ownBlock]at h⟩
end
section
variable {w:World}{a b n:Nat}{f g:Nat→Int}
end
section
variable {w:World}{t:Ae}{s:Dt}{l:List Ar}{la:Option Addr}{lc:Nat}
end
theorem Rl {t:Ae}{l:List Ar}(ho:Bc t l=0) (o:Nat) (hol:o<t.Aa.length):0≤Eh t l o∧Eh t l o≤30000:=by
 have hT:=Ee ho;have hf:=(CZ ho).1
 have h24:l.length≤24:=Classical.byContradiction fun c=>by
  unfold Bc at ho;rw[if_neg (by rw[hT];simp),if_pos (by omega)]at ho;exact absurd ho (by decide)
 obtain⟨_,_,_,_,_,hp,_,h6,h9⟩:=AY hT;have hF:=IZ ho
 have hat:∀ i,i<t.Af.length→0≤atL t l o i∧atL t l o i≤960000:=fun i hi=>by
  have hs:=EC hf ((i:Int),(o:Int));have e:t.Af.getD i default=t.Af[i]:=by simp[List.getD_eq_getElem?_getD,hi]
  have hr:=Am.1 (Ji h9 _ (List.getElem_mem hi)).2.1;have hfr:=(hF.pf _ (getD_mem hol)).1;unfold atL;rw[e];generalize (t.Aa.getD o default).free=fr at *;generalize (t.Aa.getD o default).half=hf2 at *;generalize Au l ((i:Int),(o:Int))=q at *;generalize t.Af[i].rate=r at *;have h0:0≤(if fr<q then q-fr else 0)∧(if fr<q then q-fr else 0)≤960:=by split<;>omega
  have h1:=Int.mul_le_mul h0.2 hr.2 hr.1 (by omega);have h2:=Int.mul_nonneg h0.1 hr.1;unfold ofV
  cases hf2<;>simp only[if_true,Bool.false_eq_true,if_false]<;>omega
 have hs:∀ n,n≤t.Af.length→0≤Dy (atL t l o) n∧Dy (atL t l o) n≤960000*(n:Int):=fun n=>by
  induction n with
  | zero=>intro _;simp[Dy]
  | succ n ih =>
   intro hn;have h1:=ih (by omega);have h2:=hat n (by omega);simp only[Dy];push_cast;omega
 have h3:=hs _ (Nat.le_refl _);unfold Eh Hu A7
 omega
end
end Go.Proofs.Ytgdobbcjkiapkaa
