import Derived.Test.YtgdobbcjkiapkaaSv19
import Derived.Test.YtgdobbcjkiapkaaSv04
import Derived.Test.YtgdobbcjkiapkaaSv42
import Derived.Test.YtgdobbcjkiapkaaSv34
import Derived.Test.YtgdobbcjkiapkaaSv28
namespace Go.Proofs.Ytgdobbcjkiapkaa
set_option maxRecDepth 100000
set_option maxHeartbeats 4000000
set_option linter.unusedSimpArgs false
set_option linter.unusedVariables false
section
open Go.RowKit
theorem YO:(fun r=>Try.f90.body=some (.seq (r 0) (.seq (r 1) .ret))) (Ac Try.f90):=by show _=_;kernel_rfl
theorem Ci (n lo hi:Int) (w:World):Calls Try.prog 90 #[.int .i64 n,.int .i64 lo,.int .i64 hi] w (fun e w'=>e=.returned (.bool (btw n lo hi))∧w=w'):=by
 refine NU Try.func90 YO Try.ntmps90 ?_;intro a Z;refine wsr ?_;refine Z.e ?_;clear Z;intro a Z;refine wsr ?_;(iterate 2 refine Z.s ?_;clear Z;intro a Z)
 by_cases h1:lo≤n
 ·have q1:n ≥ lo:=h1;have H1:=Lib.hid h1;clear h1;(iterate 4 refine Z.x ?_;clear Z;intro a Z)
  by_cases h2:n≤hi
  ·have q2:n≤hi:=h2;have H2:=Lib.hid h2;clear h2;(iterate 3 refine Z.x ?_;clear Z;intro a Z);refine od ?_;refine wp_ret ?_
   try simp only[xt]
   have HR:=Lib.hid (show btw n lo hi=true from Am.2 ⟨H1.out,H2.out⟩);rw[HR.out];exact Z.rt (v:=.bool true) 6 ⟨rfl,rfl⟩
  ·have q2:¬ n≤hi:=h2;have H2:=Lib.hid h2;clear h2;(iterate 3 refine Z.x ?_;clear Z;intro a Z);refine od ?_;refine wp_ret ?_
   try simp only[xt]
   have HR:=Lib.hid (show btw n lo hi=false from Bool.eq_false_iff.2 fun hb=>by have h:=Am.1 hb;have:=H2.out;omega);rw[HR.out];exact Z.rt (v:=.bool false) 6 ⟨rfl,rfl⟩
 ·have q1:¬ n ≥ lo:=by omega
  have H1:=Lib.hid h1;clear h1;(iterate 7 refine Z.x ?_;clear Z;intro a Z);refine od ?_;refine wp_ret ?_
  try simp only[xt]
  have HR:=Lib.hid (show btw n lo hi=false from Bool.eq_false_iff.2 fun hb=>by have h:=Am.1 hb;have:=H1.out;omega);rw[HR.out];exact Z.rt (v:=.bool false) 6 ⟨rfl,rfl⟩
theorem Xa:(fun r=>Try.f73.body=some (.seq (r 0) (.seq (r 1) .ret))) (Ac Try.f73):=by show _=_;kernel_rfl
theorem Ot {w:World}{t:Ae}{s:Dt}(hT:Bf w t s) (o:Int):Calls Try.prog 73 #[.agg (CJ t s),.int .i64 o] w (fun e w'=>e=.returned (.bool (btw o 0 ((t.Aa.length:Int)-1)))∧Below w.heap.size w w'):=by
 obtain⟨sa,sc,pa,pc,ta,tc⟩:=s;have hB:=Below.refl w.heap.size w;have hlp:=hT.lp;unfold maxLen at hlp;clear hT;refine I7 Try.func73 Xa Try.ntmps73 ?_;intro a Z;refine wsr ?_;refine Z.s ?_;clear Z;intro a Z;refine aw ?_;obtain⟨b2,hg⟩:∃ b,b=w.heap.size:=⟨_,rfl⟩;intro x hz K2 hb2;rw[← hg]at Z K2;have hhB2:w.heap.size≤b2:=by rw[hg];exact hB.size
 replace hB:=hB.trans (hb2.mono hB.size);clear hz hg hb2;refine Z.e ?_;clear Z;intro a Z;refine wsr ?_;(iterate 2 refine Z.s ?_;clear Z;intro a Z);refine Z.rv rfl rfl rfl (by decide) (Aj rfl (Z.ev 6 rfl) Try.underlying25 rfl (K2.cell (o:=4) (v:=.slice pa t.Aa.length pc) rfl)) ?_;clear Z;intro a Z;refine Z.s ?_;clear Z;intro a Z;refine Z.f (IntWalk.i64_in ((t.Aa.length:Int)-1) (by omega)) ?_;clear Z;intro a Z;refine oz fun K hK=>?_
 have e5:=Z.g 5;have e9:=Z.g 9;go_simp;refine(Ci o 0 (((t.Aa.length:Int)-1)) _).mono ?_;rintro e x2 ⟨rfl,hxe⟩;subst hxe;refine Z.K hK ?_;clear Z hK;intro a Z;refine Z.e ?_;clear Z;intro a Z;refine wp_ret ?_
 try simp only[xt]
 exact Z.rt (v:=.bool (btw o 0 ((t.Aa.length:Int)-1))) 4 ⟨rfl,hB⟩
theorem YP:(fun r=>Try.f74.body=some (.seq (r 0) (.seq (r 1) .ret))) (Ac Try.f74):=by show _=_;kernel_rfl
theorem QN {w:World}{p:Int}(h0:0≤p) (h1:p≤1000000000000000):Calls Try.prog 74 #[.int .i64 p] w (fun e w'=>e=.returned (.int .i64 (A7 p))∧w=w'):=by
 have hw2:IntKind.i64.wrap ((p+199).tdiv 200)=A7 p:=by
  unfold A7;rw[Int.tdiv_eq_ediv_of_nonneg (by omega)];exact IntWalk.i64_in _ (by omega)
 refine MW Try.func74 YP Try.ntmps74 ?_;intro a Z;refine wsr ?_;refine Z.e ?_;clear Z;intro a Z;refine wsr ?_;refine Z.s ?_;clear Z;intro a Z;refine Z.f (IntWalk.i64_in (p+199) (by omega)) ?_;clear Z;intro a Z;refine Z.s ?_;clear Z;intro a Z
 skip
 refine Z.e ?_;clear Z;intro a Z;refine wp_ret ?_
 try simp only[xt]
 exact Z.rt (v:=.int .i64 (A7 p)) 2 ⟨rfl,rfl⟩
theorem YU {w:World}{t:Ae}{s:Dt}(h:Bf w t s):Calls Try.prog 89 #[.agg #[.int .i64 t.roads.days,.int .i64 t.roads.stages,.slice s.sa t.roads.strips.length s.sc]] w (fun e w'=>e=.returned (.int .i64 (Bo t.roads))∧Below w.heap.size w w'):=QS _ _ _ _ _ _ h.strips h.ls
theorem UN {n:Int}{ts:List BA}(h:BK n (ts.take ts.length) (ts.drop ts.length)=BK n [] ts):BK n [] ts=0:=by
 rw[← h,List.drop_of_length_le (Nat.le_refl _)];rfl
theorem Ru {t:Ae}(h1:Bo t.roads=0) (h2:btw t.pace 1 9=true):(t.Aa.length=0→Aq t=7)∧(4<t.Aa.length→Aq t=6):=by
 refine⟨fun h=>?_,fun h=>?_⟩
 ·have e:O8 t.Aa.length 1 4=7:=by unfold O8;rw[if_pos (by omega)]
  unfold Aq;rw[if_neg (by simp[h1]),if_neg (by simp[h2]),if_pos (by rw[e];decide),e]
 ·have e:O8 t.Aa.length 1 4=6:=by unfold O8;rw[if_neg (by omega),if_pos (by omega)]
  unfold Aq;rw[if_neg (by simp[h1]),if_neg (by simp[h2]),if_pos (by rw[e];decide),e]
theorem Eo {t:Ae}(h1:t.Aa.length≠0) (h2:¬ 4<t.Aa.length):O8 t.Aa.length 1 4=0:=by
 unfold O8;rw[if_neg (by omega),if_neg (by omega)]
theorem Xf:(fun r=>Try.f40.body=some (.seq (r 0) (.seq (.seq (r 1) (.seq (r 2) (.cond (.tmp 13) (.seq (r 3) .ret) .skip))) (.seq (.seq (r 4) (.cond (.tmp 18) (.seq (r 5) .ret) .skip)) (.seq (.seq (r 6) (.cond (.tmp 22) (.seq (r 7) .ret) .skip)) (.seq (.seq (r 8) (.cond (.tmp 26) (.seq (r 9) .ret) .skip)) (.seq (r 10) (.seq (.seq (r 11) (.block 0 (.loop (.seq (.seq (r 12) (.cond (.tmp 31) .skip (.exit 0))) (.seq (.block 1 (.seq (.seq (r 14) (.cond (.tmp 51) (.seq (r 15) .ret) .skip)) (r 16))) (r 13)))))) (.seq (.seq (r 17) (.cond (.tmp 62) (.seq (r 18) .ret) .skip)) (.seq (.seq (r 19) (.cond (.tmp 66) (.seq (r 20) .ret) .skip)) (.seq (.seq (r 21) (.block 2 (.loop (.seq (.seq (r 22) (.cond (.tmp 71) .skip (.exit 2))) (.seq (.block 3 (.seq (r 24) (.seq (.seq (r 25) (.cond (.tmp 87) (.seq (r 26) .ret) .skip)) (.seq (.seq (r 27) (.cond (.tmp 97) (.seq (r 28) .ret) .skip)) (.seq (r 29) (.block 4 (.loop (.seq (.seq (r 30) (.cond (.tmp 100) .skip (.exit 4))) (.seq (.block 5 (.seq (r 32) (.cond (.tmp 122) (.seq (r 33) .ret) .skip))) (r 31)))))))))) (r 23)))))) (.seq (r 34) .ret)))))))))))) (Ac Try.f40):=by show _=_;kernel_rfl
theorem PU {w:World}{t:Ae}{s:Dt}(hT:Bf w t s):Calls Try.prog 40 #[.agg (CJ t s)] w (fun e w'=>e=.returned (.int .i64 (Aq t))∧Below w.heap.size w w'):=by
 obtain⟨sa,sc,pa,pc,ta,tc⟩:=s;have hB:=Below.refl w.heap.size w;have hls:=hT.ls;have hlp:=hT.lp;have hlt0:=hT.lt;unfold maxLen at hls hlp hlt0;have hT0:=hT;refine MW Try.func40 Xf Try.ntmps40 ?_;intro a Z;refine wsr ?_;refine Z.s ?_;clear Z;intro a Z;refine aw ?_;obtain⟨b1,hg⟩:∃ b,b=w.heap.size:=⟨_,rfl⟩;intro x hz K1 hb2;rw[← hg]at Z K1;have hhB1:w.heap.size≤b1:=by rw[hg];exact hB.size
 replace hB:=hB.trans (hb2.mono hB.size);replace hT:=hT0.below hB;clear hz hg hb2;refine Z.e ?_;clear Z;intro a Z;refine wss ?_;refine Z.s ?_;clear Z;intro a Z;refine oz fun K hK=>?_
 have e9:=Z.g 9;have c0:=K1.cell (o:=0) (v:=.int .i64 t.roads.days) rfl;have c1:=K1.cell (o:=1) (v:=.int .i64 t.roads.stages) rfl;have c2:=K1.cell (o:=2) (v:=.slice sa t.roads.strips.length sc) rfl;go_simp;refine Z.K hK ?_;clear Z hK;intro a Z;refine oz fun K hK=>?_
 have e10:=Z.g 10;go_simp;refine(YU hT).mono ?_;rintro e x ⟨rfl,hb2⟩;replace hB:=hB.trans (hb2.mono hB.size);replace hT:=hT0.below hB;replace K1:=K1.below hb2;clear hb2;refine Z.K hK ?_;clear Z hK;intro a Z;refine Z.e ?_;clear Z;intro a Z;refine wsr ?_;refine Z.s ?_;clear Z;intro a Z
 by_cases hr:Bo t.roads=0
 ·have qr:(Bo t.roads != 0)=false:=BO hr;have HRD:=Lib.hid hr;clear hr;refine Z.e ?_;clear Z;intro a Z;refine Z.cs 13 ?_;refine wss ?_;refine Z.s ?_;clear Z;intro a Z;refine Z.rv rfl rfl rfl (by decide) (Aj rfl (Z.ev 15 rfl) Try.underlying3 rfl (K1.cell (o:=3) (v:=.int .i64 t.pace) rfl)) ?_;clear Z;intro a Z;refine oz fun K hK=>?_
  have e16:=Z.g 16;go_simp;refine(Ci t.pace 1 9 _).mono ?_;rintro e x2 ⟨rfl,hxe⟩;subst hxe;refine Z.K hK ?_;clear Z hK;intro a Z;rcases Bool.eq_false_or_eq_true (btw t.pace 1 9) with hpc|hpc
  ·rw[hpc]at Z;refine Z.e ?_;clear Z;intro a Z;refine Z.cs 18 ?_;refine wss ?_;refine Z.s ?_;clear Z;intro a Z;refine Z.rv rfl rfl rfl (by decide) (Aj rfl (Z.ev 19 rfl) Try.underlying25 rfl (K1.cell (o:=4) (v:=.slice pa t.Aa.length pc) rfl)) ?_;clear Z;intro a Z;refine Z.s ?_;clear Z;intro a Z
   by_cases h0:t.Aa.length=0
   ·have qz:((t.Aa.length:Int) == 0)=true:=by rw[beq_iff_eq];omega
    have H0:=Lib.hid h0;clear h0;refine Z.e ?_;clear Z;intro a Z;refine Z.ct 22 ?_;refine wsr ?_;refine Z.e ?_;clear Z;intro a Z;refine wp_ret ?_
    try simp only[xt]
    have HR:=Lib.hid (show Aq t=7 from by exact(Ru HRD.out hpc).1 H0.out);rw[HR.out];exact Z.rt (v:=.int .i64 7) 2 ⟨rfl,hB⟩
   ·have qz:((t.Aa.length:Int) == 0)=false:=by rw[beq_eq_false_iff_ne];omega
    have H0:=Lib.hid h0;clear h0;refine Z.e ?_;clear Z;intro a Z;refine Z.cs 22 ?_;refine wss ?_;refine Z.s ?_;clear Z;intro a Z;refine Z.rv rfl rfl rfl (by decide) (Aj rfl (Z.ev 23 rfl) Try.underlying25 rfl (K1.cell (o:=4) (v:=.slice pa t.Aa.length pc) rfl)) ?_;clear Z;intro a Z;refine Z.s ?_;clear Z;intro a Z
    by_cases h4:4<t.Aa.length
    ·have q4:(t.Aa.length:Int) > 4:=by omega
     refine Z.e ?_;clear Z;intro a Z;refine Z.ct 26 ?_;refine wsr ?_;refine Z.e ?_;clear Z;intro a Z;refine wp_ret ?_
     try simp only[xt]
     have HR:=Lib.hid (show Aq t=6 from by exact(Ru HRD.out hpc).2 h4);rw[HR.out];exact Z.rt (v:=.int .i64 6) 2 ⟨rfl,hB⟩
    ·have q4:¬ (t.Aa.length:Int) > 4:=by omega
     refine Z.e ?_;clear Z;intro a Z;refine Z.cs 26 ?_;refine wsr ?_;refine Z.e ?_;clear Z;intro a Z;refine wss ?_;refine Z.e ?_;clear Z;intro a Z;refine wp_block ?_;refine wp_loop_ghost (fun n p x=>∃ k:Nat,k+n=t.Aa.length∧Hid ((t.Aa.take k).all AZ=true)∧Sl p 123 [(5,.int .i64 (k:Int)),(1,.pointer (some ⟨b1,0,none⟩)),(4,.int .i64 (AL (t.Aa.take k)))]∧Below w.heap.size w x∧Bf x t ⟨sa,sc,pa,pc,ta,tc⟩∧Rw x b1 (CJ t ⟨sa,sc,pa,pc,ta,tc⟩) 28) (t.Aa.length) ⟨0,by omega,Lib.hid rfl,Z.sb,hB,hT,K1⟩ ?_;clear Z hB hT K1;rintro n a x ⟨k,hkn,HF,Z,hB,hT,K1⟩;refine wss ?_;(iterate 2 refine Z.s ?_;clear Z;intro a Z);refine Z.rv rfl rfl rfl (by decide) (Aj rfl (Z.ev 28 rfl) Try.underlying25 rfl (K1.cell (o:=4) (v:=.slice pa t.Aa.length pc) rfl)) ?_;clear Z;intro a Z;refine Z.s ?_;clear Z;intro a Z
     by_cases hlt:k<t.Aa.length
     ·have q1:(k:Int)<(t.Aa.length:Int):=by omega
      refine Z.e ?_;clear Z;intro a Z;refine Z.ct 31 ?_;refine wp_skip ?_;refine wp_seq ?_;refine wp_block ?_;refine wp_seq ?_;refine wp_seq ?_;obtain⟨pb,po,hpa,y0,y1,_⟩:=hT.Aa.at hlt;replace hpa:pa=some ⟨pb,po,none⟩:=hpa;subst hpa;simp only[Xj]at y0 y1;have qk:(k:Int)<(t.Aa.length:Int):=by omega
      replace K1:Rw x b1 #[.int .i64 t.roads.days,.int .i64 t.roads.stages,.slice sa t.roads.strips.length sc,.int .i64 t.pace,.slice (some ⟨pb,po,none⟩) t.Aa.length pc,.slice ta t.Af.length tc] 28:=K1;refine wr ?_;refine Z.s ?_;clear Z;intro a Z;refine Z.rv rfl rfl rfl (by decide) (Aj rfl (Z.ev 34 rfl) Try.underlying25 rfl (K1.cell (o:=4) (v:=.slice (some ⟨pb,po,none⟩) t.Aa.length pc) rfl)) ?_;clear Z;intro a Z;(iterate 3 refine Z.s ?_;clear Z;intro a Z);refine Z.rv rfl rfl rfl (by decide) (Aj rfl (Z.ev 38 rfl) Try.underlying3 rfl (y0)) ?_;clear Z;intro a Z;refine oz fun K hK=>?_
      have e39:=Z.g 39;go_simp;refine(Ci (t.Aa[k].heads) 0 40 _).mono ?_;rintro e x2 ⟨rfl,hxe⟩;subst hxe;refine Z.K hK ?_;clear Z hK;intro a Z;rcases Bool.eq_false_or_eq_true (btw t.Aa[k].heads 0 40) with hhd|hhd
      ·rw[hhd]at Z;(iterate 3 refine Z.x ?_;clear Z;intro a Z);refine oy (Z.g 42) fun K hK=>?_
       have e43:=Z.g 43;have c4:=K1.cell (o:=4) rfl;go_simp;refine Z.K hK ?_;clear Z hK;intro a Z;(iterate 3 refine Z.t ?_;clear Z;intro a Z);refine oy (Z.g 42) fun K hK=>?_
       have e47:=Z.g 47;have d0:=y1;go_simp;refine Z.K hK ?_;clear Z hK;intro a Z;refine oy (Z.g 42) fun K hK=>?_
       have e48:=Z.g 48;go_simp;refine(Ci (t.Aa[k].free) 0 40 _).mono ?_;rintro e x2 ⟨rfl,hxe⟩;subst hxe;refine Z.K hK ?_;clear Z hK;intro a Z;rcases Bool.eq_false_or_eq_true (btw t.Aa[k].free 0 40) with hfr|hfr
       ·rw[hfr]at Z;(iterate 2 refine Z.x ?_;clear Z;intro a Z);refine od ?_;refine Z.cs 51 ?_;have hb1:=JF HF.out;rw[List.length_take]at hb1;have hb2:=Am.1 hhd;refine wr ?_;(iterate 2 refine Z.s ?_;clear Z;intro a Z);refine Z.rv rfl rfl rfl (by decide) (Aj rfl (Z.ev 53 rfl) Try.underlying25 rfl (K1.cell (o:=4) (v:=.slice (some ⟨pb,po,none⟩) t.Aa.length pc) rfl)) ?_;clear Z;intro a Z;(iterate 3 refine Z.s ?_;clear Z;intro a Z);refine Z.rv rfl rfl rfl (by decide) (Aj rfl (Z.ev 57 rfl) Try.underlying3 rfl (y0)) ?_;clear Z;intro a Z;refine Z.f (IntWalk.i64_in ((AL (t.Aa.take k))+t.Aa[k].heads) (by omega)) ?_;clear Z;intro a Z;refine Z.e ?_;clear Z;intro a Z;refine wr ?_;refine Z.s ?_;clear Z;intro a Z;refine Z.f (IntWalk.i64_in ((k:Int)+1) (by omega)) ?_;clear Z;intro a Z;refine Z.e ?_;clear Z;intro a Z;rw[← MI hlt]at Z;exact⟨n-1,by omega,k+1,by omega,Lib.hid (Rj hlt HF.out hhd hfr),Z.sb,hB,hT,K1⟩
       ·rw[hfr]at Z;(iterate 2 refine Z.x ?_;clear Z;intro a Z);refine od ?_;refine Z.ct 51 ?_;refine wsr ?_;refine Z.e ?_;clear Z;intro a Z;refine wp_ret ?_
        try simp only[xt]
        have HR:=Lib.hid (show Aq t=1 from by exact(FN HRD.out hpc (Eo H0.out h4)).1 k hlt (.inr hfr));rw[HR.out];exact Z.rt (v:=.int .i64 1) 2 ⟨rfl,hB⟩
      ·rw[hhd]at Z;(iterate 11 refine Z.x ?_;clear Z;intro a Z);refine od ?_;refine Z.ct 51 ?_;refine wsr ?_;refine Z.e ?_;clear Z;intro a Z;refine wp_ret ?_
       try simp only[xt]
       have HR:=Lib.hid (show Aq t=1 from by exact(FN HRD.out hpc (Eo H0.out h4)).1 k hlt (.inl hhd));rw[HR.out];exact Z.rt (v:=.int .i64 1) 2 ⟨rfl,hB⟩
     ·have q1:¬ (k:Int)<(t.Aa.length:Int):=by omega
      obtain rfl:k=t.Aa.length:=by omega
      refine Z.e ?_;clear Z;intro a Z;refine Z.cf 31 ?_;refine wp_exit ?_;refine wp_seq ?_;refine wp_seq ?_;have HFA:Hid (t.Aa.all AZ=true):=Lib.hid (by have:=HF.out;rwa [List.take_length]at this);rw[List.take_length]at Z;refine wr ?_;refine Z.s ?_;clear Z;intro a Z;refine oz fun K hK=>?_
      have e60:=Z.g 60;go_simp;refine(Ci ((AL t.Aa)) 1 40 _).mono ?_;rintro e x2 ⟨rfl,hxe⟩;subst hxe;refine Z.K hK ?_;clear Z hK;intro a Z;rcases Bool.eq_false_or_eq_true (btw (AL t.Aa) 1 40) with hall|hall
      ·rw[hall]at Z;refine Z.e ?_;clear Z;intro a Z;refine Z.cs 62 ?_;refine wss ?_;refine Z.s ?_;clear Z;intro a Z;refine Z.rv rfl rfl rfl (by decide) (Aj rfl (Z.ev 63 rfl) Try.underlying26 rfl (K1.cell (o:=5) (v:=.slice ta t.Af.length tc) rfl)) ?_;clear Z;intro a Z;refine Z.s ?_;clear Z;intro a Z
       by_cases h6:6<t.Af.length
       ·have q6:(t.Af.length:Int) > 6:=by omega
        refine Z.e ?_;clear Z;intro a Z;refine Z.ct 66 ?_;refine wsr ?_;refine Z.e ?_;clear Z;intro a Z;refine wp_ret ?_
        try simp only[xt]
        have HR:=Lib.hid (show Aq t=6 from by rw[(FN HRD.out hpc (Eo H0.out h4)).2.2 HFA.out hall];unfold DY;rw[if_pos h6]);rw[HR.out];exact Z.rt (v:=.int .i64 6) 2 ⟨rfl,hB⟩
       ·have q6:¬ (t.Af.length:Int) > 6:=by omega
        refine Z.e ?_;clear Z;intro a Z;refine Z.cs 66 ?_;refine wss ?_;refine Z.e ?_;clear Z;intro a Z;refine wp_block ?_;refine wp_loop_ghost (fun n p x=>∃ k:Nat,k+n=t.Af.length∧Hid (BK t.roads.strips.length (t.Af.take k) (t.Af.drop k)=BK t.roads.strips.length [] t.Af)∧Sl p 123 [(6,.int .i64 (k:Int)),(1,.pointer (some ⟨b1,0,none⟩))]∧Below w.heap.size w x∧Bf x t ⟨sa,sc,pa,pc,ta,tc⟩∧Rw x b1 (CJ t ⟨sa,sc,pa,pc,ta,tc⟩) 28) (t.Af.length) ⟨0,by omega,Lib.hid rfl,Z.sb,hB,hT,K1⟩ ?_;clear Z hB hT K1;rintro n a x ⟨k,hkn,HE,Z,hB,hT,K1⟩;refine wss ?_;(iterate 2 refine Z.s ?_;clear Z;intro a Z);refine Z.rv rfl rfl rfl (by decide) (Aj rfl (Z.ev 68 rfl) Try.underlying26 rfl (K1.cell (o:=5) (v:=.slice ta t.Af.length tc) rfl)) ?_;clear Z;intro a Z;refine Z.s ?_;clear Z;intro a Z
        by_cases hlt:k<t.Af.length
        ·have q1:(k:Int)<(t.Af.length:Int):=by omega
         refine Z.e ?_;clear Z;intro a Z;refine Z.ct 71 ?_;refine wp_skip ?_;refine wp_seq ?_;refine wp_block ?_;refine wp_seq ?_;obtain⟨tb,to2,hta,u0,u1,u2⟩:=hT.Af.at hlt;replace hta:ta=some ⟨tb,to2,none⟩:=hta;subst hta;simp only[MQ]at u0 u1 u2;have qk:(k:Int)<(t.Af.length:Int):=by omega
         replace K1:Rw x b1 #[.int .i64 t.roads.days,.int .i64 t.roads.stages,.slice sa t.roads.strips.length sc,.int .i64 t.pace,.slice pa t.Aa.length pc,.slice (some ⟨tb,to2,none⟩) t.Af.length tc] 28:=K1;refine wr ?_;refine Z.s ?_;clear Z;intro a Z;refine Z.rv rfl rfl rfl (by decide) (Aj rfl (Z.ev 74 rfl) Try.underlying26 rfl (K1.cell (o:=5) (v:=.slice (some ⟨tb,to2,none⟩) t.Af.length tc) rfl)) ?_;clear Z;intro a Z;(iterate 2 refine Z.s ?_;clear Z;intro a Z);refine oz fun K hK=>?_
         have e77:=Z.g 77;have d0:=u0;have d1:=u1;have d2:=u2;go_simp;refine Z.K hK ?_;clear Z hK;intro a Z;refine Z.s ?_;clear Z;intro a Z;refine aw ?_;obtain⟨b7,hg⟩:∃ b,b=x.heap.size:=⟨_,rfl⟩;have ht_b7:tb<b7:=by rw[hg];exact lt_of_cell u0
         intro x hz K7 hb2;rw[← hg]at Z K7;have hhB7:w.heap.size≤b7:=by rw[hg];exact hB.size
         have h1_7:b1<b7:=by rw[hg];exact K1.lt
         replace hB:=hB.trans (hb2.mono hB.size);replace hT:=hT0.below hB;replace K1:=K1.below hb2;replace u0:=Ad hb2 u0;replace u1:=Ad hb2 u1;replace u2:=Ad hb2 u2;clear hz hg hb2;refine Z.rs rfl rfl rfl (Eu rfl (Z.ev 7 rfl) (Z.ev 78 rfl) (by kernel_rfl) K7 rfl rfl) ?_;have hG:=Bh K7 #[.int .i64 t.Af[k].strip,.int .i64 t.Af[k].rate,.int .i64 t.Af[k].farmer];have K_:=K7.setRow #[.int .i64 t.Af[k].strip,.int .i64 t.Af[k].rate,.int .i64 t.Af[k].farmer];replace hB:=ET hB hG (by omega);replace hT:=hT0.below hB;replace K1:=K1.grown hG (by simp;omega);replace u0:=TS hG u0 (by omega);replace u1:=TS hG u1 (by omega);replace u2:=TS hG u2 (by omega);have K7:=K_;clear hG K_;obtain⟨x,hx2⟩:∃ q,q=x.setRow b7 #[.int .i64 t.Af[k].strip,.int .i64 t.Af[k].rate,.int .i64 t.Af[k].farmer]:=⟨_,rfl⟩;rw[← hx2]at hB hT K1 u0 u1 u2 K7 ⊢;clear hx2;refine od ?_;refine wp_seq ?_;refine wp_seq ?_;clear u0 u1 u2;refine wr ?_;refine Z.s ?_;clear Z;intro a Z;refine Z.rv rfl rfl rfl (by decide) (Aj rfl (Z.ev 79 rfl) Try.underlying3 rfl (K7.cell (o:=0) (v:=.int .i64 t.Af[k].strip) rfl)) ?_;clear Z;intro a Z;(iterate 2 refine Z.s ?_;clear Z;intro a Z)
         refine Z.rv rfl rfl rfl (by decide) (Aj rfl (Z.ev 82 rfl) Try.underlying22 rfl (K1.cell (o:=2) (v:=.slice sa t.roads.strips.length sc) rfl)) ?_;clear Z;intro a Z;refine Z.s ?_;clear Z;intro a Z;refine Z.f (IntWalk.i64_in ((t.roads.strips.length:Int)-1) (by omega)) ?_;clear Z;intro a Z;refine oz fun K hK=>?_
         have e80:=Z.g 80;have e85:=Z.g 85;go_simp;refine(Ci (t.Af[k].strip) 0 (((t.roads.strips.length:Int)-1)) _).mono ?_;rintro e x2 ⟨rfl,hxe⟩;subst hxe;refine Z.K hK ?_;clear Z hK;intro a Z;rcases Bool.eq_false_or_eq_true (btw t.Af[k].strip 0 ((t.roads.strips.length:Int)-1)) with hst|hst
         ·rw[hst]at Z;refine Z.e ?_;clear Z;intro a Z;refine Z.cs 87 ?_;refine wss ?_;refine Z.s ?_;clear Z;intro a Z;refine Z.rv rfl rfl rfl (by decide) (Aj rfl (Z.ev 88 rfl) Try.underlying3 rfl (K7.cell (o:=1) (v:=.int .i64 t.Af[k].rate) rfl)) ?_;clear Z;intro a Z;refine oz fun K hK=>?_
          have e89:=Z.g 89;go_simp;refine(Ci (t.Af[k].rate) 0 500 _).mono ?_;rintro e x2 ⟨rfl,hxe⟩;subst hxe;refine Z.K hK ?_;clear Z hK;intro a Z;rcases Bool.eq_false_or_eq_true (btw t.Af[k].rate 0 500) with hra|hra
          ·rw[hra]at Z;(iterate 3 refine Z.x ?_;clear Z;intro a Z);refine oy (Z.g 92) fun K hK=>?_
           have e93:=Z.g 93;have c2:=K7.cell (o:=2) rfl;go_simp;refine Z.K hK ?_;clear Z hK;intro a Z;refine oy (Z.g 92) fun K hK=>?_
           have e94:=Z.g 94;go_simp;refine(Ci (t.Af[k].farmer) 1 4 _).mono ?_;rintro e x2 ⟨rfl,hxe⟩;subst hxe;refine Z.K hK ?_;clear Z hK;intro a Z;rcases Bool.eq_false_or_eq_true (btw t.Af[k].farmer 1 4) with hfa|hfa
           ·rw[hfa]at Z;(iterate 2 refine Z.x ?_;clear Z;intro a Z);refine od ?_;refine Z.cs 97 ?_;refine wsr ?_;refine Z.e ?_;clear Z;intro a Z;refine wp_block ?_;refine wp_loop_ghost (fun n p x=>∃ j:Nat,j+n=k∧Hid ((t.Af.take j).any (fun y=>y.strip == t.Af[k].strip && y.farmer == t.Af[k].farmer)=false)∧Sl p 123 [(8,.int .i64 (j:Int)),(1,.pointer (some ⟨b1,0,none⟩)),(6,.int .i64 (k:Int)),(7,.pointer (some ⟨b7,0,none⟩))]∧Below w.heap.size w x∧Bf x t ⟨sa,sc,pa,pc,some ⟨tb,to2,none⟩,tc⟩∧Rw x b1 #[.int .i64 t.roads.days,.int .i64 t.roads.stages,.slice sa t.roads.strips.length sc,.int .i64 t.pace,.slice pa t.Aa.length pc,.slice (some ⟨tb,to2,none⟩) t.Af.length tc] 28∧Rw x b7 #[.int .i64 t.Af[k].strip,.int .i64 t.Af[k].rate,.int .i64 t.Af[k].farmer] 57) (k) ⟨0,by omega,Lib.hid rfl,Z.sb,hB,hT,K1,K7⟩ ?_;clear Z hB hT K1 K7;rintro n2 a x ⟨j,hkn,HA,Z,hB,hT,K1,K7⟩;refine wss ?_;(iterate 2 refine Z.s ?_;clear Z;intro a Z)
            by_cases hjk:j<k
            ·have q1:(j:Int)<(k:Int):=by omega
             refine Z.e ?_;clear Z;intro a Z;refine Z.ct 100 ?_;refine wp_skip ?_;refine wp_seq ?_;refine wp_block ?_;refine wp_seq ?_;obtain⟨tb_,to_,hta_,v0,_,v2⟩:=hT.Af.at (show j<t.Af.length by omega);simp only[Option.some.injEq,Addr.mk.injEq,and_true]at hta_;obtain⟨rfl,rfl⟩:=hta_;simp only[MQ]at v0 v2;have qj:(j:Int)<(t.Af.length:Int):=by omega
             refine GN rfl (by kernel_rfl) (by kernel_rfl) ?_;refine Z.u ?_;clear Z;intro a Z;refine Z.q rfl rfl rfl (by decide) ⟨?_,fun y hy K hK=>?_,?_⟩;rotate_left
             ·have e103:=Z.g 103;replace hB:=hB.trans (hy.mono hB.size);replace hT:=hT0.below hB;replace K1:=K1.below hy;replace K7:=K7.below hy;replace v0:=Ad hy v0;replace v2:=Ad hy v2;refine AB (Aj rfl (Z.ev 103 rfl) Try.underlying26 rfl (K1.cell (o:=5) (v:=.slice (some ⟨tb,to2,none⟩) t.Af.length tc) rfl)) ?_;exact hK
             clear Z;intro a Z;(iterate 3 refine Z.u ?_;clear Z;intro a Z);refine Z.q rfl rfl rfl (by decide) ⟨?_,fun y hy K hK=>?_,?_⟩;rotate_left
             ·have e107:=Z.g 107;replace hB:=hB.trans (hy.mono hB.size);replace hT:=hT0.below hB;replace K1:=K1.below hy;replace K7:=K7.below hy;replace v0:=Ad hy v0;replace v2:=Ad hy v2;refine AB (Aj rfl (Z.ev 107 rfl) Try.underlying3 rfl (v0)) ?_;exact hK
             clear Z;intro a Z;refine Z.u ?_;clear Z;intro a Z;refine Z.q rfl rfl rfl (by decide) ⟨?_,fun y hy K hK=>?_,?_⟩;rotate_left
             ·have e109:=Z.g 109;replace hB:=hB.trans (hy.mono hB.size);replace hT:=hT0.below hB;replace K1:=K1.below hy;replace K7:=K7.below hy;replace v0:=Ad hy v0;replace v2:=Ad hy v2;refine AB (Aj rfl (Z.ev 109 rfl) Try.underlying3 rfl (K7.cell (o:=0) (v:=.int .i64 t.Af[k].strip) rfl)) ?_;exact hK
             clear Z;intro a Z
             by_cases hs1:t.Af[j].strip=t.Af[k].strip
             ·have qs1:=EI hs1;have HS1:=Lib.hid hs1;clear hs1;(iterate 2 refine Z.u ?_;clear Z;intro a Z);refine Z.uw ?_;clear Z;intro a Z;refine Z.qw rfl rfl rfl rfl rfl rfl (by decide) ⟨?_,fun y hy K hK=>?_,?_⟩;rotate_left
              ·have e113:=Z.g 113;replace hB:=hB.trans (hy.mono hB.size);replace hT:=hT0.below hB;replace K1:=K1.below hy;replace K7:=K7.below hy;replace v0:=Ad hy v0;replace v2:=Ad hy v2;refine AB (Aj rfl (Z.ev 113 rfl) Try.underlying26 rfl (K1.cell (o:=5) (v:=.slice (some ⟨tb,to2,none⟩) t.Af.length tc) rfl)) ?_;exact hK
              clear Z;intro a Z;refine Z.uw ?_;clear Z;intro a Z;refine Z.uw ?_;clear Z;intro a Z;refine Z.uw ?_;clear Z;intro a Z;refine Z.qw rfl rfl rfl rfl rfl rfl (by decide) ⟨?_,fun y hy K hK=>?_,?_⟩;rotate_left
              ·have e117:=Z.g 117;replace hB:=hB.trans (hy.mono hB.size);replace hT:=hT0.below hB;replace K1:=K1.below hy;replace K7:=K7.below hy;replace v0:=Ad hy v0;replace v2:=Ad hy v2;refine AB (Aj rfl (Z.ev 117 rfl) Try.underlying3 rfl (v2)) ?_;exact hK
              clear Z;intro a Z;refine Z.uw ?_;clear Z;intro a Z;refine Z.qw rfl rfl rfl rfl rfl rfl (by decide) ⟨?_,fun y hy K hK=>?_,?_⟩;rotate_left
              ·have e119:=Z.g 119;replace hB:=hB.trans (hy.mono hB.size);replace hT:=hT0.below hB;replace K1:=K1.below hy;replace K7:=K7.below hy;replace v0:=Ad hy v0;replace v2:=Ad hy v2;refine AB (Aj rfl (Z.ev 119 rfl) Try.underlying3 rfl (K7.cell (o:=2) (v:=.int .i64 t.Af[k].farmer) rfl)) ?_;exact hK
              clear Z;intro a Z
              by_cases hs2:t.Af[j].farmer=t.Af[k].farmer
              ·have qs2:=EI hs2;have HS2:=Lib.hid hs2;clear hs2;refine Z.uw ?_;clear Z;intro a Z;refine Z.u ?_;clear Z;intro a Z;refine E8 ?_;intro x hb2;replace hB:=hB.trans (hb2.mono hB.size);replace hT:=hT0.below hB;replace K1:=K1.below hb2;replace K7:=K7.below hb2;replace v0:=Ad hb2 v0;replace v2:=Ad hb2 v2;clear hb2;refine Z.ct 122 ?_;refine wsr ?_;refine Z.e ?_;clear Z;intro a Z;refine wp_ret ?_
               try simp only[xt]
               have HR:=Lib.hid (show Aq t=4 from by rw[(FN HRD.out hpc (Eo H0.out h4)).2.2 HFA.out hall];unfold DY;rw[if_neg h6,← HE.out];exact EY hlt (te4 hst hra hfa (Yq hlt hjk HS1.out HS2.out)) (by decide));rw[HR.out];exact Z.rt (v:=.int .i64 4) 2 ⟨rfl,hB⟩
              ·have qs2:=DW hs2;have HS2:=Lib.hid hs2;clear hs2;refine Z.uw ?_;clear Z;intro a Z;refine Z.u ?_;clear Z;intro a Z;refine E8 ?_;intro x hb2;replace hB:=hB.trans (hb2.mono hB.size);replace hT:=hT0.below hB;replace K1:=K1.below hb2;replace K7:=K7.below hb2;replace v0:=Ad hb2 v0;replace v2:=Ad hb2 v2;clear hb2;refine Z.cs 122 ?_;refine wr ?_;refine Z.s ?_;clear Z;intro a Z;refine Z.f (IntWalk.i64_in ((j:Int)+1) (by omega)) ?_;clear Z;intro a Z;refine Z.e ?_;clear Z;intro a Z;have HA2:=Lib.hid (Na (show j<t.Af.length by omega) HA.out (fun h=>HS2.out h.2));exact⟨n2-1,by omega,j+1,by omega,HA2,Z.sb,hB,hT,K1,K7⟩
             ·have qs1:=DW hs1;have HS1:=Lib.hid hs1;clear hs1;(iterate 2 refine Z.u ?_;clear Z;intro a Z);refine Z.un ?_;clear Z;intro a Z;refine Z.un ?_;clear Z;intro a Z;refine Z.un ?_;clear Z;intro a Z;refine Z.un ?_;clear Z;intro a Z;refine Z.un ?_;clear Z;intro a Z;refine Z.un ?_;clear Z;intro a Z;refine Z.un ?_;clear Z;intro a Z;refine Z.un ?_;clear Z;intro a Z;refine Z.un ?_;clear Z;intro a Z;refine Z.u ?_;clear Z;intro a Z;refine E8 ?_;intro x hb2;replace hB:=hB.trans (hb2.mono hB.size);replace hT:=hT0.below hB;replace K1:=K1.below hb2;replace K7:=K7.below hb2;replace v0:=Ad hb2 v0;replace v2:=Ad hb2 v2;clear hb2;refine Z.cs 122 ?_;refine wr ?_;refine Z.s ?_;clear Z;intro a Z;refine Z.f (IntWalk.i64_in ((j:Int)+1) (by omega)) ?_;clear Z;intro a Z;refine Z.e ?_;clear Z;intro a Z;have HA2:=Lib.hid (Na (show j<t.Af.length by omega) HA.out (fun h=>HS1.out h.1));exact⟨n2-1,by omega,j+1,by omega,HA2,Z.sb,hB,hT,K1,K7⟩
            ·have q1:¬ (j:Int)<(k:Int):=by omega
             obtain rfl:k=j:=by omega
             refine Z.e ?_;clear Z;intro a Z;refine Z.cf 100 ?_;refine wp_exit ?_;refine wr ?_;refine Z.s ?_;clear Z;intro a Z;refine Z.f (IntWalk.i64_in ((k:Int)+1) (by omega)) ?_;clear Z;intro a Z;refine Z.e ?_;clear Z;intro a Z;have HAN:=Lib.hid (HA.out);have HE2:=Lib.hid ((J8 hlt (te0 hst hra hfa HAN.out)).trans HE.out);exact⟨n-1,by omega,k+1,by omega,HE2,Z.sb,hB,hT,K1⟩
           ·rw[hfa]at Z;(iterate 2 refine Z.x ?_;clear Z;intro a Z);refine od ?_;refine Z.ct 97 ?_;refine wsr ?_;refine Z.e ?_;clear Z;intro a Z;refine wp_ret ?_
            try simp only[xt]
            have HR:=Lib.hid (show Aq t=1 from by rw[(FN HRD.out hpc (Eo H0.out h4)).2.2 HFA.out hall];unfold DY;rw[if_neg h6,← HE.out];exact EY hlt (te1 hst (.inr hfa)) (by decide));rw[HR.out];exact Z.rt (v:=.int .i64 1) 2 ⟨rfl,hB⟩
          ·rw[hra]at Z;(iterate 7 refine Z.x ?_;clear Z;intro a Z);refine od ?_;refine Z.ct 97 ?_;refine wsr ?_;refine Z.e ?_;clear Z;intro a Z;refine wp_ret ?_
           try simp only[xt]
           have HR:=Lib.hid (show Aq t=1 from by rw[(FN HRD.out hpc (Eo H0.out h4)).2.2 HFA.out hall];unfold DY;rw[if_neg h6,← HE.out];exact EY hlt (te1 hst (.inl hra)) (by decide));rw[HR.out];exact Z.rt (v:=.int .i64 1) 2 ⟨rfl,hB⟩
         ·rw[hst]at Z;refine Z.e ?_;clear Z;intro a Z;refine Z.ct 87 ?_;refine wsr ?_;refine Z.e ?_;clear Z;intro a Z;refine wp_ret ?_
          try simp only[xt]
          have HR:=Lib.hid (show Aq t=3 from by rw[(FN HRD.out hpc (Eo H0.out h4)).2.2 HFA.out hall];unfold DY;rw[if_neg h6,← HE.out];exact EY hlt (te3 hst) (by decide));rw[HR.out];exact Z.rt (v:=.int .i64 3) 2 ⟨rfl,hB⟩
        ·have q1:¬ (k:Int)<(t.Af.length:Int):=by omega
         obtain rfl:k=t.Af.length:=by omega
         refine Z.e ?_;clear Z;intro a Z;refine Z.cf 71 ?_;refine wp_exit ?_;refine wsr ?_;refine Z.e ?_;clear Z;intro a Z;refine wp_ret ?_
         try simp only[xt]
         have HR:=Lib.hid (show Aq t=0 from by rw[(FN HRD.out hpc (Eo H0.out h4)).2.2 HFA.out hall];unfold DY;rw[if_neg h6];exact UN HE.out);rw[HR.out];exact Z.rt (v:=.int .i64 0) 2 ⟨rfl,hB⟩
      ·rw[hall]at Z;refine Z.e ?_;clear Z;intro a Z;refine Z.ct 62 ?_;refine wsr ?_;refine Z.e ?_;clear Z;intro a Z;refine wp_ret ?_
       try simp only[xt]
       have HR:=Lib.hid (show Aq t=1 from by exact(FN HRD.out hpc (Eo H0.out h4)).2.1 HFA.out hall);rw[HR.out];exact Z.rt (v:=.int .i64 1) 2 ⟨rfl,hB⟩
  ·rw[hpc]at Z;refine Z.e ?_;clear Z;intro a Z;refine Z.ct 18 ?_;refine wsr ?_;refine Z.e ?_;clear Z;intro a Z;refine wp_ret ?_
   try simp only[xt]
   have HR:=Lib.hid (show Aq t=1 from by unfold Aq;rw[if_neg (by simp[HRD.out]),if_pos (by simp[hpc])]);rw[HR.out];exact Z.rt (v:=.int .i64 1) 2 ⟨rfl,hB⟩
 ·have qr:(Bo t.roads != 0)=true:=CB hr;have HRD:=Lib.hid hr;clear hr;refine Z.e ?_;clear Z;intro a Z;refine Z.ct 13 ?_;refine wsr ?_;(iterate 2 refine Z.s ?_;clear Z;intro a Z);refine od ?_;refine wp_ret ?_
  try simp only[xt]
  have HR:=Lib.hid (show Aq t=(Bo t.roads) from by unfold Aq;rw[if_pos HRD.out]);rw[HR.out];exact Z.rt (v:=.int .i64 (Bo t.roads)) 2 ⟨rfl,hB⟩
theorem U8:(fun r=>Try.f83.body=some (.seq (r 0) (.seq (.seq (r 1) (.seq (r 2) (.cond (.tmp 10) (.seq (r 3) .ret) .skip))) (.seq (.seq (r 4) (.cond (.tmp 14) (.seq (r 5) .ret) .skip)) (.seq (.seq (r 6) (.block 0 (.loop (.seq (.seq (r 7) (.cond (.tmp 18) .skip (.exit 0))) (.seq (.block 1 (.seq (.seq (r 9) (.cond (.tmp 41) (.seq (r 10) .ret) .skip)) (.seq (r 11) (.cond (.tmp 48) (.seq (r 12) .ret) .skip)))) (r 8)))))) (.seq (r 13) .ret)))))) (Ac Try.f83):=by show _=_;kernel_rfl
theorem Kr {w:World}{t:Ae}{s:Dt}{l:List Ar}{la:Option Addr}{lc:Nat}(hT:Bf w t s) (hP:BV w la l) (hlm:l.length≤maxLen):Calls Try.prog 83 #[.agg (CJ t s),.slice la l.length lc] w (fun e w'=>e=.returned (.int .i64 (Bc t l))∧Below w.heap.size w w'):=by
 obtain⟨sa,sc,pa,pc,ta,tc⟩:=s;have hB:=Below.refl w.heap.size w;have hlp:=hT.lp;have hlt0:=hT.lt;unfold maxLen at hlp hlt0 hlm;refine I7 Try.func83 U8 Try.ntmps83 ?_;intro a Z;refine wsr ?_;refine Z.s ?_;clear Z;intro a Z;refine aw ?_;obtain⟨b2,hg⟩:∃ b,b=w.heap.size:=⟨_,rfl⟩;intro x hz K2 hb2;rw[← hg]at Z K2;have hhB2:w.heap.size≤b2:=by rw[hg];exact hB.size
 replace hB:=hB.trans (hb2.mono hB.size);replace hT:=hT.below hb2;replace hP:=hP.below hb2;clear hz hg hb2;refine Z.e ?_;clear Z;intro a Z;refine wss ?_;refine Z.rv rfl rfl rfl (by decide) (CQ rfl (Z.ev 2 rfl) Try.underlying28 rfl (by kernel_rfl) K2) ?_;clear Z;intro a Z;refine oz fun K hK=>?_
 have e7:=Z.g 7;go_simp;refine(PU hT).mono ?_;rintro e x ⟨rfl,hb2⟩;replace hB:=hB.trans (hb2.mono hB.size);replace hT:=hT.below hb2;replace hP:=hP.below hb2;replace K2:=K2.below hb2;clear hb2;refine Z.K hK ?_;clear Z hK;intro a Z;refine Z.e ?_;clear Z;intro a Z;refine wsr ?_;refine Z.s ?_;clear Z;intro a Z
 by_cases hr:Aq t=0
 ·have qr:(Aq t != 0)=false:=BO hr;have HRD:=Lib.hid hr;clear hr;refine Z.e ?_;clear Z;intro a Z;refine Z.cs 10 ?_;refine wss ?_;(iterate 2 refine Z.s ?_;clear Z;intro a Z)
  by_cases h6:24<l.length
  ·have q6:(l.length:Int) > 24:=by omega
   refine Z.e ?_;clear Z;intro a Z;refine Z.ct 14 ?_;refine wsr ?_;refine Z.e ?_;clear Z;intro a Z;refine wp_ret ?_
   try simp only[xt]
   have HR:=Lib.hid (show Bc t l=6 from by unfold Bc;rw[if_neg (by simp[HRD.out]),if_pos h6]);rw[HR.out];exact Z.rt (v:=.int .i64 6) 4 ⟨rfl,hB⟩
  ·have q6:¬ (l.length:Int) > 24:=by omega
   refine Z.e ?_;clear Z;intro a Z;refine Z.cs 14 ?_;refine wss ?_;refine Z.e ?_;clear Z;intro a Z;refine wp_block ?_;refine wp_loop_ghost (fun n p x=>∃ k:Nat,k+n=l.length∧Hid (Ed t (l.drop k)=Ed t l)∧Sl p 49 [(6,.int .i64 (k:Int)),(1,.slice la l.length lc),(2,.pointer (some ⟨b2,0,none⟩))]∧Below w.heap.size w x∧Bf x t ⟨sa,sc,pa,pc,ta,tc⟩∧BV x la l∧Rw x b2 (CJ t ⟨sa,sc,pa,pc,ta,tc⟩) 28) (l.length) ⟨0,by omega,Lib.hid rfl,Z.sb,hB,hT,hP,K2⟩ ?_;clear Z hB hT hP K2;rintro n a x ⟨k,hkn,HE,Z,hB,hT,hP,K2⟩;refine wss ?_;(iterate 3 refine Z.s ?_;clear Z;intro a Z)
   by_cases hlt:k<l.length
   ·have q1:(k:Int)<(l.length:Int):=by omega
    refine Z.e ?_;clear Z;intro a Z;refine Z.ct 18 ?_;refine wp_skip ?_;refine wp_seq ?_;refine wp_block ?_;refine wp_seq ?_;refine wp_seq ?_;obtain⟨qb,qo,hpa,c0,c1,c2⟩:=hP.at hlt;subst hpa;simp only[Oy]at c0 c1 c2;have qk:(k:Int)<(l.length:Int):=by omega
    refine GN rfl (by kernel_rfl) (by kernel_rfl) ?_;(iterate 4 refine Z.u ?_;clear Z;intro a Z);refine Z.q rfl rfl rfl (by decide) ⟨?_,fun y hy K hK=>?_,?_⟩;rotate_left
    ·have e24:=Z.g 24;replace hB:=hB.trans (hy.mono hB.size);replace hT:=hT.below hy;replace hP:=hP.below hy;replace K2:=K2.below hy;replace c0:=Ad hy c0;replace c1:=Ad hy c1;replace c2:=Ad hy c2;refine AB (Aj rfl (Z.ev 24 rfl) Try.underlying3 rfl (c0)) ?_;exact hK
    clear Z;intro a Z;refine Z.u ?_;clear Z;intro a Z;refine Z.q rfl rfl rfl (by decide) ⟨?_,fun y hy K hK=>?_,?_⟩;rotate_left
    ·have e26:=Z.g 26;replace hB:=hB.trans (hy.mono hB.size);replace hT:=hT.below hy;replace hP:=hP.below hy;replace K2:=K2.below hy;replace c0:=Ad hy c0;replace c1:=Ad hy c1;replace c2:=Ad hy c2;refine AB (Aj rfl (Z.ev 26 rfl) Try.underlying26 rfl (K2.cell (o:=5) (v:=.slice ta t.Af.length tc) rfl)) ?_;exact hK
    clear Z;intro a Z;refine Z.u ?_;clear Z;intro a Z;refine Z.q rfl rfl rfl (by decide) ⟨?_,fun y hy K hK=>?_,?_⟩;rotate_left
    ·have e28:=Z.g 28;have hw29:=IntWalk.i64_in ((t.Af.length:Int)-1) (by omega);unfold Oper.Dl;go_simp;exact hK
    clear Z;intro a Z;refine Z.q rfl rfl rfl (by decide) ⟨.bool (btw (l[k].toll) 0 (((t.Af.length:Int)-1))),fun y hy K hK=>?_,?_⟩
    ·have e25:=Z.g 25;have e29:=Z.g 29;replace hB:=hB.trans (hy.mono hB.size);replace hT:=hT.below hy;replace hP:=hP.below hy;replace K2:=K2.below hy;replace c0:=Ad hy c0;replace c1:=Ad hy c1;replace c2:=Ad hy c2;unfold Oper.Dl;go_simp;refine(Ci (l[k].toll) 0 (((t.Af.length:Int)-1)) _).mono ?_;rintro e x2 ⟨rfl,hxe⟩;exact⟨_,rfl,hK,hxe ▸ hy⟩
    clear Z;intro a Z;rcases Bool.eq_false_or_eq_true (btw l[k].toll 0 ((t.Af.length:Int)-1)) with hto|hto
    ·rw[hto]at Z;(iterate 2 refine Z.u ?_;clear Z;intro a Z);refine Z.qw rfl rfl rfl rfl rfl rfl (by decide) ⟨?_,fun y hy K hK=>?_,?_⟩;rotate_left
     ·have e2:=Z.g 2;replace hB:=hB.trans (hy.mono hB.size);replace hT:=hT.below hy;replace hP:=hP.below hy;replace K2:=K2.below hy;replace c0:=Ad hy c0;replace c1:=Ad hy c1;replace c2:=Ad hy c2;refine AB (CQ rfl (Z.ev 2 rfl) Try.underlying28 rfl (by kernel_rfl) K2) ?_;exact hK
     clear Z;intro a Z;refine Z.uw ?_;clear Z;intro a Z;refine Z.uw ?_;clear Z;intro a Z;refine Z.uw ?_;clear Z;intro a Z;refine Z.uw ?_;clear Z;intro a Z;refine Z.qw rfl rfl rfl rfl rfl rfl (by decide) ⟨?_,fun y hy K hK=>?_,?_⟩;rotate_left
     ·have e37:=Z.g 37;replace hB:=hB.trans (hy.mono hB.size);replace hT:=hT.below hy;replace hP:=hP.below hy;replace K2:=K2.below hy;replace c0:=Ad hy c0;replace c1:=Ad hy c1;replace c2:=Ad hy c2;refine AB (Aj rfl (Z.ev 37 rfl) Try.underlying3 rfl (c1)) ?_;exact hK
     clear Z;intro a Z;refine Z.qw rfl rfl rfl rfl rfl rfl (by decide) ⟨.bool (btw l[k].owner 0 ((t.Aa.length:Int)-1)),fun y hy K hK=>?_,?_⟩
     ·have e33:=Z.g 33;have e38:=Z.g 38;replace hB:=hB.trans (hy.mono hB.size);replace hT:=hT.below hy;replace hP:=hP.below hy;replace K2:=K2.below hy;replace c0:=Ad hy c0;replace c1:=Ad hy c1;replace c2:=Ad hy c2;unfold Oper.Dl;go_simp;refine(Ot hT (l[k].owner)).mono ?_;rintro e x2 ⟨rfl,hb2⟩;exact⟨_,rfl,hK,hy.trans (hb2.mono hy.size)⟩
     clear Z;intro a Z;rcases Bool.eq_false_or_eq_true (btw l[k].owner 0 ((t.Aa.length:Int)-1)) with how|how
     ·rw[how]at Z;refine Z.uw ?_;clear Z;intro a Z;refine Z.u ?_;clear Z;intro a Z;refine E8 ?_;intro x hb2;replace hB:=hB.trans (hb2.mono hB.size);replace hT:=hT.below hb2;replace hP:=hP.below hb2;replace K2:=K2.below hb2;replace c0:=Ad hb2 c0;replace c1:=Ad hb2 c1;replace c2:=Ad hb2 c2;clear hb2;refine Z.cs 41 ?_;refine wsr ?_;(iterate 4 refine Z.s ?_;clear Z;intro a Z);refine Z.rv rfl rfl rfl (by decide) (Aj rfl (Z.ev 45 rfl) Try.underlying3 rfl (c2)) ?_;clear Z;intro a Z;refine oz fun K hK=>?_
      have e46:=Z.g 46;go_simp;refine(Ci (l[k].heads) 1 40 _).mono ?_;rintro e x2 ⟨rfl,hxe⟩;subst hxe;refine Z.K hK ?_;clear Z hK;intro a Z;rcases Bool.eq_false_or_eq_true (btw l[k].heads 1 40) with hhd|hhd
      ·rw[hhd]at Z;refine Z.e ?_;clear Z;intro a Z;refine Z.cs 48 ?_;refine wr ?_;refine Z.s ?_;clear Z;intro a Z;refine Z.f (IntWalk.i64_in ((k:Int)+1) (by omega)) ?_;clear Z;intro a Z;refine Z.e ?_;clear Z;intro a Z;exact⟨n-1,by omega,k+1,by omega,Lib.hid ((MC hlt (pe0 hto how hhd)).symm.trans HE.out),Z.sb,hB,hT,hP,K2⟩
      ·rw[hhd]at Z;refine Z.e ?_;clear Z;intro a Z;refine Z.ct 48 ?_;refine wsr ?_;refine Z.e ?_;clear Z;intro a Z;refine wp_ret ?_
       try simp only[xt]
       have HR:=Lib.hid (show Bc t l=1 from by unfold Bc;rw[if_neg (by simp[HRD.out]),if_neg h6,← HE.out];exact Gz hlt (pe1 hto how hhd) (by decide));rw[HR.out];exact Z.rt (v:=.int .i64 1) 4 ⟨rfl,hB⟩
     ·rw[how]at Z;refine Z.uw ?_;clear Z;intro a Z;refine Z.u ?_;clear Z;intro a Z;refine E8 ?_;intro x hb2;replace hB:=hB.trans (hb2.mono hB.size);replace hT:=hT.below hb2;replace hP:=hP.below hb2;replace K2:=K2.below hb2;replace c0:=Ad hb2 c0;replace c1:=Ad hb2 c1;replace c2:=Ad hb2 c2;clear hb2;refine Z.ct 41 ?_;refine wsr ?_;refine Z.e ?_;clear Z;intro a Z;refine wp_ret ?_
      try simp only[xt]
      have HR:=Lib.hid (show Bc t l=3 from by unfold Bc;rw[if_neg (by simp[HRD.out]),if_neg h6,← HE.out];exact Gz hlt (Ace how) (by decide));rw[HR.out];exact Z.rt (v:=.int .i64 3) 4 ⟨rfl,hB⟩
    ·rw[hto]at Z;(iterate 2 refine Z.u ?_;clear Z;intro a Z);refine Z.un ?_;clear Z;intro a Z;refine Z.un ?_;clear Z;intro a Z;refine Z.un ?_;clear Z;intro a Z;refine Z.un ?_;clear Z;intro a Z;refine Z.un ?_;clear Z;intro a Z;refine Z.un ?_;clear Z;intro a Z;refine Z.un ?_;clear Z;intro a Z;refine Z.un ?_;clear Z;intro a Z;refine Z.u ?_;clear Z;intro a Z;refine E8 ?_;intro x hb2;replace hB:=hB.trans (hb2.mono hB.size);replace hT:=hT.below hb2;replace hP:=hP.below hb2;replace K2:=K2.below hb2;replace c0:=Ad hb2 c0;replace c1:=Ad hb2 c1;replace c2:=Ad hb2 c2;clear hb2;refine Z.ct 41 ?_;refine wsr ?_;refine Z.e ?_;clear Z;intro a Z;refine wp_ret ?_
     try simp only[xt]
     have HR:=Lib.hid (show Bc t l=3 from by unfold Bc;rw[if_neg (by simp[HRD.out]),if_neg h6,← HE.out];exact Gz hlt (Acf hto) (by decide));rw[HR.out];exact Z.rt (v:=.int .i64 3) 4 ⟨rfl,hB⟩
   ·have q1:¬ (k:Int)<(l.length:Int):=by omega
    obtain rfl:k=l.length:=by omega
    refine Z.e ?_;clear Z;intro a Z;refine Z.cf 18 ?_;refine wp_exit ?_;refine wsr ?_;refine Z.e ?_;clear Z;intro a Z;refine wp_ret ?_
    try simp only[xt]
    have HR:=Lib.hid (show Bc t l=0 from by unfold Bc;rw[if_neg (by simp[HRD.out]),if_neg h6,← HE.out,List.drop_of_length_le (Nat.le_refl _)];rfl);rw[HR.out];exact Z.rt (v:=.int .i64 0) 4 ⟨rfl,hB⟩
 ·have qr:(Aq t != 0)=true:=CB hr;have HRD:=Lib.hid hr;clear hr;refine Z.e ?_;clear Z;intro a Z;refine Z.ct 10 ?_;refine wsr ?_;(iterate 2 refine Z.s ?_;clear Z;intro a Z);refine od ?_;refine wp_ret ?_
  try simp only[xt]
  have HR:=Lib.hid (show Bc t l=(Aq t) from by unfold Bc;rw[if_pos HRD.out]);rw[HR.out];exact Z.rt (v:=.int .i64 (Aq t)) 4 ⟨rfl,hB⟩
end
end Go.Proofs.Ytgdobbcjkiapkaa
