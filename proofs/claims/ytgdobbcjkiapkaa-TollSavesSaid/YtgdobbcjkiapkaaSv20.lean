import Derived.Test.YtgdobbcjkiapkaaSv19
import Derived.Test.YtgdobbcjkiapkaaSv04
import Derived.Test.YtgdobbcjkiapkaaSv01
import Derived.Maps.OwnSet
import Derived.Maps.RangeWalk
import Derived.Maps.RangeRun
import Derived.WideKeyArgs2
import Derived.Conc.LoneCalls
import Derived.Deep.Cut
import Derived.Test.YtgdobbcjkiapkaaSv02
import Derived.Test.YtgdobbcjkiapkaaSv15
namespace Go.Proofs.Ytgdobbcjkiapkaa
set_option maxRecDepth 100000
set_option maxHeartbeats 4000000
set_option linter.unusedSimpArgs false
set_option linter.unusedVariables false
section
open Go.RowKit
structure TI (w x:World) (bt:Nat) (t:Ae) (s:Dt):Prop where
 below:Below w.heap.size w x
 tar:Bf x t s
 kb:Rw x bt (CJ t s) 28
 lb:w.heap.size≤bt
section
variable {w x:World}{bt:Nat}{t:Ae}{s:Dt}
theorem TI.keep (h:TI w x bt t s) {x2:World}(hb:Below x.heap.size x x2):TI w x2 bt t s:=⟨h.below.trans (hb.mono h.below.size),h.tar.below hb,h.kb.below hb,h.lb⟩
theorem TI.c0 (h:TI w x bt t s):x.cell? ⟨bt,0,none⟩=some (.int .i64 t.roads.days):=h.kb.cell rfl
theorem TI.c1 (h:TI w x bt t s):x.cell? ⟨bt,1,none⟩=some (.int .i64 t.roads.stages):=h.kb.cell rfl
theorem TI.c2 (h:TI w x bt t s):x.cell? ⟨bt,2,none⟩=some (.slice s.sa t.roads.strips.length s.sc):=h.kb.cell rfl
theorem TI.c3 (h:TI w x bt t s):x.cell? ⟨bt,3,none⟩=some (.int .i64 t.pace):=h.kb.cell rfl
theorem TI.c4 (h:TI w x bt t s):x.cell? ⟨bt,4,none⟩=some (.slice s.pa t.Aa.length s.pc):=h.kb.cell rfl
theorem TI.c5 (h:TI w x bt t s):x.cell? ⟨bt,5,none⟩=some (.slice s.ta t.Af.length s.tc):=h.kb.cell rfl
theorem TI.made {w0:World}(h0:Below w.heap.size w w0) (ht:Bf w0 t s) {W:World}(hX:Rw W w0.heap.size (CJ t s) 28) (hb:Below w0.heap.size w0 W):TI w W w0.heap.size t s:=⟨h0.trans (hb.mono h0.size),ht.below hb,hX,h0.size⟩
end
theorem U9 {t:Ae}{s:Dt}{w:World}(h:Bf w t s):Calls Try.prog 85 #[.agg #[.int .i64 t.roads.days,.int .i64 t.roads.stages,.slice s.sa t.roads.strips.length s.sc]] w
   fun e w'=>e=.returned (.int .i64 (Bo t.roads))∧Below w.heap.size w w':=check_any _ _ _ _ _ _ h.strips h.ls
theorem Bz (k:Nat) (h:k≤1000000):IntKind.i64.wrap ((k:Int)+1)=((k+1:Nat):Int):=by rw[IntWalk.i64_in _ (by omega)];simp
theorem EI {a b:Int}(h:a=b):(a == b)=true:=by simpa using h
theorem DW {a b:Int}(h:¬ a=b):(a == b)=false:=by simpa using h
theorem CB {a b:Int}(h:¬ a=b):(a != b)=true:=by simpa using h
theorem Ut {n lo hi:Int}(h:O8 n lo hi=0):lo≤n∧n≤hi:=by
 unfold O8 at h
 split at h
 ·exact absurd h (by decide)
 ·split at h
  ·exact absurd h (by decide)
  ·omega
theorem FN {t:Ae}(h1:Bo t.roads=0) (h2:btw t.pace 1 9=true) (h3:O8 t.Aa.length 1 4=0) :
  (∀ k (hk:k<t.Aa.length),(btw (t.Aa[k]).heads 0 40=false∨btw (t.Aa[k]).free 0 40=false)→Aq t=1) ∧
  (t.Aa.all AZ=true→btw (AL t.Aa) 1 40=false→Aq t=1)∧(t.Aa.all AZ=true→btw (AL t.Aa) 1 40=true→Aq t=DY t):=by
 refine⟨fun k hk h=>?_,fun ha hb=>?_,fun ha hb=>?_⟩
 ·have:t.Aa.all AZ=false:=by
   rw[List.all_eq_false];exact⟨t.Aa[k],List.getElem_mem hk,by rcases h with h|h<;>simp[AZ,h]⟩
  unfold Aq;rw[if_neg (by simp[h1]),if_neg (by simp[h2]),if_neg (by simp[h3]),if_pos (by simp[this])]
 ·unfold Aq;rw[if_neg (by simp[h1]),if_neg (by simp[h2]),if_neg (by simp[h3]),if_neg (by simp[ha]),if_pos (by simp[hb])]
 ·unfold Aq;rw[if_neg (by simp[h1]),if_neg (by simp[h2]),if_neg (by simp[h3]),if_neg (by simp[ha]),if_neg (by simp[hb])]
theorem Rj {ps:List A8}{k:Nat}(hk:k<ps.length) (h:(ps.take k).all AZ=true) (h1:btw ps[k].heads 0 40=true) (h2:btw ps[k].free 0 40=true):(ps.take (k+1)).all AZ=true:=by
 rw[List.take_succ_eq_append_getElem hk,List.all_append,h];simp[AZ,h1,h2]
theorem RI {ps:List A8}{k:Nat}(hl:(ps.length:Int)≤4) (hk:k<ps.length) (h:(ps.take k).all AZ=true) (h1:btw ps[k].heads 0 40=true):IntKind.i64.wrap (AL (ps.take k)+ps[k].heads)=AL (ps.take (k+1)):=by
 have h2:=JF h;have h3:=Am.1 h1;have h4:(ps.take k).length≤4:=by rw[List.length_take];omega
 rw[MI hk,IntWalk.i64_in _ (by omega)]
theorem BO {a b:Int}(h:a=b):(a != b)=false:=by simpa using h
theorem te3 {N:Int}{pre:List BA}{x:BA}(h:btw x.strip 0 (N-1)=false):CP N pre x=3:=by unfold CP;rw[if_pos (by rw[h];rfl)]
theorem te1 {N:Int}{pre:List BA}{x:BA}(h:btw x.strip 0 (N-1)=true) (h2:btw x.rate 0 500=false∨btw x.farmer 1 4=false):CP N pre x=1:=by
 unfold CP;rw[if_neg (by simp[h]),if_pos (by rcases h2 with h2|h2<;>simp[h2])]
theorem te4 {N:Int}{pre:List BA}{x:BA}(h:btw x.strip 0 (N-1)=true) (h1:btw x.rate 0 500=true) (h2:btw x.farmer 1 4=true) (h3:pre.any (fun y=>y.strip == x.strip && y.farmer == x.farmer)=true):CP N pre x=4:=by
 unfold CP;rw[if_neg (by simp[h]),if_neg (by simp[h1,h2]),if_pos h3]
theorem te0 {N:Int}{pre:List BA}{x:BA}(h:btw x.strip 0 (N-1)=true) (h1:btw x.rate 0 500=true) (h2:btw x.farmer 1 4=true) (h3:pre.any (fun y=>y.strip == x.strip && y.farmer == x.farmer)=false):CP N pre x=0:=by
 unfold CP;rw[if_neg (by simp[h]),if_neg (by simp[h1,h2]),if_neg (by rw[h3];simp)]
theorem Yq {ts:List BA}{k j:Nat}(hk:k<ts.length) (hj:j<k) (h1:ts[j].strip=ts[k].strip) (h2:ts[j].farmer=ts[k].farmer):(ts.take k).any (fun y=>y.strip == ts[k].strip && y.farmer == ts[k].farmer)=true:=by
 rw[List.any_eq_true];refine⟨ts[j],?_,by simp[h1,h2]⟩;rw[List.mem_take_iff_getElem];exact⟨j,by omega,rfl⟩
theorem Na {ts:List BA}{x:BA}{j:Nat}(hj:j<ts.length) (h:(ts.take j).any (fun y=>y.strip == x.strip && y.farmer == x.farmer)=false) (h1:¬ (ts[j].strip=x.strip∧ts[j].farmer=x.farmer)):(ts.take (j+1)).any (fun y=>y.strip == x.strip && y.farmer == x.farmer)=false:=by
 rw[List.take_succ_eq_append_getElem hj,List.any_append,h];simp only[List.any_cons,List.any_nil,Bool.or_false,Bool.false_or,Bool.and_eq_false_iff,beq_eq_false_iff_ne]
 by_cases e:ts[j].strip=x.strip
 ·exact .inr fun e2=>h1 ⟨e,e2⟩
 ·exact .inl e
theorem Sr:(fun r=>Try.f88.body=some (.seq (r 0) (.seq (.seq (r 1) (.cond (.tmp 10) (.seq (r 2) .ret) .skip)) (.seq (.seq (r 3) (.block 0 (.loop (.seq (r 4) (.seq (.cond (.tmp 15) .skip (.exit 0)) (.seq (.block 1 (.seq (r 5) (.seq (.seq (r 6) (.cond (.tmp 27) (.seq (r 7) .ret) .skip)) (.seq (.seq (r 8) (.cond (.tmp 37) (.seq (r 9) .ret) .skip)) (.seq (r 10) (.block 2 (.loop (.seq (r 11) (.seq (.cond (.tmp 44) .skip (.exit 2)) (.seq (.block 3 (.seq (r 12) (.seq (r 13) (.cond (.tmp 58) (.seq (r 14) .ret) .skip)))) (r 15))))))))))) (r 16))))))) (.seq (r 17) .ret))))) (Ac Try.f88):=by show _=_;kernel_rfl
theorem Wx {t:Ae}{s:Dt}{w:World}(ht:Bf w t s):Calls Try.prog 88 #[.agg (CJ t s)] w (fun e w'=>e=.returned (.int .i64 (DY t))∧Below w.heap.size w w'):=by
 refine MW Try.func88 Sr Try.ntmps88 ?_;intro a Z;refine wsr ?_;refine Z.s ?_;clear Z;intro a Z;refine aw ?_;intro x hz X hb;have hI:=TI.made (Below.refl _ _) ht X hb;obtain⟨bt,hbt⟩:∃ b,b=w.heap.size:=⟨_,rfl⟩;rw[← hbt]at Z hI;clear hz X hb hbt;refine Z.e ?_;clear Z;intro a Z;refine wss ?_;refine Z.s ?_;clear Z;intro a Z;refine Z.f hI.c5 ?_;clear Z;intro a Z;refine Z.s ?_;clear Z;intro a Z
 by_cases h1:6<t.Af.length
 ·have q1:(6:Int)<(t.Af.length:Int):=by omega
  have hR:=Lib.hid (show DY t=6 from by unfold DY;rw[if_pos h1]);refine Z.e ?_;clear Z;intro a Z;refine Z.ct 10 ?_;refine wsr ?_;refine Z.e ?_;clear Z;intro a Z;refine wp_ret ?_
  try simp only[xt]
  exact Z.rt (v:=.int .i64 (DY t)) 2 ⟨rfl,hI.below⟩ (hm:=by rw[hR.out];rfl)
 ·have q1:¬ (6:Int)<(t.Af.length:Int):=by omega
  refine Z.e ?_;clear Z;intro a Z;refine Z.cs 10 ?_;refine wss ?_;refine Z.s ?_;clear Z;intro a Z;refine Z.f hI.c5 ?_;clear Z;intro a Z;(iterate 2 refine Z.s ?_;clear Z;intro a Z);refine od ?_;refine wp_block ?_;have hl6:t.Af.length≤6:=by omega
  refine wp_loop_ghost (fun n p x=>∃ k:Nat,k+n=t.Af.length∧BK t.roads.strips.length (t.Af.take k) (t.Af.drop k)=DY t∧Sl p 61 [(1,.pointer (some ⟨bt,0,none⟩)),(12,.slice s.ta t.Af.length s.tc),(13,.int .i64 (t.Af.length:Int)),(14,.int .i64 (k:Int))]∧TI w x bt t s) t.Af.length ⟨0,by omega,by unfold DY;rw[if_neg h1];rfl,Z.sb,hI⟩ ?_;clear Z hI h1;rintro n a x ⟨k,hkn,hE,Z,hI⟩;have HE:=Lib.hid hE;clear hE;refine wsr ?_
  by_cases hlt:k<t.Af.length
  ·have q1:(k:Int)<(t.Af.length:Int):=by omega
   obtain⟨pb,po,hpa,p0,p1,p2⟩:=hI.tar.Af.at hlt;rw[hpa]at Z;simp only[MQ]at p0 p1 p2;refine Z.e ?_;clear Z;intro a Z;refine wp_seq ?_;refine Z.ct 15 ?_;refine wp_skip ?_;refine wp_seq ?_;refine wp_block ?_;refine wsr ?_;(iterate 3 refine Z.s ?_;clear Z;intro a Z);refine oz fun K hK=>?_
   obtain⟨g,hg⟩:∃ b,b=x.heap.size:=⟨_,rfl⟩;go_simp;refine Z.K hK ?_;clear Z hK;intro a Z;refine Z.s ?_;clear Z;intro a Z;refine oz fun K hK=>?_
   have e4:=Z.g 4;have e18:=Z.g 18;go_simp;clear e4 e18;refine hK _ _ ?_;clear hK;refine aw ?_;intro x hz G hb;replace hI:=hI.keep hb;rw[← hg]at Z G;clear hz hb p0 p1 p2 hg;refine od ?_;have HR:=Lib.hid (fun e (h:CP t.roads.strips.length (t.Af.take k) t.Af[k]=e) (h0:e≠0)=>HE.out.symm.trans (EY hlt h h0));refine wss ?_;refine Z.s ?_;clear Z;intro a Z;refine Z.f (G.cell (o:=0) rfl) ?_;clear Z;intro a Z;(iterate 2 refine Z.s ?_;clear Z;intro a Z);refine Z.f hI.c2 ?_;clear Z;intro a Z;refine Z.s ?_;clear Z;intro a Z;refine oz fun K hK=>?_
   have e24:=Z.g 24;have hw:IntKind.i64.wrap ((t.roads.strips.length:Int)-1)=(t.roads.strips.length:Int)-1:=IntWalk.i64_in _ (by have:=hI.tar.ls;unfold maxLen at this;omega);go_simp;refine Z.K hK ?_;clear Z hK;intro a Z;refine oz fun K hK=>?_
   have e20:=Z.g 20;have e25:=Z.g 25;go_simp;refine(BH _ _ _ _).mono ?_;rintro e x ⟨rfl,rfl⟩;refine Z.K hK ?_;clear Z hK;intro a Z;rcases Bool.eq_false_or_eq_true (btw t.Af[k].strip 0 ((t.roads.strips.length:Int)-1)) with h2|h2
   ·rw[h2]at Z;refine Z.e ?_;clear Z;intro a Z;refine Z.cs 27 ?_;refine wss ?_;refine Z.s ?_;clear Z;intro a Z;refine Z.f (G.cell (o:=1) rfl) ?_;clear Z;intro a Z;refine oz fun K hK=>?_
    have e29:=Z.g 29;go_simp;refine(BH _ _ _ _).mono ?_;rintro e x ⟨rfl,rfl⟩;refine Z.K hK ?_;clear Z hK;intro a Z;rcases Bool.eq_false_or_eq_true (btw t.Af[k].rate 0 500) with h3|h3
    ·rw[h3]at Z;(iterate 3 refine Z.x ?_;clear Z;intro a Z);refine oy (Z.g 32) fun K hK=>?_
     have e33:=Z.g 33;have g6:=G.cell (o:=2) rfl;go_simp;refine Z.K hK ?_;clear Z hK;intro a Z;refine oy (Z.g 32) fun K hK=>?_
     have e34:=Z.g 34;go_simp;refine(BH _ _ _ _).mono ?_;rintro e x ⟨rfl,rfl⟩;refine Z.K hK ?_;clear Z hK;intro a Z;rcases Bool.eq_false_or_eq_true (btw t.Af[k].farmer 1 4) with h4|h4
     ·rw[h4]at Z;(iterate 2 refine Z.x ?_;clear Z;intro a Z);refine od ?_;refine Z.cs 37 ?_;refine wsr ?_;refine Z.s ?_;clear Z;intro a Z;refine Z.f hI.c5 ?_;clear Z;intro a Z;refine Z.s ?_;clear Z;intro a Z;refine oz fun K hK=>?_
      have e39:=Z.g 39;have e40:=Z.g 40;have hqk:(k:Int)≤(s.tc:Int):=by have:=hI.tar.qt;omega
      have hk0:(0:Int)≤(k:Int):=by omega
      go_simp;refine Z.K hK ?_;clear Z hK;intro a Z;(iterate 2 refine Z.s ?_;clear Z;intro a Z);refine od ?_;refine wp_block ?_;refine wp_loop_ghost (fun n2 p x=>∃ j:Nat,j+n2=k∧(t.Af.take j).any (fun y=>y.strip == t.Af[k].strip && y.farmer == t.Af[k].farmer)=false∧Sl p 61 [(1,.pointer (some ⟨bt,0,none⟩)),(4,.pointer (some ⟨g,0,none⟩)),(12,.slice (some ⟨pb,po,none⟩) t.Af.length s.tc),(13,.int .i64 (t.Af.length:Int)),(14,.int .i64 (k:Int)),(41,.slice (some ⟨pb,po,none⟩) k s.tc),(42,.int .i64 (k:Int)),(43,.int .i64 (j:Int))]∧TI w x bt t s∧Rw x g #[.int .i64 t.Af[k].strip,.int .i64 t.Af[k].rate,.int .i64 t.Af[k].farmer] 57) k ⟨0,by omega,by simp,Z.sb,hI,G⟩ ?_;clear Z hI G;rintro n2 a x ⟨j,hjn,hany,Z,hI,G⟩;have HANY:=Lib.hid hany;clear hany;refine wsr ?_
      by_cases hj:j<k
      ·have q2:(j:Int)<(k:Int):=by omega
       have hjl:j<t.Af.length:=by omega
       obtain⟨pb2,po2,hpa2,p0,p1,p2⟩:=hI.tar.Af.at hjl;obtain⟨rfl,rfl⟩:pb=pb2∧po=po2:=by rw[hpa]at hpa2;simpa using hpa2
       simp only[MQ]at p0 p1 p2;clear hpa2;refine Z.e ?_;clear Z;intro a Z;refine wp_seq ?_;refine Z.ct 44 ?_;refine wp_skip ?_;refine wp_seq ?_;refine wp_block ?_;refine wsr ?_;(iterate 2 refine Z.s ?_;clear Z;intro a Z);refine oz fun K hK=>?_
       obtain⟨g2,hg⟩:∃ b,b=x.heap.size:=⟨_,rfl⟩;go_simp;refine Z.K hK ?_;clear Z hK;intro a Z;refine oz fun K hK=>?_
       have e6:=Z.g 6;have e46:=Z.g 46;go_simp;clear e6 e46;refine hK _ _ ?_;clear hK;refine aw ?_;intro x hz Y hb;replace hI:=hI.keep hb;replace G:=G.below hb;rw[← hg]at Z Y;clear hz hb p0 p1 p2 hg;refine od ?_;refine wsr ?_;refine Z.s ?_;clear Z;intro a Z;refine Z.f (Y.cell (o:=0) rfl) ?_;clear Z;intro a Z;refine Z.s ?_;clear Z;intro a Z;refine Z.f (G.cell (o:=0) rfl) ?_;clear Z;intro a Z
       by_cases h5:t.Af[j].strip=t.Af[k].strip
       ·have hbe:=EI h5;(iterate 3 refine Z.x ?_;clear Z;intro a Z);refine oy (Z.g 52) fun K hK=>?_
        have e53:=Z.g 53;have y2:=Y.cell (o:=2) rfl;go_simp;refine Z.K hK ?_;clear Z hK;intro a Z;refine Z.t ?_;clear Z;intro a Z;refine oy (Z.g 52) fun K hK=>?_
        have e55:=Z.g 55;have g2:=G.cell (o:=2) rfl;go_simp;refine Z.K hK ?_;clear Z hK;intro a Z
        by_cases h6:t.Af[j].farmer=t.Af[k].farmer
        ·have hbe2:=EI h6;have hR:=Lib.hid (HR.out _ (te4 h2 h3 h4 (Yq hlt hj h5 h6)) (by decide));(iterate 2 refine Z.x ?_;clear Z;intro a Z);refine od ?_;refine Z.ct 58 ?_;refine wsr ?_;refine Z.e ?_;clear Z;intro a Z;refine wp_ret ?_
         try simp only[xt]
         exact Z.rt (v:=.int .i64 (DY t)) 2 ⟨rfl,hI.below⟩ (hm:=by rw[hR.out];rfl)
        ·have hbe2:=DW h6;(iterate 2 refine Z.x ?_;clear Z;intro a Z);refine od ?_;refine Z.cs 58 ?_;refine wr ?_;refine Z.f (Bz j (by omega)) ?_;clear Z;intro a Z;refine Z.e ?_;clear Z;intro a Z;show Exists _;exact⟨n2-1,by omega,j+1,by omega,Na hjl HANY.out (fun h=>h6 h.2),Z.sb,hI,G⟩
       ·have hbe:=DW h5;(iterate 8 refine Z.x ?_;clear Z;intro a Z);refine od ?_;refine Z.cs 58 ?_;refine wr ?_;refine Z.f (Bz j (by omega)) ?_;clear Z;intro a Z;refine Z.e ?_;clear Z;intro a Z;show Exists _;exact⟨n2-1,by omega,j+1,by omega,Na hjl HANY.out (fun h=>h5 h.1),Z.sb,hI,G⟩
      ·obtain rfl:k=j:=by omega
       refine Z.e ?_;clear Z;intro a Z;refine wp_seq ?_;refine Z.cf 44 ?_;refine wp_exit ?_;have hany:=HANY.out;refine wr ?_;refine Z.f (Bz k (by omega)) ?_;clear Z;intro a Z;refine Z.e ?_;clear Z;intro a Z;show Exists _;exact⟨n-1,by omega,k+1,by omega,(J8 hlt (te0 h2 h3 h4 hany)).trans HE.out,by rw[hpa];exact Z.sb,hI⟩
     ·rw[h4]at Z;have hR:=Lib.hid (HR.out _ (te1 h2 (.inr h4)) (by decide));(iterate 2 refine Z.x ?_;clear Z;intro a Z);refine od ?_;refine Z.ct 37 ?_;refine wsr ?_;refine Z.e ?_;clear Z;intro a Z;refine wp_ret ?_
      try simp only[xt]
      exact Z.rt (v:=.int .i64 (DY t)) 2 ⟨rfl,hI.below⟩ (hm:=by rw[hR.out];rfl)
    ·rw[h3]at Z;have hR:=Lib.hid (HR.out _ (te1 h2 (.inl h3)) (by decide));(iterate 7 refine Z.x ?_;clear Z;intro a Z);refine od ?_;refine Z.ct 37 ?_;refine wsr ?_;refine Z.e ?_;clear Z;intro a Z;refine wp_ret ?_
     try simp only[xt]
     exact Z.rt (v:=.int .i64 (DY t)) 2 ⟨rfl,hI.below⟩ (hm:=by rw[hR.out];rfl)
   ·rw[h2]at Z;have hR:=Lib.hid (HR.out _ (te3 h2) (by decide));refine Z.e ?_;clear Z;intro a Z;refine Z.ct 27 ?_;refine wsr ?_;refine Z.e ?_;clear Z;intro a Z;refine wp_ret ?_
    try simp only[xt]
    exact Z.rt (v:=.int .i64 (DY t)) 2 ⟨rfl,hI.below⟩ (hm:=by rw[hR.out];rfl)
  ·obtain rfl:k=t.Af.length:=by omega
   refine Z.e ?_;clear Z;intro a Z;refine wp_seq ?_;refine Z.cf 15 ?_;refine wp_exit ?_;have hR:=Lib.hid (show DY t=0 from by rw[← HE.out,List.drop_of_length_le (Nat.le_refl _)];rfl);refine wsr ?_;refine Z.e ?_;clear Z;intro a Z;refine wp_ret ?_
   try simp only[xt]
   exact Z.rt (v:=.int .i64 (DY t)) 2 ⟨rfl,hI.below⟩ (hm:=by rw[hR.out];rfl)
theorem SB:(fun r=>Try.f39.body=some (.seq (r 0) (.seq (.seq (r 1) (.seq (r 2) (.cond (.tmp 12) (.seq (r 3) .ret) .skip))) (.seq (.seq (r 4) (.cond (.tmp 17) (.seq (r 5) .ret) .skip)) (.seq (.seq (r 6) (.seq (r 7) (.cond (.tmp 23) (.seq (r 8) .ret) .skip))) (.seq (r 9) (.seq (.seq (r 10) (.block 0 (.loop (.seq (r 11) (.seq (.cond (.tmp 29) .skip (.exit 0)) (.seq (.block 1 (.seq (r 12) (.seq (.seq (r 13) (.cond (.tmp 41) (.seq (r 14) .ret) .skip)) (r 15)))) (r 16))))))) (.seq (.seq (r 17) (.cond (.tmp 49) (.seq (r 18) .ret) .skip)) (.seq (r 19) .ret))))))))) (Ac Try.f39):=by show _=_;kernel_rfl
theorem Lt {t:Ae}{s:Dt}{w:World}(ht:Bf w t s):Calls Try.prog 39 #[.agg (CJ t s)] w (fun e w'=>e=.returned (.int .i64 (Aq t))∧Below w.heap.size w w'):=by
 refine MW Try.func39 SB Try.ntmps39 ?_;intro a Z;refine wsr ?_;refine Z.s ?_;clear Z;intro a Z;refine aw ?_;intro x hz X hb;have hI:=TI.made (Below.refl _ _) ht X hb;obtain⟨bt,hbt⟩:∃ b,b=w.heap.size:=⟨_,rfl⟩;rw[← hbt]at Z hI;clear hz X hb hbt;refine Z.e ?_;clear Z;intro a Z;refine wss ?_;refine Z.s ?_;clear Z;intro a Z;refine oz fun K hK=>?_
 have e8:=Z.g 8;have c0:=hI.c0;have c1:=hI.c1;have c2:=hI.c2;go_simp;refine Z.K hK ?_;clear Z hK;intro a Z;refine oz fun K hK=>?_
 have e9:=Z.g 9;go_simp;refine(U9 hI.tar).mono ?_;rintro e x ⟨rfl,hb⟩;replace hI:=hI.keep hb;clear hb;refine Z.K hK ?_;clear Z hK;intro a Z;refine Z.e ?_;clear Z;intro a Z;refine wsr ?_;refine Z.s ?_;clear Z;intro a Z
 by_cases h1:Bo t.roads=0
 ·have hne:=BO h1;refine Z.e ?_;clear Z;intro a Z;refine Z.cs 12 ?_;refine wss ?_;refine Z.s ?_;clear Z;intro a Z;refine Z.f hI.c3 ?_;clear Z;intro a Z;refine oz fun K hK=>?_
  have e15:=Z.g 15;go_simp;refine(BH _ _ _ _).mono ?_;rintro e x ⟨rfl,rfl⟩;refine Z.K hK ?_;clear Z hK;intro a Z;rcases Bool.eq_false_or_eq_true (btw t.pace 1 9) with h2|h2
  ·rw[h2]at Z;refine Z.e ?_;clear Z;intro a Z;refine Z.cs 17 ?_;refine wss ?_;refine Z.s ?_;clear Z;intro a Z;refine Z.f hI.c4 ?_;clear Z;intro a Z;refine Z.s ?_;clear Z;intro a Z;refine oz fun K hK=>?_
   have e20:=Z.g 20;go_simp;refine(AaJ _ _ _ _).mono ?_;rintro e x ⟨rfl,rfl⟩;refine Z.K hK ?_;clear Z hK;intro a Z;refine Z.e ?_;clear Z;intro a Z;refine wsr ?_;refine Z.s ?_;clear Z;intro a Z
   by_cases h3:O8 t.Aa.length 1 4=0
   ·have hne:=BO h3;obtain⟨hl1,hl4⟩:=Ut h3;have HC:=Lib.hid (FN h1 h2 h3);clear h1 h2 h3;refine Z.e ?_;clear Z;intro a Z;refine Z.cs 23 ?_;refine wsr ?_;refine Z.e ?_;clear Z;intro a Z;refine wss ?_;refine Z.s ?_;clear Z;intro a Z;refine Z.f hI.c4 ?_;clear Z;intro a Z;(iterate 2 refine Z.s ?_;clear Z;intro a Z);refine od ?_;refine wp_block ?_;refine wp_loop_ghost (fun n p x=>∃ k:Nat,k+n=t.Aa.length∧(t.Aa.take k).all AZ=true∧Sl p 52 [(1,.pointer (some ⟨bt,0,none⟩)),(5,.int .i64 (AL (t.Aa.take k))),(26,.slice s.pa t.Aa.length s.pc),(27,.int .i64 (t.Aa.length:Int)),(28,.int .i64 (k:Int))]∧TI w x bt t s) t.Aa.length ⟨0,by omega,rfl,Z.sb,hI⟩ ?_;clear Z hI;rintro n a x ⟨k,hkn,hfine,Z,hI⟩;have hadd:=fun (hlt:k<t.Aa.length) h4=>RI (hl:=hl4) hlt hfine h4
    refine wsr ?_
    by_cases hlt:k<t.Aa.length
    ·have q1:(k:Int)<(t.Aa.length:Int):=by omega
     obtain⟨pb,po,hpa,p0,p1,p2⟩:=hI.tar.Aa.at hlt;rw[hpa]at Z;simp only[Xj]at p0 p1 p2;refine Z.e ?_;clear Z;intro a Z;refine wp_seq ?_;refine Z.ct 29 ?_;refine wp_skip ?_;refine wp_seq ?_;refine wp_block ?_;refine wsr ?_;(iterate 3 refine Z.s ?_;clear Z;intro a Z);refine oz fun K hK=>?_
     have e7:=Z.g 7;have e31:=Z.g 31;go_simp;clear e7 e31;refine hK _ _ ?_;clear hK;refine aw ?_;intro x hz G hb;replace hI:=hI.keep hb;clear hz hb p0 p1 p2;refine od ?_;refine wss ?_;refine Z.s ?_;clear Z;intro a Z;refine Z.f (G.cell (o:=0) rfl) ?_;clear Z;intro a Z;refine oz fun K hK=>?_
     have e33:=Z.g 33;go_simp;refine(BH _ _ _ _).mono ?_;rintro e x ⟨rfl,rfl⟩;refine Z.K hK ?_;clear Z hK;intro a Z;rcases Bool.eq_false_or_eq_true (btw (t.Aa[k]).heads 0 40) with h4|h4
     ·rw[h4]at Z;(iterate 3 refine Z.x ?_;clear Z;intro a Z);refine oy (Z.g 36) fun K hK=>?_
      have e37:=Z.g 37;have g6:=G.cell (o:=1) rfl;go_simp;refine Z.K hK ?_;clear Z hK;intro a Z;refine oy (Z.g 36) fun K hK=>?_
      have e38:=Z.g 38;go_simp;refine(BH _ _ _ _).mono ?_;rintro e x ⟨rfl,rfl⟩;refine Z.K hK ?_;clear Z hK;intro a Z;rcases Bool.eq_false_or_eq_true (btw (t.Aa[k]).free 0 40) with h5|h5
      ·rw[h5]at Z;(iterate 2 refine Z.x ?_;clear Z;intro a Z);refine od ?_;refine Z.cs 41 ?_;refine wr ?_;(iterate 2 refine Z.s ?_;clear Z;intro a Z);refine Z.f (G.cell (o:=0) rfl) ?_;clear Z;intro a Z;refine Z.f (hadd hlt h4) ?_;clear Z;intro a Z;refine Z.e ?_;clear Z;intro a Z;refine wr ?_;refine Z.f (Bz k (by omega)) ?_;clear Z;intro a Z;refine Z.e ?_;clear Z;intro a Z;have hpa2:=hpa;exact⟨n-1,by omega,k+1,by omega,Rj hlt hfine h4 h5,by rw[hpa];exact Z.sb,hI⟩
      ·rw[h5]at Z;have hR:=Lib.hid (HC.out.1 k hlt (.inr h5));(iterate 2 refine Z.x ?_;clear Z;intro a Z);refine od ?_;refine Z.ct 41 ?_;refine wsr ?_;refine Z.e ?_;clear Z;intro a Z;refine wp_ret ?_
       try simp only[xt]
       exact Z.rt (v:=.int .i64 (Aq t)) 2 ⟨rfl,hI.below⟩ (hm:=by rw[hR.out];rfl)
     ·rw[h4]at Z;have hR:=Lib.hid (HC.out.1 k hlt (.inl h4));(iterate 7 refine Z.x ?_;clear Z;intro a Z);refine od ?_;refine Z.ct 41 ?_;refine wsr ?_;refine Z.e ?_;clear Z;intro a Z;refine wp_ret ?_
      try simp only[xt]
      exact Z.rt (v:=.int .i64 (Aq t)) 2 ⟨rfl,hI.below⟩ (hm:=by rw[hR.out];rfl)
    ·obtain rfl:k=t.Aa.length:=by omega
     rw[List.take_length]at Z hfine;refine Z.e ?_;clear Z;intro a Z;refine wp_seq ?_;refine Z.cf 29 ?_;refine wp_exit ?_;refine wss ?_;refine Z.s ?_;clear Z;intro a Z;refine oz fun K hK=>?_
     have e47:=Z.g 47;go_simp;refine(BH _ _ _ _).mono ?_;rintro e x ⟨rfl,rfl⟩;refine Z.K hK ?_;clear Z hK;intro a Z;rcases Bool.eq_false_or_eq_true (btw (AL t.Aa) 1 40) with h6|h6
     ·rw[h6]at Z;have hR:=Lib.hid (HC.out.2.2 hfine h6);refine Z.e ?_;clear Z;intro a Z;refine Z.cs 49 ?_;refine wsr ?_;refine oz fun K hK=>?_
      have e1:=Z.g 1;have c0:=hI.c0;have c1:=hI.c1;have c2:=hI.c2;have c3:=hI.c3;have c4:=hI.c4;have c5:=hI.c5;go_simp;refine Z.K hK ?_;clear Z hK;intro a Z;refine oz fun K hK=>?_
      have e50:=Z.g 50;go_simp;refine(Wx hI.tar).mono ?_;rintro e x ⟨rfl,hb⟩;replace hI:=hI.keep hb;clear hb;refine Z.K hK ?_;clear Z hK;intro a Z;refine Z.e ?_;clear Z;intro a Z;refine wp_ret ?_
      try simp only[xt]
      exact Z.rt (v:=.int .i64 (Aq t)) 2 ⟨rfl,hI.below⟩ (hm:=by rw[hR.out];rfl)
     ·rw[h6]at Z;have hR:=Lib.hid (HC.out.2.1 hfine h6);refine Z.e ?_;clear Z;intro a Z;refine Z.ct 49 ?_;refine wsr ?_;refine Z.e ?_;clear Z;intro a Z;refine wp_ret ?_
      try simp only[xt]
      exact Z.rt (v:=.int .i64 (Aq t)) 2 ⟨rfl,hI.below⟩ (hm:=by rw[hR.out];rfl)
   ·have hne:=CB h3;have hR:=Lib.hid (show Aq t=O8 t.Aa.length 1 4 from by unfold Aq;rw[if_neg (by simp[h1]),if_neg (by simp[h2]),if_pos h3]);refine Z.e ?_;clear Z;intro a Z;refine Z.ct 23 ?_;refine wsr ?_;(iterate 2 refine Z.s ?_;clear Z;intro a Z);refine od ?_;refine wp_ret ?_
    try simp only[xt]
    exact Z.rt (v:=.int .i64 (Aq t)) 2 ⟨rfl,hI.below⟩ (hm:=by rw[hR.out];rfl)
  ·rw[h2]at Z;have hR:=Lib.hid (show Aq t=1 from by unfold Aq;rw[if_neg (by simp[h1]),if_pos (by rw[h2];rfl)]);refine Z.e ?_;clear Z;intro a Z;refine Z.ct 17 ?_;refine wsr ?_;refine Z.e ?_;clear Z;intro a Z;refine wp_ret ?_
   try simp only[xt]
   exact Z.rt (v:=.int .i64 (Aq t)) 2 ⟨rfl,hI.below⟩ (hm:=by rw[hR.out];rfl)
 ·have hne:=CB h1;have hR:=Lib.hid (show Aq t=Bo t.roads from by unfold Aq;rw[if_pos h1]);refine Z.e ?_;clear Z;intro a Z;refine Z.ct 12 ?_;refine wsr ?_;(iterate 2 refine Z.s ?_;clear Z;intro a Z);refine od ?_;refine wp_ret ?_
  try simp only[xt]
  exact Z.rt (v:=.int .i64 (Aq t)) 2 ⟨rfl,hI.below⟩ (hm:=by rw[hR.out];rfl)
end
section
open Go.RowKit
open Go.ChangeMaps (setBlock)
open Go.WideMaps (KeyLaw)
def NC (ps:List (Value×Value)):Array MapEntry:=(ps.zipIdx.map fun q=>({ key:=q.1.1,val:=q.1.2,born:=q.2 }:MapEntry)).toArray
def G5 (w:World) (m:Nat) (ps:List (Value×Value)):Prop:=w.heap[m]?=some (.map (NC ps) ps.length)
theorem Nz (ps:List (Value×Value)):(NC ps).size=ps.length:=by simp[NC]
theorem Em (ps:List (Value×Value)) (i:Nat):(NC ps)[i]?=(ps[i]?).map fun q=>({ key:=q.1,val:=q.2,born:=i }:MapEntry):=by
 simp only[NC,List.getElem?_toArray,List.getElem?_map,List.getElem?_zipIdx,Option.map_map]
 cases ps[i]?<;>simp
theorem Xw (ps:List (Value×Value)) (k v:Value):(NC ps).push { key:=k,val:=v,born:=ps.length }=NC (ps++[(k,v)]):=by
 simp[NC,List.zipIdx_append]
theorem G5.made (w:World):G5 (w.alloc (.map #[] 0)) w.heap.size []:=by
 show (w.heap.push _)[w.heap.size]?=some _;simp[NC]
theorem G5.lt {w:World}{m:Nat}{ps:List (Value×Value)}(h:G5 w m ps):m<w.heap.size:=(Array.getElem?_eq_some_iff.1 h).1
theorem G5.below {w w':World}{m:Nat}{ps:List (Value×Value)}(h:G5 w m ps) {B:Nat}(hb:Below B w w') (hB:m<B):G5 w' m ps:=by
 unfold G5 at *;rw[hb.block m hB];exact h
section
variable {P:Program}{k e t:TypeId}
theorem GU {w w0:World}{B m:Nat}(o:Obj) (hb:Below B w0 w) (hB:B≤m):Below B w0 (setBlock w m o) :=
 hb.trans ⟨rfl,rfl,rfl,by simp[setBlock],fun k hk=>by simp only[setBlock];rw[Array.getElem?_setIfInBounds_ne (by omega)]⟩
theorem Oq {w:World}{m j:Nat}(o:Obj) (h:m≠j):(setBlock w m o).heap[j]?=w.heap[j]?:=by simp only[setBlock];rw[Array.getElem?_setIfInBounds_ne h]
theorem G5.set {w:World}{m:Nat}{ps:List (Value×Value)}(ps':List (Value×Value)) (h:G5 w m ps):G5 (setBlock w m (.map (NC ps') ps'.length)) m ps':=by
 have:=h.lt;simp[G5,setBlock,this]
end
end
section
open Go.RowKit Go.Conc
def AbJ (P:Program) (o:Oper) (a:Act) (w:World) (next:Act→World→Prop):Prop :=
 (∃ c v z w1 cap buf s r tm,(execOp a.eval o).run P w=.ok (.comm #[scase c v z] true .send) w1∧w1.heap[c]?=some (.chan cap buf false s r tm)∧buf.size<cap ∧
   next (a.put o.dst undef) (w1.setChan c cap (buf.push v) false (s+1) r tm)) ∨
 (∃ c z w1 cap buf s r tm,(execOp a.eval o).run P w=.ok (.comm #[rcase c z] true (.recv false)) w1∧w1.heap[c]?=some (.chan cap buf false s r tm)∧0<buf.size ∧
   next (a.put o.dst (buf.getD 0 undef)) (w1.setChan c cap (buf.extract 1 buf.size) false s (r+1) tm))
def wpC (P:Program) (ops:Array Oper) (Q:Exit→Act→World→Prop):List Nat→Act→World→Prop
 | [],a,w=>Q .normal a w
 | i::rest,a,w =>
  match ops[i]? with
  | none=>False
  | some o=>o.guard=none∧(o.wp P a w (wpC P ops Q rest) Q∨(o.asks P a w∧LetsOut Q)∨AbJ P o a w (wpC P ops Q rest))
end
section
open Go.RowKit Go.Conc
open Go.ChangeMaps (setBlock)
end
section
open Go.RowKit Go.Conc
open Go.ChangeMaps (setBlock)
section
variable {r:Ew}{f:Flock}{shut day:Int}{q:Int×Int}{S:List (Int×Int)}{k:Nat}{s:Strip}{eo:Int×Bool}
end
end
section
open Go Go.Conc
open Go.RowKit
open Go.ChangeMaps (setBlock)
def pvG (q:List ((Int×Int)×Int)):List (Value×Value):=q.map fun p=>(gk p.1,.int .i64 p.2)
theorem LH (q:List ((Int×Int)×Int)):(pvG q).length=q.length:=by simp[pvG]
theorem Qd (q:List ((Int×Int)×Int)):FU (NC (pvG q)).toList q:=by
 unfold FU;apply List.ext_getElem?;intro i;rw[List.getElem?_map,Array.getElem?_toList,Em];simp only[pvG,List.getElem?_map]
 cases q[i]?<;>rfl
def Gm:List ((Int×Int)×Int)→Int×Int→Nat→Option (Nat×Int)
 | [],_,_=>none
 | p::l,k,i=>if p.1=k then some (i,p.2) else Gm l k (i+1)
def RX:List ((Int×Int)×Int)→Int×Int→Int→List ((Int×Int)×Int)
 | [],k,v=>[(k,v)]
 | p::l,k,v=>if p.1=k then (k,v)::l else p::RX l k v
theorem JW:∀ {l:List ((Int×Int)×Int)}{k:Int×Int}{i:Nat},Gm l k i=none→atK l k=none∧∀ v,RX l k v=l++[(k,v)]
 | [],k,i,_=>⟨rfl,fun v=>rfl⟩
 | p::l,k,i,h=>by
  rw[Gm]at h
  by_cases e:p.1=k
  ·rw[if_pos e]at h;simp at h
  ·rw[if_neg e]at h;obtain⟨h1,h2⟩:=JW h;have e2:(p.1 == k)=false:=by simpa using e
   refine⟨?_,fun v=>?_⟩
   ·unfold atK at h1 ⊢;rw[List.find?_cons,e2];exact h1
   ·rw[RX,if_neg e,h2];rfl
theorem JV:∀ {l:List ((Int×Int)×Int)}{k:Int×Int}{i j:Nat}{u:Int},Gm l k i=some (j,u)→i≤j∧j-i<l.length∧l[j-i]?=some (k,u)∧atK l k=some u∧∀ v,RX l k v=l.set (j-i) (k,v)
 | [],k,i,j,u,h=>by simp[Gm]at h
 | p::l,k,i,j,u,h=>by
  rw[Gm]at h
  by_cases e:p.1=k
  ·rw[if_pos e]at h;simp only[Option.some.injEq,Prod.mk.injEq]at h;obtain⟨rfl,rfl⟩:=h;refine⟨Nat.le_refl _,by simp,by simp[← e],?_,fun v=>?_⟩
   ·unfold atK;rw[List.find?_cons,show (p.1 == k)=true by simpa using e];rfl
   ·rw[RX,if_pos e];simp
  ·rw[if_neg e]at h;obtain⟨h1,h2,h3,h4,h5⟩:=JV h;have hj:j-i=(j-(i+1))+1:=by omega
   refine⟨by omega,by simp only[List.length_cons];omega,by rw[hj];simpa using h3,?_,fun v=>?_⟩
   ·unfold atK at h4 ⊢;rw[List.find?_cons,show (p.1 == k)=false by simpa using e];exact h4
   ·rw[RX,if_neg e,h5,hj];rfl
theorem Yo (l:List ((Int×Int)×Int)) (k k':Int×Int) (v:Int):atK (RX l k v) k'=if k'=k then some v else atK l k':=by
 induction l with
 | nil =>
  by_cases e:k'=k
  ·subst e;simp[RX,atK]
  ·have:(k == k')=false:=by simpa using fun h=>e h.symm
   simp[RX,atK,this,e]
 | cons p l ih =>
  rw[RX]
  by_cases c:p.1=k
  ·rw[if_pos c]
   by_cases e:k'=k
   ·subst e;simp[atK]
   ·have h1:(k == k')=false:=by simpa using fun h=>e h.symm
    have h2:(p.1 == k')=false:=by rw[c];exact h1
    rw[if_neg e];simp[atK,List.find?_cons,h1,h2]
  ·rw[if_neg c]
   by_cases e:p.1=k'
   ·have h1:(p.1 == k')=true:=by simpa using e
    have h2:k'≠k:=fun h=>c (e.trans h)
    rw[if_neg h2];simp[atK,List.find?_cons,h1]
   ·have h1:(p.1 == k')=false:=by simpa using e
    unfold atK at ih ⊢;rw[List.find?_cons,List.find?_cons,h1];exact ih
theorem NG (w:World) (k:Int×Int):∀ (ents:List MapEntry) (l:List ((Int×Int)×Int)) (i:Nat),FU ents l →
  (Instr.findAsking 140 (gk k) ents i).run Try.prog w=.ok ((Gm l k i).map fun p=>(p.1,.int .i64 p.2)) w
 | [],l,i,h=>by
  have:l=[]:=by cases l with|nil=>rfl|cons x l=>simp[FU]at h
  subst this
  rfl
 | e::ents,l,i,h=>by
  cases l with
  | nil=>simp[FU]at h
  | cons p l =>
   obtain⟨⟨p1,p2⟩,pv⟩:=p;obtain⟨k1,k2⟩:=k;simp only[FU,List.map_cons,List.cons.injEq,Prod.mk.injEq]at h;obtain⟨⟨hk,hv⟩,hr⟩:=h;have ih:=NG w (k1,k2) ents l (i+1) hr;have heq:=(XP w #[] k1 k2 p1 p2).1;rw[Instr.findAsking,hk];unfold gk at *
   by_cases hkk:k1=p1∧k2=p2
   ·obtain⟨rfl,rfl⟩:=hkk;simp[go_sem,heq,Gm,hv]
   ·have hne:(k1 == p1 && k2 == p2)=false:=by
     simp only[Bool.and_eq_false_iff,beq_eq_false_iff_ne]
     by_cases h1:k1=p1
     ·exact .inr fun h2=>hkk ⟨h1,h2⟩
     ·exact .inl h1
    have hne2:¬ ((p1,p2)=(k1,k2)):=by
     simp only[Prod.mk.injEq];exact fun h=>hkk ⟨h.1.symm,h.2.symm⟩
    rw[hne]at heq;rw[Gm,if_neg hne2];simp[go_sem,heq,ih]
theorem TD (w:World) (k:Int×Int) (ents:List MapEntry) (l:List ((Int×Int)×Int)) (h:FU ents l) :
  (Instr.findKey 140 (gk k) ents).run Try.prog w=.ok ((Gm l k 0).map fun p=>(p.1,.int .i64 p.2)) w:=by
 have hu:=Try.underlying140;have h1:=NG w k ents l 0 h
 cases ents with
 | nil =>
  have:l=[]:=by cases l with|nil=>rfl|cons x l=>simp[FU]at h
  subst this;simp[Instr.findKey,run_underlying hu,go_sem,Instr.findNow,Gm]
 | cons e ents=>simp[Instr.findKey,run_underlying hu,go_sem,Instr.findNow,Instr.sameNow,h1]
theorem U1 (w:World) (k:Int×Int):(Instr.keyThatStays (gk k) (gk k)).run Try.prog w=.ok (gk k) w:=by
 have:Instr.sameBits 10000 (gk k) (gk k)=true:=by simp[gk,Instr.sameBits]
 simp[Instr.keyThatStays,this,go_sem]
theorem VI (ps:List (Value×Value)) (i:Nat) (h:i<ps.length):(NC ps).findIdx? (fun e=>(e.born:Int) == (i:Int))=some i:=by
 rw[Array.findIdx?_eq_some_iff_getElem];refine⟨by rw[Nz];exact h,?_,fun j hj=>?_⟩
 ·have:=Em ps i;rw[List.getElem?_eq_getElem h,Array.getElem?_eq_getElem (by rw[Nz];exact h)]at this;simp only[Option.map_some,Option.some.injEq]at this;rw[this];simp
 ·have:=Em ps j;rw[List.getElem?_eq_getElem (by omega),Array.getElem?_eq_getElem (by rw[Nz];omega)]at this;simp only[Option.map_some,Option.some.injEq]at this;rw[this];simp;omega
def Qe (q:List ((Int×Int)×Int)) (k:Int×Int):List ((Int×Int)×Int):=match Gm q k 0 with|none=>q++[(k,0)]|some _=>q
def We (q:List ((Int×Int)×Int)) (k:Int×Int):Nat:=match Gm q k 0 with|none=>q.length|some r=>r.1
theorem TM (q:List ((Int×Int)×Int)) (k:Int×Int):We q k<(Qe q k).length∧((Qe q k)[We q k]?).map (·.1)=some k∧(∀ v,(Qe q k).set (We q k) (k,v)=RX q k v)∧(atK (Qe q k) k).getD 0=(atK q k).getD 0:=by
 unfold Qe We
 cases hx:Gm q k 0 with
 | none =>
  obtain⟨h1,h2⟩:=JW hx;refine⟨by simp,by simp,fun v=>by rw[h2];simp,?_⟩
  dsimp only
  rw[← h2 0,Yo,if_pos rfl,h1];rfl
 | some r =>
  obtain⟨j,u⟩:=r;obtain⟨_,h2,h3,h4,h5⟩:=JV hx;simp only[Nat.sub_zero]at h2 h3 h5;exact⟨h2,by dsimp only;rw[h3];rfl,fun v=>(h5 v).symm,rfl⟩
theorem VL (w:World) (mb:Nat) (q:List ((Int×Int)×Int)) (k:Int×Int) (hm:G5 w mb (pvG q)) :
  (Instr.mapEntry 101 (.map (some mb)) (gk k)).run Try.prog w=.ok (.tuple #[.int .i64 ((atK q k).getD 0),.int .i64 (We q k:Nat)]) (setBlock w mb (.map (NC (pvG (Qe q k))) (pvG (Qe q k)).length)):=by
 have hu:=Try.underlying101;have hf:=TD w k (NC (pvG q)).toList q (Qd q);have hc:=(Pg false w #[] k).1;have hz:(zeroValue 3).run Try.prog w=.ok (.int .i64 0) w:=by simp[go_sem]
 unfold G5 at hm;unfold Qe We
 cases hx:Gm q k 0 with
 | none =>
  obtain⟨h1,h2⟩:=JW hx;rw[hx]at hf
  dsimp only
  have e:pvG (q++[(k,0)])=pvG q++[(gk k,.int .i64 0)]:=by simp[pvG]
  rw[e,← Xw];simp[Instr.mapEntry,run_underlying hu,MapKept.run_getObj_map hm,hc,hf,hz,MapKept.run_setObj_map _ hm,Result.andThen,setBlock,h1,goInt,LH]
 | some r =>
  obtain⟨j,u⟩:=r;obtain⟨_,h2,h3,h4,h5⟩:=JV hx;rw[hx]at hf;simp only[Nat.sub_zero]at h2 h3 h5
  dsimp only
  have e1:(NC (pvG q))[j]?=some ⟨gk k,.int .i64 u,j⟩:=by rw[Em];simp[pvG,h3]
  have e2:(NC (pvG q)).modify j (fun e=>{ e with key:=gk k })=NC (pvG q):=by
   apply Array.ext_getElem?;intro i;rw[Array.getElem?_modify]
   by_cases c:j=i
   ·subst c;rw[if_pos rfl,e1];rfl
   ·rw[if_neg c]
  simp[Instr.mapEntry,run_underlying hu,MapKept.run_getObj_map hm,hc,hf,e1,U1,e2,MapKept.run_setObj_map _ hm,Result.andThen,setBlock,h4,goInt]
theorem TG (w:World) (mb:Nat) (q1:List ((Int×Int)×Int)) (st:Nat) (v:Int) (k:Int×Int) (hst:st<q1.length) (hk:(q1[st]?).map (·.1)=some k) (hm:G5 w mb (pvG q1)) :
  (Instr.entryStore 101 (.map (some mb)) (.int .i64 (st:Nat)) (.int .i64 v)).run Try.prog w=.ok () (setBlock w mb (.map (NC (pvG (q1.set st (k,v)))) (pvG (q1.set st (k,v))).length)):=by
 unfold G5 at hm;have h1:=VI (pvG q1) st (by rw[LH];exact hst)
 have h2:(NC (pvG q1)).modify st (fun e=>{ e with val:=.int .i64 v })=NC (pvG (q1.set st (k,v))):=by
  apply Array.ext_getElem?;intro i;rw[Array.getElem?_modify,Em,Em];simp only[pvG,List.getElem?_map,List.getElem?_set]
  by_cases c:st=i
  ·subst c;rw[if_pos rfl,if_pos rfl,if_pos hst]
   cases hq:q1[st]? with
   | none=>rw[hq]at hk;simp at hk
   | some p=>rw[hq]at hk;simp at hk;simp[hk]
  ·rw[if_neg c,if_neg c]
 have h3:(pvG (q1.set st (k,v))).length=(pvG q1).length:=by simp[LH]
 simp[Instr.entryStore,MapKept.run_getObj_map hm,asInt,asIntOf,go_sem,h1,h2,h3,MapKept.run_setObj_map _ hm,Result.andThen,setBlock]
end
end Go.Proofs.Ytgdobbcjkiapkaa
