import Derived.Test.YtgdobbcjkiapkaaNo04
import Derived.Test.YtgdobbcjkiapkaaNo18
import Derived.Test.YtgdobbcjkiapkaaNo01
import Derived.Maps.OwnSet
import Derived.Maps.RangeWalk
import Derived.Maps.RangeRun
import Derived.WideKeyArgs2
import Derived.Conc.LoneCalls
import Derived.Deep.Cut
import Derived.Test.YtgdobbcjkiapkaaNo02
import Derived.Test.YtgdobbcjkiapkaaNo15
namespace Go.Proofs.Ytgdobbcjkiapkaa
set_option maxRecDepth 100000
set_option maxHeartbeats 4000000
set_option linter.unusedSimpArgs false
set_option linter.unusedVariables false
section
open Go.RowKit
structure TI (w x:World) (bt:Nat) (t:Ae) (s:Ef):Prop where
 below:Below w.heap.size w x
 tar:CV x t s
 kb:Rw x bt (ER t s) 28
 lb:w.heap.size≤bt
section
variable {w x:World} {bt:Nat} {t:Ae} {s:Ef}
theorem TI.keep (h:TI w x bt t s) {x2:World} (hb:Below x.heap.size x x2):TI w x2 bt t s:=⟨h.below.trans (hb.mono h.below.size),h.tar.below hb,h.kb.below hb,h.lb⟩
theorem TI.c0 (h:TI w x bt t s):x.cell? ⟨bt,0,none⟩=some (.int .i64 t.roads.days):=h.kb.cell rfl
theorem TI.c1 (h:TI w x bt t s):x.cell? ⟨bt,1,none⟩=some (.int .i64 t.roads.stages):=h.kb.cell rfl
theorem TI.c2 (h:TI w x bt t s):x.cell? ⟨bt,2,none⟩=some (.slice s.sa t.roads.strips.length s.sc):=h.kb.cell rfl
theorem TI.c3 (h:TI w x bt t s):x.cell? ⟨bt,3,none⟩=some (.int .i64 t.pace):=h.kb.cell rfl
theorem TI.c4 (h:TI w x bt t s):x.cell? ⟨bt,4,none⟩=some (.slice s.pa t.Ac.length s.pc):=h.kb.cell rfl
theorem TI.c5 (h:TI w x bt t s):x.cell? ⟨bt,5,none⟩=some (.slice s.ta t.Ah.length s.tc):=h.kb.cell rfl
theorem TI.made {w0:World} (h0:Below w.heap.size w w0) (ht:CV w0 t s) {W:World} (hX:Rw W w0.heap.size (ER t s) 28) (hb:Below w0.heap.size w0 W):TI w W w0.heap.size t s:=⟨h0.trans (hb.mono h0.size),ht.below hb,hX,h0.size⟩
end
theorem Ux {t:Ae} {s:Ef} {w:World} (h:CV w t s):Calls Try.prog 85 #[.agg #[.int .i64 t.roads.days, .int .i64 t.roads.stages, .slice s.sa t.roads.strips.length s.sc]] w
   fun e w'=>e = .returned (.int .i64 (BM t.roads))∧Below w.heap.size w w':=check_any _ _ _ _ _ _ h.strips h.ls
theorem Ba (k:Nat) (h:k≤1000000):IntKind.i64.wrap ((k:Int)+1)=((k+1:Nat):Int):=by rw [IntWalk.i64_in _ (by omega)];simp
theorem ET {a b:Int} (h:a=b):(a == b)=true:=by simpa using h
theorem Eu {a b:Int} (h:¬ a=b):(a == b)=false:=by simpa using h
theorem DL {a b:Int} (h:¬ a=b):(a != b)=true:=by simpa using h
theorem TK {n lo hi:Int} (h:TL n lo hi=0):lo≤n∧n≤hi:=by
 unfold TL at h
 split at h
 ·exact absurd h (by decide)
 ·split at h
  ·exact absurd h (by decide)
  ·omega
theorem YS {t:Ae} (h1:BM t.roads=0) (h2:btw t.pace 1 9=true) (h3:TL t.Ac.length 1 4=0) :
  (∀ k (hk:k < t.Ac.length),(btw (t.Ac[k]).heads 0 40=false∨btw (t.Ac[k]).free 0 40=false)→Ap t=1) ∧
  (t.Ac.all A7=true→btw (Ak t.Ac) 1 40=false→Ap t=1)∧(t.Ac.all A7=true→btw (Ak t.Ac) 1 40=true→Ap t=Ff t):=by
 refine ⟨fun k hk h =>?_,fun ha hb =>?_,fun ha hb =>?_⟩
 ·have:t.Ac.all A7=false:=by
   rw [List.all_eq_false];exact ⟨t.Ac[k],List.getElem_mem hk,by rcases h with h | h <;> simp [A7,h]⟩
  unfold Ap;rw [if_neg (by simp [h1]),if_neg (by simp [h2]),if_neg (by simp [h3]),if_pos (by simp [this])]
 ·unfold Ap;rw [if_neg (by simp [h1]),if_neg (by simp [h2]),if_neg (by simp [h3]),if_neg (by simp [ha]),if_pos (by simp [hb])]
 ·unfold Ap;rw [if_neg (by simp [h1]),if_neg (by simp [h2]),if_neg (by simp [h3]),if_neg (by simp [ha]),if_neg (by simp [hb])]
theorem WX {ps:List BA} {k:Nat} (hk:k < ps.length) (h:(ps.take k).all A7=true) (h1:btw ps[k].heads 0 40=true) (h2:btw ps[k].free 0 40=true):(ps.take (k+1)).all A7=true:=by
 rw [List.take_succ_eq_append_getElem hk,List.all_append,h];simp [A7,h1,h2]
theorem QZ {ps:List BA} {k:Nat} (hl:(ps.length:Int)≤4) (hk:k < ps.length) (h:(ps.take k).all A7=true) (h1:btw ps[k].heads 0 40=true):IntKind.i64.wrap (Ak (ps.take k)+ps[k].heads)=Ak (ps.take (k+1)):=by
 have h2:=Jm h;have h3:=Ai.1 h1;have h4:(ps.take k).length≤4:=by rw [List.length_take];omega
 rw [QH hk,IntWalk.i64_in _ (by omega)]
theorem C9 {a b:Int} (h:a=b):(a != b)=false:=by simpa using h
theorem te3 {N:Int} {pre:List BK} {x:BK} (h:btw x.strip 0 (N-1)=false):BX N pre x=3:=by unfold BX;rw [if_pos (by rw [h];rfl)]
theorem te1 {N:Int} {pre:List BK} {x:BK} (h:btw x.strip 0 (N-1)=true) (h2:btw x.rate 0 500=false∨btw x.farmer 1 4=false):BX N pre x=1:=by
 unfold BX;rw [if_neg (by simp [h]),if_pos (by rcases h2 with h2 | h2 <;> simp [h2])]
theorem te4 {N:Int} {pre:List BK} {x:BK} (h:btw x.strip 0 (N-1)=true) (h1:btw x.rate 0 500=true) (h2:btw x.farmer 1 4=true) (h3:pre.any (fun y=>y.strip == x.strip && y.farmer == x.farmer)=true):BX N pre x=4:=by
 unfold BX;rw [if_neg (by simp [h]),if_neg (by simp [h1,h2]),if_pos h3]
theorem te0 {N:Int} {pre:List BK} {x:BK} (h:btw x.strip 0 (N-1)=true) (h1:btw x.rate 0 500=true) (h2:btw x.farmer 1 4=true) (h3:pre.any (fun y=>y.strip == x.strip && y.farmer == x.farmer)=false):BX N pre x=0:=by
 unfold BX;rw [if_neg (by simp [h]),if_neg (by simp [h1,h2]),if_neg (by rw [h3];simp)]
theorem Aaa {ts:List BK} {k j:Nat} (hk:k < ts.length) (hj:j < k) (h1:ts[j].strip=ts[k].strip) (h2:ts[j].farmer=ts[k].farmer):(ts.take k).any (fun y=>y.strip == ts[k].strip && y.farmer == ts[k].farmer)=true:=by
 rw [List.any_eq_true];refine ⟨ts[j],?_,by simp [h1,h2]⟩;rw [List.mem_take_iff_getElem];exact ⟨j,by omega,rfl⟩
theorem TU {ts:List BK} {x:BK} {j:Nat} (hj:j < ts.length) (h:(ts.take j).any (fun y=>y.strip == x.strip && y.farmer == x.farmer)=false) (h1:¬ (ts[j].strip=x.strip∧ts[j].farmer=x.farmer)):(ts.take (j+1)).any (fun y=>y.strip == x.strip && y.farmer == x.farmer)=false:=by
 rw [List.take_succ_eq_append_getElem hj,List.any_append,h];simp only [List.any_cons,List.any_nil,Bool.or_false,Bool.false_or,Bool.and_eq_false_iff,beq_eq_false_iff_ne]
 by_cases e:ts[j].strip=x.strip
 ·exact .inr fun e2=>h1 ⟨e,e2⟩
 ·exact .inl e
theorem Rl:Try.f88.body=some (Code.seq (Aa Try.f88 0) (Code.seq (Code.seq (Aa Try.f88 1) (Code.cond (Operand.tmp 10) (Code.seq (Aa Try.f88 2) Code.ret) Code.skip)) (Code.seq (Code.seq (Aa Try.f88 3) (Code.block 0 (Code.loop (Code.seq (Aa Try.f88 4) (Code.seq (Code.cond (Operand.tmp 15) Code.skip (Code.exit 0)) (Code.seq (Code.block 1 (Code.seq (Aa Try.f88 5) (Code.seq (Code.seq (Aa Try.f88 6) (Code.cond (Operand.tmp 27) (Code.seq (Aa Try.f88 7) Code.ret) Code.skip)) (Code.seq (Code.seq (Aa Try.f88 8) (Code.cond (Operand.tmp 37) (Code.seq (Aa Try.f88 9) Code.ret) Code.skip)) (Code.seq (Aa Try.f88 10) (Code.block 2 (Code.loop (Code.seq (Aa Try.f88 11) (Code.seq (Code.cond (Operand.tmp 44) Code.skip (Code.exit 2)) (Code.seq (Code.block 3 (Code.seq (Aa Try.f88 12) (Code.seq (Aa Try.f88 13) (Code.cond (Operand.tmp 58) (Code.seq (Aa Try.f88 14) Code.ret) Code.skip)))) (Aa Try.f88 15))))))))))) (Aa Try.f88 16))))))) (Code.seq (Aa Try.f88 17) Code.ret)))):=by kernel_rfl
theorem VD {t:Ae} {s:Ef} {w:World} (ht:CV w t s):Calls Try.prog 88 #[.agg (ER t s)] w (fun e w'=>e = .returned (.int .i64 (Ff t))∧Below w.heap.size w w'):=by
 refine QU Try.func88 Rl Try.ntmps88 ?_;intro a Z;refine wsr ?_;refine Z.s ?_;clear Z;intro a Z;refine Af (G:=fun W=>wpOps _ _ _ _ _ W) ?_;intro x hz X hb;have hI:=TI.made (Below.refl _ _) ht X hb;obtain ⟨bt,hbt⟩:∃ b,b=w.heap.size:=⟨_,rfl⟩;rw [← hbt] at Z hI;clear hz X hb hbt;refine Z.s ?_;clear Z;intro a Z;refine od ?_;refine wp_seq ?_;refine wsr ?_;refine Z.s ?_;clear Z;intro a Z;refine og fun K hK =>?_
 have e7:=Z.g 7;have c5:=hI.c5;unfold Oper.wp;go_simp;clear e7;refine Z.K hK ?_;clear Z hK;intro a Z;refine Z.s ?_;clear Z;intro a Z
 by_cases h1:6 < t.Ah.length
 ·have q1:(6:Int) < (t.Ah.length:Int):=by omega
  have hR:=Lib.hid (show Ff t=6 from by unfold Ff;rw [if_pos h1]);refine Z.s ?_;clear Z;intro a Z;refine od ?_;refine wp_cond_true (Z.ev 10 rfl) ?_;refine wsr ?_;refine Z.s ?_;clear Z;intro a Z;refine od ?_;refine wp_ret ?_
  try simp only [Exit.then,Exit.inBlock]
  refine bodyPost_ret (v := .int .i64 (Ff t)) ?_ Z.defers ⟨rfl,hI.below⟩;rw [hR.out];simp [results,Try.results88,Z.get 2 _ rfl]
 ·have q1:¬ (6:Int) < (t.Ah.length:Int):=by omega
  refine Z.s ?_;clear Z;intro a Z;refine od ?_;refine wp_cond_false (Z.ev 10 rfl) ?_;refine wp_skip ?_;refine wp_seq ?_;refine wsr ?_;refine Z.s ?_;clear Z;intro a Z;refine og fun K hK =>?_
  have e11:=Z.g 11;have c5:=hI.c5;unfold Oper.wp;go_simp;clear e11;refine Z.K hK ?_;clear Z hK;intro a Z;(iterate 2 refine Z.s ?_;clear Z;intro a Z);refine od ?_;refine wp_block ?_;have hl6:t.Ah.length≤6:=by omega
  refine wp_loop_ghost (fun n p x=>∃ k:Nat,k+n=t.Ah.length∧BR t.roads.strips.length (t.Ah.take k) (t.Ah.drop k)=Ff t∧Sl p 61 [(1, .pointer (some ⟨bt,0,none⟩)),(12, .slice s.ta t.Ah.length s.tc),(13, .int .i64 (t.Ah.length:Int)),(14, .int .i64 (k:Int))]∧TI w x bt t s) t.Ah.length ⟨0,by omega,by unfold Ff;rw [if_neg h1];rfl,Z.sb,hI⟩ ?_;clear Z hI h1;rintro n a x ⟨k,hkn,hE,Z,hI⟩;have HE:=Lib.hid hE;clear hE;refine wsr ?_
  by_cases hlt:k < t.Ah.length
  ·have q1:(k:Int) < (t.Ah.length:Int):=by omega
   obtain ⟨pb,po,hpa,p0,p1,p2⟩:=hI.tar.Ah.at hlt;rw [hpa] at Z;simp only [P6] at p0 p1 p2;refine Z.s ?_;clear Z;intro a Z;refine od ?_;refine wp_seq ?_;refine wp_cond_true (Z.ev 15 rfl) ?_;refine wp_skip ?_;refine wp_seq ?_;refine wp_block ?_;refine wsr ?_;(iterate 3 refine Z.s ?_;clear Z;intro a Z);refine og fun K hK =>?_
   obtain ⟨g,hg⟩:∃ b,b=x.heap.size:=⟨_,rfl⟩;unfold Oper.wp;go_simp;refine Z.K hK ?_;clear Z hK;intro a Z;refine Z.s ?_;clear Z;intro a Z;refine og fun K hK =>?_
   have e4:=Z.g 4;have e18:=Z.g 18;unfold Oper.wp;go_simp;clear e4 e18;refine hK _ _ ?_;clear hK;refine Af (G:=fun W=>wpOps _ _ _ _ _ W) ?_;intro x hz G hb;replace hI:=hI.keep hb;rw [← hg] at Z G;clear hz hb p0 p1 p2 hg;refine od ?_;have HR:=Lib.hid (fun e (h:BX t.roads.strips.length (t.Ah.take k) t.Ah[k]=e) (h0:e≠0)=>HE.out.symm.trans (O7 hlt h h0));refine wp_seq ?_;refine wsr ?_;refine Z.s ?_;clear Z;intro a Z;refine og fun K hK =>?_
   have e19:=Z.g 19;have g0:=G.cell (o:=0) rfl;unfold Oper.wp;go_simp;clear e19;refine Z.K hK ?_;clear Z hK;intro a Z;(iterate 2 refine Z.s ?_;clear Z;intro a Z);refine og fun K hK =>?_
   have e22:=Z.g 22;have c2:=hI.c2;unfold Oper.wp;go_simp;clear e22;refine Z.K hK ?_;clear Z hK;intro a Z;refine Z.s ?_;clear Z;intro a Z;refine og fun K hK =>?_
   have e24:=Z.g 24;have hw:IntKind.i64.wrap ((t.roads.strips.length:Int)-1)=(t.roads.strips.length:Int)-1:=IntWalk.i64_in _ (by have:=hI.tar.ls;unfold maxLen at this;omega);unfold Oper.wp;go_simp;clear e24;refine Z.K hK ?_;clear Z hK;intro a Z;refine og fun K hK =>?_
   have e20:=Z.g 20;have e25:=Z.g 25;unfold Oper.wp;go_simp;refine (Bh _ _ _ _).mono ?_;rintro e x ⟨rfl,rfl⟩;clear e20 e25;refine Z.K hK ?_;clear Z hK;intro a Z;rcases Bool.eq_false_or_eq_true (btw t.Ah[k].strip 0 ((t.roads.strips.length:Int)-1)) with h2 | h2
   ·rw [h2] at Z;refine Z.s ?_;clear Z;intro a Z;refine od ?_;refine wp_cond_false (Z.ev 27 rfl) ?_;refine wp_skip ?_;refine wp_seq ?_;refine wsr ?_;refine Z.s ?_;clear Z;intro a Z;refine og fun K hK =>?_
    have e28:=Z.g 28;have g1:=G.cell (o:=1) rfl;unfold Oper.wp;go_simp;clear e28;refine Z.K hK ?_;clear Z hK;intro a Z;refine og fun K hK =>?_
    have e29:=Z.g 29;unfold Oper.wp;go_simp;refine (Bh _ _ _ _).mono ?_;rintro e x ⟨rfl,rfl⟩;clear e29;refine Z.K hK ?_;clear Z hK;intro a Z;rcases Bool.eq_false_or_eq_true (btw t.Ah[k].rate 0 500) with h3 | h3
    ·rw [h3] at Z;(iterate 2 refine Z.s ?_;clear Z;intro a Z);refine Z.t ?_;clear Z;intro a Z;refine oW (Z.g 32) fun K hK =>?_
     have e33:=Z.g 33;have g6:=G.cell (o:=2) rfl;unfold Oper.wp;go_simp;clear e33;refine Z.K hK ?_;clear Z hK;intro a Z;refine oW (Z.g 32) fun K hK =>?_
     have e34:=Z.g 34;unfold Oper.wp;go_simp;refine (Bh _ _ _ _).mono ?_;rintro e x ⟨rfl,rfl⟩;clear e34;refine Z.K hK ?_;clear Z hK;intro a Z;rcases Bool.eq_false_or_eq_true (btw t.Ah[k].farmer 1 4) with h4 | h4
     ·rw [h4] at Z;refine Z.t ?_;clear Z;intro a Z;refine Z.s ?_;clear Z;intro a Z;refine od ?_;refine wp_cond_false (Z.ev 37 rfl) ?_;refine wp_skip ?_;refine wsr ?_;refine Z.s ?_;clear Z;intro a Z;refine og fun K hK =>?_
      have e38:=Z.g 38;have c5:=hI.c5;unfold Oper.wp;go_simp;clear e38;refine Z.K hK ?_;clear Z hK;intro a Z;refine Z.s ?_;clear Z;intro a Z;refine og fun K hK =>?_
      have e39:=Z.g 39;have e40:=Z.g 40;have hqk:(k:Int)≤(s.tc:Int):=by have:=hI.tar.qt;omega
      have hk0:(0:Int)≤(k:Int):=by omega
      unfold Oper.wp;go_simp;clear e39 e40;refine Z.K hK ?_;clear Z hK;intro a Z;(iterate 2 refine Z.s ?_;clear Z;intro a Z);refine od ?_;refine wp_block ?_;refine wp_loop_ghost (fun n2 p x=>∃ j:Nat,j+n2=k∧(t.Ah.take j).any (fun y=>y.strip == t.Ah[k].strip && y.farmer == t.Ah[k].farmer)=false∧Sl p 61 [(1, .pointer (some ⟨bt,0,none⟩)),(4, .pointer (some ⟨g,0,none⟩)),(12, .slice (some ⟨pb,po,none⟩) t.Ah.length s.tc),(13, .int .i64 (t.Ah.length:Int)),(14, .int .i64 (k:Int)),(41, .slice (some ⟨pb,po,none⟩) k s.tc),(42, .int .i64 (k:Int)),(43, .int .i64 (j:Int))]∧TI w x bt t s∧Rw x g #[.int .i64 t.Ah[k].strip, .int .i64 t.Ah[k].rate, .int .i64 t.Ah[k].farmer] 57) k ⟨0,by omega,by simp,Z.sb,hI,G⟩ ?_;clear Z hI G;rintro n2 a x ⟨j,hjn,hany,Z,hI,G⟩;have HANY:=Lib.hid hany;clear hany;refine wsr ?_
      by_cases hj:j < k
      ·have q2:(j:Int) < (k:Int):=by omega
       have hjl:j < t.Ah.length:=by omega
       obtain ⟨pb2,po2,hpa2,p0,p1,p2⟩:=hI.tar.Ah.at hjl;obtain ⟨rfl,rfl⟩:pb=pb2∧po=po2:=by rw [hpa] at hpa2;simpa using hpa2
       simp only [P6] at p0 p1 p2;clear hpa2;refine Z.s ?_;clear Z;intro a Z;refine od ?_;refine wp_seq ?_;refine wp_cond_true (Z.ev 44 rfl) ?_;refine wp_skip ?_;refine wp_seq ?_;refine wp_block ?_;refine wsr ?_;(iterate 2 refine Z.s ?_;clear Z;intro a Z);refine og fun K hK =>?_
       obtain ⟨g2,hg⟩:∃ b,b=x.heap.size:=⟨_,rfl⟩;unfold Oper.wp;go_simp;refine Z.K hK ?_;clear Z hK;intro a Z;refine og fun K hK =>?_
       have e6:=Z.g 6;have e46:=Z.g 46;unfold Oper.wp;go_simp;clear e6 e46;refine hK _ _ ?_;clear hK;refine Af (G:=fun W=>wpOps _ _ _ _ _ W) ?_;intro x hz Y hb;replace hI:=hI.keep hb;replace G:=G.below hb;rw [← hg] at Z Y;clear hz hb p0 p1 p2 hg;refine od ?_;refine wsr ?_;refine Z.s ?_;clear Z;intro a Z;refine og fun K hK =>?_
       have e47:=Z.g 47;have y0:=Y.cell (o:=0) rfl;unfold Oper.wp;go_simp;clear e47;refine Z.K hK ?_;clear Z hK;intro a Z;refine Z.s ?_;clear Z;intro a Z;refine og fun K hK =>?_
       have e49:=Z.g 49;have g0:=G.cell (o:=0) rfl;unfold Oper.wp;go_simp;clear e49;refine Z.K hK ?_;clear Z hK;intro a Z
       by_cases h5:t.Ah[j].strip=t.Ah[k].strip
       ·have hbe:=ET h5;(iterate 2 refine Z.s ?_;clear Z;intro a Z);refine Z.t ?_;clear Z;intro a Z;refine oW (Z.g 52) fun K hK =>?_
        have e53:=Z.g 53;have y2:=Y.cell (o:=2) rfl;unfold Oper.wp;go_simp;clear e53;refine Z.K hK ?_;clear Z hK;intro a Z;refine Z.t ?_;clear Z;intro a Z;refine oW (Z.g 52) fun K hK =>?_
        have e55:=Z.g 55;have g2:=G.cell (o:=2) rfl;unfold Oper.wp;go_simp;clear e55;refine Z.K hK ?_;clear Z hK;intro a Z
        by_cases h6:t.Ah[j].farmer=t.Ah[k].farmer
        ·have hbe2:=ET h6;have hR:=Lib.hid (HR.out _ (te4 h2 h3 h4 (Aaa hlt hj h5 h6)) (by decide));refine Z.t ?_;clear Z;intro a Z;refine Z.s ?_;clear Z;intro a Z;refine od ?_;refine wp_cond_true (Z.ev 58 rfl) ?_;refine wsr ?_;refine Z.s ?_;clear Z;intro a Z;refine od ?_;refine wp_ret ?_
         try simp only [Exit.then,Exit.inBlock]
         refine bodyPost_ret (v := .int .i64 (Ff t)) ?_ Z.defers ⟨rfl,hI.below⟩;rw [hR.out];simp [results,Try.results88,Z.get 2 _ rfl]
        ·have hbe2:=Eu h6;refine Z.t ?_;clear Z;intro a Z;refine Z.s ?_;clear Z;intro a Z;refine od ?_;refine wp_cond_false (Z.ev 58 rfl) ?_;refine wp_skip ?_;refine wr ?_;refine og fun K hK =>?_
         have e43:=Z.g 43;have hw:=Ba j (by omega);unfold Oper.wp;go_simp;clear e43;refine Z.K hK ?_;clear Z hK;intro a Z;refine Z.s ?_;clear Z;intro a Z;refine od ?_;show Exists _;exact ⟨n2-1,by omega,j+1,by omega,TU hjl HANY.out (fun h=>h6 h.2),Z.sb,hI,G⟩
       ·have hbe:=Eu h5;(iterate 2 refine Z.s ?_;clear Z;intro a Z);refine Z.z ?_;clear Z;intro a Z;refine Z.z ?_;clear Z;intro a Z;refine Z.z ?_;clear Z;intro a Z;refine Z.z ?_;clear Z;intro a Z;refine Z.z ?_;clear Z;intro a Z;refine Z.s ?_;clear Z;intro a Z;refine od ?_;refine wp_cond_false (Z.ev 58 rfl) ?_;refine wp_skip ?_;refine wr ?_;refine og fun K hK =>?_
        have e43:=Z.g 43;have hw:=Ba j (by omega);unfold Oper.wp;go_simp;clear e43;refine Z.K hK ?_;clear Z hK;intro a Z;refine Z.s ?_;clear Z;intro a Z;refine od ?_;show Exists _;exact ⟨n2-1,by omega,j+1,by omega,TU hjl HANY.out (fun h=>h5 h.1),Z.sb,hI,G⟩
      ·obtain rfl:k=j:=by omega
       refine Z.s ?_;clear Z;intro a Z;refine od ?_;refine wp_seq ?_;refine wp_cond_false (Z.ev 44 rfl) ?_;refine wp_exit ?_;have hany:=HANY.out;refine wr ?_;refine og fun K hK =>?_
       have e14:=Z.g 14;have hw:=Ba k (by omega);unfold Oper.wp;go_simp;clear e14;refine Z.K hK ?_;clear Z hK;intro a Z;refine Z.s ?_;clear Z;intro a Z;refine od ?_;show Exists _;exact ⟨n-1,by omega,k+1,by omega,(O8 hlt (te0 h2 h3 h4 hany)).trans HE.out,by rw [hpa];exact Z.sb,hI⟩
     ·rw [h4] at Z;have hR:=Lib.hid (HR.out _ (te1 h2 (.inr h4)) (by decide));refine Z.t ?_;clear Z;intro a Z;refine Z.s ?_;clear Z;intro a Z;refine od ?_;refine wp_cond_true (Z.ev 37 rfl) ?_;refine wsr ?_;refine Z.s ?_;clear Z;intro a Z;refine od ?_;refine wp_ret ?_
      try simp only [Exit.then,Exit.inBlock]
      refine bodyPost_ret (v := .int .i64 (Ff t)) ?_ Z.defers ⟨rfl,hI.below⟩;rw [hR.out];simp [results,Try.results88,Z.get 2 _ rfl]
    ·rw [h3] at Z;have hR:=Lib.hid (HR.out _ (te1 h2 (.inl h3)) (by decide));(iterate 2 refine Z.s ?_;clear Z;intro a Z);refine Z.z ?_;clear Z;intro a Z;refine Z.z ?_;clear Z;intro a Z;refine Z.z ?_;clear Z;intro a Z;refine Z.z ?_;clear Z;intro a Z;refine Z.s ?_;clear Z;intro a Z;refine od ?_;refine wp_cond_true (Z.ev 37 rfl) ?_;refine wsr ?_;refine Z.s ?_;clear Z;intro a Z;refine od ?_;refine wp_ret ?_
     try simp only [Exit.then,Exit.inBlock]
     refine bodyPost_ret (v := .int .i64 (Ff t)) ?_ Z.defers ⟨rfl,hI.below⟩;rw [hR.out];simp [results,Try.results88,Z.get 2 _ rfl]
   ·rw [h2] at Z;have hR:=Lib.hid (HR.out _ (te3 h2) (by decide));refine Z.s ?_;clear Z;intro a Z;refine od ?_;refine wp_cond_true (Z.ev 27 rfl) ?_;refine wsr ?_;refine Z.s ?_;clear Z;intro a Z;refine od ?_;refine wp_ret ?_
    try simp only [Exit.then,Exit.inBlock]
    refine bodyPost_ret (v := .int .i64 (Ff t)) ?_ Z.defers ⟨rfl,hI.below⟩;rw [hR.out];simp [results,Try.results88,Z.get 2 _ rfl]
  ·obtain rfl:k=t.Ah.length:=by omega
   refine Z.s ?_;clear Z;intro a Z;refine od ?_;refine wp_seq ?_;refine wp_cond_false (Z.ev 15 rfl) ?_;refine wp_exit ?_;have hR:=Lib.hid (show Ff t=0 from by rw [← HE.out,List.drop_of_length_le (Nat.le_refl _)];rfl);refine wsr ?_;refine Z.s ?_;clear Z;intro a Z;refine od ?_;refine wp_ret ?_
   try simp only [Exit.then,Exit.inBlock]
   refine bodyPost_ret (v := .int .i64 (Ff t)) ?_ Z.defers ⟨rfl,hI.below⟩;rw [hR.out];simp [results,Try.results88,Z.get 2 _ rfl]
theorem Ru:Try.f39.body=some (Code.seq (Aa Try.f39 0) (Code.seq (Code.seq (Aa Try.f39 1) (Code.seq (Aa Try.f39 2) (Code.cond (Operand.tmp 12) (Code.seq (Aa Try.f39 3) Code.ret) Code.skip))) (Code.seq (Code.seq (Aa Try.f39 4) (Code.cond (Operand.tmp 17) (Code.seq (Aa Try.f39 5) Code.ret) Code.skip)) (Code.seq (Code.seq (Aa Try.f39 6) (Code.seq (Aa Try.f39 7) (Code.cond (Operand.tmp 23) (Code.seq (Aa Try.f39 8) Code.ret) Code.skip))) (Code.seq (Aa Try.f39 9) (Code.seq (Code.seq (Aa Try.f39 10) (Code.block 0 (Code.loop (Code.seq (Aa Try.f39 11) (Code.seq (Code.cond (Operand.tmp 29) Code.skip (Code.exit 0)) (Code.seq (Code.block 1 (Code.seq (Aa Try.f39 12) (Code.seq (Code.seq (Aa Try.f39 13) (Code.cond (Operand.tmp 41) (Code.seq (Aa Try.f39 14) Code.ret) Code.skip)) (Aa Try.f39 15)))) (Aa Try.f39 16))))))) (Code.seq (Code.seq (Aa Try.f39 17) (Code.cond (Operand.tmp 49) (Code.seq (Aa Try.f39 18) Code.ret) Code.skip)) (Code.seq (Aa Try.f39 19) Code.ret)))))))):=by kernel_rfl
theorem Kz {t:Ae} {s:Ef} {w:World} (ht:CV w t s):Calls Try.prog 39 #[.agg (ER t s)] w (fun e w'=>e = .returned (.int .i64 (Ap t))∧Below w.heap.size w w'):=by
 refine QU Try.func39 Ru Try.ntmps39 ?_;intro a Z;refine wsr ?_;refine Z.s ?_;clear Z;intro a Z;refine Af (G:=fun W=>wpOps _ _ _ _ _ W) ?_;intro x hz X hb;have hI:=TI.made (Below.refl _ _) ht X hb;obtain ⟨bt,hbt⟩:∃ b,b=w.heap.size:=⟨_,rfl⟩;rw [← hbt] at Z hI;clear hz X hb hbt;refine Z.s ?_;clear Z;intro a Z;refine od ?_;refine wp_seq ?_;refine wsr ?_;refine Z.s ?_;clear Z;intro a Z;refine og fun K hK =>?_
 have e8:=Z.g 8;have c0:=hI.c0;have c1:=hI.c1;have c2:=hI.c2;unfold Oper.wp;go_simp;clear e8;refine Z.K hK ?_;clear Z hK;intro a Z;refine og fun K hK =>?_
 have e9:=Z.g 9;unfold Oper.wp;go_simp;refine (Ux hI.tar).mono ?_;rintro e x ⟨rfl,hb⟩;replace hI:=hI.keep hb;clear hb;clear e9;refine Z.K hK ?_;clear Z hK;intro a Z;refine Z.s ?_;clear Z;intro a Z;refine od ?_;refine wsr ?_;refine Z.s ?_;clear Z;intro a Z
 by_cases h1:BM t.roads=0
 ·have hne:=C9 h1;refine Z.s ?_;clear Z;intro a Z;refine od ?_;refine wp_cond_false (Z.ev 12 rfl) ?_;refine wp_skip ?_;refine wp_seq ?_;refine wsr ?_;refine Z.s ?_;clear Z;intro a Z;refine og fun K hK =>?_
  have e14:=Z.g 14;have c3:=hI.c3;unfold Oper.wp;go_simp;clear e14;refine Z.K hK ?_;clear Z hK;intro a Z;refine og fun K hK =>?_
  have e15:=Z.g 15;unfold Oper.wp;go_simp;refine (Bh _ _ _ _).mono ?_;rintro e x ⟨rfl,rfl⟩;clear e15;refine Z.K hK ?_;clear Z hK;intro a Z;rcases Bool.eq_false_or_eq_true (btw t.pace 1 9) with h2 | h2
  ·rw [h2] at Z;refine Z.s ?_;clear Z;intro a Z;refine od ?_;refine wp_cond_false (Z.ev 17 rfl) ?_;refine wp_skip ?_;refine wp_seq ?_;refine wsr ?_;refine Z.s ?_;clear Z;intro a Z;refine og fun K hK =>?_
   have e18:=Z.g 18;have c4:=hI.c4;unfold Oper.wp;go_simp;clear e18;refine Z.K hK ?_;clear Z hK;intro a Z;refine Z.s ?_;clear Z;intro a Z;refine og fun K hK =>?_
   have e20:=Z.g 20;unfold Oper.wp;go_simp;refine (ZJ _ _ _ _).mono ?_;rintro e x ⟨rfl,rfl⟩;clear e20;refine Z.K hK ?_;clear Z hK;intro a Z;refine Z.s ?_;clear Z;intro a Z;refine od ?_;refine wsr ?_;refine Z.s ?_;clear Z;intro a Z
   by_cases h3:TL t.Ac.length 1 4=0
   ·have hne:=C9 h3;obtain ⟨hl1,hl4⟩:=TK h3;have HC:=Lib.hid (YS h1 h2 h3);clear h1 h2 h3;refine Z.s ?_;clear Z;intro a Z;refine od ?_;refine wp_cond_false (Z.ev 23 rfl) ?_;refine wp_skip ?_;refine wsr ?_;refine Z.s ?_;clear Z;intro a Z;refine od ?_;refine wp_seq ?_;refine wsr ?_;refine Z.s ?_;clear Z;intro a Z;refine og fun K hK =>?_
    have e25:=Z.g 25;have c4:=hI.c4;unfold Oper.wp;go_simp;clear e25;refine Z.K hK ?_;clear Z hK;intro a Z;(iterate 2 refine Z.s ?_;clear Z;intro a Z);refine od ?_;refine wp_block ?_;refine wp_loop_ghost (fun n p x=>∃ k:Nat,k+n=t.Ac.length∧(t.Ac.take k).all A7=true∧Sl p 52 [(1, .pointer (some ⟨bt,0,none⟩)),(5, .int .i64 (Ak (t.Ac.take k))),(26, .slice s.pa t.Ac.length s.pc),(27, .int .i64 (t.Ac.length:Int)),(28, .int .i64 (k:Int))]∧TI w x bt t s) t.Ac.length ⟨0,by omega,rfl,Z.sb,hI⟩ ?_;clear Z hI;rintro n a x ⟨k,hkn,hfine,Z,hI⟩;have hadd:=fun (hlt:k < t.Ac.length) h4=>QZ (hl:=hl4) hlt hfine h4
    refine wsr ?_
    by_cases hlt:k < t.Ac.length
    ·have q1:(k:Int) < (t.Ac.length:Int):=by omega
     obtain ⟨pb,po,hpa,p0,p1,p2⟩:=hI.tar.Ac.at hlt;rw [hpa] at Z;simp only [Zf] at p0 p1 p2;refine Z.s ?_;clear Z;intro a Z;refine od ?_;refine wp_seq ?_;refine wp_cond_true (Z.ev 29 rfl) ?_;refine wp_skip ?_;refine wp_seq ?_;refine wp_block ?_;refine wsr ?_;(iterate 3 refine Z.s ?_;clear Z;intro a Z);refine og fun K hK =>?_
     have e7:=Z.g 7;have e31:=Z.g 31;unfold Oper.wp;go_simp;clear e7 e31;refine hK _ _ ?_;clear hK;refine Af (G:=fun W=>wpOps _ _ _ _ _ W) ?_;intro x hz G hb;replace hI:=hI.keep hb;clear hz hb p0 p1 p2;refine od ?_;refine wp_seq ?_;refine wsr ?_;refine Z.s ?_;clear Z;intro a Z;refine og fun K hK =>?_
     have e32:=Z.g 32;have g1:=G.cell (o:=0) rfl;unfold Oper.wp;go_simp;clear e32;refine Z.K hK ?_;clear Z hK;intro a Z;refine og fun K hK =>?_
     have e33:=Z.g 33;unfold Oper.wp;go_simp;refine (Bh _ _ _ _).mono ?_;rintro e x ⟨rfl,rfl⟩;clear e33;refine Z.K hK ?_;clear Z hK;intro a Z;rcases Bool.eq_false_or_eq_true (btw (t.Ac[k]).heads 0 40) with h4 | h4
     ·rw [h4] at Z;(iterate 2 refine Z.s ?_;clear Z;intro a Z);refine Z.t ?_;clear Z;intro a Z;refine oW (Z.g 36) fun K hK =>?_
      have e37:=Z.g 37;have g6:=G.cell (o:=1) rfl;unfold Oper.wp;go_simp;clear e37;refine Z.K hK ?_;clear Z hK;intro a Z;refine oW (Z.g 36) fun K hK =>?_
      have e38:=Z.g 38;unfold Oper.wp;go_simp;refine (Bh _ _ _ _).mono ?_;rintro e x ⟨rfl,rfl⟩;clear e38;refine Z.K hK ?_;clear Z hK;intro a Z;rcases Bool.eq_false_or_eq_true (btw (t.Ac[k]).free 0 40) with h5 | h5
      ·rw [h5] at Z;refine Z.t ?_;clear Z;intro a Z;refine Z.s ?_;clear Z;intro a Z;refine od ?_;refine wp_cond_false (Z.ev 41 rfl) ?_;refine wp_skip ?_;refine wr ?_;(iterate 2 refine Z.s ?_;clear Z;intro a Z);refine og fun K hK =>?_
       have e43:=Z.g 43;have g0:=G.cell (o:=0) rfl;unfold Oper.wp;go_simp;clear e43;refine Z.K hK ?_;clear Z hK;intro a Z;refine og fun K hK =>?_
       have e42:=Z.g 42;have e44:=Z.g 44;have hw:=hadd hlt h4;unfold Oper.wp;go_simp;clear e42 e44;refine Z.K hK ?_;clear Z hK;intro a Z;refine Z.s ?_;clear Z;intro a Z;refine od ?_;refine wr ?_;refine og fun K hK =>?_
       have e28:=Z.g 28;have hw:=Ba k (by omega);unfold Oper.wp;go_simp;clear e28;refine Z.K hK ?_;clear Z hK;intro a Z;refine Z.s ?_;clear Z;intro a Z;refine od ?_;have hpa2:=hpa;exact ⟨n-1,by omega,k+1,by omega,WX hlt hfine h4 h5,by rw [hpa];exact Z.sb,hI⟩
      ·rw [h5] at Z;have hR:=Lib.hid (HC.out.1 k hlt (.inr h5));refine Z.t ?_;clear Z;intro a Z;refine Z.s ?_;clear Z;intro a Z;refine od ?_;refine wp_cond_true (Z.ev 41 rfl) ?_;refine wsr ?_;refine Z.s ?_;clear Z;intro a Z;refine od ?_;refine wp_ret ?_
       try simp only [Exit.then,Exit.inBlock]
       refine bodyPost_ret (v := .int .i64 (Ap t)) ?_ Z.defers ⟨rfl,hI.below⟩;rw [hR.out];simp [results,Try.results39,Z.get 2 _ rfl]
     ·rw [h4] at Z;have hR:=Lib.hid (HC.out.1 k hlt (.inl h4));(iterate 2 refine Z.s ?_;clear Z;intro a Z);refine Z.z ?_;clear Z;intro a Z;refine Z.z ?_;clear Z;intro a Z;refine Z.z ?_;clear Z;intro a Z;refine Z.z ?_;clear Z;intro a Z;refine Z.s ?_;clear Z;intro a Z;refine od ?_;refine wp_cond_true (Z.ev 41 rfl) ?_;refine wsr ?_;refine Z.s ?_;clear Z;intro a Z;refine od ?_;refine wp_ret ?_
      try simp only [Exit.then,Exit.inBlock]
      refine bodyPost_ret (v := .int .i64 (Ap t)) ?_ Z.defers ⟨rfl,hI.below⟩;rw [hR.out];simp [results,Try.results39,Z.get 2 _ rfl]
    ·obtain rfl:k=t.Ac.length:=by omega
     rw [List.take_length] at Z hfine;refine Z.s ?_;clear Z;intro a Z;refine od ?_;refine wp_seq ?_;refine wp_cond_false (Z.ev 29 rfl) ?_;refine wp_exit ?_;refine wp_seq ?_;refine wsr ?_;refine Z.s ?_;clear Z;intro a Z;refine og fun K hK =>?_
     have e47:=Z.g 47;unfold Oper.wp;go_simp;refine (Bh _ _ _ _).mono ?_;rintro e x ⟨rfl,rfl⟩;clear e47;refine Z.K hK ?_;clear Z hK;intro a Z;rcases Bool.eq_false_or_eq_true (btw (Ak t.Ac) 1 40) with h6 | h6
     ·rw [h6] at Z;have hR:=Lib.hid (HC.out.2.2 hfine h6);refine Z.s ?_;clear Z;intro a Z;refine od ?_;refine wp_cond_false (Z.ev 49 rfl) ?_;refine wp_skip ?_;refine wsr ?_;refine og fun K hK =>?_
      have e1:=Z.g 1;have c0:=hI.c0;have c1:=hI.c1;have c2:=hI.c2;have c3:=hI.c3;have c4:=hI.c4;have c5:=hI.c5;unfold Oper.wp;go_simp;clear e1;refine Z.K hK ?_;clear Z hK;intro a Z;refine og fun K hK =>?_
      have e50:=Z.g 50;unfold Oper.wp;go_simp;refine (VD hI.tar).mono ?_;rintro e x ⟨rfl,hb⟩;replace hI:=hI.keep hb;clear hb;clear e50;refine Z.K hK ?_;clear Z hK;intro a Z;refine Z.s ?_;clear Z;intro a Z;refine od ?_;refine wp_ret ?_
      try simp only [Exit.then,Exit.inBlock]
      refine bodyPost_ret (v := .int .i64 (Ap t)) ?_ Z.defers ⟨rfl,hI.below⟩;rw [hR.out];simp [results,Try.results39,Z.get 2 _ rfl]
     ·rw [h6] at Z;have hR:=Lib.hid (HC.out.2.1 hfine h6);refine Z.s ?_;clear Z;intro a Z;refine od ?_;refine wp_cond_true (Z.ev 49 rfl) ?_;refine wsr ?_;refine Z.s ?_;clear Z;intro a Z;refine od ?_;refine wp_ret ?_
      try simp only [Exit.then,Exit.inBlock]
      refine bodyPost_ret (v := .int .i64 (Ap t)) ?_ Z.defers ⟨rfl,hI.below⟩;rw [hR.out];simp [results,Try.results39,Z.get 2 _ rfl]
   ·have hne:=DL h3;have hR:=Lib.hid (show Ap t=TL t.Ac.length 1 4 from by unfold Ap;rw [if_neg (by simp [h1]),if_neg (by simp [h2]),if_pos h3]);refine Z.s ?_;clear Z;intro a Z;refine od ?_;refine wp_cond_true (Z.ev 23 rfl) ?_;refine wsr ?_;(iterate 2 refine Z.s ?_;clear Z;intro a Z);refine od ?_;refine wp_ret ?_
    try simp only [Exit.then,Exit.inBlock]
    refine bodyPost_ret (v := .int .i64 (Ap t)) ?_ Z.defers ⟨rfl,hI.below⟩;rw [hR.out];simp [results,Try.results39,Z.get 2 _ rfl]
  ·rw [h2] at Z;have hR:=Lib.hid (show Ap t=1 from by unfold Ap;rw [if_neg (by simp [h1]),if_pos (by rw [h2];rfl)]);refine Z.s ?_;clear Z;intro a Z;refine od ?_;refine wp_cond_true (Z.ev 17 rfl) ?_;refine wsr ?_;refine Z.s ?_;clear Z;intro a Z;refine od ?_;refine wp_ret ?_
   try simp only [Exit.then,Exit.inBlock]
   refine bodyPost_ret (v := .int .i64 (Ap t)) ?_ Z.defers ⟨rfl,hI.below⟩;rw [hR.out];simp [results,Try.results39,Z.get 2 _ rfl]
 ·have hne:=DL h1;have hR:=Lib.hid (show Ap t=BM t.roads from by unfold Ap;rw [if_pos h1]);refine Z.s ?_;clear Z;intro a Z;refine od ?_;refine wp_cond_true (Z.ev 12 rfl) ?_;refine wsr ?_;(iterate 2 refine Z.s ?_;clear Z;intro a Z);refine od ?_;refine wp_ret ?_
  try simp only [Exit.then,Exit.inBlock]
  refine bodyPost_ret (v := .int .i64 (Ap t)) ?_ Z.defers ⟨rfl,hI.below⟩;rw [hR.out];simp [results,Try.results39,Z.get 2 _ rfl]
end
section
open Go.RowKit
open Go.ChangeMaps (setBlock)
open Go.WideMaps (KeyLaw)
def MV (ps:List (Value×Value)):Array MapEntry:=(ps.zipIdx.map fun q=>({ key:=q.1.1,val:=q.1.2,born:=q.2 }:MapEntry)).toArray
def Gl (w:World) (m:Nat) (ps:List (Value×Value)):Prop:=w.heap[m]? = some (.map (MV ps) ps.length)
theorem MS (ps:List (Value×Value)):(MV ps).size=ps.length:=by simp [MV]
theorem DV (ps:List (Value×Value)) (i:Nat):(MV ps)[i]? = (ps[i]?).map fun q=>({ key:=q.1,val:=q.2,born:=i }:MapEntry):=by
 simp only [MV,List.getElem?_toArray,List.getElem?_map,List.getElem?_zipIdx,Option.map_map]
 cases ps[i]? <;> simp
theorem Wy (ps:List (Value×Value)) (k v:Value):(MV ps).push { key:=k,val:=v,born:=ps.length }=MV (ps++[(k,v)]):=by
 simp [MV,List.zipIdx_append]
theorem Gl.made (w:World):Gl (w.alloc (.map #[] 0)) w.heap.size []:=by
 show (w.heap.push _)[w.heap.size]? = some _;simp [MV]
theorem Gl.lt {w:World} {m:Nat} {ps:List (Value×Value)} (h:Gl w m ps):m < w.heap.size:=(Array.getElem?_eq_some_iff.1 h).1
theorem Gl.below {w w':World} {m:Nat} {ps:List (Value×Value)} (h:Gl w m ps) {B:Nat} (hb:Below B w w') (hB:m < B):Gl w' m ps:=by
 unfold Gl at *;rw [hb.block m hB];exact h
section
variable {P:Program} {k e t:TypeId}
theorem F9 {w w0:World} {B m:Nat} (o:Obj) (hb:Below B w0 w) (hB:B≤m):Below B w0 (setBlock w m o) :=
 hb.trans ⟨rfl,rfl,rfl,by simp [setBlock],fun k hk=>by simp only [setBlock];rw [Array.getElem?_setIfInBounds_ne (by omega)]⟩
theorem NP {w:World} {m j:Nat} (o:Obj) (h:m≠j):(setBlock w m o).heap[j]? = w.heap[j]?:=by simp only [setBlock];rw [Array.getElem?_setIfInBounds_ne h]
theorem Gl.set {w:World} {m:Nat} {ps:List (Value×Value)} (ps':List (Value×Value)) (h:Gl w m ps):Gl (setBlock w m (.map (MV ps') ps'.length)) m ps':=by
 have:=h.lt;simp [Gl,setBlock,this]
end
end
section
open Go.RowKit Go.Conc
def AaN (P:Program) (o:Oper) (a:Act) (w:World) (next:Act→World→Prop):Prop :=
 (∃ c v z w1 cap buf s r tm,(execOp a.eval o).run P w = .ok (.comm #[scase c v z] true .send) w1∧w1.heap[c]? = some (.chan cap buf false s r tm)∧buf.size < cap ∧
   next (a.put o.dst undef) (w1.setChan c cap (buf.push v) false (s+1) r tm)) ∨
 (∃ c z w1 cap buf s r tm,(execOp a.eval o).run P w = .ok (.comm #[rcase c z] true (.recv false)) w1∧w1.heap[c]? = some (.chan cap buf false s r tm)∧0 < buf.size ∧
   next (a.put o.dst (buf.getD 0 undef)) (w1.setChan c cap (buf.extract 1 buf.size) false s (r+1) tm))
def wpC (P:Program) (ops:Array Oper) (Q:Exit→Act→World→Prop):List Nat→Act→World→Prop
 | [],a,w=>Q .normal a w
 | i :: rest,a,w =>
  match ops[i]? with
  | none=>False
  | some o=>o.guard=none∧(o.wp P a w (wpC P ops Q rest) Q∨(o.asks P a w∧LetsOut Q)∨AaN P o a w (wpC P ops Q rest))
end
section
open Go.RowKit Go.Conc
open Go.ChangeMaps (setBlock)
end
section
open Go.RowKit Go.Conc
open Go.ChangeMaps (setBlock)
section
variable {r:AQ} {f:Flock} {shut day:Int} {q:Int×Int} {S:List (Int×Int)} {k:Nat} {s:Strip} {eo:Int×Bool}
end
end
section
open Go Go.Conc
open Go.RowKit
open Go.ChangeMaps (setBlock)
def pvG (q:List ((Int×Int)×Int)):List (Value×Value):=q.map fun p=>(gk p.1, .int .i64 p.2)
theorem KH (q:List ((Int×Int)×Int)):(pvG q).length=q.length:=by simp [pvG]
theorem PK (q:List ((Int×Int)×Int)):EW (MV (pvG q)).toList q:=by
 unfold EW;apply List.ext_getElem?;intro i;rw [List.getElem?_map,Array.getElem?_toList,DV];simp only [pvG,List.getElem?_map]
 cases q[i]? <;> rfl
def FK:List ((Int×Int)×Int)→Int×Int→Nat→Option (Nat×Int)
 | [],_,_=>none
 | p :: l,k,i=>if p.1=k then some (i,p.2) else FK l k (i+1)
def Q9:List ((Int×Int)×Int)→Int×Int→Int→List ((Int×Int)×Int)
 | [],k,v=>[(k,v)]
 | p :: l,k,v=>if p.1=k then (k,v) :: l else p :: Q9 l k v
theorem JC:∀ {l:List ((Int×Int)×Int)} {k:Int×Int} {i:Nat},FK l k i=none→atK l k=none∧∀ v,Q9 l k v=l++[(k,v)]
 | [],k,i,_=>⟨rfl,fun v=>rfl⟩
 | p :: l,k,i,h=>by
  rw [FK] at h
  by_cases e:p.1=k
  ·rw [if_pos e] at h;simp at h
  ·rw [if_neg e] at h;obtain ⟨h1,h2⟩:=JC h;have e2:(p.1 == k)=false:=by simpa using e
   refine ⟨?_,fun v =>?_⟩
   ·unfold atK at h1 ⊢;rw [List.find?_cons,e2];exact h1
   ·rw [Q9,if_neg e,h2];rfl
theorem JB:∀ {l:List ((Int×Int)×Int)} {k:Int×Int} {i j:Nat} {u:Int},FK l k i=some (j,u)→i≤j∧j-i < l.length∧l[j-i]? = some (k,u)∧atK l k=some u∧∀ v,Q9 l k v=l.set (j-i) (k,v)
 | [],k,i,j,u,h=>by simp [FK] at h
 | p :: l,k,i,j,u,h=>by
  rw [FK] at h
  by_cases e:p.1=k
  ·rw [if_pos e] at h;simp only [Option.some.injEq,Prod.mk.injEq] at h;obtain ⟨rfl,rfl⟩:=h;refine ⟨Nat.le_refl _,by simp,by simp [← e],?_,fun v =>?_⟩
   ·unfold atK;rw [List.find?_cons,show (p.1 == k)=true by simpa using e];rfl
   ·rw [Q9,if_pos e];simp
  ·rw [if_neg e] at h;obtain ⟨h1,h2,h3,h4,h5⟩:=JB h;have hj:j-i=(j-(i+1))+1:=by omega
   refine ⟨by omega,by simp only [List.length_cons];omega,by rw [hj];simpa using h3,?_,fun v =>?_⟩
   ·unfold atK at h4 ⊢;rw [List.find?_cons,show (p.1 == k)=false by simpa using e];exact h4
   ·rw [Q9,if_neg e,h5,hj];rfl
theorem XL (l:List ((Int×Int)×Int)) (k k':Int×Int) (v:Int):atK (Q9 l k v) k'=if k'=k then some v else atK l k':=by
 induction l with
 | nil =>
  by_cases e:k'=k
  ·subst e;simp [Q9,atK]
  ·have:(k == k')=false:=by simpa using fun h=>e h.symm
   simp [Q9,atK,this,e]
 | cons p l ih =>
  rw [Q9]
  by_cases c:p.1=k
  ·rw [if_pos c]
   by_cases e:k'=k
   ·subst e;simp [atK]
   ·have h1:(k == k')=false:=by simpa using fun h=>e h.symm
    have h2:(p.1 == k')=false:=by rw [c];exact h1
    rw [if_neg e];simp [atK,List.find?_cons,h1,h2]
  ·rw [if_neg c]
   by_cases e:p.1=k'
   ·have h1:(p.1 == k')=true:=by simpa using e
    have h2:k'≠k:=fun h=>c (e.trans h)
    rw [if_neg h2];simp [atK,List.find?_cons,h1]
   ·have h1:(p.1 == k')=false:=by simpa using e
    unfold atK at ih ⊢;rw [List.find?_cons,List.find?_cons,h1];exact ih
theorem Nb (w:World) (k:Int×Int):∀ (ents:List MapEntry) (l:List ((Int×Int)×Int)) (i:Nat),EW ents l →
  (Instr.findAsking 140 (gk k) ents i).run Try.prog w = .ok ((FK l k i).map fun p=>(p.1, .int .i64 p.2)) w
 | [],l,i,h=>by
  have:l=[]:=by cases l with | nil=>rfl | cons x l=>simp [EW] at h
  subst this
  rfl
 | e :: ents,l,i,h=>by
  cases l with
  | nil=>simp [EW] at h
  | cons p l =>
   obtain ⟨⟨p1,p2⟩,pv⟩:=p;obtain ⟨k1,k2⟩:=k;simp only [EW,List.map_cons,List.cons.injEq,Prod.mk.injEq] at h;obtain ⟨⟨hk,hv⟩,hr⟩:=h;have ih:=Nb w (k1,k2) ents l (i+1) hr;have heq:=(WZ w #[] k1 k2 p1 p2).1;rw [Instr.findAsking,hk];unfold gk at *
   by_cases hkk:k1=p1∧k2=p2
   ·obtain ⟨rfl,rfl⟩:=hkk;simp [go_sem,heq,FK,hv]
   ·have hne:(k1 == p1 && k2 == p2)=false:=by
     simp only [Bool.and_eq_false_iff,beq_eq_false_iff_ne]
     by_cases h1:k1=p1
     ·exact .inr fun h2=>hkk ⟨h1,h2⟩
     ·exact .inl h1
    have hne2:¬ ((p1,p2)=(k1,k2)):=by
     simp only [Prod.mk.injEq];exact fun h=>hkk ⟨h.1.symm,h.2.symm⟩
    rw [hne] at heq;rw [FK,if_neg hne2];simp [go_sem,heq,ih]
theorem Sr (w:World) (k:Int×Int) (ents:List MapEntry) (l:List ((Int×Int)×Int)) (h:EW ents l) :
  (Instr.findKey 140 (gk k) ents).run Try.prog w = .ok ((FK l k 0).map fun p=>(p.1, .int .i64 p.2)) w:=by
 have hu:=Try.underlying140;have h1:=Nb w k ents l 0 h
 cases ents with
 | nil =>
  have:l=[]:=by cases l with | nil=>rfl | cons x l=>simp [EW] at h
  subst this;simp [Instr.findKey,run_underlying hu,go_sem,Instr.findNow,FK]
 | cons e ents=>simp [Instr.findKey,run_underlying hu,go_sem,Instr.findNow,Instr.sameNow,h1]
theorem Us (w:World) (k:Int×Int):(Instr.keyThatStays (gk k) (gk k)).run Try.prog w = .ok (gk k) w:=by
 have:Instr.sameBits 10000 (gk k) (gk k)=true:=by simp [gk,Instr.sameBits]
 simp [Instr.keyThatStays,this,go_sem]
theorem U2 (ps:List (Value×Value)) (i:Nat) (h:i < ps.length):(MV ps).findIdx? (fun e=>(e.born:Int) == (i:Int))=some i:=by
 rw [Array.findIdx?_eq_some_iff_getElem];refine ⟨by rw [MS];exact h,?_,fun j hj =>?_⟩
 ·have:=DV ps i;rw [List.getElem?_eq_getElem h,Array.getElem?_eq_getElem (by rw [MS];exact h)] at this;simp only [Option.map_some,Option.some.injEq] at this;rw [this];simp
 ·have:=DV ps j;rw [List.getElem?_eq_getElem (by omega),Array.getElem?_eq_getElem (by rw [MS];omega)] at this;simp only [Option.map_some,Option.some.injEq] at this;rw [this];simp;omega
def PL (q:List ((Int×Int)×Int)) (k:Int×Int):List ((Int×Int)×Int):=match FK q k 0 with | none=>q++[(k,0)] | some _=>q
def Vq (q:List ((Int×Int)×Int)) (k:Int×Int):Nat:=match FK q k 0 with | none=>q.length | some r=>r.1
theorem SC (q:List ((Int×Int)×Int)) (k:Int×Int):Vq q k < (PL q k).length∧((PL q k)[Vq q k]?).map (·.1)=some k∧(∀ v,(PL q k).set (Vq q k) (k,v)=Q9 q k v)∧(atK (PL q k) k).getD 0=(atK q k).getD 0:=by
 unfold PL Vq
 cases hx:FK q k 0 with
 | none =>
  obtain ⟨h1,h2⟩:=JC hx;refine ⟨by simp,by simp,fun v=>by rw [h2];simp,?_⟩
  dsimp only
  rw [← h2 0,XL,if_pos rfl,h1];rfl
 | some r =>
  obtain ⟨j,u⟩:=r;obtain ⟨_,h2,h3,h4,h5⟩:=JB hx;simp only [Nat.sub_zero] at h2 h3 h5;exact ⟨h2,by dsimp only;rw [h3];rfl,fun v=>(h5 v).symm,rfl⟩
theorem U5 (w:World) (mb:Nat) (q:List ((Int×Int)×Int)) (k:Int×Int) (hm:Gl w mb (pvG q)) :
  (Instr.mapEntry 101 (.map (some mb)) (gk k)).run Try.prog w = .ok (.tuple #[.int .i64 ((atK q k).getD 0), .int .i64 (Vq q k:Nat)]) (setBlock w mb (.map (MV (pvG (PL q k))) (pvG (PL q k)).length)):=by
 have hu:=Try.underlying101;have hf:=Sr w k (MV (pvG q)).toList q (PK q);have hc:=(OH false w #[] k).1;have hz:(zeroValue 3).run Try.prog w = .ok (.int .i64 0) w:=by simp [go_sem]
 unfold Gl at hm;unfold PL Vq
 cases hx:FK q k 0 with
 | none =>
  obtain ⟨h1,h2⟩:=JC hx;rw [hx] at hf
  dsimp only
  have e:pvG (q++[(k,0)])=pvG q++[(gk k, .int .i64 0)]:=by simp [pvG]
  rw [e,← Wy];simp [Instr.mapEntry,run_underlying hu,MapKept.run_getObj_map hm,hc,hf,hz,MapKept.run_setObj_map _ hm,Result.andThen,setBlock,h1,goInt,KH]
 | some r =>
  obtain ⟨j,u⟩:=r;obtain ⟨_,h2,h3,h4,h5⟩:=JB hx;rw [hx] at hf;simp only [Nat.sub_zero] at h2 h3 h5
  dsimp only
  have e1:(MV (pvG q))[j]? = some ⟨gk k, .int .i64 u,j⟩:=by rw [DV];simp [pvG,h3]
  have e2:(MV (pvG q)).modify j (fun e=>{ e with key:=gk k })=MV (pvG q):=by
   apply Array.ext_getElem?;intro i;rw [Array.getElem?_modify]
   by_cases c:j=i
   ·subst c;rw [if_pos rfl,e1];rfl
   ·rw [if_neg c]
  simp [Instr.mapEntry,run_underlying hu,MapKept.run_getObj_map hm,hc,hf,e1,Us,e2,MapKept.run_setObj_map _ hm,Result.andThen,setBlock,h4,goInt]
theorem SA (w:World) (mb:Nat) (q1:List ((Int×Int)×Int)) (st:Nat) (v:Int) (k:Int×Int) (hst:st < q1.length) (hk:(q1[st]?).map (·.1)=some k) (hm:Gl w mb (pvG q1)) :
  (Instr.entryStore 101 (.map (some mb)) (.int .i64 (st:Nat)) (.int .i64 v)).run Try.prog w = .ok () (setBlock w mb (.map (MV (pvG (q1.set st (k,v)))) (pvG (q1.set st (k,v))).length)):=by
 unfold Gl at hm;have h1:=U2 (pvG q1) st (by rw [KH];exact hst)
 have h2:(MV (pvG q1)).modify st (fun e=>{ e with val := .int .i64 v })=MV (pvG (q1.set st (k,v))):=by
  apply Array.ext_getElem?;intro i;rw [Array.getElem?_modify,DV,DV];simp only [pvG,List.getElem?_map,List.getElem?_set]
  by_cases c:st=i
  ·subst c;rw [if_pos rfl,if_pos rfl,if_pos hst]
   cases hq:q1[st]? with
   | none=>rw [hq] at hk;simp at hk
   | some p=>rw [hq] at hk;simp at hk;simp [hk]
  ·rw [if_neg c,if_neg c]
 have h3:(pvG (q1.set st (k,v))).length=(pvG q1).length:=by simp [KH]
 simp [Instr.entryStore,MapKept.run_getObj_map hm,asInt,asIntOf,go_sem,h1,h2,h3,MapKept.run_setObj_map _ hm,Result.andThen,setBlock]
end
end Go.Proofs.Ytgdobbcjkiapkaa
