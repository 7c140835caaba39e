import Derived.Test.YtgdobbcjkiapkaaCh04
import Derived.Test.YtgdobbcjkiapkaaCh19
import Derived.Test.YtgdobbcjkiapkaaCh16
import Derived.Test.YtgdobbcjkiapkaaCh14
namespace Go.Proofs.Ytgdobbcjkiapkaa
set_option maxRecDepth 100000
set_option maxHeartbeats 4000000
set_option linter.unusedSimpArgs false
set_option linter.unusedVariables false
section
open Go.RowKit
structure TI (w x:World) (bt:Nat) (t:Ac) (s:DF):Prop where
 below:Below w.heap.size w x
 tar:BM x t s
 kb:Rw x bt (Em t s) 28
 lb:w.heap.size≤bt
section
variable {w x:World} {bt:Nat} {t:Ac} {s:DF}
theorem TI.keep (h:TI w x bt t s) {x2:World} (hb:Below x.heap.size x x2):TI w x2 bt t s:=⟨h.below.trans (hb.mono h.below.size),h.tar.below hb,h.kb.below hb,h.lb⟩
theorem TI.c0 (h:TI w x bt t s):x.cell? ⟨bt,0,none⟩=some (.int .i64 t.roads.days):=h.kb.cell rfl
theorem TI.c1 (h:TI w x bt t s):x.cell? ⟨bt,1,none⟩=some (.int .i64 t.roads.stages):=h.kb.cell rfl
theorem TI.c2 (h:TI w x bt t s):x.cell? ⟨bt,2,none⟩=some (.slice s.sa t.roads.strips.length s.sc):=h.kb.cell rfl
theorem TI.c3 (h:TI w x bt t s):x.cell? ⟨bt,3,none⟩=some (.int .i64 t.pace):=h.kb.cell rfl
theorem TI.c4 (h:TI w x bt t s):x.cell? ⟨bt,4,none⟩=some (.slice s.pa t.Ad.length s.pc):=h.kb.cell rfl
theorem TI.c5 (h:TI w x bt t s):x.cell? ⟨bt,5,none⟩=some (.slice s.ta t.Ai.length s.tc):=h.kb.cell rfl
theorem TI.made {w0:World} (h0:Below w.heap.size w w0) (ht:BM w0 t s) {W:World} (hX:Rw W w0.heap.size (Em t s) 28) (hb:Below w0.heap.size w0 W):TI w W w0.heap.size t s:=⟨h0.trans (hb.mono h0.size),ht.below hb,hX,h0.size⟩
end
theorem UT {t:Ac} {s:DF} {w:World} (h:BM w t s):Calls Try.prog 85 #[.agg #[.int .i64 t.roads.days, .int .i64 t.roads.stages, .slice s.sa t.roads.strips.length s.sc]] w
   fun e w'=>e = .returned (.int .i64 (BN t.roads))∧Below w.heap.size w w':=check_any _ _ _ _ _ _ h.strips h.ls
theorem Bf (k:Nat) (h:k≤1000000):IntKind.i64.wrap ((k:Int)+1)=((k+1:Nat):Int):=by rw [IntWalk.i64_in _ (by omega)];simp
theorem EX {a b:Int} (h:a=b):(a == b)=true:=by simpa using h
theorem Ey {a b:Int} (h:¬ a=b):(a == b)=false:=by simpa using h
theorem C9 {a b:Int} (h:¬ a=b):(a != b)=true:=by simpa using h
theorem Uc {n lo hi:Int} (h:Ud n lo hi=0):lo≤n∧n≤hi:=by
 unfold Ud at h
 split at h
 ·exact absurd h (by decide)
 ·split at h
  ·exact absurd h (by decide)
  ·omega
theorem Y3 {t:Ac} (h1:BN t.roads=0) (h2:btw t.pace 1 9=true) (h3:Ud t.Ad.length 1 4=0) :
  (∀ k (hk:k < t.Ad.length),(btw (t.Ad[k]).heads 0 40=false∨btw (t.Ad[k]).free 0 40=false)→Ak t=1) ∧
  (t.Ad.all Bd=true→btw (Am t.Ad) 1 40=false→Ak t=1)∧(t.Ad.all Bd=true→btw (Am t.Ad) 1 40=true→Ak t=Fj t):=by
 refine ⟨fun k hk h =>?_,fun ha hb =>?_,fun ha hb =>?_⟩
 ·have:t.Ad.all Bd=false:=by
   rw [List.all_eq_false];exact ⟨t.Ad[k],List.getElem_mem hk,by rcases h with h | h <;> simp [Bd,h]⟩
  unfold Ak;rw [if_neg (by simp [h1]),if_neg (by simp [h2]),if_neg (by simp [h3]),if_pos (by simp [this])]
 ·unfold Ak;rw [if_neg (by simp [h1]),if_neg (by simp [h2]),if_neg (by simp [h3]),if_neg (by simp [ha]),if_pos (by simp [hb])]
 ·unfold Ak;rw [if_neg (by simp [h1]),if_neg (by simp [h2]),if_neg (by simp [h3]),if_neg (by simp [ha]),if_neg (by simp [hb])]
theorem Xn {ps:List BA} {k:Nat} (hk:k < ps.length) (h:(ps.take k).all Bd=true) (h1:btw ps[k].heads 0 40=true) (h2:btw ps[k].free 0 40=true):(ps.take (k+1)).all Bd=true:=by
 rw [List.take_succ_eq_append_getElem hk,List.all_append,h];simp [Bd,h1,h2]
theorem Q9 {ps:List BA} {k:Nat} (hl:(ps.length:Int)≤4) (hk:k < ps.length) (h:(ps.take k).all Bd=true) (h1:btw ps[k].heads 0 40=true):IntKind.i64.wrap (Am (ps.take k)+ps[k].heads)=Am (ps.take (k+1)):=by
 have h2:=Jg h;have h3:=Aj.1 h1;have h4:(ps.take k).length≤4:=by rw [List.length_take];omega
 rw [QM hk,IntWalk.i64_in _ (by omega)]
theorem Cf {a b:Int} (h:a=b):(a != b)=false:=by simpa using h
theorem te3 {N:Int} {pre:List BH} {x:BH} (h:btw x.strip 0 (N-1)=false):BZ N pre x=3:=by unfold BZ;rw [if_pos (by rw [h];rfl)]
theorem te1 {N:Int} {pre:List BH} {x:BH} (h:btw x.strip 0 (N-1)=true) (h2:btw x.rate 0 500=false∨btw x.farmer 1 4=false):BZ N pre x=1:=by
 unfold BZ;rw [if_neg (by simp [h]),if_pos (by rcases h2 with h2 | h2 <;> simp [h2])]
theorem te4 {N:Int} {pre:List BH} {x:BH} (h:btw x.strip 0 (N-1)=true) (h1:btw x.rate 0 500=true) (h2:btw x.farmer 1 4=true) (h3:pre.any (fun y=>y.strip == x.strip && y.farmer == x.farmer)=true):BZ N pre x=4:=by
 unfold BZ;rw [if_neg (by simp [h]),if_neg (by simp [h1,h2]),if_pos h3]
theorem te0 {N:Int} {pre:List BH} {x:BH} (h:btw x.strip 0 (N-1)=true) (h1:btw x.rate 0 500=true) (h2:btw x.farmer 1 4=true) (h3:pre.any (fun y=>y.strip == x.strip && y.farmer == x.farmer)=false):BZ N pre x=0:=by
 unfold BZ;rw [if_neg (by simp [h]),if_neg (by simp [h1,h2]),if_neg (by rw [h3];simp)]
theorem Aal {ts:List BH} {k j:Nat} (hk:k < ts.length) (hj:j < k) (h1:ts[j].strip=ts[k].strip) (h2:ts[j].farmer=ts[k].farmer):(ts.take k).any (fun y=>y.strip == ts[k].strip && y.farmer == ts[k].farmer)=true:=by
 rw [List.any_eq_true];refine ⟨ts[j],?_,by simp [h1,h2]⟩;rw [List.mem_take_iff_getElem];exact ⟨j,by omega,rfl⟩
theorem Un {ts:List BH} {x:BH} {j:Nat} (hj:j < ts.length) (h:(ts.take j).any (fun y=>y.strip == x.strip && y.farmer == x.farmer)=false) (h1:¬ (ts[j].strip=x.strip∧ts[j].farmer=x.farmer)):(ts.take (j+1)).any (fun y=>y.strip == x.strip && y.farmer == x.farmer)=false:=by
 rw [List.take_succ_eq_append_getElem hj,List.any_append,h];simp only [List.any_cons,List.any_nil,Bool.or_false,Bool.false_or,Bool.and_eq_false_iff,beq_eq_false_iff_ne]
 by_cases e:ts[j].strip=x.strip
 ·exact .inr fun e2=>h1 ⟨e,e2⟩
 ·exact .inl e
theorem RD:Try.f88.body=some (Code.seq (Aa Try.f88 0) (Code.seq (Code.seq (Aa Try.f88 1) (Code.cond (Operand.tmp 10) (Code.seq (Aa Try.f88 2) Code.ret) Code.skip)) (Code.seq (Code.seq (Aa Try.f88 3) (Code.block 0 (Code.loop (Code.seq (Aa Try.f88 4) (Code.seq (Code.cond (Operand.tmp 15) Code.skip (Code.exit 0)) (Code.seq (Code.block 1 (Code.seq (Aa Try.f88 5) (Code.seq (Code.seq (Aa Try.f88 6) (Code.cond (Operand.tmp 27) (Code.seq (Aa Try.f88 7) Code.ret) Code.skip)) (Code.seq (Code.seq (Aa Try.f88 8) (Code.cond (Operand.tmp 37) (Code.seq (Aa Try.f88 9) Code.ret) Code.skip)) (Code.seq (Aa Try.f88 10) (Code.block 2 (Code.loop (Code.seq (Aa Try.f88 11) (Code.seq (Code.cond (Operand.tmp 44) Code.skip (Code.exit 2)) (Code.seq (Code.block 3 (Code.seq (Aa Try.f88 12) (Code.seq (Aa Try.f88 13) (Code.cond (Operand.tmp 58) (Code.seq (Aa Try.f88 14) Code.ret) Code.skip)))) (Aa Try.f88 15))))))))))) (Aa Try.f88 16))))))) (Code.seq (Aa Try.f88 17) Code.ret)))):=by kernel_rfl
theorem VX {t:Ac} {s:DF} {w:World} (ht:BM w t s):Calls Try.prog 88 #[.agg (Em t s)] w (fun e w'=>e = .returned (.int .i64 (Fj t))∧Below w.heap.size w w'):=by
 refine Q4 Try.func88 RD Try.ntmps88 ?_;intro a Z;refine wsr ?_;refine Z.s ?_;clear Z;intro a Z;refine Ae (G:=fun W=>wpOps _ _ _ _ _ W) ?_;intro x hz X hb;have hI:=TI.made (Below.refl _ _) ht X hb;obtain ⟨bt,hbt⟩:∃ b,b=w.heap.size:=⟨_,rfl⟩;rw [← hbt] at Z hI;clear hz X hb hbt;refine Z.s ?_;clear Z;intro a Z;refine od ?_;refine wp_seq ?_;refine wsr ?_;refine Z.s ?_;clear Z;intro a Z;refine og fun K hK =>?_
 have e7:=Z.g 7;have c5:=hI.c5;unfold Oper.wp;go_simp;clear e7;refine Z.K hK ?_;clear Z hK;intro a Z;refine Z.s ?_;clear Z;intro a Z
 by_cases h1:6 < t.Ai.length
 ·have q1:(6:Int) < (t.Ai.length:Int):=by omega
  have hR:=Lib.hid (show Fj t=6 from by unfold Fj;rw [if_pos h1]);refine Z.s ?_;clear Z;intro a Z;refine od ?_;refine wp_cond_true (Z.ev 10 rfl) ?_;refine wsr ?_;refine Z.s ?_;clear Z;intro a Z;refine od ?_;refine wp_ret ?_
  try simp only [Exit.then,Exit.inBlock]
  refine bodyPost_ret (v := .int .i64 (Fj t)) ?_ Z.defers ⟨rfl,hI.below⟩;rw [hR.out];simp [results,Try.results88,Z.get 2 _ rfl]
 ·have q1:¬ (6:Int) < (t.Ai.length:Int):=by omega
  refine Z.s ?_;clear Z;intro a Z;refine od ?_;refine wp_cond_false (Z.ev 10 rfl) ?_;refine wp_skip ?_;refine wp_seq ?_;refine wsr ?_;refine Z.s ?_;clear Z;intro a Z;refine og fun K hK =>?_
  have e11:=Z.g 11;have c5:=hI.c5;unfold Oper.wp;go_simp;clear e11;refine Z.K hK ?_;clear Z hK;intro a Z;(iterate 2 refine Z.s ?_;clear Z;intro a Z);refine od ?_;refine wp_block ?_;have hl6:t.Ai.length≤6:=by omega
  refine wp_loop_ghost (fun n p x=>∃ k:Nat,k+n=t.Ai.length∧BV t.roads.strips.length (t.Ai.take k) (t.Ai.drop k)=Fj t∧Sl p 61 [(1, .pointer (some ⟨bt,0,none⟩)),(12, .slice s.ta t.Ai.length s.tc),(13, .int .i64 (t.Ai.length:Int)),(14, .int .i64 (k:Int))]∧TI w x bt t s) t.Ai.length ⟨0,by omega,by unfold Fj;rw [if_neg h1];rfl,Z.sb,hI⟩ ?_;clear Z hI h1;rintro n a x ⟨k,hkn,hE,Z,hI⟩;have HE:=Lib.hid hE;clear hE;refine wsr ?_
  by_cases hlt:k < t.Ai.length
  ·have q1:(k:Int) < (t.Ai.length:Int):=by omega
   obtain ⟨pb,po,hpa,p0,p1,p2⟩:=hI.tar.Ai.at hlt;rw [hpa] at Z;simp only [P8] at p0 p1 p2;refine Z.s ?_;clear Z;intro a Z;refine od ?_;refine wp_seq ?_;refine wp_cond_true (Z.ev 15 rfl) ?_;refine wp_skip ?_;refine wp_seq ?_;refine wp_block ?_;refine wsr ?_;(iterate 3 refine Z.s ?_;clear Z;intro a Z);refine og fun K hK =>?_
   obtain ⟨g,hg⟩:∃ b,b=x.heap.size:=⟨_,rfl⟩;unfold Oper.wp;go_simp;refine Z.K hK ?_;clear Z hK;intro a Z;refine Z.s ?_;clear Z;intro a Z;refine og fun K hK =>?_
   have e4:=Z.g 4;have e18:=Z.g 18;unfold Oper.wp;go_simp;clear e4 e18;refine hK _ _ ?_;clear hK;refine Ae (G:=fun W=>wpOps _ _ _ _ _ W) ?_;intro x hz G hb;replace hI:=hI.keep hb;rw [← hg] at Z G;clear hz hb p0 p1 p2 hg;refine od ?_;have HR:=Lib.hid (fun e (h:BZ t.roads.strips.length (t.Ai.take k) t.Ai[k]=e) (h0:e≠0)=>HE.out.symm.trans (OZ hlt h h0));refine wp_seq ?_;refine wsr ?_;refine Z.s ?_;clear Z;intro a Z;refine og fun K hK =>?_
   have e19:=Z.g 19;have g0:=G.cell (o:=0) rfl;unfold Oper.wp;go_simp;clear e19;refine Z.K hK ?_;clear Z hK;intro a Z;(iterate 2 refine Z.s ?_;clear Z;intro a Z);refine og fun K hK =>?_
   have e22:=Z.g 22;have c2:=hI.c2;unfold Oper.wp;go_simp;clear e22;refine Z.K hK ?_;clear Z hK;intro a Z;refine Z.s ?_;clear Z;intro a Z;refine og fun K hK =>?_
   have e24:=Z.g 24;have hw:IntKind.i64.wrap ((t.roads.strips.length:Int)-1)=(t.roads.strips.length:Int)-1:=IntWalk.i64_in _ (by have:=hI.tar.ls;unfold maxLen at this;omega);unfold Oper.wp;go_simp;clear e24;refine Z.K hK ?_;clear Z hK;intro a Z;refine og fun K hK =>?_
   have e20:=Z.g 20;have e25:=Z.g 25;unfold Oper.wp;go_simp;refine (Bl _ _ _ _).mono ?_;rintro e x ⟨rfl,rfl⟩;clear e20 e25;refine Z.K hK ?_;clear Z hK;intro a Z;rcases Bool.eq_false_or_eq_true (btw t.Ai[k].strip 0 ((t.roads.strips.length:Int)-1)) with h2 | h2
   ·rw [h2] at Z;refine Z.s ?_;clear Z;intro a Z;refine od ?_;refine wp_cond_false (Z.ev 27 rfl) ?_;refine wp_skip ?_;refine wp_seq ?_;refine wsr ?_;refine Z.s ?_;clear Z;intro a Z;refine og fun K hK =>?_
    have e28:=Z.g 28;have g1:=G.cell (o:=1) rfl;unfold Oper.wp;go_simp;clear e28;refine Z.K hK ?_;clear Z hK;intro a Z;refine og fun K hK =>?_
    have e29:=Z.g 29;unfold Oper.wp;go_simp;refine (Bl _ _ _ _).mono ?_;rintro e x ⟨rfl,rfl⟩;clear e29;refine Z.K hK ?_;clear Z hK;intro a Z;rcases Bool.eq_false_or_eq_true (btw t.Ai[k].rate 0 500) with h3 | h3
    ·rw [h3] at Z;(iterate 2 refine Z.s ?_;clear Z;intro a Z);refine Z.t ?_;clear Z;intro a Z;refine oW (Z.g 32) fun K hK =>?_
     have e33:=Z.g 33;have g6:=G.cell (o:=2) rfl;unfold Oper.wp;go_simp;clear e33;refine Z.K hK ?_;clear Z hK;intro a Z;refine oW (Z.g 32) fun K hK =>?_
     have e34:=Z.g 34;unfold Oper.wp;go_simp;refine (Bl _ _ _ _).mono ?_;rintro e x ⟨rfl,rfl⟩;clear e34;refine Z.K hK ?_;clear Z hK;intro a Z;rcases Bool.eq_false_or_eq_true (btw t.Ai[k].farmer 1 4) with h4 | h4
     ·rw [h4] at Z;refine Z.t ?_;clear Z;intro a Z;refine Z.s ?_;clear Z;intro a Z;refine od ?_;refine wp_cond_false (Z.ev 37 rfl) ?_;refine wp_skip ?_;refine wsr ?_;refine Z.s ?_;clear Z;intro a Z;refine og fun K hK =>?_
      have e38:=Z.g 38;have c5:=hI.c5;unfold Oper.wp;go_simp;clear e38;refine Z.K hK ?_;clear Z hK;intro a Z;refine Z.s ?_;clear Z;intro a Z;refine og fun K hK =>?_
      have e39:=Z.g 39;have e40:=Z.g 40;have hqk:(k:Int)≤(s.tc:Int):=by have:=hI.tar.qt;omega
      have hk0:(0:Int)≤(k:Int):=by omega
      unfold Oper.wp;go_simp;clear e39 e40;refine Z.K hK ?_;clear Z hK;intro a Z;(iterate 2 refine Z.s ?_;clear Z;intro a Z);refine od ?_;refine wp_block ?_;refine wp_loop_ghost (fun n2 p x=>∃ j:Nat,j+n2=k∧(t.Ai.take j).any (fun y=>y.strip == t.Ai[k].strip && y.farmer == t.Ai[k].farmer)=false∧Sl p 61 [(1, .pointer (some ⟨bt,0,none⟩)),(4, .pointer (some ⟨g,0,none⟩)),(12, .slice (some ⟨pb,po,none⟩) t.Ai.length s.tc),(13, .int .i64 (t.Ai.length:Int)),(14, .int .i64 (k:Int)),(41, .slice (some ⟨pb,po,none⟩) k s.tc),(42, .int .i64 (k:Int)),(43, .int .i64 (j:Int))]∧TI w x bt t s∧Rw x g #[.int .i64 t.Ai[k].strip, .int .i64 t.Ai[k].rate, .int .i64 t.Ai[k].farmer] 57) k ⟨0,by omega,by simp,Z.sb,hI,G⟩ ?_;clear Z hI G;rintro n2 a x ⟨j,hjn,hany,Z,hI,G⟩;have HANY:=Lib.hid hany;clear hany;refine wsr ?_
      by_cases hj:j < k
      ·have q2:(j:Int) < (k:Int):=by omega
       have hjl:j < t.Ai.length:=by omega
       obtain ⟨pb2,po2,hpa2,p0,p1,p2⟩:=hI.tar.Ai.at hjl;obtain ⟨rfl,rfl⟩:pb=pb2∧po=po2:=by rw [hpa] at hpa2;simpa using hpa2
       simp only [P8] at p0 p1 p2;clear hpa2;refine Z.s ?_;clear Z;intro a Z;refine od ?_;refine wp_seq ?_;refine wp_cond_true (Z.ev 44 rfl) ?_;refine wp_skip ?_;refine wp_seq ?_;refine wp_block ?_;refine wsr ?_;(iterate 2 refine Z.s ?_;clear Z;intro a Z);refine og fun K hK =>?_
       obtain ⟨g2,hg⟩:∃ b,b=x.heap.size:=⟨_,rfl⟩;unfold Oper.wp;go_simp;refine Z.K hK ?_;clear Z hK;intro a Z;refine og fun K hK =>?_
       have e6:=Z.g 6;have e46:=Z.g 46;unfold Oper.wp;go_simp;clear e6 e46;refine hK _ _ ?_;clear hK;refine Ae (G:=fun W=>wpOps _ _ _ _ _ W) ?_;intro x hz Y hb;replace hI:=hI.keep hb;replace G:=G.below hb;rw [← hg] at Z Y;clear hz hb p0 p1 p2 hg;refine od ?_;refine wsr ?_;refine Z.s ?_;clear Z;intro a Z;refine og fun K hK =>?_
       have e47:=Z.g 47;have y0:=Y.cell (o:=0) rfl;unfold Oper.wp;go_simp;clear e47;refine Z.K hK ?_;clear Z hK;intro a Z;refine Z.s ?_;clear Z;intro a Z;refine og fun K hK =>?_
       have e49:=Z.g 49;have g0:=G.cell (o:=0) rfl;unfold Oper.wp;go_simp;clear e49;refine Z.K hK ?_;clear Z hK;intro a Z
       by_cases h5:t.Ai[j].strip=t.Ai[k].strip
       ·have hbe:=EX h5;(iterate 2 refine Z.s ?_;clear Z;intro a Z);refine Z.t ?_;clear Z;intro a Z;refine oW (Z.g 52) fun K hK =>?_
        have e53:=Z.g 53;have y2:=Y.cell (o:=2) rfl;unfold Oper.wp;go_simp;clear e53;refine Z.K hK ?_;clear Z hK;intro a Z;refine Z.t ?_;clear Z;intro a Z;refine oW (Z.g 52) fun K hK =>?_
        have e55:=Z.g 55;have g2:=G.cell (o:=2) rfl;unfold Oper.wp;go_simp;clear e55;refine Z.K hK ?_;clear Z hK;intro a Z
        by_cases h6:t.Ai[j].farmer=t.Ai[k].farmer
        ·have hbe2:=EX h6;have hR:=Lib.hid (HR.out _ (te4 h2 h3 h4 (Aal hlt hj h5 h6)) (by decide));refine Z.t ?_;clear Z;intro a Z;refine Z.s ?_;clear Z;intro a Z;refine od ?_;refine wp_cond_true (Z.ev 58 rfl) ?_;refine wsr ?_;refine Z.s ?_;clear Z;intro a Z;refine od ?_;refine wp_ret ?_
         try simp only [Exit.then,Exit.inBlock]
         refine bodyPost_ret (v := .int .i64 (Fj t)) ?_ Z.defers ⟨rfl,hI.below⟩;rw [hR.out];simp [results,Try.results88,Z.get 2 _ rfl]
        ·have hbe2:=Ey h6;refine Z.t ?_;clear Z;intro a Z;refine Z.s ?_;clear Z;intro a Z;refine od ?_;refine wp_cond_false (Z.ev 58 rfl) ?_;refine wp_skip ?_;refine wr ?_;refine og fun K hK =>?_
         have e43:=Z.g 43;have hw:=Bf j (by omega);unfold Oper.wp;go_simp;clear e43;refine Z.K hK ?_;clear Z hK;intro a Z;refine Z.s ?_;clear Z;intro a Z;refine od ?_;show Exists _;exact ⟨n2-1,by omega,j+1,by omega,Un hjl HANY.out (fun h=>h6 h.2),Z.sb,hI,G⟩
       ·have hbe:=Ey h5;(iterate 2 refine Z.s ?_;clear Z;intro a Z);refine Z.z ?_;clear Z;intro a Z;refine Z.z ?_;clear Z;intro a Z;refine Z.z ?_;clear Z;intro a Z;refine Z.z ?_;clear Z;intro a Z;refine Z.z ?_;clear Z;intro a Z;refine Z.s ?_;clear Z;intro a Z;refine od ?_;refine wp_cond_false (Z.ev 58 rfl) ?_;refine wp_skip ?_;refine wr ?_;refine og fun K hK =>?_
        have e43:=Z.g 43;have hw:=Bf j (by omega);unfold Oper.wp;go_simp;clear e43;refine Z.K hK ?_;clear Z hK;intro a Z;refine Z.s ?_;clear Z;intro a Z;refine od ?_;show Exists _;exact ⟨n2-1,by omega,j+1,by omega,Un hjl HANY.out (fun h=>h5 h.1),Z.sb,hI,G⟩
      ·obtain rfl:k=j:=by omega
       refine Z.s ?_;clear Z;intro a Z;refine od ?_;refine wp_seq ?_;refine wp_cond_false (Z.ev 44 rfl) ?_;refine wp_exit ?_;have hany:=HANY.out;refine wr ?_;refine og fun K hK =>?_
       have e14:=Z.g 14;have hw:=Bf k (by omega);unfold Oper.wp;go_simp;clear e14;refine Z.K hK ?_;clear Z hK;intro a Z;refine Z.s ?_;clear Z;intro a Z;refine od ?_;show Exists _;exact ⟨n-1,by omega,k+1,by omega,(O0 hlt (te0 h2 h3 h4 hany)).trans HE.out,by rw [hpa];exact Z.sb,hI⟩
     ·rw [h4] at Z;have hR:=Lib.hid (HR.out _ (te1 h2 (.inr h4)) (by decide));refine Z.t ?_;clear Z;intro a Z;refine Z.s ?_;clear Z;intro a Z;refine od ?_;refine wp_cond_true (Z.ev 37 rfl) ?_;refine wsr ?_;refine Z.s ?_;clear Z;intro a Z;refine od ?_;refine wp_ret ?_
      try simp only [Exit.then,Exit.inBlock]
      refine bodyPost_ret (v := .int .i64 (Fj t)) ?_ Z.defers ⟨rfl,hI.below⟩;rw [hR.out];simp [results,Try.results88,Z.get 2 _ rfl]
    ·rw [h3] at Z;have hR:=Lib.hid (HR.out _ (te1 h2 (.inl h3)) (by decide));(iterate 2 refine Z.s ?_;clear Z;intro a Z);refine Z.z ?_;clear Z;intro a Z;refine Z.z ?_;clear Z;intro a Z;refine Z.z ?_;clear Z;intro a Z;refine Z.z ?_;clear Z;intro a Z;refine Z.s ?_;clear Z;intro a Z;refine od ?_;refine wp_cond_true (Z.ev 37 rfl) ?_;refine wsr ?_;refine Z.s ?_;clear Z;intro a Z;refine od ?_;refine wp_ret ?_
     try simp only [Exit.then,Exit.inBlock]
     refine bodyPost_ret (v := .int .i64 (Fj t)) ?_ Z.defers ⟨rfl,hI.below⟩;rw [hR.out];simp [results,Try.results88,Z.get 2 _ rfl]
   ·rw [h2] at Z;have hR:=Lib.hid (HR.out _ (te3 h2) (by decide));refine Z.s ?_;clear Z;intro a Z;refine od ?_;refine wp_cond_true (Z.ev 27 rfl) ?_;refine wsr ?_;refine Z.s ?_;clear Z;intro a Z;refine od ?_;refine wp_ret ?_
    try simp only [Exit.then,Exit.inBlock]
    refine bodyPost_ret (v := .int .i64 (Fj t)) ?_ Z.defers ⟨rfl,hI.below⟩;rw [hR.out];simp [results,Try.results88,Z.get 2 _ rfl]
  ·obtain rfl:k=t.Ai.length:=by omega
   refine Z.s ?_;clear Z;intro a Z;refine od ?_;refine wp_seq ?_;refine wp_cond_false (Z.ev 15 rfl) ?_;refine wp_exit ?_;have hR:=Lib.hid (show Fj t=0 from by rw [← HE.out,List.drop_of_length_le (Nat.le_refl _)];rfl);refine wsr ?_;refine Z.s ?_;clear Z;intro a Z;refine od ?_;refine wp_ret ?_
   try simp only [Exit.then,Exit.inBlock]
   refine bodyPost_ret (v := .int .i64 (Fj t)) ?_ Z.defers ⟨rfl,hI.below⟩;rw [hR.out];simp [results,Try.results88,Z.get 2 _ rfl]
theorem RN:Try.f39.body=some (Code.seq (Aa Try.f39 0) (Code.seq (Code.seq (Aa Try.f39 1) (Code.seq (Aa Try.f39 2) (Code.cond (Operand.tmp 12) (Code.seq (Aa Try.f39 3) Code.ret) Code.skip))) (Code.seq (Code.seq (Aa Try.f39 4) (Code.cond (Operand.tmp 17) (Code.seq (Aa Try.f39 5) Code.ret) Code.skip)) (Code.seq (Code.seq (Aa Try.f39 6) (Code.seq (Aa Try.f39 7) (Code.cond (Operand.tmp 23) (Code.seq (Aa Try.f39 8) Code.ret) Code.skip))) (Code.seq (Aa Try.f39 9) (Code.seq (Code.seq (Aa Try.f39 10) (Code.block 0 (Code.loop (Code.seq (Aa Try.f39 11) (Code.seq (Code.cond (Operand.tmp 29) Code.skip (Code.exit 0)) (Code.seq (Code.block 1 (Code.seq (Aa Try.f39 12) (Code.seq (Code.seq (Aa Try.f39 13) (Code.cond (Operand.tmp 41) (Code.seq (Aa Try.f39 14) Code.ret) Code.skip)) (Aa Try.f39 15)))) (Aa Try.f39 16))))))) (Code.seq (Code.seq (Aa Try.f39 17) (Code.cond (Operand.tmp 49) (Code.seq (Aa Try.f39 18) Code.ret) Code.skip)) (Code.seq (Aa Try.f39 19) Code.ret)))))))):=by kernel_rfl
theorem J8 {t:Ac} {s:DF} {w:World} (ht:BM w t s):Calls Try.prog 39 #[.agg (Em t s)] w (fun e w'=>e = .returned (.int .i64 (Ak t))∧Below w.heap.size w w'):=by
 refine Q4 Try.func39 RN Try.ntmps39 ?_;intro a Z;refine wsr ?_;refine Z.s ?_;clear Z;intro a Z;refine Ae (G:=fun W=>wpOps _ _ _ _ _ W) ?_;intro x hz X hb;have hI:=TI.made (Below.refl _ _) ht X hb;obtain ⟨bt,hbt⟩:∃ b,b=w.heap.size:=⟨_,rfl⟩;rw [← hbt] at Z hI;clear hz X hb hbt;refine Z.s ?_;clear Z;intro a Z;refine od ?_;refine wp_seq ?_;refine wsr ?_;refine Z.s ?_;clear Z;intro a Z;refine og fun K hK =>?_
 have e8:=Z.g 8;have c0:=hI.c0;have c1:=hI.c1;have c2:=hI.c2;unfold Oper.wp;go_simp;clear e8;refine Z.K hK ?_;clear Z hK;intro a Z;refine og fun K hK =>?_
 have e9:=Z.g 9;unfold Oper.wp;go_simp;refine (UT hI.tar).mono ?_;rintro e x ⟨rfl,hb⟩;replace hI:=hI.keep hb;clear hb;clear e9;refine Z.K hK ?_;clear Z hK;intro a Z;refine Z.s ?_;clear Z;intro a Z;refine od ?_;refine wsr ?_;refine Z.s ?_;clear Z;intro a Z
 by_cases h1:BN t.roads=0
 ·have hne:=Cf h1;refine Z.s ?_;clear Z;intro a Z;refine od ?_;refine wp_cond_false (Z.ev 12 rfl) ?_;refine wp_skip ?_;refine wp_seq ?_;refine wsr ?_;refine Z.s ?_;clear Z;intro a Z;refine og fun K hK =>?_
  have e14:=Z.g 14;have c3:=hI.c3;unfold Oper.wp;go_simp;clear e14;refine Z.K hK ?_;clear Z hK;intro a Z;refine og fun K hK =>?_
  have e15:=Z.g 15;unfold Oper.wp;go_simp;refine (Bl _ _ _ _).mono ?_;rintro e x ⟨rfl,rfl⟩;clear e15;refine Z.K hK ?_;clear Z hK;intro a Z;rcases Bool.eq_false_or_eq_true (btw t.pace 1 9) with h2 | h2
  ·rw [h2] at Z;refine Z.s ?_;clear Z;intro a Z;refine od ?_;refine wp_cond_false (Z.ev 17 rfl) ?_;refine wp_skip ?_;refine wp_seq ?_;refine wsr ?_;refine Z.s ?_;clear Z;intro a Z;refine og fun K hK =>?_
   have e18:=Z.g 18;have c4:=hI.c4;unfold Oper.wp;go_simp;clear e18;refine Z.K hK ?_;clear Z hK;intro a Z;refine Z.s ?_;clear Z;intro a Z;refine og fun K hK =>?_
   have e20:=Z.g 20;unfold Oper.wp;go_simp;refine (ZV _ _ _ _).mono ?_;rintro e x ⟨rfl,rfl⟩;clear e20;refine Z.K hK ?_;clear Z hK;intro a Z;refine Z.s ?_;clear Z;intro a Z;refine od ?_;refine wsr ?_;refine Z.s ?_;clear Z;intro a Z
   by_cases h3:Ud t.Ad.length 1 4=0
   ·have hne:=Cf h3;obtain ⟨hl1,hl4⟩:=Uc h3;have HC:=Lib.hid (Y3 h1 h2 h3);clear h1 h2 h3;refine Z.s ?_;clear Z;intro a Z;refine od ?_;refine wp_cond_false (Z.ev 23 rfl) ?_;refine wp_skip ?_;refine wsr ?_;refine Z.s ?_;clear Z;intro a Z;refine od ?_;refine wp_seq ?_;refine wsr ?_;refine Z.s ?_;clear Z;intro a Z;refine og fun K hK =>?_
    have e25:=Z.g 25;have c4:=hI.c4;unfold Oper.wp;go_simp;clear e25;refine Z.K hK ?_;clear Z hK;intro a Z;(iterate 2 refine Z.s ?_;clear Z;intro a Z);refine od ?_;refine wp_block ?_;refine wp_loop_ghost (fun n p x=>∃ k:Nat,k+n=t.Ad.length∧(t.Ad.take k).all Bd=true∧Sl p 52 [(1, .pointer (some ⟨bt,0,none⟩)),(5, .int .i64 (Am (t.Ad.take k))),(26, .slice s.pa t.Ad.length s.pc),(27, .int .i64 (t.Ad.length:Int)),(28, .int .i64 (k:Int))]∧TI w x bt t s) t.Ad.length ⟨0,by omega,rfl,Z.sb,hI⟩ ?_;clear Z hI;rintro n a x ⟨k,hkn,hfine,Z,hI⟩;have hadd:=fun (hlt:k < t.Ad.length) h4=>Q9 (hl:=hl4) hlt hfine h4
    refine wsr ?_
    by_cases hlt:k < t.Ad.length
    ·have q1:(k:Int) < (t.Ad.length:Int):=by omega
     obtain ⟨pb,po,hpa,p0,p1,p2⟩:=hI.tar.Ad.at hlt;rw [hpa] at Z;simp only [Zp] at p0 p1 p2;refine Z.s ?_;clear Z;intro a Z;refine od ?_;refine wp_seq ?_;refine wp_cond_true (Z.ev 29 rfl) ?_;refine wp_skip ?_;refine wp_seq ?_;refine wp_block ?_;refine wsr ?_;(iterate 3 refine Z.s ?_;clear Z;intro a Z);refine og fun K hK =>?_
     have e7:=Z.g 7;have e31:=Z.g 31;unfold Oper.wp;go_simp;clear e7 e31;refine hK _ _ ?_;clear hK;refine Ae (G:=fun W=>wpOps _ _ _ _ _ W) ?_;intro x hz G hb;replace hI:=hI.keep hb;clear hz hb p0 p1 p2;refine od ?_;refine wp_seq ?_;refine wsr ?_;refine Z.s ?_;clear Z;intro a Z;refine og fun K hK =>?_
     have e32:=Z.g 32;have g1:=G.cell (o:=0) rfl;unfold Oper.wp;go_simp;clear e32;refine Z.K hK ?_;clear Z hK;intro a Z;refine og fun K hK =>?_
     have e33:=Z.g 33;unfold Oper.wp;go_simp;refine (Bl _ _ _ _).mono ?_;rintro e x ⟨rfl,rfl⟩;clear e33;refine Z.K hK ?_;clear Z hK;intro a Z;rcases Bool.eq_false_or_eq_true (btw (t.Ad[k]).heads 0 40) with h4 | h4
     ·rw [h4] at Z;(iterate 2 refine Z.s ?_;clear Z;intro a Z);refine Z.t ?_;clear Z;intro a Z;refine oW (Z.g 36) fun K hK =>?_
      have e37:=Z.g 37;have g6:=G.cell (o:=1) rfl;unfold Oper.wp;go_simp;clear e37;refine Z.K hK ?_;clear Z hK;intro a Z;refine oW (Z.g 36) fun K hK =>?_
      have e38:=Z.g 38;unfold Oper.wp;go_simp;refine (Bl _ _ _ _).mono ?_;rintro e x ⟨rfl,rfl⟩;clear e38;refine Z.K hK ?_;clear Z hK;intro a Z;rcases Bool.eq_false_or_eq_true (btw (t.Ad[k]).free 0 40) with h5 | h5
      ·rw [h5] at Z;refine Z.t ?_;clear Z;intro a Z;refine Z.s ?_;clear Z;intro a Z;refine od ?_;refine wp_cond_false (Z.ev 41 rfl) ?_;refine wp_skip ?_;refine wr ?_;(iterate 2 refine Z.s ?_;clear Z;intro a Z);refine og fun K hK =>?_
       have e43:=Z.g 43;have g0:=G.cell (o:=0) rfl;unfold Oper.wp;go_simp;clear e43;refine Z.K hK ?_;clear Z hK;intro a Z;refine og fun K hK =>?_
       have e42:=Z.g 42;have e44:=Z.g 44;have hw:=hadd hlt h4;unfold Oper.wp;go_simp;clear e42 e44;refine Z.K hK ?_;clear Z hK;intro a Z;refine Z.s ?_;clear Z;intro a Z;refine od ?_;refine wr ?_;refine og fun K hK =>?_
       have e28:=Z.g 28;have hw:=Bf k (by omega);unfold Oper.wp;go_simp;clear e28;refine Z.K hK ?_;clear Z hK;intro a Z;refine Z.s ?_;clear Z;intro a Z;refine od ?_;have hpa2:=hpa;exact ⟨n-1,by omega,k+1,by omega,Xn hlt hfine h4 h5,by rw [hpa];exact Z.sb,hI⟩
      ·rw [h5] at Z;have hR:=Lib.hid (HC.out.1 k hlt (.inr h5));refine Z.t ?_;clear Z;intro a Z;refine Z.s ?_;clear Z;intro a Z;refine od ?_;refine wp_cond_true (Z.ev 41 rfl) ?_;refine wsr ?_;refine Z.s ?_;clear Z;intro a Z;refine od ?_;refine wp_ret ?_
       try simp only [Exit.then,Exit.inBlock]
       refine bodyPost_ret (v := .int .i64 (Ak t)) ?_ Z.defers ⟨rfl,hI.below⟩;rw [hR.out];simp [results,Try.results39,Z.get 2 _ rfl]
     ·rw [h4] at Z;have hR:=Lib.hid (HC.out.1 k hlt (.inl h4));(iterate 2 refine Z.s ?_;clear Z;intro a Z);refine Z.z ?_;clear Z;intro a Z;refine Z.z ?_;clear Z;intro a Z;refine Z.z ?_;clear Z;intro a Z;refine Z.z ?_;clear Z;intro a Z;refine Z.s ?_;clear Z;intro a Z;refine od ?_;refine wp_cond_true (Z.ev 41 rfl) ?_;refine wsr ?_;refine Z.s ?_;clear Z;intro a Z;refine od ?_;refine wp_ret ?_
      try simp only [Exit.then,Exit.inBlock]
      refine bodyPost_ret (v := .int .i64 (Ak t)) ?_ Z.defers ⟨rfl,hI.below⟩;rw [hR.out];simp [results,Try.results39,Z.get 2 _ rfl]
    ·obtain rfl:k=t.Ad.length:=by omega
     rw [List.take_length] at Z hfine;refine Z.s ?_;clear Z;intro a Z;refine od ?_;refine wp_seq ?_;refine wp_cond_false (Z.ev 29 rfl) ?_;refine wp_exit ?_;refine wp_seq ?_;refine wsr ?_;refine Z.s ?_;clear Z;intro a Z;refine og fun K hK =>?_
     have e47:=Z.g 47;unfold Oper.wp;go_simp;refine (Bl _ _ _ _).mono ?_;rintro e x ⟨rfl,rfl⟩;clear e47;refine Z.K hK ?_;clear Z hK;intro a Z;rcases Bool.eq_false_or_eq_true (btw (Am t.Ad) 1 40) with h6 | h6
     ·rw [h6] at Z;have hR:=Lib.hid (HC.out.2.2 hfine h6);refine Z.s ?_;clear Z;intro a Z;refine od ?_;refine wp_cond_false (Z.ev 49 rfl) ?_;refine wp_skip ?_;refine wsr ?_;refine og fun K hK =>?_
      have e1:=Z.g 1;have c0:=hI.c0;have c1:=hI.c1;have c2:=hI.c2;have c3:=hI.c3;have c4:=hI.c4;have c5:=hI.c5;unfold Oper.wp;go_simp;clear e1;refine Z.K hK ?_;clear Z hK;intro a Z;refine og fun K hK =>?_
      have e50:=Z.g 50;unfold Oper.wp;go_simp;refine (VX hI.tar).mono ?_;rintro e x ⟨rfl,hb⟩;replace hI:=hI.keep hb;clear hb;clear e50;refine Z.K hK ?_;clear Z hK;intro a Z;refine Z.s ?_;clear Z;intro a Z;refine od ?_;refine wp_ret ?_
      try simp only [Exit.then,Exit.inBlock]
      refine bodyPost_ret (v := .int .i64 (Ak t)) ?_ Z.defers ⟨rfl,hI.below⟩;rw [hR.out];simp [results,Try.results39,Z.get 2 _ rfl]
     ·rw [h6] at Z;have hR:=Lib.hid (HC.out.2.1 hfine h6);refine Z.s ?_;clear Z;intro a Z;refine od ?_;refine wp_cond_true (Z.ev 49 rfl) ?_;refine wsr ?_;refine Z.s ?_;clear Z;intro a Z;refine od ?_;refine wp_ret ?_
      try simp only [Exit.then,Exit.inBlock]
      refine bodyPost_ret (v := .int .i64 (Ak t)) ?_ Z.defers ⟨rfl,hI.below⟩;rw [hR.out];simp [results,Try.results39,Z.get 2 _ rfl]
   ·have hne:=C9 h3;have hR:=Lib.hid (show Ak t=Ud t.Ad.length 1 4 from by unfold Ak;rw [if_neg (by simp [h1]),if_neg (by simp [h2]),if_pos h3]);refine Z.s ?_;clear Z;intro a Z;refine od ?_;refine wp_cond_true (Z.ev 23 rfl) ?_;refine wsr ?_;(iterate 2 refine Z.s ?_;clear Z;intro a Z);refine od ?_;refine wp_ret ?_
    try simp only [Exit.then,Exit.inBlock]
    refine bodyPost_ret (v := .int .i64 (Ak t)) ?_ Z.defers ⟨rfl,hI.below⟩;rw [hR.out];simp [results,Try.results39,Z.get 2 _ rfl]
  ·rw [h2] at Z;have hR:=Lib.hid (show Ak t=1 from by unfold Ak;rw [if_neg (by simp [h1]),if_pos (by rw [h2];rfl)]);refine Z.s ?_;clear Z;intro a Z;refine od ?_;refine wp_cond_true (Z.ev 17 rfl) ?_;refine wsr ?_;refine Z.s ?_;clear Z;intro a Z;refine od ?_;refine wp_ret ?_
   try simp only [Exit.then,Exit.inBlock]
   refine bodyPost_ret (v := .int .i64 (Ak t)) ?_ Z.defers ⟨rfl,hI.below⟩;rw [hR.out];simp [results,Try.results39,Z.get 2 _ rfl]
 ·have hne:=C9 h1;have hR:=Lib.hid (show Ak t=BN t.roads from by unfold Ak;rw [if_pos h1]);refine Z.s ?_;clear Z;intro a Z;refine od ?_;refine wp_cond_true (Z.ev 12 rfl) ?_;refine wsr ?_;(iterate 2 refine Z.s ?_;clear Z;intro a Z);refine od ?_;refine wp_ret ?_
  try simp only [Exit.then,Exit.inBlock]
  refine bodyPost_ret (v := .int .i64 (Ak t)) ?_ Z.defers ⟨rfl,hI.below⟩;rw [hR.out];simp [results,Try.results39,Z.get 2 _ rfl]
end
section
open Go Go.Conc
open Go.RowKit
open Go.ChangeMaps (setBlock)
def pvG (q:List ((Int×Int)×Int)):List (Value×Value):=q.map fun p=>(gk p.1, .int .i64 p.2)
theorem Ku (q:List ((Int×Int)×Int)):(pvG q).length=q.length:=by simp [pvG]
theorem PI (q:List ((Int×Int)×Int)):EZ (MF (pvG q)).toList q:=by
 unfold EZ;apply List.ext_getElem?;intro i;rw [List.getElem?_map,Array.getElem?_toList,DY];simp only [pvG,List.getElem?_map]
 cases q[i]? <;> rfl
def FP:List ((Int×Int)×Int)→Int×Int→Nat→Option (Nat×Int)
 | [],_,_=>none
 | p :: l,k,i=>if p.1=k then some (i,p.2) else FP l k (i+1)
def Rn:List ((Int×Int)×Int)→Int×Int→Int→List ((Int×Int)×Int)
 | [],k,v=>[(k,v)]
 | p :: l,k,v=>if p.1=k then (k,v) :: l else p :: Rn l k v
theorem Jv:∀ {l:List ((Int×Int)×Int)} {k:Int×Int} {i:Nat},FP l k i=none→atK l k=none∧∀ v,Rn l k v=l++[(k,v)]
 | [],k,i,_=>⟨rfl,fun v=>rfl⟩
 | p :: l,k,i,h=>by
  rw [FP] at h
  by_cases e:p.1=k
  ·rw [if_pos e] at h;simp at h
  ·rw [if_neg e] at h;obtain ⟨h1,h2⟩:=Jv h;have e2:(p.1 == k)=false:=by simpa using e
   refine ⟨?_,fun v =>?_⟩
   ·unfold atK at h1 ⊢;rw [List.find?_cons,e2];exact h1
   ·rw [Rn,if_neg e,h2];rfl
theorem Ju:∀ {l:List ((Int×Int)×Int)} {k:Int×Int} {i j:Nat} {u:Int},FP l k i=some (j,u)→i≤j∧j-i < l.length∧l[j-i]? = some (k,u)∧atK l k=some u∧∀ v,Rn l k v=l.set (j-i) (k,v)
 | [],k,i,j,u,h=>by simp [FP] at h
 | p :: l,k,i,j,u,h=>by
  rw [FP] at h
  by_cases e:p.1=k
  ·rw [if_pos e] at h;simp only [Option.some.injEq,Prod.mk.injEq] at h;obtain ⟨rfl,rfl⟩:=h;refine ⟨Nat.le_refl _,by simp,by simp [← e],?_,fun v =>?_⟩
   ·unfold atK;rw [List.find?_cons,show (p.1 == k)=true by simpa using e];rfl
   ·rw [Rn,if_pos e];simp
  ·rw [if_neg e] at h;obtain ⟨h1,h2,h3,h4,h5⟩:=Ju h;have hj:j-i=(j-(i+1))+1:=by omega
   refine ⟨by omega,by simp only [List.length_cons];omega,by rw [hj];simpa using h3,?_,fun v =>?_⟩
   ·unfold atK at h4 ⊢;rw [List.find?_cons,show (p.1 == k)=false by simpa using e];exact h4
   ·rw [Rn,if_neg e,h5,hj];rfl
theorem X0 (l:List ((Int×Int)×Int)) (k k':Int×Int) (v:Int):atK (Rn l k v) k'=if k'=k then some v else atK l k':=by
 induction l with
 | nil =>
  by_cases e:k'=k
  ·subst e;simp [Rn,atK]
  ·have:(k == k')=false:=by simpa using fun h=>e h.symm
   simp [Rn,atK,this,e]
 | cons p l ih =>
  rw [Rn]
  by_cases c:p.1=k
  ·rw [if_pos c]
   by_cases e:k'=k
   ·subst e;simp [atK]
   ·have h1:(k == k')=false:=by simpa using fun h=>e h.symm
    have h2:(p.1 == k')=false:=by rw [c];exact h1
    rw [if_neg e];simp [atK,List.find?_cons,h1,h2]
  ·rw [if_neg c]
   by_cases e:p.1=k'
   ·have h1:(p.1 == k')=true:=by simpa using e
    have h2:k'≠k:=fun h=>c (e.trans h)
    rw [if_neg h2];simp [atK,List.find?_cons,h1]
   ·have h1:(p.1 == k')=false:=by simpa using e
    unfold atK at ih ⊢;rw [List.find?_cons,List.find?_cons,h1];exact ih
theorem MP (w:World) (k:Int×Int):∀ (ents:List MapEntry) (l:List ((Int×Int)×Int)) (i:Nat),EZ ents l →
  (Instr.findAsking 140 (gk k) ents i).run Try.prog w = .ok ((FP l k i).map fun p=>(p.1, .int .i64 p.2)) w
 | [],l,i,h=>by
  have:l=[]:=by cases l with | nil=>rfl | cons x l=>simp [EZ] at h
  subst this
  rfl
 | e :: ents,l,i,h=>by
  cases l with
  | nil=>simp [EZ] at h
  | cons p l =>
   obtain ⟨⟨p1,p2⟩,pv⟩:=p;obtain ⟨k1,k2⟩:=k;simp only [EZ,List.map_cons,List.cons.injEq,Prod.mk.injEq] at h;obtain ⟨⟨hk,hv⟩,hr⟩:=h;have ih:=MP w (k1,k2) ents l (i+1) hr;have heq:=(Xq w #[] k1 k2 p1 p2).1;rw [Instr.findAsking,hk];unfold gk at *
   by_cases hkk:k1=p1∧k2=p2
   ·obtain ⟨rfl,rfl⟩:=hkk;simp [go_sem,heq,FP,hv]
   ·have hne:(k1 == p1 && k2 == p2)=false:=by
     simp only [Bool.and_eq_false_iff,beq_eq_false_iff_ne]
     by_cases h1:k1=p1
     ·exact .inr fun h2=>hkk ⟨h1,h2⟩
     ·exact .inl h1
    have hne2:¬ ((p1,p2)=(k1,k2)):=by
     simp only [Prod.mk.injEq];exact fun h=>hkk ⟨h.1.symm,h.2.symm⟩
    rw [hne] at heq;rw [FP,if_neg hne2];simp [go_sem,heq,ih]
theorem SQ (w:World) (k:Int×Int) (ents:List MapEntry) (l:List ((Int×Int)×Int)) (h:EZ ents l) :
  (Instr.findKey 140 (gk k) ents).run Try.prog w = .ok ((FP l k 0).map fun p=>(p.1, .int .i64 p.2)) w:=by
 have hu:=Try.underlying140;have h1:=MP w k ents l 0 h
 cases ents with
 | nil =>
  have:l=[]:=by cases l with | nil=>rfl | cons x l=>simp [EZ] at h
  subst this;simp [Instr.findKey,run_underlying hu,go_sem,Instr.findNow,FP]
 | cons e ents=>simp [Instr.findKey,run_underlying hu,go_sem,Instr.findNow,Instr.sameNow,h1]
theorem UL (w:World) (k:Int×Int):(Instr.keyThatStays (gk k) (gk k)).run Try.prog w = .ok (gk k) w:=by
 have:Instr.sameBits 10000 (gk k) (gk k)=true:=by simp [gk,Instr.sameBits]
 simp [Instr.keyThatStays,this,go_sem]
theorem Vk (ps:List (Value×Value)) (i:Nat) (h:i < ps.length):(MF ps).findIdx? (fun e=>(e.born:Int) == (i:Int))=some i:=by
 rw [Array.findIdx?_eq_some_iff_getElem];refine ⟨by rw [MC];exact h,?_,fun j hj =>?_⟩
 ·have:=DY ps i;rw [List.getElem?_eq_getElem h,Array.getElem?_eq_getElem (by rw [MC];exact h)] at this;simp only [Option.map_some,Option.some.injEq] at this;rw [this];simp
 ·have:=DY ps j;rw [List.getElem?_eq_getElem (by omega),Array.getElem?_eq_getElem (by rw [MC];omega)] at this;simp only [Option.map_some,Option.some.injEq] at this;rw [this];simp;omega
def PK (q:List ((Int×Int)×Int)) (k:Int×Int):List ((Int×Int)×Int):=match FP q k 0 with | none=>q++[(k,0)] | some _=>q
def VK (q:List ((Int×Int)×Int)) (k:Int×Int):Nat:=match FP q k 0 with | none=>q.length | some r=>r.1
theorem Tc (q:List ((Int×Int)×Int)) (k:Int×Int):VK q k < (PK q k).length∧((PK q k)[VK q k]?).map (·.1)=some k∧(∀ v,(PK q k).set (VK q k) (k,v)=Rn q k v)∧(atK (PK q k) k).getD 0=(atK q k).getD 0:=by
 unfold PK VK
 cases hx:FP q k 0 with
 | none =>
  obtain ⟨h1,h2⟩:=Jv hx;refine ⟨by simp,by simp,fun v=>by rw [h2];simp,?_⟩
  dsimp only
  rw [← h2 0,X0,if_pos rfl,h1];rfl
 | some r =>
  obtain ⟨j,u⟩:=r;obtain ⟨_,h2,h3,h4,h5⟩:=Ju hx;simp only [Nat.sub_zero] at h2 h3 h5;exact ⟨h2,by dsimp only;rw [h3];rfl,fun v=>(h5 v).symm,rfl⟩
theorem Vo (w:World) (mb:Nat) (q:List ((Int×Int)×Int)) (k:Int×Int) (hm:Gs w mb (pvG q)) :
  (Instr.mapEntry 101 (.map (some mb)) (gk k)).run Try.prog w = .ok (.tuple #[.int .i64 ((atK q k).getD 0), .int .i64 (VK q k:Nat)]) (setBlock w mb (.map (MF (pvG (PK q k))) (pvG (PK q k)).length)):=by
 have hu:=Try.underlying101;have hf:=SQ w k (MF (pvG q)).toList q (PI q);have hc:=(Oy false w #[] k).1;have hz:(zeroValue 3).run Try.prog w = .ok (.int .i64 0) w:=by simp [go_sem]
 unfold Gs at hm;unfold PK VK
 cases hx:FP q k 0 with
 | none =>
  obtain ⟨h1,h2⟩:=Jv hx;rw [hx] at hf
  dsimp only
  have e:pvG (q++[(k,0)])=pvG q++[(gk k, .int .i64 0)]:=by simp [pvG]
  rw [e,← WU];simp [Instr.mapEntry,run_underlying hu,MapKept.run_getObj_map hm,hc,hf,hz,MapKept.run_setObj_map _ hm,Result.andThen,setBlock,h1,goInt,Ku]
 | some r =>
  obtain ⟨j,u⟩:=r;obtain ⟨_,h2,h3,h4,h5⟩:=Ju hx;rw [hx] at hf;simp only [Nat.sub_zero] at h2 h3 h5
  dsimp only
  have e1:(MF (pvG q))[j]? = some ⟨gk k, .int .i64 u,j⟩:=by rw [DY];simp [pvG,h3]
  have e2:(MF (pvG q)).modify j (fun e=>{ e with key:=gk k })=MF (pvG q):=by
   apply Array.ext_getElem?;intro i;rw [Array.getElem?_modify]
   by_cases c:j=i
   ·subst c;rw [if_pos rfl,e1];rfl
   ·rw [if_neg c]
  simp [Instr.mapEntry,run_underlying hu,MapKept.run_getObj_map hm,hc,hf,e1,UL,e2,MapKept.run_setObj_map _ hm,Result.andThen,setBlock,h4,goInt]
theorem SY (w:World) (mb:Nat) (q1:List ((Int×Int)×Int)) (st:Nat) (v:Int) (k:Int×Int) (hst:st < q1.length) (hk:(q1[st]?).map (·.1)=some k) (hm:Gs w mb (pvG q1)) :
  (Instr.entryStore 101 (.map (some mb)) (.int .i64 (st:Nat)) (.int .i64 v)).run Try.prog w = .ok () (setBlock w mb (.map (MF (pvG (q1.set st (k,v)))) (pvG (q1.set st (k,v))).length)):=by
 unfold Gs at hm;have h1:=Vk (pvG q1) st (by rw [Ku];exact hst)
 have h2:(MF (pvG q1)).modify st (fun e=>{ e with val := .int .i64 v })=MF (pvG (q1.set st (k,v))):=by
  apply Array.ext_getElem?;intro i;rw [Array.getElem?_modify,DY,DY];simp only [pvG,List.getElem?_map,List.getElem?_set]
  by_cases c:st=i
  ·subst c;rw [if_pos rfl,if_pos rfl,if_pos hst]
   cases hq:q1[st]? with
   | none=>rw [hq] at hk;simp at hk
   | some p=>rw [hq] at hk;simp at hk;simp [hk]
  ·rw [if_neg c,if_neg c]
 have h3:(pvG (q1.set st (k,v))).length=(pvG q1).length:=by simp [Ku]
 simp [Instr.entryStore,MapKept.run_getObj_map hm,asInt,asIntOf,go_sem,h1,h2,h3,MapKept.run_setObj_map _ hm,Result.andThen,setBlock]
end
end Go.Proofs.Ytgdobbcjkiapkaa
