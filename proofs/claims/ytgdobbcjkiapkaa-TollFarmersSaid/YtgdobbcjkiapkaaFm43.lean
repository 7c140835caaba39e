import Derived.Test.YtgdobbcjkiapkaaFm04
import Derived.Test.YtgdobbcjkiapkaaFm42
namespace Go.Proofs.Ytgdobbcjkiapkaa
set_option maxRecDepth 100000
set_option maxHeartbeats 4000000
set_option linter.unusedSimpArgs false
set_option linter.unusedVariables false
section
open Go.RowKit
theorem VK {fr q r:Int} (hf:0≤fr) (h0:0≤q) (h1:q≤40*24) (r0:0≤r) (r1:r≤500):0≤(if fr < q then q-fr else 0)*r∧(if fr < q then q-fr else 0)*r≤480000:=by
 have a:0≤(if fr < q then q-fr else 0)∧(if fr < q then q-fr else 0)≤960:=by split <;> omega
 have b:=Int.mul_le_mul a.2 r1 r0 (by omega);exact ⟨Int.mul_nonneg a.1 r0,by omega⟩
theorem ZI {t:Ad} {l:List Am} (ho:BK t l=0):l.length≤24:=Classical.byContradiction fun c=>by
 unfold BK at ho;rw [if_neg (by rw [EE ho];simp),if_pos (by omega)] at ho;exact absurd ho (by decide)
theorem Xk {t:Ad} {l:List Am} (ho:BK t l=0) (key:Int×Int) (k:Nat) (hk:k≤l.length):0≤Aj (l.take k) key∧Aj (l.take k) key≤40*24:=by
 have h1:=D7 (l:=l.take k) (t:=t) (fun p hp=>(DI ho).1 p (List.mem_of_mem_take hp)) key;have h2:=ZI ho;rw [List.length_take] at h1
 omega
theorem JQ {t:Ad} {l:List Am} {o:Nat} {f:Int} (hF:Dv t l) (ho:o < t.Ac.length):∀ j:Nat,0≤toF t l o f j∧toF t l o f j≤200000000000*(j:Int)
 | 0=>by simp [toF]
 | j+1=>by
  have h1:=JQ (f:=f) hF ho j;have h2:=hF.EG ho j;rw [toF];push_cast;split <;> omega
theorem Xt:Try.f81.body=some (Code.seq (Aa Try.f81 0) (Code.seq (Aa Try.f81 1) (Code.seq (Code.seq (Aa Try.f81 2) (Code.block 0 (Code.loop (Code.seq (Code.seq (Aa Try.f81 3) (Code.cond (Operand.tmp 16) Code.skip (Code.exit 0))) (Code.seq (Code.block 1 (Code.seq (Aa Try.f81 5) (Code.cond (Operand.tmp 34) (Aa Try.f81 6) Code.skip))) (Aa Try.f81 4)))))) (Code.seq (Aa Try.f81 7) (Code.seq (Aa Try.f81 8) (Code.seq (Code.seq (Aa Try.f81 9) (Code.cond (Operand.tmp 60) (Code.seq (Aa Try.f81 10) Code.ret) Code.skip)) (Code.seq (Aa Try.f81 11) Code.ret))))))):=by kernel_rfl
theorem Vs {w:World} {t:Ad} {s:DY} {l:List Am} {la:Option Addr} {lc o i:Nat} (hT:CB w t s) (hP:DL w la l) (ho:Hid (BK t l=0)) (hio:o < t.Ac.length) (hii:i < t.Ag.length):Calls Try.prog 81 #[.agg (EK t s), .slice la l.length lc, .int .i64 (o:Int), .int .i64 (i:Int)] w (fun e w'=>e = .returned (.int .i64 (atL t l o i))∧Below w.heap.size w w'):=by
 obtain ⟨sa,sc,pa,pc,ta,tc⟩:=s;obtain ⟨yb,yo,hya,y0,y1,y2⟩:=hT.Ac.at hio;obtain ⟨tb,to2,hta,u0,u1,u2⟩:=hT.Ag.at hii;replace hya:pa=some ⟨yb,yo,none⟩:=hya;replace hta:ta=some ⟨tb,to2,none⟩:=hta;subst hya;subst hta;simp only [YG] at y0 y1 y2;simp only [LD] at u0 u1 u2;have hck:=Ba (EE ho.out);have hpf:=(List.all_eq_true.1 hck.2.2.2.2.2.1) _ (List.getElem_mem hio);simp only [Bc,Bool.and_eq_true] at hpf;have hfr:=Ak.1 hpf.2;have hrt:=Ak.1 (Gl hck.2.2.2.2.2.2.2.2 _ (List.getElem_mem hii)).2.1;have hl24:=ZI ho.out;have HS:=Lib.hid (Xk ho.out ((i:Int),(o:Int)));clear hck hpf;show Calls Try.prog 81 #[.agg #[.int .i64 t.roads.days, .int .i64 t.roads.stages, .slice sa t.roads.strips.length sc, .int .i64 t.pace, .slice (some ⟨yb,yo,none⟩) t.Ac.length pc, .slice (some ⟨tb,to2,none⟩) t.Ag.length tc], .slice la l.length lc, .int .i64 (o:Int), .int .i64 (i:Int)] w _;have hB:=Below.refl w.heap.size w;refine call4 Try.func81 Xt Try.ntmps81 ?_;intro a Z;refine wsr ?_;refine Z.s ?_;clear Z;intro a Z;refine Af (G:=fun W=>wpOps _ _ _ _ _ W) ?_;obtain ⟨b4,hg⟩:∃ b,b=w.heap.size:=⟨_,rfl⟩;have hy_b4:yb < b4:=by rw [hg];exact lt_of_cell y0
 have ht_b4:tb < b4:=by rw [hg];exact lt_of_cell u1
 intro x hz K4 hb2;rw [← hg] at Z K4;have hhB4:w.heap.size≤b4:=by rw [hg];exact hB.size
 replace hB:=hB.trans (hb2.mono hB.size);replace hP:=hP.below hb2;replace y0:=AQ hb2 y0;replace y1:=AQ hb2 y1;replace y2:=AQ hb2 y2;replace u1:=AQ hb2 u1;clear hz hg hb2;refine Z.s ?_;clear Z;intro a Z;refine od ?_;refine wsr ?_;refine Z.s ?_;clear Z;intro a Z;refine od ?_;refine wp_seq ?_;refine wsr ?_;refine Z.s ?_;clear Z;intro a Z;refine od ?_;refine wp_block ?_
 skip
 refine wp_loop_ghost (fun n p x=>∃ k:Nat,k+n=l.length∧Sl p 64 [(10, .int .i64 (k:Int)),(1, .slice la l.length lc),(2, .int .i64 (o:Int)),(3, .int .i64 (i:Int)),(4, .pointer (some ⟨b4,0,none⟩)),(9, .int .i64 (Aj (l.take k) ((i:Int),(o:Int))))]∧Below w.heap.size w x∧DL x la l∧x.cell? ⟨yb,yo+o*3,none⟩=some (.int .i64 t.Ac[o].heads)∧x.cell? ⟨yb,yo+o*3+1,none⟩=some (.int .i64 t.Ac[o].free)∧x.cell? ⟨yb,yo+o*3+2,none⟩=some (.bool t.Ac[o].half)∧x.cell? ⟨tb,to2+i*3+1,none⟩=some (.int .i64 t.Ag[i].rate)∧Rw x b4 #[.int .i64 t.roads.days, .int .i64 t.roads.stages, .slice sa t.roads.strips.length sc, .int .i64 t.pace, .slice (some ⟨yb,yo,none⟩) t.Ac.length pc, .slice (some ⟨tb,to2,none⟩) t.Ag.length tc] 28) (l.length) ⟨0,by omega,Z.sb,hB,hP,y0,y1,y2,u1,K4⟩ ?_;clear Z hB hP y0 y1 y2 u1 K4;rintro n a x ⟨k,hkn,Z,hB,hP,y0,y1,y2,u1,K4⟩;refine wp_seq ?_;refine wsr ?_;(iterate 3 refine Z.s ?_;clear Z;intro a Z)
 by_cases hlt:k < l.length
 ·have q1:(k:Int) < (l.length:Int):=by omega
  refine Z.s ?_;clear Z;intro a Z;refine od ?_;refine wp_cond_true (Z.ev 16 rfl) ?_;refine wp_skip ?_;refine wp_seq ?_;refine wp_block ?_;refine wp_seq ?_;obtain ⟨pb,po,hpa,c0,c1,c2⟩:=hP.at hlt;subst hpa;simp only [OO] at c0 c1 c2;have qk:(k:Int) < (l.length:Int):=by omega
  refine wr ?_;(iterate 4 refine Z.s ?_;clear Z;intro a Z);refine Z.rv rfl rfl rfl (by decide) (AC rfl (Z.ev 22 rfl) Try.underlying3 rfl (c1)) ?_;clear Z;intro a Z;refine Z.s ?_;clear Z;intro a Z
  by_cases he1:l[k].owner=(o:Int)
  ·have q25:(l[k].owner == (o:Int))=true:=by simp [he1]
   have HE1:=Lib.hid he1;clear he1;(iterate 2 refine Z.s ?_;clear Z;intro a Z);(iterate 4 refine Z.t ?_;clear Z;intro a Z);refine oW (Z.g 26) fun K hK =>?_
   have e30:=Z.g 30;have d0:=c0;unfold Oper.wp;go_simp;clear e30;refine Z.K hK ?_;clear Z hK;intro a Z;refine Z.t ?_;clear Z;intro a Z
   by_cases he2:l[k].toll=(i:Int)
   ·have q33:(l[k].toll == (i:Int))=true:=by simp [he2]
    have HE2:=Lib.hid he2;clear he2;refine Z.t ?_;clear Z;intro a Z;refine Z.s ?_;clear Z;intro a Z;refine od ?_;refine wp_cond_true (Z.ev 34 rfl) ?_;have hs0:=HS.out k (by omega);have hh0:=Ak.1 (Q4 ((DI ho.out).1 _ (List.getElem_mem hlt))).2.2;refine wr ?_;(iterate 5 refine Z.s ?_;clear Z;intro a Z);refine Z.rv rfl rfl rfl (by decide) (AC rfl (Z.ev 39 rfl) Try.underlying3 rfl (c2)) ?_;clear Z;intro a Z;refine og fun K hK =>?_
    have e35:=Z.g 35;have e40:=Z.g 40;have hw41:=IntWalk.i64_in ((Aj (l.take k) ((i:Int),(o:Int)))+l[k].heads) (by omega);unfold Oper.wp;go_simp;clear e35 e40;refine Z.K hK ?_;clear Z hK;intro a Z;refine Z.s ?_;clear Z;intro a Z;refine od ?_;refine wr ?_;refine Z.s ?_;clear Z;intro a Z;refine og fun K hK =>?_
    have e17:=Z.g 17;have hw18:=IntWalk.i64_in ((k:Int)+1) (by omega);unfold Oper.wp;go_simp;clear e17;refine Z.K hK ?_;clear Z hK;intro a Z;refine Z.s ?_;clear Z;intro a Z;refine od ?_;have hnx:=FX hlt ((i:Int),(o:Int));rw [if_pos (by rw [HE1.out,HE2.out])] at hnx;rw [← hnx] at Z;exact ⟨n-1,by omega,k+1,by omega,Z.sb,hB,hP,y0,y1,y2,u1,K4⟩
   ·have q33:(l[k].toll == (i:Int))=false:=by simp [he2]
    have HE2:=Lib.hid he2;clear he2;refine Z.t ?_;clear Z;intro a Z;refine Z.s ?_;clear Z;intro a Z;refine od ?_;refine wp_cond_false (Z.ev 34 rfl) ?_;refine wp_skip ?_;refine wr ?_;refine Z.s ?_;clear Z;intro a Z;refine og fun K hK =>?_
    have e17:=Z.g 17;have hw18:=IntWalk.i64_in ((k:Int)+1) (by omega);unfold Oper.wp;go_simp;clear e17;refine Z.K hK ?_;clear Z hK;intro a Z;refine Z.s ?_;clear Z;intro a Z;refine od ?_;have hnx:=FX hlt ((i:Int),(o:Int));rw [if_neg (by intro e;simp only [Prod.mk.injEq] at e;exact HE2.out e.1),Int.add_zero] at hnx;rw [← hnx] at Z;exact ⟨n-1,by omega,k+1,by omega,Z.sb,hB,hP,y0,y1,y2,u1,K4⟩
  ·have q25:(l[k].owner == (o:Int))=false:=by simp [he1]
   have HE1:=Lib.hid he1;clear he1;(iterate 2 refine Z.s ?_;clear Z;intro a Z);refine Z.z ?_;clear Z;intro a Z;refine Z.z ?_;clear Z;intro a Z;refine Z.z ?_;clear Z;intro a Z;refine Z.z ?_;clear Z;intro a Z;refine Z.z ?_;clear Z;intro a Z;refine Z.z ?_;clear Z;intro a Z;refine Z.z ?_;clear Z;intro a Z;refine Z.s ?_;clear Z;intro a Z;refine od ?_;refine wp_cond_false (Z.ev 34 rfl) ?_;refine wp_skip ?_;refine wr ?_;refine Z.s ?_;clear Z;intro a Z;refine og fun K hK =>?_
   have e17:=Z.g 17;have hw18:=IntWalk.i64_in ((k:Int)+1) (by omega);unfold Oper.wp;go_simp;clear e17;refine Z.K hK ?_;clear Z hK;intro a Z;refine Z.s ?_;clear Z;intro a Z;refine od ?_;have hnx:=FX hlt ((i:Int),(o:Int));rw [if_neg (by intro e;simp only [Prod.mk.injEq] at e;exact HE1.out e.2),Int.add_zero] at hnx;rw [← hnx] at Z;exact ⟨n-1,by omega,k+1,by omega,Z.sb,hB,hP,y0,y1,y2,u1,K4⟩
 ·have q1:¬ (k:Int) < (l.length:Int):=by omega
  obtain rfl:k=l.length:=by omega
  refine Z.s ?_;clear Z;intro a Z;refine od ?_;refine wp_cond_false (Z.ev 16 rfl) ?_;refine wp_exit ?_;refine wp_seq ?_;clear hP;rw [List.take_length] at Z;have hsf:=HS.out l.length (Nat.le_refl _);rw [List.take_length] at hsf;have qo:(o:Int) < (t.Ac.length:Int):=by omega
  have qi:(i:Int) < (t.Ag.length:Int):=by omega
  have hmb:=VK (fr:=t.Ac[o].free) (q:=Aj l ((i:Int),(o:Int))) (r:=t.Ag[i].rate) hfr.1 hsf.1 hsf.2 hrt.1 hrt.2;refine wr ?_;refine Z.s ?_;clear Z;intro a Z;refine Z.rv rfl rfl rfl (by decide) (AC rfl (Z.ev 42 rfl) Try.underlying25 rfl (K4.cell (o:=4) (v := .slice (some ⟨yb,yo,none⟩) t.Ac.length pc) rfl)) ?_;clear Z;intro a Z;(iterate 2 refine Z.s ?_;clear Z;intro a Z);refine og fun K hK =>?_
  have e45:=Z.g 45;have d0:=y0;have d1:=y1;have d2:=y2;unfold Oper.wp;go_simp;clear e45;refine Z.K hK ?_;clear Z hK;intro a Z;refine Z.s ?_;clear Z;intro a Z;refine Af (G:=fun W=>wpOps _ _ _ _ _ W) ?_;obtain ⟨b11,hg⟩:∃ b,b=x.heap.size:=⟨_,rfl⟩;have hy_b11:yb < b11:=by rw [hg];exact lt_of_cell y0
  have ht_b11:tb < b11:=by rw [hg];exact lt_of_cell u1
  intro x hz K11 hb2;rw [← hg] at Z K11;have hhB11:w.heap.size≤b11:=by rw [hg];exact hB.size
  have h4_11:b4 < b11:=by rw [hg];exact K4.lt
  replace hB:=hB.trans (hb2.mono hB.size);replace y0:=AQ hb2 y0;replace y1:=AQ hb2 y1;replace y2:=AQ hb2 y2;replace u1:=AQ hb2 u1;replace K4:=K4.below hb2;clear hz hg hb2;refine Z.rs rfl rfl rfl (Gf rfl (Z.ev 11 rfl) (Z.ev 46 rfl) (by kernel_rfl) K11 rfl rfl) ?_;have hG:=BU K11 #[.int .i64 t.Ac[o].heads, .int .i64 t.Ac[o].free, .bool t.Ac[o].half];have K_:=K11.setRow #[.int .i64 t.Ac[o].heads, .int .i64 t.Ac[o].free, .bool t.Ac[o].half];replace hB:=Oi hB hG (by omega);replace y0:=Yh hG y0 (by omega);replace y1:=Yh hG y1 (by omega);replace y2:=Yh hG y2 (by omega);replace u1:=Yh hG u1 (by omega);replace K4:=K4.grown hG (by simp;omega);have K11:=K_;clear hG K_;obtain ⟨x,hx2⟩:∃ q,q=x.setRow b11 #[.int .i64 t.Ac[o].heads, .int .i64 t.Ac[o].free, .bool t.Ac[o].half]:=⟨_,rfl⟩;rw [← hx2] at hB y0 y1 y2 u1 K4 K11 ⊢;clear hx2;refine od ?_;refine wp_seq ?_;refine Lt rfl (by kernel_rfl) (by kernel_rfl) ?_;(iterate 2 refine Z.u ?_;clear Z;intro a Z);refine Z.q rfl rfl rfl (by decide) ⟨?_,fun y hy K hK =>?_,?_⟩;rotate_left
  ·have e48:=Z.g 48;replace hB:=hB.trans (hy.mono hB.size);replace y0:=AQ hy y0;replace y1:=AQ hy y1;replace y2:=AQ hy y2;replace u1:=AQ hy u1;replace K4:=K4.below hy;replace K11:=K11.below hy;refine Dj (AC rfl (Z.ev 48 rfl) Try.underlying3 rfl (K11.cell (o:=1) (v := .int .i64 t.Ac[o].free) rfl)) ?_;exact hK
  clear Z;intro a Z;refine Z.q rfl rfl rfl (by decide) ⟨?_,fun y hy K hK =>?_,?_⟩;rotate_left
  ·have e47:=Z.g 47;have e49:=Z.g 49;have hw50:=IntWalk.i64_in ((Aj l ((i:Int),(o:Int)))-t.Ac[o].free) (by omega);unfold Oper.Fp;go_simp;exact hK
  clear Z;intro a Z;(iterate 2 refine Z.u ?_;clear Z;intro a Z);refine Z.q rfl rfl rfl (by decide) ⟨?_,fun y hy K hK =>?_,?_⟩;rotate_left
  ·have e52:=Z.g 52;replace hB:=hB.trans (hy.mono hB.size);replace y0:=AQ hy y0;replace y1:=AQ hy y1;replace y2:=AQ hy y2;replace u1:=AQ hy u1;replace K4:=K4.below hy;replace K11:=K11.below hy;refine Dj (AC rfl (Z.ev 52 rfl) Try.underlying26 rfl (K4.cell (o:=5) (v := .slice (some ⟨tb,to2,none⟩) t.Ag.length tc) rfl)) ?_;exact hK
  clear Z;intro a Z;(iterate 3 refine Z.u ?_;clear Z;intro a Z);refine Z.q rfl rfl rfl (by decide) ⟨?_,fun y hy K hK =>?_,?_⟩;rotate_left
  ·have e56:=Z.g 56;replace hB:=hB.trans (hy.mono hB.size);replace y0:=AQ hy y0;replace y1:=AQ hy y1;replace y2:=AQ hy y2;replace u1:=AQ hy u1;replace K4:=K4.below hy;replace K11:=K11.below hy;refine Dj (AC rfl (Z.ev 56 rfl) Try.underlying3 rfl (u1)) ?_;exact hK
  clear Z;intro a Z;refine Z.q rfl rfl rfl (by decide) ⟨?_,fun y hy K hK =>?_,?_⟩;rotate_left
  ·have e51:=Z.g 51;have e57:=Z.g 57;have hw58:=IntWalk.i64_in ((if t.Ac[o].free < Aj l ((i:Int),(o:Int)) then Aj l ((i:Int),(o:Int))-t.Ac[o].free else 0)*t.Ag[i].rate) (by omega);unfold Oper.Fp;go_simp;exact hK
  clear Z;intro a Z;refine Z.u ?_;clear Z;intro a Z;refine IW ?_;intro x hb2;replace hB:=hB.trans (hb2.mono hB.size);replace y0:=AQ hb2 y0;replace y1:=AQ hb2 y1;replace y2:=AQ hb2 y2;replace u1:=AQ hb2 u1;replace K4:=K4.below hb2;replace K11:=K11.below hb2;clear hb2;refine wp_seq ?_;refine wsr ?_;refine Z.s ?_;clear Z;intro a Z;refine Z.rv rfl rfl rfl (by decide) (AC rfl (Z.ev 59 rfl) Try.underlying4 rfl (K11.cell (o:=2) (v := .bool t.Ac[o].half) rfl)) ?_;clear Z;intro a Z;rcases Bool.eq_false_or_eq_true (t.Ac[o].half) with hhf | hhf
  ·rw [hhf] at Z;refine od ?_;refine wp_cond_true (Z.ev 60 rfl) ?_;refine wsr ?_;(iterate 2 refine Z.s ?_;clear Z;intro a Z);refine od ?_;refine wp_ret ?_
   try simp only [Exit.then,Exit.inBlock]
   have eg:t.Ac.getD o default=t.Ac[o]:=by simp [List.getD_eq_getElem?_getD,hio]
   have et:t.Ag.getD i default=t.Ag[i]:=by simp [List.getD_eq_getElem?_getD,hii]
   have HR:=Lib.hid (show atL t l o i=(if t.Ac[o].free < Aj l ((i:Int),(o:Int)) then Aj l ((i:Int),(o:Int))-t.Ac[o].free else 0)*t.Ag[i].rate from by unfold atL ofV;rw [eg,et,hhf];simp);rw [HR.out];refine bodyPost_ret (v := .int .i64 ((if t.Ac[o].free < Aj l ((i:Int),(o:Int)) then Aj l ((i:Int),(o:Int))-t.Ac[o].free else 0)*t.Ag[i].rate)) ?_ Z.defers ⟨rfl,hB⟩;simp [results,Try.results81,Z.get 8 _ rfl]
  ·rw [hhf] at Z;refine od ?_;refine wp_cond_false (Z.ev 60 rfl) ?_;refine wp_skip ?_;refine wsr ?_;refine Z.s ?_;clear Z;intro a Z;refine og fun K hK =>?_
   have e62:=Z.g 62;have hw63:=IntWalk.i64_in (2*((if t.Ac[o].free < Aj l ((i:Int),(o:Int)) then Aj l ((i:Int),(o:Int))-t.Ac[o].free else 0)*t.Ag[i].rate)) (by omega);unfold Oper.wp;go_simp;clear e62;refine Z.K hK ?_;clear Z hK;intro a Z;refine Z.s ?_;clear Z;intro a Z;refine od ?_;refine wp_ret ?_
   try simp only [Exit.then,Exit.inBlock]
   have eg:t.Ac.getD o default=t.Ac[o]:=by simp [List.getD_eq_getElem?_getD,hio]
   have et:t.Ag.getD i default=t.Ag[i]:=by simp [List.getD_eq_getElem?_getD,hii]
   have HR:=Lib.hid (show atL t l o i=2*((if t.Ac[o].free < Aj l ((i:Int),(o:Int)) then Aj l ((i:Int),(o:Int))-t.Ac[o].free else 0)*t.Ag[i].rate) from by unfold atL ofV;rw [eg,et,hhf];show (if false=true then _ else (if t.Ac[o].free < Aj l ((i:Int),(o:Int)) then Aj l ((i:Int),(o:Int))-t.Ac[o].free else 0)*t.Ag[i].rate*2)=_;rw [if_neg (by decide)];omega);rw [HR.out];refine bodyPost_ret (v := .int .i64 (2*((if t.Ac[o].free < Aj l ((i:Int),(o:Int)) then Aj l ((i:Int),(o:Int))-t.Ac[o].free else 0)*t.Ag[i].rate))) ?_ Z.defers ⟨rfl,hB⟩;simp [results,Try.results81,Z.get 8 _ rfl]
theorem Xq:Try.f33.body=some (Code.seq (Aa Try.f33 0) (Code.seq (Aa Try.f33 1) (Code.seq (Code.seq (Aa Try.f33 2) (Code.block 0 (Code.loop (Code.seq (Code.seq (Aa Try.f33 3) (Code.cond (Operand.tmp 15) Code.skip (Code.exit 0))) (Code.seq (Code.block 1 (Code.seq (Aa Try.f33 5) (Code.cond (Operand.tmp 25) (Aa Try.f33 6) Code.skip))) (Aa Try.f33 4)))))) (Code.seq (Aa Try.f33 7) Code.ret)))):=by kernel_rfl
theorem Vr {w:World} {t:Ad} {s:DY} {l:List Am} {la:Option Addr} {lc o:Nat} {fm:Int} (hT:CB w t s) (hP:DL w la l) (ho:Hid (BK t l=0)) (hio:o < t.Ac.length):Calls Try.prog 33 #[.agg (EK t s), .slice la l.length lc, .int .i64 (o:Int), .int .i64 fm] w (fun e w'=>e = .returned (.int .i64 (toF t l o fm t.Ag.length))∧Below w.heap.size w w'):=by
 obtain ⟨sa,sc,pa,pc,ta,tc⟩:=s;have hB:=Below.refl w.heap.size w;have hl6:t.Ag.length≤6:=by obtain ⟨_,_,_,_,_,_,_,h6,_⟩:=Ba (EE ho.out);exact h6
 have HTB:=Lib.hid (JQ (f:=fm) (Ea ho.out) hio);have HAB:=Lib.hid ((Ea ho.out).EG hio);refine call4 Try.func33 Xq Try.ntmps33 ?_;intro a Z;refine wsr ?_;refine Z.s ?_;clear Z;intro a Z;refine Af (G:=fun W=>wpOps _ _ _ _ _ W) ?_;obtain ⟨b4,hg⟩:∃ b,b=w.heap.size:=⟨_,rfl⟩;intro x hz K4 hb2;rw [← hg] at Z K4;have hhB4:w.heap.size≤b4:=by rw [hg];exact hB.size
 replace hB:=hB.trans (hb2.mono hB.size);replace hT:=hT.below hb2;replace hP:=hP.below hb2;clear hz hg hb2;refine Z.s ?_;clear Z;intro a Z;refine od ?_;refine wsr ?_;refine Z.s ?_;clear Z;intro a Z;refine od ?_;refine wp_seq ?_;refine wsr ?_;refine Z.s ?_;clear Z;intro a Z;refine od ?_;refine wp_block ?_;refine wp_loop_ghost (fun n p x=>∃ k:Nat,k+n=t.Ag.length∧Sl p 34 [(10, .int .i64 (k:Int)),(1, .slice la l.length lc),(2, .int .i64 (o:Int)),(3, .int .i64 fm),(4, .pointer (some ⟨b4,0,none⟩)),(9, .int .i64 (toF t l o fm k))]∧Below w.heap.size w x∧CB x t ⟨sa,sc,pa,pc,ta,tc⟩∧DL x la l∧Rw x b4 (EK t ⟨sa,sc,pa,pc,ta,tc⟩) 28) (t.Ag.length) ⟨0,by omega,Z.sb,hB,hT,hP,K4⟩ ?_;clear Z hB hT hP K4;rintro n a x ⟨k,hkn,Z,hB,hT,hP,K4⟩;refine wp_seq ?_;refine wsr ?_;(iterate 2 refine Z.s ?_;clear Z;intro a Z);refine Z.rv rfl rfl rfl (by decide) (AC rfl (Z.ev 12 rfl) Try.underlying26 rfl (K4.cell (o:=5) (v := .slice ta t.Ag.length tc) rfl)) ?_;clear Z;intro a Z;refine Z.s ?_;clear Z;intro a Z
 by_cases hlt:k < t.Ag.length
 ·have q1:(k:Int) < (t.Ag.length:Int):=by omega
  refine Z.s ?_;clear Z;intro a Z;refine od ?_;refine wp_cond_true (Z.ev 15 rfl) ?_;refine wp_skip ?_;refine wp_seq ?_;refine wp_block ?_;refine wp_seq ?_;obtain ⟨tb,to2,hta,u0,u1,u2⟩:=hT.Ag.at hlt;replace hta:ta=some ⟨tb,to2,none⟩:=hta;subst hta;simp only [LD] at u2;clear u0 u1;have qk:(k:Int) < (t.Ag.length:Int):=by omega
  refine wr ?_;refine Z.s ?_;clear Z;intro a Z;refine Z.rv rfl rfl rfl (by decide) (AC rfl (Z.ev 18 rfl) Try.underlying26 rfl (K4.cell (o:=5) (v := .slice (some ⟨tb,to2,none⟩) t.Ag.length tc) rfl)) ?_;clear Z;intro a Z;(iterate 3 refine Z.s ?_;clear Z;intro a Z);refine Z.rv rfl rfl rfl (by decide) (AC rfl (Z.ev 22 rfl) Try.underlying3 rfl (u2)) ?_;clear Z;intro a Z;refine Z.s ?_;clear Z;intro a Z
  by_cases he1:t.Ag[k].farmer=fm
  ·have q25:(t.Ag[k].farmer == fm)=true:=by simp [he1]
   have HE1:=Lib.hid he1;clear he1;refine Z.s ?_;clear Z;intro a Z;refine od ?_;refine wp_cond_true (Z.ev 25 rfl) ?_;have htb:=HTB.out k;have hab:=HAB.out k;refine wr ?_;refine Z.s ?_;clear Z;intro a Z;refine Z.rv rfl rfl rfl (by decide) (EN rfl (Z.ev 4 rfl) Try.underlying28 rfl (by kernel_rfl) K4) ?_;clear Z;intro a Z;(iterate 3 refine Z.s ?_;clear Z;intro a Z);refine og fun K hK =>?_
   have e27:=Z.g 27;have e28:=Z.g 28;have e29:=Z.g 29;have e30:=Z.g 30;unfold Oper.wp;go_simp;refine (Vs (s:=⟨sa,sc,pa,pc,some ⟨tb,to2,none⟩,tc⟩) hT hP ho hio hlt).mono ?_;rintro e x ⟨rfl,hb2⟩;replace hB:=hB.trans (hb2.mono hB.size);replace hT:=hT.below hb2;replace hP:=hP.below hb2;replace K4:=K4.below hb2;replace u2:=AQ hb2 u2;clear hb2;clear e27 e28 e29 e30;refine Z.K hK ?_;clear Z hK;intro a Z;refine og fun K hK =>?_
   have e26:=Z.g 26;have e31:=Z.g 31;have hw32:=IntWalk.i64_in ((toF t l o fm k)+(atL t l o k)) (by omega);unfold Oper.wp;go_simp;clear e26 e31;refine Z.K hK ?_;clear Z hK;intro a Z;refine Z.s ?_;clear Z;intro a Z;refine od ?_;refine wr ?_;refine Z.s ?_;clear Z;intro a Z;refine og fun K hK =>?_
   have e16:=Z.g 16;have hw17:=IntWalk.i64_in ((k:Int)+1) (by omega);unfold Oper.wp;go_simp;clear e16;refine Z.K hK ?_;clear Z hK;intro a Z;refine Z.s ?_;clear Z;intro a Z;refine od ?_;have ek:t.Ag.getD k default=t.Ag[k]:=by simp [List.getD_eq_getElem?_getD,hlt]
   have hnx:toF t l o fm (k+1)=toF t l o fm k+atL t l o k:=by rw [toF,ek,if_pos HE1.out]
   rw [← hnx] at Z;exact ⟨n-1,by omega,k+1,by omega,Z.sb,hB,hT,hP,K4⟩
  ·have q25:(t.Ag[k].farmer == fm)=false:=by simp [he1]
   have HE1:=Lib.hid he1;clear he1;refine Z.s ?_;clear Z;intro a Z;refine od ?_;refine wp_cond_false (Z.ev 25 rfl) ?_;refine wp_skip ?_;refine wr ?_;refine Z.s ?_;clear Z;intro a Z;refine og fun K hK =>?_
   have e16:=Z.g 16;have hw17:=IntWalk.i64_in ((k:Int)+1) (by omega);unfold Oper.wp;go_simp;clear e16;refine Z.K hK ?_;clear Z hK;intro a Z;refine Z.s ?_;clear Z;intro a Z;refine od ?_;have ek:t.Ag.getD k default=t.Ag[k]:=by simp [List.getD_eq_getElem?_getD,hlt]
   have hnx:toF t l o fm (k+1)=toF t l o fm k:=by rw [toF,ek,if_neg HE1.out,Int.add_zero]
   rw [← hnx] at Z;exact ⟨n-1,by omega,k+1,by omega,Z.sb,hB,hT,hP,K4⟩
 ·have q1:¬ (k:Int) < (t.Ag.length:Int):=by omega
  obtain rfl:k=t.Ag.length:=by omega
  refine Z.s ?_;clear Z;intro a Z;refine od ?_;refine wp_cond_false (Z.ev 15 rfl) ?_;refine wp_exit ?_;refine wsr ?_;(iterate 2 refine Z.s ?_;clear Z;intro a Z);refine od ?_;refine wp_ret ?_
  try simp only [Exit.then,Exit.inBlock]
  refine bodyPost_ret (v := .int .i64 (toF t l o fm t.Ag.length)) ?_ Z.defers ⟨rfl,hB⟩;simp [results,Try.results33,Z.get 8 _ rfl]
end
section
open Go Go.Conc Go.RowKit
theorem Qx {f g:Nat→Int} (h:∀ k,k < 4→f k=g k):ar4 f=ar4 g:=by
 unfold ar4;rw [h 0 (by omega),h 1 (by omega),h 2 (by omega),h 3 (by omega)]
def WZ (t:Ad) (l:List Am) (o k:Nat):Nat→Int:=fun m=>if m < k then BD t l (o+1) m else BD t l o m
theorem Yu (t:Ad) (l:List Am) (o:Nat):WZ t l o 0=BD t l o:=funext fun m=>if_neg (by omega)
theorem Yv (t:Ad) (l:List Am) (o:Nat):ar4 (WZ t l o 4)=ar4 (BD t l (o+1)):=Qx fun k hk=>if_pos hk
theorem Aaa (t:Ad) (l:List Am) (o k:Nat):WZ t l o k k=BD t l o k:=if_neg (by omega)
theorem W9 {w:World} {g o k:Nat} {t:Ad} {l:List Am} (h:Rw w g (ar4 (WZ t l o k)) 3) (hk:k < 4):w.cell? ⟨g,k,none⟩=some (.int .i64 (BD t l o k)):=by
 have:=h.cell (o:=k) (CW hk);rw [Aaa] at this;exact this
theorem Tc {t:Ad} {l:List Am} {o k:Nat}:upd (WZ t l o k) k (BD t l o k+FQ t l o k)=WZ t l o (k+1):=funext fun m=>by
 unfold upd WZ
 by_cases h:m=k
 ·subst h;rw [if_pos rfl,if_pos (by omega),O3]
 ·rw [if_neg h]
  by_cases h2:m < k
  ·rw [if_pos h2,if_pos (by omega)]
  ·rw [if_neg h2,if_neg (by omega)]
theorem ZA {w:World} {a:Nat} {f:Nat→Int} (ha:Rw w a (ar4 f) 3) (hB:Hid (∀ k,k < 4→-1000000000≤f k∧f k≤1000000000)):Calls Try.prog 32 #[.slice (some ⟨a,0,none⟩) 4 4] w (fun e w'=>e = .returned (.int .i64 (Lj f))∧w=w'):=by
 have h:=total_any (lc:=4) (BN (l:=[f 0,f 1,f 2,f 3]) ha) (by simp) (fun y hy=>by
  simp only [List.mem_cons,List.not_mem_nil,or_false] at hy;rcases hy with rfl | rfl | rfl | rfl
  ·exact hB.out 0 (by omega)
  ·exact hB.out 1 (by omega)
  ·exact hB.out 2 (by omega)
  ·exact hB.out 3 (by omega))
 refine h.mono ?_;rintro e w' ⟨rfl,hw⟩;refine ⟨?_,hw⟩;have:Hq [f 0,f 1,f 2,f 3]=Lj f:=by simp [Hq,Lj]
 rw [this]
theorem Y3 {t:Ad} {l:List Am} {o:Nat} (hF:Dv t (IY l (o:Int))) (ho:o < t.Ac.length):ar4 (BD t (IY l (o:Int)) t.Ac.length)=ar4 (FQ t l o) :=
 Qx fun k _=>by rw [Sz hF k _ (Nat.le_refl _),if_pos ho]
theorem V4 {t:Ad} {l:List Am} (hop:BK t l=0) {o:Nat} (ho:o < t.Ac.length):∀ k,k < 4→-1000000000≤FQ t l o k∧FQ t l o k≤1000000000:=fun k hk=>by
 have hT:=EE hop;have hF:=Ea hop;have h1:=VZ hT hF ho;have h2:=Ws hop o ho;have h3:=fun j (hj:j < 4)=>(O1 hT hF ho hj).1
 have a0:=h3 0 (by omega);have a1:=h3 1 (by omega);have a2:=h3 2 (by omega);have a3:=h3 3 (by omega);unfold Lj at h1;rcases lt4 hk with rfl | rfl | rfl | rfl <;> omega
theorem YD {t:Ad} {l:List Am} {o:Nat} {f:Int}:∀ j:Nat,toF t (IY l (o:Int)) o f j=toF t l o f j
 | 0=>rfl
 | j+1=>by rw [toF,toF,YD j,YH]
theorem N9 {t:Ad} {l:List Am} (hop:BK t l=0) (o k:Nat) (ho:o≤t.Ac.length):0≤BD t l o k∧BD t l o k≤6000000001*4:=by
 have h:=Ba (EE hop);have:=Ih (Ea hop) h.2.2.2.2.2.2.2.1 o k ho;have:=h.2.2.2.2.1
 omega
section
variable {w:World} {t:Ad} {s:DY} {l us:List Am} {la:Option Addr} {lc o:Nat}
theorem AaE (hT:CB w t s) (hP:DL w la us) (ho:Hid (BK t us=0)) (hu:Hid (us=IY l (o:Int))) (hio:o < t.Ac.length):Calls Try.prog 31 #[.agg (EK t s), .slice la us.length lc] w (fun e w'=>∃ g,e = .returned (.tuple #[.slice (some ⟨g,0,none⟩) 4 4, .int .i64 0])∧w.heap.size≤g∧Rw w' g (ar4 (FQ t l o)) 3∧Below w.heap.size w w') :=
 (Ji hT hP (LX ho.out)).mono fun _ _ ⟨h1,_,h2⟩=>by
  obtain ⟨g,h3,h4,h5⟩:=h2 ho.out;refine ⟨g,h3,h4,?_,h1⟩;rw [hu.out,Y3 (by rw [← hu.out];exact Ea ho.out) hio] at h5;exact h5
theorem toO {fm:Int} (hT:CB w t s) (hP:DL w la us) (ho:Hid (BK t us=0)) (hu:Hid (us=IY l (o:Int))) (hio:o < t.Ac.length):Calls Try.prog 33 #[.agg (EK t s), .slice la us.length lc, .int .i64 (o:Int), .int .i64 fm] w (fun e w'=>e = .returned (.int .i64 (toF t l o fm t.Ag.length))∧Below w.heap.size w w'):=by
 have h:=Vr (lc:=lc) (fm:=fm) hT hP ho hio;have e:toF t us o fm t.Ag.length=toF t l o fm t.Ag.length:=by rw [hu.out];exact YD _
 rw [e] at h;exact h
end
end
end Go.Proofs.Ytgdobbcjkiapkaa
