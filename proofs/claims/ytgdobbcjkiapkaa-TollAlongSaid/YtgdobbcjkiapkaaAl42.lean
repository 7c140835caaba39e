import Derived.Test.YtgdobbcjkiapkaaAl04
import Derived.Test.YtgdobbcjkiapkaaAl41
import Derived.Test.YtgdobbcjkiapkaaAl28
import Derived.Test.YtgdobbcjkiapkaaAl36
namespace Go.Proofs.Ytgdobbcjkiapkaa
set_option maxRecDepth 100000
set_option maxHeartbeats 4000000
set_option linter.unusedSimpArgs false
set_option linter.unusedVariables false
section
open Go.RowKit
theorem VJ:Try.f63.body=some (Code.seq (Aa Try.f63 0) (Code.seq (Code.seq (Aa Try.f63 1) (Code.cond (Operand.tmp 8) (Code.seq (Aa Try.f63 2) Code.ret) Code.skip)) (Code.seq (Code.seq (Aa Try.f63 3) (Code.cond (Operand.tmp 14) (Code.seq (Aa Try.f63 4) Code.ret) Code.skip)) (Code.seq (Aa Try.f63 5) Code.ret)))):=by kernel_rfl
theorem Su {w:World} {s:Strip} {at_:Int}:Calls Try.prog 63 #[.agg #[.int .i64 s.A, .int .i64 s.B, .int .i64 s.L, .int .i64 s.W, .int .i64 s.K, .int .i64 s.X, .int .i64 s.Y], .int .i64 at_] w (fun e w'=>e = .returned (.int .i64 (EM s at_))∧Below w.heap.size w w'):=by
 have hB:=Below.refl w.heap.size w;refine Lj Try.func63 VJ Try.ntmps63 ?_;intro a Z;refine wsr ?_;refine Z.s ?_;clear Z;intro a Z;refine Af (G:=fun W=>wpOps _ _ _ _ _ W) ?_;obtain ⟨b2,hg⟩:∃ b,b=w.heap.size:=⟨_,rfl⟩;intro x hz K2 hb2;rw [← hg] at Z K2;have hhB2:w.heap.size≤b2:=by rw [hg];exact hB.size
 replace hB:=hB.trans (hb2.mono hB.size);clear hz hg hb2;refine Z.s ?_;clear Z;intro a Z;refine od ?_;refine wp_seq ?_;refine wsr ?_;refine Z.s ?_;clear Z;intro a Z;refine Z.rv rfl rfl rfl (by decide) (Bf rfl (Z.ev 5 rfl) Try.underlying3 rfl (K2.cell (o:=0) (v := .int .i64 s.A) rfl)) ?_;clear Z;intro a Z;refine Z.s ?_;clear Z;intro a Z
 by_cases h1:s.A=at_
 ·have q1:(s.A == at_)=true:=by simp [h1]
  have H1:=Lib.hid h1;clear h1;refine Z.s ?_;clear Z;intro a Z;refine od ?_;refine wp_cond_true (Z.ev 8 rfl) ?_;refine wsr ?_;refine Z.s ?_;clear Z;intro a Z;refine Z.rv rfl rfl rfl (by decide) (Bf rfl (Z.ev 9 rfl) Try.underlying3 rfl (K2.cell (o:=1) (v := .int .i64 s.B) rfl)) ?_;clear Z;intro a Z;refine Z.s ?_;clear Z;intro a Z;refine od ?_;refine wp_ret ?_
  try simp only [Exit.then,Exit.inBlock]
  have HR:=Lib.hid (show EM s at_=s.B from by unfold EM;rw [if_pos H1.out.symm]);rw [HR.out];refine bodyPost_ret (v := .int .i64 s.B) ?_ Z.defers ⟨rfl,hB⟩;simp [results,Try.results63,Z.get 4 _ rfl]
 ·have q1:(s.A == at_)=false:=by simp [h1]
  have H1:=Lib.hid h1;clear h1;refine Z.s ?_;clear Z;intro a Z;refine od ?_;refine wp_cond_false (Z.ev 8 rfl) ?_;refine wp_skip ?_;refine wp_seq ?_;refine wsr ?_;refine Z.s ?_;clear Z;intro a Z;refine Z.rv rfl rfl rfl (by decide) (Bf rfl (Z.ev 11 rfl) Try.underlying3 rfl (K2.cell (o:=1) (v := .int .i64 s.B) rfl)) ?_;clear Z;intro a Z;refine Z.s ?_;clear Z;intro a Z
  by_cases h2:s.B=at_
  ·have q2:(s.B == at_)=true:=by simp [h2]
   have H2:=Lib.hid h2;clear h2;refine Z.s ?_;clear Z;intro a Z;refine od ?_;refine wp_cond_true (Z.ev 14 rfl) ?_;refine wsr ?_;refine Z.s ?_;clear Z;intro a Z;refine Z.rv rfl rfl rfl (by decide) (Bf rfl (Z.ev 15 rfl) Try.underlying3 rfl (K2.cell (o:=0) (v := .int .i64 s.A) rfl)) ?_;clear Z;intro a Z;refine Z.s ?_;clear Z;intro a Z;refine od ?_;refine wp_ret ?_
   try simp only [Exit.then,Exit.inBlock]
   have HR:=Lib.hid (show EM s at_=s.A from by unfold EM;rw [if_neg (fun h=>H1.out h.symm),if_pos H2.out.symm]);rw [HR.out];refine bodyPost_ret (v := .int .i64 s.A) ?_ Z.defers ⟨rfl,hB⟩;simp [results,Try.results63,Z.get 4 _ rfl]
  ·have q2:(s.B == at_)=false:=by simp [h2]
   have H2:=Lib.hid h2;clear h2;refine Z.s ?_;clear Z;intro a Z;refine od ?_;refine wp_cond_false (Z.ev 14 rfl) ?_;refine wp_skip ?_;refine wsr ?_;refine Z.s ?_;clear Z;intro a Z;refine od ?_;refine wp_ret ?_
   try simp only [Exit.then,Exit.inBlock]
   have HR:=Lib.hid (show EM s at_=(-1) from by unfold EM;rw [if_neg (fun h=>H1.out h.symm),if_neg (fun h=>H2.out h.symm)]);rw [HR.out];refine bodyPost_ret (v := .int .i64 (-1)) ?_ Z.defers ⟨rfl,hB⟩;simp [results,Try.results63,Z.get 4 _ rfl]
def Xa (t:Ac) (way:List Int) (at_:Int) (nx:List Int):Prop:=∀ k∈nx,(0≤k∧k < (t.roads.strips.length:Int))∧0≤EM (t.roads.strips.getD k.toNat default) at_∧¬ k∈way
theorem Xa.add {t:Ac} {way:List Int} {at_:Int} {nx:List Int} (h:Xa t way at_ nx) {k:Nat} (hk:k < t.roads.strips.length) (h1:0≤EM t.roads.strips[k] at_) (h2:¬ (k:Int)∈way):Xa t way at_ (nx++[(k:Int)]):=fun x hx=>by
 rcases List.mem_append.1 hx with hx | hx
 ·exact h x hx
 ·rw [List.mem_singleton.1 hx];refine ⟨by omega,?_,h2⟩;have e:t.roads.strips.getD ((k:Int)).toNat default=t.roads.strips[k]:=by simp [List.getD_eq_getElem?_getD,hk]
  rw [e];exact h1
theorem Xf {way:List Int} {k:Int} (h:way.Nodup) (hk:¬ k∈way):(way++[k]).Nodup:=List.nodup_append.2 ⟨h,by simp,fun a ha b hb e=>by rw [List.mem_singleton.1 hb] at e;exact hk (e ▸ ha)⟩
theorem Q8:Try.f22.body=some (Code.seq (Aa Try.f22 0) (Code.seq (Aa Try.f22 1) (Code.seq (Code.seq (Aa Try.f22 2) (Code.block 0 (Code.loop (Code.seq (Code.seq (Aa Try.f22 3) (Code.cond (Operand.tmp 16) Code.skip (Code.exit 0))) (Code.seq (Code.block 1 (Code.seq (Aa Try.f22 5) (Code.seq (Code.seq (Aa Try.f22 6) (Code.block 2 (Code.loop (Code.seq (Code.seq (Aa Try.f22 7) (Code.cond (Operand.tmp 24) Code.skip (Code.exit 2))) (Code.seq (Code.block 3 (Code.seq (Aa Try.f22 9) (Code.cond (Operand.tmp 41) (Aa Try.f22 10) Code.skip))) (Aa Try.f22 8)))))) (Code.seq (Code.seq (Aa Try.f22 11) (Code.cond (Operand.tmp 48) (Code.seq (Aa Try.f22 12) Code.ret) Code.skip)) (Code.seq (Aa Try.f22 13) (Aa Try.f22 14)))))) (Aa Try.f22 4)))))) (Code.seq (Aa Try.f22 15) Code.ret)))):=by kernel_rfl
theorem Rt {w:World} {hb B:Nat} {ha:Option Addr} {hn hc:Nat} {t:Ac} {s:DN} {fr:Int} (hH:AO w hb B ha hn hc) (hB:B≤900000) (hO:BV w (hb+1) t s) (h8:t.roads.strips.length≤100):Calls Try.prog 22 #[.pointer (some ⟨hb,0,none⟩), .agg (EU t s), .int .i64 fr] w (fun e w'=>∃ way wa wc to_,e = .returned (.tuple #[.slice wa way.length wc, .int .i64 to_])∧CB w' w.heap.size (.slice wa way.length wc) way∧way.length≤4∧way.Nodup∧Chain t way fr to_∧AO w' hb (B+5) ha hn hc∧Ext hb w w'):=by
 obtain ⟨sa,sc,pa,pc,ta,tc⟩:=s;have hE1:=Ext.refl hb w;have hhx:hb < w.heap.size:=hH.lt;refine Nu Try.func22 Q8 Try.ntmps22 ?_;intro a Z;refine wsr ?_;refine Z.s ?_;clear Z;intro a Z;refine Af (G:=fun W=>wpOps _ _ _ _ _ W) ?_;obtain ⟨b4,hg⟩:∃ b,b=w.heap.size:=⟨_,rfl⟩;have hh_b4:hb < b4:=by rw [hg];exact hH.lt
 intro x hz K4 hb2;rw [← hg] at Z K4;have hhE14:w.heap.size≤b4:=by rw [hg];exact hE1.size
 replace hE1:=hE1.bel hb2;replace hH:=hH.below hb2;replace hO:=hO.below hb2;clear hz hg hb2;(iterate 2 refine Z.s ?_;clear Z;intro a Z);refine od ?_;refine wsr ?_;refine Z.s ?_;clear Z;intro a Z;refine od ?_;refine wp_seq ?_;refine wsr ?_;refine Z.s ?_;clear Z;intro a Z;refine og fun K hK =>?_
 have e13:=Z.g 13;unfold Oper.wp;go_simp;refine (CP _ _ _ _ _ _ hH (by omega) (4) (by omega) (by omega)).mono ?_;rintro e x ⟨_,⟨z14,p14,q14,rfl⟩,rfl,hH,hE2⟩;replace hE1:=hE1.trans hE2;replace hO:=hO.ext hE2 (by omega);replace K4:=K4.ext hE2 (by omega);clear hE2;clear e13;refine Z.K hK ?_;clear Z hK;intro a Z;refine Z.s ?_;clear Z;intro a Z;refine od ?_;refine wp_block ?_;obtain ⟨m,rfl⟩:∃ m:Nat,z14=(m:Int):=⟨z14.toNat,by omega⟩;have hm4:m≤4:=by omega
 have hW:CB x w.heap.size (.slice none ([]:List Int).length 0) []:=AX.nil;have HD:Hid (([]:List Int).Nodup):=Lib.hid List.nodup_nil;have HC:Hid (Chain t [] fr fr):=Lib.hid rfl;have hH0:=hH.more (B':=B+5-m) (by omega);refine wp_loop_ghost (fun n p x=>∃ (way:List Int) (wa:Option Addr) (wc:Nat) (at_:Int),n≤4∧way.length+n≤4∧Hid way.Nodup∧Hid (Chain t way fr at_)∧Sl p 73 [(9, .int .i64 (n:Int)),(8, .slice wa way.length wc),(2, .int .i64 at_),(0, .pointer (some ⟨hb,0,none⟩)),(4, .pointer (some ⟨b4,0,none⟩))]∧Ext hb w x∧AO x hb (B+5-n) ha hn hc∧BV x (hb+1) t ⟨sa,sc,pa,pc,ta,tc⟩∧CB x w.heap.size (.slice wa way.length wc) way∧Rw x b4 (EU t ⟨sa,sc,pa,pc,ta,tc⟩) 28) m ⟨[],none,0,fr,hm4,by simpa using hm4,HD,HC,Z.sb,hE1,hH0,hO,hW,K4⟩ ?_;clear Z hE1 hH hH0 hO hW K4 HD HC hm4;rintro n a x ⟨way,wa,wc,at_,hn4,hwn,HD,HC,Z,hE1,hH,hO,hW,K4⟩;refine wp_seq ?_;refine wsr ?_;refine Z.s ?_;clear Z;intro a Z
 by_cases h0:0 < n
 ·have q0:(0:Int) < (n:Int):=by omega
  refine Z.s ?_;clear Z;intro a Z;refine od ?_;refine wp_cond_true (Z.ev 16 rfl) ?_;refine wp_skip ?_;refine wp_seq ?_;refine wp_block ?_;refine wsr ?_;refine Z.s ?_;clear Z;intro a Z;refine od ?_;refine wp_seq ?_;refine wsr ?_;refine Z.s ?_;clear Z;intro a Z;refine od ?_;refine wp_block ?_;have hhx1:hb < x.heap.size:=hH.lt;have hWx:w.heap.size≤x.heap.size:=hE1.size;obtain ⟨x1,hx0⟩:∃ q,q=x:=⟨_,rfl⟩;rw [← hx0] at hE1 hH hO hW K4 ⊢;clear hx0;have K40:Rw x1 b4 #[.int .i64 t.roads.days, .int .i64 t.roads.stages, .slice sa t.roads.strips.length sc, .int .i64 t.pace, .slice pa t.Ae.length pc, .slice ta t.Ah.length tc] 28:=K4;have hO0:BV x1 (hb+1) t ⟨sa,sc,pa,pc,ta,tc⟩:=hO;have hH0:AO x1 hb (B+5-n) ha hn hc:=hH;have hW0:CB x1 w.heap.size (.slice wa way.length wc) way:=hW;clear hH;clear hO;clear hW;clear K4;have hB1:=Below.refl x1.heap.size x1;replace hhx1:hb < x1.heap.size:=hH0.lt;replace hWx:w.heap.size≤x1.heap.size:=hE1.size;have hN:CB x1 x1.heap.size (.slice none ([]:List Int).length 0) []:=AX.nil;have HNX:Hid (Xa t way at_ []):=Lib.hid (fun k h=>by simp at h)
  refine wp_loop_ghost (fun r p x=>∃ (k:Nat) (nx:List Int) (na:Option Addr) (nc:Nat),k+r=t.roads.strips.length∧Hid (Xa t way at_ nx)∧nx.length≤k∧Sl p 73 [(11, .int .i64 (k:Int)),(10, .slice na nx.length nc),(0, .pointer (some ⟨hb,0,none⟩)),(2, .int .i64 at_),(4, .pointer (some ⟨b4,0,none⟩)),(8, .slice wa way.length wc),(9, .int .i64 (n:Int))]∧Below x1.heap.size x1 x∧CB x x1.heap.size (.slice na nx.length nc) nx) t.roads.strips.length ⟨0,[],none,0,by omega,HNX,by simp,Z.sb,hB1,hN⟩ ?_;clear Z hB1 hN HNX;rintro r a x ⟨k,nx,na,nc,hkr,HNX,hnk,Z,hB1,hN⟩;have K4:=K40.below hB1;have hO:=hO0.below hB1;have hH:=hH0.below hB1;have hW:=hW0.below hB1;refine wp_seq ?_;refine wsr ?_;(iterate 3 refine Z.s ?_;clear Z;intro a Z);refine Z.rv rfl rfl rfl (by decide) (Bf rfl (Z.ev 21 rfl) Try.underlying22 rfl (K4.cell (o:=2) (v := .slice sa t.roads.strips.length sc) rfl)) ?_;clear Z;intro a Z;refine Z.s ?_;clear Z;intro a Z
  by_cases hkl:k < t.roads.strips.length
  ·have q1:(k:Int) < (t.roads.strips.length:Int):=by omega
   refine Z.s ?_;clear Z;intro a Z;refine od ?_;refine wp_cond_true (Z.ev 24 rfl) ?_;refine wp_skip ?_;refine wp_seq ?_;refine wp_block ?_;refine wp_seq ?_;obtain ⟨sb,so,hsa,_⟩:=hO.tar.strips.at hkl;replace hsa:sa=some ⟨sb,so,none⟩:=hsa;subst hsa;have qk:(k:Int) < (t.roads.strips.length:Int):=by omega
   refine wr ?_;(iterate 2 refine Z.s ?_;clear Z;intro a Z);refine Z.rv rfl rfl rfl (by decide) (Bf rfl (Z.ev 28 rfl) Try.underlying22 rfl (K4.cell (o:=2) (v := .slice (some ⟨sb,so,none⟩) t.roads.strips.length sc) rfl)) ?_;clear Z;intro a Z;(iterate 2 refine Z.s ?_;clear Z;intro a Z);refine og fun K hK =>?_
   have e31:=Z.g 31;obtain ⟨sb_,so_,hse_,d0,d1,d2,d3,d4,d5,d6⟩:=hO.tar.strips.at hkl;simp only [Option.some.injEq,Addr.mk.injEq,and_true] at hse_;obtain ⟨rfl,rfl⟩:=hse_;unfold Oper.wp;go_simp;clear e31;refine Z.K hK ?_;clear Z hK;intro a Z;refine Z.s ?_;clear Z;intro a Z;refine og fun K hK =>?_
   have e32:=Z.g 32;have e33:=Z.g 33;unfold Oper.wp;go_simp;refine (Su (s:=t.roads.strips[k])).mono ?_;rintro e x ⟨rfl,hb2⟩;replace hB1:=hB1.trans (hb2.mono hB1.size);replace hN:=hN.below hb2;replace K4:=K4.below hb2;replace hO:=hO.below hb2;replace hH:=hH.below hb2;replace hW:=hW.below hb2;clear hb2;clear e32 e33;refine Z.K hK ?_;clear Z hK;intro a Z
   by_cases hf:0≤EM t.roads.strips[k] at_
   ·have qf:(0:Int)≤EM t.roads.strips[k] at_:=hf;(iterate 2 refine Z.s ?_;clear Z;intro a Z);(iterate 2 refine Z.t ?_;clear Z;intro a Z);refine oW (Z.g 36) fun K hK =>?_
    have e37:=Z.g 37;have e38:=Z.g 38;unfold Oper.wp;go_simp;refine (WZ _ _ _ _ (CB.ints hW) (by unfold maxLen;omega) _).mono ?_;rintro e x2 ⟨pv,rfl,hpo,hxe⟩;subst hxe;clear e37 e38;refine Z.K hK ?_;clear Z hK;intro a Z
    by_cases hp:pv < 0
    ·have qp:pv < 0:=hp;refine Z.t ?_;clear Z;intro a Z;refine Z.s ?_;clear Z;intro a Z;refine od ?_;refine wp_cond_true (Z.ev 41 rfl) ?_;refine wr ?_;(iterate 3 refine Z.s ?_;clear Z;intro a Z);refine Af (G:=fun W=>wpOps _ _ _ _ _ W) ?_;obtain ⟨b44,hg⟩:∃ b,b=x.heap.size:=⟨_,rfl⟩;intro x hz K44 hb2;rw [← hg] at Z K44;have hhB144:x1.heap.size≤b44:=by rw [hg];exact hB1.size
     have h4_44:b4 < b44:=by rw [hg];exact K4.lt
     replace hB1:=hB1.trans (hb2.mono hB1.size);replace hN:=hN.below hb2;replace K4:=K4.below hb2;replace hO:=hO.below hb2;replace hH:=hH.below hb2;replace hW:=hW.below hb2;clear hz hg hb2;refine og fun K hK =>?_
     have e42:=Z.g 42;have e44:=Z.g 44;refine O6 (k:=1) (A:=some ⟨b44,0,none⟩) (c:=1) (ys:=[(k:Int)]) 29 (.tmp 42) (.tmp 44) Try.underlying29 (z := .int .i64 0) (bytes:=8) (by kernel_rfl) rfl (by decide) (by decide) rfl (by simp [Act.eval,Array.getD_eq_getD_getElem?,e42]) hN (by simp [Act.eval,Array.getD_eq_getD_getElem?,e44]) (YQ (f:=fun x:Int=>[Value.int .i64 x]) K44 (by rfl)) (fun _=>rfl) (LV _) (by simp;omega) (hB1.size) ?_;intro v_ xx hN2 hG _ _;replace hB1:=hB1.grown hG hB1.size (fun k_ hk_=>(hN.Ai hk_).1);obtain ⟨na2,nc2,rfl,_,_,_⟩:=hN2.cells (fun _=>rfl);clear hG hN K4 hO hH hW K44;have hN:=hN2;clear hN2;obtain ⟨x,hx2⟩:∃ x,x=xx:=⟨_,rfl⟩;rw [← hx2] at hB1 hN ⊢;clear hx2;have K4:=K40.below hB1;have hO:=hO0.below hB1;have hH:=hH0.below hB1;have hW:=hW0.below hB1;clear e42 e44;refine Z.K hK ?_;clear Z hK;intro a Z;refine Z.s ?_;clear Z;intro a Z;refine od ?_;refine wr ?_;refine Z.s ?_;clear Z;intro a Z;refine og fun K hK =>?_
     have e25:=Z.g 25;have hw26:=IntWalk.i64_in ((k:Int)+1) (by omega);unfold Oper.wp;go_simp;clear e25;refine Z.K hK ?_;clear Z hK;intro a Z;refine Z.s ?_;clear Z;intro a Z;refine od ?_;have HN2:=Lib.hid (HNX.out.add hkl hf ((O0.neg hpo).1 hp));exact ⟨r-1,by omega,k+1,_,na2,nc2,by omega,HN2,by simp only [List.length_append,List.length_cons,List.length_nil];omega,Z.sb,hB1,hN⟩
    ·have qp:¬ pv < 0:=hp;refine Z.t ?_;clear Z;intro a Z;refine Z.s ?_;clear Z;intro a Z;refine od ?_;refine wp_cond_false (Z.ev 41 rfl) ?_;refine wp_skip ?_;refine wr ?_;refine Z.s ?_;clear Z;intro a Z;refine og fun K hK =>?_
     have e25:=Z.g 25;have hw26:=IntWalk.i64_in ((k:Int)+1) (by omega);unfold Oper.wp;go_simp;clear e25;refine Z.K hK ?_;clear Z hK;intro a Z;refine Z.s ?_;clear Z;intro a Z;refine od ?_;exact ⟨r-1,by omega,k+1,nx,na,nc,by omega,HNX,by omega,Z.sb,hB1,hN⟩
   ·have qf:¬ (0:Int)≤EM t.roads.strips[k] at_:=hf;(iterate 2 refine Z.s ?_;clear Z;intro a Z);refine Z.z ?_;clear Z;intro a Z;refine Z.z ?_;clear Z;intro a Z;refine Z.z ?_;clear Z;intro a Z;refine Z.z ?_;clear Z;intro a Z;refine Z.s ?_;clear Z;intro a Z;refine od ?_;refine wp_cond_false (Z.ev 41 rfl) ?_;refine wp_skip ?_;refine wr ?_;refine Z.s ?_;clear Z;intro a Z;refine og fun K hK =>?_
    have e25:=Z.g 25;have hw26:=IntWalk.i64_in ((k:Int)+1) (by omega);unfold Oper.wp;go_simp;clear e25;refine Z.K hK ?_;clear Z hK;intro a Z;refine Z.s ?_;clear Z;intro a Z;refine od ?_;exact ⟨r-1,by omega,k+1,nx,na,nc,by omega,HNX,by omega,Z.sb,hB1,hN⟩
  ·have q1:¬ (k:Int) < (t.roads.strips.length:Int):=by omega
   obtain rfl:k=t.roads.strips.length:=by omega
   refine Z.s ?_;clear Z;intro a Z;refine od ?_;refine wp_cond_false (Z.ev 24 rfl) ?_;refine wp_exit ?_;have hE1n:=hE1.bel hB1;clear hE1 hB1 K40 hO0 hH0 hW0;have hE1:=hE1n;clear hE1n;refine wp_seq ?_;refine wsr ?_;(iterate 2 refine Z.s ?_;clear Z;intro a Z)
   by_cases hz:nx.length=0
   ·have qz:((nx.length:Int) == 0)=true:=by rw [beq_iff_eq];omega
    have HZ:=Lib.hid hz;clear hz;refine Z.s ?_;clear Z;intro a Z;refine od ?_;refine wp_cond_true (Z.ev 48 rfl) ?_;refine wsr ?_;(iterate 4 refine Z.s ?_;clear Z;intro a Z);refine od ?_;refine wp_ret ?_
    try simp only [Exit.then,Exit.inBlock]
    refine bodyPost_ret (v := .tuple #[.slice wa way.length wc, .int .i64 at_]) ?_ Z.defers ⟨way,wa,wc,at_,rfl,hW,by omega,HD.out,HC.out,hH.more (by omega),hE1⟩;simp [results,Try.results22,Z.get 6 _ rfl,Z.get 7 _ rfl]
   ·have qz:((nx.length:Int) == 0)=false:=by rw [beq_eq_false_iff_ne];omega
    have HZ:=Lib.hid hz;clear hz;refine Z.s ?_;clear Z;intro a Z;refine od ?_;refine wp_cond_false (Z.ev 48 rfl) ?_;refine wp_skip ?_;refine wp_seq ?_;have hnz:=HZ.out;have hnp:0 < nx.length:=by omega
    refine wr ?_;(iterate 4 refine Z.s ?_;clear Z;intro a Z);refine og fun K hK =>?_
    have e54:=Z.g 54;have hw55:=IntWalk.i64_in ((nx.length:Int)-1) (by omega);unfold Oper.wp;go_simp;clear e54;refine Z.K hK ?_;clear Z hK;intro a Z;refine og fun K hK =>?_
    have e52:=Z.g 52;have e55:=Z.g 55;unfold Oper.wp;go_simp;refine (CP _ _ _ _ _ _ hH (by omega) (((nx.length:Int)-1)) (by omega) (by omega)).mono ?_;rintro e x ⟨_,⟨z56,p56,q56,rfl⟩,rfl,hH,hE2⟩;replace hE1:=hE1.trans hE2;replace hO:=hO.ext hE2 (by omega);replace hW:=hW.ext hE2 (by omega);replace hN:=hN.ext hE2 (by omega);replace K4:=K4.ext hE2 (by omega);clear hE2;clear e52 e55;refine Z.K hK ?_;clear Z hK;intro a Z;obtain ⟨ix,rfl⟩:∃ ix:Nat,z56=(ix:Int):=⟨z56.toNat,by omega⟩;have hil:ix < nx.length:=by omega
    have qi:(ix:Int) < (nx.length:Int):=by omega
    have hnk:=HNX.out nx[ix] (List.getElem_mem hil);obtain ⟨kk,hkk⟩:∃ kk:Nat,nx[ix]=(kk:Int):=⟨nx[ix].toNat,by omega⟩
    have cn:∃ nb no,na=some ⟨nb,no,none⟩∧x.cell? ⟨nb,no+ix,none⟩=some (.int .i64 (kk:Int)):=by
     rcases CB.ints hN with h0 | ⟨nb,no,h1,h2⟩
     ·rw [h0] at hil;simp at hil
     ·exact ⟨nb,no,h1,by have h3:=h2 ix hil;rw [hkk] at h3;exact h3⟩
    obtain ⟨nb,no,hna,cn⟩:=cn;subst hna;rw [hkk] at hnk;have hkkl:kk < t.roads.strips.length:=by omega
    have HNK:=Lib.hid hnk;clear hnk hkk;obtain ⟨sb,so,hsa,_⟩:=hO.tar.strips.at hkkl;replace hsa:sa=some ⟨sb,so,none⟩:=hsa;subst hsa;have qkk:(kk:Int) < (t.roads.strips.length:Int):=by omega
    refine Z.s ?_;clear Z;intro a Z;refine Z.rv rfl rfl rfl (by decide) (Bf rfl (Z.ev 57 rfl) Try.underlying3 rfl (cn)) ?_;clear Z;intro a Z;clear cn hN;refine Z.s ?_;clear Z;intro a Z;refine od ?_;have hb2:Below x.heap.size x x.drew:=(Below.refl _ _).drew;replace hE1:=hE1.bel hb2;replace hH:=hH.below hb2;replace hO:=hO.below hb2;replace hW:=hW.below hb2;replace K4:=K4.below hb2;refine UQ [[],[],[1],[0,1,2],[],[4],[4,5],[],[4,5,6,7],[4,5,6,7,8],[],[0,1,2,3,4,5,6,7,8,9,10],[0,1,2,3,4,5,6,7,8,9,10,11],[0,1,2,3,4,5,6,7,8,9,10,11,12]] (fun i=>[2,3,11].contains i) (fun y=>Rw y b4 #[.int .i64 t.roads.days, .int .i64 t.roads.stages, .slice (some ⟨sb,so,none⟩) t.roads.strips.length sc, .int .i64 t.pace, .slice pa t.Ae.length pc, .slice ta t.Ah.length tc] 28∧BV y (hb+1) t ⟨some ⟨sb,so,none⟩,sc,pa,pc,ta,tc⟩) 11 rfl (by kernel_rfl) (of_decide_eq_true (by kernel_rfl)) (by kernel_rfl) [11,12,13] (by kernel_rfl) ⟨K4,hO⟩ ?_;clear hb2;obtain ⟨x,hx2⟩:∃ q,q=x.drew:=⟨_,rfl⟩;rw [← hx2] at hE1 hH hO hW K4 ⊢;clear hx2;refine CO (i:=0) rfl rfl (by kernel_rfl) (by kernel_rfl) (by kernel_rfl) ⟨K4,hO⟩ ?_;refine Z.amv rfl rfl rfl (.inl rfl) rfl (by decide) rfl ?_;clear Z;intro a Z;refine CO (i:=1) rfl rfl (by kernel_rfl) (by kernel_rfl) (by kernel_rfl) ⟨K4,hO⟩ ?_
    refine Z.amv rfl rfl rfl (.inl rfl) rfl (by decide) rfl ?_;clear Z;intro a Z;refine CO (i:=4) rfl rfl (by kernel_rfl) (by kernel_rfl) (by kernel_rfl) ⟨K4,hO⟩ ?_;refine Z.ar rfl rfl rfl rfl (by decide) ⟨?_,fun y hy K hK =>?_,?_⟩;rotate_left
    ·have e4:=Z.g 4;unfold EX;go_simp;exact hK
    clear Z;intro a Z;refine CO (i:=5) rfl rfl (by kernel_rfl) (by kernel_rfl) (by kernel_rfl) ⟨K4,hO⟩ ?_;refine Z.ar rfl rfl rfl rfl (by decide) ⟨?_,fun y hy K hK =>?_,?_⟩;rotate_left
    ·have e63:=Z.g 63;unfold EX;go_simp;exact hK
    clear Z;intro a Z;refine CO (i:=6) rfl rfl (by kernel_rfl) (by kernel_rfl) (by kernel_rfl) ⟨K4,hO⟩ ?_;refine Z.ar rfl rfl rfl rfl (by decide) ⟨?_,fun y hy K hK =>?_,?_⟩;rotate_left
    ·have e64:=Z.g 64;obtain ⟨K4,hO⟩:=hy;refine Gh (Bf rfl (Z.ev 64 rfl) Try.underlying22 rfl (K4.cell (o:=2) (v := .slice (some ⟨sb,so,none⟩) t.roads.strips.length sc) rfl)) ?_;exact hK
    clear Z;intro a Z;refine CO (i:=7) rfl rfl (by kernel_rfl) (by kernel_rfl) (by kernel_rfl) ⟨K4,hO⟩ ?_;refine Z.amv rfl rfl rfl (.inl rfl) rfl (by decide) rfl ?_;clear Z;intro a Z;refine CO (i:=8) rfl rfl (by kernel_rfl) (by kernel_rfl) (by kernel_rfl) ⟨K4,hO⟩ ?_;refine Z.ar rfl rfl rfl rfl (by decide) ⟨?_,fun y hy K hK =>?_,?_⟩;rotate_left
    ·have e65:=Z.g 65;have e66:=Z.g 66;unfold EX;go_simp;exact hK
    clear Z;intro a Z;refine CO (i:=9) rfl rfl (by kernel_rfl) (by kernel_rfl) (by kernel_rfl) ⟨K4,hO⟩ ?_;refine Z.ar rfl rfl rfl rfl (by decide) ⟨?_,fun y hy K hK =>?_,?_⟩;rotate_left
    ·have e67:=Z.g 67;obtain ⟨K4,hO⟩:=hy;obtain ⟨sb_,so_,hse_,d0,d1,d2,d3,d4,d5,d6⟩:=hO.tar.strips.at hkkl;simp only [Option.some.injEq,Addr.mk.injEq,and_true] at hse_;obtain ⟨rfl,rfl⟩:=hse_;unfold EX;go_simp;exact hK
    clear Z;intro a Z;refine CO (i:=10) rfl rfl (by kernel_rfl) (by kernel_rfl) (by kernel_rfl) ⟨K4,hO⟩ ?_;refine Z.amv rfl rfl rfl (.inl rfl) rfl (by decide) rfl ?_;clear Z;intro a Z;refine Hq (i:=2) (by kernel_rfl) ?_;refine Z.ae rfl rfl rfl rfl (by decide) (fun K hK =>?_);have e60:=Z.g 60;unfold BQ;go_simp;refine Af (G:=fun W=>K _ W) ?_;obtain ⟨b61,hg⟩:∃ b,b=x.heap.size:=⟨_,rfl⟩;have hh_b61:hb < b61:=by rw [hg];exact hH.lt
    intro x hz K61 hb2;rw [← hg] at K61 ⊢;have hhE161:w.heap.size≤b61:=by rw [hg];exact hE1.size
    have h4_61:b4 < b61:=by rw [hg];exact K4.lt
    replace hE1:=hE1.bel hb2;replace hH:=hH.below hb2;replace hO:=hO.below hb2;replace hW:=hW.below hb2;replace K4:=K4.below hb2;clear hz hg hb2;clear e60;refine hK _ _ ⟨K4,hO⟩ ?_;clear Z hK;intro a Z;refine Hq (i:=3) (by kernel_rfl) ?_;refine Z.ae rfl rfl rfl rfl (by decide) (fun K hK =>?_);have e59:=Z.g 59;have e61:=Z.g 61;have hWo:=hW;clear hW;refine Us (k:=1) (A:=some ⟨b61,0,none⟩) (c:=1) (ys:=[(kk:Int)]) 29 (.tmp 59) (.tmp 61) Try.underlying29 (z := .int .i64 0) (bytes:=8) (by kernel_rfl) rfl (by decide) (by decide) rfl (by simp [Act.eval,Array.getD_eq_getD_getElem?,e59]) hWo (by simp [Act.eval,Array.getD_eq_getD_getElem?,e61]) (YQ (f:=fun x:Int=>[Value.int .i64 x]) K61 rfl) (fun _=>rfl) (LV _) (by first | omega | (simp;omega)) (hE1.size) ?_;intro v_ xx hN_ hG _ _;replace hE1:=hE1.Ij hG (fun g_ hg_=>(hWo.Ai hg_).1);replace hH:=hH.Ij hG (fun g_ hg_=>Nat.lt_of_lt_of_le hhx (hWo.Ai hg_).1);replace hO:=hO.VP hG hWo (by decide) (by decide) (by decide);replace K4:=K4.VP hG hWo (by decide);obtain ⟨wa2,wc2,rfl,_,_,_⟩:=hN_.cells (fun _=>rfl);clear hG K61 hWo;have hW:=hN_;clear hN_;obtain ⟨x,hx2⟩:∃ x,x=xx:=⟨_,rfl⟩;rw [← hx2] at hE1 hH hO K4 hW ⊢;clear hx2;clear e59 e61;refine hK _ _ ⟨K4,hO⟩ ?_;clear Z hK;intro a Z;refine JH (by kernel_rfl) ?_;refine og fun K hK =>?_
    have e68:=Z.g 68;have e69:=Z.g 69;unfold Oper.wp;go_simp;refine (Su (s:=t.roads.strips[kk])).mono ?_;rintro e x ⟨rfl,hb2⟩;replace hE1:=hE1.bel hb2;replace hH:=hH.below hb2;replace hO:=hO.below hb2;replace K4:=K4.below hb2;replace hW:=hW.below hb2;clear hb2;clear e68 e69;refine Z.K hK ?_;clear Z hK;intro a Z;(iterate 2 refine Z.s ?_;clear Z;intro a Z);refine od ?_;refine wr ?_;refine Z.s ?_;clear Z;intro a Z;refine og fun K hK =>?_
    have e17:=Z.g 17;have hw18:=IntWalk.i64_in ((n:Int)-1) (by omega);unfold Oper.wp;go_simp;clear e17;refine Z.K hK ?_;clear Z hK;intro a Z;refine Z.s ?_;clear Z;intro a Z;refine od ?_;obtain ⟨m,rfl⟩:∃ m,n=m+1:=⟨n-1,by omega⟩;have e9:((m+1:Nat):Int)-1=(m:Int):=by omega
    rw [e9] at Z;have hnk:=HNK.out;have HC2:=Lib.hid (HC.out.snoc hnk.1.1 hnk.1.2 hnk.2.1);have efv:t.roads.strips.getD ((kk:Nat):Int).toNat default=t.roads.strips[kk]:=by simp [List.getD_eq_getElem?_getD,hkkl]
    rw [efv] at HC2;have HD2:=Lib.hid (Xf HD.out hnk.2.2);exact ⟨m,by omega,_,wa2,wc2,_,by omega,by simp only [List.length_append,List.length_cons,List.length_nil];omega,HD2,HC2,Z.sb,hE1,hH.more (by omega),hO,hW,K4⟩
 ·have q0:¬ (0:Int) < (n:Int):=by omega
  refine Z.s ?_;clear Z;intro a Z;refine od ?_;refine wp_cond_false (Z.ev 16 rfl) ?_;refine wp_exit ?_;refine wsr ?_;(iterate 4 refine Z.s ?_;clear Z;intro a Z);refine od ?_;refine wp_ret ?_
  try simp only [Exit.then,Exit.inBlock]
  refine bodyPost_ret (v := .tuple #[.slice wa way.length wc, .int .i64 at_]) ?_ Z.defers ⟨way,wa,wc,at_,rfl,hW,by omega,HD.out,HC.out,hH.more (by omega),hE1⟩;simp [results,Try.results22,Z.get 6 _ rfl,Z.get 7 _ rfl]
end
section
open Go.RowKit
end
section
open Go.RowKit
end
section
open Go Go.Conc Go.RowKit
structure YE (x:World) (B:Nat) (v1:Value) (l1:List AB) (v2:Value) (l2:List AB):Prop where
 h1:D7 x B v1 l1
 h2:D7 x B v2 l2
 ne:∀ g,v1.ownBlock=some g→v2.ownBlock≠some g
section
variable {x x' w:World} {B b m:Nat} {v1 v2 v:Value} {l1 l2 l:List AB} {cs:Array Value} {e:TypeId} {r:Option Nat}
theorem YE.nil:YE x B (.slice none 0 0) [] (.slice none 0 0) []:=⟨AX.nil,AX.nil,fun g h=>by simp [Value.ownBlock] at h⟩
end
section
variable {w:World} {a b n:Nat} {f g:Nat→Int}
theorem PY (h:Rw w a (J4 (EL f n)) 3):Aw w (some ⟨a,0,none⟩) (EL f n):=Cj h
theorem Zk (ha:Rw w a (J4 (EL f n)) 3) (hn:n≤1000000) (hB:Hid (∀ i,i < n→-1000000000≤f i∧f i≤1000000000)):Calls Try.prog 32 #[.slice (some ⟨a,0,none⟩) n n] w (fun e w'=>e = .returned (.int .i64 (Gf (EL f n)))∧w=w'):=by
 have h:=total_any (lc:=n) (PY ha) (by rw [Fv];exact hn) (fun y hy=>by
  simp only [EL,List.mem_map,List.mem_range] at hy;obtain ⟨i,hi,rfl⟩:=hy;exact hB.out i hi)
 rw [Fv] at h;exact h
end
section
variable {w:World} {t:Ac} {s:DN} {l:List AB} {la:Option Addr} {lc:Nat}
end
theorem Wh {t:Ac} {l:List AB} (ho:CU t l=0) (o:Nat) (hol:o < t.Ae.length):0≤FT t l o∧FT t l o≤30000:=by
 have hT:=JX ho;have hf:=(Eh ho).1
 have h24:l.length≤24:=Classical.byContradiction fun c=>by
  unfold CU at ho;rw [if_neg (by rw [hT];simp),if_pos (by omega)] at ho;exact absurd ho (by decide)
 obtain ⟨_,_,_,_,_,hp,_,h6,h9⟩:=Bi hT;have hF:=VV ho
 have hat:∀ i,i < t.Ah.length→0≤atL t l o i∧atL t l o i≤960000:=fun i hi=>by
  have hs:=EJ hf ((i:Int),(o:Int));have e:t.Ah.getD i default=t.Ah[i]:=by simp [List.getD_eq_getElem?_getD,hi]
  have hr:=Aj.1 (JM h9 _ (List.getElem_mem hi)).2.1;have hfr:=(hF.pf _ (getD_mem hol)).1;unfold atL;rw [e];generalize (t.Ae.getD o default).free=fr at *;generalize (t.Ae.getD o default).half=hf2 at *;generalize Aq l ((i:Int),(o:Int))=q at *;generalize t.Ah[i].rate=r at *;have h0:0≤(if fr < q then q-fr else 0)∧(if fr < q then q-fr else 0)≤960:=by split <;> omega
  have h1:=Int.mul_le_mul h0.2 hr.2 hr.1 (by omega);have h2:=Int.mul_nonneg h0.1 hr.1;unfold ofV
  cases hf2 <;> simp only [if_true,Bool.false_eq_true,if_false] <;> omega
 have hs:∀ n,n≤t.Ah.length→0≤FK (atL t l o) n∧FK (atL t l o) n≤960000*(n:Int):=fun n=>by
  induction n with
  | zero=>intro _;simp [FK]
  | succ n ih =>
   intro hn;have h1:=ih (by omega);have h2:=hat n (by omega);simp only [FK];push_cast;omega
 have h3:=hs _ (Nat.le_refl _);unfold FT KO FD
 omega
end
section
open Go Go.Conc Go.RowKit
section
variable {w:World} {t:Ac} {s:DN} {fr N:Int} {way:List Int} {wa:Option Addr} {wc:Nat}
theorem ZJ (hT:CW w t s) (hw:Aw w wa way) (hwc:way.length≤wc) (hwl:way.length≤8) (hc:Hid (Nl t fr way=(N,0))):Calls Try.prog 34 #[.agg (EU t s), .int .i64 fr, .slice wa way.length wc] w (fun e w'=>e = .returned (.tuple #[.int .i64 N, .int .i64 0])∧Below w.heap.size w w'):=by
 have h:=Wu (from_:=fr) hT hw hwc (by omega);rw [hc.out] at h;exact h
theorem ZO (hT:CW w t s) (hw:Aw w wa way) (hwc:way.length≤wc) (hwl:way.length≤8) (hc:Hid (Bz t fr way=(En t way,0))):Calls Try.prog 35 #[.agg (EU t s), .int .i64 fr, .slice wa way.length wc] w (fun e w'=>∃ la lc,e = .returned (.tuple #[.slice la (En t way).length lc, .int .i64 0])∧Fb w' la (En t way)∧Below w.heap.size w w'):=by
 refine (N8 (from_:=fr) hT hw hwc (by omega)).mono ?_;rintro e w' ⟨hb,v,he,hO,_⟩;rw [hc.out] at he hO;obtain ⟨la,lc,rfl,_,_,_⟩:=AX.cells hO (fun _=>rfl);exact ⟨la,lc,he,D7.pass hO,hb⟩
end
end
end Go.Proofs.Ytgdobbcjkiapkaa
