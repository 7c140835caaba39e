import Derived.Test.YtgdobbcjkiapkaaFm36
import Derived.Test.YtgdobbcjkiapkaaFm04
import Derived.Test.YtgdobbcjkiapkaaFm37
import Derived.Test.YtgdobbcjkiapkaaFm34
namespace Go.Proofs.Ytgdobbcjkiapkaa
set_option maxRecDepth 100000
set_option maxHeartbeats 4000000
set_option linter.unusedSimpArgs false
set_option linter.unusedVariables false
section
open Go.RowKit
def FM (nt np:Nat) (l:List Am):Prop:=∀ p∈l,0≤p.toll∧p.toll < (nt:Int)∧0≤p.owner∧p.owner < (np:Int)∧1≤p.heads∧p.heads≤40
theorem FM.add {nt np:Nat} {l:List Am} (h:FM nt np l) {a b c:Int} (h0:0≤a) (h1:a < (nt:Int)) (h2:0≤b) (h3:b < (np:Int)) (hc:1≤c∧c≤40):FM nt np (l++[⟨a,b,c⟩]):=fun x hx=>by
 rcases List.mem_append.1 hx with hx | hx
 ·exact h x hx
 ·rw [List.mem_singleton.1 hx];exact ⟨h0,h1,h2,h3,hc⟩
theorem Uj:Try.f29.body=some (Code.seq (Aa Try.f29 0) (Code.seq (Aa Try.f29 1) (Code.seq (Code.seq (Aa Try.f29 2) (Code.block 0 (Code.loop (Code.seq (Code.seq (Aa Try.f29 3) (Code.cond (Operand.tmp 19) Code.skip (Code.exit 0))) (Code.seq (Code.block 1 (Aa Try.f29 5)) (Aa Try.f29 4)))))) (Code.seq (Aa Try.f29 6) Code.ret)))):=by kernel_rfl
theorem TT {w:World} {hb B:Nat} {ha:Option Addr} {hn hc:Nat} {t:Ad} {s:DY} {most:Nat} (hH:AU w hb B ha hn hc) (hB:B≤900000) (hnt:t.Ag.length≤100) (hnp:t.Ac.length≤100) (hp1:1≤t.Ac.length) (hm:most≤100):Calls Try.prog 29 #[.pointer (some ⟨hb,0,none⟩), .agg (EK t s), .int .i64 (most:Int)] w (fun e w'=>∃ l v,e = .returned v∧BP w' w.heap.size v l∧l.length≤most∧FM t.Ag.length t.Ac.length l∧AU w' hb (B+1+5*most) ha hn hc∧Ext hb w w'):=by
 have hE:=Ext.refl hb w;have hhb:=hH.lt;refine Pg Try.func29 Uj Try.ntmps29 ?_;intro a Z;refine wsr ?_;refine Z.s ?_;clear Z;intro a Z;refine Af (G:=fun W=>wpOps _ _ _ _ _ W) ?_;obtain ⟨b4,hg⟩:∃ b,b=w.heap.size:=⟨_,rfl⟩;intro x hz K4 hb2;rw [← hg] at Z K4;have hhE4:w.heap.size≤b4:=by rw [hg];exact hE.size
 replace hH:=hH.below hb2;replace hE:=hE.bel hb2;clear hz hg hb2;have hlt4:hb < b4:=by omega
 have hO:BP x (b4+1) (.slice none 0 0) []:=Be.nil;refine Z.s ?_;clear Z;intro a Z;refine od ?_;refine wsr ?_;refine Z.s ?_;clear Z;intro a Z;refine od ?_;refine wp_seq ?_;refine wsr ?_;(iterate 2 refine Z.s ?_;clear Z;intro a Z);refine og fun K hK =>?_
 have e9:=Z.g 9;have e10:=Z.g 10;unfold Oper.wp;go_simp;refine (CP _ _ _ _ _ _ hH (by omega) ((most:Int)) (by omega) (by omega)).mono ?_;rintro e x ⟨_,⟨z11,p11,q11,rfl⟩,rfl,hH,hE2⟩;replace hE:=hE.trans hE2;replace K4:=K4.ext hE2 (by omega);replace hO:=hO.ext hE2 (by omega);clear hE2;clear e9 e10;refine Z.K hK ?_;clear Z hK;intro a Z;refine Z.s ?_;clear Z;intro a Z;refine od ?_;refine wp_block ?_;obtain ⟨m,rfl⟩:∃ m:Nat,z11=(m:Int):=⟨z11.toNat,by omega⟩;have hmm:m≤most:=by omega
 refine wp_loop_ghost (fun n p x=>∃ l vl,n≤most∧l.length+n≤most∧FM t.Ag.length t.Ac.length l∧Sl p 46 [(0, .pointer (some ⟨hb,0,none⟩)),(4, .pointer (some ⟨b4,0,none⟩)),(7,vl),(8, .int .i64 (n:Int))]∧Rw x b4 (EK t s) 28∧BP x (b4+1) vl l∧AU x hb (B+1+5*(most-n)) ha hn hc∧Ext hb w x) m ⟨[],_,hmm,by simpa using hmm,fun p h=>by simp at h,Z.sb,K4,hO,hH.more (by omega),hE⟩ ?_;clear Z K4 hO hH hE p11 q11 hmm;rintro n a x ⟨l,vl,hnm,hln,hG,Z,K4,hO,hH,hE⟩;have HG:=Lib.hid hG;clear hG;have hD:B+1+5*(most-n)≤901000:=by omega
 refine wp_seq ?_;refine wsr ?_;refine Z.s ?_;clear Z;intro a Z
 by_cases h0:0 < n
 ·have q1:(0:Int) < (n:Int):=by omega
  (iterate 2 refine Z.s ?_;clear Z;intro a Z);refine Z.t ?_;clear Z;intro a Z;refine oW (Z.g 14) fun K hK =>?_
  have e15:=Z.g 15;have c5:=K4.cell (o:=5) (v := .slice s.ta t.Ag.length s.tc) rfl;unfold Oper.wp;go_simp;clear e15;refine Z.K hK ?_;clear Z hK;intro a Z;refine Z.t ?_;clear Z;intro a Z
  by_cases h1:0 < t.Ag.length
  ·have q2:(0:Int) < (t.Ag.length:Int):=by omega
   refine Z.t ?_;clear Z;intro a Z;refine Z.s ?_;clear Z;intro a Z;refine od ?_;refine wp_cond_true (Z.ev 19 rfl) ?_;refine wp_skip ?_;refine wp_seq ?_;refine wp_block ?_;have hb2:Below x.heap.size x x.drew:=(Below.refl _ _).drew;replace K4:=K4.below hb2;replace hO:=hO.below hb2;replace hH:=hH.below hb2;replace hE:=hE.bel hb2;refine Lu [[],[],[],[2],[2,3],[2,3,4],[1,2,3,4,5],[],[],[8],[8,9],[8,9,10],[1,2,3,4,5,6,7,8,9,10,11],[],[],[1,2,3,4,5,6,7,8,9,10,11,12,14],[],[1,2,3,4,5,6,7,8,9,10,11,12,14,15,16],[1,2,3,4,5,6,7,8,9,10,11,12,14,15,16,17],[1,2,3,4,5,6,7,8,9,10,11,12,13,14,15,16,17,18],[1,2,3,4,5,6,7,8,9,10,11,12,13,14,15,16,17,18,19],[1,2,3,4,5,6,7,8,9,10,11,12,13,14,15,16,17,18,19,20],[0,1,2,3,4,5,6,7,8,9,10,11,12,13,14,15,16,17,18,19,20,21],[0,1,2,3,4,5,6,7,8,9,10,11,12,13,14,15,16,17,18,19,20,21,22]] (fun i=>[6,12,15,17,18,19,21,22].contains i) (fun y=>Rw y b4 (EK t s) 28) rfl (by kernel_rfl) (by kernel_rfl) K4 ?_;clear hb2;obtain ⟨x,hx2⟩:∃ q,q=x.drew:=⟨_,rfl⟩;rw [← hx2] at K4 hO hH hE ⊢;clear hx2;refine Z.mmv rfl rfl rfl (.inl rfl) rfl (by decide) rfl ?_;clear Z;intro a Z;refine Z.mmv rfl rfl rfl (.inl rfl) rfl (by decide) rfl ?_;clear Z;intro a Z
   refine Z.mr rfl rfl rfl rfl (by decide) ⟨?_,fun y hy K hK =>?_,?_⟩;rotate_left
   ·have e4:=Z.g 4;unfold Du;go_simp;exact hK
   clear Z;intro a Z;refine Z.mr rfl rfl rfl rfl (by decide) ⟨?_,fun y hy K hK =>?_,?_⟩;rotate_left
   ·have e24:=Z.g 24;have K4:=hy;refine DD (AC rfl (Z.ev 24 rfl) Try.underlying26 rfl (K4.cell (o:=5) (v := .slice s.ta t.Ag.length s.tc) rfl)) ?_;exact hK
   clear Z;intro a Z;refine Z.mr rfl rfl rfl rfl (by decide) ⟨?_,fun y hy K hK =>?_,?_⟩;rotate_left
   ·have e25:=Z.g 25;unfold Du;go_simp;exact hK
   clear Z;intro a Z;refine Z.mr rfl rfl rfl rfl (by decide) ⟨?_,fun y hy K hK =>?_,?_⟩;rotate_left
   ·have e26:=Z.g 26;have hw27:=IntWalk.i64_in ((t.Ag.length:Int)-1) (by omega);unfold Du;go_simp;exact hK
   clear Z;intro a Z;refine Z.me rfl rfl rfl rfl (by decide) (fun K hK =>?_);have e23:=Z.g 23;have e27:=Z.g 27;unfold BL;go_simp;refine (CP _ _ _ _ _ _ hH (by omega) (((t.Ag.length:Int)-1)) (by omega) (by omega)).mono ?_;rintro e x ⟨_,⟨z28,p28,q28,rfl⟩,rfl,hH,hE2⟩;replace K4:=K4.ext hE2 (by omega);replace hO:=hO.ext hE2 (by omega);replace hE:=hE.trans hE2;clear hE2;refine ⟨_,rfl,?_⟩;clear e23 e27;refine hK _ _ K4 ?_;clear Z hK;intro a Z;refine Z.mmv rfl rfl rfl (.inl rfl) rfl (by decide) rfl ?_;clear Z;intro a Z;refine Z.mr rfl rfl rfl rfl (by decide) ⟨?_,fun y hy K hK =>?_,?_⟩;rotate_left
   ·have e4:=Z.g 4;unfold Du;go_simp;exact hK
   clear Z;intro a Z;refine Z.mr rfl rfl rfl rfl (by decide) ⟨?_,fun y hy K hK =>?_,?_⟩;rotate_left
   ·have e30:=Z.g 30;have K4:=hy;refine DD (AC rfl (Z.ev 30 rfl) Try.underlying25 rfl (K4.cell (o:=4) (v := .slice s.pa t.Ac.length s.pc) rfl)) ?_;exact hK
   clear Z;intro a Z;refine Z.mr rfl rfl rfl rfl (by decide) ⟨?_,fun y hy K hK =>?_,?_⟩;rotate_left
   ·have e31:=Z.g 31;unfold Du;go_simp;exact hK
   clear Z;intro a Z;refine Z.mr rfl rfl rfl rfl (by decide) ⟨?_,fun y hy K hK =>?_,?_⟩;rotate_left
   ·have e32:=Z.g 32;have hw33:=IntWalk.i64_in ((t.Ac.length:Int)-1) (by omega);unfold Du;go_simp;exact hK
   clear Z;intro a Z;refine Z.me rfl rfl rfl rfl (by decide) (fun K hK =>?_);have e29:=Z.g 29;have e33:=Z.g 33;unfold BL;go_simp;refine (CP _ _ _ _ _ _ hH (by omega) (((t.Ac.length:Int)-1)) (by omega) (by omega)).mono ?_;rintro e x ⟨_,⟨z34,p34,q34,rfl⟩,rfl,hH,hE2⟩;replace K4:=K4.ext hE2 (by omega);replace hO:=hO.ext hE2 (by omega);replace hE:=hE.trans hE2;clear hE2;refine ⟨_,rfl,?_⟩;clear e29 e33;refine hK _ _ K4 ?_;clear Z hK;intro a Z;refine Z.mmv rfl rfl rfl (.inl rfl) rfl (by decide) rfl ?_;clear Z;intro a Z;refine Z.mmv rfl rfl rfl (.inl rfl) rfl (by decide) rfl ?_;clear Z;intro a Z;refine Z.me rfl rfl rfl rfl (by decide) (fun K hK =>?_);have e36:=Z.g 36;unfold BL;go_simp;refine (CG _ _ _ _ _ _ hH (by omega) (1) (4) (by omega) (by omega) (by omega) (by omega)).mono ?_;rintro e x ⟨_,⟨z37,p37,q37,rfl⟩,rfl,hH,hE2⟩;replace K4:=K4.ext hE2 (by omega);replace hO:=hO.ext hE2 (by omega);replace hE:=hE.trans hE2;clear hE2;refine ⟨_,rfl,?_⟩;clear e36;refine hK _ _ K4 ?_;clear Z hK;intro a Z;refine Z.mmv rfl rfl rfl (.inl rfl) rfl (by decide) rfl ?_;clear Z;intro a Z;refine Z.me rfl rfl rfl rfl (by decide) (fun K hK =>?_);have e38:=Z.g 38;unfold BL;go_simp;refine (CG _ _ _ _ _ _ hH (by omega) (1) (40) (by omega) (by omega) (by omega) (by omega)).mono ?_;rintro e x ⟨_,⟨z39,p39,q39,rfl⟩,rfl,hH,hE2⟩
   replace K4:=K4.ext hE2 (by omega);replace hO:=hO.ext hE2 (by omega);replace hE:=hE.trans hE2;clear hE2;refine ⟨_,rfl,?_⟩;clear e38;refine hK _ _ K4 ?_;clear Z hK;intro a Z;refine Z.me rfl rfl rfl rfl (by decide) (fun K hK =>?_);have e39:=Z.g 39;unfold BL;go_simp;refine Af (G:=fun W=>K _ W) ?_;obtain ⟨b40,hg⟩:∃ b,b=x.heap.size:=⟨_,rfl⟩;intro x hz K40 hb2;rw [← hg] at K40 ⊢;have hhE40:w.heap.size≤b40:=by rw [hg];exact hE.size
   have h4_40:b4 < b40:=by rw [hg];exact K4.lt
   replace K4:=K4.below hb2;replace hO:=hO.below hb2;replace hH:=hH.below hb2;replace hE:=hE.bel hb2;clear hz hg hb2;clear e39;refine hK _ _ K4 ?_;clear Z hK;intro a Z;refine Z.me rfl rfl rfl rfl (by decide) (fun K hK =>?_);have e35:=Z.g 35;have e37:=Z.g 37;have e40:=Z.g 40;unfold BL;go_simp;refine (JO _ _ _ _ _ _ hH (by omega) (z37) _ _ [z39] (BN (l:=[z39]) K40) (fun ad h=>by cases h;show b40≠hb;omega) (by simp)).mono ?_;rintro e x ⟨_,⟨z41,m41,rfl⟩,rfl,hH,hE2⟩;replace K4:=K4.ext hE2 (by omega);replace hO:=hO.ext hE2 (by omega);replace hE:=hE.trans hE2;replace K40:=K40.ext hE2 (by omega);clear hE2;have m41:Hid (z41∈z37 :: [z39]):=Lib.hid m41;clear K40;refine ⟨_,rfl,?_⟩;clear e35 e37 e40;refine hK _ _ K4 ?_;clear Z hK;intro a Z;refine Z.mr rfl rfl rfl rfl (by decide) ⟨?_,fun y hy K hK =>?_,?_⟩;rotate_left
   ·have e28:=Z.g 28;have e34:=Z.g 34;have e41:=Z.g 41;unfold Du;go_simp;exact hK
   clear Z;intro a Z;refine Z.me rfl rfl rfl rfl (by decide) (fun K hK =>?_);have e42:=Z.g 42;unfold BL;go_simp;refine Af (G:=fun W=>K _ W) ?_;obtain ⟨b43,hg⟩:∃ b,b=x.heap.size:=⟨_,rfl⟩;intro x hz K43 hb2;rw [← hg] at K43 ⊢;have hhE43:w.heap.size≤b43:=by rw [hg];exact hE.size
   have h4_43:b4 < b43:=by rw [hg];exact K4.lt
   replace K4:=K4.below hb2;replace hO:=hO.below hb2;replace hH:=hH.below hb2;replace hE:=hE.bel hb2;clear hz hg hb2;clear e42;refine hK _ _ K4 ?_;clear Z hK;intro a Z;refine Z.me rfl rfl rfl rfl (by decide) (fun K hK =>?_);have e22:=Z.g 22;have e43:=Z.g 43;refine SL (k:=3) 48 (.tmp 22) (.tmp 43) Try.underlying48 (z := .agg #[.int .i64 0, .int .i64 0, .int .i64 0]) (bytes:=24) (by kernel_rfl) rfl (by decide) (by decide) rfl (by simp [Act.eval,Array.getD_eq_getD_getElem?,e22]) hO b43 ⟨z28,z34,z41⟩ (by simp [Act.eval,Array.getD_eq_getD_getElem?,e43]) rfl (fun j u hu=>K43.cell (by simpa [KL] using hu)) (fun u hu=>by simp [KL] at hu;rcases hu with rfl | rfl | rfl <;> rfl) (by omega) (by have:=K4.lt;omega) ?_;intro vl x hO hB2 _;replace K4:=K4.ES hB2 (by omega);replace hH:=hH.ES hB2 (by omega);replace hE:=hE.app hB2 (by omega);clear hB2 K43;clear e22 e43;refine hK _ _ K4 ?_;clear Z hK;intro a Z;refine Z.mmv rfl rfl rfl (.inr rfl) rfl (by decide) rfl ?_;clear Z;intro a Z;refine Qa ?_;refine wr ?_;refine Z.s ?_;clear Z;intro a Z;refine og fun K hK =>?_
   have e20:=Z.g 20;have hw21:=IntWalk.i64_in ((n:Int)-1) (by omega);unfold Oper.wp;go_simp;clear e20;refine Z.K hK ?_;clear Z hK;intro a Z;refine Z.s ?_;clear Z;intro a Z;refine od ?_;obtain ⟨m,rfl⟩:∃ m,n=m+1:=⟨n-1,by omega⟩;have e8:((m+1:Nat):Int)-1=(m:Int):=by omega
   rw [e8] at Z;refine ⟨m,by omega,l++[⟨z28,z34,z41⟩],vl,by omega,by simp;omega,HG.out.add (by omega) (by omega) (by omega) (by omega) ?_,Z.sb,K4,hO,hH.more (by omega),hE⟩;have h41:=m41.out;simp only [List.mem_cons,List.mem_nil_iff,or_false] at h41;rcases h41 with rfl | rfl <;> exact ⟨by omega,by omega⟩
  ·have q2:¬ (0:Int) < (t.Ag.length:Int):=by omega
   refine Z.t ?_;clear Z;intro a Z;refine Z.s ?_;clear Z;intro a Z;refine od ?_;refine wp_cond_false (Z.ev 19 rfl) ?_;refine wp_exit ?_;refine wsr ?_;(iterate 2 refine Z.s ?_;clear Z;intro a Z);refine od ?_;refine wp_ret ?_
   try simp only [Exit.then,Exit.inBlock]
   refine bodyPost_ret (v:=vl) ?_ Z.defers ⟨l,vl,rfl,hO.lower (by omega),by omega,HG.out,hH.more (by omega),hE⟩;simp [results,Try.results29,Z.get 6 _ rfl]
 ·have q1:¬ (0:Int) < (n:Int):=by omega
  (iterate 2 refine Z.s ?_;clear Z;intro a Z);refine Z.z ?_;clear Z;intro a Z;refine Z.z ?_;clear Z;intro a Z;refine Z.z ?_;clear Z;intro a Z
  by_cases h1:0 < t.Ag.length
  ·have q2:(0:Int) < (t.Ag.length:Int):=by omega
   refine Z.z ?_;clear Z;intro a Z;refine Z.s ?_;clear Z;intro a Z;refine od ?_;refine wp_cond_false (Z.ev 19 rfl) ?_;refine wp_exit ?_;refine wsr ?_;(iterate 2 refine Z.s ?_;clear Z;intro a Z);refine od ?_;refine wp_ret ?_
   try simp only [Exit.then,Exit.inBlock]
   refine bodyPost_ret (v:=vl) ?_ Z.defers ⟨l,vl,rfl,hO.lower (by omega),by omega,HG.out,hH.more (by omega),hE⟩;simp [results,Try.results29,Z.get 6 _ rfl]
  ·have q2:¬ (0:Int) < (t.Ag.length:Int):=by omega
   refine Z.z ?_;clear Z;intro a Z;refine Z.s ?_;clear Z;intro a Z;refine od ?_;refine wp_cond_false (Z.ev 19 rfl) ?_;refine wp_exit ?_;refine wsr ?_;(iterate 2 refine Z.s ?_;clear Z;intro a Z);refine od ?_;refine wp_ret ?_
   try simp only [Exit.then,Exit.inBlock]
   refine bodyPost_ret (v:=vl) ?_ Z.defers ⟨l,vl,rfl,hO.lower (by omega),by omega,HG.out,hH.more (by omega),hE⟩;simp [results,Try.results29,Z.get 6 _ rfl]
end
section
open Go Go.RowKit
theorem OE {D S:Int} {s:Strip} (h:Ku D S s) (_hD:1≤D):CO s D S=0:=by
 obtain ⟨h1,h2,h3,h4,h5,h6,h7,h8,h9,hk⟩:=h;unfold CO;have b1:btw s.A 0 (S-1)=true:=Ak.2 (by omega);have b2:btw s.B 0 (S-1)=true:=Ak.2 (by omega);have b3:(s.A == s.B)=false:=by simpa using h5
 have b4:btw s.L 1 9=true:=Ak.2 (by omega);have b5:btw s.W 1 99=true:=Ak.2 (by omega);simp only [b1,b2,b3,b4,b5,Bool.not_true,Bool.or_self,Bool.false_eq_true,if_false];unfold G5;rcases hk with ⟨k,x,y⟩ | ⟨k,x,y,z⟩ | ⟨k,x,y,z,u⟩ | ⟨k,x,y,z⟩
 all_goals
  rw [if_pos (by simp [k])];rw [if_pos];unfold GZ;simp only [k];simp
 ·exact ⟨x,y⟩
 ·exact ⟨Ak.2 (by omega),Ak.2 (by omega)⟩
 ·exact ⟨Ak.2 (by omega),Ak.2 (by omega)⟩
 ·exact ⟨Ak.2 (by omega),z⟩
theorem IU {D S:Int} (hD:1≤D):∀ {l:List Strip},(∀ s∈l,Ku D S s)→Bl D S l=0
 | [],_=>rfl
 | s :: l,h=>by
  have h1:=OE (h s (by simp)) hD;unfold Bl;rw [h1]
  simpa using IU hD fun x hx=>h x (by simp [hx])
theorem OX {D S A k L W K X Y:Int} (hS:2≤S) (h0:0≤A) (h1:A≤max (S-1) 0) (k1:1≤k) (k2:k≤max (S-1) 1) (l1:1≤L) (l2:L≤max 4 1) (hW:W∈(90:Int) :: [90,90,45,25])
  (hk:(K=1∧X=0∧Y=0)∨(K=2∧0≤X∧X≤Y∧Y < D)∨(K=3∧0≤X∧X≤20∧-5≤Y∧Y≤5)∨(K=4∧1≤X∧X≤40∧Y=0)):Ku D S ⟨A,(A+k) % S,L,W,K,X,Y⟩:=by
 have e1:=Int.emod_nonneg (A+k) (show S≠0 by omega);have e2:=Int.emod_lt_of_pos (A+k) (show 0 < S by omega)
 have hne:A≠(A+k) % S:=by
  by_cases hlt:A+k < S
  ·rw [Int.emod_eq_of_lt (by omega) hlt];omega
  ·have:(A+k) % S=A+k-S:=by
    rw [← Int.sub_emod_right,Int.emod_eq_of_lt (by omega) (by omega)]
   rw [this];omega
 have hw:1≤W∧W≤99:=by
  simp only [List.mem_cons,List.mem_nil_iff,or_false] at hW
  omega
 exact ⟨h0,by show A < S;omega,e1,e2,hne,by show 1≤L;omega,by show L≤9;omega,hw.1,hw.2,hk⟩
theorem KA {n:Int} {x:BB}:∀ {l pre:List BB},BM n pre l=0→BQ n (pre++l) x=0→BM n pre (l++[x])=0
 | [],pre,_,h=>by
  rw [List.append_nil] at h;show (if BQ n pre x=0 then BM n (pre++[x]) [] else BQ n pre x)=0;rw [if_pos h];rfl
 | y :: l,pre,h1,h2=>by
  have hy:BQ n pre y=0:=by
   by_cases c:BQ n pre y=0
   ·exact c
   ·rw [BM,if_neg c] at h1;exact absurd h1 c
  rw [BM,if_pos hy] at h1;show (if BQ n pre y=0 then BM n (pre++[y]) (l++[x]) else BQ n pre y)=0;rw [if_pos hy];exact KA h1 (by rw [List.append_assoc];exact h2)
structure UR (ns nt:Nat) (t:Ad):Prop where
 ok:Aq t=0
 ls:t.roads.strips.length≤ns
 lt:t.Ag.length≤nt
 lp:t.Ac.length≤3
 p1:1≤t.Ac.length
 st:2≤t.roads.stages∧t.roads.stages≤4
theorem Ur {ps:List BA} (h:∀ p∈ps,0≤p.heads∧p.heads≤12):0≤AY ps∧AY ps≤12*(ps.length:Int):=by
 induction ps with
 | nil=>simp [AY]
 | cons p l ih =>
  have h1:=h p (by simp);have h2:=ih fun x hx=>h x (by simp [hx])
  simp only [AY,List.length_cons]
  push_cast;omega
theorem TE {ns nt:Nat} {D S pace:Int} {l:List Strip} {p:BA} {ps:List BA} {ts:List BB} (hD:1≤D∧D≤3) (hS:2≤S∧S≤4) (hl:∀ s∈l,Ku D S s) (hns:l.length≤ns) (h8:ns≤8) (hp:1≤pace∧pace≤9)
  (hps:∀ q∈p :: ps,(0≤q.heads∧q.heads≤12)∧0≤q.free∧q.free≤5) (hn:ps.length≤2) (ht:BM l.length [] ts=0) (hnt:ts.length≤nt) (h6:nt≤6):UR ns nt ⟨⟨D,S,l⟩,pace,{ p with heads:=p.heads+1 } :: ps,ts⟩:=by
 refine ⟨?_,hns,hnt,by show ps.length+1≤3;omega,by show 1≤ps.length+1;omega,hS⟩
 have c1:BJ ⟨D,S,l⟩=0:=by
  unfold BJ;have b1:btw D 1 10=true:=Ak.2 (by omega);have b2:btw S 1 6=true:=Ak.2 (by omega);simp only [b1,b2,Bool.not_true,Bool.or_self,Bool.false_eq_true,if_false];rw [if_neg (by omega)];exact IU hD.1 hl
 have hh:=Ur (ps:=ps) fun q hq=>(hps q (by simp [hq])).1
 have h0:=hps p (by simp)
 have c2:({ p with heads:=p.heads+1 } :: ps).all Bc=true:=by
  rw [List.all_eq_true];intro q hq;unfold Bc;rw [Bool.and_eq_true];rcases List.mem_cons.1 hq with rfl | hq
  ·exact ⟨Ak.2 (by show 0≤p.heads+1∧p.heads+1≤40;omega),Ak.2 (by show 0≤p.free∧p.free≤40;omega)⟩
  ·have:=hps q (by simp [hq]);exact ⟨Ak.2 (by omega),Ak.2 (by omega)⟩
 have c3:btw (AY ({ p with heads:=p.heads+1 } :: ps)) 1 40=true:=Ak.2 (by simp only [AY];omega)
 have c4:SG (({ p with heads:=p.heads+1 } :: ps).length:Int) 1 4=0:=by
  unfold SG;rw [if_neg (by simp only [List.length_cons];push_cast;omega),if_neg (by simp only [List.length_cons];push_cast;omega)]
 have c5:btw pace 1 9=true:=Ak.2 hp;unfold Aq;simp only [c1,c2,c3,c4,c5,ne_eq,not_true_eq_false,if_false,Bool.not_true,Bool.false_eq_true];unfold Fj;rw [if_neg (by show ¬ 6 < ts.length;omega)];exact ht
theorem PD {n X R F z:Int} {ts:List BB} (hn:0 < n) (hX:0≤X∧X≤max (n-1) 0) (hR:R∈(0:Int) :: [25,50,z]) (hz:0≤z∧z≤max 500 0) (hF:1≤F∧F≤max 3 1) (hf:ts.all (fun y=>y.strip != X || y.farmer != F)=true):BQ n ts ⟨X,R,F⟩=0:=by
 have hr:0≤R∧R≤500:=by
  simp only [List.mem_cons,List.mem_nil_iff,or_false] at hR
  omega
 unfold BQ;have b1:btw X 0 (n-1)=true:=Ak.2 (by omega);have b2:btw R 0 500=true:=Ak.2 hr;have b3:btw F 1 4=true:=Ak.2 (by omega)
 have b4:(ts.any fun y=>y.strip == X && y.farmer == F)=false:=by
  rw [List.any_eq_false];intro y hy;have:=(List.all_eq_true.1 hf) y hy;intro hc;rw [Bool.and_eq_true] at hc;simp only [beq_iff_eq] at hc;simp [hc.1,hc.2] at this
 simp only [b1,b2,b3,b4,Bool.not_true,Bool.or_self,Bool.false_eq_true,if_false]
theorem Be.put {α:Type} {f:α→List Value} {e:TypeId} {k:Nat} {w:World} {B g c:Nat} {l:List α} (h:Be f e k w B (.slice (some ⟨g,0,none⟩) l.length c) l) (hf:∀ x,(f x).length=k) {i j:Nat} (hi:i < l.length) (hj:j < k) {y:α} {u:Value} (hy:f y=(f l[i]).set j u) :
  Be f e k (w.setCell ⟨g,i*k+j,none⟩ u) B (.slice (some ⟨g,0,none⟩) (l.set i y).length c) (l.set i y):=by
 obtain ⟨h1,h2⟩:=h;refine ⟨Ef hf _,?_⟩;rcases h2 with ⟨hv,_⟩ | ⟨g',cap,cur,hv,hb,hh,hc,hm,hs,hcells⟩
 ·simp at hv
 ·simp only [Value.slice.injEq,Option.some.injEq,Addr.mk.injEq,and_true,true_and] at hv;obtain ⟨rfl,rfl⟩:=hv;refine .inr ⟨g,c,cur.setIfInBounds (i*k+j) u,by simp,hb,?_,by simpa using hc,hm,by simpa using hs,?_⟩
  ·simp [World.setCell,Array.getElem?_modify,hh]
  ·have hlt:i*k+j < l.length*k:=by
    have:(i+1)*k≤l.length*k:=Nat.mul_le_mul_right k hi;rw [Nat.add_mul] at this;omega
   rw [Array.toList_setIfInBounds,List.length_set,List.take_set,hcells];apply List.ext_getElem?;intro q
   by_cases hq:q < l.length*k
   ·have hk0:0 < k:=by omega
    have hqd:q / k < l.length:=(Nat.div_lt_iff_lt_mul hk0).2 hq;have hqm:q % k < k:=Nat.mod_lt _ hk0;have hsp:q / k*k+q % k=q:=by rw [Nat.mul_comm];exact Nat.div_add_mod q k
    have e1:=flat_get hf (l.set i y) (q / k) (q % k) (by simpa using hqd) hqm;have e2:=flat_get hf l (q / k) (q % k) hqd hqm;rw [hsp] at e1 e2;rw [e1,List.getElem?_set]
    by_cases ei:q / k=i
    ·subst ei;rw [List.getElem_set_self,hy,List.getElem?_set];have hfl:(l.flatMap f).length=l.length*k:=Ef hf l
     by_cases ej:j=q % k
     ·subst ej;rw [if_pos hsp,if_pos rfl,hfl,if_pos hlt,hf,if_pos hj]
     ·rw [if_neg (fun e=>ej (by omega)),if_neg ej,e2]
    ·rw [List.getElem_set_ne (Ne.symm ei),if_neg (fun e=>ei (by rw [← e,Nat.mul_comm,Nat.mul_add_div hk0,Nat.div_eq_of_lt hj];rfl)),e2]
   ·rw [List.getElem?_eq_none (by rw [List.length_set,Ef hf];omega),List.getElem?_eq_none (by rw [Ef hf];simpa using Nat.le_of_not_lt hq)]
theorem Be.at0 {α:Type} {f:α→List Value} {e:TypeId} {k:Nat} {w:World} {B c:Nat} {a:Option Addr} {l:List α} (h:Be f e k w B (.slice a l.length c) l) (hf:∀ x,(f x).length=k) (hpos:0 < l.length):∃ g,a=some ⟨g,0,none⟩∧B≤g∧g < w.heap.size∧(∀ (i:Nat) (hi:i < l.length) (j:Nat) (u:Value),j < k→(f l[i])[j]? = some u→w.cell? ⟨g,i*k+j,none⟩=some u)∧∀ o,w.frozen? ⟨g,o,none⟩=false:=by
 obtain ⟨a',c',hv,_,_,hn,hs⟩:=h.form hf;simp only [Value.slice.injEq,true_and] at hv;obtain ⟨rfl,rfl⟩:=hv
 cases a with
 | none=>have:=(hn rfl).1;subst this;simp at hpos
 | some ad =>
  obtain ⟨g,rfl,hg1,hg2,hc⟩:=hs ad rfl;refine ⟨g,rfl,hg1,hg2,hc,fun o =>?_⟩;rcases h.2 with ⟨hv,_⟩ | ⟨g',cap,cur,hv,_,hh,_⟩
  ·simp at hv
  ·simp only [Value.slice.injEq,Option.some.injEq,Addr.mk.injEq,and_true,true_and] at hv;obtain ⟨rfl,rfl⟩:=hv;simp [World.frozen?,hh]
theorem Ls {α:Type} {P:α→Bool} {l:List α} {k:Nat} (h:k < l.length):(l.take (k+1)).all P=((l.take k).all P && P l[k]):=by
 rw [List.take_succ_eq_append_getElem h,List.all_append];simp
theorem Yy (w:World) (hb B:Nat) (a:Option Addr) (n c:Nat) (h:AU w hb B a n c) (hB:B≤1000000) (some_ all:Int) (h3 : -1000≤all) (h4:all≤1000) :
  Calls Try.prog 45 #[.pointer (some ⟨hb,0,none⟩), .int .i64 some_, .int .i64 all] w (Xf w hb (B+1) a n c fun v=>∃ x:Bool,v = .bool x):=by
 have H:=Lib.hid h;clear h
 go_enter Try.func45,Try.ntmps45
 go_wp2_with fail
 refine (CP w hb B a n c H.out hB (all-1) (by omega) (by omega)).mono ?_;rintro e w1 ⟨_,⟨x,x1,x2,rfl⟩,rfl,hh,hE⟩;have HH:=Lib.hid hh;clear hh;have HE:=Lib.hid hE;clear hE
 go_wp2_with fail
 go_ret
 exact ⟨_,⟨_,rfl⟩,rfl,HH.out,HE.out⟩
theorem Yw (w:World) {x n:Int} (h0:0≤x) (hx:x≤1000) (h1:1≤n) (hn:n≤1000):Calls Try.prog 61 #[.int .i64 x, .int .i64 n] w fun e w'=>e = .returned (.int .i64 (x % n))∧w=w':=by
 have e1:x.tmod n=x % n:=Int.tmod_eq_emod_of_nonneg h0;have e2:=Int.emod_nonneg x (show n≠0 by omega);have e3:=Int.emod_lt_of_pos x (show 0 < n by omega);have c1:¬ n < 1:=by omega
 have c2:¬ x % n < 0:=by omega
 have c3:n≠0:=by omega
 have hw:IntKind.i64.wrap (x % n)=x % n:=IntWalk.i64_in _ (by omega)
 go_enter Try.func61,Try.ntmps61
 go_wp2_with fail
 go_ret
 exact ⟨rfl,rfl⟩
end
end Go.Proofs.Ytgdobbcjkiapkaa
