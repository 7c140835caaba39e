import Derived.Test.YtgdobbcjkiapkaaNo04
import Derived.Test.YtgdobbcjkiapkaaNo22
import Derived.Test.YtgdobbcjkiapkaaNo02
namespace Go.Proofs.Ytgdobbcjkiapkaa
set_option maxRecDepth 100000
set_option maxHeartbeats 4000000
set_option linter.unusedSimpArgs false
set_option linter.unusedVariables false
section
open Go.RowKit
open Go.ChangeMaps (setBlock)
theorem RV {t:Ae} (hp:t.Ac.all A7=true) (k:Int):Dx t (DY t k t.Ah.length):=by
 intro p hm;unfold DY JP at hm;simp only [List.mem_flatMap,List.mem_range] at hm;obtain ⟨i,hi,o,ho,hm⟩:=hm;unfold Zh at hm
 split at hm
 ·rename_i hc
  simp only [List.mem_cons,List.not_mem_nil,or_false] at hm;have h1:=List.all_eq_true.1 hp _ (getD_mem ho);simp only [A7,Bool.and_eq_true] at h1;have h2:=Ai.1 h1.1;subst hm;exact pe0 (Ai.2 (by dsimp only;omega)) (Ai.2 (by dsimp only;omega)) (Ai.2 (by dsimp only;omega))
 ·simp at hm
theorem LX {t:Ae} (hp:t.Ac.all A7=true) (h4:t.Ac.length≤4) (h6:t.Ah.length≤6):∀ (rest pre:List Int) (at_:Int) (acc:List A8) (N:Nat),Dx t acc→acc.length+24*rest.length≤N→Dx t (Dw t pre rest at_ acc).1∧(Dw t pre rest at_ acc).1.length≤N
 | [],_,_,acc,N,hf,hn=>⟨hf,by simp at hn;exact hn⟩
 | k :: rest,pre,at_,acc,N,hf,hn=>by
  have nil:∀ e:Int,Dx t (([],e):List A8×Int).1∧(([],e):List A8×Int).1.length≤N:=fun e=>⟨fun p h=>by simp at h,Nat.zero_le _⟩
  rw [Dw]
  split
  ·exact nil _
  ·split
   ·exact nil _
   ·split
    ·exact nil _
    ·refine LX hp h4 h6 rest _ _ _ N (fun p h =>?_) ?_
     ·rcases List.mem_append.1 h with h | h
      ·exact hf p h
      ·exact RV hp k p h
     ·have:=I9 t k t.Ah.length;have h9:t.Ah.length*t.Ac.length≤6*4:=Nat.mul_le_mul h6 h4;simp only [List.length_cons] at hn;rw [List.length_append];omega
theorem JE {t:Ae} (hT:Ap t=0) (from_:Int) (way:List Int):Dx t (Ci t from_ way).1∧(Ci t from_ way).1.length≤192:=by
 obtain ⟨_,_,_,_,h4,hp,_,h6,_⟩:=AU hT;have nil:∀ e:Int,Dx t (([],e):List A8×Int).1∧(([],e):List A8×Int).1.length≤192:=fun e=>⟨fun p h=>by simp at h,Nat.zero_le _⟩
 unfold Ci
 split
 ·exact nil _
 ·split
  ·exact nil _
  ·split
   ·exact nil _
   ·rename_i h8
    exact LX hp h4 h6 way [] from_ [] 192 (fun p h=>by simp at h) (by simp;omega)
theorem Fq.along {t:Ae} (hT:Ap t=0) (from_:Int) (way:List Int):Fq t (Ci t from_ way).1:=Fq.of hT (JE hT from_ way).1 (by have:=(JE hT from_ way).2;omega)
def L8 (t:Ae) (from_:Int) (way:List Int):Int:=Je (Jn t (Ci t from_ way).1) t.Ac.length
theorem U8 {t:Ae} {l:List A8} (h:Fq t l) {o:Nat} (ho:o < t.Ac.length):0≤Jn t l o∧Jn t l o≤200000000000*(t.Ah.length:Int)+1:=by
 have:=EJ (h.GN ho) t.Ah.length;unfold Jn FZ OE
 omega
theorem TI.Aa3 {w x:World} {bt:Nat} {t:Ae} {s:Ef} (h:TI w x bt t s) {g:Nat} (hg:bt < g) (o:Nat) (v:Value) (ht:CV w t s):TI w (x.setCell ⟨g,o,none⟩ v) bt t s:=by
 have h1:=h.below.setCell (p:=⟨g,o,none⟩) (by have:=h.lb;show w.heap.size≤g;omega) v;exact ⟨h1,ht.below h1,h.kb.far (by omega) _ _,h.lb⟩
theorem Rq:Try.f124.body=some (Code.seq (Aa Try.f124 0) (Code.seq (Aa Try.f124 1) (Code.seq (Code.seq (Aa Try.f124 2) (Code.block 0 (Code.loop (Code.seq (Aa Try.f124 3) (Code.seq (Code.cond (Operand.tmp 13) Code.skip (Code.exit 0)) (Code.seq (Code.block 1 (Code.seq (Aa Try.f124 4) (Aa Try.f124 5))) (Aa Try.f124 6))))))) (Code.seq (Aa Try.f124 7) Code.ret)))):=by kernel_rfl
def Bi (t:Ae):Flock:=⟨Ak t.Ac,t.pace⟩
theorem Uh {t:Ae} {s:Ef} {w:World} (ht:CV w t s) (hT:Ap t=0):Calls Try.prog 124 #[.agg (ER t s)] w (fun e w'=>e = .returned (.agg #[.int .i64 (Bi t).heads, .int .i64 (Bi t).pace])∧Below w.heap.size w w'):=by
 obtain ⟨_,_,_,_,hl4,hpf,_,_,_⟩:=AU hT
 have hadd:∀ k (hk:k < t.Ac.length),IntKind.i64.wrap (Ak (t.Ac.take k)+t.Ac[k].heads)=Ak (t.Ac.take (k+1)):=fun k hk=>by
  have h1:(t.Ac.take k).all A7=true:=by rw [List.all_eq_true] at hpf ⊢;exact fun x hx=>hpf x (List.mem_of_mem_take hx)
  have h2:=List.all_eq_true.1 hpf _ (List.getElem_mem hk);simp only [A7,Bool.and_eq_true] at h2;exact QZ (by omega) hk h1 h2.1
 have HADD:=Lib.hid hadd;clear hadd hpf hT;refine QU Try.func124 Rq Try.ntmps124 ?_;intro a Z;refine wsr ?_;refine Z.s ?_;clear Z;intro a Z;refine Af (G:=fun W=>wpOps _ _ _ _ _ W) ?_;intro x hz X hb;have hI:=TI.made (Below.refl _ _) ht X hb;obtain ⟨bt,hbt⟩:∃ b,b=w.heap.size:=⟨_,rfl⟩;rw [← hbt] at Z hI;clear hz X hb hbt;refine og fun K hK =>?_
 obtain ⟨ro,hg⟩:∃ b,b=x.heap.size:=⟨_,rfl⟩;unfold Oper.wp;go_simp;refine Z.K hK ?_;clear Z hK;intro a Z;refine Af (G:=fun W=>wpOps _ _ _ _ _ W) ?_;have ho1:=hI.kb.lt;have ho2:=hI.below.size;intro x hz hR hb;replace hI:=hI.keep hb;rw [← hg] at Z hR;have hro:w.heap.size≤ro∧bt < ro:=by omega
 clear hz hb hg ho1 ho2;refine od ?_;refine wsr ?_;refine Z.s ?_;clear Z;intro a Z;refine og fun K hK =>?_
 have e6:=Z.g 6;have c3:=hI.c3;unfold Oper.wp;go_simp;clear e6;refine Z.K hK ?_;clear Z hK;intro a Z;refine Z.s ?_;clear Z;intro a Z;refine og fun K hK =>?_
 obtain ⟨fo,hg⟩:∃ b,b=x.heap.size:=⟨_,rfl⟩;unfold Oper.wp;go_simp;refine Z.K hK ?_;clear Z hK;intro a Z;refine og fun K hK =>?_
 have e3:=Z.g 3;have e8:=Z.g 8;unfold Oper.wp;go_simp;clear e3 e8;refine hK _ _ ?_;clear hK;refine Af (G:=fun W=>wpOps _ _ _ _ _ W) ?_;have ho1:=hR.lt;intro x hz hF hb;replace hI:=hI.keep hb;replace hR:=hR.below hb;rw [← hg] at Z hF;have hfo:ro < fo:=by omega
 clear hz hb hg ho1;refine od ?_;refine wp_seq ?_;refine wsr ?_;refine Z.s ?_;clear Z;intro a Z;refine og fun K hK =>?_
 have e9:=Z.g 9;have c4:=hI.c4;unfold Oper.wp;go_simp;clear e9;refine Z.K hK ?_;clear Z hK;intro a Z;(iterate 2 refine Z.s ?_;clear Z;intro a Z);refine od ?_;refine wp_block ?_;refine wp_loop_ghost (fun n p x=>∃ k:Nat,k+n=t.Ac.length∧Sl p 24 [(1, .pointer (some ⟨bt,0,none⟩)),(2, .pointer (some ⟨ro,0,none⟩)),(3, .pointer (some ⟨fo,0,none⟩)),(10, .slice s.pa t.Ac.length s.pc),(11, .int .i64 (t.Ac.length:Int)),(12, .int .i64 (k:Int))]∧TI w x bt t s∧Rw x ro #[.int .i64 0, .int .i64 0] 87∧Rw x fo #[.int .i64 (Ak (t.Ac.take k)), .int .i64 t.pace] 87) t.Ac.length ⟨0,by omega,Z.sb,hI,hR,hF⟩ ?_;clear Z hI hR hF;rintro n a x ⟨k,hkn,Z,hI,hR,hF⟩;refine wsr ?_
 by_cases hlt:k < t.Ac.length
 ·have q1:(k:Int) < (t.Ac.length:Int):=by omega
  obtain ⟨pb,po,hpa,p0,p1,p2⟩:=hI.tar.Ac.at hlt;rw [hpa] at Z;simp only [Zf] at p0 p1 p2;refine Z.s ?_;clear Z;intro a Z;refine od ?_;refine wp_seq ?_;refine wp_cond_true (Z.ev 13 rfl) ?_;refine wp_skip ?_;refine wp_seq ?_;refine wp_block ?_;refine wsr ?_;(iterate 2 refine Z.s ?_;clear Z;intro a Z);refine og fun K hK =>?_
  obtain ⟨g,hg⟩:∃ b,b=x.heap.size:=⟨_,rfl⟩;unfold Oper.wp;go_simp;refine Z.K hK ?_;clear Z hK;intro a Z;refine og fun K hK =>?_
  have e5:=Z.g 5;have e15:=Z.g 15;unfold Oper.wp;go_simp;clear e5 e15;refine hK _ _ ?_;clear hK;refine Af (G:=fun W=>wpOps _ _ _ _ _ W) ?_;have hg3:=hF.lt;intro x hz G hb;replace hI:=hI.keep hb;replace hR:=hR.below hb;replace hF:=hF.below hb;rw [← hg] at Z G;clear hz hb hg p0 p1 p2;refine od ?_;refine wr ?_;refine Z.s ?_;clear Z;intro a Z;refine og fun K hK =>?_
  have e16:=Z.g 16;have f0:=hF.cell (o:=0) rfl;unfold Oper.wp;go_simp;clear e16;refine Z.K hK ?_;clear Z hK;intro a Z;refine Z.s ?_;clear Z;intro a Z;refine og fun K hK =>?_
  have e18:=Z.g 18;have g0:=G.cell (o:=0) rfl;unfold Oper.wp;go_simp;clear e18;refine Z.K hK ?_;clear Z hK;intro a Z;refine og fun K hK =>?_
  have e17:=Z.g 17;have e19:=Z.g 19;have hw:=HADD.out k hlt;unfold Oper.wp;go_simp;clear e17 e19;refine Z.K hK ?_;clear Z hK;intro a Z;refine Z.s ?_;clear Z;intro a Z;refine og fun K hK =>?_
  have e20:=Z.g 20;have e21:=Z.g 21;have f0:=hF.cell (o:=0) rfl;have fz:=hF.fz 0;unfold Oper.wp;go_simp;clear e20 e21;refine hK _ _ ?_;clear hK;clear f0 fz;replace hI:=hI.Aa3 (g:=fo) (by omega) 0 (.int .i64 (Ak (t.Ac.take (k+1)))) ht;replace hR:=hR.far (g:=fo) (by omega) 0 (.int .i64 (Ak (t.Ac.take (k+1))));replace hF:=hF.set 0 (.int .i64 (Ak (t.Ac.take (k+1))));clear G;refine od ?_;refine wr ?_;refine og fun K hK =>?_
  have e12:=Z.g 12;have hw:=Ba k (by omega);unfold Oper.wp;go_simp;clear e12;refine Z.K hK ?_;clear Z hK;intro a Z;refine Z.s ?_;clear Z;intro a Z;refine od ?_;show Exists _;exact ⟨n-1,by omega,k+1,by omega,by rw [hpa];exact Z.sb,hI,hR,hF⟩
 ·obtain rfl:k=t.Ac.length:=by omega
  refine Z.s ?_;clear Z;intro a Z;refine od ?_;refine wp_seq ?_;refine wp_cond_false (Z.ev 13 rfl) ?_;refine wp_exit ?_
  try simp only [Exit.then,Exit.inBlock,↓reduceIte,Nat.reduceEqDiff]
  rw [List.take_length] at hF;refine wsr ?_;refine og fun K hK =>?_
  have e3:=Z.g 3;have f0:=hF.cell (o:=0) rfl;have f1:=hF.cell (o:=1) rfl;unfold Oper.wp;go_simp;clear e3;refine Z.K hK ?_;clear Z hK;intro a Z;refine og fun K hK =>?_
  have e2:=Z.g 2;have e23:=Z.g 23;have r0:=hR.cell (o:=0) rfl;have r1:=hR.cell (o:=1) rfl;have rz0:=hR.fz 0;have rz1:=hR.fz 1;unfold Oper.wp;go_simp;clear e2 e23;refine hK _ _ ?_;clear hK;clear r0 r1 rz0 rz1;replace hI:=(hI.Aa3 (g:=ro) (by omega) 0 (.int .i64 (Ak t.Ac)) ht).Aa3 (g:=ro) (by omega) 1 (.int .i64 t.pace) ht;replace hR:=(hR.set 0 (.int .i64 (Ak t.Ac))).set 1 (.int .i64 t.pace);refine od ?_;refine wp_ret ?_
  try simp only [Exit.then,Exit.inBlock]
  refine bodyPost_ret (v := .agg #[.int .i64 (Ak t.Ac), .int .i64 t.pace]) ?_ Z.defers ⟨rfl,hI.below⟩;simp [results,Try.results124,Z.get 2 _ rfl,go_sem,hR.cell (o:=0) rfl,hR.cell (o:=1) rfl]
theorem Ul:Try.f82.body=some (Code.seq (Aa Try.f82 0) (Code.seq (Aa Try.f82 1) (Code.seq (Aa Try.f82 2) (Code.seq (Code.seq (Aa Try.f82 3) (Code.block 0 (Code.loop (Code.seq (Aa Try.f82 4) (Code.seq (Code.cond (Operand.tmp 28) Code.skip (Code.exit 0)) (Code.seq (Code.block 1 (Code.seq (Aa Try.f82 5) (Aa Try.f82 6))) (Aa Try.f82 7))))))) (Code.seq (Aa Try.f82 8) (Code.seq (Code.seq (Aa Try.f82 9) (Code.block 2 (Code.loop (Code.seq (Aa Try.f82 10) (Code.seq (Code.cond (Operand.tmp 51) Code.skip (Code.exit 2)) (Code.seq (Code.block 3 (Code.seq (Aa Try.f82 11) (Aa Try.f82 12))) (Aa Try.f82 13))))))) (Code.seq (Aa Try.f82 14) Code.ret))))))):=by kernel_rfl
theorem Abb {w x:World} {bt bd mb g:Nat} {t:Ae} {s:Ef} {qs:List ((Int×Int)×Int)} {p:A8} (I0:OI w x bt bd mb t s qs) (G0:Rw x g #[.int .i64 p.toll, .int .i64 p.owner, .int .i64 p.heads] 53) (hg:mb≠g) (hq0:0≤(atK qs (p.toll,p.owner)).getD 0) (hq1:(atK qs (p.toll,p.owner)).getD 0≤1000000) (hh:btw p.heads 1 40=true) (v3 v25 v26 v27:Value) (a:Act) (Z:Sl a 60 [(3,v3),(9, .pointer (some ⟨bd,0,none⟩)),(11, .pointer (some ⟨g,0,none⟩)),(25,v25),(26,v26),(27,v27)]) (Q:Exit→Act→World→Prop)
  (h:∀ a x2,Sl a 60 [(3,v3),(9, .pointer (some ⟨bd,0,none⟩)),(11, .pointer (some ⟨g,0,none⟩)),(25,v25),(26,v26),(27,v27)]→OI w x2 bt bd mb t s (Q9 qs (p.toll,p.owner) ((atK qs (p.toll,p.owner)).getD 0+p.heads))→(∀ w1:World,w1.heap.size≤mb→Below w1.heap.size w1 x→Below w1.heap.size w1 x2)→Q .normal a x2):(Aa Try.f82 6).wp Try.prog Q a x:=by
 have hB:∀ w1:World,w1.heap.size≤mb→Below w1.heap.size w1 x→Below w1.heap.size w1 x.drew:=fun w1 _ h=>h.drew
 rw [show Aa Try.f82 6=Code.region 6 _ true from rfl];refine GY 15 (by kernel_rfl) rfl (by kernel_rfl) (by kernel_rfl) (Z) [some 31,some 32,some 33,some 34,some 35,some 36,some 37,some 38,some 39,some 40,some 41,some 42,some 43,some 44,some 45] rfl rfl (fun j v _=>match j with | 0=>v = .pointer (some ⟨bd,0,none⟩) | 1=>v = .pointer (some ⟨bd,0,none⟩) | 2=>v = .pointer (some ⟨bd,6,none⟩) | 3=>v = .map (some mb) | 4=>v = .pointer (some ⟨g,0,none⟩) | 5=>v = .int .i64 p.toll | 6=>v = .pointer (some ⟨g,1,none⟩) | 7=>v = .int .i64 p.owner | 8=>v = .agg #[.int .i64 p.toll, .int .i64 p.owner] | 9=>v = .int .i64 ((atK qs (p.toll,p.owner)).getD 0) | 10=>v = .pointer (some ⟨g,2,none⟩) | 11=>v = .int .i64 p.heads | 12=>v = .int .i64 ((atK qs (p.toll,p.owner)).getD 0+p.heads) | 13=>v = .tuple #[.int .i64 ((atK qs (p.toll,p.owner)).getD 0), .int .i64 (Vq qs (p.toll,p.owner):Nat)] | 14=>v = .int .i64 (Vq qs (p.toll,p.owner):Nat) | _=>True) (fun L y=>OI w y bt bd mb t s (if L 13 then PL qs (p.toll,p.owner) else qs)∧Rw y g #[.int .i64 p.toll, .int .i64 p.owner, .int .i64 p.heads] 53∧(∀ w1:World,w1.heap.size≤mb→Below w1.heap.size w1 x→Below w1.heap.size w1 y)) ⟨I0.drew,G0.below (Below.refl _ _).drew,hB⟩ ?_ ?_
 ·clear Z;intro k o hkl ho L a x hI hLk Z hs hd;have hlt:∀ k:Nat,k < 15→k=0∨k=1∨k=2∨k=3∨k=4∨k=5∨k=6∨k=7∨k=8∨k=9∨k=10∨k=11∨k=12∨k=13∨k=14:=by decide
  rcases hlt k hkl with rfl | rfl | rfl | rfl | rfl | rfl | rfl | rfl | rfl | rfl | rfl | rfl | rfl | rfl | rfl
  ·obtain rfl:=Option.some.inj ho;have e9:=Z.g 9;clear hs hd;refine wg fun K hK =>?_
   unfold Oper.wp;go_simp;exact hK _ _ ⟨_,rfl,rfl,by simpa [Bq] using hI,fun _ _ h=>h⟩
  ·obtain rfl:=Option.some.inj ho;obtain ⟨_,e31,rfl⟩:=hs 0 _ 31 rfl rfl (hd 0 wm);clear hs hd;refine wg fun K hK =>?_
   unfold Oper.wp;go_simp;exact hK _ _ ⟨_,rfl,rfl,by simpa [Bq] using hI,fun _ _ h=>h⟩
  ·obtain rfl:=Option.some.inj ho;obtain ⟨_,e32,rfl⟩:=hs 1 _ 32 rfl rfl (hd 1 wm);clear hs hd;refine wg fun K hK =>?_
   unfold Oper.wp;go_simp;exact hK _ _ ⟨_,rfl,rfl,by simpa [Bq] using hI,fun _ _ h=>h⟩
  ·obtain rfl:=Option.some.inj ho;obtain ⟨_,e33,rfl⟩:=hs 2 _ 33 rfl rfl (hd 2 wm);have hc:=hI.1.kd.cell (o:=6) rfl;clear hs hd;refine wg fun K hK =>?_
   unfold Oper.wp;go_simp;exact hK _ _ ⟨_,rfl,rfl,by simpa [Bq] using hI,fun _ _ h=>h⟩
  ·obtain rfl:=Option.some.inj ho;have e11:=Z.g 11;clear hs hd;refine wg fun K hK =>?_
   unfold Oper.wp;go_simp;exact hK _ _ ⟨_,rfl,rfl,by simpa [Bq] using hI,fun _ _ h=>h⟩
  ·obtain rfl:=Option.some.inj ho;obtain ⟨_,e35,rfl⟩:=hs 4 _ 35 rfl rfl (hd 4 wm);have hc:=hI.2.1.cell (o:=0) rfl;clear hs hd;refine wg fun K hK =>?_
   unfold Oper.wp;go_simp;exact hK _ _ ⟨_,rfl,rfl,by simpa [Bq] using hI,fun _ _ h=>h⟩
  ·obtain rfl:=Option.some.inj ho;have e11:=Z.g 11;clear hs hd;refine wg fun K hK =>?_
   unfold Oper.wp;go_simp;exact hK _ _ ⟨_,rfl,rfl,by simpa [Bq] using hI,fun _ _ h=>h⟩
  ·obtain rfl:=Option.some.inj ho;obtain ⟨_,e37,rfl⟩:=hs 6 _ 37 rfl rfl (hd 6 wm);have hc:=hI.2.1.cell (o:=1) rfl;clear hs hd;refine wg fun K hK =>?_
   unfold Oper.wp;go_simp;exact hK _ _ ⟨_,rfl,rfl,by simpa [Bq] using hI,fun _ _ h=>h⟩
  ·obtain rfl:=Option.some.inj ho;obtain ⟨_,e36,rfl⟩:=hs 5 _ 36 rfl rfl (hd 5 wm);obtain ⟨_,e38,rfl⟩:=hs 7 _ 38 rfl rfl (hd 7 wm);clear hs hd;refine wg fun K hK =>?_
   unfold Oper.wp;go_simp;exact hK _ _ ⟨_,rfl,rfl,by simpa [Bq] using hI,fun _ _ h=>h⟩
  ·obtain rfl:=Option.some.inj ho;obtain ⟨_,e34,rfl⟩:=hs 3 _ 34 rfl rfl (hd 3 wm);obtain ⟨_,e39,rfl⟩:=hs 8 _ 39 rfl rfl (hd 8 wm);have hlk:=hI.1.look p.toll p.owner;have hsame:(atK (if L 13 then PL qs (p.toll,p.owner) else qs) (p.toll,p.owner)).getD 0=(atK qs (p.toll,p.owner)).getD 0:=by by_cases c:L 13=true;(rw [if_pos c];exact (SC qs _).2.2.2);rw [if_neg c]
   rw [hsame] at hlk;clear hsame;clear hs hd;refine wg fun K hK =>?_
   unfold Oper.wp;go_simp;exact hK _ _ ⟨_,rfl,rfl,by simpa [Bq] using hI,fun _ _ h=>h⟩
  ·obtain rfl:=Option.some.inj ho;have e11:=Z.g 11;clear hs hd;refine wg fun K hK =>?_
   unfold Oper.wp;go_simp;exact hK _ _ ⟨_,rfl,rfl,by simpa [Bq] using hI,fun _ _ h=>h⟩
  ·obtain rfl:=Option.some.inj ho;obtain ⟨_,e41,rfl⟩:=hs 10 _ 41 rfl rfl (hd 10 wm);have hc:=hI.2.1.cell (o:=2) rfl;clear hs hd;refine wg fun K hK =>?_
   unfold Oper.wp;go_simp;exact hK _ _ ⟨_,rfl,rfl,by simpa [Bq] using hI,fun _ _ h=>h⟩
  ·obtain rfl:=Option.some.inj ho;obtain ⟨_,e40,rfl⟩:=hs 9 _ 40 rfl rfl (hd 9 wm);obtain ⟨_,e42,rfl⟩:=hs 11 _ 42 rfl rfl (hd 11 wm);have hw:IntKind.i64.wrap ((atK qs (p.toll,p.owner)).getD 0+p.heads)=(atK qs (p.toll,p.owner)).getD 0+p.heads:=IntWalk.i64_in _ (by have:=Ai.1 hh;omega);clear hs hd;refine wg fun K hK =>?_
   unfold Oper.wp;go_simp;exact hK _ _ ⟨_,rfl,rfl,by simpa [Bq] using hI,fun _ _ h=>h⟩
  ·obtain rfl:=Option.some.inj ho;obtain ⟨_,e34,rfl⟩:=hs 3 _ 34 rfl rfl (hd 3 wm);obtain ⟨_,e39,rfl⟩:=hs 8 _ 39 rfl rfl (hd 8 wm);rw [hLk] at hI;have hme:=(show OI w x bt bd mb t s qs from hI.1).entry p.toll p.owner;clear hs hd;refine wg fun K hK =>?_
   unfold Oper.wp;go_simp;refine hK _ _ ⟨_,rfl,rfl,⟨?_,hI.2.1.other _ hg,fun w1 h1 h2=>F9 _ (hI.2.2 w1 h1 h2) h1⟩,fun _ _ h=>h⟩;have:=(show OI w x bt bd mb t s qs from hI.1).put (PL qs (p.toll,p.owner))
   simpa [Bq] using this
  ·obtain rfl:=Option.some.inj ho;obtain ⟨_,e44,rfl⟩:=hs 13 _ 44 rfl rfl (hd 13 wm);clear hs hd;refine wg fun K hK =>?_
   unfold Oper.wp;go_simp;exact hK _ _ ⟨_,rfl,rfl,by simpa [Bq] using hI,fun _ _ h=>h⟩
 ·clear Z;intro L a x hall hI Z hs;obtain ⟨_,e34,rfl⟩:=hs 3 _ 34 rfl rfl (hall 3 (by decide));obtain ⟨_,e43,rfl⟩:=hs 12 _ 43 rfl rfl (hall 12 (by decide));obtain ⟨_,e45,rfl⟩:=hs 14 _ 45 rfl rfl (hall 14 (by decide));have I1:=hI.1;rw [hall 13 (by decide)] at I1;have hes:=(show OI w x bt bd mb t s (PL qs (p.toll,p.owner)) from I1).store ((atK qs (p.toll,p.owner)).getD 0+p.heads);clear hs;refine wg fun K hK =>?_
  unfold Oper.wp;go_simp;refine hK _ _ (h _ _ Z ?_ (fun w1 h1 h2=>F9 _ (hI.2.2 w1 h1 h2) h1));exact I1.put _
theorem YN {t:Ae} {s:Ef} {w:World} {from_:Int} {way:List Int} {wa:Option Addr} {wc:Nat} (ht:CV w t s) (hT:Ap t=0) (hw:Aq w wa way) (hwc:way.length≤wc) (hwl:way.length≤1000000):Calls Try.prog 82 #[.agg (ER t s), .int .i64 from_, .slice wa way.length wc] w (fun e w'=>e = .returned (.int .i64 (L8 t from_ way))∧Below w.heap.size w w'):=by
 obtain ⟨hfl,hll⟩:=JE hT from_ way;have hFL:=Fq.along hT from_ way;have hdb:=fun o (ho:o < t.Ac.length)=>U8 hFL (o:=o) ho
 obtain ⟨_,_,_,_,hl4,_,_,hl6,_⟩:=AU hT
 have hsb:∀ k,k≤t.Ac.length→0≤Je (Jn t (Ci t from_ way).1) k∧Je (Jn t (Ci t from_ way).1) k≤2000000000000*(k:Int):=fun k=>by
  induction k with
  | zero=>intro _;simp [Je]
  | succ k ih=>intro hk;have h1:=ih (by omega);have h2:=hdb k (by omega);simp only [Je];push_cast;omega
 have HSB:=Lib.hid hsb;have HDB:=Lib.hid hdb;have HF:=Lib.hid hfl;clear hsb hdb hfl;refine QT Try.func82 Ul Try.ntmps82 ?_;intro a Z;refine wsr ?_;refine Z.s ?_;clear Z;intro a Z;refine Af (G:=fun W=>wpOps _ _ _ _ _ W) ?_;intro x hz X hb;have hI:=TI.made (Below.refl _ _) ht X hb;obtain ⟨bt,hbt⟩:∃ b,b=w.heap.size:=⟨_,rfl⟩;rw [← hbt] at Z hI;clear hz X hb hbt;refine Z.s ?_;clear Z;intro a Z;refine od ?_;refine wsr ?_;refine og fun K hK =>?_
 have e3:=Z.g 3;have c0:=hI.c0;have c1:=hI.c1;have c2:=hI.c2;have c3:=hI.c3;have c4:=hI.c4;have c5:=hI.c5;unfold Oper.wp;go_simp;clear e3;refine Z.K hK ?_;clear Z hK;intro a Z;(iterate 2 refine Z.s ?_;clear Z;intro a Z);refine og fun K hK =>?_
 have e15:=Z.g 15;have e16:=Z.g 16;have e17:=Z.g 17;unfold Oper.wp;go_simp;refine (Nw hI.tar (hw.below hI.below) hwc hwl).mono ?_;rintro e x ⟨hb,va,rfl,hO,hnil⟩;replace hI:=hI.keep hb;obtain ⟨la,lc,rfl,hlc,hlm,hl⟩:=Gj.at hO;obtain ⟨l,hld⟩:∃ l,(Ci t from_ way).1=l:=⟨_,rfl⟩;rw [hld] at hll hFL hl hlc;clear hb hO hnil;clear e15 e16 e17;refine Z.K hK ?_;clear Z hK;intro a Z;rw [hld] at Z;(iterate 5 refine Z.s ?_;clear Z;intro a Z);refine od ?_;refine wsr ?_;refine og fun K hK =>?_
 have e3:=Z.g 3;have c0:=hI.c0;have c1:=hI.c1;have c2:=hI.c2;have c3:=hI.c3;have c4:=hI.c4;have c5:=hI.c5;unfold Oper.wp;go_simp;clear e3;refine Z.K hK ?_;clear Z hK;intro a Z;refine Z.s ?_;clear Z;intro a Z;clear c0 c1 c2 c3 c4 c5;refine OV (G:=fun W=>wpOps _ _ _ _ _ W) ?_;have hzx:=hI.below.size;have hzt:=hI.kb.lt;obtain ⟨mb,hmb⟩:∃ b,b=x.heap.size:=⟨_,rfl⟩;obtain ⟨w1,hw1⟩:∃ w1,w1=x:=⟨_,rfl⟩;intro x hz M hb;replace hI:=hI.keep hb;rw [← hmb] at Z M hz;have hmt:mb≠bt:=by omega
 have hwm:w.heap.size≤mb:=by omega
 rw [← hw1] at hb hmb hl;have HB:=hb;have HZ:=Lib.hid hz;have HM1:=Lib.hid hmb;clear hb hmb hz hzx hzt hw1;(iterate 2 refine Z.s ?_;clear Z;intro a Z);refine Af (G:=fun W=>wpOps _ _ _ _ _ W) ?_;obtain ⟨bd,hbd⟩:∃ b,b=x.heap.size:=⟨_,rfl⟩;have hz:=HZ.out;intro x hz2 D hb;rw [← hbd] at Z D;have hO:OI w x bt bd mb t s []:=⟨hI.below.trans (hb.mono hI.below.size),hI.kb.below hb,D,M.below hb (by omega),hI.lb,by omega,hwm,hmt,by omega⟩;replace HB:=HB.trans (hb.mono HB.size);clear hI D M hz hz2 HZ hb hbd hmt hwm;have hI:=hO;clear hO;refine Z.s ?_;clear Z;intro a Z;refine od ?_;refine wp_seq ?_;refine wsr ?_;(iterate 3 refine Z.s ?_;clear Z;intro a Z);refine od ?_;refine wp_block ?_;refine wp_loop_ghost (fun n p x=>∃ (k:Nat) (qs:List ((Int×Int)×Int)),k+n=l.length∧(∀ key,(atK qs key).getD 0=Bv (l.take k) key)∧Sl p 60 [(3, .pointer (some ⟨bt,0,none⟩)),(9, .pointer (some ⟨bd,0,none⟩)),(25, .slice la l.length lc),(26, .int .i64 (l.length:Int)),(27, .int .i64 (k:Int))]∧OI w x bt bd mb t s qs∧Below w1.heap.size w1 x) l.length ⟨0,[],by omega,fun key=>rfl,Z.sb,hI,HB⟩ ?_;clear Z hI HB;rintro n a x ⟨k,qs,hkn,hS,Z,hI,HB⟩;have HS:=Lib.hid hS;clear hS;refine wsr ?_
 by_cases hlt:k < l.length
 ·have q1:(k:Int) < (l.length:Int):=by omega
  obtain ⟨pb,po,hpa,p0,p1,p2⟩:=(hl.below HB).at hlt;rw [hpa] at Z;simp only [RX] at p0 p1 p2;refine Z.s ?_;clear Z;intro a Z;refine od ?_;refine wp_seq ?_;refine wp_cond_true (Z.ev 28 rfl) ?_;refine wp_skip ?_;refine wp_seq ?_;refine wp_block ?_;refine wsr ?_;(iterate 2 refine Z.s ?_;clear Z;intro a Z);refine og fun K hK =>?_
  obtain ⟨g,hg⟩:∃ b,b=x.heap.size:=⟨_,rfl⟩;unfold Oper.wp;go_simp;refine Z.K hK ?_;clear Z hK;intro a Z;refine og fun K hK =>?_
  have e11:=Z.g 11;have e30:=Z.g 30;unfold Oper.wp;go_simp;clear e11 e30;refine hK _ _ ?_;clear hK;refine Af (G:=fun W=>wpOps _ _ _ _ _ W) ?_;have hmg:mb≠g:=by have:=hI.mp.lt;omega
  intro x hz G hb;replace hI:=hI.keep hb;replace HB:=HB.trans (hb.mono HB.size);rw [← hg] at Z G;clear hz hb p0 p1 p2 hg;refine od ?_;have hs5:=HS.out (l[k].toll,l[k].owner);have hfk:Dx t (l.take k):=fun p hp=>HF.out p (by rw [hld];exact List.mem_of_mem_take hp)
  have h5:btw l[k].heads 1 40=true:=(V7 (HF.out l[k] (by rw [hld];exact List.getElem_mem hlt))).2.2;have hb5:=Gf hfk (l[k].toll,l[k].owner);have hlk5:(l.take k).length≤192:=by rw [List.length_take];omega
  refine Abb hI G hmg (by rw [hs5];exact hb5.1) (by rw [hs5];omega) h5 _ _ _ _ a Z.sb _ ?_;clear Z;intro a x2 Z hI2 hB2;replace HB:=hB2 w1 (by rw [HM1.out];exact Nat.le_refl _) HB;clear hI hB2 G;have hI:=hI2;clear hI2;rw [hs5] at hI;refine wr ?_;refine og fun K hK =>?_
  have e27:=Z.g 27;have hww:=Ba k (by omega);unfold Oper.wp;go_simp;clear e27;refine Z.K hK ?_;clear Z hK;intro a Z;refine Z.s ?_;clear Z;intro a Z;refine od ?_;show Exists _;exact ⟨n-1,by omega,k+1,_,by omega,upd_sum hlt HS.out,by rw [hpa];exact Z.sb,hI,HB⟩
 ·obtain rfl:k=l.length:=by omega
  refine Z.s ?_;clear Z;intro a Z;refine od ?_;refine wp_seq ?_;refine wp_cond_false (Z.ev 28 rfl) ?_;refine wp_exit ?_
  try simp only [Exit.then,Exit.inBlock,↓reduceIte,Nat.reduceEqDiff]
  rw [List.take_length] at HS;have hD:Ii x bd mb t s l:=⟨hI.kd,qs,hI.mp,HS.out⟩;have HBW:=hI.below;refine wsr ?_;refine Z.s ?_;clear Z;intro a Z;refine od ?_;refine wp_seq ?_;refine wsr ?_;refine Z.s ?_;clear Z;intro a Z;refine og fun K hK =>?_
  have e47:=Z.g 47;have c4:=hI.kb.cell (o:=4) rfl;unfold Oper.wp;go_simp;clear e47;refine Z.K hK ?_;clear Z hK;intro a Z;(iterate 2 refine Z.s ?_;clear Z;intro a Z);refine od ?_;refine wp_block ?_;refine wp_loop_ghost (fun n p x=>∃ k:Nat,k+n=t.Ac.length∧Sl p 60 [(9, .pointer (some ⟨bd,0,none⟩)),(12, .int .i64 (Je (Jn t l) k)),(49, .int .i64 (t.Ac.length:Int)),(50, .int .i64 (k:Int))]∧Ii x bd mb t s l∧Below w.heap.size w x) t.Ac.length ⟨0,by omega,Z.sb,hD,HBW⟩ ?_;clear Z hI HB hD HBW;rintro n a x ⟨k,hkn,Z,hD,HBW⟩;refine wsr ?_
  by_cases hlt:k < t.Ac.length
  ·have q1:(k:Int) < (t.Ac.length:Int):=by omega
   refine Z.s ?_;clear Z;intro a Z;refine od ?_;refine wp_seq ?_;refine wp_cond_true (Z.ev 51 rfl) ?_;refine wp_skip ?_;refine wp_seq ?_;refine wp_block ?_;refine wsr ?_;(iterate 2 refine Z.s ?_;clear Z;intro a Z);refine od ?_;refine wr ?_;(iterate 3 refine Z.s ?_;clear Z;intro a Z);refine og fun K hK =>?_
   have e54:=Z.g 54;have e55:=Z.g 55;unfold Oper.wp;go_simp;refine (Xh (ht.below HBW) hD hFL hlt).mono ?_;rintro e x ⟨rfl,hb⟩;replace hD:=hD.below hb;replace HBW:=HBW.trans (hb.mono HBW.size);clear hb;clear e54 e55;refine Z.K hK ?_;clear Z hK;intro a Z;refine og fun K hK =>?_
   have e53:=Z.g 53;have e56:=Z.g 56;have h1:=HSB.out k (by omega);have h2:=HDB.out k hlt;have hww:IntKind.i64.wrap (Je (Jn t l) k+Jn t l k)=Je (Jn t l) (k+1):=by rw [hld] at h1 h2;exact IntWalk.i64_in _ (by omega)
   unfold Oper.wp;go_simp;clear e53 e56;refine Z.K hK ?_;clear Z hK;intro a Z;refine Z.s ?_;clear Z;intro a Z;refine od ?_;refine wr ?_;refine og fun K hK =>?_
   have e50:=Z.g 50;have hww:=Ba k (by omega);unfold Oper.wp;go_simp;clear e50;refine Z.K hK ?_;clear Z hK;intro a Z;refine Z.s ?_;clear Z;intro a Z;refine od ?_;show Exists _;exact ⟨n-1,by omega,k+1,by omega,Z.sb,hD,HBW⟩
  ·obtain rfl:k=t.Ac.length:=by omega
   refine Z.s ?_;clear Z;intro a Z;refine od ?_;refine wp_seq ?_;refine wp_cond_false (Z.ev 51 rfl) ?_;refine wp_exit ?_;refine wsr ?_;(iterate 2 refine Z.s ?_;clear Z;intro a Z);refine od ?_;refine wp_ret ?_
   try simp only [Exit.then,Exit.inBlock]
   refine bodyPost_ret (v := .int .i64 (Je (Jn t l) t.Ac.length)) ?_ Z.defers ⟨by rw [← hld];rfl,HBW⟩;simp [results,Try.results82,Z.get 6 _ rfl]
end
end Go.Proofs.Ytgdobbcjkiapkaa
