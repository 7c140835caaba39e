import Derived.Test.YtgdobbcjkiapkaaCh04
import Derived.Test.YtgdobbcjkiapkaaCh23
import Derived.Test.YtgdobbcjkiapkaaCh02
import Derived.Test.YtgdobbcjkiapkaaCh15
import Derived.Test.YtgdobbcjkiapkaaCh22
import Derived.Test.YtgdobbcjkiapkaaCh03
import Derived.Test.YtgdobbcjkiapkaaCh20
namespace Go.Proofs.Ytgdobbcjkiapkaa
set_option maxRecDepth 100000
set_option maxHeartbeats 4000000
set_option linter.unusedSimpArgs false
set_option linter.unusedVariables false
section
open Go.RowKit
open Go.ChangeMaps (setBlock)
theorem SA {t:Ac} (hp:t.Ad.all Bd=true) (k:Int):DC t (Dz t k t.Ai.length):=by
 intro p hm;unfold Dz JI at hm;simp only [List.mem_flatMap,List.mem_range] at hm;obtain ⟨i,hi,o,ho,hm⟩:=hm;unfold Zq at hm
 split at hm
 ·rename_i hc
  simp only [List.mem_cons,List.not_mem_nil,or_false] at hm;have h1:=List.all_eq_true.1 hp _ (getD_mem ho);simp only [Bd,Bool.and_eq_true] at h1;have h2:=Aj.1 h1.1;subst hm;exact pe0 (Aj.2 (by dsimp only;omega)) (Aj.2 (by dsimp only;omega)) (Aj.2 (by dsimp only;omega))
 ·simp at hm
theorem LJ {t:Ac} (hp:t.Ad.all Bd=true) (h4:t.Ad.length≤4) (h6:t.Ai.length≤6):∀ (rest pre:List Int) (at_:Int) (acc:List AV) (N:Nat),DC t acc→acc.length+24*rest.length≤N→DC t (CU t pre rest at_ acc).1∧(CU t pre rest at_ acc).1.length≤N
 | [],_,_,acc,N,hf,hn=>⟨hf,by simp at hn;exact hn⟩
 | k :: rest,pre,at_,acc,N,hf,hn=>by
  have nil:∀ e:Int,DC t (([],e):List AV×Int).1∧(([],e):List AV×Int).1.length≤N:=fun e=>⟨fun p h=>by simp at h,Nat.zero_le _⟩
  rw [CU]
  split
  ·exact nil _
  ·split
   ·exact nil _
   ·split
    ·exact nil _
    ·refine LJ hp h4 h6 rest _ _ _ N (fun p h =>?_) ?_
     ·rcases List.mem_append.1 h with h | h
      ·exact hf p h
      ·exact SA hp k p h
     ·have:=IZ t k t.Ai.length;have h9:t.Ai.length*t.Ad.length≤6*4:=Nat.mul_le_mul h6 h4;simp only [List.length_cons] at hn;rw [List.length_append];omega
theorem Jy {t:Ac} (hT:Ak t=0) (from_:Int) (way:List Int):DC t (BK t from_ way).1∧(BK t from_ way).1.length≤192:=by
 obtain ⟨_,_,_,_,h4,hp,_,h6,_⟩:=Au hT;have nil:∀ e:Int,DC t (([],e):List AV×Int).1∧(([],e):List AV×Int).1.length≤192:=fun e=>⟨fun p h=>by simp at h,Nat.zero_le _⟩
 unfold BK
 split
 ·exact nil _
 ·split
  ·exact nil _
  ·split
   ·exact nil _
   ·rename_i h8
    exact LJ hp h4 h6 way [] from_ [] 192 (fun p h=>by simp at h) (by simp;omega)
theorem Fz.along {t:Ac} (hT:Ak t=0) (from_:Int) (way:List Int):Fz t (BK t from_ way).1:=Fz.of hT (Jy hT from_ way).1 (by have:=(Jy hT from_ way).2;omega)
def IE (t:Ac) (from_:Int) (way:List Int):Int:=Jb (Jz t (BK t from_ way).1) t.Ad.length
theorem Vr {t:Ac} {l:List AV} (h:Fz t l) {o:Nat} (ho:o < t.Ad.length):0≤Jz t l o∧Jz t l o≤200000000000*(t.Ai.length:Int)+1:=by
 have:=EO (h.GX ho) t.Ai.length;unfold Jz F8 QR
 omega
theorem TI.Abf {w x:World} {bt:Nat} {t:Ac} {s:DF} (h:TI w x bt t s) {g:Nat} (hg:bt < g) (o:Nat) (v:Value) (ht:BM w t s):TI w (x.setCell ⟨g,o,none⟩ v) bt t s:=by
 have h1:=h.below.setCell (p:=⟨g,o,none⟩) (by have:=h.lb;show w.heap.size≤g;omega) v;exact ⟨h1,ht.below h1,h.kb.far (by omega) _ _,h.lb⟩
theorem RH:Try.f124.body=some (Code.seq (Aa Try.f124 0) (Code.seq (Aa Try.f124 1) (Code.seq (Code.seq (Aa Try.f124 2) (Code.block 0 (Code.loop (Code.seq (Aa Try.f124 3) (Code.seq (Code.cond (Operand.tmp 13) Code.skip (Code.exit 0)) (Code.seq (Code.block 1 (Code.seq (Aa Try.f124 4) (Aa Try.f124 5))) (Aa Try.f124 6))))))) (Code.seq (Aa Try.f124 7) Code.ret)))):=by kernel_rfl
def CV (t:Ac):Flock:=⟨Am t.Ad,t.pace⟩
theorem UB {t:Ac} {s:DF} {w:World} (ht:BM w t s) (hT:Ak t=0):Calls Try.prog 124 #[.agg (Em t s)] w (fun e w'=>e = .returned (.agg #[.int .i64 (CV t).heads, .int .i64 (CV t).pace])∧Below w.heap.size w w'):=by
 obtain ⟨_,_,_,_,hl4,hpf,_,_,_⟩:=Au hT
 have hadd:∀ k (hk:k < t.Ad.length),IntKind.i64.wrap (Am (t.Ad.take k)+t.Ad[k].heads)=Am (t.Ad.take (k+1)):=fun k hk=>by
  have h1:(t.Ad.take k).all Bd=true:=by rw [List.all_eq_true] at hpf ⊢;exact fun x hx=>hpf x (List.mem_of_mem_take hx)
  have h2:=List.all_eq_true.1 hpf _ (List.getElem_mem hk);simp only [Bd,Bool.and_eq_true] at h2;exact Q9 (by omega) hk h1 h2.1
 have HADD:=Lib.hid hadd;clear hadd hpf hT;refine Q4 Try.func124 RH Try.ntmps124 ?_;intro a Z;refine wsr ?_;refine Z.s ?_;clear Z;intro a Z;refine Ae (G:=fun W=>wpOps _ _ _ _ _ W) ?_;intro x hz X hb;have hI:=TI.made (Below.refl _ _) ht X hb;obtain ⟨bt,hbt⟩:∃ b,b=w.heap.size:=⟨_,rfl⟩;rw [← hbt] at Z hI;clear hz X hb hbt;refine og fun K hK =>?_
 obtain ⟨ro,hg⟩:∃ b,b=x.heap.size:=⟨_,rfl⟩;unfold Oper.wp;go_simp;refine Z.K hK ?_;clear Z hK;intro a Z;refine Ae (G:=fun W=>wpOps _ _ _ _ _ W) ?_;have ho1:=hI.kb.lt;have ho2:=hI.below.size;intro x hz hR hb;replace hI:=hI.keep hb;rw [← hg] at Z hR;have hro:w.heap.size≤ro∧bt < ro:=by omega
 clear hz hb hg ho1 ho2;refine od ?_;refine wsr ?_;refine Z.s ?_;clear Z;intro a Z;refine og fun K hK =>?_
 have e6:=Z.g 6;have c3:=hI.c3;unfold Oper.wp;go_simp;clear e6;refine Z.K hK ?_;clear Z hK;intro a Z;refine Z.s ?_;clear Z;intro a Z;refine og fun K hK =>?_
 obtain ⟨fo,hg⟩:∃ b,b=x.heap.size:=⟨_,rfl⟩;unfold Oper.wp;go_simp;refine Z.K hK ?_;clear Z hK;intro a Z;refine og fun K hK =>?_
 have e3:=Z.g 3;have e8:=Z.g 8;unfold Oper.wp;go_simp;clear e3 e8;refine hK _ _ ?_;clear hK;refine Ae (G:=fun W=>wpOps _ _ _ _ _ W) ?_;have ho1:=hR.lt;intro x hz hF hb;replace hI:=hI.keep hb;replace hR:=hR.below hb;rw [← hg] at Z hF;have hfo:ro < fo:=by omega
 clear hz hb hg ho1;refine od ?_;refine wp_seq ?_;refine wsr ?_;refine Z.s ?_;clear Z;intro a Z;refine og fun K hK =>?_
 have e9:=Z.g 9;have c4:=hI.c4;unfold Oper.wp;go_simp;clear e9;refine Z.K hK ?_;clear Z hK;intro a Z;(iterate 2 refine Z.s ?_;clear Z;intro a Z);refine od ?_;refine wp_block ?_;refine wp_loop_ghost (fun n p x=>∃ k:Nat,k+n=t.Ad.length∧Sl p 24 [(1, .pointer (some ⟨bt,0,none⟩)),(2, .pointer (some ⟨ro,0,none⟩)),(3, .pointer (some ⟨fo,0,none⟩)),(10, .slice s.pa t.Ad.length s.pc),(11, .int .i64 (t.Ad.length:Int)),(12, .int .i64 (k:Int))]∧TI w x bt t s∧Rw x ro #[.int .i64 0, .int .i64 0] 87∧Rw x fo #[.int .i64 (Am (t.Ad.take k)), .int .i64 t.pace] 87) t.Ad.length ⟨0,by omega,Z.sb,hI,hR,hF⟩ ?_;clear Z hI hR hF;rintro n a x ⟨k,hkn,Z,hI,hR,hF⟩;refine wsr ?_
 by_cases hlt:k < t.Ad.length
 ·have q1:(k:Int) < (t.Ad.length:Int):=by omega
  obtain ⟨pb,po,hpa,p0,p1,p2⟩:=hI.tar.Ad.at hlt;rw [hpa] at Z;simp only [Zp] at p0 p1 p2;refine Z.s ?_;clear Z;intro a Z;refine od ?_;refine wp_seq ?_;refine wp_cond_true (Z.ev 13 rfl) ?_;refine wp_skip ?_;refine wp_seq ?_;refine wp_block ?_;refine wsr ?_;(iterate 2 refine Z.s ?_;clear Z;intro a Z);refine og fun K hK =>?_
  obtain ⟨g,hg⟩:∃ b,b=x.heap.size:=⟨_,rfl⟩;unfold Oper.wp;go_simp;refine Z.K hK ?_;clear Z hK;intro a Z;refine og fun K hK =>?_
  have e5:=Z.g 5;have e15:=Z.g 15;unfold Oper.wp;go_simp;clear e5 e15;refine hK _ _ ?_;clear hK;refine Ae (G:=fun W=>wpOps _ _ _ _ _ W) ?_;have hg3:=hF.lt;intro x hz G hb;replace hI:=hI.keep hb;replace hR:=hR.below hb;replace hF:=hF.below hb;rw [← hg] at Z G;clear hz hb hg p0 p1 p2;refine od ?_;refine wr ?_;refine Z.s ?_;clear Z;intro a Z;refine og fun K hK =>?_
  have e16:=Z.g 16;have f0:=hF.cell (o:=0) rfl;unfold Oper.wp;go_simp;clear e16;refine Z.K hK ?_;clear Z hK;intro a Z;refine Z.s ?_;clear Z;intro a Z;refine og fun K hK =>?_
  have e18:=Z.g 18;have g0:=G.cell (o:=0) rfl;unfold Oper.wp;go_simp;clear e18;refine Z.K hK ?_;clear Z hK;intro a Z;refine og fun K hK =>?_
  have e17:=Z.g 17;have e19:=Z.g 19;have hw:=HADD.out k hlt;unfold Oper.wp;go_simp;clear e17 e19;refine Z.K hK ?_;clear Z hK;intro a Z;refine Z.s ?_;clear Z;intro a Z;refine og fun K hK =>?_
  have e20:=Z.g 20;have e21:=Z.g 21;have f0:=hF.cell (o:=0) rfl;have fz:=hF.fz 0;unfold Oper.wp;go_simp;clear e20 e21;refine hK _ _ ?_;clear hK;clear f0 fz;replace hI:=hI.Abf (g:=fo) (by omega) 0 (.int .i64 (Am (t.Ad.take (k+1)))) ht;replace hR:=hR.far (g:=fo) (by omega) 0 (.int .i64 (Am (t.Ad.take (k+1))));replace hF:=hF.set 0 (.int .i64 (Am (t.Ad.take (k+1))));clear G;refine od ?_;refine wr ?_;refine og fun K hK =>?_
  have e12:=Z.g 12;have hw:=Bf k (by omega);unfold Oper.wp;go_simp;clear e12;refine Z.K hK ?_;clear Z hK;intro a Z;refine Z.s ?_;clear Z;intro a Z;refine od ?_;show Exists _;exact ⟨n-1,by omega,k+1,by omega,by rw [hpa];exact Z.sb,hI,hR,hF⟩
 ·obtain rfl:k=t.Ad.length:=by omega
  refine Z.s ?_;clear Z;intro a Z;refine od ?_;refine wp_seq ?_;refine wp_cond_false (Z.ev 13 rfl) ?_;refine wp_exit ?_
  try simp only [Exit.then,Exit.inBlock,↓reduceIte,Nat.reduceEqDiff]
  rw [List.take_length] at hF;refine wsr ?_;refine og fun K hK =>?_
  have e3:=Z.g 3;have f0:=hF.cell (o:=0) rfl;have f1:=hF.cell (o:=1) rfl;unfold Oper.wp;go_simp;clear e3;refine Z.K hK ?_;clear Z hK;intro a Z;refine og fun K hK =>?_
  have e2:=Z.g 2;have e23:=Z.g 23;have r0:=hR.cell (o:=0) rfl;have r1:=hR.cell (o:=1) rfl;have rz0:=hR.fz 0;have rz1:=hR.fz 1;unfold Oper.wp;go_simp;clear e2 e23;refine hK _ _ ?_;clear hK;clear r0 r1 rz0 rz1;replace hI:=(hI.Abf (g:=ro) (by omega) 0 (.int .i64 (Am t.Ad)) ht).Abf (g:=ro) (by omega) 1 (.int .i64 t.pace) ht;replace hR:=(hR.set 0 (.int .i64 (Am t.Ad))).set 1 (.int .i64 t.pace);refine od ?_;refine wp_ret ?_
  try simp only [Exit.then,Exit.inBlock]
  refine bodyPost_ret (v := .agg #[.int .i64 (Am t.Ad), .int .i64 t.pace]) ?_ Z.defers ⟨rfl,hI.below⟩;simp [results,Try.results124,Z.get 2 _ rfl,go_sem,hR.cell (o:=0) rfl,hR.cell (o:=1) rfl]
theorem UF:Try.f82.body=some (Code.seq (Aa Try.f82 0) (Code.seq (Aa Try.f82 1) (Code.seq (Aa Try.f82 2) (Code.seq (Code.seq (Aa Try.f82 3) (Code.block 0 (Code.loop (Code.seq (Aa Try.f82 4) (Code.seq (Code.cond (Operand.tmp 28) Code.skip (Code.exit 0)) (Code.seq (Code.block 1 (Code.seq (Aa Try.f82 5) (Aa Try.f82 6))) (Aa Try.f82 7))))))) (Code.seq (Aa Try.f82 8) (Code.seq (Code.seq (Aa Try.f82 9) (Code.block 2 (Code.loop (Code.seq (Aa Try.f82 10) (Code.seq (Code.cond (Operand.tmp 51) Code.skip (Code.exit 2)) (Code.seq (Code.block 3 (Code.seq (Aa Try.f82 11) (Aa Try.f82 12))) (Aa Try.f82 13))))))) (Code.seq (Aa Try.f82 14) Code.ret))))))):=by kernel_rfl
theorem Abq {w x:World} {bt bd mb g:Nat} {t:Ac} {s:DF} {qs:List ((Int×Int)×Int)} {p:AV} (I0:OI w x bt bd mb t s qs) (G0:Rw x g #[.int .i64 p.toll, .int .i64 p.owner, .int .i64 p.heads] 53) (hg:mb≠g) (hq0:0≤(atK qs (p.toll,p.owner)).getD 0) (hq1:(atK qs (p.toll,p.owner)).getD 0≤1000000) (hh:btw p.heads 1 40=true) (v3 v25 v26 v27:Value) (a:Act) (Z:Sl a 60 [(3,v3),(9, .pointer (some ⟨bd,0,none⟩)),(11, .pointer (some ⟨g,0,none⟩)),(25,v25),(26,v26),(27,v27)]) (Q:Exit→Act→World→Prop)
  (h:∀ a x2,Sl a 60 [(3,v3),(9, .pointer (some ⟨bd,0,none⟩)),(11, .pointer (some ⟨g,0,none⟩)),(25,v25),(26,v26),(27,v27)]→OI w x2 bt bd mb t s (Rn qs (p.toll,p.owner) ((atK qs (p.toll,p.owner)).getD 0+p.heads))→(∀ w1:World,w1.heap.size≤mb→Below w1.heap.size w1 x→Below w1.heap.size w1 x2)→Q .normal a x2):(Aa Try.f82 6).wp Try.prog Q a x:=by
 have hB:∀ w1:World,w1.heap.size≤mb→Below w1.heap.size w1 x→Below w1.heap.size w1 x.drew:=fun w1 _ h=>h.drew
 rw [show Aa Try.f82 6=Code.region 6 _ true from rfl];refine G6 15 (by kernel_rfl) rfl (by kernel_rfl) (by kernel_rfl) (Z) [some 31,some 32,some 33,some 34,some 35,some 36,some 37,some 38,some 39,some 40,some 41,some 42,some 43,some 44,some 45] rfl rfl (fun j v _=>match j with | 0=>v = .pointer (some ⟨bd,0,none⟩) | 1=>v = .pointer (some ⟨bd,0,none⟩) | 2=>v = .pointer (some ⟨bd,6,none⟩) | 3=>v = .map (some mb) | 4=>v = .pointer (some ⟨g,0,none⟩) | 5=>v = .int .i64 p.toll | 6=>v = .pointer (some ⟨g,1,none⟩) | 7=>v = .int .i64 p.owner | 8=>v = .agg #[.int .i64 p.toll, .int .i64 p.owner] | 9=>v = .int .i64 ((atK qs (p.toll,p.owner)).getD 0) | 10=>v = .pointer (some ⟨g,2,none⟩) | 11=>v = .int .i64 p.heads | 12=>v = .int .i64 ((atK qs (p.toll,p.owner)).getD 0+p.heads) | 13=>v = .tuple #[.int .i64 ((atK qs (p.toll,p.owner)).getD 0), .int .i64 (VK qs (p.toll,p.owner):Nat)] | 14=>v = .int .i64 (VK qs (p.toll,p.owner):Nat) | _=>True) (fun L y=>OI w y bt bd mb t s (if L 13 then PK qs (p.toll,p.owner) else qs)∧Rw y g #[.int .i64 p.toll, .int .i64 p.owner, .int .i64 p.heads] 53∧(∀ w1:World,w1.heap.size≤mb→Below w1.heap.size w1 x→Below w1.heap.size w1 y)) ⟨I0.drew,G0.below (Below.refl _ _).drew,hB⟩ ?_ ?_
 ·clear Z;intro k o hkl ho L a x hI hLk Z hs hd;have hlt:∀ k:Nat,k < 15→k=0∨k=1∨k=2∨k=3∨k=4∨k=5∨k=6∨k=7∨k=8∨k=9∨k=10∨k=11∨k=12∨k=13∨k=14:=by decide
  rcases hlt k hkl with rfl | rfl | rfl | rfl | rfl | rfl | rfl | rfl | rfl | rfl | rfl | rfl | rfl | rfl | rfl
  ·obtain rfl:=Option.some.inj ho;have e9:=Z.g 9;clear hs hd;refine wg fun K hK =>?_
   unfold Oper.wp;go_simp;exact hK _ _ ⟨_,rfl,rfl,by simpa [Bq] using hI,fun _ _ h=>h⟩
  ·obtain rfl:=Option.some.inj ho;obtain ⟨_,e31,rfl⟩:=hs 0 _ 31 rfl rfl (hd 0 wm);clear hs hd;refine wg fun K hK =>?_
   unfold Oper.wp;go_simp;exact hK _ _ ⟨_,rfl,rfl,by simpa [Bq] using hI,fun _ _ h=>h⟩
  ·obtain rfl:=Option.some.inj ho;obtain ⟨_,e32,rfl⟩:=hs 1 _ 32 rfl rfl (hd 1 wm);clear hs hd;refine wg fun K hK =>?_
   unfold Oper.wp;go_simp;exact hK _ _ ⟨_,rfl,rfl,by simpa [Bq] using hI,fun _ _ h=>h⟩
  ·obtain rfl:=Option.some.inj ho;obtain ⟨_,e33,rfl⟩:=hs 2 _ 33 rfl rfl (hd 2 wm);have hc:=hI.1.kd.cell (o:=6) rfl;clear hs hd;refine wg fun K hK =>?_
   unfold Oper.wp;go_simp;exact hK _ _ ⟨_,rfl,rfl,by simpa [Bq] using hI,fun _ _ h=>h⟩
  ·obtain rfl:=Option.some.inj ho;have e11:=Z.g 11;clear hs hd;refine wg fun K hK =>?_
   unfold Oper.wp;go_simp;exact hK _ _ ⟨_,rfl,rfl,by simpa [Bq] using hI,fun _ _ h=>h⟩
  ·obtain rfl:=Option.some.inj ho;obtain ⟨_,e35,rfl⟩:=hs 4 _ 35 rfl rfl (hd 4 wm);have hc:=hI.2.1.cell (o:=0) rfl;clear hs hd;refine wg fun K hK =>?_
   unfold Oper.wp;go_simp;exact hK _ _ ⟨_,rfl,rfl,by simpa [Bq] using hI,fun _ _ h=>h⟩
  ·obtain rfl:=Option.some.inj ho;have e11:=Z.g 11;clear hs hd;refine wg fun K hK =>?_
   unfold Oper.wp;go_simp;exact hK _ _ ⟨_,rfl,rfl,by simpa [Bq] using hI,fun _ _ h=>h⟩
  ·obtain rfl:=Option.some.inj ho;obtain ⟨_,e37,rfl⟩:=hs 6 _ 37 rfl rfl (hd 6 wm);have hc:=hI.2.1.cell (o:=1) rfl;clear hs hd;refine wg fun K hK =>?_
   unfold Oper.wp;go_simp;exact hK _ _ ⟨_,rfl,rfl,by simpa [Bq] using hI,fun _ _ h=>h⟩
  ·obtain rfl:=Option.some.inj ho;obtain ⟨_,e36,rfl⟩:=hs 5 _ 36 rfl rfl (hd 5 wm);obtain ⟨_,e38,rfl⟩:=hs 7 _ 38 rfl rfl (hd 7 wm);clear hs hd;refine wg fun K hK =>?_
   unfold Oper.wp;go_simp;exact hK _ _ ⟨_,rfl,rfl,by simpa [Bq] using hI,fun _ _ h=>h⟩
  ·obtain rfl:=Option.some.inj ho;obtain ⟨_,e34,rfl⟩:=hs 3 _ 34 rfl rfl (hd 3 wm);obtain ⟨_,e39,rfl⟩:=hs 8 _ 39 rfl rfl (hd 8 wm);have hlk:=hI.1.look p.toll p.owner;have hsame:(atK (if L 13 then PK qs (p.toll,p.owner) else qs) (p.toll,p.owner)).getD 0=(atK qs (p.toll,p.owner)).getD 0:=by by_cases c:L 13=true;(rw [if_pos c];exact (Tc qs _).2.2.2);rw [if_neg c]
   rw [hsame] at hlk;clear hsame;clear hs hd;refine wg fun K hK =>?_
   unfold Oper.wp;go_simp;exact hK _ _ ⟨_,rfl,rfl,by simpa [Bq] using hI,fun _ _ h=>h⟩
  ·obtain rfl:=Option.some.inj ho;have e11:=Z.g 11;clear hs hd;refine wg fun K hK =>?_
   unfold Oper.wp;go_simp;exact hK _ _ ⟨_,rfl,rfl,by simpa [Bq] using hI,fun _ _ h=>h⟩
  ·obtain rfl:=Option.some.inj ho;obtain ⟨_,e41,rfl⟩:=hs 10 _ 41 rfl rfl (hd 10 wm);have hc:=hI.2.1.cell (o:=2) rfl;clear hs hd;refine wg fun K hK =>?_
   unfold Oper.wp;go_simp;exact hK _ _ ⟨_,rfl,rfl,by simpa [Bq] using hI,fun _ _ h=>h⟩
  ·obtain rfl:=Option.some.inj ho;obtain ⟨_,e40,rfl⟩:=hs 9 _ 40 rfl rfl (hd 9 wm);obtain ⟨_,e42,rfl⟩:=hs 11 _ 42 rfl rfl (hd 11 wm);have hw:IntKind.i64.wrap ((atK qs (p.toll,p.owner)).getD 0+p.heads)=(atK qs (p.toll,p.owner)).getD 0+p.heads:=IntWalk.i64_in _ (by have:=Aj.1 hh;omega);clear hs hd;refine wg fun K hK =>?_
   unfold Oper.wp;go_simp;exact hK _ _ ⟨_,rfl,rfl,by simpa [Bq] using hI,fun _ _ h=>h⟩
  ·obtain rfl:=Option.some.inj ho;obtain ⟨_,e34,rfl⟩:=hs 3 _ 34 rfl rfl (hd 3 wm);obtain ⟨_,e39,rfl⟩:=hs 8 _ 39 rfl rfl (hd 8 wm);rw [hLk] at hI;have hme:=(show OI w x bt bd mb t s qs from hI.1).entry p.toll p.owner;clear hs hd;refine wg fun K hK =>?_
   unfold Oper.wp;go_simp;refine hK _ _ ⟨_,rfl,rfl,⟨?_,hI.2.1.other _ hg,fun w1 h1 h2=>Gi _ (hI.2.2 w1 h1 h2) h1⟩,fun _ _ h=>h⟩;have:=(show OI w x bt bd mb t s qs from hI.1).put (PK qs (p.toll,p.owner))
   simpa [Bq] using this
  ·obtain rfl:=Option.some.inj ho;obtain ⟨_,e44,rfl⟩:=hs 13 _ 44 rfl rfl (hd 13 wm);clear hs hd;refine wg fun K hK =>?_
   unfold Oper.wp;go_simp;exact hK _ _ ⟨_,rfl,rfl,by simpa [Bq] using hI,fun _ _ h=>h⟩
 ·clear Z;intro L a x hall hI Z hs;obtain ⟨_,e34,rfl⟩:=hs 3 _ 34 rfl rfl (hall 3 (by decide));obtain ⟨_,e43,rfl⟩:=hs 12 _ 43 rfl rfl (hall 12 (by decide));obtain ⟨_,e45,rfl⟩:=hs 14 _ 45 rfl rfl (hall 14 (by decide));have I1:=hI.1;rw [hall 13 (by decide)] at I1;have hes:=(show OI w x bt bd mb t s (PK qs (p.toll,p.owner)) from I1).store ((atK qs (p.toll,p.owner)).getD 0+p.heads);clear hs;refine wg fun K hK =>?_
  unfold Oper.wp;go_simp;refine hK _ _ (h _ _ Z ?_ (fun w1 h1 h2=>Gi _ (hI.2.2 w1 h1 h2) h1));exact I1.put _
theorem Uj {t:Ac} {s:DF} {w:World} {from_:Int} {way:List Int} {wa:Option Addr} {wc:Nat} (ht:BM w t s) (hT:Ak t=0) (hw:Aq w wa way) (hwc:way.length≤wc) (hwl:way.length≤1000000):Calls Try.prog 82 #[.agg (Em t s), .int .i64 from_, .slice wa way.length wc] w (fun e w'=>e = .returned (.int .i64 (IE t from_ way))∧Below w.heap.size w w'):=by
 obtain ⟨hfl,hll⟩:=Jy hT from_ way;have hFL:=Fz.along hT from_ way;have hdb:=fun o (ho:o < t.Ad.length)=>Vr hFL (o:=o) ho
 obtain ⟨_,_,_,_,hl4,_,_,hl6,_⟩:=Au hT
 have hsb:∀ k,k≤t.Ad.length→0≤Jb (Jz t (BK t from_ way).1) k∧Jb (Jz t (BK t from_ way).1) k≤2000000000000*(k:Int):=fun k=>by
  induction k with
  | zero=>intro _;simp [Jb]
  | succ k ih=>intro hk;have h1:=ih (by omega);have h2:=hdb k (by omega);simp only [Jb];push_cast;omega
 have HSB:=Lib.hid hsb;have HDB:=Lib.hid hdb;have HF:=Lib.hid hfl;clear hsb hdb hfl;refine NZ Try.func82 UF Try.ntmps82 ?_;intro a Z;refine wsr ?_;refine Z.s ?_;clear Z;intro a Z;refine Ae (G:=fun W=>wpOps _ _ _ _ _ W) ?_;intro x hz X hb;have hI:=TI.made (Below.refl _ _) ht X hb;obtain ⟨bt,hbt⟩:∃ b,b=w.heap.size:=⟨_,rfl⟩;rw [← hbt] at Z hI;clear hz X hb hbt;refine Z.s ?_;clear Z;intro a Z;refine od ?_;refine wsr ?_;refine og fun K hK =>?_
 have e3:=Z.g 3;have c0:=hI.c0;have c1:=hI.c1;have c2:=hI.c2;have c3:=hI.c3;have c4:=hI.c4;have c5:=hI.c5;unfold Oper.wp;go_simp;clear e3;refine Z.K hK ?_;clear Z hK;intro a Z;(iterate 2 refine Z.s ?_;clear Z;intro a Z);refine og fun K hK =>?_
 have e15:=Z.g 15;have e16:=Z.g 16;have e17:=Z.g 17;unfold Oper.wp;go_simp;refine (J4 hI.tar (hw.below hI.below) hwc hwl).mono ?_;rintro e x ⟨hb,va,rfl,hO,hnil⟩;replace hI:=hI.keep hb;obtain ⟨la,lc,rfl,hlc,hlm,hl⟩:=Fh.at hO;obtain ⟨l,hld⟩:∃ l,(BK t from_ way).1=l:=⟨_,rfl⟩;rw [hld] at hll hFL hl hlc;clear hb hO hnil;clear e15 e16 e17;refine Z.K hK ?_;clear Z hK;intro a Z;rw [hld] at Z;(iterate 5 refine Z.s ?_;clear Z;intro a Z);refine od ?_;refine wsr ?_;refine og fun K hK =>?_
 have e3:=Z.g 3;have c0:=hI.c0;have c1:=hI.c1;have c2:=hI.c2;have c3:=hI.c3;have c4:=hI.c4;have c5:=hI.c5;unfold Oper.wp;go_simp;clear e3;refine Z.K hK ?_;clear Z hK;intro a Z;refine Z.s ?_;clear Z;intro a Z;clear c0 c1 c2 c3 c4 c5;refine OG (G:=fun W=>wpOps _ _ _ _ _ W) ?_;have hzx:=hI.below.size;have hzt:=hI.kb.lt;obtain ⟨mb,hmb⟩:∃ b,b=x.heap.size:=⟨_,rfl⟩;obtain ⟨w1,hw1⟩:∃ w1,w1=x:=⟨_,rfl⟩;intro x hz M hb;replace hI:=hI.keep hb;rw [← hmb] at Z M hz;have hmt:mb≠bt:=by omega
 have hwm:w.heap.size≤mb:=by omega
 rw [← hw1] at hb hmb hl;have HB:=hb;have HZ:=Lib.hid hz;have HM1:=Lib.hid hmb;clear hb hmb hz hzx hzt hw1;(iterate 2 refine Z.s ?_;clear Z;intro a Z);refine Ae (G:=fun W=>wpOps _ _ _ _ _ W) ?_;obtain ⟨bd,hbd⟩:∃ b,b=x.heap.size:=⟨_,rfl⟩;have hz:=HZ.out;intro x hz2 D hb;rw [← hbd] at Z D;have hO:OI w x bt bd mb t s []:=⟨hI.below.trans (hb.mono hI.below.size),hI.kb.below hb,D,M.below hb (by omega),hI.lb,by omega,hwm,hmt,by omega⟩;replace HB:=HB.trans (hb.mono HB.size);clear hI D M hz hz2 HZ hb hbd hmt hwm;have hI:=hO;clear hO;refine Z.s ?_;clear Z;intro a Z;refine od ?_;refine wp_seq ?_;refine wsr ?_;(iterate 3 refine Z.s ?_;clear Z;intro a Z);refine od ?_;refine wp_block ?_;refine wp_loop_ghost (fun n p x=>∃ (k:Nat) (qs:List ((Int×Int)×Int)),k+n=l.length∧(∀ key,(atK qs key).getD 0=Ba (l.take k) key)∧Sl p 60 [(3, .pointer (some ⟨bt,0,none⟩)),(9, .pointer (some ⟨bd,0,none⟩)),(25, .slice la l.length lc),(26, .int .i64 (l.length:Int)),(27, .int .i64 (k:Int))]∧OI w x bt bd mb t s qs∧Below w1.heap.size w1 x) l.length ⟨0,[],by omega,fun key=>rfl,Z.sb,hI,HB⟩ ?_;clear Z hI HB;rintro n a x ⟨k,qs,hkn,hS,Z,hI,HB⟩;have HS:=Lib.hid hS;clear hS;refine wsr ?_
 by_cases hlt:k < l.length
 ·have q1:(k:Int) < (l.length:Int):=by omega
  obtain ⟨pb,po,hpa,p0,p1,p2⟩:=(hl.below HB).at hlt;rw [hpa] at Z;simp only [SB] at p0 p1 p2;refine Z.s ?_;clear Z;intro a Z;refine od ?_;refine wp_seq ?_;refine wp_cond_true (Z.ev 28 rfl) ?_;refine wp_skip ?_;refine wp_seq ?_;refine wp_block ?_;refine wsr ?_;(iterate 2 refine Z.s ?_;clear Z;intro a Z);refine og fun K hK =>?_
  obtain ⟨g,hg⟩:∃ b,b=x.heap.size:=⟨_,rfl⟩;unfold Oper.wp;go_simp;refine Z.K hK ?_;clear Z hK;intro a Z;refine og fun K hK =>?_
  have e11:=Z.g 11;have e30:=Z.g 30;unfold Oper.wp;go_simp;clear e11 e30;refine hK _ _ ?_;clear hK;refine Ae (G:=fun W=>wpOps _ _ _ _ _ W) ?_;have hmg:mb≠g:=by have:=hI.mp.lt;omega
  intro x hz G hb;replace hI:=hI.keep hb;replace HB:=HB.trans (hb.mono HB.size);rw [← hg] at Z G;clear hz hb p0 p1 p2 hg;refine od ?_;have hs5:=HS.out (l[k].toll,l[k].owner);have hfk:DC t (l.take k):=fun p hp=>HF.out p (by rw [hld];exact List.mem_of_mem_take hp)
  have h5:btw l[k].heads 1 40=true:=(WE (HF.out l[k] (by rw [hld];exact List.getElem_mem hlt))).2.2;have hb5:=Gj hfk (l[k].toll,l[k].owner);have hlk5:(l.take k).length≤192:=by rw [List.length_take];omega
  refine Abq hI G hmg (by rw [hs5];exact hb5.1) (by rw [hs5];omega) h5 _ _ _ _ a Z.sb _ ?_;clear Z;intro a x2 Z hI2 hB2;replace HB:=hB2 w1 (by rw [HM1.out];exact Nat.le_refl _) HB;clear hI hB2 G;have hI:=hI2;clear hI2;rw [hs5] at hI;refine wr ?_;refine og fun K hK =>?_
  have e27:=Z.g 27;have hww:=Bf k (by omega);unfold Oper.wp;go_simp;clear e27;refine Z.K hK ?_;clear Z hK;intro a Z;refine Z.s ?_;clear Z;intro a Z;refine od ?_;show Exists _;exact ⟨n-1,by omega,k+1,_,by omega,upd_sum hlt HS.out,by rw [hpa];exact Z.sb,hI,HB⟩
 ·obtain rfl:k=l.length:=by omega
  refine Z.s ?_;clear Z;intro a Z;refine od ?_;refine wp_seq ?_;refine wp_cond_false (Z.ev 28 rfl) ?_;refine wp_exit ?_
  try simp only [Exit.then,Exit.inBlock,↓reduceIte,Nat.reduceEqDiff]
  rw [List.take_length] at HS;have hD:Il x bd mb t s l:=⟨hI.kd,qs,hI.mp,HS.out⟩;have HBW:=hI.below;refine wsr ?_;refine Z.s ?_;clear Z;intro a Z;refine od ?_;refine wp_seq ?_;refine wsr ?_;refine Z.s ?_;clear Z;intro a Z;refine og fun K hK =>?_
  have e47:=Z.g 47;have c4:=hI.kb.cell (o:=4) rfl;unfold Oper.wp;go_simp;clear e47;refine Z.K hK ?_;clear Z hK;intro a Z;(iterate 2 refine Z.s ?_;clear Z;intro a Z);refine od ?_;refine wp_block ?_;refine wp_loop_ghost (fun n p x=>∃ k:Nat,k+n=t.Ad.length∧Sl p 60 [(9, .pointer (some ⟨bd,0,none⟩)),(12, .int .i64 (Jb (Jz t l) k)),(49, .int .i64 (t.Ad.length:Int)),(50, .int .i64 (k:Int))]∧Il x bd mb t s l∧Below w.heap.size w x) t.Ad.length ⟨0,by omega,Z.sb,hD,HBW⟩ ?_;clear Z hI HB hD HBW;rintro n a x ⟨k,hkn,Z,hD,HBW⟩;refine wsr ?_
  by_cases hlt:k < t.Ad.length
  ·have q1:(k:Int) < (t.Ad.length:Int):=by omega
   refine Z.s ?_;clear Z;intro a Z;refine od ?_;refine wp_seq ?_;refine wp_cond_true (Z.ev 51 rfl) ?_;refine wp_skip ?_;refine wp_seq ?_;refine wp_block ?_;refine wsr ?_;(iterate 2 refine Z.s ?_;clear Z;intro a Z);refine od ?_;refine wr ?_;(iterate 3 refine Z.s ?_;clear Z;intro a Z);refine og fun K hK =>?_
   have e54:=Z.g 54;have e55:=Z.g 55;unfold Oper.wp;go_simp;refine (Xz (ht.below HBW) hD hFL hlt).mono ?_;rintro e x ⟨rfl,hb⟩;replace hD:=hD.below hb;replace HBW:=HBW.trans (hb.mono HBW.size);clear hb;clear e54 e55;refine Z.K hK ?_;clear Z hK;intro a Z;refine og fun K hK =>?_
   have e53:=Z.g 53;have e56:=Z.g 56;have h1:=HSB.out k (by omega);have h2:=HDB.out k hlt;have hww:IntKind.i64.wrap (Jb (Jz t l) k+Jz t l k)=Jb (Jz t l) (k+1):=by rw [hld] at h1 h2;exact IntWalk.i64_in _ (by omega)
   unfold Oper.wp;go_simp;clear e53 e56;refine Z.K hK ?_;clear Z hK;intro a Z;refine Z.s ?_;clear Z;intro a Z;refine od ?_;refine wr ?_;refine og fun K hK =>?_
   have e50:=Z.g 50;have hww:=Bf k (by omega);unfold Oper.wp;go_simp;clear e50;refine Z.K hK ?_;clear Z hK;intro a Z;refine Z.s ?_;clear Z;intro a Z;refine od ?_;show Exists _;exact ⟨n-1,by omega,k+1,by omega,Z.sb,hD,HBW⟩
  ·obtain rfl:k=t.Ad.length:=by omega
   refine Z.s ?_;clear Z;intro a Z;refine od ?_;refine wp_seq ?_;refine wp_cond_false (Z.ev 51 rfl) ?_;refine wp_exit ?_;refine wsr ?_;(iterate 2 refine Z.s ?_;clear Z;intro a Z);refine od ?_;refine wp_ret ?_
   try simp only [Exit.then,Exit.inBlock]
   refine bodyPost_ret (v := .int .i64 (Jb (Jz t l) t.Ad.length)) ?_ Z.defers ⟨by rw [← hld];rfl,HBW⟩;simp [results,Try.results82,Z.get 6 _ rfl]
end
section
open Go Go.RowKit
section
variable {w x x':World} {m g B b:Nat} {c:Array Value} {t:TypeId}
theorem Rw.ext (h:Rw x b c t) (hE:Ext m x x') (hne:b≠m):Rw x' b c t:=(hE.block b h.lt hne).trans h
theorem Rw.Ff (h:Rw x b c t) (hB:Below B x x') (hlt:b < B):Rw x' b c t:=(hB.block b hlt).trans h
theorem Ext.set (h:Ext m w x) (hg:w.heap.size≤g) (o:Nat) (v:Value):Ext m w (x.setCell ⟨g,o,none⟩ v):=by
 refine ⟨h.os,h.tape,h.output,?_,fun k hk hne =>?_⟩
 ·simpa using h.size
 ·rw [Below.heap_setCell _ ⟨g,o,none⟩ _ k (by show k≠g;omega)];exact h.block k hk hne
theorem Ext.app (h:Ext m w x) (hB:Below B x x') (hw:w.heap.size≤B):Ext m w x' :=
 ⟨hB.os.trans h.os,hB.tape.trans h.tape,hB.output.trans h.output,Nat.le_trans h.size hB.size,fun k hk hne=>(hB.block k (by omega)).trans (h.block k hk hne)⟩
theorem Ext.bel (h:Ext m w x) (hb:Below x.heap.size x x'):Ext m w x':=h.trans (Ext.of_below hb)
theorem A8.far {hb n ca:Nat} {a:Option Addr} (h:A8 x hb B a n ca) (hlt:hb < g) (o:Nat) (v:Value):A8 (x.setCell ⟨g,o,none⟩ v) hb B a n ca:=h.keep fun k _ hk=>Below.heap_setCell _ ⟨g,o,none⟩ _ k (by show k≠g;omega)
theorem A8.Ff {hb n ca D:Nat} {a:Option Addr} (h:A8 x hb D a n ca) (hB:Below B x x') (hlt:hb < B):A8 x' hb D a n ca:=h.keep fun k _ hk=>hB.block k (by omega)
end
section
variable {α:Type} {f:α→List Value} {e:TypeId} {k:Nat} {w x x':World} {B D m g:Nat} {v:Value} {l:List α}
theorem AC.ext (h:AC f e k x B v l) (hE:Ext m x x') (hm:m < B):AC f e k x' B v l:=h.keep fun b hb=>hE.block b (h.Ah hb).2 (by have:=(h.Ah hb).1;omega)
theorem AC.far (h:AC f e k x B v l) (hg:g < B) (o:Nat) (u:Value):AC f e k (x.setCell ⟨g,o,none⟩ u) B v l:=h.keep fun b hb=>Below.heap_setCell _ ⟨g,o,none⟩ _ b (by have:=(h.Ah hb).1;show b≠g;omega)
def TC (C:Nat) (v:Value):Prop:=∀ b,v.ownBlock=some b→b < C
theorem TC.nil {C:Nat}:TC C (.slice none 0 0):=fun b h=>by simp [Value.ownBlock] at h
theorem AC.upTo (h:AC f e k x B v l):TC x.heap.size v:=fun b hb=>(h.Ah hb).2
theorem AC.Ff {C:Nat} (h:AC f e k x B v l) (hu:TC C v) (hB:Below D x x') (hd:C≤D):AC f e k x' B v l:=h.keep fun b hb=>hB.block b (by have:=hu b hb;omega)
theorem YS {o:Oper} {a:Act} {K:Value→World→Prop} (st:TypeId) {z:Value} {bytes:Nat} (s y0:Operand) (hst:Try.prog.underlying st=some (.slice e)) (hinfo:(Try.prog.info? e).map (fun i=>(i.zero,i.size,i.bytes))=some (some z,k,bytes)) (hz:z.cells.size=k) (hk:0 < k) (hby:bytes≤100)
  (ho:o.op = .call { callee := .builtin .append,args:=#[s,y0],argTypes:=#[st,st] }) (hs:a.eval s=v) (hown:AC f e k w B v l) (gs:Nat) (y:α) (hx:a.eval y0 = .slice (some ⟨gs,0,none⟩) 1 1)
  (hf:(f y).length=k) (hr:∀ (j:Nat) (u:Value),(f y)[j]? = some u→w.cell? ⟨gs,j,none⟩=some u) (h1:∀ u∈f y,u.oneCell'=true) (hlen:l.length≤1000000) (hB:B≤w.heap.size)
  (h:∀ v' w',AC f e k w' B v' (l++[y])→Below B w w'→v' ≠ .slice none 0 0→K v' w'):BD Try.prog o a w K:=by
 obtain ⟨i0,hi,hz0,hz1,hz2⟩:=info_parts (P:=Try.prog) hinfo;have hblk:∀ k,v.ownBlock=some k→B≤k:=fun k hk=>(hown.Ah hk).1
 obtain ⟨v',w',q1,q2,q3,q4,q5⟩:=run_append_own_at (P:=Try.prog) w B st o.type e i0 z k bytes hst hi hz0 hz1 hz2 hz hk v l.length _ hown ⟨gs,0,none⟩ 1 1 (f y) (by rw [hf];omega) (by
    intro j u hj;have:=hr j u hj;have e:(⟨gs,0,none⟩:Addr).add j=⟨gs,j,none⟩:=by by_cases h0:j=0 <;> simp [Addr.add,h0]
    rw [e];exact this) h1 (by unfold maxLen;omega) (by
    have:(l.length+1)*bytes≤1000001*100:=Nat.mul_le_mul (by omega) hby
    omega) hB
 unfold BD execOp;simp only [ho,resolve,invoke,builtin,Sem.run_bind,Sem.run_pure,Result.andThen_ok,List.map_toArray,List.map_cons,List.map_nil,hs,hx,q1];refine h v' w' ?_ (Below.grown (Below.refl _ _) q3 hB hblk) (fun e =>?_)
 ·unfold AC;rw [List.length_append,List.flatMap_append]
  simpa using q2
 ·have:=(q4.1 e).2
  omega
end
end
section
open Go Go.RowKit
def Dc {α:Type} (f:α→List Value) (k:Nat) (w:World) (A:Option Addr) (ys:List α):Prop :=
 ys=[]∨∃ b o,A=some ⟨b,o,none⟩∧∀ (i:Nat) (hi:i < ys.length) (j:Nat) (u:Value),j < k→(f ys[i])[j]? = some u→w.cell? ⟨b,o+(i*k+j),none⟩=some u
section
variable {α:Type} {f:α→List Value} {e:TypeId} {k:Nat} {w:World} {B:Nat} {v:Value} {l:List α}
theorem AC.empty {g:Nat} (h:Rw w g #[] e) (hB:B≤g):AC f e k w B (.slice (some ⟨g,0,none⟩) 0 0) [] :=
 ⟨by simp, .inr ⟨g,0,#[],rfl,hB,h,Nat.le_refl _,by unfold maxLen;omega,by simp,by simp⟩⟩
theorem AC.cells (h:AC f e k w B v l) (hf:∀ x,(f x).length=k):∃ a cap,v = .slice a l.length cap∧l.length≤cap∧cap≤maxLen∧Dc f k w a l:=by
 obtain ⟨a,cap,hv,h1,h2,hn,hs⟩:=h.form hf;refine ⟨a,cap,hv,h1,h2,?_⟩
 cases a with
 | none=>exact .inl (hn rfl).1
 | some ad =>
  obtain ⟨g,rfl,_,_,hc⟩:=hs ad rfl;exact .inr ⟨g,0,rfl,fun i hi j u hj hu=>by rw [Nat.zero_add];exact hc i hi j u hj hu⟩
theorem Oh (w:World) (B:Nat) (st ty:TypeId) {z:Value} {bytes:Nat} (hst:Try.prog.underlying st=some (.slice e)) (hinfo:(Try.prog.info? e).map (fun i=>(i.zero,i.size,i.bytes))=some (some z,k,bytes)) (hz:z.cells.size=k) (hk:0 < k) (hby:bytes≤100)
  (hown:AC f e k w B v l) (A:Option Addr) (c:Nat) (ys:List α) (hr:Dc f k w A ys) (hf:∀ y,(f y).length=k) (h1:∀ y∈ys,∀ u∈f y,u.oneCell'=true) (hlen:l.length+ys.length≤1000000) (hB:B≤w.heap.size) :
  ∃ v' w',(Builtin.append_ #[st,st] ty #[v, .slice A ys.length c]).run Try.prog w = .ok v' w'∧AC f e k w' B v' (l++ys)∧w.grownBy w' v.ownBlock∧(v'.ownBlock=v.ownBlock∨v'.ownBlock=some w.heap.size)∧(v ≠ .slice none 0 0→v' ≠ .slice none 0 0):=by
 obtain ⟨i0,hi,hz0,hz1,hz2⟩:=info_parts (P:=Try.prog) hinfo
 cases A with
 | none =>
  have:ys=[]:=by rcases hr with h | ⟨_,_,h,_⟩;exact h;simp at h
  subst this;refine ⟨v,w,?_,by simpa using hown,⟨rfl,rfl,rfl,Nat.le_refl _,fun _ _ _=>rfl⟩, .inl rfl,id⟩;rcases hown.2 with ⟨rfl,h0⟩ | ⟨g,cap,cur,rfl,_,_,hc,_⟩
  ·simp [Builtin.append_,run_underlying hst,sizeOf,typeInfo,hi,Builtin.lenOf,Builtin.firstCells]
  ·simp [Builtin.append_,run_underlying hst,sizeOf,typeInfo,hi,Builtin.lenOf,Builtin.firstCells,hc,storeCells]
 | some ad =>
  obtain ⟨v',w',q1,q2,q3,q4,q5⟩:=run_append_own_at (P:=Try.prog) w B st ty e i0 z k bytes hst hi hz0 hz1 hz2 hz hk v l.length _ hown ad ys.length c (ys.flatMap f) (Eg hf ys) (by
    intro j u hj;have hjl:j < ys.length*k:=by rw [← Eg hf ys];exact (List.getElem?_eq_some_iff.1 hj).1
    rcases hr with h | ⟨b,o,he,h⟩
    ·subst h;simp at hjl
    ·cases he
     have hq:j / k < ys.length:=(Nat.div_lt_iff_lt_mul hk).2 hjl;have hm:j % k < k:=Nat.mod_lt _ hk;have hsp:j / k*k+j % k=j:=by rw [Nat.mul_comm];exact Nat.div_add_mod j k
     have h2:=flat_get hf ys (j / k) (j % k) hq hm;rw [hsp,hj] at h2;have h3:=h (j / k) hq (j % k) u hm h2.symm;rw [hsp] at h3;have e:(⟨b,o,none⟩:Addr).add j=⟨b,o+j,none⟩:=by by_cases h0:j=0 <;> simp [Addr.add,h0]
     rw [e];exact h3) (by
    intro u hu;obtain ⟨y,hy,hu⟩:=List.mem_flatMap.1 hu;exact h1 y hy u hu) (by unfold maxLen;omega) (by
    have:(l.length+ys.length)*bytes≤1000000*100:=Nat.mul_le_mul hlen hby
    omega) hB
  refine ⟨v',w',q1,?_,q3,q5,fun hv e=>hv (q4.1 e).1⟩;unfold AC;rw [List.length_append,List.flatMap_append];exact q2
theorem PW {o:Oper} {a:Act} {K:Act→World→Prop} {Q:Exit→Act→World→Prop} (st:TypeId) {z:Value} {bytes:Nat} (s x:Operand) (hst:Try.prog.underlying st=some (.slice e)) (hinfo:(Try.prog.info? e).map (fun i=>(i.zero,i.size,i.bytes))=some (some z,k,bytes)) (hz:z.cells.size=k) (hk:0 < k) (hby:bytes≤100)
  (ho:o.op = .call { callee := .builtin .append,args:=#[s,x],argTypes:=#[st,st] }) (hs:a.eval s=v) (hown:AC f e k w B v l) {A:Option Addr} {c:Nat} {ys:List α} (hx:a.eval x = .slice A ys.length c) (hr:Dc f k w A ys)
  (hf:∀ y,(f y).length=k) (h1:∀ y∈ys,∀ u∈f y,u.oneCell'=true) (hlen:l.length+ys.length≤1000000) (hB:B≤w.heap.size)
  (h:∀ v' w',AC f e k w' B v' (l++ys)→w.grownBy w' v.ownBlock→(v'.ownBlock=v.ownBlock∨v'.ownBlock=some w.heap.size)→(v ≠ .slice none 0 0→v' ≠ .slice none 0 0)→K (a.put o.dst v') w'):o.wp Try.prog a w K Q:=by
 obtain ⟨v',w',q1,q2,q3,q4,q5⟩:=Oh w B st o.type hst hinfo hz hk hby hown A c ys hr hf h1 hlen hB;unfold Oper.wp execOp;simp only [ho,resolve,invoke,builtin,Sem.run_bind,Sem.run_pure,Result.andThen_ok,List.map_toArray,List.map_cons,List.map_nil,hs,hx,q1];exact h v' w' q2 q3 q4 q5
theorem FB {o:Oper} {a:Act} {K:Value→World→Prop} (st:TypeId) {z:Value} {bytes:Nat} (s x:Operand) (hst:Try.prog.underlying st=some (.slice e)) (hinfo:(Try.prog.info? e).map (fun i=>(i.zero,i.size,i.bytes))=some (some z,k,bytes)) (hz:z.cells.size=k) (hk:0 < k) (hby:bytes≤100)
  (ho:o.op = .call { callee := .builtin .append,args:=#[s,x],argTypes:=#[st,st] }) (hs:a.eval s=v) (hown:AC f e k w B v l) {A:Option Addr} {c:Nat} {ys:List α} (hx:a.eval x = .slice A ys.length c) (hr:Dc f k w A ys)
  (hf:∀ y,(f y).length=k) (h1:∀ y∈ys,∀ u∈f y,u.oneCell'=true) (hlen:l.length+ys.length≤1000000) (hB:B≤w.heap.size)
  (h:∀ v' w',AC f e k w' B v' (l++ys)→w.grownBy w' v.ownBlock→(v'.ownBlock=v.ownBlock∨v'.ownBlock=some w.heap.size)→(v ≠ .slice none 0 0→v' ≠ .slice none 0 0)→K v' w'):BD Try.prog o a w K:=by
 obtain ⟨v',w',q1,q2,q3,q4,q5⟩:=Oh w B st o.type hst hinfo hz hk hby hown A c ys hr hf h1 hlen hB;unfold BD execOp;simp only [ho,resolve,invoke,builtin,Sem.run_bind,Sem.run_pure,Result.andThen_ok,List.map_toArray,List.map_cons,List.map_nil,hs,hx,q1];exact h v' w' q2 q3 q4 q5
end
section
variable {w x x':World} {b g B:Nat} {c:Array Value} {t:TypeId} {r:Option Nat}
theorem Rw.grown (h:Rw x b c t) (hG:x.grownBy x' r) (hne:some b≠r):Rw x' b c t:=(hG.block b h.lt hne).trans h
theorem AC.grown {α:Type} {f:α→List Value} {e:TypeId} {k:Nat} {v:Value} {l:List α} (h:AC f e k x B v l) (hG:x.grownBy x' r) (hne:v.ownBlock≠r):AC f e k x' B v l:=h.keep fun q hq=>hG.block q (h.Ah hq).2 (by rw [← hq];exact hne)
theorem AC.Iy {α:Type} {f:α→List Value} {e:TypeId} {k:Nat} {v:Value} {l:List α} (h:AC f e k x B v l) (hb:x.heap.size≤b):v.ownBlock≠some b:=fun e=>by have:=(h.Ah e).2;omega
end
def Ha (s:Strip):List Value:=[.int .i64 s.A, .int .i64 s.B, .int .i64 s.L, .int .i64 s.W, .int .i64 s.K, .int .i64 s.X, .int .i64 s.Y]
def UV (p:BA):List Value:=[.int .i64 p.heads, .int .i64 p.free, .bool p.half]
def Oc (x:BH):List Value:=[.int .i64 x.strip, .int .i64 x.rate, .int .i64 x.farmer]
abbrev Gg:=AC Ha 96 7
abbrev Jl:=AC UV 69 3
abbrev KR:=AC Oc 57 3
theorem seven {j:Nat} (h:j < 7):j=0∨j=1∨j=2∨j=3∨j=4∨j=5∨j=6:=by omega
theorem three {j:Nat} (h:j < 3):j=0∨j=1∨j=2:=by omega
theorem G9 (l:List Strip):∀ y∈l,∀ u∈Ha y,u.oneCell'=true:=fun y _ u hu=>by simp only [Ha,List.mem_cons,List.not_mem_nil,or_false] at hu;rcases hu with rfl | rfl | rfl | rfl | rfl | rfl | rfl <;> rfl
theorem WF (l:List BA):∀ y∈l,∀ u∈UV y,u.oneCell'=true:=fun y _ u hu=>by simp only [UV,List.mem_cons,List.not_mem_nil,or_false] at hu;rcases hu with rfl | rfl | rfl <;> rfl
theorem Uz (l:List BH):∀ y∈l,∀ u∈Oc y,u.oneCell'=true:=fun y _ u hu=>by simp only [Oc,List.mem_cons,List.not_mem_nil,or_false] at hu;rcases hu with rfl | rfl | rfl <;> rfl
theorem Dc.strips {w:World} {A:Option Addr} {l:List Strip}:Dc Ha 7 w A l↔EH w A l:=by
 constructor
 ·rintro (h | ⟨b,o,ha,h⟩)
  ·exact .inl h
  ·exact .inr ⟨b,o,ha,fun i hi=>⟨h i hi 0 _ (by omega) rfl,(h i hi 1 _ (by omega) rfl :),(h i hi 2 _ (by omega) rfl :),(h i hi 3 _ (by omega) rfl :),(h i hi 4 _ (by omega) rfl :),(h i hi 5 _ (by omega) rfl :),(h i hi 6 _ (by omega) rfl :)⟩⟩
 ·rintro (h | ⟨b,o,ha,h⟩)
  ·exact .inl h
  ·refine .inr ⟨b,o,ha,fun i hi j u hj hu =>?_⟩;obtain ⟨c0,c1,c2,c3,c4,c5,c6⟩:=h i hi;rcases seven hj with rfl | rfl | rfl | rfl | rfl | rfl | rfl <;> (simp only [Ha,List.getElem?_cons_zero,List.getElem?_cons_succ,Option.some.injEq] at hu;subst hu;assumption)
theorem Dc.tri {α:Type} {f:α→List Value} {g:α→Value×Value×Value} (hfg:∀ x,f x=[(g x).1,(g x).2.1,(g x).2.2]) {w:World} {A:Option Addr} {l:List α}:Dc f 3 w A l↔PQ g w A l:=by
 constructor
 ·rintro (h | ⟨b,o,ha,h⟩)
  ·exact .inl h
  ·exact .inr ⟨b,o,ha,fun i hi=>⟨h i hi 0 _ (by omega) (by rw [hfg];rfl),(h i hi 1 _ (by omega) (by rw [hfg];rfl) :),(h i hi 2 _ (by omega) (by rw [hfg];rfl) :)⟩⟩
 ·rintro (h | ⟨b,o,ha,h⟩)
  ·exact .inl h
  ·refine .inr ⟨b,o,ha,fun i hi j u hj hu =>?_⟩;obtain ⟨c0,c1,c2⟩:=h i hi;rw [hfg] at hu;rcases three hj with rfl | rfl | rfl <;> (simp only [List.getElem?_cons_zero,List.getElem?_cons_succ,Option.some.injEq] at hu;subst hu;assumption)
theorem Dc.Ad {w:World} {A:Option Addr} {l:List BA}:Dc UV 3 w A l↔Ur w A l:=Dc.tri (f:=UV) (g:=Zp) fun _=>rfl
theorem Dc.Ai {w:World} {A:Option Addr} {l:List BH}:Dc Oc 3 w A l↔X4 w A l:=Dc.tri (f:=Oc) (g:=P8) fun _=>rfl
structure D5 (w:World) (B:Nat) (t:Ac) (s:DF):Prop where
 os:Gg w B (.slice s.sa t.roads.strips.length s.sc) t.roads.strips
 op:Jl w B (.slice s.pa t.Ad.length s.pc) t.Ad
 ot:KR w B (.slice s.ta t.Ai.length s.tc) t.Ai
theorem D5.tar {w:World} {B:Nat} {t:Ac} {s:DF} (h:D5 w B t s):BM w t s:=by
 obtain ⟨a1,c1,e1,l1,m1,x1⟩:=h.os.cells (fun _=>rfl);obtain ⟨a2,c2,e2,l2,m2,x2⟩:=h.op.cells (fun _=>rfl);obtain ⟨a3,c3,e3,l3,m3,x3⟩:=h.ot.cells (fun _=>rfl);simp only [Value.slice.injEq,true_and] at e1 e2 e3;obtain ⟨rfl,rfl⟩:=e1;obtain ⟨rfl,rfl⟩:=e2;obtain ⟨rfl,rfl⟩:=e3;exact ⟨Dc.strips.1 x1,Dc.Ad.1 x2,Dc.Ai.1 x3,Nat.le_trans l1 m1,Nat.le_trans l2 m2,Nat.le_trans l3 m3,l2,l3⟩
theorem D5.below {w w':World} {B:Nat} {t:Ac} {s:DF} (h:D5 w B t s) (hb:Below w.heap.size w w'):D5 w' B t s:=⟨h.os.below hb,h.op.below hb,h.ot.below hb⟩
theorem D5.ext {w w':World} {B m:Nat} {t:Ac} {s:DF} (h:D5 w B t s) (hE:Ext m w w') (hm:m < B):D5 w' B t s:=⟨h.os.ext hE hm,h.op.ext hE hm,h.ot.ext hE hm⟩
theorem D5.lower {w:World} {B B':Nat} {t:Ac} {s:DF} (h:D5 w B t s) (hB:B'≤B):D5 w B' t s:=⟨h.os.lower hB,h.op.lower hB,h.ot.lower hB⟩
theorem D5.make {w:World} {B:Nat} {r:BU} {p:Int} {ps:List BA} {ts:List BH} {v1 v2 v3:Value} (h1:Gg w B v1 r.strips) (h2:Jl w B v2 ps) (h3:KR w B v3 ts):∃ s,D5 w B ⟨r,p,ps,ts⟩ s ∧ .agg #[.int .i64 r.days, .int .i64 r.stages,v1, .int .i64 p,v2,v3]=Value.agg (Em ⟨r,p,ps,ts⟩ s):=by
 obtain ⟨a1,c1,e1,_⟩:=h1.cells (fun _=>rfl);obtain ⟨a2,c2,e2,_⟩:=h2.cells (fun _=>rfl);obtain ⟨a3,c3,e3,_⟩:=h3.cells (fun _=>rfl);subst e1 e2 e3;exact ⟨⟨a1,c1,a2,c2,a3,c3⟩,⟨h1,h2,h3⟩,rfl⟩
end
end Go.Proofs.Ytgdobbcjkiapkaa
