import Derived.Test.YtgdobbcjkiapkaaFr04
import Derived.Test.YtgdobbcjkiapkaaFr32
import Derived.Test.YtgdobbcjkiapkaaFr02
import Derived.Test.YtgdobbcjkiapkaaFr22
import Derived.Test.YtgdobbcjkiapkaaFr18
namespace Go.Proofs.Ytgdobbcjkiapkaa
set_option maxRecDepth 100000
set_option maxHeartbeats 4000000
set_option linter.unusedSimpArgs false
set_option linter.unusedVariables false
section
open Go.RowKit
theorem Rn:Try.f118.body=some (Code.seq (Aa Try.f118 0) (Code.seq (Aa Try.f118 1) Code.ret)):=by kernel_rfl
theorem WW {w:World}:Calls Try.prog 118 #[] w (fun e w'=>e = .returned (.agg #[.func (.func 127) #[] #[]])∧Below w.heap.size w w'):=by
 refine Zl Try.func118 Rn Try.ntmps118 ?_;intro a Z;refine wsr ?_;refine Z.s ?_;clear Z;intro a Z;refine Ad (G:=fun W=>wpOps _ _ _ _ _ W) ?_;obtain ⟨b,hg⟩:∃ b,b=w.heap.size:=⟨_,rfl⟩;intro x hz KX hb;rw [← hg] at Z KX;have hbl:w.heap.size≤b:=by omega
 clear hz hg;refine od ?_;refine wsr ?_;refine Z.s ?_;clear Z;intro a Z;refine og fun K hK =>?_
 have e0:=Z.g 0;have e1:=Z.g 1;have c0:=KX.cell (o:=0) rfl;have z0:=KX.fz 0;unfold Oper.wp;go_simp;clear e0 e1;refine hK _ _ ?_;clear hK;replace hb:=hb.setCell (p:=⟨b,0,none⟩) (by show w.heap.size≤b;exact hbl) (.func (.func 127) #[] #[]);replace KX:=KX.set 0 (.func (.func 127) #[] #[]);refine od ?_;refine wp_ret ?_
 try simp only [Exit.then,Exit.inBlock]
 have c1:=KX.cell (o:=0) rfl;refine bodyPost_ret (v := .agg #[.func (.func 127) #[] #[]]) ?_ Z.defers ⟨rfl,hb⟩;simp [results,Try.results118,Z.get 0 _ rfl,go_sem,c1]
def Zw (t:Ae) (from_ to_ lim:Int):Option ED:=Xb ((Nh t from_ to_).filter (LP lim))
def Xo (w0:World) (r:Option ED) (err:Int) (e:Ending) (w':World):Prop :=
 Below w0.heap.size w0 w'∧(r=none→e = .returned (.tuple #[.slice none 0 0, .int .i64 0, .int .i64 err]))∧(∀ c,r=some c→∃ v,e = .returned (.tuple #[v, .int .i64 c.coins, .int .i64 0])∧D6 w' w0.heap.size v c.way∧v ≠ .slice none 0 0∧c.way.length≤1000)
theorem PZ:Try.f96.body=some (Code.seq (Aa Try.f96 0) (Code.seq (Aa Try.f96 1) (Code.seq (Code.seq (Aa Try.f96 2) (Code.cond (Operand.tmp 20) (Code.seq (Aa Try.f96 3) Code.ret) Code.skip)) (Code.seq (Aa Try.f96 4) Code.ret)))):=by kernel_rfl
theorem TT {t:Ae} {s:D5} {w:World} {from_ to_ lim:Int} (ht:Dc w t s) (hT:AA t=0) (hfr:btw from_ 0 (t.roads.stages-1)=true):Calls Try.prog 96 #[.agg (Bf t s), .int .i64 from_, .int .i64 to_, .int .i64 lim] w (Xo w (Zw t from_ to_ lim) 11):=by
 refine call4 Try.func96 PZ Try.ntmps96 ?_;intro a Z;refine wsr ?_;refine Z.s ?_;clear Z;intro a Z;refine Ad (G:=fun W=>wpOps _ _ _ _ _ W) ?_;obtain ⟨bt,hg⟩:∃ g,g=w.heap.size:=⟨_,rfl⟩;intro x hz Kt hb;rw [← hg] at Z Kt;have h0:w.heap.size≤bt:=by omega
 clear hg hz;refine Z.s ?_;clear Z;intro a Z;refine Ad (G:=fun W=>wpOps _ _ _ _ _ W) ?_;obtain ⟨bf,hg⟩:∃ g,g=x.heap.size:=⟨_,rfl⟩;have hz0:=hb.size;intro x hz Kf hb2;rw [← hg] at Z Kf;have h1:w.heap.size≤bf:=by omega
 replace hb:=hb.trans (hb2.mono hb.size);replace Kt:=Kt.below hb2;clear hz0 hb2;clear hg hz;refine Z.s ?_;clear Z;intro a Z;refine Ad (G:=fun W=>wpOps _ _ _ _ _ W) ?_;obtain ⟨bto,hg⟩:∃ g,g=x.heap.size:=⟨_,rfl⟩;have hz0:=hb.size;intro x hz Kto hb2;rw [← hg] at Z Kto;have h2:w.heap.size≤bto:=by omega
 replace hb:=hb.trans (hb2.mono hb.size);replace Kt:=Kt.below hb2;replace Kf:=Kf.below hb2;clear hz0 hb2;clear hg hz;refine Z.s ?_;clear Z;intro a Z;refine Ad (G:=fun W=>wpOps _ _ _ _ _ W) ?_;obtain ⟨bl,hg⟩:∃ g,g=x.heap.size:=⟨_,rfl⟩;have hz0:=hb.size;intro x hz Kl hb2;rw [← hg] at Z Kl;have h3:w.heap.size≤bl:=by omega
 replace hb:=hb.trans (hb2.mono hb.size);replace Kt:=Kt.below hb2;replace Kf:=Kf.below hb2;replace Kto:=Kto.below hb2;clear hz0 hb2;clear hg hz;(iterate 3 refine Z.s ?_;clear Z;intro a Z);refine od ?_;refine wsr ?_;refine Z.s ?_;clear Z;intro a Z;refine og fun K hK =>?_
 unfold Oper.wp;go_simp;refine WW.mono ?_;rintro e x ⟨rfl,hb2⟩;replace Kt:=Kt.below hb2;replace Kf:=Kf.below hb2;replace Kto:=Kto.below hb2;replace Kl:=Kl.below hb2;replace hb:=hb.trans (hb2.mono hb.size);clear hb2;refine Z.K hK ?_;clear Z hK;intro a Z;refine og fun K hK =>?_
 have e14:=Z.g 14;have e15:=Z.g 15;have hbe:=Yo (PY (lim:=lim) (bt:=bt) (bf:=bf) (bto:=bto) (bl:=bl) (to_:=to_) (s:=s) hT hfr) (w0:=x) (fun V hV=>⟨⟨ht.below (hb.trans (hV.mono hb.size)),Kt.below hV,Kf.below hV,Kto.below hV⟩,Kl.below hV⟩) (fun l W=>by simp [invoke,go_sem]);unfold Oper.wp;go_simp;refine hbe.mono ?_;rintro e x2 ⟨hb2,hN,hS⟩;have hxx:=hb.size;replace hb:=hb.trans (hb2.mono hb.size);clear hb2 Kt Kf Kto Kl hbe;have hW:Zw t from_ to_ lim=Xb ((Nh t from_ to_).filter (LP lim)):=rfl;rw [← hW] at hN hS;clear hW;clear e14 e15
 cases hc:Zw t from_ to_ lim with
 | none =>
  obtain rfl:=hN hc;clear hS hN hxx
  try simp only [Value.elem?]
  try refine ⟨_,rfl,?_⟩
  refine Z.K hK ?_;clear Z hK;intro a Z;obtain ⟨x,hx2⟩:∃ x,x=x2:=⟨_,rfl⟩;rw [← hx2] at hb ⊢;clear hx2;(iterate 3 refine Z.s ?_;clear Z;intro a Z);refine og fun K hK =>?_
  obtain ⟨bc,hg⟩:∃ b,b=x.heap.size:=⟨_,rfl⟩;unfold Oper.wp;go_simp;refine Z.K hK ?_;clear Z hK;intro a Z;refine og fun K hK =>?_
  have e11:=Z.g 11;have e17:=Z.g 17;unfold Oper.wp;go_simp;clear e11 e17;refine hK _ _ ?_;clear hK;have hbs:=hb.size;refine Ad (G:=fun W=>wpOps _ _ _ _ _ W) ?_;intro x2 hz KC hb3;rw [← hg] at Z KC;replace hb:=hb.trans (hb3.mono hb.size)
  skip
  have hbc:w.heap.size≤bc:=by rw [hg];exact hbs
  clear hz hb3 hg hbs;obtain ⟨x,hx3⟩:∃ x,x=x2:=⟨_,rfl⟩;rw [← hx3] at hb KC ⊢;clear hx3;refine Z.s ?_;clear Z;intro a Z;refine od ?_;refine wp_seq ?_;refine wsr ?_;(iterate 2 refine Z.s ?_;clear Z;intro a Z);refine od ?_;refine wp_cond_true (Z.ev 20 rfl) ?_;refine wsr ?_;(iterate 3 refine Z.s ?_;clear Z;intro a Z);refine od ?_;refine wp_ret ?_
  try simp only [Exit.then,Exit.inBlock]
  refine bodyPost_ret (v := .tuple #[.slice none 0 0, .int .i64 0, .int .i64 11]) ?_ Z.defers ⟨hb,fun _=>rfl,fun c2 h2=>by rw [hc] at h2;simp at h2⟩;simp [results,Try.results96,Z.get 8 _ rfl,Z.get 9 _ rfl,Z.get 10 _ rfl]
 | some c =>
  obtain ⟨cv,rfl,hO,hnn,hl⟩:=hS c hc;clear hS hN;replace hO:=Bc.lower hO hxx;clear hxx;obtain ⟨ga,ca,hcv,_⟩:=D6.sl hO hnn;subst hcv
  try simp only [Value.elem?]
  try refine ⟨_,rfl,?_⟩
  refine Z.K hK ?_;clear Z hK;intro a Z;obtain ⟨x,hx2⟩:∃ x,x=x2:=⟨_,rfl⟩;rw [← hx2] at hb ⊢ hO;clear hx2;(iterate 3 refine Z.s ?_;clear Z;intro a Z);refine og fun K hK =>?_
  obtain ⟨bc,hg⟩:∃ b,b=x.heap.size:=⟨_,rfl⟩;unfold Oper.wp;go_simp;refine Z.K hK ?_;clear Z hK;intro a Z;refine og fun K hK =>?_
  have e11:=Z.g 11;have e17:=Z.g 17;unfold Oper.wp;go_simp;clear e11 e17;refine hK _ _ ?_;clear hK;have hbs:=hb.size;refine Ad (G:=fun W=>wpOps _ _ _ _ _ W) ?_;intro x2 hz KC hb3;rw [← hg] at Z KC;replace hb:=hb.trans (hb3.mono hb.size);replace hO:=hO.below hb3;have hbc:w.heap.size≤bc:=by rw [hg];exact hbs
  clear hz hb3 hg hbs;obtain ⟨x,hx3⟩:∃ x,x=x2:=⟨_,rfl⟩;rw [← hx3] at hb KC ⊢ hO;clear hx3;refine Z.s ?_;clear Z;intro a Z;refine od ?_;refine wp_seq ?_;refine wsr ?_;(iterate 2 refine Z.s ?_;clear Z;intro a Z);refine od ?_;refine wp_cond_false (Z.ev 20 rfl) ?_;refine wp_skip ?_;refine wp_seq ?_;replace KC:Rw x bc #[.slice (some ⟨ga,0,none⟩) c.way.length ca, .int .i64 c.coins, .int .i64 c.leagues] 149:=KC;rw [show Aa Try.f96 4=Code.region 4 _ true from rfl];refine DR (by kernel_rfl) ((Z.nil.cons (Z.get 11 _ rfl))) [some 21,some 22,some 23,some 24,some 8,some 9,some 10] rfl rfl (by kernel_rfl) (fun j v _=>match j with | 0=>v = .pointer (some ⟨bc,0,none⟩) | 1=>v = .slice (some ⟨ga,0,none⟩) c.way.length ca | 2=>v = .pointer (some ⟨bc,1,none⟩) | 3=>v = .int .i64 c.coins | 4=>v = .slice (some ⟨ga,0,none⟩) c.way.length ca | 5=>v = .int .i64 c.coins | 6=>v = .int .i64 0 | _=>True) (fun _ x=>Rw x bc #[.slice (some ⟨ga,0,none⟩) c.way.length ca, .int .i64 c.coins, .int .i64 c.leagues] 149∧Below w.heap.size w x∧D6 x w.heap.size (.slice (some ⟨ga,0,none⟩) c.way.length ca) c.way) (⟨KC.below (Below.refl _ _).drew,hb.trans ((Below.refl _ _).drew.mono hb.size),hO.below (Below.refl _ _).drew⟩) ?_ ?_
  ·clear Z;intro k o hkl ho L a x hI hLk Z hs hd;have hlt:∀ k:Nat,k < 7→k=0∨k=1∨k=2∨k=3∨k=4∨k=5∨k=6:=by decide
   rcases hlt k hkl with rfl | rfl | rfl | rfl | rfl | rfl | rfl
   ·obtain rfl:=Option.some.inj ho;have e11:=Z.g 11;clear hs hd;refine wg fun K hK =>?_
    unfold Oper.wp;go_simp;exact hK _ _ ⟨_,rfl,rfl,hI,fun _ _ h=>h⟩
   ·obtain rfl:=Option.some.inj ho;obtain ⟨_,e21,rfl⟩:=hs 0 _ 21 rfl rfl (hd 0 wm);have c0:=hI.1.cell (o:=0) rfl;clear hs hd;refine wg fun K hK =>?_
    unfold Oper.wp;go_simp;exact hK _ _ ⟨_,rfl,rfl,hI,fun _ _ h=>h⟩
   ·obtain rfl:=Option.some.inj ho;have e11:=Z.g 11;clear hs hd;refine wg fun K hK =>?_
    unfold Oper.wp;go_simp;exact hK _ _ ⟨_,rfl,rfl,hI,fun _ _ h=>h⟩
   ·obtain rfl:=Option.some.inj ho;obtain ⟨_,e23,rfl⟩:=hs 2 _ 23 rfl rfl (hd 2 wm);have c1:=hI.1.cell (o:=1) rfl;clear hs hd;refine wg fun K hK =>?_
    unfold Oper.wp;go_simp;exact hK _ _ ⟨_,rfl,rfl,hI,fun _ _ h=>h⟩
   ·obtain rfl:=Option.some.inj ho;obtain ⟨_,e22,rfl⟩:=hs 1 _ 22 rfl rfl (hd 1 wm);clear hs hd;refine wg fun K hK =>?_
    unfold Oper.wp;go_simp;exact hK _ _ ⟨_,rfl,rfl,hI,fun _ _ h=>h⟩
   ·obtain rfl:=Option.some.inj ho;obtain ⟨_,e24,rfl⟩:=hs 3 _ 24 rfl rfl (hd 3 wm);clear hs hd;refine wg fun K hK =>?_
    unfold Oper.wp;go_simp;exact hK _ _ ⟨_,rfl,rfl,hI,fun _ _ h=>h⟩
   ·obtain rfl:=Option.some.inj ho;clear hs hd;refine wg fun K hK =>?_
    unfold Oper.wp;go_simp;exact hK _ _ ⟨_,rfl,rfl,hI,fun _ _ h=>h⟩
  ·clear Z;intro L a x hall hI Z hs;obtain ⟨v8,e8,hv8⟩:=hs 4 _ 8 rfl rfl (hall 4 (by decide));obtain rfl:=hv8;obtain ⟨v9,e9,hv9⟩:=hs 5 _ 9 rfl rfl (hall 5 (by decide));obtain rfl:=hv9;obtain ⟨_,e10,rfl⟩:=hs 6 _ 10 rfl rfl (hall 6 (by decide));replace Z:=(((Z.cons e8).cons e9).cons e10);clear hs hall e8 e9 e10;refine wp_ret ?_
   try simp only [Exit.then,Exit.inBlock]
   obtain ⟨KC,hb,hO⟩:=hI;refine bodyPost_ret (v := .tuple #[.slice (some ⟨ga,0,none⟩) c.way.length ca, .int .i64 c.coins, .int .i64 0]) ?_ Z.defers ⟨hb,fun h=>by rw [hc] at h;simp at h,fun c2 h2=>by rw [hc] at h2;obtain rfl:=Option.some.inj h2;exact ⟨_,rfl,hO,hnn,hl⟩⟩;simp [results,Try.results96,Z.get 8 _ rfl,Z.get 9 _ rfl,Z.get 10 _ rfl]
def HY (t:Ae) (from_ to_:Int):Int:=if AA t=0 then (if (btw from_ 0 (t.roads.stages-1) && btw to_ 0 (t.roads.stages-1))=true then 0 else 3) else AA t
def J5 (t:Ae) (from_ to_:Int):Option ED×Int:=if HY t from_ to_=0 then (Zw t from_ to_ (-1),11) else (none,HY t from_ to_)
theorem Yx {t:Ae} {from_:Int} {way:List Int} (h:(CG t from_ way).2=0):AA t=0:=by
 rcases Classical.em (AA t=0) with h1 | h1
 ·exact h1
 ·have:=(G5 (from_:=from_) (way:=way)).1 h1;rw [this] at h;exact absurd h h1
theorem IB {t:Ae} {l:List AU} (h:Cc t l=0):AA t=0:=by
 rcases Classical.em (AA t=0) with h1 | h1
 ·exact h1
 ·rw [Gz.1 h1] at h;exact absurd h h1
theorem Ee {t:Ae} {l:List AU} (h:Cc t l=0):DI t l∧l.length≤1000:=by
 have h1:=IB h;rcases Nat.lt_or_ge 24 l.length with h2 | h2
 ·rw [Gz.2.1 h1 h2] at h;exact absurd h (by decide)
 ·rw [Gz.2.2 h1 h2] at h;exact ⟨Lp h,by omega⟩
theorem WL {t:Ae} {from_ to_:Int} (h:HY t from_ to_=0):AA t=0∧btw from_ 0 (t.roads.stages-1)=true:=by
 unfold HY at h
 split at h
 ·rename_i h1
  split at h
  ·rename_i h2;simp only [Bool.and_eq_true] at h2;exact ⟨h1,h2.1⟩
  ·exact absurd h (by decide)
 ·rename_i h1;exact absurd h h1
theorem Ua:Try.f95.body=some (Code.seq (Aa Try.f95 0) (Code.seq (Code.seq (Aa Try.f95 1) (Code.seq (Aa Try.f95 2) (Code.cond (Operand.tmp 11) (Code.seq (Aa Try.f95 3) Code.ret) Code.skip))) (Code.seq (Code.seq (Aa Try.f95 4) (Code.cond (Operand.tmp 28) (Code.seq (Aa Try.f95 5) Code.ret) Code.skip)) (Code.seq (Aa Try.f95 6) Code.ret)))):=by kernel_rfl
theorem X8 {t:Ae} {s:D5} {w:World} {from_ to_:Int} (ht:Dc w t s):Calls Try.prog 95 #[.agg (Bf t s), .int .i64 from_, .int .i64 to_] w (fun e w'=>e = .returned (.int .i64 (HY t from_ to_))∧Below w.heap.size w w'):=by
 refine PN Try.func95 Ua Try.ntmps95 ?_;intro a Z;refine wsr ?_;refine Z.s ?_;clear Z;intro a Z;refine Ad (G:=fun W=>wpOps _ _ _ _ _ W) ?_;intro x hz X hb;have hI:=TI.made (Below.refl _ _) ht X hb;obtain ⟨bt,hbt⟩:∃ b,b=w.heap.size:=⟨_,rfl⟩;rw [← hbt] at Z hI;clear hz X hb hbt;refine Z.s ?_;clear Z;intro a Z;refine od ?_;refine wp_seq ?_;refine wsr ?_;refine og fun K hK =>?_
 have e3:=Z.g 3;have c0:=hI.c0;have c1:=hI.c1;have c2:=hI.c2;have c3:=hI.c3;have c4:=hI.c4;have c5:=hI.c5;unfold Oper.wp;go_simp;clear e3;refine Z.K hK ?_;clear Z hK;intro a Z;refine og fun K hK =>?_
 have e8:=Z.g 8;unfold Oper.wp;go_simp;refine (Ky hI.tar).mono ?_;rintro e x ⟨rfl,hb⟩;replace hI:=hI.keep hb;clear hb;clear e8;refine Z.K hK ?_;clear Z hK;intro a Z;refine Z.s ?_;clear Z;intro a Z;refine od ?_;refine wsr ?_;refine Z.s ?_;clear Z;intro a Z
 by_cases h1:AA t=0
 ·have hne:=CV h1;refine Z.s ?_;clear Z;intro a Z;refine od ?_;refine wp_cond_false (Z.ev 11 rfl) ?_;refine wp_skip ?_;refine wp_seq ?_;refine wsr ?_;(iterate 3 refine Z.s ?_;clear Z;intro a Z);refine og fun K hK =>?_
  have e15:=Z.g 15;have c1:=hI.c1;unfold Oper.wp;go_simp;clear e15;refine Z.K hK ?_;clear Z hK;intro a Z;refine og fun K hK =>?_
  have e16:=Z.g 16;have hww:IntKind.i64.wrap (t.roads.stages-1)=t.roads.stages-1:=IntWalk.i64_in _ (by have:=EU (Bo h1).1;omega);unfold Oper.wp;go_simp;clear e16;refine Z.K hK ?_;clear Z hK;intro a Z;refine og fun K hK =>?_
  have e13:=Z.g 13;have e17:=Z.g 17;unfold Oper.wp;go_simp;refine (BA _ _ _ _).mono ?_;rintro e x ⟨rfl,rfl⟩;clear e13 e17;refine Z.K hK ?_;clear Z hK;intro a Z;rcases Bool.eq_false_or_eq_true (btw from_ 0 (t.roads.stages-1)) with h2 | h2
  ·rw [h2] at Z;(iterate 2 refine Z.s ?_;clear Z;intro a Z);(iterate 3 refine Z.t ?_;clear Z;intro a Z);refine oW (Z.g 20) fun K hK =>?_
   have e23:=Z.g 23;have c1:=hI.c1;unfold Oper.wp;go_simp;clear e23;refine Z.K hK ?_;clear Z hK;intro a Z;refine oW (Z.g 20) fun K hK =>?_
   have e24:=Z.g 24;have hww:IntKind.i64.wrap (t.roads.stages-1)=t.roads.stages-1:=IntWalk.i64_in _ (by have:=EU (Bo h1).1;omega);unfold Oper.wp;go_simp;clear e24;refine Z.K hK ?_;clear Z hK;intro a Z;refine oW (Z.g 20) fun K hK =>?_
   have e21:=Z.g 21;have e25:=Z.g 25;unfold Oper.wp;go_simp;refine (BA _ _ _ _).mono ?_;rintro e x ⟨rfl,rfl⟩;clear e21 e25;refine Z.K hK ?_;clear Z hK;intro a Z;rcases Bool.eq_false_or_eq_true (btw to_ 0 (t.roads.stages-1)) with h3 | h3
   ·rw [h3] at Z;refine Z.t ?_;clear Z;intro a Z;refine Z.s ?_;clear Z;intro a Z;refine od ?_;refine wp_cond_false (Z.ev 28 rfl) ?_;refine wp_skip ?_;refine wsr ?_;refine Z.s ?_;clear Z;intro a Z;refine od ?_;refine wp_ret ?_
    try simp only [Exit.then,Exit.inBlock]
    have hR:=Lib.hid (show HY t from_ to_=0 from by unfold HY;rw [if_pos h1,if_pos (by rw [h2,h3];rfl)]);refine bodyPost_ret (v := .int .i64 (HY t from_ to_)) ?_ Z.defers ⟨rfl,hI.below⟩;rw [hR.out];simp [results,Try.results95,Z.get 6 _ rfl]
   ·rw [h3] at Z;refine Z.t ?_;clear Z;intro a Z;refine Z.s ?_;clear Z;intro a Z;refine od ?_;refine wp_cond_true (Z.ev 28 rfl) ?_;refine wsr ?_;refine Z.s ?_;clear Z;intro a Z;refine od ?_;refine wp_ret ?_
    try simp only [Exit.then,Exit.inBlock]
    have hR:=Lib.hid (show HY t from_ to_=3 from by unfold HY;rw [if_pos h1,if_neg (by rw [h2,h3];decide)]);refine bodyPost_ret (v := .int .i64 (HY t from_ to_)) ?_ Z.defers ⟨rfl,hI.below⟩;rw [hR.out];simp [results,Try.results95,Z.get 6 _ rfl]
  ·rw [h2] at Z;(iterate 2 refine Z.s ?_;clear Z;intro a Z);refine Z.z ?_;clear Z;intro a Z;refine Z.z ?_;clear Z;intro a Z;refine Z.z ?_;clear Z;intro a Z;refine Z.z ?_;clear Z;intro a Z;refine Z.z ?_;clear Z;intro a Z;refine Z.z ?_;clear Z;intro a Z;refine Z.z ?_;clear Z;intro a Z;refine Z.s ?_;clear Z;intro a Z;refine od ?_;refine wp_cond_true (Z.ev 28 rfl) ?_;refine wsr ?_;refine Z.s ?_;clear Z;intro a Z;refine od ?_;refine wp_ret ?_
   try simp only [Exit.then,Exit.inBlock]
   have hR:=Lib.hid (show HY t from_ to_=3 from by unfold HY;rw [if_pos h1,if_neg (by rw [h2];simp)]);refine bodyPost_ret (v := .int .i64 (HY t from_ to_)) ?_ Z.defers ⟨rfl,hI.below⟩;rw [hR.out];simp [results,Try.results95,Z.get 6 _ rfl]
 ·have hne:=Dy h1;have hR:=Lib.hid (show HY t from_ to_=AA t from if_neg h1);refine Z.s ?_;clear Z;intro a Z;refine od ?_;refine wp_cond_true (Z.ev 11 rfl) ?_;refine wsr ?_;(iterate 2 refine Z.s ?_;clear Z;intro a Z);refine od ?_;refine wp_ret ?_
  try simp only [Exit.then,Exit.inBlock]
  refine bodyPost_ret (v := .int .i64 (HY t from_ to_)) ?_ Z.defers ⟨rfl,hI.below⟩;rw [hR.out];simp [results,Try.results95,Z.get 6 _ rfl]
theorem NF:Try.f48.body=some (Code.seq (Aa Try.f48 0) (Code.seq (Code.seq (Aa Try.f48 1) (Code.seq (Aa Try.f48 2) (Code.cond (Operand.tmp 15) (Code.seq (Aa Try.f48 3) Code.ret) Code.skip))) (Code.seq (Aa Try.f48 4) Code.ret))):=by kernel_rfl
theorem QL {t:Ae} {s:D5} {w:World} {from_ to_:Int} (ht:Dc w t s):Calls Try.prog 48 #[.agg (Bf t s), .int .i64 from_, .int .i64 to_] w (Xo w (J5 t from_ to_).1 (J5 t from_ to_).2):=by
 refine PN Try.func48 NF Try.ntmps48 ?_;intro a Z;refine wsr ?_;refine Z.s ?_;clear Z;intro a Z;refine Ad (G:=fun W=>wpOps _ _ _ _ _ W) ?_;intro x hz X hb;have hI:=TI.made (Below.refl _ _) ht X hb;obtain ⟨bt,hbt⟩:∃ b,b=w.heap.size:=⟨_,rfl⟩;rw [← hbt] at Z hI;clear hz X hb hbt;(iterate 3 refine Z.s ?_;clear Z;intro a Z);refine od ?_;refine wp_seq ?_;refine wsr ?_;refine og fun K hK =>?_
 have e3:=Z.g 3;have c0:=hI.c0;have c1:=hI.c1;have c2:=hI.c2;have c3:=hI.c3;have c4:=hI.c4;have c5:=hI.c5;unfold Oper.wp;go_simp;clear e3;refine Z.K hK ?_;clear Z hK;intro a Z;(iterate 2 refine Z.s ?_;clear Z;intro a Z);refine og fun K hK =>?_
 have e10:=Z.g 10;have e11:=Z.g 11;have e12:=Z.g 12;unfold Oper.wp;go_simp;refine (X8 hI.tar).mono ?_;rintro e x ⟨rfl,hb⟩;replace hI:=hI.keep hb;clear hb;clear e10 e11 e12;refine Z.K hK ?_;clear Z hK;intro a Z;refine Z.s ?_;clear Z;intro a Z;refine od ?_;refine wsr ?_;refine Z.s ?_;clear Z;intro a Z
 by_cases h1:HY t from_ to_=0
 ·have HE:=Lib.hid h1;have hne:=CV h1;clear h1;refine Z.s ?_;clear Z;intro a Z;refine od ?_;refine wp_cond_false (Z.ev 15 rfl) ?_;refine wp_skip ?_;refine wsr ?_;refine og fun K hK =>?_
  have e3:=Z.g 3;have c0:=hI.c0;have c1:=hI.c1;have c2:=hI.c2;have c3:=hI.c3;have c4:=hI.c4;have c5:=hI.c5;unfold Oper.wp;go_simp;clear e3;refine Z.K hK ?_;clear Z hK;intro a Z;(iterate 2 refine Z.s ?_;clear Z;intro a Z);refine og fun K hK =>?_
  have e17:=Z.g 17;have e18:=Z.g 18;have e19:=Z.g 19;unfold Oper.wp;go_simp;refine (TT (to_:=to_) (lim:=(-1)) hI.tar (WL HE.out).1 (WL HE.out).2).mono ?_;rintro e x2 ⟨hb2,hN,hS⟩;have hxx:=hI.below.size;replace hI:=hI.keep hb2;clear hb2 e17 e18 e19
  cases hc:Zw t from_ to_ (-1) with
  | none =>
   obtain rfl:=hN hc;clear hS hN;clear hxx
   try refine ⟨_,rfl,?_⟩
   refine Z.K hK ?_;clear Z hK;intro a Z;obtain ⟨x,hx2⟩:∃ x,x=x2:=⟨_,rfl⟩;rw [← hx2] at hI ⊢;clear hx2;(iterate 6 refine Z.s ?_;clear Z;intro a Z);refine od ?_;refine wp_ret ?_
   try simp only [Exit.then,Exit.inBlock]
   have hR:=Lib.hid (show J5 t from_ to_=(none,11) from by unfold J5;rw [if_pos HE.out,hc]);rw [hR.out];refine bodyPost_ret (v := .tuple #[.slice none 0 0, .int .i64 0, .int .i64 11]) ?_ Z.defers ⟨hI.below,fun _=>rfl,fun c2 h2=>by simp at h2⟩;simp [results,Try.results48,Z.get 6 _ rfl,Z.get 7 _ rfl,Z.get 8 _ rfl]
  | some c =>
   obtain ⟨cv,rfl,hO,hnn,hl⟩:=hS c hc;clear hS hN;replace hO:=Bc.lower hO hxx;clear hxx
   try refine ⟨_,rfl,?_⟩
   refine Z.K hK ?_;clear Z hK;intro a Z;obtain ⟨x,hx2⟩:∃ x,x=x2:=⟨_,rfl⟩;rw [← hx2] at hI ⊢ hO;clear hx2;(iterate 6 refine Z.s ?_;clear Z;intro a Z);refine od ?_;refine wp_ret ?_
   try simp only [Exit.then,Exit.inBlock]
   have hR:=Lib.hid (show J5 t from_ to_=(some c,11) from by unfold J5;rw [if_pos HE.out,hc]);rw [hR.out];refine bodyPost_ret (v := .tuple #[cv, .int .i64 c.coins, .int .i64 0]) ?_ Z.defers ⟨hI.below,fun h=>by simp at h,fun c2 h2=>by obtain rfl:=Option.some.inj h2;exact ⟨_,rfl,hO,hnn,hl⟩⟩;simp [results,Try.results48,Z.get 6 _ rfl,Z.get 7 _ rfl,Z.get 8 _ rfl]
 ·have HE:=Lib.hid h1;have hne:=Dy h1;clear h1;refine Z.s ?_;clear Z;intro a Z;refine od ?_;refine wp_cond_true (Z.ev 15 rfl) ?_;refine wsr ?_;(iterate 4 refine Z.s ?_;clear Z;intro a Z);refine od ?_;refine wp_ret ?_
  try simp only [Exit.then,Exit.inBlock]
  have hR:=Lib.hid (show J5 t from_ to_=(none,HY t from_ to_) from by unfold J5;rw [if_neg HE.out]);rw [hR.out];refine bodyPost_ret (v := .tuple #[.slice none 0 0, .int .i64 0, .int .i64 (HY t from_ to_)]) ?_ Z.defers ⟨hI.below,fun _=>rfl,fun c2 h2=>by simp at h2⟩;simp [results,Try.results48,Z.get 6 _ rfl,Z.get 7 _ rfl,Z.get 8 _ rfl]
theorem Qd:Try.f35.body=some (Code.seq (Aa Try.f35 0) (Code.seq (Aa Try.f35 1) Code.ret)):=by kernel_rfl
theorem Vg {t:Ae} {s:D5} {w:World} {from_:Int} {way:List Int} {wa:Option Addr} {wc:Nat} (ht:Dc w t s) (hw:Ba w wa way) (hwc:way.length≤wc) (hwl:way.length≤1000000):Calls Try.prog 35 #[.agg (Bf t s), .int .i64 from_, .slice wa way.length wc] w (QZ w t from_ way):=by
 refine PN Try.func35 Qd Try.ntmps35 ?_;intro a Z;refine wsr ?_;refine Z.s ?_;clear Z;intro a Z;refine Ad (G:=fun W=>wpOps _ _ _ _ _ W) ?_;intro x hz X hb;have hI:=TI.made (Below.refl _ _) ht X hb;obtain ⟨bt,hbt⟩:∃ b,b=w.heap.size:=⟨_,rfl⟩;rw [← hbt] at Z hI;clear hz X hb hbt;(iterate 2 refine Z.s ?_;clear Z;intro a Z);refine od ?_;refine wsr ?_;refine og fun K hK =>?_
 have e3:=Z.g 3;have c0:=hI.c0;have c1:=hI.c1;have c2:=hI.c2;have c3:=hI.c3;have c4:=hI.c4;have c5:=hI.c5;unfold Oper.wp;go_simp;clear e3;refine Z.K hK ?_;clear Z hK;intro a Z;(iterate 2 refine Z.s ?_;clear Z;intro a Z);refine og fun K hK =>?_
 have e8:=Z.g 8;have e9:=Z.g 9;have e10:=Z.g 10;unfold Oper.wp;go_simp;refine (Nq hI.tar (hw.below hI.below) hwc hwl).mono ?_;rintro e x ⟨hb,va,rfl,hO,hnil⟩;have hxx:=hI.below.size;replace hO:=Bc.lower hO hxx;clear hxx;replace hI:=hI.keep hb;clear hb;clear e8 e9 e10;refine Z.K hK ?_;clear Z hK;intro a Z;(iterate 4 refine Z.s ?_;clear Z;intro a Z);refine od ?_;refine wp_ret ?_
 try simp only [Exit.then,Exit.inBlock]
 refine bodyPost_ret (v := .tuple #[va, .int .i64 (CG t from_ way).2]) ?_ Z.defers ⟨hI.below,va,rfl,hO,hnil⟩;simp [results,Try.results35,Z.get 6 _ rfl,Z.get 7 _ rfl]
end
section
open Go.RowKit
structure Z7 where
 owner:Int
 coins:Int
def YR (w:World) (a:Option Addr) (l:List Z7):Prop :=
 l=[]∨∃ b o,a=some ⟨b,o,none⟩∧∀ (i:Nat) (h:i < l.length),w.cell? ⟨b,o+i*2,none⟩=some (.int .i64 l[i].owner)∧w.cell? ⟨b,o+i*2+1,none⟩=some (.int .i64 l[i].coins)
theorem YR.at {w:World} {a:Option Addr} {l:List Z7} (h:YR w a l) {i:Nat} (hi:i < l.length):∃ b o,a=some ⟨b,o,none⟩∧w.cell? ⟨b,o+i*2,none⟩=some (.int .i64 l[i].owner)∧w.cell? ⟨b,o+i*2+1,none⟩=some (.int .i64 l[i].coins):=by
 rcases h with rfl | ⟨b,o,ha,h⟩
 ·simp at hi
 ·exact ⟨b,o,ha,h i hi⟩
def Il (l:List Int):Array Value:=(l.map fun x=>Value.int .i64 x).toArray
theorem MO {l:List Int} {i:Nat} (h:i < l.length):(Il l)[i]? = some (.int .i64 l[i]):=by simp [Il,h]
end
section
open Go.RowKit
theorem UH:Try.f28.body=some (Code.seq (Aa Try.f28 0) (Code.seq (Code.seq (Aa Try.f28 1) (Code.cond (Operand.tmp 10) (Code.seq (Aa Try.f28 2) Code.ret) Code.skip)) (Code.seq (Code.seq (Aa Try.f28 3) (Code.block 0 (Code.loop (Code.seq (Code.seq (Aa Try.f28 4) (Code.cond (Operand.tmp 14) Code.skip (Code.exit 0))) (Code.seq (Code.block 1 (Code.seq (Aa Try.f28 6) (Code.cond (Operand.tmp 25) (Code.seq (Aa Try.f28 7) Code.ret) Code.skip))) (Aa Try.f28 5)))))) (Code.seq (Aa Try.f28 8) Code.ret)))):=by kernel_rfl
theorem VN {w:World} {la lb:Option Addr} {ca cb:Nat} {l m:List Int} (ha:Ba w la l) (hb:Ba w lb m) (hn:l.length≤1000000):Calls Try.prog 28 #[.slice la l.length ca, .slice lb m.length cb] w (fun e w'=>e = .returned (.bool (decide (l=m)))∧Below w.heap.size w w'):=by
 refine Nl Try.func28 UH Try.ntmps28 ?_;intro a Z;refine wsr ?_;refine Z.s ?_;clear Z;intro a Z;refine od ?_;refine wp_seq ?_;refine wsr ?_;(iterate 4 refine Z.s ?_;clear Z;intro a Z)
 by_cases hne:l.length=m.length
 ·have q0:((l.length:Int) != (m.length:Int))=false:=by simp [hne]
  have HN:=Lib.hid hne;clear hne;refine Z.s ?_;clear Z;intro a Z;refine od ?_;refine wp_cond_false (Z.ev 10 rfl) ?_;refine wp_skip ?_;refine wp_seq ?_;refine wsr ?_;refine Z.s ?_;clear Z;intro a Z;refine od ?_;refine wp_block ?_;have hb1:=Below.refl w.heap.size w;refine wp_loop_ghost (fun n p x=>∃ k:Nat,k+n=l.length∧l.take k=m.take k∧Sl p 26 [(5, .int .i64 (k:Int)),(0, .slice la l.length ca),(1, .slice lb m.length cb)]∧Below w.heap.size w x) (l.length) ⟨0,by omega,rfl,Z.sb,hb1⟩ ?_;clear Z hb1;rintro n a x ⟨k,hkn,hT,Z,hb1⟩;have HT:=Lib.hid hT;clear hT;refine wp_seq ?_;refine wsr ?_;(iterate 3 refine Z.s ?_;clear Z;intro a Z)
  by_cases hlt:k < l.length
  ·have q1:(k:Int) < (l.length:Int):=by omega
   have hlm:k < m.length:=by rw [← HN.out];exact hlt
   have q3:(k:Int) < (m.length:Int):=by omega
   obtain ⟨b,o,rfl,hc⟩:=(ha.below hb1).at hlt;obtain ⟨b2,o2,rfl,hc2⟩:=(hb.below hb1).at hlm;refine Z.s ?_;clear Z;intro a Z;refine od ?_;refine wp_cond_true (Z.ev 14 rfl) ?_;refine wp_skip ?_;refine wp_seq ?_;refine wp_block ?_;refine wp_seq ?_;refine OQ rfl (by kernel_rfl) (by kernel_rfl) ?_;(iterate 3 refine Z.u ?_;clear Z;intro a Z);refine Z.q rfl rfl rfl (by decide) ⟨?_,fun y hy K hK =>?_,?_⟩;rotate_left
   ·have e19:=Z.g 19;replace hb1:=hb1.trans (hy.mono hb1.size);replace hc:=BU hy hc;replace hc2:=BU hy hc2;unfold Oper.F8;go_simp;exact hK
   clear Z;intro a Z;(iterate 3 refine Z.u ?_;clear Z;intro a Z);refine Z.q rfl rfl rfl (by decide) ⟨?_,fun y hy K hK =>?_,?_⟩;rotate_left
   ·have e23:=Z.g 23;replace hb1:=hb1.trans (hy.mono hb1.size);replace hc:=BU hy hc;replace hc2:=BU hy hc2;unfold Oper.F8;go_simp;exact hK
   clear Z;intro a Z
   by_cases he:l[k]=m[k]
   ·have q2:(l[k] != m[k])=false:=by simp [he]
    have HE:=Lib.hid he;clear he;refine Z.u ?_;clear Z;intro a Z;refine JI ?_;intro x hb2;replace hb1:=hb1.trans (hb2.mono hb1.size);replace hc:=BU hb2 hc;replace hc2:=BU hb2 hc2;clear hb2;refine wp_cond_false (Z.ev 25 rfl) ?_;refine wp_skip ?_;refine wr ?_;refine Z.s ?_;clear Z;intro a Z;refine og fun K hK =>?_
    have e15:=Z.g 15;have hw:=Bj k (by omega);unfold Oper.wp;go_simp;clear e15;refine Z.K hK ?_;clear Z hK;intro a Z;refine Z.s ?_;clear Z;intro a Z;refine od ?_;exact ⟨n-1,by omega,k+1,by omega,by rw [List.take_succ_eq_append_getElem hlt,List.take_succ_eq_append_getElem hlm,HT.out,HE.out],Z.sb,hb1⟩
   ·have q2:(l[k] != m[k])=true:=by simp [he]
    have HE:=Lib.hid he;clear he;refine Z.u ?_;clear Z;intro a Z;refine JI ?_;intro x hb2;replace hb1:=hb1.trans (hb2.mono hb1.size);replace hc:=BU hb2 hc;replace hc2:=BU hb2 hc2;clear hb2;refine wp_cond_true (Z.ev 25 rfl) ?_;refine wsr ?_;refine Z.s ?_;clear Z;intro a Z;refine od ?_;refine wp_ret ?_
    try simp only [Exit.then,Exit.inBlock]
    have HR:=Lib.hid (show decide (l=m)=false from decide_eq_false (fun h=>HE.out (by simp only [h])));rw [HR.out];refine bodyPost_ret (v := .bool false) ?_ Z.defers ⟨rfl,hb1⟩;simp [results,Try.results28,Z.get 4 _ rfl]
  ·have q1:¬ (k:Int) < (l.length:Int):=by omega
   obtain rfl:k=l.length:=by omega
   refine Z.s ?_;clear Z;intro a Z;refine od ?_;refine wp_cond_false (Z.ev 14 rfl) ?_;refine wp_exit ?_;refine wsr ?_;refine Z.s ?_;clear Z;intro a Z;refine od ?_;refine wp_ret ?_
   try simp only [Exit.then,Exit.inBlock]
   have HR:=Lib.hid (show decide (l=m)=true from decide_eq_true (by rw [← List.take_length (l:=l),HT.out,HN.out,List.take_length]));rw [HR.out];refine bodyPost_ret (v := .bool true) ?_ Z.defers ⟨rfl,hb1⟩;simp [results,Try.results28,Z.get 4 _ rfl]
 ·have q0:((l.length:Int) != (m.length:Int))=true:=by simp;omega
  refine Z.s ?_;clear Z;intro a Z;refine od ?_;refine wp_cond_true (Z.ev 10 rfl) ?_;refine wsr ?_;refine Z.s ?_;clear Z;intro a Z;refine od ?_;refine wp_ret ?_
  try simp only [Exit.then,Exit.inBlock]
  have HR:=Lib.hid (show decide (l=m)=false from decide_eq_false (fun h=>by rw [h] at q0;simp at q0));rw [HR.out];refine bodyPost_ret (v := .bool false) ?_ Z.defers ⟨rfl,Below.refl _ _⟩;simp [results,Try.results28,Z.get 4 _ rfl]
theorem AaN {α:Type} {p q r:Prop} [Decidable p] [Decidable q] [Decidable r] {A B:α} (h:p→q→r→False):(if p then if q then if r then A else B else B else B)=B:=by
 by_cases hp:p
 ·by_cases hq:q
  ·rw [if_pos hp,if_pos hq,if_neg (fun hr=>h hp hq hr)]
  ·rw [if_pos hp,if_neg hq]
 ·rw [if_neg hp]
theorem AU.AaO {x y:AU} (h0:x.toll=y.toll) (h1:x.owner=y.owner) (h2:x.heads=y.heads):x=y:=by cases x;cases y;simp_all
theorem RY:Try.f41.body=some (Code.seq (Aa Try.f41 0) (Code.seq (Code.seq (Aa Try.f41 1) (Code.cond (Operand.tmp 10) (Code.seq (Aa Try.f41 2) Code.ret) Code.skip)) (Code.seq (Code.seq (Aa Try.f41 3) (Code.block 0 (Code.loop (Code.seq (Code.seq (Aa Try.f41 4) (Code.cond (Operand.tmp 14) Code.skip (Code.exit 0))) (Code.seq (Code.block 1 (Code.seq (Aa Try.f41 6) (Code.cond (Operand.tmp 25) (Code.seq (Aa Try.f41 7) Code.ret) Code.skip))) (Aa Try.f41 5)))))) (Code.seq (Aa Try.f41 8) Code.ret)))):=by kernel_rfl
theorem VM {w:World} {la lb:Option Addr} {ca cb:Nat} {l m:List AU} (ha:Fh w la l) (hb:Fh w lb m) (hn:l.length≤1000000):Calls Try.prog 41 #[.slice la l.length ca, .slice lb m.length cb] w (fun e w'=>e = .returned (.bool (decide (l=m)))∧Below w.heap.size w w'):=by
 refine Nl Try.func41 RY Try.ntmps41 ?_;intro a Z;refine wsr ?_;refine Z.s ?_;clear Z;intro a Z;refine od ?_;refine wp_seq ?_;refine wsr ?_;(iterate 4 refine Z.s ?_;clear Z;intro a Z)
 by_cases hne:l.length=m.length
 ·have q0:((l.length:Int) != (m.length:Int))=false:=by simp [hne]
  have HN:=Lib.hid hne;clear hne;refine Z.s ?_;clear Z;intro a Z;refine od ?_;refine wp_cond_false (Z.ev 10 rfl) ?_;refine wp_skip ?_;refine wp_seq ?_;refine wsr ?_;refine Z.s ?_;clear Z;intro a Z;refine od ?_;refine wp_block ?_;have hb1:=Below.refl w.heap.size w;refine wp_loop_ghost (fun n p x=>∃ k:Nat,k+n=l.length∧l.take k=m.take k∧Sl p 26 [(5, .int .i64 (k:Int)),(0, .slice la l.length ca),(1, .slice lb m.length cb)]∧Below w.heap.size w x) (l.length) ⟨0,by omega,rfl,Z.sb,hb1⟩ ?_;clear Z hb1;rintro n a x ⟨k,hkn,hT,Z,hb1⟩;have HT:=Lib.hid hT;clear hT;refine wp_seq ?_;refine wsr ?_;(iterate 3 refine Z.s ?_;clear Z;intro a Z)
  by_cases hlt:k < l.length
  ·have q1:(k:Int) < (l.length:Int):=by omega
   have hlm:k < m.length:=by rw [← HN.out];exact hlt
   have q3:(k:Int) < (m.length:Int):=by omega
   obtain ⟨b,o,rfl,c0,c1,c2⟩:=(ha.below hb1).at hlt;obtain ⟨b2,o2,rfl,d0,d1,d2⟩:=(hb.below hb1).at hlm;simp only [RQ] at c0 c1 c2 d0 d1 d2;refine Z.s ?_;clear Z;intro a Z;refine od ?_;refine wp_cond_true (Z.ev 14 rfl) ?_;refine wp_skip ?_;refine wp_seq ?_;refine wp_block ?_;refine wp_seq ?_;refine OQ rfl (by kernel_rfl) (by kernel_rfl) ?_;(iterate 3 refine Z.u ?_;clear Z;intro a Z);refine Z.q rfl rfl rfl (by decide) ⟨?_,fun y hy K hK =>?_,?_⟩;rotate_left
   ·have e19:=Z.g 19;replace hb1:=hb1.trans (hy.mono hb1.size);replace c0:=BU hy c0;replace c1:=BU hy c1;replace c2:=BU hy c2;replace d0:=BU hy d0;replace d1:=BU hy d1;replace d2:=BU hy d2;unfold Oper.F8;go_simp;exact hK
   clear Z;intro a Z;(iterate 3 refine Z.u ?_;clear Z;intro a Z);refine Z.q rfl rfl rfl (by decide) ⟨?_,fun y hy K hK =>?_,?_⟩;rotate_left
   ·have e23:=Z.g 23;replace hb1:=hb1.trans (hy.mono hb1.size);replace c0:=BU hy c0;replace c1:=BU hy c1;replace c2:=BU hy c2;replace d0:=BU hy d0;replace d1:=BU hy d1;replace d2:=BU hy d2;unfold Oper.F8;go_simp;exact hK
   clear Z;intro a Z
   by_cases he:l[k]=m[k]
   ·have HE:=Lib.hid he;rw [he] at Z;clear he;refine Z.u ?_;clear Z;intro a Z;refine JI ?_;intro x hb2;replace hb1:=hb1.trans (hb2.mono hb1.size);replace c0:=BU hb2 c0;replace c1:=BU hb2 c1;replace c2:=BU hb2 c2;replace d0:=BU hb2 d0;replace d1:=BU hb2 d1;replace d2:=BU hb2 d2;clear hb2;refine wp_cond_false (Z.ev 25 rfl) ?_;refine wp_skip ?_;refine wr ?_;refine Z.s ?_;clear Z;intro a Z;refine og fun K hK =>?_
    have e15:=Z.g 15;have hw:=Bj k (by omega);unfold Oper.wp;go_simp;clear e15;refine Z.K hK ?_;clear Z hK;intro a Z;refine Z.s ?_;clear Z;intro a Z;refine od ?_;exact ⟨n-1,by omega,k+1,by omega,by rw [List.take_succ_eq_append_getElem hlt,List.take_succ_eq_append_getElem hlm,HT.out,HE.out],Z.sb,hb1⟩
   ·have HE:=Lib.hid he;clear he;refine Z.q rfl rfl rfl (by decide) ⟨?_,fun y hy K hK =>?_,?_⟩;rotate_left
    ·have e20:=Z.g 20;have e24:=Z.g 24;unfold Oper.F8;go_simp;rw [AaN (fun h0 h1 h2=>HE.out (AU.AaO h0 h1 h2))];refine ⟨rfl,?_⟩;exact hK
    clear Z;intro a Z;refine JI ?_;intro x hb2;replace hb1:=hb1.trans (hb2.mono hb1.size);replace c0:=BU hb2 c0;replace c1:=BU hb2 c1;replace c2:=BU hb2 c2;replace d0:=BU hb2 d0;replace d1:=BU hb2 d1;replace d2:=BU hb2 d2;clear hb2;refine wp_cond_true (Z.ev 25 rfl) ?_;refine wsr ?_;refine Z.s ?_;clear Z;intro a Z;refine od ?_;refine wp_ret ?_
    try simp only [Exit.then,Exit.inBlock]
    have HR:=Lib.hid (show decide (l=m)=false from decide_eq_false (fun h=>HE.out (by simp only [h])));rw [HR.out];refine bodyPost_ret (v := .bool false) ?_ Z.defers ⟨rfl,hb1⟩;simp [results,Try.results41,Z.get 4 _ rfl]
  ·have q1:¬ (k:Int) < (l.length:Int):=by omega
   obtain rfl:k=l.length:=by omega
   refine Z.s ?_;clear Z;intro a Z;refine od ?_;refine wp_cond_false (Z.ev 14 rfl) ?_;refine wp_exit ?_;refine wsr ?_;refine Z.s ?_;clear Z;intro a Z;refine od ?_;refine wp_ret ?_
   try simp only [Exit.then,Exit.inBlock]
   have HR:=Lib.hid (show decide (l=m)=true from decide_eq_true (by rw [← List.take_length (l:=l),HT.out,HN.out,List.take_length]));rw [HR.out];refine bodyPost_ret (v := .bool true) ?_ Z.defers ⟨rfl,hb1⟩;simp [results,Try.results41,Z.get 4 _ rfl]
 ·have q0:((l.length:Int) != (m.length:Int))=true:=by simp;omega
  refine Z.s ?_;clear Z;intro a Z;refine od ?_;refine wp_cond_true (Z.ev 10 rfl) ?_;refine wsr ?_;refine Z.s ?_;clear Z;intro a Z;refine od ?_;refine wp_ret ?_
  try simp only [Exit.then,Exit.inBlock]
  have HR:=Lib.hid (show decide (l=m)=false from decide_eq_false (fun h=>by rw [h] at q0;simp at q0));rw [HR.out];refine bodyPost_ret (v := .bool false) ?_ Z.defers ⟨rfl,Below.refl _ _⟩;simp [results,Try.results41,Z.get 4 _ rfl]
end
section
open Go Go.Conc
open Go.RowKit
section
variable {P:Program} {M:Machine} {ops:Array Oper} {Q:Exit→Act→World→Prop} {i:Nat} {rest:List Nat} {o:Oper} {a:Act} {w:World} {n d:Nat} {m:List (Nat×Value)} {v:Value}
theorem Ap {id:Nat} (h:Kq Q):Kq (Exit.inBlock id Q):=fun a w hx=>h a w hx
theorem Ja {fn:Func} {R:Ending→World→Prop} (h:∀ w,¬ R .outgrown w):Kq (bodyPost P fn R):=fun _ w hx=>h w hx
theorem Sl.kX (h:Sl a n m) {K:Act→World→Prop} (hK:∀ a w,LW P M ops Q rest a w→K a w) (hd:d < n) (hG:∀ a',Sl a' n ((d,v) :: m)→LW P M ops Q rest a' w):K (a.put (some d) v) w:=hK _ _ (hG _ (h.put d v hd))
theorem Sl.goX (h:Sl a n m) (hd:d < n) (hG:∀ a',Sl a' n ((d,v) :: m)→LW P M ops Q rest a' w):LW P M ops Q rest (a.put (some d) v) w:=hG _ (h.put d v hd)
theorem Hq {fc:FuncId} {F:Func} {ars:Array Operand} {ats:Array TypeId} (ho:ops[i]? = some o) (hg:o.guard=none) (hop:o.op = .call { callee := .value (.func fc),args:=ars,argTypes:=ats })
  (hF:P.funcs[fc]? = some F) (hname:(F.name == "runtime.NumGoroutine")=false) (hbody:F.body.isNone=false) {args:Array Value} (ha:ars.map a.eval=args) {R:Ending→World→Prop} (hc:Dl P M fc args w R)
  (h:∀ e w'',R e w''→∃ v,e = .returned v∧LW P M ops Q rest (a.put o.dst v) w''):LW P M ops Q (i :: rest) a w:=by
 have hr:=JH (P:=P) (w:=w) (a:=a) hop rfl hF hname hbody;refine V5 ho hg (f:=fc) (args:=args) (w':=w) ?_ hc h;rw [hr,← ha];simp
theorem Jp (hP:EP P) {f:Func} {k id:Nat} (hno:Kq Q) (e:Aa f k=Code.region id ops false) (h:LW P M ops Q (List.range ops.size) a w):wpX P M (Aa f k) Q a w:=by
 rw [e];exact Kv hP hno h
end
theorem Zo {t:Ae} {l:List AU} {qs:List ((Int×Int)×Int)} (hq:∀ key,(atK qs key).getD 0=Bv l key) (o i:Nat):atV t.Ac t.Ag qs o i=atL t l o i:=by unfold atV atL;rw [hq]
theorem QH {t:Ae} {l:List AU} {qs:List ((Int×Int)×Int)} (hq:∀ key,(atK qs key).getD 0=Bv l key) (o:Nat):Vm t.Ac t.Ag qs o=ER t l o:=by
 unfold Vm ER LC;rw [show atV t.Ac t.Ag qs o=atL t l o from funext fun i=>Zo hq o i]
def MC (t:Ae) (l:List AU) (o i:Nat):Int:=ofV 0 false (Bv l ((i:Int),(o:Int))) (t.Ag.getD i default).rate
def Gx (t:Ae) (l:List AU) (o:Nat):Int:=DK (FZ (MC t l o) t.Ag.length)-ER t l o
theorem O9 {t:Ae} {l:List AU} {qs:List ((Int×Int)×Int)} (hq:∀ key,(atK qs key).getD 0=Bv l key) (o:Nat):Ll t.Ac t.Ag qs o=Gx t l o:=by
 unfold Ll Gx;rw [QH hq,show F9 t.Ag qs o=MC t l o from funext fun i=>by unfold F9 MC;rw [hq]]
theorem G8.c {w:World} {bd mb:Nat} {t:Ae} {s:D5} {l:List AU} (hT:Dc w t s) (hD:G8 w bd mb t s l) (ho:Cc t l=0) :
  ∃ q pb po pc tb to_ tc clock ents,Iq w.heap.size w bd t.Ac t.Ag q pb po pc tb to_ tc mb clock ents∧∀ key,(atK q key).getD 0=Bv l key:=by
 have hck:=IB ho;have hF:=EF.of hck (Ee ho).1 (Ee ho).2;obtain ⟨_,_,_,hp1,_⟩:=Bo hck;obtain ⟨qs,hm,hq⟩:=hD.map;have d4:=hD.kd.cell (o:=4) rfl;have d5:=hD.kd.cell (o:=5) rfl;have d6:=hD.kd.cell (o:=6) rfl
 change w.cell? _=some (.slice s.pa t.Ac.length s.pc) at d4
 change w.cell? _=some (.slice s.ta t.Ag.length s.tc) at d5
 change w.cell? _=some (.map (some mb)) at d6
 obtain ⟨pb,po,hpa,_,_,_⟩:=hT.Ac.at (i:=0) (by omega)
 have hpay:∀ (o:Nat) (h:o < t.Ac.length),w.cell? ⟨pb,po+o*3,none⟩=some (.int .i64 t.Ac[o].heads)∧w.cell? ⟨pb,po+o*3+1,none⟩=some (.int .i64 t.Ac[o].free)∧w.cell? ⟨pb,po+o*3+2,none⟩=some (.bool t.Ac[o].half):=fun o h=>by
  obtain ⟨b',o',e,h1,h2,h3⟩:=hT.Ac.at h;rw [hpa] at e;simp only [Option.some.injEq,Addr.mk.injEq,and_true] at e;obtain ⟨rfl,rfl⟩:=e;exact ⟨h1,h2,h3⟩
 have lpb:pb < w.heap.size:=lt_of_cell (hpay 0 (by omega)).1
 obtain ⟨tb,to_,htb,hta,htl⟩:∃ tb to_,tb < w.heap.size∧(t.Ag≠[]→s.ta=some ⟨tb,to_,none⟩)∧∀ (i:Nat) (h:i < t.Ag.length),w.cell? ⟨tb,to_+i*3+1,none⟩=some (.int .i64 t.Ag[i].rate):=by
  rcases hT.Ag with h | ⟨b,o,ha,h⟩
  ·exact ⟨pb,0,lpb,fun hne=>absurd h hne,fun i hi=>by rw [h] at hi;simp at hi⟩
  ·by_cases hz:0 < t.Ag.length
   ·exact ⟨b,o,lt_of_cell (h 0 hz).1,fun _=>ha,fun i hi=>(h i hi).2.1⟩
   ·exact ⟨pb,0,lpb,fun hne=>absurd (List.length_pos_iff.2 hne) hz,fun i hi=>absurd (by omega) hz⟩
 rw [hpa] at d4;exact ⟨qs,pb,po,s.pc,tb,to_,s.tc,_,_,⟨lt_of_cell d4,lpb,htb,hm.lt,d4,⟨s.ta,d5,hta⟩,d6,fun o h=>(hpay o h).1,fun o h=>(hpay o h).2.1,fun o h=>(hpay o h).2.2,htl,hm,PH qs,hF.pf,hF.rt,fun k=>by rw [hq];exact hF.ps k⟩,hq⟩
end
end Go.Proofs.Ytgdobbcjkiapkaa
