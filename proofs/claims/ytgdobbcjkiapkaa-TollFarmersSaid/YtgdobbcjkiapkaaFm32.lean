import Derived.Test.YtgdobbcjkiapkaaFm04
import Derived.Test.YtgdobbcjkiapkaaFm31
namespace Go.Proofs.Ytgdobbcjkiapkaa
set_option maxRecDepth 100000
set_option maxHeartbeats 4000000
set_option linter.unusedSimpArgs false
set_option linter.unusedVariables false
section
open Go.RowKit
theorem QQ:Try.f118.body=some (Code.seq (Aa Try.f118 0) (Code.seq (Aa Try.f118 1) Code.ret)):=by kernel_rfl
theorem WG {w:World}:Calls Try.prog 118 #[] w (fun e w'=>e = .returned (.agg #[.func (.func 127) #[] #[]])∧Below w.heap.size w w'):=by
 refine Zo Try.func118 QQ Try.ntmps118 ?_;intro a Z;refine wsr ?_;refine Z.s ?_;clear Z;intro a Z;refine Af (G:=fun W=>wpOps _ _ _ _ _ W) ?_;obtain ⟨b,hg⟩:∃ b,b=w.heap.size:=⟨_,rfl⟩;intro x hz KX hb;rw [← hg] at Z KX;have hbl:w.heap.size≤b:=by omega
 clear hz hg;refine od ?_;refine wsr ?_;refine Z.s ?_;clear Z;intro a Z;refine og fun K hK =>?_
 have e0:=Z.g 0;have e1:=Z.g 1;have c0:=KX.cell (o:=0) rfl;have z0:=KX.fz 0;unfold Oper.wp;go_simp;clear e0 e1;refine hK _ _ ?_;clear hK;replace hb:=hb.setCell (p:=⟨b,0,none⟩) (by show w.heap.size≤b;exact hbl) (.func (.func 127) #[] #[]);replace KX:=KX.set 0 (.func (.func 127) #[] #[]);refine od ?_;refine wp_ret ?_
 try simp only [Exit.then,Exit.inBlock]
 have c1:=KX.cell (o:=0) rfl;refine bodyPost_ret (v := .agg #[.func (.func 127) #[] #[]]) ?_ Z.defers ⟨rfl,hb⟩;simp [results,Try.results118,Z.get 0 _ rfl,go_sem,c1]
def Zz (t:Ad) (from_ to_ lim:Int):Option Ew:=WO ((MK t from_ to_).filter (Lc lim))
def Xa (w0:World) (r:Option Ew) (err:Int) (e:Ending) (w':World):Prop :=
 Below w0.heap.size w0 w'∧(r=none→e = .returned (.tuple #[.slice none 0 0, .int .i64 0, .int .i64 err]))∧(∀ c,r=some c→∃ v,e = .returned (.tuple #[v, .int .i64 c.coins, .int .i64 0])∧DR w' w0.heap.size v c.way∧v ≠ .slice none 0 0∧c.way.length≤1000)
theorem Py:Try.f96.body=some (Code.seq (Aa Try.f96 0) (Code.seq (Aa Try.f96 1) (Code.seq (Code.seq (Aa Try.f96 2) (Code.cond (Operand.tmp 20) (Code.seq (Aa Try.f96 3) Code.ret) Code.skip)) (Code.seq (Aa Try.f96 4) Code.ret)))):=by kernel_rfl
theorem Tj {t:Ad} {s:DY} {w:World} {from_ to_ lim:Int} (ht:CB w t s) (hT:Aq t=0) (hfr:btw from_ 0 (t.roads.stages-1)=true):Calls Try.prog 96 #[.agg (EK t s), .int .i64 from_, .int .i64 to_, .int .i64 lim] w (Xa w (Zz t from_ to_ lim) 11):=by
 refine call4 Try.func96 Py Try.ntmps96 ?_;intro a Z;refine wsr ?_;refine Z.s ?_;clear Z;intro a Z;refine Af (G:=fun W=>wpOps _ _ _ _ _ W) ?_;obtain ⟨bt,hg⟩:∃ g,g=w.heap.size:=⟨_,rfl⟩;intro x hz Kt hb;rw [← hg] at Z Kt;have h0:w.heap.size≤bt:=by omega
 clear hg hz;refine Z.s ?_;clear Z;intro a Z;refine Af (G:=fun W=>wpOps _ _ _ _ _ W) ?_;obtain ⟨bf,hg⟩:∃ g,g=x.heap.size:=⟨_,rfl⟩;have hz0:=hb.size;intro x hz Kf hb2;rw [← hg] at Z Kf;have h1:w.heap.size≤bf:=by omega
 replace hb:=hb.trans (hb2.mono hb.size);replace Kt:=Kt.below hb2;clear hz0 hb2;clear hg hz;refine Z.s ?_;clear Z;intro a Z;refine Af (G:=fun W=>wpOps _ _ _ _ _ W) ?_;obtain ⟨bto,hg⟩:∃ g,g=x.heap.size:=⟨_,rfl⟩;have hz0:=hb.size;intro x hz Kto hb2;rw [← hg] at Z Kto;have h2:w.heap.size≤bto:=by omega
 replace hb:=hb.trans (hb2.mono hb.size);replace Kt:=Kt.below hb2;replace Kf:=Kf.below hb2;clear hz0 hb2;clear hg hz;refine Z.s ?_;clear Z;intro a Z;refine Af (G:=fun W=>wpOps _ _ _ _ _ W) ?_;obtain ⟨bl,hg⟩:∃ g,g=x.heap.size:=⟨_,rfl⟩;have hz0:=hb.size;intro x hz Kl hb2;rw [← hg] at Z Kl;have h3:w.heap.size≤bl:=by omega
 replace hb:=hb.trans (hb2.mono hb.size);replace Kt:=Kt.below hb2;replace Kf:=Kf.below hb2;replace Kto:=Kto.below hb2;clear hz0 hb2;clear hg hz;(iterate 3 refine Z.s ?_;clear Z;intro a Z);refine od ?_;refine wsr ?_;refine Z.s ?_;clear Z;intro a Z;refine og fun K hK =>?_
 unfold Oper.wp;go_simp;refine WG.mono ?_;rintro e x ⟨rfl,hb2⟩;replace Kt:=Kt.below hb2;replace Kf:=Kf.below hb2;replace Kto:=Kto.below hb2;replace Kl:=Kl.below hb2;replace hb:=hb.trans (hb2.mono hb.size);clear hb2;refine Z.K hK ?_;clear Z hK;intro a Z;refine og fun K hK =>?_
 have e14:=Z.g 14;have e15:=Z.g 15;have hbe:=Yk (Px (lim:=lim) (bt:=bt) (bf:=bf) (bto:=bto) (bl:=bl) (to_:=to_) (s:=s) hT hfr) (w0:=x) (fun V hV=>⟨⟨ht.below (hb.trans (hV.mono hb.size)),Kt.below hV,Kf.below hV,Kto.below hV⟩,Kl.below hV⟩) (fun l W=>by simp [invoke,go_sem]);unfold Oper.wp;go_simp;refine hbe.mono ?_;rintro e x2 ⟨hb2,hN,hS⟩;have hxx:=hb.size;replace hb:=hb.trans (hb2.mono hb.size);clear hb2 Kt Kf Kto Kl hbe;have hW:Zz t from_ to_ lim=WO ((MK t from_ to_).filter (Lc lim)):=rfl;rw [← hW] at hN hS;clear hW;clear e14 e15
 cases hc:Zz t from_ to_ lim with
 | none =>
  obtain rfl:=hN hc;clear hS hN hxx
  try simp only [Value.elem?]
  try refine ⟨_,rfl,?_⟩
  refine Z.K hK ?_;clear Z hK;intro a Z;obtain ⟨x,hx2⟩:∃ x,x=x2:=⟨_,rfl⟩;rw [← hx2] at hb ⊢;clear hx2;(iterate 3 refine Z.s ?_;clear Z;intro a Z);refine og fun K hK =>?_
  obtain ⟨bc,hg⟩:∃ b,b=x.heap.size:=⟨_,rfl⟩;unfold Oper.wp;go_simp;refine Z.K hK ?_;clear Z hK;intro a Z;refine og fun K hK =>?_
  have e11:=Z.g 11;have e17:=Z.g 17;unfold Oper.wp;go_simp;clear e11 e17;refine hK _ _ ?_;clear hK;have hbs:=hb.size;refine Af (G:=fun W=>wpOps _ _ _ _ _ W) ?_;intro x2 hz KC hb3;rw [← hg] at Z KC;replace hb:=hb.trans (hb3.mono hb.size)
  skip
  have hbc:w.heap.size≤bc:=by rw [hg];exact hbs
  clear hz hb3 hg hbs;obtain ⟨x,hx3⟩:∃ x,x=x2:=⟨_,rfl⟩;rw [← hx3] at hb KC ⊢;clear hx3;refine Z.s ?_;clear Z;intro a Z;refine od ?_;refine wp_seq ?_;refine wsr ?_;(iterate 2 refine Z.s ?_;clear Z;intro a Z);refine od ?_;refine wp_cond_true (Z.ev 20 rfl) ?_;refine wsr ?_;(iterate 3 refine Z.s ?_;clear Z;intro a Z);refine od ?_;refine wp_ret ?_
  try simp only [Exit.then,Exit.inBlock]
  refine bodyPost_ret (v := .tuple #[.slice none 0 0, .int .i64 0, .int .i64 11]) ?_ Z.defers ⟨hb,fun _=>rfl,fun c2 h2=>by rw [hc] at h2;simp at h2⟩;simp [results,Try.results96,Z.get 8 _ rfl,Z.get 9 _ rfl,Z.get 10 _ rfl]
 | some c =>
  obtain ⟨cv,rfl,hO,hnn,hl⟩:=hS c hc;clear hS hN;replace hO:=Be.lower hO hxx;clear hxx;obtain ⟨ga,ca,hcv,_⟩:=DR.sl hO hnn;subst hcv
  try simp only [Value.elem?]
  try refine ⟨_,rfl,?_⟩
  refine Z.K hK ?_;clear Z hK;intro a Z;obtain ⟨x,hx2⟩:∃ x,x=x2:=⟨_,rfl⟩;rw [← hx2] at hb ⊢ hO;clear hx2;(iterate 3 refine Z.s ?_;clear Z;intro a Z);refine og fun K hK =>?_
  obtain ⟨bc,hg⟩:∃ b,b=x.heap.size:=⟨_,rfl⟩;unfold Oper.wp;go_simp;refine Z.K hK ?_;clear Z hK;intro a Z;refine og fun K hK =>?_
  have e11:=Z.g 11;have e17:=Z.g 17;unfold Oper.wp;go_simp;clear e11 e17;refine hK _ _ ?_;clear hK;have hbs:=hb.size;refine Af (G:=fun W=>wpOps _ _ _ _ _ W) ?_;intro x2 hz KC hb3;rw [← hg] at Z KC;replace hb:=hb.trans (hb3.mono hb.size);replace hO:=hO.below hb3;have hbc:w.heap.size≤bc:=by rw [hg];exact hbs
  clear hz hb3 hg hbs;obtain ⟨x,hx3⟩:∃ x,x=x2:=⟨_,rfl⟩;rw [← hx3] at hb KC ⊢ hO;clear hx3;refine Z.s ?_;clear Z;intro a Z;refine od ?_;refine wp_seq ?_;refine wsr ?_;(iterate 2 refine Z.s ?_;clear Z;intro a Z);refine od ?_;refine wp_cond_false (Z.ev 20 rfl) ?_;refine wp_skip ?_;refine wp_seq ?_;replace KC:Rw x bc #[.slice (some ⟨ga,0,none⟩) c.way.length ca, .int .i64 c.coins, .int .i64 c.leagues] 149:=KC;rw [show Aa Try.f96 4=Code.region 4 _ true from rfl];refine Dw (by kernel_rfl) ((Z.nil.cons (Z.get 11 _ rfl))) [some 21,some 22,some 23,some 24,some 8,some 9,some 10] rfl rfl (by kernel_rfl) (fun j v _=>match j with | 0=>v = .pointer (some ⟨bc,0,none⟩) | 1=>v = .slice (some ⟨ga,0,none⟩) c.way.length ca | 2=>v = .pointer (some ⟨bc,1,none⟩) | 3=>v = .int .i64 c.coins | 4=>v = .slice (some ⟨ga,0,none⟩) c.way.length ca | 5=>v = .int .i64 c.coins | 6=>v = .int .i64 0 | _=>True) (fun _ x=>Rw x bc #[.slice (some ⟨ga,0,none⟩) c.way.length ca, .int .i64 c.coins, .int .i64 c.leagues] 149∧Below w.heap.size w x∧DR x w.heap.size (.slice (some ⟨ga,0,none⟩) c.way.length ca) c.way) (⟨KC.below (Below.refl _ _).drew,hb.trans ((Below.refl _ _).drew.mono hb.size),hO.below (Below.refl _ _).drew⟩) ?_ ?_
  ·clear Z;intro k o hkl ho L a x hI hLk Z hs hd;have hlt:∀ k:Nat,k < 7→k=0∨k=1∨k=2∨k=3∨k=4∨k=5∨k=6:=by decide
   rcases hlt k hkl with rfl | rfl | rfl | rfl | rfl | rfl | rfl
   ·obtain rfl:=Option.some.inj ho;have e11:=Z.g 11;clear hs hd;refine wg fun K hK =>?_
    unfold Oper.wp;go_simp;exact hK _ _ ⟨_,rfl,rfl,hI,fun _ _ h=>h⟩
   ·obtain rfl:=Option.some.inj ho;obtain ⟨_,e21,rfl⟩:=hs 0 _ 21 rfl rfl (hd 0 wm);have c0:=hI.1.cell (o:=0) rfl;clear hs hd;refine wg fun K hK =>?_
    unfold Oper.wp;go_simp;exact hK _ _ ⟨_,rfl,rfl,hI,fun _ _ h=>h⟩
   ·obtain rfl:=Option.some.inj ho;have e11:=Z.g 11;clear hs hd;refine wg fun K hK =>?_
    unfold Oper.wp;go_simp;exact hK _ _ ⟨_,rfl,rfl,hI,fun _ _ h=>h⟩
   ·obtain rfl:=Option.some.inj ho;obtain ⟨_,e23,rfl⟩:=hs 2 _ 23 rfl rfl (hd 2 wm);have c1:=hI.1.cell (o:=1) rfl;clear hs hd;refine wg fun K hK =>?_
    unfold Oper.wp;go_simp;exact hK _ _ ⟨_,rfl,rfl,hI,fun _ _ h=>h⟩
   ·obtain rfl:=Option.some.inj ho;obtain ⟨_,e22,rfl⟩:=hs 1 _ 22 rfl rfl (hd 1 wm);clear hs hd;refine wg fun K hK =>?_
    unfold Oper.wp;go_simp;exact hK _ _ ⟨_,rfl,rfl,hI,fun _ _ h=>h⟩
   ·obtain rfl:=Option.some.inj ho;obtain ⟨_,e24,rfl⟩:=hs 3 _ 24 rfl rfl (hd 3 wm);clear hs hd;refine wg fun K hK =>?_
    unfold Oper.wp;go_simp;exact hK _ _ ⟨_,rfl,rfl,hI,fun _ _ h=>h⟩
   ·obtain rfl:=Option.some.inj ho;clear hs hd;refine wg fun K hK =>?_
    unfold Oper.wp;go_simp;exact hK _ _ ⟨_,rfl,rfl,hI,fun _ _ h=>h⟩
  ·clear Z;intro L a x hall hI Z hs;obtain ⟨v8,e8,hv8⟩:=hs 4 _ 8 rfl rfl (hall 4 (by decide));obtain rfl:=hv8;obtain ⟨v9,e9,hv9⟩:=hs 5 _ 9 rfl rfl (hall 5 (by decide));obtain rfl:=hv9;obtain ⟨_,e10,rfl⟩:=hs 6 _ 10 rfl rfl (hall 6 (by decide));replace Z:=(((Z.cons e8).cons e9).cons e10);clear hs hall e8 e9 e10;refine wp_ret ?_
   try simp only [Exit.then,Exit.inBlock]
   obtain ⟨KC,hb,hO⟩:=hI;refine bodyPost_ret (v := .tuple #[.slice (some ⟨ga,0,none⟩) c.way.length ca, .int .i64 c.coins, .int .i64 0]) ?_ Z.defers ⟨hb,fun h=>by rw [hc] at h;simp at h,fun c2 h2=>by rw [hc] at h2;obtain rfl:=Option.some.inj h2;exact ⟨_,rfl,hO,hnn,hl⟩⟩;simp [results,Try.results96,Z.get 8 _ rfl,Z.get 9 _ rfl,Z.get 10 _ rfl]
def G7 (t:Ad) (from_ to_:Int):Int:=if Aq t=0 then (if (btw from_ 0 (t.roads.stages-1) && btw to_ 0 (t.roads.stages-1))=true then 0 else 3) else Aq t
def JI (t:Ad) (from_ to_:Int):Option Ew×Int:=if G7 t from_ to_=0 then (Zz t from_ to_ (-1),11) else (none,G7 t from_ to_)
theorem Yt {t:Ad} {from_:Int} {way:List Int} (h:(Cb t from_ way).2=0):Aq t=0:=by
 rcases Classical.em (Aq t=0) with h1 | h1
 ·exact h1
 ·have:=(Gy (from_:=from_) (way:=way)).1 h1;rw [this] at h;exact absurd h h1
theorem EE {t:Ad} {l:List Am} (h:BK t l=0):Aq t=0:=by
 rcases Classical.em (Aq t=0) with h1 | h1
 ·exact h1
 ·rw [Gp.1 h1] at h;exact absurd h h1
theorem DI {t:Ad} {l:List Am} (h:BK t l=0):Dp t l∧l.length≤1000:=by
 have h1:=EE h;rcases Nat.lt_or_ge 24 l.length with h2 | h2
 ·rw [Gp.2.1 h1 h2] at h;exact absurd h (by decide)
 ·rw [Gp.2.2 h1 h2] at h;exact ⟨KJ h,by omega⟩
theorem Wn {t:Ad} {from_ to_:Int} (h:G7 t from_ to_=0):Aq t=0∧btw from_ 0 (t.roads.stages-1)=true:=by
 unfold G7 at h
 split at h
 ·rename_i h1
  split at h
  ·rename_i h2;simp only [Bool.and_eq_true] at h2;exact ⟨h1,h2.1⟩
  ·exact absurd h (by decide)
 ·rename_i h1;exact absurd h h1
theorem Tz:Try.f95.body=some (Code.seq (Aa Try.f95 0) (Code.seq (Code.seq (Aa Try.f95 1) (Code.seq (Aa Try.f95 2) (Code.cond (Operand.tmp 11) (Code.seq (Aa Try.f95 3) Code.ret) Code.skip))) (Code.seq (Code.seq (Aa Try.f95 4) (Code.cond (Operand.tmp 28) (Code.seq (Aa Try.f95 5) Code.ret) Code.skip)) (Code.seq (Aa Try.f95 6) Code.ret)))):=by kernel_rfl
theorem XZ {t:Ad} {s:DY} {w:World} {from_ to_:Int} (ht:CB w t s):Calls Try.prog 95 #[.agg (EK t s), .int .i64 from_, .int .i64 to_] w (fun e w'=>e = .returned (.int .i64 (G7 t from_ to_))∧Below w.heap.size w w'):=by
 refine Pg Try.func95 Tz Try.ntmps95 ?_;intro a Z;refine wsr ?_;refine Z.s ?_;clear Z;intro a Z;refine Af (G:=fun W=>wpOps _ _ _ _ _ W) ?_;intro x hz X hb;have hI:=TI.made (Below.refl _ _) ht X hb;obtain ⟨bt,hbt⟩:∃ b,b=w.heap.size:=⟨_,rfl⟩;rw [← hbt] at Z hI;clear hz X hb hbt;refine Z.s ?_;clear Z;intro a Z;refine od ?_;refine wp_seq ?_;refine wsr ?_;refine og fun K hK =>?_
 have e3:=Z.g 3;have c0:=hI.c0;have c1:=hI.c1;have c2:=hI.c2;have c3:=hI.c3;have c4:=hI.c4;have c5:=hI.c5;unfold Oper.wp;go_simp;clear e3;refine Z.K hK ?_;clear Z hK;intro a Z;refine og fun K hK =>?_
 have e8:=Z.g 8;unfold Oper.wp;go_simp;refine (JR hI.tar).mono ?_;rintro e x ⟨rfl,hb⟩;replace hI:=hI.keep hb;clear hb;clear e8;refine Z.K hK ?_;clear Z hK;intro a Z;refine Z.s ?_;clear Z;intro a Z;refine od ?_;refine wsr ?_;refine Z.s ?_;clear Z;intro a Z
 by_cases h1:Aq t=0
 ·have hne:=CV h1;refine Z.s ?_;clear Z;intro a Z;refine od ?_;refine wp_cond_false (Z.ev 11 rfl) ?_;refine wp_skip ?_;refine wp_seq ?_;refine wsr ?_;(iterate 3 refine Z.s ?_;clear Z;intro a Z);refine og fun K hK =>?_
  have e15:=Z.g 15;have c1:=hI.c1;unfold Oper.wp;go_simp;clear e15;refine Z.K hK ?_;clear Z hK;intro a Z;refine og fun K hK =>?_
  have e16:=Z.g 16;have hww:IntKind.i64.wrap (t.roads.stages-1)=t.roads.stages-1:=IntWalk.i64_in _ (by have:=EO (Ba h1).1;omega);unfold Oper.wp;go_simp;clear e16;refine Z.K hK ?_;clear Z hK;intro a Z;refine og fun K hK =>?_
  have e13:=Z.g 13;have e17:=Z.g 17;unfold Oper.wp;go_simp;refine (Bh _ _ _ _).mono ?_;rintro e x ⟨rfl,rfl⟩;clear e13 e17;refine Z.K hK ?_;clear Z hK;intro a Z;rcases Bool.eq_false_or_eq_true (btw from_ 0 (t.roads.stages-1)) with h2 | h2
  ·rw [h2] at Z;(iterate 2 refine Z.s ?_;clear Z;intro a Z);(iterate 3 refine Z.t ?_;clear Z;intro a Z);refine oW (Z.g 20) fun K hK =>?_
   have e23:=Z.g 23;have c1:=hI.c1;unfold Oper.wp;go_simp;clear e23;refine Z.K hK ?_;clear Z hK;intro a Z;refine oW (Z.g 20) fun K hK =>?_
   have e24:=Z.g 24;have hww:IntKind.i64.wrap (t.roads.stages-1)=t.roads.stages-1:=IntWalk.i64_in _ (by have:=EO (Ba h1).1;omega);unfold Oper.wp;go_simp;clear e24;refine Z.K hK ?_;clear Z hK;intro a Z;refine oW (Z.g 20) fun K hK =>?_
   have e21:=Z.g 21;have e25:=Z.g 25;unfold Oper.wp;go_simp;refine (Bh _ _ _ _).mono ?_;rintro e x ⟨rfl,rfl⟩;clear e21 e25;refine Z.K hK ?_;clear Z hK;intro a Z;rcases Bool.eq_false_or_eq_true (btw to_ 0 (t.roads.stages-1)) with h3 | h3
   ·rw [h3] at Z;refine Z.t ?_;clear Z;intro a Z;refine Z.s ?_;clear Z;intro a Z;refine od ?_;refine wp_cond_false (Z.ev 28 rfl) ?_;refine wp_skip ?_;refine wsr ?_;refine Z.s ?_;clear Z;intro a Z;refine od ?_;refine wp_ret ?_
    try simp only [Exit.then,Exit.inBlock]
    have hR:=Lib.hid (show G7 t from_ to_=0 from by unfold G7;rw [if_pos h1,if_pos (by rw [h2,h3];rfl)]);refine bodyPost_ret (v := .int .i64 (G7 t from_ to_)) ?_ Z.defers ⟨rfl,hI.below⟩;rw [hR.out];simp [results,Try.results95,Z.get 6 _ rfl]
   ·rw [h3] at Z;refine Z.t ?_;clear Z;intro a Z;refine Z.s ?_;clear Z;intro a Z;refine od ?_;refine wp_cond_true (Z.ev 28 rfl) ?_;refine wsr ?_;refine Z.s ?_;clear Z;intro a Z;refine od ?_;refine wp_ret ?_
    try simp only [Exit.then,Exit.inBlock]
    have hR:=Lib.hid (show G7 t from_ to_=3 from by unfold G7;rw [if_pos h1,if_neg (by rw [h2,h3];decide)]);refine bodyPost_ret (v := .int .i64 (G7 t from_ to_)) ?_ Z.defers ⟨rfl,hI.below⟩;rw [hR.out];simp [results,Try.results95,Z.get 6 _ rfl]
  ·rw [h2] at Z;(iterate 2 refine Z.s ?_;clear Z;intro a Z);refine Z.z ?_;clear Z;intro a Z;refine Z.z ?_;clear Z;intro a Z;refine Z.z ?_;clear Z;intro a Z;refine Z.z ?_;clear Z;intro a Z;refine Z.z ?_;clear Z;intro a Z;refine Z.z ?_;clear Z;intro a Z;refine Z.z ?_;clear Z;intro a Z;refine Z.s ?_;clear Z;intro a Z;refine od ?_;refine wp_cond_true (Z.ev 28 rfl) ?_;refine wsr ?_;refine Z.s ?_;clear Z;intro a Z;refine od ?_;refine wp_ret ?_
   try simp only [Exit.then,Exit.inBlock]
   have hR:=Lib.hid (show G7 t from_ to_=3 from by unfold G7;rw [if_pos h1,if_neg (by rw [h2];simp)]);refine bodyPost_ret (v := .int .i64 (G7 t from_ to_)) ?_ Z.defers ⟨rfl,hI.below⟩;rw [hR.out];simp [results,Try.results95,Z.get 6 _ rfl]
 ·have hne:=DJ h1;have hR:=Lib.hid (show G7 t from_ to_=Aq t from if_neg h1);refine Z.s ?_;clear Z;intro a Z;refine od ?_;refine wp_cond_true (Z.ev 11 rfl) ?_;refine wsr ?_;(iterate 2 refine Z.s ?_;clear Z;intro a Z);refine od ?_;refine wp_ret ?_
  try simp only [Exit.then,Exit.inBlock]
  refine bodyPost_ret (v := .int .i64 (G7 t from_ to_)) ?_ Z.defers ⟨rfl,hI.below⟩;rw [hR.out];simp [results,Try.results95,Z.get 6 _ rfl]
theorem Nh:Try.f48.body=some (Code.seq (Aa Try.f48 0) (Code.seq (Code.seq (Aa Try.f48 1) (Code.seq (Aa Try.f48 2) (Code.cond (Operand.tmp 15) (Code.seq (Aa Try.f48 3) Code.ret) Code.skip))) (Code.seq (Aa Try.f48 4) Code.ret))):=by kernel_rfl
theorem Qo {t:Ad} {s:DY} {w:World} {from_ to_:Int} (ht:CB w t s):Calls Try.prog 48 #[.agg (EK t s), .int .i64 from_, .int .i64 to_] w (Xa w (JI t from_ to_).1 (JI t from_ to_).2):=by
 refine Pg Try.func48 Nh Try.ntmps48 ?_;intro a Z;refine wsr ?_;refine Z.s ?_;clear Z;intro a Z;refine Af (G:=fun W=>wpOps _ _ _ _ _ W) ?_;intro x hz X hb;have hI:=TI.made (Below.refl _ _) ht X hb;obtain ⟨bt,hbt⟩:∃ b,b=w.heap.size:=⟨_,rfl⟩;rw [← hbt] at Z hI;clear hz X hb hbt;(iterate 3 refine Z.s ?_;clear Z;intro a Z);refine od ?_;refine wp_seq ?_;refine wsr ?_;refine og fun K hK =>?_
 have e3:=Z.g 3;have c0:=hI.c0;have c1:=hI.c1;have c2:=hI.c2;have c3:=hI.c3;have c4:=hI.c4;have c5:=hI.c5;unfold Oper.wp;go_simp;clear e3;refine Z.K hK ?_;clear Z hK;intro a Z;(iterate 2 refine Z.s ?_;clear Z;intro a Z);refine og fun K hK =>?_
 have e10:=Z.g 10;have e11:=Z.g 11;have e12:=Z.g 12;unfold Oper.wp;go_simp;refine (XZ hI.tar).mono ?_;rintro e x ⟨rfl,hb⟩;replace hI:=hI.keep hb;clear hb;clear e10 e11 e12;refine Z.K hK ?_;clear Z hK;intro a Z;refine Z.s ?_;clear Z;intro a Z;refine od ?_;refine wsr ?_;refine Z.s ?_;clear Z;intro a Z
 by_cases h1:G7 t from_ to_=0
 ·have HE:=Lib.hid h1;have hne:=CV h1;clear h1;refine Z.s ?_;clear Z;intro a Z;refine od ?_;refine wp_cond_false (Z.ev 15 rfl) ?_;refine wp_skip ?_;refine wsr ?_;refine og fun K hK =>?_
  have e3:=Z.g 3;have c0:=hI.c0;have c1:=hI.c1;have c2:=hI.c2;have c3:=hI.c3;have c4:=hI.c4;have c5:=hI.c5;unfold Oper.wp;go_simp;clear e3;refine Z.K hK ?_;clear Z hK;intro a Z;(iterate 2 refine Z.s ?_;clear Z;intro a Z);refine og fun K hK =>?_
  have e17:=Z.g 17;have e18:=Z.g 18;have e19:=Z.g 19;unfold Oper.wp;go_simp;refine (Tj (to_:=to_) (lim:=(-1)) hI.tar (Wn HE.out).1 (Wn HE.out).2).mono ?_;rintro e x2 ⟨hb2,hN,hS⟩;have hxx:=hI.below.size;replace hI:=hI.keep hb2;clear hb2 e17 e18 e19
  cases hc:Zz t from_ to_ (-1) with
  | none =>
   obtain rfl:=hN hc;clear hS hN;clear hxx
   try refine ⟨_,rfl,?_⟩
   refine Z.K hK ?_;clear Z hK;intro a Z;obtain ⟨x,hx2⟩:∃ x,x=x2:=⟨_,rfl⟩;rw [← hx2] at hI ⊢;clear hx2;(iterate 6 refine Z.s ?_;clear Z;intro a Z);refine od ?_;refine wp_ret ?_
   try simp only [Exit.then,Exit.inBlock]
   have hR:=Lib.hid (show JI t from_ to_=(none,11) from by unfold JI;rw [if_pos HE.out,hc]);rw [hR.out];refine bodyPost_ret (v := .tuple #[.slice none 0 0, .int .i64 0, .int .i64 11]) ?_ Z.defers ⟨hI.below,fun _=>rfl,fun c2 h2=>by simp at h2⟩;simp [results,Try.results48,Z.get 6 _ rfl,Z.get 7 _ rfl,Z.get 8 _ rfl]
  | some c =>
   obtain ⟨cv,rfl,hO,hnn,hl⟩:=hS c hc;clear hS hN;replace hO:=Be.lower hO hxx;clear hxx
   try refine ⟨_,rfl,?_⟩
   refine Z.K hK ?_;clear Z hK;intro a Z;obtain ⟨x,hx2⟩:∃ x,x=x2:=⟨_,rfl⟩;rw [← hx2] at hI ⊢ hO;clear hx2;(iterate 6 refine Z.s ?_;clear Z;intro a Z);refine od ?_;refine wp_ret ?_
   try simp only [Exit.then,Exit.inBlock]
   have hR:=Lib.hid (show JI t from_ to_=(some c,11) from by unfold JI;rw [if_pos HE.out,hc]);rw [hR.out];refine bodyPost_ret (v := .tuple #[cv, .int .i64 c.coins, .int .i64 0]) ?_ Z.defers ⟨hI.below,fun h=>by simp at h,fun c2 h2=>by obtain rfl:=Option.some.inj h2;exact ⟨_,rfl,hO,hnn,hl⟩⟩;simp [results,Try.results48,Z.get 6 _ rfl,Z.get 7 _ rfl,Z.get 8 _ rfl]
 ·have HE:=Lib.hid h1;have hne:=DJ h1;clear h1;refine Z.s ?_;clear Z;intro a Z;refine od ?_;refine wp_cond_true (Z.ev 15 rfl) ?_;refine wsr ?_;(iterate 4 refine Z.s ?_;clear Z;intro a Z);refine od ?_;refine wp_ret ?_
  try simp only [Exit.then,Exit.inBlock]
  have hR:=Lib.hid (show JI t from_ to_=(none,G7 t from_ to_) from by unfold JI;rw [if_neg HE.out]);rw [hR.out];refine bodyPost_ret (v := .tuple #[.slice none 0 0, .int .i64 0, .int .i64 (G7 t from_ to_)]) ?_ Z.defers ⟨hI.below,fun _=>rfl,fun c2 h2=>by simp at h2⟩;simp [results,Try.results48,Z.get 6 _ rfl,Z.get 7 _ rfl,Z.get 8 _ rfl]
theorem PL:Try.f35.body=some (Code.seq (Aa Try.f35 0) (Code.seq (Aa Try.f35 1) Code.ret)):=by kernel_rfl
theorem UQ {t:Ad} {s:DY} {w:World} {from_:Int} {way:List Int} {wa:Option Addr} {wc:Nat} (ht:CB w t s) (hw:AV w wa way) (hwc:way.length≤wc) (hwl:way.length≤1000000):Calls Try.prog 35 #[.agg (EK t s), .int .i64 from_, .slice wa way.length wc] w (QD w t from_ way):=by
 refine Pg Try.func35 PL Try.ntmps35 ?_;intro a Z;refine wsr ?_;refine Z.s ?_;clear Z;intro a Z;refine Af (G:=fun W=>wpOps _ _ _ _ _ W) ?_;intro x hz X hb;have hI:=TI.made (Below.refl _ _) ht X hb;obtain ⟨bt,hbt⟩:∃ b,b=w.heap.size:=⟨_,rfl⟩;rw [← hbt] at Z hI;clear hz X hb hbt;(iterate 2 refine Z.s ?_;clear Z;intro a Z);refine od ?_;refine wsr ?_;refine og fun K hK =>?_
 have e3:=Z.g 3;have c0:=hI.c0;have c1:=hI.c1;have c2:=hI.c2;have c3:=hI.c3;have c4:=hI.c4;have c5:=hI.c5;unfold Oper.wp;go_simp;clear e3;refine Z.K hK ?_;clear Z hK;intro a Z;(iterate 2 refine Z.s ?_;clear Z;intro a Z);refine og fun K hK =>?_
 have e8:=Z.g 8;have e9:=Z.g 9;have e10:=Z.g 10;unfold Oper.wp;go_simp;refine (MQ hI.tar (hw.below hI.below) hwc hwl).mono ?_;rintro e x ⟨hb,va,rfl,hO,hnil⟩;have hxx:=hI.below.size;replace hO:=Be.lower hO hxx;clear hxx;replace hI:=hI.keep hb;clear hb;clear e8 e9 e10;refine Z.K hK ?_;clear Z hK;intro a Z;(iterate 4 refine Z.s ?_;clear Z;intro a Z);refine od ?_;refine wp_ret ?_
 try simp only [Exit.then,Exit.inBlock]
 refine bodyPost_ret (v := .tuple #[va, .int .i64 (Cb t from_ way).2]) ?_ Z.defers ⟨hI.below,va,rfl,hO,hnil⟩;simp [results,Try.results35,Z.get 6 _ rfl,Z.get 7 _ rfl]
end
section
open Go.RowKit
def upd (r:Nat→Int) (m:Nat) (x:Int):Nat→Int:=fun k=>if k=m then x else r k
def ar4 (r:Nat→Int):Array Value:=#[.int .i64 (r 0), .int .i64 (r 1), .int .i64 (r 2), .int .i64 (r 3)]
theorem lt4 {m:Nat} (h:m < 4):m=0∨m=1∨m=2∨m=3:=by omega
theorem CW {r:Nat→Int} {m:Nat} (h:m < 4):(ar4 r)[m]? = some (.int .i64 (r m)):=by rcases lt4 h with rfl | rfl | rfl | rfl <;> rfl
theorem MP {r:Nat→Int} {m:Nat} (h:m < 4) (x:Int):(ar4 r).setIfInBounds m (.int .i64 x)=ar4 (upd r m x):=by rcases lt4 h with rfl | rfl | rfl | rfl <;> rfl
theorem upd_same (r:Nat→Int) (m:Nat) (x:Int):upd r m x m=x:=if_pos rfl
def O4 (t:Ad) (j:Nat):Nat:=((t.Ag.getD j default).farmer-1).toNat
def FC (t:Ad) (l:List Am) (o:Nat):Nat→Nat→Int
 | 0=>fun _=>0
 | j+1=>upd (FC t l o j) (O4 t j) (FC t l o j (O4 t j)+atL t l o j)
def Cj (r:Nat→Int):Nat→Nat
 | 0=>0
 | f+1=>if r f > r (Cj r f) then f else Cj r f
def TG (p:(Nat→Int)×(Nat→Int)):(Nat→Int)×(Nat→Int):=(upd p.1 (Cj p.1 4) (p.1 (Cj p.1 4)-200),upd p.2 (Cj p.1 4) (p.2 (Cj p.1 4)+1))
def BH (p:(Nat→Int)×(Nat→Int)):Nat→(Nat→Int)×(Nat→Int)
 | 0=>p
 | n+1=>TG (BH p n)
def BD (t:Ad) (l:List Am):Nat→Nat→Int
 | 0=>fun _=>0
 | o+1=>(BH (FC t l o t.Ag.length,BD t l o) (EX t l o).toNat).2
theorem Vy {r:Nat→Int}:∀ {f:Nat},0 < f→Cj r f < f
 | 1,_=>by simp [Cj]
 | f+2,_=>by
  rw [Cj]
  split
  ·omega
  ·have:=Vy (r:=r) (f:=f+1) (by omega);omega
theorem EW (r:Nat→Int) {f:Nat} (h:f≤4):Cj r f < 4:=by
 rcases Nat.eq_zero_or_pos f with rfl | h0
 ·simp [Cj]
 ·have:=Vy (r:=r) h0;omega
theorem EY {t:Ad} {l:List Am} {o:Nat} (h:Dv t l) (ho:o < t.Ac.length):∀ (j k:Nat),0≤FC t l o j k∧FC t l o j k≤200000000000*(j:Int)
 | 0,k=>by simp [FC]
 | j+1,k=>by
  have h1:=EY h ho j;have h2:=h.EG ho j;rw [FC];unfold upd
  split
  ·have:=h1 (O4 t j);push_cast;omega
  ·have:=h1 k;push_cast;omega
theorem Ha {r g:Nat→Int} {U N:Int} (hr:∀ k,0≤r k∧r k≤U) (hg:∀ k,0≤g k∧g k≤N):∀ (n k:Nat),-(200*(n:Int))≤(BH (r,g) n).1 k∧(BH (r,g) n).1 k≤U∧0≤(BH (r,g) n).2 k∧(BH (r,g) n).2 k≤N+(n:Int)
 | 0,k=>by have:=hr k;have:=hg k;simp only [BH];push_cast;omega
 | n+1,k=>by
  have h1:=Ha hr hg n;have h2:=h1 k;have h3:=h1 (Cj (BH (r,g) n).1 4);rw [BH];unfold TG upd
  dsimp only
  push_cast
  split <;> omega
theorem Wu {t:Ad} {l:List Am} (h:Dv t l) {o:Nat} (ho:o < t.Ac.length) (ht:t.Ag.length≤6):0≤EX t l o∧EX t l o≤6000000001:=by
 have:=Eg (h.EG ho) t.Ag.length;unfold EX EL FZ
 omega
theorem Ih {t:Ad} {l:List Am} (h:Dv t l) (ht:t.Ag.length≤6):∀ (o k:Nat),o≤t.Ac.length→0≤BD t l o k∧BD t l o k≤6000000001*(o:Int)
 | 0,k,_=>by simp [BD]
 | o+1,k,ho=>by
  have h1:=fun k=>Ih h ht o k (by omega)
  have h2:=Wu h (o:=o) (by omega) ht;have h3:=Ha (EY (o:=o) h (by omega) t.Ag.length) h1 (EX t l o).toNat k;rw [BD];push_cast;omega
end
end Go.Proofs.Ytgdobbcjkiapkaa
