import Derived.Test.YtgdobbcjkiapkaaFe04
import Derived.Test.YtgdobbcjkiapkaaFe31
namespace Go.Proofs.Ytgdobbcjkiapkaa
set_option maxRecDepth 100000
set_option maxHeartbeats 4000000
set_option linter.unusedSimpArgs false
set_option linter.unusedVariables false
section
open Go.RowKit
theorem QE:Try.f118.body=some (Code.seq (Aa Try.f118 0) (Code.seq (Aa Try.f118 1) Code.ret)):=by kernel_rfl
theorem Wl {w:World}:Calls Try.prog 118 #[] w (fun e w'=>e = .returned (.agg #[.func (.func 127) #[] #[]])∧Below w.heap.size w w'):=by
 refine Y4 Try.func118 QE Try.ntmps118 ?_;intro a Z;refine wsr ?_;refine Z.s ?_;clear Z;intro a Z;refine Af (G:=fun W=>wpOps _ _ _ _ _ W) ?_;obtain ⟨b,hg⟩:∃ b,b=w.heap.size:=⟨_,rfl⟩;intro x hz KX hb;rw [← hg] at Z KX;have hbl:w.heap.size≤b:=by omega
 clear hz hg;refine od ?_;refine wsr ?_;refine Z.s ?_;clear Z;intro a Z;refine og fun K hK =>?_
 have e0:=Z.g 0;have e1:=Z.g 1;have c0:=KX.cell (o:=0) rfl;have z0:=KX.fz 0;unfold Oper.wp;go_simp;clear e0 e1;refine hK _ _ ?_;clear hK;replace hb:=hb.setCell (p:=⟨b,0,none⟩) (by show w.heap.size≤b;exact hbl) (.func (.func 127) #[] #[]);replace KX:=KX.set 0 (.func (.func 127) #[] #[]);refine od ?_;refine wp_ret ?_
 try simp only [Exit.then,Exit.inBlock]
 have c1:=KX.cell (o:=0) rfl;refine bodyPost_ret (v := .agg #[.func (.func 127) #[] #[]]) ?_ Z.defers ⟨rfl,hb⟩;simp [results,Try.results118,Z.get 0 _ rfl,go_sem,c1]
def Zd (t:Ac) (from_ to_ lim:Int):Option Ee:=Wv ((LZ t from_ to_).filter (KL lim))
def WM (w0:World) (r:Option Ee) (err:Int) (e:Ending) (w':World):Prop :=
 Below w0.heap.size w0 w'∧(r=none→e = .returned (.tuple #[.slice none 0 0, .int .i64 0, .int .i64 err]))∧(∀ c,r=some c→∃ v,e = .returned (.tuple #[v, .int .i64 c.coins, .int .i64 0])∧CO w' w0.heap.size v c.way∧v ≠ .slice none 0 0∧c.way.length≤1000)
theorem Pg:Try.f96.body=some (Code.seq (Aa Try.f96 0) (Code.seq (Aa Try.f96 1) (Code.seq (Code.seq (Aa Try.f96 2) (Code.cond (Operand.tmp 20) (Code.seq (Aa Try.f96 3) Code.ret) Code.skip)) (Code.seq (Aa Try.f96 4) Code.ret)))):=by kernel_rfl
theorem SL {t:Ac} {s:DT} {w:World} {from_ to_ lim:Int} (ht:CZ w t s) (hT:Ar t=0) (hfr:btw from_ 0 (t.roads.stages-1)=true):Calls Try.prog 96 #[.agg (EY t s), .int .i64 from_, .int .i64 to_, .int .i64 lim] w (WM w (Zd t from_ to_ lim) 11):=by
 refine call4 Try.func96 Pg Try.ntmps96 ?_;intro a Z;refine wsr ?_;refine Z.s ?_;clear Z;intro a Z;refine Af (G:=fun W=>wpOps _ _ _ _ _ W) ?_;obtain ⟨bt,hg⟩:∃ g,g=w.heap.size:=⟨_,rfl⟩;intro x hz Kt hb;rw [← hg] at Z Kt;have h0:w.heap.size≤bt:=by omega
 clear hg hz;refine Z.s ?_;clear Z;intro a Z;refine Af (G:=fun W=>wpOps _ _ _ _ _ W) ?_;obtain ⟨bf,hg⟩:∃ g,g=x.heap.size:=⟨_,rfl⟩;have hz0:=hb.size;intro x hz Kf hb2;rw [← hg] at Z Kf;have h1:w.heap.size≤bf:=by omega
 replace hb:=hb.trans (hb2.mono hb.size);replace Kt:=Kt.below hb2;clear hz0 hb2;clear hg hz;refine Z.s ?_;clear Z;intro a Z;refine Af (G:=fun W=>wpOps _ _ _ _ _ W) ?_;obtain ⟨bto,hg⟩:∃ g,g=x.heap.size:=⟨_,rfl⟩;have hz0:=hb.size;intro x hz Kto hb2;rw [← hg] at Z Kto;have h2:w.heap.size≤bto:=by omega
 replace hb:=hb.trans (hb2.mono hb.size);replace Kt:=Kt.below hb2;replace Kf:=Kf.below hb2;clear hz0 hb2;clear hg hz;refine Z.s ?_;clear Z;intro a Z;refine Af (G:=fun W=>wpOps _ _ _ _ _ W) ?_;obtain ⟨bl,hg⟩:∃ g,g=x.heap.size:=⟨_,rfl⟩;have hz0:=hb.size;intro x hz Kl hb2;rw [← hg] at Z Kl;have h3:w.heap.size≤bl:=by omega
 replace hb:=hb.trans (hb2.mono hb.size);replace Kt:=Kt.below hb2;replace Kf:=Kf.below hb2;replace Kto:=Kto.below hb2;clear hz0 hb2;clear hg hz;(iterate 3 refine Z.s ?_;clear Z;intro a Z);refine od ?_;refine wsr ?_;refine Z.s ?_;clear Z;intro a Z;refine og fun K hK =>?_
 unfold Oper.wp;go_simp;refine Wl.mono ?_;rintro e x ⟨rfl,hb2⟩;replace Kt:=Kt.below hb2;replace Kf:=Kf.below hb2;replace Kto:=Kto.below hb2;replace Kl:=Kl.below hb2;replace hb:=hb.trans (hb2.mono hb.size);clear hb2;refine Z.K hK ?_;clear Z hK;intro a Z;refine og fun K hK =>?_
 have e14:=Z.g 14;have e15:=Z.g 15;have hbe:=X5 (O9 (lim:=lim) (bt:=bt) (bf:=bf) (bto:=bto) (bl:=bl) (to_:=to_) (s:=s) hT hfr) (w0:=x) (fun V hV=>⟨⟨ht.below (hb.trans (hV.mono hb.size)),Kt.below hV,Kf.below hV,Kto.below hV⟩,Kl.below hV⟩) (fun l W=>by simp [invoke,go_sem]);unfold Oper.wp;go_simp;refine hbe.mono ?_;rintro e x2 ⟨hb2,hN,hS⟩;have hxx:=hb.size;replace hb:=hb.trans (hb2.mono hb.size);clear hb2 Kt Kf Kto Kl hbe;have hW:Zd t from_ to_ lim=Wv ((LZ t from_ to_).filter (KL lim)):=rfl;rw [← hW] at hN hS;clear hW;clear e14 e15
 cases hc:Zd t from_ to_ lim with
 | none =>
  obtain rfl:=hN hc;clear hS hN hxx
  try simp only [Value.elem?]
  try refine ⟨_,rfl,?_⟩
  refine Z.K hK ?_;clear Z hK;intro a Z;obtain ⟨x,hx2⟩:∃ x,x=x2:=⟨_,rfl⟩;rw [← hx2] at hb ⊢;clear hx2;(iterate 3 refine Z.s ?_;clear Z;intro a Z);refine og fun K hK =>?_
  obtain ⟨bc,hg⟩:∃ b,b=x.heap.size:=⟨_,rfl⟩;unfold Oper.wp;go_simp;refine Z.K hK ?_;clear Z hK;intro a Z;refine og fun K hK =>?_
  have e11:=Z.g 11;have e17:=Z.g 17;unfold Oper.wp;go_simp;clear e11 e17;refine hK _ _ ?_;clear hK;have hbs:=hb.size;refine Af (G:=fun W=>wpOps _ _ _ _ _ W) ?_;intro x2 hz KC hb3;rw [← hg] at Z KC;replace hb:=hb.trans (hb3.mono hb.size)
  skip
  have hbc:w.heap.size≤bc:=by rw [hg];exact hbs
  clear hz hb3 hg hbs;obtain ⟨x,hx3⟩:∃ x,x=x2:=⟨_,rfl⟩;rw [← hx3] at hb KC ⊢;clear hx3;refine Z.s ?_;clear Z;intro a Z;refine od ?_;refine wp_seq ?_;refine wsr ?_;(iterate 2 refine Z.s ?_;clear Z;intro a Z);refine od ?_;refine wp_cond_true (Z.ev 20 rfl) ?_;refine wsr ?_;(iterate 3 refine Z.s ?_;clear Z;intro a Z);refine od ?_;refine wp_ret ?_
  try simp only [Exit.then,Exit.inBlock]
  refine bodyPost_ret (v := .tuple #[.slice none 0 0, .int .i64 0, .int .i64 11]) ?_ Z.defers ⟨hb,fun _=>rfl,fun c2 h2=>by rw [hc] at h2;simp at h2⟩;simp [results,Try.results96,Z.get 8 _ rfl,Z.get 9 _ rfl,Z.get 10 _ rfl]
 | some c =>
  obtain ⟨cv,rfl,hO,hnn,hl⟩:=hS c hc;clear hS hN;replace hO:=AX.lower hO hxx;clear hxx;obtain ⟨ga,ca,hcv,_⟩:=CO.sl hO hnn;subst hcv
  try simp only [Value.elem?]
  try refine ⟨_,rfl,?_⟩
  refine Z.K hK ?_;clear Z hK;intro a Z;obtain ⟨x,hx2⟩:∃ x,x=x2:=⟨_,rfl⟩;rw [← hx2] at hb ⊢ hO;clear hx2;(iterate 3 refine Z.s ?_;clear Z;intro a Z);refine og fun K hK =>?_
  obtain ⟨bc,hg⟩:∃ b,b=x.heap.size:=⟨_,rfl⟩;unfold Oper.wp;go_simp;refine Z.K hK ?_;clear Z hK;intro a Z;refine og fun K hK =>?_
  have e11:=Z.g 11;have e17:=Z.g 17;unfold Oper.wp;go_simp;clear e11 e17;refine hK _ _ ?_;clear hK;have hbs:=hb.size;refine Af (G:=fun W=>wpOps _ _ _ _ _ W) ?_;intro x2 hz KC hb3;rw [← hg] at Z KC;replace hb:=hb.trans (hb3.mono hb.size);replace hO:=hO.below hb3;have hbc:w.heap.size≤bc:=by rw [hg];exact hbs
  clear hz hb3 hg hbs;obtain ⟨x,hx3⟩:∃ x,x=x2:=⟨_,rfl⟩;rw [← hx3] at hb KC ⊢ hO;clear hx3;refine Z.s ?_;clear Z;intro a Z;refine od ?_;refine wp_seq ?_;refine wsr ?_;(iterate 2 refine Z.s ?_;clear Z;intro a Z);refine od ?_;refine wp_cond_false (Z.ev 20 rfl) ?_;refine wp_skip ?_;refine wp_seq ?_;replace KC:Rw x bc #[.slice (some ⟨ga,0,none⟩) c.way.length ca, .int .i64 c.coins, .int .i64 c.leagues] 149:=KC;rw [show Aa Try.f96 4=Code.region 4 _ true from rfl];refine Du (by kernel_rfl) ((Z.nil.cons (Z.get 11 _ rfl))) [some 21,some 22,some 23,some 24,some 8,some 9,some 10] rfl rfl (by kernel_rfl) (fun j v _=>match j with | 0=>v = .pointer (some ⟨bc,0,none⟩) | 1=>v = .slice (some ⟨ga,0,none⟩) c.way.length ca | 2=>v = .pointer (some ⟨bc,1,none⟩) | 3=>v = .int .i64 c.coins | 4=>v = .slice (some ⟨ga,0,none⟩) c.way.length ca | 5=>v = .int .i64 c.coins | 6=>v = .int .i64 0 | _=>True) (fun _ x=>Rw x bc #[.slice (some ⟨ga,0,none⟩) c.way.length ca, .int .i64 c.coins, .int .i64 c.leagues] 149∧Below w.heap.size w x∧CO x w.heap.size (.slice (some ⟨ga,0,none⟩) c.way.length ca) c.way) (⟨KC.below (Below.refl _ _).drew,hb.trans ((Below.refl _ _).drew.mono hb.size),hO.below (Below.refl _ _).drew⟩) ?_ ?_
  ·clear Z;intro k o hkl ho L a x hI hLk Z hs hd;have hlt:∀ k:Nat,k < 7→k=0∨k=1∨k=2∨k=3∨k=4∨k=5∨k=6:=by decide
   rcases hlt k hkl with rfl | rfl | rfl | rfl | rfl | rfl | rfl
   ·obtain rfl:=Option.some.inj ho;have e11:=Z.g 11;clear hs hd;refine wg fun K hK =>?_
    unfold Oper.wp;go_simp;exact hK _ _ ⟨_,rfl,rfl,hI,fun _ _ h=>h⟩
   ·obtain rfl:=Option.some.inj ho;obtain ⟨_,e21,rfl⟩:=hs 0 _ 21 rfl rfl (hd 0 wm);have c0:=hI.1.cell (o:=0) rfl;clear hs hd;refine wg fun K hK =>?_
    unfold Oper.wp;go_simp;exact hK _ _ ⟨_,rfl,rfl,hI,fun _ _ h=>h⟩
   ·obtain rfl:=Option.some.inj ho;have e11:=Z.g 11;clear hs hd;refine wg fun K hK =>?_
    unfold Oper.wp;go_simp;exact hK _ _ ⟨_,rfl,rfl,hI,fun _ _ h=>h⟩
   ·obtain rfl:=Option.some.inj ho;obtain ⟨_,e23,rfl⟩:=hs 2 _ 23 rfl rfl (hd 2 wm);have c1:=hI.1.cell (o:=1) rfl;clear hs hd;refine wg fun K hK =>?_
    unfold Oper.wp;go_simp;exact hK _ _ ⟨_,rfl,rfl,hI,fun _ _ h=>h⟩
   ·obtain rfl:=Option.some.inj ho;obtain ⟨_,e22,rfl⟩:=hs 1 _ 22 rfl rfl (hd 1 wm);clear hs hd;refine wg fun K hK =>?_
    unfold Oper.wp;go_simp;exact hK _ _ ⟨_,rfl,rfl,hI,fun _ _ h=>h⟩
   ·obtain rfl:=Option.some.inj ho;obtain ⟨_,e24,rfl⟩:=hs 3 _ 24 rfl rfl (hd 3 wm);clear hs hd;refine wg fun K hK =>?_
    unfold Oper.wp;go_simp;exact hK _ _ ⟨_,rfl,rfl,hI,fun _ _ h=>h⟩
   ·obtain rfl:=Option.some.inj ho;clear hs hd;refine wg fun K hK =>?_
    unfold Oper.wp;go_simp;exact hK _ _ ⟨_,rfl,rfl,hI,fun _ _ h=>h⟩
  ·clear Z;intro L a x hall hI Z hs;obtain ⟨v8,e8,hv8⟩:=hs 4 _ 8 rfl rfl (hall 4 (by decide));obtain rfl:=hv8;obtain ⟨v9,e9,hv9⟩:=hs 5 _ 9 rfl rfl (hall 5 (by decide));obtain rfl:=hv9;obtain ⟨_,e10,rfl⟩:=hs 6 _ 10 rfl rfl (hall 6 (by decide));replace Z:=(((Z.cons e8).cons e9).cons e10);clear hs hall e8 e9 e10;refine wp_ret ?_
   try simp only [Exit.then,Exit.inBlock]
   obtain ⟨KC,hb,hO⟩:=hI;refine bodyPost_ret (v := .tuple #[.slice (some ⟨ga,0,none⟩) c.way.length ca, .int .i64 c.coins, .int .i64 0]) ?_ Z.defers ⟨hb,fun h=>by rw [hc] at h;simp at h,fun c2 h2=>by rw [hc] at h2;obtain rfl:=Option.some.inj h2;exact ⟨_,rfl,hO,hnn,hl⟩⟩;simp [results,Try.results96,Z.get 8 _ rfl,Z.get 9 _ rfl,Z.get 10 _ rfl]
def GY (t:Ac) (from_ to_:Int):Int:=if Ar t=0 then (if (btw from_ 0 (t.roads.stages-1) && btw to_ 0 (t.roads.stages-1))=true then 0 else 3) else Ar t
def Jw (t:Ac) (from_ to_:Int):Option Ee×Int:=if GY t from_ to_=0 then (Zd t from_ to_ (-1),11) else (none,GY t from_ to_)
theorem Yd {t:Ac} {from_:Int} {way:List Int} (h:(BO t from_ way).2=0):Ar t=0:=by
 rcases Classical.em (Ar t=0) with h1 | h1
 ·exact h1
 ·have:=(Fb (from_:=from_) (way:=way)).1 h1;rw [this] at h;exact absurd h h1
theorem OD {t:Ac} {l:List Au} (h:Dh t l=0):Ar t=0:=by
 rcases Classical.em (Ar t=0) with h1 | h1
 ·exact h1
 ·rw [Gg.1 h1] at h;exact absurd h h1
theorem Gf {t:Ac} {l:List Au} (h:Dh t l=0):Dp t l∧l.length≤1000:=by
 have h1:=OD h;rcases Nat.lt_or_ge 24 l.length with h2 | h2
 ·rw [Gg.2.1 h1 h2] at h;exact absurd h (by decide)
 ·rw [Gg.2.2 h1 h2] at h;exact ⟨Kr h,by omega⟩
theorem VY {t:Ac} {from_ to_:Int} (h:GY t from_ to_=0):Ar t=0∧btw from_ 0 (t.roads.stages-1)=true:=by
 unfold GY at h
 split at h
 ·rename_i h1
  split at h
  ·rename_i h2;simp only [Bool.and_eq_true] at h2;exact ⟨h1,h2.1⟩
  ·exact absurd h (by decide)
 ·rename_i h1;exact absurd h h1
theorem S9:Try.f95.body=some (Code.seq (Aa Try.f95 0) (Code.seq (Code.seq (Aa Try.f95 1) (Code.seq (Aa Try.f95 2) (Code.cond (Operand.tmp 11) (Code.seq (Aa Try.f95 3) Code.ret) Code.skip))) (Code.seq (Code.seq (Aa Try.f95 4) (Code.cond (Operand.tmp 28) (Code.seq (Aa Try.f95 5) Code.ret) Code.skip)) (Code.seq (Aa Try.f95 6) Code.ret)))):=by kernel_rfl
theorem XL {t:Ac} {s:DT} {w:World} {from_ to_:Int} (ht:CZ w t s):Calls Try.prog 95 #[.agg (EY t s), .int .i64 from_, .int .i64 to_] w (fun e w'=>e = .returned (.int .i64 (GY t from_ to_))∧Below w.heap.size w w'):=by
 refine OW Try.func95 S9 Try.ntmps95 ?_;intro a Z;refine wsr ?_;refine Z.s ?_;clear Z;intro a Z;refine Af (G:=fun W=>wpOps _ _ _ _ _ W) ?_;intro x hz X hb;have hI:=TI.made (Below.refl _ _) ht X hb;obtain ⟨bt,hbt⟩:∃ b,b=w.heap.size:=⟨_,rfl⟩;rw [← hbt] at Z hI;clear hz X hb hbt;refine Z.s ?_;clear Z;intro a Z;refine od ?_;refine wp_seq ?_;refine wsr ?_;refine og fun K hK =>?_
 have e3:=Z.g 3;have c0:=hI.c0;have c1:=hI.c1;have c2:=hI.c2;have c3:=hI.c3;have c4:=hI.c4;have c5:=hI.c5;unfold Oper.wp;go_simp;clear e3;refine Z.K hK ?_;clear Z hK;intro a Z;refine og fun K hK =>?_
 have e8:=Z.g 8;unfold Oper.wp;go_simp;refine (JF hI.tar).mono ?_;rintro e x ⟨rfl,hb⟩;replace hI:=hI.keep hb;clear hb;clear e8;refine Z.K hK ?_;clear Z hK;intro a Z;refine Z.s ?_;clear Z;intro a Z;refine od ?_;refine wsr ?_;refine Z.s ?_;clear Z;intro a Z
 by_cases h1:Ar t=0
 ·have hne:=CS h1;refine Z.s ?_;clear Z;intro a Z;refine od ?_;refine wp_cond_false (Z.ev 11 rfl) ?_;refine wp_skip ?_;refine wp_seq ?_;refine wsr ?_;(iterate 3 refine Z.s ?_;clear Z;intro a Z);refine og fun K hK =>?_
  have e15:=Z.g 15;have c1:=hI.c1;unfold Oper.wp;go_simp;clear e15;refine Z.K hK ?_;clear Z hK;intro a Z;refine og fun K hK =>?_
  have e16:=Z.g 16;have hww:IntKind.i64.wrap (t.roads.stages-1)=t.roads.stages-1:=IntWalk.i64_in _ (by have:=ED (Bh h1).1;omega);unfold Oper.wp;go_simp;clear e16;refine Z.K hK ?_;clear Z hK;intro a Z;refine og fun K hK =>?_
  have e13:=Z.g 13;have e17:=Z.g 17;unfold Oper.wp;go_simp;refine (Bg _ _ _ _).mono ?_;rintro e x ⟨rfl,rfl⟩;clear e13 e17;refine Z.K hK ?_;clear Z hK;intro a Z;rcases Bool.eq_false_or_eq_true (btw from_ 0 (t.roads.stages-1)) with h2 | h2
  ·rw [h2] at Z;(iterate 2 refine Z.s ?_;clear Z;intro a Z);(iterate 3 refine Z.t ?_;clear Z;intro a Z);refine oW (Z.g 20) fun K hK =>?_
   have e23:=Z.g 23;have c1:=hI.c1;unfold Oper.wp;go_simp;clear e23;refine Z.K hK ?_;clear Z hK;intro a Z;refine oW (Z.g 20) fun K hK =>?_
   have e24:=Z.g 24;have hww:IntKind.i64.wrap (t.roads.stages-1)=t.roads.stages-1:=IntWalk.i64_in _ (by have:=ED (Bh h1).1;omega);unfold Oper.wp;go_simp;clear e24;refine Z.K hK ?_;clear Z hK;intro a Z;refine oW (Z.g 20) fun K hK =>?_
   have e21:=Z.g 21;have e25:=Z.g 25;unfold Oper.wp;go_simp;refine (Bg _ _ _ _).mono ?_;rintro e x ⟨rfl,rfl⟩;clear e21 e25;refine Z.K hK ?_;clear Z hK;intro a Z;rcases Bool.eq_false_or_eq_true (btw to_ 0 (t.roads.stages-1)) with h3 | h3
   ·rw [h3] at Z;refine Z.t ?_;clear Z;intro a Z;refine Z.s ?_;clear Z;intro a Z;refine od ?_;refine wp_cond_false (Z.ev 28 rfl) ?_;refine wp_skip ?_;refine wsr ?_;refine Z.s ?_;clear Z;intro a Z;refine od ?_;refine wp_ret ?_
    try simp only [Exit.then,Exit.inBlock]
    have hR:=Lib.hid (show GY t from_ to_=0 from by unfold GY;rw [if_pos h1,if_pos (by rw [h2,h3];rfl)]);refine bodyPost_ret (v := .int .i64 (GY t from_ to_)) ?_ Z.defers ⟨rfl,hI.below⟩;rw [hR.out];simp [results,Try.results95,Z.get 6 _ rfl]
   ·rw [h3] at Z;refine Z.t ?_;clear Z;intro a Z;refine Z.s ?_;clear Z;intro a Z;refine od ?_;refine wp_cond_true (Z.ev 28 rfl) ?_;refine wsr ?_;refine Z.s ?_;clear Z;intro a Z;refine od ?_;refine wp_ret ?_
    try simp only [Exit.then,Exit.inBlock]
    have hR:=Lib.hid (show GY t from_ to_=3 from by unfold GY;rw [if_pos h1,if_neg (by rw [h2,h3];decide)]);refine bodyPost_ret (v := .int .i64 (GY t from_ to_)) ?_ Z.defers ⟨rfl,hI.below⟩;rw [hR.out];simp [results,Try.results95,Z.get 6 _ rfl]
  ·rw [h2] at Z;(iterate 2 refine Z.s ?_;clear Z;intro a Z);refine Z.z ?_;clear Z;intro a Z;refine Z.z ?_;clear Z;intro a Z;refine Z.z ?_;clear Z;intro a Z;refine Z.z ?_;clear Z;intro a Z;refine Z.z ?_;clear Z;intro a Z;refine Z.z ?_;clear Z;intro a Z;refine Z.z ?_;clear Z;intro a Z;refine Z.s ?_;clear Z;intro a Z;refine od ?_;refine wp_cond_true (Z.ev 28 rfl) ?_;refine wsr ?_;refine Z.s ?_;clear Z;intro a Z;refine od ?_;refine wp_ret ?_
   try simp only [Exit.then,Exit.inBlock]
   have hR:=Lib.hid (show GY t from_ to_=3 from by unfold GY;rw [if_pos h1,if_neg (by rw [h2];simp)]);refine bodyPost_ret (v := .int .i64 (GY t from_ to_)) ?_ Z.defers ⟨rfl,hI.below⟩;rw [hR.out];simp [results,Try.results95,Z.get 6 _ rfl]
 ·have hne:=DC h1;have hR:=Lib.hid (show GY t from_ to_=Ar t from if_neg h1);refine Z.s ?_;clear Z;intro a Z;refine od ?_;refine wp_cond_true (Z.ev 11 rfl) ?_;refine wsr ?_;(iterate 2 refine Z.s ?_;clear Z;intro a Z);refine od ?_;refine wp_ret ?_
  try simp only [Exit.then,Exit.inBlock]
  refine bodyPost_ret (v := .int .i64 (GY t from_ to_)) ?_ Z.defers ⟨rfl,hI.below⟩;rw [hR.out];simp [results,Try.results95,Z.get 6 _ rfl]
theorem MN:Try.f48.body=some (Code.seq (Aa Try.f48 0) (Code.seq (Code.seq (Aa Try.f48 1) (Code.seq (Aa Try.f48 2) (Code.cond (Operand.tmp 15) (Code.seq (Aa Try.f48 3) Code.ret) Code.skip))) (Code.seq (Aa Try.f48 4) Code.ret))):=by kernel_rfl
theorem Qc {t:Ac} {s:DT} {w:World} {from_ to_:Int} (ht:CZ w t s):Calls Try.prog 48 #[.agg (EY t s), .int .i64 from_, .int .i64 to_] w (WM w (Jw t from_ to_).1 (Jw t from_ to_).2):=by
 refine OW Try.func48 MN Try.ntmps48 ?_;intro a Z;refine wsr ?_;refine Z.s ?_;clear Z;intro a Z;refine Af (G:=fun W=>wpOps _ _ _ _ _ W) ?_;intro x hz X hb;have hI:=TI.made (Below.refl _ _) ht X hb;obtain ⟨bt,hbt⟩:∃ b,b=w.heap.size:=⟨_,rfl⟩;rw [← hbt] at Z hI;clear hz X hb hbt;(iterate 3 refine Z.s ?_;clear Z;intro a Z);refine od ?_;refine wp_seq ?_;refine wsr ?_;refine og fun K hK =>?_
 have e3:=Z.g 3;have c0:=hI.c0;have c1:=hI.c1;have c2:=hI.c2;have c3:=hI.c3;have c4:=hI.c4;have c5:=hI.c5;unfold Oper.wp;go_simp;clear e3;refine Z.K hK ?_;clear Z hK;intro a Z;(iterate 2 refine Z.s ?_;clear Z;intro a Z);refine og fun K hK =>?_
 have e10:=Z.g 10;have e11:=Z.g 11;have e12:=Z.g 12;unfold Oper.wp;go_simp;refine (XL hI.tar).mono ?_;rintro e x ⟨rfl,hb⟩;replace hI:=hI.keep hb;clear hb;clear e10 e11 e12;refine Z.K hK ?_;clear Z hK;intro a Z;refine Z.s ?_;clear Z;intro a Z;refine od ?_;refine wsr ?_;refine Z.s ?_;clear Z;intro a Z
 by_cases h1:GY t from_ to_=0
 ·have HE:=Lib.hid h1;have hne:=CS h1;clear h1;refine Z.s ?_;clear Z;intro a Z;refine od ?_;refine wp_cond_false (Z.ev 15 rfl) ?_;refine wp_skip ?_;refine wsr ?_;refine og fun K hK =>?_
  have e3:=Z.g 3;have c0:=hI.c0;have c1:=hI.c1;have c2:=hI.c2;have c3:=hI.c3;have c4:=hI.c4;have c5:=hI.c5;unfold Oper.wp;go_simp;clear e3;refine Z.K hK ?_;clear Z hK;intro a Z;(iterate 2 refine Z.s ?_;clear Z;intro a Z);refine og fun K hK =>?_
  have e17:=Z.g 17;have e18:=Z.g 18;have e19:=Z.g 19;unfold Oper.wp;go_simp;refine (SL (to_:=to_) (lim:=(-1)) hI.tar (VY HE.out).1 (VY HE.out).2).mono ?_;rintro e x2 ⟨hb2,hN,hS⟩;have hxx:=hI.below.size;replace hI:=hI.keep hb2;clear hb2 e17 e18 e19
  cases hc:Zd t from_ to_ (-1) with
  | none =>
   obtain rfl:=hN hc;clear hS hN;clear hxx
   try refine ⟨_,rfl,?_⟩
   refine Z.K hK ?_;clear Z hK;intro a Z;obtain ⟨x,hx2⟩:∃ x,x=x2:=⟨_,rfl⟩;rw [← hx2] at hI ⊢;clear hx2;(iterate 6 refine Z.s ?_;clear Z;intro a Z);refine od ?_;refine wp_ret ?_
   try simp only [Exit.then,Exit.inBlock]
   have hR:=Lib.hid (show Jw t from_ to_=(none,11) from by unfold Jw;rw [if_pos HE.out,hc]);rw [hR.out];refine bodyPost_ret (v := .tuple #[.slice none 0 0, .int .i64 0, .int .i64 11]) ?_ Z.defers ⟨hI.below,fun _=>rfl,fun c2 h2=>by simp at h2⟩;simp [results,Try.results48,Z.get 6 _ rfl,Z.get 7 _ rfl,Z.get 8 _ rfl]
  | some c =>
   obtain ⟨cv,rfl,hO,hnn,hl⟩:=hS c hc;clear hS hN;replace hO:=AX.lower hO hxx;clear hxx
   try refine ⟨_,rfl,?_⟩
   refine Z.K hK ?_;clear Z hK;intro a Z;obtain ⟨x,hx2⟩:∃ x,x=x2:=⟨_,rfl⟩;rw [← hx2] at hI ⊢ hO;clear hx2;(iterate 6 refine Z.s ?_;clear Z;intro a Z);refine od ?_;refine wp_ret ?_
   try simp only [Exit.then,Exit.inBlock]
   have hR:=Lib.hid (show Jw t from_ to_=(some c,11) from by unfold Jw;rw [if_pos HE.out,hc]);rw [hR.out];refine bodyPost_ret (v := .tuple #[cv, .int .i64 c.coins, .int .i64 0]) ?_ Z.defers ⟨hI.below,fun h=>by simp at h,fun c2 h2=>by obtain rfl:=Option.some.inj h2;exact ⟨_,rfl,hO,hnn,hl⟩⟩;simp [results,Try.results48,Z.get 6 _ rfl,Z.get 7 _ rfl,Z.get 8 _ rfl]
 ·have HE:=Lib.hid h1;have hne:=DC h1;clear h1;refine Z.s ?_;clear Z;intro a Z;refine od ?_;refine wp_cond_true (Z.ev 15 rfl) ?_;refine wsr ?_;(iterate 4 refine Z.s ?_;clear Z;intro a Z);refine od ?_;refine wp_ret ?_
  try simp only [Exit.then,Exit.inBlock]
  have hR:=Lib.hid (show Jw t from_ to_=(none,GY t from_ to_) from by unfold Jw;rw [if_neg HE.out]);rw [hR.out];refine bodyPost_ret (v := .tuple #[.slice none 0 0, .int .i64 0, .int .i64 (GY t from_ to_)]) ?_ Z.defers ⟨hI.below,fun _=>rfl,fun c2 h2=>by simp at h2⟩;simp [results,Try.results48,Z.get 6 _ rfl,Z.get 7 _ rfl,Z.get 8 _ rfl]
theorem Pv:Try.f35.body=some (Code.seq (Aa Try.f35 0) (Code.seq (Aa Try.f35 1) Code.ret)):=by kernel_rfl
theorem Uy {t:Ac} {s:DT} {w:World} {from_:Int} {way:List Int} {wa:Option Addr} {wc:Nat} (ht:CZ w t s) (hw:AP w wa way) (hwc:way.length≤wc) (hwl:way.length≤1000000):Calls Try.prog 35 #[.agg (EY t s), .int .i64 from_, .slice wa way.length wc] w (Qr w t from_ way):=by
 refine OW Try.func35 Pv Try.ntmps35 ?_;intro a Z;refine wsr ?_;refine Z.s ?_;clear Z;intro a Z;refine Af (G:=fun W=>wpOps _ _ _ _ _ W) ?_;intro x hz X hb;have hI:=TI.made (Below.refl _ _) ht X hb;obtain ⟨bt,hbt⟩:∃ b,b=w.heap.size:=⟨_,rfl⟩;rw [← hbt] at Z hI;clear hz X hb hbt;(iterate 2 refine Z.s ?_;clear Z;intro a Z);refine od ?_;refine wsr ?_;refine og fun K hK =>?_
 have e3:=Z.g 3;have c0:=hI.c0;have c1:=hI.c1;have c2:=hI.c2;have c3:=hI.c3;have c4:=hI.c4;have c5:=hI.c5;unfold Oper.wp;go_simp;clear e3;refine Z.K hK ?_;clear Z hK;intro a Z;(iterate 2 refine Z.s ?_;clear Z;intro a Z);refine og fun K hK =>?_
 have e8:=Z.g 8;have e9:=Z.g 9;have e10:=Z.g 10;unfold Oper.wp;go_simp;refine (Mc hI.tar (hw.below hI.below) hwc hwl).mono ?_;rintro e x ⟨hb,va,rfl,hO,hnil⟩;have hxx:=hI.below.size;replace hO:=AX.lower hO hxx;clear hxx;replace hI:=hI.keep hb;clear hb;clear e8 e9 e10;refine Z.K hK ?_;clear Z hK;intro a Z;(iterate 4 refine Z.s ?_;clear Z;intro a Z);refine od ?_;refine wp_ret ?_
 try simp only [Exit.then,Exit.inBlock]
 refine bodyPost_ret (v := .tuple #[va, .int .i64 (BO t from_ way).2]) ?_ Z.defers ⟨hI.below,va,rfl,hO,hnil⟩;simp [results,Try.results35,Z.get 6 _ rfl,Z.get 7 _ rfl]
end
end Go.Proofs.Ytgdobbcjkiapkaa
