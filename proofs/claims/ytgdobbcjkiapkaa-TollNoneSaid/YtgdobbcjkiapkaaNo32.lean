import Derived.Test.YtgdobbcjkiapkaaNo04
import Derived.Test.YtgdobbcjkiapkaaNo31
import Derived.Test.YtgdobbcjkiapkaaNo02
import Derived.Test.YtgdobbcjkiapkaaNo21
import Derived.Test.YtgdobbcjkiapkaaNo18
namespace Go.Proofs.Ytgdobbcjkiapkaa
set_option maxRecDepth 100000
set_option maxHeartbeats 4000000
set_option linter.unusedSimpArgs false
set_option linter.unusedVariables false
section
open Go.RowKit
theorem Rx:Try.f118.body=some (Code.seq (Aa Try.f118 0) (Code.seq (Aa Try.f118 1) Code.ret)):=by kernel_rfl
theorem Xt {w:World}:Calls Try.prog 118 #[] w (fun e w'=>e = .returned (.agg #[.func (.func 127) #[] #[]])∧Below w.heap.size w w'):=by
 refine Z4 Try.func118 Rx Try.ntmps118 ?_;intro a Z;refine wsr ?_;refine Z.s ?_;clear Z;intro a Z;refine Af (G:=fun W=>wpOps _ _ _ _ _ W) ?_;obtain ⟨b,hg⟩:∃ b,b=w.heap.size:=⟨_,rfl⟩;intro x hz KX hb;rw [← hg] at Z KX;have hbl:w.heap.size≤b:=by omega
 clear hz hg;refine od ?_;refine wsr ?_;refine Z.s ?_;clear Z;intro a Z;refine og fun K hK =>?_
 have e0:=Z.g 0;have e1:=Z.g 1;have c0:=KX.cell (o:=0) rfl;have z0:=KX.fz 0;unfold Oper.wp;go_simp;clear e0 e1;refine hK _ _ ?_;clear hK;replace hb:=hb.setCell (p:=⟨b,0,none⟩) (by show w.heap.size≤b;exact hbl) (.func (.func 127) #[] #[]);replace KX:=KX.set 0 (.func (.func 127) #[] #[]);refine od ?_;refine wp_ret ?_
 try simp only [Exit.then,Exit.inBlock]
 have c1:=KX.cell (o:=0) rfl;refine bodyPost_ret (v := .agg #[.func (.func 127) #[] #[]]) ?_ Z.defers ⟨rfl,hb⟩;simp [results,Try.results118,Z.get 0 _ rfl,go_sem,c1]
def XV (t:Ae) (from_ to_ lim:Int):Option BF:=SL ((Fb t from_ to_).filter (JV lim))
def TV (w0:World) (r:Option BF) (err:Int) (e:Ending) (w':World):Prop :=
 Below w0.heap.size w0 w'∧(r=none→e = .returned (.tuple #[.slice none 0 0, .int .i64 0, .int .i64 err]))∧(∀ c,r=some c→∃ v,e = .returned (.tuple #[v, .int .i64 c.coins, .int .i64 0])∧Dz w' w0.heap.size v c.way∧v ≠ .slice none 0 0∧c.way.length≤1000)
theorem PY:Try.f96.body=some (Code.seq (Aa Try.f96 0) (Code.seq (Aa Try.f96 1) (Code.seq (Code.seq (Aa Try.f96 2) (Code.cond (Operand.tmp 20) (Code.seq (Aa Try.f96 3) Code.ret) Code.skip)) (Code.seq (Aa Try.f96 4) Code.ret)))):=by kernel_rfl
theorem Ua {t:Ae} {s:Ef} {w:World} {from_ to_ lim:Int} (ht:CV w t s) (hT:Ap t=0) (hfr:btw from_ 0 (t.roads.stages-1)=true):Calls Try.prog 96 #[.agg (ER t s), .int .i64 from_, .int .i64 to_, .int .i64 lim] w (TV w (XV t from_ to_ lim) 11):=by
 refine call4 Try.func96 PY Try.ntmps96 ?_;intro a Z;refine wsr ?_;refine Z.s ?_;clear Z;intro a Z;refine Af (G:=fun W=>wpOps _ _ _ _ _ W) ?_;obtain ⟨bt,hg⟩:∃ g,g=w.heap.size:=⟨_,rfl⟩;intro x hz Kt hb;rw [← hg] at Z Kt;have h0:w.heap.size≤bt:=by omega
 clear hg hz;refine Z.s ?_;clear Z;intro a Z;refine Af (G:=fun W=>wpOps _ _ _ _ _ W) ?_;obtain ⟨bf,hg⟩:∃ g,g=x.heap.size:=⟨_,rfl⟩;have hz0:=hb.size;intro x hz Kf hb2;rw [← hg] at Z Kf;have h1:w.heap.size≤bf:=by omega
 replace hb:=hb.trans (hb2.mono hb.size);replace Kt:=Kt.below hb2;clear hz0 hb2;clear hg hz;refine Z.s ?_;clear Z;intro a Z;refine Af (G:=fun W=>wpOps _ _ _ _ _ W) ?_;obtain ⟨bto,hg⟩:∃ g,g=x.heap.size:=⟨_,rfl⟩;have hz0:=hb.size;intro x hz Kto hb2;rw [← hg] at Z Kto;have h2:w.heap.size≤bto:=by omega
 replace hb:=hb.trans (hb2.mono hb.size);replace Kt:=Kt.below hb2;replace Kf:=Kf.below hb2;clear hz0 hb2;clear hg hz;refine Z.s ?_;clear Z;intro a Z;refine Af (G:=fun W=>wpOps _ _ _ _ _ W) ?_;obtain ⟨bl,hg⟩:∃ g,g=x.heap.size:=⟨_,rfl⟩;have hz0:=hb.size;intro x hz Kl hb2;rw [← hg] at Z Kl;have h3:w.heap.size≤bl:=by omega
 replace hb:=hb.trans (hb2.mono hb.size);replace Kt:=Kt.below hb2;replace Kf:=Kf.below hb2;replace Kto:=Kto.below hb2;clear hz0 hb2;clear hg hz;(iterate 3 refine Z.s ?_;clear Z;intro a Z);refine od ?_;refine wsr ?_;refine Z.s ?_;clear Z;intro a Z;refine og fun K hK =>?_
 unfold Oper.wp;go_simp;refine Xt.mono ?_;rintro e x ⟨rfl,hb2⟩;replace Kt:=Kt.below hb2;replace Kf:=Kf.below hb2;replace Kto:=Kto.below hb2;replace Kl:=Kl.below hb2;replace hb:=hb.trans (hb2.mono hb.size);clear hb2;refine Z.K hK ?_;clear Z hK;intro a Z;refine og fun K hK =>?_
 have e14:=Z.g 14;have e15:=Z.g 15;have hbe:=VH (PV (lim:=lim) (bt:=bt) (bf:=bf) (bto:=bto) (bl:=bl) (to_:=to_) (s:=s) hT hfr) (w0:=x) (fun V hV=>⟨⟨ht.below (hb.trans (hV.mono hb.size)),Kt.below hV,Kf.below hV,Kto.below hV⟩,Kl.below hV⟩) (fun l W=>by simp [invoke,go_sem]);unfold Oper.wp;go_simp;refine hbe.mono ?_;rintro e x2 ⟨hb2,hN,hS⟩;have hxx:=hb.size;replace hb:=hb.trans (hb2.mono hb.size);clear hb2 Kt Kf Kto Kl hbe;have hW:XV t from_ to_ lim=SL ((Fb t from_ to_).filter (JV lim)):=rfl;rw [← hW] at hN hS;clear hW;clear e14 e15
 cases hc:XV t from_ to_ lim with
 | none =>
  obtain rfl:=hN hc;clear hS hN hxx
  try simp only [Value.elem?]
  try refine ⟨_,rfl,?_⟩
  refine Z.K hK ?_;clear Z hK;intro a Z;obtain ⟨x,hx2⟩:∃ x,x=x2:=⟨_,rfl⟩;rw [← hx2] at hb ⊢;clear hx2;(iterate 3 refine Z.s ?_;clear Z;intro a Z);refine og fun K hK =>?_
  obtain ⟨bc,hg⟩:∃ b,b=x.heap.size:=⟨_,rfl⟩;unfold Oper.wp;go_simp;refine Z.K hK ?_;clear Z hK;intro a Z;refine og fun K hK =>?_
  have e11:=Z.g 11;have e17:=Z.g 17;unfold Oper.wp;go_simp;clear e11 e17;refine hK _ _ ?_;clear hK;have hbs:=hb.size;refine Af (G:=fun W=>wpOps _ _ _ _ _ W) ?_;intro x2 hz KC hb3;rw [← hg] at Z KC;replace hb:=hb.trans (hb3.mono hb.size)
  skip
  have hbc:w.heap.size≤bc:=by rw [hg];exact hbs
  clear hz hb3 hg hbs;obtain ⟨x,hx3⟩:∃ x,x=x2:=⟨_,rfl⟩;rw [← hx3] at hb KC ⊢;clear hx3;refine Z.s ?_;clear Z;intro a Z;refine od ?_;refine wp_seq ?_;refine wsr ?_;(iterate 2 refine Z.s ?_;clear Z;intro a Z);refine od ?_;refine wp_cond_true (Z.ev 20 rfl) ?_;refine wsr ?_;(iterate 3 refine Z.s ?_;clear Z;intro a Z);refine od ?_;refine wp_ret ?_
  try simp only [Exit.then,Exit.inBlock]
  refine bodyPost_ret (v := .tuple #[.slice none 0 0, .int .i64 0, .int .i64 11]) ?_ Z.defers ⟨hb,fun _=>rfl,fun c2 h2=>by rw [hc] at h2;simp at h2⟩;simp [results,Try.results96,Z.get 8 _ rfl,Z.get 9 _ rfl,Z.get 10 _ rfl]
 | some c =>
  obtain ⟨cv,rfl,hO,hnn,hl⟩:=hS c hc;clear hS hN;replace hO:=Bl.lower hO hxx;clear hxx;obtain ⟨ga,ca,hcv,_⟩:=Dz.sl hO hnn;subst hcv
  try simp only [Value.elem?]
  try refine ⟨_,rfl,?_⟩
  refine Z.K hK ?_;clear Z hK;intro a Z;obtain ⟨x,hx2⟩:∃ x,x=x2:=⟨_,rfl⟩;rw [← hx2] at hb ⊢ hO;clear hx2;(iterate 3 refine Z.s ?_;clear Z;intro a Z);refine og fun K hK =>?_
  obtain ⟨bc,hg⟩:∃ b,b=x.heap.size:=⟨_,rfl⟩;unfold Oper.wp;go_simp;refine Z.K hK ?_;clear Z hK;intro a Z;refine og fun K hK =>?_
  have e11:=Z.g 11;have e17:=Z.g 17;unfold Oper.wp;go_simp;clear e11 e17;refine hK _ _ ?_;clear hK;have hbs:=hb.size;refine Af (G:=fun W=>wpOps _ _ _ _ _ W) ?_;intro x2 hz KC hb3;rw [← hg] at Z KC;replace hb:=hb.trans (hb3.mono hb.size);replace hO:=hO.below hb3;have hbc:w.heap.size≤bc:=by rw [hg];exact hbs
  clear hz hb3 hg hbs;obtain ⟨x,hx3⟩:∃ x,x=x2:=⟨_,rfl⟩;rw [← hx3] at hb KC ⊢ hO;clear hx3;refine Z.s ?_;clear Z;intro a Z;refine od ?_;refine wp_seq ?_;refine wsr ?_;(iterate 2 refine Z.s ?_;clear Z;intro a Z);refine od ?_;refine wp_cond_false (Z.ev 20 rfl) ?_;refine wp_skip ?_;refine wp_seq ?_;replace KC:Rw x bc #[.slice (some ⟨ga,0,none⟩) c.way.length ca, .int .i64 c.coins, .int .i64 c.leagues] 149:=KC;rw [show Aa Try.f96 4=Code.region 4 _ true from rfl];refine DC (by kernel_rfl) ((Z.nil.cons (Z.get 11 _ rfl))) [some 21,some 22,some 23,some 24,some 8,some 9,some 10] rfl rfl (by kernel_rfl) (fun j v _=>match j with | 0=>v = .pointer (some ⟨bc,0,none⟩) | 1=>v = .slice (some ⟨ga,0,none⟩) c.way.length ca | 2=>v = .pointer (some ⟨bc,1,none⟩) | 3=>v = .int .i64 c.coins | 4=>v = .slice (some ⟨ga,0,none⟩) c.way.length ca | 5=>v = .int .i64 c.coins | 6=>v = .int .i64 0 | _=>True) (fun _ x=>Rw x bc #[.slice (some ⟨ga,0,none⟩) c.way.length ca, .int .i64 c.coins, .int .i64 c.leagues] 149∧Below w.heap.size w x∧Dz x w.heap.size (.slice (some ⟨ga,0,none⟩) c.way.length ca) c.way) (⟨KC.below (Below.refl _ _).drew,hb.trans ((Below.refl _ _).drew.mono hb.size),hO.below (Below.refl _ _).drew⟩) ?_ ?_
  ·clear Z;intro k o hkl ho L a x hI hLk Z hs hd;have hlt:∀ k:Nat,k < 7→k=0∨k=1∨k=2∨k=3∨k=4∨k=5∨k=6:=by decide
   rcases hlt k hkl with rfl | rfl | rfl | rfl | rfl | rfl | rfl
   ·obtain rfl:=Option.some.inj ho;have e11:=Z.g 11;clear hs hd;refine wg fun K hK =>?_
    unfold Oper.wp;go_simp;exact hK _ _ ⟨_,rfl,rfl,hI,fun _ _ h=>h⟩
   ·obtain rfl:=Option.some.inj ho;obtain ⟨_,e21,rfl⟩:=hs 0 _ 21 rfl rfl (hd 0 wm);have c0:=hI.1.cell (o:=0) rfl;clear hs hd;refine wg fun K hK =>?_
    unfold Oper.wp;go_simp;exact hK _ _ ⟨_,rfl,rfl,hI,fun _ _ h=>h⟩
   ·obtain rfl:=Option.some.inj ho;have e11:=Z.g 11;clear hs hd;refine wg fun K hK =>?_
    unfold Oper.wp;go_simp;exact hK _ _ ⟨_,rfl,rfl,hI,fun _ _ h=>h⟩
   ·obtain rfl:=Option.some.inj ho;obtain ⟨_,e23,rfl⟩:=hs 2 _ 23 rfl rfl (hd 2 wm);have c1:=hI.1.cell (o:=1) rfl;clear hs hd;refine wg fun K hK =>?_
    unfold Oper.wp;go_simp;exact hK _ _ ⟨_,rfl,rfl,hI,fun _ _ h=>h⟩
   ·obtain rfl:=Option.some.inj ho;obtain ⟨_,e22,rfl⟩:=hs 1 _ 22 rfl rfl (hd 1 wm);clear hs hd;refine wg fun K hK =>?_
    unfold Oper.wp;go_simp;exact hK _ _ ⟨_,rfl,rfl,hI,fun _ _ h=>h⟩
   ·obtain rfl:=Option.some.inj ho;obtain ⟨_,e24,rfl⟩:=hs 3 _ 24 rfl rfl (hd 3 wm);clear hs hd;refine wg fun K hK =>?_
    unfold Oper.wp;go_simp;exact hK _ _ ⟨_,rfl,rfl,hI,fun _ _ h=>h⟩
   ·obtain rfl:=Option.some.inj ho;clear hs hd;refine wg fun K hK =>?_
    unfold Oper.wp;go_simp;exact hK _ _ ⟨_,rfl,rfl,hI,fun _ _ h=>h⟩
  ·clear Z;intro L a x hall hI Z hs;obtain ⟨v8,e8,hv8⟩:=hs 4 _ 8 rfl rfl (hall 4 (by decide));obtain rfl:=hv8;obtain ⟨v9,e9,hv9⟩:=hs 5 _ 9 rfl rfl (hall 5 (by decide));obtain rfl:=hv9;obtain ⟨_,e10,rfl⟩:=hs 6 _ 10 rfl rfl (hall 6 (by decide));replace Z:=(((Z.cons e8).cons e9).cons e10);clear hs hall e8 e9 e10;refine wp_ret ?_
   try simp only [Exit.then,Exit.inBlock]
   obtain ⟨KC,hb,hO⟩:=hI;refine bodyPost_ret (v := .tuple #[.slice (some ⟨ga,0,none⟩) c.way.length ca, .int .i64 c.coins, .int .i64 0]) ?_ Z.defers ⟨hb,fun h=>by rw [hc] at h;simp at h,fun c2 h2=>by rw [hc] at h2;obtain rfl:=Option.some.inj h2;exact ⟨_,rfl,hO,hnn,hl⟩⟩;simp [results,Try.results96,Z.get 8 _ rfl,Z.get 9 _ rfl,Z.get 10 _ rfl]
def Fp (t:Ae) (from_ to_:Int):Int:=if Ap t=0 then (if (btw from_ 0 (t.roads.stages-1) && btw to_ 0 (t.roads.stages-1))=true then 0 else 3) else Ap t
def GG (t:Ae) (from_ to_:Int):Option BF×Int:=if Fp t from_ to_=0 then (XV t from_ to_ (-1),11) else (none,Fp t from_ to_)
theorem Y4 {t:Ae} {from_:Int} {way:List Int} (h:(Ci t from_ way).2=0):Ap t=0:=by
 rcases Classical.em (Ap t=0) with h1 | h1
 ·exact h1
 ·have:=(GR (from_:=from_) (way:=way)).1 h1;rw [this] at h;exact absurd h h1
theorem Py {t:Ae} {l:List A8} (h:Ea t l=0):Ap t=0:=by
 rcases Classical.em (Ap t=0) with h1 | h1
 ·exact h1
 ·rw [Gu.1 h1] at h;exact absurd h h1
theorem Gt {t:Ae} {l:List A8} (h:Ea t l=0):Dx t l∧l.length≤1000:=by
 have h1:=Py h;rcases Nat.lt_or_ge 24 l.length with h2 | h2
 ·rw [Gu.2.1 h1 h2] at h;exact absurd h (by decide)
 ·rw [Gu.2.2 h1 h2] at h;exact ⟨LH h,by omega⟩
theorem Xd {t:Ae} {from_ to_:Int} (h:Fp t from_ to_=0):Ap t=0∧btw from_ 0 (t.roads.stages-1)=true:=by
 unfold Fp at h
 split at h
 ·rename_i h1
  split at h
  ·rename_i h2;simp only [Bool.and_eq_true] at h2;exact ⟨h1,h2.1⟩
  ·exact absurd h (by decide)
 ·rename_i h1;exact absurd h h1
theorem Uj:Try.f95.body=some (Code.seq (Aa Try.f95 0) (Code.seq (Code.seq (Aa Try.f95 1) (Code.seq (Aa Try.f95 2) (Code.cond (Operand.tmp 11) (Code.seq (Aa Try.f95 3) Code.ret) Code.skip))) (Code.seq (Code.seq (Aa Try.f95 4) (Code.cond (Operand.tmp 28) (Code.seq (Aa Try.f95 5) Code.ret) Code.skip)) (Code.seq (Aa Try.f95 6) Code.ret)))):=by kernel_rfl
theorem YF {t:Ae} {s:Ef} {w:World} {from_ to_:Int} (ht:CV w t s):Calls Try.prog 95 #[.agg (ER t s), .int .i64 from_, .int .i64 to_] w (fun e w'=>e = .returned (.int .i64 (Fp t from_ to_))∧Below w.heap.size w w'):=by
 refine QT Try.func95 Uj Try.ntmps95 ?_;intro a Z;refine wsr ?_;refine Z.s ?_;clear Z;intro a Z;refine Af (G:=fun W=>wpOps _ _ _ _ _ W) ?_;intro x hz X hb;have hI:=TI.made (Below.refl _ _) ht X hb;obtain ⟨bt,hbt⟩:∃ b,b=w.heap.size:=⟨_,rfl⟩;rw [← hbt] at Z hI;clear hz X hb hbt;refine Z.s ?_;clear Z;intro a Z;refine od ?_;refine wp_seq ?_;refine wsr ?_;refine og fun K hK =>?_
 have e3:=Z.g 3;have c0:=hI.c0;have c1:=hI.c1;have c2:=hI.c2;have c3:=hI.c3;have c4:=hI.c4;have c5:=hI.c5;unfold Oper.wp;go_simp;clear e3;refine Z.K hK ?_;clear Z hK;intro a Z;refine og fun K hK =>?_
 have e8:=Z.g 8;unfold Oper.wp;go_simp;refine (Kz hI.tar).mono ?_;rintro e x ⟨rfl,hb⟩;replace hI:=hI.keep hb;clear hb;clear e8;refine Z.K hK ?_;clear Z hK;intro a Z;refine Z.s ?_;clear Z;intro a Z;refine od ?_;refine wsr ?_;refine Z.s ?_;clear Z;intro a Z
 by_cases h1:Ap t=0
 ·have hne:=C9 h1;refine Z.s ?_;clear Z;intro a Z;refine od ?_;refine wp_cond_false (Z.ev 11 rfl) ?_;refine wp_skip ?_;refine wp_seq ?_;refine wsr ?_;(iterate 3 refine Z.s ?_;clear Z;intro a Z);refine og fun K hK =>?_
  have e15:=Z.g 15;have c1:=hI.c1;unfold Oper.wp;go_simp;clear e15;refine Z.K hK ?_;clear Z hK;intro a Z;refine og fun K hK =>?_
  have e16:=Z.g 16;have hww:IntKind.i64.wrap (t.roads.stages-1)=t.roads.stages-1:=IntWalk.i64_in _ (by have:=Eh (AU h1).1;omega);unfold Oper.wp;go_simp;clear e16;refine Z.K hK ?_;clear Z hK;intro a Z;refine og fun K hK =>?_
  have e13:=Z.g 13;have e17:=Z.g 17;unfold Oper.wp;go_simp;refine (Bh _ _ _ _).mono ?_;rintro e x ⟨rfl,rfl⟩;clear e13 e17;refine Z.K hK ?_;clear Z hK;intro a Z;rcases Bool.eq_false_or_eq_true (btw from_ 0 (t.roads.stages-1)) with h2 | h2
  ·rw [h2] at Z;(iterate 2 refine Z.s ?_;clear Z;intro a Z);(iterate 3 refine Z.t ?_;clear Z;intro a Z);refine oW (Z.g 20) fun K hK =>?_
   have e23:=Z.g 23;have c1:=hI.c1;unfold Oper.wp;go_simp;clear e23;refine Z.K hK ?_;clear Z hK;intro a Z;refine oW (Z.g 20) fun K hK =>?_
   have e24:=Z.g 24;have hww:IntKind.i64.wrap (t.roads.stages-1)=t.roads.stages-1:=IntWalk.i64_in _ (by have:=Eh (AU h1).1;omega);unfold Oper.wp;go_simp;clear e24;refine Z.K hK ?_;clear Z hK;intro a Z;refine oW (Z.g 20) fun K hK =>?_
   have e21:=Z.g 21;have e25:=Z.g 25;unfold Oper.wp;go_simp;refine (Bh _ _ _ _).mono ?_;rintro e x ⟨rfl,rfl⟩;clear e21 e25;refine Z.K hK ?_;clear Z hK;intro a Z;rcases Bool.eq_false_or_eq_true (btw to_ 0 (t.roads.stages-1)) with h3 | h3
   ·rw [h3] at Z;refine Z.t ?_;clear Z;intro a Z;refine Z.s ?_;clear Z;intro a Z;refine od ?_;refine wp_cond_false (Z.ev 28 rfl) ?_;refine wp_skip ?_;refine wsr ?_;refine Z.s ?_;clear Z;intro a Z;refine od ?_;refine wp_ret ?_
    try simp only [Exit.then,Exit.inBlock]
    have hR:=Lib.hid (show Fp t from_ to_=0 from by unfold Fp;rw [if_pos h1,if_pos (by rw [h2,h3];rfl)]);refine bodyPost_ret (v := .int .i64 (Fp t from_ to_)) ?_ Z.defers ⟨rfl,hI.below⟩;rw [hR.out];simp [results,Try.results95,Z.get 6 _ rfl]
   ·rw [h3] at Z;refine Z.t ?_;clear Z;intro a Z;refine Z.s ?_;clear Z;intro a Z;refine od ?_;refine wp_cond_true (Z.ev 28 rfl) ?_;refine wsr ?_;refine Z.s ?_;clear Z;intro a Z;refine od ?_;refine wp_ret ?_
    try simp only [Exit.then,Exit.inBlock]
    have hR:=Lib.hid (show Fp t from_ to_=3 from by unfold Fp;rw [if_pos h1,if_neg (by rw [h2,h3];decide)]);refine bodyPost_ret (v := .int .i64 (Fp t from_ to_)) ?_ Z.defers ⟨rfl,hI.below⟩;rw [hR.out];simp [results,Try.results95,Z.get 6 _ rfl]
  ·rw [h2] at Z;(iterate 2 refine Z.s ?_;clear Z;intro a Z);refine Z.z ?_;clear Z;intro a Z;refine Z.z ?_;clear Z;intro a Z;refine Z.z ?_;clear Z;intro a Z;refine Z.z ?_;clear Z;intro a Z;refine Z.z ?_;clear Z;intro a Z;refine Z.z ?_;clear Z;intro a Z;refine Z.z ?_;clear Z;intro a Z;refine Z.s ?_;clear Z;intro a Z;refine od ?_;refine wp_cond_true (Z.ev 28 rfl) ?_;refine wsr ?_;refine Z.s ?_;clear Z;intro a Z;refine od ?_;refine wp_ret ?_
   try simp only [Exit.then,Exit.inBlock]
   have hR:=Lib.hid (show Fp t from_ to_=3 from by unfold Fp;rw [if_pos h1,if_neg (by rw [h2];simp)]);refine bodyPost_ret (v := .int .i64 (Fp t from_ to_)) ?_ Z.defers ⟨rfl,hI.below⟩;rw [hR.out];simp [results,Try.results95,Z.get 6 _ rfl]
 ·have hne:=DL h1;have hR:=Lib.hid (show Fp t from_ to_=Ap t from if_neg h1);refine Z.s ?_;clear Z;intro a Z;refine od ?_;refine wp_cond_true (Z.ev 11 rfl) ?_;refine wsr ?_;(iterate 2 refine Z.s ?_;clear Z;intro a Z);refine od ?_;refine wp_ret ?_
  try simp only [Exit.then,Exit.inBlock]
  refine bodyPost_ret (v := .int .i64 (Fp t from_ to_)) ?_ Z.defers ⟨rfl,hI.below⟩;rw [hR.out];simp [results,Try.results95,Z.get 6 _ rfl]
theorem NJ:Try.f48.body=some (Code.seq (Aa Try.f48 0) (Code.seq (Code.seq (Aa Try.f48 1) (Code.seq (Aa Try.f48 2) (Code.cond (Operand.tmp 15) (Code.seq (Aa Try.f48 3) Code.ret) Code.skip))) (Code.seq (Aa Try.f48 4) Code.ret))):=by kernel_rfl
theorem IG {t:Ae} {s:Ef} {w:World} {from_ to_:Int} (ht:CV w t s):Calls Try.prog 48 #[.agg (ER t s), .int .i64 from_, .int .i64 to_] w (TV w (GG t from_ to_).1 (GG t from_ to_).2):=by
 refine QT Try.func48 NJ Try.ntmps48 ?_;intro a Z;refine wsr ?_;refine Z.s ?_;clear Z;intro a Z;refine Af (G:=fun W=>wpOps _ _ _ _ _ W) ?_;intro x hz X hb;have hI:=TI.made (Below.refl _ _) ht X hb;obtain ⟨bt,hbt⟩:∃ b,b=w.heap.size:=⟨_,rfl⟩;rw [← hbt] at Z hI;clear hz X hb hbt;(iterate 3 refine Z.s ?_;clear Z;intro a Z);refine od ?_;refine wp_seq ?_;refine wsr ?_;refine og fun K hK =>?_
 have e3:=Z.g 3;have c0:=hI.c0;have c1:=hI.c1;have c2:=hI.c2;have c3:=hI.c3;have c4:=hI.c4;have c5:=hI.c5;unfold Oper.wp;go_simp;clear e3;refine Z.K hK ?_;clear Z hK;intro a Z;(iterate 2 refine Z.s ?_;clear Z;intro a Z);refine og fun K hK =>?_
 have e10:=Z.g 10;have e11:=Z.g 11;have e12:=Z.g 12;unfold Oper.wp;go_simp;refine (YF hI.tar).mono ?_;rintro e x ⟨rfl,hb⟩;replace hI:=hI.keep hb;clear hb;clear e10 e11 e12;refine Z.K hK ?_;clear Z hK;intro a Z;refine Z.s ?_;clear Z;intro a Z;refine od ?_;refine wsr ?_;refine Z.s ?_;clear Z;intro a Z
 by_cases h1:Fp t from_ to_=0
 ·have HE:=Lib.hid h1;have hne:=C9 h1;clear h1;refine Z.s ?_;clear Z;intro a Z;refine od ?_;refine wp_cond_false (Z.ev 15 rfl) ?_;refine wp_skip ?_;refine wsr ?_;refine og fun K hK =>?_
  have e3:=Z.g 3;have c0:=hI.c0;have c1:=hI.c1;have c2:=hI.c2;have c3:=hI.c3;have c4:=hI.c4;have c5:=hI.c5;unfold Oper.wp;go_simp;clear e3;refine Z.K hK ?_;clear Z hK;intro a Z;(iterate 2 refine Z.s ?_;clear Z;intro a Z);refine og fun K hK =>?_
  have e17:=Z.g 17;have e18:=Z.g 18;have e19:=Z.g 19;unfold Oper.wp;go_simp;refine (Ua (to_:=to_) (lim:=(-1)) hI.tar (Xd HE.out).1 (Xd HE.out).2).mono ?_;rintro e x2 ⟨hb2,hN,hS⟩;have hxx:=hI.below.size;replace hI:=hI.keep hb2;clear hb2 e17 e18 e19
  cases hc:XV t from_ to_ (-1) with
  | none =>
   obtain rfl:=hN hc;clear hS hN;clear hxx
   try refine ⟨_,rfl,?_⟩
   refine Z.K hK ?_;clear Z hK;intro a Z;obtain ⟨x,hx2⟩:∃ x,x=x2:=⟨_,rfl⟩;rw [← hx2] at hI ⊢;clear hx2;(iterate 6 refine Z.s ?_;clear Z;intro a Z);refine od ?_;refine wp_ret ?_
   try simp only [Exit.then,Exit.inBlock]
   have hR:=Lib.hid (show GG t from_ to_=(none,11) from by unfold GG;rw [if_pos HE.out,hc]);rw [hR.out];refine bodyPost_ret (v := .tuple #[.slice none 0 0, .int .i64 0, .int .i64 11]) ?_ Z.defers ⟨hI.below,fun _=>rfl,fun c2 h2=>by simp at h2⟩;simp [results,Try.results48,Z.get 6 _ rfl,Z.get 7 _ rfl,Z.get 8 _ rfl]
  | some c =>
   obtain ⟨cv,rfl,hO,hnn,hl⟩:=hS c hc;clear hS hN;replace hO:=Bl.lower hO hxx;clear hxx
   try refine ⟨_,rfl,?_⟩
   refine Z.K hK ?_;clear Z hK;intro a Z;obtain ⟨x,hx2⟩:∃ x,x=x2:=⟨_,rfl⟩;rw [← hx2] at hI ⊢ hO;clear hx2;(iterate 6 refine Z.s ?_;clear Z;intro a Z);refine od ?_;refine wp_ret ?_
   try simp only [Exit.then,Exit.inBlock]
   have hR:=Lib.hid (show GG t from_ to_=(some c,11) from by unfold GG;rw [if_pos HE.out,hc]);rw [hR.out];refine bodyPost_ret (v := .tuple #[cv, .int .i64 c.coins, .int .i64 0]) ?_ Z.defers ⟨hI.below,fun h=>by simp at h,fun c2 h2=>by obtain rfl:=Option.some.inj h2;exact ⟨_,rfl,hO,hnn,hl⟩⟩;simp [results,Try.results48,Z.get 6 _ rfl,Z.get 7 _ rfl,Z.get 8 _ rfl]
 ·have HE:=Lib.hid h1;have hne:=DL h1;clear h1;refine Z.s ?_;clear Z;intro a Z;refine od ?_;refine wp_cond_true (Z.ev 15 rfl) ?_;refine wsr ?_;(iterate 4 refine Z.s ?_;clear Z;intro a Z);refine od ?_;refine wp_ret ?_
  try simp only [Exit.then,Exit.inBlock]
  have hR:=Lib.hid (show GG t from_ to_=(none,Fp t from_ to_) from by unfold GG;rw [if_neg HE.out]);rw [hR.out];refine bodyPost_ret (v := .tuple #[.slice none 0 0, .int .i64 0, .int .i64 (Fp t from_ to_)]) ?_ Z.defers ⟨hI.below,fun _=>rfl,fun c2 h2=>by simp at h2⟩;simp [results,Try.results48,Z.get 6 _ rfl,Z.get 7 _ rfl,Z.get 8 _ rfl]
theorem Qc:Try.f35.body=some (Code.seq (Aa Try.f35 0) (Code.seq (Aa Try.f35 1) Code.ret)):=by kernel_rfl
theorem Vl {t:Ae} {s:Ef} {w:World} {from_:Int} {way:List Int} {wa:Option Addr} {wc:Nat} (ht:CV w t s) (hw:Aq w wa way) (hwc:way.length≤wc) (hwl:way.length≤1000000):Calls Try.prog 35 #[.agg (ER t s), .int .i64 from_, .slice wa way.length wc] w (Q8 w t from_ way):=by
 refine QT Try.func35 Qc Try.ntmps35 ?_;intro a Z;refine wsr ?_;refine Z.s ?_;clear Z;intro a Z;refine Af (G:=fun W=>wpOps _ _ _ _ _ W) ?_;intro x hz X hb;have hI:=TI.made (Below.refl _ _) ht X hb;obtain ⟨bt,hbt⟩:∃ b,b=w.heap.size:=⟨_,rfl⟩;rw [← hbt] at Z hI;clear hz X hb hbt;(iterate 2 refine Z.s ?_;clear Z;intro a Z);refine od ?_;refine wsr ?_;refine og fun K hK =>?_
 have e3:=Z.g 3;have c0:=hI.c0;have c1:=hI.c1;have c2:=hI.c2;have c3:=hI.c3;have c4:=hI.c4;have c5:=hI.c5;unfold Oper.wp;go_simp;clear e3;refine Z.K hK ?_;clear Z hK;intro a Z;(iterate 2 refine Z.s ?_;clear Z;intro a Z);refine og fun K hK =>?_
 have e8:=Z.g 8;have e9:=Z.g 9;have e10:=Z.g 10;unfold Oper.wp;go_simp;refine (Nw hI.tar (hw.below hI.below) hwc hwl).mono ?_;rintro e x ⟨hb,va,rfl,hO,hnil⟩;have hxx:=hI.below.size;replace hO:=Bl.lower hO hxx;clear hxx;replace hI:=hI.keep hb;clear hb;clear e8 e9 e10;refine Z.K hK ?_;clear Z hK;intro a Z;(iterate 4 refine Z.s ?_;clear Z;intro a Z);refine od ?_;refine wp_ret ?_
 try simp only [Exit.then,Exit.inBlock]
 refine bodyPost_ret (v := .tuple #[va, .int .i64 (Ci t from_ way).2]) ?_ Z.defers ⟨hI.below,va,rfl,hO,hnil⟩;simp [results,Try.results35,Z.get 6 _ rfl,Z.get 7 _ rfl]
end
section
open Go.RowKit
structure AaJ where
 owner:Int
 coins:Int
def Zr (w:World) (a:Option Addr) (l:List AaJ):Prop :=
 l=[]∨∃ b o,a=some ⟨b,o,none⟩∧∀ (i:Nat) (h:i < l.length),w.cell? ⟨b,o+i*2,none⟩=some (.int .i64 l[i].owner)∧w.cell? ⟨b,o+i*2+1,none⟩=some (.int .i64 l[i].coins)
theorem Zr.at {w:World} {a:Option Addr} {l:List AaJ} (h:Zr w a l) {i:Nat} (hi:i < l.length):∃ b o,a=some ⟨b,o,none⟩∧w.cell? ⟨b,o+i*2,none⟩=some (.int .i64 l[i].owner)∧w.cell? ⟨b,o+i*2+1,none⟩=some (.int .i64 l[i].coins):=by
 rcases h with rfl | ⟨b,o,ha,h⟩
 ·simp at hi
 ·exact ⟨b,o,ha,h i hi⟩
def NZ (l:List Int):Array Value:=(l.map fun x=>Value.int .i64 x).toArray
theorem QF {l:List Int} {i:Nat} (h:i < l.length):(NZ l)[i]? = some (.int .i64 l[i]):=by simp [NZ,h]
end
section
open Go.RowKit
theorem UN:Try.f28.body=some (Code.seq (Aa Try.f28 0) (Code.seq (Code.seq (Aa Try.f28 1) (Code.cond (Operand.tmp 10) (Code.seq (Aa Try.f28 2) Code.ret) Code.skip)) (Code.seq (Code.seq (Aa Try.f28 3) (Code.block 0 (Code.loop (Code.seq (Code.seq (Aa Try.f28 4) (Code.cond (Operand.tmp 14) Code.skip (Code.exit 0))) (Code.seq (Code.block 1 (Code.seq (Aa Try.f28 6) (Code.cond (Operand.tmp 25) (Code.seq (Aa Try.f28 7) Code.ret) Code.skip))) (Aa Try.f28 5)))))) (Code.seq (Aa Try.f28 8) Code.ret)))):=by kernel_rfl
theorem Qm {w:World} {la lb:Option Addr} {ca cb:Nat} {l m:List Int} (ha:Aq w la l) (hb:Aq w lb m) (hn:l.length≤1000000):Calls Try.prog 28 #[.slice la l.length ca, .slice lb m.length cb] w (fun e w'=>e = .returned (.bool (decide (l=m)))∧Below w.heap.size w w'):=by
 refine L9 Try.func28 UN Try.ntmps28 ?_;intro a Z;refine wsr ?_;refine Z.s ?_;clear Z;intro a Z;refine od ?_;refine wp_seq ?_;refine wsr ?_;(iterate 4 refine Z.s ?_;clear Z;intro a Z)
 by_cases hne:l.length=m.length
 ·have q0:((l.length:Int) != (m.length:Int))=false:=by simp [hne]
  have HN:=Lib.hid hne;clear hne;refine Z.s ?_;clear Z;intro a Z;refine od ?_;refine wp_cond_false (Z.ev 10 rfl) ?_;refine wp_skip ?_;refine wp_seq ?_;refine wsr ?_;refine Z.s ?_;clear Z;intro a Z;refine od ?_;refine wp_block ?_;have hb1:=Below.refl w.heap.size w;refine wp_loop_ghost (fun n p x=>∃ k:Nat,k+n=l.length∧l.take k=m.take k∧Sl p 26 [(5, .int .i64 (k:Int)),(0, .slice la l.length ca),(1, .slice lb m.length cb)]∧Below w.heap.size w x) (l.length) ⟨0,by omega,rfl,Z.sb,hb1⟩ ?_;clear Z hb1;rintro n a x ⟨k,hkn,hT,Z,hb1⟩;have HT:=Lib.hid hT;clear hT;refine wp_seq ?_;refine wsr ?_;(iterate 3 refine Z.s ?_;clear Z;intro a Z)
  by_cases hlt:k < l.length
  ·have q1:(k:Int) < (l.length:Int):=by omega
   have hlm:k < m.length:=by rw [← HN.out];exact hlt
   have q3:(k:Int) < (m.length:Int):=by omega
   obtain ⟨b,o,rfl,hc⟩:=(ha.below hb1).at hlt;obtain ⟨b2,o2,rfl,hc2⟩:=(hb.below hb1).at hlm;refine Z.s ?_;clear Z;intro a Z;refine od ?_;refine wp_cond_true (Z.ev 14 rfl) ?_;refine wp_skip ?_;refine wp_seq ?_;refine wp_block ?_;refine wp_seq ?_;refine OZ rfl (by kernel_rfl) (by kernel_rfl) ?_;(iterate 3 refine Z.u ?_;clear Z;intro a Z);refine Z.q rfl rfl rfl (by decide) ⟨?_,fun y hy K hK =>?_,?_⟩;rotate_left
   ·have e19:=Z.g 19;replace hb1:=hb1.trans (hy.mono hb1.size);replace hc:=BC hy hc;replace hc2:=BC hy hc2;unfold Oper.FV;go_simp;exact hK
   clear Z;intro a Z;(iterate 3 refine Z.u ?_;clear Z;intro a Z);refine Z.q rfl rfl rfl (by decide) ⟨?_,fun y hy K hK =>?_,?_⟩;rotate_left
   ·have e23:=Z.g 23;replace hb1:=hb1.trans (hy.mono hb1.size);replace hc:=BC hy hc;replace hc2:=BC hy hc2;unfold Oper.FV;go_simp;exact hK
   clear Z;intro a Z
   by_cases he:l[k]=m[k]
   ·have q2:(l[k] != m[k])=false:=by simp [he]
    have HE:=Lib.hid he;clear he;refine Z.u ?_;clear Z;intro a Z;refine JM ?_;intro x hb2;replace hb1:=hb1.trans (hb2.mono hb1.size);replace hc:=BC hb2 hc;replace hc2:=BC hb2 hc2;clear hb2;refine wp_cond_false (Z.ev 25 rfl) ?_;refine wp_skip ?_;refine wr ?_;refine Z.s ?_;clear Z;intro a Z;refine og fun K hK =>?_
    have e15:=Z.g 15;have hw:=Ba k (by omega);unfold Oper.wp;go_simp;clear e15;refine Z.K hK ?_;clear Z hK;intro a Z;refine Z.s ?_;clear Z;intro a Z;refine od ?_;exact ⟨n-1,by omega,k+1,by omega,by rw [List.take_succ_eq_append_getElem hlt,List.take_succ_eq_append_getElem hlm,HT.out,HE.out],Z.sb,hb1⟩
   ·have q2:(l[k] != m[k])=true:=by simp [he]
    have HE:=Lib.hid he;clear he;refine Z.u ?_;clear Z;intro a Z;refine JM ?_;intro x hb2;replace hb1:=hb1.trans (hb2.mono hb1.size);replace hc:=BC hb2 hc;replace hc2:=BC hb2 hc2;clear hb2;refine wp_cond_true (Z.ev 25 rfl) ?_;refine wsr ?_;refine Z.s ?_;clear Z;intro a Z;refine od ?_;refine wp_ret ?_
    try simp only [Exit.then,Exit.inBlock]
    have HR:=Lib.hid (show decide (l=m)=false from decide_eq_false (fun h=>HE.out (by simp only [h])));rw [HR.out];refine bodyPost_ret (v := .bool false) ?_ Z.defers ⟨rfl,hb1⟩;simp [results,Try.results28,Z.get 4 _ rfl]
  ·have q1:¬ (k:Int) < (l.length:Int):=by omega
   obtain rfl:k=l.length:=by omega
   refine Z.s ?_;clear Z;intro a Z;refine od ?_;refine wp_cond_false (Z.ev 14 rfl) ?_;refine wp_exit ?_;refine wsr ?_;refine Z.s ?_;clear Z;intro a Z;refine od ?_;refine wp_ret ?_
   try simp only [Exit.then,Exit.inBlock]
   have HR:=Lib.hid (show decide (l=m)=true from decide_eq_true (by rw [← List.take_length (l:=l),HT.out,HN.out,List.take_length]));rw [HR.out];refine bodyPost_ret (v := .bool true) ?_ Z.defers ⟨rfl,hb1⟩;simp [results,Try.results28,Z.get 4 _ rfl]
 ·have q0:((l.length:Int) != (m.length:Int))=true:=by simp;omega
  refine Z.s ?_;clear Z;intro a Z;refine od ?_;refine wp_cond_true (Z.ev 10 rfl) ?_;refine wsr ?_;refine Z.s ?_;clear Z;intro a Z;refine od ?_;refine wp_ret ?_
  try simp only [Exit.then,Exit.inBlock]
  have HR:=Lib.hid (show decide (l=m)=false from decide_eq_false (fun h=>by rw [h] at q0;simp at q0));rw [HR.out];refine bodyPost_ret (v := .bool false) ?_ Z.defers ⟨rfl,Below.refl _ _⟩;simp [results,Try.results28,Z.get 4 _ rfl]
theorem Abu {α:Type} {p q r:Prop} [Decidable p] [Decidable q] [Decidable r] {A B:α} (h:p→q→r→False):(if p then if q then if r then A else B else B else B)=B:=by
 by_cases hp:p
 ·by_cases hq:q
  ·rw [if_pos hp,if_pos hq,if_neg (fun hr=>h hp hq hr)]
  ·rw [if_pos hp,if_neg hq]
 ·rw [if_neg hp]
theorem A8.Abv {x y:A8} (h0:x.toll=y.toll) (h1:x.owner=y.owner) (h2:x.heads=y.heads):x=y:=by cases x;cases y;simp_all
theorem Si:Try.f41.body=some (Code.seq (Aa Try.f41 0) (Code.seq (Code.seq (Aa Try.f41 1) (Code.cond (Operand.tmp 10) (Code.seq (Aa Try.f41 2) Code.ret) Code.skip)) (Code.seq (Code.seq (Aa Try.f41 3) (Code.block 0 (Code.loop (Code.seq (Code.seq (Aa Try.f41 4) (Code.cond (Operand.tmp 14) Code.skip (Code.exit 0))) (Code.seq (Code.block 1 (Code.seq (Aa Try.f41 6) (Code.cond (Operand.tmp 25) (Code.seq (Aa Try.f41 7) Code.ret) Code.skip))) (Aa Try.f41 5)))))) (Code.seq (Aa Try.f41 8) Code.ret)))):=by kernel_rfl
theorem VT {w:World} {la lb:Option Addr} {ca cb:Nat} {l m:List A8} (ha:GV w la l) (hb:GV w lb m) (hn:l.length≤1000000):Calls Try.prog 41 #[.slice la l.length ca, .slice lb m.length cb] w (fun e w'=>e = .returned (.bool (decide (l=m)))∧Below w.heap.size w w'):=by
 refine L9 Try.func41 Si Try.ntmps41 ?_;intro a Z;refine wsr ?_;refine Z.s ?_;clear Z;intro a Z;refine od ?_;refine wp_seq ?_;refine wsr ?_;(iterate 4 refine Z.s ?_;clear Z;intro a Z)
 by_cases hne:l.length=m.length
 ·have q0:((l.length:Int) != (m.length:Int))=false:=by simp [hne]
  have HN:=Lib.hid hne;clear hne;refine Z.s ?_;clear Z;intro a Z;refine od ?_;refine wp_cond_false (Z.ev 10 rfl) ?_;refine wp_skip ?_;refine wp_seq ?_;refine wsr ?_;refine Z.s ?_;clear Z;intro a Z;refine od ?_;refine wp_block ?_;have hb1:=Below.refl w.heap.size w;refine wp_loop_ghost (fun n p x=>∃ k:Nat,k+n=l.length∧l.take k=m.take k∧Sl p 26 [(5, .int .i64 (k:Int)),(0, .slice la l.length ca),(1, .slice lb m.length cb)]∧Below w.heap.size w x) (l.length) ⟨0,by omega,rfl,Z.sb,hb1⟩ ?_;clear Z hb1;rintro n a x ⟨k,hkn,hT,Z,hb1⟩;have HT:=Lib.hid hT;clear hT;refine wp_seq ?_;refine wsr ?_;(iterate 3 refine Z.s ?_;clear Z;intro a Z)
  by_cases hlt:k < l.length
  ·have q1:(k:Int) < (l.length:Int):=by omega
   have hlm:k < m.length:=by rw [← HN.out];exact hlt
   have q3:(k:Int) < (m.length:Int):=by omega
   obtain ⟨b,o,rfl,c0,c1,c2⟩:=(ha.below hb1).at hlt;obtain ⟨b2,o2,rfl,d0,d1,d2⟩:=(hb.below hb1).at hlm;simp only [RX] at c0 c1 c2 d0 d1 d2;refine Z.s ?_;clear Z;intro a Z;refine od ?_;refine wp_cond_true (Z.ev 14 rfl) ?_;refine wp_skip ?_;refine wp_seq ?_;refine wp_block ?_;refine wp_seq ?_;refine OZ rfl (by kernel_rfl) (by kernel_rfl) ?_;(iterate 3 refine Z.u ?_;clear Z;intro a Z);refine Z.q rfl rfl rfl (by decide) ⟨?_,fun y hy K hK =>?_,?_⟩;rotate_left
   ·have e19:=Z.g 19;replace hb1:=hb1.trans (hy.mono hb1.size);replace c0:=BC hy c0;replace c1:=BC hy c1;replace c2:=BC hy c2;replace d0:=BC hy d0;replace d1:=BC hy d1;replace d2:=BC hy d2;unfold Oper.FV;go_simp;exact hK
   clear Z;intro a Z;(iterate 3 refine Z.u ?_;clear Z;intro a Z);refine Z.q rfl rfl rfl (by decide) ⟨?_,fun y hy K hK =>?_,?_⟩;rotate_left
   ·have e23:=Z.g 23;replace hb1:=hb1.trans (hy.mono hb1.size);replace c0:=BC hy c0;replace c1:=BC hy c1;replace c2:=BC hy c2;replace d0:=BC hy d0;replace d1:=BC hy d1;replace d2:=BC hy d2;unfold Oper.FV;go_simp;exact hK
   clear Z;intro a Z
   by_cases he:l[k]=m[k]
   ·have HE:=Lib.hid he;rw [he] at Z;clear he;refine Z.u ?_;clear Z;intro a Z;refine JM ?_;intro x hb2;replace hb1:=hb1.trans (hb2.mono hb1.size);replace c0:=BC hb2 c0;replace c1:=BC hb2 c1;replace c2:=BC hb2 c2;replace d0:=BC hb2 d0;replace d1:=BC hb2 d1;replace d2:=BC hb2 d2;clear hb2;refine wp_cond_false (Z.ev 25 rfl) ?_;refine wp_skip ?_;refine wr ?_;refine Z.s ?_;clear Z;intro a Z;refine og fun K hK =>?_
    have e15:=Z.g 15;have hw:=Ba k (by omega);unfold Oper.wp;go_simp;clear e15;refine Z.K hK ?_;clear Z hK;intro a Z;refine Z.s ?_;clear Z;intro a Z;refine od ?_;exact ⟨n-1,by omega,k+1,by omega,by rw [List.take_succ_eq_append_getElem hlt,List.take_succ_eq_append_getElem hlm,HT.out,HE.out],Z.sb,hb1⟩
   ·have HE:=Lib.hid he;clear he;refine Z.q rfl rfl rfl (by decide) ⟨?_,fun y hy K hK =>?_,?_⟩;rotate_left
    ·have e20:=Z.g 20;have e24:=Z.g 24;unfold Oper.FV;go_simp;rw [Abu (fun h0 h1 h2=>HE.out (A8.Abv h0 h1 h2))];refine ⟨rfl,?_⟩;exact hK
    clear Z;intro a Z;refine JM ?_;intro x hb2;replace hb1:=hb1.trans (hb2.mono hb1.size);replace c0:=BC hb2 c0;replace c1:=BC hb2 c1;replace c2:=BC hb2 c2;replace d0:=BC hb2 d0;replace d1:=BC hb2 d1;replace d2:=BC hb2 d2;clear hb2;refine wp_cond_true (Z.ev 25 rfl) ?_;refine wsr ?_;refine Z.s ?_;clear Z;intro a Z;refine od ?_;refine wp_ret ?_
    try simp only [Exit.then,Exit.inBlock]
    have HR:=Lib.hid (show decide (l=m)=false from decide_eq_false (fun h=>HE.out (by simp only [h])));rw [HR.out];refine bodyPost_ret (v := .bool false) ?_ Z.defers ⟨rfl,hb1⟩;simp [results,Try.results41,Z.get 4 _ rfl]
  ·have q1:¬ (k:Int) < (l.length:Int):=by omega
   obtain rfl:k=l.length:=by omega
   refine Z.s ?_;clear Z;intro a Z;refine od ?_;refine wp_cond_false (Z.ev 14 rfl) ?_;refine wp_exit ?_;refine wsr ?_;refine Z.s ?_;clear Z;intro a Z;refine od ?_;refine wp_ret ?_
   try simp only [Exit.then,Exit.inBlock]
   have HR:=Lib.hid (show decide (l=m)=true from decide_eq_true (by rw [← List.take_length (l:=l),HT.out,HN.out,List.take_length]));rw [HR.out];refine bodyPost_ret (v := .bool true) ?_ Z.defers ⟨rfl,hb1⟩;simp [results,Try.results41,Z.get 4 _ rfl]
 ·have q0:((l.length:Int) != (m.length:Int))=true:=by simp;omega
  refine Z.s ?_;clear Z;intro a Z;refine od ?_;refine wp_cond_true (Z.ev 10 rfl) ?_;refine wsr ?_;refine Z.s ?_;clear Z;intro a Z;refine od ?_;refine wp_ret ?_
  try simp only [Exit.then,Exit.inBlock]
  have HR:=Lib.hid (show decide (l=m)=false from decide_eq_false (fun h=>by rw [h] at q0;simp at q0));rw [HR.out];refine bodyPost_ret (v := .bool false) ?_ Z.defers ⟨rfl,Below.refl _ _⟩;simp [results,Try.results41,Z.get 4 _ rfl]
end
section
open Go Go.Conc
open Go.RowKit
section
variable {P:Program} {M:Machine} {ops:Array Oper} {Q:Exit→Act→World→Prop} {i:Nat} {rest:List Nat} {o:Oper} {a:Act} {w:World} {n d:Nat} {m:List (Nat×Value)} {v:Value}
theorem Az {id:Nat} (h:Ll Q):Ll (Exit.inBlock id Q):=fun a w hx=>h a w hx
theorem KL {fn:Func} {R:Ending→World→Prop} (h:∀ w,¬ R .outgrown w):Ll (bodyPost P fn R):=fun _ w hx=>h w hx
theorem Sl.kX (h:Sl a n m) {K:Act→World→Prop} (hK:∀ a w,Ky P M ops Q rest a w→K a w) (hd:d < n) (hG:∀ a',Sl a' n ((d,v) :: m)→Ky P M ops Q rest a' w):K (a.put (some d) v) w:=hK _ _ (hG _ (h.put d v hd))
theorem Sl.goX (h:Sl a n m) (hd:d < n) (hG:∀ a',Sl a' n ((d,v) :: m)→Ky P M ops Q rest a' w):Ky P M ops Q rest (a.put (some d) v) w:=hG _ (h.put d v hd)
theorem D8 {k:Nat} {b:Bool} {ok:Oper} {t:Nat} (ho:ops[i]? = some o) (hg:o.guard=some (k,b)) (hk:ops[k]? = some ok) (ht:ok.dst=some t) (hv:a.tmps[t]? = some (.bool b))
  (h:∀ K:Act→World→Prop,(∀ a w,Ky P M ops Q rest a w→K a w)→o.wp P a w K Q):Ky P M ops Q (i :: rest) a w:=by
 rw [Ky,ho];simp only [Region.wanted,hg,yielded,hk,Option.bind_some,ht,hv,beq_self_eq_true,if_true];exact .inr (h _ fun _ _ h=>h)
theorem Wi {fc:FuncId} {F:Func} {ars:Array Operand} {ats:Array TypeId} (ho:ops[i]? = some o) (hg:o.guard=none) (hop:o.op = .call { callee := .value (.func fc),args:=ars,argTypes:=ats })
  (hF:P.funcs[fc]? = some F) (hname:(F.name == "runtime.NumGoroutine")=false) (hbody:F.body.isNone=false) {args:Array Value} (ha:ars.map a.eval=args) {R:Ending→World→Prop} (hc:D5 P M fc args w R)
  (h:∀ e w'',R e w''→∃ v,e = .returned v∧Ky P M ops Q rest (a.put o.dst v) w''):Ky P M ops Q (i :: rest) a w:=by
 have hr:=Iw (P:=P) (w:=w) (a:=a) hop rfl hF hname hbody;refine Wj ho hg (f:=fc) (args:=args) (w':=w) ?_ hc h;rw [hr,← ha];simp
theorem Rj (hP:Ey P) {f:Func} {k id:Nat} (hno:Ll Q) (e:Aa f k=Code.region id ops false) (h:Ky P M ops Q (List.range ops.size) a w):wpX P M (Aa f k) Q a w:=by
 rw [e];exact Oh hP hno h
end
theorem Z8 {t:Ae} {l:List A8} {qs:List ((Int×Int)×Int)} (hq:∀ key,(atK qs key).getD 0=Bv l key) (o i:Nat):atV t.Ac t.Ah qs o i=atL t l o i:=by unfold atV atL;rw [hq]
theorem Xi {t:Ae} {l:List A8} {qs:List ((Int×Int)×Int)} (hq:∀ key,(atK qs key).getD 0=Bv l key) (o:Nat):Zm t.Ac t.Ah qs o=Jn t l o:=by
 unfold Zm Jn OE;rw [show atV t.Ac t.Ah qs o=atL t l o from funext fun i=>Z8 hq o i]
theorem Ii.c {w:World} {bd mb:Nat} {t:Ae} {s:Ef} {l:List A8} (hT:CV w t s) (hD:Ii w bd mb t s l) (ho:Ea t l=0) :
  ∃ q pb po pc tb to_ tc clock ents,NC w.heap.size w bd t.Ac t.Ah q pb po pc tb to_ tc mb clock ents∧∀ key,(atK q key).getD 0=Bv l key:=by
 have hck:=Py ho;have hF:=Fq.of hck (Gt ho).1 (Gt ho).2;obtain ⟨_,_,_,hp1,_⟩:=AU hck;obtain ⟨qs,hm,hq⟩:=hD.map;have d4:=hD.kd.cell (o:=4) rfl;have d5:=hD.kd.cell (o:=5) rfl;have d6:=hD.kd.cell (o:=6) rfl
 change w.cell? _=some (.slice s.pa t.Ac.length s.pc) at d4
 change w.cell? _=some (.slice s.ta t.Ah.length s.tc) at d5
 change w.cell? _=some (.map (some mb)) at d6
 obtain ⟨pb,po,hpa,_,_,_⟩:=hT.Ac.at (i:=0) (by omega)
 have hpay:∀ (o:Nat) (h:o < t.Ac.length),w.cell? ⟨pb,po+o*3,none⟩=some (.int .i64 t.Ac[o].heads)∧w.cell? ⟨pb,po+o*3+1,none⟩=some (.int .i64 t.Ac[o].free)∧w.cell? ⟨pb,po+o*3+2,none⟩=some (.bool t.Ac[o].half):=fun o h=>by
  obtain ⟨b',o',e,h1,h2,h3⟩:=hT.Ac.at h;rw [hpa] at e;simp only [Option.some.injEq,Addr.mk.injEq,and_true] at e;obtain ⟨rfl,rfl⟩:=e;exact ⟨h1,h2,h3⟩
 have lpb:pb < w.heap.size:=lt_of_cell (hpay 0 (by omega)).1
 obtain ⟨tb,to_,htb,hta,htl⟩:∃ tb to_,tb < w.heap.size∧(t.Ah≠[]→s.ta=some ⟨tb,to_,none⟩)∧∀ (i:Nat) (h:i < t.Ah.length),w.cell? ⟨tb,to_+i*3+1,none⟩=some (.int .i64 t.Ah[i].rate):=by
  rcases hT.Ah with h | ⟨b,o,ha,h⟩
  ·exact ⟨pb,0,lpb,fun hne=>absurd h hne,fun i hi=>by rw [h] at hi;simp at hi⟩
  ·by_cases hz:0 < t.Ah.length
   ·exact ⟨b,o,lt_of_cell (h 0 hz).1,fun _=>ha,fun i hi=>(h i hi).2.1⟩
   ·exact ⟨pb,0,lpb,fun hne=>absurd (List.length_pos_iff.2 hne) hz,fun i hi=>absurd (by omega) hz⟩
 rw [hpa] at d4;exact ⟨qs,pb,po,s.pc,tb,to_,s.tc,_,_,⟨lt_of_cell d4,lpb,htb,hm.lt,d4,⟨s.ta,d5,hta⟩,d6,fun o h=>(hpay o h).1,fun o h=>(hpay o h).2.1,fun o h=>(hpay o h).2.2,htl,hm,PK qs,hF.pf,hF.rt,fun k=>by rw [hq];exact hF.ps k⟩,hq⟩
end
end Go.Proofs.Ytgdobbcjkiapkaa
