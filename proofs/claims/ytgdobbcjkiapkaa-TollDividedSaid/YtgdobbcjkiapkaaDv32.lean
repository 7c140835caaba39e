import Derived.Test.YtgdobbcjkiapkaaDv04
import Derived.Test.YtgdobbcjkiapkaaDv31
import Derived.Test.YtgdobbcjkiapkaaDv02
import Derived.Test.YtgdobbcjkiapkaaDv22
namespace Go.Proofs.Ytgdobbcjkiapkaa
set_option maxRecDepth 100000
set_option maxHeartbeats 4000000
set_option linter.unusedSimpArgs false
set_option linter.unusedVariables false
section
open Go.RowKit
theorem Ry:Try.f118.body=some (Code.seq (Aa Try.f118 0) (Code.seq (Aa Try.f118 1) Code.ret)):=by kernel_rfl
theorem Xq {w:World}:Calls Try.prog 118 #[] w (fun e w'=>e = .returned (.agg #[.func (.func 127) #[] #[]])∧Below w.heap.size w w'):=by
 refine ZN Try.func118 Ry Try.ntmps118 ?_;intro a Z;refine wsr ?_;refine Z.s ?_;clear Z;intro a Z;refine Ad (G:=fun W=>wpOps _ _ _ _ _ W) ?_;obtain ⟨b,hg⟩:∃ b,b=w.heap.size:=⟨_,rfl⟩;intro x hz KX hb;rw [← hg] at Z KX;have hbl:w.heap.size≤b:=by omega
 clear hz hg;refine od ?_;refine wsr ?_;refine Z.s ?_;clear Z;intro a Z;refine og fun K hK =>?_
 have e0:=Z.g 0;have e1:=Z.g 1;have c0:=KX.cell (o:=0) rfl;have z0:=KX.fz 0;unfold Oper.wp;go_simp;clear e0 e1;refine hK _ _ ?_;clear hK;replace hb:=hb.setCell (p:=⟨b,0,none⟩) (by show w.heap.size≤b;exact hbl) (.func (.func 127) #[] #[]);replace KX:=KX.set 0 (.func (.func 127) #[] #[]);refine od ?_;refine wp_ret ?_
 try simp only [Exit.then,Exit.inBlock]
 have c1:=KX.cell (o:=0) rfl;refine bodyPost_ret (v := .agg #[.func (.func 127) #[] #[]]) ?_ Z.defers ⟨rfl,hb⟩;simp [results,Try.results118,Z.get 0 _ rfl,go_sem,c1]
def ZZ (t:Af) (from_ to_ lim:Int):Option EH:=Xy ((Ns t from_ to_).filter (LX lim))
def XJ (w0:World) (r:Option EH) (err:Int) (e:Ending) (w':World):Prop :=
 Below w0.heap.size w0 w'∧(r=none→e = .returned (.tuple #[.slice none 0 0, .int .i64 0, .int .i64 err]))∧(∀ c,r=some c→∃ v,e = .returned (.tuple #[v, .int .i64 c.coins, .int .i64 0])∧CG w' w0.heap.size v c.way∧v ≠ .slice none 0 0∧c.way.length≤1000)
theorem P8:Try.f96.body=some (Code.seq (Aa Try.f96 0) (Code.seq (Aa Try.f96 1) (Code.seq (Code.seq (Aa Try.f96 2) (Code.cond (Operand.tmp 20) (Code.seq (Aa Try.f96 3) Code.ret) Code.skip)) (Code.seq (Aa Try.f96 4) Code.ret)))):=by kernel_rfl
theorem Ua {t:Af} {s:Eg} {w:World} {from_ to_ lim:Int} (ht:Dc w t s) (hT:AP t=0) (hfr:btw from_ 0 (t.roads.stages-1)=true):Calls Try.prog 96 #[.agg (EI t s), .int .i64 from_, .int .i64 to_, .int .i64 lim] w (XJ w (ZZ t from_ to_ lim) 11):=by
 refine call4 Try.func96 P8 Try.ntmps96 ?_;intro a Z;refine wsr ?_;refine Z.s ?_;clear Z;intro a Z;refine Ad (G:=fun W=>wpOps _ _ _ _ _ W) ?_;obtain ⟨bt,hg⟩:∃ g,g=w.heap.size:=⟨_,rfl⟩;intro x hz Kt hb;rw [← hg] at Z Kt;have h0:w.heap.size≤bt:=by omega
 clear hg hz;refine Z.s ?_;clear Z;intro a Z;refine Ad (G:=fun W=>wpOps _ _ _ _ _ W) ?_;obtain ⟨bf,hg⟩:∃ g,g=x.heap.size:=⟨_,rfl⟩;have hz0:=hb.size;intro x hz Kf hb2;rw [← hg] at Z Kf;have h1:w.heap.size≤bf:=by omega
 replace hb:=hb.trans (hb2.mono hb.size);replace Kt:=Kt.below hb2;clear hz0 hb2;clear hg hz;refine Z.s ?_;clear Z;intro a Z;refine Ad (G:=fun W=>wpOps _ _ _ _ _ W) ?_;obtain ⟨bto,hg⟩:∃ g,g=x.heap.size:=⟨_,rfl⟩;have hz0:=hb.size;intro x hz Kto hb2;rw [← hg] at Z Kto;have h2:w.heap.size≤bto:=by omega
 replace hb:=hb.trans (hb2.mono hb.size);replace Kt:=Kt.below hb2;replace Kf:=Kf.below hb2;clear hz0 hb2;clear hg hz;refine Z.s ?_;clear Z;intro a Z;refine Ad (G:=fun W=>wpOps _ _ _ _ _ W) ?_;obtain ⟨bl,hg⟩:∃ g,g=x.heap.size:=⟨_,rfl⟩;have hz0:=hb.size;intro x hz Kl hb2;rw [← hg] at Z Kl;have h3:w.heap.size≤bl:=by omega
 replace hb:=hb.trans (hb2.mono hb.size);replace Kt:=Kt.below hb2;replace Kf:=Kf.below hb2;replace Kto:=Kto.below hb2;clear hz0 hb2;clear hg hz;(iterate 3 refine Z.s ?_;clear Z;intro a Z);refine od ?_;refine wsr ?_;refine Z.s ?_;clear Z;intro a Z;refine og fun K hK =>?_
 unfold Oper.wp;go_simp;refine Xq.mono ?_;rintro e x ⟨rfl,hb2⟩;replace Kt:=Kt.below hb2;replace Kf:=Kf.below hb2;replace Kto:=Kto.below hb2;replace Kl:=Kl.below hb2;replace hb:=hb.trans (hb2.mono hb.size);clear hb2;refine Z.K hK ?_;clear Z hK;intro a Z;refine og fun K hK =>?_
 have e14:=Z.g 14;have e15:=Z.g 15;have hbe:=YL (P7 (lim:=lim) (bt:=bt) (bf:=bf) (bto:=bto) (bl:=bl) (to_:=to_) (s:=s) hT hfr) (w0:=x) (fun V hV=>⟨⟨ht.below (hb.trans (hV.mono hb.size)),Kt.below hV,Kf.below hV,Kto.below hV⟩,Kl.below hV⟩) (fun l W=>by simp [invoke,go_sem]);unfold Oper.wp;go_simp;refine hbe.mono ?_;rintro e x2 ⟨hb2,hN,hS⟩;have hxx:=hb.size;replace hb:=hb.trans (hb2.mono hb.size);clear hb2 Kt Kf Kto Kl hbe;have hW:ZZ t from_ to_ lim=Xy ((Ns t from_ to_).filter (LX lim)):=rfl;rw [← hW] at hN hS;clear hW;clear e14 e15
 cases hc:ZZ t from_ to_ lim with
 | none =>
  obtain rfl:=hN hc;clear hS hN hxx
  try simp only [Value.elem?]
  try refine ⟨_,rfl,?_⟩
  refine Z.K hK ?_;clear Z hK;intro a Z;obtain ⟨x,hx2⟩:∃ x,x=x2:=⟨_,rfl⟩;rw [← hx2] at hb ⊢;clear hx2;(iterate 3 refine Z.s ?_;clear Z;intro a Z);refine og fun K hK =>?_
  obtain ⟨bc,hg⟩:∃ b,b=x.heap.size:=⟨_,rfl⟩;unfold Oper.wp;go_simp;refine Z.K hK ?_;clear Z hK;intro a Z;refine og fun K hK =>?_
  have e11:=Z.g 11;have e17:=Z.g 17;unfold Oper.wp;go_simp;clear e11 e17;refine hK _ _ ?_;clear hK;have hbs:=hb.size;refine Ad (G:=fun W=>wpOps _ _ _ _ _ W) ?_;intro x2 hz KC hb3;rw [← hg] at Z KC;replace hb:=hb.trans (hb3.mono hb.size)
  skip
  have hbc:w.heap.size≤bc:=by rw [hg];exact hbs
  clear hz hb3 hg hbs;obtain ⟨x,hx3⟩:∃ x,x=x2:=⟨_,rfl⟩;rw [← hx3] at hb KC ⊢;clear hx3;refine Z.s ?_;clear Z;intro a Z;refine od ?_;refine wp_seq ?_;refine wsr ?_;(iterate 2 refine Z.s ?_;clear Z;intro a Z);refine od ?_;refine wp_cond_true (Z.ev 20 rfl) ?_;refine wsr ?_;(iterate 3 refine Z.s ?_;clear Z;intro a Z);refine od ?_;refine wp_ret ?_
  try simp only [Exit.then,Exit.inBlock]
  refine bodyPost_ret (v := .tuple #[.slice none 0 0, .int .i64 0, .int .i64 11]) ?_ Z.defers ⟨hb,fun _=>rfl,fun c2 h2=>by rw [hc] at h2;simp at h2⟩;simp [results,Try.results96,Z.get 8 _ rfl,Z.get 9 _ rfl,Z.get 10 _ rfl]
 | some c =>
  obtain ⟨cv,rfl,hO,hnn,hl⟩:=hS c hc;clear hS hN;replace hO:=A8.lower hO hxx;clear hxx;obtain ⟨ga,ca,hcv,_⟩:=CG.sl hO hnn;subst hcv
  try simp only [Value.elem?]
  try refine ⟨_,rfl,?_⟩
  refine Z.K hK ?_;clear Z hK;intro a Z;obtain ⟨x,hx2⟩:∃ x,x=x2:=⟨_,rfl⟩;rw [← hx2] at hb ⊢ hO;clear hx2;(iterate 3 refine Z.s ?_;clear Z;intro a Z);refine og fun K hK =>?_
  obtain ⟨bc,hg⟩:∃ b,b=x.heap.size:=⟨_,rfl⟩;unfold Oper.wp;go_simp;refine Z.K hK ?_;clear Z hK;intro a Z;refine og fun K hK =>?_
  have e11:=Z.g 11;have e17:=Z.g 17;unfold Oper.wp;go_simp;clear e11 e17;refine hK _ _ ?_;clear hK;have hbs:=hb.size;refine Ad (G:=fun W=>wpOps _ _ _ _ _ W) ?_;intro x2 hz KC hb3;rw [← hg] at Z KC;replace hb:=hb.trans (hb3.mono hb.size);replace hO:=hO.below hb3;have hbc:w.heap.size≤bc:=by rw [hg];exact hbs
  clear hz hb3 hg hbs;obtain ⟨x,hx3⟩:∃ x,x=x2:=⟨_,rfl⟩;rw [← hx3] at hb KC ⊢ hO;clear hx3;refine Z.s ?_;clear Z;intro a Z;refine od ?_;refine wp_seq ?_;refine wsr ?_;(iterate 2 refine Z.s ?_;clear Z;intro a Z);refine od ?_;refine wp_cond_false (Z.ev 20 rfl) ?_;refine wp_skip ?_;refine wp_seq ?_;replace KC:Rw x bc #[.slice (some ⟨ga,0,none⟩) c.way.length ca, .int .i64 c.coins, .int .i64 c.leagues] 149:=KC;rw [show Aa Try.f96 4=Code.region 4 _ true from rfl];refine DL (by kernel_rfl) ((Z.nil.cons (Z.get 11 _ rfl))) [some 21,some 22,some 23,some 24,some 8,some 9,some 10] rfl rfl (by kernel_rfl) (fun j v _=>match j with | 0=>v = .pointer (some ⟨bc,0,none⟩) | 1=>v = .slice (some ⟨ga,0,none⟩) c.way.length ca | 2=>v = .pointer (some ⟨bc,1,none⟩) | 3=>v = .int .i64 c.coins | 4=>v = .slice (some ⟨ga,0,none⟩) c.way.length ca | 5=>v = .int .i64 c.coins | 6=>v = .int .i64 0 | _=>True) (fun _ x=>Rw x bc #[.slice (some ⟨ga,0,none⟩) c.way.length ca, .int .i64 c.coins, .int .i64 c.leagues] 149∧Below w.heap.size w x∧CG x w.heap.size (.slice (some ⟨ga,0,none⟩) c.way.length ca) c.way) (⟨KC.below (Below.refl _ _).drew,hb.trans ((Below.refl _ _).drew.mono hb.size),hO.below (Below.refl _ _).drew⟩) ?_ ?_
  ·clear Z;intro k o hkl ho L a x hI hLk Z hs hd;have hlt:∀ k:Nat,k < 7→k=0∨k=1∨k=2∨k=3∨k=4∨k=5∨k=6:=by decide
   rcases hlt k hkl with rfl | rfl | rfl | rfl | rfl | rfl | rfl
   ·obtain rfl:=Option.some.inj ho;have e11:=Z.g 11;clear hs hd;refine wg fun K hK =>?_
    unfold Oper.wp;go_simp;exact hK _ _ ⟨_,rfl,rfl,hI,fun _ _ h=>h⟩
   ·obtain rfl:=Option.some.inj ho;obtain ⟨_,e21,rfl⟩:=hs 0 _ 21 rfl rfl (hd 0 wm);have c0:=hI.1.cell (o:=0) rfl;clear hs hd;refine wg fun K hK =>?_
    unfold Oper.wp;go_simp;exact hK _ _ ⟨_,rfl,rfl,hI,fun _ _ h=>h⟩
   ·obtain rfl:=Option.some.inj ho;have e11:=Z.g 11;clear hs hd;refine wg fun K hK =>?_
    unfold Oper.wp;go_simp;exact hK _ _ ⟨_,rfl,rfl,hI,fun _ _ h=>h⟩
   ·obtain rfl:=Option.some.inj ho;obtain ⟨_,e23,rfl⟩:=hs 2 _ 23 rfl rfl (hd 2 wm);have c1:=hI.1.cell (o:=1) rfl;clear hs hd;refine wg fun K hK =>?_
    unfold Oper.wp;go_simp;exact hK _ _ ⟨_,rfl,rfl,hI,fun _ _ h=>h⟩
   ·obtain rfl:=Option.some.inj ho;obtain ⟨_,e22,rfl⟩:=hs 1 _ 22 rfl rfl (hd 1 wm);clear hs hd;refine wg fun K hK =>?_
    unfold Oper.wp;go_simp;exact hK _ _ ⟨_,rfl,rfl,hI,fun _ _ h=>h⟩
   ·obtain rfl:=Option.some.inj ho;obtain ⟨_,e24,rfl⟩:=hs 3 _ 24 rfl rfl (hd 3 wm);clear hs hd;refine wg fun K hK =>?_
    unfold Oper.wp;go_simp;exact hK _ _ ⟨_,rfl,rfl,hI,fun _ _ h=>h⟩
   ·obtain rfl:=Option.some.inj ho;clear hs hd;refine wg fun K hK =>?_
    unfold Oper.wp;go_simp;exact hK _ _ ⟨_,rfl,rfl,hI,fun _ _ h=>h⟩
  ·clear Z;intro L a x hall hI Z hs;obtain ⟨v8,e8,hv8⟩:=hs 4 _ 8 rfl rfl (hall 4 (by decide));obtain rfl:=hv8;obtain ⟨v9,e9,hv9⟩:=hs 5 _ 9 rfl rfl (hall 5 (by decide));obtain rfl:=hv9;obtain ⟨_,e10,rfl⟩:=hs 6 _ 10 rfl rfl (hall 6 (by decide));replace Z:=(((Z.cons e8).cons e9).cons e10);clear hs hall e8 e9 e10;refine wp_ret ?_
   try simp only [Exit.then,Exit.inBlock]
   obtain ⟨KC,hb,hO⟩:=hI;refine bodyPost_ret (v := .tuple #[.slice (some ⟨ga,0,none⟩) c.way.length ca, .int .i64 c.coins, .int .i64 0]) ?_ Z.defers ⟨hb,fun h=>by rw [hc] at h;simp at h,fun c2 h2=>by rw [hc] at h2;obtain rfl:=Option.some.inj h2;exact ⟨_,rfl,hO,hnn,hl⟩⟩;simp [results,Try.results96,Z.get 8 _ rfl,Z.get 9 _ rfl,Z.get 10 _ rfl]
def Ie (t:Af) (from_ to_:Int):Int:=if AP t=0 then (if (btw from_ 0 (t.roads.stages-1) && btw to_ 0 (t.roads.stages-1))=true then 0 else 3) else AP t
def J4 (t:Af) (from_ to_:Int):Option EH×Int:=if Ie t from_ to_=0 then (ZZ t from_ to_ (-1),11) else (none,Ie t from_ to_)
theorem YU {t:Af} {from_:Int} {way:List Int} (h:(Cm t from_ way).2=0):AP t=0:=by
 rcases Classical.em (AP t=0) with h1 | h1
 ·exact h1
 ·have:=(Hg (from_:=from_) (way:=way)).1 h1;rw [this] at h;exact absurd h h1
theorem JA {t:Af} {l:List Am} (h:BZ t l=0):AP t=0:=by
 rcases Classical.em (AP t=0) with h1 | h1
 ·exact h1
 ·rw [GU.1 h1] at h;exact absurd h h1
theorem DX {t:Af} {l:List Am} (h:BZ t l=0):DF t l∧l.length≤1000:=by
 have h1:=JA h;rcases Nat.lt_or_ge 24 l.length with h2 | h2
 ·rw [GU.2.1 h1 h2] at h;exact absurd h (by decide)
 ·rw [GU.2.2 h1 h2] at h;exact ⟨LC h,by omega⟩
theorem Xc {t:Af} {from_ to_:Int} (h:Ie t from_ to_=0):AP t=0∧btw from_ 0 (t.roads.stages-1)=true:=by
 unfold Ie at h
 split at h
 ·rename_i h1
  split at h
  ·rename_i h2;simp only [Bool.and_eq_true] at h2;exact ⟨h1,h2.1⟩
  ·exact absurd h (by decide)
 ·rename_i h1;exact absurd h h1
theorem Uh:Try.f95.body=some (Code.seq (Aa Try.f95 0) (Code.seq (Code.seq (Aa Try.f95 1) (Code.seq (Aa Try.f95 2) (Code.cond (Operand.tmp 11) (Code.seq (Aa Try.f95 3) Code.ret) Code.skip))) (Code.seq (Code.seq (Aa Try.f95 4) (Code.cond (Operand.tmp 28) (Code.seq (Aa Try.f95 5) Code.ret) Code.skip)) (Code.seq (Aa Try.f95 6) Code.ret)))):=by kernel_rfl
theorem Yv {t:Af} {s:Eg} {w:World} {from_ to_:Int} (ht:Dc w t s):Calls Try.prog 95 #[.agg (EI t s), .int .i64 from_, .int .i64 to_] w (fun e w'=>e = .returned (.int .i64 (Ie t from_ to_))∧Below w.heap.size w w'):=by
 refine PQ Try.func95 Uh Try.ntmps95 ?_;intro a Z;refine wsr ?_;refine Z.s ?_;clear Z;intro a Z;refine Ad (G:=fun W=>wpOps _ _ _ _ _ W) ?_;intro x hz X hb;have hI:=TI.made (Below.refl _ _) ht X hb;obtain ⟨bt,hbt⟩:∃ b,b=w.heap.size:=⟨_,rfl⟩;rw [← hbt] at Z hI;clear hz X hb hbt;refine Z.s ?_;clear Z;intro a Z;refine od ?_;refine wp_seq ?_;refine wsr ?_;refine og fun K hK =>?_
 have e3:=Z.g 3;have c0:=hI.c0;have c1:=hI.c1;have c2:=hI.c2;have c3:=hI.c3;have c4:=hI.c4;have c5:=hI.c5;unfold Oper.wp;go_simp;clear e3;refine Z.K hK ?_;clear Z hK;intro a Z;refine og fun K hK =>?_
 have e8:=Z.g 8;unfold Oper.wp;go_simp;refine (Kv hI.tar).mono ?_;rintro e x ⟨rfl,hb⟩;replace hI:=hI.keep hb;clear hb;clear e8;refine Z.K hK ?_;clear Z hK;intro a Z;refine Z.s ?_;clear Z;intro a Z;refine od ?_;refine wsr ?_;refine Z.s ?_;clear Z;intro a Z
 by_cases h1:AP t=0
 ·have hne:=CP h1;refine Z.s ?_;clear Z;intro a Z;refine od ?_;refine wp_cond_false (Z.ev 11 rfl) ?_;refine wp_skip ?_;refine wp_seq ?_;refine wsr ?_;(iterate 3 refine Z.s ?_;clear Z;intro a Z);refine og fun K hK =>?_
  have e15:=Z.g 15;have c1:=hI.c1;unfold Oper.wp;go_simp;clear e15;refine Z.K hK ?_;clear Z hK;intro a Z;refine og fun K hK =>?_
  have e16:=Z.g 16;have hww:IntKind.i64.wrap (t.roads.stages-1)=t.roads.stages-1:=IntWalk.i64_in _ (by have:=EX (BG h1).1;omega);unfold Oper.wp;go_simp;clear e16;refine Z.K hK ?_;clear Z hK;intro a Z;refine og fun K hK =>?_
  have e13:=Z.g 13;have e17:=Z.g 17;unfold Oper.wp;go_simp;refine (Bo _ _ _ _).mono ?_;rintro e x ⟨rfl,rfl⟩;clear e13 e17;refine Z.K hK ?_;clear Z hK;intro a Z;rcases Bool.eq_false_or_eq_true (btw from_ 0 (t.roads.stages-1)) with h2 | h2
  ·rw [h2] at Z;(iterate 2 refine Z.s ?_;clear Z;intro a Z);(iterate 3 refine Z.t ?_;clear Z;intro a Z);refine oW (Z.g 20) fun K hK =>?_
   have e23:=Z.g 23;have c1:=hI.c1;unfold Oper.wp;go_simp;clear e23;refine Z.K hK ?_;clear Z hK;intro a Z;refine oW (Z.g 20) fun K hK =>?_
   have e24:=Z.g 24;have hww:IntKind.i64.wrap (t.roads.stages-1)=t.roads.stages-1:=IntWalk.i64_in _ (by have:=EX (BG h1).1;omega);unfold Oper.wp;go_simp;clear e24;refine Z.K hK ?_;clear Z hK;intro a Z;refine oW (Z.g 20) fun K hK =>?_
   have e21:=Z.g 21;have e25:=Z.g 25;unfold Oper.wp;go_simp;refine (Bo _ _ _ _).mono ?_;rintro e x ⟨rfl,rfl⟩;clear e21 e25;refine Z.K hK ?_;clear Z hK;intro a Z;rcases Bool.eq_false_or_eq_true (btw to_ 0 (t.roads.stages-1)) with h3 | h3
   ·rw [h3] at Z;refine Z.t ?_;clear Z;intro a Z;refine Z.s ?_;clear Z;intro a Z;refine od ?_;refine wp_cond_false (Z.ev 28 rfl) ?_;refine wp_skip ?_;refine wsr ?_;refine Z.s ?_;clear Z;intro a Z;refine od ?_;refine wp_ret ?_
    try simp only [Exit.then,Exit.inBlock]
    have hR:=Lib.hid (show Ie t from_ to_=0 from by unfold Ie;rw [if_pos h1,if_pos (by rw [h2,h3];rfl)]);refine bodyPost_ret (v := .int .i64 (Ie t from_ to_)) ?_ Z.defers ⟨rfl,hI.below⟩;rw [hR.out];simp [results,Try.results95,Z.get 6 _ rfl]
   ·rw [h3] at Z;refine Z.t ?_;clear Z;intro a Z;refine Z.s ?_;clear Z;intro a Z;refine od ?_;refine wp_cond_true (Z.ev 28 rfl) ?_;refine wsr ?_;refine Z.s ?_;clear Z;intro a Z;refine od ?_;refine wp_ret ?_
    try simp only [Exit.then,Exit.inBlock]
    have hR:=Lib.hid (show Ie t from_ to_=3 from by unfold Ie;rw [if_pos h1,if_neg (by rw [h2,h3];decide)]);refine bodyPost_ret (v := .int .i64 (Ie t from_ to_)) ?_ Z.defers ⟨rfl,hI.below⟩;rw [hR.out];simp [results,Try.results95,Z.get 6 _ rfl]
  ·rw [h2] at Z;(iterate 2 refine Z.s ?_;clear Z;intro a Z);refine Z.z ?_;clear Z;intro a Z;refine Z.z ?_;clear Z;intro a Z;refine Z.z ?_;clear Z;intro a Z;refine Z.z ?_;clear Z;intro a Z;refine Z.z ?_;clear Z;intro a Z;refine Z.z ?_;clear Z;intro a Z;refine Z.z ?_;clear Z;intro a Z;refine Z.s ?_;clear Z;intro a Z;refine od ?_;refine wp_cond_true (Z.ev 28 rfl) ?_;refine wsr ?_;refine Z.s ?_;clear Z;intro a Z;refine od ?_;refine wp_ret ?_
   try simp only [Exit.then,Exit.inBlock]
   have hR:=Lib.hid (show Ie t from_ to_=3 from by unfold Ie;rw [if_pos h1,if_neg (by rw [h2];simp)]);refine bodyPost_ret (v := .int .i64 (Ie t from_ to_)) ?_ Z.defers ⟨rfl,hI.below⟩;rw [hR.out];simp [results,Try.results95,Z.get 6 _ rfl]
 ·have hne:=Du h1;have hR:=Lib.hid (show Ie t from_ to_=AP t from if_neg h1);refine Z.s ?_;clear Z;intro a Z;refine od ?_;refine wp_cond_true (Z.ev 11 rfl) ?_;refine wsr ?_;(iterate 2 refine Z.s ?_;clear Z;intro a Z);refine od ?_;refine wp_ret ?_
  try simp only [Exit.then,Exit.inBlock]
  refine bodyPost_ret (v := .int .i64 (Ie t from_ to_)) ?_ Z.defers ⟨rfl,hI.below⟩;rw [hR.out];simp [results,Try.results95,Z.get 6 _ rfl]
theorem NM:Try.f48.body=some (Code.seq (Aa Try.f48 0) (Code.seq (Code.seq (Aa Try.f48 1) (Code.seq (Aa Try.f48 2) (Code.cond (Operand.tmp 15) (Code.seq (Aa Try.f48 3) Code.ret) Code.skip))) (Code.seq (Aa Try.f48 4) Code.ret))):=by kernel_rfl
theorem QS {t:Af} {s:Eg} {w:World} {from_ to_:Int} (ht:Dc w t s):Calls Try.prog 48 #[.agg (EI t s), .int .i64 from_, .int .i64 to_] w (XJ w (J4 t from_ to_).1 (J4 t from_ to_).2):=by
 refine PQ Try.func48 NM Try.ntmps48 ?_;intro a Z;refine wsr ?_;refine Z.s ?_;clear Z;intro a Z;refine Ad (G:=fun W=>wpOps _ _ _ _ _ W) ?_;intro x hz X hb;have hI:=TI.made (Below.refl _ _) ht X hb;obtain ⟨bt,hbt⟩:∃ b,b=w.heap.size:=⟨_,rfl⟩;rw [← hbt] at Z hI;clear hz X hb hbt;(iterate 3 refine Z.s ?_;clear Z;intro a Z);refine od ?_;refine wp_seq ?_;refine wsr ?_;refine og fun K hK =>?_
 have e3:=Z.g 3;have c0:=hI.c0;have c1:=hI.c1;have c2:=hI.c2;have c3:=hI.c3;have c4:=hI.c4;have c5:=hI.c5;unfold Oper.wp;go_simp;clear e3;refine Z.K hK ?_;clear Z hK;intro a Z;(iterate 2 refine Z.s ?_;clear Z;intro a Z);refine og fun K hK =>?_
 have e10:=Z.g 10;have e11:=Z.g 11;have e12:=Z.g 12;unfold Oper.wp;go_simp;refine (Yv hI.tar).mono ?_;rintro e x ⟨rfl,hb⟩;replace hI:=hI.keep hb;clear hb;clear e10 e11 e12;refine Z.K hK ?_;clear Z hK;intro a Z;refine Z.s ?_;clear Z;intro a Z;refine od ?_;refine wsr ?_;refine Z.s ?_;clear Z;intro a Z
 by_cases h1:Ie t from_ to_=0
 ·have HE:=Lib.hid h1;have hne:=CP h1;clear h1;refine Z.s ?_;clear Z;intro a Z;refine od ?_;refine wp_cond_false (Z.ev 15 rfl) ?_;refine wp_skip ?_;refine wsr ?_;refine og fun K hK =>?_
  have e3:=Z.g 3;have c0:=hI.c0;have c1:=hI.c1;have c2:=hI.c2;have c3:=hI.c3;have c4:=hI.c4;have c5:=hI.c5;unfold Oper.wp;go_simp;clear e3;refine Z.K hK ?_;clear Z hK;intro a Z;(iterate 2 refine Z.s ?_;clear Z;intro a Z);refine og fun K hK =>?_
  have e17:=Z.g 17;have e18:=Z.g 18;have e19:=Z.g 19;unfold Oper.wp;go_simp;refine (Ua (to_:=to_) (lim:=(-1)) hI.tar (Xc HE.out).1 (Xc HE.out).2).mono ?_;rintro e x2 ⟨hb2,hN,hS⟩;have hxx:=hI.below.size;replace hI:=hI.keep hb2;clear hb2 e17 e18 e19
  cases hc:ZZ t from_ to_ (-1) with
  | none =>
   obtain rfl:=hN hc;clear hS hN;clear hxx
   try refine ⟨_,rfl,?_⟩
   refine Z.K hK ?_;clear Z hK;intro a Z;obtain ⟨x,hx2⟩:∃ x,x=x2:=⟨_,rfl⟩;rw [← hx2] at hI ⊢;clear hx2;(iterate 6 refine Z.s ?_;clear Z;intro a Z);refine od ?_;refine wp_ret ?_
   try simp only [Exit.then,Exit.inBlock]
   have hR:=Lib.hid (show J4 t from_ to_=(none,11) from by unfold J4;rw [if_pos HE.out,hc]);rw [hR.out];refine bodyPost_ret (v := .tuple #[.slice none 0 0, .int .i64 0, .int .i64 11]) ?_ Z.defers ⟨hI.below,fun _=>rfl,fun c2 h2=>by simp at h2⟩;simp [results,Try.results48,Z.get 6 _ rfl,Z.get 7 _ rfl,Z.get 8 _ rfl]
  | some c =>
   obtain ⟨cv,rfl,hO,hnn,hl⟩:=hS c hc;clear hS hN;replace hO:=A8.lower hO hxx;clear hxx
   try refine ⟨_,rfl,?_⟩
   refine Z.K hK ?_;clear Z hK;intro a Z;obtain ⟨x,hx2⟩:∃ x,x=x2:=⟨_,rfl⟩;rw [← hx2] at hI ⊢ hO;clear hx2;(iterate 6 refine Z.s ?_;clear Z;intro a Z);refine od ?_;refine wp_ret ?_
   try simp only [Exit.then,Exit.inBlock]
   have hR:=Lib.hid (show J4 t from_ to_=(some c,11) from by unfold J4;rw [if_pos HE.out,hc]);rw [hR.out];refine bodyPost_ret (v := .tuple #[cv, .int .i64 c.coins, .int .i64 0]) ?_ Z.defers ⟨hI.below,fun h=>by simp at h,fun c2 h2=>by obtain rfl:=Option.some.inj h2;exact ⟨_,rfl,hO,hnn,hl⟩⟩;simp [results,Try.results48,Z.get 6 _ rfl,Z.get 7 _ rfl,Z.get 8 _ rfl]
 ·have HE:=Lib.hid h1;have hne:=Du h1;clear h1;refine Z.s ?_;clear Z;intro a Z;refine od ?_;refine wp_cond_true (Z.ev 15 rfl) ?_;refine wsr ?_;(iterate 4 refine Z.s ?_;clear Z;intro a Z);refine od ?_;refine wp_ret ?_
  try simp only [Exit.then,Exit.inBlock]
  have hR:=Lib.hid (show J4 t from_ to_=(none,Ie t from_ to_) from by unfold J4;rw [if_neg HE.out]);rw [hR.out];refine bodyPost_ret (v := .tuple #[.slice none 0 0, .int .i64 0, .int .i64 (Ie t from_ to_)]) ?_ Z.defers ⟨hI.below,fun _=>rfl,fun c2 h2=>by simp at h2⟩;simp [results,Try.results48,Z.get 6 _ rfl,Z.get 7 _ rfl,Z.get 8 _ rfl]
theorem Qk:Try.f35.body=some (Code.seq (Aa Try.f35 0) (Code.seq (Aa Try.f35 1) Code.ret)):=by kernel_rfl
theorem Vx {t:Af} {s:Eg} {w:World} {from_:Int} {way:List Int} {wa:Option Addr} {wc:Nat} (ht:Dc w t s) (hw:AX w wa way) (hwc:way.length≤wc) (hwl:way.length≤1000000):Calls Try.prog 35 #[.agg (EI t s), .int .i64 from_, .slice wa way.length wc] w (Q9 w t from_ way):=by
 refine PQ Try.func35 Qk Try.ntmps35 ?_;intro a Z;refine wsr ?_;refine Z.s ?_;clear Z;intro a Z;refine Ad (G:=fun W=>wpOps _ _ _ _ _ W) ?_;intro x hz X hb;have hI:=TI.made (Below.refl _ _) ht X hb;obtain ⟨bt,hbt⟩:∃ b,b=w.heap.size:=⟨_,rfl⟩;rw [← hbt] at Z hI;clear hz X hb hbt;(iterate 2 refine Z.s ?_;clear Z;intro a Z);refine od ?_;refine wsr ?_;refine og fun K hK =>?_
 have e3:=Z.g 3;have c0:=hI.c0;have c1:=hI.c1;have c2:=hI.c2;have c3:=hI.c3;have c4:=hI.c4;have c5:=hI.c5;unfold Oper.wp;go_simp;clear e3;refine Z.K hK ?_;clear Z hK;intro a Z;(iterate 2 refine Z.s ?_;clear Z;intro a Z);refine og fun K hK =>?_
 have e8:=Z.g 8;have e9:=Z.g 9;have e10:=Z.g 10;unfold Oper.wp;go_simp;refine (Ny hI.tar (hw.below hI.below) hwc hwl).mono ?_;rintro e x ⟨hb,va,rfl,hO,hnil⟩;have hxx:=hI.below.size;replace hO:=A8.lower hO hxx;clear hxx;replace hI:=hI.keep hb;clear hb;clear e8 e9 e10;refine Z.K hK ?_;clear Z hK;intro a Z;(iterate 4 refine Z.s ?_;clear Z;intro a Z);refine od ?_;refine wp_ret ?_
 try simp only [Exit.then,Exit.inBlock]
 refine bodyPost_ret (v := .tuple #[va, .int .i64 (Cm t from_ way).2]) ?_ Z.defers ⟨hI.below,va,rfl,hO,hnil⟩;simp [results,Try.results35,Z.get 6 _ rfl,Z.get 7 _ rfl]
end
section
open Go.RowKit
structure AaD where
 owner:Int
 coins:Int
def Zd (w:World) (a:Option Addr) (l:List AaD):Prop :=
 l=[]∨∃ b o,a=some ⟨b,o,none⟩∧∀ (i:Nat) (h:i < l.length),w.cell? ⟨b,o+i*2,none⟩=some (.int .i64 l[i].owner)∧w.cell? ⟨b,o+i*2+1,none⟩=some (.int .i64 l[i].coins)
theorem Zd.at {w:World} {a:Option Addr} {l:List AaD} (h:Zd w a l) {i:Nat} (hi:i < l.length):∃ b o,a=some ⟨b,o,none⟩∧w.cell? ⟨b,o+i*2,none⟩=some (.int .i64 l[i].owner)∧w.cell? ⟨b,o+i*2+1,none⟩=some (.int .i64 l[i].coins):=by
 rcases h with rfl | ⟨b,o,ha,h⟩
 ·simp at hi
 ·exact ⟨b,o,ha,h i hi⟩
def Ib (l:List Int):Array Value:=(l.map fun x=>Value.int .i64 x).toArray
theorem Na {l:List Int} {i:Nat} (h:i < l.length):(Ib l)[i]? = some (.int .i64 l[i]):=by simp [Ib,h]
end
section
open Go.RowKit
def Eb (l:List Int):Int:=l.foldl (·+·) 0
theorem MF {l:List Int} {k:Nat} (h:k < l.length):Eb (l.take (k+1))=Eb (l.take k)+l[k]:=by
 unfold Eb;rw [List.take_succ_eq_append_getElem h,List.foldl_append];rfl
theorem O0 {l:List Int} (h:∀ x∈l,-1000000000≤x∧x≤1000000000):∀ k,k≤l.length→-(1000000000*(k:Int))≤Eb (l.take k)∧Eb (l.take k)≤1000000000*(k:Int):=by
 intro k
 induction k with
 | zero=>intro _;simp [Eb]
 | succ k ih =>
  intro hk;have:=ih (by omega);have h2:=h _ (List.getElem_mem (show k < l.length by omega));rw [MF (by omega)]
  push_cast;omega
theorem Su:Try.f32.body=some (Code.seq (Aa Try.f32 0) (Code.seq (Aa Try.f32 1) (Code.seq (Code.seq (Aa Try.f32 2) (Code.block 0 (Code.loop (Code.seq (Code.seq (Aa Try.f32 3) (Code.cond (Operand.tmp 8) Code.skip (Code.exit 0))) (Code.seq (Code.block 1 (Aa Try.f32 5)) (Aa Try.f32 4)))))) (Code.seq (Aa Try.f32 6) Code.ret)))):=by kernel_rfl
theorem total_any {w:World} {la:Option Addr} {lc:Nat} {l:List Int} (hl:AX w la l) (hn:l.length≤1000000) (hB:∀ x∈l,-1000000000≤x∧x≤1000000000):Calls Try.prog 32 #[.slice la l.length lc] w (fun e w'=>e = .returned (.int .i64 (Eb l))∧w=w'):=by
 refine QV Try.func32 Su Try.ntmps32 ?_;intro a Z;refine wsr ?_;refine Z.s ?_;clear Z;intro a Z;refine od ?_;refine wsr ?_;refine Z.s ?_;clear Z;intro a Z;refine od ?_;refine wp_seq ?_;refine wsr ?_;refine Z.s ?_;clear Z;intro a Z;refine od ?_;refine wp_block ?_;refine wp_loop_ghost (fun n p x=>∃ k:Nat,k+n=l.length∧x=w∧Sl p 18 [(4, .int .i64 (k:Int)),(0, .slice la l.length lc),(3, .int .i64 (Eb (l.take k)))]) (l.length) ⟨0,by omega,rfl,Z.sb⟩ ?_;clear Z;rintro n a x ⟨k,hkn,hwx,Z⟩;subst hwx;refine wp_seq ?_;refine wsr ?_;(iterate 3 refine Z.s ?_;clear Z;intro a Z)
 by_cases hlt:k < l.length
 ·have q1:(k:Int) < (l.length:Int):=by omega
  refine Z.s ?_;clear Z;intro a Z;refine od ?_;refine wp_cond_true (Z.ev 8 rfl) ?_;refine wp_skip ?_;refine wp_seq ?_;refine wp_block ?_;refine wr ?_;(iterate 3 refine Z.s ?_;clear Z;intro a Z);refine og fun K hK =>?_
  have e12:=Z.g 12;have e13:=Z.g 13;obtain ⟨b,o,rfl,hc⟩:=hl.at hlt;unfold Oper.wp;go_simp;clear e12 e13;refine Z.K hK ?_;clear Z hK;intro a Z;refine Z.s ?_;clear Z;intro a Z;refine og fun K hK =>?_
  have e11:=Z.g 11;have e15:=Z.g 15;have hw:=IntWalk.i64_in (Eb (l.take k)+l[k]) (by have:=O0 hB k (by omega);have:=hB _ (List.getElem_mem hlt);omega);unfold Oper.wp;go_simp;clear e11 e15;refine Z.K hK ?_;clear Z hK;intro a Z;refine Z.s ?_;clear Z;intro a Z;refine od ?_;refine wr ?_;refine Z.s ?_;clear Z;intro a Z;refine og fun K hK =>?_
  have e9:=Z.g 9;have hw:=Bc k (by omega);unfold Oper.wp;go_simp;clear e9;refine Z.K hK ?_;clear Z hK;intro a Z;refine Z.s ?_;clear Z;intro a Z;refine od ?_;rw [← MF hlt] at Z;exact ⟨n-1,by omega,k+1,by omega,rfl,Z.sb⟩
 ·have q1:¬ (k:Int) < (l.length:Int):=by omega
  obtain rfl:k=l.length:=by omega
  refine Z.s ?_;clear Z;intro a Z;refine od ?_;refine wp_cond_false (Z.ev 8 rfl) ?_;refine wp_exit ?_;refine wsr ?_;(iterate 2 refine Z.s ?_;clear Z;intro a Z);refine od ?_;refine wp_ret ?_
  try simp only [Exit.then,Exit.inBlock]
  rw [List.take_length] at Z;refine bodyPost_ret (v := .int .i64 (Eb l)) ?_ Z.defers ⟨rfl,rfl⟩;simp [results,Try.results32,Z.get 2 _ rfl]
theorem UW:Try.f28.body=some (Code.seq (Aa Try.f28 0) (Code.seq (Code.seq (Aa Try.f28 1) (Code.cond (Operand.tmp 10) (Code.seq (Aa Try.f28 2) Code.ret) Code.skip)) (Code.seq (Code.seq (Aa Try.f28 3) (Code.block 0 (Code.loop (Code.seq (Code.seq (Aa Try.f28 4) (Code.cond (Operand.tmp 14) Code.skip (Code.exit 0))) (Code.seq (Code.block 1 (Code.seq (Aa Try.f28 6) (Code.cond (Operand.tmp 25) (Code.seq (Aa Try.f28 7) Code.ret) Code.skip))) (Aa Try.f28 5)))))) (Code.seq (Aa Try.f28 8) Code.ret)))):=by kernel_rfl
theorem MM {w:World} {la lb:Option Addr} {ca cb:Nat} {l m:List Int} (ha:AX w la l) (hb:AX w lb m) (hn:l.length≤1000000):Calls Try.prog 28 #[.slice la l.length ca, .slice lb m.length cb] w (fun e w'=>e = .returned (.bool (decide (l=m)))∧Below w.heap.size w w'):=by
 refine LZ Try.func28 UW Try.ntmps28 ?_;intro a Z;refine wsr ?_;refine Z.s ?_;clear Z;intro a Z;refine od ?_;refine wp_seq ?_;refine wsr ?_;(iterate 4 refine Z.s ?_;clear Z;intro a Z)
 by_cases hne:l.length=m.length
 ·have q0:((l.length:Int) != (m.length:Int))=false:=by simp [hne]
  have HN:=Lib.hid hne;clear hne;refine Z.s ?_;clear Z;intro a Z;refine od ?_;refine wp_cond_false (Z.ev 10 rfl) ?_;refine wp_skip ?_;refine wp_seq ?_;refine wsr ?_;refine Z.s ?_;clear Z;intro a Z;refine od ?_;refine wp_block ?_;have hb1:=Below.refl w.heap.size w;refine wp_loop_ghost (fun n p x=>∃ k:Nat,k+n=l.length∧l.take k=m.take k∧Sl p 26 [(5, .int .i64 (k:Int)),(0, .slice la l.length ca),(1, .slice lb m.length cb)]∧Below w.heap.size w x) (l.length) ⟨0,by omega,rfl,Z.sb,hb1⟩ ?_;clear Z hb1;rintro n a x ⟨k,hkn,hT,Z,hb1⟩;have HT:=Lib.hid hT;clear hT;refine wp_seq ?_;refine wsr ?_;(iterate 3 refine Z.s ?_;clear Z;intro a Z)
  by_cases hlt:k < l.length
  ·have q1:(k:Int) < (l.length:Int):=by omega
   have hlm:k < m.length:=by rw [← HN.out];exact hlt
   have q3:(k:Int) < (m.length:Int):=by omega
   obtain ⟨b,o,rfl,hc⟩:=(ha.below hb1).at hlt;obtain ⟨b2,o2,rfl,hc2⟩:=(hb.below hb1).at hlm;refine Z.s ?_;clear Z;intro a Z;refine od ?_;refine wp_cond_true (Z.ev 14 rfl) ?_;refine wp_skip ?_;refine wp_seq ?_;refine wp_block ?_;refine wp_seq ?_;refine Ri rfl (by kernel_rfl) (by kernel_rfl) ?_;(iterate 3 refine Z.u ?_;clear Z;intro a Z);refine Z.q rfl rfl rfl (by decide) ⟨?_,fun y hy K hK =>?_,?_⟩;rotate_left
   ·have e19:=Z.g 19;replace hb1:=hb1.trans (hy.mono hb1.size);replace hc:=BD hy hc;replace hc2:=BD hy hc2;unfold Oper.GN;go_simp;exact hK
   clear Z;intro a Z;(iterate 3 refine Z.u ?_;clear Z;intro a Z);refine Z.q rfl rfl rfl (by decide) ⟨?_,fun y hy K hK =>?_,?_⟩;rotate_left
   ·have e23:=Z.g 23;replace hb1:=hb1.trans (hy.mono hb1.size);replace hc:=BD hy hc;replace hc2:=BD hy hc2;unfold Oper.GN;go_simp;exact hK
   clear Z;intro a Z
   by_cases he:l[k]=m[k]
   ·have q2:(l[k] != m[k])=false:=by simp [he]
    have HE:=Lib.hid he;clear he;refine Z.u ?_;clear Z;intro a Z;refine Lt ?_;intro x hb2;replace hb1:=hb1.trans (hb2.mono hb1.size);replace hc:=BD hb2 hc;replace hc2:=BD hb2 hc2;clear hb2;refine wp_cond_false (Z.ev 25 rfl) ?_;refine wp_skip ?_;refine wr ?_;refine Z.s ?_;clear Z;intro a Z;refine og fun K hK =>?_
    have e15:=Z.g 15;have hw:=Bc k (by omega);unfold Oper.wp;go_simp;clear e15;refine Z.K hK ?_;clear Z hK;intro a Z;refine Z.s ?_;clear Z;intro a Z;refine od ?_;exact ⟨n-1,by omega,k+1,by omega,by rw [List.take_succ_eq_append_getElem hlt,List.take_succ_eq_append_getElem hlm,HT.out,HE.out],Z.sb,hb1⟩
   ·have q2:(l[k] != m[k])=true:=by simp [he]
    have HE:=Lib.hid he;clear he;refine Z.u ?_;clear Z;intro a Z;refine Lt ?_;intro x hb2;replace hb1:=hb1.trans (hb2.mono hb1.size);replace hc:=BD hb2 hc;replace hc2:=BD hb2 hc2;clear hb2;refine wp_cond_true (Z.ev 25 rfl) ?_;refine wsr ?_;refine Z.s ?_;clear Z;intro a Z;refine od ?_;refine wp_ret ?_
    try simp only [Exit.then,Exit.inBlock]
    have HR:=Lib.hid (show decide (l=m)=false from decide_eq_false (fun h=>HE.out (by simp only [h])));rw [HR.out];refine bodyPost_ret (v := .bool false) ?_ Z.defers ⟨rfl,hb1⟩;simp [results,Try.results28,Z.get 4 _ rfl]
  ·have q1:¬ (k:Int) < (l.length:Int):=by omega
   obtain rfl:k=l.length:=by omega
   refine Z.s ?_;clear Z;intro a Z;refine od ?_;refine wp_cond_false (Z.ev 14 rfl) ?_;refine wp_exit ?_;refine wsr ?_;refine Z.s ?_;clear Z;intro a Z;refine od ?_;refine wp_ret ?_
   try simp only [Exit.then,Exit.inBlock]
   have HR:=Lib.hid (show decide (l=m)=true from decide_eq_true (by rw [← List.take_length (l:=l),HT.out,HN.out,List.take_length]));rw [HR.out];refine bodyPost_ret (v := .bool true) ?_ Z.defers ⟨rfl,hb1⟩;simp [results,Try.results28,Z.get 4 _ rfl]
 ·have q0:((l.length:Int) != (m.length:Int))=true:=by simp;omega
  refine Z.s ?_;clear Z;intro a Z;refine od ?_;refine wp_cond_true (Z.ev 10 rfl) ?_;refine wsr ?_;refine Z.s ?_;clear Z;intro a Z;refine od ?_;refine wp_ret ?_
  try simp only [Exit.then,Exit.inBlock]
  have HR:=Lib.hid (show decide (l=m)=false from decide_eq_false (fun h=>by rw [h] at q0;simp at q0));rw [HR.out];refine bodyPost_ret (v := .bool false) ?_ Z.defers ⟨rfl,Below.refl _ _⟩;simp [results,Try.results28,Z.get 4 _ rfl]
theorem Abk {α:Type} {p q r:Prop} [Decidable p] [Decidable q] [Decidable r] {A B:α} (h:p→q→r→False):(if p then if q then if r then A else B else B else B)=B:=by
 by_cases hp:p
 ·by_cases hq:q
  ·rw [if_pos hp,if_pos hq,if_neg (fun hr=>h hp hq hr)]
  ·rw [if_pos hp,if_neg hq]
 ·rw [if_neg hp]
theorem Am.Abl {x y:Am} (h0:x.toll=y.toll) (h1:x.owner=y.owner) (h2:x.heads=y.heads):x=y:=by cases x;cases y;simp_all
theorem Sv:Try.f41.body=some (Code.seq (Aa Try.f41 0) (Code.seq (Code.seq (Aa Try.f41 1) (Code.cond (Operand.tmp 10) (Code.seq (Aa Try.f41 2) Code.ret) Code.skip)) (Code.seq (Code.seq (Aa Try.f41 3) (Code.block 0 (Code.loop (Code.seq (Code.seq (Aa Try.f41 4) (Code.cond (Operand.tmp 14) Code.skip (Code.exit 0))) (Code.seq (Code.block 1 (Code.seq (Aa Try.f41 6) (Code.cond (Operand.tmp 25) (Code.seq (Aa Try.f41 7) Code.ret) Code.skip))) (Aa Try.f41 5)))))) (Code.seq (Aa Try.f41 8) Code.ret)))):=by kernel_rfl
theorem V7 {w:World} {la lb:Option Addr} {ca cb:Nat} {l m:List Am} (ha:DJ w la l) (hb:DJ w lb m) (hn:l.length≤1000000):Calls Try.prog 41 #[.slice la l.length ca, .slice lb m.length cb] w (fun e w'=>e = .returned (.bool (decide (l=m)))∧Below w.heap.size w w'):=by
 refine LZ Try.func41 Sv Try.ntmps41 ?_;intro a Z;refine wsr ?_;refine Z.s ?_;clear Z;intro a Z;refine od ?_;refine wp_seq ?_;refine wsr ?_;(iterate 4 refine Z.s ?_;clear Z;intro a Z)
 by_cases hne:l.length=m.length
 ·have q0:((l.length:Int) != (m.length:Int))=false:=by simp [hne]
  have HN:=Lib.hid hne;clear hne;refine Z.s ?_;clear Z;intro a Z;refine od ?_;refine wp_cond_false (Z.ev 10 rfl) ?_;refine wp_skip ?_;refine wp_seq ?_;refine wsr ?_;refine Z.s ?_;clear Z;intro a Z;refine od ?_;refine wp_block ?_;have hb1:=Below.refl w.heap.size w;refine wp_loop_ghost (fun n p x=>∃ k:Nat,k+n=l.length∧l.take k=m.take k∧Sl p 26 [(5, .int .i64 (k:Int)),(0, .slice la l.length ca),(1, .slice lb m.length cb)]∧Below w.heap.size w x) (l.length) ⟨0,by omega,rfl,Z.sb,hb1⟩ ?_;clear Z hb1;rintro n a x ⟨k,hkn,hT,Z,hb1⟩;have HT:=Lib.hid hT;clear hT;refine wp_seq ?_;refine wsr ?_;(iterate 3 refine Z.s ?_;clear Z;intro a Z)
  by_cases hlt:k < l.length
  ·have q1:(k:Int) < (l.length:Int):=by omega
   have hlm:k < m.length:=by rw [← HN.out];exact hlt
   have q3:(k:Int) < (m.length:Int):=by omega
   obtain ⟨b,o,rfl,c0,c1,c2⟩:=(ha.below hb1).at hlt;obtain ⟨b2,o2,rfl,d0,d1,d2⟩:=(hb.below hb1).at hlm;simp only [Pm] at c0 c1 c2 d0 d1 d2;refine Z.s ?_;clear Z;intro a Z;refine od ?_;refine wp_cond_true (Z.ev 14 rfl) ?_;refine wp_skip ?_;refine wp_seq ?_;refine wp_block ?_;refine wp_seq ?_;refine Ri rfl (by kernel_rfl) (by kernel_rfl) ?_;(iterate 3 refine Z.u ?_;clear Z;intro a Z);refine Z.q rfl rfl rfl (by decide) ⟨?_,fun y hy K hK =>?_,?_⟩;rotate_left
   ·have e19:=Z.g 19;replace hb1:=hb1.trans (hy.mono hb1.size);replace c0:=BD hy c0;replace c1:=BD hy c1;replace c2:=BD hy c2;replace d0:=BD hy d0;replace d1:=BD hy d1;replace d2:=BD hy d2;unfold Oper.GN;go_simp;exact hK
   clear Z;intro a Z;(iterate 3 refine Z.u ?_;clear Z;intro a Z);refine Z.q rfl rfl rfl (by decide) ⟨?_,fun y hy K hK =>?_,?_⟩;rotate_left
   ·have e23:=Z.g 23;replace hb1:=hb1.trans (hy.mono hb1.size);replace c0:=BD hy c0;replace c1:=BD hy c1;replace c2:=BD hy c2;replace d0:=BD hy d0;replace d1:=BD hy d1;replace d2:=BD hy d2;unfold Oper.GN;go_simp;exact hK
   clear Z;intro a Z
   by_cases he:l[k]=m[k]
   ·have HE:=Lib.hid he;rw [he] at Z;clear he;refine Z.u ?_;clear Z;intro a Z;refine Lt ?_;intro x hb2;replace hb1:=hb1.trans (hb2.mono hb1.size);replace c0:=BD hb2 c0;replace c1:=BD hb2 c1;replace c2:=BD hb2 c2;replace d0:=BD hb2 d0;replace d1:=BD hb2 d1;replace d2:=BD hb2 d2;clear hb2;refine wp_cond_false (Z.ev 25 rfl) ?_;refine wp_skip ?_;refine wr ?_;refine Z.s ?_;clear Z;intro a Z;refine og fun K hK =>?_
    have e15:=Z.g 15;have hw:=Bc k (by omega);unfold Oper.wp;go_simp;clear e15;refine Z.K hK ?_;clear Z hK;intro a Z;refine Z.s ?_;clear Z;intro a Z;refine od ?_;exact ⟨n-1,by omega,k+1,by omega,by rw [List.take_succ_eq_append_getElem hlt,List.take_succ_eq_append_getElem hlm,HT.out,HE.out],Z.sb,hb1⟩
   ·have HE:=Lib.hid he;clear he;refine Z.q rfl rfl rfl (by decide) ⟨?_,fun y hy K hK =>?_,?_⟩;rotate_left
    ·have e20:=Z.g 20;have e24:=Z.g 24;unfold Oper.GN;go_simp;rw [Abk (fun h0 h1 h2=>HE.out (Am.Abl h0 h1 h2))];refine ⟨rfl,?_⟩;exact hK
    clear Z;intro a Z;refine Lt ?_;intro x hb2;replace hb1:=hb1.trans (hb2.mono hb1.size);replace c0:=BD hb2 c0;replace c1:=BD hb2 c1;replace c2:=BD hb2 c2;replace d0:=BD hb2 d0;replace d1:=BD hb2 d1;replace d2:=BD hb2 d2;clear hb2;refine wp_cond_true (Z.ev 25 rfl) ?_;refine wsr ?_;refine Z.s ?_;clear Z;intro a Z;refine od ?_;refine wp_ret ?_
    try simp only [Exit.then,Exit.inBlock]
    have HR:=Lib.hid (show decide (l=m)=false from decide_eq_false (fun h=>HE.out (by simp only [h])));rw [HR.out];refine bodyPost_ret (v := .bool false) ?_ Z.defers ⟨rfl,hb1⟩;simp [results,Try.results41,Z.get 4 _ rfl]
  ·have q1:¬ (k:Int) < (l.length:Int):=by omega
   obtain rfl:k=l.length:=by omega
   refine Z.s ?_;clear Z;intro a Z;refine od ?_;refine wp_cond_false (Z.ev 14 rfl) ?_;refine wp_exit ?_;refine wsr ?_;refine Z.s ?_;clear Z;intro a Z;refine od ?_;refine wp_ret ?_
   try simp only [Exit.then,Exit.inBlock]
   have HR:=Lib.hid (show decide (l=m)=true from decide_eq_true (by rw [← List.take_length (l:=l),HT.out,HN.out,List.take_length]));rw [HR.out];refine bodyPost_ret (v := .bool true) ?_ Z.defers ⟨rfl,hb1⟩;simp [results,Try.results41,Z.get 4 _ rfl]
 ·have q0:((l.length:Int) != (m.length:Int))=true:=by simp;omega
  refine Z.s ?_;clear Z;intro a Z;refine od ?_;refine wp_cond_true (Z.ev 10 rfl) ?_;refine wsr ?_;refine Z.s ?_;clear Z;intro a Z;refine od ?_;refine wp_ret ?_
  try simp only [Exit.then,Exit.inBlock]
  have HR:=Lib.hid (show decide (l=m)=false from decide_eq_false (fun h=>by rw [h] at q0;simp at q0));rw [HR.out];refine bodyPost_ret (v := .bool false) ?_ Z.defers ⟨rfl,Below.refl _ _⟩;simp [results,Try.results41,Z.get 4 _ rfl]
end
end Go.Proofs.Ytgdobbcjkiapkaa
