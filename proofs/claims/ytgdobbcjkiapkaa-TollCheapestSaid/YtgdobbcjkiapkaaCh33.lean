import Derived.Test.YtgdobbcjkiapkaaCh04
import Derived.Test.YtgdobbcjkiapkaaCh32
import Derived.Test.YtgdobbcjkiapkaaCh02
namespace Go.Proofs.Ytgdobbcjkiapkaa
set_option maxRecDepth 100000
set_option maxHeartbeats 4000000
set_option linter.unusedSimpArgs false
set_option linter.unusedVariables false
section
open Go.RowKit
theorem RP:Try.f118.body=some (Code.seq (Aa Try.f118 0) (Code.seq (Aa Try.f118 1) Code.ret)):=by kernel_rfl
theorem XK {w:World}:Calls Try.prog 118 #[] w (fun e w'=>e = .returned (.agg #[.func (.func 127) #[] #[]])∧Below w.heap.size w w'):=by
 refine Aag Try.func118 RP Try.ntmps118 ?_;intro a Z;refine wsr ?_;refine Z.s ?_;clear Z;intro a Z;refine Ae (G:=fun W=>wpOps _ _ _ _ _ W) ?_;obtain ⟨b,hg⟩:∃ b,b=w.heap.size:=⟨_,rfl⟩;intro x hz KX hb;rw [← hg] at Z KX;have hbl:w.heap.size≤b:=by omega
 clear hz hg;refine od ?_;refine wsr ?_;refine Z.s ?_;clear Z;intro a Z;refine og fun K hK =>?_
 have e0:=Z.g 0;have e1:=Z.g 1;have c0:=KX.cell (o:=0) rfl;have z0:=KX.fz 0;unfold Oper.wp;go_simp;clear e0 e1;refine hK _ _ ?_;clear hK;replace hb:=hb.setCell (p:=⟨b,0,none⟩) (by show w.heap.size≤b;exact hbl) (.func (.func 127) #[] #[]);replace KX:=KX.set 0 (.func (.func 127) #[] #[]);refine od ?_;refine wp_ret ?_
 try simp only [Exit.then,Exit.inBlock]
 have c1:=KX.cell (o:=0) rfl;refine bodyPost_ret (v := .agg #[.func (.func 127) #[] #[]]) ?_ Z.defers ⟨rfl,hb⟩;simp [results,Try.results118,Z.get 0 _ rfl,go_sem,c1]
def G8 (t:Ac) (from_ to_ lim:Int):Option AZ:=PO ((BR t from_ to_).filter (JM lim))
def LW (w0:World) (r:Option AZ) (err:Int) (e:Ending) (w':World):Prop :=
 Below w0.heap.size w0 w'∧(r=none→e = .returned (.tuple #[.slice none 0 0, .int .i64 0, .int .i64 err]))∧(∀ c,r=some c→∃ v,e = .returned (.tuple #[v, .int .i64 c.coins, .int .i64 0])∧CP w' w0.heap.size v c.way∧v ≠ .slice none 0 0∧c.way.length≤1000)
theorem P5:Try.f96.body=some (Code.seq (Aa Try.f96 0) (Code.seq (Aa Try.f96 1) (Code.seq (Code.seq (Aa Try.f96 2) (Code.cond (Operand.tmp 20) (Code.seq (Aa Try.f96 3) Code.ret) Code.skip)) (Code.seq (Aa Try.f96 4) Code.ret)))):=by kernel_rfl
theorem Oa {t:Ac} {s:DF} {w:World} {from_ to_ lim:Int} (ht:BM w t s) (hT:Ak t=0) (hfr:btw from_ 0 (t.roads.stages-1)=true):Calls Try.prog 96 #[.agg (Em t s), .int .i64 from_, .int .i64 to_, .int .i64 lim] w (LW w (G8 t from_ to_ lim) 11):=by
 refine call4 Try.func96 P5 Try.ntmps96 ?_;intro a Z;refine wsr ?_;refine Z.s ?_;clear Z;intro a Z;refine Ae (G:=fun W=>wpOps _ _ _ _ _ W) ?_;obtain ⟨bt,hg⟩:∃ g,g=w.heap.size:=⟨_,rfl⟩;intro x hz Kt hb;rw [← hg] at Z Kt;have h0:w.heap.size≤bt:=by omega
 clear hg hz;refine Z.s ?_;clear Z;intro a Z;refine Ae (G:=fun W=>wpOps _ _ _ _ _ W) ?_;obtain ⟨bf,hg⟩:∃ g,g=x.heap.size:=⟨_,rfl⟩;have hz0:=hb.size;intro x hz Kf hb2;rw [← hg] at Z Kf;have h1:w.heap.size≤bf:=by omega
 replace hb:=hb.trans (hb2.mono hb.size);replace Kt:=Kt.below hb2;clear hz0 hb2;clear hg hz;refine Z.s ?_;clear Z;intro a Z;refine Ae (G:=fun W=>wpOps _ _ _ _ _ W) ?_;obtain ⟨bto,hg⟩:∃ g,g=x.heap.size:=⟨_,rfl⟩;have hz0:=hb.size;intro x hz Kto hb2;rw [← hg] at Z Kto;have h2:w.heap.size≤bto:=by omega
 replace hb:=hb.trans (hb2.mono hb.size);replace Kt:=Kt.below hb2;replace Kf:=Kf.below hb2;clear hz0 hb2;clear hg hz;refine Z.s ?_;clear Z;intro a Z;refine Ae (G:=fun W=>wpOps _ _ _ _ _ W) ?_;obtain ⟨bl,hg⟩:∃ g,g=x.heap.size:=⟨_,rfl⟩;have hz0:=hb.size;intro x hz Kl hb2;rw [← hg] at Z Kl;have h3:w.heap.size≤bl:=by omega
 replace hb:=hb.trans (hb2.mono hb.size);replace Kt:=Kt.below hb2;replace Kf:=Kf.below hb2;replace Kto:=Kto.below hb2;clear hz0 hb2;clear hg hz;(iterate 3 refine Z.s ?_;clear Z;intro a Z);refine od ?_;refine wsr ?_;refine Z.s ?_;clear Z;intro a Z;refine og fun K hK =>?_
 unfold Oper.wp;go_simp;refine XK.mono ?_;rintro e x ⟨rfl,hb2⟩;replace Kt:=Kt.below hb2;replace Kf:=Kf.below hb2;replace Kto:=Kto.below hb2;replace Kl:=Kl.below hb2;replace hb:=hb.trans (hb2.mono hb.size);clear hb2;refine Z.K hK ?_;clear Z hK;intro a Z;refine og fun K hK =>?_
 have e14:=Z.g 14;have e15:=Z.g 15;have hbe:=V4 (PZ (lim:=lim) (bt:=bt) (bf:=bf) (bto:=bto) (bl:=bl) (to_:=to_) (s:=s) hT hfr) (w0:=x) (fun V hV=>⟨⟨ht.below (hb.trans (hV.mono hb.size)),Kt.below hV,Kf.below hV,Kto.below hV⟩,Kl.below hV⟩) (fun l W=>by simp [invoke,go_sem]);unfold Oper.wp;go_simp;refine hbe.mono ?_;rintro e x2 ⟨hb2,hN,hS⟩;have hxx:=hb.size;replace hb:=hb.trans (hb2.mono hb.size);clear hb2 Kt Kf Kto Kl hbe;have hW:G8 t from_ to_ lim=PO ((BR t from_ to_).filter (JM lim)):=rfl;rw [← hW] at hN hS;clear hW;clear e14 e15
 cases hc:G8 t from_ to_ lim with
 | none =>
  obtain rfl:=hN hc;clear hS hN hxx
  try simp only [Value.elem?]
  try refine ⟨_,rfl,?_⟩
  refine Z.K hK ?_;clear Z hK;intro a Z;obtain ⟨x,hx2⟩:∃ x,x=x2:=⟨_,rfl⟩;rw [← hx2] at hb ⊢;clear hx2;(iterate 3 refine Z.s ?_;clear Z;intro a Z);refine og fun K hK =>?_
  obtain ⟨bc,hg⟩:∃ b,b=x.heap.size:=⟨_,rfl⟩;unfold Oper.wp;go_simp;refine Z.K hK ?_;clear Z hK;intro a Z;refine og fun K hK =>?_
  have e11:=Z.g 11;have e17:=Z.g 17;unfold Oper.wp;go_simp;clear e11 e17;refine hK _ _ ?_;clear hK;have hbs:=hb.size;refine Ae (G:=fun W=>wpOps _ _ _ _ _ W) ?_;intro x2 hz KC hb3;rw [← hg] at Z KC;replace hb:=hb.trans (hb3.mono hb.size)
  skip
  have hbc:w.heap.size≤bc:=by rw [hg];exact hbs
  clear hz hb3 hg hbs;obtain ⟨x,hx3⟩:∃ x,x=x2:=⟨_,rfl⟩;rw [← hx3] at hb KC ⊢;clear hx3;refine Z.s ?_;clear Z;intro a Z;refine od ?_;refine wp_seq ?_;refine wsr ?_;(iterate 2 refine Z.s ?_;clear Z;intro a Z);refine od ?_;refine wp_cond_true (Z.ev 20 rfl) ?_;refine wsr ?_;(iterate 3 refine Z.s ?_;clear Z;intro a Z);refine od ?_;refine wp_ret ?_
  try simp only [Exit.then,Exit.inBlock]
  refine bodyPost_ret (v := .tuple #[.slice none 0 0, .int .i64 0, .int .i64 11]) ?_ Z.defers ⟨hb,fun _=>rfl,fun c2 h2=>by rw [hc] at h2;simp at h2⟩;simp [results,Try.results96,Z.get 8 _ rfl,Z.get 9 _ rfl,Z.get 10 _ rfl]
 | some c =>
  obtain ⟨cv,rfl,hO,hnn,hl⟩:=hS c hc;clear hS hN;replace hO:=AC.lower hO hxx;clear hxx;obtain ⟨ga,ca,hcv,_⟩:=CP.sl hO hnn;subst hcv
  try simp only [Value.elem?]
  try refine ⟨_,rfl,?_⟩
  refine Z.K hK ?_;clear Z hK;intro a Z;obtain ⟨x,hx2⟩:∃ x,x=x2:=⟨_,rfl⟩;rw [← hx2] at hb ⊢ hO;clear hx2;(iterate 3 refine Z.s ?_;clear Z;intro a Z);refine og fun K hK =>?_
  obtain ⟨bc,hg⟩:∃ b,b=x.heap.size:=⟨_,rfl⟩;unfold Oper.wp;go_simp;refine Z.K hK ?_;clear Z hK;intro a Z;refine og fun K hK =>?_
  have e11:=Z.g 11;have e17:=Z.g 17;unfold Oper.wp;go_simp;clear e11 e17;refine hK _ _ ?_;clear hK;have hbs:=hb.size;refine Ae (G:=fun W=>wpOps _ _ _ _ _ W) ?_;intro x2 hz KC hb3;rw [← hg] at Z KC;replace hb:=hb.trans (hb3.mono hb.size);replace hO:=hO.below hb3;have hbc:w.heap.size≤bc:=by rw [hg];exact hbs
  clear hz hb3 hg hbs;obtain ⟨x,hx3⟩:∃ x,x=x2:=⟨_,rfl⟩;rw [← hx3] at hb KC ⊢ hO;clear hx3;refine Z.s ?_;clear Z;intro a Z;refine od ?_;refine wp_seq ?_;refine wsr ?_;(iterate 2 refine Z.s ?_;clear Z;intro a Z);refine od ?_;refine wp_cond_false (Z.ev 20 rfl) ?_;refine wp_skip ?_;refine wp_seq ?_;replace KC:Rw x bc #[.slice (some ⟨ga,0,none⟩) c.way.length ca, .int .i64 c.coins, .int .i64 c.leagues] 149:=KC;rw [show Aa Try.f96 4=Code.region 4 _ true from rfl];refine DI (by kernel_rfl) ((Z.nil.cons (Z.get 11 _ rfl))) [some 21,some 22,some 23,some 24,some 8,some 9,some 10] rfl rfl (by kernel_rfl) (fun j v _=>match j with | 0=>v = .pointer (some ⟨bc,0,none⟩) | 1=>v = .slice (some ⟨ga,0,none⟩) c.way.length ca | 2=>v = .pointer (some ⟨bc,1,none⟩) | 3=>v = .int .i64 c.coins | 4=>v = .slice (some ⟨ga,0,none⟩) c.way.length ca | 5=>v = .int .i64 c.coins | 6=>v = .int .i64 0 | _=>True) (fun _ x=>Rw x bc #[.slice (some ⟨ga,0,none⟩) c.way.length ca, .int .i64 c.coins, .int .i64 c.leagues] 149∧Below w.heap.size w x∧CP x w.heap.size (.slice (some ⟨ga,0,none⟩) c.way.length ca) c.way) (⟨KC.below (Below.refl _ _).drew,hb.trans ((Below.refl _ _).drew.mono hb.size),hO.below (Below.refl _ _).drew⟩) ?_ ?_
  ·clear Z;intro k o hkl ho L a x hI hLk Z hs hd;have hlt:∀ k:Nat,k < 7→k=0∨k=1∨k=2∨k=3∨k=4∨k=5∨k=6:=by decide
   rcases hlt k hkl with rfl | rfl | rfl | rfl | rfl | rfl | rfl
   ·obtain rfl:=Option.some.inj ho;have e11:=Z.g 11;clear hs hd;refine wg fun K hK =>?_
    unfold Oper.wp;go_simp;exact hK _ _ ⟨_,rfl,rfl,hI,fun _ _ h=>h⟩
   ·obtain rfl:=Option.some.inj ho;obtain ⟨_,e21,rfl⟩:=hs 0 _ 21 rfl rfl (hd 0 wm);have c0:=hI.1.cell (o:=0) rfl;clear hs hd;refine wg fun K hK =>?_
    unfold Oper.wp;go_simp;exact hK _ _ ⟨_,rfl,rfl,hI,fun _ _ h=>h⟩
   ·obtain rfl:=Option.some.inj ho;have e11:=Z.g 11;clear hs hd;refine wg fun K hK =>?_
    unfold Oper.wp;go_simp;exact hK _ _ ⟨_,rfl,rfl,hI,fun _ _ h=>h⟩
   ·obtain rfl:=Option.some.inj ho;obtain ⟨_,e23,rfl⟩:=hs 2 _ 23 rfl rfl (hd 2 wm);have c1:=hI.1.cell (o:=1) rfl;clear hs hd;refine wg fun K hK =>?_
    unfold Oper.wp;go_simp;exact hK _ _ ⟨_,rfl,rfl,hI,fun _ _ h=>h⟩
   ·obtain rfl:=Option.some.inj ho;obtain ⟨_,e22,rfl⟩:=hs 1 _ 22 rfl rfl (hd 1 wm);clear hs hd;refine wg fun K hK =>?_
    unfold Oper.wp;go_simp;exact hK _ _ ⟨_,rfl,rfl,hI,fun _ _ h=>h⟩
   ·obtain rfl:=Option.some.inj ho;obtain ⟨_,e24,rfl⟩:=hs 3 _ 24 rfl rfl (hd 3 wm);clear hs hd;refine wg fun K hK =>?_
    unfold Oper.wp;go_simp;exact hK _ _ ⟨_,rfl,rfl,hI,fun _ _ h=>h⟩
   ·obtain rfl:=Option.some.inj ho;clear hs hd;refine wg fun K hK =>?_
    unfold Oper.wp;go_simp;exact hK _ _ ⟨_,rfl,rfl,hI,fun _ _ h=>h⟩
  ·clear Z;intro L a x hall hI Z hs;obtain ⟨v8,e8,hv8⟩:=hs 4 _ 8 rfl rfl (hall 4 (by decide));obtain rfl:=hv8;obtain ⟨v9,e9,hv9⟩:=hs 5 _ 9 rfl rfl (hall 5 (by decide));obtain rfl:=hv9;obtain ⟨_,e10,rfl⟩:=hs 6 _ 10 rfl rfl (hall 6 (by decide));replace Z:=(((Z.cons e8).cons e9).cons e10);clear hs hall e8 e9 e10;refine wp_ret ?_
   try simp only [Exit.then,Exit.inBlock]
   obtain ⟨KC,hb,hO⟩:=hI;refine bodyPost_ret (v := .tuple #[.slice (some ⟨ga,0,none⟩) c.way.length ca, .int .i64 c.coins, .int .i64 0]) ?_ Z.defers ⟨hb,fun h=>by rw [hc] at h;simp at h,fun c2 h2=>by rw [hc] at h2;obtain rfl:=Option.some.inj h2;exact ⟨_,rfl,hO,hnn,hl⟩⟩;simp [results,Try.results96,Z.get 8 _ rfl,Z.get 9 _ rfl,Z.get 10 _ rfl]
def EG (t:Ac) (from_ to_:Int):Int:=if Ak t=0 then (if (btw from_ 0 (t.roads.stages-1) && btw to_ 0 (t.roads.stages-1))=true then 0 else 3) else Ak t
def IG (t:Ac) (from_ to_:Int):Option AZ×Int:=if EG t from_ to_=0 then (G8 t from_ to_ (-1),11) else (none,EG t from_ to_)
def Fb (t:Ac) (from_ to_ lim:Int):Option AZ×Int:=if EG t from_ to_=0 then (if lim < 0 then (none,1) else (G8 t from_ to_ lim,11)) else (none,EG t from_ to_)
def QV (t:Ac) (from_:Int) (way:List Int):Int×Int:=if (BK t from_ way).2=0 then (IE t from_ way,0) else (0,(BK t from_ way).2)
theorem Uo {t:Ac} {from_:Int} {way:List Int} (h:(BK t from_ way).2=0):Ak t=0:=by
 rcases Classical.em (Ak t=0) with h1 | h1
 ·exact h1
 ·have:=(FC (from_:=from_) (way:=way)).1 h1;rw [this] at h;exact absurd h h1
theorem Pn {t:Ac} {l:List AV} (h:Ea t l=0):Ak t=0:=by
 rcases Classical.em (Ak t=0) with h1 | h1
 ·exact h1
 ·rw [Gx.1 h1] at h;exact absurd h h1
theorem Gw {t:Ac} {l:List AV} (h:Ea t l=0):DC t l∧l.length≤1000:=by
 have h1:=Pn h;rcases Nat.lt_or_ge 24 l.length with h2 | h2
 ·rw [Gx.2.1 h1 h2] at h;exact absurd h (by decide)
 ·rw [Gx.2.2 h1 h2] at h;exact ⟨Lh h,by omega⟩
theorem PL {t:Ac} {from_ to_:Int} (h:EG t from_ to_=0):Ak t=0∧btw from_ 0 (t.roads.stages-1)=true:=by
 unfold EG at h
 split at h
 ·rename_i h1
  split at h
  ·rename_i h2;simp only [Bool.and_eq_true] at h2;exact ⟨h1,h2.1⟩
  ·exact absurd h (by decide)
 ·rename_i h1;exact absurd h h1
theorem UD:Try.f95.body=some (Code.seq (Aa Try.f95 0) (Code.seq (Code.seq (Aa Try.f95 1) (Code.seq (Aa Try.f95 2) (Code.cond (Operand.tmp 11) (Code.seq (Aa Try.f95 3) Code.ret) Code.skip))) (Code.seq (Code.seq (Aa Try.f95 4) (Code.cond (Operand.tmp 28) (Code.seq (Aa Try.f95 5) Code.ret) Code.skip)) (Code.seq (Aa Try.f95 6) Code.ret)))):=by kernel_rfl
theorem Ug {t:Ac} {s:DF} {w:World} {from_ to_:Int} (ht:BM w t s):Calls Try.prog 95 #[.agg (Em t s), .int .i64 from_, .int .i64 to_] w (fun e w'=>e = .returned (.int .i64 (EG t from_ to_))∧Below w.heap.size w w'):=by
 refine NZ Try.func95 UD Try.ntmps95 ?_;intro a Z;refine wsr ?_;refine Z.s ?_;clear Z;intro a Z;refine Ae (G:=fun W=>wpOps _ _ _ _ _ W) ?_;intro x hz X hb;have hI:=TI.made (Below.refl _ _) ht X hb;obtain ⟨bt,hbt⟩:∃ b,b=w.heap.size:=⟨_,rfl⟩;rw [← hbt] at Z hI;clear hz X hb hbt;refine Z.s ?_;clear Z;intro a Z;refine od ?_;refine wp_seq ?_;refine wsr ?_;refine og fun K hK =>?_
 have e3:=Z.g 3;have c0:=hI.c0;have c1:=hI.c1;have c2:=hI.c2;have c3:=hI.c3;have c4:=hI.c4;have c5:=hI.c5;unfold Oper.wp;go_simp;clear e3;refine Z.K hK ?_;clear Z hK;intro a Z;refine og fun K hK =>?_
 have e8:=Z.g 8;unfold Oper.wp;go_simp;refine (J8 hI.tar).mono ?_;rintro e x ⟨rfl,hb⟩;replace hI:=hI.keep hb;clear hb;clear e8;refine Z.K hK ?_;clear Z hK;intro a Z;refine Z.s ?_;clear Z;intro a Z;refine od ?_;refine wsr ?_;refine Z.s ?_;clear Z;intro a Z
 by_cases h1:Ak t=0
 ·have hne:=Cf h1;refine Z.s ?_;clear Z;intro a Z;refine od ?_;refine wp_cond_false (Z.ev 11 rfl) ?_;refine wp_skip ?_;refine wp_seq ?_;refine wsr ?_;(iterate 3 refine Z.s ?_;clear Z;intro a Z);refine og fun K hK =>?_
  have e15:=Z.g 15;have c1:=hI.c1;unfold Oper.wp;go_simp;clear e15;refine Z.K hK ?_;clear Z hK;intro a Z;refine og fun K hK =>?_
  have e16:=Z.g 16;have hww:IntKind.i64.wrap (t.roads.stages-1)=t.roads.stages-1:=IntWalk.i64_in _ (by have:=BC (Au h1).1;omega);unfold Oper.wp;go_simp;clear e16;refine Z.K hK ?_;clear Z hK;intro a Z;refine og fun K hK =>?_
  have e13:=Z.g 13;have e17:=Z.g 17;unfold Oper.wp;go_simp;refine (Bl _ _ _ _).mono ?_;rintro e x ⟨rfl,rfl⟩;clear e13 e17;refine Z.K hK ?_;clear Z hK;intro a Z;rcases Bool.eq_false_or_eq_true (btw from_ 0 (t.roads.stages-1)) with h2 | h2
  ·rw [h2] at Z;(iterate 2 refine Z.s ?_;clear Z;intro a Z);(iterate 3 refine Z.t ?_;clear Z;intro a Z);refine oW (Z.g 20) fun K hK =>?_
   have e23:=Z.g 23;have c1:=hI.c1;unfold Oper.wp;go_simp;clear e23;refine Z.K hK ?_;clear Z hK;intro a Z;refine oW (Z.g 20) fun K hK =>?_
   have e24:=Z.g 24;have hww:IntKind.i64.wrap (t.roads.stages-1)=t.roads.stages-1:=IntWalk.i64_in _ (by have:=BC (Au h1).1;omega);unfold Oper.wp;go_simp;clear e24;refine Z.K hK ?_;clear Z hK;intro a Z;refine oW (Z.g 20) fun K hK =>?_
   have e21:=Z.g 21;have e25:=Z.g 25;unfold Oper.wp;go_simp;refine (Bl _ _ _ _).mono ?_;rintro e x ⟨rfl,rfl⟩;clear e21 e25;refine Z.K hK ?_;clear Z hK;intro a Z;rcases Bool.eq_false_or_eq_true (btw to_ 0 (t.roads.stages-1)) with h3 | h3
   ·rw [h3] at Z;refine Z.t ?_;clear Z;intro a Z;refine Z.s ?_;clear Z;intro a Z;refine od ?_;refine wp_cond_false (Z.ev 28 rfl) ?_;refine wp_skip ?_;refine wsr ?_;refine Z.s ?_;clear Z;intro a Z;refine od ?_;refine wp_ret ?_
    try simp only [Exit.then,Exit.inBlock]
    have hR:=Lib.hid (show EG t from_ to_=0 from by unfold EG;rw [if_pos h1,if_pos (by rw [h2,h3];rfl)]);refine bodyPost_ret (v := .int .i64 (EG t from_ to_)) ?_ Z.defers ⟨rfl,hI.below⟩;rw [hR.out];simp [results,Try.results95,Z.get 6 _ rfl]
   ·rw [h3] at Z;refine Z.t ?_;clear Z;intro a Z;refine Z.s ?_;clear Z;intro a Z;refine od ?_;refine wp_cond_true (Z.ev 28 rfl) ?_;refine wsr ?_;refine Z.s ?_;clear Z;intro a Z;refine od ?_;refine wp_ret ?_
    try simp only [Exit.then,Exit.inBlock]
    have hR:=Lib.hid (show EG t from_ to_=3 from by unfold EG;rw [if_pos h1,if_neg (by rw [h2,h3];decide)]);refine bodyPost_ret (v := .int .i64 (EG t from_ to_)) ?_ Z.defers ⟨rfl,hI.below⟩;rw [hR.out];simp [results,Try.results95,Z.get 6 _ rfl]
  ·rw [h2] at Z;(iterate 2 refine Z.s ?_;clear Z;intro a Z);refine Z.z ?_;clear Z;intro a Z;refine Z.z ?_;clear Z;intro a Z;refine Z.z ?_;clear Z;intro a Z;refine Z.z ?_;clear Z;intro a Z;refine Z.z ?_;clear Z;intro a Z;refine Z.z ?_;clear Z;intro a Z;refine Z.z ?_;clear Z;intro a Z;refine Z.s ?_;clear Z;intro a Z;refine od ?_;refine wp_cond_true (Z.ev 28 rfl) ?_;refine wsr ?_;refine Z.s ?_;clear Z;intro a Z;refine od ?_;refine wp_ret ?_
   try simp only [Exit.then,Exit.inBlock]
   have hR:=Lib.hid (show EG t from_ to_=3 from by unfold EG;rw [if_pos h1,if_neg (by rw [h2];simp)]);refine bodyPost_ret (v := .int .i64 (EG t from_ to_)) ?_ Z.defers ⟨rfl,hI.below⟩;rw [hR.out];simp [results,Try.results95,Z.get 6 _ rfl]
 ·have hne:=C9 h1;have hR:=Lib.hid (show EG t from_ to_=Ak t from if_neg h1);refine Z.s ?_;clear Z;intro a Z;refine od ?_;refine wp_cond_true (Z.ev 11 rfl) ?_;refine wsr ?_;(iterate 2 refine Z.s ?_;clear Z;intro a Z);refine od ?_;refine wp_ret ?_
  try simp only [Exit.then,Exit.inBlock]
  refine bodyPost_ret (v := .int .i64 (EG t from_ to_)) ?_ Z.defers ⟨rfl,hI.below⟩;rw [hR.out];simp [results,Try.results95,Z.get 6 _ rfl]
theorem Nz:Try.f48.body=some (Code.seq (Aa Try.f48 0) (Code.seq (Code.seq (Aa Try.f48 1) (Code.seq (Aa Try.f48 2) (Code.cond (Operand.tmp 15) (Code.seq (Aa Try.f48 3) Code.ret) Code.skip))) (Code.seq (Aa Try.f48 4) Code.ret))):=by kernel_rfl
theorem Lu {t:Ac} {s:DF} {w:World} {from_ to_:Int} (ht:BM w t s):Calls Try.prog 48 #[.agg (Em t s), .int .i64 from_, .int .i64 to_] w (LW w (IG t from_ to_).1 (IG t from_ to_).2):=by
 refine NZ Try.func48 Nz Try.ntmps48 ?_;intro a Z;refine wsr ?_;refine Z.s ?_;clear Z;intro a Z;refine Ae (G:=fun W=>wpOps _ _ _ _ _ W) ?_;intro x hz X hb;have hI:=TI.made (Below.refl _ _) ht X hb;obtain ⟨bt,hbt⟩:∃ b,b=w.heap.size:=⟨_,rfl⟩;rw [← hbt] at Z hI;clear hz X hb hbt;(iterate 3 refine Z.s ?_;clear Z;intro a Z);refine od ?_;refine wp_seq ?_;refine wsr ?_;refine og fun K hK =>?_
 have e3:=Z.g 3;have c0:=hI.c0;have c1:=hI.c1;have c2:=hI.c2;have c3:=hI.c3;have c4:=hI.c4;have c5:=hI.c5;unfold Oper.wp;go_simp;clear e3;refine Z.K hK ?_;clear Z hK;intro a Z;(iterate 2 refine Z.s ?_;clear Z;intro a Z);refine og fun K hK =>?_
 have e10:=Z.g 10;have e11:=Z.g 11;have e12:=Z.g 12;unfold Oper.wp;go_simp;refine (Ug hI.tar).mono ?_;rintro e x ⟨rfl,hb⟩;replace hI:=hI.keep hb;clear hb;clear e10 e11 e12;refine Z.K hK ?_;clear Z hK;intro a Z;refine Z.s ?_;clear Z;intro a Z;refine od ?_;refine wsr ?_;refine Z.s ?_;clear Z;intro a Z
 by_cases h1:EG t from_ to_=0
 ·have HE:=Lib.hid h1;have hne:=Cf h1;clear h1;refine Z.s ?_;clear Z;intro a Z;refine od ?_;refine wp_cond_false (Z.ev 15 rfl) ?_;refine wp_skip ?_;refine wsr ?_;refine og fun K hK =>?_
  have e3:=Z.g 3;have c0:=hI.c0;have c1:=hI.c1;have c2:=hI.c2;have c3:=hI.c3;have c4:=hI.c4;have c5:=hI.c5;unfold Oper.wp;go_simp;clear e3;refine Z.K hK ?_;clear Z hK;intro a Z;(iterate 2 refine Z.s ?_;clear Z;intro a Z);refine og fun K hK =>?_
  have e17:=Z.g 17;have e18:=Z.g 18;have e19:=Z.g 19;unfold Oper.wp;go_simp;refine (Oa (to_:=to_) (lim:=(-1)) hI.tar (PL HE.out).1 (PL HE.out).2).mono ?_;rintro e x2 ⟨hb2,hN,hS⟩;have hxx:=hI.below.size;replace hI:=hI.keep hb2;clear hb2 e17 e18 e19
  cases hc:G8 t from_ to_ (-1) with
  | none =>
   obtain rfl:=hN hc;clear hS hN;clear hxx
   try refine ⟨_,rfl,?_⟩
   refine Z.K hK ?_;clear Z hK;intro a Z;obtain ⟨x,hx2⟩:∃ x,x=x2:=⟨_,rfl⟩;rw [← hx2] at hI ⊢;clear hx2;(iterate 6 refine Z.s ?_;clear Z;intro a Z);refine od ?_;refine wp_ret ?_
   try simp only [Exit.then,Exit.inBlock]
   have hR:=Lib.hid (show IG t from_ to_=(none,11) from by unfold IG;rw [if_pos HE.out,hc]);rw [hR.out];refine bodyPost_ret (v := .tuple #[.slice none 0 0, .int .i64 0, .int .i64 11]) ?_ Z.defers ⟨hI.below,fun _=>rfl,fun c2 h2=>by simp at h2⟩;simp [results,Try.results48,Z.get 6 _ rfl,Z.get 7 _ rfl,Z.get 8 _ rfl]
  | some c =>
   obtain ⟨cv,rfl,hO,hnn,hl⟩:=hS c hc;clear hS hN;replace hO:=AC.lower hO hxx;clear hxx
   try refine ⟨_,rfl,?_⟩
   refine Z.K hK ?_;clear Z hK;intro a Z;obtain ⟨x,hx2⟩:∃ x,x=x2:=⟨_,rfl⟩;rw [← hx2] at hI ⊢ hO;clear hx2;(iterate 6 refine Z.s ?_;clear Z;intro a Z);refine od ?_;refine wp_ret ?_
   try simp only [Exit.then,Exit.inBlock]
   have hR:=Lib.hid (show IG t from_ to_=(some c,11) from by unfold IG;rw [if_pos HE.out,hc]);rw [hR.out];refine bodyPost_ret (v := .tuple #[cv, .int .i64 c.coins, .int .i64 0]) ?_ Z.defers ⟨hI.below,fun h=>by simp at h,fun c2 h2=>by obtain rfl:=Option.some.inj h2;exact ⟨_,rfl,hO,hnn,hl⟩⟩;simp [results,Try.results48,Z.get 6 _ rfl,Z.get 7 _ rfl,Z.get 8 _ rfl]
 ·have HE:=Lib.hid h1;have hne:=C9 h1;clear h1;refine Z.s ?_;clear Z;intro a Z;refine od ?_;refine wp_cond_true (Z.ev 15 rfl) ?_;refine wsr ?_;(iterate 4 refine Z.s ?_;clear Z;intro a Z);refine od ?_;refine wp_ret ?_
  try simp only [Exit.then,Exit.inBlock]
  have hR:=Lib.hid (show IG t from_ to_=(none,EG t from_ to_) from by unfold IG;rw [if_neg HE.out]);rw [hR.out];refine bodyPost_ret (v := .tuple #[.slice none 0 0, .int .i64 0, .int .i64 (EG t from_ to_)]) ?_ Z.defers ⟨hI.below,fun _=>rfl,fun c2 h2=>by simp at h2⟩;simp [results,Try.results48,Z.get 6 _ rfl,Z.get 7 _ rfl,Z.get 8 _ rfl]
theorem OV:Try.f49.body=some (Code.seq (Aa Try.f49 0) (Code.seq (Code.seq (Aa Try.f49 1) (Code.seq (Aa Try.f49 2) (Code.cond (Operand.tmp 17) (Code.seq (Aa Try.f49 3) Code.ret) Code.skip))) (Code.seq (Code.seq (Aa Try.f49 4) (Code.cond (Operand.tmp 20) (Code.seq (Aa Try.f49 5) Code.ret) Code.skip)) (Code.seq (Aa Try.f49 6) Code.ret)))):=by kernel_rfl
theorem Ry {t:Ac} {s:DF} {w:World} {from_ to_ lim:Int} (ht:BM w t s):Calls Try.prog 49 #[.agg (Em t s), .int .i64 from_, .int .i64 to_, .int .i64 lim] w (LW w (Fb t from_ to_ lim).1 (Fb t from_ to_ lim).2):=by
 refine call4 Try.func49 OV Try.ntmps49 ?_;intro a Z;refine wsr ?_;refine Z.s ?_;clear Z;intro a Z;refine Ae (G:=fun W=>wpOps _ _ _ _ _ W) ?_;intro x hz X hb;have hI:=TI.made (Below.refl _ _) ht X hb;obtain ⟨bt,hbt⟩:∃ b,b=w.heap.size:=⟨_,rfl⟩;rw [← hbt] at Z hI;clear hz X hb hbt;(iterate 3 refine Z.s ?_;clear Z;intro a Z);refine od ?_;refine wp_seq ?_;refine wsr ?_;refine og fun K hK =>?_
 have e4:=Z.g 4;have c0:=hI.c0;have c1:=hI.c1;have c2:=hI.c2;have c3:=hI.c3;have c4:=hI.c4;have c5:=hI.c5;unfold Oper.wp;go_simp;clear e4;refine Z.K hK ?_;clear Z hK;intro a Z;(iterate 2 refine Z.s ?_;clear Z;intro a Z);refine og fun K hK =>?_
 have e12:=Z.g 12;have e13:=Z.g 13;have e14:=Z.g 14;unfold Oper.wp;go_simp;refine (Ug hI.tar).mono ?_;rintro e x ⟨rfl,hb⟩;replace hI:=hI.keep hb;clear hb;clear e12 e13 e14;refine Z.K hK ?_;clear Z hK;intro a Z;refine Z.s ?_;clear Z;intro a Z;refine od ?_;refine wsr ?_;refine Z.s ?_;clear Z;intro a Z
 by_cases h1:EG t from_ to_=0
 ·have HE:=Lib.hid h1;have hne:=Cf h1;clear h1;refine Z.s ?_;clear Z;intro a Z;refine od ?_;refine wp_cond_false (Z.ev 17 rfl) ?_;refine wp_skip ?_;refine wp_seq ?_;refine wsr ?_;refine Z.s ?_;clear Z;intro a Z
  by_cases h2:lim < 0
  ·have HL:=Lib.hid h2;refine Z.s ?_;clear Z;intro a Z;refine od ?_;refine wp_cond_true (Z.ev 20 rfl) ?_;refine wsr ?_;(iterate 3 refine Z.s ?_;clear Z;intro a Z);refine od ?_;refine wp_ret ?_
   try simp only [Exit.then,Exit.inBlock]
   have hR:=Lib.hid (show Fb t from_ to_ lim=(none,1) from by unfold Fb;rw [if_pos HE.out,if_pos HL.out]);rw [hR.out];refine bodyPost_ret (v := .tuple #[.slice none 0 0, .int .i64 0, .int .i64 1]) ?_ Z.defers ⟨hI.below,fun _=>rfl,fun c2 h2=>by simp at h2⟩;simp [results,Try.results49,Z.get 8 _ rfl,Z.get 9 _ rfl,Z.get 10 _ rfl]
  ·have HL:=Lib.hid h2;have h2b:¬ lim < 0:=h2;refine Z.s ?_;clear Z;intro a Z;refine od ?_;refine wp_cond_false (Z.ev 20 rfl) ?_;refine wp_skip ?_;refine wsr ?_;refine og fun K hK =>?_
   have e4:=Z.g 4;have c0:=hI.c0;have c1:=hI.c1;have c2:=hI.c2;have c3:=hI.c3;have c4:=hI.c4;have c5:=hI.c5;unfold Oper.wp;go_simp;clear e4;refine Z.K hK ?_;clear Z hK;intro a Z;(iterate 3 refine Z.s ?_;clear Z;intro a Z);refine og fun K hK =>?_
   have e21:=Z.g 21;have e22:=Z.g 22;have e23:=Z.g 23;have e24:=Z.g 24;unfold Oper.wp;go_simp;refine (Oa (to_:=to_) (lim:=lim) hI.tar (PL HE.out).1 (PL HE.out).2).mono ?_;rintro e x2 ⟨hb2,hN,hS⟩;have hxx:=hI.below.size;replace hI:=hI.keep hb2;clear hb2 e21 e22 e23 e24
   cases hc:G8 t from_ to_ lim with
   | none =>
    obtain rfl:=hN hc;clear hS hN;clear hxx
    try refine ⟨_,rfl,?_⟩
    refine Z.K hK ?_;clear Z hK;intro a Z;obtain ⟨x,hx2⟩:∃ x,x=x2:=⟨_,rfl⟩;rw [← hx2] at hI ⊢;clear hx2;(iterate 6 refine Z.s ?_;clear Z;intro a Z);refine od ?_;refine wp_ret ?_
    try simp only [Exit.then,Exit.inBlock]
    have hR:=Lib.hid (show Fb t from_ to_ lim=(none,11) from by unfold Fb;rw [if_pos HE.out,if_neg HL.out,hc]);rw [hR.out];refine bodyPost_ret (v := .tuple #[.slice none 0 0, .int .i64 0, .int .i64 11]) ?_ Z.defers ⟨hI.below,fun _=>rfl,fun c2 h2=>by simp at h2⟩;simp [results,Try.results49,Z.get 8 _ rfl,Z.get 9 _ rfl,Z.get 10 _ rfl]
   | some c =>
    obtain ⟨cv,rfl,hO,hnn,hl⟩:=hS c hc;clear hS hN;replace hO:=AC.lower hO hxx;clear hxx
    try refine ⟨_,rfl,?_⟩
    refine Z.K hK ?_;clear Z hK;intro a Z;obtain ⟨x,hx2⟩:∃ x,x=x2:=⟨_,rfl⟩;rw [← hx2] at hI ⊢ hO;clear hx2;(iterate 6 refine Z.s ?_;clear Z;intro a Z);refine od ?_;refine wp_ret ?_
    try simp only [Exit.then,Exit.inBlock]
    have hR:=Lib.hid (show Fb t from_ to_ lim=(some c,11) from by unfold Fb;rw [if_pos HE.out,if_neg HL.out,hc]);rw [hR.out];refine bodyPost_ret (v := .tuple #[cv, .int .i64 c.coins, .int .i64 0]) ?_ Z.defers ⟨hI.below,fun h=>by simp at h,fun c2 h2=>by obtain rfl:=Option.some.inj h2;exact ⟨_,rfl,hO,hnn,hl⟩⟩;simp [results,Try.results49,Z.get 8 _ rfl,Z.get 9 _ rfl,Z.get 10 _ rfl]
 ·have HE:=Lib.hid h1;have hne:=C9 h1;clear h1;refine Z.s ?_;clear Z;intro a Z;refine od ?_;refine wp_cond_true (Z.ev 17 rfl) ?_;refine wsr ?_;(iterate 4 refine Z.s ?_;clear Z;intro a Z);refine od ?_;refine wp_ret ?_
  try simp only [Exit.then,Exit.inBlock]
  have hR:=Lib.hid (show Fb t from_ to_ lim=(none,EG t from_ to_) from by unfold Fb;rw [if_neg HE.out]);rw [hR.out];refine bodyPost_ret (v := .tuple #[.slice none 0 0, .int .i64 0, .int .i64 (EG t from_ to_)]) ?_ Z.defers ⟨hI.below,fun _=>rfl,fun c2 h2=>by simp at h2⟩;simp [results,Try.results49,Z.get 8 _ rfl,Z.get 9 _ rfl,Z.get 10 _ rfl]
theorem Qe:Try.f35.body=some (Code.seq (Aa Try.f35 0) (Code.seq (Aa Try.f35 1) Code.ret)):=by kernel_rfl
theorem VG {t:Ac} {s:DF} {w:World} {from_:Int} {way:List Int} {wa:Option Addr} {wc:Nat} (ht:BM w t s) (hw:Aq w wa way) (hwc:way.length≤wc) (hwl:way.length≤1000000):Calls Try.prog 35 #[.agg (Em t s), .int .i64 from_, .slice wa way.length wc] w (Rl w t from_ way):=by
 refine NZ Try.func35 Qe Try.ntmps35 ?_;intro a Z;refine wsr ?_;refine Z.s ?_;clear Z;intro a Z;refine Ae (G:=fun W=>wpOps _ _ _ _ _ W) ?_;intro x hz X hb;have hI:=TI.made (Below.refl _ _) ht X hb;obtain ⟨bt,hbt⟩:∃ b,b=w.heap.size:=⟨_,rfl⟩;rw [← hbt] at Z hI;clear hz X hb hbt;(iterate 2 refine Z.s ?_;clear Z;intro a Z);refine od ?_;refine wsr ?_;refine og fun K hK =>?_
 have e3:=Z.g 3;have c0:=hI.c0;have c1:=hI.c1;have c2:=hI.c2;have c3:=hI.c3;have c4:=hI.c4;have c5:=hI.c5;unfold Oper.wp;go_simp;clear e3;refine Z.K hK ?_;clear Z hK;intro a Z;(iterate 2 refine Z.s ?_;clear Z;intro a Z);refine og fun K hK =>?_
 have e8:=Z.g 8;have e9:=Z.g 9;have e10:=Z.g 10;unfold Oper.wp;go_simp;refine (J4 hI.tar (hw.below hI.below) hwc hwl).mono ?_;rintro e x ⟨hb,va,rfl,hO,hnil⟩;have hxx:=hI.below.size;replace hO:=AC.lower hO hxx;clear hxx;replace hI:=hI.keep hb;clear hb;clear e8 e9 e10;refine Z.K hK ?_;clear Z hK;intro a Z;(iterate 4 refine Z.s ?_;clear Z;intro a Z);refine od ?_;refine wp_ret ?_
 try simp only [Exit.then,Exit.inBlock]
 refine bodyPost_ret (v := .tuple #[va, .int .i64 (BK t from_ way).2]) ?_ Z.defers ⟨hI.below,va,rfl,hO,hnil⟩;simp [results,Try.results35,Z.get 6 _ rfl,Z.get 7 _ rfl]
theorem RI:Try.f34.body=some (Code.seq (Aa Try.f34 0) (Code.seq (Code.seq (Aa Try.f34 1) (Code.seq (Aa Try.f34 2) (Code.cond (Operand.tmp 18) (Code.seq (Aa Try.f34 3) Code.ret) Code.skip))) (Code.seq (Aa Try.f34 4) Code.ret))):=by kernel_rfl
theorem XE {t:Ac} {s:DF} {w:World} {from_:Int} {way:List Int} {wa:Option Addr} {wc:Nat} (ht:BM w t s) (hw:Aq w wa way) (hwc:way.length≤wc) (hwl:way.length≤1000000):Calls Try.prog 34 #[.agg (Em t s), .int .i64 from_, .slice wa way.length wc] w (fun e w'=>e = .returned (.tuple #[.int .i64 (QV t from_ way).1, .int .i64 (QV t from_ way).2])∧Below w.heap.size w w'):=by
 refine NZ Try.func34 RI Try.ntmps34 ?_;intro a Z;refine wsr ?_;refine Z.s ?_;clear Z;intro a Z;refine Ae (G:=fun W=>wpOps _ _ _ _ _ W) ?_;intro x hz X hb;have hI:=TI.made (Below.refl _ _) ht X hb;obtain ⟨bt,hbt⟩:∃ b,b=w.heap.size:=⟨_,rfl⟩;rw [← hbt] at Z hI;clear hz X hb hbt;(iterate 2 refine Z.s ?_;clear Z;intro a Z);refine od ?_;refine wp_seq ?_;refine wsr ?_;refine og fun K hK =>?_
 have e3:=Z.g 3;have c0:=hI.c0;have c1:=hI.c1;have c2:=hI.c2;have c3:=hI.c3;have c4:=hI.c4;have c5:=hI.c5;unfold Oper.wp;go_simp;clear e3;refine Z.K hK ?_;clear Z hK;intro a Z;(iterate 2 refine Z.s ?_;clear Z;intro a Z);refine og fun K hK =>?_
 have e11:=Z.g 11;have e12:=Z.g 12;have e13:=Z.g 13;unfold Oper.wp;go_simp;refine (J4 hI.tar (hw.below hI.below) hwc hwl).mono ?_;rintro e x ⟨hb,va,rfl,hO,hnil⟩;have hxx:=hI.below.size;replace hO:=AC.lower hO hxx;clear hxx;replace hI:=hI.keep hb;clear hb;clear hO hnil;clear e11 e12 e13;refine Z.K hK ?_;clear Z hK;intro a Z;(iterate 5 refine Z.s ?_;clear Z;intro a Z);refine od ?_;refine wsr ?_;refine Z.s ?_;clear Z;intro a Z
 by_cases h1:(BK t from_ way).2=0
 ·have HE:=Lib.hid h1;have hne:=Cf h1;clear h1;refine Z.s ?_;clear Z;intro a Z;refine od ?_;refine wp_cond_false (Z.ev 18 rfl) ?_;refine wp_skip ?_;refine wsr ?_;refine og fun K hK =>?_
  have e3:=Z.g 3;have c0:=hI.c0;have c1:=hI.c1;have c2:=hI.c2;have c3:=hI.c3;have c4:=hI.c4;have c5:=hI.c5;unfold Oper.wp;go_simp;clear e3;refine Z.K hK ?_;clear Z hK;intro a Z;(iterate 2 refine Z.s ?_;clear Z;intro a Z);refine og fun K hK =>?_
  have e20:=Z.g 20;have e21:=Z.g 21;have e22:=Z.g 22;unfold Oper.wp;go_simp;refine (Uj hI.tar (Uo HE.out) (hw.below hI.below) hwc hwl).mono ?_;rintro e x ⟨rfl,hb⟩;replace hI:=hI.keep hb;clear hb;clear e20 e21 e22;refine Z.K hK ?_;clear Z hK;intro a Z;(iterate 2 refine Z.s ?_;clear Z;intro a Z);refine od ?_;refine wp_ret ?_
  try simp only [Exit.then,Exit.inBlock]
  have hR:=Lib.hid (show QV t from_ way=(IE t from_ way,0) from if_pos HE.out);rw [hR.out];refine bodyPost_ret (v := .tuple #[.int .i64 (IE t from_ way), .int .i64 0]) ?_ Z.defers ⟨rfl,hI.below⟩;simp [results,Try.results34,Z.get 6 _ rfl,Z.get 7 _ rfl]
 ·have HE:=Lib.hid h1;have hne:=C9 h1;clear h1;refine Z.s ?_;clear Z;intro a Z;refine od ?_;refine wp_cond_true (Z.ev 18 rfl) ?_;refine wsr ?_;(iterate 3 refine Z.s ?_;clear Z;intro a Z);refine od ?_;refine wp_ret ?_
  try simp only [Exit.then,Exit.inBlock]
  have hR:=Lib.hid (show QV t from_ way=(0,(BK t from_ way).2) from if_neg HE.out);rw [hR.out];refine bodyPost_ret (v := .tuple #[.int .i64 0, .int .i64 (BK t from_ way).2]) ?_ Z.defers ⟨rfl,hI.below⟩;simp [results,Try.results34,Z.get 6 _ rfl,Z.get 7 _ rfl]
end
section
open Go.RowKit
structure AaU where
 owner:Int
 coins:Int
def ZE (w:World) (a:Option Addr) (l:List AaU):Prop :=
 l=[]∨∃ b o,a=some ⟨b,o,none⟩∧∀ (i:Nat) (h:i < l.length),w.cell? ⟨b,o+i*2,none⟩=some (.int .i64 l[i].owner)∧w.cell? ⟨b,o+i*2+1,none⟩=some (.int .i64 l[i].coins)
theorem ZE.at {w:World} {a:Option Addr} {l:List AaU} (h:ZE w a l) {i:Nat} (hi:i < l.length):∃ b o,a=some ⟨b,o,none⟩∧w.cell? ⟨b,o+i*2,none⟩=some (.int .i64 l[i].owner)∧w.cell? ⟨b,o+i*2+1,none⟩=some (.int .i64 l[i].coins):=by
 rcases h with rfl | ⟨b,o,ha,h⟩
 ·simp at hi
 ·exact ⟨b,o,ha,h i hi⟩
def NP (l:List Int):Array Value:=(l.map fun x=>Value.int .i64 x).toArray
theorem QK {l:List Int} {i:Nat} (h:i < l.length):(NP l)[i]? = some (.int .i64 l[i]):=by simp [NP,h]
end
end Go.Proofs.Ytgdobbcjkiapkaa
