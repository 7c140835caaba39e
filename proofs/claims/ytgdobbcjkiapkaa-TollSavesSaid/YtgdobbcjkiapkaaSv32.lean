import Derived.Test.YtgdobbcjkiapkaaSv19
import Derived.Test.YtgdobbcjkiapkaaSv04
import Derived.Test.YtgdobbcjkiapkaaSv31
import Derived.Test.YtgdobbcjkiapkaaSv18
import Derived.Test.YtgdobbcjkiapkaaSv01
import Derived.Test.YtgdobbcjkiapkaaSv02
import Derived.Test.YtgdobbcjkiapkaaSv22
namespace Go.Proofs.Ytgdobbcjkiapkaa
set_option maxRecDepth 100000
set_option maxHeartbeats 4000000
set_option linter.unusedSimpArgs false
set_option linter.unusedVariables false
section
open Go.RowKit
theorem SC:(fun r=>Try.f118.body=some (.seq (r 0) (.seq (r 1) .ret))) (Ac Try.f118):=by show _=_;kernel_rfl
theorem X7 {w:World}:Calls Try.prog 118 #[] w (fun e w'=>e=.returned (.agg #[.func (.func 127) #[] #[]])∧Below w.heap.size w w'):=by
 refine AaX Try.func118 SC Try.ntmps118 ?_;intro a Z;refine wsr ?_;refine Z.s ?_;clear Z;intro a Z;refine aw ?_;obtain⟨b,hg⟩:∃ b,b=w.heap.size:=⟨_,rfl⟩;intro x hz KX hb;rw[← hg]at Z KX;have hbl:w.heap.size≤b:=by omega
 clear hz hg;refine od ?_;refine wsr ?_;refine Z.s ?_;clear Z;intro a Z;refine oz fun K hK=>?_
 have e0:=Z.g 0;have e1:=Z.g 1;have c0:=KX.cell (o:=0) rfl;have z0:=KX.fz 0;go_simp;clear e0 e1;refine hK _ _ ?_;clear hK;replace hb:=hb.setCell (p:=⟨b,0,none⟩) (by show w.heap.size≤b;exact hbl) (.func (.func 127) #[] #[]);replace KX:=KX.set 0 (.func (.func 127) #[] #[]);refine od ?_;refine wp_ret ?_
 try simp only[xt]
 have c1:=KX.cell (o:=0) rfl;refine bodyPost_ret (v:=.agg #[.func (.func 127) #[] #[]]) ?_ Z.defers ⟨rfl,hb⟩;simp[results,Try.results118,Z.get 0 _ rfl,go_sem,c1]
def Aa7 (t:Ae) (from_ to_ lim:Int):Option EU:=Yd ((NQ t from_ to_).filter (MS lim))
def UE (w0:World) (r:Option EU) (err:Int) (e:Ending) (w':World):Prop :=
 Below w0.heap.size w0 w'∧(r=none→e=.returned (.tuple #[.slice none 0 0,.int .i64 0,.int .i64 err]))∧(∀ c,r=some c→∃ v,e=.returned (.tuple #[v,.int .i64 c.coins,.int .i64 0])∧Df w' w0.heap.size v c.way∧v ≠ .slice none 0 0∧c.way.length≤1000)
theorem Qu:(fun r=>Try.f96.body=some (.seq (r 0) (.seq (r 1) (.seq (.seq (r 2) (.cond (.tmp 20) (.seq (r 3) .ret) .skip)) (.seq (r 4) .ret))))) (Ac Try.f96):=by show _=_;kernel_rfl
theorem UI {t:Ae}{s:Dt}{w:World}{from_ to_ lim:Int}(ht:Bf w t s) (hT:Aq t=0) (hfr:btw from_ 0 (t.roads.stages-1)=true):Calls Try.prog 96 #[.agg (CJ t s),.int .i64 from_,.int .i64 to_,.int .i64 lim] w (UE w (Aa7 t from_ to_ lim) 11):=by
 refine call4 Try.func96 Qu Try.ntmps96 ?_;intro a Z;refine wsr ?_;refine Z.s ?_;clear Z;intro a Z;refine aw ?_;obtain⟨bt,hg⟩:∃ g,g=w.heap.size:=⟨_,rfl⟩;intro x hz Kt hb;rw[← hg]at Z Kt;have h0:w.heap.size≤bt:=by omega
 clear hg hz;refine Z.s ?_;clear Z;intro a Z;refine aw ?_;obtain⟨bf,hg⟩:∃ g,g=x.heap.size:=⟨_,rfl⟩;have hz0:=hb.size;intro x hz Kf hb2;rw[← hg]at Z Kf;have h1:w.heap.size≤bf:=by omega
 replace hb:=hb.trans (hb2.mono hb.size);replace Kt:=Kt.below hb2;clear hz0 hb2;clear hg hz;refine Z.s ?_;clear Z;intro a Z;refine aw ?_;obtain⟨bto,hg⟩:∃ g,g=x.heap.size:=⟨_,rfl⟩;have hz0:=hb.size;intro x hz Kto hb2;rw[← hg]at Z Kto;have h2:w.heap.size≤bto:=by omega
 replace hb:=hb.trans (hb2.mono hb.size);replace Kt:=Kt.below hb2;replace Kf:=Kf.below hb2;clear hz0 hb2;clear hg hz;refine Z.s ?_;clear Z;intro a Z;refine aw ?_;obtain⟨bl,hg⟩:∃ g,g=x.heap.size:=⟨_,rfl⟩;have hz0:=hb.size;intro x hz Kl hb2;rw[← hg]at Z Kl;have h3:w.heap.size≤bl:=by omega
 replace hb:=hb.trans (hb2.mono hb.size);replace Kt:=Kt.below hb2;replace Kf:=Kf.below hb2;replace Kto:=Kto.below hb2;clear hz0 hb2;clear hg hz;(iterate 3 refine Z.s ?_;clear Z;intro a Z);refine od ?_;refine wsr ?_;refine Z.s ?_;clear Z;intro a Z;refine oz fun K hK=>?_
 go_simp;refine X7.mono ?_;rintro e x ⟨rfl,hb2⟩;replace Kt:=Kt.below hb2;replace Kf:=Kf.below hb2;replace Kto:=Kto.below hb2;replace Kl:=Kl.below hb2;replace hb:=hb.trans (hb2.mono hb.size);clear hb2;refine Z.K hK ?_;clear Z hK;intro a Z;refine oz fun K hK=>?_
 have e14:=Z.g 14;have e15:=Z.g 15;have hbe:=WB (Qs (lim:=lim) (bt:=bt) (bf:=bf) (bto:=bto) (bl:=bl) (to_:=to_) (s:=s) hT hfr) (w0:=x) (fun V hV=>⟨⟨ht.below (hb.trans (hV.mono hb.size)),Kt.below hV,Kf.below hV,Kto.below hV⟩,Kl.below hV⟩) (fun l W=>by simp[invoke,go_sem]);go_simp;refine hbe.mono ?_;rintro e x2 ⟨hb2,hN,hS⟩;have hxx:=hb.size;replace hb:=hb.trans (hb2.mono hb.size);clear hb2 Kt Kf Kto Kl hbe;have hW:Aa7 t from_ to_ lim=Yd ((NQ t from_ to_).filter (MS lim)):=rfl;rw[← hW]at hN hS;clear hW;clear e14 e15
 cases hc:Aa7 t from_ to_ lim with
 | none =>
  obtain rfl:=hN hc;clear hS hN hxx
  try simp only[Value.elem?]
  try refine⟨_,rfl,?_⟩
  refine Z.K hK ?_;clear Z hK;intro a Z;obtain⟨x,hx2⟩:∃ x,x=x2:=⟨_,rfl⟩;rw[← hx2]at hb ⊢;clear hx2;(iterate 3 refine Z.s ?_;clear Z;intro a Z);refine oz fun K hK=>?_
  obtain⟨bc,hg⟩:∃ b,b=x.heap.size:=⟨_,rfl⟩;go_simp;refine Z.K hK ?_;clear Z hK;intro a Z;refine oz fun K hK=>?_
  have e11:=Z.g 11;have e17:=Z.g 17;go_simp;clear e11 e17;refine hK _ _ ?_;clear hK;have hbs:=hb.size;refine aw ?_;intro x2 hz KC hb3;rw[← hg]at Z KC;replace hb:=hb.trans (hb3.mono hb.size)
  skip
  have hbc:w.heap.size≤bc:=by rw[hg];exact hbs
  clear hz hb3 hg hbs;obtain⟨x,hx3⟩:∃ x,x=x2:=⟨_,rfl⟩;rw[← hx3]at hb KC ⊢;clear hx3;refine Z.e ?_;clear Z;intro a Z;refine wss ?_;(iterate 2 refine Z.s ?_;clear Z;intro a Z);refine od ?_;refine Z.ct 20 ?_;refine wsr ?_;(iterate 3 refine Z.s ?_;clear Z;intro a Z);refine od ?_;refine wp_ret ?_
  try simp only[xt]
  refine bodyPost_ret (v:=.tuple #[.slice none 0 0,.int .i64 0,.int .i64 11]) ?_ Z.defers ⟨hb,fun _=>rfl,fun c2 h2=>by rw[hc]at h2;simp at h2⟩;simp[results,Try.results96,Z.get 8 _ rfl,Z.get 9 _ rfl,Z.get 10 _ rfl]
 | some c =>
  obtain⟨cv,rfl,hO,hnn,hl⟩:=hS c hc;clear hS hN;replace hO:=AU.lower hO hxx;clear hxx;obtain⟨ga,ca,hcv,_⟩:=Df.sl hO hnn;subst hcv
  try simp only[Value.elem?]
  try refine⟨_,rfl,?_⟩
  refine Z.K hK ?_;clear Z hK;intro a Z;obtain⟨x,hx2⟩:∃ x,x=x2:=⟨_,rfl⟩;rw[← hx2]at hb ⊢ hO;clear hx2;(iterate 3 refine Z.s ?_;clear Z;intro a Z);refine oz fun K hK=>?_
  obtain⟨bc,hg⟩:∃ b,b=x.heap.size:=⟨_,rfl⟩;go_simp;refine Z.K hK ?_;clear Z hK;intro a Z;refine oz fun K hK=>?_
  have e11:=Z.g 11;have e17:=Z.g 17;go_simp;clear e11 e17;refine hK _ _ ?_;clear hK;have hbs:=hb.size;refine aw ?_;intro x2 hz KC hb3;rw[← hg]at Z KC;replace hb:=hb.trans (hb3.mono hb.size);replace hO:=hO.below hb3;have hbc:w.heap.size≤bc:=by rw[hg];exact hbs
  clear hz hb3 hg hbs;obtain⟨x,hx3⟩:∃ x,x=x2:=⟨_,rfl⟩;rw[← hx3]at hb KC ⊢ hO;clear hx3;refine Z.e ?_;clear Z;intro a Z;refine wss ?_;(iterate 2 refine Z.s ?_;clear Z;intro a Z);refine od ?_;refine Z.cs 20 ?_;refine wp_seq ?_;replace KC:Rw x bc #[.slice (some ⟨ga,0,none⟩) c.way.length ca,.int .i64 c.coins,.int .i64 c.leagues] 149:=KC;rw[show Ac Try.f96 4=Code.region 4 _ true from rfl];refine D8 (by kernel_rfl) ((Z.nil.cons (Z.g 11))) [some 21,some 22,some 23,some 24,some 8,some 9,some 10] rfl rfl (by kernel_rfl) (fun j v _=>match j with|0=>v=.pointer (some ⟨bc,0,none⟩)|1=>v=.slice (some ⟨ga,0,none⟩) c.way.length ca|2=>v=.pointer (some ⟨bc,1,none⟩)|3=>v=.int .i64 c.coins|4=>v=.slice (some ⟨ga,0,none⟩) c.way.length ca|5=>v=.int .i64 c.coins|6=>v=.int .i64 0|_=>True) (fun _ x=>Rw x bc #[.slice (some ⟨ga,0,none⟩) c.way.length ca,.int .i64 c.coins,.int .i64 c.leagues] 149∧Below w.heap.size w x∧Df x w.heap.size (.slice (some ⟨ga,0,none⟩) c.way.length ca) c.way) (⟨KC.below (Below.refl _ _).drew,hb.trans ((Below.refl _ _).drew.mono hb.size),hO.below (Below.refl _ _).drew⟩) ?_ ?_
  ·clear Z;intro k o hkl ho L a x hI hLk Z hs hd;have hlt:∀ k:Nat,k<7→k=0∨k=1∨k=2∨k=3∨k=4∨k=5∨k=6:=by decide
   rcases hlt k hkl with rfl|rfl|rfl|rfl|rfl|rfl|rfl
   ·obtain rfl:=Option.some.inj ho;have e11:=Z.g 11;clear hs hd;refine wz fun K hK=>?_
    go_simp;exact hK _ _ ⟨_,rfl,rfl,hI,fun _ _ h=>h⟩
   ·obtain rfl:=Option.some.inj ho;obtain⟨_,e21,rfl⟩:=hs 0 _ 21 rfl rfl (hd 0 wm);have c0:=hI.1.cell (o:=0) rfl;clear hs hd;refine wz fun K hK=>?_
    go_simp;exact hK _ _ ⟨_,rfl,rfl,hI,fun _ _ h=>h⟩
   ·obtain rfl:=Option.some.inj ho;have e11:=Z.g 11;clear hs hd;refine wz fun K hK=>?_
    go_simp;exact hK _ _ ⟨_,rfl,rfl,hI,fun _ _ h=>h⟩
   ·obtain rfl:=Option.some.inj ho;obtain⟨_,e23,rfl⟩:=hs 2 _ 23 rfl rfl (hd 2 wm);have c1:=hI.1.cell (o:=1) rfl;clear hs hd;refine wz fun K hK=>?_
    go_simp;exact hK _ _ ⟨_,rfl,rfl,hI,fun _ _ h=>h⟩
   ·obtain rfl:=Option.some.inj ho;obtain⟨_,e22,rfl⟩:=hs 1 _ 22 rfl rfl (hd 1 wm);clear hs hd;refine wz fun K hK=>?_
    go_simp;exact hK _ _ ⟨_,rfl,rfl,hI,fun _ _ h=>h⟩
   ·obtain rfl:=Option.some.inj ho;obtain⟨_,e24,rfl⟩:=hs 3 _ 24 rfl rfl (hd 3 wm);clear hs hd;refine wz fun K hK=>?_
    go_simp;exact hK _ _ ⟨_,rfl,rfl,hI,fun _ _ h=>h⟩
   ·obtain rfl:=Option.some.inj ho;clear hs hd;refine wz fun K hK=>?_
    go_simp;exact hK _ _ ⟨_,rfl,rfl,hI,fun _ _ h=>h⟩
  ·clear Z;intro L a x hall hI Z hs;obtain⟨v8,e8,hv8⟩:=hs 4 _ 8 rfl rfl (hall 4 (by decide));obtain rfl:=hv8;obtain⟨v9,e9,hv9⟩:=hs 5 _ 9 rfl rfl (hall 5 (by decide));obtain rfl:=hv9;obtain⟨_,e10,rfl⟩:=hs 6 _ 10 rfl rfl (hall 6 (by decide));replace Z:=(((Z.cons e8).cons e9).cons e10);clear hs hall e8 e9 e10;refine wp_ret ?_
   try simp only[xt]
   obtain⟨KC,hb,hO⟩:=hI;refine bodyPost_ret (v:=.tuple #[.slice (some ⟨ga,0,none⟩) c.way.length ca,.int .i64 c.coins,.int .i64 0]) ?_ Z.defers ⟨hb,fun h=>by rw[hc]at h;simp at h,fun c2 h2=>by rw[hc]at h2;obtain rfl:=Option.some.inj h2;exact⟨_,rfl,hO,hnn,hl⟩⟩;simp[results,Try.results96,Z.get 8 _ rfl,Z.get 9 _ rfl,Z.get 10 _ rfl]
def Iq (t:Ae) (from_ to_:Int):Int:=if Aq t=0 then (if (btw from_ 0 (t.roads.stages-1) && btw to_ 0 (t.roads.stages-1))=true then 0 else 3) else Aq t
def KY (t:Ae) (from_ to_:Int):Option EU×Int:=if Iq t from_ to_=0 then (Aa7 t from_ to_ (-1),11) else (none,Iq t from_ to_)
theorem ZW {t:Ae}{from_:Int}{way:List Int}(h:(C9 t from_ way).2=0):Aq t=0:=by
 rcases Classical.em (Aq t=0) with h1|h1
 ·exact h1
 ·have:=(H9 (from_:=from_) (way:=way)).1 h1;rw[this]at h;exact absurd h h1
theorem Ee {t:Ae}{l:List Ar}(h:Bc t l=0):Aq t=0:=by
 rcases Classical.em (Aq t=0) with h1|h1
 ·exact h1
 ·rw[Ha.1 h1]at h;exact absurd h h1
theorem CZ {t:Ae}{l:List Ar}(h:Bc t l=0):DZ t l∧l.length≤1000:=by
 have h1:=Ee h;rcases Nat.lt_or_ge 24 l.length with h2|h2
 ·rw[Ha.2.1 h1 h2]at h;exact absurd h (by decide)
 ·rw[Ha.2.2 h1 h2]at h;exact⟨MF h,by omega⟩
theorem XR {t:Ae}{from_ to_:Int}(h:Iq t from_ to_=0):Aq t=0∧btw from_ 0 (t.roads.stages-1)=true:=by
 unfold Iq at h
 split at h
 ·rename_i h1
  split at h
  ·rename_i h2;simp only[Bool.and_eq_true]at h2;exact⟨h1,h2.1⟩
  ·exact absurd h (by decide)
 ·rename_i h1;exact absurd h h1
theorem UU:(fun r=>Try.f95.body=some (.seq (r 0) (.seq (.seq (r 1) (.seq (r 2) (.cond (.tmp 11) (.seq (r 3) .ret) .skip))) (.seq (.seq (r 4) (.cond (.tmp 28) (.seq (r 5) .ret) .skip)) (.seq (r 6) .ret))))) (Ac Try.f95):=by show _=_;kernel_rfl
theorem Zy {t:Ae}{s:Dt}{w:World}{from_ to_:Int}(ht:Bf w t s):Calls Try.prog 95 #[.agg (CJ t s),.int .i64 from_,.int .i64 to_] w (fun e w'=>e=.returned (.int .i64 (Iq t from_ to_))∧Below w.heap.size w w'):=by
 refine NU Try.func95 UU Try.ntmps95 ?_;intro a Z;refine wsr ?_;refine Z.s ?_;clear Z;intro a Z;refine aw ?_;intro x hz X hb;have hI:=TI.made (Below.refl _ _) ht X hb;obtain⟨bt,hbt⟩:∃ b,b=w.heap.size:=⟨_,rfl⟩;rw[← hbt]at Z hI;clear hz X hb hbt;refine Z.e ?_;clear Z;intro a Z;refine wss ?_;refine oz fun K hK=>?_
 have e3:=Z.g 3;have c0:=hI.c0;have c1:=hI.c1;have c2:=hI.c2;have c3:=hI.c3;have c4:=hI.c4;have c5:=hI.c5;go_simp;refine Z.K hK ?_;clear Z hK;intro a Z;refine oz fun K hK=>?_
 have e8:=Z.g 8;go_simp;refine(Lt hI.tar).mono ?_;rintro e x ⟨rfl,hb⟩;replace hI:=hI.keep hb;clear hb;refine Z.K hK ?_;clear Z hK;intro a Z;refine Z.e ?_;clear Z;intro a Z;refine wsr ?_;refine Z.s ?_;clear Z;intro a Z
 by_cases h1:Aq t=0
 ·have hne:=BO h1;refine Z.e ?_;clear Z;intro a Z;refine Z.cs 11 ?_;refine wss ?_;(iterate 3 refine Z.s ?_;clear Z;intro a Z);refine Z.f hI.c1 ?_;clear Z;intro a Z;refine oz fun K hK=>?_
  have e16:=Z.g 16;have hww:IntKind.i64.wrap (t.roads.stages-1)=t.roads.stages-1:=IntWalk.i64_in _ (by have:=FC (AY h1).1;omega);go_simp;refine Z.K hK ?_;clear Z hK;intro a Z;refine oz fun K hK=>?_
  have e13:=Z.g 13;have e17:=Z.g 17;go_simp;refine(BH _ _ _ _).mono ?_;rintro e x ⟨rfl,rfl⟩;refine Z.K hK ?_;clear Z hK;intro a Z;rcases Bool.eq_false_or_eq_true (btw from_ 0 (t.roads.stages-1)) with h2|h2
  ·rw[h2]at Z;(iterate 5 refine Z.x ?_;clear Z;intro a Z);refine oy (Z.g 20) fun K hK=>?_
   have e23:=Z.g 23;have c1:=hI.c1;go_simp;refine Z.K hK ?_;clear Z hK;intro a Z;refine oy (Z.g 20) fun K hK=>?_
   have e24:=Z.g 24;have hww:IntKind.i64.wrap (t.roads.stages-1)=t.roads.stages-1:=IntWalk.i64_in _ (by have:=FC (AY h1).1;omega);go_simp;refine Z.K hK ?_;clear Z hK;intro a Z;refine oy (Z.g 20) fun K hK=>?_
   have e21:=Z.g 21;have e25:=Z.g 25;go_simp;refine(BH _ _ _ _).mono ?_;rintro e x ⟨rfl,rfl⟩;refine Z.K hK ?_;clear Z hK;intro a Z;rcases Bool.eq_false_or_eq_true (btw to_ 0 (t.roads.stages-1)) with h3|h3
   ·rw[h3]at Z;(iterate 2 refine Z.x ?_;clear Z;intro a Z);refine od ?_;refine Z.cs 28 ?_;refine wsr ?_;refine Z.e ?_;clear Z;intro a Z;refine wp_ret ?_
    try simp only[xt]
    have hR:=Lib.hid (show Iq t from_ to_=0 from by unfold Iq;rw[if_pos h1,if_pos (by rw[h2,h3];rfl)]);exact Z.rt (v:=.int .i64 (Iq t from_ to_)) 6 ⟨rfl,hI.below⟩ (hm:=by rw[hR.out];rfl)
   ·rw[h3]at Z;(iterate 2 refine Z.x ?_;clear Z;intro a Z);refine od ?_;refine Z.ct 28 ?_;refine wsr ?_;refine Z.e ?_;clear Z;intro a Z;refine wp_ret ?_
    try simp only[xt]
    have hR:=Lib.hid (show Iq t from_ to_=3 from by unfold Iq;rw[if_pos h1,if_neg (by rw[h2,h3];decide)]);exact Z.rt (v:=.int .i64 (Iq t from_ to_)) 6 ⟨rfl,hI.below⟩ (hm:=by rw[hR.out];rfl)
  ·rw[h2]at Z;(iterate 10 refine Z.x ?_;clear Z;intro a Z);refine od ?_;refine Z.ct 28 ?_;refine wsr ?_;refine Z.e ?_;clear Z;intro a Z;refine wp_ret ?_
   try simp only[xt]
   have hR:=Lib.hid (show Iq t from_ to_=3 from by unfold Iq;rw[if_pos h1,if_neg (by rw[h2];simp)]);exact Z.rt (v:=.int .i64 (Iq t from_ to_)) 6 ⟨rfl,hI.below⟩ (hm:=by rw[hR.out];rfl)
 ·have hne:=CB h1;have hR:=Lib.hid (show Iq t from_ to_=Aq t from if_neg h1);refine Z.e ?_;clear Z;intro a Z;refine Z.ct 11 ?_;refine wsr ?_;(iterate 2 refine Z.s ?_;clear Z;intro a Z);refine od ?_;refine wp_ret ?_
  try simp only[xt]
  exact Z.rt (v:=.int .i64 (Iq t from_ to_)) 6 ⟨rfl,hI.below⟩ (hm:=by rw[hR.out];rfl)
theorem Ol:(fun r=>Try.f48.body=some (.seq (r 0) (.seq (.seq (r 1) (.seq (r 2) (.cond (.tmp 15) (.seq (r 3) .ret) .skip))) (.seq (r 4) .ret)))) (Ac Try.f48):=by show _=_;kernel_rfl
theorem Rx {t:Ae}{s:Dt}{w:World}{from_ to_:Int}(ht:Bf w t s):Calls Try.prog 48 #[.agg (CJ t s),.int .i64 from_,.int .i64 to_] w (UE w (KY t from_ to_).1 (KY t from_ to_).2):=by
 refine NU Try.func48 Ol Try.ntmps48 ?_;intro a Z;refine wsr ?_;refine Z.s ?_;clear Z;intro a Z;refine aw ?_;intro x hz X hb;have hI:=TI.made (Below.refl _ _) ht X hb;obtain⟨bt,hbt⟩:∃ b,b=w.heap.size:=⟨_,rfl⟩;rw[← hbt]at Z hI;clear hz X hb hbt;(iterate 3 refine Z.s ?_;clear Z;intro a Z);refine od ?_;refine wss ?_;refine oz fun K hK=>?_
 have e3:=Z.g 3;have c0:=hI.c0;have c1:=hI.c1;have c2:=hI.c2;have c3:=hI.c3;have c4:=hI.c4;have c5:=hI.c5;go_simp;refine Z.K hK ?_;clear Z hK;intro a Z;(iterate 2 refine Z.s ?_;clear Z;intro a Z);refine oz fun K hK=>?_
 have e10:=Z.g 10;have e11:=Z.g 11;have e12:=Z.g 12;go_simp;refine(Zy hI.tar).mono ?_;rintro e x ⟨rfl,hb⟩;replace hI:=hI.keep hb;clear hb;refine Z.K hK ?_;clear Z hK;intro a Z;refine Z.e ?_;clear Z;intro a Z;refine wsr ?_;refine Z.s ?_;clear Z;intro a Z
 by_cases h1:Iq t from_ to_=0
 ·have HE:=Lib.hid h1;have hne:=BO h1;clear h1;refine Z.e ?_;clear Z;intro a Z;refine Z.cs 15 ?_;refine wsr ?_;refine oz fun K hK=>?_
  have e3:=Z.g 3;have c0:=hI.c0;have c1:=hI.c1;have c2:=hI.c2;have c3:=hI.c3;have c4:=hI.c4;have c5:=hI.c5;go_simp;refine Z.K hK ?_;clear Z hK;intro a Z;(iterate 2 refine Z.s ?_;clear Z;intro a Z);refine oz fun K hK=>?_
  have e17:=Z.g 17;have e18:=Z.g 18;have e19:=Z.g 19;go_simp;refine(UI (to_:=to_) (lim:=(-1)) hI.tar (XR HE.out).1 (XR HE.out).2).mono ?_;rintro e x2 ⟨hb2,hN,hS⟩;have hxx:=hI.below.size;replace hI:=hI.keep hb2;clear hb2 e17 e18 e19
  cases hc:Aa7 t from_ to_ (-1) with
  | none =>
   obtain rfl:=hN hc;clear hS hN;clear hxx
   try refine⟨_,rfl,?_⟩
   refine Z.K hK ?_;clear Z hK;intro a Z;obtain⟨x,hx2⟩:∃ x,x=x2:=⟨_,rfl⟩;rw[← hx2]at hI ⊢;clear hx2;(iterate 6 refine Z.s ?_;clear Z;intro a Z);refine od ?_;refine wp_ret ?_
   try simp only[xt]
   have hR:=Lib.hid (show KY t from_ to_=(none,11) from by unfold KY;rw[if_pos HE.out,hc]);rw[hR.out];refine bodyPost_ret (v:=.tuple #[.slice none 0 0,.int .i64 0,.int .i64 11]) ?_ Z.defers ⟨hI.below,fun _=>rfl,fun c2 h2=>by simp at h2⟩;simp[results,Try.results48,Z.get 6 _ rfl,Z.get 7 _ rfl,Z.get 8 _ rfl]
  | some c =>
   obtain⟨cv,rfl,hO,hnn,hl⟩:=hS c hc;clear hS hN;replace hO:=AU.lower hO hxx;clear hxx
   try refine⟨_,rfl,?_⟩
   refine Z.K hK ?_;clear Z hK;intro a Z;obtain⟨x,hx2⟩:∃ x,x=x2:=⟨_,rfl⟩;rw[← hx2]at hI ⊢ hO;clear hx2;(iterate 6 refine Z.s ?_;clear Z;intro a Z);refine od ?_;refine wp_ret ?_
   try simp only[xt]
   have hR:=Lib.hid (show KY t from_ to_=(some c,11) from by unfold KY;rw[if_pos HE.out,hc]);rw[hR.out];refine bodyPost_ret (v:=.tuple #[cv,.int .i64 c.coins,.int .i64 0]) ?_ Z.defers ⟨hI.below,fun h=>by simp at h,fun c2 h2=>by obtain rfl:=Option.some.inj h2;exact⟨_,rfl,hO,hnn,hl⟩⟩;simp[results,Try.results48,Z.get 6 _ rfl,Z.get 7 _ rfl,Z.get 8 _ rfl]
 ·have HE:=Lib.hid h1;have hne:=CB h1;clear h1;refine Z.e ?_;clear Z;intro a Z;refine Z.ct 15 ?_;refine wsr ?_;(iterate 4 refine Z.s ?_;clear Z;intro a Z);refine od ?_;refine wp_ret ?_
  try simp only[xt]
  have hR:=Lib.hid (show KY t from_ to_=(none,Iq t from_ to_) from by unfold KY;rw[if_neg HE.out]);rw[hR.out];refine bodyPost_ret (v:=.tuple #[.slice none 0 0,.int .i64 0,.int .i64 (Iq t from_ to_)]) ?_ Z.defers ⟨hI.below,fun _=>rfl,fun c2 h2=>by simp at h2⟩;simp[results,Try.results48,Z.get 6 _ rfl,Z.get 7 _ rfl,Z.get 8 _ rfl]
theorem QC:(fun r=>Try.f35.body=some (.seq (r 0) (.seq (r 1) .ret))) (Ac Try.f35):=by show _=_;kernel_rfl
theorem V6 {t:Ae}{s:Dt}{w:World}{from_:Int}{way:List Int}{wa:Option Addr}{wc:Nat}(ht:Bf w t s) (hw:AX w wa way) (hwc:way.length≤wc) (hwl:way.length≤1000000):Calls Try.prog 35 #[.agg (CJ t s),.int .i64 from_,.slice wa way.length wc] w (RV w t from_ way):=by
 refine NU Try.func35 QC Try.ntmps35 ?_;intro a Z;refine wsr ?_;refine Z.s ?_;clear Z;intro a Z;refine aw ?_;intro x hz X hb;have hI:=TI.made (Below.refl _ _) ht X hb;obtain⟨bt,hbt⟩:∃ b,b=w.heap.size:=⟨_,rfl⟩;rw[← hbt]at Z hI;clear hz X hb hbt;(iterate 2 refine Z.s ?_;clear Z;intro a Z);refine od ?_;refine wsr ?_;refine oz fun K hK=>?_
 have e3:=Z.g 3;have c0:=hI.c0;have c1:=hI.c1;have c2:=hI.c2;have c3:=hI.c3;have c4:=hI.c4;have c5:=hI.c5;go_simp;refine Z.K hK ?_;clear Z hK;intro a Z;(iterate 2 refine Z.s ?_;clear Z;intro a Z);refine oz fun K hK=>?_
 have e8:=Z.g 8;have e9:=Z.g 9;have e10:=Z.g 10;go_simp;refine(NY hI.tar (hw.below hI.below) hwc hwl).mono ?_;rintro e x ⟨hb,va,rfl,hO,hnil⟩;have hxx:=hI.below.size;replace hO:=AU.lower hO hxx;clear hxx;replace hI:=hI.keep hb;clear hb;refine Z.K hK ?_;clear Z hK;intro a Z;(iterate 4 refine Z.s ?_;clear Z;intro a Z);refine od ?_;refine wp_ret ?_
 try simp only[xt]
 refine bodyPost_ret (v:=.tuple #[va,.int .i64 (C9 t from_ way).2]) ?_ Z.defers ⟨hI.below,va,rfl,hO,hnil⟩;simp[results,Try.results35,Z.get 6 _ rfl,Z.get 7 _ rfl]
end
section
open Go Go.Conc
open Go.RowKit
section
variable {P:Program}{M:Machine}{ops:Array Oper}{Q:Exit→Act→World→Prop}{i:Nat}{rest:List Nat}{o:Oper}{a:Act}{w:World}{n d:Nat}{m:List (Nat×Value)}{v:Value}
theorem Gj {id:Nat}(h:Je Q):Je (Exit.inBlock id Q):=fun a w hx=>h a w hx
theorem Hl {fn:Func}{R:Ending→World→Prop}(h:∀ w,¬ R .outgrown w):Je (bodyPost P fn R):=fun _ w hx=>h w hx
theorem Sl.kX (h:Sl a n m) {K:Act→World→Prop}(hK:∀ a w,MR P M ops Q rest a w→K a w) (hd:d<n) (hG:∀ a',Sl a' n ((d,v)::m)→MR P M ops Q rest a' w):K (a.put (some d) v) w:=hK _ _ (hG _ (h.put d v hd))
theorem Sl.goX (h:Sl a n m) (hd:d<n) (hG:∀ a',Sl a' n ((d,v)::m)→MR P M ops Q rest a' w):MR P M ops Q rest (a.put (some d) v) w:=hG _ (h.put d v hd)
theorem Il {fc:FuncId}{F:Func}{ars:Array Operand}{ats:Array TypeId}(ho:ops[i]?=some o) (hg:o.guard=none) (hop:o.op=.call { callee:=.value (.func fc),args:=ars,argTypes:=ats })
  (hF:P.funcs[fc]?=some F) (hname:(F.name == "runtime.NumGoroutine")=false) (hbody:F.body.isNone=false) {args:Array Value}(ha:ars.map a.eval=args) {R:Ending→World→Prop}(hc:Dz P M fc args w R)
  (h:∀ e w'',R e w''→∃ v,e=.returned v∧MR P M ops Q rest (a.put o.dst v) w''):MR P M ops Q (i::rest) a w:=by
 have hr:=Kq (P:=P) (w:=w) (a:=a) hop rfl hF hname hbody;refine Xm ho hg (f:=fc) (args:=args) (w':=w) ?_ hc h;rw[hr,← ha];simp
theorem Aap (hP:EK P) {f:Func}{k id:Nat}(hno:Je Q) (e:Ac f k=Code.region id ops false) (h:MR P M ops Q (List.range ops.size) a w):wpX P M (Ac f k) Q a w:=by
 rw[e];exact Jh hP hno h
theorem Oe (hP:EK P) {c:Code}(I:Nat→Act→World→Prop) (n:Nat) (h₀:I n a w)
  (round:∀ n a w,I n a w→wpX P M c (Exit.then (fun a' w'=>∃ m,m<n∧I m a' w') Q) a w):wpX P M (.loop c) Q a w:=by
 intro b k cs n₁ hg
 have key:∀ (m:Nat) (a:Act) (w:World) (n₁:Nat),I m a w→IM P M n₁ (G (b.at a (.code c :: .inLoop c::k)) cs) w→∃ e a' w',Q e a' w'∧Yx P M n₁ b k cs e a' w':=by
  intro m
  induction m using Nat.strongRecOn with
  | _ m ih =>
   intro a w n₁ hI hg;obtain⟨e,a₁,w₁,hq,harr⟩:=round m a w hI b (.inLoop c::k) cs n₁ hg
   cases e with
   | normal =>
    obtain⟨m',hlt,hI₁⟩:=hq;obtain⟨n1,hn1,hg1⟩:=harr;obtain⟨n2,hn2,hg2⟩:=AA hP (.one step_inLoop) hg1;obtain⟨e₂,a₂,w₂,hq₂,harr₂⟩:=ih m' hlt a₁ w₁ n2 hI₁ hg2;exact⟨e₂,a₂,w₂,hq₂,harr₂.later (by omega)⟩
   | exit id=>exact⟨_,a₁,w₁,hq,harr.pass (x:=.inLoop c) rfl (by simp)⟩
   | goto l=>exact⟨_,a₁,w₁,hq,harr.pass (x:=.inLoop c) rfl (by simp)⟩
   | ret=>exact⟨_,a₁,w₁,hq,harr.pass (x:=.inLoop c) rfl (by simp)⟩
   | panic ch=>exact⟨_,a₁,w₁,hq,harr.pass (x:=.inLoop c) rfl (by simp)⟩
   | outgrown=>exact harr.elim
 obtain⟨n0,hn0,hg0⟩:=AA hP (.one step_loop) hg;obtain⟨e,a',w',hq,harr⟩:=key n a w n0 h₀ hg0;exact⟨e,a',w',hq,harr.later hn0⟩
end
theorem Yn {t:Ae}{l:List Ar}{qs:List ((Int×Int)×Int)}(hq:∀ key,(atK qs key).getD 0=Au l key) (o i:Nat):atV t.Aa t.Af qs o i=atL t l o i:=by unfold atV atL;rw[hq]
theorem Rn {t:Ae}{l:List Ar}{qs:List ((Int×Int)×Int)}(hq:∀ key,(atK qs key).getD 0=Au l key) (o:Nat):Wh t.Aa t.Af qs o=Eh t l o:=by
 unfold Wh Eh Hu;rw[show atV t.Aa t.Af qs o=atL t l o from funext fun i=>Yn hq o i]
def YJ (t:Ae) (l:List Ar) (o:Nat):Int:=Dy (fun i=>A7 (atL t l o i)) t.Af.length
def Un (t:Ae) (l:List Ar) (o i:Nat):Int:=ofV 0 false (Au l ((i:Int),(o:Int))) (t.Af.getD i default).rate
def JC (t:Ae) (l:List Ar) (o:Nat):Int:=A7 (Dy (Un t l o) t.Af.length)-Eh t l o
theorem WQ {t:Ae}{l:List Ar}{qs:List ((Int×Int)×Int)}(hq:∀ key,(atK qs key).getD 0=Au l key) (o:Nat):Aa5 t.Aa t.Af qs o=YJ t l o:=by
 unfold Aa5 YJ;rw[show (fun i=>A7 (atV t.Aa t.Af qs o i))=fun i=>A7 (atL t l o i) from funext fun i=>by rw[Yn hq]]
theorem PS {t:Ae}{l:List Ar}{qs:List ((Int×Int)×Int)}(hq:∀ key,(atK qs key).getD 0=Au l key) (o:Nat):Me t.Aa t.Af qs o=JC t l o:=by
 unfold Me JC;rw[Rn hq,show Gw t.Af qs o=Un t l o from funext fun i=>by unfold Gw Un;rw[hq]]
theorem GL.c {w:World}{bd mb:Nat}{t:Ae}{s:Dt}{l:List Ar}(hT:Bf w t s) (hD:GL w bd mb t s l) (ho:Bc t l=0) :
  ∃ q pb po pc tb to_ tc clock ents,Gq w.heap.size w bd t.Aa t.Af q pb po pc tb to_ tc mb clock ents∧∀ key,(atK q key).getD 0=Au l key:=by
 have hck:=Ee ho;have hF:=Fq.of hck (CZ ho).1 (CZ ho).2;obtain⟨_,_,_,hp1,_⟩:=AY hck;obtain⟨qs,hm,hq⟩:=hD.map;have d4:=hD.kd.cell (o:=4) rfl;have d5:=hD.kd.cell (o:=5) rfl;have d6:=hD.kd.cell (o:=6) rfl
 change w.cell? _=some (.slice s.pa t.Aa.length s.pc) at d4
 change w.cell? _=some (.slice s.ta t.Af.length s.tc) at d5
 change w.cell? _=some (.map (some mb)) at d6
 obtain⟨pb,po,hpa,_,_,_⟩:=hT.Aa.at (i:=0) (by omega)
 have hpay:∀ (o:Nat) (h:o<t.Aa.length),w.cell? ⟨pb,po+o*3,none⟩=some (.int .i64 t.Aa[o].heads)∧w.cell? ⟨pb,po+o*3+1,none⟩=some (.int .i64 t.Aa[o].free)∧w.cell? ⟨pb,po+o*3+2,none⟩=some (.bool t.Aa[o].half):=fun o h=>by
  obtain⟨b',o',e,h1,h2,h3⟩:=hT.Aa.at h;rw[hpa]at e;simp only[Option.some.injEq,Addr.mk.injEq,and_true]at e;obtain⟨rfl,rfl⟩:=e;exact⟨h1,h2,h3⟩
 have lpb:pb<w.heap.size:=lt_of_cell (hpay 0 (by omega)).1
 obtain⟨tb,to_,htb,hta,htl⟩:∃ tb to_,tb<w.heap.size∧(t.Af≠[]→s.ta=some ⟨tb,to_,none⟩)∧∀ (i:Nat) (h:i<t.Af.length),w.cell? ⟨tb,to_+i*3+1,none⟩=some (.int .i64 t.Af[i].rate):=by
  rcases hT.Af with h|⟨b,o,ha,h⟩
  ·exact⟨pb,0,lpb,fun hne=>absurd h hne,fun i hi=>by rw[h]at hi;simp at hi⟩
  ·by_cases hz:0<t.Af.length
   ·exact⟨b,o,lt_of_cell (h 0 hz).1,fun _=>ha,fun i hi=>(h i hi).2.1⟩
   ·exact⟨pb,0,lpb,fun hne=>absurd (List.length_pos_iff.2 hne) hz,fun i hi=>absurd (by omega) hz⟩
 rw[hpa]at d4;exact⟨qs,pb,po,s.pc,tb,to_,s.tc,_,_,⟨lt_of_cell d4,lpb,htb,hm.lt,d4,⟨s.ta,d5,hta⟩,d6,fun o h=>(hpay o h).1,fun o h=>(hpay o h).2.1,fun o h=>(hpay o h).2.2,htl,hm,Qd qs,hF.pf,hF.rt,fun k=>by rw[hq];exact hF.ps k⟩,hq⟩
end
section
open Go.RowKit
section
variable {P:Program}{M:Machine}{ops:Array Oper}{Q:Exit→Act→World→Prop}{a:Act}{w:World}
theorem wpo (hP:EK P) {c:Code}(h:c.wp P Q a w) (hno:Je Q:=by repeat (first|assumption|apply F8|apply Gj)):wpX P M c Q a w:=wpX.of hP h hno
theorem wpr (hP:EK P) {f:Func}{k id:Nat}(h:MR P M ops Q (List.range ops.size) a w) (hno:Je Q:=by repeat (first|assumption|apply F8|apply Gj)) (e:Ac f k=Code.region id ops false:=by rfl):wpX P M (Ac f k) Q a w:=Aap hP hno e h
end
end
section
open Go.RowKit
structure AbG where
 owner:Int
 coins:Int
def Aam (w:World) (a:Option Addr) (l:List AbG):Prop :=
 l=[]∨∃ b o,a=some ⟨b,o,none⟩∧∀ (i:Nat) (h:i<l.length),w.cell? ⟨b,o+i*2,none⟩=some (.int .i64 l[i].owner)∧w.cell? ⟨b,o+i*2+1,none⟩=some (.int .i64 l[i].coins)
theorem Aam.at {w:World}{a:Option Addr}{l:List AbG}(h:Aam w a l) {i:Nat}(hi:i<l.length):∃ b o,a=some ⟨b,o,none⟩∧w.cell? ⟨b,o+i*2,none⟩=some (.int .i64 l[i].owner)∧w.cell? ⟨b,o+i*2+1,none⟩=some (.int .i64 l[i].coins):=by
 rcases h with rfl|⟨b,o,ha,h⟩
 ·simp at hi
 ·exact⟨b,o,ha,h i hi⟩
def F7 (l:List Int):Array Value:=(l.map fun x=>Value.int .i64 x).toArray
theorem ND {l:List Int}{i:Nat}(h:i<l.length):(F7 l)[i]?=some (.int .i64 l[i]):=by simp[F7,h]
theorem XF {l:List Int}{i:Nat}(x:Int):(F7 l).setIfInBounds i (.int .i64 x)=F7 (l.set i x):=by simp[F7]
end
section
open Go.RowKit
theorem Vw:(fun r=>Try.f28.body=some (.seq (r 0) (.seq (.seq (r 1) (.cond (.tmp 10) (.seq (r 2) .ret) .skip)) (.seq (.seq (r 3) (.block 0 (.loop (.seq (.seq (r 4) (.cond (.tmp 14) .skip (.exit 0))) (.seq (.block 1 (.seq (r 6) (.cond (.tmp 25) (.seq (r 7) .ret) .skip))) (r 5)))))) (.seq (r 8) .ret))))) (Ac Try.f28):=by show _=_;kernel_rfl
theorem QJ {w:World}{la lb:Option Addr}{ca cb:Nat}{l m:List Int}(ha:AX w la l) (hb:AX w lb m) (hn:l.length≤1000000):Calls Try.prog 28 #[.slice la l.length ca,.slice lb m.length cb] w (fun e w'=>e=.returned (.bool (decide (l=m)))∧Below w.heap.size w w'):=by
 refine I7 Try.func28 Vw Try.ntmps28 ?_;intro a Z;refine wsr ?_;refine Z.e ?_;clear Z;intro a Z;refine wss ?_;(iterate 4 refine Z.s ?_;clear Z;intro a Z)
 by_cases hne:l.length=m.length
 ·have q0:((l.length:Int) != (m.length:Int))=false:=by simp[hne]
  have HN:=Lib.hid hne;clear hne;refine Z.e ?_;clear Z;intro a Z;refine Z.cs 10 ?_;refine wss ?_;refine Z.e ?_;clear Z;intro a Z;refine wp_block ?_;have hb1:=Below.refl w.heap.size w;refine wp_loop_ghost (fun n p x=>∃ k:Nat,k+n=l.length∧l.take k=m.take k∧Sl p 26 [(5,.int .i64 (k:Int)),(0,.slice la l.length ca),(1,.slice lb m.length cb)]∧Below w.heap.size w x) (l.length) ⟨0,by omega,rfl,Z.sb,hb1⟩ ?_;clear Z hb1;rintro n a x ⟨k,hkn,hT,Z,hb1⟩;have HT:=Lib.hid hT;clear hT;refine wss ?_;(iterate 3 refine Z.s ?_;clear Z;intro a Z)
  by_cases hlt:k<l.length
  ·have q1:(k:Int)<(l.length:Int):=by omega
   have hlm:k<m.length:=by rw[← HN.out];exact hlt
   have q3:(k:Int)<(m.length:Int):=by omega
   obtain⟨b,o,rfl,hc⟩:=(ha.below hb1).at hlt;obtain⟨b2,o2,rfl,hc2⟩:=(hb.below hb1).at hlm;refine Z.e ?_;clear Z;intro a Z;refine Z.ct 14 ?_;refine wp_skip ?_;refine wp_seq ?_;refine wp_block ?_;refine wp_seq ?_;refine GN rfl (by kernel_rfl) (by kernel_rfl) ?_;(iterate 3 refine Z.u ?_;clear Z;intro a Z);refine Z.q rfl rfl rfl (by decide) ⟨?_,fun y hy K hK=>?_,?_⟩;rotate_left
   ·have e19:=Z.g 19;replace hb1:=hb1.trans (hy.mono hb1.size);replace hc:=Ad hy hc;replace hc2:=Ad hy hc2;unfold Oper.Dl;go_simp;exact hK
   clear Z;intro a Z;(iterate 3 refine Z.u ?_;clear Z;intro a Z);refine Z.q rfl rfl rfl (by decide) ⟨?_,fun y hy K hK=>?_,?_⟩;rotate_left
   ·have e23:=Z.g 23;replace hb1:=hb1.trans (hy.mono hb1.size);replace hc:=Ad hy hc;replace hc2:=Ad hy hc2;unfold Oper.Dl;go_simp;exact hK
   clear Z;intro a Z
   by_cases he:l[k]=m[k]
   ·have q2:(l[k] != m[k])=false:=by simp[he]
    have HE:=Lib.hid he;clear he;refine Z.u ?_;clear Z;intro a Z;refine E8 ?_;intro x hb2;replace hb1:=hb1.trans (hb2.mono hb1.size);replace hc:=Ad hb2 hc;replace hc2:=Ad hb2 hc2;clear hb2;refine Z.cs 25 ?_;refine wr ?_;refine Z.s ?_;clear Z;intro a Z;refine Z.f (Bz k (by omega)) ?_;clear Z;intro a Z;refine Z.e ?_;clear Z;intro a Z;exact⟨n-1,by omega,k+1,by omega,by rw[List.take_succ_eq_append_getElem hlt,List.take_succ_eq_append_getElem hlm,HT.out,HE.out],Z.sb,hb1⟩
   ·have q2:(l[k] != m[k])=true:=by simp[he]
    have HE:=Lib.hid he;clear he;refine Z.u ?_;clear Z;intro a Z;refine E8 ?_;intro x hb2;replace hb1:=hb1.trans (hb2.mono hb1.size);replace hc:=Ad hb2 hc;replace hc2:=Ad hb2 hc2;clear hb2;refine Z.ct 25 ?_;refine wsr ?_;refine Z.e ?_;clear Z;intro a Z;refine wp_ret ?_
    try simp only[xt]
    have HR:=Lib.hid (show decide (l=m)=false from decide_eq_false (fun h=>HE.out (by simp only[h])));rw[HR.out];exact Z.rt (v:=.bool false) 4 ⟨rfl,hb1⟩
  ·have q1:¬ (k:Int)<(l.length:Int):=by omega
   obtain rfl:k=l.length:=by omega
   refine Z.e ?_;clear Z;intro a Z;refine Z.cf 14 ?_;refine wp_exit ?_;refine wsr ?_;refine Z.e ?_;clear Z;intro a Z;refine wp_ret ?_
   try simp only[xt]
   have HR:=Lib.hid (show decide (l=m)=true from decide_eq_true (by rw[← List.take_length (l:=l),HT.out,HN.out,List.take_length]));rw[HR.out];exact Z.rt (v:=.bool true) 4 ⟨rfl,hb1⟩
 ·have q0:((l.length:Int) != (m.length:Int))=true:=by simp;omega
  refine Z.e ?_;clear Z;intro a Z;refine Z.ct 10 ?_;refine wsr ?_;refine Z.e ?_;clear Z;intro a Z;refine wp_ret ?_
  try simp only[xt]
  have HR:=Lib.hid (show decide (l=m)=false from decide_eq_false (fun h=>by rw[h]at q0;simp at q0));rw[HR.out];exact Z.rt (v:=.bool false) 4 ⟨rfl,Below.refl _ _⟩
theorem Acr {α:Type}{p q r:Prop} [Decidable p] [Decidable q] [Decidable r] {A B:α}(h:p→q→r→False):(if p then if q then if r then A else B else B else B)=B:=by
 by_cases hp:p
 ·by_cases hq:q
  ·rw[if_pos hp,if_pos hq,if_neg (fun hr=>h hp hq hr)]
  ·rw[if_pos hp,if_neg hq]
 ·rw[if_neg hp]
theorem Ar.Acs {x y:Ar}(h0:x.toll=y.toll) (h1:x.owner=y.owner) (h2:x.heads=y.heads):x=y:=by cases x;cases y;simp_all
theorem Tz:(fun r=>Try.f41.body=some (.seq (r 0) (.seq (.seq (r 1) (.cond (.tmp 10) (.seq (r 2) .ret) .skip)) (.seq (.seq (r 3) (.block 0 (.loop (.seq (.seq (r 4) (.cond (.tmp 14) .skip (.exit 0))) (.seq (.block 1 (.seq (r 6) (.cond (.tmp 25) (.seq (r 7) .ret) .skip))) (r 5)))))) (.seq (r 8) .ret))))) (Ac Try.f41):=by show _=_;kernel_rfl
theorem QI {w:World}{la lb:Option Addr}{ca cb:Nat}{l m:List Ar}(ha:BV w la l) (hb:BV w lb m) (hn:l.length≤1000000):Calls Try.prog 41 #[.slice la l.length ca,.slice lb m.length cb] w (fun e w'=>e=.returned (.bool (decide (l=m)))∧Below w.heap.size w w'):=by
 refine I7 Try.func41 Tz Try.ntmps41 ?_;intro a Z;refine wsr ?_;refine Z.e ?_;clear Z;intro a Z;refine wss ?_;(iterate 4 refine Z.s ?_;clear Z;intro a Z)
 by_cases hne:l.length=m.length
 ·have q0:((l.length:Int) != (m.length:Int))=false:=by simp[hne]
  have HN:=Lib.hid hne;clear hne;refine Z.e ?_;clear Z;intro a Z;refine Z.cs 10 ?_;refine wss ?_;refine Z.e ?_;clear Z;intro a Z;refine wp_block ?_;have hb1:=Below.refl w.heap.size w;refine wp_loop_ghost (fun n p x=>∃ k:Nat,k+n=l.length∧l.take k=m.take k∧Sl p 26 [(5,.int .i64 (k:Int)),(0,.slice la l.length ca),(1,.slice lb m.length cb)]∧Below w.heap.size w x) (l.length) ⟨0,by omega,rfl,Z.sb,hb1⟩ ?_;clear Z hb1;rintro n a x ⟨k,hkn,hT,Z,hb1⟩;have HT:=Lib.hid hT;clear hT;refine wss ?_;(iterate 3 refine Z.s ?_;clear Z;intro a Z)
  by_cases hlt:k<l.length
  ·have q1:(k:Int)<(l.length:Int):=by omega
   have hlm:k<m.length:=by rw[← HN.out];exact hlt
   have q3:(k:Int)<(m.length:Int):=by omega
   obtain⟨b,o,rfl,c0,c1,c2⟩:=(ha.below hb1).at hlt;obtain⟨b2,o2,rfl,d0,d1,d2⟩:=(hb.below hb1).at hlm;simp only[Oy]at c0 c1 c2 d0 d1 d2;refine Z.e ?_;clear Z;intro a Z;refine Z.ct 14 ?_;refine wp_skip ?_;refine wp_seq ?_;refine wp_block ?_;refine wp_seq ?_;refine GN rfl (by kernel_rfl) (by kernel_rfl) ?_;(iterate 3 refine Z.u ?_;clear Z;intro a Z);refine Z.q rfl rfl rfl (by decide) ⟨?_,fun y hy K hK=>?_,?_⟩;rotate_left
   ·have e19:=Z.g 19;replace hb1:=hb1.trans (hy.mono hb1.size);replace c0:=Ad hy c0;replace c1:=Ad hy c1;replace c2:=Ad hy c2;replace d0:=Ad hy d0;replace d1:=Ad hy d1;replace d2:=Ad hy d2;unfold Oper.Dl;go_simp;exact hK
   clear Z;intro a Z;(iterate 3 refine Z.u ?_;clear Z;intro a Z);refine Z.q rfl rfl rfl (by decide) ⟨?_,fun y hy K hK=>?_,?_⟩;rotate_left
   ·have e23:=Z.g 23;replace hb1:=hb1.trans (hy.mono hb1.size);replace c0:=Ad hy c0;replace c1:=Ad hy c1;replace c2:=Ad hy c2;replace d0:=Ad hy d0;replace d1:=Ad hy d1;replace d2:=Ad hy d2;unfold Oper.Dl;go_simp;exact hK
   clear Z;intro a Z
   by_cases he:l[k]=m[k]
   ·have HE:=Lib.hid he;rw[he]at Z;clear he;refine Z.u ?_;clear Z;intro a Z;refine E8 ?_;intro x hb2;replace hb1:=hb1.trans (hb2.mono hb1.size);replace c0:=Ad hb2 c0;replace c1:=Ad hb2 c1;replace c2:=Ad hb2 c2;replace d0:=Ad hb2 d0;replace d1:=Ad hb2 d1;replace d2:=Ad hb2 d2;clear hb2;refine Z.cs 25 ?_;refine wr ?_;refine Z.s ?_;clear Z;intro a Z;refine Z.f (Bz k (by omega)) ?_;clear Z;intro a Z;refine Z.e ?_;clear Z;intro a Z;exact⟨n-1,by omega,k+1,by omega,by rw[List.take_succ_eq_append_getElem hlt,List.take_succ_eq_append_getElem hlm,HT.out,HE.out],Z.sb,hb1⟩
   ·have HE:=Lib.hid he;clear he;refine Z.q rfl rfl rfl (by decide) ⟨?_,fun y hy K hK=>?_,?_⟩;rotate_left
    ·have e20:=Z.g 20;have e24:=Z.g 24;unfold Oper.Dl;go_simp;rw[Acr (fun h0 h1 h2=>HE.out (Ar.Acs h0 h1 h2))];refine⟨rfl,?_⟩;exact hK
    clear Z;intro a Z;refine E8 ?_;intro x hb2;replace hb1:=hb1.trans (hb2.mono hb1.size);replace c0:=Ad hb2 c0;replace c1:=Ad hb2 c1;replace c2:=Ad hb2 c2;replace d0:=Ad hb2 d0;replace d1:=Ad hb2 d1;replace d2:=Ad hb2 d2;clear hb2;refine Z.ct 25 ?_;refine wsr ?_;refine Z.e ?_;clear Z;intro a Z;refine wp_ret ?_
    try simp only[xt]
    have HR:=Lib.hid (show decide (l=m)=false from decide_eq_false (fun h=>HE.out (by simp only[h])));rw[HR.out];exact Z.rt (v:=.bool false) 4 ⟨rfl,hb1⟩
  ·have q1:¬ (k:Int)<(l.length:Int):=by omega
   obtain rfl:k=l.length:=by omega
   refine Z.e ?_;clear Z;intro a Z;refine Z.cf 14 ?_;refine wp_exit ?_;refine wsr ?_;refine Z.e ?_;clear Z;intro a Z;refine wp_ret ?_
   try simp only[xt]
   have HR:=Lib.hid (show decide (l=m)=true from decide_eq_true (by rw[← List.take_length (l:=l),HT.out,HN.out,List.take_length]));rw[HR.out];exact Z.rt (v:=.bool true) 4 ⟨rfl,hb1⟩
 ·have q0:((l.length:Int) != (m.length:Int))=true:=by simp;omega
  refine Z.e ?_;clear Z;intro a Z;refine Z.ct 10 ?_;refine wsr ?_;refine Z.e ?_;clear Z;intro a Z;refine wp_ret ?_
  try simp only[xt]
  have HR:=Lib.hid (show decide (l=m)=false from decide_eq_false (fun h=>by rw[h]at q0;simp at q0));rw[HR.out];exact Z.rt (v:=.bool false) 4 ⟨rfl,Below.refl _ _⟩
end
end Go.Proofs.Ytgdobbcjkiapkaa
