import Derived.Test.YtgdobbcjkiapkaaFm04
import Derived.Test.YtgdobbcjkiapkaaFm35
import Derived.Test.YtgdobbcjkiapkaaFm24
import Derived.Test.YtgdobbcjkiapkaaFm34
import Derived.Test.YtgdobbcjkiapkaaFm33
import Derived.Test.YtgdobbcjkiapkaaFm03
import Derived.Test.YtgdobbcjkiapkaaFm02
import Derived.Test.YtgdobbcjkiapkaaFm19
import Derived.Maps.AppendAt
import Derived.Test.YtgdobbcjkiapkaaFm28
import Derived.Outline
namespace Go.Proofs.Ytgdobbcjkiapkaa
set_option maxRecDepth 100000
set_option maxHeartbeats 4000000
set_option linter.unusedSimpArgs false
set_option linter.unusedVariables false
section
open Go.RowKit
theorem Uz:Try.f58.body=some (Code.seq (Aa Try.f58 0) (Code.seq (Aa Try.f58 1) (Code.seq (Aa Try.f58 2) (Code.seq (Aa Try.f58 3) (Code.seq (Aa Try.f58 4) Code.ret))))):=by kernel_rfl
theorem ZR {w:World} {bS bP bT:Nat} {tS tP tT:TypeId} (KS:Rw w bS #[.int .i64 0, .int .i64 1, .int .i64 4, .int .i64 90, .int .i64 1, .int .i64 0, .int .i64 0, .int .i64 1, .int .i64 2, .int .i64 4, .int .i64 90, .int .i64 1, .int .i64 0, .int .i64 0, .int .i64 0, .int .i64 2, .int .i64 6, .int .i64 90, .int .i64 1, .int .i64 0, .int .i64 0] tS) (KP:Rw w bP #[.int .i64 12, .int .i64 2, .bool false, .int .i64 10, .int .i64 0, .bool true] tP) (KT:Rw w bT #[.int .i64 0, .int .i64 55, .int .i64 1, .int .i64 1, .int .i64 33, .int .i64 2, .int .i64 2, .int .i64 100, .int .i64 1] tT):CB w exT ⟨some ⟨bS,0,none⟩,3,some ⟨bP,0,none⟩,2,some ⟨bT,0,none⟩,3⟩:=by
 refine ⟨.inr ⟨bS,0,rfl,fun i hi =>?_⟩, .inr ⟨bP,0,rfl,fun i hi =>?_⟩, .inr ⟨bT,0,rfl,fun i hi =>?_⟩,by show 3≤maxLen;decide,by show 2≤maxLen;decide,by show 3≤maxLen;decide,by show 2≤2;decide,by show 3≤3;decide⟩
 ·have h3:i=0∨i=1∨i=2:=by have:i < 3:=hi;omega
  rcases h3 with rfl | rfl | rfl
  ·exact ⟨KS.cell (o:=0) rfl,KS.cell (o:=1) rfl,KS.cell (o:=2) rfl,KS.cell (o:=3) rfl,KS.cell (o:=4) rfl,KS.cell (o:=5) rfl,KS.cell (o:=6) rfl⟩
  ·exact ⟨KS.cell (o:=7) rfl,KS.cell (o:=8) rfl,KS.cell (o:=9) rfl,KS.cell (o:=10) rfl,KS.cell (o:=11) rfl,KS.cell (o:=12) rfl,KS.cell (o:=13) rfl⟩
  ·exact ⟨KS.cell (o:=14) rfl,KS.cell (o:=15) rfl,KS.cell (o:=16) rfl,KS.cell (o:=17) rfl,KS.cell (o:=18) rfl,KS.cell (o:=19) rfl,KS.cell (o:=20) rfl⟩
 ·have h3:i=0∨i=1:=by have:i < 2:=hi;omega
  rcases h3 with rfl | rfl
  ·exact ⟨KP.cell (o:=0) rfl,KP.cell (o:=1) rfl,KP.cell (o:=2) rfl⟩
  ·exact ⟨KP.cell (o:=3) rfl,KP.cell (o:=4) rfl,KP.cell (o:=5) rfl⟩
 ·have h3:i=0∨i=1∨i=2:=by have:i < 3:=hi;omega
  rcases h3 with rfl | rfl | rfl
  ·exact ⟨KT.cell (o:=0) rfl,KT.cell (o:=1) rfl,KT.cell (o:=2) rfl⟩
  ·exact ⟨KT.cell (o:=3) rfl,KT.cell (o:=4) rfl,KT.cell (o:=5) rfl⟩
  ·exact ⟨KT.cell (o:=6) rfl,KT.cell (o:=7) rfl,KT.cell (o:=8) rfl⟩
theorem Ii {w:World}:Calls Try.prog 58 #[] w (fun e w'=>Below w.heap.size w w'∧∃ s,e = .returned (.agg (EK exT s))∧CB w' exT s):=by
 refine Zo Try.func58 Uz Try.ntmps58 ?_;intro a Z;refine wsr ?_;refine Z.s ?_;clear Z;intro a Z;refine Af (G:=fun W=>wpOps _ _ _ _ _ W) ?_;obtain ⟨b0,hg⟩:∃ b,b=w.heap.size:=⟨_,rfl⟩;intro x hz K0 hb;rw [← hg] at Z K0;have hb0:w.heap.size≤b0:=by omega
 clear hz hg;refine od ?_;refine wsr ?_;refine Z.s ?_;clear Z;intro a Z;refine og fun K hK =>?_
 obtain ⟨b1,hg⟩:∃ b,b=x.heap.size:=⟨_,rfl⟩;unfold Oper.wp;go_simp;refine Z.K hK ?_;clear Z hK;intro a Z;refine og fun K hK =>?_
 have e1:=Z.g 1;have e4:=Z.g 4;unfold Oper.wp;go_simp;clear e1 e4;refine hK _ _ ?_;clear hK;have hl:=K0.lt;refine Af (G:=fun W=>wpOps _ _ _ _ _ W) ?_;intro x hz K1 hb2;rw [← hg] at Z K1;have h01:b0 < b1:=by omega
 replace K0:=K0.below hb2;replace hb:=hb.trans (hb2.mono hb.size);clear hz hg hb2 hl;refine od ?_;refine wp_seq ?_;rw [show Aa Try.f58 2=Code.region 2 _ true from rfl];refine GH (Γ:=Nat×Nat) (by kernel_rfl) (((Z.nil.cons (Z.get 1 _ rfl)).cons (Z.get 0 _ rfl))) [some 5,some 6,some 2,some 3,none,none] rfl rfl (by kernel_rfl) (fun g j v=>match j with | 0=>v = .agg #[.int .i64 0, .int .i64 1, .int .i64 4, .int .i64 90, .int .i64 1, .int .i64 0, .int .i64 0] | 1=>v = .agg #[.int .i64 0, .int .i64 1, .int .i64 4, .int .i64 90, .int .i64 1, .int .i64 0, .int .i64 0] | 2=>v = .pointer (some ⟨g.1,0,none⟩) | 3=>v = .pointer (some ⟨g.2,0,none⟩) | _=>True) (fun g L y=>Below x.heap.size x y∧GI x 2 4 #[.int .i64 0, .int .i64 0, .int .i64 0, .int .i64 0, .int .i64 0, .int .i64 0, .int .i64 0] #[.int .i64 0, .int .i64 1, .int .i64 4, .int .i64 90, .int .i64 1, .int .i64 0, .int .i64 0] 96 g.1 L y∧GI x 3 5 #[.int .i64 0, .int .i64 0, .int .i64 0, .int .i64 0, .int .i64 0, .int .i64 0, .int .i64 0] #[.int .i64 0, .int .i64 1, .int .i64 4, .int .i64 90, .int .i64 1, .int .i64 0, .int .i64 0] 96 g.2 L y∧(L 2=true→L 3=true→g.1≠g.2)) (0,0) ⟨(Below.refl _ _).drew,GI.init,GI.init,fun h=>by simp at h⟩ ?_ ?_
 ·clear Z;rintro k o hkl ho g L a y ⟨hB,hG0,hG1,hD01⟩ hLk Z hs hd;have hI:Below x.heap.size x y∧True:=⟨hB,trivial⟩;have hlt:∀ k:Nat,k < 6→k=0∨k=1∨k=2∨k=3∨k=4∨k=5:=by decide
  rcases hlt k hkl with rfl | rfl | rfl | rfl | rfl | rfl
  ·obtain rfl:=Option.some.inj ho;have e1:=Z.g 1;have c0:=(K1.below hI.1).cell (o:=0) rfl;have c1:=(K1.below hI.1).cell (o:=1) rfl;have c2:=(K1.below hI.1).cell (o:=2) rfl;have c3:=(K1.below hI.1).cell (o:=3) rfl;have c4:=(K1.below hI.1).cell (o:=4) rfl;have c5:=(K1.below hI.1).cell (o:=5) rfl;have c6:=(K1.below hI.1).cell (o:=6) rfl;clear hs hd;refine wg fun K hK =>?_
   unfold Oper.wp;go_simp;exact hK _ _ ⟨g,_,rfl,rfl,⟨hB,(hG0.other (by decide) (by decide)),(hG1.other (by decide) (by decide)),(by rw [Ar _ _ (by decide),Ar _ _ (by decide)];exact hD01)⟩,fun j u _ h=>h⟩
  ·obtain rfl:=Option.some.inj ho;have e1:=Z.g 1;have c0:=(K1.below hI.1).cell (o:=0) rfl;have c1:=(K1.below hI.1).cell (o:=1) rfl;have c2:=(K1.below hI.1).cell (o:=2) rfl;have c3:=(K1.below hI.1).cell (o:=3) rfl;have c4:=(K1.below hI.1).cell (o:=4) rfl;have c5:=(K1.below hI.1).cell (o:=5) rfl;have c6:=(K1.below hI.1).cell (o:=6) rfl;clear hs hd;refine wg fun K hK =>?_
   unfold Oper.wp;go_simp;exact hK _ _ ⟨g,_,rfl,rfl,⟨hB,(hG0.other (by decide) (by decide)),(hG1.other (by decide) (by decide)),(by rw [Ar _ _ (by decide),Ar _ _ (by decide)];exact hD01)⟩,fun j u _ h=>h⟩
  ·obtain rfl:=Option.some.inj ho;clear hs hd;refine wg fun K hK =>?_
   unfold Oper.wp;go_simp;exact hK _ _ ⟨⟨y.heap.size,g.2⟩,_,rfl,rfl,⟨hB.trans ((Df _ _).mono hB.size),(hG0.made hLk hB.size (by decide)),((hG1.below (Df _ _)).other (by decide) (by decide)),(fun _ h2=>by rw [Ar _ _ (by decide)] at h2;have:=hG1.lt h2;show y.heap.size≠g.2;omega)⟩,fun j u hL hv=>by by_cases c:j=2;(subst c;rw [hLk] at hL;exact absurd hL (by decide));(revert hv;dsimp only;split <;> first | exact id | (intro _;trivial) | (rename_i e;exact absurd rfl c) | contradiction)⟩
  ·obtain rfl:=Option.some.inj ho;clear hs hd;refine wg fun K hK =>?_
   unfold Oper.wp;go_simp;exact hK _ _ ⟨⟨g.1,y.heap.size⟩,_,rfl,rfl,⟨hB.trans ((Df _ _).mono hB.size),((hG0.below (Df _ _)).other (by decide) (by decide)),(hG1.made hLk hB.size (by decide)),(fun h2 _=>by rw [Ar _ _ (by decide)] at h2;have:=hG0.lt h2;show g.1≠y.heap.size;omega)⟩,fun j u hL hv=>by by_cases c:j=3;(subst c;rw [hLk] at hL;exact absurd hL (by decide));(revert hv;dsimp only;split <;> first | exact id | (intro _;trivial) | (rename_i e;exact absurd rfl c) | contradiction)⟩
  ·obtain rfl:=Option.some.inj ho;obtain ⟨_,e2,rfl⟩:=hs 2 _ 2 rfl rfl (hd 2 wm);obtain ⟨_,e5,rfl⟩:=hs 0 _ 5 rfl rfl (hd 0 wm);have hLa:=hd 2 wm;have K0:=hG0.get hLa hLk;have hge:=(hG0.2 hLa).1;have c0:=K0.cell (o:=0) rfl;have z0:=K0.fz 0;have c1:=K0.cell (o:=1) rfl;have z1:=K0.fz 1;have c2:=K0.cell (o:=2) rfl;have z2:=K0.fz 2;have c3:=K0.cell (o:=3) rfl;have z3:=K0.fz 3;have c4:=K0.cell (o:=4) rfl;have z4:=K0.fz 4;have c5:=K0.cell (o:=5) rfl;have z5:=K0.fz 5;have c6:=K0.cell (o:=6) rfl;have z6:=K0.fz 6;clear hs hd;refine wg fun K hK =>?_
   unfold Oper.wp;go_simp;exact hK _ _ ⟨g,undef,rfl,trivial,⟨(((((((hB.setCell (p:=⟨g.1,0,none⟩) hge (.int .i64 0)).setCell (p:=⟨g.1,1,none⟩) hge (.int .i64 1)).setCell (p:=⟨g.1,2,none⟩) hge (.int .i64 4)).setCell (p:=⟨g.1,3,none⟩) hge (.int .i64 90)).setCell (p:=⟨g.1,4,none⟩) hge (.int .i64 1)).setCell (p:=⟨g.1,5,none⟩) hge (.int .i64 0)).setCell (p:=⟨g.1,6,none⟩) hge (.int .i64 0)),(hG0.stored hLa (by decide) (((((((K0.set 0 (.int .i64 0)).set 1 (.int .i64 1)).set 2 (.int .i64 4)).set 3 (.int .i64 90)).set 4 (.int .i64 1)).set 5 (.int .i64 0)).set 6 (.int .i64 0))),(GI.other (((((((hG1.far (fun h=>Ne.symm (hD01 hLa h)) 0 (.int .i64 0)).far (fun h=>Ne.symm (hD01 hLa h)) 1 (.int .i64 1)).far (fun h=>Ne.symm (hD01 hLa h)) 2 (.int .i64 4)).far (fun h=>Ne.symm (hD01 hLa h)) 3 (.int .i64 90)).far (fun h=>Ne.symm (hD01 hLa h)) 4 (.int .i64 1)).far (fun h=>Ne.symm (hD01 hLa h)) 5 (.int .i64 0)).far (fun h=>Ne.symm (hD01 hLa h)) 6 (.int .i64 0)) (by decide) (by decide)),(by rw [Ar _ _ (by decide),Ar _ _ (by decide)];exact hD01)⟩,fun j u _ h=>h⟩
  ·obtain rfl:=Option.some.inj ho;obtain ⟨_,e3,rfl⟩:=hs 3 _ 3 rfl rfl (hd 3 wm);obtain ⟨_,e6,rfl⟩:=hs 1 _ 6 rfl rfl (hd 1 wm);have hLa:=hd 3 wm;have K0:=hG1.get hLa hLk;have hge:=(hG1.2 hLa).1;have c0:=K0.cell (o:=0) rfl;have z0:=K0.fz 0;have c1:=K0.cell (o:=1) rfl;have z1:=K0.fz 1;have c2:=K0.cell (o:=2) rfl;have z2:=K0.fz 2;have c3:=K0.cell (o:=3) rfl;have z3:=K0.fz 3;have c4:=K0.cell (o:=4) rfl;have z4:=K0.fz 4;have c5:=K0.cell (o:=5) rfl;have z5:=K0.fz 5;have c6:=K0.cell (o:=6) rfl;have z6:=K0.fz 6;clear hs hd;refine wg fun K hK =>?_
   unfold Oper.wp;go_simp;exact hK _ _ ⟨g,undef,rfl,trivial,⟨(((((((hB.setCell (p:=⟨g.2,0,none⟩) hge (.int .i64 0)).setCell (p:=⟨g.2,1,none⟩) hge (.int .i64 1)).setCell (p:=⟨g.2,2,none⟩) hge (.int .i64 4)).setCell (p:=⟨g.2,3,none⟩) hge (.int .i64 90)).setCell (p:=⟨g.2,4,none⟩) hge (.int .i64 1)).setCell (p:=⟨g.2,5,none⟩) hge (.int .i64 0)).setCell (p:=⟨g.2,6,none⟩) hge (.int .i64 0)),(GI.other (((((((hG0.far (fun h=>hD01 h hLa) 0 (.int .i64 0)).far (fun h=>hD01 h hLa) 1 (.int .i64 1)).far (fun h=>hD01 h hLa) 2 (.int .i64 4)).far (fun h=>hD01 h hLa) 3 (.int .i64 90)).far (fun h=>hD01 h hLa) 4 (.int .i64 1)).far (fun h=>hD01 h hLa) 5 (.int .i64 0)).far (fun h=>hD01 h hLa) 6 (.int .i64 0)) (by decide) (by decide)),(hG1.stored hLa (by decide) (((((((K0.set 0 (.int .i64 0)).set 1 (.int .i64 1)).set 2 (.int .i64 4)).set 3 (.int .i64 90)).set 4 (.int .i64 1)).set 5 (.int .i64 0)).set 6 (.int .i64 0))),(by rw [Ar _ _ (by decide),Ar _ _ (by decide)];exact hD01)⟩,fun j u _ h=>h⟩
 ·clear Z;rintro g L a y hall ⟨hB,hG0,hG1,hD01⟩ Z hs;obtain ⟨hb2,Kb2⟩:=hG0.full (hall 2 (by decide)) (hall 4 (by decide));obtain ⟨hb3,Kb3⟩:=hG1.full (hall 3 (by decide)) (hall 5 (by decide));have hneb2b3:=hD01 (hall 2 (by decide)) (hall 3 (by decide));obtain ⟨_,e2,rfl⟩:=hs 2 _ 2 rfl rfl (hall 2 (by decide));obtain ⟨_,e3,rfl⟩:=hs 3 _ 3 rfl rfl (hall 3 (by decide));replace Z:=((Z.cons e2).cons e3);clear hs hall hG0 hG1 hD01 e2 e3
  skip
  skip
  obtain ⟨b2,hgn0⟩:∃ b,b=g.1:=⟨_,rfl⟩;obtain ⟨b3,hgn1⟩:∃ b,b=g.2:=⟨_,rfl⟩;simp only [← hgn0,← hgn1] at Z hb2 Kb2 hb3 Kb3 hneb2b3;clear hgn0 hgn1;have hb1s:=K1.lt;have hb0s:=K0.lt;replace K0:=K0.below hB;replace K1:=K1.below hB;have h2b:b1 < b2∧b0 < b2∧b1 < b3∧b0 < b3:=by omega
  have hw2:w.heap.size≤b2∧w.heap.size≤b3:=by have:=hb.size;omega
  replace hb:=hb.trans (hB.mono hb.size);have K2:=Kb2;have K3:=Kb3;clear Kb2 Kb3 hB hb2 hb3 hb1s hb0s;obtain ⟨x,hx2⟩:∃ q,q=y:=⟨_,rfl⟩;rw [← hx2] at K0 K1 K2 K3 hb ⊢;clear hx2;refine wsr ?_;refine Z.s ?_;clear Z;intro a Z;refine og fun K hK =>?_
  have e7:=Z.g 7;have c:=K2.cell (o:=0) rfl;have z:=K2.fz 0;unfold Oper.wp;go_simp;clear e7;refine hK _ _ ?_;clear hK;replace K2:=K2.set 0 (.int .i64 1);replace K0:=K0.far (g:=b2) (by omega) 0 (.int .i64 1);replace K1:=K1.far (g:=b2) (by omega) 0 (.int .i64 1);replace K3:=K3.far (g:=b2) (Ne.symm hneb2b3) 0 (.int .i64 1);replace hb:=hb.setCell (p:=⟨b2,0,none⟩) (by show w.heap.size≤b2;omega) (.int .i64 1);clear c z;obtain ⟨x,hx2⟩:∃ q,q=x.setCell ⟨b2,0,none⟩ (.int .i64 1):=⟨_,rfl⟩;rw [← hx2] at K0 K1 K2 K3 hb ⊢;clear hx2;refine Z.s ?_;clear Z;intro a Z;refine og fun K hK =>?_
  have e8:=Z.g 8;have c:=K2.cell (o:=1) rfl;have z:=K2.fz 1;unfold Oper.wp;go_simp;clear e8;refine hK _ _ ?_;clear hK;replace K2:=K2.set 1 (.int .i64 2);replace K0:=K0.far (g:=b2) (by omega) 1 (.int .i64 2);replace K1:=K1.far (g:=b2) (by omega) 1 (.int .i64 2);replace K3:=K3.far (g:=b2) (Ne.symm hneb2b3) 1 (.int .i64 2);replace hb:=hb.setCell (p:=⟨b2,1,none⟩) (by show w.heap.size≤b2;omega) (.int .i64 2);clear c z;obtain ⟨x,hx2⟩:∃ q,q=x.setCell ⟨b2,1,none⟩ (.int .i64 2):=⟨_,rfl⟩;rw [← hx2] at K0 K1 K2 K3 hb ⊢;clear hx2;refine Z.s ?_;clear Z;intro a Z;refine og fun K hK =>?_
  have e9:=Z.g 9;have c:=K3.cell (o:=1) rfl;have z:=K3.fz 1;unfold Oper.wp;go_simp;clear e9;refine hK _ _ ?_;clear hK;replace K3:=K3.set 1 (.int .i64 2);replace K0:=K0.far (g:=b3) (by omega) 1 (.int .i64 2);replace K1:=K1.far (g:=b3) (by omega) 1 (.int .i64 2);replace K2:=K2.far (g:=b3) (hneb2b3) 1 (.int .i64 2);replace hb:=hb.setCell (p:=⟨b3,1,none⟩) (by show w.heap.size≤b3;omega) (.int .i64 2);clear c z;obtain ⟨x,hx2⟩:∃ q,q=x.setCell ⟨b3,1,none⟩ (.int .i64 2):=⟨_,rfl⟩;rw [← hx2] at K0 K1 K2 K3 hb ⊢;clear hx2;refine Z.s ?_;clear Z;intro a Z;refine og fun K hK =>?_
  have e10:=Z.g 10;have c:=K3.cell (o:=2) rfl;have z:=K3.fz 2;unfold Oper.wp;go_simp;clear e10;refine hK _ _ ?_;clear hK;replace K3:=K3.set 2 (.int .i64 6);replace K0:=K0.far (g:=b3) (by omega) 2 (.int .i64 6);replace K1:=K1.far (g:=b3) (by omega) 2 (.int .i64 6);replace K2:=K2.far (g:=b3) (hneb2b3) 2 (.int .i64 6);replace hb:=hb.setCell (p:=⟨b3,2,none⟩) (by show w.heap.size≤b3;omega) (.int .i64 6);clear c z;obtain ⟨x,hx2⟩:∃ q,q=x.setCell ⟨b3,2,none⟩ (.int .i64 6):=⟨_,rfl⟩;rw [← hx2] at K0 K1 K2 K3 hb ⊢;clear hx2;refine od ?_;refine wsr ?_;refine og fun K hK =>?_
  have e1:=Z.g 1;have c0:=K1.cell (o:=0) rfl;have c1:=K1.cell (o:=1) rfl;have c2:=K1.cell (o:=2) rfl;have c3:=K1.cell (o:=3) rfl;have c4:=K1.cell (o:=4) rfl;have c5:=K1.cell (o:=5) rfl;have c6:=K1.cell (o:=6) rfl;unfold Oper.wp;go_simp;clear e1;refine Z.K hK ?_;clear Z hK;intro a Z;refine og fun K hK =>?_
  have e2:=Z.g 2;have c0:=K2.cell (o:=0) rfl;have c1:=K2.cell (o:=1) rfl;have c2:=K2.cell (o:=2) rfl;have c3:=K2.cell (o:=3) rfl;have c4:=K2.cell (o:=4) rfl;have c5:=K2.cell (o:=5) rfl;have c6:=K2.cell (o:=6) rfl;unfold Oper.wp;go_simp;clear e2;refine Z.K hK ?_;clear Z hK;intro a Z;refine og fun K hK =>?_
  have e3:=Z.g 3;have c0:=K3.cell (o:=0) rfl;have c1:=K3.cell (o:=1) rfl;have c2:=K3.cell (o:=2) rfl;have c3:=K3.cell (o:=3) rfl;have c4:=K3.cell (o:=4) rfl;have c5:=K3.cell (o:=5) rfl;have c6:=K3.cell (o:=6) rfl;unfold Oper.wp;go_simp;clear e3;refine Z.K hK ?_;clear Z hK;intro a Z;refine og fun K hK =>?_
  have e11:=Z.g 11;have e12:=Z.g 12;have e13:=Z.g 13;have hbz:=hb.size;unfold Oper.wp;go_simp;clear e11 e12 e13;refine Z.K hK ?_;clear Z hK;intro a Z;refine Af (G:=fun W=>wpOps _ _ _ _ _ W) ?_;obtain ⟨bS,hg⟩:∃ b,b=x.heap.size:=⟨_,rfl⟩;intro x hz KS hb2;rw [← hg] at Z KS;have h0S:b0 < bS:=by have:=K0.lt;omega
  replace K0:=K0.below hb2;replace K1:=K1.below hb2;replace K2:=K2.below hb2;replace K3:=K3.below hb2;replace hb:=hb.trans (hb2.mono hb.size);clear hz hg hb2 hbz;(iterate 3 refine Z.s ?_;clear Z;intro a Z);refine og fun K hK =>?_
  have e16:=Z.g 16;have e17:=Z.g 17;have hbz:=hb.size;unfold Oper.wp;go_simp;clear e16 e17;refine Z.K hK ?_;clear Z hK;intro a Z;refine Af (G:=fun W=>wpOps _ _ _ _ _ W) ?_;obtain ⟨bP,hg⟩:∃ b,b=x.heap.size:=⟨_,rfl⟩;intro x hz KP hb2;rw [← hg] at Z KP;have h0P:b0 < bP:=by have:=K0.lt;omega
  replace K0:=K0.below hb2;replace KS:=KS.below hb2;replace hb:=hb.trans (hb2.mono hb.size);clear hz hg hb2 hbz;(iterate 3 refine Z.s ?_;clear Z;intro a Z);refine og fun K hK =>?_
  have e19:=Z.g 19;have e20:=Z.g 20;have e21:=Z.g 21;have hbz:=hb.size;unfold Oper.wp;go_simp;clear e19 e20 e21;refine Z.K hK ?_;clear Z hK;intro a Z;refine Af (G:=fun W=>wpOps _ _ _ _ _ W) ?_;obtain ⟨bT,hg⟩:∃ b,b=x.heap.size:=⟨_,rfl⟩;intro x hz KT hb2;rw [← hg] at Z KT;have h0T:b0 < bT:=by have:=K0.lt;omega
  replace K0:=K0.below hb2;replace KS:=KS.below hb2;replace KP:=KP.below hb2;replace hb:=hb.trans (hb2.mono hb.size);clear hz hg hb2 hbz;refine Z.s ?_;clear Z;intro a Z;refine og fun K hK =>?_
  have e0:=Z.g 0;have e23:=Z.g 23;have c0:=K0.cell (o:=0) rfl;have z0:=K0.fz 0;have c1:=K0.cell (o:=1) rfl;have z1:=K0.fz 1;have c2:=K0.cell (o:=2) rfl;have z2:=K0.fz 2;have c3:=K0.cell (o:=3) rfl;have z3:=K0.fz 3;have c4:=K0.cell (o:=4) rfl;have z4:=K0.fz 4;have c5:=K0.cell (o:=5) rfl;have z5:=K0.fz 5;unfold Oper.wp;go_simp;clear e0 e23;refine hK _ _ ?_;clear hK;clear c0 z0 c1 z1 c2 z2 c3 z3 c4 z4 c5 z5;replace KS:=((((((KS.far (g:=b0) (by omega) 0 (.int .i64 2)).far (g:=b0) (by omega) 1 (.int .i64 3)).far (g:=b0) (by omega) 2 (.slice (some ⟨bS,0,none⟩) 3 3)).far (g:=b0) (by omega) 3 (.int .i64 6)).far (g:=b0) (by omega) 4 (.slice (some ⟨bP,0,none⟩) 2 2)).far (g:=b0) (by omega) 5 (.slice (some ⟨bT,0,none⟩) 3 3));replace KP:=((((((KP.far (g:=b0) (by omega) 0 (.int .i64 2)).far (g:=b0) (by omega) 1 (.int .i64 3)).far (g:=b0) (by omega) 2 (.slice (some ⟨bS,0,none⟩) 3 3)).far (g:=b0) (by omega) 3 (.int .i64 6)).far (g:=b0) (by omega) 4 (.slice (some ⟨bP,0,none⟩) 2 2)).far (g:=b0) (by omega) 5 (.slice (some ⟨bT,0,none⟩) 3 3));replace KT:=((((((KT.far (g:=b0) (by omega) 0 (.int .i64 2)).far (g:=b0) (by omega) 1 (.int .i64 3)).far (g:=b0) (by omega) 2 (.slice (some ⟨bS,0,none⟩) 3 3)).far (g:=b0) (by omega) 3 (.int .i64 6)).far (g:=b0) (by omega) 4 (.slice (some ⟨bP,0,none⟩) 2 2)).far (g:=b0) (by omega) 5 (.slice (some ⟨bT,0,none⟩) 3 3))
  replace K0:=((((((K0.set 0 (.int .i64 2)).set 1 (.int .i64 3)).set 2 (.slice (some ⟨bS,0,none⟩) 3 3)).set 3 (.int .i64 6)).set 4 (.slice (some ⟨bP,0,none⟩) 2 2)).set 5 (.slice (some ⟨bT,0,none⟩) 3 3));replace hb:=((((((hb.setCell (p:=⟨b0,0,none⟩) (by show w.heap.size≤b0;omega) (.int .i64 2)).setCell (p:=⟨b0,1,none⟩) (by show w.heap.size≤b0;omega) (.int .i64 3)).setCell (p:=⟨b0,2,none⟩) (by show w.heap.size≤b0;omega) (.slice (some ⟨bS,0,none⟩) 3 3)).setCell (p:=⟨b0,3,none⟩) (by show w.heap.size≤b0;omega) (.int .i64 6)).setCell (p:=⟨b0,4,none⟩) (by show w.heap.size≤b0;omega) (.slice (some ⟨bP,0,none⟩) 2 2)).setCell (p:=⟨b0,5,none⟩) (by show w.heap.size≤b0;omega) (.slice (some ⟨bT,0,none⟩) 3 3));refine od ?_;refine wp_ret ?_
  try simp only [Exit.then,Exit.inBlock]
  have hS:CB _ exT ⟨some ⟨bS,0,none⟩,3,some ⟨bP,0,none⟩,2,some ⟨bT,0,none⟩,3⟩:=ZR KS KP KT;have c0:=K0.cell (o:=0) rfl;have c1:=K0.cell (o:=1) rfl;have c2:=K0.cell (o:=2) rfl;have c3:=K0.cell (o:=3) rfl;have c4:=K0.cell (o:=4) rfl;have c5:=K0.cell (o:=5) rfl;refine bodyPost_ret (v := .agg (EK exT ⟨some ⟨bS,0,none⟩,3,some ⟨bP,0,none⟩,2,some ⟨bT,0,none⟩,3⟩)) ?_ Z.defers ⟨hb,_,rfl,hS⟩;simp [results,Try.results58,Z.get 0 _ rfl,go_sem,c0,c1,c2,c3,c4,c5]
  first | done | rfl
theorem Uy:Try.f59.body=some (Code.seq (Aa Try.f59 0) (Code.seq (Aa Try.f59 1) Code.ret)):=by kernel_rfl
theorem MG {w:World}:Calls Try.prog 59 #[] w (fun e w'=>Below w.heap.size w w'∧∃ b,e = .returned (.slice (some ⟨b,0,none⟩) 4 4)∧w.heap.size≤b∧DL w' (some ⟨b,0,none⟩) exL):=by
 refine Zo Try.func59 Uy Try.ntmps59 ?_;intro a Z;refine wsr ?_;refine Z.s ?_;clear Z;intro a Z;refine od ?_;refine wsr ?_;(iterate 5 refine Z.s ?_;clear Z;intro a Z);refine Af (G:=fun W=>wpOps _ _ _ _ _ W) ?_;obtain ⟨b,hg⟩:∃ b,b=w.heap.size:=⟨_,rfl⟩;intro x hz KW hb;rw [← hg] at Z KW;have hbw:w.heap.size≤b:=by omega
 clear hz hg;refine Z.s ?_;clear Z;intro a Z;refine od ?_;refine wp_ret ?_
 try simp only [Exit.then,Exit.inBlock]
 have hP:DL x (some ⟨b,0,none⟩) exL:=by
  refine .inr ⟨b,0,rfl,fun i hi =>?_⟩;have h3:i=0∨i=1∨i=2∨i=3:=by have:i < 4:=hi;omega
  rcases h3 with rfl | rfl | rfl | rfl
  ·exact ⟨KW.cell (o:=0) rfl,KW.cell (o:=1) rfl,KW.cell (o:=2) rfl⟩
  ·exact ⟨KW.cell (o:=3) rfl,KW.cell (o:=4) rfl,KW.cell (o:=5) rfl⟩
  ·exact ⟨KW.cell (o:=6) rfl,KW.cell (o:=7) rfl,KW.cell (o:=8) rfl⟩
  ·exact ⟨KW.cell (o:=9) rfl,KW.cell (o:=10) rfl,KW.cell (o:=11) rfl⟩
 refine bodyPost_ret (v := .slice (some ⟨b,0,none⟩) 4 4) ?_ Z.defers ⟨hb,b,rfl,hbw,hP⟩;simp [results,Try.results59,Z.get 0 _ rfl]
end
section
open Go Go.Conc
open Go.RowKit
theorem BN {w:World} {b:Nat} {l:List Int} {t:TypeId} (K:Rw w b (J6 l) t):AV w (some ⟨b,0,none⟩) l := .inr ⟨b,0,rfl,fun i hi=>by rw [Nat.zero_add];exact K.cell (Mc hi)⟩
theorem LP {w:World} {la lb:Option Addr} {ca cb n m:Nat} {l:List Int} (ha:AV w la l) (hb:AV w lb l) (h1:n=l.length) (h2:m=l.length) (hn:l.length≤1000000):Calls Try.prog 28 #[.slice la n ca, .slice lb m cb] w (fun e w'=>e = .returned (.bool true)∧Below w.heap.size w w'):=by
 subst h1 h2;exact (PR ha hb hn).mono fun e w' h=>⟨by rw [h.1,decide_eq_true rfl],h.2⟩
theorem Vl {w:World} {la lb:Option Addr} {ca cb n m:Nat} {l:List Am} (ha:DL w la l) (hb:DL w lb l) (h1:n=l.length) (h2:m=l.length) (hn:l.length≤1000000):Calls Try.prog 41 #[.slice la n ca, .slice lb m cb] w (fun e w'=>e = .returned (.bool true)∧Below w.heap.size w w'):=by
 subst h1 h2;exact (Vm ha hb hn).mono fun e w' h=>⟨by rw [h.1,decide_eq_true rfl],h.2⟩
theorem ZU {M:Machine} {w:World} {s:DY} {la:Option Addr} {lc:Nat} (hT:CB w exT s) (hP:DL w la exL):DX Try.prog M 30 #[.agg (EK exT s), .slice la 4 lc] w (fun e w'=>Below w.heap.size w w'∧∃ g,e = .returned (.tuple #[.slice (some ⟨g,0,none⟩) 2 2, .int .i64 0])∧AV w' (some ⟨g,0,none⟩) [9,5]):=by
 refine (SQ (l:=exL) (lc:=lc) hT hP (by show 4≤maxLen;decide)).mono ?_;rintro e w' ⟨hb,_,hz⟩;obtain ⟨g,rfl,_,hG⟩:=hz V9;have e2:Jd (EX exT exL) exT.Ac.length=[9,5]:=ZQ;rw [e2] at hG ⊢;exact ⟨hb,g,rfl,BN hG⟩
theorem ZT {w:World} {s:DY} {la:Option Addr} {lc:Nat} (hT:CB w exT s) (hP:DL w la exL):Calls Try.prog 31 #[.agg (EK exT s), .slice la 4 lc] w (fun e w'=>Below w.heap.size w w'∧∃ g,e = .returned (.tuple #[.slice (some ⟨g,0,none⟩) 4 4, .int .i64 0])∧AV w' (some ⟨g,0,none⟩) [9,5,0,0]):=by
 refine (Ji (l:=exL) (lc:=lc) hT hP (by show 4≤maxLen;decide)).mono ?_;rintro e w' ⟨hb,_,hz⟩;obtain ⟨g,rfl,_,hG⟩:=hz V9;refine ⟨hb,g,rfl,BN (l:=[9,5,0,0]) (t:=3) ?_⟩;have h:=Zc;simp only [Prod.mk.injEq] at h;obtain ⟨h0,h1,h2,h3⟩:=h
 have e2:ar4 (BD exT exL exT.Ac.length)=J6 [9,5,0,0]:=by
  show #[Value.int .i64 (BD exT exL 2 0), .int .i64 (BD exT exL 2 1), .int .i64 (BD exT exL 2 2), .int .i64 (BD exT exL 2 3)]=_;rw [h0,h1,h2,h3];rfl
 rw [← e2];exact hG
theorem Zf {w:World} {s:DY} {wa:Option Addr} (hT:CB w exT s) (hw:AV w wa [0,1]):Calls Try.prog 35 #[.agg (EK exT s), .int .i64 0, .slice wa 2 2] w (fun e w'=>Below w.heap.size w w'∧∃ la lc,e = .returned (.tuple #[.slice la 4 lc, .int .i64 0])∧DL w' la exL):=by
 refine (UQ (way:=[0,1]) hT hw (by decide) (by decide)).mono ?_;rintro e w' ⟨hb,v,rfl,hO,_⟩;have h:=XY;rw [h] at hO ⊢;obtain ⟨a,c,rfl,_,_,hP⟩:=hO.at;exact ⟨hb,a,c,rfl,hP⟩
theorem Zd {w:World} {s:DY} {wa:Option Addr} (hT:CB w exT s) (hw:AV w wa [0,1]):Calls Try.prog 25 #[.agg (EK exT s), .int .i64 0, .slice wa 2 2, .int .i64 1, .int .i64 5] w (fun e w'=>e = .returned (.tuple #[.int .i64 11, .int .i64 0])∧Below w.heap.size w w'):=by
 refine (VV (way:=[0,1]) hT hw (by decide) (by decide)).mono ?_;rintro e w' ⟨rfl,hb⟩;rw [XW];exact ⟨rfl,hb⟩
theorem Ze {w:World} {s:DY} (hT:CB w exT s):Calls Try.prog 48 #[.agg (EK exT s), .int .i64 0, .int .i64 2] w (fun e w'=>Below w.heap.size w w'∧∃ la lc,e = .returned (.tuple #[.slice la 2 lc, .int .i64 14, .int .i64 0])∧AV w' la [0,1]):=by
 refine (Qo hT).mono ?_;rintro e w' ⟨hb,_,hz⟩;have h:=XX;obtain ⟨c,hc,hcc⟩:=Option.map_eq_some_iff.1 h;simp only [Prod.mk.injEq] at hcc;obtain ⟨v,rfl,hO,hn,_⟩:=hz c hc;obtain ⟨g,cc,rfl,_,_,_,_,hi⟩:=hO.sl hn;rw [hcc.1] at hi ⊢;rw [hcc.2];exact ⟨hb,some ⟨g,0,none⟩,cc,rfl,hi⟩
theorem Q5:Try.f18.body=some (Code.seq (Aa Try.f18 0) (Code.seq (Aa Try.f18 1) (Code.seq (Aa Try.f18 2) (Code.seq (Aa Try.f18 3) (Code.seq (Aa Try.f18 4) (Code.seq (Aa Try.f18 5) (Code.seq (Aa Try.f18 6) Code.ret))))))):=by kernel_rfl
theorem Q7 {M:Machine} {w:World}:DX Try.prog M 18 #[] w (fun e w'=>e = .returned (.bool true)∧Below w.heap.size w w'):=by
 have hno:Ky (bodyPost Try.prog Try.f18 (fun e w'=>e = .returned (.bool true)∧Below w.heap.size w w')):=J4 (fun w h=>by cases h.1);have hb:=Below.refl w.heap.size w;refine Hf FO Try.func18 Q5 ?_ (fun w h=>by cases h.1);have Z:Sl (⟨#[]++Array.replicate (Try.f18.ntmps-(#[]:Array Value).size) undef,[]⟩:Act) 88 []:=by rw [Try.ntmps18];exact Sl.ZZ
 revert Z;generalize (Act.mk _ _)=a;intro Z;refine CX FO ?_;refine wpX.of FO ?_ (by repeat (first | assumption | apply AP | apply Az));refine wr ?_;refine Z.s ?_;clear Z;intro a Z;refine od ?_;refine CX FO ?_;refine QI FO (by repeat (first | assumption | apply AP | apply Az)) rfl ?_;refine CS rfl rfl (fun K hK =>?_);unfold Oper.wp;go_simp;refine (Ii).mono ?_;rintro e x ⟨hb2,s13,rfl,hT13⟩;replace hb:=hb.trans (hb2.mono hb.size);clear hb2;refine Z.kX hK (by decide) ?_;clear Z hK;intro a Z;refine CS rfl rfl (fun K hK =>?_);unfold Oper.wp;go_simp;refine (MG).mono ?_;rintro e x ⟨hb2,b14,rfl,hbw14,hP14⟩;replace hb:=hb.trans (hb2.mono hb.size);replace hT13:=hT13.below hb2;clear hb2;refine Z.kX hK (by decide) ?_;clear Z hK;intro a Z;have e13:=Z.g 13;have e14:=Z.g 14;refine OT rfl rfl rfl Try.func30 (by kernel_rfl) (by kernel_rfl) (args:=#[.agg (EK exT s13), .slice (some ⟨b14,0,none⟩) 4 4]) (by simp [Act.eval,Array.getD_eq_getD_getElem?,e13,e14]) (ZU hT13 hP14) ?_;clear e13 e14;rintro e x ⟨hb2,g15,rfl,hI15⟩;replace hb:=hb.trans (hb2.mono hb.size);clear hb2 hT13 hP14;refine ⟨_,rfl,?_⟩;refine Z.goX (by decide) ?_;clear Z;intro a Z;refine CS rfl rfl (fun K hK =>?_);have e15:=Z.g 15;unfold Oper.wp;go_simp;clear e15;refine Z.kX hK (by decide) ?_;clear Z hK;intro a Z
 refine CS rfl rfl (fun K hK =>?_);have e12:=Z.g 12;unfold Oper.wp;go_simp;clear e12;refine Z.kX hK (by decide) ?_;clear Z hK;intro a Z;refine CS rfl rfl (fun K hK =>?_);have e12:=Z.g 12;unfold Oper.wp;go_simp;clear e12;refine Z.kX hK (by decide) ?_;clear Z hK;intro a Z;refine CS rfl rfl (fun K hK =>?_);have e16:=Z.g 16;unfold Oper.wp;go_simp;clear e16;refine Z.kX hK (by decide) ?_;clear Z hK;intro a Z;refine CS rfl rfl (fun K hK =>?_);have e17:=Z.g 17;unfold Oper.wp;go_simp;clear e17;refine Z.kX hK (by decide) ?_;clear Z hK;intro a Z;refine Ju ?_;refine wpX.of FO ?_ (by repeat (first | assumption | apply AP | apply Az));refine wsr ?_;refine og fun K hK =>?_
 unfold Oper.wp;go_simp;refine (Ii).mono ?_;rintro e x ⟨hb2,s19,rfl,hT19⟩;replace hb:=hb.trans (hb2.mono hb.size);replace hI15:=hI15.below hb2;clear hb2;refine Z.K hK ?_;clear Z hK;intro a Z;refine og fun K hK =>?_
 unfold Oper.wp;go_simp;refine (MG).mono ?_;rintro e x ⟨hb2,b20,rfl,hbw20,hP20⟩;replace hb:=hb.trans (hb2.mono hb.size);replace hI15:=hI15.below hb2;replace hT19:=hT19.below hb2;clear hb2;refine Z.K hK ?_;clear Z hK;intro a Z;refine og fun K hK =>?_
 have e19:=Z.g 19;have e20:=Z.g 20;unfold Oper.wp;go_simp;refine (ZT hT19 hP20).mono ?_;rintro e x ⟨hb2,g21,rfl,hI21⟩;replace hb:=hb.trans (hb2.mono hb.size);replace hI15:=hI15.below hb2;replace hT19:=hT19.below hb2;replace hP20:=hP20.below hb2;clear hb2;clear hT19 hP20;clear e19 e20;refine Z.K hK ?_;clear Z hK;intro a Z;(iterate 5 refine Z.s ?_;clear Z;intro a Z);refine od ?_;refine wsr ?_;refine og fun K hK =>?_
 unfold Oper.wp;go_simp;refine (Ii).mono ?_;rintro e x ⟨hb2,s25,rfl,hT25⟩;replace hb:=hb.trans (hb2.mono hb.size);replace hI15:=hI15.below hb2;replace hI21:=hI21.below hb2;clear hb2;refine Z.K hK ?_;clear Z hK;intro a Z;refine Z.s ?_;clear Z;intro a Z;refine Af (G:=fun W=>wpOps _ _ _ _ _ W) ?_;obtain ⟨b26,hg⟩:∃ b,b=x.heap.size:=⟨_,rfl⟩;intro x hz K26 hb2;rw [← hg] at Z K26;have hhb26:w.heap.size≤b26:=by rw [hg];exact hb.size
 replace hb:=hb.trans (hb2.mono hb.size);replace hI15:=hI15.below hb2;replace hI21:=hI21.below hb2;replace hT25:=hT25.below hb2;clear hz hg hb2;refine og fun K hK =>?_
 have e25:=Z.g 25;have e26:=Z.g 26;unfold Oper.wp;go_simp;refine (Zf hT25 (BN (l:=[0,1]) K26)).mono ?_;rintro e x ⟨hb2,la27,lc27,rfl,hP27⟩;replace hb:=hb.trans (hb2.mono hb.size);replace hI15:=hI15.below hb2;replace hI21:=hI21.below hb2;replace hT25:=hT25.below hb2;replace K26:=K26.below hb2;clear hb2;clear hT25 K26;clear e25 e26;refine Z.K hK ?_;clear Z hK;intro a Z;(iterate 5 refine Z.s ?_;clear Z;intro a Z);refine od ?_;refine wsr ?_;refine og fun K hK =>?_
 unfold Oper.wp;go_simp;refine (Ii).mono ?_;rintro e x ⟨hb2,s31,rfl,hT31⟩;replace hb:=hb.trans (hb2.mono hb.size);replace hI15:=hI15.below hb2;replace hI21:=hI21.below hb2;replace hP27:=hP27.below hb2;clear hb2;refine Z.K hK ?_;clear Z hK;intro a Z;refine og fun K hK =>?_
 have e31:=Z.g 31;unfold Oper.wp;go_simp;refine (Ze hT31).mono ?_;rintro e x ⟨hb2,la32,lc32,rfl,hI32⟩;replace hb:=hb.trans (hb2.mono hb.size);replace hI15:=hI15.below hb2;replace hI21:=hI21.below hb2;replace hP27:=hP27.below hb2;replace hT31:=hT31.below hb2;clear hb2;clear hT31;clear e31;refine Z.K hK ?_;clear Z hK;intro a Z;(iterate 7 refine Z.s ?_;clear Z;intro a Z);refine od ?_;refine wsr ?_;refine og fun K hK =>?_
 unfold Oper.wp;go_simp;refine (Ii).mono ?_;rintro e x ⟨hb2,s37,rfl,hT37⟩;replace hb:=hb.trans (hb2.mono hb.size);replace hI15:=hI15.below hb2;replace hI21:=hI21.below hb2;replace hP27:=hP27.below hb2;replace hI32:=hI32.below hb2;clear hb2;refine Z.K hK ?_;clear Z hK;intro a Z;refine Z.s ?_;clear Z;intro a Z;refine Af (G:=fun W=>wpOps _ _ _ _ _ W) ?_;obtain ⟨b38,hg⟩:∃ b,b=x.heap.size:=⟨_,rfl⟩;intro x hz K38 hb2;rw [← hg] at Z K38;have hhb38:w.heap.size≤b38:=by rw [hg];exact hb.size
 replace hb:=hb.trans (hb2.mono hb.size);replace hI15:=hI15.below hb2;replace hI21:=hI21.below hb2;replace hP27:=hP27.below hb2;replace hI32:=hI32.below hb2;replace hT37:=hT37.below hb2;clear hz hg hb2;refine og fun K hK =>?_
 have e37:=Z.g 37;have e38:=Z.g 38;unfold Oper.wp;go_simp;refine (Zd hT37 (BN (l:=[0,1]) K38)).mono ?_;rintro e x ⟨rfl,hb2⟩;replace hb:=hb.trans (hb2.mono hb.size);replace hI15:=hI15.below hb2;replace hI21:=hI21.below hb2;replace hP27:=hP27.below hb2;replace hI32:=hI32.below hb2;replace hT37:=hT37.below hb2;replace K38:=K38.below hb2;clear hb2;clear hT37 K38;clear e37 e38;refine Z.K hK ?_;clear Z hK;intro a Z;(iterate 5 refine Z.s ?_;clear Z;intro a Z);refine od ?_;refine wsr ?_;(iterate 3 refine Z.s ?_;clear Z;intro a Z);(iterate 2 refine Z.t ?_;clear Z;intro a Z);(iterate 2 refine Z.s ?_;clear Z;intro a Z);(iterate 2 refine Z.t ?_;clear Z;intro a Z);(iterate 2 refine Z.s ?_;clear Z;intro a Z);(iterate 2 refine Z.t ?_;clear Z;intro a Z);(iterate 2 refine Z.s ?_;clear Z;intro a Z);(iterate 2 refine Z.t ?_;clear Z;intro a Z);(iterate 2 refine Z.s ?_;clear Z;intro a Z);(iterate 2 refine Z.t ?_;clear Z;intro a Z);(iterate 2 refine Z.s ?_;clear Z;intro a Z);(iterate 2 refine Z.t ?_;clear Z;intro a Z);(iterate 2 refine Z.s ?_;clear Z;intro a Z);(iterate 2 refine Z.t ?_;clear Z;intro a Z);refine Af (G:=fun W=>wpOps _ _ _ _ _ W) ?_;obtain ⟨b70,hg⟩:∃ b,b=x.heap.size:=⟨_,rfl⟩;intro x hz K70 hb2;rw [← hg] at Z K70
 have hhb70:w.heap.size≤b70:=by rw [hg];exact hb.size
 replace hb:=hb.trans (hb2.mono hb.size);replace hI15:=hI15.below hb2;replace hI21:=hI21.below hb2;replace hP27:=hP27.below hb2;replace hI32:=hI32.below hb2;clear hz hg hb2;refine oW (Z.g 68) fun K hK =>?_
 have e69:=Z.g 69;have e70:=Z.g 70;unfold Oper.wp;go_simp;refine (LP hI15 (BN (l:=[9,5]) K70) rfl rfl (by decide)).mono ?_;rintro e x ⟨rfl,hb2⟩;replace hb:=hb.trans (hb2.mono hb.size);replace hI15:=hI15.below hb2;replace hI21:=hI21.below hb2;replace hP27:=hP27.below hb2;replace hI32:=hI32.below hb2;replace K70:=K70.below hb2;clear hb2;clear e69 e70;refine Z.K hK ?_;clear Z hK;intro a Z;(iterate 2 refine Z.s ?_;clear Z;intro a Z);(iterate 2 refine Z.t ?_;clear Z;intro a Z);refine Af (G:=fun W=>wpOps _ _ _ _ _ W) ?_;obtain ⟨b75,hg⟩:∃ b,b=x.heap.size:=⟨_,rfl⟩;intro x hz K75 hb2;rw [← hg] at Z K75;have hhb75:w.heap.size≤b75:=by rw [hg];exact hb.size
 have h70_75:b70 < b75:=by rw [hg];exact K70.lt
 replace hb:=hb.trans (hb2.mono hb.size);replace hI15:=hI15.below hb2;replace hI21:=hI21.below hb2;replace hP27:=hP27.below hb2;replace hI32:=hI32.below hb2;replace K70:=K70.below hb2;clear hz hg hb2;refine oW (Z.g 73) fun K hK =>?_
 have e74:=Z.g 74;have e75:=Z.g 75;unfold Oper.wp;go_simp;refine (LP hI21 (BN (l:=[9,5,0,0]) K75) rfl rfl (by decide)).mono ?_;rintro e x ⟨rfl,hb2⟩;replace hb:=hb.trans (hb2.mono hb.size);replace hI15:=hI15.below hb2;replace hI21:=hI21.below hb2;replace hP27:=hP27.below hb2;replace hI32:=hI32.below hb2;replace K70:=K70.below hb2;replace K75:=K75.below hb2;clear hb2;clear e74 e75;refine Z.K hK ?_;clear Z hK;intro a Z;(iterate 2 refine Z.s ?_;clear Z;intro a Z);refine Z.t ?_;clear Z;intro a Z;refine oW (Z.g 78) fun K hK =>?_
 unfold Oper.wp;go_simp;refine (MG).mono ?_;rintro e x ⟨hb2,b80,rfl,hbw80,hP80⟩;replace hb:=hb.trans (hb2.mono hb.size);replace hI15:=hI15.below hb2;replace hI21:=hI21.below hb2;replace hP27:=hP27.below hb2;replace hI32:=hI32.below hb2;replace K70:=K70.below hb2;replace K75:=K75.below hb2;clear hb2;refine Z.K hK ?_;clear Z hK;intro a Z;refine oW (Z.g 78) fun K hK =>?_
 have e79:=Z.g 79;have e80:=Z.g 80;unfold Oper.wp;go_simp;refine (Vl hP27 hP80 rfl rfl (by decide)).mono ?_;rintro e x ⟨rfl,hb2⟩;replace hb:=hb.trans (hb2.mono hb.size);replace hI15:=hI15.below hb2;replace hI21:=hI21.below hb2;replace hP27:=hP27.below hb2;replace hI32:=hI32.below hb2;replace K70:=K70.below hb2;replace K75:=K75.below hb2;replace hP80:=hP80.below hb2;clear hb2;clear e79 e80;refine Z.K hK ?_;clear Z hK;intro a Z;(iterate 2 refine Z.s ?_;clear Z;intro a Z);(iterate 2 refine Z.t ?_;clear Z;intro a Z);refine Af (G:=fun W=>wpOps _ _ _ _ _ W) ?_;obtain ⟨b85,hg⟩:∃ b,b=x.heap.size:=⟨_,rfl⟩;intro x hz K85 hb2;rw [← hg] at Z K85;have hhb85:w.heap.size≤b85:=by rw [hg];exact hb.size
 have h75_85:b75 < b85:=by rw [hg];exact K75.lt
 replace hb:=hb.trans (hb2.mono hb.size);replace hI15:=hI15.below hb2;replace hI21:=hI21.below hb2;replace hP27:=hP27.below hb2;replace hI32:=hI32.below hb2;replace K70:=K70.below hb2;replace K75:=K75.below hb2;replace hP80:=hP80.below hb2;clear hz hg hb2;refine oW (Z.g 83) fun K hK =>?_
 have e84:=Z.g 84;have e85:=Z.g 85;unfold Oper.wp;go_simp;refine (LP hI32 (BN (l:=[0,1]) K85) rfl rfl (by decide)).mono ?_;rintro e x ⟨rfl,hb2⟩;replace hb:=hb.trans (hb2.mono hb.size);replace hI15:=hI15.below hb2;replace hI21:=hI21.below hb2;replace hP27:=hP27.below hb2;replace hI32:=hI32.below hb2;replace K70:=K70.below hb2;replace K75:=K75.below hb2;replace hP80:=hP80.below hb2;replace K85:=K85.below hb2;clear hb2;clear e84 e85;refine Z.K hK ?_;clear Z hK;intro a Z;(iterate 2 refine Z.s ?_;clear Z;intro a Z);refine od ?_;refine wp_ret ?_
 try simp only [Exit.then,Exit.inBlock]
 refine bodyPost_ret (v := .bool true) ?_ Z.defers ⟨rfl,hb⟩;simp [results,Try.results18,Z.get 0 _ rfl]
end
section
open Go Go.Conc Go.RowKit
section
variable {P:Program} {M:Machine} {ops:Array Oper} {Q:Exit→Act→World→Prop} {C:World→Prop} {lb eff:Nat→Bool}
end
section
variable {P:Program} {M:Machine} {ops:Array Oper} {C:World→Prop} {Q:Exit→Act→World→Prop} {lb eff:Nat→Bool} {i:Nat} {rest:List Nat} {o:Oper} {a:Act} {w:World} {n d:Nat} {m:List (Nat×Value)} {v:Value}
end
section
variable {P:Program} {ops:Array Oper} {C:World→Prop} {eff:Nat→Bool} {Qt:Act→World→Prop} {n0:Nat}
end
section
variable {P:Program} {ops:Array Oper} {C:World→Prop} {Q:Exit→Act→World→Prop} {lb eff:Nat→Bool} {i:Nat} {rest:List Nat} {o:Oper} {a:Act} {w:World} {n d:Nat} {m:List (Nat×Value)}
end
end
section
open Go Go.Conc Go.RowKit
section
variable {P:Program} {M:Machine} {ops:Array Oper} {C:World→Prop} {Q:Exit→Act→World→Prop} {lb eff:Nat→Bool} {i:Nat} {rest:List Nat} {o:Oper} {a:Act} {w:World} {n d:Nat} {m:List (Nat×Value)} {v:Value}
end
end
section
open Go.RowKit
end
section
open Go.RowKit
open Go.ChangeMaps (setBlock)
structure Ext (m:Nat) (w w':World):Prop where
 os:w'.os=w.os
 tape:w'.tape=w.tape
 output:w'.output=w.output
 size:w.heap.size≤w'.heap.size
 block:∀ k,k < w.heap.size→k≠m→w'.heap[k]? = w.heap[k]?
theorem Ext.refl (m:Nat) (w:World):Ext m w w:=⟨rfl,rfl,rfl,Nat.le_refl _,fun _ _ _=>rfl⟩
theorem Ext.trans {m:Nat} {a b c:World} (h:Ext m a b) (k:Ext m b c):Ext m a c :=
 ⟨k.os.trans h.os,k.tape.trans h.tape,k.output.trans h.output,Nat.le_trans h.size k.size,fun i hi hne=>(k.block i (Nat.lt_of_lt_of_le hi h.size) hne).trans (h.block i hi hne)⟩
theorem Ext.of_below {m:Nat} {w w':World} (h:Below w.heap.size w w'):Ext m w w':=⟨h.os,h.tape,h.output,h.size,fun k hk _=>h.block k hk⟩
theorem Ext.below {m B:Nat} {w0 w w':World} (h:Ext m w w') (hb:Below B w0 w) (hB:B≤m) (hBw:B≤w.heap.size):Below B w0 w' :=
 hb.trans ⟨h.os,h.tape,h.output,h.size,fun k hk=>h.block k (by omega) (by omega)⟩
end
section
open Go.RowKit
open Go.ChangeMaps (setBlock)
section
variable {r:DZ} {f:Flock} {shut day:Int} {q:Int×Int} {k:Nat} {s:Strip} {eo:Int×Bool}
end
end
section
open Go.RowKit
section
variable {r:DZ} {f:Flock} {shut d left b0:Int} {V:Int×Int→Int} {p q:Int×Int}
end
end
section
open Go.RowKit
open Go.ChangeMaps (setBlock)
end
section
open Go.RowKit
def bd (f:Flock) (last d l:Int):Int:=(last+1-d)*f.pace-l
end
section
open Go.RowKit
end
section
open Go.RowKit
def Strip.cells (s:Strip):List Value:=[.int .i64 s.A, .int .i64 s.B, .int .i64 s.L, .int .i64 s.W, .int .i64 s.K, .int .i64 s.X, .int .i64 s.Y]
def Xd (w:World) (B:Nat) (v:Value) (l:List Strip):Prop:=w.ownsRow B 96 7 v l.length (l.flatMap Strip.cells)
end
section
open Go.RowKit
def wide (s:Strip):Strip:={ s with W:=max s.W 90 }
end
end Go.Proofs.Ytgdobbcjkiapkaa
