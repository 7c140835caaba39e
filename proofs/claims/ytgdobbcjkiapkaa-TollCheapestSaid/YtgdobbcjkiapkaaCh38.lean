import Derived.Test.YtgdobbcjkiapkaaCh04
import Derived.Test.YtgdobbcjkiapkaaCh34
import Derived.Test.YtgdobbcjkiapkaaCh36
import Derived.Test.YtgdobbcjkiapkaaCh37
import Derived.Test.YtgdobbcjkiapkaaCh03
import Derived.Test.YtgdobbcjkiapkaaCh25
namespace Go.Proofs.Ytgdobbcjkiapkaa
set_option maxRecDepth 100000
set_option maxHeartbeats 4000000
set_option linter.unusedSimpArgs false
set_option linter.unusedVariables false
section
open Go Go.Conc
open Go.RowKit
theorem CJ {w:World} {b:Nat} {l:List Int} {t:TypeId} (K:Rw w b (NP l) t):Aq w (some ⟨b,0,none⟩) l := .inr ⟨b,0,rfl,fun i hi=>by rw [Nat.zero_add];exact K.cell (QK hi)⟩
theorem L8 {w:World} {la lb:Option Addr} {ca cb n m:Nat} {l:List Int} (ha:Aq w la l) (hb:Aq w lb l) (h1:n=l.length) (h2:m=l.length) (hn:l.length≤1000000):Calls Try.prog 28 #[.slice la n ca, .slice lb m cb] w (fun e w'=>e = .returned (.bool true)∧Below w.heap.size w w'):=by
 subst h1 h2;exact (Qp ha hb hn).mono fun e w' h=>⟨by rw [h.1,decide_eq_true rfl],h.2⟩
theorem Wn {w:World} {la lb:Option Addr} {ca cb n m:Nat} {l:List AV} (ha:GY w la l) (hb:GY w lb l) (h1:n=l.length) (h2:m=l.length) (hn:l.length≤1000000):Calls Try.prog 41 #[.slice la n ca, .slice lb m cb] w (fun e w'=>e = .returned (.bool true)∧Below w.heap.size w w'):=by
 subst h1 h2;exact (Wp ha hb hn).mono fun e w' h=>⟨by rw [h.1,decide_eq_true rfl],h.2⟩
theorem AaG {M:Machine} {w:World} {s:DF} {la:Option Addr} {lc:Nat} (hT:BM w exT s) (hP:GY w la exL):Ed Try.prog M 30 #[.agg (Em exT s), .slice la 4 lc] w (fun e w'=>Below w.heap.size w w'∧∃ g,e = .returned (.tuple #[.slice (some ⟨g,0,none⟩) 2 2, .int .i64 0])∧Aq w' (some ⟨g,0,none⟩) [9,5]):=by
 refine (YY (l:=exL) (lc:=lc) hT hP (by show 4≤maxLen;decide)).mono ?_;rintro e w' ⟨hb,_,hz⟩;obtain ⟨g,rfl,_,hG⟩:=hz Xp;have e2:NL (Jz exT exL) exT.Ad.length=[9,5]:=AaD;rw [e2] at hG ⊢;exact ⟨hb,g,rfl,CJ hG⟩
theorem AaF {w:World} {s:DF} {la:Option Addr} {lc:Nat} (hT:BM w exT s) (hP:GY w la exL):Calls Try.prog 31 #[.agg (Em exT s), .slice la 4 lc] w (fun e w'=>Below w.heap.size w w'∧∃ g,e = .returned (.tuple #[.slice (some ⟨g,0,none⟩) 4 4, .int .i64 0])∧Aq w' (some ⟨g,0,none⟩) [9,5,0,0]):=by
 refine (SS (l:=exL) (lc:=lc) hT hP (by show 4≤maxLen;decide)).mono ?_;rintro e w' ⟨hb,_,hz⟩;obtain ⟨g,rfl,_,hG⟩:=hz Xp;refine ⟨hb,g,rfl,CJ (l:=[9,5,0,0]) (t:=3) ?_⟩;have h:=ZX;simp only [Prod.mk.injEq] at h;obtain ⟨h0,h1,h2,h3⟩:=h
 have e2:ar4 (GH exT exL exT.Ad.length)=NP [9,5,0,0]:=by
  show #[Value.int .i64 (GH exT exL 2 0), .int .i64 (GH exT exL 2 1), .int .i64 (GH exT exL 2 2), .int .i64 (GH exT exL 2 3)]=_;rw [h0,h1,h2,h3];rfl
 rw [← e2];exact hG
theorem Z4 {w:World} {s:DF} {wa:Option Addr} (hT:BM w exT s) (hw:Aq w wa [0,1]):Calls Try.prog 35 #[.agg (Em exT s), .int .i64 0, .slice wa 2 2] w (fun e w'=>Below w.heap.size w w'∧∃ la lc,e = .returned (.tuple #[.slice la 4 lc, .int .i64 0])∧GY w' la exL):=by
 refine (VG (way:=[0,1]) hT hw (by decide) (by decide)).mono ?_;rintro e w' ⟨hb,v,rfl,hO,_⟩;have h:=YQ;rw [h] at hO ⊢;obtain ⟨a,c,rfl,_,_,hP⟩:=hO.at;exact ⟨hb,a,c,rfl,hP⟩
theorem ZY {w:World} {s:DF} {wa:Option Addr} (hT:BM w exT s) (hw:Aq w wa [0,1]):Calls Try.prog 25 #[.agg (Em exT s), .int .i64 0, .slice wa 2 2, .int .i64 1, .int .i64 5] w (fun e w'=>e = .returned (.tuple #[.int .i64 11, .int .i64 0])∧Below w.heap.size w w'):=by
 refine (Xf (way:=[0,1]) hT hw (by decide) (by decide)).mono ?_;rintro e w' ⟨rfl,hb⟩;rw [YO];exact ⟨rfl,hb⟩
theorem ZZ {w:World} {s:DF} (hT:BM w exT s):Calls Try.prog 48 #[.agg (Em exT s), .int .i64 0, .int .i64 2] w (fun e w'=>Below w.heap.size w w'∧∃ la lc,e = .returned (.tuple #[.slice la 2 lc, .int .i64 14, .int .i64 0])∧Aq w' la [0,1]):=by
 refine (Lu hT).mono ?_;rintro e w' ⟨hb,_,hz⟩;have h:=YP;obtain ⟨c,hc,hcc⟩:=Option.map_eq_some_iff.1 h;simp only [Prod.mk.injEq] at hcc;obtain ⟨v,rfl,hO,hn,_⟩:=hz c hc;obtain ⟨g,cc,rfl,_,_,_,_,hi⟩:=hO.sl hn;rw [hcc.1] at hi ⊢;rw [hcc.2];exact ⟨hb,some ⟨g,0,none⟩,cc,rfl,hi⟩
theorem Sv:Try.f18.body=some (Code.seq (Aa Try.f18 0) (Code.seq (Aa Try.f18 1) (Code.seq (Aa Try.f18 2) (Code.seq (Aa Try.f18 3) (Code.seq (Aa Try.f18 4) (Code.seq (Aa Try.f18 5) (Code.seq (Aa Try.f18 6) Code.ret))))))):=by kernel_rfl
theorem Sz {M:Machine} {w:World}:Ed Try.prog M 18 #[] w (fun e w'=>e = .returned (.bool true)∧Below w.heap.size w w'):=by
 have hno:KU (bodyPost Try.prog Try.f18 (fun e w'=>e = .returned (.bool true)∧Below w.heap.size w w')):=Kz (fun w h=>by cases h.1);have hb:=Below.refl w.heap.size w;refine Ia G5 Try.func18 Sv ?_ (fun w h=>by cases h.1);have Z:Sl (⟨#[]++Array.replicate (Try.f18.ntmps-(#[]:Array Value).size) undef,[]⟩:Act) 88 []:=by rw [Try.ntmps18];exact Sl.AaL
 revert Z;generalize (Act.mk _ _)=a;intro Z;refine D6 G5 ?_;refine wpX.of G5 ?_ (by repeat (first | assumption | apply Be | apply AY));refine wr ?_;refine Z.s ?_;clear Z;intro a Z;refine od ?_;refine D6 G5 ?_;refine VN G5 (by repeat (first | assumption | apply Be | apply AY)) rfl ?_;refine ER rfl rfl (fun K hK =>?_);unfold Oper.wp;go_simp;refine (IB).mono ?_;rintro e x ⟨hb2,s13,rfl,hT13⟩;replace hb:=hb.trans (hb2.mono hb.size);clear hb2;refine Z.kX hK (by decide) ?_;clear Z hK;intro a Z;refine ER rfl rfl (fun K hK =>?_);unfold Oper.wp;go_simp;refine (MR).mono ?_;rintro e x ⟨hb2,b14,rfl,hbw14,hP14⟩;replace hb:=hb.trans (hb2.mono hb.size);replace hT13:=hT13.below hb2;clear hb2;refine Z.kX hK (by decide) ?_;clear Z hK;intro a Z;have e13:=Z.g 13;have e14:=Z.g 14;refine SC rfl rfl rfl Try.func30 (by kernel_rfl) (by kernel_rfl) (args:=#[.agg (Em exT s13), .slice (some ⟨b14,0,none⟩) 4 4]) (by simp [Act.eval,Array.getD_eq_getD_getElem?,e13,e14]) (AaG hT13 hP14) ?_;clear e13 e14;rintro e x ⟨hb2,g15,rfl,hI15⟩;replace hb:=hb.trans (hb2.mono hb.size);clear hb2 hT13 hP14;refine ⟨_,rfl,?_⟩;refine Z.goX (by decide) ?_;clear Z;intro a Z;refine ER rfl rfl (fun K hK =>?_);have e15:=Z.g 15;unfold Oper.wp;go_simp;clear e15;refine Z.kX hK (by decide) ?_;clear Z hK;intro a Z
 refine ER rfl rfl (fun K hK =>?_);have e12:=Z.g 12;unfold Oper.wp;go_simp;clear e12;refine Z.kX hK (by decide) ?_;clear Z hK;intro a Z;refine ER rfl rfl (fun K hK =>?_);have e12:=Z.g 12;unfold Oper.wp;go_simp;clear e12;refine Z.kX hK (by decide) ?_;clear Z hK;intro a Z;refine ER rfl rfl (fun K hK =>?_);have e16:=Z.g 16;unfold Oper.wp;go_simp;clear e16;refine Z.kX hK (by decide) ?_;clear Z hK;intro a Z;refine ER rfl rfl (fun K hK =>?_);have e17:=Z.g 17;unfold Oper.wp;go_simp;clear e17;refine Z.kX hK (by decide) ?_;clear Z hK;intro a Z;refine Me ?_;refine wpX.of G5 ?_ (by repeat (first | assumption | apply Be | apply AY));refine wsr ?_;refine og fun K hK =>?_
 unfold Oper.wp;go_simp;refine (IB).mono ?_;rintro e x ⟨hb2,s19,rfl,hT19⟩;replace hb:=hb.trans (hb2.mono hb.size);replace hI15:=hI15.below hb2;clear hb2;refine Z.K hK ?_;clear Z hK;intro a Z;refine og fun K hK =>?_
 unfold Oper.wp;go_simp;refine (MR).mono ?_;rintro e x ⟨hb2,b20,rfl,hbw20,hP20⟩;replace hb:=hb.trans (hb2.mono hb.size);replace hI15:=hI15.below hb2;replace hT19:=hT19.below hb2;clear hb2;refine Z.K hK ?_;clear Z hK;intro a Z;refine og fun K hK =>?_
 have e19:=Z.g 19;have e20:=Z.g 20;unfold Oper.wp;go_simp;refine (AaF hT19 hP20).mono ?_;rintro e x ⟨hb2,g21,rfl,hI21⟩;replace hb:=hb.trans (hb2.mono hb.size);replace hI15:=hI15.below hb2;replace hT19:=hT19.below hb2;replace hP20:=hP20.below hb2;clear hb2;clear hT19 hP20;clear e19 e20;refine Z.K hK ?_;clear Z hK;intro a Z;(iterate 5 refine Z.s ?_;clear Z;intro a Z);refine od ?_;refine wsr ?_;refine og fun K hK =>?_
 unfold Oper.wp;go_simp;refine (IB).mono ?_;rintro e x ⟨hb2,s25,rfl,hT25⟩;replace hb:=hb.trans (hb2.mono hb.size);replace hI15:=hI15.below hb2;replace hI21:=hI21.below hb2;clear hb2;refine Z.K hK ?_;clear Z hK;intro a Z;refine Z.s ?_;clear Z;intro a Z;refine Ae (G:=fun W=>wpOps _ _ _ _ _ W) ?_;obtain ⟨b26,hg⟩:∃ b,b=x.heap.size:=⟨_,rfl⟩;intro x hz K26 hb2;rw [← hg] at Z K26;have hhb26:w.heap.size≤b26:=by rw [hg];exact hb.size
 replace hb:=hb.trans (hb2.mono hb.size);replace hI15:=hI15.below hb2;replace hI21:=hI21.below hb2;replace hT25:=hT25.below hb2;clear hz hg hb2;refine og fun K hK =>?_
 have e25:=Z.g 25;have e26:=Z.g 26;unfold Oper.wp;go_simp;refine (Z4 hT25 (CJ (l:=[0,1]) K26)).mono ?_;rintro e x ⟨hb2,la27,lc27,rfl,hP27⟩;replace hb:=hb.trans (hb2.mono hb.size);replace hI15:=hI15.below hb2;replace hI21:=hI21.below hb2;replace hT25:=hT25.below hb2;replace K26:=K26.below hb2;clear hb2;clear hT25 K26;clear e25 e26;refine Z.K hK ?_;clear Z hK;intro a Z;(iterate 5 refine Z.s ?_;clear Z;intro a Z);refine od ?_;refine wsr ?_;refine og fun K hK =>?_
 unfold Oper.wp;go_simp;refine (IB).mono ?_;rintro e x ⟨hb2,s31,rfl,hT31⟩;replace hb:=hb.trans (hb2.mono hb.size);replace hI15:=hI15.below hb2;replace hI21:=hI21.below hb2;replace hP27:=hP27.below hb2;clear hb2;refine Z.K hK ?_;clear Z hK;intro a Z;refine og fun K hK =>?_
 have e31:=Z.g 31;unfold Oper.wp;go_simp;refine (ZZ hT31).mono ?_;rintro e x ⟨hb2,la32,lc32,rfl,hI32⟩;replace hb:=hb.trans (hb2.mono hb.size);replace hI15:=hI15.below hb2;replace hI21:=hI21.below hb2;replace hP27:=hP27.below hb2;replace hT31:=hT31.below hb2;clear hb2;clear hT31;clear e31;refine Z.K hK ?_;clear Z hK;intro a Z;(iterate 7 refine Z.s ?_;clear Z;intro a Z);refine od ?_;refine wsr ?_;refine og fun K hK =>?_
 unfold Oper.wp;go_simp;refine (IB).mono ?_;rintro e x ⟨hb2,s37,rfl,hT37⟩;replace hb:=hb.trans (hb2.mono hb.size);replace hI15:=hI15.below hb2;replace hI21:=hI21.below hb2;replace hP27:=hP27.below hb2;replace hI32:=hI32.below hb2;clear hb2;refine Z.K hK ?_;clear Z hK;intro a Z;refine Z.s ?_;clear Z;intro a Z;refine Ae (G:=fun W=>wpOps _ _ _ _ _ W) ?_;obtain ⟨b38,hg⟩:∃ b,b=x.heap.size:=⟨_,rfl⟩;intro x hz K38 hb2;rw [← hg] at Z K38;have hhb38:w.heap.size≤b38:=by rw [hg];exact hb.size
 replace hb:=hb.trans (hb2.mono hb.size);replace hI15:=hI15.below hb2;replace hI21:=hI21.below hb2;replace hP27:=hP27.below hb2;replace hI32:=hI32.below hb2;replace hT37:=hT37.below hb2;clear hz hg hb2;refine og fun K hK =>?_
 have e37:=Z.g 37;have e38:=Z.g 38;unfold Oper.wp;go_simp;refine (ZY hT37 (CJ (l:=[0,1]) K38)).mono ?_;rintro e x ⟨rfl,hb2⟩;replace hb:=hb.trans (hb2.mono hb.size);replace hI15:=hI15.below hb2;replace hI21:=hI21.below hb2;replace hP27:=hP27.below hb2;replace hI32:=hI32.below hb2;replace hT37:=hT37.below hb2;replace K38:=K38.below hb2;clear hb2;clear hT37 K38;clear e37 e38;refine Z.K hK ?_;clear Z hK;intro a Z;(iterate 5 refine Z.s ?_;clear Z;intro a Z);refine od ?_;refine wsr ?_;(iterate 3 refine Z.s ?_;clear Z;intro a Z);(iterate 2 refine Z.t ?_;clear Z;intro a Z);(iterate 2 refine Z.s ?_;clear Z;intro a Z);(iterate 2 refine Z.t ?_;clear Z;intro a Z);(iterate 2 refine Z.s ?_;clear Z;intro a Z);(iterate 2 refine Z.t ?_;clear Z;intro a Z);(iterate 2 refine Z.s ?_;clear Z;intro a Z);(iterate 2 refine Z.t ?_;clear Z;intro a Z);(iterate 2 refine Z.s ?_;clear Z;intro a Z);(iterate 2 refine Z.t ?_;clear Z;intro a Z);(iterate 2 refine Z.s ?_;clear Z;intro a Z);(iterate 2 refine Z.t ?_;clear Z;intro a Z);(iterate 2 refine Z.s ?_;clear Z;intro a Z);(iterate 2 refine Z.t ?_;clear Z;intro a Z);refine Ae (G:=fun W=>wpOps _ _ _ _ _ W) ?_;obtain ⟨b70,hg⟩:∃ b,b=x.heap.size:=⟨_,rfl⟩;intro x hz K70 hb2;rw [← hg] at Z K70
 have hhb70:w.heap.size≤b70:=by rw [hg];exact hb.size
 replace hb:=hb.trans (hb2.mono hb.size);replace hI15:=hI15.below hb2;replace hI21:=hI21.below hb2;replace hP27:=hP27.below hb2;replace hI32:=hI32.below hb2;clear hz hg hb2;refine oW (Z.g 68) fun K hK =>?_
 have e69:=Z.g 69;have e70:=Z.g 70;unfold Oper.wp;go_simp;refine (L8 hI15 (CJ (l:=[9,5]) K70) rfl rfl (by decide)).mono ?_;rintro e x ⟨rfl,hb2⟩;replace hb:=hb.trans (hb2.mono hb.size);replace hI15:=hI15.below hb2;replace hI21:=hI21.below hb2;replace hP27:=hP27.below hb2;replace hI32:=hI32.below hb2;replace K70:=K70.below hb2;clear hb2;clear e69 e70;refine Z.K hK ?_;clear Z hK;intro a Z;(iterate 2 refine Z.s ?_;clear Z;intro a Z);(iterate 2 refine Z.t ?_;clear Z;intro a Z);refine Ae (G:=fun W=>wpOps _ _ _ _ _ W) ?_;obtain ⟨b75,hg⟩:∃ b,b=x.heap.size:=⟨_,rfl⟩;intro x hz K75 hb2;rw [← hg] at Z K75;have hhb75:w.heap.size≤b75:=by rw [hg];exact hb.size
 have h70_75:b70 < b75:=by rw [hg];exact K70.lt
 replace hb:=hb.trans (hb2.mono hb.size);replace hI15:=hI15.below hb2;replace hI21:=hI21.below hb2;replace hP27:=hP27.below hb2;replace hI32:=hI32.below hb2;replace K70:=K70.below hb2;clear hz hg hb2;refine oW (Z.g 73) fun K hK =>?_
 have e74:=Z.g 74;have e75:=Z.g 75;unfold Oper.wp;go_simp;refine (L8 hI21 (CJ (l:=[9,5,0,0]) K75) rfl rfl (by decide)).mono ?_;rintro e x ⟨rfl,hb2⟩;replace hb:=hb.trans (hb2.mono hb.size);replace hI15:=hI15.below hb2;replace hI21:=hI21.below hb2;replace hP27:=hP27.below hb2;replace hI32:=hI32.below hb2;replace K70:=K70.below hb2;replace K75:=K75.below hb2;clear hb2;clear e74 e75;refine Z.K hK ?_;clear Z hK;intro a Z;(iterate 2 refine Z.s ?_;clear Z;intro a Z);refine Z.t ?_;clear Z;intro a Z;refine oW (Z.g 78) fun K hK =>?_
 unfold Oper.wp;go_simp;refine (MR).mono ?_;rintro e x ⟨hb2,b80,rfl,hbw80,hP80⟩;replace hb:=hb.trans (hb2.mono hb.size);replace hI15:=hI15.below hb2;replace hI21:=hI21.below hb2;replace hP27:=hP27.below hb2;replace hI32:=hI32.below hb2;replace K70:=K70.below hb2;replace K75:=K75.below hb2;clear hb2;refine Z.K hK ?_;clear Z hK;intro a Z;refine oW (Z.g 78) fun K hK =>?_
 have e79:=Z.g 79;have e80:=Z.g 80;unfold Oper.wp;go_simp;refine (Wn hP27 hP80 rfl rfl (by decide)).mono ?_;rintro e x ⟨rfl,hb2⟩;replace hb:=hb.trans (hb2.mono hb.size);replace hI15:=hI15.below hb2;replace hI21:=hI21.below hb2;replace hP27:=hP27.below hb2;replace hI32:=hI32.below hb2;replace K70:=K70.below hb2;replace K75:=K75.below hb2;replace hP80:=hP80.below hb2;clear hb2;clear e79 e80;refine Z.K hK ?_;clear Z hK;intro a Z;(iterate 2 refine Z.s ?_;clear Z;intro a Z);(iterate 2 refine Z.t ?_;clear Z;intro a Z);refine Ae (G:=fun W=>wpOps _ _ _ _ _ W) ?_;obtain ⟨b85,hg⟩:∃ b,b=x.heap.size:=⟨_,rfl⟩;intro x hz K85 hb2;rw [← hg] at Z K85;have hhb85:w.heap.size≤b85:=by rw [hg];exact hb.size
 have h75_85:b75 < b85:=by rw [hg];exact K75.lt
 replace hb:=hb.trans (hb2.mono hb.size);replace hI15:=hI15.below hb2;replace hI21:=hI21.below hb2;replace hP27:=hP27.below hb2;replace hI32:=hI32.below hb2;replace K70:=K70.below hb2;replace K75:=K75.below hb2;replace hP80:=hP80.below hb2;clear hz hg hb2;refine oW (Z.g 83) fun K hK =>?_
 have e84:=Z.g 84;have e85:=Z.g 85;unfold Oper.wp;go_simp;refine (L8 hI32 (CJ (l:=[0,1]) K85) rfl rfl (by decide)).mono ?_;rintro e x ⟨rfl,hb2⟩;replace hb:=hb.trans (hb2.mono hb.size);replace hI15:=hI15.below hb2;replace hI21:=hI21.below hb2;replace hP27:=hP27.below hb2;replace hI32:=hI32.below hb2;replace K70:=K70.below hb2;replace K75:=K75.below hb2;replace hP80:=hP80.below hb2;replace K85:=K85.below hb2;clear hb2;clear e84 e85;refine Z.K hK ?_;clear Z hK;intro a Z;(iterate 2 refine Z.s ?_;clear Z;intro a Z);refine od ?_;refine wp_ret ?_
 try simp only [Exit.then,Exit.inBlock]
 refine bodyPost_ret (v := .bool true) ?_ Z.defers ⟨rfl,hb⟩;simp [results,Try.results18,Z.get 0 _ rfl]
end
section
open Go Go.Conc Go.RowKit
section
variable {P:Program} {M:Machine} {ops:Array Oper} {Q:Exit→Act→World→Prop} {C:World→Prop} {lb eff:Nat→Bool}
end
section
variable {P:Program} {M:Machine} {ops:Array Oper} {C:World→Prop} {Q:Exit→Act→World→Prop} {lb eff:Nat→Bool} {i:Nat} {rest:List Nat} {o:Oper} {a:Act} {w:World} {n d:Nat} {m:List (Nat×Value)} {v:Value}
end
section
variable {P:Program} {ops:Array Oper} {C:World→Prop} {eff:Nat→Bool} {Qt:Act→World→Prop} {n0:Nat}
end
section
variable {P:Program} {ops:Array Oper} {C:World→Prop} {Q:Exit→Act→World→Prop} {lb eff:Nat→Bool} {i:Nat} {rest:List Nat} {o:Oper} {a:Act} {w:World} {n d:Nat} {m:List (Nat×Value)}
end
end
section
open Go Go.Conc Go.RowKit
section
variable {P:Program} {M:Machine} {ops:Array Oper} {C:World→Prop} {Q:Exit→Act→World→Prop} {lb eff:Nat→Bool} {i:Nat} {rest:List Nat} {o:Oper} {a:Act} {w:World} {n d:Nat} {m:List (Nat×Value)} {v:Value}
end
end
section
open Go.RowKit
def Us (nt np:Nat) (l:List AV):Prop:=∀ p∈l,0≤p.toll∧p.toll < (nt:Int)∧0≤p.owner∧p.owner < (np:Int)∧1≤p.heads∧p.heads≤40
end
section
open Go Go.RowKit
theorem O5 {D S:Int} {s:Strip} (h:KQ D S s) (_hD:1≤D):Cb s D S=0:=by
 obtain ⟨h1,h2,h3,h4,h5,h6,h7,h8,h9,hk⟩:=h;unfold Cb;have b1:btw s.A 0 (S-1)=true:=Aj.2 (by omega);have b2:btw s.B 0 (S-1)=true:=Aj.2 (by omega);have b3:(s.A == s.B)=false:=by simpa using h5
 have b4:btw s.L 1 9=true:=Aj.2 (by omega);have b5:btw s.W 1 99=true:=Aj.2 (by omega);simp only [b1,b2,b3,b4,b5,Bool.not_true,Bool.or_self,Bool.false_eq_true,if_false];unfold Hu;rcases hk with ⟨k,x,y⟩ | ⟨k,x,y,z⟩ | ⟨k,x,y,z,u⟩ | ⟨k,x,y,z⟩
 all_goals
  rw [if_pos (by simp [k])];rw [if_pos];unfold Ht;simp only [k];simp
 ·exact ⟨x,y⟩
 ·exact ⟨Aj.2 (by omega),Aj.2 (by omega)⟩
 ·exact ⟨Aj.2 (by omega),Aj.2 (by omega)⟩
 ·exact ⟨Aj.2 (by omega),z⟩
theorem Jc {D S:Int} (hD:1≤D):∀ {l:List Strip},(∀ s∈l,KQ D S s)→Bi D S l=0
 | [],_=>rfl
 | s :: l,h=>by
  have h1:=O5 (h s (by simp)) hD;unfold Bi;rw [h1]
  simpa using Jc hD fun x hx=>h x (by simp [hx])
theorem Pv {D S A k L W K X Y:Int} (hS:2≤S) (h0:0≤A) (h1:A≤max (S-1) 0) (k1:1≤k) (k2:k≤max (S-1) 1) (l1:1≤L) (l2:L≤max 4 1) (hW:W∈(90:Int) :: [90,90,45,25])
  (hk:(K=1∧X=0∧Y=0)∨(K=2∧0≤X∧X≤Y∧Y < D)∨(K=3∧0≤X∧X≤20∧-5≤Y∧Y≤5)∨(K=4∧1≤X∧X≤40∧Y=0)):KQ D S ⟨A,(A+k) % S,L,W,K,X,Y⟩:=by
 have e1:=Int.emod_nonneg (A+k) (show S≠0 by omega);have e2:=Int.emod_lt_of_pos (A+k) (show 0 < S by omega)
 have hne:A≠(A+k) % S:=by
  by_cases hlt:A+k < S
  ·rw [Int.emod_eq_of_lt (by omega) hlt];omega
  ·have:(A+k) % S=A+k-S:=by
    rw [← Int.sub_emod_right,Int.emod_eq_of_lt (by omega) (by omega)]
   rw [this];omega
 have hw:1≤W∧W≤99:=by
  simp only [List.mem_cons,List.mem_nil_iff,or_false] at hW
  omega
 exact ⟨h0,by show A < S;omega,e1,e2,hne,by show 1≤L;omega,by show L≤9;omega,hw.1,hw.2,hk⟩
theorem KZ {n:Int} {x:BH}:∀ {l pre:List BH},BV n pre l=0→BZ n (pre++l) x=0→BV n pre (l++[x])=0
 | [],pre,_,h=>by
  rw [List.append_nil] at h;show (if BZ n pre x=0 then BV n (pre++[x]) [] else BZ n pre x)=0;rw [if_pos h];rfl
 | y :: l,pre,h1,h2=>by
  have hy:BZ n pre y=0:=by
   by_cases c:BZ n pre y=0
   ·exact c
   ·rw [BV,if_neg c] at h1;exact absurd h1 c
  rw [BV,if_pos hy] at h1;show (if BZ n pre y=0 then BV n (pre++[y]) (l++[x]) else BZ n pre y)=0;rw [if_pos hy];exact KZ h1 (by rw [List.append_assoc];exact h2)
structure Zh (ns nt:Nat) (t:Ac):Prop where
 ok:Ak t=0
 ls:t.roads.strips.length≤ns
 lt:t.Ai.length≤nt
 lp:t.Ad.length≤3
 p1:1≤t.Ad.length
 st:2≤t.roads.stages∧t.roads.stages≤4
theorem Ve {ps:List BA} (h:∀ p∈ps,0≤p.heads∧p.heads≤12):0≤Am ps∧Am ps≤12*(ps.length:Int):=by
 induction ps with
 | nil=>simp [Am]
 | cons p l ih =>
  have h1:=h p (by simp);have h2:=ih fun x hx=>h x (by simp [hx])
  simp only [Am,List.length_cons]
  push_cast;omega
theorem UH {ns nt:Nat} {D S pace:Int} {l:List Strip} {p:BA} {ps:List BA} {ts:List BH} (hD:1≤D∧D≤3) (hS:2≤S∧S≤4) (hl:∀ s∈l,KQ D S s) (hns:l.length≤ns) (h8:ns≤8) (hp:1≤pace∧pace≤9)
  (hps:∀ q∈p :: ps,(0≤q.heads∧q.heads≤12)∧0≤q.free∧q.free≤5) (hn:ps.length≤2) (ht:BV l.length [] ts=0) (hnt:ts.length≤nt) (h6:nt≤6):Zh ns nt ⟨⟨D,S,l⟩,pace,{ p with heads:=p.heads+1 } :: ps,ts⟩:=by
 refine ⟨?_,hns,hnt,by show ps.length+1≤3;omega,by show 1≤ps.length+1;omega,hS⟩
 have c1:BN ⟨D,S,l⟩=0:=by
  unfold BN;have b1:btw D 1 10=true:=Aj.2 (by omega);have b2:btw S 1 6=true:=Aj.2 (by omega);simp only [b1,b2,Bool.not_true,Bool.or_self,Bool.false_eq_true,if_false];rw [if_neg (by omega)];exact Jc hD.1 hl
 have hh:=Ve (ps:=ps) fun q hq=>(hps q (by simp [hq])).1
 have h0:=hps p (by simp)
 have c2:({ p with heads:=p.heads+1 } :: ps).all Bd=true:=by
  rw [List.all_eq_true];intro q hq;unfold Bd;rw [Bool.and_eq_true];rcases List.mem_cons.1 hq with rfl | hq
  ·exact ⟨Aj.2 (by show 0≤p.heads+1∧p.heads+1≤40;omega),Aj.2 (by show 0≤p.free∧p.free≤40;omega)⟩
  ·have:=hps q (by simp [hq]);exact ⟨Aj.2 (by omega),Aj.2 (by omega)⟩
 have c3:btw (Am ({ p with heads:=p.heads+1 } :: ps)) 1 40=true:=Aj.2 (by simp only [Am];omega)
 have c4:Ud (({ p with heads:=p.heads+1 } :: ps).length:Int) 1 4=0:=by
  unfold Ud;rw [if_neg (by simp only [List.length_cons];push_cast;omega),if_neg (by simp only [List.length_cons];push_cast;omega)]
 have c5:btw pace 1 9=true:=Aj.2 hp;unfold Ak;simp only [c1,c2,c3,c4,c5,ne_eq,not_true_eq_false,if_false,Bool.not_true,Bool.false_eq_true];unfold Fj;rw [if_neg (by show ¬ 6 < ts.length;omega)];exact ht
theorem P7 {n X R F z:Int} {ts:List BH} (hn:0 < n) (hX:0≤X∧X≤max (n-1) 0) (hR:R∈(0:Int) :: [25,50,z]) (hz:0≤z∧z≤max 500 0) (hF:1≤F∧F≤max 3 1) (hf:ts.all (fun y=>y.strip != X || y.farmer != F)=true):BZ n ts ⟨X,R,F⟩=0:=by
 have hr:0≤R∧R≤500:=by
  simp only [List.mem_cons,List.mem_nil_iff,or_false] at hR
  omega
 unfold BZ;have b1:btw X 0 (n-1)=true:=Aj.2 (by omega);have b2:btw R 0 500=true:=Aj.2 hr;have b3:btw F 1 4=true:=Aj.2 (by omega)
 have b4:(ts.any fun y=>y.strip == X && y.farmer == F)=false:=by
  rw [List.any_eq_false];intro y hy;have:=(List.all_eq_true.1 hf) y hy;intro hc;rw [Bool.and_eq_true] at hc;simp only [beq_iff_eq] at hc;simp [hc.1,hc.2] at this
 simp only [b1,b2,b3,b4,Bool.not_true,Bool.or_self,Bool.false_eq_true,if_false]
theorem AC.put {α:Type} {f:α→List Value} {e:TypeId} {k:Nat} {w:World} {B g c:Nat} {l:List α} (h:AC f e k w B (.slice (some ⟨g,0,none⟩) l.length c) l) (hf:∀ x,(f x).length=k) {i j:Nat} (hi:i < l.length) (hj:j < k) {y:α} {u:Value} (hy:f y=(f l[i]).set j u) :
  AC f e k (w.setCell ⟨g,i*k+j,none⟩ u) B (.slice (some ⟨g,0,none⟩) (l.set i y).length c) (l.set i y):=by
 obtain ⟨h1,h2⟩:=h;refine ⟨Eg hf _,?_⟩;rcases h2 with ⟨hv,_⟩ | ⟨g',cap,cur,hv,hb,hh,hc,hm,hs,hcells⟩
 ·simp at hv
 ·simp only [Value.slice.injEq,Option.some.injEq,Addr.mk.injEq,and_true,true_and] at hv;obtain ⟨rfl,rfl⟩:=hv;refine .inr ⟨g,c,cur.setIfInBounds (i*k+j) u,by simp,hb,?_,by simpa using hc,hm,by simpa using hs,?_⟩
  ·simp [World.setCell,Array.getElem?_modify,hh]
  ·have hlt:i*k+j < l.length*k:=by
    have:(i+1)*k≤l.length*k:=Nat.mul_le_mul_right k hi;rw [Nat.add_mul] at this;omega
   rw [Array.toList_setIfInBounds,List.length_set,List.take_set,hcells];apply List.ext_getElem?;intro q
   by_cases hq:q < l.length*k
   ·have hk0:0 < k:=by omega
    have hqd:q / k < l.length:=(Nat.div_lt_iff_lt_mul hk0).2 hq;have hqm:q % k < k:=Nat.mod_lt _ hk0;have hsp:q / k*k+q % k=q:=by rw [Nat.mul_comm];exact Nat.div_add_mod q k
    have e1:=flat_get hf (l.set i y) (q / k) (q % k) (by simpa using hqd) hqm;have e2:=flat_get hf l (q / k) (q % k) hqd hqm;rw [hsp] at e1 e2;rw [e1,List.getElem?_set]
    by_cases ei:q / k=i
    ·subst ei;rw [List.getElem_set_self,hy,List.getElem?_set];have hfl:(l.flatMap f).length=l.length*k:=Eg hf l
     by_cases ej:j=q % k
     ·subst ej;rw [if_pos hsp,if_pos rfl,hfl,if_pos hlt,hf,if_pos hj]
     ·rw [if_neg (fun e=>ej (by omega)),if_neg ej,e2]
    ·rw [List.getElem_set_ne (Ne.symm ei),if_neg (fun e=>ei (by rw [← e,Nat.mul_comm,Nat.mul_add_div hk0,Nat.div_eq_of_lt hj];rfl)),e2]
   ·rw [List.getElem?_eq_none (by rw [List.length_set,Eg hf];omega),List.getElem?_eq_none (by rw [Eg hf];simpa using Nat.le_of_not_lt hq)]
theorem AC.at0 {α:Type} {f:α→List Value} {e:TypeId} {k:Nat} {w:World} {B c:Nat} {a:Option Addr} {l:List α} (h:AC f e k w B (.slice a l.length c) l) (hf:∀ x,(f x).length=k) (hpos:0 < l.length):∃ g,a=some ⟨g,0,none⟩∧B≤g∧g < w.heap.size∧(∀ (i:Nat) (hi:i < l.length) (j:Nat) (u:Value),j < k→(f l[i])[j]? = some u→w.cell? ⟨g,i*k+j,none⟩=some u)∧∀ o,w.frozen? ⟨g,o,none⟩=false:=by
 obtain ⟨a',c',hv,_,_,hn,hs⟩:=h.form hf;simp only [Value.slice.injEq,true_and] at hv;obtain ⟨rfl,rfl⟩:=hv
 cases a with
 | none=>have:=(hn rfl).1;subst this;simp at hpos
 | some ad =>
  obtain ⟨g,rfl,hg1,hg2,hc⟩:=hs ad rfl;refine ⟨g,rfl,hg1,hg2,hc,fun o =>?_⟩;rcases h.2 with ⟨hv,_⟩ | ⟨g',cap,cur,hv,_,hh,_⟩
  ·simp at hv
  ·simp only [Value.slice.injEq,Option.some.injEq,Addr.mk.injEq,and_true,true_and] at hv;obtain ⟨rfl,rfl⟩:=hv;simp [World.frozen?,hh]
theorem LV {α:Type} {P:α→Bool} {l:List α} {k:Nat} (h:k < l.length):(l.take (k+1)).all P=((l.take k).all P && P l[k]):=by
 rw [List.take_succ_eq_append_getElem h,List.all_append];simp
theorem wp_cut {P:Program} {c:Code} {Q:Exit→Act→World→Prop} {a:Act} {w:World} (R:Act→World→Prop) (h1:c.wp P (fun e a x=>e = .normal∧R a x) a w) (h2:∀ a x,R a x→Q .normal a x):c.wp P Q a w:=wp_mono h1 fun _ a x ⟨he,hr⟩=>by subst he;exact h2 a x hr
theorem Zj (w:World) (hb B:Nat) (a:Option Addr) (n c:Nat) (h:A8 w hb B a n c) (hB:B≤1000000) (some_ all:Int) (h3 : -1000≤all) (h4:all≤1000) :
  Calls Try.prog 45 #[.pointer (some ⟨hb,0,none⟩), .int .i64 some_, .int .i64 all] w (Ya w hb (B+1) a n c fun v=>∃ x:Bool,v = .bool x):=by
 have H:=Lib.hid h;clear h
 go_enter Try.func45,Try.ntmps45
 go_wp2_with fail
 refine (CX w hb B a n c H.out hB (all-1) (by omega) (by omega)).mono ?_;rintro e w1 ⟨_,⟨x,x1,x2,rfl⟩,rfl,hh,hE⟩;have HH:=Lib.hid hh;clear hh;have HE:=Lib.hid hE;clear hE
 go_wp2_with fail
 go_ret
 exact ⟨_,⟨_,rfl⟩,rfl,HH.out,HE.out⟩
theorem Zg (w:World) {x n:Int} (h0:0≤x) (hx:x≤1000) (h1:1≤n) (hn:n≤1000):Calls Try.prog 61 #[.int .i64 x, .int .i64 n] w fun e w'=>e = .returned (.int .i64 (x % n))∧w=w':=by
 have e1:x.tmod n=x % n:=Int.tmod_eq_emod_of_nonneg h0;have e2:=Int.emod_nonneg x (show n≠0 by omega);have e3:=Int.emod_lt_of_pos x (show 0 < n by omega);have c1:¬ n < 1:=by omega
 have c2:¬ x % n < 0:=by omega
 have c3:n≠0:=by omega
 have hw:IntKind.i64.wrap (x % n)=x % n:=IntWalk.i64_in _ (by omega)
 go_enter Try.func61,Try.ntmps61
 go_wp2_with fail
 go_ret
 exact ⟨rfl,rfl⟩
end
end Go.Proofs.Ytgdobbcjkiapkaa
