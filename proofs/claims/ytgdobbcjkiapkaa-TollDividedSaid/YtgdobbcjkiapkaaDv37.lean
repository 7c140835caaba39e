import Derived.Test.YtgdobbcjkiapkaaDv04
import Derived.Test.YtgdobbcjkiapkaaDv32
import Derived.Test.YtgdobbcjkiapkaaDv35
import Derived.Test.YtgdobbcjkiapkaaDv36
import Derived.Test.YtgdobbcjkiapkaaDv33
import Derived.Test.YtgdobbcjkiapkaaDv03
namespace Go.Proofs.Ytgdobbcjkiapkaa
set_option maxRecDepth 100000
set_option maxHeartbeats 4000000
set_option linter.unusedSimpArgs false
set_option linter.unusedVariables false
section
open Go Go.Conc
open Go.RowKit
theorem BR {w:World} {b:Nat} {l:List Int} {t:TypeId} (K:Rw w b (Ib l) t):AX w (some ⟨b,0,none⟩) l := .inr ⟨b,0,rfl,fun i hi=>by rw [Nat.zero_add];exact K.cell (Na hi)⟩
theorem ML {w:World} {la lb:Option Addr} {ca cb n m:Nat} {l:List Int} (ha:AX w la l) (hb:AX w lb l) (h1:n=l.length) (h2:m=l.length) (hn:l.length≤1000000):Calls Try.prog 28 #[.slice la n ca, .slice lb m cb] w (fun e w'=>e = .returned (.bool true)∧Below w.heap.size w w'):=by
 subst h1 h2;exact (MM ha hb hn).mono fun e w' h=>⟨by rw [h.1,decide_eq_true rfl],h.2⟩
theorem V6 {w:World} {la lb:Option Addr} {ca cb n m:Nat} {l:List Am} (ha:DJ w la l) (hb:DJ w lb l) (h1:n=l.length) (h2:m=l.length) (hn:l.length≤1000000):Calls Try.prog 41 #[.slice la n ca, .slice lb m cb] w (fun e w'=>e = .returned (.bool true)∧Below w.heap.size w w'):=by
 subst h1 h2;exact (V7 ha hb hn).mono fun e w' h=>⟨by rw [h.1,decide_eq_true rfl],h.2⟩
theorem Aaq {M:Machine} {w:World} {s:Eg} {la:Option Addr} {lc:Nat} (hT:Dc w exT s) (hP:DJ w la exL):CW Try.prog M 30 #[.agg (EI exT s), .slice la 4 lc] w (fun e w'=>Below w.heap.size w w'∧∃ g,e = .returned (.tuple #[.slice (some ⟨g,0,none⟩) 2 2, .int .i64 0])∧AX w' (some ⟨g,0,none⟩) [9,5]):=by
 refine (TP (l:=exL) (lc:=lc) hT hP (by show 4≤maxLen;decide)).mono ?_;rintro e w' ⟨hb,_,hz⟩;obtain ⟨g,rfl,_,hG⟩:=hz WZ;have e2:DY (Fe exT exL) exT.Ac.length=[9,5]:=Aan;rw [e2] at hG ⊢;exact ⟨hb,g,rfl,BR hG⟩
theorem Aap {w:World} {s:Eg} {la:Option Addr} {lc:Nat} (hT:Dc w exT s) (hP:DJ w la exL):Calls Try.prog 31 #[.agg (EI exT s), .slice la 4 lc] w (fun e w'=>Below w.heap.size w w'∧∃ g,e = .returned (.tuple #[.slice (some ⟨g,0,none⟩) 4 4, .int .i64 0])∧AX w' (some ⟨g,0,none⟩) [9,5,0,0]):=by
 refine (Nj (l:=exL) (lc:=lc) hT hP (by show 4≤maxLen;decide)).mono ?_;rintro e w' ⟨hb,_,hz⟩;obtain ⟨g,rfl,_,hG⟩:=hz WZ;refine ⟨hb,g,rfl,BR (l:=[9,5,0,0]) (t:=3) ?_⟩;have h:=ZA;simp only [Prod.mk.injEq] at h;obtain ⟨h0,h1,h2,h3⟩:=h
 have e2:ar4 (Fq exT exL exT.Ac.length)=Ib [9,5,0,0]:=by
  show #[Value.int .i64 (Fq exT exL 2 0), .int .i64 (Fq exT exL 2 1), .int .i64 (Fq exT exL 2 2), .int .i64 (Fq exT exL 2 3)]=_;rw [h0,h1,h2,h3];rfl
 rw [← e2];exact hG
theorem ZE {w:World} {s:Eg} {wa:Option Addr} (hT:Dc w exT s) (hw:AX w wa [0,1]):Calls Try.prog 35 #[.agg (EI exT s), .int .i64 0, .slice wa 2 2] w (fun e w'=>Below w.heap.size w w'∧∃ la lc,e = .returned (.tuple #[.slice la 4 lc, .int .i64 0])∧DJ w' la exL):=by
 refine (Vx (way:=[0,1]) hT hw (by decide) (by decide)).mono ?_;rintro e w' ⟨hb,v,rfl,hO,_⟩;have h:=Yu;rw [h] at hO ⊢;obtain ⟨a,c,rfl,_,_,hP⟩:=hO.at;exact ⟨hb,a,c,rfl,hP⟩
theorem ZB {w:World} {s:Eg} {wa:Option Addr} (hT:Dc w exT s) (hw:AX w wa [0,1]):Calls Try.prog 25 #[.agg (EI exT s), .int .i64 0, .slice wa 2 2, .int .i64 1, .int .i64 5] w (fun e w'=>e = .returned (.tuple #[.int .i64 11, .int .i64 0])∧Below w.heap.size w w'):=by
 refine (WT (way:=[0,1]) hT hw (by decide) (by decide)).mono ?_;rintro e w' ⟨rfl,hb⟩;rw [Yr];exact ⟨rfl,hb⟩
theorem ZC {w:World} {s:Eg} (hT:Dc w exT s):Calls Try.prog 48 #[.agg (EI exT s), .int .i64 0, .int .i64 2] w (fun e w'=>Below w.heap.size w w'∧∃ la lc,e = .returned (.tuple #[.slice la 2 lc, .int .i64 14, .int .i64 0])∧AX w' la [0,1]):=by
 refine (QS hT).mono ?_;rintro e w' ⟨hb,_,hz⟩;have h:=Yt;obtain ⟨c,hc,hcc⟩:=Option.map_eq_some_iff.1 h;simp only [Prod.mk.injEq] at hcc;obtain ⟨v,rfl,hO,hn,_⟩:=hz c hc;obtain ⟨g,cc,rfl,_,_,_,_,hi⟩:=hO.sl hn;rw [hcc.1] at hi ⊢;rw [hcc.2];exact ⟨hb,some ⟨g,0,none⟩,cc,rfl,hi⟩
theorem RX:Try.f18.body=some (Code.seq (Aa Try.f18 0) (Code.seq (Aa Try.f18 1) (Code.seq (Aa Try.f18 2) (Code.seq (Aa Try.f18 3) (Code.seq (Aa Try.f18 4) (Code.seq (Aa Try.f18 5) (Code.seq (Aa Try.f18 6) Code.ret))))))):=by kernel_rfl
theorem RY {M:Machine} {w:World}:CW Try.prog M 18 #[] w (fun e w'=>e = .returned (.bool true)∧Below w.heap.size w w'):=by
 have hno:Il (bodyPost Try.prog Try.f18 (fun e w'=>e = .returned (.bool true)∧Below w.heap.size w w')):=Jd (fun w h=>by cases h.1);have hb:=Below.refl w.heap.size w;refine FQ DD Try.func18 RX ?_ (fun w h=>by cases h.1);have Z:Sl (⟨#[]++Array.replicate (Try.f18.ntmps-(#[]:Array Value).size) undef,[]⟩:Act) 88 []:=by rw [Try.ntmps18];exact Sl.Aav
 revert Z;generalize (Act.mk _ _)=a;intro Z;refine BC DD ?_;refine wpX.of DD ?_ (by repeat (first | assumption | apply Ar | apply Ak));refine wr ?_;refine Z.s ?_;clear Z;intro a Z;refine od ?_;refine BC DD ?_;refine Kr DD (by repeat (first | assumption | apply Ar | apply Ak)) rfl ?_;refine AO rfl rfl (fun K hK =>?_);unfold Oper.wp;go_simp;refine (IP).mono ?_;rintro e x ⟨hb2,s13,rfl,hT13⟩;replace hb:=hb.trans (hb2.mono hb.size);clear hb2;refine Z.kX hK (by decide) ?_;clear Z hK;intro a Z;refine AO rfl rfl (fun K hK =>?_);unfold Oper.wp;go_simp;refine (Nl).mono ?_;rintro e x ⟨hb2,b14,rfl,hbw14,hP14⟩;replace hb:=hb.trans (hb2.mono hb.size);replace hT13:=hT13.below hb2;clear hb2;refine Z.kX hK (by decide) ?_;clear Z hK;intro a Z;have e13:=Z.g 13;have e14:=Z.g 14;refine IJ rfl rfl rfl Try.func30 (by kernel_rfl) (by kernel_rfl) (args:=#[.agg (EI exT s13), .slice (some ⟨b14,0,none⟩) 4 4]) (by simp [Act.eval,Array.getD_eq_getD_getElem?,e13,e14]) (Aaq hT13 hP14) ?_;clear e13 e14;rintro e x ⟨hb2,g15,rfl,hI15⟩;replace hb:=hb.trans (hb2.mono hb.size);clear hb2 hT13 hP14;refine ⟨_,rfl,?_⟩;refine Z.goX (by decide) ?_;clear Z;intro a Z;refine AO rfl rfl (fun K hK =>?_);have e15:=Z.g 15;unfold Oper.wp;go_simp;clear e15;refine Z.kX hK (by decide) ?_;clear Z hK;intro a Z
 refine AO rfl rfl (fun K hK =>?_);have e12:=Z.g 12;unfold Oper.wp;go_simp;clear e12;refine Z.kX hK (by decide) ?_;clear Z hK;intro a Z;refine AO rfl rfl (fun K hK =>?_);have e12:=Z.g 12;unfold Oper.wp;go_simp;clear e12;refine Z.kX hK (by decide) ?_;clear Z hK;intro a Z;refine AO rfl rfl (fun K hK =>?_);have e16:=Z.g 16;unfold Oper.wp;go_simp;clear e16;refine Z.kX hK (by decide) ?_;clear Z hK;intro a Z;refine AO rfl rfl (fun K hK =>?_);have e17:=Z.g 17;unfold Oper.wp;go_simp;clear e17;refine Z.kX hK (by decide) ?_;clear Z hK;intro a Z;refine Fp ?_;refine wpX.of DD ?_ (by repeat (first | assumption | apply Ar | apply Ak));refine wsr ?_;refine og fun K hK =>?_
 unfold Oper.wp;go_simp;refine (IP).mono ?_;rintro e x ⟨hb2,s19,rfl,hT19⟩;replace hb:=hb.trans (hb2.mono hb.size);replace hI15:=hI15.below hb2;clear hb2;refine Z.K hK ?_;clear Z hK;intro a Z;refine og fun K hK =>?_
 unfold Oper.wp;go_simp;refine (Nl).mono ?_;rintro e x ⟨hb2,b20,rfl,hbw20,hP20⟩;replace hb:=hb.trans (hb2.mono hb.size);replace hI15:=hI15.below hb2;replace hT19:=hT19.below hb2;clear hb2;refine Z.K hK ?_;clear Z hK;intro a Z;refine og fun K hK =>?_
 have e19:=Z.g 19;have e20:=Z.g 20;unfold Oper.wp;go_simp;refine (Aap hT19 hP20).mono ?_;rintro e x ⟨hb2,g21,rfl,hI21⟩;replace hb:=hb.trans (hb2.mono hb.size);replace hI15:=hI15.below hb2;replace hT19:=hT19.below hb2;replace hP20:=hP20.below hb2;clear hb2;clear hT19 hP20;clear e19 e20;refine Z.K hK ?_;clear Z hK;intro a Z;(iterate 5 refine Z.s ?_;clear Z;intro a Z);refine od ?_;refine wsr ?_;refine og fun K hK =>?_
 unfold Oper.wp;go_simp;refine (IP).mono ?_;rintro e x ⟨hb2,s25,rfl,hT25⟩;replace hb:=hb.trans (hb2.mono hb.size);replace hI15:=hI15.below hb2;replace hI21:=hI21.below hb2;clear hb2;refine Z.K hK ?_;clear Z hK;intro a Z;refine Z.s ?_;clear Z;intro a Z;refine Ad (G:=fun W=>wpOps _ _ _ _ _ W) ?_;obtain ⟨b26,hg⟩:∃ b,b=x.heap.size:=⟨_,rfl⟩;intro x hz K26 hb2;rw [← hg] at Z K26;have hhb26:w.heap.size≤b26:=by rw [hg];exact hb.size
 replace hb:=hb.trans (hb2.mono hb.size);replace hI15:=hI15.below hb2;replace hI21:=hI21.below hb2;replace hT25:=hT25.below hb2;clear hz hg hb2;refine og fun K hK =>?_
 have e25:=Z.g 25;have e26:=Z.g 26;unfold Oper.wp;go_simp;refine (ZE hT25 (BR (l:=[0,1]) K26)).mono ?_;rintro e x ⟨hb2,la27,lc27,rfl,hP27⟩;replace hb:=hb.trans (hb2.mono hb.size);replace hI15:=hI15.below hb2;replace hI21:=hI21.below hb2;replace hT25:=hT25.below hb2;replace K26:=K26.below hb2;clear hb2;clear hT25 K26;clear e25 e26;refine Z.K hK ?_;clear Z hK;intro a Z;(iterate 5 refine Z.s ?_;clear Z;intro a Z);refine od ?_;refine wsr ?_;refine og fun K hK =>?_
 unfold Oper.wp;go_simp;refine (IP).mono ?_;rintro e x ⟨hb2,s31,rfl,hT31⟩;replace hb:=hb.trans (hb2.mono hb.size);replace hI15:=hI15.below hb2;replace hI21:=hI21.below hb2;replace hP27:=hP27.below hb2;clear hb2;refine Z.K hK ?_;clear Z hK;intro a Z;refine og fun K hK =>?_
 have e31:=Z.g 31;unfold Oper.wp;go_simp;refine (ZC hT31).mono ?_;rintro e x ⟨hb2,la32,lc32,rfl,hI32⟩;replace hb:=hb.trans (hb2.mono hb.size);replace hI15:=hI15.below hb2;replace hI21:=hI21.below hb2;replace hP27:=hP27.below hb2;replace hT31:=hT31.below hb2;clear hb2;clear hT31;clear e31;refine Z.K hK ?_;clear Z hK;intro a Z;(iterate 7 refine Z.s ?_;clear Z;intro a Z);refine od ?_;refine wsr ?_;refine og fun K hK =>?_
 unfold Oper.wp;go_simp;refine (IP).mono ?_;rintro e x ⟨hb2,s37,rfl,hT37⟩;replace hb:=hb.trans (hb2.mono hb.size);replace hI15:=hI15.below hb2;replace hI21:=hI21.below hb2;replace hP27:=hP27.below hb2;replace hI32:=hI32.below hb2;clear hb2;refine Z.K hK ?_;clear Z hK;intro a Z;refine Z.s ?_;clear Z;intro a Z;refine Ad (G:=fun W=>wpOps _ _ _ _ _ W) ?_;obtain ⟨b38,hg⟩:∃ b,b=x.heap.size:=⟨_,rfl⟩;intro x hz K38 hb2;rw [← hg] at Z K38;have hhb38:w.heap.size≤b38:=by rw [hg];exact hb.size
 replace hb:=hb.trans (hb2.mono hb.size);replace hI15:=hI15.below hb2;replace hI21:=hI21.below hb2;replace hP27:=hP27.below hb2;replace hI32:=hI32.below hb2;replace hT37:=hT37.below hb2;clear hz hg hb2;refine og fun K hK =>?_
 have e37:=Z.g 37;have e38:=Z.g 38;unfold Oper.wp;go_simp;refine (ZB hT37 (BR (l:=[0,1]) K38)).mono ?_;rintro e x ⟨rfl,hb2⟩;replace hb:=hb.trans (hb2.mono hb.size);replace hI15:=hI15.below hb2;replace hI21:=hI21.below hb2;replace hP27:=hP27.below hb2;replace hI32:=hI32.below hb2;replace hT37:=hT37.below hb2;replace K38:=K38.below hb2;clear hb2;clear hT37 K38;clear e37 e38;refine Z.K hK ?_;clear Z hK;intro a Z;(iterate 5 refine Z.s ?_;clear Z;intro a Z);refine od ?_;refine wsr ?_;(iterate 3 refine Z.s ?_;clear Z;intro a Z);(iterate 2 refine Z.t ?_;clear Z;intro a Z);(iterate 2 refine Z.s ?_;clear Z;intro a Z);(iterate 2 refine Z.t ?_;clear Z;intro a Z);(iterate 2 refine Z.s ?_;clear Z;intro a Z);(iterate 2 refine Z.t ?_;clear Z;intro a Z);(iterate 2 refine Z.s ?_;clear Z;intro a Z);(iterate 2 refine Z.t ?_;clear Z;intro a Z);(iterate 2 refine Z.s ?_;clear Z;intro a Z);(iterate 2 refine Z.t ?_;clear Z;intro a Z);(iterate 2 refine Z.s ?_;clear Z;intro a Z);(iterate 2 refine Z.t ?_;clear Z;intro a Z);(iterate 2 refine Z.s ?_;clear Z;intro a Z);(iterate 2 refine Z.t ?_;clear Z;intro a Z);refine Ad (G:=fun W=>wpOps _ _ _ _ _ W) ?_;obtain ⟨b70,hg⟩:∃ b,b=x.heap.size:=⟨_,rfl⟩;intro x hz K70 hb2;rw [← hg] at Z K70
 have hhb70:w.heap.size≤b70:=by rw [hg];exact hb.size
 replace hb:=hb.trans (hb2.mono hb.size);replace hI15:=hI15.below hb2;replace hI21:=hI21.below hb2;replace hP27:=hP27.below hb2;replace hI32:=hI32.below hb2;clear hz hg hb2;refine oW (Z.g 68) fun K hK =>?_
 have e69:=Z.g 69;have e70:=Z.g 70;unfold Oper.wp;go_simp;refine (ML hI15 (BR (l:=[9,5]) K70) rfl rfl (by decide)).mono ?_;rintro e x ⟨rfl,hb2⟩;replace hb:=hb.trans (hb2.mono hb.size);replace hI15:=hI15.below hb2;replace hI21:=hI21.below hb2;replace hP27:=hP27.below hb2;replace hI32:=hI32.below hb2;replace K70:=K70.below hb2;clear hb2;clear e69 e70;refine Z.K hK ?_;clear Z hK;intro a Z;(iterate 2 refine Z.s ?_;clear Z;intro a Z);(iterate 2 refine Z.t ?_;clear Z;intro a Z);refine Ad (G:=fun W=>wpOps _ _ _ _ _ W) ?_;obtain ⟨b75,hg⟩:∃ b,b=x.heap.size:=⟨_,rfl⟩;intro x hz K75 hb2;rw [← hg] at Z K75;have hhb75:w.heap.size≤b75:=by rw [hg];exact hb.size
 have h70_75:b70 < b75:=by rw [hg];exact K70.lt
 replace hb:=hb.trans (hb2.mono hb.size);replace hI15:=hI15.below hb2;replace hI21:=hI21.below hb2;replace hP27:=hP27.below hb2;replace hI32:=hI32.below hb2;replace K70:=K70.below hb2;clear hz hg hb2;refine oW (Z.g 73) fun K hK =>?_
 have e74:=Z.g 74;have e75:=Z.g 75;unfold Oper.wp;go_simp;refine (ML hI21 (BR (l:=[9,5,0,0]) K75) rfl rfl (by decide)).mono ?_;rintro e x ⟨rfl,hb2⟩;replace hb:=hb.trans (hb2.mono hb.size);replace hI15:=hI15.below hb2;replace hI21:=hI21.below hb2;replace hP27:=hP27.below hb2;replace hI32:=hI32.below hb2;replace K70:=K70.below hb2;replace K75:=K75.below hb2;clear hb2;clear e74 e75;refine Z.K hK ?_;clear Z hK;intro a Z;(iterate 2 refine Z.s ?_;clear Z;intro a Z);refine Z.t ?_;clear Z;intro a Z;refine oW (Z.g 78) fun K hK =>?_
 unfold Oper.wp;go_simp;refine (Nl).mono ?_;rintro e x ⟨hb2,b80,rfl,hbw80,hP80⟩;replace hb:=hb.trans (hb2.mono hb.size);replace hI15:=hI15.below hb2;replace hI21:=hI21.below hb2;replace hP27:=hP27.below hb2;replace hI32:=hI32.below hb2;replace K70:=K70.below hb2;replace K75:=K75.below hb2;clear hb2;refine Z.K hK ?_;clear Z hK;intro a Z;refine oW (Z.g 78) fun K hK =>?_
 have e79:=Z.g 79;have e80:=Z.g 80;unfold Oper.wp;go_simp;refine (V6 hP27 hP80 rfl rfl (by decide)).mono ?_;rintro e x ⟨rfl,hb2⟩;replace hb:=hb.trans (hb2.mono hb.size);replace hI15:=hI15.below hb2;replace hI21:=hI21.below hb2;replace hP27:=hP27.below hb2;replace hI32:=hI32.below hb2;replace K70:=K70.below hb2;replace K75:=K75.below hb2;replace hP80:=hP80.below hb2;clear hb2;clear e79 e80;refine Z.K hK ?_;clear Z hK;intro a Z;(iterate 2 refine Z.s ?_;clear Z;intro a Z);(iterate 2 refine Z.t ?_;clear Z;intro a Z);refine Ad (G:=fun W=>wpOps _ _ _ _ _ W) ?_;obtain ⟨b85,hg⟩:∃ b,b=x.heap.size:=⟨_,rfl⟩;intro x hz K85 hb2;rw [← hg] at Z K85;have hhb85:w.heap.size≤b85:=by rw [hg];exact hb.size
 have h75_85:b75 < b85:=by rw [hg];exact K75.lt
 replace hb:=hb.trans (hb2.mono hb.size);replace hI15:=hI15.below hb2;replace hI21:=hI21.below hb2;replace hP27:=hP27.below hb2;replace hI32:=hI32.below hb2;replace K70:=K70.below hb2;replace K75:=K75.below hb2;replace hP80:=hP80.below hb2;clear hz hg hb2;refine oW (Z.g 83) fun K hK =>?_
 have e84:=Z.g 84;have e85:=Z.g 85;unfold Oper.wp;go_simp;refine (ML hI32 (BR (l:=[0,1]) K85) rfl rfl (by decide)).mono ?_;rintro e x ⟨rfl,hb2⟩;replace hb:=hb.trans (hb2.mono hb.size);replace hI15:=hI15.below hb2;replace hI21:=hI21.below hb2;replace hP27:=hP27.below hb2;replace hI32:=hI32.below hb2;replace K70:=K70.below hb2;replace K75:=K75.below hb2;replace hP80:=hP80.below hb2;replace K85:=K85.below hb2;clear hb2;clear e84 e85;refine Z.K hK ?_;clear Z hK;intro a Z;(iterate 2 refine Z.s ?_;clear Z;intro a Z);refine od ?_;refine wp_ret ?_
 try simp only [Exit.then,Exit.inBlock]
 refine bodyPost_ret (v := .bool true) ?_ Z.defers ⟨rfl,hb⟩;simp [results,Try.results18,Z.get 0 _ rfl]
end
section
open Go Go.Conc Go.RowKit
section
variable {P:Program} {M:Machine} {ops:Array Oper} {Q:Exit→Act→World→Prop} {C:World→Prop} {lb eff:Nat→Bool}
theorem MB (hP:Eo P) {id:Nat} {a:Act} {w:World} (hno:Il Q) (h:∀ t,Jp P M ops Q (Region.schedule (P.follows .mixedOrders) ops t) a { w with drawn:=w.drawn+1 }):wpX P M (.region id ops true) Q a w:=by
 intro b k cs n hg;obtain ⟨n0,hn0,hg0⟩:=AV hP (.one step_region_draw) hg;obtain ⟨e,a',w',q,r⟩:=QC hP hno _ a _ (h _) b k cs n0 hg0;exact ⟨e,a',w',q,r.later hn0⟩
def opX (P:Program) (M:Machine) (ops:Array Oper) (Q:Exit→Act→World→Prop) (i:Nat) (K:Act→World→Prop) (a:Act) (w:World):Prop :=
 match ops[i]? with
 | none=>K a w
 | some o=>if Region.wanted o (yielded ops a.tmps) then UL P M o a w K Q else K (a.put o.dst undef) w
theorem Ws (i:Nat) (rest:List Nat) (a:Act) (w:World):Jp P M ops Q (i :: rest) a w=opX P M ops Q i (Jp P M ops Q rest) a w:=by
 cases h:ops[i]? <;> simp [Jp,opX,h]
theorem UK {o:Oper} {a:Act} {w:World} {K K':Act→World→Prop} (h:∀ a w,K a w→K' a w) (hh:UL P M o a w K Q):UL P M o a w K' Q:=by
 rcases hh with ⟨f,args,w',hr,hc⟩ | hh
 ·exact .inl ⟨f,args,w',hr,hc.mono fun e w'' hx=>by cases e <;> first | exact h _ _ hx | exact hx⟩
 ·exact .inr (Oper.wp_mono h hh)
theorem Tz {i:Nat} {a:Act} {w:World} {K K':Act→World→Prop} (h:∀ a w,K a w→K' a w) (hh:opX P M ops Q i K a w):opX P M ops Q i K' a w:=by
 unfold opX at *
 cases ho:ops[i]? with
 | none=>rw [ho] at hh;exact h _ _ hh
 | some o =>
  rw [ho] at hh
  dsimp only at hh ⊢
  split
  ·rename_i hw;rw [if_pos hw] at hh;exact UK h hh
  ·rename_i hw;rw [if_neg hw] at hh;exact h _ _ hh
def AaT (P:Program) (M:Machine) (ops:Array Oper) (Q:Exit→Act→World→Prop):Nat→Array Bool→Act→World→Prop
 | 0,listed,a,w=>Region.ready .any ops listed=[]∧Q .normal a w
 | fuel+1,listed,a,w =>
  (Region.ready .any ops listed=[]→Q .normal a w) ∧
  ∀ i∈Region.ready .any ops listed,opX P M ops Q i (AaT P M ops Q fuel (listed.setIfInBounds i true)) a w
theorem Vu:∀ (fuel t:Nat) (listed:Array Bool) (a:Act) (w:World),AaT P M ops Q fuel listed a w→Jp P M ops Q (Region.linearise.go .any ops fuel t listed []) a w:=by
 intro fuel
 induction fuel with
 | zero=>intro t listed a w h;simpa [Region.linearise.go,Jp] using h.2
 | succ fuel ih =>
  intro t listed a w h;obtain ⟨h₀,h₁⟩:=h;simp only [Region.linearise.go]
  change Jp P M ops Q (match (Region.ready .any ops listed)[t % (Region.ready .any ops listed).length]? with
   | some i=>Region.linearise.go .any ops fuel (t / (Region.ready .any ops listed).length) (listed.setIfInBounds i true) [i]
   | none=>[].reverse) a w
  cases hi:(Region.ready .any ops listed)[t % (Region.ready .any ops listed).length]? with
  | none =>
   have hnil:Region.ready .any ops listed=[]:=by
    cases hr:Region.ready .any ops listed with
    | nil=>rfl
    | cons x xs =>
     rw [hr] at hi;have hlt:t % (x :: xs).length < (x :: xs).length:=Nat.mod_lt _ (by simp);simp at hi;simp at hlt
     omega
   simpa [Jp] using h₀ hnil
  | some i =>
   simp only [];rw [linearise_go_acc,List.reverse_singleton,List.singleton_append,Ws];exact Tz (fun a w=>ih _ _ a w) (h₁ i (List.mem_of_getElem? hi))
theorem NI (hP:Eo P) {id:Nat} {a:Act} {w:World} (hno:Il Q) (hm:P.follows .mixedOrders=true)
  (h:AaT P M ops Q ops.size (Array.replicate ops.size false) a w.drew):wpX P M (.region id ops true) Q a w :=
 MB hP hno fun t=>by
  simp only [Region.schedule,hm,Bool.true_or,if_true];exact Vu ops.size t _ a _ h
theorem TV (Inv:(Nat→Bool)→Act→World→Prop)
  (hs:∀ L a w i o,ops[i]? = some o→Inv L a w→L i=false→Be o L=true→opX P M ops Q i (fun a' w'=>Inv (Bi L i true) a' w') a w)
  (he:∀ listed a w,listed.size=ops.size→Inv (BO listed) a w→Region.ready .any ops listed=[]→Q .normal a w):∀ (n:Nat) (listed:Array Bool) (a:Act) (w:World),listed.size=ops.size→MZ ops.size listed≤n→Inv (BO listed) a w→AaT P M ops Q n listed a w
 | 0,listed,a,w,hsz,hn,hI=>by
  have h0:=GL (ops:=ops) (listed:=listed) (by omega);exact ⟨h0,he listed a w hsz hI h0⟩
 | n+1,listed,a,w,hsz,hn,hI=>by
  refine ⟨fun h0=>he listed a w hsz hI h0,fun i hi =>?_⟩;obtain ⟨o,ho,hlt,h1,h2⟩:=mem_ready hsz hi;refine Tz ?_ (hs _ a w i o ho hI h1 h2);intro a' w' hI';have hle:=IL hsz hi;exact TV Inv hs he n _ a' w' (by simpa using hsz) (by omega) (by rw [IR (by omega)];exact hI')
theorem NH (hP:Eo P) {id:Nat} {a:Act} {w:World} (hno:Il Q) (hm:P.follows .mixedOrders=true) (Inv:(Nat→Bool)→Act→World→Prop)
  (h0:Inv (fun _=>false) a w.drew)
  (hs:∀ L a w i o,ops[i]? = some o→Inv L a w→L i=false→Be o L=true→opX P M ops Q i (fun a' w'=>Inv (Bi L i true) a' w') a w)
  (he:∀ L a w,(∀ i o,ops[i]? = some o→Be o L=true→L i=true)→Inv L a w→Q .normal a w):wpX P M (.region id ops true) Q a w:=by
 refine NI hP hno hm (TV Inv hs ?_ ops.size _ a _ (by simp) (by rw [FZ];exact Nat.le_refl _) ?_)
 ·intro listed a w hsz hI hr;refine he _ a w (fun i o ho hre =>?_) hI;have hlt:=(Array.getElem?_eq_some_iff.1 ho).1
  cases hl:BO listed i
  ·exfalso
   have hm:i∈Region.ready .any ops listed:=by
    unfold Region.ready;rw [List.mem_filter,List.mem_range,Bool.and_eq_true];refine ⟨hlt,?_,?_⟩
    ·have e:listed.getD i true=listed.getD i false:=by simp [Array.getD_eq_getD_getElem?,hsz,hlt]
     rw [e];unfold BO at hl;rw [hl];rfl
    ·rw [ho];simpa [Be,BO] using hre
   rw [hr] at hm;simp at hm
  ·rfl
 ·have e:BO (Array.replicate ops.size false)=fun _=>false:=by
   funext k
   unfold BO
   by_cases h:k < ops.size <;> simp [Array.getD_eq_getD_getElem?,h]
  rw [e];exact h0
def VD (P:Program) (M:Machine) (o:Oper) (a:Act) (w:World) (K:Value→World→Prop):Prop :=
 match (execOp a.eval o).run P w with
 | .ok (.value u) w'=>K u w'
 | .ok .skip w'=>K undef w'
 | .ok (.enter f args) w'=>CW P M f args w' fun e w''=>∃ u,e = .returned u∧K u w''
 | _=>False
theorem Xd {o:Oper} {a:Act} {w:World} {K K':Value→World→Prop} (h:VD P M o a w K) (hk:∀ u w',K u w'→K' u w'):VD P M o a w K':=by
 unfold VD at *;generalize (execOp a.eval o).run P w=r at *
 cases r with
 | ok n w' =>
  cases n <;> simp only at h ⊢
  case value u=>exact hk _ _ h
  case skip=>exact hk _ _ h
  case enter f args=>exact h.mono fun e w'' ⟨u,he,hu⟩=>⟨u,he,hk _ _ hu⟩
  all_goals exact h
 | halt x w'=>exact h
theorem ZF {o:Oper} {a:Act} {w:World} {K:Value→World→Prop} {K':Act→World→Prop} (h:VD P M o a w K) (hk:∀ u w',K u w'→K' (a.put o.dst u) w'):UL P M o a w K' Q:=by
 unfold VD at h;unfold UL Oper.wp Oper.upon;generalize (execOp a.eval o).run P w=r at *
 cases r with
 | ok n w' =>
  cases n <;> simp only at h ⊢
  case value u=>exact .inr (hk _ _ h)
  case skip=>exact .inr (hk _ _ h)
  case enter f args=>exact .inl ⟨f,args,w',rfl,h.mono fun e w'' ⟨u,he,hu⟩=>by subst he;exact hk _ _ hu⟩
  all_goals exact h.elim
 | halt x w'=>exact h.elim
def JM (P:Program) (C:World→Prop) (o:Oper) (a:Act) (v:Value):Prop:=∀ y,C y→Bg P o a y fun u w'=>u=v∧w'=y
theorem Qx {o:Oper} {a:Act} {v:Value} (h:∀ y,C y→∀ K:Value→Prop,K v→BV P o a y K):JM P C o a v:=fun y hy=>by
 have h1:=MO h y hy;unfold Bg;rw [h1];exact ⟨rfl,rfl⟩
theorem UB {o:Oper} {a:Act} {v:Value} (h:∀ y,C y→∀ K:Value→World→Prop,K v y→Bg P o a y K):JM P C o a v:=fun y hy=>h y hy _ ⟨rfl,rfl⟩
def Gf (P:Program) (M:Machine) (ops:Array Oper) (C:World→Prop) (lb eff:Nat→Bool) (i:Nat) (K:Act→World→Prop) (a:Act) (w:World):Prop :=
 match ops[i]? with
 | none=>False
 | some o =>
  if Region.wanted o (yielded ops a.tmps) then
   (if eff i then VD P M o a w fun u w'=>(lb i=true∨C w')∧K (a.put o.dst u) w' else ∃ v,JM P C o a v∧K (a.put o.dst v) w)
  else K (a.put o.dst undef) w
def LH (P:Program) (M:Machine) (ops:Array Oper) (C:World→Prop) (lb eff:Nat→Bool) (Q:Exit→Act→World→Prop):List Nat→Act→World→Prop
 | [],a,w=>Q .normal a w
 | i :: rest,a,w=>Gf P M ops C lb eff i (LH P M ops C lb eff Q rest) a w
theorem Un {i:Nat} {K K':Act→World→Prop} {a:Act} {w:World} (hl:lb i=false) (hC:C w) (h:Gf P M ops C lb eff i K a w) (hk:∀ a w,C w→K a w→K' a w):Gf P M ops C lb eff i K' a w:=by
 unfold Gf at *
 cases ho:ops[i]? with
 | none=>rw [ho] at h;exact h
 | some o =>
  rw [ho] at h
  dsimp only at h ⊢
  split
  ·rename_i hw
   rw [if_pos hw] at h
   split
   ·rename_i he
    rw [if_pos he] at h;refine Xd h fun u w' ⟨h1,h2⟩ =>?_
    rcases h1 with h1 | h1
    ·rw [hl] at h1;simp at h1
    ·exact ⟨.inr h1,hk _ _ h1 h2⟩
   ·rename_i he
    rw [if_neg he] at h;obtain ⟨v,hv,h2⟩:=h;exact ⟨v,hv,hk _ _ hC h2⟩
  ·rename_i hw
   rw [if_neg hw] at h;exact hk _ _ hC h
theorem Um {i j:Nat} {oi oj:Oper} {K:Act→World→Prop} {a:Act} {w:World} (hoi:ops[i]? = some oi) (hoj:ops[j]? = some oj) (hap:oj.apart ops oi=true)
  (hsi:∀ cs b,oi.op ≠ .select cs b) (hsj:∀ cs b,oj.op ≠ .select cs b) (hi:eff i=false) (hj:eff j=false)
  (h:Gf P M ops C lb eff j (Gf P M ops C lb eff i K) a w):Gf P M ops C lb eff i (Gf P M ops C lb eff j K) a w:=by
 obtain ⟨h1,h2,h3⟩:=Oper.apart_spec hap;have wi:∀ (a:Act) v,Region.wanted oi (yielded ops (a.put oj.dst v).tmps)=Region.wanted oi (yielded ops a.tmps):=fun a v=>wanted_put oi a oj.dst v h1
 have wj:∀ (a:Act) v,Region.wanted oj (yielded ops (a.put oi.dst v).tmps)=Region.wanted oj (yielded ops a.tmps):=fun a v=>wanted_put oj a oi.dst v h3
 have ei:∀ (a:Act) v,execOp (a.put oj.dst v).eval oi=execOp a.eval oi:=fun a v=>execOp_put oi hsi a oj.dst v h1
 have ej:∀ (a:Act) v,execOp (a.put oi.dst v).eval oj=execOp a.eval oj:=fun a v=>execOp_put oj hsj a oi.dst v h3
 have pc:∀ (a:Act) u v,(a.put oj.dst u).put oi.dst v=(a.put oi.dst v).put oj.dst u:=fun a u v=>Act.put_comm a u v h2
 have Qi:∀ {a:Act} {v u},JM P C oi (a.put oj.dst v) u=JM P C oi a u:=fun {a v u}=>by unfold JM Bg;rw [ei]
 have Qj:∀ {a:Act} {v u},JM P C oj (a.put oi.dst v) u=JM P C oj a u:=fun {a v u}=>by unfold JM Bg;rw [ej]
 unfold Gf at *;rw [hoj] at h;rw [hoi];simp only [hoi,hoj,wi,wj,Qi,Qj,pc,hi,hj,Bool.false_eq_true,if_false] at h ⊢
 by_cases cj:Region.wanted oj (yielded ops a.tmps)=true <;> by_cases ci:Region.wanted oi (yielded ops a.tmps)=true <;> simp only [cj,ci,if_true,Bool.false_eq_true,if_false] at h ⊢
 ·obtain ⟨v,hv,u,hu,hk⟩:=h;exact ⟨u,hu,v,hv,hk⟩
 ·exact h
 ·exact h
 ·exact h
theorem Aaa {i:Nat} {oi:Oper} {post:List Nat} (hoi:ops[i]? = some oi) (hsel:∀ (j:Nat) (o:Oper) cs b,ops[j]? = some o→o.op ≠ .select cs b) (hei:eff i=false):∀ (pre:List Nat) (a:Act) (w:World),C w →
  (∀ j∈pre,∃ oj,ops[j]? = some oj∧oj.apart ops oi=true∧eff j=false∧lb j=false)→LH P M ops C lb eff Q (pre++i :: post) a w→LH P M ops C lb eff Q (i :: (pre++post)) a w
 | [],a,w,_,_,h=>h
 | j :: pre,a,w,hC,hp,h=>by
  obtain ⟨oj,hoj,hap,hne,hlj⟩:=hp j (by simp);have h':Gf P M ops C lb eff j (LH P M ops C lb eff Q (i :: (pre++post))) a w:=Un hlj hC h fun a' w' hC' h2=>Aaa hoi hsel hei pre a' w' hC' (fun k hk=>hp k (by simp [hk])) h2
  exact Um hoi hoj hap (fun cs b=>hsel i oi cs b hoi) (fun cs b=>hsel j oj cs b hoj) hei hne h'
def Zt (ops:Array Oper) (tab:List (List Nat)) (eff:Nat→Bool):Bool :=
 Region.noSelect ops && dag ops && AaJ ops tab && (List.range ops.size).all fun i=>(List.range i).all fun j=>Lh tab i j ||
  (match ops[i]?,ops[j]? with | some oi,some oj=>oj.apart ops oi && !(eff i || eff j) | _,_=>false)
theorem NG (hP:Eo P) {id:Nat} {a:Act} {w:World} (hno:Il Q) (tab:List (List Nat)) (eff:Nat→Bool) (C:World→Prop) (hm:P.follows .mixedOrders=true) (hB:Zt ops tab eff=true) (hC:C w.drew) (h:LH P M ops C (lastB ops.size tab) eff Q (List.range ops.size) a w.drew):wpX P M (.region id ops true) Q a w:=by
 unfold Zt at hB;rw [Bool.and_eq_true,Bool.and_eq_true,Bool.and_eq_true] at hB;obtain ⟨⟨⟨hsel,hdag⟩,htab⟩,hpair⟩:=hB;have hsel':=Region.noSelect_spec hsel;refine NH hP hno hm (fun L a' w'=>(∀ k o,ops[k]? = some o→L k=true→Be o L=true)∧(C w'∨∀ k,k < ops.size→L k=true)∧LH P M ops C (lastB ops.size tab) eff Q ((List.range ops.size).filter fun k => !L k) a' w') ?_ ?_ ?_
 ·exact ⟨fun _ _ _ h=>by simp at h, .inl hC,by rw [show (List.range ops.size).filter (fun k => !(fun _=>false) k)=List.range ops.size from List.filter_eq_self.2 (fun _ _=>rfl)];exact h⟩
 ·intro L a' w' i o ho hI hli hri;obtain ⟨hc,hCw,hw⟩:=hI;have hi:i < ops.size:=(Array.getElem?_eq_some_iff.1 ho).1
  have hgo:∀ k o',ops[k]? = some o'→Bi L i true k=true→Be o' (Bi L i true)=true:=by
   intro k o' hk' hLk
   have hmono:∀ j,L j=true→Bi L i true j=true:=fun j hj=>by
    unfold Bi;split
    ·rfl
    ·exact hj
   by_cases e:k=i
   ·subst e;obtain rfl:=Option.some.inj (ho.symm.trans hk');exact Ci hmono hri
   ·rw [Au _ _ e] at hLk;exact Ci hmono (hc k o' hk' hLk)
  have hC':C w':=by
   rcases hCw with h | h
   ·exact h
   ·rw [h i hi] at hli;simp at hli
  have hanc:∀ j,Lh tab i j=true→j < i∧L j=true:=by
   intro j hj;obtain ⟨h1,h2⟩:=O5 htab hgo i hi (Dn _ _ _) j hj;rw [Au _ _ (by omega)] at h2;exact ⟨h1,h2⟩
  obtain ⟨pre,post,e1,e2,e3⟩:=Qv hi hli;rw [e1] at hw
  have hfront:LH P M ops C (lastB ops.size tab) eff Q (i :: (pre++post)) a' w':=by
   cases hpre:pre with
   | nil=>rw [hpre] at hw;exact hw
   | cons j0 pre0 =>
    rw [← hpre]
    have hpp:∀ j∈pre,∃ oj,ops[j]? = some oj∧oj.apart ops o=true∧eff j=false∧lastB ops.size tab j=false∧eff i=false:=fun j hj=>by
     obtain ⟨hji,hLj⟩:=e2 j hj;have hoj:ops[j]? = some ops[j]:=Array.getElem?_eq_getElem (by omega);have hp:=(List.all_eq_true.1 hpair) i (by rw [List.mem_range];exact hi);have hp2:=(List.all_eq_true.1 hp) j (by rw [List.mem_range];exact hji);rw [Bool.or_eq_true] at hp2;rcases hp2 with hp2 | hp2
     ·have h:=(hanc j hp2).2;rw [hLj] at h;simp at h
     ·rw [ho,hoj] at hp2
      dsimp only at hp2
      rw [Bool.and_eq_true] at hp2;have h2:eff i=false∧eff j=false:=by simpa using hp2.2
      refine ⟨_,hoj,hp2.1,h2.2,?_,h2.1⟩;unfold lastB;have:¬ (j+1=ops.size):=by omega
      simp [this]
    obtain ⟨_,_,_,_,_,hei⟩:=hpp j0 (by rw [hpre];simp);exact Aaa ho hsel' hei pre a' w' hC' (fun j hj=>by obtain ⟨oj,x1,x2,x3,x4,_⟩:=hpp j hj;exact ⟨oj,x1,x2,x3,x4⟩) hw
  have hs:Gf P M ops C (lastB ops.size tab) eff i (LH P M ops C (lastB ops.size tab) eff Q (pre++post)) a' w':=hfront
  have hfin:∀ a'' w'',(lastB ops.size tab i=true∨C w'')→LH P M ops C (lastB ops.size tab) eff Q (pre++post) a'' w''→(∀ k o',ops[k]? = some o'→Bi L i true k=true→Be o' (Bi L i true)=true)∧(C w''∨∀ k,k < ops.size→Bi L i true k=true)∧LH P M ops C (lastB ops.size tab) eff Q ((List.range ops.size).filter fun k => !Bi L i true k) a'' w'':=by
   intro a'' w'' hx hmx;refine ⟨hgo,?_,by rw [e3];exact hmx⟩;rcases hx with hx | hx
   ·refine .inr fun k hk =>?_
    unfold lastB at hx;rw [Bool.and_eq_true] at hx;have hki:i+1=ops.size:=by simpa using hx.1
    by_cases e:k=i
    ·subst e;exact Dn _ _ _
    ·rw [Au _ _ e];exact (hanc k ((List.all_eq_true.1 hx.2) k (by rw [List.mem_range];omega))).2
   ·exact .inl hx
  unfold Gf at hs;rw [ho] at hs
  dsimp only at hs
  unfold opX;rw [ho]
  dsimp only
  split
  ·rename_i hwn
   rw [if_pos hwn] at hs
   split at hs
   ·exact ZF hs fun u w'' ⟨hx,hmx⟩=>hfin _ _ hx hmx
   ·obtain ⟨v,hv,hmx⟩:=hs;refine .inr (PO (hv w' hC') fun u w'' ⟨q1,q2⟩ =>?_);subst q1;subst q2;exact hfin _ _ (.inr hC') hmx
  ·rename_i hwn
   rw [if_neg hwn] at hs;exact hfin _ _ (.inr hC') hs
 ·intro L a' w' hall hI;obtain ⟨_,_,hw⟩:=hI;have hk:=Gy hdag hall
  have e:(List.range ops.size).filter (fun k => !L k)=[]:=by
   rw [List.filter_eq_nil_iff];intro k hk';rw [List.mem_range] at hk';simp [hk k hk']
  rw [e] at hw;exact hw
theorem XP (hP:Eo P) {f:Func} {k id:Nat} {a:Act} {w:World} (hno:Il Q) (tab:List (List Nat)) (eff:Nat→Bool) (C:World→Prop) (e:Aa f k=Code.region id ops true) (hm:P.follows .mixedOrders=true) (hB:Zt ops tab eff=true) (hC:C w.drew) (h:LH P M ops C (lastB ops.size tab) eff Q (List.range ops.size) a w.drew):wpX P M (Aa f k) Q a w:=by
 rw [e];exact NG hP hno tab eff C hm hB hC h
end
section
variable {P:Program} {M:Machine} {ops:Array Oper} {C:World→Prop} {Q:Exit→Act→World→Prop} {lb eff:Nat→Bool} {i:Nat} {rest:List Nat} {o:Oper} {a:Act} {w:World} {n d:Nat} {m:List (Nat×Value)} {v:Value}
theorem Zr (h:Q .normal a w):LH P M ops C lb eff Q [] a w:=h
theorem Sl.xr (h:Sl a n m) (ho:ops[i]? = some o) (he:eff i=false) (hg:o.guard=none) (hd:o.dst=some d) (hn:d < n)
  (hv:∃ v,(∀ y,C y→∀ K:Value→Prop,K v→BV P o a y K)∧∀ a',Sl a' n ((d,v) :: m)→LH P M ops C lb eff Q rest a' w):LH P M ops C lb eff Q (i :: rest) a w:=by
 obtain ⟨v,h1,h2⟩:=hv;show Gf P M ops C lb eff i _ a w;unfold Gf;rw [ho];simp only [Region.wanted,hg,if_true,he,Bool.false_eq_true,if_false];exact ⟨v,Qx h1,by rw [hd];exact h2 _ (h.put d v hn)⟩
theorem Sl.xe (h:Sl a n m) (ho:ops[i]? = some o) (he:eff i=true) (hg:o.guard=none) (hd:o.dst=some d) (hn:d < n)
  (hv:∀ K:Value→World→Prop,(∀ u w',C w'→(∀ a',Sl a' n ((d,u) :: m)→LH P M ops C lb eff Q rest a' w')→K u w')→VD P M o a w K):LH P M ops C lb eff Q (i :: rest) a w:=by
 show Gf P M ops C lb eff i _ a w;unfold Gf;rw [ho];simp only [Region.wanted,hg,if_true,he];exact hv _ fun u w' hC hG=>⟨.inr hC,by rw [hd];exact hG _ (h.put d u hn)⟩
theorem Sl.xmv (h:Sl a n m) {x:Nat} (ho:ops[i]? = some o) (he:eff i=false) (hg:o.guard=none) (hp:o.op = .move (.tmp x)∨o.op = .assign (.tmp x)) (hd:o.dst=some d) (hn:d < n) (hx:m.lookup x=some v) (hG:∀ a',Sl a' n ((d,v) :: m)→LH P M ops C lb eff Q rest a' w):LH P M ops C lb eff Q (i :: rest) a w :=
 h.xr ho he hg hd hn ⟨v,fun _ _ _ hK=>Mc hp (by rw [h.ev x hx];exact hK),hG⟩
theorem SK (hP:Eo P) {K:Value→World→Prop} (h:Bg P o a w K):VD P M o a w K:=by
 unfold Bg at h;unfold VD;generalize (execOp a.eval o).run P w=r at *
 cases r with
 | ok n w' =>
  cases n <;> simp only at h ⊢
  case enter f args=>exact CW.of hP h fun w' ⟨u,he,_⟩=>by cases he
  all_goals exact h
 | halt x w'=>exact h
theorem ZG {fc:FuncId} {F:Func} {ars:Array Operand} {ats:Array TypeId} (hop:o.op = .call { callee := .value (.func fc),args:=ars,argTypes:=ats })
  (hF:P.funcs[fc]? = some F) (hname:(F.name == "runtime.NumGoroutine")=false) (hbody:F.body.isNone=false) {args:Array Value} (ha:ars.map a.eval=args) {R:Ending→World→Prop} (hc:CW P M fc args w R) {K:Value→World→Prop}
  (h:∀ e w'',R e w''→∃ v,e = .returned v∧K v w''):VD P M o a w K:=by
 have hr:=II (P:=P) (w:=w) (a:=a) hop rfl hF hname hbody;have e:(execOp a.eval o).run P w = .ok (.enter fc args) w:=by rw [hr,← ha];simp
 unfold VD;rw [e];exact hc.mono h
end
section
variable {P:Program} {ops:Array Oper} {C:World→Prop} {eff:Nat→Bool} {Qt:Act→World→Prop} {n0:Nat}
end
section
variable {P:Program} {ops:Array Oper} {C:World→Prop} {Q:Exit→Act→World→Prop} {lb eff:Nat→Bool} {i:Nat} {rest:List Nat} {o:Oper} {a:Act} {w:World} {n d:Nat} {m:List (Nat×Value)}
end
end
section
open Go Go.Conc Go.RowKit
section
variable {P:Program} {M:Machine} {ops:Array Oper} {C:World→Prop} {Q:Exit→Act→World→Prop} {lb eff:Nat→Bool} {i:Nat} {rest:List Nat} {o:Oper} {a:Act} {w:World} {n d:Nat} {m:List (Nat×Value)} {v:Value}
theorem Sl.xw2 (h:Sl a n m) {k t:Nat} {b:Bool} {ok:Oper} (ho:ops[i]? = some o) (he:eff i=false) (hg:o.guard=some (k,b)) (hk:ops[k]? = some ok) (ht:ok.dst=some t) (hb:m.lookup t=some (.bool b)) (hd:o.dst=some d) (hn:d < n)
  (hv:∃ v,(∀ y,C y→∀ K:Value→Prop,K v→BV P o a y K)∧∀ a',Sl a' n ((d,v) :: m)→LH P M ops C lb eff Q rest a' w):LH P M ops C lb eff Q (i :: rest) a w:=by
 obtain ⟨v,h1,h2⟩:=hv;show Gf P M ops C lb eff i _ a w;unfold Gf;rw [ho];simp only [Region.wanted,hg,yielded,hk,Option.bind_some,ht,h.get _ _ hb,beq_self_eq_true,if_true,he,Bool.false_eq_true,if_false];exact ⟨v,Qx h1,by rw [hd];exact h2 _ (h.put d v hn)⟩
theorem Sl.xgc (h:Sl a n m) {k t:Nat} {b:Bool} {ok:Oper} (ho:ops[i]? = some o) (he:eff i=false) (hg:o.guard=some (k,b)) (hk:ops[k]? = some ok) (ht:ok.dst=some t) (hb:m.lookup t=some (.bool b)) (hd:o.dst=some d) (hn:d < n)
  (hv:∃ v,(∀ y,C y→∀ K:Value→World→Prop,K v y→Bg P o a y K)∧∀ a',Sl a' n ((d,v) :: m)→LH P M ops C lb eff Q rest a' w):LH P M ops C lb eff Q (i :: rest) a w:=by
 obtain ⟨v,h1,h2⟩:=hv;show Gf P M ops C lb eff i _ a w;unfold Gf;rw [ho];simp only [Region.wanted,hg,yielded,hk,Option.bind_some,ht,h.get _ _ hb,beq_self_eq_true,if_true,he,Bool.false_eq_true,if_false];exact ⟨v,UB h1,by rw [hd];exact h2 _ (h.put d v hn)⟩
theorem Sl.xge (h:Sl a n m) {k t:Nat} {b:Bool} {ok:Oper} (ho:ops[i]? = some o) (he:eff i=true) (hg:o.guard=some (k,b)) (hk:ops[k]? = some ok) (ht:ok.dst=some t) (hb:m.lookup t=some (.bool b)) (hd:o.dst=some d) (hn:d < n)
  (hv:∀ K:Value→World→Prop,(∀ u w',C w'→(∀ a',Sl a' n ((d,u) :: m)→LH P M ops C lb eff Q rest a' w')→K u w')→VD P M o a w K):LH P M ops C lb eff Q (i :: rest) a w:=by
 show Gf P M ops C lb eff i _ a w;unfold Gf;rw [ho];simp only [Region.wanted,hg,yielded,hk,Option.bind_some,ht,h.get _ _ hb,beq_self_eq_true,if_true,he];exact hv _ fun u w' hC hG=>⟨.inr hC,by rw [hd];exact hG _ (h.put d u hn)⟩
theorem Sl.xmw (h:Sl a n m) {x k t:Nat} {b:Bool} {ok:Oper} (ho:ops[i]? = some o) (he:eff i=false) (hg:o.guard=some (k,b)) (hk:ops[k]? = some ok) (ht:ok.dst=some t) (hb:m.lookup t=some (.bool b)) (hp:o.op = .move (.tmp x)∨o.op = .assign (.tmp x)) (hd:o.dst=some d) (hn:d < n) (hx:m.lookup x=some v) (hG:∀ a',Sl a' n ((d,v) :: m)→LH P M ops C lb eff Q rest a' w):LH P M ops C lb eff Q (i :: rest) a w :=
 h.xw2 ho he hg hk ht hb hd hn ⟨v,fun _ _ _ hK=>Mc hp (by rw [h.ev x hx];exact hK),hG⟩
end
end
end Go.Proofs.Ytgdobbcjkiapkaa
