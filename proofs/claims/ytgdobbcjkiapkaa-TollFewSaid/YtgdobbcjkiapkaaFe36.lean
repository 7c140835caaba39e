import Derived.Test.YtgdobbcjkiapkaaFe04
import Derived.Test.YtgdobbcjkiapkaaFe34
import Derived.Test.YtgdobbcjkiapkaaFe35
import Derived.Test.YtgdobbcjkiapkaaFe03
import Derived.Test.YtgdobbcjkiapkaaFe02
import Derived.Test.YtgdobbcjkiapkaaFe19
import Derived.Maps.AppendAt
import Derived.Test.YtgdobbcjkiapkaaFe28
import Derived.Outline
import Derived.Deep.CutBlock
import Derived.Test.YtgdobbcjkiapkaaFe21
namespace Go.Proofs.Ytgdobbcjkiapkaa
set_option maxRecDepth 100000
set_option maxHeartbeats 4000000
set_option linter.unusedSimpArgs false
set_option linter.unusedVariables false
section
open Go Go.Conc
open Go.RowKit
theorem CG {w:World} {b:Nat} {l:List Int} {t:TypeId} (K:Rw w b (KN l) t):AP w (some ⟨b,0,none⟩) l := .inr ⟨b,0,rfl,fun i hi=>by rw [Nat.zero_add];exact K.cell (LJ hi)⟩
theorem Lh {w:World} {la lb:Option Addr} {ca cb n m:Nat} {l:List Int} (ha:AP w la l) (hb:AP w lb l) (h1:n=l.length) (h2:m=l.length) (hn:l.length≤1000000):Calls Try.prog 28 #[.slice la n ca, .slice lb m cb] w (fun e w'=>e = .returned (.bool true)∧Below w.heap.size w w'):=by
 subst h1 h2;exact (U3 ha hb hn).mono fun e w' h=>⟨by rw [h.1,decide_eq_true rfl],h.2⟩
theorem U1 {w:World} {la lb:Option Addr} {ca cb n m:Nat} {l:List Au} (ha:Fq w la l) (hb:Fq w lb l) (h1:n=l.length) (h2:m=l.length) (hn:l.length≤1000000):Calls Try.prog 41 #[.slice la n ca, .slice lb m cb] w (fun e w'=>e = .returned (.bool true)∧Below w.heap.size w w'):=by
 subst h1 h2;exact (U2 ha hb hn).mono fun e w' h=>⟨by rw [h.1,decide_eq_true rfl],h.2⟩
theorem Zw {M:Machine} {w:World} {s:DT} {la:Option Addr} {lc:Nat} (hT:CZ w exT s) (hP:Fq w la exL):DL Try.prog M 30 #[.agg (EY exT s), .slice la 4 lc] w (fun e w'=>Below w.heap.size w w'∧∃ g,e = .returned (.tuple #[.slice (some ⟨g,0,none⟩) 2 2, .int .i64 0])∧AP w' (some ⟨g,0,none⟩) [9,5]):=by
 refine (Sz (l:=exL) (lc:=lc) hT hP (by show 4≤maxLen;decide)).mono ?_;rintro e w' ⟨hb,_,hz⟩;obtain ⟨g,rfl,_,hG⟩:=hz VQ;have e2:Jn (Hy exT exL) exT.Ae.length=[9,5]:=Zt;rw [e2] at hG ⊢;exact ⟨hb,g,rfl,CG hG⟩
theorem Zv {w:World} {s:DT} {la:Option Addr} {lc:Nat} (hT:CZ w exT s) (hP:Fq w la exL):Calls Try.prog 31 #[.agg (EY exT s), .slice la 4 lc] w (fun e w'=>Below w.heap.size w w'∧∃ g,e = .returned (.tuple #[.slice (some ⟨g,0,none⟩) 4 4, .int .i64 0])∧AP w' (some ⟨g,0,none⟩) [9,5,0,0]):=by
 refine (Q4 (l:=exL) (lc:=lc) hT hP (by show 4≤maxLen;decide)).mono ?_;rintro e w' ⟨hb,_,hz⟩;obtain ⟨g,rfl,_,hG⟩:=hz VQ;refine ⟨hb,g,rfl,CG (l:=[9,5,0,0]) (t:=3) ?_⟩;have h:=YS;simp only [Prod.mk.injEq] at h;obtain ⟨h0,h1,h2,h3⟩:=h
 have e2:ar4 (Gj exT exL exT.Ae.length)=KN [9,5,0,0]:=by
  show #[Value.int .i64 (Gj exT exL 2 0), .int .i64 (Gj exT exL 2 1), .int .i64 (Gj exT exL 2 2), .int .i64 (Gj exT exL 2 3)]=_;rw [h0,h1,h2,h3];rfl
 rw [← e2];exact hG
theorem YV {w:World} {s:DT} {wa:Option Addr} (hT:CZ w exT s) (hw:AP w wa [0,1]):Calls Try.prog 35 #[.agg (EY exT s), .int .i64 0, .slice wa 2 2] w (fun e w'=>Below w.heap.size w w'∧∃ la lc,e = .returned (.tuple #[.slice la 4 lc, .int .i64 0])∧Fq w' la exL):=by
 refine (Uy (way:=[0,1]) hT hw (by decide) (by decide)).mono ?_;rintro e w' ⟨hb,v,rfl,hO,_⟩;have h:=XK;rw [h] at hO ⊢;obtain ⟨a,c,rfl,_,_,hP⟩:=hO.at;exact ⟨hb,a,c,rfl,hP⟩
theorem YT {w:World} {s:DT} {wa:Option Addr} (hT:CZ w exT s) (hw:AP w wa [0,1]):Calls Try.prog 25 #[.agg (EY exT s), .int .i64 0, .slice wa 2 2, .int .i64 1, .int .i64 5] w (fun e w'=>e = .returned (.tuple #[.int .i64 11, .int .i64 0])∧Below w.heap.size w w'):=by
 refine (PW (way:=[0,1]) hT hw (by decide) (by decide)).mono ?_;rintro e w' ⟨rfl,hb⟩;rw [XI];exact ⟨rfl,hb⟩
theorem YU {w:World} {s:DT} (hT:CZ w exT s):Calls Try.prog 48 #[.agg (EY exT s), .int .i64 0, .int .i64 2] w (fun e w'=>Below w.heap.size w w'∧∃ la lc,e = .returned (.tuple #[.slice la 2 lc, .int .i64 14, .int .i64 0])∧AP w' la [0,1]):=by
 refine (Qc hT).mono ?_;rintro e w' ⟨hb,_,hz⟩;have h:=XJ;obtain ⟨c,hc,hcc⟩:=Option.map_eq_some_iff.1 h;simp only [Prod.mk.injEq] at hcc;obtain ⟨v,rfl,hO,hn,_⟩:=hz c hc;obtain ⟨g,cc,rfl,_,_,_,_,hi⟩:=hO.sl hn;rw [hcc.1] at hi ⊢;rw [hcc.2];exact ⟨hb,some ⟨g,0,none⟩,cc,rfl,hi⟩
theorem QN:Try.f18.body=some (Code.seq (Aa Try.f18 0) (Code.seq (Aa Try.f18 1) (Code.seq (Aa Try.f18 2) (Code.seq (Aa Try.f18 3) (Code.seq (Aa Try.f18 4) (Code.seq (Aa Try.f18 5) (Code.seq (Aa Try.f18 6) Code.ret))))))):=by kernel_rfl
theorem Ll {M:Machine} {w:World}:DL Try.prog M 18 #[] w (fun e w'=>e = .returned (.bool true)∧Below w.heap.size w w'):=by
 have hno:J4 (bodyPost Try.prog Try.f18 (fun e w'=>e = .returned (.bool true)∧Below w.heap.size w w')):=JP (fun w h=>by cases h.1);have hb:=Below.refl w.heap.size w;refine G7 Ef Try.func18 QN ?_ (fun w h=>by cases h.1);have Z:Sl (⟨#[]++Array.replicate (Try.f18.ntmps-(#[]:Array Value).size) undef,[]⟩:Act) 88 []:=by rw [Try.ntmps18];exact Sl.ZB
 revert Z;generalize (Act.mk _ _)=a;intro Z;refine BK Ef ?_;refine wpX.of Ef ?_ (by repeat (first | assumption | apply Ap | apply Ak));refine wr ?_;refine Z.s ?_;clear Z;intro a Z;refine od ?_;refine BK Ef ?_;refine Oc Ef (by repeat (first | assumption | apply Ap | apply Ak)) rfl ?_;refine Cm rfl rfl (fun K hK =>?_);unfold Oper.wp;go_simp;refine (Ii).mono ?_;rintro e x ⟨hb2,s13,rfl,hT13⟩;replace hb:=hb.trans (hb2.mono hb.size);clear hb2;refine Z.kX hK (by decide) ?_;clear Z hK;intro a Z;refine Cm rfl rfl (fun K hK =>?_);unfold Oper.wp;go_simp;refine (LV).mono ?_;rintro e x ⟨hb2,b14,rfl,hbw14,hP14⟩;replace hb:=hb.trans (hb2.mono hb.size);replace hT13:=hT13.below hb2;clear hb2;refine Z.kX hK (by decide) ?_;clear Z hK;intro a Z;have e13:=Z.g 13;have e14:=Z.g 14;refine Ls rfl rfl rfl Try.func30 (by kernel_rfl) (by kernel_rfl) (args:=#[.agg (EY exT s13), .slice (some ⟨b14,0,none⟩) 4 4]) (by simp [Act.eval,Array.getD_eq_getD_getElem?,e13,e14]) (Zw hT13 hP14) ?_;clear e13 e14;rintro e x ⟨hb2,g15,rfl,hI15⟩;replace hb:=hb.trans (hb2.mono hb.size);clear hb2 hT13 hP14;refine ⟨_,rfl,?_⟩;refine Z.goX (by decide) ?_;clear Z;intro a Z;refine Cm rfl rfl (fun K hK =>?_);have e15:=Z.g 15;unfold Oper.wp;go_simp;clear e15;refine Z.kX hK (by decide) ?_;clear Z hK;intro a Z
 refine Cm rfl rfl (fun K hK =>?_);have e12:=Z.g 12;unfold Oper.wp;go_simp;clear e12;refine Z.kX hK (by decide) ?_;clear Z hK;intro a Z;refine Cm rfl rfl (fun K hK =>?_);have e12:=Z.g 12;unfold Oper.wp;go_simp;clear e12;refine Z.kX hK (by decide) ?_;clear Z hK;intro a Z;refine Cm rfl rfl (fun K hK =>?_);have e16:=Z.g 16;unfold Oper.wp;go_simp;clear e16;refine Z.kX hK (by decide) ?_;clear Z hK;intro a Z;refine Cm rfl rfl (fun K hK =>?_);have e17:=Z.g 17;unfold Oper.wp;go_simp;clear e17;refine Z.kX hK (by decide) ?_;clear Z hK;intro a Z;refine Ib ?_;refine wpX.of Ef ?_ (by repeat (first | assumption | apply Ap | apply Ak));refine wsr ?_;refine og fun K hK =>?_
 unfold Oper.wp;go_simp;refine (Ii).mono ?_;rintro e x ⟨hb2,s19,rfl,hT19⟩;replace hb:=hb.trans (hb2.mono hb.size);replace hI15:=hI15.below hb2;clear hb2;refine Z.K hK ?_;clear Z hK;intro a Z;refine og fun K hK =>?_
 unfold Oper.wp;go_simp;refine (LV).mono ?_;rintro e x ⟨hb2,b20,rfl,hbw20,hP20⟩;replace hb:=hb.trans (hb2.mono hb.size);replace hI15:=hI15.below hb2;replace hT19:=hT19.below hb2;clear hb2;refine Z.K hK ?_;clear Z hK;intro a Z;refine og fun K hK =>?_
 have e19:=Z.g 19;have e20:=Z.g 20;unfold Oper.wp;go_simp;refine (Zv hT19 hP20).mono ?_;rintro e x ⟨hb2,g21,rfl,hI21⟩;replace hb:=hb.trans (hb2.mono hb.size);replace hI15:=hI15.below hb2;replace hT19:=hT19.below hb2;replace hP20:=hP20.below hb2;clear hb2;clear hT19 hP20;clear e19 e20;refine Z.K hK ?_;clear Z hK;intro a Z;(iterate 5 refine Z.s ?_;clear Z;intro a Z);refine od ?_;refine wsr ?_;refine og fun K hK =>?_
 unfold Oper.wp;go_simp;refine (Ii).mono ?_;rintro e x ⟨hb2,s25,rfl,hT25⟩;replace hb:=hb.trans (hb2.mono hb.size);replace hI15:=hI15.below hb2;replace hI21:=hI21.below hb2;clear hb2;refine Z.K hK ?_;clear Z hK;intro a Z;refine Z.s ?_;clear Z;intro a Z;refine Af (G:=fun W=>wpOps _ _ _ _ _ W) ?_;obtain ⟨b26,hg⟩:∃ b,b=x.heap.size:=⟨_,rfl⟩;intro x hz K26 hb2;rw [← hg] at Z K26;have hhb26:w.heap.size≤b26:=by rw [hg];exact hb.size
 replace hb:=hb.trans (hb2.mono hb.size);replace hI15:=hI15.below hb2;replace hI21:=hI21.below hb2;replace hT25:=hT25.below hb2;clear hz hg hb2;refine og fun K hK =>?_
 have e25:=Z.g 25;have e26:=Z.g 26;unfold Oper.wp;go_simp;refine (YV hT25 (CG (l:=[0,1]) K26)).mono ?_;rintro e x ⟨hb2,la27,lc27,rfl,hP27⟩;replace hb:=hb.trans (hb2.mono hb.size);replace hI15:=hI15.below hb2;replace hI21:=hI21.below hb2;replace hT25:=hT25.below hb2;replace K26:=K26.below hb2;clear hb2;clear hT25 K26;clear e25 e26;refine Z.K hK ?_;clear Z hK;intro a Z;(iterate 5 refine Z.s ?_;clear Z;intro a Z);refine od ?_;refine wsr ?_;refine og fun K hK =>?_
 unfold Oper.wp;go_simp;refine (Ii).mono ?_;rintro e x ⟨hb2,s31,rfl,hT31⟩;replace hb:=hb.trans (hb2.mono hb.size);replace hI15:=hI15.below hb2;replace hI21:=hI21.below hb2;replace hP27:=hP27.below hb2;clear hb2;refine Z.K hK ?_;clear Z hK;intro a Z;refine og fun K hK =>?_
 have e31:=Z.g 31;unfold Oper.wp;go_simp;refine (YU hT31).mono ?_;rintro e x ⟨hb2,la32,lc32,rfl,hI32⟩;replace hb:=hb.trans (hb2.mono hb.size);replace hI15:=hI15.below hb2;replace hI21:=hI21.below hb2;replace hP27:=hP27.below hb2;replace hT31:=hT31.below hb2;clear hb2;clear hT31;clear e31;refine Z.K hK ?_;clear Z hK;intro a Z;(iterate 7 refine Z.s ?_;clear Z;intro a Z);refine od ?_;refine wsr ?_;refine og fun K hK =>?_
 unfold Oper.wp;go_simp;refine (Ii).mono ?_;rintro e x ⟨hb2,s37,rfl,hT37⟩;replace hb:=hb.trans (hb2.mono hb.size);replace hI15:=hI15.below hb2;replace hI21:=hI21.below hb2;replace hP27:=hP27.below hb2;replace hI32:=hI32.below hb2;clear hb2;refine Z.K hK ?_;clear Z hK;intro a Z;refine Z.s ?_;clear Z;intro a Z;refine Af (G:=fun W=>wpOps _ _ _ _ _ W) ?_;obtain ⟨b38,hg⟩:∃ b,b=x.heap.size:=⟨_,rfl⟩;intro x hz K38 hb2;rw [← hg] at Z K38;have hhb38:w.heap.size≤b38:=by rw [hg];exact hb.size
 replace hb:=hb.trans (hb2.mono hb.size);replace hI15:=hI15.below hb2;replace hI21:=hI21.below hb2;replace hP27:=hP27.below hb2;replace hI32:=hI32.below hb2;replace hT37:=hT37.below hb2;clear hz hg hb2;refine og fun K hK =>?_
 have e37:=Z.g 37;have e38:=Z.g 38;unfold Oper.wp;go_simp;refine (YT hT37 (CG (l:=[0,1]) K38)).mono ?_;rintro e x ⟨rfl,hb2⟩;replace hb:=hb.trans (hb2.mono hb.size);replace hI15:=hI15.below hb2;replace hI21:=hI21.below hb2;replace hP27:=hP27.below hb2;replace hI32:=hI32.below hb2;replace hT37:=hT37.below hb2;replace K38:=K38.below hb2;clear hb2;clear hT37 K38;clear e37 e38;refine Z.K hK ?_;clear Z hK;intro a Z;(iterate 5 refine Z.s ?_;clear Z;intro a Z);refine od ?_;refine wsr ?_;(iterate 3 refine Z.s ?_;clear Z;intro a Z);(iterate 2 refine Z.t ?_;clear Z;intro a Z);(iterate 2 refine Z.s ?_;clear Z;intro a Z);(iterate 2 refine Z.t ?_;clear Z;intro a Z);(iterate 2 refine Z.s ?_;clear Z;intro a Z);(iterate 2 refine Z.t ?_;clear Z;intro a Z);(iterate 2 refine Z.s ?_;clear Z;intro a Z);(iterate 2 refine Z.t ?_;clear Z;intro a Z);(iterate 2 refine Z.s ?_;clear Z;intro a Z);(iterate 2 refine Z.t ?_;clear Z;intro a Z);(iterate 2 refine Z.s ?_;clear Z;intro a Z);(iterate 2 refine Z.t ?_;clear Z;intro a Z);(iterate 2 refine Z.s ?_;clear Z;intro a Z);(iterate 2 refine Z.t ?_;clear Z;intro a Z);refine Af (G:=fun W=>wpOps _ _ _ _ _ W) ?_;obtain ⟨b70,hg⟩:∃ b,b=x.heap.size:=⟨_,rfl⟩;intro x hz K70 hb2;rw [← hg] at Z K70
 have hhb70:w.heap.size≤b70:=by rw [hg];exact hb.size
 replace hb:=hb.trans (hb2.mono hb.size);replace hI15:=hI15.below hb2;replace hI21:=hI21.below hb2;replace hP27:=hP27.below hb2;replace hI32:=hI32.below hb2;clear hz hg hb2;refine oW (Z.g 68) fun K hK =>?_
 have e69:=Z.g 69;have e70:=Z.g 70;unfold Oper.wp;go_simp;refine (Lh hI15 (CG (l:=[9,5]) K70) rfl rfl (by decide)).mono ?_;rintro e x ⟨rfl,hb2⟩;replace hb:=hb.trans (hb2.mono hb.size);replace hI15:=hI15.below hb2;replace hI21:=hI21.below hb2;replace hP27:=hP27.below hb2;replace hI32:=hI32.below hb2;replace K70:=K70.below hb2;clear hb2;clear e69 e70;refine Z.K hK ?_;clear Z hK;intro a Z;(iterate 2 refine Z.s ?_;clear Z;intro a Z);(iterate 2 refine Z.t ?_;clear Z;intro a Z);refine Af (G:=fun W=>wpOps _ _ _ _ _ W) ?_;obtain ⟨b75,hg⟩:∃ b,b=x.heap.size:=⟨_,rfl⟩;intro x hz K75 hb2;rw [← hg] at Z K75;have hhb75:w.heap.size≤b75:=by rw [hg];exact hb.size
 have h70_75:b70 < b75:=by rw [hg];exact K70.lt
 replace hb:=hb.trans (hb2.mono hb.size);replace hI15:=hI15.below hb2;replace hI21:=hI21.below hb2;replace hP27:=hP27.below hb2;replace hI32:=hI32.below hb2;replace K70:=K70.below hb2;clear hz hg hb2;refine oW (Z.g 73) fun K hK =>?_
 have e74:=Z.g 74;have e75:=Z.g 75;unfold Oper.wp;go_simp;refine (Lh hI21 (CG (l:=[9,5,0,0]) K75) rfl rfl (by decide)).mono ?_;rintro e x ⟨rfl,hb2⟩;replace hb:=hb.trans (hb2.mono hb.size);replace hI15:=hI15.below hb2;replace hI21:=hI21.below hb2;replace hP27:=hP27.below hb2;replace hI32:=hI32.below hb2;replace K70:=K70.below hb2;replace K75:=K75.below hb2;clear hb2;clear e74 e75;refine Z.K hK ?_;clear Z hK;intro a Z;(iterate 2 refine Z.s ?_;clear Z;intro a Z);refine Z.t ?_;clear Z;intro a Z;refine oW (Z.g 78) fun K hK =>?_
 unfold Oper.wp;go_simp;refine (LV).mono ?_;rintro e x ⟨hb2,b80,rfl,hbw80,hP80⟩;replace hb:=hb.trans (hb2.mono hb.size);replace hI15:=hI15.below hb2;replace hI21:=hI21.below hb2;replace hP27:=hP27.below hb2;replace hI32:=hI32.below hb2;replace K70:=K70.below hb2;replace K75:=K75.below hb2;clear hb2;refine Z.K hK ?_;clear Z hK;intro a Z;refine oW (Z.g 78) fun K hK =>?_
 have e79:=Z.g 79;have e80:=Z.g 80;unfold Oper.wp;go_simp;refine (U1 hP27 hP80 rfl rfl (by decide)).mono ?_;rintro e x ⟨rfl,hb2⟩;replace hb:=hb.trans (hb2.mono hb.size);replace hI15:=hI15.below hb2;replace hI21:=hI21.below hb2;replace hP27:=hP27.below hb2;replace hI32:=hI32.below hb2;replace K70:=K70.below hb2;replace K75:=K75.below hb2;replace hP80:=hP80.below hb2;clear hb2;clear e79 e80;refine Z.K hK ?_;clear Z hK;intro a Z;(iterate 2 refine Z.s ?_;clear Z;intro a Z);(iterate 2 refine Z.t ?_;clear Z;intro a Z);refine Af (G:=fun W=>wpOps _ _ _ _ _ W) ?_;obtain ⟨b85,hg⟩:∃ b,b=x.heap.size:=⟨_,rfl⟩;intro x hz K85 hb2;rw [← hg] at Z K85;have hhb85:w.heap.size≤b85:=by rw [hg];exact hb.size
 have h75_85:b75 < b85:=by rw [hg];exact K75.lt
 replace hb:=hb.trans (hb2.mono hb.size);replace hI15:=hI15.below hb2;replace hI21:=hI21.below hb2;replace hP27:=hP27.below hb2;replace hI32:=hI32.below hb2;replace K70:=K70.below hb2;replace K75:=K75.below hb2;replace hP80:=hP80.below hb2;clear hz hg hb2;refine oW (Z.g 83) fun K hK =>?_
 have e84:=Z.g 84;have e85:=Z.g 85;unfold Oper.wp;go_simp;refine (Lh hI32 (CG (l:=[0,1]) K85) rfl rfl (by decide)).mono ?_;rintro e x ⟨rfl,hb2⟩;replace hb:=hb.trans (hb2.mono hb.size);replace hI15:=hI15.below hb2;replace hI21:=hI21.below hb2;replace hP27:=hP27.below hb2;replace hI32:=hI32.below hb2;replace K70:=K70.below hb2;replace K75:=K75.below hb2;replace hP80:=hP80.below hb2;replace K85:=K85.below hb2;clear hb2;clear e84 e85;refine Z.K hK ?_;clear Z hK;intro a Z;(iterate 2 refine Z.s ?_;clear Z;intro a Z);refine od ?_;refine wp_ret ?_
 try simp only [Exit.then,Exit.inBlock]
 refine bodyPost_ret (v := .bool true) ?_ Z.defers ⟨rfl,hb⟩;simp [results,Try.results18,Z.get 0 _ rfl]
end
section
open Go Go.Conc Go.RowKit
section
variable {P:Program} {M:Machine} {ops:Array Oper} {Q:Exit→Act→World→Prop} {C:World→Prop} {lb eff:Nat→Bool}
end
section
variable {P:Program} {M:Machine} {ops:Array Oper} {C:World→Prop} {Q:Exit→Act→World→Prop} {lb eff:Nat→Bool} {i:Nat} {rest:List Nat} {o:Oper} {a:Act} {w:World} {n d:Nat} {m:List (Nat×Value)} {v:Value}
end
section
variable {P:Program} {ops:Array Oper} {C:World→Prop} {eff:Nat→Bool} {Qt:Act→World→Prop} {n0:Nat}
end
section
variable {P:Program} {ops:Array Oper} {C:World→Prop} {Q:Exit→Act→World→Prop} {lb eff:Nat→Bool} {i:Nat} {rest:List Nat} {o:Oper} {a:Act} {w:World} {n d:Nat} {m:List (Nat×Value)}
end
end
section
open Go Go.Conc Go.RowKit
section
variable {P:Program} {M:Machine} {ops:Array Oper} {C:World→Prop} {Q:Exit→Act→World→Prop} {lb eff:Nat→Bool} {i:Nat} {rest:List Nat} {o:Oper} {a:Act} {w:World} {n d:Nat} {m:List (Nat×Value)} {v:Value}
end
end
section
open Go.RowKit
end
section
open Go.RowKit
open Go.ChangeMaps (setBlock)
structure Ext (m:Nat) (w w':World):Prop where
 os:w'.os=w.os
 tape:w'.tape=w.tape
 output:w'.output=w.output
 size:w.heap.size≤w'.heap.size
 block:∀ k,k < w.heap.size→k≠m→w'.heap[k]? = w.heap[k]?
theorem Ext.refl (m:Nat) (w:World):Ext m w w:=⟨rfl,rfl,rfl,Nat.le_refl _,fun _ _ _=>rfl⟩
theorem Ext.trans {m:Nat} {a b c:World} (h:Ext m a b) (k:Ext m b c):Ext m a c :=
 ⟨k.os.trans h.os,k.tape.trans h.tape,k.output.trans h.output,Nat.le_trans h.size k.size,fun i hi hne=>(k.block i (Nat.lt_of_lt_of_le hi h.size) hne).trans (h.block i hi hne)⟩
theorem Ext.of_below {m:Nat} {w w':World} (h:Below w.heap.size w w'):Ext m w w':=⟨h.os,h.tape,h.output,h.size,fun k hk _=>h.block k hk⟩
theorem Ext.below {m B:Nat} {w0 w w':World} (h:Ext m w w') (hb:Below B w0 w) (hB:B≤m) (hBw:B≤w.heap.size):Below B w0 w' :=
 hb.trans ⟨h.os,h.tape,h.output,h.size,fun k hk=>h.block k (by omega) (by omega)⟩
end
section
open Go.RowKit
open Go.ChangeMaps (setBlock)
section
variable {r:DR} {f:Flock} {shut day:Int} {q:Int×Int} {k:Nat} {s:Strip} {eo:Int×Bool}
end
end
section
open Go.RowKit
section
variable {r:DR} {f:Flock} {shut d left b0:Int} {V:Int×Int→Int} {p q:Int×Int}
end
end
section
open Go.RowKit
open Go.ChangeMaps (setBlock)
end
section
open Go.RowKit
def bd (f:Flock) (last d l:Int):Int:=(last+1-d)*f.pace-l
end
section
open Go.RowKit
end
section
open Go.RowKit
def Strip.cells (s:Strip):List Value:=[.int .i64 s.A, .int .i64 s.B, .int .i64 s.L, .int .i64 s.W, .int .i64 s.K, .int .i64 s.X, .int .i64 s.Y]
def WQ (w:World) (B:Nat) (v:Value) (l:List Strip):Prop:=w.ownsRow B 96 7 v l.length (l.flatMap Strip.cells)
end
section
open Go.RowKit
def wide (s:Strip):Strip:={ s with W:=max s.W 90 }
end
section
open Go.RowKit
structure AQ (w:World) (hb B:Nat) (a:Option Addr) (n c:Nat):Prop where
 c0:w.cell? ⟨hb,0,none⟩=some (.slice a n c)
 c1:∃ k:Nat,k≤B∧w.cell? ⟨hb,1,none⟩=some (.int .i64 k)
 c2:∃ s:Int,0≤s∧s < 18446744073709551616∧w.cell? ⟨hb,2,none⟩=some (.int .u64 s)
 f1:w.frozen? ⟨hb,1,none⟩=false
 f2:w.frozen? ⟨hb,2,none⟩=false
 nums:∃ l:List Int,l.length=n∧AP w a l∧(l=[]∨∀ ad,a=some ad→ad.block < hb)
 len:n≤maxLen
theorem Jc (a b:Int):0≤bits .xor .u64 a b∧bits .xor .u64 a b < 18446744073709551616:=by
 show 0≤IntKind.u64.wrap _∧IntKind.u64.wrap _ < _;rw [IntKind.wrap_u64];omega
theorem Jv {a:Int} (h:0≤a∧a < 18446744073709551616):0≤a / 2048∧a / 2048≤9007199254740991:=by omega
theorem Iw (a:Int):0≤IntKind.u64.wrap a∧IntKind.u64.wrap a < 18446744073709551616:=by rw [IntKind.wrap_u64];omega
theorem AQ.PR {w w':World} {hb:Nat} {a:Option Addr} {n:Nat} (h:∃ l:List Int,l.length=n∧AP w a l∧(l=[]∨∀ ad,a=some ad→ad.block < hb)) (hk:∀ b,b < w.heap.size→b < hb→w'.heap[b]? = w.heap[b]?) :
  ∃ l:List Int,l.length=n∧AP w' a l∧(l=[]∨∀ ad,a=some ad→ad.block < hb):=by
 obtain ⟨l,h1,h2,h3⟩:=h;refine ⟨l,h1,?_,h3⟩;rcases h3 with h3 | h3
 ·exact .inl h3
 rcases h2 with h2 | ⟨b,o,ha,hc⟩
 ·exact .inl h2
 ·have hlt:=h3 _ ha;exact .inr ⟨b,o,ha,fun i hi=>(World.cell?_of_block (hk b (lt_of_cell (hc i hi)) hlt)).trans (hc i hi)⟩
theorem AQ.keep {w w':World} {hb B:Nat} {a:Option Addr} {n c:Nat} (h:AQ w hb B a n c) (hk:∀ b,b < w.heap.size→b≤hb→w'.heap[b]? = w.heap[b]?):AQ w' hb B a n c:=by
 obtain ⟨c0,⟨k,hk1,c1⟩,⟨s,s1,s2,c2⟩,f1,f2,hnums,hn⟩:=h;have e:=hk hb (lt_of_cell c0) (Nat.le_refl _)
 exact ⟨(World.cell?_of_block e).trans c0,⟨k,hk1,(World.cell?_of_block e).trans c1⟩,⟨s,s1,s2,(World.cell?_of_block e).trans c2⟩,(World.frozen?_of_block e).trans f1,(World.frozen?_of_block e).trans f2,
  AQ.PR hnums fun b h1 h2=>hk b h1 (by omega),hn⟩
theorem AQ.below {w w':World} {hb B:Nat} {a:Option Addr} {n c:Nat} (h:AQ w hb B a n c) (hb':Below w.heap.size w w'):AQ w' hb B a n c:=h.keep fun b h1 _=>hb'.block b h1
theorem AQ.more {w:World} {hb B B':Nat} {a:Option Addr} {n c:Nat} (h:AQ w hb B a n c) (hB:B≤B'):AQ w hb B' a n c :=
 ⟨h.c0,let ⟨k,hk,c1⟩:=h.c1;⟨k,by omega,c1⟩,h.c2,h.f1,h.f2,h.nums,h.len⟩
theorem AQ.lt {w:World} {hb B:Nat} {a:Option Addr} {n c:Nat} (h:AQ w hb B a n c):hb < w.heap.size:=lt_of_cell h.c0
def WT (w:World) (hb B:Nat) (a:Option Addr) (n c:Nat) (P:Value→Prop) (e:Ending) (w':World):Prop:=∃ v,P v∧e = .returned v∧AQ w' hb B a n c∧Ext hb w w'
theorem LM {w:World} {hb B:Nat} {a:Option Addr} {n c k:Nat} (h:AQ w hb B a n c) (hk:k≤B) (q:Nat) (s:Int) (h1:0≤s) (h2:s < 18446744073709551616) :
  AQ (((w.drewN q).setCell ⟨hb,1,none⟩ (.int .i64 ((k:Int)+1))).setCell ⟨hb,2,none⟩ (.int .u64 s)) hb (B+1) a n c∧Ext hb w (((w.drewN q).setCell ⟨hb,1,none⟩ (.int .i64 ((k:Int)+1))).setCell ⟨hb,2,none⟩ (.int .u64 s)):=by
 obtain ⟨c0,⟨k',hk',c1⟩,⟨s',_,_,c2⟩,f1,f2,hnums,hn⟩:=h
 have ho:∀ b,b≠hb→(((w.drewN q).setCell ⟨hb,1,none⟩ (.int .i64 ((k:Int)+1))).setCell ⟨hb,2,none⟩ (.int .u64 s)).heap[b]? = w.heap[b]?:=fun b hne=>by
  rw [Below.heap_setCell _ ⟨hb,2,none⟩ _ b hne,Below.heap_setCell _ ⟨hb,1,none⟩ _ b hne];simp
 refine ⟨⟨?_,⟨k+1,by omega,?_⟩,⟨s,h1,h2,?_⟩,?_,?_,AQ.PR hnums fun b _ hb'=>ho b (by omega),hn⟩,⟨(below_drewN (Below.refl 0 w) q).os,(below_drewN (Below.refl 0 w) q).tape,(below_drewN (Below.refl 0 w) q).output,by simp,fun b _ hne=>ho b hne⟩⟩
 ·rw [World.cell?_setCell_other _ _ _ _ (by simp),World.cell?_setCell_other _ _ _ _ (by simp)];simpa using c0
 ·rw [World.cell?_setCell_other _ _ _ _ (by simp)];exact World.cell?_setCell_same _ _ _ (u := .int .i64 k') (by simpa using c1)
 ·exact World.cell?_setCell_same _ _ _ (u := .int .u64 s') (by rw [World.cell?_setCell_other _ _ _ _ (by simp)];simpa using c2)
 ·rw [World.frozen?_setCell,World.frozen?_setCell];simpa using f1
 ·rw [World.frozen?_setCell,World.frozen?_setCell];simpa using f2
theorem Xk (w:World) (hb B:Nat) (a:Option Addr) (n c:Nat) (h:AQ w hb B a n c) (hB:B≤1000000) :
  Calls Try.prog 62 #[.pointer (some ⟨hb,0,none⟩)] w (WT w hb (B+1) a n c fun v=>∃ x:Int,0≤x∧x≤9007199254740991∧v = .int .u64 x):=by
 have H:=Lib.hid h;obtain ⟨c0,⟨k,hk,c1⟩,⟨s,s1,s2,c2⟩,f1,f2,hnums,hn⟩:=h;have HN:=Lib.hid hnums;clear hnums;unfold maxLen at hn
 by_cases hlt:k < n
 ·obtain ⟨l,hl1,hl2,hl3⟩:=HN.out;have hlt':decide ((k:Int) < (n:Int))=true:=decide_eq_true (by omega);have hkl:k < l.length:=by omega
  rcases hl2 with hz | ⟨b,o,rfl,hc⟩
  ·rw [hz] at hkl;simp at hkl
  have hx:=hc k hkl;generalize l[k]=x at hx;have q1:(0:Int)≤(k:Int):=by omega
  have q2:(k:Int) < (n:Int):=by omega
  clear hl1 hl3 hkl hc
  go_enter Try.func62,Try.ntmps62
  go_wp2_with fail
  go_quiet (fail)
  go_wp2_with fail
  go_quiet (fail)
  go_wp2_with fail
  go_ret
  obtain ⟨h1,h2⟩:=LM H.out hk _ _ (Iw _).1 (Iw _).2;exact ⟨_,⟨_,(Jv (Jc _ _)).1,(Jv (Jc _ _)).2,rfl⟩,rfl,h1,h2⟩
 ·have hlt':decide ((k:Int) < (n:Int))=false:=decide_eq_false (by omega)
  go_enter Try.func62,Try.ntmps62
  go_wp2_with fail
  go_quiet (fail)
  go_wp2_with fail
  go_ret
  obtain ⟨h1,h2⟩:=LM H.out hk _ _ (Iw _).1 (Iw _).2;exact ⟨_,⟨_,(Jv (Jc _ _)).1,(Jv (Jc _ _)).2,rfl⟩,rfl,h1,h2⟩
set_option maxHeartbeats 2000000 in
theorem BX (w:World) (hb B:Nat) (a:Option Addr) (n c:Nat) (h:AQ w hb B a n c) (hB:B≤1000000) (most:Int) (hm1 : -1000000≤most) (hm2:most≤1000000) :
  Calls Try.prog 21 #[.pointer (some ⟨hb,0,none⟩), .int .i64 most] w (WT w hb (B+1) a n c fun v=>∃ x:Int,0≤x∧x≤max most 0∧v = .int .i64 x):=by
 have H:=Lib.hid h;clear h
 by_cases hm:most≤0
 ·go_enter Try.func21,Try.ntmps21
  go_wp2_with fail
  go_ret
  exact ⟨_,⟨0,by omega,by omega,rfl⟩,rfl,H.out.more (by omega),Ext.refl _ _⟩
 ·go_enter Try.func21,Try.ntmps21
  go_wp2_with fail
  refine (Xk w hb B a n c H.out hB).mono ?_;rintro e w1 ⟨_,⟨x,x1,x2,rfl⟩,rfl,hh,hE⟩;have HH:=Lib.hid hh;clear hh;have HE:=Lib.hid hE;clear hE
  go_wp2_with fail
  go_ret
  have r1:0≤x % (most+1):=Int.emod_nonneg _ (by omega);have r2:x % (most+1) < most+1:=Int.emod_lt_of_pos _ (by omega);exact ⟨_,⟨wrap64 (x % (most+1)),by unfold wrap64;omega,by unfold wrap64;omega,rfl⟩,rfl,HH.out,HE.out⟩
set_option maxHeartbeats 2000000 in
theorem Dj (w:World) (hb B:Nat) (a:Option Addr) (n c:Nat) (h:AQ w hb B a n c) (hB:B≤1000000) (least most:Int) (h1 : -1000≤least) (h2:least≤1000) (h3 : -1000≤most) (h4:most≤1000) :
  Calls Try.prog 44 #[.pointer (some ⟨hb,0,none⟩), .int .i64 least, .int .i64 most] w (WT w hb (B+1) a n c fun v=>∃ x:Int,least≤x∧x≤max most least∧v = .int .i64 x):=by
 have H:=Lib.hid h;clear h
 go_enter Try.func44,Try.ntmps44
 go_wp2_with fail
 refine (BX w hb B a n c H.out hB (most-least) (by omega) (by omega)).mono ?_;rintro e w1 ⟨_,⟨x,x1,x2,rfl⟩,rfl,hh,hE⟩;have HH:=Lib.hid hh;clear hh;have HE:=Lib.hid hE;clear hE;have x3:x≤2000:=by omega
 go_wp2_with fail
 go_ret
 exact ⟨_,⟨least+x,by omega,by omega,rfl⟩,rfl,HH.out,HE.out⟩
set_option maxHeartbeats 2000000 in
theorem KJ (w:World) (hb B:Nat) (a:Option Addr) (n c:Nat) (h:AQ w hb B a n c) (hB:B≤1000000) (first:Int) (oa:Option Addr) (oc:Nat) (l:List Int) (hl:AP w oa l) (ho:∀ ad,oa=some ad→ad.block≠hb) (hlen:l.length≤100) :
  Calls Try.prog 60 #[.pointer (some ⟨hb,0,none⟩), .int .i64 first, .slice oa l.length oc] w (WT w hb (B+1) a n c fun v=>∃ x:Int,x∈first :: l∧v = .int .i64 x):=by
 have H:=Lib.hid h;clear h;have HL:=Lib.hid hl;clear hl;have HO:=Lib.hid ho;clear ho
 go_enter Try.func60,Try.ntmps60
 go_wp2_with fail
 refine (BX w hb B a n c H.out hB l.length (by omega) (by omega)).mono ?_;rintro e w1 ⟨_,⟨x,x1,x2,rfl⟩,rfl,hh,hE⟩;have HH:=Lib.hid hh;clear hh
 by_cases hx:0 < x
 ·obtain ⟨k,hk⟩:∃ k:Nat,x=(k:Int)+1:=⟨(x-1).toNat,by omega⟩;have hkl:k < l.length:=by omega
  rcases HL.out with hz | ⟨b,o,hoa,hc⟩
  ·rw [hz] at hkl;simp at hkl
  have hck:=hc k hkl;have hne:=HO.out _ hoa;have hc1:=(World.cell?_of_block (hE.block b (lt_of_cell hck) hne)).trans hck;have hmem:l[k]∈first :: l:=List.mem_cons_of_mem _ (List.getElem_mem hkl)
  generalize l[k]=y at hc1 hmem;have HM:=Lib.hid hmem;clear hmem hck hc;have HE:=Lib.hid hE;clear hE;subst hk hoa;have q1:(k:Int) < (l.length:Int):=by omega
  go_wp2_with fail
  go_ret
  exact ⟨_,⟨y,HM.out,rfl⟩,rfl,HH.out,HE.out⟩
 ·have HE:=Lib.hid hE;clear hE
  go_wp2_with fail
  go_ret
  exact ⟨_,⟨first,by simp,rfl⟩,rfl,HH.out,HE.out⟩
end
section
open Go.RowKit
def JZ (D S:Int) (s:Strip):Prop:=0≤s.A∧s.A < S∧0≤s.B∧s.B < S∧s.A≠s.B∧1≤s.L∧s.L≤9∧1≤s.W∧s.W≤99 ∧
  ((s.K=1∧s.X=0∧s.Y=0)∨(s.K=2∧0≤s.X∧s.X≤s.Y∧s.Y < D)∨(s.K=3∧0≤s.X∧s.X≤20∧-5≤s.Y∧s.Y≤5)∨(s.K=4∧1≤s.X∧s.X≤40∧s.Y=0))
end
section
open Go Go.RowKit
section
variable {w x x':World} {m g B b:Nat} {c:Array Value} {t:TypeId}
theorem Rw.ext (h:Rw x b c t) (hE:Ext m x x') (hne:b≠m):Rw x' b c t:=(hE.block b h.lt hne).trans h
theorem Rw.ER (h:Rw x b c t) (hB:Below B x x') (hlt:b < B):Rw x' b c t:=(hB.block b hlt).trans h
theorem Ext.set (h:Ext m w x) (hg:w.heap.size≤g) (o:Nat) (v:Value):Ext m w (x.setCell ⟨g,o,none⟩ v):=by
 refine ⟨h.os,h.tape,h.output,?_,fun k hk hne =>?_⟩
 ·simpa using h.size
 ·rw [Below.heap_setCell _ ⟨g,o,none⟩ _ k (by show k≠g;omega)];exact h.block k hk hne
theorem Ext.app (h:Ext m w x) (hB:Below B x x') (hw:w.heap.size≤B):Ext m w x' :=
 ⟨hB.os.trans h.os,hB.tape.trans h.tape,hB.output.trans h.output,Nat.le_trans h.size hB.size,fun k hk hne=>(hB.block k (by omega)).trans (h.block k hk hne)⟩
theorem Ext.bel (h:Ext m w x) (hb:Below x.heap.size x x'):Ext m w x':=h.trans (Ext.of_below hb)
theorem AQ.far {hb n ca:Nat} {a:Option Addr} (h:AQ x hb B a n ca) (hlt:hb < g) (o:Nat) (v:Value):AQ (x.setCell ⟨g,o,none⟩ v) hb B a n ca:=h.keep fun k _ hk=>Below.heap_setCell _ ⟨g,o,none⟩ _ k (by show k≠g;omega)
theorem AQ.ER {hb n ca D:Nat} {a:Option Addr} (h:AQ x hb D a n ca) (hB:Below B x x') (hlt:hb < B):AQ x' hb D a n ca:=h.keep fun k _ hk=>hB.block k (by omega)
end
section
variable {α:Type} {f:α→List Value} {e:TypeId} {k:Nat} {w x x':World} {B D m g:Nat} {v:Value} {l:List α}
theorem AX.ext (h:AX f e k x B v l) (hE:Ext m x x') (hm:m < B):AX f e k x' B v l:=h.keep fun b hb=>hE.block b (h.Ai hb).2 (by have:=(h.Ai hb).1;omega)
theorem AX.far (h:AX f e k x B v l) (hg:g < B) (o:Nat) (u:Value):AX f e k (x.setCell ⟨g,o,none⟩ u) B v l:=h.keep fun b hb=>Below.heap_setCell _ ⟨g,o,none⟩ _ b (by have:=(h.Ai hb).1;show b≠g;omega)
def RD (C:Nat) (v:Value):Prop:=∀ b,v.ownBlock=some b→b < C
theorem RD.nil {C:Nat}:RD C (.slice none 0 0):=fun b h=>by simp [Value.ownBlock] at h
theorem AX.upTo (h:AX f e k x B v l):RD x.heap.size v:=fun b hb=>(h.Ai hb).2
theorem AX.ER {C:Nat} (h:AX f e k x B v l) (hu:RD C v) (hB:Below D x x') (hd:C≤D):AX f e k x' B v l:=h.keep fun b hb=>hB.block b (by have:=hu b hb;omega)
theorem XM {o:Oper} {a:Act} {K:Value→World→Prop} (st:TypeId) {z:Value} {bytes:Nat} (s y0:Operand) (hst:Try.prog.underlying st=some (.slice e)) (hinfo:(Try.prog.info? e).map (fun i=>(i.zero,i.size,i.bytes))=some (some z,k,bytes)) (hz:z.cells.size=k) (hk:0 < k) (hby:bytes≤100)
  (ho:o.op = .call { callee := .builtin .append,args:=#[s,y0],argTypes:=#[st,st] }) (hs:a.eval s=v) (hown:AX f e k w B v l) (gs:Nat) (y:α) (hx:a.eval y0 = .slice (some ⟨gs,0,none⟩) 1 1)
  (hf:(f y).length=k) (hr:∀ (j:Nat) (u:Value),(f y)[j]? = some u→w.cell? ⟨gs,j,none⟩=some u) (h1:∀ u∈f y,u.oneCell'=true) (hlen:l.length≤1000000) (hB:B≤w.heap.size)
  (h:∀ v' w',AX f e k w' B v' (l++[y])→Below B w w'→v' ≠ .slice none 0 0→K v' w'):BP Try.prog o a w K:=by
 obtain ⟨i0,hi,hz0,hz1,hz2⟩:=info_parts (P:=Try.prog) hinfo;have hblk:∀ k,v.ownBlock=some k→B≤k:=fun k hk=>(hown.Ai hk).1
 obtain ⟨v',w',q1,q2,q3,q4,q5⟩:=run_append_own_at (P:=Try.prog) w B st o.type e i0 z k bytes hst hi hz0 hz1 hz2 hz hk v l.length _ hown ⟨gs,0,none⟩ 1 1 (f y) (by rw [hf];omega) (by
    intro j u hj;have:=hr j u hj;have e:(⟨gs,0,none⟩:Addr).add j=⟨gs,j,none⟩:=by by_cases h0:j=0 <;> simp [Addr.add,h0]
    rw [e];exact this) h1 (by unfold maxLen;omega) (by
    have:(l.length+1)*bytes≤1000001*100:=Nat.mul_le_mul (by omega) hby
    omega) hB
 unfold BP execOp;simp only [ho,resolve,invoke,builtin,Sem.run_bind,Sem.run_pure,Result.andThen_ok,List.map_toArray,List.map_cons,List.map_nil,hs,hx,q1];refine h v' w' ?_ (Below.grown (Below.refl _ _) q3 hB hblk) (fun e =>?_)
 ·unfold AX;rw [List.length_append,List.flatMap_append]
  simpa using q2
 ·have:=(q4.1 e).2
  omega
end
end
end Go.Proofs.Ytgdobbcjkiapkaa
