import Derived.Test.YtgdobbcjkiapkaaNo04
import Derived.Test.YtgdobbcjkiapkaaNo32
import Derived.Test.YtgdobbcjkiapkaaNo34
import Derived.Test.YtgdobbcjkiapkaaNo35
import Derived.Test.YtgdobbcjkiapkaaNo33
import Derived.Test.YtgdobbcjkiapkaaNo03
import Derived.Test.YtgdobbcjkiapkaaNo02
import Derived.Test.YtgdobbcjkiapkaaNo19
import Derived.Maps.AppendAt
import Derived.Test.YtgdobbcjkiapkaaNo28
import Derived.Outline
namespace Go.Proofs.Ytgdobbcjkiapkaa
set_option maxRecDepth 100000
set_option maxHeartbeats 4000000
set_option linter.unusedSimpArgs false
set_option linter.unusedVariables false
section
open Go Go.Conc
open Go.RowKit
theorem CW {w:World} {b:Nat} {l:List Int} {t:TypeId} (K:Rw w b (NZ l) t):Aq w (some ⟨b,0,none⟩) l := .inr ⟨b,0,rfl,fun i hi=>by rw [Nat.zero_add];exact K.cell (QF hi)⟩
theorem MJ {w:World} {la lb:Option Addr} {ca cb n m:Nat} {l:List Int} (ha:Aq w la l) (hb:Aq w lb l) (h1:n=l.length) (h2:m=l.length) (hn:l.length≤1000000):Calls Try.prog 28 #[.slice la n ca, .slice lb m cb] w (fun e w'=>e = .returned (.bool true)∧Below w.heap.size w w'):=by
 subst h1 h2;exact (Qm ha hb hn).mono fun e w' h=>⟨by rw [h.1,decide_eq_true rfl],h.2⟩
theorem VR {w:World} {la lb:Option Addr} {ca cb n m:Nat} {l:List A8} (ha:GV w la l) (hb:GV w lb l) (h1:n=l.length) (h2:m=l.length) (hn:l.length≤1000000):Calls Try.prog 41 #[.slice la n ca, .slice lb m cb] w (fun e w'=>e = .returned (.bool true)∧Below w.heap.size w w'):=by
 subst h1 h2;exact (VT ha hb hn).mono fun e w' h=>⟨by rw [h.1,decide_eq_true rfl],h.2⟩
theorem Aav {M:Machine} {w:World} {s:Ef} {la:Option Addr} {lc:Nat} (hT:CV w exT s) (hP:GV w la exL):D5 Try.prog M 30 #[.agg (ER exT s), .slice la 4 lc] w (fun e w'=>Below w.heap.size w w'∧∃ g,e = .returned (.tuple #[.slice (some ⟨g,0,none⟩) 2 2, .int .i64 0])∧Aq w' (some ⟨g,0,none⟩) [9,5]):=by
 refine (YM (l:=exL) (lc:=lc) hT hP (by show 4≤maxLen;decide)).mono ?_;rintro e w' ⟨hb,_,hz⟩;obtain ⟨g,rfl,_,hG⟩:=hz WY;have e2:NW (Jn exT exL) exT.Ac.length=[9,5]:=Aas;rw [e2] at hG ⊢;exact ⟨hb,g,rfl,CW hG⟩
theorem Aau {w:World} {s:Ef} {la:Option Addr} {lc:Nat} (hT:CV w exT s) (hP:GV w la exL):Calls Try.prog 31 #[.agg (ER exT s), .slice la 4 lc] w (fun e w'=>Below w.heap.size w w'∧∃ g,e = .returned (.tuple #[.slice (some ⟨g,0,none⟩) 4 4, .int .i64 0])∧Aq w' (some ⟨g,0,none⟩) [9,5,0,0]):=by
 refine (Su (l:=exL) (lc:=lc) hT hP (by show 4≤maxLen;decide)).mono ?_;rintro e w' ⟨hb,_,hz⟩;obtain ⟨g,rfl,_,hG⟩:=hz WY;refine ⟨hb,g,rfl,CW (l:=[9,5,0,0]) (t:=3) ?_⟩;have h:=ZL;simp only [Prod.mk.injEq] at h;obtain ⟨h0,h1,h2,h3⟩:=h
 have e2:ar4 (Gy exT exL exT.Ac.length)=NZ [9,5,0,0]:=by
  show #[Value.int .i64 (Gy exT exL 2 0), .int .i64 (Gy exT exL 2 1), .int .i64 (Gy exT exL 2 2), .int .i64 (Gy exT exL 2 3)]=_;rw [h0,h1,h2,h3];rfl
 rw [← e2];exact hG
theorem ZO {w:World} {s:Ef} {wa:Option Addr} (hT:CV w exT s) (hw:Aq w wa [0,1]):Calls Try.prog 35 #[.agg (ER exT s), .int .i64 0, .slice wa 2 2] w (fun e w'=>Below w.heap.size w w'∧∃ la lc,e = .returned (.tuple #[.slice la 4 lc, .int .i64 0])∧GV w' la exL):=by
 refine (Vl (way:=[0,1]) hT hw (by decide) (by decide)).mono ?_;rintro e w' ⟨hb,v,rfl,hO,_⟩;have h:=YD;rw [h] at hO ⊢;obtain ⟨a,c,rfl,_,_,hP⟩:=hO.at;exact ⟨hb,a,c,rfl,hP⟩
theorem ZM {w:World} {s:Ef} {wa:Option Addr} (hT:CV w exT s) (hw:Aq w wa [0,1]):Calls Try.prog 25 #[.agg (ER exT s), .int .i64 0, .slice wa 2 2, .int .i64 1, .int .i64 5] w (fun e w'=>e = .returned (.tuple #[.int .i64 11, .int .i64 0])∧Below w.heap.size w w'):=by
 refine (WP (way:=[0,1]) hT hw (by decide) (by decide)).mono ?_;rintro e w' ⟨rfl,hb⟩;rw [YB];exact ⟨rfl,hb⟩
theorem ZN {w:World} {s:Ef} (hT:CV w exT s):Calls Try.prog 48 #[.agg (ER exT s), .int .i64 0, .int .i64 2] w (fun e w'=>Below w.heap.size w w'∧∃ la lc,e = .returned (.tuple #[.slice la 2 lc, .int .i64 14, .int .i64 0])∧Aq w' la [0,1]):=by
 refine (IG hT).mono ?_;rintro e w' ⟨hb,_,hz⟩;have h:=YC;obtain ⟨c,hc,hcc⟩:=Option.map_eq_some_iff.1 h;simp only [Prod.mk.injEq] at hcc;obtain ⟨v,rfl,hO,hn,_⟩:=hz c hc;obtain ⟨g,cc,rfl,_,_,_,_,hi⟩:=hO.sl hn;rw [hcc.1] at hi ⊢;rw [hcc.2];exact ⟨hb,some ⟨g,0,none⟩,cc,rfl,hi⟩
theorem RU:Try.f18.body=some (Code.seq (Aa Try.f18 0) (Code.seq (Aa Try.f18 1) (Code.seq (Aa Try.f18 2) (Code.seq (Aa Try.f18 3) (Code.seq (Aa Try.f18 4) (Code.seq (Aa Try.f18 5) (Code.seq (Aa Try.f18 6) Code.ret))))))):=by kernel_rfl
theorem MM {M:Machine} {w:World}:D5 Try.prog M 18 #[] w (fun e w'=>e = .returned (.bool true)∧Below w.heap.size w w'):=by
 have hno:Ll (bodyPost Try.prog Try.f18 (fun e w'=>e = .returned (.bool true)∧Below w.heap.size w w')):=KL (fun w h=>by cases h.1);have hb:=Below.refl w.heap.size w;refine H7 Fg Try.func18 RU ?_ (fun w h=>by cases h.1);have Z:Sl (⟨#[]++Array.replicate (Try.f18.ntmps-(#[]:Array Value).size) undef,[]⟩:Act) 88 []:=by rw [Try.ntmps18];exact Sl.AaA
 revert Z;generalize (Act.mk _ _)=a;intro Z;refine CX Fg ?_;refine wpX.of Fg ?_ (by repeat (first | assumption | apply AO | apply Az));refine wr ?_;refine Z.s ?_;clear Z;intro a Z;refine od ?_;refine CX Fg ?_;refine Rj Fg (by repeat (first | assumption | apply AO | apply Az)) rfl ?_;refine BG rfl rfl (fun K hK =>?_);unfold Oper.wp;go_simp;refine (IB).mono ?_;rintro e x ⟨hb2,s13,rfl,hT13⟩;replace hb:=hb.trans (hb2.mono hb.size);clear hb2;refine Z.kX hK (by decide) ?_;clear Z hK;intro a Z;refine BG rfl rfl (fun K hK =>?_);unfold Oper.wp;go_simp;refine (Nh).mono ?_;rintro e x ⟨hb2,b14,rfl,hbw14,hP14⟩;replace hb:=hb.trans (hb2.mono hb.size);replace hT13:=hT13.below hb2;clear hb2;refine Z.kX hK (by decide) ?_;clear Z hK;intro a Z;have e13:=Z.g 13;have e14:=Z.g 14;refine Wi rfl rfl rfl Try.func30 (by kernel_rfl) (by kernel_rfl) (args:=#[.agg (ER exT s13), .slice (some ⟨b14,0,none⟩) 4 4]) (by simp [Act.eval,Array.getD_eq_getD_getElem?,e13,e14]) (Aav hT13 hP14) ?_;clear e13 e14;rintro e x ⟨hb2,g15,rfl,hI15⟩;replace hb:=hb.trans (hb2.mono hb.size);clear hb2 hT13 hP14;refine ⟨_,rfl,?_⟩;refine Z.goX (by decide) ?_;clear Z;intro a Z;refine BG rfl rfl (fun K hK =>?_);have e15:=Z.g 15;unfold Oper.wp;go_simp;clear e15;refine Z.kX hK (by decide) ?_;clear Z hK;intro a Z
 refine BG rfl rfl (fun K hK =>?_);have e12:=Z.g 12;unfold Oper.wp;go_simp;clear e12;refine Z.kX hK (by decide) ?_;clear Z hK;intro a Z;refine BG rfl rfl (fun K hK =>?_);have e12:=Z.g 12;unfold Oper.wp;go_simp;clear e12;refine Z.kX hK (by decide) ?_;clear Z hK;intro a Z;refine BG rfl rfl (fun K hK =>?_);have e16:=Z.g 16;unfold Oper.wp;go_simp;clear e16;refine Z.kX hK (by decide) ?_;clear Z hK;intro a Z;refine BG rfl rfl (fun K hK =>?_);have e17:=Z.g 17;unfold Oper.wp;go_simp;clear e17;refine Z.kX hK (by decide) ?_;clear Z hK;intro a Z;refine JQ ?_;refine wpX.of Fg ?_ (by repeat (first | assumption | apply AO | apply Az));refine wsr ?_;refine og fun K hK =>?_
 unfold Oper.wp;go_simp;refine (IB).mono ?_;rintro e x ⟨hb2,s19,rfl,hT19⟩;replace hb:=hb.trans (hb2.mono hb.size);replace hI15:=hI15.below hb2;clear hb2;refine Z.K hK ?_;clear Z hK;intro a Z;refine og fun K hK =>?_
 unfold Oper.wp;go_simp;refine (Nh).mono ?_;rintro e x ⟨hb2,b20,rfl,hbw20,hP20⟩;replace hb:=hb.trans (hb2.mono hb.size);replace hI15:=hI15.below hb2;replace hT19:=hT19.below hb2;clear hb2;refine Z.K hK ?_;clear Z hK;intro a Z;refine og fun K hK =>?_
 have e19:=Z.g 19;have e20:=Z.g 20;unfold Oper.wp;go_simp;refine (Aau hT19 hP20).mono ?_;rintro e x ⟨hb2,g21,rfl,hI21⟩;replace hb:=hb.trans (hb2.mono hb.size);replace hI15:=hI15.below hb2;replace hT19:=hT19.below hb2;replace hP20:=hP20.below hb2;clear hb2;clear hT19 hP20;clear e19 e20;refine Z.K hK ?_;clear Z hK;intro a Z;(iterate 5 refine Z.s ?_;clear Z;intro a Z);refine od ?_;refine wsr ?_;refine og fun K hK =>?_
 unfold Oper.wp;go_simp;refine (IB).mono ?_;rintro e x ⟨hb2,s25,rfl,hT25⟩;replace hb:=hb.trans (hb2.mono hb.size);replace hI15:=hI15.below hb2;replace hI21:=hI21.below hb2;clear hb2;refine Z.K hK ?_;clear Z hK;intro a Z;refine Z.s ?_;clear Z;intro a Z;refine Af (G:=fun W=>wpOps _ _ _ _ _ W) ?_;obtain ⟨b26,hg⟩:∃ b,b=x.heap.size:=⟨_,rfl⟩;intro x hz K26 hb2;rw [← hg] at Z K26;have hhb26:w.heap.size≤b26:=by rw [hg];exact hb.size
 replace hb:=hb.trans (hb2.mono hb.size);replace hI15:=hI15.below hb2;replace hI21:=hI21.below hb2;replace hT25:=hT25.below hb2;clear hz hg hb2;refine og fun K hK =>?_
 have e25:=Z.g 25;have e26:=Z.g 26;unfold Oper.wp;go_simp;refine (ZO hT25 (CW (l:=[0,1]) K26)).mono ?_;rintro e x ⟨hb2,la27,lc27,rfl,hP27⟩;replace hb:=hb.trans (hb2.mono hb.size);replace hI15:=hI15.below hb2;replace hI21:=hI21.below hb2;replace hT25:=hT25.below hb2;replace K26:=K26.below hb2;clear hb2;clear hT25 K26;clear e25 e26;refine Z.K hK ?_;clear Z hK;intro a Z;(iterate 5 refine Z.s ?_;clear Z;intro a Z);refine od ?_;refine wsr ?_;refine og fun K hK =>?_
 unfold Oper.wp;go_simp;refine (IB).mono ?_;rintro e x ⟨hb2,s31,rfl,hT31⟩;replace hb:=hb.trans (hb2.mono hb.size);replace hI15:=hI15.below hb2;replace hI21:=hI21.below hb2;replace hP27:=hP27.below hb2;clear hb2;refine Z.K hK ?_;clear Z hK;intro a Z;refine og fun K hK =>?_
 have e31:=Z.g 31;unfold Oper.wp;go_simp;refine (ZN hT31).mono ?_;rintro e x ⟨hb2,la32,lc32,rfl,hI32⟩;replace hb:=hb.trans (hb2.mono hb.size);replace hI15:=hI15.below hb2;replace hI21:=hI21.below hb2;replace hP27:=hP27.below hb2;replace hT31:=hT31.below hb2;clear hb2;clear hT31;clear e31;refine Z.K hK ?_;clear Z hK;intro a Z;(iterate 7 refine Z.s ?_;clear Z;intro a Z);refine od ?_;refine wsr ?_;refine og fun K hK =>?_
 unfold Oper.wp;go_simp;refine (IB).mono ?_;rintro e x ⟨hb2,s37,rfl,hT37⟩;replace hb:=hb.trans (hb2.mono hb.size);replace hI15:=hI15.below hb2;replace hI21:=hI21.below hb2;replace hP27:=hP27.below hb2;replace hI32:=hI32.below hb2;clear hb2;refine Z.K hK ?_;clear Z hK;intro a Z;refine Z.s ?_;clear Z;intro a Z;refine Af (G:=fun W=>wpOps _ _ _ _ _ W) ?_;obtain ⟨b38,hg⟩:∃ b,b=x.heap.size:=⟨_,rfl⟩;intro x hz K38 hb2;rw [← hg] at Z K38;have hhb38:w.heap.size≤b38:=by rw [hg];exact hb.size
 replace hb:=hb.trans (hb2.mono hb.size);replace hI15:=hI15.below hb2;replace hI21:=hI21.below hb2;replace hP27:=hP27.below hb2;replace hI32:=hI32.below hb2;replace hT37:=hT37.below hb2;clear hz hg hb2;refine og fun K hK =>?_
 have e37:=Z.g 37;have e38:=Z.g 38;unfold Oper.wp;go_simp;refine (ZM hT37 (CW (l:=[0,1]) K38)).mono ?_;rintro e x ⟨rfl,hb2⟩;replace hb:=hb.trans (hb2.mono hb.size);replace hI15:=hI15.below hb2;replace hI21:=hI21.below hb2;replace hP27:=hP27.below hb2;replace hI32:=hI32.below hb2;replace hT37:=hT37.below hb2;replace K38:=K38.below hb2;clear hb2;clear hT37 K38;clear e37 e38;refine Z.K hK ?_;clear Z hK;intro a Z;(iterate 5 refine Z.s ?_;clear Z;intro a Z);refine od ?_;refine wsr ?_;(iterate 3 refine Z.s ?_;clear Z;intro a Z);(iterate 2 refine Z.t ?_;clear Z;intro a Z);(iterate 2 refine Z.s ?_;clear Z;intro a Z);(iterate 2 refine Z.t ?_;clear Z;intro a Z);(iterate 2 refine Z.s ?_;clear Z;intro a Z);(iterate 2 refine Z.t ?_;clear Z;intro a Z);(iterate 2 refine Z.s ?_;clear Z;intro a Z);(iterate 2 refine Z.t ?_;clear Z;intro a Z);(iterate 2 refine Z.s ?_;clear Z;intro a Z);(iterate 2 refine Z.t ?_;clear Z;intro a Z);(iterate 2 refine Z.s ?_;clear Z;intro a Z);(iterate 2 refine Z.t ?_;clear Z;intro a Z);(iterate 2 refine Z.s ?_;clear Z;intro a Z);(iterate 2 refine Z.t ?_;clear Z;intro a Z);refine Af (G:=fun W=>wpOps _ _ _ _ _ W) ?_;obtain ⟨b70,hg⟩:∃ b,b=x.heap.size:=⟨_,rfl⟩;intro x hz K70 hb2;rw [← hg] at Z K70
 have hhb70:w.heap.size≤b70:=by rw [hg];exact hb.size
 replace hb:=hb.trans (hb2.mono hb.size);replace hI15:=hI15.below hb2;replace hI21:=hI21.below hb2;replace hP27:=hP27.below hb2;replace hI32:=hI32.below hb2;clear hz hg hb2;refine oW (Z.g 68) fun K hK =>?_
 have e69:=Z.g 69;have e70:=Z.g 70;unfold Oper.wp;go_simp;refine (MJ hI15 (CW (l:=[9,5]) K70) rfl rfl (by decide)).mono ?_;rintro e x ⟨rfl,hb2⟩;replace hb:=hb.trans (hb2.mono hb.size);replace hI15:=hI15.below hb2;replace hI21:=hI21.below hb2;replace hP27:=hP27.below hb2;replace hI32:=hI32.below hb2;replace K70:=K70.below hb2;clear hb2;clear e69 e70;refine Z.K hK ?_;clear Z hK;intro a Z;(iterate 2 refine Z.s ?_;clear Z;intro a Z);(iterate 2 refine Z.t ?_;clear Z;intro a Z);refine Af (G:=fun W=>wpOps _ _ _ _ _ W) ?_;obtain ⟨b75,hg⟩:∃ b,b=x.heap.size:=⟨_,rfl⟩;intro x hz K75 hb2;rw [← hg] at Z K75;have hhb75:w.heap.size≤b75:=by rw [hg];exact hb.size
 have h70_75:b70 < b75:=by rw [hg];exact K70.lt
 replace hb:=hb.trans (hb2.mono hb.size);replace hI15:=hI15.below hb2;replace hI21:=hI21.below hb2;replace hP27:=hP27.below hb2;replace hI32:=hI32.below hb2;replace K70:=K70.below hb2;clear hz hg hb2;refine oW (Z.g 73) fun K hK =>?_
 have e74:=Z.g 74;have e75:=Z.g 75;unfold Oper.wp;go_simp;refine (MJ hI21 (CW (l:=[9,5,0,0]) K75) rfl rfl (by decide)).mono ?_;rintro e x ⟨rfl,hb2⟩;replace hb:=hb.trans (hb2.mono hb.size);replace hI15:=hI15.below hb2;replace hI21:=hI21.below hb2;replace hP27:=hP27.below hb2;replace hI32:=hI32.below hb2;replace K70:=K70.below hb2;replace K75:=K75.below hb2;clear hb2;clear e74 e75;refine Z.K hK ?_;clear Z hK;intro a Z;(iterate 2 refine Z.s ?_;clear Z;intro a Z);refine Z.t ?_;clear Z;intro a Z;refine oW (Z.g 78) fun K hK =>?_
 unfold Oper.wp;go_simp;refine (Nh).mono ?_;rintro e x ⟨hb2,b80,rfl,hbw80,hP80⟩;replace hb:=hb.trans (hb2.mono hb.size);replace hI15:=hI15.below hb2;replace hI21:=hI21.below hb2;replace hP27:=hP27.below hb2;replace hI32:=hI32.below hb2;replace K70:=K70.below hb2;replace K75:=K75.below hb2;clear hb2;refine Z.K hK ?_;clear Z hK;intro a Z;refine oW (Z.g 78) fun K hK =>?_
 have e79:=Z.g 79;have e80:=Z.g 80;unfold Oper.wp;go_simp;refine (VR hP27 hP80 rfl rfl (by decide)).mono ?_;rintro e x ⟨rfl,hb2⟩;replace hb:=hb.trans (hb2.mono hb.size);replace hI15:=hI15.below hb2;replace hI21:=hI21.below hb2;replace hP27:=hP27.below hb2;replace hI32:=hI32.below hb2;replace K70:=K70.below hb2;replace K75:=K75.below hb2;replace hP80:=hP80.below hb2;clear hb2;clear e79 e80;refine Z.K hK ?_;clear Z hK;intro a Z;(iterate 2 refine Z.s ?_;clear Z;intro a Z);(iterate 2 refine Z.t ?_;clear Z;intro a Z);refine Af (G:=fun W=>wpOps _ _ _ _ _ W) ?_;obtain ⟨b85,hg⟩:∃ b,b=x.heap.size:=⟨_,rfl⟩;intro x hz K85 hb2;rw [← hg] at Z K85;have hhb85:w.heap.size≤b85:=by rw [hg];exact hb.size
 have h75_85:b75 < b85:=by rw [hg];exact K75.lt
 replace hb:=hb.trans (hb2.mono hb.size);replace hI15:=hI15.below hb2;replace hI21:=hI21.below hb2;replace hP27:=hP27.below hb2;replace hI32:=hI32.below hb2;replace K70:=K70.below hb2;replace K75:=K75.below hb2;replace hP80:=hP80.below hb2;clear hz hg hb2;refine oW (Z.g 83) fun K hK =>?_
 have e84:=Z.g 84;have e85:=Z.g 85;unfold Oper.wp;go_simp;refine (MJ hI32 (CW (l:=[0,1]) K85) rfl rfl (by decide)).mono ?_;rintro e x ⟨rfl,hb2⟩;replace hb:=hb.trans (hb2.mono hb.size);replace hI15:=hI15.below hb2;replace hI21:=hI21.below hb2;replace hP27:=hP27.below hb2;replace hI32:=hI32.below hb2;replace K70:=K70.below hb2;replace K75:=K75.below hb2;replace hP80:=hP80.below hb2;replace K85:=K85.below hb2;clear hb2;clear e84 e85;refine Z.K hK ?_;clear Z hK;intro a Z;(iterate 2 refine Z.s ?_;clear Z;intro a Z);refine od ?_;refine wp_ret ?_
 try simp only [Exit.then,Exit.inBlock]
 refine bodyPost_ret (v := .bool true) ?_ Z.defers ⟨rfl,hb⟩;simp [results,Try.results18,Z.get 0 _ rfl]
end
section
open Go Go.Conc Go.RowKit
section
variable {P:Program} {M:Machine} {ops:Array Oper} {Q:Exit→Act→World→Prop} {C:World→Prop} {lb eff:Nat→Bool}
end
section
variable {P:Program} {M:Machine} {ops:Array Oper} {C:World→Prop} {Q:Exit→Act→World→Prop} {lb eff:Nat→Bool} {i:Nat} {rest:List Nat} {o:Oper} {a:Act} {w:World} {n d:Nat} {m:List (Nat×Value)} {v:Value}
end
section
variable {P:Program} {ops:Array Oper} {C:World→Prop} {eff:Nat→Bool} {Qt:Act→World→Prop} {n0:Nat}
end
section
variable {P:Program} {ops:Array Oper} {C:World→Prop} {Q:Exit→Act→World→Prop} {lb eff:Nat→Bool} {i:Nat} {rest:List Nat} {o:Oper} {a:Act} {w:World} {n d:Nat} {m:List (Nat×Value)}
end
end
section
open Go Go.Conc Go.RowKit
section
variable {P:Program} {M:Machine} {ops:Array Oper} {C:World→Prop} {Q:Exit→Act→World→Prop} {lb eff:Nat→Bool} {i:Nat} {rest:List Nat} {o:Oper} {a:Act} {w:World} {n d:Nat} {m:List (Nat×Value)} {v:Value}
theorem TA {k t:Nat} {b:Bool} {ok:Oper} {fc:FuncId} {F:Func} {ars:Array Operand} {ats:Array TypeId} (ho:ops[i]? = some o) (hg:o.guard=some (k,b)) (hk:ops[k]? = some ok) (ht:ok.dst=some t) (hv:a.tmps[t]? = some (.bool b)) (hop:o.op = .call { callee := .value (.func fc),args:=ars,argTypes:=ats })
  (hF:P.funcs[fc]? = some F) (hname:(F.name == "runtime.NumGoroutine")=false) (hbody:F.body.isNone=false) {args:Array Value} (ha:ars.map a.eval=args) {R:Ending→World→Prop} (hc:D5 P M fc args w R)
  (h:∀ e w'',R e w''→∃ v,e = .returned v∧Ky P M ops Q rest (a.put o.dst v) w''):Ky P M ops Q (i :: rest) a w:=by
 have hr:=Iw (P:=P) (w:=w) (a:=a) hop rfl hF hname hbody;rw [Ky,ho];simp only [Region.wanted,hg,yielded,hk,Option.bind_some,ht,hv,beq_self_eq_true,if_true];refine .inl ⟨fc,args,w,by rw [hr,← ha];simp,hc.mono fun e w'' h1 =>?_⟩;obtain ⟨v,he,h2⟩:=h e w'' h1;subst he;exact h2
end
end
section
open Go.RowKit
end
section
open Go.RowKit
open Go.ChangeMaps (setBlock)
structure Ext (m:Nat) (w w':World):Prop where
 os:w'.os=w.os
 tape:w'.tape=w.tape
 output:w'.output=w.output
 size:w.heap.size≤w'.heap.size
 block:∀ k,k < w.heap.size→k≠m→w'.heap[k]? = w.heap[k]?
theorem Ext.refl (m:Nat) (w:World):Ext m w w:=⟨rfl,rfl,rfl,Nat.le_refl _,fun _ _ _=>rfl⟩
theorem Ext.trans {m:Nat} {a b c:World} (h:Ext m a b) (k:Ext m b c):Ext m a c :=
 ⟨k.os.trans h.os,k.tape.trans h.tape,k.output.trans h.output,Nat.le_trans h.size k.size,fun i hi hne=>(k.block i (Nat.lt_of_lt_of_le hi h.size) hne).trans (h.block i hi hne)⟩
theorem Ext.of_below {m:Nat} {w w':World} (h:Below w.heap.size w w'):Ext m w w':=⟨h.os,h.tape,h.output,h.size,fun k hk _=>h.block k hk⟩
theorem Ext.below {m B:Nat} {w0 w w':World} (h:Ext m w w') (hb:Below B w0 w) (hB:B≤m) (hBw:B≤w.heap.size):Below B w0 w' :=
 hb.trans ⟨h.os,h.tape,h.output,h.size,fun k hk=>h.block k (by omega) (by omega)⟩
end
section
open Go.RowKit
open Go.ChangeMaps (setBlock)
section
variable {r:AQ} {f:Flock} {shut day:Int} {q:Int×Int} {k:Nat} {s:Strip} {eo:Int×Bool}
end
end
section
open Go.RowKit
section
variable {r:AQ} {f:Flock} {shut d left b0:Int} {V:Int×Int→Int} {p q:Int×Int}
end
end
section
open Go.RowKit
open Go.ChangeMaps (setBlock)
end
section
open Go.RowKit
def bd (f:Flock) (last d l:Int):Int:=(last+1-d)*f.pace-l
end
section
open Go.RowKit
end
section
open Go.RowKit
def Strip.cells (s:Strip):List Value:=[.int .i64 s.A, .int .i64 s.B, .int .i64 s.L, .int .i64 s.W, .int .i64 s.K, .int .i64 s.X, .int .i64 s.Y]
def XR (w:World) (B:Nat) (v:Value) (l:List Strip):Prop:=w.ownsRow B 96 7 v l.length (l.flatMap Strip.cells)
end
section
open Go.RowKit
def wide (s:Strip):Strip:={ s with W:=max s.W 90 }
end
end Go.Proofs.Ytgdobbcjkiapkaa
