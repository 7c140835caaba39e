import Derived.Test.YtgdobbcjkiapkaaCh04
import Derived.Test.YtgdobbcjkiapkaaCh22
namespace Go.Proofs.Ytgdobbcjkiapkaa
set_option maxRecDepth 100000
set_option maxHeartbeats 4000000
set_option linter.unusedSimpArgs false
set_option linter.unusedVariables false
section
open Go.RowKit
instance:Inhabited Strip:=⟨⟨0,0,0,0,0,0,0⟩⟩
def Zq (t:Ac) (k:Int) (i o:Nat):List AV:=if (t.Ai.getD i default).strip=k∧0 < (t.Ad.getD o default).heads then [⟨i,o,(t.Ad.getD o default).heads⟩] else []
def JI (t:Ac) (k:Int) (i m:Nat):List AV:=(List.range m).flatMap (Zq t k i)
def Dz (t:Ac) (k:Int) (j:Nat):List AV:=(List.range j).flatMap fun i=>JI t k i t.Ad.length
theorem EQ (t:Ac) (k:Int) (i m:Nat):JI t k i (m+1)=JI t k i m++Zq t k i m:=by simp [JI,List.range_succ]
theorem Jo (t:Ac) (k:Int) (j:Nat):Dz t k (j+1)=Dz t k j++JI t k j t.Ad.length:=by simp [Dz,List.range_succ]
theorem Yy (t:Ac) (k:Int) (i o:Nat):(Zq t k i o).length≤1:=by unfold Zq;split <;> simp
theorem Mc (t:Ac) (k:Int) (i:Nat):∀ m,(JI t k i m).length≤m
 | 0=>by simp [JI]
 | m+1=>by have:=Mc t k i m;have:=Yy t k i m;rw [EQ,List.length_append];omega
theorem IZ (t:Ac) (k:Int):∀ j,(Dz t k j).length≤j*t.Ad.length
 | 0=>by simp [Dz]
 | j+1=>by have:=IZ t k j;have:=Mc t k j t.Ad.length;rw [Jo,List.length_append,Nat.add_mul];omega
def CU (t:Ac):List Int→List Int→Int→List AV→List AV×Int
 | _,[],_,acc=>(acc,0)
 | pre,k :: rest,at_,acc =>
  if !(btw k 0 ((t.roads.strips.length:Int)-1)) then ([],3)
  else if k∈pre then ([],4)
  else if Df (t.roads.strips.getD k.toNat default) at_ < 0 then ([],12)
  else CU t (pre++[k]) rest (Df (t.roads.strips.getD k.toNat default) at_) (acc++Dz t k t.Ai.length)
def BK (t:Ac) (from_:Int) (way:List Int):List AV×Int :=
 if Ak t≠0 then ([],Ak t)
 else if !(btw from_ 0 (t.roads.stages-1)) then ([],3)
 else if 8 < way.length then ([],6)
 else CU t [] way from_ []
section
variable {t:Ac} {way:List Int} {i:Nat} {at_:Int} {acc:List AV}
theorem ag3 (h:i < way.length) (h1:btw way[i] 0 ((t.roads.strips.length:Int)-1)=false):CU t (way.take i) (way.drop i) at_ acc=([],3):=by
 rw [List.drop_eq_getElem_cons h,CU,if_pos (by rw [h1];rfl)]
theorem ag4 (h:i < way.length) (h1:btw way[i] 0 ((t.roads.strips.length:Int)-1)=true) (h2:way[i]∈way.take i):CU t (way.take i) (way.drop i) at_ acc=([],4):=by
 rw [List.drop_eq_getElem_cons h,CU,if_neg (by simp [h1]),if_pos h2]
theorem AbL (h:i < way.length) (h1:btw way[i] 0 ((t.roads.strips.length:Int)-1)=true) (h2:¬ way[i]∈way.take i) (h3:Df (t.roads.strips.getD way[i].toNat default) at_ < 0):CU t (way.take i) (way.drop i) at_ acc=([],12):=by
 rw [List.drop_eq_getElem_cons h,CU,if_neg (by simp [h1]),if_neg h2,if_pos h3]
theorem agN (h:i < way.length) (h1:btw way[i] 0 ((t.roads.strips.length:Int)-1)=true) (h2:¬ way[i]∈way.take i) (h3:¬ Df (t.roads.strips.getD way[i].toNat default) at_ < 0) :
  CU t (way.take i) (way.drop i) at_ acc=CU t (way.take (i+1)) (way.drop (i+1)) (Df (t.roads.strips.getD way[i].toNat default) at_) (acc++Dz t way[i] t.Ai.length):=by
 rw [List.drop_eq_getElem_cons h]
 conv=>lhs;rw [CU,if_neg (by simp [h1]),if_neg h2,if_neg h3]
 rw [List.take_succ_eq_append_getElem h]
end
theorem FC {t:Ac} {from_:Int} {way:List Int}:(Ak t≠0→BK t from_ way=([],Ak t))∧(Ak t=0→btw from_ 0 (t.roads.stages-1)=false→BK t from_ way=([],3))∧(Ak t=0→btw from_ 0 (t.roads.stages-1)=true→8 < way.length→BK t from_ way=([],6))∧(Ak t=0→btw from_ 0 (t.roads.stages-1)=true→¬ 8 < way.length→BK t from_ way=CU t [] way from_ []):=by
 unfold BK;refine ⟨fun h=>if_pos h,fun h h1 =>?_,fun h h1 h2 =>?_,fun h h1 h2 =>?_⟩
 ·rw [if_neg (by simp [h]),if_pos (by simp [h1])]
 ·rw [if_neg (by simp [h]),if_neg (by simp [h1]),if_pos h2]
 ·rw [if_neg (by simp [h]),if_neg (by simp [h1]),if_neg h2]
theorem WQ {t:Ac} {k:Int} {i o:Nat} (h:¬ ((t.Ai.getD i default).strip=k∧0 < (t.Ad.getD o default).heads)):Zq t k i o=[]:=if_neg h
theorem Yx {t:Ac} {k:Int} {i o:Nat} (h:(t.Ai.getD i default).strip=k∧0 < (t.Ad.getD o default).heads):Zq t k i o=[⟨i,o,(t.Ad.getD o default).heads⟩]:=if_pos h
theorem EH.at {w:World} {a:Option Addr} {l:List Strip} (h:EH w a l) {i:Nat} (hi:i < l.length):∃ b o,a=some ⟨b,o,none⟩∧ET w b (o+i*7) l[i]:=by
 rcases h with rfl | ⟨b,o,ha,h⟩
 ·simp at hi
 ·exact ⟨b,o,ha,h i hi⟩
theorem BC {r:BU} (h:BN r=0):1≤r.stages∧r.stages≤6∧r.strips.length≤8∧1≤r.days∧r.days≤10:=by
 unfold BN at h
 split at h
 ·exact absurd h (by decide)
 ·split at h
  ·exact absurd h (by decide)
  ·rename_i h1 h2
   simp only [Bool.or_eq_true,Bool.not_eq_true',not_or,Bool.not_eq_false] at h1;have a:=Aj.1 h1.1;have b:=Aj.1 h1.2
   omega
theorem TI.grow {w x x2:World} {bt:Nat} {t:Ac} {s:DF} (h:TI w x bt t s) (ht:BM w t s) (hb:Below (bt+1) x x2):TI w x2 bt t s:=by
 have h1:Below w.heap.size w x2:=h.below.trans (hb.mono (by have:=h.lb;omega));exact ⟨h1,ht.below h1,(hb.block bt (by omega)).trans h.kb,h.lb⟩
def Rl (w:World) (t:Ac) (from_:Int) (way:List Int) (e:Ending) (w':World):Prop :=
 Below w.heap.size w w'∧∃ v,e = .returned (.tuple #[v, .int .i64 (BK t from_ way).2])∧Fh w' w.heap.size v (BK t from_ way).1∧((BK t from_ way).1=[]→v = .slice none 0 0)
theorem RU:Try.f65.body=some (Code.seq (Aa Try.f65 0) (Code.seq (Code.seq (Aa Try.f65 1) (Code.seq (Aa Try.f65 2) (Code.cond (Operand.tmp 19) (Code.seq (Aa Try.f65 3) Code.ret) Code.skip))) (Code.seq (Code.seq (Aa Try.f65 4) (Code.cond (Operand.tmp 27) (Code.seq (Aa Try.f65 5) Code.ret) Code.skip)) (Code.seq (Code.seq (Aa Try.f65 6) (Code.cond (Operand.tmp 30) (Code.seq (Aa Try.f65 7) Code.ret) Code.skip)) (Code.seq (Aa Try.f65 8) (Code.seq (Code.seq (Aa Try.f65 9) (Code.block 0 (Code.loop (Code.seq (Aa Try.f65 10) (Code.seq (Code.cond (Operand.tmp 34) Code.skip (Code.exit 0)) (Code.seq (Code.block 1 (Code.seq (Aa Try.f65 11) (Code.seq (Code.seq (Aa Try.f65 12) (Code.cond (Operand.tmp 45) (Code.seq (Aa Try.f65 13) Code.ret) Code.skip)) (Code.seq (Code.seq (Aa Try.f65 14) (Code.cond (Operand.tmp 50) (Code.seq (Aa Try.f65 15) Code.ret) Code.skip)) (Code.seq (Code.seq (Aa Try.f65 16) (Code.seq (Aa Try.f65 17) (Code.cond (Operand.tmp 60) (Code.seq (Aa Try.f65 18) Code.ret) Code.skip))) (Code.seq (Aa Try.f65 19) (Code.block 2 (Code.loop (Code.seq (Aa Try.f65 20) (Code.seq (Code.cond (Operand.tmp 65) Code.skip (Code.exit 2)) (Code.seq (Code.block 3 (Code.seq (Aa Try.f65 21) (Code.seq (Aa Try.f65 22) (Code.block 4 (Code.loop (Code.seq (Aa Try.f65 23) (Code.seq (Code.cond (Operand.tmp 73) Code.skip (Code.exit 4)) (Code.seq (Code.block 5 (Code.seq (Aa Try.f65 24) (Code.seq (Aa Try.f65 25) (Code.cond (Operand.tmp 85) (Aa Try.f65 26) Code.skip)))) (Aa Try.f65 27))))))))) (Aa Try.f65 28)))))))))))) (Aa Try.f65 29))))))) (Code.seq (Aa Try.f65 30) Code.ret))))))):=by kernel_rfl
theorem J4 {t:Ac} {s:DF} {w:World} {from_:Int} {way:List Int} {wa:Option Addr} {wc:Nat} (ht:BM w t s) (hw:Aq w wa way) (hwc:way.length≤wc) (hwl:way.length≤1000000):Calls Try.prog 65 #[.agg (Em t s), .int .i64 from_, .slice wa way.length wc] w (Rl w t from_ way):=by
 refine NZ Try.func65 RU Try.ntmps65 ?_;intro a Z;refine wsr ?_;refine Z.s ?_;clear Z;intro a Z;refine Ae (G:=fun W=>wpOps _ _ _ _ _ W) ?_;intro x hz X hb;have hI:=TI.made (Below.refl _ _) ht X hb;obtain ⟨bt,hbt⟩:∃ b,b=w.heap.size:=⟨_,rfl⟩;rw [← hbt] at Z hI;clear hz X hb hbt;(iterate 2 refine Z.s ?_;clear Z;intro a Z);refine od ?_;refine wp_seq ?_;refine wsr ?_;refine og fun K hK =>?_
 have e3:=Z.g 3;have c0:=hI.c0;have c1:=hI.c1;have c2:=hI.c2;have c3:=hI.c3;have c4:=hI.c4;have c5:=hI.c5;unfold Oper.wp;go_simp;clear e3;refine Z.K hK ?_;clear Z hK;intro a Z;refine og fun K hK =>?_
 have e16:=Z.g 16;unfold Oper.wp;go_simp;refine (J8 hI.tar).mono ?_;rintro e x ⟨rfl,hb⟩;replace hI:=hI.keep hb;clear hb;clear e16;refine Z.K hK ?_;clear Z hK;intro a Z;refine Z.s ?_;clear Z;intro a Z;refine od ?_;refine wsr ?_;refine Z.s ?_;clear Z;intro a Z
 by_cases h1:Ak t=0
 ·have hne:=Cf h1;refine Z.s ?_;clear Z;intro a Z;refine od ?_;refine wp_cond_false (Z.ev 19 rfl) ?_;refine wp_skip ?_;refine wp_seq ?_;refine wsr ?_;(iterate 3 refine Z.s ?_;clear Z;intro a Z);refine og fun K hK =>?_
  have e23:=Z.g 23;have c1:=hI.c1;unfold Oper.wp;go_simp;clear e23;refine Z.K hK ?_;clear Z hK;intro a Z;refine og fun K hK =>?_
  have e24:=Z.g 24;have hww:IntKind.i64.wrap (t.roads.stages-1)=t.roads.stages-1:=IntWalk.i64_in _ (by have:=BC (Au h1).1;omega);unfold Oper.wp;go_simp;clear e24;refine Z.K hK ?_;clear Z hK;intro a Z;refine og fun K hK =>?_
  have e21:=Z.g 21;have e25:=Z.g 25;unfold Oper.wp;go_simp;refine (Bl _ _ _ _).mono ?_;rintro e x ⟨rfl,rfl⟩;clear e21 e25;refine Z.K hK ?_;clear Z hK;intro a Z;rcases Bool.eq_false_or_eq_true (btw from_ 0 (t.roads.stages-1)) with h2 | h2
  ·rw [h2] at Z;refine Z.s ?_;clear Z;intro a Z;refine od ?_;refine wp_cond_false (Z.ev 27 rfl) ?_;refine wp_skip ?_;refine wp_seq ?_;refine wsr ?_;(iterate 2 refine Z.s ?_;clear Z;intro a Z)
   by_cases h3:8 < way.length
   ·have q1:(8:Int) < (way.length:Int):=by omega
    have hE:=Lib.hid (FC.2.2.1 h1 h2 h3);refine Z.s ?_;clear Z;intro a Z;refine od ?_;refine wp_cond_true (Z.ev 30 rfl) ?_;refine wsr ?_;(iterate 2 refine Z.s ?_;clear Z;intro a Z);refine od ?_;refine wp_ret ?_
    try simp only [Exit.then,Exit.inBlock]
    refine bodyPost_ret (v := .tuple #[.slice none 0 0, .int .i64 (BK t from_ way).2]) ?_ Z.defers ⟨hI.below,_,rfl,by rw [hE.out];exact AC.nil,fun _=>rfl⟩;rw [hE.out];simp [results,Try.results65,Z.get 6 _ rfl,Z.get 7 _ rfl]
   ·have q1:¬ (8:Int) < (way.length:Int):=by omega
    have HE0:=Lib.hid (FC.2.2.2 h1 h2 h3);refine Z.s ?_;clear Z;intro a Z;refine od ?_;refine wp_cond_false (Z.ev 30 rfl) ?_;refine wp_skip ?_;refine wsr ?_;refine Z.s ?_;clear Z;intro a Z;refine od ?_;refine wp_seq ?_;refine wsr ?_;(iterate 3 refine Z.s ?_;clear Z;intro a Z);refine od ?_;refine wp_block ?_;have hl4:=(Au h1).2.2.2.2.1;have hl6:=(Au h1).2.2.2.2.2.2.2.1;refine wp_loop_ghost (fun n p x=>∃ (i:Nat) (at_:Int) (acc:List AV) (va:Value),i+n=way.length∧acc.length≤24*i∧CU t (way.take i) (way.drop i) at_ acc=BK t from_ way∧Sl p 98 [(1, .int .i64 at_),(2, .slice wa way.length wc),(3, .pointer (some ⟨bt,0,none⟩)),(9,va),(31, .slice wa way.length wc),(32, .int .i64 (way.length:Int)),(33, .int .i64 (i:Int))]∧TI w x bt t s∧Fh x (bt+1) va acc∧(acc=[]→va = .slice none 0 0)) way.length ⟨0,from_,[],_,by omega,by simp,HE0.out.symm,Z.sb,hI,AC.nil,fun _=>rfl⟩ ?_;clear Z hI;rintro n a x ⟨i,at_,acc,va,hin,hal,hE,Z,hI,hO,hnil⟩;have HE:=Lib.hid hE;clear hE;have HR:=Lib.hid (fun r (h:CU t (way.take i) (way.drop i) at_ acc=r)=>HE.out.symm.trans h);have HN:=Lib.hid hnil;clear hnil;refine wsr ?_
    by_cases hlt:i < way.length
    ·have q1:(i:Int) < (way.length:Int):=by omega
     obtain ⟨wb,wo,hwa,p0⟩:=(hw.below hI.below).at hlt;rw [hwa] at Z;refine Z.s ?_;clear Z;intro a Z;refine od ?_;refine wp_seq ?_;refine wp_cond_true (Z.ev 34 rfl) ?_;refine wp_skip ?_;refine wp_seq ?_;refine wp_block ?_;refine wsr ?_;(iterate 5 refine Z.s ?_;clear Z;intro a Z);refine od ?_;refine wp_seq ?_;refine wsr ?_;(iterate 3 refine Z.s ?_;clear Z;intro a Z);refine og fun K hK =>?_
     have e40:=Z.g 40;have c2:=hI.c2;unfold Oper.wp;go_simp;clear e40;refine Z.K hK ?_;clear Z hK;intro a Z;refine Z.s ?_;clear Z;intro a Z;refine og fun K hK =>?_
     have e42:=Z.g 42;have hww:IntKind.i64.wrap ((t.roads.strips.length:Int)-1)=(t.roads.strips.length:Int)-1:=IntWalk.i64_in _ (by have:=hI.tar.ls;unfold maxLen at this;omega);unfold Oper.wp;go_simp;clear e42;refine Z.K hK ?_;clear Z hK;intro a Z;refine og fun K hK =>?_
     have e38:=Z.g 38;have e43:=Z.g 43;unfold Oper.wp;go_simp;refine (Bl _ _ _ _).mono ?_;rintro e x ⟨rfl,rfl⟩;clear e38 e43;refine Z.K hK ?_;clear Z hK;intro a Z;rcases Bool.eq_false_or_eq_true (btw way[i] 0 ((t.roads.strips.length:Int)-1)) with h4 | h4
     ·rw [h4] at Z;refine Z.s ?_;clear Z;intro a Z;refine od ?_;refine wp_cond_false (Z.ev 45 rfl) ?_;refine wp_skip ?_;refine wp_seq ?_;refine wsr ?_;(iterate 2 refine Z.s ?_;clear Z;intro a Z);refine og fun K hK =>?_
      have e46:=Z.g 46;have e47:=Z.g 47;have hqk:(i:Int)≤(wc:Int):=by omega
      have hk0:(0:Int)≤(i:Int):=by omega
      unfold Oper.wp;go_simp;clear e46 e47;refine Z.K hK ?_;clear Z hK;intro a Z;refine Z.s ?_;clear Z;intro a Z;refine og fun K hK =>?_
      have e48:=Z.g 48;have e49:=Z.g 49;unfold Oper.wp;go_simp;have hta:=((hwa ▸ hw).below hI.below).take i;have htl:(way.take i).length=i:=by rw [List.length_take];omega
      have hcon:=Ls (cap:=wc) (x:=way[i]) hta (by omega);rw [htl] at hcon;refine hcon.mono ?_;rintro e x ⟨rfl,rfl⟩;clear hcon hta htl;clear e48 e49;refine Z.K hK ?_;clear Z hK;intro a Z
      by_cases h5:way[i]∈way.take i
      ·rw [decide_eq_true h5] at Z;have hE:=Lib.hid (HR.out _ (ag4 hlt h4 h5));refine od ?_;refine wp_cond_true (Z.ev 50 rfl) ?_;refine wsr ?_;(iterate 2 refine Z.s ?_;clear Z;intro a Z);refine od ?_;refine wp_ret ?_
       try simp only [Exit.then,Exit.inBlock]
       refine bodyPost_ret (v := .tuple #[.slice none 0 0, .int .i64 (BK t from_ way).2]) ?_ Z.defers ⟨hI.below,_,rfl,by rw [hE.out];exact AC.nil,fun _=>rfl⟩;rw [hE.out];simp [results,Try.results65,Z.get 6 _ rfl,Z.get 7 _ rfl]
      ·rw [decide_eq_false h5] at Z;have hk2:(way[i].toNat:Int)=way[i]∧0≤way[i]∧way[i] < (t.roads.strips.length:Int):=by have:=Aj.1 h4;omega
       have hkn:way[i].toNat < t.roads.strips.length:=by omega
       obtain ⟨sb,so,hsa,hst⟩:=hI.tar.strips.at hkn;rw [← getD_at hkn] at hst;obtain ⟨sx,hsx⟩:∃ z,z=t.roads.strips.getD way[i].toNat default:=⟨_,rfl⟩;rw [← hsx] at hst;have HX:=Lib.hid hsx;clear hsx;refine od ?_;refine wp_cond_false (Z.ev 50 rfl) ?_;refine wp_skip ?_;refine wp_seq ?_;refine wsr ?_;(iterate 2 refine Z.s ?_;clear Z;intro a Z);refine og fun K hK =>?_
       have e52:=Z.g 52;have c2:=hI.c2;rw [hsa] at c2;unfold Oper.wp;go_simp;clear e52;refine Z.K hK ?_;clear Z hK;intro a Z;refine Z.s ?_;clear Z;intro a Z;refine og fun K hK =>?_
       have e53:=Z.g 53;have e54:=Z.g 54;have q4:=hk2.2.1;have q5:=hk2.2.2;unfold Oper.wp;go_simp;clear e53 e54;refine Z.K hK ?_;clear Z hK;intro a Z;refine og fun K hK =>?_
       have e55:=Z.g 55;obtain ⟨s0,s1,s2,s3,s4,s5,s6⟩:=hst;unfold Oper.wp;go_simp;clear e55;refine Z.K hK ?_;clear Z hK;intro a Z;refine Z.s ?_;clear Z;intro a Z;refine og fun K hK =>?_
       have e56:=Z.g 56;have e57:=Z.g 57;unfold Oper.wp;go_simp;refine (Ue sx at_).mono ?_;rintro e x ⟨rfl,hb⟩;replace hI:=hI.keep hb;replace hO:=hO.below hb;clear hb;clear e56 e57;refine Z.K hK ?_;clear Z hK;intro a Z;refine Z.s ?_;clear Z;intro a Z;refine od ?_;refine wsr ?_;refine Z.s ?_;clear Z;intro a Z
       by_cases h6:Df sx at_ < 0
       ·have hE:=Lib.hid (HR.out _ (AbL hlt h4 h5 (by rw [← HX.out];exact h6)));refine Z.s ?_;clear Z;intro a Z;refine od ?_;refine wp_cond_true (Z.ev 60 rfl) ?_;refine wsr ?_;(iterate 2 refine Z.s ?_;clear Z;intro a Z);refine od ?_;refine wp_ret ?_
        try simp only [Exit.then,Exit.inBlock]
        refine bodyPost_ret (v := .tuple #[.slice none 0 0, .int .i64 (BK t from_ way).2]) ?_ Z.defers ⟨hI.below,_,rfl,by rw [hE.out];exact AC.nil,fun _=>rfl⟩;rw [hE.out];simp [results,Try.results65,Z.get 6 _ rfl,Z.get 7 _ rfl]
       ·have H6:=Lib.hid h6;have h6b:¬ Df sx at_ < 0:=h6;refine Z.s ?_;clear Z;intro a Z;refine od ?_;refine wp_cond_false (Z.ev 60 rfl) ?_;refine wp_skip ?_;refine wsr ?_;refine Z.s ?_;clear Z;intro a Z;refine og fun K hK =>?_
        have e61:=Z.g 61;have c5:=hI.c5;unfold Oper.wp;go_simp;clear e61;refine Z.K hK ?_;clear Z hK;intro a Z;(iterate 2 refine Z.s ?_;clear Z;intro a Z);refine od ?_;refine wp_block ?_;have hnil:acc++Dz t way[i] 0=[]→va = .slice none 0 0:=fun h=>HN.out (by simpa [Dz] using h)
        replace hO:Fh x (bt+1) va (acc++Dz t way[i] 0):=by simpa [Dz] using hO
        refine wp_loop_ghost (fun n2 p x=>∃ (j:Nat) (va:Value),j+n2=t.Ai.length∧Sl p 98 [(1, .int .i64 (Df sx at_)),(2, .slice (some ⟨wb,wo,none⟩) way.length wc),(3, .pointer (some ⟨bt,0,none⟩)),(9,va),(31, .slice (some ⟨wb,wo,none⟩) way.length wc),(32, .int .i64 (way.length:Int)),(33, .int .i64 (i:Int)),(11, .int .i64 way[i]),(62, .slice s.ta t.Ai.length s.tc),(63, .int .i64 (t.Ai.length:Int)),(64, .int .i64 (j:Int))]∧TI w x bt t s∧Fh x (bt+1) va (acc++Dz t way[i] j)∧(acc++Dz t way[i] j=[]→va = .slice none 0 0)) t.Ai.length ⟨0,va,by omega,Z.sb,hI,hO,hnil⟩ ?_;clear Z hI hO HN hnil;rintro n2 a x ⟨j,va,hjn,Z,hI,hO,hnil⟩;have HN:=Lib.hid hnil;clear hnil;refine wsr ?_
        by_cases hj:j < t.Ai.length
        ·have q2:(j:Int) < (t.Ai.length:Int):=by omega
         obtain ⟨tb,to_,hta,p0,p1,p2⟩:=hI.tar.Ai.at hj;rw [hta] at Z;simp only [P8] at p0 p1 p2;refine Z.s ?_;clear Z;intro a Z;refine od ?_;refine wp_seq ?_;refine wp_cond_true (Z.ev 65 rfl) ?_;refine wp_skip ?_;refine wp_seq ?_;refine wp_block ?_;refine wsr ?_;(iterate 3 refine Z.s ?_;clear Z;intro a Z);refine og fun K hK =>?_
         obtain ⟨g,hg⟩:∃ b,b=x.heap.size:=⟨_,rfl⟩;unfold Oper.wp;go_simp;refine Z.K hK ?_;clear Z hK;intro a Z;refine Z.s ?_;clear Z;intro a Z;refine og fun K hK =>?_
         have e13:=Z.g 13;have e68:=Z.g 68;unfold Oper.wp;go_simp;clear e13 e68;refine hK _ _ ?_;clear hK;refine Ae (G:=fun W=>wpOps _ _ _ _ _ W) ?_;intro x hz G hb;replace hI:=hI.keep hb;have hne:∀ k,va.ownBlock=some k→k≠g:=fun k hk=>by have:=(AC.Ah hO hk).2;omega
         replace hO:=hO.below hb;rw [← hg] at Z G;clear hz hb p0 p1 p2 hg;refine od ?_;refine wsr ?_;refine Z.s ?_;clear Z;intro a Z;refine og fun K hK =>?_
         have e69:=Z.g 69;have c4:=hI.c4;unfold Oper.wp;go_simp;clear e69;refine Z.K hK ?_;clear Z hK;intro a Z;(iterate 2 refine Z.s ?_;clear Z;intro a Z);refine od ?_;refine wp_block ?_;have hnil:acc++Dz t way[i] j++JI t way[i] j 0=[]→va = .slice none 0 0:=fun h=>HN.out (by simpa [JI] using h)
         replace hO:Fh x (bt+1) va (acc++Dz t way[i] j++JI t way[i] j 0):=by simpa [JI] using hO
         refine wp_loop_ghost (fun n3 p x=>∃ (m:Nat) (va:Value),m+n3=t.Ad.length∧Sl p 98 [(1, .int .i64 (Df sx at_)),(2, .slice (some ⟨wb,wo,none⟩) way.length wc),(3, .pointer (some ⟨bt,0,none⟩)),(9,va),(31, .slice (some ⟨wb,wo,none⟩) way.length wc),(32, .int .i64 (way.length:Int)),(33, .int .i64 (i:Int)),(11, .int .i64 way[i]),(62, .slice (some ⟨tb,to_,none⟩) t.Ai.length s.tc),(63, .int .i64 (t.Ai.length:Int)),(64, .int .i64 (j:Int)),(12, .int .i64 (j:Int)),(13, .pointer (some ⟨g,0,none⟩)),(70, .slice s.pa t.Ad.length s.pc),(71, .int .i64 (t.Ad.length:Int)),(72, .int .i64 (m:Int))]∧TI w x bt t s∧Fh x (bt+1) va (acc++Dz t way[i] j++JI t way[i] j m)∧(acc++Dz t way[i] j++JI t way[i] j m=[]→va = .slice none 0 0)∧Rw x g #[.int .i64 t.Ai[j].strip, .int .i64 t.Ai[j].rate, .int .i64 t.Ai[j].farmer] 57∧(∀ k,va.ownBlock=some k→k≠g)) t.Ad.length ⟨0,va,by omega,Z.sb,hI,hO,hnil,G,hne⟩ ?_;clear Z hI hO HN hnil G hne;rintro n3 a x ⟨m,va,hmn,Z,hI,hO,hnil,G,hne⟩;have HN:=Lib.hid hnil;clear hnil;refine wsr ?_
         by_cases hm:m < t.Ad.length
         ·have q3:(m:Int) < (t.Ad.length:Int):=by omega
          obtain ⟨pb,po,hpa,p0,p1,p2⟩:=hI.tar.Ad.at hm;rw [hpa] at Z;simp only [Zp] at p0 p1 p2;refine Z.s ?_;clear Z;intro a Z;refine od ?_;refine wp_seq ?_;refine wp_cond_true (Z.ev 73 rfl) ?_;refine wp_skip ?_;refine wp_seq ?_;refine wp_block ?_;refine wsr ?_;(iterate 3 refine Z.s ?_;clear Z;intro a Z);refine og fun K hK =>?_
          obtain ⟨g2,hg⟩:∃ b,b=x.heap.size:=⟨_,rfl⟩;unfold Oper.wp;go_simp;refine Z.K hK ?_;clear Z hK;intro a Z;refine Z.s ?_;clear Z;intro a Z;refine og fun K hK =>?_
          have e15:=Z.g 15;have e76:=Z.g 76;unfold Oper.wp;go_simp;clear e15 e76;refine hK _ _ ?_;clear hK;refine Ae (G:=fun W=>wpOps _ _ _ _ _ W) ?_;intro x hz Y hb;replace hI:=hI.keep hb;replace hO:=hO.below hb;replace G:=G.below hb;rw [← hg] at Z Y;clear hz hb p0 p1 p2 hg;refine od ?_;refine wsr ?_;refine Z.s ?_;clear Z;intro a Z;refine og fun K hK =>?_
          have e77:=Z.g 77;have g0:=G.cell (o:=0) rfl;unfold Oper.wp;go_simp;clear e77;refine Z.K hK ?_;clear Z hK;intro a Z;refine Z.s ?_;clear Z;intro a Z
          by_cases h7:t.Ai[j].strip=way[i]
          ·have hb:=EX h7;(iterate 2 refine Z.s ?_;clear Z;intro a Z);refine Z.t ?_;clear Z;intro a Z;refine oW (Z.g 81) fun K hK =>?_
           have e82:=Z.g 82;have y0:=Y.cell (o:=0) rfl;unfold Oper.wp;go_simp;clear e82;refine Z.K hK ?_;clear Z hK;intro a Z
           by_cases h8:0 < t.Ad[m].heads
           ·have hyes:=Lib.hid (show Zq t way[i] j m=[⟨j,m,t.Ad[m].heads⟩] from by rw [Yx ⟨by rw [getD_at hj];exact h7,by rw [getD_at hm];exact h8⟩,getD_at hm]);refine Z.t ?_;clear Z;intro a Z;refine Z.s ?_;clear Z;intro a Z;refine od ?_;refine wp_cond_true (Z.ev 85 rfl) ?_;refine wr ?_;(iterate 4 refine Z.s ?_;clear Z;intro a Z);refine og fun K hK =>?_
            have e89:=Z.g 89;have y0:=Y.cell (o:=0) rfl;unfold Oper.wp;go_simp;clear e89;refine Z.K hK ?_;clear Z hK;intro a Z;(iterate 2 refine Z.s ?_;clear Z;intro a Z);refine Ae (G:=fun W=>wpOps _ _ _ _ _ W) ?_;obtain ⟨gs,hgs⟩:∃ b,b=x.heap.size:=⟨_,rfl⟩;intro x hz S hb;replace hI:=hI.keep hb;replace hO:=hO.below hb;replace G:=G.below hb;rw [← hgs] at Z S;clear hz hb hgs y0 Y;refine og fun K hK =>?_
            have e86:=Z.g 86;have e92:=Z.g 92;have hsz:=hI.kb.lt;refine Ip 48 (.tmp 86) (.tmp 92) Try.underlying48 (z := .agg #[.int .i64 0, .int .i64 0, .int .i64 0]) (bytes:=24) (by kernel_rfl) rfl (by decide) (by decide) rfl (by simp [Act.eval,Array.getD_eq_getD_getElem?,e86]) hO gs ⟨j,m,t.Ad[m].heads⟩ (by simp [Act.eval,Array.getD_eq_getD_getElem?,e92]) rfl (fun j u hu=>S.cell (by simpa [WG] using hu)) (fun u hu=>by simp [WG] at hu;rcases hu with rfl | rfl | rfl <;> rfl) (by have:=IZ t way[i] j;have:=Mc t way[i] j m;have:j*t.Ad.length≤6*4:=Nat.mul_le_mul (by omega) hl4;simp only [List.length_append];omega) (Nat.succ_le_of_lt hsz) ?_;have hgx:=G.lt;have hsx2:=S.lt;intro va2 x2 hO2 hb2 hgr hov hnn;have HI2:=hI.grow ht hb2;have HG2:=(hgr.block g hgx (fun e=>hne g e.symm rfl)).trans G;have hne2:∀ k,va2.ownBlock=some k→k≠g:=fun k hk=>by rcases hov with e | e;(exact hne k (e ▸ hk));(rw [e] at hk;simp at hk;omega)
            clear hI hO G hne S;have hI:=HI2;have hO:=hO2;have G:=HG2;have hne:=hne2;clear HI2 hO2 HG2 hne2 hgr hov hnn hb2 hsz hgx hsx2;clear e86 e92;refine Z.K hK ?_;clear Z hK;intro a Z;refine Z.s ?_;clear Z;intro a Z;refine od ?_;refine wr ?_;refine og fun K hK =>?_
            have e72:=Z.g 72;have hww:=Bf m (by omega);unfold Oper.wp;go_simp;clear e72;refine Z.K hK ?_;clear Z hK;intro a Z;refine Z.s ?_;clear Z;intro a Z;refine od ?_;show Exists _;exact ⟨n3-1,by omega,m+1,_,by omega,by rw [hpa];exact Z.sb,hI,by rw [EQ,hyes.out,← List.append_assoc];exact hO,fun h=>by rw [EQ,hyes.out] at h;simp at h,G,hne⟩
           ·have hno:=Lib.hid (WQ (t:=t) (k:=way[i]) (i:=j) (o:=m) (fun h=>h8 (by have:=h.2;rwa [getD_at hm] at this)));refine Z.t ?_;clear Z;intro a Z;refine Z.s ?_;clear Z;intro a Z;refine od ?_;refine wp_cond_false (Z.ev 85 rfl) ?_;refine wp_skip ?_;refine wr ?_;refine og fun K hK =>?_
            have e72:=Z.g 72;have hww:=Bf m (by omega);unfold Oper.wp;go_simp;clear e72;refine Z.K hK ?_;clear Z hK;intro a Z;refine Z.s ?_;clear Z;intro a Z;refine od ?_;show Exists _;exact ⟨n3-1,by omega,m+1,va,by omega,by rw [hpa];exact Z.sb,hI,by rw [EQ,hno.out,List.append_nil];exact hO,fun h=>HN.out (by rw [EQ,hno.out,List.append_nil] at h;exact h),G,hne⟩
          ·have hb:=Ey h7;have hno:=Lib.hid (WQ (t:=t) (k:=way[i]) (i:=j) (o:=m) (fun h=>h7 (by rw [← h.1,getD_at hj])));(iterate 2 refine Z.s ?_;clear Z;intro a Z);refine Z.z ?_;clear Z;intro a Z;refine Z.z ?_;clear Z;intro a Z;refine Z.z ?_;clear Z;intro a Z;refine Z.s ?_;clear Z;intro a Z;refine od ?_;refine wp_cond_false (Z.ev 85 rfl) ?_;refine wp_skip ?_;refine wr ?_;refine og fun K hK =>?_
           have e72:=Z.g 72;have hww:=Bf m (by omega);unfold Oper.wp;go_simp;clear e72;refine Z.K hK ?_;clear Z hK;intro a Z;refine Z.s ?_;clear Z;intro a Z;refine od ?_;show Exists _;exact ⟨n3-1,by omega,m+1,va,by omega,by rw [hpa];exact Z.sb,hI,by rw [EQ,hno.out,List.append_nil];exact hO,fun h=>HN.out (by rw [EQ,hno.out,List.append_nil] at h;exact h),G,hne⟩
         ·obtain rfl:m=t.Ad.length:=by omega
          refine Z.s ?_;clear Z;intro a Z;refine od ?_;refine wp_seq ?_;refine wp_cond_false (Z.ev 73 rfl) ?_;refine wp_exit ?_;replace hO:Fh x (bt+1) va (acc++Dz t way[i] (j+1)):=by rw [Jo,← List.append_assoc];exact hO
          replace HN:=Lib.hid (fun (h:acc++Dz t way[i] (j+1)=[])=>HN.out (by rw [Jo,← List.append_assoc] at h;exact h));refine wr ?_;refine og fun K hK =>?_
          have e64:=Z.g 64;have hww:=Bf j (by omega);unfold Oper.wp;go_simp;clear e64;refine Z.K hK ?_;clear Z hK;intro a Z;refine Z.s ?_;clear Z;intro a Z;refine od ?_;show Exists _;exact ⟨n2-1,by omega,j+1,va,by omega,by rw [hta];exact Z.sb,hI,hO,HN.out⟩
        ·obtain rfl:j=t.Ai.length:=by omega
         refine Z.s ?_;clear Z;intro a Z;refine od ?_;refine wp_seq ?_;refine wp_cond_false (Z.ev 65 rfl) ?_;refine wp_exit ?_;have hal3:(acc++Dz t way[i] t.Ai.length).length≤24*(i+1):=by have:=IZ t way[i] t.Ai.length;have h9:t.Ai.length*t.Ad.length≤6*4:=Nat.mul_le_mul hl6 hl4;rw [List.length_append];omega
         refine wr ?_;refine og fun K hK =>?_
         have e33:=Z.g 33;have hww:=Bf i (by omega);unfold Oper.wp;go_simp;clear e33;refine Z.K hK ?_;clear Z hK;intro a Z;refine Z.s ?_;clear Z;intro a Z;refine od ?_;show Exists _;exact ⟨n-1,by omega,i+1,_,_,va,by omega,hal3,by have h:=(agN hlt h4 h5 (by rw [← HX.out];exact H6.out)).symm.trans HE.out;rw [← HX.out] at h;exact h,by rw [hwa];exact Z.sb,hI,hO,HN.out⟩
     ·rw [h4] at Z;have hE:=Lib.hid (HR.out _ (ag3 hlt h4));refine Z.s ?_;clear Z;intro a Z;refine od ?_;refine wp_cond_true (Z.ev 45 rfl) ?_;refine wsr ?_;(iterate 2 refine Z.s ?_;clear Z;intro a Z);refine od ?_;refine wp_ret ?_
      try simp only [Exit.then,Exit.inBlock]
      refine bodyPost_ret (v := .tuple #[.slice none 0 0, .int .i64 (BK t from_ way).2]) ?_ Z.defers ⟨hI.below,_,rfl,by rw [hE.out];exact AC.nil,fun _=>rfl⟩;rw [hE.out];simp [results,Try.results65,Z.get 6 _ rfl,Z.get 7 _ rfl]
    ·obtain rfl:i=way.length:=by omega
     refine Z.s ?_;clear Z;intro a Z;refine od ?_;refine wp_seq ?_;refine wp_cond_false (Z.ev 34 rfl) ?_;refine wp_exit ?_;have hE:=Lib.hid (HE.out.symm.trans (show CU t (way.take way.length) (way.drop way.length) at_ acc=(acc,0) from by rw [List.drop_of_length_le (Nat.le_refl _)];rfl));refine wsr ?_;(iterate 3 refine Z.s ?_;clear Z;intro a Z);refine od ?_;refine wp_ret ?_
     try simp only [Exit.then,Exit.inBlock]
     refine bodyPost_ret (v := .tuple #[va, .int .i64 0]) ?_ Z.defers ⟨hI.below,va,by rw [hE.out],by rw [hE.out];exact AC.lower hO (by have:=hI.lb;omega),fun h=>HN.out (by rw [hE.out] at h;exact h)⟩;simp [results,Try.results65,Z.get 6 _ rfl,Z.get 7 _ rfl]
  ·rw [h2] at Z;have hE:=Lib.hid ((FC (way:=way)).2.1 h1 h2);refine Z.s ?_;clear Z;intro a Z;refine od ?_;refine wp_cond_true (Z.ev 27 rfl) ?_;refine wsr ?_;(iterate 2 refine Z.s ?_;clear Z;intro a Z);refine od ?_;refine wp_ret ?_
   try simp only [Exit.then,Exit.inBlock]
   refine bodyPost_ret (v := .tuple #[.slice none 0 0, .int .i64 (BK t from_ way).2]) ?_ Z.defers ⟨hI.below,_,rfl,by rw [hE.out];exact AC.nil,fun _=>rfl⟩;rw [hE.out];simp [results,Try.results65,Z.get 6 _ rfl,Z.get 7 _ rfl]
 ·have hne:=C9 h1;have hE:=Lib.hid ((FC (from_:=from_) (way:=way)).1 h1);refine Z.s ?_;clear Z;intro a Z;refine od ?_;refine wp_cond_true (Z.ev 19 rfl) ?_;refine wsr ?_;(iterate 3 refine Z.s ?_;clear Z;intro a Z);refine od ?_;refine wp_ret ?_
  try simp only [Exit.then,Exit.inBlock]
  refine bodyPost_ret (v := .tuple #[.slice none 0 0, .int .i64 (BK t from_ way).2]) ?_ Z.defers ⟨hI.below,_,rfl,by rw [hE.out];exact AC.nil,fun _=>rfl⟩;rw [hE.out];simp [results,Try.results65,Z.get 6 _ rfl,Z.get 7 _ rfl]
end
end Go.Proofs.Ytgdobbcjkiapkaa
