import Derived.Test.YtgdobbcjkiapkaaSv19
import Derived.Test.YtgdobbcjkiapkaaSv04
import Derived.Test.YtgdobbcjkiapkaaSv22
namespace Go.Proofs.Ytgdobbcjkiapkaa
set_option maxRecDepth 100000
set_option maxHeartbeats 4000000
set_option linter.unusedSimpArgs false
set_option linter.unusedVariables false
section
open Go.RowKit
instance:Inhabited Strip:=⟨⟨0,0,0,0,0,0,0⟩⟩
def Aab (t:Ae) (k:Int) (i o:Nat):List Ar:=if (t.Af.getD i default).strip=k∧0<(t.Aa.getD o default).heads then [⟨i,o,(t.Aa.getD o default).heads⟩] else []
def Kv (t:Ae) (k:Int) (i m:Nat):List Ar:=(List.range m).flatMap (Aab t k i)
def Ep (t:Ae) (k:Int) (j:Nat):List Ar:=(List.range j).flatMap fun i=>Kv t k i t.Aa.length
theorem FD (t:Ae) (k:Int) (i m:Nat):Kv t k i (m+1)=Kv t k i m++Aab t k i m:=by simp[Kv,List.range_succ]
theorem JO (t:Ae) (k:Int) (j:Nat):Ep t k (j+1)=Ep t k j++Kv t k j t.Aa.length:=by simp[Ep,List.range_succ]
theorem Zf (t:Ae) (k:Int) (i o:Nat):(Aab t k i o).length≤1:=by unfold Aab;split<;>simp
theorem Ns (t:Ae) (k:Int) (i:Nat):∀ m,(Kv t k i m).length≤m
 | 0=>by simp[Kv]
 | m+1=>by have:=Ns t k i m;have:=Zf t k i m;rw[FD,List.length_append];omega
theorem Jo (t:Ae) (k:Int):∀ j,(Ep t k j).length≤j*t.Aa.length
 | 0=>by simp[Ep]
 | j+1=>by have:=Jo t k j;have:=Ns t k j t.Aa.length;rw[JO,List.length_append,Nat.add_mul];omega
def DX (t:Ae):List Int→List Int→Int→List Ar→List Ar×Int
 | _,[],_,acc=>(acc,0)
 | pre,k::rest,at_,acc =>
  if !(btw k 0 ((t.roads.strips.length:Int)-1)) then ([],3)
  else if k∈pre then ([],4)
  else if Jv (t.roads.strips.getD k.toNat default) at_<0 then ([],12)
  else DX t (pre++[k]) rest (Jv (t.roads.strips.getD k.toNat default) at_) (acc++Ep t k t.Af.length)
def C9 (t:Ae) (from_:Int) (way:List Int):List Ar×Int :=
 if Aq t≠0 then ([],Aq t)
 else if !(btw from_ 0 (t.roads.stages-1)) then ([],3)
 else if 8<way.length then ([],6)
 else DX t [] way from_ []
section
variable {t:Ae}{way:List Int}{i:Nat}{at_:Int}{acc:List Ar}
theorem ag3 (h:i<way.length) (h1:btw way[i] 0 ((t.roads.strips.length:Int)-1)=false):DX t (way.take i) (way.drop i) at_ acc=([],3):=by
 rw[List.drop_eq_getElem_cons h,DX,if_pos (by rw[h1];rfl)]
theorem ag4 (h:i<way.length) (h1:btw way[i] 0 ((t.roads.strips.length:Int)-1)=true) (h2:way[i]∈way.take i):DX t (way.take i) (way.drop i) at_ acc=([],4):=by
 rw[List.drop_eq_getElem_cons h,DX,if_neg (by simp[h1]),if_pos h2]
theorem Acv (h:i<way.length) (h1:btw way[i] 0 ((t.roads.strips.length:Int)-1)=true) (h2:¬ way[i]∈way.take i) (h3:Jv (t.roads.strips.getD way[i].toNat default) at_<0):DX t (way.take i) (way.drop i) at_ acc=([],12):=by
 rw[List.drop_eq_getElem_cons h,DX,if_neg (by simp[h1]),if_neg h2,if_pos h3]
theorem agN (h:i<way.length) (h1:btw way[i] 0 ((t.roads.strips.length:Int)-1)=true) (h2:¬ way[i]∈way.take i) (h3:¬ Jv (t.roads.strips.getD way[i].toNat default) at_<0) :
  DX t (way.take i) (way.drop i) at_ acc=DX t (way.take (i+1)) (way.drop (i+1)) (Jv (t.roads.strips.getD way[i].toNat default) at_) (acc++Ep t way[i] t.Af.length):=by
 rw[List.drop_eq_getElem_cons h]
 conv=>lhs;rw[DX,if_neg (by simp[h1]),if_neg h2,if_neg h3]
 rw[List.take_succ_eq_append_getElem h]
end
theorem H9 {t:Ae}{from_:Int}{way:List Int}:(Aq t≠0→C9 t from_ way=([],Aq t))∧(Aq t=0→btw from_ 0 (t.roads.stages-1)=false→C9 t from_ way=([],3))∧(Aq t=0→btw from_ 0 (t.roads.stages-1)=true→8<way.length→C9 t from_ way=([],6))∧(Aq t=0→btw from_ 0 (t.roads.stages-1)=true→¬ 8<way.length→C9 t from_ way=DX t [] way from_ []):=by
 unfold C9;refine⟨fun h=>if_pos h,fun h h1=>?_,fun h h1 h2=>?_,fun h h1 h2=>?_⟩
 ·rw[if_neg (by simp[h]),if_pos (by simp[h1])]
 ·rw[if_neg (by simp[h]),if_neg (by simp[h1]),if_pos h2]
 ·rw[if_neg (by simp[h]),if_neg (by simp[h1]),if_neg h2]
theorem Xr {t:Ae}{k:Int}{i o:Nat}(h:¬ ((t.Af.getD i default).strip=k∧0<(t.Aa.getD o default).heads)):Aab t k i o=[]:=if_neg h
theorem Ze {t:Ae}{k:Int}{i o:Nat}(h:(t.Af.getD i default).strip=k∧0<(t.Aa.getD o default).heads):Aab t k i o=[⟨i,o,(t.Aa.getD o default).heads⟩]:=if_pos h
theorem DN.at {w:World}{a:Option Addr}{l:List Strip}(h:DN w a l) {i:Nat}(hi:i<l.length):∃ b o,a=some ⟨b,o,none⟩∧FK w b (o+i*7) l[i]:=by
 rcases h with rfl|⟨b,o,ha,h⟩
 ·simp at hi
 ·exact⟨b,o,ha,h i hi⟩
theorem FC {r:Ew}(h:Bo r=0):1≤r.stages∧r.stages≤6∧r.strips.length≤8∧1≤r.days∧r.days≤10:=by
 unfold Bo at h
 split at h
 ·exact absurd h (by decide)
 ·split at h
  ·exact absurd h (by decide)
  ·rename_i h1 h2
   simp only[Bool.or_eq_true,Bool.not_eq_true',not_or,Bool.not_eq_false]at h1;have a:=Am.1 h1.1;have b:=Am.1 h1.2
   omega
theorem TI.grow {w x x2:World}{bt:Nat}{t:Ae}{s:Dt}(h:TI w x bt t s) (ht:Bf w t s) (hb:Below (bt+1) x x2):TI w x2 bt t s:=by
 have h1:Below w.heap.size w x2:=h.below.trans (hb.mono (by have:=h.lb;omega));exact⟨h1,ht.below h1,(hb.block bt (by omega)).trans h.kb,h.lb⟩
def RV (w:World) (t:Ae) (from_:Int) (way:List Int) (e:Ending) (w':World):Prop :=
 Below w.heap.size w w'∧∃ v,e=.returned (.tuple #[v,.int .i64 (C9 t from_ way).2])∧Cc w' w.heap.size v (C9 t from_ way).1∧((C9 t from_ way).1=[]→v=.slice none 0 0)
theorem SG:(fun r=>Try.f65.body=some (.seq (r 0) (.seq (.seq (r 1) (.seq (r 2) (.cond (.tmp 19) (.seq (r 3) .ret) .skip))) (.seq (.seq (r 4) (.cond (.tmp 27) (.seq (r 5) .ret) .skip)) (.seq (.seq (r 6) (.cond (.tmp 30) (.seq (r 7) .ret) .skip)) (.seq (r 8) (.seq (.seq (r 9) (.block 0 (.loop (.seq (r 10) (.seq (.cond (.tmp 34) .skip (.exit 0)) (.seq (.block 1 (.seq (r 11) (.seq (.seq (r 12) (.cond (.tmp 45) (.seq (r 13) .ret) .skip)) (.seq (.seq (r 14) (.cond (.tmp 50) (.seq (r 15) .ret) .skip)) (.seq (.seq (r 16) (.seq (r 17) (.cond (.tmp 60) (.seq (r 18) .ret) .skip))) (.seq (r 19) (.block 2 (.loop (.seq (r 20) (.seq (.cond (.tmp 65) .skip (.exit 2)) (.seq (.block 3 (.seq (r 21) (.seq (r 22) (.block 4 (.loop (.seq (r 23) (.seq (.cond (.tmp 73) .skip (.exit 4)) (.seq (.block 5 (.seq (r 24) (.seq (r 25) (.cond (.tmp 85) (r 26) .skip)))) (r 27))))))))) (r 28)))))))))))) (r 29))))))) (.seq (r 30) .ret)))))))) (Ac Try.f65):=by show _=_;kernel_rfl
theorem NY {t:Ae}{s:Dt}{w:World}{from_:Int}{way:List Int}{wa:Option Addr}{wc:Nat}(ht:Bf w t s) (hw:AX w wa way) (hwc:way.length≤wc) (hwl:way.length≤1000000):Calls Try.prog 65 #[.agg (CJ t s),.int .i64 from_,.slice wa way.length wc] w (RV w t from_ way):=by
 refine NU Try.func65 SG Try.ntmps65 ?_;intro a Z;refine wsr ?_;refine Z.s ?_;clear Z;intro a Z;refine aw ?_;intro x hz X hb;have hI:=TI.made (Below.refl _ _) ht X hb;obtain⟨bt,hbt⟩:∃ b,b=w.heap.size:=⟨_,rfl⟩;rw[← hbt]at Z hI;clear hz X hb hbt;(iterate 2 refine Z.s ?_;clear Z;intro a Z);refine od ?_;refine wss ?_;refine oz fun K hK=>?_
 have e3:=Z.g 3;have c0:=hI.c0;have c1:=hI.c1;have c2:=hI.c2;have c3:=hI.c3;have c4:=hI.c4;have c5:=hI.c5;go_simp;refine Z.K hK ?_;clear Z hK;intro a Z;refine oz fun K hK=>?_
 have e16:=Z.g 16;go_simp;refine(Lt hI.tar).mono ?_;rintro e x ⟨rfl,hb⟩;replace hI:=hI.keep hb;clear hb;refine Z.K hK ?_;clear Z hK;intro a Z;refine Z.e ?_;clear Z;intro a Z;refine wsr ?_;refine Z.s ?_;clear Z;intro a Z
 by_cases h1:Aq t=0
 ·have hne:=BO h1;refine Z.e ?_;clear Z;intro a Z;refine Z.cs 19 ?_;refine wss ?_;(iterate 3 refine Z.s ?_;clear Z;intro a Z);refine Z.f hI.c1 ?_;clear Z;intro a Z;refine oz fun K hK=>?_
  have e24:=Z.g 24;have hww:IntKind.i64.wrap (t.roads.stages-1)=t.roads.stages-1:=IntWalk.i64_in _ (by have:=FC (AY h1).1;omega);go_simp;refine Z.K hK ?_;clear Z hK;intro a Z;refine oz fun K hK=>?_
  have e21:=Z.g 21;have e25:=Z.g 25;go_simp;refine(BH _ _ _ _).mono ?_;rintro e x ⟨rfl,rfl⟩;refine Z.K hK ?_;clear Z hK;intro a Z;rcases Bool.eq_false_or_eq_true (btw from_ 0 (t.roads.stages-1)) with h2|h2
  ·rw[h2]at Z;refine Z.e ?_;clear Z;intro a Z;refine Z.cs 27 ?_;refine wss ?_;(iterate 2 refine Z.s ?_;clear Z;intro a Z)
   by_cases h3:8<way.length
   ·have q1:(8:Int)<(way.length:Int):=by omega
    have hE:=Lib.hid (H9.2.2.1 h1 h2 h3);refine Z.e ?_;clear Z;intro a Z;refine Z.ct 30 ?_;refine wsr ?_;(iterate 2 refine Z.s ?_;clear Z;intro a Z);refine od ?_;refine wp_ret ?_
    try simp only[xt]
    refine bodyPost_ret (v:=.tuple #[.slice none 0 0,.int .i64 (C9 t from_ way).2]) ?_ Z.defers ⟨hI.below,_,rfl,by rw[hE.out];exact AU.nil,fun _=>rfl⟩;rw[hE.out];simp[results,Try.results65,Z.get 6 _ rfl,Z.get 7 _ rfl]
   ·have q1:¬ (8:Int)<(way.length:Int):=by omega
    have HE0:=Lib.hid (H9.2.2.2 h1 h2 h3);refine Z.e ?_;clear Z;intro a Z;refine Z.cs 30 ?_;refine wsr ?_;refine Z.e ?_;clear Z;intro a Z;refine wss ?_;(iterate 3 refine Z.s ?_;clear Z;intro a Z);refine od ?_;refine wp_block ?_;have hl4:=(AY h1).2.2.2.2.1;have hl6:=(AY h1).2.2.2.2.2.2.2.1;refine wp_loop_ghost (fun n p x=>∃ (i:Nat) (at_:Int) (acc:List Ar) (va:Value),i+n=way.length∧acc.length≤24*i∧DX t (way.take i) (way.drop i) at_ acc=C9 t from_ way∧Sl p 98 [(1,.int .i64 at_),(2,.slice wa way.length wc),(3,.pointer (some ⟨bt,0,none⟩)),(9,va),(31,.slice wa way.length wc),(32,.int .i64 (way.length:Int)),(33,.int .i64 (i:Int))]∧TI w x bt t s∧Cc x (bt+1) va acc∧(acc=[]→va=.slice none 0 0)) way.length ⟨0,from_,[],_,by omega,by simp,HE0.out.symm,Z.sb,hI,AU.nil,fun _=>rfl⟩ ?_;clear Z hI;rintro n a x ⟨i,at_,acc,va,hin,hal,hE,Z,hI,hO,hnil⟩;have HE:=Lib.hid hE;clear hE;have HR:=Lib.hid (fun r (h:DX t (way.take i) (way.drop i) at_ acc=r)=>HE.out.symm.trans h);have HN:=Lib.hid hnil;clear hnil;refine wsr ?_
    by_cases hlt:i<way.length
    ·have q1:(i:Int)<(way.length:Int):=by omega
     obtain⟨wb,wo,hwa,p0⟩:=(hw.below hI.below).at hlt;rw[hwa]at Z;refine Z.e ?_;clear Z;intro a Z;refine wp_seq ?_;refine Z.ct 34 ?_;refine wp_skip ?_;refine wp_seq ?_;refine wp_block ?_;refine wsr ?_;(iterate 5 refine Z.s ?_;clear Z;intro a Z);refine od ?_;refine wss ?_;(iterate 3 refine Z.s ?_;clear Z;intro a Z);refine Z.f hI.c2 ?_;clear Z;intro a Z;refine Z.s ?_;clear Z;intro a Z;refine oz fun K hK=>?_
     have e42:=Z.g 42;have hww:IntKind.i64.wrap ((t.roads.strips.length:Int)-1)=(t.roads.strips.length:Int)-1:=IntWalk.i64_in _ (by have:=hI.tar.ls;unfold maxLen at this;omega);go_simp;refine Z.K hK ?_;clear Z hK;intro a Z;refine oz fun K hK=>?_
     have e38:=Z.g 38;have e43:=Z.g 43;go_simp;refine(BH _ _ _ _).mono ?_;rintro e x ⟨rfl,rfl⟩;refine Z.K hK ?_;clear Z hK;intro a Z;rcases Bool.eq_false_or_eq_true (btw way[i] 0 ((t.roads.strips.length:Int)-1)) with h4|h4
     ·rw[h4]at Z;refine Z.e ?_;clear Z;intro a Z;refine Z.cs 45 ?_;refine wss ?_;(iterate 2 refine Z.s ?_;clear Z;intro a Z);refine oz fun K hK=>?_
      have e46:=Z.g 46;have e47:=Z.g 47;have hqk:(i:Int)≤(wc:Int):=by omega
      have hk0:(0:Int)≤(i:Int):=by omega
      go_simp;refine Z.K hK ?_;clear Z hK;intro a Z;refine Z.s ?_;clear Z;intro a Z;refine oz fun K hK=>?_
      have e48:=Z.g 48;have e49:=Z.g 49;go_simp;have hta:=((hwa ▸ hw).below hI.below).take i;have htl:(way.take i).length=i:=by rw[List.length_take];omega
      have hcon:=ML (cap:=wc) (x:=way[i]) hta (by omega);rw[htl]at hcon;refine hcon.mono ?_;rintro e x ⟨rfl,rfl⟩;clear hcon hta htl;refine Z.K hK ?_;clear Z hK;intro a Z
      by_cases h5:way[i]∈way.take i
      ·rw[decide_eq_true h5]at Z;have hE:=Lib.hid (HR.out _ (ag4 hlt h4 h5));refine od ?_;refine Z.ct 50 ?_;refine wsr ?_;(iterate 2 refine Z.s ?_;clear Z;intro a Z);refine od ?_;refine wp_ret ?_
       try simp only[xt]
       refine bodyPost_ret (v:=.tuple #[.slice none 0 0,.int .i64 (C9 t from_ way).2]) ?_ Z.defers ⟨hI.below,_,rfl,by rw[hE.out];exact AU.nil,fun _=>rfl⟩;rw[hE.out];simp[results,Try.results65,Z.get 6 _ rfl,Z.get 7 _ rfl]
      ·rw[decide_eq_false h5]at Z;have hk2:(way[i].toNat:Int)=way[i]∧0≤way[i]∧way[i]<(t.roads.strips.length:Int):=by have:=Am.1 h4;omega
       have hkn:way[i].toNat<t.roads.strips.length:=by omega
       obtain⟨sb,so,hsa,hst⟩:=hI.tar.strips.at hkn;rw[← getD_at hkn]at hst;obtain⟨sx,hsx⟩:∃ z,z=t.roads.strips.getD way[i].toNat default:=⟨_,rfl⟩;rw[← hsx]at hst;have HX:=Lib.hid hsx;clear hsx;refine od ?_;refine Z.cs 50 ?_;refine wss ?_;(iterate 2 refine Z.s ?_;clear Z;intro a Z);refine oz fun K hK=>?_
       have e52:=Z.g 52;have c2:=hI.c2;rw[hsa]at c2;go_simp;refine Z.K hK ?_;clear Z hK;intro a Z;refine Z.s ?_;clear Z;intro a Z;refine oz fun K hK=>?_
       have e53:=Z.g 53;have e54:=Z.g 54;have q4:=hk2.2.1;have q5:=hk2.2.2;go_simp;refine Z.K hK ?_;clear Z hK;intro a Z;refine oz fun K hK=>?_
       have e55:=Z.g 55;obtain⟨s0,s1,s2,s3,s4,s5,s6⟩:=hst;go_simp;refine Z.K hK ?_;clear Z hK;intro a Z;refine Z.s ?_;clear Z;intro a Z;refine oz fun K hK=>?_
       have e56:=Z.g 56;have e57:=Z.g 57;go_simp;refine(Uu sx at_).mono ?_;rintro e x ⟨rfl,hb⟩;replace hI:=hI.keep hb;replace hO:=hO.below hb;clear hb;refine Z.K hK ?_;clear Z hK;intro a Z;refine Z.e ?_;clear Z;intro a Z;refine wsr ?_;refine Z.s ?_;clear Z;intro a Z
       by_cases h6:Jv sx at_<0
       ·have hE:=Lib.hid (HR.out _ (Acv hlt h4 h5 (by rw[← HX.out];exact h6)));refine Z.e ?_;clear Z;intro a Z;refine Z.ct 60 ?_;refine wsr ?_;(iterate 2 refine Z.s ?_;clear Z;intro a Z);refine od ?_;refine wp_ret ?_
        try simp only[xt]
        refine bodyPost_ret (v:=.tuple #[.slice none 0 0,.int .i64 (C9 t from_ way).2]) ?_ Z.defers ⟨hI.below,_,rfl,by rw[hE.out];exact AU.nil,fun _=>rfl⟩;rw[hE.out];simp[results,Try.results65,Z.get 6 _ rfl,Z.get 7 _ rfl]
       ·have H6:=Lib.hid h6;have h6b:¬ Jv sx at_<0:=h6;refine Z.e ?_;clear Z;intro a Z;refine Z.cs 60 ?_;refine wsr ?_;refine Z.s ?_;clear Z;intro a Z;refine Z.f hI.c5 ?_;clear Z;intro a Z;(iterate 2 refine Z.s ?_;clear Z;intro a Z);refine od ?_;refine wp_block ?_;have hnil:acc++Ep t way[i] 0=[]→va=.slice none 0 0:=fun h=>HN.out (by simpa[Ep] using h)
        replace hO:Cc x (bt+1) va (acc++Ep t way[i] 0):=by simpa[Ep] using hO
        refine wp_loop_ghost (fun n2 p x=>∃ (j:Nat) (va:Value),j+n2=t.Af.length∧Sl p 98 [(1,.int .i64 (Jv sx at_)),(2,.slice (some ⟨wb,wo,none⟩) way.length wc),(3,.pointer (some ⟨bt,0,none⟩)),(9,va),(31,.slice (some ⟨wb,wo,none⟩) way.length wc),(32,.int .i64 (way.length:Int)),(33,.int .i64 (i:Int)),(11,.int .i64 way[i]),(62,.slice s.ta t.Af.length s.tc),(63,.int .i64 (t.Af.length:Int)),(64,.int .i64 (j:Int))]∧TI w x bt t s∧Cc x (bt+1) va (acc++Ep t way[i] j)∧(acc++Ep t way[i] j=[]→va=.slice none 0 0)) t.Af.length ⟨0,va,by omega,Z.sb,hI,hO,hnil⟩ ?_;clear Z hI hO HN hnil;rintro n2 a x ⟨j,va,hjn,Z,hI,hO,hnil⟩;have HN:=Lib.hid hnil;clear hnil;refine wsr ?_
        by_cases hj:j<t.Af.length
        ·have q2:(j:Int)<(t.Af.length:Int):=by omega
         obtain⟨tb,to_,hta,p0,p1,p2⟩:=hI.tar.Af.at hj;rw[hta]at Z;simp only[MQ]at p0 p1 p2;refine Z.e ?_;clear Z;intro a Z;refine wp_seq ?_;refine Z.ct 65 ?_;refine wp_skip ?_;refine wp_seq ?_;refine wp_block ?_;refine wsr ?_;(iterate 3 refine Z.s ?_;clear Z;intro a Z);refine oz fun K hK=>?_
         obtain⟨g,hg⟩:∃ b,b=x.heap.size:=⟨_,rfl⟩;go_simp;refine Z.K hK ?_;clear Z hK;intro a Z;refine Z.s ?_;clear Z;intro a Z;refine oz fun K hK=>?_
         have e13:=Z.g 13;have e68:=Z.g 68;go_simp;clear e13 e68;refine hK _ _ ?_;clear hK;refine aw ?_;intro x hz G hb;replace hI:=hI.keep hb;have hne:∀ k,va.ownBlock=some k→k≠g:=fun k hk=>by have:=(AU.Ak hO hk).2;omega
         replace hO:=hO.below hb;rw[← hg]at Z G;clear hz hb p0 p1 p2 hg;refine od ?_;refine wsr ?_;refine Z.s ?_;clear Z;intro a Z;refine Z.f hI.c4 ?_;clear Z;intro a Z;(iterate 2 refine Z.s ?_;clear Z;intro a Z);refine od ?_;refine wp_block ?_;have hnil:acc++Ep t way[i] j++Kv t way[i] j 0=[]→va=.slice none 0 0:=fun h=>HN.out (by simpa[Kv] using h)
         replace hO:Cc x (bt+1) va (acc++Ep t way[i] j++Kv t way[i] j 0):=by simpa[Kv] using hO
         refine wp_loop_ghost (fun n3 p x=>∃ (m:Nat) (va:Value),m+n3=t.Aa.length∧Sl p 98 [(1,.int .i64 (Jv sx at_)),(2,.slice (some ⟨wb,wo,none⟩) way.length wc),(3,.pointer (some ⟨bt,0,none⟩)),(9,va),(31,.slice (some ⟨wb,wo,none⟩) way.length wc),(32,.int .i64 (way.length:Int)),(33,.int .i64 (i:Int)),(11,.int .i64 way[i]),(62,.slice (some ⟨tb,to_,none⟩) t.Af.length s.tc),(63,.int .i64 (t.Af.length:Int)),(64,.int .i64 (j:Int)),(12,.int .i64 (j:Int)),(13,.pointer (some ⟨g,0,none⟩)),(70,.slice s.pa t.Aa.length s.pc),(71,.int .i64 (t.Aa.length:Int)),(72,.int .i64 (m:Int))]∧TI w x bt t s∧Cc x (bt+1) va (acc++Ep t way[i] j++Kv t way[i] j m)∧(acc++Ep t way[i] j++Kv t way[i] j m=[]→va=.slice none 0 0)∧Rw x g #[.int .i64 t.Af[j].strip,.int .i64 t.Af[j].rate,.int .i64 t.Af[j].farmer] 57∧(∀ k,va.ownBlock=some k→k≠g)) t.Aa.length ⟨0,va,by omega,Z.sb,hI,hO,hnil,G,hne⟩ ?_;clear Z hI hO HN hnil G hne;rintro n3 a x ⟨m,va,hmn,Z,hI,hO,hnil,G,hne⟩;have HN:=Lib.hid hnil;clear hnil;refine wsr ?_
         by_cases hm:m<t.Aa.length
         ·have q3:(m:Int)<(t.Aa.length:Int):=by omega
          obtain⟨pb,po,hpa,p0,p1,p2⟩:=hI.tar.Aa.at hm;rw[hpa]at Z;simp only[Xj]at p0 p1 p2;refine Z.e ?_;clear Z;intro a Z;refine wp_seq ?_;refine Z.ct 73 ?_;refine wp_skip ?_;refine wp_seq ?_;refine wp_block ?_;refine wsr ?_;(iterate 3 refine Z.s ?_;clear Z;intro a Z);refine oz fun K hK=>?_
          obtain⟨g2,hg⟩:∃ b,b=x.heap.size:=⟨_,rfl⟩;go_simp;refine Z.K hK ?_;clear Z hK;intro a Z;refine Z.s ?_;clear Z;intro a Z;refine oz fun K hK=>?_
          have e15:=Z.g 15;have e76:=Z.g 76;go_simp;clear e15 e76;refine hK _ _ ?_;clear hK;refine aw ?_;intro x hz Y hb;replace hI:=hI.keep hb;replace hO:=hO.below hb;replace G:=G.below hb;rw[← hg]at Z Y;clear hz hb p0 p1 p2 hg;refine od ?_;refine wsr ?_;refine Z.s ?_;clear Z;intro a Z;refine Z.f (G.cell (o:=0) rfl) ?_;clear Z;intro a Z;refine Z.s ?_;clear Z;intro a Z
          by_cases h7:t.Af[j].strip=way[i]
          ·have hb:=EI h7;(iterate 3 refine Z.x ?_;clear Z;intro a Z);refine oy (Z.g 81) fun K hK=>?_
           have e82:=Z.g 82;have y0:=Y.cell (o:=0) rfl;go_simp;refine Z.K hK ?_;clear Z hK;intro a Z
           by_cases h8:0<t.Aa[m].heads
           ·have hyes:=Lib.hid (show Aab t way[i] j m=[⟨j,m,t.Aa[m].heads⟩] from by rw[Ze ⟨by rw[getD_at hj];exact h7,by rw[getD_at hm];exact h8⟩,getD_at hm]);(iterate 2 refine Z.x ?_;clear Z;intro a Z);refine od ?_;refine Z.ct 85 ?_;refine wr ?_;(iterate 4 refine Z.s ?_;clear Z;intro a Z);have y0:=Y.cell (o:=0) rfl;refine Z.f y0 ?_;clear Z;intro a Z;(iterate 2 refine Z.s ?_;clear Z;intro a Z);refine aw ?_;obtain⟨gs,hgs⟩:∃ b,b=x.heap.size:=⟨_,rfl⟩;intro x hz S hb;replace hI:=hI.keep hb;replace hO:=hO.below hb;replace G:=G.below hb;rw[← hgs]at Z S;clear hz hb hgs y0 Y;refine og fun K hK=>?_
            have e86:=Z.g 86;have e92:=Z.g 92;have hsz:=hI.kb.lt;refine IQ 48 (.tmp 86) (.tmp 92) Try.underlying48 (z:=.agg #[.int .i64 0,.int .i64 0,.int .i64 0]) (bytes:=24) (by kernel_rfl) rfl (by decide) (by decide) rfl (by simp[Act.eval,Array.getD_eq_getD_getElem?,e86]) hO gs ⟨j,m,t.Aa[m].heads⟩ (by simp[Act.eval,Array.getD_eq_getD_getElem?,e92]) rfl (fun j u hu=>S.cell (by simpa[G8] using hu)) (fun u hu=>by simp[G8]at hu;rcases hu with rfl|rfl|rfl<;>rfl) (by have:=Jo t way[i] j;have:=Ns t way[i] j m;have:j*t.Aa.length≤6*4:=Nat.mul_le_mul (by omega) hl4;simp only[List.length_append];omega) (Nat.succ_le_of_lt hsz) ?_;have hgx:=G.lt;have hsx2:=S.lt;intro va2 x2 hO2 hb2 hgr hov hnn;have HI2:=hI.grow ht hb2;have HG2:=(hgr.block g hgx (fun e=>hne g e.symm rfl)).trans G;have hne2:∀ k,va2.ownBlock=some k→k≠g:=fun k hk=>by rcases hov with e|e;(exact hne k (e ▸ hk));(rw[e]at hk;simp at hk;omega)
            clear hI hO G hne S;have hI:=HI2;have hO:=hO2;have G:=HG2;have hne:=hne2;clear HI2 hO2 HG2 hne2 hgr hov hnn hb2 hsz hgx hsx2;refine Z.K hK ?_;clear Z hK;intro a Z;refine Z.e ?_;clear Z;intro a Z;refine wr ?_;refine Z.f (Bz m (by omega)) ?_;clear Z;intro a Z;refine Z.e ?_;clear Z;intro a Z;show Exists _;exact⟨n3-1,by omega,m+1,_,by omega,by rw[hpa];exact Z.sb,hI,by rw[FD,hyes.out,← List.append_assoc];exact hO,fun h=>by rw[FD,hyes.out]at h;simp at h,G,hne⟩
           ·have hno:=Lib.hid (Xr (t:=t) (k:=way[i]) (i:=j) (o:=m) (fun h=>h8 (by have:=h.2;rwa [getD_at hm]at this)));(iterate 2 refine Z.x ?_;clear Z;intro a Z);refine od ?_;refine Z.cs 85 ?_;refine wr ?_;refine Z.f (Bz m (by omega)) ?_;clear Z;intro a Z;refine Z.e ?_;clear Z;intro a Z;show Exists _;exact⟨n3-1,by omega,m+1,va,by omega,by rw[hpa];exact Z.sb,hI,by rw[FD,hno.out,List.append_nil];exact hO,fun h=>HN.out (by rw[FD,hno.out,List.append_nil]at h;exact h),G,hne⟩
          ·have hb:=DW h7;have hno:=Lib.hid (Xr (t:=t) (k:=way[i]) (i:=j) (o:=m) (fun h=>h7 (by rw[← h.1,getD_at hj])));(iterate 6 refine Z.x ?_;clear Z;intro a Z);refine od ?_;refine Z.cs 85 ?_;refine wr ?_;refine Z.f (Bz m (by omega)) ?_;clear Z;intro a Z;refine Z.e ?_;clear Z;intro a Z;show Exists _;exact⟨n3-1,by omega,m+1,va,by omega,by rw[hpa];exact Z.sb,hI,by rw[FD,hno.out,List.append_nil];exact hO,fun h=>HN.out (by rw[FD,hno.out,List.append_nil]at h;exact h),G,hne⟩
         ·obtain rfl:m=t.Aa.length:=by omega
          refine Z.e ?_;clear Z;intro a Z;refine wp_seq ?_;refine Z.cf 73 ?_;refine wp_exit ?_;replace hO:Cc x (bt+1) va (acc++Ep t way[i] (j+1)):=by rw[JO,← List.append_assoc];exact hO
          replace HN:=Lib.hid (fun (h:acc++Ep t way[i] (j+1)=[])=>HN.out (by rw[JO,← List.append_assoc]at h;exact h));refine wr ?_;refine Z.f (Bz j (by omega)) ?_;clear Z;intro a Z;refine Z.e ?_;clear Z;intro a Z;show Exists _;exact⟨n2-1,by omega,j+1,va,by omega,by rw[hta];exact Z.sb,hI,hO,HN.out⟩
        ·obtain rfl:j=t.Af.length:=by omega
         refine Z.e ?_;clear Z;intro a Z;refine wp_seq ?_;refine Z.cf 65 ?_;refine wp_exit ?_;have hal3:(acc++Ep t way[i] t.Af.length).length≤24*(i+1):=by have:=Jo t way[i] t.Af.length;have h9:t.Af.length*t.Aa.length≤6*4:=Nat.mul_le_mul hl6 hl4;rw[List.length_append];omega
         refine wr ?_;refine Z.f (Bz i (by omega)) ?_;clear Z;intro a Z;refine Z.e ?_;clear Z;intro a Z;show Exists _;exact⟨n-1,by omega,i+1,_,_,va,by omega,hal3,by have h:=(agN hlt h4 h5 (by rw[← HX.out];exact H6.out)).symm.trans HE.out;rw[← HX.out]at h;exact h,by rw[hwa];exact Z.sb,hI,hO,HN.out⟩
     ·rw[h4]at Z;have hE:=Lib.hid (HR.out _ (ag3 hlt h4));refine Z.e ?_;clear Z;intro a Z;refine Z.ct 45 ?_;refine wsr ?_;(iterate 2 refine Z.s ?_;clear Z;intro a Z);refine od ?_;refine wp_ret ?_
      try simp only[xt]
      refine bodyPost_ret (v:=.tuple #[.slice none 0 0,.int .i64 (C9 t from_ way).2]) ?_ Z.defers ⟨hI.below,_,rfl,by rw[hE.out];exact AU.nil,fun _=>rfl⟩;rw[hE.out];simp[results,Try.results65,Z.get 6 _ rfl,Z.get 7 _ rfl]
    ·obtain rfl:i=way.length:=by omega
     refine Z.e ?_;clear Z;intro a Z;refine wp_seq ?_;refine Z.cf 34 ?_;refine wp_exit ?_;have hE:=Lib.hid (HE.out.symm.trans (show DX t (way.take way.length) (way.drop way.length) at_ acc=(acc,0) from by rw[List.drop_of_length_le (Nat.le_refl _)];rfl));refine wsr ?_;(iterate 3 refine Z.s ?_;clear Z;intro a Z);refine od ?_;refine wp_ret ?_
     try simp only[xt]
     refine bodyPost_ret (v:=.tuple #[va,.int .i64 0]) ?_ Z.defers ⟨hI.below,va,by rw[hE.out],by rw[hE.out];exact AU.lower hO (by have:=hI.lb;omega),fun h=>HN.out (by rw[hE.out]at h;exact h)⟩;simp[results,Try.results65,Z.get 6 _ rfl,Z.get 7 _ rfl]
  ·rw[h2]at Z;have hE:=Lib.hid ((H9 (way:=way)).2.1 h1 h2);refine Z.e ?_;clear Z;intro a Z;refine Z.ct 27 ?_;refine wsr ?_;(iterate 2 refine Z.s ?_;clear Z;intro a Z);refine od ?_;refine wp_ret ?_
   try simp only[xt]
   refine bodyPost_ret (v:=.tuple #[.slice none 0 0,.int .i64 (C9 t from_ way).2]) ?_ Z.defers ⟨hI.below,_,rfl,by rw[hE.out];exact AU.nil,fun _=>rfl⟩;rw[hE.out];simp[results,Try.results65,Z.get 6 _ rfl,Z.get 7 _ rfl]
 ·have hne:=CB h1;have hE:=Lib.hid ((H9 (from_:=from_) (way:=way)).1 h1);refine Z.e ?_;clear Z;intro a Z;refine Z.ct 19 ?_;refine wsr ?_;(iterate 3 refine Z.s ?_;clear Z;intro a Z);refine od ?_;refine wp_ret ?_
  try simp only[xt]
  refine bodyPost_ret (v:=.tuple #[.slice none 0 0,.int .i64 (C9 t from_ way).2]) ?_ Z.defers ⟨hI.below,_,rfl,by rw[hE.out];exact AU.nil,fun _=>rfl⟩;rw[hE.out];simp[results,Try.results65,Z.get 6 _ rfl,Z.get 7 _ rfl]
end
end Go.Proofs.Ytgdobbcjkiapkaa
