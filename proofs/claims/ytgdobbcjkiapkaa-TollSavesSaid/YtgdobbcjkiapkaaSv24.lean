import Derived.Test.YtgdobbcjkiapkaaSv19
import Derived.Test.YtgdobbcjkiapkaaSv04
import Derived.Test.YtgdobbcjkiapkaaSv23
import Derived.Test.YtgdobbcjkiapkaaSv01
import Derived.RangeFuncNested
import Derived.RangeFuncBound
import Derived.RangeFuncCalls
import Derived.RangeFuncLeaves
import Derived.OrdersIn
import Derived.OwnWalkIn
import Derived.TacticsInMore
namespace Go.Proofs.Ytgdobbcjkiapkaa
set_option maxRecDepth 100000
set_option maxHeartbeats 4000000
set_option linter.unusedSimpArgs false
set_option linter.unusedVariables false
section
open Go.RowKit
open Go.ChangeMaps (setBlock)
theorem Tj {t:Ae}(hp:t.Aa.all AZ=true) (k:Int):DZ t (Ep t k t.Af.length):=by
 intro p hm;unfold Ep Kv at hm;simp only[List.mem_flatMap,List.mem_range]at hm;obtain⟨i,hi,o,ho,hm⟩:=hm;unfold Aab at hm
 split at hm
 ·rename_i hc
  simp only[List.mem_cons,List.not_mem_nil,or_false]at hm;have h1:=List.all_eq_true.1 hp _ (getD_mem ho);simp only[AZ,Bool.and_eq_true]at h1;have h2:=Am.1 h1.1;subst hm;exact pe0 (Am.2 (by dsimp only;omega)) (Am.2 (by dsimp only;omega)) (Am.2 (by dsimp only;omega))
 ·simp at hm
theorem MP {t:Ae}(hp:t.Aa.all AZ=true) (h4:t.Aa.length≤4) (h6:t.Af.length≤6):∀ (rest pre:List Int) (at_:Int) (acc:List Ar) (N:Nat),DZ t acc→acc.length+24*rest.length≤N→DZ t (DX t pre rest at_ acc).1∧(DX t pre rest at_ acc).1.length≤N
 | [],_,_,acc,N,hf,hn=>⟨hf,by simp at hn;exact hn⟩
 | k::rest,pre,at_,acc,N,hf,hn=>by
  have nil:∀ e:Int,DZ t (([],e):List Ar×Int).1∧(([],e):List Ar×Int).1.length≤N:=fun e=>⟨fun p h=>by simp at h,Nat.zero_le _⟩
  rw[DX]
  split
  ·exact nil _
  ·split
   ·exact nil _
   ·split
    ·exact nil _
    ·refine MP hp h4 h6 rest _ _ _ N (fun p h=>?_) ?_
     ·rcases List.mem_append.1 h with h|h
      ·exact hf p h
      ·exact Tj hp k p h
     ·have:=Jo t k t.Af.length;have h9:t.Af.length*t.Aa.length≤6*4:=Nat.mul_le_mul h6 h4;simp only[List.length_cons]at hn;rw[List.length_append];omega
theorem JX {t:Ae}(hT:Aq t=0) (from_:Int) (way:List Int):DZ t (C9 t from_ way).1∧(C9 t from_ way).1.length≤192:=by
 obtain⟨_,_,_,_,h4,hp,_,h6,_⟩:=AY hT;have nil:∀ e:Int,DZ t (([],e):List Ar×Int).1∧(([],e):List Ar×Int).1.length≤192:=fun e=>⟨fun p h=>by simp at h,Nat.zero_le _⟩
 unfold C9
 split
 ·exact nil _
 ·split
  ·exact nil _
  ·split
   ·exact nil _
   ·rename_i h8
    exact MP hp h4 h6 way [] from_ [] 192 (fun p h=>by simp at h) (by simp;omega)
theorem Fq.along {t:Ae}(hT:Aq t=0) (from_:Int) (way:List Int):Fq t (C9 t from_ way).1:=Fq.of hT (JX hT from_ way).1 (by have:=(JX hT from_ way).2;omega)
def OH (t:Ae) (from_:Int) (way:List Int):Int:=Dy (Eh t (C9 t from_ way).1) t.Aa.length
theorem VP {t:Ae}{l:List Ar}(h:Fq t l) {o:Nat}(ho:o<t.Aa.length):0≤Eh t l o∧Eh t l o≤200000000000*(t.Af.length:Int)+1:=by
 have:=CV (h.EJ ho) t.Af.length;unfold Eh A7 Hu
 omega
theorem TI.AbZ {w x:World}{bt:Nat}{t:Ae}{s:Dt}(h:TI w x bt t s) {g:Nat}(hg:bt<g) (o:Nat) (v:Value) (ht:Bf w t s):TI w (x.setCell ⟨g,o,none⟩ v) bt t s:=by
 have h1:=h.below.setCell (p:=⟨g,o,none⟩) (by have:=h.lb;show w.heap.size≤g;omega) v;exact⟨h1,ht.below h1,h.kb.far (by omega) _ _,h.lb⟩
theorem Sz:(fun r=>Try.f124.body=some (.seq (r 0) (.seq (r 1) (.seq (.seq (r 2) (.block 0 (.loop (.seq (r 3) (.seq (.cond (.tmp 13) .skip (.exit 0)) (.seq (.block 1 (.seq (r 4) (r 5))) (r 6))))))) (.seq (r 7) .ret))))) (Ac Try.f124):=by show _=_;kernel_rfl
def FZ (t:Ae):Flock:=⟨AL t.Aa,t.pace⟩
theorem UR {t:Ae}{s:Dt}{w:World}(ht:Bf w t s) (hT:Aq t=0):Calls Try.prog 124 #[.agg (CJ t s)] w (fun e w'=>e=.returned (.agg #[.int .i64 (FZ t).heads,.int .i64 (FZ t).pace])∧Below w.heap.size w w'):=by
 obtain⟨_,_,_,_,hl4,hpf,_,_,_⟩:=AY hT
 have hadd:∀ k (hk:k<t.Aa.length),IntKind.i64.wrap (AL (t.Aa.take k)+t.Aa[k].heads)=AL (t.Aa.take (k+1)):=fun k hk=>by
  have h1:(t.Aa.take k).all AZ=true:=by rw[List.all_eq_true]at hpf ⊢;exact fun x hx=>hpf x (List.mem_of_mem_take hx)
  have h2:=List.all_eq_true.1 hpf _ (List.getElem_mem hk);simp only[AZ,Bool.and_eq_true]at h2;exact RI (by omega) hk h1 h2.1
 have HADD:=Lib.hid hadd;clear hadd hpf hT;refine MW Try.func124 Sz Try.ntmps124 ?_;intro a Z;refine wsr ?_;refine Z.s ?_;clear Z;intro a Z;refine aw ?_;intro x hz X hb;have hI:=TI.made (Below.refl _ _) ht X hb;obtain⟨bt,hbt⟩:∃ b,b=w.heap.size:=⟨_,rfl⟩;rw[← hbt]at Z hI;clear hz X hb hbt;refine oz fun K hK=>?_
 obtain⟨ro,hg⟩:∃ b,b=x.heap.size:=⟨_,rfl⟩;go_simp;refine Z.K hK ?_;clear Z hK;intro a Z;refine aw ?_;have ho1:=hI.kb.lt;have ho2:=hI.below.size;intro x hz hR hb;replace hI:=hI.keep hb;rw[← hg]at Z hR;have hro:w.heap.size≤ro∧bt<ro:=by omega
 clear hz hb hg ho1 ho2;refine od ?_;refine wsr ?_;refine Z.s ?_;clear Z;intro a Z;refine Z.f hI.c3 ?_;clear Z;intro a Z;refine Z.s ?_;clear Z;intro a Z;refine oz fun K hK=>?_
 obtain⟨fo,hg⟩:∃ b,b=x.heap.size:=⟨_,rfl⟩;go_simp;refine Z.K hK ?_;clear Z hK;intro a Z;refine oz fun K hK=>?_
 have e3:=Z.g 3;have e8:=Z.g 8;go_simp;clear e3 e8;refine hK _ _ ?_;clear hK;refine aw ?_;have ho1:=hR.lt;intro x hz hF hb;replace hI:=hI.keep hb;replace hR:=hR.below hb;rw[← hg]at Z hF;have hfo:ro<fo:=by omega
 clear hz hb hg ho1;refine od ?_;refine wss ?_;refine Z.s ?_;clear Z;intro a Z;refine Z.f hI.c4 ?_;clear Z;intro a Z;(iterate 2 refine Z.s ?_;clear Z;intro a Z);refine od ?_;refine wp_block ?_;refine wp_loop_ghost (fun n p x=>∃ k:Nat,k+n=t.Aa.length∧Sl p 24 [(1,.pointer (some ⟨bt,0,none⟩)),(2,.pointer (some ⟨ro,0,none⟩)),(3,.pointer (some ⟨fo,0,none⟩)),(10,.slice s.pa t.Aa.length s.pc),(11,.int .i64 (t.Aa.length:Int)),(12,.int .i64 (k:Int))]∧TI w x bt t s∧Rw x ro #[.int .i64 0,.int .i64 0] 87∧Rw x fo #[.int .i64 (AL (t.Aa.take k)),.int .i64 t.pace] 87) t.Aa.length ⟨0,by omega,Z.sb,hI,hR,hF⟩ ?_;clear Z hI hR hF;rintro n a x ⟨k,hkn,Z,hI,hR,hF⟩;refine wsr ?_
 by_cases hlt:k<t.Aa.length
 ·have q1:(k:Int)<(t.Aa.length:Int):=by omega
  obtain⟨pb,po,hpa,p0,p1,p2⟩:=hI.tar.Aa.at hlt;rw[hpa]at Z;simp only[Xj]at p0 p1 p2;refine Z.e ?_;clear Z;intro a Z;refine wp_seq ?_;refine Z.ct 13 ?_;refine wp_skip ?_;refine wp_seq ?_;refine wp_block ?_;refine wsr ?_;(iterate 2 refine Z.s ?_;clear Z;intro a Z);refine oz fun K hK=>?_
  obtain⟨g,hg⟩:∃ b,b=x.heap.size:=⟨_,rfl⟩;go_simp;refine Z.K hK ?_;clear Z hK;intro a Z;refine oz fun K hK=>?_
  have e5:=Z.g 5;have e15:=Z.g 15;go_simp;clear e5 e15;refine hK _ _ ?_;clear hK;refine aw ?_;have hg3:=hF.lt;intro x hz G hb;replace hI:=hI.keep hb;replace hR:=hR.below hb;replace hF:=hF.below hb;rw[← hg]at Z G;clear hz hb hg p0 p1 p2;refine od ?_;refine wr ?_;refine Z.s ?_;clear Z;intro a Z;refine Z.f (hF.cell (o:=0) rfl) ?_;clear Z;intro a Z;refine Z.s ?_;clear Z;intro a Z;refine Z.f (G.cell (o:=0) rfl) ?_;clear Z;intro a Z;refine Z.f (HADD.out k hlt) ?_;clear Z;intro a Z;refine Z.s ?_;clear Z;intro a Z;refine oz fun K hK=>?_
  have e20:=Z.g 20;have e21:=Z.g 21;have f0:=hF.cell (o:=0) rfl;have fz:=hF.fz 0;go_simp;clear e20 e21;refine hK _ _ ?_;clear hK;clear f0 fz;replace hI:=hI.AbZ (g:=fo) (by omega) 0 (.int .i64 (AL (t.Aa.take (k+1)))) ht;replace hR:=hR.far (g:=fo) (by omega) 0 (.int .i64 (AL (t.Aa.take (k+1))));replace hF:=hF.set 0 (.int .i64 (AL (t.Aa.take (k+1))));clear G;refine od ?_;refine wr ?_;refine Z.f (Bz k (by omega)) ?_;clear Z;intro a Z;refine Z.e ?_;clear Z;intro a Z;show Exists _;exact⟨n-1,by omega,k+1,by omega,by rw[hpa];exact Z.sb,hI,hR,hF⟩
 ·obtain rfl:k=t.Aa.length:=by omega
  refine Z.e ?_;clear Z;intro a Z;refine wp_seq ?_;refine Z.cf 13 ?_;refine wp_exit ?_
  try simp only[xt,↓reduceIte,Nat.reduceEqDiff]
  rw[List.take_length]at hF;refine wsr ?_;refine oz fun K hK=>?_
  have e3:=Z.g 3;have f0:=hF.cell (o:=0) rfl;have f1:=hF.cell (o:=1) rfl;go_simp;refine Z.K hK ?_;clear Z hK;intro a Z;refine oz fun K hK=>?_
  have e2:=Z.g 2;have e23:=Z.g 23;have r0:=hR.cell (o:=0) rfl;have r1:=hR.cell (o:=1) rfl;have rz0:=hR.fz 0;have rz1:=hR.fz 1;go_simp;clear e2 e23;refine hK _ _ ?_;clear hK;clear r0 r1 rz0 rz1;replace hI:=(hI.AbZ (g:=ro) (by omega) 0 (.int .i64 (AL t.Aa)) ht).AbZ (g:=ro) (by omega) 1 (.int .i64 t.pace) ht;replace hR:=(hR.set 0 (.int .i64 (AL t.Aa))).set 1 (.int .i64 t.pace);refine od ?_;refine wp_ret ?_
  try simp only[xt]
  refine bodyPost_ret (v:=.agg #[.int .i64 (AL t.Aa),.int .i64 t.pace]) ?_ Z.defers ⟨rfl,hI.below⟩;simp[results,Try.results124,Z.get 2 _ rfl,go_sem,hR.cell (o:=0) rfl,hR.cell (o:=1) rfl]
theorem UW:(fun r=>Try.f82.body=some (.seq (r 0) (.seq (r 1) (.seq (r 2) (.seq (.seq (r 3) (.block 0 (.loop (.seq (r 4) (.seq (.cond (.tmp 28) .skip (.exit 0)) (.seq (.block 1 (.seq (r 5) (r 6))) (r 7))))))) (.seq (r 8) (.seq (.seq (r 9) (.block 2 (.loop (.seq (r 10) (.seq (.cond (.tmp 51) .skip (.exit 2)) (.seq (.block 3 (.seq (r 11) (r 12))) (r 13))))))) (.seq (r 14) .ret)))))))) (Ac Try.f82):=by show _=_;kernel_rfl
theorem Ab6 {w x:World}{bt bd mb g:Nat}{t:Ae}{s:Dt}{qs:List ((Int×Int)×Int)}{p:Ar}(I0:OI w x bt bd mb t s qs) (G0:Rw x g #[.int .i64 p.toll,.int .i64 p.owner,.int .i64 p.heads] 53) (hg:mb≠g) (hq0:0≤(atK qs (p.toll,p.owner)).getD 0) (hq1:(atK qs (p.toll,p.owner)).getD 0≤1000000) (hh:btw p.heads 1 40=true) (v3 v25 v26 v27:Value) (a:Act) (Z:Sl a 60 [(3,v3),(9,.pointer (some ⟨bd,0,none⟩)),(11,.pointer (some ⟨g,0,none⟩)),(25,v25),(26,v26),(27,v27)]) (Q:Exit→Act→World→Prop)
  (h:∀ a x2,Sl a 60 [(3,v3),(9,.pointer (some ⟨bd,0,none⟩)),(11,.pointer (some ⟨g,0,none⟩)),(25,v25),(26,v26),(27,v27)]→OI w x2 bt bd mb t s (RX qs (p.toll,p.owner) ((atK qs (p.toll,p.owner)).getD 0+p.heads))→(∀ w1:World,w1.heap.size≤mb→Below w1.heap.size w1 x→Below w1.heap.size w1 x2)→Q .normal a x2):(Ac Try.f82 6).wp Try.prog Q a x:=by
 have hB:∀ w1:World,w1.heap.size≤mb→Below w1.heap.size w1 x→Below w1.heap.size w1 x.drew:=fun w1 _ h=>h.drew
 rw[show Ac Try.f82 6=Code.region 6 _ true from rfl];refine Ic 15 (by kernel_rfl) rfl (by kernel_rfl) (by kernel_rfl) (Z) [some 31,some 32,some 33,some 34,some 35,some 36,some 37,some 38,some 39,some 40,some 41,some 42,some 43,some 44,some 45] rfl rfl (fun j v _=>match j with|0=>v=.pointer (some ⟨bd,0,none⟩)|1=>v=.pointer (some ⟨bd,0,none⟩)|2=>v=.pointer (some ⟨bd,6,none⟩)|3=>v=.map (some mb)|4=>v=.pointer (some ⟨g,0,none⟩)|5=>v=.int .i64 p.toll|6=>v=.pointer (some ⟨g,1,none⟩)|7=>v=.int .i64 p.owner|8=>v=.agg #[.int .i64 p.toll,.int .i64 p.owner]|9=>v=.int .i64 ((atK qs (p.toll,p.owner)).getD 0)|10=>v=.pointer (some ⟨g,2,none⟩)|11=>v=.int .i64 p.heads|12=>v=.int .i64 ((atK qs (p.toll,p.owner)).getD 0+p.heads)|13=>v=.tuple #[.int .i64 ((atK qs (p.toll,p.owner)).getD 0),.int .i64 (We qs (p.toll,p.owner):Nat)]|14=>v=.int .i64 (We qs (p.toll,p.owner):Nat)|_=>True) (fun L y=>OI w y bt bd mb t s (if L 13 then Qe qs (p.toll,p.owner) else qs)∧Rw y g #[.int .i64 p.toll,.int .i64 p.owner,.int .i64 p.heads] 53∧(∀ w1:World,w1.heap.size≤mb→Below w1.heap.size w1 x→Below w1.heap.size w1 y)) ⟨I0.drew,G0.below (Below.refl _ _).drew,hB⟩ ?_ ?_
 ·clear Z;intro k o hkl ho L a x hI hLk Z hs hd;have hlt:∀ k:Nat,k<15→k=0∨k=1∨k=2∨k=3∨k=4∨k=5∨k=6∨k=7∨k=8∨k=9∨k=10∨k=11∨k=12∨k=13∨k=14:=by decide
  rcases hlt k hkl with rfl|rfl|rfl|rfl|rfl|rfl|rfl|rfl|rfl|rfl|rfl|rfl|rfl|rfl|rfl
  ·obtain rfl:=Option.some.inj ho;have e9:=Z.g 9;clear hs hd;refine wz fun K hK=>?_
   go_simp;exact hK _ _ ⟨_,rfl,rfl,by simpa[BC] using hI,fun _ _ h=>h⟩
  ·obtain rfl:=Option.some.inj ho;obtain⟨_,e31,rfl⟩:=hs 0 _ 31 rfl rfl (hd 0 wm);clear hs hd;refine wz fun K hK=>?_
   go_simp;exact hK _ _ ⟨_,rfl,rfl,by simpa[BC] using hI,fun _ _ h=>h⟩
  ·obtain rfl:=Option.some.inj ho;obtain⟨_,e32,rfl⟩:=hs 1 _ 32 rfl rfl (hd 1 wm);clear hs hd;refine wz fun K hK=>?_
   go_simp;exact hK _ _ ⟨_,rfl,rfl,by simpa[BC] using hI,fun _ _ h=>h⟩
  ·obtain rfl:=Option.some.inj ho;obtain⟨_,e33,rfl⟩:=hs 2 _ 33 rfl rfl (hd 2 wm);have hc:=hI.1.kd.cell (o:=6) rfl;clear hs hd;refine wz fun K hK=>?_
   go_simp;exact hK _ _ ⟨_,rfl,rfl,by simpa[BC] using hI,fun _ _ h=>h⟩
  ·obtain rfl:=Option.some.inj ho;have e11:=Z.g 11;clear hs hd;refine wz fun K hK=>?_
   go_simp;exact hK _ _ ⟨_,rfl,rfl,by simpa[BC] using hI,fun _ _ h=>h⟩
  ·obtain rfl:=Option.some.inj ho;obtain⟨_,e35,rfl⟩:=hs 4 _ 35 rfl rfl (hd 4 wm);have hc:=hI.2.1.cell (o:=0) rfl;clear hs hd;refine wz fun K hK=>?_
   go_simp;exact hK _ _ ⟨_,rfl,rfl,by simpa[BC] using hI,fun _ _ h=>h⟩
  ·obtain rfl:=Option.some.inj ho;have e11:=Z.g 11;clear hs hd;refine wz fun K hK=>?_
   go_simp;exact hK _ _ ⟨_,rfl,rfl,by simpa[BC] using hI,fun _ _ h=>h⟩
  ·obtain rfl:=Option.some.inj ho;obtain⟨_,e37,rfl⟩:=hs 6 _ 37 rfl rfl (hd 6 wm);have hc:=hI.2.1.cell (o:=1) rfl;clear hs hd;refine wz fun K hK=>?_
   go_simp;exact hK _ _ ⟨_,rfl,rfl,by simpa[BC] using hI,fun _ _ h=>h⟩
  ·obtain rfl:=Option.some.inj ho;obtain⟨_,e36,rfl⟩:=hs 5 _ 36 rfl rfl (hd 5 wm);obtain⟨_,e38,rfl⟩:=hs 7 _ 38 rfl rfl (hd 7 wm);clear hs hd;refine wz fun K hK=>?_
   go_simp;exact hK _ _ ⟨_,rfl,rfl,by simpa[BC] using hI,fun _ _ h=>h⟩
  ·obtain rfl:=Option.some.inj ho;obtain⟨_,e34,rfl⟩:=hs 3 _ 34 rfl rfl (hd 3 wm);obtain⟨_,e39,rfl⟩:=hs 8 _ 39 rfl rfl (hd 8 wm);have hlk:=hI.1.look p.toll p.owner;have hsame:(atK (if L 13 then Qe qs (p.toll,p.owner) else qs) (p.toll,p.owner)).getD 0=(atK qs (p.toll,p.owner)).getD 0:=by by_cases c:L 13=true;(rw[if_pos c];exact(TM qs _).2.2.2);rw[if_neg c]
   rw[hsame]at hlk;clear hsame;clear hs hd;refine wz fun K hK=>?_
   go_simp;exact hK _ _ ⟨_,rfl,rfl,by simpa[BC] using hI,fun _ _ h=>h⟩
  ·obtain rfl:=Option.some.inj ho;have e11:=Z.g 11;clear hs hd;refine wz fun K hK=>?_
   go_simp;exact hK _ _ ⟨_,rfl,rfl,by simpa[BC] using hI,fun _ _ h=>h⟩
  ·obtain rfl:=Option.some.inj ho;obtain⟨_,e41,rfl⟩:=hs 10 _ 41 rfl rfl (hd 10 wm);have hc:=hI.2.1.cell (o:=2) rfl;clear hs hd;refine wz fun K hK=>?_
   go_simp;exact hK _ _ ⟨_,rfl,rfl,by simpa[BC] using hI,fun _ _ h=>h⟩
  ·obtain rfl:=Option.some.inj ho;obtain⟨_,e40,rfl⟩:=hs 9 _ 40 rfl rfl (hd 9 wm);obtain⟨_,e42,rfl⟩:=hs 11 _ 42 rfl rfl (hd 11 wm);have hw:IntKind.i64.wrap ((atK qs (p.toll,p.owner)).getD 0+p.heads)=(atK qs (p.toll,p.owner)).getD 0+p.heads:=IntWalk.i64_in _ (by have:=Am.1 hh;omega);clear hs hd;refine wz fun K hK=>?_
   go_simp;exact hK _ _ ⟨_,rfl,rfl,by simpa[BC] using hI,fun _ _ h=>h⟩
  ·obtain rfl:=Option.some.inj ho;obtain⟨_,e34,rfl⟩:=hs 3 _ 34 rfl rfl (hd 3 wm);obtain⟨_,e39,rfl⟩:=hs 8 _ 39 rfl rfl (hd 8 wm);rw[hLk]at hI;have hme:=(show OI w x bt bd mb t s qs from hI.1).entry p.toll p.owner;clear hs hd;refine wz fun K hK=>?_
   go_simp;refine hK _ _ ⟨_,rfl,rfl,⟨?_,hI.2.1.other _ hg,fun w1 h1 h2=>GU _ (hI.2.2 w1 h1 h2) h1⟩,fun _ _ h=>h⟩;have:=(show OI w x bt bd mb t s qs from hI.1).put (Qe qs (p.toll,p.owner))
   simpa[BC] using this
  ·obtain rfl:=Option.some.inj ho;obtain⟨_,e44,rfl⟩:=hs 13 _ 44 rfl rfl (hd 13 wm);clear hs hd;refine wz fun K hK=>?_
   go_simp;exact hK _ _ ⟨_,rfl,rfl,by simpa[BC] using hI,fun _ _ h=>h⟩
 ·clear Z;intro L a x hall hI Z hs;obtain⟨_,e34,rfl⟩:=hs 3 _ 34 rfl rfl (hall 3 (by decide));obtain⟨_,e43,rfl⟩:=hs 12 _ 43 rfl rfl (hall 12 (by decide));obtain⟨_,e45,rfl⟩:=hs 14 _ 45 rfl rfl (hall 14 (by decide));have I1:=hI.1;rw[hall 13 (by decide)]at I1;have hes:=(show OI w x bt bd mb t s (Qe qs (p.toll,p.owner)) from I1).store ((atK qs (p.toll,p.owner)).getD 0+p.heads);clear hs;refine wz fun K hK=>?_
  go_simp;refine hK _ _ (h _ _ Z ?_ (fun w1 h1 h2=>GU _ (hI.2.2 w1 h1 h2) h1));exact I1.put _
theorem ZH {t:Ae}{s:Dt}{w:World}{from_:Int}{way:List Int}{wa:Option Addr}{wc:Nat}(ht:Bf w t s) (hT:Aq t=0) (hw:AX w wa way) (hwc:way.length≤wc) (hwl:way.length≤1000000):Calls Try.prog 82 #[.agg (CJ t s),.int .i64 from_,.slice wa way.length wc] w (fun e w'=>e=.returned (.int .i64 (OH t from_ way))∧Below w.heap.size w w'):=by
 obtain⟨hfl,hll⟩:=JX hT from_ way;have hFL:=Fq.along hT from_ way;have hdb:=fun o (ho:o<t.Aa.length)=>VP hFL (o:=o) ho
 obtain⟨_,_,_,_,hl4,_,_,hl6,_⟩:=AY hT
 have hsb:∀ k,k≤t.Aa.length→0≤Dy (Eh t (C9 t from_ way).1) k∧Dy (Eh t (C9 t from_ way).1) k≤2000000000000*(k:Int):=fun k=>by
  induction k with
  | zero=>intro _;simp[Dy]
  | succ k ih=>intro hk;have h1:=ih (by omega);have h2:=hdb k (by omega);simp only[Dy];push_cast;omega
 have HSB:=Lib.hid hsb;have HDB:=Lib.hid hdb;have HF:=Lib.hid hfl;clear hsb hdb hfl;refine NU Try.func82 UW Try.ntmps82 ?_;intro a Z;refine wsr ?_;refine Z.s ?_;clear Z;intro a Z;refine aw ?_;intro x hz X hb;have hI:=TI.made (Below.refl _ _) ht X hb;obtain⟨bt,hbt⟩:∃ b,b=w.heap.size:=⟨_,rfl⟩;rw[← hbt]at Z hI;clear hz X hb hbt;refine Z.e ?_;clear Z;intro a Z;refine wsr ?_;refine oz fun K hK=>?_
 have e3:=Z.g 3;have c0:=hI.c0;have c1:=hI.c1;have c2:=hI.c2;have c3:=hI.c3;have c4:=hI.c4;have c5:=hI.c5;go_simp;refine Z.K hK ?_;clear Z hK;intro a Z;(iterate 2 refine Z.s ?_;clear Z;intro a Z);refine oz fun K hK=>?_
 have e15:=Z.g 15;have e16:=Z.g 16;have e17:=Z.g 17;go_simp;refine(NY hI.tar (hw.below hI.below) hwc hwl).mono ?_;rintro e x ⟨hb,va,rfl,hO,hnil⟩;replace hI:=hI.keep hb;obtain⟨la,lc,rfl,hlc,hlm,hl⟩:=Cc.at hO;obtain⟨l,hld⟩:∃ l,(C9 t from_ way).1=l:=⟨_,rfl⟩;rw[hld]at hll hFL hl hlc;clear hb hO hnil;refine Z.K hK ?_;clear Z hK;intro a Z;rw[hld]at Z;(iterate 5 refine Z.s ?_;clear Z;intro a Z);refine od ?_;refine wsr ?_;refine oz fun K hK=>?_
 have e3:=Z.g 3;have c0:=hI.c0;have c1:=hI.c1;have c2:=hI.c2;have c3:=hI.c3;have c4:=hI.c4;have c5:=hI.c5;go_simp;refine Z.K hK ?_;clear Z hK;intro a Z;refine Z.s ?_;clear Z;intro a Z;clear c0 c1 c2 c3 c4 c5;refine Po (G:=fun W=>wpOps _ _ _ _ _ W) ?_;have hzx:=hI.below.size;have hzt:=hI.kb.lt;obtain⟨mb,hmb⟩:∃ b,b=x.heap.size:=⟨_,rfl⟩;obtain⟨w1,hw1⟩:∃ w1,w1=x:=⟨_,rfl⟩;intro x hz M hb;replace hI:=hI.keep hb;rw[← hmb]at Z M hz;have hmt:mb≠bt:=by omega
 have hwm:w.heap.size≤mb:=by omega
 rw[← hw1]at hb hmb hl;have HB:=hb;have HZ:=Lib.hid hz;have HM1:=Lib.hid hmb;clear hb hmb hz hzx hzt hw1;(iterate 2 refine Z.s ?_;clear Z;intro a Z);refine aw ?_;obtain⟨bd,hbd⟩:∃ b,b=x.heap.size:=⟨_,rfl⟩;have hz:=HZ.out;intro x hz2 D hb;rw[← hbd]at Z D;have hO:OI w x bt bd mb t s []:=⟨hI.below.trans (hb.mono hI.below.size),hI.kb.below hb,D,M.below hb (by omega),hI.lb,by omega,hwm,hmt,by omega⟩;replace HB:=HB.trans (hb.mono HB.size);clear hI D M hz hz2 HZ hb hbd hmt hwm;have hI:=hO;clear hO;refine Z.e ?_;clear Z;intro a Z;refine wss ?_;(iterate 3 refine Z.s ?_;clear Z;intro a Z);refine od ?_;refine wp_block ?_;refine wp_loop_ghost (fun n p x=>∃ (k:Nat) (qs:List ((Int×Int)×Int)),k+n=l.length∧(∀ key,(atK qs key).getD 0=Au (l.take k) key)∧Sl p 60 [(3,.pointer (some ⟨bt,0,none⟩)),(9,.pointer (some ⟨bd,0,none⟩)),(25,.slice la l.length lc),(26,.int .i64 (l.length:Int)),(27,.int .i64 (k:Int))]∧OI w x bt bd mb t s qs∧Below w1.heap.size w1 x) l.length ⟨0,[],by omega,fun key=>rfl,Z.sb,hI,HB⟩ ?_;clear Z hI HB;rintro n a x ⟨k,qs,hkn,hS,Z,hI,HB⟩;have HS:=Lib.hid hS;clear hS;refine wsr ?_
 by_cases hlt:k<l.length
 ·have q1:(k:Int)<(l.length:Int):=by omega
  obtain⟨pb,po,hpa,p0,p1,p2⟩:=(hl.below HB).at hlt;rw[hpa]at Z;simp only[Oy]at p0 p1 p2;refine Z.e ?_;clear Z;intro a Z;refine wp_seq ?_;refine Z.ct 28 ?_;refine wp_skip ?_;refine wp_seq ?_;refine wp_block ?_;refine wsr ?_;(iterate 2 refine Z.s ?_;clear Z;intro a Z);refine oz fun K hK=>?_
  obtain⟨g,hg⟩:∃ b,b=x.heap.size:=⟨_,rfl⟩;go_simp;refine Z.K hK ?_;clear Z hK;intro a Z;refine oz fun K hK=>?_
  have e11:=Z.g 11;have e30:=Z.g 30;go_simp;clear e11 e30;refine hK _ _ ?_;clear hK;refine aw ?_;have hmg:mb≠g:=by have:=hI.mp.lt;omega
  intro x hz G hb;replace hI:=hI.keep hb;replace HB:=HB.trans (hb.mono HB.size);rw[← hg]at Z G;clear hz hb p0 p1 p2 hg;refine od ?_;have hs5:=HS.out (l[k].toll,l[k].owner);have hfk:DZ t (l.take k):=fun p hp=>HF.out p (by rw[hld];exact List.mem_of_mem_take hp)
  have h5:btw l[k].heads 1 40=true:=(Td (HF.out l[k] (by rw[hld];exact List.getElem_mem hlt))).2.2;have hb5:=EC hfk (l[k].toll,l[k].owner);have hlk5:(l.take k).length≤192:=by rw[List.length_take];omega
  refine Ab6 hI G hmg (by rw[hs5];exact hb5.1) (by rw[hs5];omega) h5 _ _ _ _ a Z.sb _ ?_;clear Z;intro a x2 Z hI2 hB2;replace HB:=hB2 w1 (by rw[HM1.out];exact Nat.le_refl _) HB;clear hI hB2 G;have hI:=hI2;clear hI2;rw[hs5]at hI;refine wr ?_;refine Z.f (Bz k (by omega)) ?_;clear Z;intro a Z;refine Z.e ?_;clear Z;intro a Z;show Exists _;exact⟨n-1,by omega,k+1,_,by omega,upd_sum hlt HS.out,by rw[hpa];exact Z.sb,hI,HB⟩
 ·obtain rfl:k=l.length:=by omega
  refine Z.e ?_;clear Z;intro a Z;refine wp_seq ?_;refine Z.cf 28 ?_;refine wp_exit ?_
  try simp only[xt,↓reduceIte,Nat.reduceEqDiff]
  rw[List.take_length]at HS;have hD:GL x bd mb t s l:=⟨hI.kd,qs,hI.mp,HS.out⟩;have HBW:=hI.below;refine wsr ?_;refine Z.e ?_;clear Z;intro a Z;refine wss ?_;refine Z.s ?_;clear Z;intro a Z;refine Z.f (hI.kb.cell (o:=4) rfl) ?_;clear Z;intro a Z;(iterate 2 refine Z.s ?_;clear Z;intro a Z);refine od ?_;refine wp_block ?_;refine wp_loop_ghost (fun n p x=>∃ k:Nat,k+n=t.Aa.length∧Sl p 60 [(9,.pointer (some ⟨bd,0,none⟩)),(12,.int .i64 (Dy (Eh t l) k)),(49,.int .i64 (t.Aa.length:Int)),(50,.int .i64 (k:Int))]∧GL x bd mb t s l∧Below w.heap.size w x) t.Aa.length ⟨0,by omega,Z.sb,hD,HBW⟩ ?_;clear Z hI HB hD HBW;rintro n a x ⟨k,hkn,Z,hD,HBW⟩;refine wsr ?_
  by_cases hlt:k<t.Aa.length
  ·have q1:(k:Int)<(t.Aa.length:Int):=by omega
   refine Z.e ?_;clear Z;intro a Z;refine wp_seq ?_;refine Z.ct 51 ?_;refine wp_skip ?_;refine wp_seq ?_;refine wp_block ?_;refine wsr ?_;(iterate 2 refine Z.s ?_;clear Z;intro a Z);refine od ?_;refine wr ?_;(iterate 3 refine Z.s ?_;clear Z;intro a Z);refine oz fun K hK=>?_
   have e54:=Z.g 54;have e55:=Z.g 55;go_simp;refine(XW (ht.below HBW) hD hFL hlt).mono ?_;rintro e x ⟨rfl,hb⟩;replace hD:=hD.below hb;replace HBW:=HBW.trans (hb.mono HBW.size);clear hb;refine Z.K hK ?_;clear Z hK;intro a Z;refine oz fun K hK=>?_
   have e53:=Z.g 53;have e56:=Z.g 56;have h1:=HSB.out k (by omega);have h2:=HDB.out k hlt;have hww:IntKind.i64.wrap (Dy (Eh t l) k+Eh t l k)=Dy (Eh t l) (k+1):=by rw[hld]at h1 h2;exact IntWalk.i64_in _ (by omega)
   go_simp;refine Z.K hK ?_;clear Z hK;intro a Z;refine Z.e ?_;clear Z;intro a Z;refine wr ?_;refine Z.f (Bz k (by omega)) ?_;clear Z;intro a Z;refine Z.e ?_;clear Z;intro a Z;show Exists _;exact⟨n-1,by omega,k+1,by omega,Z.sb,hD,HBW⟩
  ·obtain rfl:k=t.Aa.length:=by omega
   refine Z.e ?_;clear Z;intro a Z;refine wp_seq ?_;refine Z.cf 51 ?_;refine wp_exit ?_;refine wsr ?_;(iterate 2 refine Z.s ?_;clear Z;intro a Z);refine od ?_;refine wp_ret ?_
   try simp only[xt]
   refine bodyPost_ret (v:=.int .i64 (Dy (Eh t l) t.Aa.length)) ?_ Z.defers ⟨by rw[← hld];rfl,HBW⟩;simp[results,Try.results82,Z.get 6 _ rfl]
end
section
open Go.RowKit
def FW (r:Option Nat):Fence:={ Fence.wide with round:=r }
def Kz (o:Oper):Bool:=match o.op with
 | .defer _=>false
 | _=>true
section
variable {P:Program}{r:Option Nat}{n:Nat}
theorem PY {o:Oper}{a:Act}{w:World}{K:Act→World→Prop}{Q:Exit→Act→World→Prop}(hd:Kz o=true) (h:o.wp P a w K Q):o.wpIn (FW r) n P a w K Q:=by
 have hd':∀ c,o.op ≠ .defer c:=fun c e=>by simp[Kz,e]at hd
 unfold Oper.wp at h;refine⟨fun _ _=>trivial,?_⟩;rw[Oper.semAt_eq _ _ _ hd'];generalize (execOp a.eval o).run P w=x at h
 cases x with
 | ok x w' =>
  cases x with
  | value v=>exact h
  | skip=>exact h
  | defer d=>exact h
  | enter f args=>exact⟨fun h=>by simp[FW,Fence.wide]at h,callsIn_wide.2 h⟩
  | row row args=>exact⟨fun h=>by simp[FW,Fence.wide]at h,fun c cs _=>let ⟨v,w',q,s⟩:=h c cs;⟨v,w',q,stepsIn_wide.2 s⟩⟩
  | round _ _ _ _ _=>exact h.elim
  | _=>exact h
 | halt x w'=>cases x<;>exact h
variable {ops:Array Oper}{Q:Exit→Act→World→Prop}{i:Nat}{rest:List Nat}{o:Oper}{a:Act}{w:World}{m:List (Nat×Value)}{d:Nat}{v:Value}{N:Nat}
theorem BG (ho:ops[i]?=some o) (hg:o.guard=none) (hd:Kz o=true)
  (h:∀ K:Act→World→Prop,(∀ a w,wpOpsIn (FW r) n P ops Q rest a w→K a w)→o.wp P a w K Q):wpOpsIn (FW r) n P ops Q (i::rest) a w:=by
 rw[wpOpsIn,ho];simp only[Region.wanted,hg,if_true];exact PY hd (h _ fun _ _ h=>h)
theorem EE (h:Q .normal a w):wpOpsIn (FW r) n P ops Q [] a w:=h
theorem BU {k:Nat}{b:Bool}{ok:Oper}{t:Nat}(ho:ops[i]?=some o) (hg:o.guard=some (k,b)) (hd:Kz o=true) (hk:ops[k]?=some ok) (ht:ok.dst=some t) (hv:a.tmps[t]?=some (.bool b))
  (h:∀ K:Act→World→Prop,(∀ a w,wpOpsIn (FW r) n P ops Q rest a w→K a w)→o.wp P a w K Q):wpOpsIn (FW r) n P ops Q (i::rest) a w:=by
 rw[wpOpsIn,ho];simp only[Region.wanted,hg,yielded,hk,Option.bind_some,ht,hv,beq_self_eq_true,if_true];exact PY hd (h _ fun _ _ h=>h)
theorem Dn {k:Nat}{b c:Bool}{ok:Oper}{t:Nat}(ho:ops[i]?=some o) (hg:o.guard=some (k,b)) (hk:ops[k]?=some ok) (ht:ok.dst=some t) (hv:a.tmps[t]?=some (.bool c)) (hc:c≠b)
  (h:wpOpsIn (FW r) n P ops Q rest (a.put o.dst undef) w):wpOpsIn (FW r) n P ops Q (i::rest) a w:=by
 rw[wpOpsIn,ho];have hb:(some c == some b)=false:=by simpa using hc
 simp only[Region.wanted,hg,yielded,hk,Option.bind_some,ht,hv,hb,Bool.false_eq_true,if_false];exact⟨fun _ _=>trivial,h⟩
theorem Sl.kI (h:Sl a N m) {K:Act→World→Prop}(hK:∀ a w,wpOpsIn (FW r) n P ops Q rest a w→K a w) (hd:d<N) (hG:∀ a',Sl a' N ((d,v)::m)→wpOpsIn (FW r) n P ops Q rest a' w):K (a.put (some d) v) w:=hK _ _ (hG _ (h.put d v hd))
theorem U5 {l:Nat}{f:FuncId}{tmps:Array Value}{assign body:Code}{R:Ending→World→Prop}(h:RoundIn Fence.wide 0 P l f tmps assign body w R):RoundIn (FW r) n P l f tmps assign body w R :=
 ⟨trivial,fun c cs _=>h.2 c cs (room_wide _)⟩
theorem UH {k:Nat}{l:Nat}{args:Array Value}{R:Ending→World→Prop}(h:YieldAt Fence.wide k P l args w R):YieldAt Fence.wide 0 P l args w R:=by
 obtain⟨fn,tmps,assign,body,h1,h2⟩:=h;exact⟨fn,tmps,assign,body,h1,trivial,fun c cs _=>h2.2 c cs (room_wide _)⟩
theorem O0 {K:Act→World→Prop}{s t:Nat}{ats:Array TypeId}{l:Nat}{x:Value}{R:Ending→World→Prop}(hop:o.op=.call { callee:=.value (.tmp s),args:=#[.tmp t],argTypes:=ats }) (Es:a.tmps[s]?=some (.func (.yield l) #[] #[])) (Et:a.tmps[t]?=some x)
  (hy:YieldAt Fence.wide 0 P l #[x] w R) (h:∀ e w',R e w'→∃ u,e=.returned u∧K (a.put o.dst u) w'):o.wpIn (FW r) n P a w K Q:=by
 have ev:∀ {t:Nat}{v:Value},a.tmps[t]?=some v→a.eval (.tmp t)=v:=fun h=>by simp[Act.eval,Array.getD_eq_getD_getElem?,h]
 obtain⟨fn,tmps,assign,body,h1,h2⟩:=hy;refine⟨fun _ _=>trivial,?_⟩;rw[Oper.semAt_eq _ _ _ (fun c e=>by rw[hop]at e;simp at e)]
 have hrun:(execOp a.eval o).run P w=.ok (.round l fn tmps assign body) w:=by
  unfold execOp;simp only[hop,resolve,invoke,ev Es,Sem.run_bind,Sem.run_pure,Result.andThen_ok,List.map_toArray,List.map_cons,List.map_nil,ev Et]
  simpa[go_sem] using h1
 rw[hrun];refine⟨fun h=>by simp[FW,Fence.wide]at h,(U5 h2).mono fun e w' hR=>?_⟩;obtain⟨u,rfl,hk⟩:=h e w' hR;exact hk
theorem Nw {k:Nat}{b:Bool}{ok:Oper}{tt:Nat}{s t:Nat}{ats:Array TypeId}{l:Nat}{x:Value}{R:Ending→World→Prop}(ho:ops[i]?=some o) (hg:o.guard=some (k,b)) (hk:ops[k]?=some ok) (ht:ok.dst=some tt) (hv:a.tmps[tt]?=some (.bool b)) (hop:o.op=.call { callee:=.value (.tmp s),args:=#[.tmp t],argTypes:=ats }) (Es:a.tmps[s]?=some (.func (.yield l) #[] #[])) (Et:a.tmps[t]?=some x)
  (hy:YieldAt Fence.wide 0 P l #[x] w R) (h:∀ e w',R e w'→∃ u,e=.returned u∧wpOpsIn (FW r) n P ops Q rest (a.put o.dst u) w'):wpOpsIn (FW r) n P ops Q (i::rest) a w:=by
 rw[wpOpsIn,ho];simp only[Region.wanted,hg,yielded,hk,Option.bind_some,ht,hv,beq_self_eq_true,if_true];exact O0 hop Es Et hy h
theorem OQ (Inv:(Nat→Bool)→Act→World→Prop)
  (hs:∀ L a w i o,ops[i]?=some o→Inv L a w→L i=false→BP o L=true→wpOpIn (FW r) n P ops Q i (fun a' w'=>Inv (BC L i true) a' w') a w)
  (he:∀ listed a w,listed.size=ops.size→Inv (Dh listed) a w→Region.ready .any ops listed=[]→Q .normal a w):∀ (k:Nat) (listed:Array Bool) (a:Act) (w:World),listed.size=ops.size→OB ops.size listed≤k→Inv (Dh listed) a w→wpAnyIn (FW r) n P .any ops Q k listed a w
 | 0,listed,a,w,hsz,hn,hI=>by
  have h0:=Jm (ops:=ops) (listed:=listed) (by omega);exact⟨h0,he listed a w hsz hI h0⟩
 | k+1,listed,a,w,hsz,hn,hI=>by
  refine⟨fun h0=>he listed a w hsz hI h0,fun i hi=>?_⟩;obtain⟨o,ho,hlt,h1,h2⟩:=mem_ready hsz hi;refine wpOpIn_mono ?_ (hs _ a w i o ho hI h1 h2);intro a' w' hI';have hle:=KF hsz hi;exact OQ Inv hs he k _ a' w' (by simpa using hsz) (by omega) (by rw[KR (by omega)];exact hI')
theorem Oh {id:Nat}(hm:P.follows .mixedOrders=true) (Inv:(Nat→Bool)→Act→World→Prop)
  (h0:Inv (fun _=>false) a w.drew)
  (hs:∀ L a w i o,ops[i]?=some o→Inv L a w→L i=false→BP o L=true→wpOpIn (FW r) n P ops Q i (fun a' w'=>Inv (BC L i true) a' w') a w)
  (he:∀ L a w,(∀ i o,ops[i]?=some o→BP o L=true→L i=true)→Inv L a w→Q .normal a w):(Code.region id ops true).wpIn (FW r) n P Q a w:=by
 refine wpIn_region_any hm (OQ Inv hs ?_ ops.size _ a _ (by simp) (by rw[Io];exact Nat.le_refl _) ?_)
 ·intro listed a w hsz hI hr;refine he _ a w (fun i o ho hre=>?_) hI;have hlt:=(Array.getElem?_eq_some_iff.1 ho).1
  cases hl:Dh listed i
  ·exfalso
   have hm:i∈Region.ready .any ops listed:=by
    unfold Region.ready;rw[List.mem_filter,List.mem_range,Bool.and_eq_true];refine⟨hlt,?_,?_⟩
    ·have e:listed.getD i true=listed.getD i false:=by simp[Array.getD_eq_getD_getElem?,hsz,hlt]
     rw[e];unfold Dh at hl;rw[hl];rfl
    ·rw[ho];simpa[BP,Dh] using hre
   rw[hr]at hm;simp at hm
  ·rfl
 ·have e:Dh (Array.replicate ops.size false)=fun _=>false:=by
   funext k
   unfold Dh
   by_cases h:k<ops.size<;>simp[Array.getD_eq_getD_getElem?,h]
  rw[e];exact h0
theorem FM {K:Act→World→Prop}(ho:ops[i]?=some o) (hg:o.guard=none) (hd:Kz o=true) (h:∀ K':Act→World→Prop,(∀ a w,K a w→K' a w)→o.wp P a w K' Q):wpOpIn (FW r) n P ops Q i K a w:=by
 unfold wpOpIn;rw[ho];simp only[Region.wanted,hg,if_true];exact PY hd (h _ fun _ _ h=>h)
theorem Sj {K:Act→World→Prop}{s t:Nat}{ats:Array TypeId}{l:Nat}{x:Value}{R:Ending→World→Prop}(ho:ops[i]?=some o) (hg:o.guard=none) (hop:o.op=.call { callee:=.value (.tmp s),args:=#[.tmp t],argTypes:=ats }) (Es:a.tmps[s]?=some (.func (.yield l) #[] #[])) (Et:a.tmps[t]?=some x)
  (hy:YieldAt Fence.wide 0 P l #[x] w R) (h:∀ e w',R e w'→∃ u,e=.returned u∧K (a.put o.dst u) w'):wpOpIn (FW r) n P ops Q i K a w:=by
 unfold wpOpIn;rw[ho];simp only[Region.wanted,hg,if_true];exact O0 hop Es Et hy h
theorem Pz {id:Nat}(hm:P.follows .mixedOrders=true) (Z:Sl a N m) (ds:List (Option Nat)) (hds:ops.toList.map Oper.dst=ds) (hok:okD N (m.map Prod.fst) ds=true) (hdag:dag ops=true)
  (V:Nat→Value→World→Prop) (I:(Nat→Bool)→World→Prop) (hI:I (fun _=>false) w.drew)
  (hk:∀ (k:Nat) (o:Oper),k<ops.size→ops[k]?=some o→∀ L a w,I L w→L k=false→Sl a N m→EO ops V L a w→(∀ d∈waits o,L d=true)→wpOpIn (FW r) n P ops Q k (fun a' w'=>∃ v,a'=a.put o.dst v∧V k v w'∧I (BC L k true) w'∧∀ j u,V j u w→V j u w') a w)
  (he:∀ L a w,(∀ k,k<ops.size→L k=true)→I L w→Sl a N m→EO ops V L a w→Q .normal a w):(Code.region id ops true).wpIn (FW r) n P Q a w:=by
 have hd:∀ (j:Nat) (o:Oper),ops[j]?=some o→ds[j]?=some o.dst:=fun j o h=>by
  subst hds;rw[List.getElem?_map,Array.getElem?_toList,h];rfl
 refine Oh hm (fun L a' w'=>I L w'∧Sl a' N m∧EO ops V L a' w') ⟨hI,Z,fun j o d _ _ h=>by simp at h⟩ ?_ ?_
 ·rintro L a' w' i o ho ⟨h1,h2,h3⟩ hli hri;have hi:=(Array.getElem?_eq_some_iff.1 ho).1;refine wpOpIn_mono ?_ (hk i o hi ho L a' w' h1 hli h2 h3 (CX hri));rintro a2 w2 ⟨v,rfl,hv,hI2,hmono⟩;refine⟨hI2,?_,?_⟩
  ·cases e:o.dst with
   | none=>exact h2
   | some d =>
    have hdd:=hd i o ho;rw[e]at hdd;obtain⟨hlt,hnm⟩:=FY hok hdd;have hp:=h2.put d v hlt;refine⟨hp.size,hp.defers,fun t u hu=>hp.get t u ?_⟩;rw[List.lookup_cons]
    have e2:(t == d)=false:=by
     have:t≠d:=by rintro rfl;exact hnm (ES hu)
     simpa using this
    rw[e2];exact hu
  ·intro j o' d hj hjd hLj;have hdj:=hd j o' hj;rw[hjd]at hdj
   cases e:o.dst with
   | none =>
    have hne:j≠i:=by
     rintro rfl;rw[ho]at hj;obtain rfl:=Option.some.inj hj;rw[e]at hjd;simp at hjd
    rw[Ap _ _ hne]at hLj;obtain⟨u,hu,hvu⟩:=h3 j o' d hj hjd hLj;exact⟨u,hu,hmono _ _ hvu⟩
   | some x =>
    have hdi:=hd i o ho;rw[e]at hdi
    by_cases c:j=i
    ·subst c;rw[hdj]at hdi;obtain rfl:d=x:=by simpa using hdi
     obtain⟨hlt,_⟩:=FY hok hdj;exact⟨v,by simp[Act.put,h2.size,hlt],hv⟩
    ·rw[Ap _ _ c]at hLj;obtain⟨u,hu,hvu⟩:=h3 j o' d hj hjd hLj
     have hxd:x≠d:=by
      rintro rfl;exact c (Ky hok hdj hdi)
     refine⟨u,?_,hmono _ _ hvu⟩;simp only[Act.put];rw[Array.getElem?_setIfInBounds_ne hxd];exact hu
 ·rintro L a' w' hall ⟨h1,h2,h3⟩;exact he L a' w' (GY hdag hall) h1 h2 h3
end
def Dp (B:Nat) (w w':World):Prop:=w.heap.size≤w'.heap.size∧∀ k,B≤k→k<w.heap.size→w'.heap[k]?=w.heap[k]?
theorem Dp.refl (B:Nat) (w:World):Dp B w w:=⟨Nat.le_refl _,fun _ _ _=>rfl⟩
theorem Dp.trans {B:Nat}{w w1 w2:World}(h1:Dp B w w1) (h2:Dp B w1 w2):Dp B w w2:=⟨Nat.le_trans h1.1 h2.1,fun k hk hl=>(h2.2 k hk (Nat.lt_of_lt_of_le hl h1.1)).trans (h1.2 k hk hl)⟩
theorem Dp.mono {B B':Nat}{w w':World}(h:Dp B w w') (hB:B≤B'):Dp B' w w':=⟨h.1,fun k hk hl=>h.2 k (Nat.le_trans hB hk) hl⟩
theorem Below.XC {w w':World}(h:Below w.heap.size w w') (B:Nat):Dp B w w':=⟨h.size,fun k _ hl=>h.block k hl⟩
section
variable {α:Type}(own:α→Option Nat)
def N9 (pre:List α) (k:Nat):Prop:=∃ x∈pre,own x=some k
def Z4 (P:Program) (gf:FuncId) (cap:Array Value) (enc:α→Value) (Given:Nat→World→α→Prop) (Env:World→Prop) (Done:List α→Prop):Prop :=
 ∀ (l:Nat) (J:List α→World→Prop) (W:World),
  (∀ pre V,J pre V→Env V) →
  (∀ pre V V',J pre V→Below W.heap.size V V'→(∀ k,N9 own pre k→V'.heap[k]?=V.heap[k]?)→J pre V') →
  (∀ pre V,J pre V→W.heap.size≤V.heap.size∧∀ k,N9 own pre k→k<V.heap.size) →
  (∀ pre x V,J pre V→Given W.heap.size V x→YieldAt Fence.wide 0 P l #[enc x] V fun e V'=>e=.returned (.bool true)∧J (pre++[x]) V'∧Dp W.heap.size V V') →
  J [] W→Calls P gf (#[.func (.yield l) #[] #[]]++cap) W fun e W'=>(∃ v,e=.returned v)∧∃ pre,Done pre∧J pre W'
theorem DF {w V:World}{B:Nat}(h:Below B w V) {l:Nat}(o:Obj) (hl:B≤l):Below B w (V.putObj l o) :=
 h.trans ⟨rfl,rfl,rfl,by simp,fun _ hk=>World.putObj_heap_other (by omega)⟩
variable {own}
theorem L6 {P:Program}{g:Operand}{p:Nat}{assign body:Code}{Q:Exit→Act→World→Prop}{a:Act}{w:World}{gf:FuncId}{cap:Array Value}{enc:α→Value}{Given:Nat→World→α→Prop}{Env:World→Prop}{Done:List α→Prop}(hit:Z4 own P gf cap enc Given Env Done)
  (hg:a.eval g=.func (.func gf) #[] cap) (hinv:∀ (l:Nat) (W:World),(invoke (.fn (.func gf) cap) #[.func (.yield l) #[] #[]]).run P W=.ok (.enter gf (#[.func (.yield l) #[] #[]]++cap)) W)
  (I:List α→World→Prop) (hEnv:∀ pre V,I pre V→Env V)
  (hIk:∀ pre V V',I pre V→Below w.heap.size V V'→(∀ k,N9 own pre k→V'.heap[k]?=V.heap[k]?)→I pre V')
  (hIo:∀ pre V,I pre V→w.heap.size≤V.heap.size∧∀ k,N9 own pre k→∃ c t f,V.heap[k]?=some (.cells c t f))
  (hGo:∀ B V x k,Given B V x→own x=some k→k<V.heap.size)
  (h0:∀ W,Below w.heap.size w W→I [] W)
  (hround:∀ (l:Nat) pre x V rr,w.heap.size≤l→l<w.heap.size+2→I pre V→V.heap[l]?=some (.loop rr)→Given (w.heap.size+2) V x →
   assign.wpIn (FW (some l)) 3 P (Exit.then (fun a' V'=>Dp w.heap.size V V'∧∀ o,body.wpIn (FW (some l)) 3 P (fun e _ V''=>e=.normal∧Dp w.heap.size (V'.putObj l o) V''∧I (pre++[x]) V'') a' (V'.putObj l o)) (fun _ _ _=>False)) { tmps:=a.tmps.setIfInBounds p (enc x),defers:=[] } V)
  (hdone:∀ (D:Nat) pre (W:World),Done pre→I pre W→w.heap.size≤D→W.heap[D]?=some (.deferred (some []))→Q .normal { a with defers:={ target:=.collected D,args:=#[] }::a.defers } W) :
  (Code.rangeFunc g #[p] assign body).wp P Q a w:=by
 refine(wpIn_wide (n:=5)).1 (wpIn_rangeFunc ?_);intro fn hfn;obtain⟨rec,hrec⟩:∃ rec:LoopState→Option Code→Loop,rec=fun st pe=>{ state:=st,pending:=pe,fn,tmps:=a.tmps,params:=#[p],assign,body,defers:=w.heap.size }:=⟨_,rfl⟩
 obtain⟨W1,hW1⟩:∃ W1,(w.alloc (.deferred (some []))).alloc (.loop (rec .ready none))=W1:=⟨_,rfl⟩
 have hL1:W1.heap[w.heap.size+1]?=some (.loop (rec .ready none)):=by
  rw[← hW1];have:=World.alloc_heap_new (w.alloc (.deferred (some []))) (.loop (rec .ready none));rwa [World.size_alloc]at this
 have hK1:W1.heap[w.heap.size]?=some (.deferred (some [])):=by
  rw[← hW1];exact(Below.heap_alloc _ _ _ (by simp)).trans (World.alloc_heap_new w _)
 have hb1:Below w.heap.size w W1:=by
  rw[← hW1];exact((Below.refl _ w).alloc (Nat.le_refl _) _).alloc (by simp) _
 have hz1:W1.heap.size=w.heap.size+2:=by rw[← hW1];simp
 refine⟨w.heap.size+1,[{ target:=.collected w.heap.size,args:=#[] }],W1,{ target:=.fn (.func gf) cap,args:=#[.func (.yield (w.heap.size+1)) #[] #[]] },W1,gf,
  #[.func (.yield (w.heap.size+1)) #[] #[]]++cap,W1,?_,?_,?_,hinv _ _,fun _=>by omega,?_⟩
 ·rw[← hW1,hrec];exact run_enterLoop_outer _ _ _ _ _
 ·simp only[resolve,hg];simp[go_sem]
 ·intro f' hf';trivial
 ·refine callsIn_wide.2 ((hit (w.heap.size+1) (fun pre V=>I pre V∧V.heap[w.heap.size+1]?=some (.loop (rec .ready none))∧V.heap[w.heap.size]?=some (.deferred (some []))) W1
   (fun pre V h=>hEnv pre V h.1) ?_ ?_ ?_ ⟨h0 W1 hb1,hL1,hK1⟩).mono ?_)
  ·rintro pre V V' ⟨h1,h2,h3⟩ hb hk;exact⟨hIk pre V V' h1 (hb.mono (by omega)) hk,(hb.block _ (by omega)).trans h2,(hb.block _ (by omega)).trans h3⟩
  ·rintro pre V ⟨h1,h2,h3⟩;refine⟨by have:=(Array.getElem?_eq_some_iff.1 h2).1;omega,fun k hk=>?_⟩;obtain⟨c,t,f,h⟩:=(hIo pre V h1).2 k hk;exact(Array.getElem?_eq_some_iff.1 h).1
  ·rintro pre x V ⟨h1,h2,h3⟩ hgv;rw[hz1]at hgv;have hlt:w.heap.size+1<V.heap.size:=(Array.getElem?_eq_some_iff.1 h2).1;have hy:=run_yield (P:=P) (args:=#[enc x]) h2 (by rw[hrec];rfl);rw[hrec]at hy;have hy':(Instr.yield (w.heap.size+1) #[enc x]).run P V=.ok (.round (w.heap.size+1) fn (a.tmps.setIfInBounds p (enc x)) assign body) V:=by simpa using hy
   refine UH (k:=3) ⟨fn,_,assign,body,hy',roundIn_of_wpIn trivial ?_⟩;refine wpIn_mono (hround (w.heap.size+1) pre x V _ (by omega) (by omega) h1 h2 hgv) ?_;rintro e a' V' he
   cases e with
   | normal =>
    obtain⟨hkv,hbody⟩:=he;have h2':V'.heap[w.heap.size+1]?=some (.loop (rec .ready none)):=(hkv.2 _ (by omega) hlt).trans h2;have h3':V'.heap[w.heap.size]?=some (.deferred (some [])):=(hkv.2 _ (by omega) (by omega)).trans h3;refine⟨_,run_beginRound h2' (by rw[hrec]),?_⟩;obtain⟨V2,hV2⟩:∃ V2,V'.putObj (w.heap.size+1) (.loop { rec .ready none with state:=.busy })=V2:=⟨_,rfl⟩;have hlt':w.heap.size+1<V'.heap.size:=(Array.getElem?_eq_some_iff.1 h2').1;have hl2:V2.heap[w.heap.size+1]?=some (.loop { rec .ready none with state:=.busy }):=by rw[← hV2];exact World.putObj_heap_same hlt'
    have hk2:V2.heap[w.heap.size]?=some (.deferred (some [])):=by rw[← hV2];exact(World.putObj_heap_other (by omega)).trans h3'
    have ho2:∀ k,k≠w.heap.size+1→V2.heap[k]?=V'.heap[k]?:=fun k hk=>by rw[← hV2];exact World.putObj_heap_other hk
    have hs2:V2.heap.size=V'.heap.size:=by rw[← hV2];simp
    have hB:=hbody (.loop { rec .ready none with state:=.busy });rw[hV2]at hB ⊢;refine wpIn_mono hB ?_;rintro e a3 V3 ⟨rfl,hk3,hI3⟩;have hl3:V3.heap[w.heap.size+1]?=V2.heap[w.heap.size+1]?:=hk3.2 _ (by omega) (by omega);have hd3:V3.heap[w.heap.size]?=some (.deferred (some [])):=(hk3.2 _ (Nat.le_refl _) (by omega)).trans hk2
    have fin:(Instr.endRound (w.heap.size+1) none).run P V3=.ok (.bool true) (V3.putObj (w.heap.size+1) (.loop (rec .ready none))):=by
     have:=run_endRound (P:=P) none (hl3.trans hl2);rw[hrec]at this ⊢;exact this
    have hlt3:w.heap.size+1<V3.heap.size:=(Array.getElem?_eq_some_iff.1 (hl3.trans hl2)).1
    have hI4:I (pre++[x]) (V3.putObj (w.heap.size+1) (.loop (rec .ready none))):=by
     refine hIk _ V3 _ hI3 (DF (Below.refl _ _) _ (by omega)) fun k hk=>World.putObj_heap_other ?_
     rintro rfl;obtain⟨c,t,f,h⟩:=(hIo _ V3 hI3).2 _ hk;rw[hl3,hl2]at h;simp at h
    refine⟨_,_,fin,rfl,⟨hI4,World.putObj_heap_same hlt3,(World.putObj_heap_other (by omega)).trans hd3⟩,⟨by simp;have:=hk3.1;have:=hkv.1;omega,fun k hk1 hk2=>?_⟩⟩;rw[World.putObj_heap_other (by omega),hk3.2 k (by omega) (by have:=hkv.1;omega),ho2 k (by omega),hkv.2 k (by omega) hk2]
   | exit i=>exact he.elim
   | ret=>exact he.elim
   | goto t=>exact he.elim
   | panic ch=>exact he.elim
   | outgrown=>exact he.elim
  ·rintro e W2 ⟨⟨v,rfl⟩,pre,hd,hI2,hl2,hd2⟩;refine⟨none,_,by have:=run_endLoop (P:=P) hl2 (by rw[hrec];simp);rw[hrec]at this;exact this,hdone _ pre _ hd ?_ (Nat.le_refl _) ((World.putObj_heap_other (by omega)).trans hd2)⟩;refine hIk _ W2 _ hI2 (DF (Below.refl _ _) _ (by omega)) fun k hk=>World.putObj_heap_other ?_
   rintro rfl;obtain⟨c,t,f,h⟩:=(hIo _ W2 hI2).2 _ hk;rw[hl2]at h;simp at h
end
end
end Go.Proofs.Ytgdobbcjkiapkaa
