import Derived.Test.YtgdobbcjkiapkaaSv19
import Derived.Test.YtgdobbcjkiapkaaSv04
import Derived.Test.YtgdobbcjkiapkaaSv32
import Derived.Test.YtgdobbcjkiapkaaSv33
import Derived.KernelRfl
namespace Go.Proofs.Ytgdobbcjkiapkaa
set_option maxRecDepth 100000
set_option maxHeartbeats 4000000
set_option linter.unusedSimpArgs false
set_option linter.unusedVariables false
section
open Go.RowKit
def KH (t:Ae) (way:List Int) (o:Nat) (n:Int) (i:Nat):Int:=if (t.Af.getD i default).strip∈way then ofV (t.Aa.getD o default).free (t.Aa.getD o default).half n (t.Af.getD i default).rate else 0
def JU (t:Ae) (way:List Int) (o:Nat) (n:Int):Int:=A7 (Dy (KH t way o n) t.Af.length)
def headGo (f:Int→Int) (c:Int):Nat→Int
 | 0=>0
 | n+1=>if f ((n+1:Nat):Int)≤c then ((n+1:Nat):Int) else headGo f c n
def IG (t:Ae) (from_:Int) (way:List Int) (o c:Int):Int×Int :=
 if (C9 t from_ way).2=0 then (if btw o 0 ((t.Aa.length:Int)-1)=true then (if c<0 then (0,1) else (headGo (JU t way o.toNat) c 40,0)) else (0,3)) else (0,(C9 t from_ way).2)
def Abz (t:Ae) (s:Dt):Array Value:=#[.int .i64 t.roads.days,.int .i64 t.roads.stages,.slice s.sa t.roads.strips.length s.sc,.int .i64 t.pace,.slice s.pa t.Aa.length s.pc,.slice s.ta t.Af.length s.tc,.map none]
structure V8 (t:Ae) (s:Dt) (way:List Int) (wa:Option Addr) (wc bd bw bt bp:Nat) (w:World):Prop where
 tar:Bf w t s
 kw:Rw w bw #[.slice wa way.length wc] 29
 kt:Rw w bt (CJ t s) 28
 kp:Rw w bp #[.pointer (some ⟨bd,0,none⟩)] 100
 kd:Rw w bd (Abz t s) 103
 ia:AX w wa way
theorem V8.below {t:Ae}{s:Dt}{way:List Int}{wa:Option Addr}{wc bd bw bt bp:Nat}{w w':World}(h:V8 t s way wa wc bd bw bt bp w) (hb:Below w.heap.size w w'):V8 t s way wa wc bd bw bt bp w':=⟨h.tar.below hb,h.kw.below hb,h.kt.below hb,h.kp.below hb,h.kd.below hb,h.ia.below hb⟩
theorem KG {t:Ae}{way:List Int}{o:Nat}{n:Int}(h:Fq t []) (ho:o<t.Aa.length) (h0:0≤n) (h1:n≤40) (i:Nat):0≤KH t way o n i∧KH t way o n i≤200000000000:=by
 have hr:0≤(t.Af.getD i default).rate∧(t.Af.getD i default).rate≤100000:=by
  rw[List.getD_eq_getElem?_getD]
  cases hk:t.Af[i]? with
  | none=>simp[show (default:BA).rate=0 from rfl]
  | some x=>exact h.rt x (List.mem_of_getElem? hk)
 unfold KH
 split
 ·exact Hg (h.pf _ (getD_mem ho)).1 h0 (by omega) hr.1 hr.2
 ·exact⟨by omega,by omega⟩
theorem Fq.nil {t:Ae}(hT:Aq t=0):Fq t []:=Fq.of hT (fun p h=>by simp at h) (by simp)
theorem TA {f:Int→Int}{c:Int}{n:Nat}(h0:0<n) (h:f (n:Int)≤c):headGo f c n=(n:Int):=by
 cases n with
 | zero=>omega
 | succ n=>exact if_pos h
theorem TC {f:Int→Int}{c:Int}{n:Nat}(h0:0<n) (h:¬ f (n:Int)≤c):headGo f c n=headGo f c (n-1):=by
 cases n with
 | zero=>omega
 | succ n=>exact if_neg h
theorem Qx:(fun r=>Try.f68.body=some (.seq (r 0) (.seq (.seq (r 1) (.cond (.tmp 17) (.seq (r 2) .ret) .skip)) (.seq (r 3) .ret)))) (Ac Try.f68):=by show _=_;kernel_rfl
theorem VF {t:Ae}{s:Dt}{way:List Int}{wa:Option Addr}{wc bd bw bt bp bn o i:Nat}{n:Int}{w:World}(hE:V8 t s way wa wc bd bw bt bp w) (kn:Rw w bn #[.int .i64 n] 3) (hF:Fq t []) (ho:o<t.Aa.length) (hj:i<t.Af.length) (hn0:0≤n) (hn1:n≤40) (hwl:way.length≤1000000):Calls Try.prog 68 #[.int .i64 (o:Int),.int .i64 (i:Int),.pointer (some ⟨bw,0,none⟩),.pointer (some ⟨bt,0,none⟩),.pointer (some ⟨bp,0,none⟩),.pointer (some ⟨bn,0,none⟩)] w (fun e w'=>e=.returned (.int .i64 (KH t way o n i))∧Below w.heap.size w w'):=by
 obtain⟨pb,po,hpa,p0,p1,p2⟩:=hE.tar.Aa.at ho;obtain⟨tb,to_,hta,r0,r1,_⟩:=hE.tar.Af.at hj;simp only[Xj,MQ]at p0 p1 p2 r0 r1;have d5:=hE.kd.cell (o:=5) rfl;have t4:=hE.kt.cell (o:=4) rfl;have t5:=hE.kt.cell (o:=5) rfl
 change w.cell? _=some (.slice s.pa t.Aa.length s.pc) at t4
 change w.cell? _=some (.slice s.ta t.Af.length s.tc) at t5
 change w.cell? _=some (.slice s.ta t.Af.length s.tc) at d5
 rw[hpa]at t4;rw[hta]at t5 d5;have b1:=hF.pf _ (List.getElem_mem ho);have b2:=hF.rt _ (List.getElem_mem hj);have HE:=Lib.hid (show KH t way o n i=if t.Af[i].strip∈way then ofV t.Aa[o].free t.Aa[o].half n t.Af[i].rate else 0 from by unfold KH;rw[getD_at ho,getD_at hj]);have HO:=Lib.hid (Aa2.mk (w:=w) d5 r1 hj);have HP:=Lib.hid (And.intro p0 (And.intro p1 p2));have HD:=Lib.hid (And.intro t4 (And.intro t5 r0));have W0:=hE.kw.cell (o:=0) rfl;have P0:=hE.kp.cell (o:=0) rfl;have N0:=kn.cell (o:=0) rfl;have HC:=Lib.hid (And.intro W0 (And.intro P0 N0));have IA:=hE.ia;clear p0 p1 p2 r0 r1 t4 t5 d5 hpa hta hE kn W0 P0 N0;refine calls_of_wp Try.func68 Qx ?_
 have Z:Sl (⟨#[.int .i64 (o:Int),.int .i64 (i:Int),.pointer (some ⟨bw,0,none⟩),.pointer (some ⟨bt,0,none⟩),.pointer (some ⟨bp,0,none⟩),.pointer (some ⟨bn,0,none⟩)]++Array.replicate (Try.f68.ntmps-(#[.int .i64 (o:Int),.int .i64 (i:Int),.pointer (some ⟨bw,0,none⟩),.pointer (some ⟨bt,0,none⟩),.pointer (some ⟨bp,0,none⟩),.pointer (some ⟨bn,0,none⟩)]:Array Value).size) undef,[]⟩:Act) 27 [(0,.int .i64 (o:Int)),(1,.int .i64 (i:Int)),(2,.pointer (some ⟨bw,0,none⟩)),(3,.pointer (some ⟨bt,0,none⟩)),(4,.pointer (some ⟨bp,0,none⟩)),(5,.pointer (some ⟨bn,0,none⟩))]:=by rw[Try.ntmps68];exact Sl.Uw [.int .i64 (o:Int),.int .i64 (i:Int),.pointer (some ⟨bw,0,none⟩),.pointer (some ⟨bt,0,none⟩),.pointer (some ⟨bp,0,none⟩),.pointer (some ⟨bn,0,none⟩)] (by simp only[List.length_cons,List.length_nil];omega)
 revert Z;generalize (Act.mk _ _)=a;intro Z;refine wsr ?_;refine Z.e ?_;clear Z;intro a Z
 try simp only[xt,↓reduceIte,Nat.reduceEqDiff]
 refine wp_seq ?_;refine wp_seq ?_;rw[show Ac Try.f68 1=Code.region 1 _ true from rfl];refine D8 (by kernel_rfl) (((((((Z.nil.cons (Z.g 5)).cons (Z.g 4)).cons (Z.g 0)).cons (Z.g 3)).cons (Z.g 2)).cons (Z.g 1))) [some 9,some 10,some 11,some 12,some 13,some 14,some 15,some 16,some 17] rfl rfl (by kernel_rfl) (fun j v _=>match j with|0=>v=.slice wa way.length wc|1=>v=.pointer (some ⟨bt,5,none⟩)|2=>v=.slice (some ⟨tb,to_,none⟩) t.Af.length s.tc|3=>v=.int .i64 (i:Int)|4=>v=.pointer (some ⟨tb,to_+i*3,none⟩)|5=>v=.pointer (some ⟨tb,to_+i*3,none⟩)|6=>v=.int .i64 t.Af[i].strip|7=>v=.bool (decide (t.Af[i].strip∈way))|8=>v=.bool (!decide (t.Af[i].strip∈way))|_=>True) (fun _ x=>Below w.heap.size w x) ((Below.refl _ _).drew) ?_ ?_
 ·clear Z;intro k o hkl ho L a x hI hLk Z hs hd;have hlt:∀ k:Nat,k<9→k=0∨k=1∨k=2∨k=3∨k=4∨k=5∨k=6∨k=7∨k=8:=by decide
  rcases hlt k hkl with rfl|rfl|rfl|rfl|rfl|rfl|rfl|rfl|rfl
  ·obtain rfl:=Option.some.inj ho;have e2:=Z.g 2;have c:=((Ef hI).1 _ _ (lt_of_cell HC.out.1)).trans HC.out.1;clear hs hd;refine wz fun K hK=>?_
   go_simp;exact hK _ _ ⟨_,rfl,rfl,hI,fun _ _ h=>h⟩
  ·obtain rfl:=Option.some.inj ho;have e3:=Z.g 3;clear hs hd;refine wz fun K hK=>?_
   go_simp;exact hK _ _ ⟨_,rfl,rfl,hI,fun _ _ h=>h⟩
  ·obtain rfl:=Option.some.inj ho;obtain⟨_,e10,rfl⟩:=hs 1 _ 10 rfl rfl (hd 1 wm);have c:=((Ef hI).1 _ _ (lt_of_cell HD.out.2.1)).trans HD.out.2.1;clear hs hd;refine wz fun K hK=>?_
   go_simp;exact hK _ _ ⟨_,rfl,rfl,hI,fun _ _ h=>h⟩
  ·obtain rfl:=Option.some.inj ho;have e1:=Z.g 1;clear hs hd;refine wz fun K hK=>?_
   go_simp;exact hK _ _ ⟨_,rfl,rfl,hI,fun _ _ h=>h⟩
  ·obtain rfl:=Option.some.inj ho;obtain⟨_,e11,rfl⟩:=hs 2 _ 11 rfl rfl (hd 2 wm);obtain⟨_,e12,rfl⟩:=hs 3 _ 12 rfl rfl (hd 3 wm);have q1:=hj;clear hs hd;refine wz fun K hK=>?_
   go_simp;exact hK _ _ ⟨_,rfl,rfl,hI,fun _ _ h=>h⟩
  ·obtain rfl:=Option.some.inj ho;obtain⟨_,e13,rfl⟩:=hs 4 _ 13 rfl rfl (hd 4 wm);clear hs hd;refine wz fun K hK=>?_
   go_simp;exact hK _ _ ⟨_,rfl,rfl,hI,fun _ _ h=>h⟩
  ·obtain rfl:=Option.some.inj ho;obtain⟨_,e14,rfl⟩:=hs 5 _ 14 rfl rfl (hd 5 wm);have c:=((Ef hI).1 _ _ (lt_of_cell HD.out.2.2)).trans HD.out.2.2;clear hs hd;refine wz fun K hK=>?_
   go_simp;exact hK _ _ ⟨_,rfl,rfl,hI,fun _ _ h=>h⟩
  ·obtain rfl:=Option.some.inj ho;obtain⟨_,e9,rfl⟩:=hs 0 _ 9 rfl rfl (hd 0 wm);obtain⟨_,e15,rfl⟩:=hs 6 _ 15 rfl rfl (hd 6 wm);clear hs hd;refine wz fun K hK=>?_
   go_simp;refine(ML (IA.below hI) hwl).mono ?_;rintro e x2 ⟨rfl,rfl⟩;exact hK _ _ ⟨_,rfl,rfl,hI,fun _ _ h=>h⟩
  ·obtain rfl:=Option.some.inj ho;obtain⟨_,e16,rfl⟩:=hs 7 _ 16 rfl rfl (hd 7 wm);clear hs hd;refine wz fun K hK=>?_
   go_simp;exact hK _ _ ⟨_,rfl,rfl,hI,fun _ _ h=>h⟩
 ·clear Z;intro L a x hall hI Z hs;obtain⟨_,e17,rfl⟩:=hs 8 _ 17 rfl rfl (hall 8 (by decide));replace Z:=(Z.cons e17);clear hs hall e17
  by_cases hm:t.Af[i].strip∈way
  ·rw[decide_eq_true hm]at Z;replace Z:=((((((Z.nil.cons (Z.g 5)).cons (Z.g 4)).cons (Z.g 3)).cons (Z.g 2)).cons (Z.g 1)).cons (Z.g 0)).cons (t:=17) (v:=.bool false) (Z.g 17)
   try simp only[xt,↓reduceIte,Nat.reduceEqDiff]
   refine Z.cs 17 ?_
   try simp only[xt,↓reduceIte,Nat.reduceEqDiff]
   refine wp_seq ?_;rw[show Ac Try.f68 3=Code.region 3 _ true from rfl];refine D8 (by kernel_rfl) ((((((Z.nil.cons (Z.g 5)).cons (Z.g 4)).cons (Z.g 3)).cons (Z.g 1)).cons (Z.g 0))) [some 18,some 19,some 20,some 21,some 22,some 23,some 24,some 25,some 26,some 8] rfl rfl (by kernel_rfl) (fun j v _=>match j with|0=>v=.pointer (some ⟨bd,0,none⟩)|1=>v=.pointer (some ⟨bt,4,none⟩)|2=>v=.slice (some ⟨pb,po,none⟩) t.Aa.length s.pc|3=>v=.int .i64 (o:Int)|4=>v=.pointer (some ⟨pb,po+o*3,none⟩)|5=>v=.agg #[.int .i64 t.Aa[o].heads,.int .i64 t.Aa[o].free,.bool t.Aa[o].half]|6=>v=.int .i64 (i:Int)|7=>v=.int .i64 n|8=>v=.int .i64 (ofV t.Aa[o].free t.Aa[o].half n t.Af[i].rate)|9=>v=.int .i64 (ofV t.Aa[o].free t.Aa[o].half n t.Af[i].rate)|_=>True) (fun _ x=>Below w.heap.size w x) (hI.drew) ?_ ?_
   ·clear Z;intro k o hkl ho L a x hI hLk Z hs hd;have hlt:∀ k:Nat,k<10→k=0∨k=1∨k=2∨k=3∨k=4∨k=5∨k=6∨k=7∨k=8∨k=9:=by decide
    rcases hlt k hkl with rfl|rfl|rfl|rfl|rfl|rfl|rfl|rfl|rfl|rfl
    ·obtain rfl:=Option.some.inj ho;have e4:=Z.g 4;have c:=((Ef hI).1 _ _ (lt_of_cell HC.out.2.1)).trans HC.out.2.1;clear hs hd;refine wz fun K hK=>?_
     go_simp;exact hK _ _ ⟨_,rfl,rfl,hI,fun _ _ h=>h⟩
    ·obtain rfl:=Option.some.inj ho;have e3:=Z.g 3;clear hs hd;refine wz fun K hK=>?_
     go_simp;exact hK _ _ ⟨_,rfl,rfl,hI,fun _ _ h=>h⟩
    ·obtain rfl:=Option.some.inj ho;obtain⟨_,e19,rfl⟩:=hs 1 _ 19 rfl rfl (hd 1 wm);have c:=((Ef hI).1 _ _ (lt_of_cell HD.out.1)).trans HD.out.1;clear hs hd;refine wz fun K hK=>?_
     go_simp;exact hK _ _ ⟨_,rfl,rfl,hI,fun _ _ h=>h⟩
    ·obtain rfl:=Option.some.inj ho;have e0:=Z.g 0;clear hs hd;refine wz fun K hK=>?_
     go_simp;exact hK _ _ ⟨_,rfl,rfl,hI,fun _ _ h=>h⟩
    ·obtain rfl:=Option.some.inj ho;obtain⟨_,e20,rfl⟩:=hs 2 _ 20 rfl rfl (hd 2 wm);obtain⟨_,e21,rfl⟩:=hs 3 _ 21 rfl rfl (hd 3 wm);have q1:=ho;clear hs hd;refine wz fun K hK=>?_
     go_simp;exact hK _ _ ⟨_,rfl,rfl,hI,fun _ _ h=>h⟩
    ·obtain rfl:=Option.some.inj ho;obtain⟨_,e22,rfl⟩:=hs 4 _ 22 rfl rfl (hd 4 wm);have c0:=((Ef hI).1 _ _ (lt_of_cell HP.out.1)).trans HP.out.1;have c1:=((Ef hI).1 _ _ (lt_of_cell HP.out.2.1)).trans HP.out.2.1;have c2:=((Ef hI).1 _ _ (lt_of_cell HP.out.2.2)).trans HP.out.2.2;clear hs hd;refine wz fun K hK=>?_
     go_simp;exact hK _ _ ⟨_,rfl,rfl,hI,fun _ _ h=>h⟩
    ·obtain rfl:=Option.some.inj ho;have e1:=Z.g 1;clear hs hd;refine wz fun K hK=>?_
     go_simp;exact hK _ _ ⟨_,rfl,rfl,hI,fun _ _ h=>h⟩
    ·obtain rfl:=Option.some.inj ho;have e5:=Z.g 5;have c:=((Ef hI).1 _ _ (lt_of_cell HC.out.2.2)).trans HC.out.2.2;clear hs hd;refine wz fun K hK=>?_
     go_simp;exact hK _ _ ⟨_,rfl,rfl,hI,fun _ _ h=>h⟩
    ·obtain rfl:=Option.some.inj ho;obtain⟨_,e18,rfl⟩:=hs 0 _ 18 rfl rfl (hd 0 wm);obtain⟨_,e23,rfl⟩:=hs 5 _ 23 rfl rfl (hd 5 wm);obtain⟨_,e24,rfl⟩:=hs 6 _ 24 rfl rfl (hd 6 wm);obtain⟨_,e25,rfl⟩:=hs 7 _ 25 rfl rfl (hd 7 wm);clear hs hd;refine wz fun K hK=>?_
     go_simp;refine(Aac (HO.out.below hI) b1.1 b1.2 hn0 (by omega) b2.1 b2.2).mono ?_;rintro e x2 ⟨rfl,hb⟩;replace hI:=hI.trans (hb.mono hI.size);exact hK _ _ ⟨_,rfl,rfl,hI,fun _ _ h=>h⟩
    ·obtain rfl:=Option.some.inj ho;obtain⟨_,e26,rfl⟩:=hs 8 _ 26 rfl rfl (hd 8 wm);clear hs hd;refine wz fun K hK=>?_
     go_simp;exact hK _ _ ⟨_,rfl,rfl,hI,fun _ _ h=>h⟩
   ·clear Z;intro L a x hall hI Z hs;obtain⟨_,e8,rfl⟩:=hs 9 _ 8 rfl rfl (hall 9 (by decide));replace Z:=(Z.cons e8);clear hs hall e8
    try simp only[xt,↓reduceIte,Nat.reduceEqDiff]
    refine wp_ret ?_
    try simp only[xt,↓reduceIte,Nat.reduceEqDiff]
    exact Z.rt (v:=.int .i64 _) 8 ⟨congrArg (fun z=>Ending.returned (.int .i64 z)) (HE.out.trans (if_pos hm)).symm,hI⟩
  ·rw[decide_eq_false hm]at Z;replace Z:=((((((Z.nil.cons (Z.g 5)).cons (Z.g 4)).cons (Z.g 3)).cons (Z.g 2)).cons (Z.g 1)).cons (Z.g 0)).cons (t:=17) (v:=.bool true) (Z.g 17)
   try simp only[xt,↓reduceIte,Nat.reduceEqDiff]
   refine Z.ct 17 ?_;refine wsr ?_;refine Z.e ?_;clear Z;intro a Z
   try simp only[xt,↓reduceIte,Nat.reduceEqDiff]
   refine wp_ret ?_
   try simp only[xt,↓reduceIte,Nat.reduceEqDiff]
   exact Z.rt (v:=.int .i64 _) 8 ⟨congrArg (fun z=>Ending.returned (.int .i64 z)) (HE.out.trans (if_neg hm)).symm,hI⟩
theorem Sv:(fun r=>Try.f25.body=some (.seq (r 0) (.seq (.seq (r 1) (.seq (r 2) (.cond (.tmp 25) (.seq (r 3) .ret) .skip))) (.seq (r 4) (.seq (.seq (r 5) (.cond (.tmp 33) (.seq (r 6) .ret) .skip)) (.seq (.seq (r 7) (.cond (.tmp 35) (.seq (r 8) .ret) .skip)) (.seq (.seq (r 9) (.block 0 (.loop (.seq (.seq (r 10) (.cond (.tmp 37) .skip (.exit 0))) (.seq (.block 1 (.seq (r 12) (.seq (r 13) (.cond (.tmp 47) (.seq (r 14) .ret) .skip)))) (.seq (.seq (r 15) (r 16)) (r 11))))))) (.seq (r 17) .ret)))))))) (Ac Try.f25):=by show _=_;kernel_rfl
theorem XI {t:Ae}{s:Dt}{w:World}{from_ o c:Int}{way:List Int}{wa:Option Addr}{wc:Nat}(ht:Bf w t s) (hw:AX w wa way) (hwc:way.length≤wc) (hwl:way.length≤1000000):Calls Try.prog 25 #[.agg (CJ t s),.int .i64 from_,.slice wa way.length wc,.int .i64 o,.int .i64 c] w (fun e w'=>e=.returned (.tuple #[.int .i64 (IG t from_ way o c).1,.int .i64 (IG t from_ way o c).2])∧Below w.heap.size w w'):=by
 refine calls_of_wp Try.func25 Sv ?_;have Z:Sl (⟨#[.agg (CJ t s),.int .i64 from_,.slice wa way.length wc,.int .i64 o,.int .i64 c]++Array.replicate (Try.f25.ntmps-(#[.agg (CJ t s),.int .i64 from_,.slice wa way.length wc,.int .i64 o,.int .i64 c]:Array Value).size) undef,[]⟩:Act) 50 [(0,.agg (CJ t s)),(1,.int .i64 from_),(2,.slice wa way.length wc),(3,.int .i64 o),(4,.int .i64 c)]:=by rw[Try.ntmps25];exact Sl.Uw [.agg (CJ t s),.int .i64 from_,.slice wa way.length wc,.int .i64 o,.int .i64 c] (by simp only[List.length_cons,List.length_nil];omega)
 revert Z;generalize (Act.mk _ _)=a;intro Z;refine wsr ?_;refine Z.s ?_;clear Z;intro a Z;refine aw ?_;obtain⟨bt,hg⟩:∃ b,b=w.heap.size:=⟨_,rfl⟩;intro x hz Kt hb;rw[← hg]at Z Kt;have hbt:w.heap.size≤bt:=by omega
 clear hz hg;refine Z.s ?_;clear Z;intro a Z;obtain⟨bw,hg⟩:∃ b,b=x.heap.size:=⟨_,rfl⟩;have hbs:=hb.size;refine aw ?_;intro x hz Kw hb2;rw[← hg]at Z Kw;have hbw:w.heap.size≤bw:=by omega
 replace Kt:=Kt.below hb2;replace hb:=hb.trans (hb2.mono hb.size);clear hz hg hbs hb2;(iterate 2 refine Z.s ?_;clear Z;intro a Z);refine od ?_
 try simp only[xt,↓reduceIte,Nat.reduceEqDiff]
 refine wss ?_;refine oz fun K hK=>?_
 have e5:=Z.g 5;have c0:=Kt.cell (o:=0) rfl;have c1:=Kt.cell (o:=1) rfl;have c2:=Kt.cell (o:=2) rfl;have c3:=Kt.cell (o:=3) rfl;have c4:=Kt.cell (o:=4) rfl;have c5:=Kt.cell (o:=5) rfl;go_simp;refine Z.K hK ?_;clear Z hK;intro a Z;refine Z.s ?_;clear Z;intro a Z;refine Z.f (Kw.cell (o:=0) rfl) ?_;clear Z;intro a Z;refine oz fun K hK=>?_
 have e18:=Z.g 18;have e19:=Z.g 19;have e20:=Z.g 20;go_simp;refine(NY (ht.below hb) (hw.below hb) hwc hwl).mono ?_;rintro e x ⟨hb2,va,rfl,hO,hnil⟩;replace Kt:=Kt.below hb2;replace Kw:=Kw.below hb2;replace hb:=hb.trans (hb2.mono hb.size);clear hO hnil hb2;refine Z.K hK ?_;clear Z hK;intro a Z;(iterate 5 refine Z.s ?_;clear Z;intro a Z);refine od ?_
 try simp only[xt,↓reduceIte,Nat.reduceEqDiff]
 refine wsr ?_;refine Z.s ?_;clear Z;intro a Z
 by_cases h1:(C9 t from_ way).2=0
 ·have HE:=Lib.hid h1;have hne:=BO h1;clear h1;refine Z.e ?_;clear Z;intro a Z
  try simp only[xt,↓reduceIte,Nat.reduceEqDiff]
  refine Z.cs 25 ?_
  try simp only[xt,↓reduceIte,Nat.reduceEqDiff]
  refine wsr ?_;refine oz fun K hK=>?_
  have e5:=Z.g 5;have c0:=Kt.cell (o:=0) rfl;have c1:=Kt.cell (o:=1) rfl;have c2:=Kt.cell (o:=2) rfl;have c3:=Kt.cell (o:=3) rfl;have c4:=Kt.cell (o:=4) rfl;have c5:=Kt.cell (o:=5) rfl;go_simp;refine Z.K hK ?_;clear Z hK;intro a Z;(iterate 2 refine Z.s ?_;clear Z;intro a Z);obtain⟨bd,hg⟩:∃ b,b=x.heap.size:=⟨_,rfl⟩;refine aw ?_;intro x hz KD hb2;rw[← hg]at Z KD;replace KD:Rw x bd (Abz t s) 103:=KD;replace Kt:=Kt.below hb2;replace Kw:=Kw.below hb2;replace hb:=hb.trans (hb2.mono hb.size);clear hz hg hb2;refine oz fun K hK=>?_
  obtain⟨bp,hg⟩:∃ b,b=x.heap.size:=⟨_,rfl⟩;go_simp;refine Z.K hK ?_;clear Z hK;intro a Z;refine oz fun K hK=>?_
  have e14:=Z.g 14;have e29:=Z.g 29;go_simp;clear e14 e29;refine hK _ _ ?_;clear hK;refine aw ?_;intro x hz KP hb2;rw[← hg]at Z KP;replace Kt:=Kt.below hb2;replace Kw:=Kw.below hb2;replace KD:=KD.below hb2;replace hb:=hb.trans (hb2.mono hb.size);clear hz hg hb2;refine od ?_
  try simp only[xt,↓reduceIte,Nat.reduceEqDiff]
  refine wss ?_;refine Z.f (KP.cell (o:=0) rfl) ?_;clear Z;intro a Z;refine Z.s ?_;clear Z;intro a Z;refine oz fun K hK=>?_
  have e30:=Z.g 30;have e31:=Z.g 31;go_simp;refine(QY (KD.cell (o:=4) rfl) ht.lp).mono ?_;rintro e x2 ⟨rfl,rfl⟩;refine Z.K hK ?_;clear Z hK;intro a Z;rcases Bool.eq_false_or_eq_true (btw o 0 ((t.Aa.length:Int)-1)) with h2|h2
  ·rw[h2]at Z;refine Z.e ?_;clear Z;intro a Z
   try simp only[xt,↓reduceIte,Nat.reduceEqDiff]
   refine Z.cs 33 ?_
   try simp only[xt,↓reduceIte,Nat.reduceEqDiff]
   refine wss ?_;refine Z.s ?_;clear Z;intro a Z
   by_cases h3:c<0
   ·have HL:=Lib.hid h3;refine Z.e ?_;clear Z;intro a Z
    try simp only[xt,↓reduceIte,Nat.reduceEqDiff]
    refine Z.ct 35 ?_;refine wsr ?_;(iterate 2 refine Z.s ?_;clear Z;intro a Z);refine od ?_
    try simp only[xt,↓reduceIte,Nat.reduceEqDiff]
    refine wp_ret ?_
    try simp only[xt,↓reduceIte,Nat.reduceEqDiff]
    have hR:=Lib.hid (show IG t from_ way o c=(0,1) from by unfold IG;rw[if_pos HE.out,if_pos h2,if_pos HL.out]);rw[hR.out];refine bodyPost_ret (v:=.tuple #[.int .i64 0,.int .i64 1]) ?_ Z.defers ⟨rfl,hb⟩;simp[results,Try.results25,Z.get 10 _ rfl,Z.get 11 _ rfl]
   ·have HL:=Lib.hid h3;have h3b:¬ c<0:=h3;refine Z.e ?_;clear Z;intro a Z
    try simp only[xt,↓reduceIte,Nat.reduceEqDiff]
    refine Z.cs 35 ?_
    try simp only[xt,↓reduceIte,Nat.reduceEqDiff]
    refine wss ?_;refine oz fun K hK=>?_
    obtain⟨bn,hg⟩:∃ b,b=x.heap.size:=⟨_,rfl⟩;go_simp;refine Z.K hK ?_;clear Z hK;intro a Z;refine oz fun K hK=>?_
    have e15:=Z.g 15;go_simp;clear e15;refine hK _ _ ?_;clear hK;have hbs:=hb.size;refine aw ?_;intro x hz kn hb2;rw[← hg]at Z kn;have hbn:w.heap.size≤bn:=by omega
    replace Kt:=Kt.below hb2;replace Kw:=Kw.below hb2;replace KD:=KD.below hb2;replace KP:=KP.below hb2;replace hb:=hb.trans (hb2.mono hb.size);clear hz hg hb2 hbs;refine od ?_
    try simp only[xt,↓reduceIte,Nat.reduceEqDiff]
    refine wp_block ?_;have hFL:=Fq.nil (ZW HE.out);have ho:=Am.1 h2;obtain⟨on,hoe⟩:∃ n:Nat,o=(n:Int):=⟨o.toNat,by omega⟩;have hon:on<t.Aa.length:=by omega
    rw[hoe]at Z h2;have hE:V8 t s way wa wc bd bw bt bp x:=⟨ht.below hb,Kw,Kt,KP,KD,hw.below hb⟩;have HR:=Lib.hid (show IG t from_ way o c=(headGo (JU t way on) c 40,0) from by unfold IG;rw[hoe,if_pos HE.out,if_pos h2,if_neg HL.out];rfl);clear ho hoe h2 Kw Kt KP KD;refine wp_loop_ghost (fun n p x=>∃ bn:Nat,n≤40∧headGo (JU t way on) c 40=headGo (JU t way on) c n∧w.heap.size≤bn∧Sl p 50 [(3,.int .i64 (on:Int)),(4,.int .i64 c),(5,.pointer (some ⟨bt,0,none⟩)),(7,.pointer (some ⟨bw,0,none⟩)),(14,.pointer (some ⟨bp,0,none⟩)),(15,.pointer (some ⟨bn,0,none⟩))]∧V8 t s way wa wc bd bw bt bp x∧Rw x bn #[.int .i64 (n:Int)] 3∧Below w.heap.size w x) 40 ⟨bn,by omega,rfl,hbn,((((((Z.nil.cons (Z.g 15)).cons (Z.g 14)).cons (Z.g 7)).cons (Z.g 5)).cons (Z.g 4)).cons (Z.g 3)),hE,kn,hb⟩ ?_;clear Z hE kn hb hbn;clear bn;rintro n a x ⟨bn,hn,hG,hbn,Z,hE,kn,hb⟩;have HG1:=Lib.hid hG;clear hG;refine wss ?_;refine Z.f (kn.cell (o:=0) rfl) ?_;clear Z;intro a Z
    by_cases hlt:0<n
    ·have q1:(0:Int)<(n:Int):=by omega
     refine Z.e ?_;clear Z;intro a Z
     try simp only[xt,↓reduceIte,Nat.reduceEqDiff]
     refine Z.ct 37 ?_;refine wp_skip ?_
     try simp only[xt,↓reduceIte,Nat.reduceEqDiff]
     refine wp_seq ?_;refine wp_block ?_;refine wsr ?_;refine Z.f (hE.kp.cell (o:=0) rfl) ?_;clear Z;intro a Z;(iterate 2 refine Z.s ?_;clear Z;intro a Z);refine oz fun K hK=>?_
     have e40:=Z.g 40;have e41:=Z.g 41;have e42:=Z.g 42;go_simp;refine(sum_any (w:=x) (bd:=bd) (o:=(on:Int)) (fc:=68) (first:=#[]) (cap:=#[.pointer (some ⟨bw,0,none⟩),.pointer (some ⟨bt,0,none⟩),.pointer (some ⟨bp,0,none⟩),.pointer (some ⟨bn,0,none⟩)]) (f:=KH t way on (n:Int)) (hE.kd.cell (o:=5) rfl) hFL.nt Try.func68 (by kernel_rfl) (by kernel_rfl) (fun k _=>KG hFL hon (by omega) (by omega) k) (fun x j hb hj=>VF (hE.below hb) (kn.below hb) hFL hon hj (by omega) (by omega) hwl)).mono ?_;rintro e x ⟨rfl,hb2⟩;replace hE:=hE.below hb2;replace kn:=kn.below hb2;replace hb:=hb.trans (hb2.mono hb.size);clear hb2;refine Z.K hK ?_;clear Z hK;intro a Z;refine Z.e ?_;clear Z;intro a Z
     try simp only[xt,↓reduceIte,Nat.reduceEqDiff]
     refine wsr ?_;refine Z.s ?_;clear Z;intro a Z;refine oz fun K hK=>?_
     have e44:=Z.g 44;go_simp;have hcb:=CV (KG (way:=way) (n:=(n:Int)) hFL hon (by omega) (by omega)) t.Af.length;have hnt:=hFL.nt;refine(Rt hcb.1 (by omega)).mono ?_;rintro e x2 ⟨rfl,hxe⟩;rw[hxe];clear hxe x2;refine Z.K hK ?_;clear Z hK;intro a Z;rw[show A7 (Dy (KH t way on (n:Int)) t.Af.length)=JU t way on (n:Int) from rfl]at Z;refine Z.s ?_;clear Z;intro a Z
     by_cases h4:JU t way on (n:Int)≤c
     ·have HQ:=Lib.hid h4;refine Z.e ?_;clear Z;intro a Z
      try simp only[xt,↓reduceIte,Nat.reduceEqDiff]
      refine Z.ct 47 ?_;refine wsr ?_;refine Z.f (kn.cell (o:=0) rfl) ?_;clear Z;intro a Z;(iterate 2 refine Z.s ?_;clear Z;intro a Z);refine od ?_
      try simp only[xt,↓reduceIte,Nat.reduceEqDiff]
      refine wp_ret ?_
      try simp only[xt,↓reduceIte,Nat.reduceEqDiff]
      try simp only[xt,↓reduceIte,Nat.reduceEqDiff]
      have hR:=Lib.hid (show IG t from_ way o c=((n:Int),0) from by rw[HR.out,HG1.out,TA hlt HQ.out]);rw[hR.out];refine bodyPost_ret (v:=.tuple #[.int .i64 (n:Int),.int .i64 0]) ?_ Z.defers ⟨rfl,hb⟩;simp[results,Try.results25,Z.get 10 _ rfl,Z.get 11 _ rfl]
     ·have HQ:=Lib.hid h4;have h4b:¬ JU t way on (n:Int)≤c:=h4;refine Z.e ?_;clear Z;intro a Z
      try simp only[xt,↓reduceIte,Nat.reduceEqDiff]
      refine Z.cs 47 ?_
      try simp only[xt,↓reduceIte,Nat.reduceEqDiff]
      refine wss ?_;refine Z.f (kn.cell (o:=0) rfl) ?_;clear Z;intro a Z;refine od ?_
      try simp only[xt,↓reduceIte,Nat.reduceEqDiff]
      refine wr ?_;refine oz fun K hK=>?_
      obtain⟨bn2,hg⟩:∃ b,b=x.heap.size:=⟨_,rfl⟩;go_simp;refine Z.K hK ?_;clear Z hK;intro a Z;refine oz fun K hK=>?_
      have e15:=Z.g 15;have e49:=Z.g 49;go_simp;clear e15 e49;refine hK _ _ ?_;clear hK;have hbs:=hb.size;have hE0:=hE.below (Below.refl _ _);obtain⟨x0,hx0⟩:∃ x0,x0=x:=⟨_,rfl⟩;refine aw ?_;intro x hz kn2 hb2;rw[← hg]at Z kn2;rw[← hx0]at hb2 hE0 hb hg;have hbn2:w.heap.size≤bn2:=by rw[hg,hx0];exact hbs
      have HG:=Lib.hid hg;clear hz hg hbs hx0 hE kn;refine od ?_
      try simp only[xt,↓reduceIte,Nat.reduceEqDiff]
      refine wr ?_;refine Z.f (kn2.cell (o:=0) rfl) ?_;clear Z;intro a Z;refine oz fun K hK=>?_
      have e38:=Z.g 38;have hww:IntKind.i64.wrap ((n:Int)-1)=((n-1:Nat):Int):=by rw[IntWalk.i64_in _ (by omega)];omega
      go_simp;refine Z.K hK ?_;clear Z hK;intro a Z;refine oz fun K hK=>?_
      have e15:=Z.g 15;have e39:=Z.g 39;have z0:=kn2.fz 0;have cn:=kn2.cell (o:=0) rfl;go_simp;clear e15 e39;refine hK _ _ ?_;clear hK;have hb3:=hb2.setCell (p:=⟨bn2,0,none⟩) (by show x0.heap.size≤bn2;rw[HG.out];exact Nat.le_refl _) (.int .i64 ((n-1:Nat):Int));replace kn2:=kn2.set 0 (.int .i64 ((n-1:Nat):Int));refine od ?_
      try simp only[xt,↓reduceIte,Nat.reduceEqDiff]
      exact⟨n-1,by omega,bn2,by omega,HG1.out.trans (TC hlt HQ.out),hbn2,((((((Z.nil.cons (Z.g 15)).cons (Z.g 14)).cons (Z.g 7)).cons (Z.g 5)).cons (Z.g 4)).cons (Z.g 3)),hE0.below hb3,kn2,hb.trans (hb3.mono hb.size)⟩
    ·obtain rfl:n=0:=by omega
     have q1:¬ (0:Int)<((0:Nat):Int):=by omega
     refine Z.e ?_;clear Z;intro a Z
     try simp only[xt,↓reduceIte,Nat.reduceEqDiff]
     refine Z.cf 37 ?_;refine wp_exit ?_
     try simp only[xt,↓reduceIte,Nat.reduceEqDiff]
     try simp only[xt,↓reduceIte,Nat.reduceEqDiff]
     refine wsr ?_;(iterate 2 refine Z.s ?_;clear Z;intro a Z);refine od ?_
     try simp only[xt,↓reduceIte,Nat.reduceEqDiff]
     refine wp_ret ?_
     try simp only[xt,↓reduceIte,Nat.reduceEqDiff]
     have hR:=Lib.hid (show IG t from_ way o c=(0,0) from by rw[HR.out,HG1.out];rfl);rw[hR.out];refine bodyPost_ret (v:=.tuple #[.int .i64 0,.int .i64 0]) ?_ Z.defers ⟨rfl,hb⟩;simp[results,Try.results25,Z.get 10 _ rfl,Z.get 11 _ rfl]
  ·rw[h2]at Z;refine Z.e ?_;clear Z;intro a Z
   try simp only[xt,↓reduceIte,Nat.reduceEqDiff]
   refine Z.ct 33 ?_;refine wsr ?_;(iterate 2 refine Z.s ?_;clear Z;intro a Z);refine od ?_
   try simp only[xt,↓reduceIte,Nat.reduceEqDiff]
   refine wp_ret ?_
   try simp only[xt,↓reduceIte,Nat.reduceEqDiff]
   have hR:=Lib.hid (show IG t from_ way o c=(0,3) from by unfold IG;rw[if_pos HE.out,if_neg (by rw[h2];decide)]);rw[hR.out];refine bodyPost_ret (v:=.tuple #[.int .i64 0,.int .i64 3]) ?_ Z.defers ⟨rfl,hb⟩;simp[results,Try.results25,Z.get 10 _ rfl,Z.get 11 _ rfl]
 ·have HE:=Lib.hid h1;have hne:=CB h1;clear h1;refine Z.e ?_;clear Z;intro a Z
  try simp only[xt,↓reduceIte,Nat.reduceEqDiff]
  refine Z.ct 25 ?_;refine wsr ?_;(iterate 3 refine Z.s ?_;clear Z;intro a Z);refine od ?_
  try simp only[xt,↓reduceIte,Nat.reduceEqDiff]
  refine wp_ret ?_
  try simp only[xt,↓reduceIte,Nat.reduceEqDiff]
  have hR:=Lib.hid (show IG t from_ way o c=(0,(C9 t from_ way).2) from if_neg HE.out);rw[hR.out];refine bodyPost_ret (v:=.tuple #[.int .i64 0,.int .i64 (C9 t from_ way).2]) ?_ Z.defers ⟨rfl,hb⟩;simp[results,Try.results25,Z.get 10 _ rfl,Z.get 11 _ rfl]
end
section
open Go.RowKit
def upd (r:Nat→Int) (m:Nat) (x:Int):Nat→Int:=fun k=>if k=m then x else r k
def ar4 (r:Nat→Int):Array Value:=#[.int .i64 (r 0),.int .i64 (r 1),.int .i64 (r 2),.int .i64 (r 3)]
theorem lt4 {m:Nat}(h:m<4):m=0∨m=1∨m=2∨m=3:=by omega
theorem GZ {r:Nat→Int}{m:Nat}(h:m<4):(ar4 r)[m]?=some (.int .i64 (r m)):=by rcases lt4 h with rfl|rfl|rfl|rfl<;>rfl
theorem TZ {r:Nat→Int}{m:Nat}(h:m<4) (x:Int):(ar4 r).setIfInBounds m (.int .i64 x)=ar4 (upd r m x):=by rcases lt4 h with rfl|rfl|rfl|rfl<;>rfl
theorem upd_same (r:Nat→Int) (m:Nat) (x:Int):upd r m x m=x:=if_pos rfl
def TF (t:Ae) (j:Nat):Nat:=((t.Af.getD j default).farmer-1).toNat
def PT (t:Ae) (l:List Ar) (o:Nat):Nat→Nat→Int
 | 0=>fun _=>0
 | j+1=>upd (PT t l o j) (TF t j) (PT t l o j (TF t j)+atL t l o j)
def DT (r:Nat→Int):Nat→Nat
 | 0=>0
 | f+1=>if r f > r (DT r f) then f else DT r f
def Aat (p:(Nat→Int)×(Nat→Int)):(Nat→Int)×(Nat→Int):=(upd p.1 (DT p.1 4) (p.1 (DT p.1 4)-200),upd p.2 (DT p.1 4) (p.2 (DT p.1 4)+1))
def Fv (p:(Nat→Int)×(Nat→Int)):Nat→(Nat→Int)×(Nat→Int)
 | 0=>p
 | n+1=>Aat (Fv p n)
def Ht (t:Ae) (l:List Ar):Nat→Nat→Int
 | 0=>fun _=>0
 | o+1=>(Fv (PT t l o t.Af.length,Ht t l o) (Eh t l o).toNat).2
theorem Xi {r:Nat→Int}:∀ {f:Nat},0<f→DT r f<f
 | 1,_=>by simp[DT]
 | f+2,_=>by
  rw[DT]
  split
  ·omega
  ·have:=Xi (r:=r) (f:=f+1) (by omega);omega
theorem F6 (r:Nat→Int) {f:Nat}(h:f≤4):DT r f<4:=by
 rcases Nat.eq_zero_or_pos f with rfl|h0
 ·simp[DT]
 ·have:=Xi (r:=r) h0;omega
theorem Gu {t:Ae}{l:List Ar}{o:Nat}(h:Fq t l) (ho:o<t.Aa.length):∀ (j k:Nat),0≤PT t l o j k∧PT t l o j k≤200000000000*(j:Int)
 | 0,k=>by simp[PT]
 | j+1,k=>by
  have h1:=Gu h ho j;have h2:=h.EJ ho j;rw[PT];unfold upd
  split
  ·have:=h1 (TF t j);push_cast;omega
  ·have:=h1 k;push_cast;omega
theorem Iu {r g:Nat→Int}{U N:Int}(hr:∀ k,0≤r k∧r k≤U) (hg:∀ k,0≤g k∧g k≤N):∀ (n k:Nat),-(200*(n:Int))≤(Fv (r,g) n).1 k∧(Fv (r,g) n).1 k≤U∧0≤(Fv (r,g) n).2 k∧(Fv (r,g) n).2 k≤N+(n:Int)
 | 0,k=>by have:=hr k;have:=hg k;simp only[Fv];push_cast;omega
 | n+1,k=>by
  have h1:=Iu hr hg n;have h2:=h1 k;have h3:=h1 (DT (Fv (r,g) n).1 4);rw[Fv];unfold Aat upd
  dsimp only
  push_cast
  split<;>omega
theorem XV {t:Ae}{l:List Ar}(h:Fq t l) {o:Nat}(ho:o<t.Aa.length) (ht:t.Af.length≤6):0≤Eh t l o∧Eh t l o≤6000000001:=by
 have:=CV (h.EJ ho) t.Af.length;unfold Eh A7 Hu
 omega
theorem MJ {t:Ae}{l:List Ar}(h:Fq t l) (ht:t.Af.length≤6):∀ (o k:Nat),o≤t.Aa.length→0≤Ht t l o k∧Ht t l o k≤6000000001*(o:Int)
 | 0,k,_=>by simp[Ht]
 | o+1,k,ho=>by
  have h1:=fun k=>MJ h ht o k (by omega)
  have h2:=XV h (o:=o) (by omega) ht;have h3:=Iu (Gu (o:=o) h (by omega) t.Af.length) h1 (Eh t l o).toNat k;rw[Ht];push_cast;omega
end
section
open Go.RowKit
def exT:Ae:=⟨⟨2,3,[⟨0,1,4,90,1,0,0⟩,⟨1,2,4,90,1,0,0⟩,⟨0,2,6,90,1,0,0⟩]⟩,6,[⟨12,2,false⟩,⟨10,0,true⟩],[⟨0,55,1⟩,⟨1,33,2⟩,⟨2,100,1⟩]⟩
def exL:List Ar:=[⟨0,0,12⟩,⟨0,1,10⟩,⟨1,0,12⟩,⟨1,1,10⟩]
theorem XO:Bc exT exL=0:=by kernel_rfl
theorem Abr:Bv (Eh exT exL) 2=[9,5]:=by kernel_rfl
theorem AaL:(Ht exT exL 2 0,Ht exT exL 2 1,Ht exT exL 2 2,Ht exT exL 2 3)=(9,5,0,0):=by kernel_rfl
theorem Zx:C9 exT 0 [0,1]=(exL,0):=by kernel_rfl
theorem Zv:IG exT 0 [0,1] 1 5=(11,0):=by kernel_rfl
theorem Zw:(KY exT 0 2).1.map (fun c=>(c.way,c.coins))=some ([0,1],14):=by kernel_rfl
end
end Go.Proofs.Ytgdobbcjkiapkaa
