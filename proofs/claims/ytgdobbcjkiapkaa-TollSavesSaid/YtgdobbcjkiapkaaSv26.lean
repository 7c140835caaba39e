import Derived.Test.YtgdobbcjkiapkaaSv19
import Derived.Test.YtgdobbcjkiapkaaSv04
import Derived.Test.YtgdobbcjkiapkaaSv25
import Derived.Scope
namespace Go.Proofs.Ytgdobbcjkiapkaa
set_option maxRecDepth 100000
set_option maxHeartbeats 4000000
set_option linter.unusedSimpArgs false
set_option linter.unusedVariables false
section
open Go.RowKit
def Jq (a b:Int):Int:=if a<b then -1 else if b<a then 1 else 0
def Ob:List Int→List Int→Int
 | [],[]=>0
 | [],_::_=>-1
 | _::_,[]=>1
 | x::a,y::b=>if Jq x y≠0 then Jq x y else Ob a b
def orV:List Int→Int
 | []=>0
 | x::l=>if x≠0 then x else orV l
theorem AaC {l:List Int}{k:Nat}(h:k<l.length) (h0:¬ l[k]=0):orV (l.drop k)=l[k]:=by rw[List.drop_eq_getElem_cons h,orV,if_pos h0]
theorem Zb {l:List Int}{k:Nat}(h:k<l.length) (h0:l[k]=0):orV (l.drop k)=orV (l.drop (k+1)):=by rw[List.drop_eq_getElem_cons h,orV,if_neg (by simp[h0])]
theorem X6 {a b:List Int}{k:Nat}(h:k<a.length) (h2:¬ k<b.length):Ob (a.drop k) (b.drop k)=1:=by rw[List.drop_eq_getElem_cons h,show b.drop k=[] from List.drop_of_length_le (by omega)];rfl
theorem ZJ {a b:List Int}{k:Nat}(h:k<a.length) (h2:k<b.length) (h0:¬ Jq a[k] b[k]=0):Ob (a.drop k) (b.drop k)=Jq a[k] b[k]:=by rw[List.drop_eq_getElem_cons h,List.drop_eq_getElem_cons h2,Ob,if_pos h0]
theorem X5 {a b:List Int}{k:Nat}(h:k<a.length) (h2:k<b.length) (h0:Jq a[k] b[k]=0):Ob (a.drop k) (b.drop k)=Ob (a.drop (k+1)) (b.drop (k+1)):=by
 rw[List.drop_eq_getElem_cons h,List.drop_eq_getElem_cons h2]
 conv=>lhs;rw[Ob,if_neg (by simp[h0])]
theorem ZK {a b:List Int}(h:a.length<b.length):Ob (a.drop a.length) (b.drop a.length) = -1:=by rw[List.drop_of_length_le (Nat.le_refl _),List.drop_eq_getElem_cons h];rfl
theorem X4 {a b:List Int}(h:¬ a.length<b.length):Ob (a.drop a.length) (b.drop a.length)=0:=by rw[List.drop_of_length_le (Nat.le_refl _),List.drop_of_length_le (by omega)];rfl
def ZL (a b:EU):Int:=orV [Jq a.coins b.coins,Jq a.leagues b.leagues,Jq a.way.length b.way.length,Ob a.way b.way]
theorem VB:(fun r=>Try.f137.body=some (.seq (r 0) (.seq (r 1) .ret))) (Ac Try.f137):=by show _=_;kernel_rfl
theorem Q8 {w:World}{x:Int}:Calls Try.prog 137 #[.int .i64 x] w (fun e w'=>e=.returned (.bool false)∧w'=w):=by
 refine MW Try.func137 VB Try.ntmps137 ?_;intro a Z;refine wsr ?_;refine Z.e ?_;clear Z;intro a Z;refine wsr ?_;(iterate 4 refine Z.s ?_;clear Z;intro a Z);refine od ?_;refine wp_ret ?_
 try simp only[xt]
 exact Z.rt (v:=.bool false) 2 ⟨rfl,rfl⟩
theorem X8:(fun r=>Try.f129.body=some (.seq (r 0) (.seq (r 1) (.seq (r 2) (.seq (.seq (r 3) (.cond (.tmp 11) (.seq (.seq (r 4) (.cond (.tmp 12) (.seq (r 5) .ret) .skip)) (.seq (r 6) .ret)) .skip)) (.seq (.seq (r 7) (.cond (.tmp 13) (.seq (r 8) .ret) .skip)) (.seq (.seq (r 9) (.cond (.tmp 16) (.seq (r 10) .ret) .skip)) (.seq (.seq (r 11) (.cond (.tmp 19) (.seq (r 12) .ret) .skip)) (.seq (r 13) .ret))))))))) (Ac Try.f129):=by show _=_;kernel_rfl
theorem Ir {w:World}{x y:Int}:Calls Try.prog 129 #[.int .i64 x,.int .i64 y] w (fun e w'=>e=.returned (.int .i64 (Jq x y))∧w'=w):=by
 refine I7 Try.func129 X8 Try.ntmps129 ?_;intro a Z;refine wsr ?_;refine Z.e ?_;clear Z;intro a Z;refine wsr ?_;refine Z.s ?_;clear Z;intro a Z;refine oz fun K hK=>?_
 have e7:=Z.g 7;go_simp;refine Q8.mono ?_;rintro e W ⟨rfl,rfl⟩;refine Z.K hK ?_;clear Z hK;intro a Z;refine Z.e ?_;clear Z;intro a Z;refine wsr ?_;refine Z.s ?_;clear Z;intro a Z;refine oz fun K hK=>?_
 have e9:=Z.g 9;go_simp;refine Q8.mono ?_;rintro e W ⟨rfl,rfl⟩;refine Z.K hK ?_;clear Z hK;intro a Z;refine Z.e ?_;clear Z;intro a Z;refine wss ?_;refine Z.e ?_;clear Z;intro a Z;refine Z.cs 11 ?_;refine wss ?_;refine Z.e ?_;clear Z;intro a Z;refine Z.cs 13 ?_;refine wss ?_;(iterate 2 refine Z.s ?_;clear Z;intro a Z)
 by_cases h1:x<y
 ·have hR:=Lib.hid (show Jq x y = -1 from by unfold Jq;rw[if_pos h1]);refine Z.e ?_;clear Z;intro a Z;refine Z.ct 16 ?_;refine wsr ?_;refine Z.e ?_;clear Z;intro a Z;refine wp_ret ?_
  try simp only[xt]
  exact Z.rt (v:=.int .i64 (Jq x y)) 4 ⟨rfl,rfl⟩ (hm:=by rw[hR.out];rfl)
 ·have H1:=Lib.hid h1;refine Z.e ?_;clear Z;intro a Z;refine Z.cs 16 ?_;refine wss ?_;(iterate 2 refine Z.s ?_;clear Z;intro a Z)
  by_cases h2:y<x
  ·have hR:=Lib.hid (show Jq x y=1 from by unfold Jq;rw[if_neg H1.out,if_pos h2]);refine Z.e ?_;clear Z;intro a Z;refine Z.ct 19 ?_;refine wsr ?_;refine Z.e ?_;clear Z;intro a Z;refine wp_ret ?_
   try simp only[xt]
   exact Z.rt (v:=.int .i64 (Jq x y)) 4 ⟨rfl,rfl⟩ (hm:=by rw[hR.out];rfl)
  ·have hR:=Lib.hid (show Jq x y=0 from by unfold Jq;rw[if_neg H1.out,if_neg h2]);refine Z.e ?_;clear Z;intro a Z;refine Z.cs 19 ?_;refine wsr ?_;refine Z.e ?_;clear Z;intro a Z;refine wp_ret ?_
   try simp only[xt]
   exact Z.rt (v:=.int .i64 (Jq x y)) 4 ⟨rfl,rfl⟩ (hm:=by rw[hR.out];rfl)
theorem ZI:(fun r=>Try.f128.body=some (.seq (r 0) (.seq (r 1) (.seq (.seq (r 2) (.block 0 (.loop (.seq (r 3) (.seq (.cond (.tmp 9) .skip (.exit 0)) (.seq (.block 1 (.seq (r 4) (.seq (r 5) (.cond (.tmp 14) (.seq (r 6) .ret) .skip)))) (r 7))))))) (.seq (r 8) .ret))))) (Ac Try.f128):=by show _=_;kernel_rfl
theorem Abe {w:World}{la:Option Addr}{cap:Nat}{l:List Int}(hl:AX w la l) (hn:l.length≤1000):Calls Try.prog 128 #[.slice la l.length cap] w (fun e w'=>e=.returned (.int .i64 (orV l))∧w'=w):=by
 refine MW Try.func128 ZI Try.ntmps128 ?_;intro a Z;refine wsr ?_;refine Z.e ?_;clear Z;intro a Z;refine wsr ?_;refine Z.e ?_;clear Z;intro a Z;refine wss ?_;(iterate 3 refine Z.s ?_;clear Z;intro a Z);refine od ?_;refine wp_block ?_;refine wp_loop_ghost (fun n p W=>W=w∧∃ k:Nat,k+n=l.length∧orV (l.drop k)=orV l∧Sl p 18 [(3,.int .i64 0),(6,.slice la l.length cap),(7,.int .i64 (l.length:Int)),(8,.int .i64 (k:Int))]) l.length ⟨rfl,0,by omega,rfl,Z.sb⟩ ?_;clear Z;rintro n p W ⟨rfl,k,hkn,hE,Z⟩;have HE:=Lib.hid hE;clear hE;refine wsr ?_
 by_cases hlt:k<l.length
 ·have q1:(k:Int)<(l.length:Int):=by omega
  obtain⟨pb,po,hpa,p0⟩:=hl.at hlt;rw[hpa]at Z;refine Z.e ?_;clear Z;intro a Z;refine wp_seq ?_;refine Z.ct 9 ?_;refine wp_skip ?_;refine wp_seq ?_;refine wp_block ?_;refine wsr ?_;(iterate 3 refine Z.s ?_;clear Z;intro a Z);refine od ?_;refine wsr ?_;(iterate 2 refine Z.s ?_;clear Z;intro a Z)
  by_cases h1:l[k]=0
  ·have hb:=BO h1;refine Z.e ?_;clear Z;intro a Z;refine Z.cs 14 ?_;refine wr ?_;refine Z.f (Bz k (by omega)) ?_;clear Z;intro a Z;refine Z.e ?_;clear Z;intro a Z;show Exists _;exact⟨n-1,by omega,by trivial,k+1,by omega,(Zb hlt h1).symm.trans HE.out,by rw[hpa];exact Z.sb⟩
  ·have hb:=CB h1;have hR:=Lib.hid (HE.out.symm.trans (AaC hlt h1));refine Z.e ?_;clear Z;intro a Z;refine Z.ct 14 ?_;refine wsr ?_;(iterate 2 refine Z.s ?_;clear Z;intro a Z);refine od ?_;refine wp_ret ?_
   try simp only[xt]
   exact Z.rt (v:=.int .i64 (orV l)) 2 ⟨rfl,rfl⟩ (hm:=by rw[hR.out];rfl)
 ·obtain rfl:k=l.length:=by omega
  refine Z.e ?_;clear Z;intro a Z;refine wp_seq ?_;refine Z.cf 9 ?_;refine wp_exit ?_;have hR:=Lib.hid (show orV l=0 from by rw[← HE.out,List.drop_of_length_le (Nat.le_refl _)];rfl);refine wsr ?_;(iterate 2 refine Z.s ?_;clear Z;intro a Z);refine od ?_;refine wp_ret ?_
  try simp only[xt]
  exact Z.rt (v:=.int .i64 (orV l)) 2 ⟨rfl,rfl⟩ (hm:=by rw[hR.out];rfl)
theorem WW:(fun r=>Try.f130.body=some (.seq (r 0) (.seq (.seq (r 1) (.block 0 (.loop (.seq (r 2) (.seq (.cond (.tmp 12) .skip (.exit 0)) (.seq (.block 1 (.seq (r 3) (.seq (.seq (r 4) (.cond (.tmp 19) (.seq (r 5) .ret) .skip)) (.seq (r 6) (.seq (r 7) (.seq (r 8) (.cond (.tmp 28) (.seq (r 9) .ret) .skip))))))) (r 10))))))) (.seq (.seq (r 11) (.cond (.tmp 35) (.seq (r 12) .ret) .skip)) (.seq (r 13) .ret))))) (Ac Try.f130):=by show _=_;kernel_rfl
theorem QH {w:World}{la lb:Option Addr}{ca cb:Nat}{l m:List Int}(hl:AX w la l) (hm:AX w lb m) (hn:l.length≤100000):Calls Try.prog 130 #[.slice la l.length ca,.slice lb m.length cb] w (fun e w'=>e=.returned (.int .i64 (Ob l m))∧w'=w):=by
 refine I7 Try.func130 WW Try.ntmps130 ?_;intro a Z;refine wsr ?_;refine Z.e ?_;clear Z;intro a Z;refine wss ?_;(iterate 3 refine Z.s ?_;clear Z;intro a Z);refine od ?_;refine wp_block ?_;refine wp_loop_ghost (fun n p W=>W=w∧∃ k:Nat,k+n=l.length∧Ob (l.drop k) (m.drop k)=Ob l m∧Sl p 36 [(0,.slice la l.length ca),(1,.slice lb m.length cb),(9,.slice la l.length ca),(10,.int .i64 (l.length:Int)),(11,.int .i64 (k:Int))]) l.length ⟨rfl,0,by omega,rfl,Z.sb⟩ ?_;clear Z;rintro n p W ⟨rfl,k,hkn,hE,Z⟩;have HE:=Lib.hid hE;clear hE;refine wsr ?_
 by_cases hlt:k<l.length
 ·have q1:(k:Int)<(l.length:Int):=by omega
  obtain⟨pb,po,hpa,p0⟩:=hl.at hlt;rw[hpa]at Z;refine Z.e ?_;clear Z;intro a Z;refine wp_seq ?_;refine Z.ct 12 ?_;refine wp_skip ?_;refine wp_seq ?_;refine wp_block ?_;refine wsr ?_;(iterate 5 refine Z.s ?_;clear Z;intro a Z);refine od ?_;refine wss ?_;(iterate 3 refine Z.s ?_;clear Z;intro a Z)
  by_cases h1:k<m.length
  ·have q2:¬ (m.length:Int)≤(k:Int):=by omega
   have q3:(k:Int)<(m.length:Int):=by omega
   obtain⟨qb,qo,hqa,r0⟩:=hm.at h1;rw[hqa]at Z;refine Z.e ?_;clear Z;intro a Z;refine Z.cs 19 ?_;refine wsr ?_;(iterate 5 refine Z.s ?_;clear Z;intro a Z);refine od ?_;refine wsr ?_;(iterate 2 refine Z.s ?_;clear Z;intro a Z);refine oz fun K hK=>?_
   have e24:=Z.g 24;have e25:=Z.g 25;go_simp;refine Ir.mono ?_;rintro e W ⟨rfl,rfl⟩;refine Z.K hK ?_;clear Z hK;intro a Z;refine Z.e ?_;clear Z;intro a Z;refine wsr ?_;refine Z.s ?_;clear Z;intro a Z
   by_cases h2:Jq l[k] m[k]=0
   ·have hb:=BO h2;refine Z.e ?_;clear Z;intro a Z;refine Z.cs 28 ?_;refine wr ?_;refine Z.f (Bz k (by omega)) ?_;clear Z;intro a Z;refine Z.e ?_;clear Z;intro a Z;show Exists _;exact⟨n-1,by omega,by trivial,k+1,by omega,(X5 hlt h1 h2).symm.trans HE.out,by rw[hpa,hqa];exact Z.sb⟩
   ·have hb:=CB h2;have hR:=Lib.hid (HE.out.symm.trans (ZJ hlt h1 h2));refine Z.e ?_;clear Z;intro a Z;refine Z.ct 28 ?_;refine wsr ?_;(iterate 2 refine Z.s ?_;clear Z;intro a Z);refine od ?_;refine wp_ret ?_
    try simp only[xt]
    exact Z.rt (v:=.int .i64 (Ob l m)) 4 ⟨rfl,rfl⟩ (hm:=by rw[hR.out];rfl)
  ·have q2:(m.length:Int)≤(k:Int):=by omega
   have hR:=Lib.hid (HE.out.symm.trans (X6 hlt h1));refine Z.e ?_;clear Z;intro a Z;refine Z.ct 19 ?_;refine wsr ?_;refine Z.e ?_;clear Z;intro a Z;refine wp_ret ?_
   try simp only[xt]
   exact Z.rt (v:=.int .i64 (Ob l m)) 4 ⟨rfl,rfl⟩ (hm:=by rw[hR.out];rfl)
 ·obtain rfl:k=l.length:=by omega
  refine Z.e ?_;clear Z;intro a Z;refine wp_seq ?_;refine Z.cf 12 ?_;refine wp_exit ?_;refine wss ?_;(iterate 4 refine Z.s ?_;clear Z;intro a Z)
  by_cases h3:l.length<m.length
  ·have q2:(l.length:Int)<(m.length:Int):=by omega
   have hR:=Lib.hid (HE.out.symm.trans (ZK h3));refine Z.e ?_;clear Z;intro a Z;refine Z.ct 35 ?_;refine wsr ?_;refine Z.e ?_;clear Z;intro a Z;refine wp_ret ?_
   try simp only[xt]
   exact Z.rt (v:=.int .i64 (Ob l m)) 4 ⟨rfl,rfl⟩ (hm:=by rw[hR.out];rfl)
  ·have q2:¬ (l.length:Int)<(m.length:Int):=by omega
   have hR:=Lib.hid (HE.out.symm.trans (X4 h3));refine Z.e ?_;clear Z;intro a Z;refine Z.cs 35 ?_;refine wsr ?_;refine Z.e ?_;clear Z;intro a Z;refine wp_ret ?_
   try simp only[xt]
   exact Z.rt (v:=.int .i64 (Ob l m)) 4 ⟨rfl,rfl⟩ (hm:=by rw[hR.out];rfl)
theorem Qz:(fun r=>Try.f127.body=some (.seq (r 0) (.seq (r 1) .ret))) (Ac Try.f127):=by show _=_;kernel_rfl
structure Ch1 (W x:World) (b2 b3:Nat) (aa ab:Option Addr) (ca cb:Nat) (a b:EU):Prop where
 below:Below W.heap.size W x
 k2:Rw x b2 #[.slice aa a.way.length ca,.int .i64 a.coins,.int .i64 a.leagues] 149
 k3:Rw x b3 #[.slice ab b.way.length cb,.int .i64 b.coins,.int .i64 b.leagues] 149
theorem Ch1.keep {W x x2:World}{b2 b3:Nat}{aa ab:Option Addr}{ca cb:Nat}{a b:EU}(h:Ch1 W x b2 b3 aa ab ca cb a b) (hb:Below x.heap.size x x2):Ch1 W x2 b2 b3 aa ab ca cb a b:=⟨h.below.trans (hb.mono h.below.size),h.k2.below hb,h.k3.below hb⟩
theorem VT {w:World}{aa ab:Option Addr}{ca cb:Nat}{a b:EU}(ha:AX w aa a.way) (hb:AX w ab b.way) (hn:a.way.length≤100000):Calls Try.prog 127 #[.agg #[.slice aa a.way.length ca,.int .i64 a.coins,.int .i64 a.leagues],.agg #[.slice ab b.way.length cb,.int .i64 b.coins,.int .i64 b.leagues]] w (fun e w'=>e=.returned (.int .i64 (ZL a b))∧Below w.heap.size w w'):=by
 have HA:=Lib.hid ha;have HB:=Lib.hid hb;clear ha hb;refine calls_of_wp Try.func127 Qz ?_;have Z:Sl (⟨#[.agg #[.slice aa a.way.length ca,.int .i64 a.coins,.int .i64 a.leagues],.agg #[.slice ab b.way.length cb,.int .i64 b.coins,.int .i64 b.leagues]]++Array.replicate (Try.f127.ntmps-(#[.agg #[.slice aa a.way.length ca,.int .i64 a.coins,.int .i64 a.leagues],.agg #[.slice ab b.way.length cb,.int .i64 b.coins,.int .i64 b.leagues]]:Array Value).size) undef,[]⟩:Act) 29 [(0,.agg #[.slice aa a.way.length ca,.int .i64 a.coins,.int .i64 a.leagues]),(1,.agg #[.slice ab b.way.length cb,.int .i64 b.coins,.int .i64 b.leagues])]:=by rw[Try.ntmps127];exact Sl.Rk _ _ (by omega)
 revert Z;generalize (Act.mk _ _)=a0;intro Z;refine wsr ?_;refine oz fun K hK=>?_
 have e0:=Z.g 0;go_simp;clear e0;refine Z.k hK (by decide) ?_;clear Z hK;intro a0 Z;refine aw ?_;obtain⟨b2,hg⟩:∃ g,g=w.heap.size:=⟨_,rfl⟩;intro x hz X2 hbb;rw[← hg]at Z X2;clear hg hz;refine oz fun K hK=>?_
 have e1:=Z.g 1;go_simp;clear e1;refine Z.k hK (by decide) ?_;clear Z hK;intro a0 Z;refine aw ?_;obtain⟨b3,hg⟩:∃ g,g=x.heap.size:=⟨_,rfl⟩;intro x hz X3 hb2;rw[← hg]at Z X3;have hI:Ch1 w x b2 b3 aa ab ca cb a b:=⟨hbb.trans (hb2.mono hbb.size),X2.below hb2,X3⟩;clear hg hz hbb X2 X3 hb2;refine Z.co rfl rfl (.inr rfl) rfl (by decide) ?_;clear Z;intro a0 Z;refine od ?_;refine wp_seq ?_;rw[show Ac Try.f127 1=Code.region 1 _ true from rfl]
 refine D8 (by kernel_rfl) (((Z.nil.cons (Z.g 3)).cons (Z.g 2))) [some 5,some 6,some 7,some 8,some 9,some 10,some 11,some 12,some 13,some 14,some 15,some 16,some 17,some 18,some 19,some 20,some 21,some 22,some 23,some 24,some 25,some 26,some 27,some 28,some 4] rfl rfl (by kernel_rfl) (fun j v x=>match j with|0=>v=.pointer (some ⟨b2,1,none⟩)|1=>v=.int .i64 a.coins|2=>v=.pointer (some ⟨b3,1,none⟩)|3=>v=.int .i64 b.coins|4=>v=.int .i64 (Jq a.coins b.coins)|5=>v=.pointer (some ⟨b2,2,none⟩)|6=>v=.int .i64 a.leagues|7=>v=.pointer (some ⟨b3,2,none⟩)|8=>v=.int .i64 b.leagues|9=>v=.int .i64 (Jq a.leagues b.leagues)|10=>v=.pointer (some ⟨b2,0,none⟩)|11=>v=.slice aa a.way.length ca|12=>v=.int .i64 (a.way.length:Int)|13=>v=.pointer (some ⟨b3,0,none⟩)|14=>v=.slice ab b.way.length cb|15=>v=.int .i64 (b.way.length:Int)|16=>v=.int .i64 (Jq a.way.length b.way.length)|17=>v=.pointer (some ⟨b2,0,none⟩)|18=>v=.slice aa a.way.length ca|19=>v=.pointer (some ⟨b3,0,none⟩)|20=>v=.slice ab b.way.length cb|21=>v=.int .i64 (Ob a.way b.way)|22=>(∃ g,v=.slice (some ⟨g,0,none⟩) 4 4∧AX x (some ⟨g,0,none⟩) [Jq a.coins b.coins,Jq a.leagues b.leagues,Jq a.way.length b.way.length,Ob a.way b.way])|23=>v=.int .i64 (ZL a b)|24=>v=.int .i64 (ZL a b)|_=>True) (fun _ x=>Ch1 w x b2 b3 aa ab ca cb a b) (hI.keep (Below.refl _ _).drew) ?_ ?_
 ·clear Z hI;intro k2 o hkl ho L a2 x hI hLk Z hs hd;have hlt3:∀ k:Nat,k<25→k=0∨k=1∨k=2∨k=3∨k=4∨k=5∨k=6∨k=7∨k=8∨k=9∨k=10∨k=11∨k=12∨k=13∨k=14∨k=15∨k=16∨k=17∨k=18∨k=19∨k=20∨k=21∨k=22∨k=23∨k=24:=by decide
  rcases hlt3 k2 hkl with rfl|rfl|rfl|rfl|rfl|rfl|rfl|rfl|rfl|rfl|rfl|rfl|rfl|rfl|rfl|rfl|rfl|rfl|rfl|rfl|rfl|rfl|rfl|rfl|rfl
  ·obtain rfl:=Option.some.inj ho;have e2:=Z.g 2;clear hs hd;refine wz fun K hK=>?_
   go_simp;exact hK _ _ ⟨_,rfl,rfl,hI,fun _ _ h=>h⟩
  ·obtain rfl:=Option.some.inj ho;obtain⟨_,e5,rfl⟩:=hs 0 _ 5 rfl rfl (hd 0 wm);have c:=hI.k2.cell (o:=1) rfl;clear hs hd;refine wz fun K hK=>?_
   go_simp;exact hK _ _ ⟨_,rfl,rfl,hI,fun _ _ h=>h⟩
  ·obtain rfl:=Option.some.inj ho;have e3:=Z.g 3;clear hs hd;refine wz fun K hK=>?_
   go_simp;exact hK _ _ ⟨_,rfl,rfl,hI,fun _ _ h=>h⟩
  ·obtain rfl:=Option.some.inj ho;obtain⟨_,e7,rfl⟩:=hs 2 _ 7 rfl rfl (hd 2 wm);have c:=hI.k3.cell (o:=1) rfl;clear hs hd;refine wz fun K hK=>?_
   go_simp;exact hK _ _ ⟨_,rfl,rfl,hI,fun _ _ h=>h⟩
  ·obtain rfl:=Option.some.inj ho;obtain⟨_,e6,rfl⟩:=hs 1 _ 6 rfl rfl (hd 1 wm);obtain⟨_,e8,rfl⟩:=hs 3 _ 8 rfl rfl (hd 3 wm);clear hs hd;refine wz fun K hK=>?_
   go_simp;refine Ir.mono ?_;rintro e W ⟨rfl,rfl⟩;exact hK _ _ ⟨_,rfl,rfl,hI,fun _ _ h=>h⟩
  ·obtain rfl:=Option.some.inj ho;have e2:=Z.g 2;clear hs hd;refine wz fun K hK=>?_
   go_simp;exact hK _ _ ⟨_,rfl,rfl,hI,fun _ _ h=>h⟩
  ·obtain rfl:=Option.some.inj ho;obtain⟨_,e10,rfl⟩:=hs 5 _ 10 rfl rfl (hd 5 wm);have c:=hI.k2.cell (o:=2) rfl;clear hs hd;refine wz fun K hK=>?_
   go_simp;exact hK _ _ ⟨_,rfl,rfl,hI,fun _ _ h=>h⟩
  ·obtain rfl:=Option.some.inj ho;have e3:=Z.g 3;clear hs hd;refine wz fun K hK=>?_
   go_simp;exact hK _ _ ⟨_,rfl,rfl,hI,fun _ _ h=>h⟩
  ·obtain rfl:=Option.some.inj ho;obtain⟨_,e12,rfl⟩:=hs 7 _ 12 rfl rfl (hd 7 wm);have c:=hI.k3.cell (o:=2) rfl;clear hs hd;refine wz fun K hK=>?_
   go_simp;exact hK _ _ ⟨_,rfl,rfl,hI,fun _ _ h=>h⟩
  ·obtain rfl:=Option.some.inj ho;obtain⟨_,e11,rfl⟩:=hs 6 _ 11 rfl rfl (hd 6 wm);obtain⟨_,e13,rfl⟩:=hs 8 _ 13 rfl rfl (hd 8 wm);clear hs hd;refine wz fun K hK=>?_
   go_simp;refine Ir.mono ?_;rintro e W ⟨rfl,rfl⟩;exact hK _ _ ⟨_,rfl,rfl,hI,fun _ _ h=>h⟩
  ·obtain rfl:=Option.some.inj ho;have e2:=Z.g 2;clear hs hd;refine wz fun K hK=>?_
   go_simp;exact hK _ _ ⟨_,rfl,rfl,hI,fun _ _ h=>h⟩
  ·obtain rfl:=Option.some.inj ho;obtain⟨_,e15,rfl⟩:=hs 10 _ 15 rfl rfl (hd 10 wm);have c:=hI.k2.cell (o:=0) rfl;clear hs hd;refine wz fun K hK=>?_
   go_simp;exact hK _ _ ⟨_,rfl,rfl,hI,fun _ _ h=>h⟩
  ·obtain rfl:=Option.some.inj ho;obtain⟨_,e16,rfl⟩:=hs 11 _ 16 rfl rfl (hd 11 wm);clear hs hd;refine wz fun K hK=>?_
   go_simp;exact hK _ _ ⟨_,rfl,rfl,hI,fun _ _ h=>h⟩
  ·obtain rfl:=Option.some.inj ho;have e3:=Z.g 3;clear hs hd;refine wz fun K hK=>?_
   go_simp;exact hK _ _ ⟨_,rfl,rfl,hI,fun _ _ h=>h⟩
  ·obtain rfl:=Option.some.inj ho;obtain⟨_,e18,rfl⟩:=hs 13 _ 18 rfl rfl (hd 13 wm);have c:=hI.k3.cell (o:=0) rfl;clear hs hd;refine wz fun K hK=>?_
   go_simp;exact hK _ _ ⟨_,rfl,rfl,hI,fun _ _ h=>h⟩
  ·obtain rfl:=Option.some.inj ho;obtain⟨_,e19,rfl⟩:=hs 14 _ 19 rfl rfl (hd 14 wm);clear hs hd;refine wz fun K hK=>?_
   go_simp;exact hK _ _ ⟨_,rfl,rfl,hI,fun _ _ h=>h⟩
  ·obtain rfl:=Option.some.inj ho;obtain⟨_,e17,rfl⟩:=hs 12 _ 17 rfl rfl (hd 12 wm);obtain⟨_,e20,rfl⟩:=hs 15 _ 20 rfl rfl (hd 15 wm);clear hs hd;refine wz fun K hK=>?_
   go_simp;refine Ir.mono ?_;rintro e W ⟨rfl,rfl⟩;exact hK _ _ ⟨_,rfl,rfl,hI,fun _ _ h=>h⟩
  ·obtain rfl:=Option.some.inj ho;have e2:=Z.g 2;clear hs hd;refine wz fun K hK=>?_
   go_simp;exact hK _ _ ⟨_,rfl,rfl,hI,fun _ _ h=>h⟩
  ·obtain rfl:=Option.some.inj ho;obtain⟨_,e22,rfl⟩:=hs 17 _ 22 rfl rfl (hd 17 wm);have c:=hI.k2.cell (o:=0) rfl;clear hs hd;refine wz fun K hK=>?_
   go_simp;exact hK _ _ ⟨_,rfl,rfl,hI,fun _ _ h=>h⟩
  ·obtain rfl:=Option.some.inj ho;have e3:=Z.g 3;clear hs hd;refine wz fun K hK=>?_
   go_simp;exact hK _ _ ⟨_,rfl,rfl,hI,fun _ _ h=>h⟩
  ·obtain rfl:=Option.some.inj ho;obtain⟨_,e24,rfl⟩:=hs 19 _ 24 rfl rfl (hd 19 wm);have c:=hI.k3.cell (o:=0) rfl;clear hs hd;refine wz fun K hK=>?_
   go_simp;exact hK _ _ ⟨_,rfl,rfl,hI,fun _ _ h=>h⟩
  ·obtain rfl:=Option.some.inj ho;obtain⟨_,e23,rfl⟩:=hs 18 _ 23 rfl rfl (hd 18 wm);obtain⟨_,e25,rfl⟩:=hs 20 _ 25 rfl rfl (hd 20 wm);clear hs hd;refine wz fun K hK=>?_
   go_simp;refine(QH (HA.out.below (hI.below.mono (Nat.le_refl _))) (HB.out.below hI.below) hn).mono ?_;rintro e W ⟨rfl,rfl⟩;exact hK _ _ ⟨_,rfl,rfl,hI,fun _ _ h=>h⟩
  ·obtain rfl:=Option.some.inj ho;obtain⟨_,e9,rfl⟩:=hs 4 _ 9 rfl rfl (hd 4 wm);obtain⟨_,e14,rfl⟩:=hs 9 _ 14 rfl rfl (hd 9 wm);obtain⟨_,e21,rfl⟩:=hs 16 _ 21 rfl rfl (hd 16 wm);obtain⟨_,e26,rfl⟩:=hs 21 _ 26 rfl rfl (hd 21 wm);clear hs hd;refine wz fun K hK=>?_
   go_simp;have hbx:=DL x (.cells #[.int .i64 (Jq a.coins b.coins),.int .i64 (Jq a.leagues b.leagues),.int .i64 (Jq a.way.length b.way.length),.int .i64 (Ob a.way b.way)] 3);have hr:=Rw.new x #[.int .i64 (Jq a.coins b.coins),.int .i64 (Jq a.leagues b.leagues),.int .i64 (Jq a.way.length b.way.length),.int .i64 (Ob a.way b.way)] 3
   exact hK _ _ ⟨_,rfl,⟨_,rfl,.inr ⟨x.heap.size,0,rfl,fun i hi=>by
    have h4:∀ i:Nat,i<4→i=0∨i=1∨i=2∨i=3:=by decide
    rcases h4 i hi with rfl|rfl|rfl|rfl<;>exact hr.cell rfl⟩⟩,hI.keep hbx,fun j u=>by match j with|22=>exact fun ⟨g,h1,h2⟩=>⟨g,h1,h2.below hbx⟩|0=>exact id|1=>exact id|2=>exact id|3=>exact id|4=>exact id|5=>exact id|6=>exact id|7=>exact id|8=>exact id|9=>exact id|10=>exact id|11=>exact id|12=>exact id|13=>exact id|14=>exact id|15=>exact id|16=>exact id|17=>exact id|18=>exact id|19=>exact id|20=>exact id|21=>exact id|23=>exact id|24=>exact id|_+25=>exact id⟩
  ·obtain rfl:=Option.some.inj ho;obtain⟨v27,e27,hv27⟩:=hs 22 _ 27 rfl rfl (hd 22 wm);obtain⟨g4,rfl,hg4⟩:=hv27;clear hs hd;refine wz fun K hK=>?_
   go_simp;refine(Abe (l:=[Jq a.coins b.coins,Jq a.leagues b.leagues,Jq a.way.length b.way.length,Ob a.way b.way]) hg4 (by simp)).mono ?_;rintro e W ⟨rfl,rfl⟩;exact hK _ _ ⟨_,rfl,rfl,hI,fun _ _ h=>h⟩
  ·obtain rfl:=Option.some.inj ho;obtain⟨_,e28,rfl⟩:=hs 23 _ 28 rfl rfl (hd 23 wm);clear hs hd;refine wz fun K hK=>?_
   go_simp;exact hK _ _ ⟨_,rfl,rfl,hI,fun _ _ h=>h⟩
 ·clear Z hI;intro L a2 x hall hI Z hs;obtain⟨_,e4,rfl⟩:=hs 24 _ 4 rfl rfl (hall 24 (by decide));replace Z:=Z.cons e4;clear hs hall e4;refine wp_ret ?_
  try simp only[xt]
  exact Z.rt (v:=.int .i64 (ZL a b)) 4 ⟨rfl,hI.below⟩
end
section
open Go.RowKit
theorem UQ:(fun r=>Try.f125.body=some (.seq (r 0) (.scope (.seq (r 1) (.seq (.seq (r 2) (.cond (.tmp 24) (.seq (r 3) .ret) .skip)) (.seq (.label 0) (.seq (.seq (r 4) (.block 0 (.loop (.seq (r 5) (.seq (.cond (.tmp 40) .skip (.exit 0)) (.seq (.block 1 (.seq (r 6) (.seq (r 7) (.seq (.seq (r 8) (.cond (.tmp 55) (.exit 1) .skip)) (.seq (.seq (r 9) (.block 2 (.loop (.seq (r 10) (.seq (.cond (.tmp 59) .skip (.exit 2)) (.seq (.block 3 (.seq (r 11) (.seq (r 12) (.cond (.tmp 64) (.exit 1) .skip)))) (r 13))))))) (.seq (r 14) (.seq (.seq (r 15) (.cond (.tmp 80) (.seq (r 16) .ret) .skip)) (r 17)))))))) (r 18))))))) (.seq (r 19) .ret)))))))) (Ac Try.f125):=by show _=_;kernel_rfl
theorem Abj {w:World}{g:Nat}{l:List Int}(h:AX w (some ⟨g,0,none⟩) l) {i:Nat}(hi:i<l.length):w.cell? ⟨g,i,none⟩=some (.int .i64 l[i]):=by
 obtain⟨b,o,hb,hc⟩:=h.at hi;simp at hb;obtain⟨rfl,rfl⟩:=hb;simpa using hc
theorem Df.at0 {V:World}{B g n c:Nat}{l:List Int}(h:Df V B (.slice (some ⟨g,0,none⟩) n c) l):n=l.length∧l.length≤c∧c≤maxLen∧AX V (some ⟨g,0,none⟩) l∧B≤g∧g<V.heap.size:=by
 obtain⟨g2,c2,hv,h1,h2,h3,h4,h5⟩:=Df.sl h (by simp);simp only[Value.slice.injEq,Option.some.injEq,Addr.mk.injEq]at hv;obtain⟨⟨rfl,_⟩,rfl,rfl⟩:=hv;exact⟨rfl,h3,h4,h5,h1,h2⟩
theorem MM {w:World}{fc:FuncId}{F:Func}{cap:Array Value}{a:Act}{K:Act→World→Prop}{Q:Exit→Act→World→Prop}(hF:Try.prog.funcs[fc]?=some F) (hname:(F.name == "runtime.NumGoroutine")=false) (hbody:F.body.isNone=false)
  {s:Nat}(E5:a.tmps[s]?=some (.func (.func fc) #[] cap)) {o:Oper}{ats:Array TypeId}(hop:o.op=.call { callee:=.value (.tmp s),args:=#[],argTypes:=ats })
  {R:Ending→World→Prop}(hc:Calls Try.prog fc cap w R) (h:∀ e w',R e w'→∃ v,e=.returned v∧K (a.put o.dst v) w'):o.wp Try.prog a w K Q:=by
 have ev:∀ {t:Nat}{v:Value},a.tmps[t]?=some v→a.eval (.tmp t)=v:=fun h=>by simp[Act.eval,Array.getD_eq_getD_getElem?,h]
 unfold Oper.wp;have hr:=Kq (P:=Try.prog) (w:=w) hop (ev E5) hF hname hbody;rw[hr];simp only[List.map_toArray,List.map_nil,Array.append_empty,Array.empty_append];refine(show Calls Try.prog fc cap w _ from hc.mono fun e w' hr=>?_);obtain⟨v,rfl,hk⟩:=h e w' hr;exact hk
def Lp (J:List ChB→World→Prop) (p:GP) (d:Nat) (st wy:List Int) (lg:Int) (pre:List ChB) (vs vw:Value) (x:World) (e:Ending) (x':World):Prop :=
 e=.returned (.bool true)∧∃ pre2 gs cs gw cw,GM J p x' pre2 (.slice (some ⟨gs,0,none⟩) st.length cs) (.slice (some ⟨gw,0,none⟩) wy.length cw) lg (.slice (some ⟨gs,0,none⟩) st.length cs) (.slice (some ⟨gw,0,none⟩) wy.length cw) st wy∧FR p x x' vs vw (.slice (some ⟨gs,0,none⟩) st.length cs) (.slice (some ⟨gw,0,none⟩) wy.length cw)∧pre2.map ChB.ch=pre.map ChB.ch++Qa p.t p.op p.from_ p.to_ d st wy lg
theorem Lp.ret {J:List ChB→World→Prop}{p:GP}{d:Nat}{st wy:List Int}{lg:Int}{pre:List ChB}{vs vw:Value}{x:World}{e:Ending}{x':World}(h:Lp J p d st wy lg pre vs vw x e x'):e=.returned (.bool true):=h.1
theorem Ab5 {p:GP}{J:List ChB→World→Prop}(hJ:JOk J p) (hO:p.Ord) (hT:Aq p.t=0) {st wy:List Int}{lg:Int}{pre:List ChB}{gs cs gw cw:Nat}{x x0:World}{vs0 vw0:Value}(hM:GM J p x (pre) (.slice (some ⟨gs,0,none⟩) st.length cs) (.slice (some ⟨gw,0,none⟩) wy.length cw) (lg) (.slice (some ⟨gs,0,none⟩) st.length cs) (.slice (some ⟨gw,0,none⟩) wy.length cw) (st) (wy)) (hF:FR p x0 x vs0 vw0 (.slice (some ⟨gs,0,none⟩) st.length cs) (.slice (some ⟨gw,0,none⟩) wy.length cw)) (hwl:wy.length≤8) (a:Act) (Z:Sl a 96 [(2,.pointer (some ⟨p.by_,0,none⟩)),(3,.pointer (some ⟨p.bw,0,none⟩)),(4,.pointer (some ⟨p.bt,0,none⟩)),(5,.pointer (some ⟨p.bf,0,none⟩)),(6,.pointer (some ⟨p.bl,0,none⟩))]) (Q:Exit→Act→World→Prop)
  (h:∀ a x2 y,Sl a 96 [(9,.bool true)]→GM J p x2 (pre++[y]) (.slice (some ⟨gs,0,none⟩) st.length cs) (.slice (some ⟨gw,0,none⟩) wy.length cw) (lg) (.slice (some ⟨gs,0,none⟩) st.length cs) (.slice (some ⟨gw,0,none⟩) wy.length cw) (st) (wy)→FR p x0 x2 vs0 vw0 (.slice (some ⟨gs,0,none⟩) st.length cs) (.slice (some ⟨gw,0,none⟩) wy.length cw)→y.ch=⟨wy,OH p.t p.from_ wy,lg⟩→Q .normal a x2):(Ac Try.f125 3).wp Try.prog Q a x:=by
 rw[show Ac Try.f125 3=Code.region 3 _ true from rfl];have hz:x.heap.size≤x.heap.size:=Nat.le_refl _;obtain⟨H,hH⟩:∃ H,H=x.heap.size:=⟨_,rfl⟩;have hBH:p.B≤H:=by rw[hH];exact hM.size hJ
 have hbx:∀ k,k∈p.boxes→k<H:=fun k hk=>by rw[hH];exact UC hM hk
 have hgsH:gs<H:=by rw[hH];exact(Df.at0 hM.os).2.2.2.2.2
 have hgwH:gw<H:=by rw[hH];exact(Df.at0 hM.ow).2.2.2.2.2
 refine wpIn_wide.1 (Pz (r:=none) (n:=3) (by kernel_rfl) ((((((Z.nil.cons (Z.g 6)).cons (Z.g 5)).cons (Z.g 4)).cons (Z.g 3)).cons (Z.g 2))) [some 25,some 26,some 27,some 28,some 29,some 30,some 31,some 32,some 33,some 34,some 9] rfl rfl (by kernel_rfl) (fun j v x=>match j with|0=>v=.func (.yield p.l) #[] #[]|1=>v=.slice (some ⟨gw,0,none⟩) wy.length cw|2=>(Df x H v wy∧v ≠ .slice none 0 0)|3=>v=.agg (CJ p.t p.s)|4=>v=.int .i64 p.from_|5=>v=.slice (some ⟨gw,0,none⟩) wy.length cw|6=>v=.int .i64 (OH p.t p.from_ wy)|7=>v=.int .i64 lg|8=>(∃ u,v=.agg #[u,.int .i64 (OH p.t p.from_ wy),.int .i64 lg]∧Df x H u wy∧u ≠ .slice none 0 0)|9=>v=.bool true|10=>v=.bool true|_=>True) (fun L y=>∃ pre2,GM J p y (pre2) (.slice (some ⟨gs,0,none⟩) st.length cs) (.slice (some ⟨gw,0,none⟩) wy.length cw) (lg) (.slice (some ⟨gs,0,none⟩) st.length cs) (.slice (some ⟨gw,0,none⟩) wy.length cw) (st) (wy)∧FR p x0 y vs0 vw0 (.slice (some ⟨gs,0,none⟩) st.length cs) (.slice (some ⟨gw,0,none⟩) wy.length cw)∧(L 9=false→pre2=pre)∧(L 9=true→∃ c,pre2=pre++[c]∧c.ch=⟨wy,OH p.t p.from_ wy,lg⟩)∧H≤y.heap.size) ⟨pre,hM.drew hJ,hF.below (Below.refl _ _).drew,fun _=>rfl,fun h=>by simp at h,by rw[hH];exact Nat.le_refl _⟩ ?_ ?_)
 ·clear Z hM hF;intro k o hkl ho L a x hI hLk Z hs hd;have hlt:∀ k:Nat,k<11→k=0∨k=1∨k=2∨k=3∨k=4∨k=5∨k=6∨k=7∨k=8∨k=9∨k=10:=by decide
  obtain⟨pre2,hM,hF,hn9,hy9,hHx⟩:=hI;have hE:=hM.env hJ;rcases hlt k hkl with rfl|rfl|rfl|rfl|rfl|rfl|rfl|rfl|rfl|rfl|rfl
  ·obtain rfl:=Option.some.inj ho;have e2:=Z.g 2;have c:=hM.ky.cell (o:=0) rfl;clear hs hd;refine FM rfl rfl rfl (fun K hK=>?_);unfold Oper.wp;go_simp;exact hK _ _ ⟨_,rfl,rfl,⟨pre2,hM,hF,fun h=>hn9 (by simpa[BC] using h),fun h=>hy9 (by simpa[BC] using h),hHx⟩,fun _ _ h=>h⟩
  ·obtain rfl:=Option.some.inj ho;have e3:=Z.g 3;have c:=hM.kw.cell (o:=0) rfl;clear hs hd;refine FM rfl rfl rfl (fun K hK=>?_);unfold Oper.wp;go_simp;exact hK _ _ ⟨_,rfl,rfl,⟨pre2,hM,hF,fun h=>hn9 (by simpa[BC] using h),fun h=>hy9 (by simpa[BC] using h),hHx⟩,fun _ _ h=>h⟩
  ·obtain rfl:=Option.some.inj ho;obtain⟨_,e26,rfl⟩:=hs 1 _ 26 rfl rfl (hd 1 wm);clear hs hd;refine FM rfl rfl rfl (fun K hK=>?_);unfold Oper.wp;go_simp;obtain⟨hwn,hwc,_,hwi,_,_⟩:=Df.at0 hM.ow;refine(U2 hwi (by omega)).mono ?_;rintro e x2 ⟨v,rfl,hv,hvn,hb⟩;exact hK _ _ ⟨_,rfl,⟨AU.lower hv hHx,hvn⟩,⟨pre2,hM.below hJ hb,hF.below hb,fun h=>hn9 (by simpa[BC] using h),fun h=>hy9 (by simpa[BC] using h),Nat.le_trans hHx hb.size⟩,fun j u=>by match j with|2=>exact fun h=>⟨h.1.below hb,h.2⟩|8=>exact fun ⟨u,h1,h2,h3⟩=>⟨u,h1,h2.below hb,h3⟩|0=>exact id|1=>exact id|3=>exact id|4=>exact id|5=>exact id|6=>exact id|7=>exact id|9=>exact id|10=>exact id|_+11=>exact id⟩
  ·obtain rfl:=Option.some.inj ho;have e4:=Z.g 4;have c0:x.cell? ⟨p.bt,0,none⟩=_:=hE.kt.cell (o:=0) rfl;have c1:x.cell? ⟨p.bt,1,none⟩=_:=hE.kt.cell (o:=1) rfl;have c2:x.cell? ⟨p.bt,2,none⟩=_:=hE.kt.cell (o:=2) rfl;have c3:x.cell? ⟨p.bt,3,none⟩=_:=hE.kt.cell (o:=3) rfl;have c4:x.cell? ⟨p.bt,4,none⟩=_:=hE.kt.cell (o:=4) rfl;have c5:x.cell? ⟨p.bt,5,none⟩=_:=hE.kt.cell (o:=5) rfl;clear hs hd;refine FM rfl rfl rfl (fun K hK=>?_);unfold Oper.wp;go_simp;exact hK _ _ ⟨_,rfl,rfl,⟨pre2,hM,hF,fun h=>hn9 (by simpa[BC] using h),fun h=>hy9 (by simpa[BC] using h),hHx⟩,fun _ _ h=>h⟩
  ·obtain rfl:=Option.some.inj ho;have e5:=Z.g 5;have c:=hE.kf.cell (o:=0) rfl;clear hs hd;refine FM rfl rfl rfl (fun K hK=>?_);unfold Oper.wp;go_simp;exact hK _ _ ⟨_,rfl,rfl,⟨pre2,hM,hF,fun h=>hn9 (by simpa[BC] using h),fun h=>hy9 (by simpa[BC] using h),hHx⟩,fun _ _ h=>h⟩
  ·obtain rfl:=Option.some.inj ho;have e3:=Z.g 3;have c:=hM.kw.cell (o:=0) rfl;clear hs hd;refine FM rfl rfl rfl (fun K hK=>?_);unfold Oper.wp;go_simp;exact hK _ _ ⟨_,rfl,rfl,⟨pre2,hM,hF,fun h=>hn9 (by simpa[BC] using h),fun h=>hy9 (by simpa[BC] using h),hHx⟩,fun _ _ h=>h⟩
  ·obtain rfl:=Option.some.inj ho;obtain⟨_,e28,rfl⟩:=hs 3 _ 28 rfl rfl (hd 3 wm);obtain⟨_,e29,rfl⟩:=hs 4 _ 29 rfl rfl (hd 4 wm);obtain⟨_,e30,rfl⟩:=hs 5 _ 30 rfl rfl (hd 5 wm);clear hs hd;refine FM rfl rfl rfl (fun K hK=>?_);unfold Oper.wp;go_simp;obtain⟨hwn,hwc,_,hwi,_,_⟩:=Df.at0 hM.ow;refine(ZH hE.tar hT hwi hwc (by omega)).mono ?_;rintro e x2 ⟨rfl,hb⟩;exact hK _ _ ⟨_,rfl,rfl,⟨pre2,hM.below hJ hb,hF.below hb,fun h=>hn9 (by simpa[BC] using h),fun h=>hy9 (by simpa[BC] using h),Nat.le_trans hHx hb.size⟩,fun j u=>by match j with|2=>exact fun h=>⟨h.1.below hb,h.2⟩|8=>exact fun ⟨u,h1,h2,h3⟩=>⟨u,h1,h2.below hb,h3⟩|0=>exact id|1=>exact id|3=>exact id|4=>exact id|5=>exact id|6=>exact id|7=>exact id|9=>exact id|10=>exact id|_+11=>exact id⟩
  ·obtain rfl:=Option.some.inj ho;have e6:=Z.g 6;have c:=hM.kl.cell (o:=0) rfl;clear hs hd;refine FM rfl rfl rfl (fun K hK=>?_);unfold Oper.wp;go_simp;exact hK _ _ ⟨_,rfl,rfl,⟨pre2,hM,hF,fun h=>hn9 (by simpa[BC] using h),fun h=>hy9 (by simpa[BC] using h),hHx⟩,fun _ _ h=>h⟩
  ·obtain rfl:=Option.some.inj ho;obtain⟨v27,e27,hv27⟩:=hs 2 _ 27 rfl rfl (hd 2 wm);obtain⟨hvO,hvn⟩:=hv27;obtain⟨_,e31,rfl⟩:=hs 6 _ 31 rfl rfl (hd 6 wm);obtain⟨_,e32,rfl⟩:=hs 7 _ 32 rfl rfl (hd 7 wm);clear hs hd;refine FM rfl rfl rfl (fun K hK=>?_);unfold Oper.wp;go_simp;obtain⟨ga,ca,rfl,_⟩:=Df.sl hvO hvn;exact hK _ _ ⟨_,rfl,⟨_,rfl,hvO,hvn⟩,⟨pre2,hM,hF,fun h=>hn9 (by simpa[BC] using h),fun h=>hy9 (by simpa[BC] using h),hHx⟩,fun _ _ h=>h⟩
  ·obtain rfl:=Option.some.inj ho;obtain⟨_,e25,rfl⟩:=hs 0 _ 25 rfl rfl (hd 0 wm);obtain⟨v33,e33,hv33⟩:=hs 8 _ 33 rfl rfl (hd 8 wm);obtain⟨u,rfl,huO,hun⟩:=hv33;clear hs hd;have hpre:pre2=pre:=hn9 hLk;subst hpre;have hBx:=hM.size hJ;have hgv:ChB.Given p.B x ⟨⟨wy,OH p.t p.from_ wy,lg⟩,u⟩:=⟨AU.lower huO hBH,hun,by show wy.length≤1000;omega⟩;refine Sj rfl rfl rfl e25 e33 (hJ.yld _ _ _ hM.j hgv) ?_;rintro e x2 ⟨rfl,hj2,hk2⟩
   have hy:∀ k,ChB.own ⟨⟨wy,OH p.t p.from_ wy,lg⟩,u⟩=some k→k ∉ p.boxes∧(.slice (some ⟨gs,0,none⟩) st.length cs:Value).ownBlock≠some k∧(.slice (some ⟨gw,0,none⟩) wy.length cw:Value).ownBlock≠some k:=fun k hk=>by
    have h1:=(AU.Ak huO (show u.ownBlock=some k from hk)).1;exact⟨fun hm=>by have:=hbx k hm;omega,fun e=>by simp[Value.ownBlock]at e;omega,fun e=>by simp[Value.ownBlock]at e;omega⟩
   refine⟨.bool true,rfl,.bool true,rfl,rfl,⟨pre2++[⟨⟨wy,OH p.t p.from_ wy,lg⟩,u⟩],hM.round hO hj2 hk2 hy,hF.round hk2,fun h=>by simp[BC]at h,fun _=>⟨_,rfl,rfl⟩,Nat.le_trans hHx hk2.1⟩,?_⟩;have kp:∀ {v:Value},Df x H v wy→Df x2 H v wy:=fun h=>h.keep fun g hg=>hk2.2 g (Nat.le_trans hBH (AU.Ak h hg).1) (AU.Ak h hg).2
   exact fun j u=>by match j with|2=>exact fun h=>⟨kp h.1,h.2⟩|8=>exact fun ⟨u,h1,h2,h3⟩=>⟨u,h1,kp h2,h3⟩|0=>exact id|1=>exact id|3=>exact id|4=>exact id|5=>exact id|6=>exact id|7=>exact id|9=>exact id|10=>exact id|_+11=>exact id
  ·obtain rfl:=Option.some.inj ho;obtain⟨_,e34,rfl⟩:=hs 9 _ 34 rfl rfl (hd 9 wm);clear hs hd;refine FM rfl rfl rfl (fun K hK=>?_);unfold Oper.wp;go_simp;exact hK _ _ ⟨_,rfl,rfl,⟨pre2,hM,hF,fun h=>hn9 (by simpa[BC] using h),fun h=>hy9 (by simpa[BC] using h),hHx⟩,fun _ _ h=>h⟩
 ·clear Z;intro L a x hall hI Z hs;obtain⟨pre2,hM,hF,_,hy9,_⟩:=hI;obtain⟨c,rfl,hc⟩:=hy9 (hall 9 (by decide));obtain⟨_,e9,rfl⟩:=hs 10 _ 9 rfl rfl (hall 10 (by decide));exact h _ _ c (Z.nil.cons e9) hM hF hc
end
end Go.Proofs.Ytgdobbcjkiapkaa
