import Derived.Test.YtgdobbcjkiapkaaNo01
import Derived.Deep.Quiet
namespace Go.Proofs.Ytgdobbcjkiapkaa
set_option maxRecDepth 100000
set_option maxHeartbeats 4000000
set_option linter.unusedSimpArgs false
set_option linter.unusedVariables false
section
open Go.RowKit
theorem GY {P:Program} {id:Nat} {Q:Exit→Act→World→Prop} {a:Act} {w:World} {ops:Array Oper} {n:Nat} {m:List (Nat×Value)} (k0:Nat) (hm:P.follows .mixedOrders=true) (hsz:ops.size=k0+1) (hanc:OW ops k0=true) (hdag:dag ops=true) (Z:Sl a n m) (ds:List (Option Nat)) (hds:(ops.toList.take k0).map Oper.dst=ds) (hok:okD n (m.map Prod.fst) ds=true)
  (V:Nat→Value→World→Prop) (I:(Nat→Bool)→World→Prop) (hI:I (fun _=>false) w.drew)
  (hk:∀ (k:Nat) (o:Oper),k < k0→ops[k]? = some o→∀ L a w,I L w→L k=false→Sl a n m→Fe ops V L a w→(∀ d∈waits o,L d=true)→wpOp P ops Q k (fun a' w'=>∃ v,a'=a.put o.dst v∧V k v w'∧I (Bq L k true) w'∧∀ j u,V j u w→V j u w') a w)
  (hl:∀ L a w,(∀ k,k < k0→L k=true)→I L w→Sl a n m→Fe ops V L a w→wpOp P ops Q k0 (fun a' w'=>Q .normal a' w') a w):(Code.region id ops true).wp P Q a w:=by
 have hd:∀ (j:Nat) (o:Oper),ops[j]? = some o→j < k0→ds[j]? = some o.dst:=fun j o h hj=>by
  subst hds;rw [List.getElem?_map,List.getElem?_take_of_lt hj,Array.getElem?_toList,h];rfl
 refine DR hm (fun L a' w'=>(∀ k o,ops[k]? = some o→L k=true→BD o L=true)∧(L k0=true→Q .normal a' w')∧(L k0=false→I L w'∧Sl a' n m∧Fe ops V L a' w')) ⟨fun _ _ _ h=>by simp at h,fun h=>by simp at h,fun _=>⟨hI,Z,fun j o d _ _ h=>by simp at h⟩⟩ ?_ ?_
 ·rintro L a' w' i o ho ⟨hc,h1,h2⟩ hli hri;have hi:i < k0+1:=by have:=(Array.getElem?_eq_some_iff.1 ho).1;omega
  have hgo:∀ k o',ops[k]? = some o'→Bq L i true k=true→BD o' (Bq L i true)=true:=by
   intro k o' hk' hLk
   have hmono:∀ j,L j=true→Bq L i true j=true:=fun j hj=>by
    unfold Bq;split
    ·rfl
    ·exact hj
   by_cases e:k=i
   ·subst e;obtain rfl:=Option.some.inj (ho.symm.trans hk');exact Df hmono hri
   ·rw [Ar _ _ e] at hLk;exact Df hmono (hc k o' hk' hLk)
  have hanc1:∀ (L:Nat→Bool),(∀ k o,ops[k]? = some o→L k=true→BD o L=true)→L k0=true→∀ k,k < k0+1→L k=true:=fun L hc hLm k hkm=>by
   refine PN hc ops.size (· == k0) (fun k hk =>?_) k ?_
   ·have:k=k0:=by simpa using hk
    rw [this];exact hLm
   ·unfold OW at hanc;rw [List.all_eq_true] at hanc;exact hanc k (by rw [List.mem_range];omega)
  have hm0:L k0=false:=by
   cases e:L k0
   ·rfl
   ·rw [hanc1 L hc e i hi] at hli;simp at hli
  obtain ⟨hI1,hs1,hS1⟩:=h2 hm0
  by_cases e:i=k0
  ·subst e;refine wpOp_mono ?_ (hl L a' w' (fun k hkm =>?_) hI1 hs1 hS1)
   ·intro a2 w2 hq;exact ⟨hgo,fun _=>hq,fun h=>by rw [D7] at h;simp at h⟩
   ·have:=hanc1 (Bq L i true) hgo (by rw [D7]) k (by omega)
    rwa [Ar _ _ (by omega)] at this
  ·have hik:i < k0:=by omega
   refine wpOp_mono ?_ (hk i o hik ho L a' w' hI1 hli hs1 hS1 (CS hri));rintro a2 w2 ⟨v,rfl,hv,hI2,hmono⟩;refine ⟨hgo,fun h=>by rw [Ar _ _ (Ne.symm e),hm0] at h;simp at h,fun _=>⟨hI2,?_,?_⟩⟩
   ·cases ed:o.dst with
    | none=>exact hs1
    | some d =>
     have hdd:=hd i o ho hik;rw [ed] at hdd;obtain ⟨hlt,hnm⟩:=FY hok hdd;have hp:=hs1.put d v hlt;refine ⟨hp.size,hp.defers,fun t u hu=>hp.get t u ?_⟩;rw [List.lookup_cons]
     have e2:(t == d)=false:=by
      have:t≠d:=by rintro rfl;exact hnm (EM hu)
      simpa using this
     rw [e2];exact hu
   ·intro j o' d hj hjd hLj
    have hjk:j < k0:=by
     have h1:=(Array.getElem?_eq_some_iff.1 hj).1
     by_cases c:j=k0
     ·subst c;rw [Ar _ _ (Ne.symm e),hm0] at hLj;simp at hLj
     ·omega
    have hdj:=hd j o' hj hjk;rw [hjd] at hdj
    cases ed:o.dst with
    | none =>
     have hne:j≠i:=by
      rintro rfl;rw [ho] at hj;obtain rfl:=Option.some.inj hj;rw [ed] at hjd;simp at hjd
     rw [Ar _ _ hne] at hLj;obtain ⟨u,hu,hvu⟩:=hS1 j o' d hj hjd hLj;exact ⟨u,hu,hmono _ _ hvu⟩
    | some x =>
     have hdi:=hd i o ho hik;rw [ed] at hdi
     by_cases c:j=i
     ·subst c;rw [hdj] at hdi;obtain rfl:d=x:=by simpa using hdi
      obtain ⟨hlt,_⟩:=FY hok hdj;exact ⟨v,by simp [Act.put,hs1.size,hlt],hv⟩
     ·rw [Ar _ _ c] at hLj;obtain ⟨u,hu,hvu⟩:=hS1 j o' d hj hjd hLj
      have hxd:x≠d:=by
       rintro rfl;exact c (LJ hok hdj hdi)
      refine ⟨u,?_,hmono _ _ hvu⟩;simp only [Act.put];rw [Array.getElem?_setIfInBounds_ne hxd];exact hu
 ·rintro L a' w' hall ⟨_,h1,_⟩;exact h1 (Hq hdag hall k0 (by omega))
end
section
open Go.RowKit
structure GU (w:World) (b:Nat) (r:AQ) (f:Flock) (shut:Int) (a:Option Addr) (cap:Nat):Prop where
 c0:w.cell? ⟨b,0,none⟩=some (.int .i64 r.days)
 c1:w.cell? ⟨b,1,none⟩=some (.int .i64 r.stages)
 c2:w.cell? ⟨b,2,none⟩=some (.slice a r.strips.length cap)
 c3:w.cell? ⟨b,3,none⟩=some (.int .i64 f.heads)
 c4:w.cell? ⟨b,4,none⟩=some (.int .i64 f.pace)
 c5:w.cell? ⟨b,5,none⟩=some (.int .i64 shut)
 strips:Eg w a r.strips
theorem GU.below {w w':World} {b:Nat} {r:AQ} {f:Flock} {shut:Int} {a:Option Addr} {cap:Nat} (h:GU w b r f shut a cap) (hb:Below w.heap.size w w'):GU w' b r f shut a cap:=by
 have hc:=(DX hb).1;have hl:=lt_of_cell h.c0;exact ⟨(hc _ _ hl).trans h.c0,(hc _ _ hl).trans h.c1,(hc _ _ hl).trans h.c2,(hc _ _ hl).trans h.c3,(hc _ _ hl).trans h.c4,(hc _ _ hl).trans h.c5,h.strips.below hb⟩
def AaX (s:Strip) (f:Flock):Bool:=decide (s.W < QD f.heads)
def AaW (s:Strip) (f:Flock):Bool:=decide (f.pace < s.L)
def AaV (s:Strip) (f:Flock):Bool:=s.K == 4 && decide (s.X < f.heads)
def AaU (s:Strip) (day:Int):Bool:=s.K == 2 && !(btw day s.X s.Y)
def AaT (s:Strip) (day:Int):Bool:=s.K == 3 && decide (8 < wrap64 (s.X+wrap64 (s.Y*day)))
theorem XK (w:World) (p q:Nat) (s:Strip) (f:Flock) (hp:EO w p 0 s) (hq:w.cell? ⟨q,0,none⟩=some (.int .i64 f.heads)) :
  Calls Try.prog 131 #[.pointer (some ⟨p,0,none⟩), .pointer (some ⟨q,0,none⟩)] w fun e w'=>e = .returned (.bool (AaX s f))∧Below w.heap.size w w':=by
 obtain ⟨s0,s1,s2,s3,s4,s5,s6⟩:=hp;simp only [Nat.zero_add] at s1 s2 s3 s4 s5 s6
 go_enter Try.func131,Try.ntmps131
 go_wp2_with fail
 go_quiet ((go_at_call 132;exact Calls.quiet_of_same ((WF _ _).mono fun e w' h=>⟨h.1,h.2.symm⟩)))
 go_wp2
 go_ret
 exact ⟨EE (by simp [AaX]),below_drewN (Below.refl _ _) _⟩
theorem XJ (w:World) (p q:Nat) (s:Strip) (f:Flock) (hp:EO w p 0 s) (hq:w.cell? ⟨q,1,none⟩=some (.int .i64 f.pace)) :
  Calls Try.prog 133 #[.pointer (some ⟨p,0,none⟩), .pointer (some ⟨q,0,none⟩)] w fun e w'=>e = .returned (.bool (AaW s f))∧Below w.heap.size w w':=by
 obtain ⟨s0,s1,s2,s3,s4,s5,s6⟩:=hp;simp only [Nat.zero_add] at s1 s2 s3 s4 s5 s6
 go_enter Try.func133,Try.ntmps133
 go_wp2
 go_ret
 exact ⟨EE (by simp [AaW]),Below.refl _ _⟩
theorem XI (w:World) (p q:Nat) (s:Strip) (f:Flock) (hp:EO w p 0 s) (hq:w.cell? ⟨q,0,none⟩=some (.int .i64 f.heads)) :
  Calls Try.prog 134 #[.pointer (some ⟨p,0,none⟩), .pointer (some ⟨q,0,none⟩)] w fun e w'=>e = .returned (.bool (AaV s f))∧Below w.heap.size w w':=by
 obtain ⟨s0,s1,s2,s3,s4,s5,s6⟩:=hp;simp only [Nat.zero_add] at s1 s2 s3 s4 s5 s6
 go_enter Try.func134,Try.ntmps134
 go_wp2
 all_goals go_ret
 all_goals exact ⟨EE (by simp [AaV, *]),Below.refl _ _⟩
theorem XH (w:World) (p q:Nat) (s:Strip) (day:Int) (hp:EO w p 0 s) (hq:w.cell? ⟨q,0,none⟩=some (.int .i64 day)) :
  Calls Try.prog 135 #[.pointer (some ⟨p,0,none⟩), .pointer (some ⟨q,0,none⟩)] w fun e w'=>e = .returned (.bool (AaU s day))∧Below w.heap.size w w':=by
 obtain ⟨s0,s1,s2,s3,s4,s5,s6⟩:=hp;simp only [Nat.zero_add] at s1 s2 s3 s4 s5 s6
 go_enter Try.func135,Try.ntmps135
 go_wp2_with (go_at_call 111;refine (BN _ _ _ _).mono ?_;rintro e w' ⟨rfl,rfl⟩)
 all_goals go_ret
 all_goals exact ⟨EE (by simp [AaU, *]),Below.refl _ _⟩
theorem XG (w:World) (p q:Nat) (s:Strip) (day:Int) (hp:EO w p 0 s) (hq:w.cell? ⟨q,0,none⟩=some (.int .i64 day)) :
  Calls Try.prog 136 #[.pointer (some ⟨p,0,none⟩), .pointer (some ⟨q,0,none⟩)] w fun e w'=>e = .returned (.bool (AaT s day))∧Below w.heap.size w w':=by
 obtain ⟨s0,s1,s2,s3,s4,s5,s6⟩:=hp;simp only [Nat.zero_add] at s1 s2 s3 s4 s5 s6
 go_enter Try.func136,Try.ntmps136
 go_wp2
 all_goals go_ret
 all_goals exact ⟨EE (by simp [AaT, *]),Below.refl _ _⟩
def SN (s:Strip) (f:Flock) (day:Int):Nat→Bool
 | 0=>AaX s f
 | 1=>AaW s f
 | 2=>AaV s f
 | 3=>AaU s day
 | _=>AaT s day
def Ih (s:Strip) (f:Flock) (day:Int):Nat→List Int
 | 0=>[]
 | k+1=>Ih s f day k++(if SN s f day k then [(k:Int)+1] else [])
def Z7 (s:Strip) (f:Flock) (day:Int):List Int:=Ih s f day 5
theorem XF (s:Strip) (f:Flock) (day:Int) (k:Nat):(Ih s f day k).length≤k:=by
 induction k with
 | zero=>simp [Ih]
 | succ k ih=>simp only [Ih,List.length_append];split <;> simp <;> omega
theorem GL {s:Strip} {f:Flock} {day:Int} {k:Nat} (h:SN s f day k=true):Ih s f day (k+1)=Ih s f day k++[(k:Int)+1]:=by simp [Ih,h]
theorem IR {s:Strip} {f:Flock} {day:Int} {k:Nat} (h:SN s f day k=false):Ih s f day (k+1)=Ih s f day k:=by simp [Ih,h]
theorem Y0 (x0 x1 x2 x3 x4:Value) (w:World):(Instr.index 166 (.agg #[x0,x1,x2,x3,x4]) (.int .i64 0)).run Try.prog w = .ok x0 w:=by kernel_rfl
theorem YZ (x0 x1 x2 x3 x4:Value) (w:World):(Instr.index 166 (.agg #[x0,x1,x2,x3,x4]) (.int .i64 1)).run Try.prog w = .ok x1 w:=by kernel_rfl
theorem YY (x0 x1 x2 x3 x4:Value) (w:World):(Instr.index 166 (.agg #[x0,x1,x2,x3,x4]) (.int .i64 2)).run Try.prog w = .ok x2 w:=by kernel_rfl
theorem YX (x0 x1 x2 x3 x4:Value) (w:World):(Instr.index 166 (.agg #[x0,x1,x2,x3,x4]) (.int .i64 3)).run Try.prog w = .ok x3 w:=by kernel_rfl
theorem YW (x0 x1 x2 x3 x4:Value) (w:World):(Instr.index 166 (.agg #[x0,x1,x2,x3,x4]) (.int .i64 4)).run Try.prog w = .ok x4 w:=by kernel_rfl
theorem Y1 (w:World) (b:Nat) (r:AQ) (f:Flock) (shut:Int) (a:Option Addr) (cap:Nat) (h:GU w b r f shut a cap) (i:Nat) (hi:i < r.strips.length) (day:Int) :
  Calls Try.prog 120 #[.pointer (some ⟨b,0,none⟩), .int .i64 i, .int .i64 day] w
   fun e w'=>∃ v,e = .returned v∧Ce w' w.heap.size v (Z7 r.strips[i] f day)∧Below w.heap.size w w':=by
 obtain ⟨c0,c1,c2,c3,c4,c5,hs⟩:=h;rcases hs with hs | ⟨sb,so,rfl,hs⟩
 ·simp [hs] at hi
 have hst:=hs i hi;obtain ⟨s0,s1,s2,s3,s4,s5,s6⟩:=hst;clear hs;generalize hg:r.strips[i]=s at s0 s1 s2 s3 s4 s5 s6;have hmf:∀ (fn:Fn) (first cap:Array Value) (w:World),(Instr.makeFunc fn first cap).run Try.prog w = .ok (.func fn first cap) w:=fun _ _ _ _=>rfl
 have hbl:=lt_of_cell c0;have Z:=lt_of_cell s0;have hbl1:b < w.heap.size+1:=by omega
 have hbl2:b < w.heap.size+1+1:=by omega
 have hsl1:sb < w.heap.size+1:=by omega
 have hsl2:sb < w.heap.size+1+1:=by omega
 go_enter Try.func120,Try.ntmps120
 go_upto_region 1 with (fail)
 go_cut [7,8] (fun v7 v8 wx=>∃ p q:Nat,v7 = .pointer (some ⟨p,0,none⟩)∧v8 = .pointer (some ⟨q,0,none⟩)∧w.heap.size < p∧w.heap.size < q ∧
   EO wx p 0 s∧wx.cell? ⟨q,0,none⟩=some (.int .i64 f.heads)∧wx.cell? ⟨q,1,none⟩=some (.int .i64 f.pace)∧wx.cell? ⟨w.heap.size,0,none⟩=some (.int .i64 day)∧Below w.heap.size w wx)
 case first =>
  go_region
  all_goals (go_wp2_with fail;go_meet)
  case rel=>exact ⟨_,_,rfl,rfl,by omega,by omega,⟨by simp [go_sem],by simp [go_sem],by simp [go_sem],by simp [go_sem],by simp [go_sem],by simp [go_sem],by simp [go_sem]⟩,by simp [go_sem],by simp [go_sem],by simp [go_sem],by go_grown⟩
  case rel=>exact ⟨_,_,rfl,rfl,by omega,by omega,⟨by simp [go_sem],by simp [go_sem],by simp [go_sem],by simp [go_sem],by simp [go_sem],by simp [go_sem],by simp [go_sem]⟩,by simp [go_sem],by simp [go_sem],by simp [go_sem],by go_grown⟩
 case rest =>
  obtain ⟨p,q,rfl,rfl,hp,hq,hst,hq0,hq1,hd0,hb⟩:=hcut;clear c0 c1 c2 c3 c4 c5 s0 s1 s2 s3 s4 s5 s6 hbl1 hbl2 hsl1 hsl2 hbl Z;have hpl:=lt_of_cell hst.c0;have hql:=lt_of_cell hq0;have hwl:=lt_of_cell hd0;have Hst:=Lib.hid hst;clear hst;have Hq0:=Lib.hid hq0;clear hq0;have Hq1:=Lib.hid hq1;clear hq1;have Hd0:=Lib.hid hd0;clear hd0
  go_wp2
  go_loopw [10,32] (fun v10 v32 wr=>∃ k:Nat,k≤5∧v32 = .int .i64 k∧Ce wr wc.heap.size v10 (Ih s f day k)∧Below wc.heap.size wc wr) (fun _ v _=>5-(intOf v).toNat)
  case atStart=>exact ⟨0,Nat.zero_le _,rfl,Ce.nil _ _,Below.alloc (Below.refl _ _) (Nat.le_refl _) _⟩
  case round =>
   obtain ⟨k,hk,rfl,hown,hbr⟩:=hrel;have hle:=XF s f day k
   by_cases hk5:k=5
   ·subst hk5
    go_wp2
    go_ret
    exact ⟨_,rfl,hown.mono (by omega),hb.trans (hbr.mono (by omega))⟩
   ·obtain ⟨hc,_⟩:=DX (W:=wc) hbr;have hst:EO wr p 0 s:=Hst.out.keep fun j=>hc _ _ hpl
    have hq0:wr.cell? ⟨q,0,none⟩=some (.int .i64 f.heads):=by rw [hc _ _ hql];exact Hq0.out
    have hq1:wr.cell? ⟨q,1,none⟩=some (.int .i64 f.pace):=by rw [hc _ _ hql];exact Hq1.out
    have hd0:wr.cell? ⟨w.heap.size,0,none⟩=some (.int .i64 day):=by rw [hc _ _ hwl];exact Hd0.out
    have hst':=Lib.hid hst;clear hst;clear hc;have hsz:=hbr.size;obtain rfl | rfl | rfl | rfl | rfl:k=0∨k=1∨k=2∨k=3∨k=4:=by omega
    all_goals have ix0:=Y0
    all_goals have ix1:=YZ
    all_goals have ix2:=YY
    all_goals have ix3:=YX
    all_goals have ix4:=YW
    all_goals go_wp2_with fail
    all_goals clear ix0 ix1 ix2 ix3 ix4
    ·refine (XK wr p q s f hst'.out hq0).mono ?_;rintro e w2 ⟨rfl,hb2⟩
     cases hT:AaX s f
     all_goals go_wp2_with (at_builtin;refine Jc rfl _ _ rfl wc.heap.size _ _ rfl (hown.below hb2) _ rfl (by omega) (by have:=hb2.size;omega) ?_)
     ·exact ⟨⟨1,by omega,rfl,by rw [IR (k:=0) hT];exact hown.below hb2,hbr.trans (hb2.mono hsz)⟩,by simp [intOf]⟩
     ·intro v' w' hown' hbel _
      go_wp2
      exact ⟨⟨1,by omega,rfl,by rw [GL (k:=0) hT];exact hown',hbr.trans ((hb2.mono hsz).trans hbel)⟩,by simp [intOf]⟩
    ·refine (XJ wr p q s f hst'.out hq1).mono ?_;rintro e w2 ⟨rfl,hb2⟩
     cases hT:AaW s f
     all_goals go_wp2_with (at_builtin;refine Jc rfl _ _ rfl wc.heap.size _ _ rfl (hown.below hb2) _ rfl (by omega) (by have:=hb2.size;omega) ?_)
     ·exact ⟨⟨2,by omega,rfl,by rw [IR (k:=1) hT];exact hown.below hb2,hbr.trans (hb2.mono hsz)⟩,by simp [intOf]⟩
     ·intro v' w' hown' hbel _
      go_wp2
      exact ⟨⟨2,by omega,rfl,by rw [GL (k:=1) hT];exact hown',hbr.trans ((hb2.mono hsz).trans hbel)⟩,by simp [intOf]⟩
    ·refine (XI wr p q s f hst'.out hq0).mono ?_;rintro e w2 ⟨rfl,hb2⟩
     cases hT:AaV s f
     all_goals go_wp2_with (at_builtin;refine Jc rfl _ _ rfl wc.heap.size _ _ rfl (hown.below hb2) _ rfl (by omega) (by have:=hb2.size;omega) ?_)
     ·exact ⟨⟨3,by omega,rfl,by rw [IR (k:=2) hT];exact hown.below hb2,hbr.trans (hb2.mono hsz)⟩,by simp [intOf]⟩
     ·intro v' w' hown' hbel _
      go_wp2
      exact ⟨⟨3,by omega,rfl,by rw [GL (k:=2) hT];exact hown',hbr.trans ((hb2.mono hsz).trans hbel)⟩,by simp [intOf]⟩
    ·refine (XH wr p w.heap.size s day hst'.out hd0).mono ?_;rintro e w2 ⟨rfl,hb2⟩
     cases hT:AaU s day
     all_goals go_wp2_with (at_builtin;refine Jc rfl _ _ rfl wc.heap.size _ _ rfl (hown.below hb2) _ rfl (by omega) (by have:=hb2.size;omega) ?_)
     ·exact ⟨⟨4,by omega,rfl,by rw [IR (k:=3) hT];exact hown.below hb2,hbr.trans (hb2.mono hsz)⟩,by simp [intOf]⟩
     ·intro v' w' hown' hbel _
      go_wp2
      exact ⟨⟨4,by omega,rfl,by rw [GL (k:=3) hT];exact hown',hbr.trans ((hb2.mono hsz).trans hbel)⟩,by simp [intOf]⟩
    ·refine (XG wr p w.heap.size s day hst'.out hd0).mono ?_;rintro e w2 ⟨rfl,hb2⟩
     cases hT:AaT s day
     all_goals go_wp2_with (at_builtin;refine Jc rfl _ _ rfl wc.heap.size _ _ rfl (hown.below hb2) _ rfl (by omega) (by have:=hb2.size;omega) ?_)
     ·exact ⟨⟨5,by omega,rfl,by rw [IR (k:=4) hT];exact hown.below hb2,hbr.trans (hb2.mono hsz)⟩,by simp [intOf]⟩
     ·intro v' w' hown' hbel _
      go_wp2
      exact ⟨⟨5,by omega,rfl,by rw [GL (k:=4) hT];exact hown',hbr.trans ((hb2.mono hsz).trans hbel)⟩,by simp [intOf]⟩
end
section
open Go.RowKit
theorem KO (m k s:Nat) (hm:m < 65536) (hk:2 ^ s=k):(bits .and .u16 ((m:Int) / (k:Int)) 1 == 1)=m.testBit s:=by
 have e:((m:Int) / (k:Int))=((m / k:Nat):Int):=by simp
 have h1:m / k < 65536:=Nat.lt_of_le_of_lt (Nat.div_le_self _ _) hm;have h2:=u16_and_nat (m / k) 1 h1 (by omega);have h3:bits .and .u16 ((m / k:Nat):Int) 1=((m / k &&& 1:Nat):Int):=h2;rw [e,h3,Nat.testBit_eq_decide_div_mod_eq,hk,Nat.and_one_is_mod];have:m / k % 2=0∨m / k % 2=1:=by omega
 rcases this with h | h <;> simp [h]
theorem ZI (m s:Nat) (hm:m < 65536) (hs:s < 6) (w:World) :
  Calls Try.prog 122 #[.int .u16 m, .int .i64 s] w fun e w'=>e = .returned (.bool (m.testBit s))∧w=w':=by
 obtain rfl | rfl | rfl | rfl | rfl | rfl:s=0∨s=1∨s=2∨s=3∨s=4∨s=5:=by omega
 all_goals go_enter Try.func122,Try.ntmps122
 all_goals go_wp2
 all_goals go_ret
 all_goals refine ⟨EE ?_,rfl⟩
 ·have:=KO m 1 0 hm rfl;simpa using this
 ·exact KO m 2 1 hm rfl
 ·exact KO m 4 2 hm rfl
 ·exact KO m 8 3 hm rfl
 ·exact KO m 16 4 hm rfl
 ·exact KO m 32 5 hm rfl
theorem IY (m k:Nat) (hm:m < 65536) (hk:k < 65536):bits .or .u16 (m:Int) (k:Int)=((m ||| k:Nat):Int):=u16_or_nat m k hm hk
theorem Tn (m s:Nat) (hm:m < 65536) (hs:s < 6) (w:World) :
  Calls Try.prog 103 #[.int .u16 m, .int .i64 s] w fun e w'=>e = .returned (.int .u16 ((m ||| (1 <<< s):Nat):Int))∧w=w':=by
 obtain rfl | rfl | rfl | rfl | rfl | rfl:s=0∨s=1∨s=2∨s=3∨s=4∨s=5:=by omega
 all_goals go_enter Try.func103,Try.ntmps103
 all_goals go_wp2
 all_goals go_ret
 all_goals refine ⟨Dc ?_,rfl⟩
 ·exact IY m 1 hm (by decide)
 ·exact IY m 2 hm (by decide)
 ·exact IY m 4 hm (by decide)
 ·exact IY m 8 hm (by decide)
 ·exact IY m 16 hm (by decide)
 ·exact IY m 32 hm (by decide)
def endOf (s:Strip) (t:Int):Int×Bool:=if t=s.A then (s.B,true) else if t=s.B then (s.A,true) else (0,false)
set_option maxHeartbeats 1000000 in
theorem ZP (w:World) (b:Nat) (r:AQ) (f:Flock) (shut:Int) (a:Option Addr) (cap:Nat) (h:GU w b r f shut a cap) (i:Nat) (hi:i < r.strips.length) (t:Int) :
  Calls Try.prog 121 #[.pointer (some ⟨b,0,none⟩), .int .i64 i, .int .i64 t] w
   fun e w'=>e = .returned (.tuple #[.int .i64 (endOf r.strips[i] t).1, .bool (endOf r.strips[i] t).2])∧Below w.heap.size w w':=by
 obtain ⟨c0,c1,c2,c3,c4,c5,hs⟩:=h;rcases hs with hs | ⟨sb,so,rfl,hs⟩
 ·simp [hs] at hi
 obtain ⟨s0,s1,s2,s3,s4,s5,s6⟩:=hs i hi;clear hs;generalize hg:r.strips[i]=s at s0 s1 s2 s3 s4 s5 s6
 by_cases hA:t=s.A
 ·go_enter Try.func121,Try.ntmps121
  go_wp2
  all_goals go_ret2
  all_goals exact ⟨by simp [endOf,hA],by go_grown⟩
 ·by_cases hB:t=s.B
  ·go_enter Try.func121,Try.ntmps121
   go_wp2
   all_goals go_ret2
   all_goals exact ⟨by simp_all [endOf],by go_grown⟩
  ·go_enter Try.func121,Try.ntmps121
   go_wp2
   all_goals go_ret2
   all_goals exact ⟨by simp [endOf,hA,hB],by go_grown⟩
theorem Yu (l:List Int):((l.length:Int) == 0)=l.isEmpty:=by
 cases l with
 | nil=>rfl
 | cons x l=>simp only [List.length_cons,List.isEmpty_cons,beq_eq_false_iff_ne];omega
def LZ (r:AQ) (f:Flock) (shut:Int) (i:Nat) (day:Int):Bool:=match r.strips[i]? with
 | some s=>((i:Int) != shut) && (Z7 s f day).isEmpty
 | none=>false
set_option maxHeartbeats 1000000 in
theorem open_any (w:World) (b:Nat) (r:AQ) (f:Flock) (shut:Int) (a:Option Addr) (cap:Nat) (h:GU w b r f shut a cap) (i:Nat) (hi:i < r.strips.length) (day:Int) :
  Calls Try.prog 101 #[.pointer (some ⟨b,0,none⟩), .int .i64 i, .int .i64 day] w
   fun e w'=>e = .returned (.bool (LZ r f shut i day))∧Below w.heap.size w w':=by
 have hO:LZ r f shut i day=(((i:Int) != shut) && (Z7 r.strips[i] f day).isEmpty):=by simp [LZ,hi]
 have HO:=Lib.hid hO;clear hO;have H:=h;obtain ⟨c0,c1,c2,c3,c4,c5,hs⟩:=h
 by_cases hs':(i:Int)=shut
 ·subst hs'
  go_enter Try.func101,Try.ntmps101
  go_wp2_with fail
  go_ret
  exact ⟨EE (by rw [HO.out];simp),Below.refl _ _⟩
 ·go_enter Try.func101,Try.ntmps101
  go_wp2_with fail
  refine (Y1 w b r f shut a cap H i hi day).mono ?_;rintro e w1 ⟨v,rfl,hown,hb⟩;obtain ⟨a1,cap1,rfl,_,_⟩:=hown.ints;clear hown
  go_wp2
  go_ret
  exact ⟨EE (by rw [HO.out,Yu]),hb⟩
end
section
open Go.RowKit
structure Good (r:AQ) (f:Flock):Prop where
 d1:1≤r.days
 d2:r.days≤10
 s1:1≤r.stages
 s2:r.stages≤6
 n8:r.strips.length≤8
 strip:∀ s∈r.strips,0≤s.A∧s.A < r.stages∧0≤s.B∧s.B < r.stages∧s.A≠s.B∧1≤s.L∧s.L≤9∧1≤s.W∧s.W≤99 ∧
  ((s.K=1∧s.X=0∧s.Y=0)∨(s.K=2∧0≤s.X∧s.X≤s.Y∧s.Y < r.days)∨(s.K=3∧0≤s.X∧s.X≤20∧-5≤s.Y∧s.Y≤5)∨(s.K=4∧1≤s.X∧s.X≤40∧s.Y=0))
 h1:1≤f.heads
 h2:f.heads≤40
 p1:1≤f.pace
 p2:f.pace≤9
theorem Ir {D S:Int}:∀ {l:List Strip},Be D S l=0↔∀ s∈l,BZ s D S=0
 | []=>by simp [Be]
 | s :: l=>by
  simp only [Be,List.forall_mem_cons]
  by_cases h:BZ s D S=0
  ·simp [h,Ir]
  ·simp [h]
theorem MF {D S:Int} {s:Strip}:BZ s D S=0↔0≤s.A∧s.A < S∧0≤s.B∧s.B < S∧s.A≠s.B∧1≤s.L∧s.L≤9∧1≤s.W∧s.W≤99 ∧
  ((s.K=1∧s.X=0∧s.Y=0)∨(s.K=2∧0≤s.X∧s.X≤s.Y∧s.Y < D)∨(s.K=3∧0≤s.X∧s.X≤20∧-5≤s.Y∧s.Y≤5)∨(s.K=4∧1≤s.X∧s.X≤40∧s.Y=0)):=by
 unfold BZ Hl Hg btw;obtain ⟨A,B,L,W,K,X,Y⟩:=s
 dsimp only
 by_cases h1:K=1
 ·subst h1;simp;constructor
  ·intro h;repeat' split at h
   all_goals simp_all;try omega
  ·intro h;simp_all;omega
 ·by_cases h2:K=2
  ·subst h2;simp;constructor
   ·intro h;repeat' split at h
    all_goals simp_all;try omega
   ·intro h;simp_all;omega
  ·by_cases h3:K=3
   ·subst h3;simp;constructor
    ·intro h;repeat' split at h
     all_goals simp_all;try omega
    ·intro h;simp_all;omega
   ·by_cases h4:K=4
    ·subst h4;simp;constructor
     ·intro h;repeat' split at h
      all_goals simp_all;try omega
     ·intro h;simp_all;omega
    ·simp [h1,h2,h3,h4];intro h;repeat' split at h
     all_goals simp_all
theorem TE {r:AQ} {f:Flock}:Good r f↔BM r=0∧DW f=0:=by
 constructor
 ·intro g;refine ⟨?_,?_⟩
  ·unfold BM;rw [if_neg (by simp [btw];have:=g.d1;have:=g.d2;have:=g.s1;have:=g.s2;omega),if_neg (by have:=g.n8;omega)];exact Ir.2 fun s hs=>MF.2 (g.strip s hs)
  ·unfold DW;rw [if_neg (by simp [btw];have:=g.h1;have:=g.h2;have:=g.p1;have:=g.p2;omega)]
 ·rintro ⟨hc,hf⟩;unfold BM at hc;unfold DW at hf
  by_cases c1:(!(btw r.days 1 10) || !(btw r.stages 1 6))=true
  ·rw [if_pos c1] at hc;omega
  ·rw [if_neg c1] at hc
   by_cases c2:8 < r.strips.length
   ·rw [if_pos c2] at hc;omega
   ·rw [if_neg c2] at hc
    by_cases c3:(!(btw f.heads 1 40) || !(btw f.pace 1 9))=true
    ·rw [if_pos c3] at hf;omega
    ·simp [btw] at c1 c3;have hs:=Ir.1 hc;exact ⟨by omega,by omega,by omega,by omega,by omega,fun s h=>MF.1 (hs s h),by omega,by omega,by omega,by omega⟩
def VL (r:AQ) (f:Flock) (shut:Int) (day:Int) (p:Int×Int) (i:Nat):Option (Int×Int):=match r.strips[i]? with
 | some s=>if (endOf s p.1).2 && decide (p.2+s.L≤f.pace) && LZ r f shut i day then some ((endOf s p.1).1,p.2+s.L) else none
 | none=>none
inductive AaI (r:AQ) (f:Flock) (shut:Int) (n:Nat) (day:Int):Int×Int→Prop
 | start (s:Nat):(s:Int) < r.stages→n.testBit s=true→AaI r f shut n day ((s:Int),0)
 | step (p q:Int×Int) (i:Nat):AaI r f shut n day p→VL r f shut day p i=some q→AaI r f shut n day q
theorem Nj {r:AQ} {f:Flock} (g:Good r f) {s:Strip} (hs:s∈r.strips) {t:Int} (h:(endOf s t).2=true):0≤(endOf s t).1∧(endOf s t).1 < r.stages:=by
 obtain ⟨a1,a2,b1,b2,_⟩:=g.strip s hs;unfold endOf at h ⊢
 split
 ·exact ⟨b1,b2⟩
 ·split
  ·exact ⟨a1,a2⟩
  ·simp_all
theorem RD {r:AQ} {f:Flock} {shut day:Int} {p q:Int×Int} {i:Nat}:VL r f shut day p i=some q ↔
  ∃ s,r.strips[i]? = some s∧(endOf s p.1).2=true∧p.2+s.L≤f.pace∧LZ r f shut i day=true∧q=((endOf s p.1).1,p.2+s.L):=by
 unfold VL
 cases h:r.strips[i]? with
 | none=>simp
 | some s =>
  simp only [Option.some.injEq,exists_eq_left',Option.ite_none_right_eq_some,Bool.and_eq_true,decide_eq_true_eq]
  constructor
  ·rintro ⟨⟨⟨h1,h2⟩,h3⟩,h4⟩;exact ⟨h1,h2,h3,h4.symm⟩
  ·rintro ⟨h1,h2,h3,h4⟩;exact ⟨⟨⟨h1,h2⟩,h3⟩,h4.symm⟩
theorem AaI.range {r:AQ} {f:Flock} (g:Good r f) {shut:Int} {n:Nat} {day:Int} {p:Int×Int} (h:AaI r f shut n day p):0≤p.1∧p.1 < r.stages∧0≤p.2∧p.2≤f.pace:=by
 induction h with
 | start s h1 h2=>exact ⟨by simp,h1,by simp,by have:=g.p1;simp;omega⟩
 | step p q i hp hq ih =>
  obtain ⟨s,hs,h1,h2,h3,rfl⟩:=RD.1 hq;have hm:=List.mem_of_getElem? hs;obtain ⟨r1,r2⟩:=Nj g hm h1;have:=(g.strip s hm).2.2.2.2.2.1;exact ⟨r1,r2,by simp;omega,h2⟩
end
section
open Go Go.RowKit
theorem V5 {α:Type} (l:List α):(List.range l.length).filterMap (l[·]?)=l:=by
 have h2:(List.range l.length).map (l[·]?)=l.map some:=by
  apply List.ext_getElem?;intro i
  by_cases h:i < l.length
  ·simp [h]
  ·simp [h]
 have h3:(List.range l.length).filterMap (l[·]?)=((List.range l.length).map (l[·]?)).filterMap id:=by rw [List.filterMap_map];rfl
 rw [h3,h2,List.filterMap_map];simp
section
variable {P:Program} {ops:Array Oper} {C:World→Prop} {Q:Act→Prop} {i:Nat} {rest:List Nat} {o:Oper} {a:Act} {n d:Nat} {m:List (Nat×Value)} {v:Value}
def ND (P:Program) (ops:Array Oper) (C:World→Prop) (Q:Act→Prop) (l:List Nat) (a:Act):Prop:=wpQuiet P ops C Q (l.filterMap (ops[·]?)) a
theorem Rh {id:Nat} {Q:Exit→Act→World→Prop} {w:World} (C:World→Prop) (hm:P.follows .mixedOrders=true) (hB:Region.lexB .any ops=true) (hC:C w.drew)
  (h:ND P ops C (fun a'=>∀ y,C y→Q .normal a' y) (List.range ops.size) a):(Code.region id ops true).wp P Q a w:=by
 refine wp_region_quiet (C:=C) hm hB hC ?_;unfold ND at h;have:=V5 ops.toList;simp only [Array.length_toList,Array.getElem?_toList] at this
 rwa [this] at h
def Oper.FV (P:Program) (o:Oper) (a:Act) (C:World→Prop) (w:World) (K:Value→Prop):Prop :=
 match (execOp a.eval o).run P w with
 | .ok (.value u) w'=>w'=w∧K u
 | .ok .skip w'=>w'=w∧K undef
 | .ok (.enter f args) w'=>w'=w∧Calls P f args w (fun e w''=>∃ u,e = .returned u∧K u∧C w'')
 | _=>False
theorem Ot {w:World} (h:∀ K:Value→Prop,K v→Oper.FV P o a C w K):o.quietAt P a C w v:=by
 have h2:=h (· = v) rfl;unfold Oper.FV at h2;unfold Oper.quietAt Oper.quietUpon;generalize (execOp a.eval o).run P w=r at *
 cases r with
 | ok n w' =>
  cases n <;> simp only at h2 ⊢
  case value u=>exact h2
  case skip=>exact ⟨h2.1,h2.2.symm⟩
  case enter f args=>exact ⟨h2.1,h2.2.mono fun e w'' ⟨u,he,hu,hw⟩=>⟨by rw [he,hu],hw⟩⟩
  all_goals exact h2
 | halt x w'=>exact h2
theorem JO (ho:ops[i]? = some o) (h:if Region.wanted o (yielded ops a.tmps) then o.quiet P a C (ND P ops C Q rest) else ND P ops C Q rest (a.put o.dst undef)):ND P ops C Q (i :: rest) a:=by
 unfold ND;rw [List.filterMap_cons,ho];exact h
theorem Sl.q (h:Sl a n m) (ho:ops[i]? = some o) (hg:o.guard=none) (hd:o.dst=some d) (hn:d < n)
  (hv:∃ v,(∀ y,C y→∀ K:Value→Prop,K v→Oper.FV P o a C y K)∧∀ a',Sl a' n ((d,v) :: m)→ND P ops C Q rest a'):ND P ops C Q (i :: rest) a:=by
 obtain ⟨v,h1,h2⟩:=hv;refine JO ho ?_;simp only [Region.wanted,hg,if_true];exact ⟨v,fun y hy=>Ot (h1 y hy),by rw [hd];exact h2 _ (h.put d v hn)⟩
theorem Sl.qw (h:Sl a n m) {k t:Nat} {b:Bool} {ok:Oper} (ho:ops[i]? = some o) (hg:o.guard=some (k,b)) (hk:ops[k]? = some ok) (ht:ok.dst=some t) (hb:m.lookup t=some (.bool b)) (hd:o.dst=some d) (hn:d < n)
  (hv:∃ v,(∀ y,C y→∀ K:Value→Prop,K v→Oper.FV P o a C y K)∧∀ a',Sl a' n ((d,v) :: m)→ND P ops C Q rest a'):ND P ops C Q (i :: rest) a:=by
 obtain ⟨v,h1,h2⟩:=hv;refine JO ho ?_;simp only [Region.wanted,hg,yielded,hk,Option.bind_some,ht,h.get _ _ hb,beq_self_eq_true,if_true];exact ⟨v,fun y hy=>Ot (h1 y hy),by rw [hd];exact h2 _ (h.put d v hn)⟩
theorem Sl.qno (h:Sl a n m) {k t:Nat} {b c:Bool} {ok:Oper} (ho:ops[i]? = some o) (hg:o.guard=some (k,b)) (hk:ops[k]? = some ok) (ht:ok.dst=some t) (hb:m.lookup t=some (.bool c)) (hc:c≠b) (hd:o.dst=some d) (hn:d < n)
  (hG:∀ a',Sl a' n ((d,undef) :: m)→ND P ops C Q rest a'):ND P ops C Q (i :: rest) a:=by
 refine JO ho ?_;have hb':(some c == some b)=false:=by simpa using hc
 simp only [Region.wanted,hg,yielded,hk,Option.bind_some,ht,h.get _ _ hb,hb',Bool.false_eq_true,if_false];rw [hd];exact hG _ (h.put d undef hn)
theorem Sl.Ya (h:Sl a n m) {k t:Nat} {b:Bool} {ok:Oper} (ho:ops[i]? = some o) (hg:o.guard=some (k,b)) (hk:ops[k]? = some ok) (ht:ok.dst=some t) (hb:m.lookup t=some undef) (hd:o.dst=some d) (hn:d < n)
  (hG:∀ a',Sl a' n ((d,undef) :: m)→ND P ops C Q rest a'):ND P ops C Q (i :: rest) a:=by
 refine JO ho ?_;simp only [Region.wanted,hg,yielded,hk,Option.bind_some,ht,h.get _ _ hb];rw [hd];exact hG _ (h.put d undef hn)
theorem BC {w w':World} {b q:Nat} {v:Value} (hb:Below w.heap.size w w') (h:w.cell? ⟨b,q,none⟩=some v):w'.cell? ⟨b,q,none⟩=some v:=((DX hb).1 _ _ (lt_of_cell h)).trans h
theorem OZ {f:Func} {k id:Nat} {Q:Exit→Act→World→Prop} {w:World} (e:Aa f k=Code.region id ops true) (hm:P.follows .mixedOrders=true) (hB:Region.lexB .any ops=true)
  (h:ND P ops (fun y=>Below w.heap.size w y) (fun a'=>∀ y,Below w.heap.size w y→Q .normal a' y) (List.range ops.size) a):(Aa f k).wp P Q a w:=by
 rw [e];exact Rh _ hm hB (Below.refl _ _).drew h
theorem Zc {f:Func} {k id:Nat} {Q:Exit→Act→World→Prop} {w:World} (e:Aa f k=Code.region id ops false) (h:wpOps P ops Q (List.range ops.size) a w):(Aa f k).wp P Q a w:=by
 rw [e];exact wp_region h
theorem JM (h:Q a):ND P ops C Q [] a:=h
end
end
end Go.Proofs.Ytgdobbcjkiapkaa
