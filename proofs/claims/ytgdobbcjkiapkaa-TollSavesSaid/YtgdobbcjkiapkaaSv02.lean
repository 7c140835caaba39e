import Derived.Test.YtgdobbcjkiapkaaSv01
import Derived.Deep.Quiet
namespace Go.Proofs.Ytgdobbcjkiapkaa
set_option maxRecDepth 100000
set_option maxHeartbeats 4000000
set_option linter.unusedSimpArgs false
set_option linter.unusedVariables false
section
open Go.RowKit
structure Pv (w:World) (b:Nat) (r:Ew) (f:Flock) (shut:Int) (a:Option Addr) (cap:Nat):Prop where
 c0:w.cell? ⟨b,0,none⟩=some (.int .i64 r.days)
 c1:w.cell? ⟨b,1,none⟩=some (.int .i64 r.stages)
 c2:w.cell? ⟨b,2,none⟩=some (.slice a r.strips.length cap)
 c3:w.cell? ⟨b,3,none⟩=some (.int .i64 f.heads)
 c4:w.cell? ⟨b,4,none⟩=some (.int .i64 f.pace)
 c5:w.cell? ⟨b,5,none⟩=some (.int .i64 shut)
 strips:DN w a r.strips
theorem Pv.below {w w':World}{b:Nat}{r:Ew}{f:Flock}{shut:Int}{a:Option Addr}{cap:Nat}(h:Pv w b r f shut a cap) (hb:Below w.heap.size w w'):Pv w' b r f shut a cap:=by
 have hc:=(Ef hb).1;have hl:=lt_of_cell h.c0;exact⟨(hc _ _ hl).trans h.c0,(hc _ _ hl).trans h.c1,(hc _ _ hl).trans h.c2,(hc _ _ hl).trans h.c3,(hc _ _ hl).trans h.c4,(hc _ _ hl).trans h.c5,h.strips.below hb⟩
def AbT (s:Strip) (f:Flock):Bool:=decide (s.W<Q7 f.heads)
def AbS (s:Strip) (f:Flock):Bool:=decide (f.pace<s.L)
def AbR (s:Strip) (f:Flock):Bool:=s.K == 4 && decide (s.X<f.heads)
def AbQ (s:Strip) (day:Int):Bool:=s.K == 2 && !(btw day s.X s.Y)
def AbP (s:Strip) (day:Int):Bool:=s.K == 3 && decide (8<wrap64 (s.X+wrap64 (s.Y*day)))
theorem Ym (w:World) (p q:Nat) (s:Strip) (f:Flock) (hp:FK w p 0 s) (hq:w.cell? ⟨q,0,none⟩=some (.int .i64 f.heads)) :
  Calls Try.prog 131 #[.pointer (some ⟨p,0,none⟩),.pointer (some ⟨q,0,none⟩)] w fun e w'=>e=.returned (.bool (AbT s f))∧Below w.heap.size w w':=by
 obtain⟨s0,s1,s2,s3,s4,s5,s6⟩:=hp;simp only[Nat.zero_add]at s1 s2 s3 s4 s5 s6
 go_enter Try.func131,Try.ntmps131
 go_wp2_with fail
 go_quiet ((go_at_call 132;exact Calls.quiet_of_same ((Xz _ _).mono fun e w' h=>⟨h.1,h.2.symm⟩)))
 go_wp2
 go_ret
 exact⟨Ik (by simp[AbT]),below_drewN (Below.refl _ _) _⟩
theorem Yl (w:World) (p q:Nat) (s:Strip) (f:Flock) (hp:FK w p 0 s) (hq:w.cell? ⟨q,1,none⟩=some (.int .i64 f.pace)) :
  Calls Try.prog 133 #[.pointer (some ⟨p,0,none⟩),.pointer (some ⟨q,0,none⟩)] w fun e w'=>e=.returned (.bool (AbS s f))∧Below w.heap.size w w':=by
 obtain⟨s0,s1,s2,s3,s4,s5,s6⟩:=hp;simp only[Nat.zero_add]at s1 s2 s3 s4 s5 s6
 go_enter Try.func133,Try.ntmps133
 go_wp2
 go_ret
 exact⟨Ik (by simp[AbS]),Below.refl _ _⟩
theorem Yk (w:World) (p q:Nat) (s:Strip) (f:Flock) (hp:FK w p 0 s) (hq:w.cell? ⟨q,0,none⟩=some (.int .i64 f.heads)) :
  Calls Try.prog 134 #[.pointer (some ⟨p,0,none⟩),.pointer (some ⟨q,0,none⟩)] w fun e w'=>e=.returned (.bool (AbR s f))∧Below w.heap.size w w':=by
 obtain⟨s0,s1,s2,s3,s4,s5,s6⟩:=hp;simp only[Nat.zero_add]at s1 s2 s3 s4 s5 s6
 go_enter Try.func134,Try.ntmps134
 go_wp2
 all_goals go_ret
 all_goals exact⟨Ik (by simp[AbR, *]),Below.refl _ _⟩
theorem Yj (w:World) (p q:Nat) (s:Strip) (day:Int) (hp:FK w p 0 s) (hq:w.cell? ⟨q,0,none⟩=some (.int .i64 day)) :
  Calls Try.prog 135 #[.pointer (some ⟨p,0,none⟩),.pointer (some ⟨q,0,none⟩)] w fun e w'=>e=.returned (.bool (AbQ s day))∧Below w.heap.size w w':=by
 obtain⟨s0,s1,s2,s3,s4,s5,s6⟩:=hp;simp only[Nat.zero_add]at s1 s2 s3 s4 s5 s6
 go_enter Try.func135,Try.ntmps135
 go_wp2_with (go_at_call 111;refine(Cb _ _ _ _).mono ?_;rintro e w' ⟨rfl,rfl⟩)
 all_goals go_ret
 all_goals exact⟨Ik (by simp[AbQ, *]),Below.refl _ _⟩
theorem Yi (w:World) (p q:Nat) (s:Strip) (day:Int) (hp:FK w p 0 s) (hq:w.cell? ⟨q,0,none⟩=some (.int .i64 day)) :
  Calls Try.prog 136 #[.pointer (some ⟨p,0,none⟩),.pointer (some ⟨q,0,none⟩)] w fun e w'=>e=.returned (.bool (AbP s day))∧Below w.heap.size w w':=by
 obtain⟨s0,s1,s2,s3,s4,s5,s6⟩:=hp;simp only[Nat.zero_add]at s1 s2 s3 s4 s5 s6
 go_enter Try.func136,Try.ntmps136
 go_wp2
 all_goals go_ret
 all_goals exact⟨Ik (by simp[AbP, *]),Below.refl _ _⟩
def TY (s:Strip) (f:Flock) (day:Int):Nat→Bool
 | 0=>AbT s f
 | 1=>AbS s f
 | 2=>AbR s f
 | 3=>AbQ s day
 | _=>AbP s day
def IJ (s:Strip) (f:Flock) (day:Int):Nat→List Int
 | 0=>[]
 | k+1=>IJ s f day k++(if TY s f day k then [(k:Int)+1] else [])
def AaZ (s:Strip) (f:Flock) (day:Int):List Int:=IJ s f day 5
theorem Yh (s:Strip) (f:Flock) (day:Int) (k:Nat):(IJ s f day k).length≤k:=by
 induction k with
 | zero=>simp[IJ]
 | succ k ih=>simp only[IJ,List.length_append];split<;>simp<;>omega
theorem H8 {s:Strip}{f:Flock}{day:Int}{k:Nat}(h:TY s f day k=true):IJ s f day (k+1)=IJ s f day k++[(k:Int)+1]:=by simp[IJ,h]
theorem Jd {s:Strip}{f:Flock}{day:Int}{k:Nat}(h:TY s f day k=false):IJ s f day (k+1)=IJ s f day k:=by simp[IJ,h]
theorem ZT (x0 x1 x2 x3 x4:Value) (w:World):(Instr.index 166 (.agg #[x0,x1,x2,x3,x4]) (.int .i64 0)).run Try.prog w=.ok x0 w:=by kernel_rfl
theorem ZR (x0 x1 x2 x3 x4:Value) (w:World):(Instr.index 166 (.agg #[x0,x1,x2,x3,x4]) (.int .i64 1)).run Try.prog w=.ok x1 w:=by kernel_rfl
theorem ZQ (x0 x1 x2 x3 x4:Value) (w:World):(Instr.index 166 (.agg #[x0,x1,x2,x3,x4]) (.int .i64 2)).run Try.prog w=.ok x2 w:=by kernel_rfl
theorem ZP (x0 x1 x2 x3 x4:Value) (w:World):(Instr.index 166 (.agg #[x0,x1,x2,x3,x4]) (.int .i64 3)).run Try.prog w=.ok x3 w:=by kernel_rfl
theorem ZO (x0 x1 x2 x3 x4:Value) (w:World):(Instr.index 166 (.agg #[x0,x1,x2,x3,x4]) (.int .i64 4)).run Try.prog w=.ok x4 w:=by kernel_rfl
theorem ZU (w:World) (b:Nat) (r:Ew) (f:Flock) (shut:Int) (a:Option Addr) (cap:Nat) (h:Pv w b r f shut a cap) (i:Nat) (hi:i<r.strips.length) (day:Int) :
  Calls Try.prog 120 #[.pointer (some ⟨b,0,none⟩),.int .i64 i,.int .i64 day] w
   fun e w'=>∃ v,e=.returned v∧CG w' w.heap.size v (AaZ r.strips[i] f day)∧Below w.heap.size w w':=by
 obtain⟨c0,c1,c2,c3,c4,c5,hs⟩:=h;rcases hs with hs|⟨sb,so,rfl,hs⟩
 ·simp[hs]at hi
 have hst:=hs i hi;obtain⟨s0,s1,s2,s3,s4,s5,s6⟩:=hst;clear hs;generalize hg:r.strips[i]=s at s0 s1 s2 s3 s4 s5 s6;have hmf:∀ (fn:Fn) (first cap:Array Value) (w:World),(Instr.makeFunc fn first cap).run Try.prog w=.ok (.func fn first cap) w:=fun _ _ _ _=>rfl
 have hbl:=lt_of_cell c0;have Z:=lt_of_cell s0;have hbl1:b<w.heap.size+1:=by omega
 have hbl2:b<w.heap.size+1+1:=by omega
 have hsl1:sb<w.heap.size+1:=by omega
 have hsl2:sb<w.heap.size+1+1:=by omega
 go_enter Try.func120,Try.ntmps120
 go_upto_region 1 with (fail)
 go_cut [7,8] (fun v7 v8 wx=>∃ p q:Nat,v7=.pointer (some ⟨p,0,none⟩)∧v8=.pointer (some ⟨q,0,none⟩)∧w.heap.size<p∧w.heap.size<q ∧
   FK wx p 0 s∧wx.cell? ⟨q,0,none⟩=some (.int .i64 f.heads)∧wx.cell? ⟨q,1,none⟩=some (.int .i64 f.pace)∧wx.cell? ⟨w.heap.size,0,none⟩=some (.int .i64 day)∧Below w.heap.size w wx)
 case first =>
  go_region
  all_goals (go_wp2_with fail;go_meet)
  case rel=>exact⟨_,_,rfl,rfl,by omega,by omega,⟨by simp[go_sem],by simp[go_sem],by simp[go_sem],by simp[go_sem],by simp[go_sem],by simp[go_sem],by simp[go_sem]⟩,by simp[go_sem],by simp[go_sem],by simp[go_sem],by go_grown⟩
  case rel=>exact⟨_,_,rfl,rfl,by omega,by omega,⟨by simp[go_sem],by simp[go_sem],by simp[go_sem],by simp[go_sem],by simp[go_sem],by simp[go_sem],by simp[go_sem]⟩,by simp[go_sem],by simp[go_sem],by simp[go_sem],by go_grown⟩
 case rest =>
  obtain⟨p,q,rfl,rfl,hp,hq,hst,hq0,hq1,hd0,hb⟩:=hcut;clear c0 c1 c2 c3 c4 c5 s0 s1 s2 s3 s4 s5 s6 hbl1 hbl2 hsl1 hsl2 hbl Z;have hpl:=lt_of_cell hst.c0;have hql:=lt_of_cell hq0;have hwl:=lt_of_cell hd0;have Hst:=Lib.hid hst;clear hst;have Hq0:=Lib.hid hq0;clear hq0;have Hq1:=Lib.hid hq1;clear hq1;have Hd0:=Lib.hid hd0;clear hd0
  go_wp2
  go_loopw [10,32] (fun v10 v32 wr=>∃ k:Nat,k≤5∧v32=.int .i64 k∧CG wr wc.heap.size v10 (IJ s f day k)∧Below wc.heap.size wc wr) (fun _ v _=>5-(intOf v).toNat)
  case atStart=>exact⟨0,Nat.zero_le _,rfl,CG.nil _ _,Below.alloc (Below.refl _ _) (Nat.le_refl _) _⟩
  case round =>
   obtain⟨k,hk,rfl,hown,hbr⟩:=hrel;have hle:=Yh s f day k
   by_cases hk5:k=5
   ·subst hk5
    go_wp2
    go_ret
    exact⟨_,rfl,hown.mono (by omega),hb.trans (hbr.mono (by omega))⟩
   ·obtain⟨hc,_⟩:=Ef (W:=wc) hbr;have hst:FK wr p 0 s:=Hst.out.keep fun j=>hc _ _ hpl
    have hq0:wr.cell? ⟨q,0,none⟩=some (.int .i64 f.heads):=by rw[hc _ _ hql];exact Hq0.out
    have hq1:wr.cell? ⟨q,1,none⟩=some (.int .i64 f.pace):=by rw[hc _ _ hql];exact Hq1.out
    have hd0:wr.cell? ⟨w.heap.size,0,none⟩=some (.int .i64 day):=by rw[hc _ _ hwl];exact Hd0.out
    have hst':=Lib.hid hst;clear hst;clear hc;have hsz:=hbr.size;obtain rfl|rfl|rfl|rfl|rfl:k=0∨k=1∨k=2∨k=3∨k=4:=by omega
    all_goals have ix0:=ZT
    all_goals have ix1:=ZR
    all_goals have ix2:=ZQ
    all_goals have ix3:=ZP
    all_goals have ix4:=ZO
    all_goals go_wp2_with fail
    all_goals clear ix0 ix1 ix2 ix3 ix4
    ·refine(Ym wr p q s f hst'.out hq0).mono ?_;rintro e w2 ⟨rfl,hb2⟩
     cases hT:AbT s f
     all_goals go_wp2_with (at_builtin;refine Js rfl _ _ rfl wc.heap.size _ _ rfl (hown.below hb2) _ rfl (by omega) (by have:=hb2.size;omega) ?_)
     ·exact⟨⟨1,by omega,rfl,by rw[Jd (k:=0) hT];exact hown.below hb2,hbr.trans (hb2.mono hsz)⟩,by simp[intOf]⟩
     ·intro v' w' hown' hbel _
      go_wp2
      exact⟨⟨1,by omega,rfl,by rw[H8 (k:=0) hT];exact hown',hbr.trans ((hb2.mono hsz).trans hbel)⟩,by simp[intOf]⟩
    ·refine(Yl wr p q s f hst'.out hq1).mono ?_;rintro e w2 ⟨rfl,hb2⟩
     cases hT:AbS s f
     all_goals go_wp2_with (at_builtin;refine Js rfl _ _ rfl wc.heap.size _ _ rfl (hown.below hb2) _ rfl (by omega) (by have:=hb2.size;omega) ?_)
     ·exact⟨⟨2,by omega,rfl,by rw[Jd (k:=1) hT];exact hown.below hb2,hbr.trans (hb2.mono hsz)⟩,by simp[intOf]⟩
     ·intro v' w' hown' hbel _
      go_wp2
      exact⟨⟨2,by omega,rfl,by rw[H8 (k:=1) hT];exact hown',hbr.trans ((hb2.mono hsz).trans hbel)⟩,by simp[intOf]⟩
    ·refine(Yk wr p q s f hst'.out hq0).mono ?_;rintro e w2 ⟨rfl,hb2⟩
     cases hT:AbR s f
     all_goals go_wp2_with (at_builtin;refine Js rfl _ _ rfl wc.heap.size _ _ rfl (hown.below hb2) _ rfl (by omega) (by have:=hb2.size;omega) ?_)
     ·exact⟨⟨3,by omega,rfl,by rw[Jd (k:=2) hT];exact hown.below hb2,hbr.trans (hb2.mono hsz)⟩,by simp[intOf]⟩
     ·intro v' w' hown' hbel _
      go_wp2
      exact⟨⟨3,by omega,rfl,by rw[H8 (k:=2) hT];exact hown',hbr.trans ((hb2.mono hsz).trans hbel)⟩,by simp[intOf]⟩
    ·refine(Yj wr p w.heap.size s day hst'.out hd0).mono ?_;rintro e w2 ⟨rfl,hb2⟩
     cases hT:AbQ s day
     all_goals go_wp2_with (at_builtin;refine Js rfl _ _ rfl wc.heap.size _ _ rfl (hown.below hb2) _ rfl (by omega) (by have:=hb2.size;omega) ?_)
     ·exact⟨⟨4,by omega,rfl,by rw[Jd (k:=3) hT];exact hown.below hb2,hbr.trans (hb2.mono hsz)⟩,by simp[intOf]⟩
     ·intro v' w' hown' hbel _
      go_wp2
      exact⟨⟨4,by omega,rfl,by rw[H8 (k:=3) hT];exact hown',hbr.trans ((hb2.mono hsz).trans hbel)⟩,by simp[intOf]⟩
    ·refine(Yi wr p w.heap.size s day hst'.out hd0).mono ?_;rintro e w2 ⟨rfl,hb2⟩
     cases hT:AbP s day
     all_goals go_wp2_with (at_builtin;refine Js rfl _ _ rfl wc.heap.size _ _ rfl (hown.below hb2) _ rfl (by omega) (by have:=hb2.size;omega) ?_)
     ·exact⟨⟨5,by omega,rfl,by rw[Jd (k:=4) hT];exact hown.below hb2,hbr.trans (hb2.mono hsz)⟩,by simp[intOf]⟩
     ·intro v' w' hown' hbel _
      go_wp2
      exact⟨⟨5,by omega,rfl,by rw[H8 (k:=4) hT];exact hown',hbr.trans ((hb2.mono hsz).trans hbel)⟩,by simp[intOf]⟩
end
section
open Go.RowKit
def endOf (s:Strip) (t:Int):Int×Bool:=if t=s.A then (s.B,true) else if t=s.B then (s.A,true) else (0,false)
theorem Zn (l:List Int):((l.length:Int) == 0)=l.isEmpty:=by
 cases l with
 | nil=>rfl
 | cons x l=>simp only[List.length_cons,List.isEmpty_cons,beq_eq_false_iff_ne];omega
def Tn (r:Ew) (f:Flock) (shut:Int) (i:Nat) (day:Int):Bool:=match r.strips[i]? with
 | some s=>((i:Int) != shut) && (AaZ s f day).isEmpty
 | none=>false
set_option maxHeartbeats 1000000 in
theorem open_any (w:World) (b:Nat) (r:Ew) (f:Flock) (shut:Int) (a:Option Addr) (cap:Nat) (h:Pv w b r f shut a cap) (i:Nat) (hi:i<r.strips.length) (day:Int) :
  Calls Try.prog 101 #[.pointer (some ⟨b,0,none⟩),.int .i64 i,.int .i64 day] w
   fun e w'=>e=.returned (.bool (Tn r f shut i day))∧Below w.heap.size w w':=by
 have hO:Tn r f shut i day=(((i:Int) != shut) && (AaZ r.strips[i] f day).isEmpty):=by simp[Tn,hi]
 have HO:=Lib.hid hO;clear hO;have H:=h;obtain⟨c0,c1,c2,c3,c4,c5,hs⟩:=h
 by_cases hs':(i:Int)=shut
 ·subst hs'
  go_enter Try.func101,Try.ntmps101
  go_wp2_with fail
  go_ret
  exact⟨Ik (by rw[HO.out];simp),Below.refl _ _⟩
 ·go_enter Try.func101,Try.ntmps101
  go_wp2_with fail
  refine(ZU w b r f shut a cap H i hi day).mono ?_;rintro e w1 ⟨v,rfl,hown,hb⟩;obtain⟨a1,cap1,rfl,_,_⟩:=hown.ints;clear hown
  go_wp2
  go_ret
  exact⟨Ik (by rw[HO.out,Zn]),hb⟩
end
section
open Go.RowKit
structure Good (r:Ew) (f:Flock):Prop where
 d1:1≤r.days
 d2:r.days≤10
 s1:1≤r.stages
 s2:r.stages≤6
 n8:r.strips.length≤8
 strip:∀ s∈r.strips,0≤s.A∧s.A<r.stages∧0≤s.B∧s.B<r.stages∧s.A≠s.B∧1≤s.L∧s.L≤9∧1≤s.W∧s.W≤99 ∧
  ((s.K=1∧s.X=0∧s.Y=0)∨(s.K=2∧0≤s.X∧s.X≤s.Y∧s.Y<r.days)∨(s.K=3∧0≤s.X∧s.X≤20∧-5≤s.Y∧s.Y≤5)∨(s.K=4∧1≤s.X∧s.X≤40∧s.Y=0))
 h1:1≤f.heads
 h2:f.heads≤40
 p1:1≤f.pace
 p2:f.pace≤9
theorem IU {D S:Int}:∀ {l:List Strip},Bq D S l=0↔∀ s∈l,BL s D S=0
 | []=>by simp[Bq]
 | s::l=>by
  simp only[Bq,List.forall_mem_cons]
  by_cases h:BL s D S=0
  ·simp[h,IU]
  ·simp[h]
theorem Nc {D S:Int}{s:Strip}:BL s D S=0↔0≤s.A∧s.A<S∧0≤s.B∧s.B<S∧s.A≠s.B∧1≤s.L∧s.L≤9∧1≤s.W∧s.W≤99 ∧
  ((s.K=1∧s.X=0∧s.Y=0)∨(s.K=2∧0≤s.X∧s.X≤s.Y∧s.Y<D)∨(s.K=3∧0≤s.X∧s.X≤20∧-5≤s.Y∧s.Y≤5)∨(s.K=4∧1≤s.X∧s.X≤40∧s.Y=0)):=by
 unfold BL Ff Fe btw;obtain⟨A,B,L,W,K,X,Y⟩:=s
 dsimp only
 by_cases h1:K=1
 ·subst h1;simp;constructor
  ·intro h;repeat' split at h
   all_goals simp_all;try omega
  ·intro h;simp_all;omega
 ·by_cases h2:K=2
  ·subst h2;simp;constructor
   ·intro h;repeat' split at h
    all_goals simp_all;try omega
   ·intro h;simp_all;omega
  ·by_cases h3:K=3
   ·subst h3;simp;constructor
    ·intro h;repeat' split at h
     all_goals simp_all;try omega
    ·intro h;simp_all;omega
   ·by_cases h4:K=4
    ·subst h4;simp;constructor
     ·intro h;repeat' split at h
      all_goals simp_all;try omega
     ·intro h;simp_all;omega
    ·simp[h1,h2,h3,h4];intro h;repeat' split at h
     all_goals simp_all
theorem Zu {r:Ew}{f:Flock}:Good r f↔Bo r=0∧Fg f=0:=by
 constructor
 ·intro g;refine⟨?_,?_⟩
  ·unfold Bo;rw[if_neg (by simp[btw];have:=g.d1;have:=g.d2;have:=g.s1;have:=g.s2;omega),if_neg (by have:=g.n8;omega)];exact IU.2 fun s hs=>Nc.2 (g.strip s hs)
  ·unfold Fg;rw[if_neg (by simp[btw];have:=g.h1;have:=g.h2;have:=g.p1;have:=g.p2;omega)]
 ·rintro⟨hc,hf⟩;unfold Bo at hc;unfold Fg at hf
  by_cases c1:(!(btw r.days 1 10) || !(btw r.stages 1 6))=true
  ·rw[if_pos c1]at hc;omega
  ·rw[if_neg c1]at hc
   by_cases c2:8<r.strips.length
   ·rw[if_pos c2]at hc;omega
   ·rw[if_neg c2]at hc
    by_cases c3:(!(btw f.heads 1 40) || !(btw f.pace 1 9))=true
    ·rw[if_pos c3]at hf;omega
    ·simp[btw]at c1 c3;have hs:=IU.1 hc;exact⟨by omega,by omega,by omega,by omega,by omega,fun s h=>Nc.1 (hs s h),by omega,by omega,by omega,by omega⟩
def WJ (r:Ew) (f:Flock) (shut:Int) (day:Int) (p:Int×Int) (i:Nat):Option (Int×Int):=match r.strips[i]? with
 | some s=>if (endOf s p.1).2 && decide (p.2+s.L≤f.pace) && Tn r f shut i day then some ((endOf s p.1).1,p.2+s.L) else none
 | none=>none
inductive AbF (r:Ew) (f:Flock) (shut:Int) (n:Nat) (day:Int):Int×Int→Prop
 | start (s:Nat):(s:Int)<r.stages→n.testBit s=true→AbF r f shut n day ((s:Int),0)
 | step (p q:Int×Int) (i:Nat):AbF r f shut n day p→WJ r f shut day p i=some q→AbF r f shut n day q
theorem TN {r:Ew}{f:Flock}(g:Good r f) {s:Strip}(hs:s∈r.strips) {t:Int}(h:(endOf s t).2=true):0≤(endOf s t).1∧(endOf s t).1<r.stages:=by
 obtain⟨a1,a2,b1,b2,_⟩:=g.strip s hs;unfold endOf at h ⊢
 split
 ·exact⟨b1,b2⟩
 ·split
  ·exact⟨a1,a2⟩
  ·simp_all
theorem SI {r:Ew}{f:Flock}{shut day:Int}{p q:Int×Int}{i:Nat}:WJ r f shut day p i=some q ↔
  ∃ s,r.strips[i]?=some s∧(endOf s p.1).2=true∧p.2+s.L≤f.pace∧Tn r f shut i day=true∧q=((endOf s p.1).1,p.2+s.L):=by
 unfold WJ
 cases h:r.strips[i]? with
 | none=>simp
 | some s =>
  simp only[Option.some.injEq,exists_eq_left',Option.ite_none_right_eq_some,Bool.and_eq_true,decide_eq_true_eq]
  constructor
  ·rintro⟨⟨⟨h1,h2⟩,h3⟩,h4⟩;exact⟨h1,h2,h3,h4.symm⟩
  ·rintro⟨h1,h2,h3,h4⟩;exact⟨⟨⟨h1,h2⟩,h3⟩,h4.symm⟩
theorem AbF.range {r:Ew}{f:Flock}(g:Good r f) {shut:Int}{n:Nat}{day:Int}{p:Int×Int}(h:AbF r f shut n day p):0≤p.1∧p.1<r.stages∧0≤p.2∧p.2≤f.pace:=by
 induction h with
 | start s h1 h2=>exact⟨by simp,h1,by simp,by have:=g.p1;simp;omega⟩
 | step p q i hp hq ih =>
  obtain⟨s,hs,h1,h2,h3,rfl⟩:=SI.1 hq;have hm:=List.mem_of_getElem? hs;obtain⟨r1,r2⟩:=TN g hm h1;have:=(g.strip s hm).2.2.2.2.2.1;exact⟨r1,r2,by simp;omega,h2⟩
end
section
open Go Go.RowKit
theorem Xg {α:Type}(l:List α):(List.range l.length).filterMap (l[·]?)=l:=by
 have h2:(List.range l.length).map (l[·]?)=l.map some:=by
  apply List.ext_getElem?;intro i
  by_cases h:i<l.length
  ·simp[h]
  ·simp[h]
 have h3:(List.range l.length).filterMap (l[·]?)=((List.range l.length).map (l[·]?)).filterMap id:=by rw[List.filterMap_map];rfl
 rw[h3,h2,List.filterMap_map];simp
section
variable {P:Program}{ops:Array Oper}{C:World→Prop}{Q:Act→Prop}{i:Nat}{rest:List Nat}{o:Oper}{a:Act}{n d:Nat}{m:List (Nat×Value)}{v:Value}
def Oa (P:Program) (ops:Array Oper) (C:World→Prop) (Q:Act→Prop) (l:List Nat) (a:Act):Prop:=wpQuiet P ops C Q (l.filterMap (ops[·]?)) a
theorem RZ {id:Nat}{Q:Exit→Act→World→Prop}{w:World}(C:World→Prop) (hm:P.follows .mixedOrders=true) (hB:Region.lexB .any ops=true) (hC:C w.drew)
  (h:Oa P ops C (fun a'=>∀ y,C y→Q .normal a' y) (List.range ops.size) a):(Code.region id ops true).wp P Q a w:=by
 refine wp_region_quiet (C:=C) hm hB hC ?_;unfold Oa at h;have:=Xg ops.toList;simp only[Array.length_toList,Array.getElem?_toList]at this
 rwa [this]at h
def Oper.Dl (P:Program) (o:Oper) (a:Act) (C:World→Prop) (w:World) (K:Value→Prop):Prop :=
 match (execOp a.eval o).run P w with
 | .ok (.value u) w'=>w'=w∧K u
 | .ok .skip w'=>w'=w∧K undef
 | .ok (.enter f args) w'=>w'=w∧Calls P f args w (fun e w''=>∃ u,e=.returned u∧K u∧C w'')
 | _=>False
theorem OY {w:World}(h:∀ K:Value→Prop,K v→Oper.Dl P o a C w K):o.quietAt P a C w v:=by
 have h2:=h (· = v) rfl;unfold Oper.Dl at h2;unfold Oper.quietAt Oper.quietUpon;generalize (execOp a.eval o).run P w=r at *
 cases r with
 | ok n w' =>
  cases n<;>simp only at h2 ⊢
  case value u=>exact h2
  case skip=>exact⟨h2.1,h2.2.symm⟩
  case enter f args=>exact⟨h2.1,h2.2.mono fun e w'' ⟨u,he,hu,hw⟩=>⟨by rw[he,hu],hw⟩⟩
  all_goals exact h2
 | halt x w'=>exact h2
theorem Ku (ho:ops[i]?=some o) (h:if Region.wanted o (yielded ops a.tmps) then o.quiet P a C (Oa P ops C Q rest) else Oa P ops C Q rest (a.put o.dst undef)):Oa P ops C Q (i::rest) a:=by
 unfold Oa;rw[List.filterMap_cons,ho];exact h
theorem Sl.q (h:Sl a n m) (ho:ops[i]?=some o) (hg:o.guard=none) (hd:o.dst=some d) (hn:d<n)
  (hv:∃ v,(∀ y,C y→∀ K:Value→Prop,K v→Oper.Dl P o a C y K)∧∀ a',Sl a' n ((d,v)::m)→Oa P ops C Q rest a'):Oa P ops C Q (i::rest) a:=by
 obtain⟨v,h1,h2⟩:=hv;refine Ku ho ?_;simp only[Region.wanted,hg,if_true];exact⟨v,fun y hy=>OY (h1 y hy),by rw[hd];exact h2 _ (h.put d v hn)⟩
theorem Sl.qw (h:Sl a n m) {k t:Nat}{b:Bool}{ok:Oper}(ho:ops[i]?=some o) (hg:o.guard=some (k,b)) (hk:ops[k]?=some ok) (ht:ok.dst=some t) (hb:m.lookup t=some (.bool b)) (hd:o.dst=some d) (hn:d<n)
  (hv:∃ v,(∀ y,C y→∀ K:Value→Prop,K v→Oper.Dl P o a C y K)∧∀ a',Sl a' n ((d,v)::m)→Oa P ops C Q rest a'):Oa P ops C Q (i::rest) a:=by
 obtain⟨v,h1,h2⟩:=hv;refine Ku ho ?_;simp only[Region.wanted,hg,yielded,hk,Option.bind_some,ht,h.get _ _ hb,beq_self_eq_true,if_true];exact⟨v,fun y hy=>OY (h1 y hy),by rw[hd];exact h2 _ (h.put d v hn)⟩
theorem Sl.qno (h:Sl a n m) {k t:Nat}{b c:Bool}{ok:Oper}(ho:ops[i]?=some o) (hg:o.guard=some (k,b)) (hk:ops[k]?=some ok) (ht:ok.dst=some t) (hb:m.lookup t=some (.bool c)) (hc:c≠b) (hd:o.dst=some d) (hn:d<n)
  (hG:∀ a',Sl a' n ((d,undef)::m)→Oa P ops C Q rest a'):Oa P ops C Q (i::rest) a:=by
 refine Ku ho ?_;have hb':(some c == some b)=false:=by simpa using hc
 simp only[Region.wanted,hg,yielded,hk,Option.bind_some,ht,h.get _ _ hb,hb',Bool.false_eq_true,if_false];rw[hd];exact hG _ (h.put d undef hn)
theorem Sl.Y2 (h:Sl a n m) {k t:Nat}{b:Bool}{ok:Oper}(ho:ops[i]?=some o) (hg:o.guard=some (k,b)) (hk:ops[k]?=some ok) (ht:ok.dst=some t) (hb:m.lookup t=some undef) (hd:o.dst=some d) (hn:d<n)
  (hG:∀ a',Sl a' n ((d,undef)::m)→Oa P ops C Q rest a'):Oa P ops C Q (i::rest) a:=by
 refine Ku ho ?_;simp only[Region.wanted,hg,yielded,hk,Option.bind_some,ht,h.get _ _ hb];rw[hd];exact hG _ (h.put d undef hn)
theorem Ad {w w':World}{b q:Nat}{v:Value}(hb:Below w.heap.size w w') (h:w.cell? ⟨b,q,none⟩=some v):w'.cell? ⟨b,q,none⟩=some v:=((Ef hb).1 _ _ (lt_of_cell h)).trans h
theorem GN {f:Func}{k id:Nat}{Q:Exit→Act→World→Prop}{w:World}(e:Ac f k=Code.region id ops true) (hm:P.follows .mixedOrders=true) (hB:Region.lexB .any ops=true)
  (h:Oa P ops (fun y=>Below w.heap.size w y) (fun a'=>∀ y,Below w.heap.size w y→Q .normal a' y) (List.range ops.size) a):(Ac f k).wp P Q a w:=by
 rw[e];exact RZ _ hm hB (Below.refl _ _).drew h
theorem Z7 {f:Func}{k id:Nat}{Q:Exit→Act→World→Prop}{w:World}(e:Ac f k=Code.region id ops false) (h:wpOps P ops Q (List.range ops.size) a w):(Ac f k).wp P Q a w:=by
 rw[e];exact wp_region h
theorem E8 (h:Q a):Oa P ops C Q [] a:=h
end
end
end Go.Proofs.Ytgdobbcjkiapkaa
