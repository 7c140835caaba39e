import Derived.Test.YtgdobbcjkiapkaaCh01
import Derived.Deep.Quiet
namespace Go.Proofs.Ytgdobbcjkiapkaa
set_option maxRecDepth 100000
set_option maxHeartbeats 4000000
set_option linter.unusedSimpArgs false
set_option linter.unusedVariables false
section
open Go.RowKit
structure OL (w:World) (b:Nat) (r:BU) (f:Flock) (shut:Int) (a:Option Addr) (cap:Nat):Prop where
 c0:w.cell? ⟨b,0,none⟩=some (.int .i64 r.days)
 c1:w.cell? ⟨b,1,none⟩=some (.int .i64 r.stages)
 c2:w.cell? ⟨b,2,none⟩=some (.slice a r.strips.length cap)
 c3:w.cell? ⟨b,3,none⟩=some (.int .i64 f.heads)
 c4:w.cell? ⟨b,4,none⟩=some (.int .i64 f.pace)
 c5:w.cell? ⟨b,5,none⟩=some (.int .i64 shut)
 strips:EH w a r.strips
theorem OL.below {w w':World} {b:Nat} {r:BU} {f:Flock} {shut:Int} {a:Option Addr} {cap:Nat} (h:OL w b r f shut a cap) (hb:Below w.heap.size w w'):OL w' b r f shut a cap:=by
 have hc:=(Eo hb).1;have hl:=lt_of_cell h.c0;exact ⟨(hc _ _ hl).trans h.c0,(hc _ _ hl).trans h.c1,(hc _ _ hl).trans h.c2,(hc _ _ hl).trans h.c3,(hc _ _ hl).trans h.c4,(hc _ _ hl).trans h.c5,h.strips.below hb⟩
def Aa8 (s:Strip) (f:Flock):Bool:=decide (s.W < QF f.heads)
def Aa7 (s:Strip) (f:Flock):Bool:=decide (f.pace < s.L)
def Aa6 (s:Strip) (f:Flock):Bool:=s.K == 4 && decide (s.X < f.heads)
def Aa5 (s:Strip) (day:Int):Bool:=s.K == 2 && !(btw day s.X s.Y)
def Aa4 (s:Strip) (day:Int):Bool:=s.K == 3 && decide (8 < wrap64 (s.X+wrap64 (s.Y*day)))
theorem XZ (w:World) (p q:Nat) (s:Strip) (f:Flock) (hp:ET w p 0 s) (hq:w.cell? ⟨q,0,none⟩=some (.int .i64 f.heads)) :
  Calls Try.prog 131 #[.pointer (some ⟨p,0,none⟩), .pointer (some ⟨q,0,none⟩)] w fun e w'=>e = .returned (.bool (Aa8 s f))∧Below w.heap.size w w':=by
 obtain ⟨s0,s1,s2,s3,s4,s5,s6⟩:=hp;simp only [Nat.zero_add] at s1 s2 s3 s4 s5 s6
 go_enter Try.func131,Try.ntmps131
 go_wp2_with fail
 go_quiet ((go_at_call 132;exact Calls.quiet_of_same ((WZ _ _).mono fun e w' h=>⟨h.1,h.2.symm⟩)))
 go_wp2
 go_ret
 exact ⟨Hm (by simp [Aa8]),below_drewN (Below.refl _ _) _⟩
theorem XY (w:World) (p q:Nat) (s:Strip) (f:Flock) (hp:ET w p 0 s) (hq:w.cell? ⟨q,1,none⟩=some (.int .i64 f.pace)) :
  Calls Try.prog 133 #[.pointer (some ⟨p,0,none⟩), .pointer (some ⟨q,0,none⟩)] w fun e w'=>e = .returned (.bool (Aa7 s f))∧Below w.heap.size w w':=by
 obtain ⟨s0,s1,s2,s3,s4,s5,s6⟩:=hp;simp only [Nat.zero_add] at s1 s2 s3 s4 s5 s6
 go_enter Try.func133,Try.ntmps133
 go_wp2
 go_ret
 exact ⟨Hm (by simp [Aa7]),Below.refl _ _⟩
theorem XX (w:World) (p q:Nat) (s:Strip) (f:Flock) (hp:ET w p 0 s) (hq:w.cell? ⟨q,0,none⟩=some (.int .i64 f.heads)) :
  Calls Try.prog 134 #[.pointer (some ⟨p,0,none⟩), .pointer (some ⟨q,0,none⟩)] w fun e w'=>e = .returned (.bool (Aa6 s f))∧Below w.heap.size w w':=by
 obtain ⟨s0,s1,s2,s3,s4,s5,s6⟩:=hp;simp only [Nat.zero_add] at s1 s2 s3 s4 s5 s6
 go_enter Try.func134,Try.ntmps134
 go_wp2
 all_goals go_ret
 all_goals exact ⟨Hm (by simp [Aa6, *]),Below.refl _ _⟩
theorem XW (w:World) (p q:Nat) (s:Strip) (day:Int) (hp:ET w p 0 s) (hq:w.cell? ⟨q,0,none⟩=some (.int .i64 day)) :
  Calls Try.prog 135 #[.pointer (some ⟨p,0,none⟩), .pointer (some ⟨q,0,none⟩)] w fun e w'=>e = .returned (.bool (Aa5 s day))∧Below w.heap.size w w':=by
 obtain ⟨s0,s1,s2,s3,s4,s5,s6⟩:=hp;simp only [Nat.zero_add] at s1 s2 s3 s4 s5 s6
 go_enter Try.func135,Try.ntmps135
 go_wp2_with (go_at_call 111;refine (BL _ _ _ _).mono ?_;rintro e w' ⟨rfl,rfl⟩)
 all_goals go_ret
 all_goals exact ⟨Hm (by simp [Aa5, *]),Below.refl _ _⟩
theorem XV (w:World) (p q:Nat) (s:Strip) (day:Int) (hp:ET w p 0 s) (hq:w.cell? ⟨q,0,none⟩=some (.int .i64 day)) :
  Calls Try.prog 136 #[.pointer (some ⟨p,0,none⟩), .pointer (some ⟨q,0,none⟩)] w fun e w'=>e = .returned (.bool (Aa4 s day))∧Below w.heap.size w w':=by
 obtain ⟨s0,s1,s2,s3,s4,s5,s6⟩:=hp;simp only [Nat.zero_add] at s1 s2 s3 s4 s5 s6
 go_enter Try.func136,Try.ntmps136
 go_wp2
 all_goals go_ret
 all_goals exact ⟨Hm (by simp [Aa4, *]),Below.refl _ _⟩
def Tu (s:Strip) (f:Flock) (day:Int):Nat→Bool
 | 0=>Aa8 s f
 | 1=>Aa7 s f
 | 2=>Aa6 s f
 | 3=>Aa5 s day
 | _=>Aa4 s day
def Ik (s:Strip) (f:Flock) (day:Int):Nat→List Int
 | 0=>[]
 | k+1=>Ik s f day k++(if Tu s f day k then [(k:Int)+1] else [])
def Aai (s:Strip) (f:Flock) (day:Int):List Int:=Ik s f day 5
theorem XU (s:Strip) (f:Flock) (day:Int) (k:Nat):(Ik s f day k).length≤k:=by
 induction k with
 | zero=>simp [Ik]
 | succ k ih=>simp only [Ik,List.length_append];split <;> simp <;> omega
theorem GV {s:Strip} {f:Flock} {day:Int} {k:Nat} (h:Tu s f day k=true):Ik s f day (k+1)=Ik s f day k++[(k:Int)+1]:=by simp [Ik,h]
theorem IP {s:Strip} {f:Flock} {day:Int} {k:Nat} (h:Tu s f day k=false):Ik s f day (k+1)=Ik s f day k:=by simp [Ik,h]
theorem Zd (x0 x1 x2 x3 x4:Value) (w:World):(Instr.index 166 (.agg #[x0,x1,x2,x3,x4]) (.int .i64 0)).run Try.prog w = .ok x0 w:=by kernel_rfl
theorem Zc (x0 x1 x2 x3 x4:Value) (w:World):(Instr.index 166 (.agg #[x0,x1,x2,x3,x4]) (.int .i64 1)).run Try.prog w = .ok x1 w:=by kernel_rfl
theorem Zb (x0 x1 x2 x3 x4:Value) (w:World):(Instr.index 166 (.agg #[x0,x1,x2,x3,x4]) (.int .i64 2)).run Try.prog w = .ok x2 w:=by kernel_rfl
theorem Za (x0 x1 x2 x3 x4:Value) (w:World):(Instr.index 166 (.agg #[x0,x1,x2,x3,x4]) (.int .i64 3)).run Try.prog w = .ok x3 w:=by kernel_rfl
theorem Y9 (x0 x1 x2 x3 x4:Value) (w:World):(Instr.index 166 (.agg #[x0,x1,x2,x3,x4]) (.int .i64 4)).run Try.prog w = .ok x4 w:=by kernel_rfl
theorem Ze (w:World) (b:Nat) (r:BU) (f:Flock) (shut:Int) (a:Option Addr) (cap:Nat) (h:OL w b r f shut a cap) (i:Nat) (hi:i < r.strips.length) (day:Int) :
  Calls Try.prog 120 #[.pointer (some ⟨b,0,none⟩), .int .i64 i, .int .i64 day] w
   fun e w'=>∃ v,e = .returned v∧Cc w' w.heap.size v (Aai r.strips[i] f day)∧Below w.heap.size w w':=by
 obtain ⟨c0,c1,c2,c3,c4,c5,hs⟩:=h;rcases hs with hs | ⟨sb,so,rfl,hs⟩
 ·simp [hs] at hi
 have hst:=hs i hi;obtain ⟨s0,s1,s2,s3,s4,s5,s6⟩:=hst;clear hs;generalize hg:r.strips[i]=s at s0 s1 s2 s3 s4 s5 s6;have hmf:∀ (fn:Fn) (first cap:Array Value) (w:World),(Instr.makeFunc fn first cap).run Try.prog w = .ok (.func fn first cap) w:=fun _ _ _ _=>rfl
 have hbl:=lt_of_cell c0;have Z:=lt_of_cell s0;have hbl1:b < w.heap.size+1:=by omega
 have hbl2:b < w.heap.size+1+1:=by omega
 have hsl1:sb < w.heap.size+1:=by omega
 have hsl2:sb < w.heap.size+1+1:=by omega
 go_enter Try.func120,Try.ntmps120
 go_upto_region 1 with (fail)
 go_cut [7,8] (fun v7 v8 wx=>∃ p q:Nat,v7 = .pointer (some ⟨p,0,none⟩)∧v8 = .pointer (some ⟨q,0,none⟩)∧w.heap.size < p∧w.heap.size < q ∧
   ET wx p 0 s∧wx.cell? ⟨q,0,none⟩=some (.int .i64 f.heads)∧wx.cell? ⟨q,1,none⟩=some (.int .i64 f.pace)∧wx.cell? ⟨w.heap.size,0,none⟩=some (.int .i64 day)∧Below w.heap.size w wx)
 case first =>
  go_region
  all_goals (go_wp2_with fail;go_meet)
  case rel=>exact ⟨_,_,rfl,rfl,by omega,by omega,⟨by simp [go_sem],by simp [go_sem],by simp [go_sem],by simp [go_sem],by simp [go_sem],by simp [go_sem],by simp [go_sem]⟩,by simp [go_sem],by simp [go_sem],by simp [go_sem],by go_grown⟩
  case rel=>exact ⟨_,_,rfl,rfl,by omega,by omega,⟨by simp [go_sem],by simp [go_sem],by simp [go_sem],by simp [go_sem],by simp [go_sem],by simp [go_sem],by simp [go_sem]⟩,by simp [go_sem],by simp [go_sem],by simp [go_sem],by go_grown⟩
 case rest =>
  obtain ⟨p,q,rfl,rfl,hp,hq,hst,hq0,hq1,hd0,hb⟩:=hcut;clear c0 c1 c2 c3 c4 c5 s0 s1 s2 s3 s4 s5 s6 hbl1 hbl2 hsl1 hsl2 hbl Z;have hpl:=lt_of_cell hst.c0;have hql:=lt_of_cell hq0;have hwl:=lt_of_cell hd0;have Hst:=Lib.hid hst;clear hst;have Hq0:=Lib.hid hq0;clear hq0;have Hq1:=Lib.hid hq1;clear hq1;have Hd0:=Lib.hid hd0;clear hd0
  go_wp2
  go_loopw [10,32] (fun v10 v32 wr=>∃ k:Nat,k≤5∧v32 = .int .i64 k∧Cc wr wc.heap.size v10 (Ik s f day k)∧Below wc.heap.size wc wr) (fun _ v _=>5-(intOf v).toNat)
  case atStart=>exact ⟨0,Nat.zero_le _,rfl,Cc.nil _ _,Below.alloc (Below.refl _ _) (Nat.le_refl _) _⟩
  case round =>
   obtain ⟨k,hk,rfl,hown,hbr⟩:=hrel;have hle:=XU s f day k
   by_cases hk5:k=5
   ·subst hk5
    go_wp2
    go_ret
    exact ⟨_,rfl,hown.mono (by omega),hb.trans (hbr.mono (by omega))⟩
   ·obtain ⟨hc,_⟩:=Eo (W:=wc) hbr;have hst:ET wr p 0 s:=Hst.out.keep fun j=>hc _ _ hpl
    have hq0:wr.cell? ⟨q,0,none⟩=some (.int .i64 f.heads):=by rw [hc _ _ hql];exact Hq0.out
    have hq1:wr.cell? ⟨q,1,none⟩=some (.int .i64 f.pace):=by rw [hc _ _ hql];exact Hq1.out
    have hd0:wr.cell? ⟨w.heap.size,0,none⟩=some (.int .i64 day):=by rw [hc _ _ hwl];exact Hd0.out
    have hst':=Lib.hid hst;clear hst;clear hc;have hsz:=hbr.size;obtain rfl | rfl | rfl | rfl | rfl:k=0∨k=1∨k=2∨k=3∨k=4:=by omega
    all_goals have ix0:=Zd
    all_goals have ix1:=Zc
    all_goals have ix2:=Zb
    all_goals have ix3:=Za
    all_goals have ix4:=Y9
    all_goals go_wp2_with fail
    all_goals clear ix0 ix1 ix2 ix3 ix4
    ·refine (XZ wr p q s f hst'.out hq0).mono ?_;rintro e w2 ⟨rfl,hb2⟩
     cases hT:Aa8 s f
     all_goals go_wp2_with (at_builtin;refine I5 rfl _ _ rfl wc.heap.size _ _ rfl (hown.below hb2) _ rfl (by omega) (by have:=hb2.size;omega) ?_)
     ·exact ⟨⟨1,by omega,rfl,by rw [IP (k:=0) hT];exact hown.below hb2,hbr.trans (hb2.mono hsz)⟩,by simp [intOf]⟩
     ·intro v' w' hown' hbel _
      go_wp2
      exact ⟨⟨1,by omega,rfl,by rw [GV (k:=0) hT];exact hown',hbr.trans ((hb2.mono hsz).trans hbel)⟩,by simp [intOf]⟩
    ·refine (XY wr p q s f hst'.out hq1).mono ?_;rintro e w2 ⟨rfl,hb2⟩
     cases hT:Aa7 s f
     all_goals go_wp2_with (at_builtin;refine I5 rfl _ _ rfl wc.heap.size _ _ rfl (hown.below hb2) _ rfl (by omega) (by have:=hb2.size;omega) ?_)
     ·exact ⟨⟨2,by omega,rfl,by rw [IP (k:=1) hT];exact hown.below hb2,hbr.trans (hb2.mono hsz)⟩,by simp [intOf]⟩
     ·intro v' w' hown' hbel _
      go_wp2
      exact ⟨⟨2,by omega,rfl,by rw [GV (k:=1) hT];exact hown',hbr.trans ((hb2.mono hsz).trans hbel)⟩,by simp [intOf]⟩
    ·refine (XX wr p q s f hst'.out hq0).mono ?_;rintro e w2 ⟨rfl,hb2⟩
     cases hT:Aa6 s f
     all_goals go_wp2_with (at_builtin;refine I5 rfl _ _ rfl wc.heap.size _ _ rfl (hown.below hb2) _ rfl (by omega) (by have:=hb2.size;omega) ?_)
     ·exact ⟨⟨3,by omega,rfl,by rw [IP (k:=2) hT];exact hown.below hb2,hbr.trans (hb2.mono hsz)⟩,by simp [intOf]⟩
     ·intro v' w' hown' hbel _
      go_wp2
      exact ⟨⟨3,by omega,rfl,by rw [GV (k:=2) hT];exact hown',hbr.trans ((hb2.mono hsz).trans hbel)⟩,by simp [intOf]⟩
    ·refine (XW wr p w.heap.size s day hst'.out hd0).mono ?_;rintro e w2 ⟨rfl,hb2⟩
     cases hT:Aa5 s day
     all_goals go_wp2_with (at_builtin;refine I5 rfl _ _ rfl wc.heap.size _ _ rfl (hown.below hb2) _ rfl (by omega) (by have:=hb2.size;omega) ?_)
     ·exact ⟨⟨4,by omega,rfl,by rw [IP (k:=3) hT];exact hown.below hb2,hbr.trans (hb2.mono hsz)⟩,by simp [intOf]⟩
     ·intro v' w' hown' hbel _
      go_wp2
      exact ⟨⟨4,by omega,rfl,by rw [GV (k:=3) hT];exact hown',hbr.trans ((hb2.mono hsz).trans hbel)⟩,by simp [intOf]⟩
    ·refine (XV wr p w.heap.size s day hst'.out hd0).mono ?_;rintro e w2 ⟨rfl,hb2⟩
     cases hT:Aa4 s day
     all_goals go_wp2_with (at_builtin;refine I5 rfl _ _ rfl wc.heap.size _ _ rfl (hown.below hb2) _ rfl (by omega) (by have:=hb2.size;omega) ?_)
     ·exact ⟨⟨5,by omega,rfl,by rw [IP (k:=4) hT];exact hown.below hb2,hbr.trans (hb2.mono hsz)⟩,by simp [intOf]⟩
     ·intro v' w' hown' hbel _
      go_wp2
      exact ⟨⟨5,by omega,rfl,by rw [GV (k:=4) hT];exact hown',hbr.trans ((hb2.mono hsz).trans hbel)⟩,by simp [intOf]⟩
end
section
open Go.RowKit
def endOf (s:Strip) (t:Int):Int×Bool:=if t=s.A then (s.B,true) else if t=s.B then (s.A,true) else (0,false)
theorem YG (l:List Int):((l.length:Int) == 0)=l.isEmpty:=by
 cases l with
 | nil=>rfl
 | cons x l=>simp only [List.length_cons,List.isEmpty_cons,beq_eq_false_iff_ne];omega
def NJ (r:BU) (f:Flock) (shut:Int) (i:Nat) (day:Int):Bool:=match r.strips[i]? with
 | some s=>((i:Int) != shut) && (Aai s f day).isEmpty
 | none=>false
set_option maxHeartbeats 1000000 in
theorem open_any (w:World) (b:Nat) (r:BU) (f:Flock) (shut:Int) (a:Option Addr) (cap:Nat) (h:OL w b r f shut a cap) (i:Nat) (hi:i < r.strips.length) (day:Int) :
  Calls Try.prog 101 #[.pointer (some ⟨b,0,none⟩), .int .i64 i, .int .i64 day] w
   fun e w'=>e = .returned (.bool (NJ r f shut i day))∧Below w.heap.size w w':=by
 have hO:NJ r f shut i day=(((i:Int) != shut) && (Aai r.strips[i] f day).isEmpty):=by simp [NJ,hi]
 have HO:=Lib.hid hO;clear hO;have H:=h;obtain ⟨c0,c1,c2,c3,c4,c5,hs⟩:=h
 by_cases hs':(i:Int)=shut
 ·subst hs'
  go_enter Try.func101,Try.ntmps101
  go_wp2_with fail
  go_ret
  exact ⟨Hm (by rw [HO.out];simp),Below.refl _ _⟩
 ·go_enter Try.func101,Try.ntmps101
  go_wp2_with fail
  refine (Ze w b r f shut a cap H i hi day).mono ?_;rintro e w1 ⟨v,rfl,hown,hb⟩;obtain ⟨a1,cap1,rfl,_,_⟩:=hown.ints;clear hown
  go_wp2
  go_ret
  exact ⟨Hm (by rw [HO.out,YG]),hb⟩
end
section
open Go.RowKit
structure Good (r:BU) (f:Flock):Prop where
 d1:1≤r.days
 d2:r.days≤10
 s1:1≤r.stages
 s2:r.stages≤6
 n8:r.strips.length≤8
 strip:∀ s∈r.strips,0≤s.A∧s.A < r.stages∧0≤s.B∧s.B < r.stages∧s.A≠s.B∧1≤s.L∧s.L≤9∧1≤s.W∧s.W≤99 ∧
  ((s.K=1∧s.X=0∧s.Y=0)∨(s.K=2∧0≤s.X∧s.X≤s.Y∧s.Y < r.days)∨(s.K=3∧0≤s.X∧s.X≤20∧-5≤s.Y∧s.Y≤5)∨(s.K=4∧1≤s.X∧s.X≤40∧s.Y=0))
 h1:1≤f.heads
 h2:f.heads≤40
 p1:1≤f.pace
 p2:f.pace≤9
theorem Ir {D S:Int}:∀ {l:List Strip},Bi D S l=0↔∀ s∈l,Cb s D S=0
 | []=>by simp [Bi]
 | s :: l=>by
  simp only [Bi,List.forall_mem_cons]
  by_cases h:Cb s D S=0
  ·simp [h,Ir]
  ·simp [h]
theorem LX {D S:Int} {s:Strip}:Cb s D S=0↔0≤s.A∧s.A < S∧0≤s.B∧s.B < S∧s.A≠s.B∧1≤s.L∧s.L≤9∧1≤s.W∧s.W≤99 ∧
  ((s.K=1∧s.X=0∧s.Y=0)∨(s.K=2∧0≤s.X∧s.X≤s.Y∧s.Y < D)∨(s.K=3∧0≤s.X∧s.X≤20∧-5≤s.Y∧s.Y≤5)∨(s.K=4∧1≤s.X∧s.X≤40∧s.Y=0)):=by
 unfold Cb Hu Ht btw;obtain ⟨A,B,L,W,K,X,Y⟩:=s
 dsimp only
 by_cases h1:K=1
 ·subst h1;simp;constructor
  ·intro h;repeat' split at h
   all_goals simp_all;try omega
  ·intro h;simp_all;omega
 ·by_cases h2:K=2
  ·subst h2;simp;constructor
   ·intro h;repeat' split at h
    all_goals simp_all;try omega
   ·intro h;simp_all;omega
  ·by_cases h3:K=3
   ·subst h3;simp;constructor
    ·intro h;repeat' split at h
     all_goals simp_all;try omega
    ·intro h;simp_all;omega
   ·by_cases h4:K=4
    ·subst h4;simp;constructor
     ·intro h;repeat' split at h
      all_goals simp_all;try omega
     ·intro h;simp_all;omega
    ·simp [h1,h2,h3,h4];intro h;repeat' split at h
     all_goals simp_all
theorem TZ {r:BU} {f:Flock}:Good r f↔BN r=0∧DZ f=0:=by
 constructor
 ·intro g;refine ⟨?_,?_⟩
  ·unfold BN;rw [if_neg (by simp [btw];have:=g.d1;have:=g.d2;have:=g.s1;have:=g.s2;omega),if_neg (by have:=g.n8;omega)];exact Ir.2 fun s hs=>LX.2 (g.strip s hs)
  ·unfold DZ;rw [if_neg (by simp [btw];have:=g.h1;have:=g.h2;have:=g.p1;have:=g.p2;omega)]
 ·rintro ⟨hc,hf⟩;unfold BN at hc;unfold DZ at hf
  by_cases c1:(!(btw r.days 1 10) || !(btw r.stages 1 6))=true
  ·rw [if_pos c1] at hc;omega
  ·rw [if_neg c1] at hc
   by_cases c2:8 < r.strips.length
   ·rw [if_pos c2] at hc;omega
   ·rw [if_neg c2] at hc
    by_cases c3:(!(btw f.heads 1 40) || !(btw f.pace 1 9))=true
    ·rw [if_pos c3] at hf;omega
    ·simp [btw] at c1 c3;have hs:=Ir.1 hc;exact ⟨by omega,by omega,by omega,by omega,by omega,fun s h=>LX.1 (hs s h),by omega,by omega,by omega,by omega⟩
def V9 (r:BU) (f:Flock) (shut:Int) (day:Int) (p:Int×Int) (i:Nat):Option (Int×Int):=match r.strips[i]? with
 | some s=>if (endOf s p.1).2 && decide (p.2+s.L≤f.pace) && NJ r f shut i day then some ((endOf s p.1).1,p.2+s.L) else none
 | none=>none
inductive AaT (r:BU) (f:Flock) (shut:Int) (n:Nat) (day:Int):Int×Int→Prop
 | start (s:Nat):(s:Int) < r.stages→n.testBit s=true→AaT r f shut n day ((s:Int),0)
 | step (p q:Int×Int) (i:Nat):AaT r f shut n day p→V9 r f shut day p i=some q→AaT r f shut n day q
theorem Td {r:BU} {f:Flock} (g:Good r f) {s:Strip} (hs:s∈r.strips) {t:Int} (h:(endOf s t).2=true):0≤(endOf s t).1∧(endOf s t).1 < r.stages:=by
 obtain ⟨a1,a2,b1,b2,_⟩:=g.strip s hs;unfold endOf at h ⊢
 split
 ·exact ⟨b1,b2⟩
 ·split
  ·exact ⟨a1,a2⟩
  ·simp_all
theorem RV {r:BU} {f:Flock} {shut day:Int} {p q:Int×Int} {i:Nat}:V9 r f shut day p i=some q ↔
  ∃ s,r.strips[i]? = some s∧(endOf s p.1).2=true∧p.2+s.L≤f.pace∧NJ r f shut i day=true∧q=((endOf s p.1).1,p.2+s.L):=by
 unfold V9
 cases h:r.strips[i]? with
 | none=>simp
 | some s =>
  simp only [Option.some.injEq,exists_eq_left',Option.ite_none_right_eq_some,Bool.and_eq_true,decide_eq_true_eq]
  constructor
  ·rintro ⟨⟨⟨h1,h2⟩,h3⟩,h4⟩;exact ⟨h1,h2,h3,h4.symm⟩
  ·rintro ⟨h1,h2,h3,h4⟩;exact ⟨⟨⟨h1,h2⟩,h3⟩,h4.symm⟩
theorem AaT.range {r:BU} {f:Flock} (g:Good r f) {shut:Int} {n:Nat} {day:Int} {p:Int×Int} (h:AaT r f shut n day p):0≤p.1∧p.1 < r.stages∧0≤p.2∧p.2≤f.pace:=by
 induction h with
 | start s h1 h2=>exact ⟨by simp,h1,by simp,by have:=g.p1;simp;omega⟩
 | step p q i hp hq ih =>
  obtain ⟨s,hs,h1,h2,h3,rfl⟩:=RV.1 hq;have hm:=List.mem_of_getElem? hs;obtain ⟨r1,r2⟩:=Td g hm h1;have:=(g.strip s hm).2.2.2.2.2.1;exact ⟨r1,r2,by simp;omega,h2⟩
end
section
open Go.RowKit
theorem G6 {P:Program} {id:Nat} {Q:Exit→Act→World→Prop} {a:Act} {w:World} {ops:Array Oper} {n:Nat} {m:List (Nat×Value)} (k0:Nat) (hm:P.follows .mixedOrders=true) (hsz:ops.size=k0+1) (hanc:OH ops k0=true) (hdag:dag ops=true) (Z:Sl a n m) (ds:List (Option Nat)) (hds:(ops.toList.take k0).map Oper.dst=ds) (hok:okD n (m.map Prod.fst) ds=true)
  (V:Nat→Value→World→Prop) (I:(Nat→Bool)→World→Prop) (hI:I (fun _=>false) w.drew)
  (hk:∀ (k:Nat) (o:Oper),k < k0→ops[k]? = some o→∀ L a w,I L w→L k=false→Sl a n m→Fg ops V L a w→(∀ d∈waits o,L d=true)→wpOp P ops Q k (fun a' w'=>∃ v,a'=a.put o.dst v∧V k v w'∧I (Bq L k true) w'∧∀ j u,V j u w→V j u w') a w)
  (hl:∀ L a w,(∀ k,k < k0→L k=true)→I L w→Sl a n m→Fg ops V L a w→wpOp P ops Q k0 (fun a' w'=>Q .normal a' w') a w):(Code.region id ops true).wp P Q a w:=by
 have hd:∀ (j:Nat) (o:Oper),ops[j]? = some o→j < k0→ds[j]? = some o.dst:=fun j o h hj=>by
  subst hds;rw [List.getElem?_map,List.getElem?_take_of_lt hj,Array.getElem?_toList,h];rfl
 refine DW hm (fun L a' w'=>(∀ k o,ops[k]? = some o→L k=true→BB o L=true)∧(L k0=true→Q .normal a' w')∧(L k0=false→I L w'∧Sl a' n m∧Fg ops V L a' w')) ⟨fun _ _ _ h=>by simp at h,fun h=>by simp at h,fun _=>⟨hI,Z,fun j o d _ _ h=>by simp at h⟩⟩ ?_ ?_
 ·rintro L a' w' i o ho ⟨hc,h1,h2⟩ hli hri;have hi:i < k0+1:=by have:=(Array.getElem?_eq_some_iff.1 ho).1;omega
  have hgo:∀ k o',ops[k]? = some o'→Bq L i true k=true→BB o' (Bq L i true)=true:=by
   intro k o' hk' hLk
   have hmono:∀ j,L j=true→Bq L i true j=true:=fun j hj=>by
    unfold Bq;split
    ·rfl
    ·exact hj
   by_cases e:k=i
   ·subst e;obtain rfl:=Option.some.inj (ho.symm.trans hk');exact Di hmono hri
   ·rw [Ar _ _ e] at hLk;exact Di hmono (hc k o' hk' hLk)
  have hanc1:∀ (L:Nat→Bool),(∀ k o,ops[k]? = some o→L k=true→BB o L=true)→L k0=true→∀ k,k < k0+1→L k=true:=fun L hc hLm k hkm=>by
   refine PP hc ops.size (· == k0) (fun k hk =>?_) k ?_
   ·have:k=k0:=by simpa using hk
    rw [this];exact hLm
   ·unfold OH at hanc;rw [List.all_eq_true] at hanc;exact hanc k (by rw [List.mem_range];omega)
  have hm0:L k0=false:=by
   cases e:L k0
   ·rfl
   ·rw [hanc1 L hc e i hi] at hli;simp at hli
  obtain ⟨hI1,hs1,hS1⟩:=h2 hm0
  by_cases e:i=k0
  ·subst e;refine wpOp_mono ?_ (hl L a' w' (fun k hkm =>?_) hI1 hs1 hS1)
   ·intro a2 w2 hq;exact ⟨hgo,fun _=>hq,fun h=>by rw [D8] at h;simp at h⟩
   ·have:=hanc1 (Bq L i true) hgo (by rw [D8]) k (by omega)
    rwa [Ar _ _ (by omega)] at this
  ·have hik:i < k0:=by omega
   refine wpOp_mono ?_ (hk i o hik ho L a' w' hI1 hli hs1 hS1 (CQ hri));rintro a2 w2 ⟨v,rfl,hv,hI2,hmono⟩;refine ⟨hgo,fun h=>by rw [Ar _ _ (Ne.symm e),hm0] at h;simp at h,fun _=>⟨hI2,?_,?_⟩⟩
   ·cases ed:o.dst with
    | none=>exact hs1
    | some d =>
     have hdd:=hd i o ho hik;rw [ed] at hdd;obtain ⟨hlt,hnm⟩:=F7 hok hdd;have hp:=hs1.put d v hlt;refine ⟨hp.size,hp.defers,fun t u hu=>hp.get t u ?_⟩;rw [List.lookup_cons]
     have e2:(t == d)=false:=by
      have:t≠d:=by rintro rfl;exact hnm (ES hu)
      simpa using this
     rw [e2];exact hu
   ·intro j o' d hj hjd hLj
    have hjk:j < k0:=by
     have h1:=(Array.getElem?_eq_some_iff.1 hj).1
     by_cases c:j=k0
     ·subst c;rw [Ar _ _ (Ne.symm e),hm0] at hLj;simp at hLj
     ·omega
    have hdj:=hd j o' hj hjk;rw [hjd] at hdj
    cases ed:o.dst with
    | none =>
     have hne:j≠i:=by
      rintro rfl;rw [ho] at hj;obtain rfl:=Option.some.inj hj;rw [ed] at hjd;simp at hjd
     rw [Ar _ _ hne] at hLj;obtain ⟨u,hu,hvu⟩:=hS1 j o' d hj hjd hLj;exact ⟨u,hu,hmono _ _ hvu⟩
    | some x =>
     have hdi:=hd i o ho hik;rw [ed] at hdi
     by_cases c:j=i
     ·subst c;rw [hdj] at hdi;obtain rfl:d=x:=by simpa using hdi
      obtain ⟨hlt,_⟩:=F7 hok hdj;exact ⟨v,by simp [Act.put,hs1.size,hlt],hv⟩
     ·rw [Ar _ _ c] at hLj;obtain ⟨u,hu,hvu⟩:=hS1 j o' d hj hjd hLj
      have hxd:x≠d:=by
       rintro rfl;exact c (Lj hok hdj hdi)
      refine ⟨u,?_,hmono _ _ hvu⟩;simp only [Act.put];rw [Array.getElem?_setIfInBounds_ne hxd];exact hu
 ·rintro L a' w' hall ⟨_,h1,_⟩;exact h1 (Hy hdag hall k0 (by omega))
end
section
open Go Go.RowKit
theorem WB {α:Type} (l:List α):(List.range l.length).filterMap (l[·]?)=l:=by
 have h2:(List.range l.length).map (l[·]?)=l.map some:=by
  apply List.ext_getElem?;intro i
  by_cases h:i < l.length
  ·simp [h]
  ·simp [h]
 have h3:(List.range l.length).filterMap (l[·]?)=((List.range l.length).map (l[·]?)).filterMap id:=by rw [List.filterMap_map];rfl
 rw [h3,h2,List.filterMap_map];simp
section
variable {P:Program} {ops:Array Oper} {C:World→Prop} {Q:Act→Prop} {i:Nat} {rest:List Nat} {o:Oper} {a:Act} {n d:Nat} {m:List (Nat×Value)} {v:Value}
def Nr (P:Program) (ops:Array Oper) (C:World→Prop) (Q:Act→Prop) (l:List Nat) (a:Act):Prop:=wpQuiet P ops C Q (l.filterMap (ops[·]?)) a
theorem Rq {id:Nat} {Q:Exit→Act→World→Prop} {w:World} (C:World→Prop) (hm:P.follows .mixedOrders=true) (hB:Region.lexB .any ops=true) (hC:C w.drew)
  (h:Nr P ops C (fun a'=>∀ y,C y→Q .normal a' y) (List.range ops.size) a):(Code.region id ops true).wp P Q a w:=by
 refine wp_region_quiet (C:=C) hm hB hC ?_;unfold Nr at h;have:=WB ops.toList;simp only [Array.length_toList,Array.getElem?_toList] at this
 rwa [this] at h
def Oper.Fp (P:Program) (o:Oper) (a:Act) (C:World→Prop) (w:World) (K:Value→Prop):Prop :=
 match (execOp a.eval o).run P w with
 | .ok (.value u) w'=>w'=w∧K u
 | .ok .skip w'=>w'=w∧K undef
 | .ok (.enter f args) w'=>w'=w∧Calls P f args w (fun e w''=>∃ u,e = .returned u∧K u∧C w'')
 | _=>False
theorem Oi {w:World} (h:∀ K:Value→Prop,K v→Oper.Fp P o a C w K):o.quietAt P a C w v:=by
 have h2:=h (· = v) rfl;unfold Oper.Fp at h2;unfold Oper.quietAt Oper.quietUpon;generalize (execOp a.eval o).run P w=r at *
 cases r with
 | ok n w' =>
  cases n <;> simp only at h2 ⊢
  case value u=>exact h2
  case skip=>exact ⟨h2.1,h2.2.symm⟩
  case enter f args=>exact ⟨h2.1,h2.2.mono fun e w'' ⟨u,he,hu,hw⟩=>⟨by rw [he,hu],hw⟩⟩
  all_goals exact h2
 | halt x w'=>exact h2
theorem JH (ho:ops[i]? = some o) (h:if Region.wanted o (yielded ops a.tmps) then o.quiet P a C (Nr P ops C Q rest) else Nr P ops C Q rest (a.put o.dst undef)):Nr P ops C Q (i :: rest) a:=by
 unfold Nr;rw [List.filterMap_cons,ho];exact h
theorem Sl.q (h:Sl a n m) (ho:ops[i]? = some o) (hg:o.guard=none) (hd:o.dst=some d) (hn:d < n)
  (hv:∃ v,(∀ y,C y→∀ K:Value→Prop,K v→Oper.Fp P o a C y K)∧∀ a',Sl a' n ((d,v) :: m)→Nr P ops C Q rest a'):Nr P ops C Q (i :: rest) a:=by
 obtain ⟨v,h1,h2⟩:=hv;refine JH ho ?_;simp only [Region.wanted,hg,if_true];exact ⟨v,fun y hy=>Oi (h1 y hy),by rw [hd];exact h2 _ (h.put d v hn)⟩
theorem Sl.qw (h:Sl a n m) {k t:Nat} {b:Bool} {ok:Oper} (ho:ops[i]? = some o) (hg:o.guard=some (k,b)) (hk:ops[k]? = some ok) (ht:ok.dst=some t) (hb:m.lookup t=some (.bool b)) (hd:o.dst=some d) (hn:d < n)
  (hv:∃ v,(∀ y,C y→∀ K:Value→Prop,K v→Oper.Fp P o a C y K)∧∀ a',Sl a' n ((d,v) :: m)→Nr P ops C Q rest a'):Nr P ops C Q (i :: rest) a:=by
 obtain ⟨v,h1,h2⟩:=hv;refine JH ho ?_;simp only [Region.wanted,hg,yielded,hk,Option.bind_some,ht,h.get _ _ hb,beq_self_eq_true,if_true];exact ⟨v,fun y hy=>Oi (h1 y hy),by rw [hd];exact h2 _ (h.put d v hn)⟩
theorem Sl.qno (h:Sl a n m) {k t:Nat} {b c:Bool} {ok:Oper} (ho:ops[i]? = some o) (hg:o.guard=some (k,b)) (hk:ops[k]? = some ok) (ht:ok.dst=some t) (hb:m.lookup t=some (.bool c)) (hc:c≠b) (hd:o.dst=some d) (hn:d < n)
  (hG:∀ a',Sl a' n ((d,undef) :: m)→Nr P ops C Q rest a'):Nr P ops C Q (i :: rest) a:=by
 refine JH ho ?_;have hb':(some c == some b)=false:=by simpa using hc
 simp only [Region.wanted,hg,yielded,hk,Option.bind_some,ht,h.get _ _ hb,hb',Bool.false_eq_true,if_false];rw [hd];exact hG _ (h.put d undef hn)
theorem Sl.Dq (h:Sl a n m) {k t:Nat} {b:Bool} {ok:Oper} (ho:ops[i]? = some o) (hg:o.guard=some (k,b)) (hk:ops[k]? = some ok) (ht:ok.dst=some t) (hb:m.lookup t=some undef) (hd:o.dst=some d) (hn:d < n)
  (hG:∀ a',Sl a' n ((d,undef) :: m)→Nr P ops C Q rest a'):Nr P ops C Q (i :: rest) a:=by
 refine JH ho ?_;simp only [Region.wanted,hg,yielded,hk,Option.bind_some,ht,h.get _ _ hb];rw [hd];exact hG _ (h.put d undef hn)
theorem AB {w w':World} {b q:Nat} {v:Value} (hb:Below w.heap.size w w') (h:w.cell? ⟨b,q,none⟩=some v):w'.cell? ⟨b,q,none⟩=some v:=((Eo hb).1 _ _ (lt_of_cell h)).trans h
theorem EN {f:Func} {k id:Nat} {Q:Exit→Act→World→Prop} {w:World} (e:Aa f k=Code.region id ops true) (hm:P.follows .mixedOrders=true) (hB:Region.lexB .any ops=true)
  (h:Nr P ops (fun y=>Below w.heap.size w y) (fun a'=>∀ y,Below w.heap.size w y→Q .normal a' y) (List.range ops.size) a):(Aa f k).wp P Q a w:=by
 rw [e];exact Rq _ hm hB (Below.refl _ _).drew h
theorem Zl {f:Func} {k id:Nat} {Q:Exit→Act→World→Prop} {w:World} (e:Aa f k=Code.region id ops false) (h:wpOps P ops Q (List.range ops.size) a w):(Aa f k).wp P Q a w:=by
 rw [e];exact wp_region h
theorem EK (h:Q a):Nr P ops C Q [] a:=h
end
end
end Go.Proofs.Ytgdobbcjkiapkaa
