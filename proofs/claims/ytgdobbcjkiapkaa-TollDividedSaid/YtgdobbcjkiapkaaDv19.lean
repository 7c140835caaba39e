import Derived.Test.YtgdobbcjkiapkaaDv18
import Derived.Test.YtgdobbcjkiapkaaDv01
import Derived.Test.YtgdobbcjkiapkaaDv04
namespace Go.Proofs.Ytgdobbcjkiapkaa
set_option maxRecDepth 100000
set_option maxHeartbeats 4000000
set_option linter.unusedSimpArgs false
set_option linter.unusedVariables false
section
open Go.RowKit
structure Af where
 roads:D9
 pace:Int
 Ac:List Bq
 Ah:List Bv
 deriving DecidableEq
structure Am where
 toll:Int
 owner:Int
 heads:Int
 deriving DecidableEq,Inhabited
def TG (n lo hi:Int):Int:=if n < lo then 7 else if hi < n then 6 else 0
def AZ:List Bq→Int
 | []=>0
 | p :: l=>p.heads+AZ l
def Bj (p:Bq):Bool:=btw p.heads 0 40 && btw p.free 0 40
def BX (n:Int) (pre:List Bv) (x:Bv):Int :=
 if !(btw x.strip 0 (n-1)) then 3
 else if !(btw x.rate 0 500) || !(btw x.farmer 1 4) then 1
 else if pre.any (fun y=>y.strip == x.strip && y.farmer == x.farmer) then 4
 else 0
def BQ (n:Int):List Bv→List Bv→Int
 | _,[]=>0
 | pre,x :: l=>if BX n pre x=0 then BQ n (pre++[x]) l else BX n pre x
def FK (t:Af):Int:=if 6 < t.Ah.length then 6 else BQ t.roads.strips.length [] t.Ah
def AP (t:Af):Int :=
 if BP t.roads≠0 then BP t.roads
 else if !(btw t.pace 1 9) then 1
 else if TG t.Ac.length 1 4≠0 then TG t.Ac.length 1 4
 else if !(t.Ac.all Bj) then 1
 else if !(btw (AZ t.Ac) 1 40) then 1
 else FK t
theorem O3 {n:Int} {ts:List Bv} {k:Nat} (h:k < ts.length) (he:BX n (ts.take k) ts[k]=0):BQ n (ts.take (k+1)) (ts.drop (k+1))=BQ n (ts.take k) (ts.drop k):=by
 rw [List.drop_eq_getElem_cons h]
 conv=>rhs;rw [BQ]
 rw [if_pos he,List.take_succ_eq_append_getElem h]
theorem O1 {n:Int} {ts:List Bv} {k:Nat} {e:Int} (h:k < ts.length) (he:BX n (ts.take k) ts[k]=e) (h0:e≠0):BQ n (ts.take k) (ts.drop k)=e:=by
 rw [List.drop_eq_getElem_cons h,BQ,if_neg (by rw [he];exact h0),he]
theorem NZ (a b:List Bq):AZ (a++b)=AZ a+AZ b:=by
 induction a with
 | nil=>simp [AZ]
 | cons x a ih=>simp only [List.cons_append,AZ,ih];omega
theorem QJ {ps:List Bq} {k:Nat} (h:k < ps.length):AZ (ps.take (k+1))=AZ (ps.take k)+ps[k].heads:=by
 rw [List.take_succ_eq_append_getElem h,NZ];simp [AZ]
theorem NY {ps:List Bq} (h:ps.all Bj=true):0≤AZ ps∧AZ ps≤40*(ps.length:Int):=by
 induction ps with
 | nil=>simp [AZ]
 | cons p l ih =>
  simp only [List.all_cons,Bool.and_eq_true] at h;obtain ⟨h1,h2⟩:=h;have:=ih h2;simp only [Bj,Bool.and_eq_true] at h1;have h3:=Aq.1 h1.1;simp only [AZ,List.length_cons]
  push_cast
  omega
def PU {α:Type} (f:α→Value×Value×Value) (w:World) (a:Option Addr) (l:List α):Prop :=
 l=[]∨∃ b o,a=some ⟨b,o,none⟩∧∀ (i:Nat) (h:i < l.length),w.cell? ⟨b,o+i*3,none⟩=some (f l[i]).1∧w.cell? ⟨b,o+i*3+1,none⟩=some (f l[i]).2.1∧w.cell? ⟨b,o+i*3+2,none⟩=some (f l[i]).2.2
theorem PU.below {α:Type} {f:α→Value×Value×Value} {w w':World} {a:Option Addr} {l:List α} (h:PU f w a l) (hb:Below w.heap.size w w'):PU f w' a l:=by
 rcases h with h | ⟨b,o,ha,h⟩
 ·exact .inl h
 ·exact .inr ⟨b,o,ha,fun i hi=>⟨((Eu hb).1 _ _ (lt_of_cell (h i hi).1)).trans (h i hi).1,((Eu hb).1 _ _ (lt_of_cell (h i hi).2.1)).trans (h i hi).2.1,((Eu hb).1 _ _ (lt_of_cell (h i hi).2.2)).trans (h i hi).2.2⟩⟩
theorem PU.at {α:Type} {f:α→Value×Value×Value} {w:World} {a:Option Addr} {l:List α} (h:PU f w a l) {i:Nat} (hi:i < l.length):∃ b o,a=some ⟨b,o,none⟩∧w.cell? ⟨b,o+i*3,none⟩=some (f l[i]).1∧w.cell? ⟨b,o+i*3+1,none⟩=some (f l[i]).2.1∧w.cell? ⟨b,o+i*3+2,none⟩=some (f l[i]).2.2:=by
 rcases h with rfl | ⟨b,o,ha,h⟩
 ·simp at hi
 ·exact ⟨b,o,ha,h i hi⟩
def Zo (p:Bq):Value×Value×Value:=(.int .i64 p.heads, .int .i64 p.free, .bool p.half)
def Qb (x:Bv):Value×Value×Value:=(.int .i64 x.strip, .int .i64 x.rate, .int .i64 x.farmer)
def Pm (x:Am):Value×Value×Value:=(.int .i64 x.toll, .int .i64 x.owner, .int .i64 x.heads)
abbrev TW:=PU Zo
abbrev XK:=PU Qb
abbrev DJ:=PU Pm
structure Eg where
 sa:Option Addr
 sc:Nat
 pa:Option Addr
 pc:Nat
 ta:Option Addr
 tc:Nat
def EI (t:Af) (s:Eg):Array Value:=#[.int .i64 t.roads.days, .int .i64 t.roads.stages, .slice s.sa t.roads.strips.length s.sc, .int .i64 t.pace, .slice s.pa t.Ac.length s.pc, .slice s.ta t.Ah.length s.tc]
structure Dc (w:World) (t:Af) (s:Eg):Prop where
 strips:EQ w s.sa t.roads.strips
 Ac:TW w s.pa t.Ac
 Ah:XK w s.ta t.Ah
 ls:t.roads.strips.length≤maxLen
 lp:t.Ac.length≤maxLen
 lt:t.Ah.length≤maxLen
 qp:t.Ac.length≤s.pc
 qt:t.Ah.length≤s.tc
theorem Dc.below {w w':World} {t:Af} {s:Eg} (h:Dc w t s) (hb:Below w.heap.size w w'):Dc w' t s:=⟨h.strips.below hb,h.Ac.below hb,h.Ah.below hb,h.ls,h.lp,h.lt,h.qp,h.qt⟩
theorem Bo (n lo hi:Int) (w:World) :
  Calls Try.prog 86 #[.int .i64 n, .int .i64 lo, .int .i64 hi] w fun e w'=>e = .returned (.bool (btw n lo hi))∧w=w':=by
 by_cases h:lo≤n
 ·go_enter Try.func86,Try.ntmps86
  go_wp2
  go_ret
  exact ⟨by simp [h,btw],rfl⟩
 ·go_enter Try.func86,Try.ntmps86
  go_wp2
  go_ret
  exact ⟨by simp [btw];omega,rfl⟩
theorem Zy (n lo hi:Int) (w:World) :
  Calls Try.prog 87 #[.int .i64 n, .int .i64 lo, .int .i64 hi] w fun e w'=>e = .returned (.int .i64 (TG n lo hi))∧w=w':=by
 by_cases h:n < lo
 ·go_enter Try.func87,Try.ntmps87
  go_wp2
  go_ret
  exact ⟨DV (by simp [h,TG]),rfl⟩
 ·by_cases h2:hi < n
  ·go_enter Try.func87,Try.ntmps87
   go_wp2
   go_ret
   exact ⟨DV (by simp [h,h2,TG]),rfl⟩
  ·go_enter Try.func87,Try.ntmps87
   go_wp2
   go_ret
   exact ⟨DV (by unfold TG;rw [if_neg (by omega),if_neg (by omega)]),rfl⟩
theorem Sl.Aav {n:Nat}:Sl (⟨#[]++Array.replicate (n-0) undef,[]⟩:Act) n []:=⟨by simp,rfl,fun t v h=>by simp at h⟩
theorem Sl.Aau {n:Nat} (x:Value) (hn:1≤n):Sl (⟨#[x]++Array.replicate (n-1) undef,[]⟩:Act) n [(0,x)]:=Sl.Xb x hn
theorem Sl.TL {n:Nat} (x y:Value) (hn:2≤n):Sl (⟨#[x,y]++Array.replicate (n-2) undef,[]⟩:Act) n [(0,x),(1,y)]:=Sl.SG x y hn
theorem Sl.Aat {n:Nat} (x y z:Value) (hn:3≤n):Sl (⟨#[x,y,z]++Array.replicate (n-3) undef,[]⟩:Act) n [(0,x),(1,y),(2,z)]:=Sl.PM x y z hn
theorem Sl.Aas {n:Nat} (x y z u:Value) (hn:4≤n):Sl (⟨#[x,y,z,u]++Array.replicate (n-4) undef,[]⟩:Act) n [(0,x),(1,y),(2,z),(3,u)]:=Sl.Xa x y z u hn
theorem Ou:∀ (vs:List Value) (k t:Nat) (v:Value),((vs.zipIdx k).map fun q=>(q.2,q.1)).lookup t=some v→k≤t∧vs[t-k]? = some v
 | [],k,t,v,h=>by simp at h
 | x :: vs,k,t,v,h=>by
  rw [List.zipIdx_cons,List.map_cons,List.lookup_cons] at h
  by_cases e:t=k
  ·subst e;simp at h;exact ⟨Nat.le_refl _,by simp [h]⟩
  ·have e2:(t == k)=false:=by simpa using e
   rw [e2] at h;obtain ⟨h1,h2⟩:=Ou vs (k+1) t v h;exact ⟨by omega,by rw [show t-k=(t-(k+1))+1 by omega];simpa using h2⟩
theorem Sl.TK (vs:List Value) {n:Nat} (hn:vs.length≤n):Sl (⟨vs.toArray++Array.replicate (n-vs.length) undef,[]⟩:Act) n ((vs.zipIdx 0).map fun q=>(q.2,q.1)):=by
 refine ⟨by simp;omega,rfl,fun t v h =>?_⟩;obtain ⟨_,h2⟩:=Ou vs 0 t v h;rw [Nat.sub_zero] at h2;have hlt:t < vs.length:=(List.getElem?_eq_some_iff.1 h2).1;rw [Array.getElem?_append_left (by simpa using hlt)]
 simpa using h2
theorem Ad {w:World} {c:Array Value} {t:TypeId} {G:World→Prop} (h:∀ W,W.heap.size=w.heap.size+1→Rw W w.heap.size c t→Below w.heap.size w W→G W):G (w.alloc (.cells c t)):=h _ (by simp) (Rw.new _ _ _) (Dl _ _)
end
section
open Go.RowKit
structure TI (w x:World) (bt:Nat) (t:Af) (s:Eg):Prop where
 below:Below w.heap.size w x
 tar:Dc x t s
 kb:Rw x bt (EI t s) 28
 lb:w.heap.size≤bt
section
variable {w x:World} {bt:Nat} {t:Af} {s:Eg}
theorem TI.keep (h:TI w x bt t s) {x2:World} (hb:Below x.heap.size x x2):TI w x2 bt t s:=⟨h.below.trans (hb.mono h.below.size),h.tar.below hb,h.kb.below hb,h.lb⟩
theorem TI.c0 (h:TI w x bt t s):x.cell? ⟨bt,0,none⟩=some (.int .i64 t.roads.days):=h.kb.cell rfl
theorem TI.c1 (h:TI w x bt t s):x.cell? ⟨bt,1,none⟩=some (.int .i64 t.roads.stages):=h.kb.cell rfl
theorem TI.c2 (h:TI w x bt t s):x.cell? ⟨bt,2,none⟩=some (.slice s.sa t.roads.strips.length s.sc):=h.kb.cell rfl
theorem TI.c3 (h:TI w x bt t s):x.cell? ⟨bt,3,none⟩=some (.int .i64 t.pace):=h.kb.cell rfl
theorem TI.c4 (h:TI w x bt t s):x.cell? ⟨bt,4,none⟩=some (.slice s.pa t.Ac.length s.pc):=h.kb.cell rfl
theorem TI.c5 (h:TI w x bt t s):x.cell? ⟨bt,5,none⟩=some (.slice s.ta t.Ah.length s.tc):=h.kb.cell rfl
theorem TI.made {w0:World} (h0:Below w.heap.size w w0) (ht:Dc w0 t s) {W:World} (hX:Rw W w0.heap.size (EI t s) 28) (hb:Below w0.heap.size w0 W):TI w W w0.heap.size t s:=⟨h0.trans (hb.mono h0.size),ht.below hb,hX,h0.size⟩
end
theorem UA {t:Af} {s:Eg} {w:World} (h:Dc w t s):Calls Try.prog 85 #[.agg #[.int .i64 t.roads.days, .int .i64 t.roads.stages, .slice s.sa t.roads.strips.length s.sc]] w
   fun e w'=>e = .returned (.int .i64 (BP t.roads))∧Below w.heap.size w w':=check_any _ _ _ _ _ _ h.strips h.ls
theorem Bc (k:Nat) (h:k≤1000000):IntKind.i64.wrap ((k:Int)+1)=((k+1:Nat):Int):=by rw [IntWalk.i64_in _ (by omega)];simp
theorem Fv {a b:Int} (h:a=b):(a == b)=true:=by simpa using h
theorem EF {a b:Int} (h:¬ a=b):(a == b)=false:=by simpa using h
theorem Du {a b:Int} (h:¬ a=b):(a != b)=true:=by simpa using h
theorem TF {n lo hi:Int} (h:TG n lo hi=0):lo≤n∧n≤hi:=by
 unfold TG at h
 split at h
 ·exact absurd h (by decide)
 ·split at h
  ·exact absurd h (by decide)
  ·omega
theorem YI {t:Af} (h1:BP t.roads=0) (h2:btw t.pace 1 9=true) (h3:TG t.Ac.length 1 4=0) :
  (∀ k (hk:k < t.Ac.length),(btw (t.Ac[k]).heads 0 40=false∨btw (t.Ac[k]).free 0 40=false)→AP t=1) ∧
  (t.Ac.all Bj=true→btw (AZ t.Ac) 1 40=false→AP t=1)∧(t.Ac.all Bj=true→btw (AZ t.Ac) 1 40=true→AP t=FK t):=by
 refine ⟨fun k hk h =>?_,fun ha hb =>?_,fun ha hb =>?_⟩
 ·have:t.Ac.all Bj=false:=by
   rw [List.all_eq_false];exact ⟨t.Ac[k],List.getElem_mem hk,by rcases h with h | h <;> simp [Bj,h]⟩
  unfold AP;rw [if_neg (by simp [h1]),if_neg (by simp [h2]),if_neg (by simp [h3]),if_pos (by simp [this])]
 ·unfold AP;rw [if_neg (by simp [h1]),if_neg (by simp [h2]),if_neg (by simp [h3]),if_neg (by simp [ha]),if_pos (by simp [hb])]
 ·unfold AP;rw [if_neg (by simp [h1]),if_neg (by simp [h2]),if_neg (by simp [h3]),if_neg (by simp [ha]),if_neg (by simp [hb])]
theorem WY {ps:List Bq} {k:Nat} (hk:k < ps.length) (h:(ps.take k).all Bj=true) (h1:btw ps[k].heads 0 40=true) (h2:btw ps[k].free 0 40=true):(ps.take (k+1)).all Bj=true:=by
 rw [List.take_succ_eq_append_getElem hk,List.all_append,h];simp [Bj,h1,h2]
theorem Q3 {ps:List Bq} {k:Nat} (hl:(ps.length:Int)≤4) (hk:k < ps.length) (h:(ps.take k).all Bj=true) (h1:btw ps[k].heads 0 40=true):IntKind.i64.wrap (AZ (ps.take k)+ps[k].heads)=AZ (ps.take (k+1)):=by
 have h2:=NY h;have h3:=Aq.1 h1;have h4:(ps.take k).length≤4:=by rw [List.length_take];omega
 rw [QJ hk,IntWalk.i64_in _ (by omega)]
theorem CP {a b:Int} (h:a=b):(a != b)=false:=by simpa using h
theorem te3 {N:Int} {pre:List Bv} {x:Bv} (h:btw x.strip 0 (N-1)=false):BX N pre x=3:=by unfold BX;rw [if_pos (by rw [h];rfl)]
theorem te1 {N:Int} {pre:List Bv} {x:Bv} (h:btw x.strip 0 (N-1)=true) (h2:btw x.rate 0 500=false∨btw x.farmer 1 4=false):BX N pre x=1:=by
 unfold BX;rw [if_neg (by simp [h]),if_pos (by rcases h2 with h2 | h2 <;> simp [h2])]
theorem te4 {N:Int} {pre:List Bv} {x:Bv} (h:btw x.strip 0 (N-1)=true) (h1:btw x.rate 0 500=true) (h2:btw x.farmer 1 4=true) (h3:pre.any (fun y=>y.strip == x.strip && y.farmer == x.farmer)=true):BX N pre x=4:=by
 unfold BX;rw [if_neg (by simp [h]),if_neg (by simp [h1,h2]),if_pos h3]
theorem te0 {N:Int} {pre:List Bv} {x:Bv} (h:btw x.strip 0 (N-1)=true) (h1:btw x.rate 0 500=true) (h2:btw x.farmer 1 4=true) (h3:pre.any (fun y=>y.strip == x.strip && y.farmer == x.farmer)=false):BX N pre x=0:=by
 unfold BX;rw [if_neg (by simp [h]),if_neg (by simp [h1,h2]),if_neg (by rw [h3];simp)]
theorem ZU {ts:List Bv} {k j:Nat} (hk:k < ts.length) (hj:j < k) (h1:ts[j].strip=ts[k].strip) (h2:ts[j].farmer=ts[k].farmer):(ts.take k).any (fun y=>y.strip == ts[k].strip && y.farmer == ts[k].farmer)=true:=by
 rw [List.any_eq_true];refine ⟨ts[j],?_,by simp [h1,h2]⟩;rw [List.mem_take_iff_getElem];exact ⟨j,by omega,rfl⟩
theorem TU {ts:List Bv} {x:Bv} {j:Nat} (hj:j < ts.length) (h:(ts.take j).any (fun y=>y.strip == x.strip && y.farmer == x.farmer)=false) (h1:¬ (ts[j].strip=x.strip∧ts[j].farmer=x.farmer)):(ts.take (j+1)).any (fun y=>y.strip == x.strip && y.farmer == x.farmer)=false:=by
 rw [List.take_succ_eq_append_getElem hj,List.any_append,h];simp only [List.any_cons,List.any_nil,Bool.or_false,Bool.false_or,Bool.and_eq_false_iff,beq_eq_false_iff_ne]
 by_cases e:ts[j].strip=x.strip
 ·exact .inr fun e2=>h1 ⟨e,e2⟩
 ·exact .inl e
theorem Rn:Try.f88.body=some (Code.seq (Aa Try.f88 0) (Code.seq (Code.seq (Aa Try.f88 1) (Code.cond (Operand.tmp 10) (Code.seq (Aa Try.f88 2) Code.ret) Code.skip)) (Code.seq (Code.seq (Aa Try.f88 3) (Code.block 0 (Code.loop (Code.seq (Aa Try.f88 4) (Code.seq (Code.cond (Operand.tmp 15) Code.skip (Code.exit 0)) (Code.seq (Code.block 1 (Code.seq (Aa Try.f88 5) (Code.seq (Code.seq (Aa Try.f88 6) (Code.cond (Operand.tmp 27) (Code.seq (Aa Try.f88 7) Code.ret) Code.skip)) (Code.seq (Code.seq (Aa Try.f88 8) (Code.cond (Operand.tmp 37) (Code.seq (Aa Try.f88 9) Code.ret) Code.skip)) (Code.seq (Aa Try.f88 10) (Code.block 2 (Code.loop (Code.seq (Aa Try.f88 11) (Code.seq (Code.cond (Operand.tmp 44) Code.skip (Code.exit 2)) (Code.seq (Code.block 3 (Code.seq (Aa Try.f88 12) (Code.seq (Aa Try.f88 13) (Code.cond (Operand.tmp 58) (Code.seq (Aa Try.f88 14) Code.ret) Code.skip)))) (Aa Try.f88 15))))))))))) (Aa Try.f88 16))))))) (Code.seq (Aa Try.f88 17) Code.ret)))):=by kernel_rfl
theorem VO {t:Af} {s:Eg} {w:World} (ht:Dc w t s):Calls Try.prog 88 #[.agg (EI t s)] w (fun e w'=>e = .returned (.int .i64 (FK t))∧Below w.heap.size w w'):=by
 refine QV Try.func88 Rn Try.ntmps88 ?_;intro a Z;refine wsr ?_;refine Z.s ?_;clear Z;intro a Z;refine Ad (G:=fun W=>wpOps _ _ _ _ _ W) ?_;intro x hz X hb;have hI:=TI.made (Below.refl _ _) ht X hb;obtain ⟨bt,hbt⟩:∃ b,b=w.heap.size:=⟨_,rfl⟩;rw [← hbt] at Z hI;clear hz X hb hbt;refine Z.s ?_;clear Z;intro a Z;refine od ?_;refine wp_seq ?_;refine wsr ?_;refine Z.s ?_;clear Z;intro a Z;refine og fun K hK =>?_
 have e7:=Z.g 7;have c5:=hI.c5;unfold Oper.wp;go_simp;clear e7;refine Z.K hK ?_;clear Z hK;intro a Z;refine Z.s ?_;clear Z;intro a Z
 by_cases h1:6 < t.Ah.length
 ·have q1:(6:Int) < (t.Ah.length:Int):=by omega
  have hR:=Lib.hid (show FK t=6 from by unfold FK;rw [if_pos h1]);refine Z.s ?_;clear Z;intro a Z;refine od ?_;refine wp_cond_true (Z.ev 10 rfl) ?_;refine wsr ?_;refine Z.s ?_;clear Z;intro a Z;refine od ?_;refine wp_ret ?_
  try simp only [Exit.then,Exit.inBlock]
  refine bodyPost_ret (v := .int .i64 (FK t)) ?_ Z.defers ⟨rfl,hI.below⟩;rw [hR.out];simp [results,Try.results88,Z.get 2 _ rfl]
 ·have q1:¬ (6:Int) < (t.Ah.length:Int):=by omega
  refine Z.s ?_;clear Z;intro a Z;refine od ?_;refine wp_cond_false (Z.ev 10 rfl) ?_;refine wp_skip ?_;refine wp_seq ?_;refine wsr ?_;refine Z.s ?_;clear Z;intro a Z;refine og fun K hK =>?_
  have e11:=Z.g 11;have c5:=hI.c5;unfold Oper.wp;go_simp;clear e11;refine Z.K hK ?_;clear Z hK;intro a Z;(iterate 2 refine Z.s ?_;clear Z;intro a Z);refine od ?_;refine wp_block ?_;have hl6:t.Ah.length≤6:=by omega
  refine wp_loop_ghost (fun n p x=>∃ k:Nat,k+n=t.Ah.length∧BQ t.roads.strips.length (t.Ah.take k) (t.Ah.drop k)=FK t∧Sl p 61 [(1, .pointer (some ⟨bt,0,none⟩)),(12, .slice s.ta t.Ah.length s.tc),(13, .int .i64 (t.Ah.length:Int)),(14, .int .i64 (k:Int))]∧TI w x bt t s) t.Ah.length ⟨0,by omega,by unfold FK;rw [if_neg h1];rfl,Z.sb,hI⟩ ?_;clear Z hI h1;rintro n a x ⟨k,hkn,hE,Z,hI⟩;have HE:=Lib.hid hE;clear hE;refine wsr ?_
  by_cases hlt:k < t.Ah.length
  ·have q1:(k:Int) < (t.Ah.length:Int):=by omega
   obtain ⟨pb,po,hpa,p0,p1,p2⟩:=hI.tar.Ah.at hlt;rw [hpa] at Z;simp only [Qb] at p0 p1 p2;refine Z.s ?_;clear Z;intro a Z;refine od ?_;refine wp_seq ?_;refine wp_cond_true (Z.ev 15 rfl) ?_;refine wp_skip ?_;refine wp_seq ?_;refine wp_block ?_;refine wsr ?_;(iterate 3 refine Z.s ?_;clear Z;intro a Z);refine og fun K hK =>?_
   obtain ⟨g,hg⟩:∃ b,b=x.heap.size:=⟨_,rfl⟩;unfold Oper.wp;go_simp;refine Z.K hK ?_;clear Z hK;intro a Z;refine Z.s ?_;clear Z;intro a Z;refine og fun K hK =>?_
   have e4:=Z.g 4;have e18:=Z.g 18;unfold Oper.wp;go_simp;clear e4 e18;refine hK _ _ ?_;clear hK;refine Ad (G:=fun W=>wpOps _ _ _ _ _ W) ?_;intro x hz G hb;replace hI:=hI.keep hb;rw [← hg] at Z G;clear hz hb p0 p1 p2 hg;refine od ?_;have HR:=Lib.hid (fun e (h:BX t.roads.strips.length (t.Ah.take k) t.Ah[k]=e) (h0:e≠0)=>HE.out.symm.trans (O1 hlt h h0));refine wp_seq ?_;refine wsr ?_;refine Z.s ?_;clear Z;intro a Z;refine og fun K hK =>?_
   have e19:=Z.g 19;have g0:=G.cell (o:=0) rfl;unfold Oper.wp;go_simp;clear e19;refine Z.K hK ?_;clear Z hK;intro a Z;(iterate 2 refine Z.s ?_;clear Z;intro a Z);refine og fun K hK =>?_
   have e22:=Z.g 22;have c2:=hI.c2;unfold Oper.wp;go_simp;clear e22;refine Z.K hK ?_;clear Z hK;intro a Z;refine Z.s ?_;clear Z;intro a Z;refine og fun K hK =>?_
   have e24:=Z.g 24;have hw:IntKind.i64.wrap ((t.roads.strips.length:Int)-1)=(t.roads.strips.length:Int)-1:=IntWalk.i64_in _ (by have:=hI.tar.ls;unfold maxLen at this;omega);unfold Oper.wp;go_simp;clear e24;refine Z.K hK ?_;clear Z hK;intro a Z;refine og fun K hK =>?_
   have e20:=Z.g 20;have e25:=Z.g 25;unfold Oper.wp;go_simp;refine (Bo _ _ _ _).mono ?_;rintro e x ⟨rfl,rfl⟩;clear e20 e25;refine Z.K hK ?_;clear Z hK;intro a Z;rcases Bool.eq_false_or_eq_true (btw t.Ah[k].strip 0 ((t.roads.strips.length:Int)-1)) with h2 | h2
   ·rw [h2] at Z;refine Z.s ?_;clear Z;intro a Z;refine od ?_;refine wp_cond_false (Z.ev 27 rfl) ?_;refine wp_skip ?_;refine wp_seq ?_;refine wsr ?_;refine Z.s ?_;clear Z;intro a Z;refine og fun K hK =>?_
    have e28:=Z.g 28;have g1:=G.cell (o:=1) rfl;unfold Oper.wp;go_simp;clear e28;refine Z.K hK ?_;clear Z hK;intro a Z;refine og fun K hK =>?_
    have e29:=Z.g 29;unfold Oper.wp;go_simp;refine (Bo _ _ _ _).mono ?_;rintro e x ⟨rfl,rfl⟩;clear e29;refine Z.K hK ?_;clear Z hK;intro a Z;rcases Bool.eq_false_or_eq_true (btw t.Ah[k].rate 0 500) with h3 | h3
    ·rw [h3] at Z;(iterate 2 refine Z.s ?_;clear Z;intro a Z);refine Z.t ?_;clear Z;intro a Z;refine oW (Z.g 32) fun K hK =>?_
     have e33:=Z.g 33;have g6:=G.cell (o:=2) rfl;unfold Oper.wp;go_simp;clear e33;refine Z.K hK ?_;clear Z hK;intro a Z;refine oW (Z.g 32) fun K hK =>?_
     have e34:=Z.g 34;unfold Oper.wp;go_simp;refine (Bo _ _ _ _).mono ?_;rintro e x ⟨rfl,rfl⟩;clear e34;refine Z.K hK ?_;clear Z hK;intro a Z;rcases Bool.eq_false_or_eq_true (btw t.Ah[k].farmer 1 4) with h4 | h4
     ·rw [h4] at Z;refine Z.t ?_;clear Z;intro a Z;refine Z.s ?_;clear Z;intro a Z;refine od ?_;refine wp_cond_false (Z.ev 37 rfl) ?_;refine wp_skip ?_;refine wsr ?_;refine Z.s ?_;clear Z;intro a Z;refine og fun K hK =>?_
      have e38:=Z.g 38;have c5:=hI.c5;unfold Oper.wp;go_simp;clear e38;refine Z.K hK ?_;clear Z hK;intro a Z;refine Z.s ?_;clear Z;intro a Z;refine og fun K hK =>?_
      have e39:=Z.g 39;have e40:=Z.g 40;have hqk:(k:Int)≤(s.tc:Int):=by have:=hI.tar.qt;omega
      have hk0:(0:Int)≤(k:Int):=by omega
      unfold Oper.wp;go_simp;clear e39 e40;refine Z.K hK ?_;clear Z hK;intro a Z;(iterate 2 refine Z.s ?_;clear Z;intro a Z);refine od ?_;refine wp_block ?_;refine wp_loop_ghost (fun n2 p x=>∃ j:Nat,j+n2=k∧(t.Ah.take j).any (fun y=>y.strip == t.Ah[k].strip && y.farmer == t.Ah[k].farmer)=false∧Sl p 61 [(1, .pointer (some ⟨bt,0,none⟩)),(4, .pointer (some ⟨g,0,none⟩)),(12, .slice (some ⟨pb,po,none⟩) t.Ah.length s.tc),(13, .int .i64 (t.Ah.length:Int)),(14, .int .i64 (k:Int)),(41, .slice (some ⟨pb,po,none⟩) k s.tc),(42, .int .i64 (k:Int)),(43, .int .i64 (j:Int))]∧TI w x bt t s∧Rw x g #[.int .i64 t.Ah[k].strip, .int .i64 t.Ah[k].rate, .int .i64 t.Ah[k].farmer] 57) k ⟨0,by omega,by simp,Z.sb,hI,G⟩ ?_;clear Z hI G;rintro n2 a x ⟨j,hjn,hany,Z,hI,G⟩;have HANY:=Lib.hid hany;clear hany;refine wsr ?_
      by_cases hj:j < k
      ·have q2:(j:Int) < (k:Int):=by omega
       have hjl:j < t.Ah.length:=by omega
       obtain ⟨pb2,po2,hpa2,p0,p1,p2⟩:=hI.tar.Ah.at hjl;obtain ⟨rfl,rfl⟩:pb=pb2∧po=po2:=by rw [hpa] at hpa2;simpa using hpa2
       simp only [Qb] at p0 p1 p2;clear hpa2;refine Z.s ?_;clear Z;intro a Z;refine od ?_;refine wp_seq ?_;refine wp_cond_true (Z.ev 44 rfl) ?_;refine wp_skip ?_;refine wp_seq ?_;refine wp_block ?_;refine wsr ?_;(iterate 2 refine Z.s ?_;clear Z;intro a Z);refine og fun K hK =>?_
       obtain ⟨g2,hg⟩:∃ b,b=x.heap.size:=⟨_,rfl⟩;unfold Oper.wp;go_simp;refine Z.K hK ?_;clear Z hK;intro a Z;refine og fun K hK =>?_
       have e6:=Z.g 6;have e46:=Z.g 46;unfold Oper.wp;go_simp;clear e6 e46;refine hK _ _ ?_;clear hK;refine Ad (G:=fun W=>wpOps _ _ _ _ _ W) ?_;intro x hz Y hb;replace hI:=hI.keep hb;replace G:=G.below hb;rw [← hg] at Z Y;clear hz hb p0 p1 p2 hg;refine od ?_;refine wsr ?_;refine Z.s ?_;clear Z;intro a Z;refine og fun K hK =>?_
       have e47:=Z.g 47;have y0:=Y.cell (o:=0) rfl;unfold Oper.wp;go_simp;clear e47;refine Z.K hK ?_;clear Z hK;intro a Z;refine Z.s ?_;clear Z;intro a Z;refine og fun K hK =>?_
       have e49:=Z.g 49;have g0:=G.cell (o:=0) rfl;unfold Oper.wp;go_simp;clear e49;refine Z.K hK ?_;clear Z hK;intro a Z
       by_cases h5:t.Ah[j].strip=t.Ah[k].strip
       ·have hbe:=Fv h5;(iterate 2 refine Z.s ?_;clear Z;intro a Z);refine Z.t ?_;clear Z;intro a Z;refine oW (Z.g 52) fun K hK =>?_
        have e53:=Z.g 53;have y2:=Y.cell (o:=2) rfl;unfold Oper.wp;go_simp;clear e53;refine Z.K hK ?_;clear Z hK;intro a Z;refine Z.t ?_;clear Z;intro a Z;refine oW (Z.g 52) fun K hK =>?_
        have e55:=Z.g 55;have g2:=G.cell (o:=2) rfl;unfold Oper.wp;go_simp;clear e55;refine Z.K hK ?_;clear Z hK;intro a Z
        by_cases h6:t.Ah[j].farmer=t.Ah[k].farmer
        ·have hbe2:=Fv h6;have hR:=Lib.hid (HR.out _ (te4 h2 h3 h4 (ZU hlt hj h5 h6)) (by decide));refine Z.t ?_;clear Z;intro a Z;refine Z.s ?_;clear Z;intro a Z;refine od ?_;refine wp_cond_true (Z.ev 58 rfl) ?_;refine wsr ?_;refine Z.s ?_;clear Z;intro a Z;refine od ?_;refine wp_ret ?_
         try simp only [Exit.then,Exit.inBlock]
         refine bodyPost_ret (v := .int .i64 (FK t)) ?_ Z.defers ⟨rfl,hI.below⟩;rw [hR.out];simp [results,Try.results88,Z.get 2 _ rfl]
        ·have hbe2:=EF h6;refine Z.t ?_;clear Z;intro a Z;refine Z.s ?_;clear Z;intro a Z;refine od ?_;refine wp_cond_false (Z.ev 58 rfl) ?_;refine wp_skip ?_;refine wr ?_;refine og fun K hK =>?_
         have e43:=Z.g 43;have hw:=Bc j (by omega);unfold Oper.wp;go_simp;clear e43;refine Z.K hK ?_;clear Z hK;intro a Z;refine Z.s ?_;clear Z;intro a Z;refine od ?_;show Exists _;exact ⟨n2-1,by omega,j+1,by omega,TU hjl HANY.out (fun h=>h6 h.2),Z.sb,hI,G⟩
       ·have hbe:=EF h5;(iterate 2 refine Z.s ?_;clear Z;intro a Z);refine Z.z ?_;clear Z;intro a Z;refine Z.z ?_;clear Z;intro a Z;refine Z.z ?_;clear Z;intro a Z;refine Z.z ?_;clear Z;intro a Z;refine Z.z ?_;clear Z;intro a Z;refine Z.s ?_;clear Z;intro a Z;refine od ?_;refine wp_cond_false (Z.ev 58 rfl) ?_;refine wp_skip ?_;refine wr ?_;refine og fun K hK =>?_
        have e43:=Z.g 43;have hw:=Bc j (by omega);unfold Oper.wp;go_simp;clear e43;refine Z.K hK ?_;clear Z hK;intro a Z;refine Z.s ?_;clear Z;intro a Z;refine od ?_;show Exists _;exact ⟨n2-1,by omega,j+1,by omega,TU hjl HANY.out (fun h=>h5 h.1),Z.sb,hI,G⟩
      ·obtain rfl:k=j:=by omega
       refine Z.s ?_;clear Z;intro a Z;refine od ?_;refine wp_seq ?_;refine wp_cond_false (Z.ev 44 rfl) ?_;refine wp_exit ?_;have hany:=HANY.out;refine wr ?_;refine og fun K hK =>?_
       have e14:=Z.g 14;have hw:=Bc k (by omega);unfold Oper.wp;go_simp;clear e14;refine Z.K hK ?_;clear Z hK;intro a Z;refine Z.s ?_;clear Z;intro a Z;refine od ?_;show Exists _;exact ⟨n-1,by omega,k+1,by omega,(O3 hlt (te0 h2 h3 h4 hany)).trans HE.out,by rw [hpa];exact Z.sb,hI⟩
     ·rw [h4] at Z;have hR:=Lib.hid (HR.out _ (te1 h2 (.inr h4)) (by decide));refine Z.t ?_;clear Z;intro a Z;refine Z.s ?_;clear Z;intro a Z;refine od ?_;refine wp_cond_true (Z.ev 37 rfl) ?_;refine wsr ?_;refine Z.s ?_;clear Z;intro a Z;refine od ?_;refine wp_ret ?_
      try simp only [Exit.then,Exit.inBlock]
      refine bodyPost_ret (v := .int .i64 (FK t)) ?_ Z.defers ⟨rfl,hI.below⟩;rw [hR.out];simp [results,Try.results88,Z.get 2 _ rfl]
    ·rw [h3] at Z;have hR:=Lib.hid (HR.out _ (te1 h2 (.inl h3)) (by decide));(iterate 2 refine Z.s ?_;clear Z;intro a Z);refine Z.z ?_;clear Z;intro a Z;refine Z.z ?_;clear Z;intro a Z;refine Z.z ?_;clear Z;intro a Z;refine Z.z ?_;clear Z;intro a Z;refine Z.s ?_;clear Z;intro a Z;refine od ?_;refine wp_cond_true (Z.ev 37 rfl) ?_;refine wsr ?_;refine Z.s ?_;clear Z;intro a Z;refine od ?_;refine wp_ret ?_
     try simp only [Exit.then,Exit.inBlock]
     refine bodyPost_ret (v := .int .i64 (FK t)) ?_ Z.defers ⟨rfl,hI.below⟩;rw [hR.out];simp [results,Try.results88,Z.get 2 _ rfl]
   ·rw [h2] at Z;have hR:=Lib.hid (HR.out _ (te3 h2) (by decide));refine Z.s ?_;clear Z;intro a Z;refine od ?_;refine wp_cond_true (Z.ev 27 rfl) ?_;refine wsr ?_;refine Z.s ?_;clear Z;intro a Z;refine od ?_;refine wp_ret ?_
    try simp only [Exit.then,Exit.inBlock]
    refine bodyPost_ret (v := .int .i64 (FK t)) ?_ Z.defers ⟨rfl,hI.below⟩;rw [hR.out];simp [results,Try.results88,Z.get 2 _ rfl]
  ·obtain rfl:k=t.Ah.length:=by omega
   refine Z.s ?_;clear Z;intro a Z;refine od ?_;refine wp_seq ?_;refine wp_cond_false (Z.ev 15 rfl) ?_;refine wp_exit ?_;have hR:=Lib.hid (show FK t=0 from by rw [← HE.out,List.drop_of_length_le (Nat.le_refl _)];rfl);refine wsr ?_;refine Z.s ?_;clear Z;intro a Z;refine od ?_;refine wp_ret ?_
   try simp only [Exit.then,Exit.inBlock]
   refine bodyPost_ret (v := .int .i64 (FK t)) ?_ Z.defers ⟨rfl,hI.below⟩;rw [hR.out];simp [results,Try.results88,Z.get 2 _ rfl]
theorem Rx:Try.f39.body=some (Code.seq (Aa Try.f39 0) (Code.seq (Code.seq (Aa Try.f39 1) (Code.seq (Aa Try.f39 2) (Code.cond (Operand.tmp 12) (Code.seq (Aa Try.f39 3) Code.ret) Code.skip))) (Code.seq (Code.seq (Aa Try.f39 4) (Code.cond (Operand.tmp 17) (Code.seq (Aa Try.f39 5) Code.ret) Code.skip)) (Code.seq (Code.seq (Aa Try.f39 6) (Code.seq (Aa Try.f39 7) (Code.cond (Operand.tmp 23) (Code.seq (Aa Try.f39 8) Code.ret) Code.skip))) (Code.seq (Aa Try.f39 9) (Code.seq (Code.seq (Aa Try.f39 10) (Code.block 0 (Code.loop (Code.seq (Aa Try.f39 11) (Code.seq (Code.cond (Operand.tmp 29) Code.skip (Code.exit 0)) (Code.seq (Code.block 1 (Code.seq (Aa Try.f39 12) (Code.seq (Code.seq (Aa Try.f39 13) (Code.cond (Operand.tmp 41) (Code.seq (Aa Try.f39 14) Code.ret) Code.skip)) (Aa Try.f39 15)))) (Aa Try.f39 16))))))) (Code.seq (Code.seq (Aa Try.f39 17) (Code.cond (Operand.tmp 49) (Code.seq (Aa Try.f39 18) Code.ret) Code.skip)) (Code.seq (Aa Try.f39 19) Code.ret)))))))):=by kernel_rfl
theorem Kv {t:Af} {s:Eg} {w:World} (ht:Dc w t s):Calls Try.prog 39 #[.agg (EI t s)] w (fun e w'=>e = .returned (.int .i64 (AP t))∧Below w.heap.size w w'):=by
 refine QV Try.func39 Rx Try.ntmps39 ?_;intro a Z;refine wsr ?_;refine Z.s ?_;clear Z;intro a Z;refine Ad (G:=fun W=>wpOps _ _ _ _ _ W) ?_;intro x hz X hb;have hI:=TI.made (Below.refl _ _) ht X hb;obtain ⟨bt,hbt⟩:∃ b,b=w.heap.size:=⟨_,rfl⟩;rw [← hbt] at Z hI;clear hz X hb hbt;refine Z.s ?_;clear Z;intro a Z;refine od ?_;refine wp_seq ?_;refine wsr ?_;refine Z.s ?_;clear Z;intro a Z;refine og fun K hK =>?_
 have e8:=Z.g 8;have c0:=hI.c0;have c1:=hI.c1;have c2:=hI.c2;unfold Oper.wp;go_simp;clear e8;refine Z.K hK ?_;clear Z hK;intro a Z;refine og fun K hK =>?_
 have e9:=Z.g 9;unfold Oper.wp;go_simp;refine (UA hI.tar).mono ?_;rintro e x ⟨rfl,hb⟩;replace hI:=hI.keep hb;clear hb;clear e9;refine Z.K hK ?_;clear Z hK;intro a Z;refine Z.s ?_;clear Z;intro a Z;refine od ?_;refine wsr ?_;refine Z.s ?_;clear Z;intro a Z
 by_cases h1:BP t.roads=0
 ·have hne:=CP h1;refine Z.s ?_;clear Z;intro a Z;refine od ?_;refine wp_cond_false (Z.ev 12 rfl) ?_;refine wp_skip ?_;refine wp_seq ?_;refine wsr ?_;refine Z.s ?_;clear Z;intro a Z;refine og fun K hK =>?_
  have e14:=Z.g 14;have c3:=hI.c3;unfold Oper.wp;go_simp;clear e14;refine Z.K hK ?_;clear Z hK;intro a Z;refine og fun K hK =>?_
  have e15:=Z.g 15;unfold Oper.wp;go_simp;refine (Bo _ _ _ _).mono ?_;rintro e x ⟨rfl,rfl⟩;clear e15;refine Z.K hK ?_;clear Z hK;intro a Z;rcases Bool.eq_false_or_eq_true (btw t.pace 1 9) with h2 | h2
  ·rw [h2] at Z;refine Z.s ?_;clear Z;intro a Z;refine od ?_;refine wp_cond_false (Z.ev 17 rfl) ?_;refine wp_skip ?_;refine wp_seq ?_;refine wsr ?_;refine Z.s ?_;clear Z;intro a Z;refine og fun K hK =>?_
   have e18:=Z.g 18;have c4:=hI.c4;unfold Oper.wp;go_simp;clear e18;refine Z.K hK ?_;clear Z hK;intro a Z;refine Z.s ?_;clear Z;intro a Z;refine og fun K hK =>?_
   have e20:=Z.g 20;unfold Oper.wp;go_simp;refine (Zy _ _ _ _).mono ?_;rintro e x ⟨rfl,rfl⟩;clear e20;refine Z.K hK ?_;clear Z hK;intro a Z;refine Z.s ?_;clear Z;intro a Z;refine od ?_;refine wsr ?_;refine Z.s ?_;clear Z;intro a Z
   by_cases h3:TG t.Ac.length 1 4=0
   ·have hne:=CP h3;obtain ⟨hl1,hl4⟩:=TF h3;have HC:=Lib.hid (YI h1 h2 h3);clear h1 h2 h3;refine Z.s ?_;clear Z;intro a Z;refine od ?_;refine wp_cond_false (Z.ev 23 rfl) ?_;refine wp_skip ?_;refine wsr ?_;refine Z.s ?_;clear Z;intro a Z;refine od ?_;refine wp_seq ?_;refine wsr ?_;refine Z.s ?_;clear Z;intro a Z;refine og fun K hK =>?_
    have e25:=Z.g 25;have c4:=hI.c4;unfold Oper.wp;go_simp;clear e25;refine Z.K hK ?_;clear Z hK;intro a Z;(iterate 2 refine Z.s ?_;clear Z;intro a Z);refine od ?_;refine wp_block ?_;refine wp_loop_ghost (fun n p x=>∃ k:Nat,k+n=t.Ac.length∧(t.Ac.take k).all Bj=true∧Sl p 52 [(1, .pointer (some ⟨bt,0,none⟩)),(5, .int .i64 (AZ (t.Ac.take k))),(26, .slice s.pa t.Ac.length s.pc),(27, .int .i64 (t.Ac.length:Int)),(28, .int .i64 (k:Int))]∧TI w x bt t s) t.Ac.length ⟨0,by omega,rfl,Z.sb,hI⟩ ?_;clear Z hI;rintro n a x ⟨k,hkn,hfine,Z,hI⟩;have hadd:=fun (hlt:k < t.Ac.length) h4=>Q3 (hl:=hl4) hlt hfine h4
    refine wsr ?_
    by_cases hlt:k < t.Ac.length
    ·have q1:(k:Int) < (t.Ac.length:Int):=by omega
     obtain ⟨pb,po,hpa,p0,p1,p2⟩:=hI.tar.Ac.at hlt;rw [hpa] at Z;simp only [Zo] at p0 p1 p2;refine Z.s ?_;clear Z;intro a Z;refine od ?_;refine wp_seq ?_;refine wp_cond_true (Z.ev 29 rfl) ?_;refine wp_skip ?_;refine wp_seq ?_;refine wp_block ?_;refine wsr ?_;(iterate 3 refine Z.s ?_;clear Z;intro a Z);refine og fun K hK =>?_
     have e7:=Z.g 7;have e31:=Z.g 31;unfold Oper.wp;go_simp;clear e7 e31;refine hK _ _ ?_;clear hK;refine Ad (G:=fun W=>wpOps _ _ _ _ _ W) ?_;intro x hz G hb;replace hI:=hI.keep hb;clear hz hb p0 p1 p2;refine od ?_;refine wp_seq ?_;refine wsr ?_;refine Z.s ?_;clear Z;intro a Z;refine og fun K hK =>?_
     have e32:=Z.g 32;have g1:=G.cell (o:=0) rfl;unfold Oper.wp;go_simp;clear e32;refine Z.K hK ?_;clear Z hK;intro a Z;refine og fun K hK =>?_
     have e33:=Z.g 33;unfold Oper.wp;go_simp;refine (Bo _ _ _ _).mono ?_;rintro e x ⟨rfl,rfl⟩;clear e33;refine Z.K hK ?_;clear Z hK;intro a Z;rcases Bool.eq_false_or_eq_true (btw (t.Ac[k]).heads 0 40) with h4 | h4
     ·rw [h4] at Z;(iterate 2 refine Z.s ?_;clear Z;intro a Z);refine Z.t ?_;clear Z;intro a Z;refine oW (Z.g 36) fun K hK =>?_
      have e37:=Z.g 37;have g6:=G.cell (o:=1) rfl;unfold Oper.wp;go_simp;clear e37;refine Z.K hK ?_;clear Z hK;intro a Z;refine oW (Z.g 36) fun K hK =>?_
      have e38:=Z.g 38;unfold Oper.wp;go_simp;refine (Bo _ _ _ _).mono ?_;rintro e x ⟨rfl,rfl⟩;clear e38;refine Z.K hK ?_;clear Z hK;intro a Z;rcases Bool.eq_false_or_eq_true (btw (t.Ac[k]).free 0 40) with h5 | h5
      ·rw [h5] at Z;refine Z.t ?_;clear Z;intro a Z;refine Z.s ?_;clear Z;intro a Z;refine od ?_;refine wp_cond_false (Z.ev 41 rfl) ?_;refine wp_skip ?_;refine wr ?_;(iterate 2 refine Z.s ?_;clear Z;intro a Z);refine og fun K hK =>?_
       have e43:=Z.g 43;have g0:=G.cell (o:=0) rfl;unfold Oper.wp;go_simp;clear e43;refine Z.K hK ?_;clear Z hK;intro a Z;refine og fun K hK =>?_
       have e42:=Z.g 42;have e44:=Z.g 44;have hw:=hadd hlt h4;unfold Oper.wp;go_simp;clear e42 e44;refine Z.K hK ?_;clear Z hK;intro a Z;refine Z.s ?_;clear Z;intro a Z;refine od ?_;refine wr ?_;refine og fun K hK =>?_
       have e28:=Z.g 28;have hw:=Bc k (by omega);unfold Oper.wp;go_simp;clear e28;refine Z.K hK ?_;clear Z hK;intro a Z;refine Z.s ?_;clear Z;intro a Z;refine od ?_;have hpa2:=hpa;exact ⟨n-1,by omega,k+1,by omega,WY hlt hfine h4 h5,by rw [hpa];exact Z.sb,hI⟩
      ·rw [h5] at Z;have hR:=Lib.hid (HC.out.1 k hlt (.inr h5));refine Z.t ?_;clear Z;intro a Z;refine Z.s ?_;clear Z;intro a Z;refine od ?_;refine wp_cond_true (Z.ev 41 rfl) ?_;refine wsr ?_;refine Z.s ?_;clear Z;intro a Z;refine od ?_;refine wp_ret ?_
       try simp only [Exit.then,Exit.inBlock]
       refine bodyPost_ret (v := .int .i64 (AP t)) ?_ Z.defers ⟨rfl,hI.below⟩;rw [hR.out];simp [results,Try.results39,Z.get 2 _ rfl]
     ·rw [h4] at Z;have hR:=Lib.hid (HC.out.1 k hlt (.inl h4));(iterate 2 refine Z.s ?_;clear Z;intro a Z);refine Z.z ?_;clear Z;intro a Z;refine Z.z ?_;clear Z;intro a Z;refine Z.z ?_;clear Z;intro a Z;refine Z.z ?_;clear Z;intro a Z;refine Z.s ?_;clear Z;intro a Z;refine od ?_;refine wp_cond_true (Z.ev 41 rfl) ?_;refine wsr ?_;refine Z.s ?_;clear Z;intro a Z;refine od ?_;refine wp_ret ?_
      try simp only [Exit.then,Exit.inBlock]
      refine bodyPost_ret (v := .int .i64 (AP t)) ?_ Z.defers ⟨rfl,hI.below⟩;rw [hR.out];simp [results,Try.results39,Z.get 2 _ rfl]
    ·obtain rfl:k=t.Ac.length:=by omega
     rw [List.take_length] at Z hfine;refine Z.s ?_;clear Z;intro a Z;refine od ?_;refine wp_seq ?_;refine wp_cond_false (Z.ev 29 rfl) ?_;refine wp_exit ?_;refine wp_seq ?_;refine wsr ?_;refine Z.s ?_;clear Z;intro a Z;refine og fun K hK =>?_
     have e47:=Z.g 47;unfold Oper.wp;go_simp;refine (Bo _ _ _ _).mono ?_;rintro e x ⟨rfl,rfl⟩;clear e47;refine Z.K hK ?_;clear Z hK;intro a Z;rcases Bool.eq_false_or_eq_true (btw (AZ t.Ac) 1 40) with h6 | h6
     ·rw [h6] at Z;have hR:=Lib.hid (HC.out.2.2 hfine h6);refine Z.s ?_;clear Z;intro a Z;refine od ?_;refine wp_cond_false (Z.ev 49 rfl) ?_;refine wp_skip ?_;refine wsr ?_;refine og fun K hK =>?_
      have e1:=Z.g 1;have c0:=hI.c0;have c1:=hI.c1;have c2:=hI.c2;have c3:=hI.c3;have c4:=hI.c4;have c5:=hI.c5;unfold Oper.wp;go_simp;clear e1;refine Z.K hK ?_;clear Z hK;intro a Z;refine og fun K hK =>?_
      have e50:=Z.g 50;unfold Oper.wp;go_simp;refine (VO hI.tar).mono ?_;rintro e x ⟨rfl,hb⟩;replace hI:=hI.keep hb;clear hb;clear e50;refine Z.K hK ?_;clear Z hK;intro a Z;refine Z.s ?_;clear Z;intro a Z;refine od ?_;refine wp_ret ?_
      try simp only [Exit.then,Exit.inBlock]
      refine bodyPost_ret (v := .int .i64 (AP t)) ?_ Z.defers ⟨rfl,hI.below⟩;rw [hR.out];simp [results,Try.results39,Z.get 2 _ rfl]
     ·rw [h6] at Z;have hR:=Lib.hid (HC.out.2.1 hfine h6);refine Z.s ?_;clear Z;intro a Z;refine od ?_;refine wp_cond_true (Z.ev 49 rfl) ?_;refine wsr ?_;refine Z.s ?_;clear Z;intro a Z;refine od ?_;refine wp_ret ?_
      try simp only [Exit.then,Exit.inBlock]
      refine bodyPost_ret (v := .int .i64 (AP t)) ?_ Z.defers ⟨rfl,hI.below⟩;rw [hR.out];simp [results,Try.results39,Z.get 2 _ rfl]
   ·have hne:=Du h3;have hR:=Lib.hid (show AP t=TG t.Ac.length 1 4 from by unfold AP;rw [if_neg (by simp [h1]),if_neg (by simp [h2]),if_pos h3]);refine Z.s ?_;clear Z;intro a Z;refine od ?_;refine wp_cond_true (Z.ev 23 rfl) ?_;refine wsr ?_;(iterate 2 refine Z.s ?_;clear Z;intro a Z);refine od ?_;refine wp_ret ?_
    try simp only [Exit.then,Exit.inBlock]
    refine bodyPost_ret (v := .int .i64 (AP t)) ?_ Z.defers ⟨rfl,hI.below⟩;rw [hR.out];simp [results,Try.results39,Z.get 2 _ rfl]
  ·rw [h2] at Z;have hR:=Lib.hid (show AP t=1 from by unfold AP;rw [if_neg (by simp [h1]),if_pos (by rw [h2];rfl)]);refine Z.s ?_;clear Z;intro a Z;refine od ?_;refine wp_cond_true (Z.ev 17 rfl) ?_;refine wsr ?_;refine Z.s ?_;clear Z;intro a Z;refine od ?_;refine wp_ret ?_
   try simp only [Exit.then,Exit.inBlock]
   refine bodyPost_ret (v := .int .i64 (AP t)) ?_ Z.defers ⟨rfl,hI.below⟩;rw [hR.out];simp [results,Try.results39,Z.get 2 _ rfl]
 ·have hne:=Du h1;have hR:=Lib.hid (show AP t=BP t.roads from by unfold AP;rw [if_pos h1]);refine Z.s ?_;clear Z;intro a Z;refine od ?_;refine wp_cond_true (Z.ev 12 rfl) ?_;refine wsr ?_;(iterate 2 refine Z.s ?_;clear Z;intro a Z);refine od ?_;refine wp_ret ?_
  try simp only [Exit.then,Exit.inBlock]
  refine bodyPost_ret (v := .int .i64 (AP t)) ?_ Z.defers ⟨rfl,hI.below⟩;rw [hR.out];simp [results,Try.results39,Z.get 2 _ rfl]
end
end Go.Proofs.Ytgdobbcjkiapkaa
