import Derived.Test.YtgdobbcjkiapkaaSv14
import Derived.Test.YtgdobbcjkiapkaaSv04
import Derived.Test.YtgdobbcjkiapkaaSv15
import Derived.Conc.CompanyMem
namespace Go.Proofs.Ytgdobbcjkiapkaa
set_option maxRecDepth 100000
set_option maxHeartbeats 4000000
set_option linter.unusedSimpArgs false
set_option linter.unusedVariables false
section
open Go Go.Conc
open Go.RowKit
theorem Sl.AaQ {n:Nat}(x:Value) (hn:1≤n):Sl (⟨#[x]++Array.replicate (n-1) undef,[]⟩:Act) n [(0,x)]:=by
 refine⟨by simp;omega,rfl,fun t v h=>?_⟩;rw[List.lookup_cons]at h
 by_cases e:t=0
 ·subst e;simp at h;rw[h,Array.getElem?_append_left (by simp)];rfl
 ·have e2:(t == 0)=false:=by simpa using e
  rw[e2]at h;simp at h
def A7 (p:Int):Int:=(p+199) / 200
theorem TR:(fun r=>Try.f71.body=some (.seq (r 0) (.seq (r 1) .ret))) (Ac Try.f71):=by show _=_;kernel_rfl
theorem TQ:∃ m,∀ (N c:Nat) (w:World) (p:Int),0≤p→p≤1000000000000000→CallsC Try.prog false (Az Aw c N) (Be Aw c N) 71 #[.int .i64 p] m w (fun v w'=>v=.int .i64 (A7 p)∧Az Aw c N w w'):=by
 refine⟨12,fun N c w p h0 h1=>callsC_of_wpC Try.func71 (by kernel_rfl) TR ?_⟩;have Z:Sl (⟨#[.int .i64 p]++Array.replicate (Try.f71.ntmps-(#[.int .i64 p]:Array Value).size) undef,[]⟩:Act) 6 [(0,.int .i64 p)]:=by rw[Try.ntmps71];exact Sl.AaQ _ (by omega)
 revert Z;generalize (Act.mk _ _)=a;intro Z;have hw1:IntKind.i64.wrap (p+199)=p+199:=IntWalk.i64_in _ (by omega)
 have hw2:IntKind.i64.wrap ((p+199).tdiv 200)=A7 p:=by
  rw[Int.tdiv_eq_ediv_of_nonneg (by omega)];exact IntWalk.i64_in _ (by omega)
 refine wpC_seq (n₁:=3) (n₂:=8) Ah ?_;rw[show Ac Try.f71 0=Code.region 0 _ false from rfl];refine wpC_region Ah ?_;simp only[List.size_toArray,List.length_cons,List.length_nil,Nat.reduceAdd,Nat.zero_add,List.range,List.range.loop]
 co_apply Ai Ah (.int .i64 0) rfl (by rfl)
 ·exact fun _ _=>(by exact oq)
 refine Z.goC (by decide) ?_;clear Z;intro a Z;refine opsC_nil Ah ?_;refine wpC_seq (n₁:=6) (n₂:=1) Ah ?_;rw[show Ac Try.f71 1=Code.region 1 _ false from rfl];refine wpC_region Ah ?_;simp only[List.size_toArray,List.length_cons,List.length_nil,Nat.reduceAdd,Nat.zero_add,List.range,List.range.loop]
 co_apply Ai Ah (.int .i64 p) rfl (by rfl)
 ·exact fun _ _=>(by have e0:=Z.g 0;exact oq)
 refine Z.goC (by decide) ?_;clear Z;intro a Z
 co_apply Ai Ah (.int .i64 (p+199)) rfl (by rfl)
 ·exact fun _ _=>(by have e3:=Z.g 3;exact oq)
 refine Z.goC (by decide) ?_;clear Z;intro a Z
 co_apply Ai Ah (.int .i64 (A7 p)) rfl (by rfl)
 ·exact fun _ _=>(by have e4:=Z.g 4;exact oq)
 refine Z.goC (by decide) ?_;clear Z;intro a Z
 co_apply Ai Ah (.int .i64 (A7 p)) rfl (by rfl)
 ·exact fun _ _=>(by have e5:=Z.g 5;exact oq)
 refine Z.goC (by decide) ?_;clear Z;intro a Z;refine opsC_nil Ah ?_;refine wpC_ret Ah ?_
 try simp only[xt,↓reduceIte,Nat.reduceEqDiff]
 refine⟨Z.defers,.int .i64 (A7 p),?_,rfl,Az.refl _⟩;have h2:=Z.get 2 _ rfl;have:=resultsC_tmp (P:=Try.prog) Try.results71 a.tmps;rw[Array.getD_eq_getD_getElem?,h2]at this;exact this
def ofV (fr:Int) (half:Bool) (q rate:Int):Int:=if half then (if fr<q then q-fr else 0)*rate else (if fr<q then q-fr else 0)*rate*2
theorem Xo {P:Program}{main:Bool}{R:World→World→Prop}{D:World→World→Array Event→Prop}{fn:FuncId}{Q:Exit→Act→World→Prop}{a:Act}{w:World}{ops:Array Oper}{i:Nat}{rest:List Nat}{o:Oper}{n:Nat}(ho:ops[i]?=some o) (hg:o.guard=none)
  (h:∀ w₁,R w w₁→∃ v w',(execOp a.eval o).run P w₁=.ok (.value v) w'∧D w₁ w' (listed P fn a o w₁)∧OpsC P main R D fn ops rest n Q (a.put o.dst v) w'):OpsC P main R D fn ops (i::rest) (n+1) Q a w :=
 opsC_cons ho (by simp[Region.wanted,hg]) fun w₁ h₁=>by
  obtain⟨v,w',h2,h3,h4⟩:=h w₁ h₁;rw[h2];exact⟨h3,h4⟩
theorem Vq {P:Program}(ats:Array TypeId) (t:TypeId) (k k':IntKind) (x y:Int) (w:World) (es:Array Event):(Builtin.max_ ats t #[.int k x,.int k' y]).events P w es=es:=by
 simp[Builtin.max_,Builtin.max2]
theorem Jt (k:Nat) (h:k≤1000000):IntKind.i64.wrap ((k:Int)+1)=((k+1:Nat):Int):=by rw[IntWalk.i64_in _ (by omega)];simp
theorem Be.new {Safe:Obj→Prop}{c N:Nat}(w:World) (o:Obj):Be Safe c N w (w.alloc o) #[] :=
 ⟨rfl,rfl,rfl,by simp,fun b hb=>Below.heap_alloc _ _ _ hb,fun e he=>by simp at he⟩
theorem Zg:(fun r=>Try.f70.body=some (.seq (r 0) (.seq (r 1) (.seq (.seq (r 2) (.cond (.tmp 27) (r 3) .skip)) (.seq (r 4) .ret))))) (Ac Try.f70):=by show _=_;kernel_rfl
theorem Sl.XQ {n:Nat}(x y z u:Value) (hn:4≤n):Sl (⟨#[x,y,z,u]++Array.replicate (n-4) undef,[]⟩:Act) n [(0,x),(1,y),(2,z),(3,u)]:=by
 have hs:(⟨#[x,y,z,u]++Array.replicate (n-4) undef,[]⟩:Act).tmps.size=n:=by simp;omega
 exact(((Sl.nil ⟨hs,rfl,fun t v hv=>by simp at hv⟩ (m:=[])).cons (t:=3) (by rw[Array.getElem?_append_left (by simp)];rfl)).cons (t:=2) (by rw[Array.getElem?_append_left (by simp)];rfl) |>.cons (t:=1) (by rw[Array.getElem?_append_left (by simp)];rfl)).cons (t:=0) (by rw[Array.getElem?_append_left (by simp)];rfl)
theorem Acg:∃ m,∀ (B N c:Nat),B≤N→B≤c→∀ (w:World) (bd tb to_ tn tc i:Nat) (hd fr q rate:Int) (half:Bool),B≤w.heap.size→bd<B→tb<B→w.cell? ⟨bd,5,none⟩=some (.slice (some ⟨tb,to_,none⟩) tn tc)→w.cell? ⟨tb,to_+i*3+1,none⟩=some (.int .i64 rate)→i<tn→0≤fr→fr≤1000000→0≤q→q≤1000000→0≤rate→rate≤100000 →
  CallsC Try.prog false (Az Aw c N) (Be Aw c N) 70 #[.pointer (some ⟨bd,0,none⟩),.agg #[.int .i64 hd,.int .i64 fr,.bool half],.int .i64 (i:Int),.int .i64 q] m w (fun v w'=>v=.int .i64 (ofV fr half q rate)∧Az Aw c N w w'):=by
 refine⟨43,fun B N c hBN hBc w bd tb to_ tn tc i hd fr q rate half hBw hbd htb hsl0 hra hi hf0 hf1 hq0 hq1 hr0 hr1=>callsC_of_wpC Try.func70 (by kernel_rfl) Zg ?_⟩;have Z:Sl (⟨#[.pointer (some ⟨bd,0,none⟩),.agg #[.int .i64 hd,.int .i64 fr,.bool half],.int .i64 (i:Int),.int .i64 q]++Array.replicate (Try.f70.ntmps-(#[.pointer (some ⟨bd,0,none⟩),.agg #[.int .i64 hd,.int .i64 fr,.bool half],.int .i64 (i:Int),.int .i64 q]:Array Value).size) undef,[]⟩:Act) 31 [(0,.pointer (some ⟨bd,0,none⟩)),(1,.agg #[.int .i64 hd,.int .i64 fr,.bool half]),(2,.int .i64 (i:Int)),(3,.int .i64 q)]:=by rw[Try.ntmps70];exact Sl.XQ _ _ _ _ (by omega)
 revert Z;generalize (Act.mk _ _)=a;intro Z;obtain⟨w0,hw0⟩:∃ w0,w0=w:=⟨_,rfl⟩;refine wpC_seq (n₁:=4) (n₂:=38) Ah ?_;rw[show Ac Try.f70 0=Code.region 0 _ false from rfl];refine wpC_region Ah ?_;simp only[List.size_toArray,List.length_cons,List.length_nil,Nat.reduceAdd,Nat.zero_add,List.range,List.range.loop]
 co_apply Xo rfl (by rfl)
 refine fun w₁ hgr=>⟨.pointer (some ⟨w₁.heap.size,0,none⟩),w₁.alloc (.cells #[.int .i64 hd,.int .i64 fr,.bool half] 69),run_eq_of (fun Kk hKk=>?_),?_,?_⟩
 ·have e1:=Z.g 1;go_simp;exact hKk
 ·have e1:=Z.g 1;rw[listed_nil (by simp[go_sem, *])];exact Be.new _ _
 refine Z.goC (by decide) fun a' Z'=>?_
 have hrow:(w₁.alloc (.cells #[.int .i64 hd,.int .i64 fr,.bool half] 69)).heap[w₁.heap.size]?=some (.cells #[.int .i64 hd,.int .i64 fr,.bool half] 69 (0,0)):=by rw[Eg,if_pos rfl]
 have hrel:Az Aw c N w0 (w₁.alloc (.cells #[.int .i64 hd,.int .i64 fr,.bool half] 69)):=hw0 ▸ hgr.trans (Be.new (c:=c) (N:=N) w₁ _).rely;clear Z hgr;revert Z' hrow hrel;generalize w₁.alloc (.cells #[.int .i64 hd,.int .i64 fr,.bool half] 69)=w2;generalize w₁.heap.size=g;generalize a'=a;intro Z hrow hrel
 co_apply Ai Ah (.int .i64 0) rfl (by rfl)
 ·exact fun _ _=>(by exact oq)
 refine Z.goC (by decide) ?_;clear Z;intro a Z;refine opsC_nil Ah ?_
 try simp only[xt,↓reduceIte,Nat.reduceEqDiff]
 rw[← hw0]at hsl0 hra hBw;have hbl:Below B w0 w2:=hrel.below hBN hBw hBc;have c5:=(hbl.cell (p:=⟨bd,5,none⟩) hbd).trans hsl0;have cr:=(hbl.cell (p:=⟨tb,to_+i*3+1,none⟩) htb).trans hra;have hB2:=Nat.le_trans hBw hbl.size;clear hbl hsl0 hra hBw;have hm0:0≤(if fr<q then q-fr else 0):=by omega
 have hm1:(if fr<q then q-fr else 0)≤1000000:=by omega
 have hpr0:0≤(if fr<q then q-fr else 0)*rate:=Int.mul_nonneg hm0 hr0;have hpr1:(if fr<q then q-fr else 0)*rate≤1000000*100000:=Int.mul_le_mul hm1 hr1 hr0 (by omega);have hprod : -9223372036854775808≤(if fr<q then q-fr else 0)*rate∧(if fr<q then q-fr else 0)*rate≤9223372036854775807:=by omega
 have hprod2 : -9223372036854775808≤(if fr<q then q-fr else 0)*rate*2∧(if fr<q then q-fr else 0)*rate*2≤9223372036854775807:=by omega
 clear hpr0 hpr1 hm0 hm1;refine wpC_seq (n₁:=18) (n₂:=19) Ah ?_;rw[show Ac Try.f70 1=Code.region 1 _ true from rfl]
 refine Ig (B:=1) (by kernel_rfl) Ah KE ZG (m:=[(0,.pointer (some ⟨bd,0,none⟩)),(5,.pointer (some ⟨g,0,none⟩)),(2,.int .i64 (i:Int)),(3,.int .i64 q)]) Z.sb [some 10,some 11,some 12,some 13,some 14,some 15,some 16,some 17,some 18,some 19,some 20,some 21,some 22,some 23,some 24,some 9] rfl rfl (by kernel_rfl)
  (fun j x=>match j with|0=>x=.int .i64 q|1=>x=.pointer (some ⟨g,1,none⟩)|2=>x=.int .i64 fr|3=>x=.int .i64 (q-fr)|4=>x=.int .i64 ((if fr<q then q-fr else 0))|5=>x=.pointer (some ⟨bd,0,none⟩)|6=>x=.pointer (some ⟨bd,0,none⟩)|7=>x=.pointer (some ⟨bd,0,none⟩)|8=>x=.pointer (some ⟨bd,5,none⟩)|9=>x=.slice (some ⟨tb,to_,none⟩) tn tc|10=>x=.int .i64 (i:Int)|11=>x=.pointer (some ⟨tb,to_+i*3,none⟩)|12=>x=.pointer (some ⟨tb,to_+i*3+1,none⟩)|13=>x=.int .i64 rate|14=>x=.int .i64 ((if fr<q then q-fr else 0)*rate)|15=>x=.int .i64 ((if fr<q then q-fr else 0)*rate)|_=>True) ?_ ?_
 ·clear Z;intro k o hk ho' L a hLk Z hsd hd;have hlt:∀ k:Nat,k<16→k=0∨k=1∨k=2∨k=3∨k=4∨k=5∨k=6∨k=7∨k=8∨k=9∨k=10∨k=11∨k=12∨k=13∨k=14∨k=15:=by decide
  rcases hlt k hk with rfl|rfl|rfl|rfl|rfl|rfl|rfl|rfl|rfl|rfl|rfl|rfl|rfl|rfl|rfl|rfl
  ·obtain rfl:=Option.some.inj ho';have e3:=Z.g 3;clear hsd hd;refine(AC (.int .i64 q) rfl rfl (fun w₂ h₂=>?_) (fun w₂ h₂=>⟨h₂,_,rfl,rfl⟩)).more (by omega);exact oq
  ·obtain rfl:=Option.some.inj ho';have e5:=Z.g 5;clear hsd hd;refine(AC (.pointer (some ⟨g,1,none⟩)) rfl rfl (fun w₂ h₂=>?_) (fun w₂ h₂=>⟨h₂,_,rfl,rfl⟩)).more (by omega);exact oq
  ·obtain rfl:=Option.some.inj ho';obtain⟨_,e11,rfl⟩:=hsd 1 _ 11 rfl rfl (hd 1 wm);clear hsd hd;refine(AC (.int .i64 fr) rfl rfl (fun w₂ h₂=>?_) (fun w₂ h₂=>⟨h₂,_,rfl,rfl⟩)).more (by omega);have hrow2:=(h₂.block g (lt_of_some hrow) (.inr ⟨_,hrow,_,_,rfl⟩)).trans hrow;have hc:=Cf (o:=1) hrow2 rfl;have hrd:=BZ (Safe:=Aw) (c:=c) (N:=N) (w:=w₂) (b:=g) (o:=1) (Nat.lt_of_lt_of_le (lt_of_some hrow) h₂.size) (.inr ⟨_,hrow2,_,_,rfl⟩);clear hrow2;refine⟨run_eq_of (fun K hK=>?_),Be.still ?_⟩
   ·go_simp;exact hK
   ·co_evs (exact hrd)
  ·obtain rfl:=Option.some.inj ho';obtain⟨_,e10,rfl⟩:=hsd 0 _ 10 rfl rfl (hd 0 wm);obtain⟨_,e12,rfl⟩:=hsd 2 _ 12 rfl rfl (hd 2 wm);clear hsd hd;refine(AC (.int .i64 (q-fr)) rfl rfl (fun w₂ h₂=>?_) (fun w₂ h₂=>⟨h₂,_,rfl,rfl⟩)).more (by omega);have hw:=IntWalk.i64_in (q-fr) (by omega);exact oq
  ·obtain rfl:=Option.some.inj ho';obtain⟨_,e13,rfl⟩:=hsd 3 _ 13 rfl rfl (hd 3 wm);clear hsd hd;refine(AC (.int .i64 ((if fr<q then q-fr else 0))) rfl rfl (fun w₂ h₂=>?_) (fun w₂ h₂=>⟨h₂,_,rfl,rfl⟩)).more (by omega);have hev:=@Vq Try.prog;exact oq
  ·obtain rfl:=Option.some.inj ho';have e0:=Z.g 0;clear hsd hd;refine(AC (.pointer (some ⟨bd,0,none⟩)) rfl rfl (fun w₂ h₂=>?_) (fun w₂ h₂=>⟨h₂,_,rfl,rfl⟩)).more (by omega);exact oq
  ·obtain rfl:=Option.some.inj ho';obtain⟨_,e15,rfl⟩:=hsd 5 _ 15 rfl rfl (hd 5 wm);clear hsd hd;refine(AC (.pointer (some ⟨bd,0,none⟩)) rfl rfl (fun w₂ h₂=>?_) (fun w₂ h₂=>⟨h₂,_,rfl,rfl⟩)).more (by omega);exact oq
  ·obtain rfl:=Option.some.inj ho';obtain⟨_,e16,rfl⟩:=hsd 6 _ 16 rfl rfl (hd 6 wm);clear hsd hd;refine(AC (.pointer (some ⟨bd,0,none⟩)) rfl rfl (fun w₂ h₂=>?_) (fun w₂ h₂=>⟨h₂,_,rfl,rfl⟩)).more (by omega);exact oq
  ·obtain rfl:=Option.some.inj ho';obtain⟨_,e17,rfl⟩:=hsd 7 _ 17 rfl rfl (hd 7 wm);clear hsd hd;refine(AC (.pointer (some ⟨bd,5,none⟩)) rfl rfl (fun w₂ h₂=>?_) (fun w₂ h₂=>⟨h₂,_,rfl,rfl⟩)).more (by omega);exact oq
  ·obtain rfl:=Option.some.inj ho';obtain⟨_,e18,rfl⟩:=hsd 8 _ 18 rfl rfl (hd 8 wm);clear hsd hd;refine(AC (.slice (some ⟨tb,to_,none⟩) tn tc) rfl rfl (fun w₂ h₂=>?_) (fun w₂ h₂=>⟨h₂,_,rfl,rfl⟩)).more (by omega);have hbl2:Below B w2 w₂:=h₂.below hBN hB2 hBc;have hc:=(hbl2.cell (p:=⟨bd,5,none⟩) hbd).trans c5;have hrd:=BZ (Safe:=Aw) (c:=c) (N:=N) (w:=w₂) (b:=bd) (o:=5) (Nat.lt_of_lt_of_le (Nat.lt_of_lt_of_le hbd hB2) h₂.size) (.inl ⟨by omega,by omega⟩);clear hbl2;refine⟨run_eq_of (fun K hK=>?_),Be.still ?_⟩
   ·go_simp;exact hK
   ·co_evs (exact hrd)
  ·obtain rfl:=Option.some.inj ho';have e2:=Z.g 2;clear hsd hd;refine(AC (.int .i64 (i:Int)) rfl rfl (fun w₂ h₂=>?_) (fun w₂ h₂=>⟨h₂,_,rfl,rfl⟩)).more (by omega);exact oq
  ·obtain rfl:=Option.some.inj ho';obtain⟨_,e19,rfl⟩:=hsd 9 _ 19 rfl rfl (hd 9 wm);obtain⟨_,e20,rfl⟩:=hsd 10 _ 20 rfl rfl (hd 10 wm);clear hsd hd;refine(AC (.pointer (some ⟨tb,to_+i*3,none⟩)) rfl rfl (fun w₂ h₂=>?_) (fun w₂ h₂=>⟨h₂,_,rfl,rfl⟩)).more (by omega);have hi1:¬ (tn:Int)≤(i:Int):=by omega
   have hi2:¬ (i:Int)<0:=by omega
   exact oq
  ·obtain rfl:=Option.some.inj ho';obtain⟨_,e21,rfl⟩:=hsd 11 _ 21 rfl rfl (hd 11 wm);clear hsd hd;refine(AC (.pointer (some ⟨tb,to_+i*3+1,none⟩)) rfl rfl (fun w₂ h₂=>?_) (fun w₂ h₂=>⟨h₂,_,rfl,rfl⟩)).more (by omega);exact oq
  ·obtain rfl:=Option.some.inj ho';obtain⟨_,e22,rfl⟩:=hsd 12 _ 22 rfl rfl (hd 12 wm);clear hsd hd;refine(AC (.int .i64 rate) rfl rfl (fun w₂ h₂=>?_) (fun w₂ h₂=>⟨h₂,_,rfl,rfl⟩)).more (by omega);have hbl2:Below B w2 w₂:=h₂.below hBN hB2 hBc;have hc:=(hbl2.cell (p:=⟨tb,to_+i*3+1,none⟩) htb).trans cr;have hrd:=BZ (Safe:=Aw) (c:=c) (N:=N) (w:=w₂) (b:=tb) (o:=to_+i*3+1) (Nat.lt_of_lt_of_le (Nat.lt_of_lt_of_le htb hB2) h₂.size) (.inl ⟨by omega,by omega⟩);clear hbl2;refine⟨run_eq_of (fun K hK=>?_),Be.still ?_⟩
   ·go_simp;exact hK
   ·co_evs (exact hrd)
  ·obtain rfl:=Option.some.inj ho';obtain⟨_,e14,rfl⟩:=hsd 4 _ 14 rfl rfl (hd 4 wm);obtain⟨_,e23,rfl⟩:=hsd 13 _ 23 rfl rfl (hd 13 wm);clear hsd hd;refine(AC (.int .i64 ((if fr<q then q-fr else 0)*rate)) rfl rfl (fun w₂ h₂=>?_) (fun w₂ h₂=>⟨h₂,_,rfl,rfl⟩)).more (by omega);have hw:=IntWalk.i64_in ((if fr<q then q-fr else 0)*rate) hprod;exact oq
  ·obtain rfl:=Option.some.inj ho';obtain⟨_,e24,rfl⟩:=hsd 14 _ 24 rfl rfl (hd 14 wm);clear hsd hd;refine(AC (.int .i64 ((if fr<q then q-fr else 0)*rate)) rfl rfl (fun w₂ h₂=>?_) (fun w₂ h₂=>⟨h₂,_,rfl,rfl⟩)).more (by omega);exact oq
 ·intro a w' hr Z' hd';obtain⟨v9,e9,hv9⟩:=hd' 15 _ 9 rfl rfl;obtain rfl:=hv9;simp only[xt,↓reduceIte,Nat.reduceEqDiff];have hsl2:Sl a 31 [(9,.int .i64 ((if fr<q then q-fr else 0)*rate)),(5,.pointer (some ⟨g,0,none⟩))]:=((Z'.nil.cons (Z'.get 5 _ rfl)).cons e9);have hrow2:=(hr.block g (lt_of_some hrow) (.inr ⟨_,hrow,_,_,rfl⟩)).trans hrow;have hrel2:=hrel.trans hr;clear hr Z' hd' hrow hrel c5 cr hB2 Z e9;revert hsl2 hrow2 hrel2;generalize w'=w2;intro Z hrow hrel;refine wpC_seq (n₁:=12) (n₂:=6) Ah ?_;refine wpC_seq (n₁:=5) (n₂:=6) Ah ?_;rw[show Ac Try.f70 2=Code.region 2 _ false from rfl];refine wpC_region Ah ?_;simp only[List.size_toArray,List.length_cons,List.length_nil,Nat.reduceAdd,Nat.zero_add,List.range,List.range.loop]
  co_apply Ai Ah (.pointer (some ⟨g,2,none⟩)) rfl (by rfl)
  ·exact fun _ _=>(by have e5:=Z.g 5;exact oq)
  refine Z.goC (by decide) ?_;clear Z;intro a Z
  co_apply Ai Ah (.bool half) rfl (by rfl)
  ·
   intro w₂ h₂;have e25:=Z.g 25;have hrow2:=(h₂.block g (lt_of_some hrow) (.inr ⟨_,hrow,_,_,rfl⟩)).trans hrow;have hc:=Cf (o:=2) hrow2 rfl;have hrd:=BZ (Safe:=Aw) (c:=c) (N:=N) (w:=w₂) (b:=g) (o:=2) (Nat.lt_of_lt_of_le (lt_of_some hrow) h₂.size) (.inr ⟨_,hrow2,_,_,rfl⟩);clear hrow2;refine⟨run_eq_of (fun Kk hKk=>?_),Be.still ?_⟩
   ·go_simp;exact hKk
   ·co_evs (exact hrd)
  refine Z.goC (by decide) fun a' Z'=>?_
  clear Z;revert Z';generalize a'=a;intro Z
  co_apply Ai Ah (.bool (!half)) rfl (by rfl)
  ·exact fun _ _=>(by have e26:=Z.g 26;exact oq)
  refine Z.goC (by decide) ?_;clear Z;intro a Z;refine opsC_nil Ah ?_;have e27:=Z.ev 27 rfl
  cases half with
  | true =>
   refine wpC_more (wpC_cond Ah e27 (n:=1) (wpC_skip Ah ?_)) (by omega);simp only[xt,↓reduceIte,Nat.reduceEqDiff];clear e27;refine wpC_seq (n₁:=4) (n₂:=1) Ah ?_;rw[show Ac Try.f70 4=Code.region 4 _ false from rfl];refine wpC_region Ah ?_;simp only[List.size_toArray,List.length_cons,List.length_nil,Nat.reduceAdd,Nat.zero_add,List.range,List.range.loop]
   co_apply Ai Ah (.int .i64 ((if fr<q then q-fr else 0)*rate)) rfl (by rfl)
   ·exact fun _ _=>(by have e9:=Z.g 9;exact oq)
   refine Z.goC (by decide) ?_;clear Z;intro a Z
   co_apply Ai Ah (.int .i64 ((if fr<q then q-fr else 0)*rate)) rfl (by rfl)
   ·exact fun _ _=>(by have e30:=Z.g 30;exact oq)
   refine Z.goC (by decide) ?_;clear Z;intro a Z;refine opsC_nil Ah ?_;refine wpC_ret Ah ?_
   try simp only[xt,↓reduceIte,Nat.reduceEqDiff]
   refine⟨Z.defers,.int .i64 ((if fr<q then q-fr else 0)*rate),?_,by simp[ofV],hw0 ▸ hrel⟩;have h8:=Z.get 8 _ rfl;have:=resultsC_tmp (P:=Try.prog) Try.results70 a.tmps;rw[Array.getD_eq_getD_getElem?,h8]at this;exact this
  | false =>
   refine wpC_cond Ah e27 (n:=5) ?_;simp only[Bool.not_false,↓reduceIte];clear e27;rw[show Ac Try.f70 3=Code.region 3 _ false from rfl];refine wpC_region Ah ?_;simp only[List.size_toArray,List.length_cons,List.length_nil,Nat.reduceAdd,Nat.zero_add,List.range,List.range.loop]
   co_apply Ai Ah (.int .i64 ((if fr<q then q-fr else 0)*rate)) rfl (by rfl)
   ·exact fun _ _=>(by have e9:=Z.g 9;exact oq)
   refine Z.goC (by decide) ?_;clear Z;intro a Z
   co_apply Ai Ah (.int .i64 ((if fr<q then q-fr else 0)*rate*2)) rfl (by rfl)
   ·
    refine fun w₁ hgr=>⟨run_eq_of (fun Kk hKk=>?_),?_⟩
    ·
     have e28:=Z.g 28;have hw:=IntWalk.i64_in ((if fr<q then q-fr else 0)*rate*2) hprod2;go_simp;exact hKk
    ·
     have e28:=Z.g 28;have hw:=IntWalk.i64_in ((if fr<q then q-fr else 0)*rate*2) hprod2;rw[listed_nil (by simp[go_sem, *])];exact Be.idle _
   refine Z.goC (by decide) fun a' Z'=>?_
   clear Z;revert Z';generalize a'=a;intro Z
   co_apply Ai Ah (.int .i64 ((if fr<q then q-fr else 0)*rate*2)) rfl (by rfl)
   ·exact fun _ _=>(by have e29:=Z.g 29;exact oq)
   refine Z.goC (by decide) ?_;clear Z;intro a Z;refine opsC_nil Ah ?_;refine wpC_seq (n₁:=4) (n₂:=1) Ah ?_;rw[show Ac Try.f70 4=Code.region 4 _ false from rfl];refine wpC_region Ah ?_;simp only[List.size_toArray,List.length_cons,List.length_nil,Nat.reduceAdd,Nat.zero_add,List.range,List.range.loop]
   co_apply Ai Ah (.int .i64 ((if fr<q then q-fr else 0)*rate*2)) rfl (by rfl)
   ·exact fun _ _=>(by have e9:=Z.g 9;exact oq)
   refine Z.goC (by decide) ?_;clear Z;intro a Z
   co_apply Ai Ah (.int .i64 ((if fr<q then q-fr else 0)*rate*2)) rfl (by rfl)
   ·exact fun _ _=>(by have e30:=Z.g 30;exact oq)
   refine Z.goC (by decide) ?_;clear Z;intro a Z;refine opsC_nil Ah ?_;refine wpC_ret Ah ?_
   try simp only[xt,↓reduceIte,Nat.reduceEqDiff]
   refine⟨Z.defers,.int .i64 ((if fr<q then q-fr else 0)*rate*2),?_,by simp[ofV],hw0 ▸ hrel⟩;have h8:=Z.get 8 _ rfl;have:=resultsC_tmp (P:=Try.prog) Try.results70 a.tmps;rw[Array.getD_eq_getD_getElem?,h8]at this;exact this
theorem WF:(fun r=>Try.f67.body=some (.seq (r 0) (.seq (r 1) (.seq (.seq (r 2) (.block 0 (.loop (.seq (r 3) (.seq (.cond (.tmp 16) .skip (.exit 0)) (.seq (.block 1 (.seq (r 4) (r 5))) (r 6))))))) (.seq (r 7) .ret))))) (Ac Try.f67):=by show _=_;kernel_rfl
theorem Sl.NK {n:Nat}(x y z:Value) (hn:3≤n):Sl (⟨#[x,y,z]++Array.replicate (n-3) undef,[]⟩:Act) n [(0,x),(1,y),(2,z)]:=by
 have hs:(⟨#[x,y,z]++Array.replicate (n-3) undef,[]⟩:Act).tmps.size=n:=by simp;omega
 exact(((Sl.nil ⟨hs,rfl,fun t v hv=>by simp at hv⟩ (m:=[])).cons (t:=2) (by rw[Array.getElem?_append_left (by simp)];rfl)).cons (t:=1) (by rw[Array.getElem?_append_left (by simp)];rfl) |>.cons (t:=0) (by rw[Array.getElem?_append_left (by simp)];rfl))
theorem UB {w:World}{fn:FuncId}{x y:Value}{fc:FuncId}{F:Func}{first cap:Array Value}(a:Act) (hF:Try.prog.funcs[fc]?=some F) (hname:(F.name == "runtime.NumGoroutine")=false) (hbody:F.body.isNone=false)
  {s t u:Nat}(E5:a.eval (.tmp s)=.func (.func fc) first cap) (E6:a.eval (.tmp t)=x) (E7:a.eval (.tmp u)=y) (o:Oper) {ats:Array TypeId}(hop:o.op=.call { callee:=.value (.tmp s),args:=#[.tmp t,.tmp u],argTypes:=ats }) :
  (execOp a.eval o).run Try.prog w=.ok (.enter fc (first++#[x,y]++cap)) w∧listed Try.prog fn a o w = #[]:=by
 have h:=Kq (P:=Try.prog) (w:=w) hop E5 hF hname hbody;refine⟨?_,listed_nil (MK (P:=Try.prog) hop E5 hF hname hbody #[])⟩;rw[h,List.map_toArray,List.map_cons,List.map_cons,List.map_nil,E6,E7]
theorem YE {c N ma n:Nat}{fn:FuncId}{Q:Exit→Act→World→Prop}{a:Act}{w:World}{x y:Value}{fc:FuncId}{F:Func}{first cap:Array Value}{z:Int}(hF:Try.prog.funcs[fc]?=some F) (hname:(F.name == "runtime.NumGoroutine")=false) (hbody:F.body.isNone=false)
  (hcall:CallsC Try.prog false (Az Aw c N) (Be Aw c N) fc (first++#[x,y]++cap) ma w (fun v w'=>v=.int .i64 z∧Az Aw c N w w')) (ops:Array Oper) (i:Nat) (rest:List Nat) (o:Oper) (ho:ops[i]?=some o) (hg:o.guard=none)
  {s t u:Nat}{ats:Array TypeId}(hop:o.op=.call { callee:=.value (.tmp s),args:=#[.tmp t,.tmp u],argTypes:=ats }) (E5:a.eval (.tmp s)=.func (.func fc) first cap) (E6:a.eval (.tmp t)=x) (E7:a.eval (.tmp u)=y)
  (hn:∀ w',Az Aw c N w w'→OpsC Try.prog false (Az Aw c N) (Be Aw c N) fn ops rest n Q (a.put o.dst (.int .i64 z)) w'):OpsC Try.prog false (Az Aw c N) (Be Aw c N) fn ops (i::rest) (n+ma+3) Q a w :=
 Vk Ah ho hg (fun w=>UB a hF hname hbody E5 E6 E7 o hop) hcall fun v w' hv=>by rw[hv.1];exact hn w' hv.2
theorem Aa8 (NT ma:Nat) (hNT:NT≤1000):∃ m,∀ (B N c:Nat),B≤N→B≤c→∀ (w:World) (bd tn tc:Nat) (ta:Option Addr) (o:Int) (fc:FuncId) (Fc:Func) (first cap:Array Value) (f S:Nat→Int),B≤w.heap.size→bd<B→w.cell? ⟨bd,5,none⟩=some (.slice ta tn tc)→tn≤NT →
  Try.prog.funcs[fc]?=some Fc→(Fc.name == "runtime.NumGoroutine")=false→Fc.body.isNone=false→S 0=0→(∀ k,S (k+1)=S k+f k)→(∀ k,k≤tn→0≤S k∧S k≤1000000000000000) →
  (∀ w₁ j,Az Aw c N w w₁→j<tn→CallsC Try.prog false (Az Aw c N) (Be Aw c N) fc (first++#[.int .i64 o,.int .i64 (j:Int)]++cap) ma w₁ (fun v w'=>v=.int .i64 (f j)∧Az Aw c N w₁ w')) →
  CallsC Try.prog false (Az Aw c N) (Be Aw c N) 67 #[.pointer (some ⟨bd,0,none⟩),.int .i64 o,.func (.func fc) first cap] m w (fun v w'=>v=.int .i64 (S tn)∧Az Aw c N w w'):=by
 refine⟨(3+(3+((9+(((NT+1)*((3+(2+((4+(3+ma+3+1+1+1+1+1)+1+2)+4+1)+1)+1)+1)+1)+2)+1)+6+1)+1)+1),fun B N c hBN hBc w bd tn tc ta o fc Fc first cap f S hBw hbd h5 htn hF hname hbody hS0 hS1 hSb hcall=>callsC_of_wpC Try.func67 (by kernel_rfl) WF ?_⟩;have Z:Sl (⟨#[.pointer (some ⟨bd,0,none⟩),.int .i64 o,.func (.func fc) first cap]++Array.replicate (Try.f67.ntmps-(#[.pointer (some ⟨bd,0,none⟩),.int .i64 o,.func (.func fc) first cap]:Array Value).size) undef,[]⟩:Act) 26 [(0,.pointer (some ⟨bd,0,none⟩)),(1,.int .i64 o),(2,.func (.func fc) first cap)]:=by rw[Try.ntmps67];exact Sl.NK _ _ _ (by omega)
 revert Z;generalize (Act.mk _ _)=a;intro Z;refine wpC_seq (n₁:=3) (n₂:=3+((9+(((NT+1)*((3+(2+((4+(3+ma+3+1+1+1+1+1)+1+2)+4+1)+1)+1)+1)+1)+2)+1)+6+1)+1) Ah ?_;rw[show Ac Try.f67 0=Code.region 0 _ false from rfl];refine wpC_region Ah ?_;simp only[List.size_toArray,List.length_cons,List.length_nil,Nat.reduceAdd,Nat.zero_add,List.range,List.range.loop]
 co_apply Ai Ah (.int .i64 0) rfl (by rfl)
 ·exact fun _ _=>(by exact oq)
 refine Z.goC (by decide) ?_;clear Z;intro a Z;refine opsC_nil Ah ?_;refine wpC_seq (n₁:=3) (n₂:=((9+(((NT+1)*((3+(2+((4+(3+ma+3+1+1+1+1+1)+1+2)+4+1)+1)+1)+1)+1)+2)+1)+6+1)) Ah ?_;rw[show Ac Try.f67 1=Code.region 1 _ false from rfl];refine wpC_region Ah ?_;simp only[List.size_toArray,List.length_cons,List.length_nil,Nat.reduceAdd,Nat.zero_add,List.range,List.range.loop]
 co_apply Ai Ah (.int .i64 0) rfl (by rfl)
 ·exact fun _ _=>(by exact oq)
 refine Z.goC (by decide) ?_;clear Z;intro a Z;refine opsC_nil Ah ?_;refine wpC_seq (n₁:=9+(((NT+1)*((3+(2+((4+(3+ma+3+1+1+1+1+1)+1+2)+4+1)+1)+1)+1)+1)+2)+1) (n₂:=6) Ah ?_;refine wpC_seq (n₁:=9) (n₂:=((NT+1)*((3+(2+((4+(3+ma+3+1+1+1+1+1)+1+2)+4+1)+1)+1)+1)+1)+2) Ah ?_;rw[show Ac Try.f67 2=Code.region 2 _ false from rfl];refine wpC_region Ah ?_;simp only[List.size_toArray,List.length_cons,List.length_nil,Nat.reduceAdd,Nat.zero_add,List.range,List.range.loop]
 co_apply Ai Ah (.pointer (some ⟨bd,0,none⟩)) rfl (by rfl)
 ·exact fun _ _=>(by have e0:=Z.g 0;exact oq)
 refine Z.goC (by decide) ?_;clear Z;intro a Z
 co_apply Ai Ah (.pointer (some ⟨bd,0,none⟩)) rfl (by rfl)
 ·exact fun _ _=>(by have e9:=Z.g 9;exact oq)
 refine Z.goC (by decide) ?_;clear Z;intro a Z
 co_apply Ai Ah (.pointer (some ⟨bd,0,none⟩)) rfl (by rfl)
 ·exact fun _ _=>(by have e10:=Z.g 10;exact oq)
 refine Z.goC (by decide) ?_;clear Z;intro a Z
 co_apply Ai Ah (.pointer (some ⟨bd,5,none⟩)) rfl (by rfl)
 ·exact fun _ _=>(by have e11:=Z.g 11;exact oq)
 refine Z.goC (by decide) ?_;clear Z;intro a Z
 co_apply Ai Ah (.slice ta tn tc) rfl (by rfl)
 ·
  intro w₂ h₂;have e12:=Z.g 12;have hbl2:Below B w w₂:=h₂.below hBN hBw hBc;have hc:=(hbl2.cell (p:=⟨bd,5,none⟩) hbd).trans h5;have hrd:=BZ (Safe:=Aw) (c:=c) (N:=N) (w:=w₂) (b:=bd) (o:=5) (Nat.lt_of_lt_of_le (Nat.lt_of_lt_of_le hbd hBw) h₂.size) (.inl ⟨by omega,by omega⟩);clear hbl2;refine⟨run_eq_of (fun Kk hKk=>?_),Be.still ?_⟩
  ·go_simp;exact hKk
  ·co_evs (exact hrd)
 refine Z.goC (by decide) fun a' Z'=>?_
 clear Z;revert Z';generalize a'=a;intro Z
 co_apply Ai Ah (.int .i64 (tn:Int)) rfl (by rfl)
 ·exact fun _ _=>(by have e13:=Z.g 13;exact oq)
 refine Z.goC (by decide) ?_;clear Z;intro a Z
 co_apply Ai Ah (.int .i64 0) rfl (by rfl)
 ·exact fun _ _=>(by exact oq)
 refine Z.goC (by decide) ?_;clear Z;intro a Z;refine opsC_nil Ah ?_;replace Z:Sl a 26 [(15,.int .i64 ((0:Nat):Int)),(14,.int .i64 (tn:Int)),(7,.int .i64 (S 0)),(2,.func (.func fc) first cap),(1,.int .i64 o)]:=by rw[hS0];exact Z.sb
 refine wpC_block Ah ?_;refine wpC_loop Ah (fun a w'=>∃ k:Nat,k≤tn∧Sl a 26 [(15,.int .i64 (k:Int)),(14,.int .i64 (tn:Int)),(7,.int .i64 (S k)),(2,.func (.func fc) first cap),(1,.int .i64 o)]∧Az Aw c N w w') (fun a _=>tn-(intOf (a.eval (.tmp 15))).toNat) (3+(2+((4+(3+ma+3+1+1+1+1+1)+1+2)+4+1)+1)+1) NT ⟨0,by omega,Z,Az.refl _⟩ (by omega) ?_;clear Z;rintro a w' ⟨k,hk,Z,hrel⟩;have hmu:tn-(intOf (a.eval (.tmp 15))).toNat=tn-k:=by rw[Z.ev 15 rfl];simp[intOf]
 rw[hmu];clear hmu;refine wpC_seq (n₁:=3) (n₂:=2+((4+(3+ma+3+1+1+1+1+1)+1+2)+4+1)+1) Ah ?_;rw[show Ac Try.f67 3=Code.region 3 _ false from rfl];refine wpC_region Ah ?_;simp only[List.size_toArray,List.length_cons,List.length_nil,Nat.reduceAdd,Nat.zero_add,List.range,List.range.loop]
 co_apply Ai Ah (.bool (decide (k<tn))) rfl (by rfl)
 ·
  refine fun w₁ hgr=>⟨run_eq_of (fun Kk hKk=>?_),?_⟩
  ·
   have e15:=Z.g 15;have e14:=Z.g 14;have hdec:decide ((k:Int)<(tn:Int))=decide (k<tn):=by simp
   go_simp;exact hKk
  ·
   have e15:=Z.g 15;have e14:=Z.g 14;have hdec:decide ((k:Int)<(tn:Int))=decide (k<tn):=by simp
   rw[listed_nil (by simp[go_sem, *])];exact Be.idle _
 refine Z.goC (by decide) fun a' Z'=>?_
 clear Z;revert Z';generalize a'=a;intro Z;refine opsC_nil Ah ?_;refine wpC_seq (n₁:=2) (n₂:=((4+(3+ma+3+1+1+1+1+1)+1+2)+4+1)) Ah ?_
 by_cases hkn:k<tn
 rotate_left
 ·have e16:=Z.ev 16 rfl;rw[decide_eq_false hkn]at e16;refine wpC_cond Ah e16 (n:=1) (wpC_exit Ah ?_);simp only[xt,↓reduceIte,Nat.reduceEqDiff];obtain rfl:k=tn:=by omega
  refine wpC_seq (n₁:=4) (n₂:=1) Ah ?_;rw[show Ac Try.f67 7=Code.region 7 _ false from rfl];refine wpC_region Ah ?_;simp only[List.size_toArray,List.length_cons,List.length_nil,Nat.reduceAdd,Nat.zero_add,List.range,List.range.loop]
  co_apply Ai Ah (.int .i64 (S k)) rfl (by rfl)
  ·exact fun _ _=>(by have e7:=Z.g 7;exact oq)
  refine Z.goC (by decide) ?_;clear Z;intro a Z
  co_apply Ai Ah (.int .i64 (S k)) rfl (by rfl)
  ·exact fun _ _=>(by have e25:=Z.g 25;exact oq)
  refine Z.goC (by decide) ?_;clear Z;intro a Z;refine opsC_nil Ah ?_;refine wpC_ret Ah ?_
  try simp only[xt,↓reduceIte,Nat.reduceEqDiff]
  refine⟨Z.defers,.int .i64 (S k),?_,rfl,hrel⟩;have h6:=Z.get 6 _ rfl;have:=resultsC_tmp (P:=Try.prog) Try.results67 a.tmps;rw[Array.getD_eq_getD_getElem?,h6]at this;exact this
 have e16:=Z.ev 16 rfl;rw[decide_eq_true hkn]at e16;refine wpC_cond Ah e16 (n:=1) (wpC_skip Ah ?_);simp only[xt,↓reduceIte,Nat.reduceEqDiff];clear e16;replace Z:Sl a 26 [(15,.int .i64 (k:Int)),(14,.int .i64 (tn:Int)),(7,.int .i64 (S k)),(2,.func (.func fc) first cap),(1,.int .i64 o)]:=Z.sb;refine wpC_seq (n₁:=4+(3+ma+3+1+1+1+1+1)+1+2) (n₂:=4) Ah ?_;refine wpC_block Ah ?_;refine wpC_seq (n₁:=4) (n₂:=(3+ma+3+1+1+1+1+1)) Ah ?_;rw[show Ac Try.f67 4=Code.region 4 _ false from rfl];refine wpC_region Ah ?_;simp only[List.size_toArray,List.length_cons,List.length_nil,Nat.reduceAdd,Nat.zero_add,List.range,List.range.loop]
 co_apply Ai Ah (.int .i64 (k:Int)) rfl (by rfl)
 ·exact fun _ _=>(by have e15:=Z.g 15;exact oq)
 refine Z.goC (by decide) ?_;clear Z;intro a Z
 co_apply Ai Ah (.int .i64 (k:Int)) rfl (by rfl)
 ·exact fun _ _=>(by have e17:=Z.g 17;exact oq)
 refine Z.goC (by decide) ?_;clear Z;intro a Z;refine opsC_nil Ah ?_
 try simp only[xt,↓reduceIte,Nat.reduceEqDiff]
 rw[show Ac Try.f67 5=Code.region 5 _ false from rfl];refine wpC_region Ah ?_;simp only[List.size_toArray,List.length_cons,List.length_nil,Nat.reduceAdd,Nat.zero_add,List.range,List.range.loop]
 co_apply Ai Ah (.int .i64 (S k)) rfl (by rfl)
 ·exact fun _ _=>(by have e7:=Z.g 7;exact oq)
 refine Z.goC (by decide) ?_;clear Z;intro a Z
 co_apply Ai Ah (.func (.func fc) first cap) rfl (by rfl)
 ·exact fun _ _=>(by have e2:=Z.g 2;exact oq)
 refine Z.goC (by decide) ?_;clear Z;intro a Z
 co_apply Ai Ah (.int .i64 o) rfl (by rfl)
 ·exact fun _ _=>(by have e1:=Z.g 1;exact oq)
 refine Z.goC (by decide) ?_;clear Z;intro a Z
 co_apply Ai Ah (.int .i64 (k:Int)) rfl (by rfl)
 ·exact fun _ _=>(by have e8:=Z.g 8;exact oq)
 refine Z.goC (by decide) ?_;clear Z;intro a Z;refine YE (n:=3) (ma:=ma) (x:=.int .i64 o) (y:=.int .i64 (k:Int)) (z:=f k) hF hname hbody (hcall w' k hrel hkn) _ _ _ _ rfl rfl rfl (Z.ev 19 rfl) (Z.ev 20 rfl) (Z.ev 21 rfl) fun w2 hr2=>?_
 have hrel2:=hrel.trans hr2;clear hr2 hrel;revert hrel2;generalize w2=w';intro hrel;refine Z.goC (by decide) fun a' Z'=>?_
 clear Z;revert Z';generalize a'=a;intro Z;have hb1:=hSb (k+1) (by omega);rw[hS1]at hb1
 co_apply Ai Ah (.int .i64 (S k+f k)) rfl (by rfl)
 ·
  refine fun w₁ hgr=>⟨run_eq_of (fun Kk hKk=>?_),?_⟩
  ·
   have e18:=Z.g 18;have e22:=Z.g 22;have hw:=IntWalk.i64_in (S k+f k) (by omega);go_simp;exact hKk
  ·
   have e18:=Z.g 18;have e22:=Z.g 22;have hw:=IntWalk.i64_in (S k+f k) (by omega);rw[listed_nil (by simp[go_sem, *])];exact Be.idle _
 refine Z.goC (by decide) fun a' Z'=>?_
 clear Z;revert Z';generalize a'=a;intro Z
 co_apply Ai Ah (.int .i64 (S k+f k)) rfl (by rfl)
 ·exact fun _ _=>(by have e23:=Z.g 23;exact oq)
 refine Z.goC (by decide) ?_;clear Z;intro a Z;refine opsC_nil Ah ?_
 try simp only[xt,↓reduceIte,Nat.reduceEqDiff]
 rw[show Ac Try.f67 6=Code.region 6 _ false from rfl];refine wpC_region Ah ?_;simp only[List.size_toArray,List.length_cons,List.length_nil,Nat.reduceAdd,Nat.zero_add,List.range,List.range.loop]
 co_apply Ai Ah (.int .i64 ((k+1:Nat):Int)) rfl (by rfl)
 ·
  refine fun w₁ hgr=>⟨run_eq_of (fun Kk hKk=>?_),?_⟩
  ·
   have e15:=Z.g 15;have hadd:=Jt k (by omega);go_simp;exact hKk
  ·
   have e15:=Z.g 15;have hadd:=Jt k (by omega);rw[listed_nil (by simp[go_sem, *])];exact Be.idle _
 refine Z.goC (by decide) fun a' Z'=>?_
 clear Z;revert Z';generalize a'=a;intro Z
 co_apply Ai Ah (.int .i64 ((k+1:Nat):Int)) rfl (by rfl)
 ·exact fun _ _=>(by have e24:=Z.g 24;exact oq)
 refine Z.goC (by decide) ?_;clear Z;intro a Z;refine opsC_nil Ah ?_
 try simp only[xt,↓reduceIte,Nat.reduceEqDiff]
 rw[← hS1]at Z;refine⟨⟨k+1,by omega,Z.sb,hrel⟩,?_⟩;rw[Z.ev 15 rfl];simp[intOf]
 omega
theorem ZV:(fun r=>Try.f80.body=some (.seq (r 0) (.seq (r 1) .ret))) (Ac Try.f80):=by show _=_;kernel_rfl
theorem XL {c N mo i:Nat}{fn f:FuncId}{a:Act}{w:World}{x y z u:Value}{r:Int}(ops:Array Oper) (o:Oper) (ho:ops[i]?=some o) (hg:o.guard=none) {s1 s2 s3 s4:Nat}{ats:Array TypeId}
  (hop:o.op=.call { callee:=.value (.func f),args:=#[.tmp s1,.tmp s2,.tmp s3,.tmp s4],argTypes:=ats }) (E1:a.eval (.tmp s1)=x) (E2:a.eval (.tmp s2)=y) (E3:a.eval (.tmp s3)=z) (E4:a.eval (.tmp s4)=u)
  (hc:CallsC Try.prog false (Az Aw c N) (Be Aw c N) f #[x,y,z,u] mo w (fun v w'=>v=.int .i64 r∧Az Aw c N w w')) :
  OpN Try.prog false (Az Aw c N) (Be Aw c N) fn ops i (mo+3) (fun a' w'=>Az Aw c N w w'∧∃ v,a'=a.put o.dst v∧v=.int .i64 r) a w:=by
 refine Uo Ah ho hg hop (Post:=fun v w'=>v=.int .i64 r∧Az Aw c N w w') ?_ (fun v w' hv=>⟨hv.2,v,rfl,hv.1⟩);rw[List.map_toArray,List.map_cons,List.map_cons,List.map_cons,List.map_cons,List.map_nil,E1,E2,E3,E4];exact hc
theorem Ach:∃ m,∀ (B N c:Nat),B≤N→B≤c→∀ (w:World) (bd pb po pn pc tb to_ tn tc mb clock i o:Nat) (ents:Array MapEntry) (l:List ((Int×Int)×Int)) (hd fr rate:Int) (half:Bool),B≤w.heap.size→bd<B→pb<B→tb<B→mb<B →
  w.cell? ⟨bd,4,none⟩=some (.slice (some ⟨pb,po,none⟩) pn pc)→w.cell? ⟨bd,5,none⟩=some (.slice (some ⟨tb,to_,none⟩) tn tc)→w.cell? ⟨bd,6,none⟩=some (.map (some mb))→w.cell? ⟨pb,po+o*3,none⟩=some (.int .i64 hd)→w.cell? ⟨pb,po+o*3+1,none⟩=some (.int .i64 fr)→w.cell? ⟨pb,po+o*3+2,none⟩=some (.bool half) →
  w.cell? ⟨tb,to_+i*3+1,none⟩=some (.int .i64 rate)→w.heap[mb]?=some (.map ents clock)→FU ents.toList l→i<tn→o<pn→0≤fr→fr≤1000000→0≤(atK l (i,o)).getD 0→(atK l (i,o)).getD 0≤1000000→0≤rate→rate≤100000 →
  CallsC Try.prog false (Az Aw c N) (Be Aw c N) 80 #[.pointer (some ⟨bd,0,none⟩),.int .i64 (o:Int),.int .i64 (i:Int)] m w (fun v w'=>v=.int .i64 (ofV fr half ((atK l (i,o)).getD 0) rate)∧Az Aw c N w w'):=by
 obtain⟨mo,hof⟩:=Acg;refine⟨3+(20*(mo+3)+2+1+1)+1,fun B N c hBN hBc w bd pb po pn pc tb to_ tn tc mb clock i o ents l hd fr rate half hBw hbd hpb htb hmb h4 h5 h6 p0 p1 p2 hra hmap hents hi ho' hf0 hf1 hq0 hq1 hr0 hr1=>callsC_of_wpC Try.func80 (by kernel_rfl) ZV ?_⟩;have Z:Sl (⟨#[.pointer (some ⟨bd,0,none⟩),.int .i64 (o:Int),.int .i64 (i:Int)]++Array.replicate (Try.f80.ntmps-(#[.pointer (some ⟨bd,0,none⟩),.int .i64 (o:Int),.int .i64 (i:Int)]:Array Value).size) undef,[]⟩:Act) 26 [(0,.pointer (some ⟨bd,0,none⟩)),(1,.int .i64 (o:Int)),(2,.int .i64 (i:Int))]:=by rw[Try.ntmps80];exact Sl.NK _ _ _ (by omega)
 revert Z;generalize (Act.mk _ _)=a;intro Z;have hcall:=hof B N c hBN hBc w bd tb to_ tn tc i hd fr ((atK l (i,o)).getD 0) rate half hBw hbd htb h5 hra hi hf0 hf1 hq0 hq1 hr0 hr1;have hlook:=fun (w:World) (hm:w.heap[mb]?=some (.map ents clock))=>(FH w mb clock ents l #[] (i,o) hm hents).1
 have hlev:=fun (w:World) (hm:w.heap[mb]?=some (.map ents clock)) (es:Array Event)=>(FH w mb clock ents l es (i,o) hm hents).2
 unfold gk at hlook hlev
 dsimp only at hlook hlev
 clear hof h5 hra hq0 hq1 hr0 hr1 hf0 hf1 hi;generalize (atK l (i,o)).getD 0=q at hcall hlook ⊢;refine wpC_seq (n₁:=3) (n₂:=20*(mo+3)+2+1+1) Ah ?_;rw[show Ac Try.f80 0=Code.region 0 _ false from rfl];refine wpC_region Ah ?_;simp only[List.size_toArray,List.length_cons,List.length_nil,Nat.reduceAdd,Nat.zero_add,List.range,List.range.loop]
 co_apply Ai Ah (.int .i64 0) rfl (by rfl)
 ·exact fun _ _=>(by exact oq)
 refine Z.goC (by decide) ?_;clear Z;intro a Z;refine opsC_nil Ah ?_;refine wpC_seq (n₁:=20*(mo+3)+2) (n₂:=1) Ah ?_;rw[show Ac Try.f80 1=Code.region 1 _ true from rfl]
 refine Ig (B:=mo+3) (by kernel_rfl) Ah KE ZG (m:=[(0,.pointer (some ⟨bd,0,none⟩)),(1,.int .i64 (o:Int)),(2,.int .i64 (i:Int))]) Z.sb [some 7,some 8,some 9,some 10,some 11,some 12,some 13,some 14,some 15,some 16,some 17,some 18,some 19,some 20,some 21,some 22,some 23,some 24,some 25,some 6] rfl rfl (by kernel_rfl)
  (fun j x=>match j with|0=>x=.pointer (some ⟨bd,0,none⟩)|1=>x=.pointer (some ⟨bd,0,none⟩)|2=>x=.pointer (some ⟨bd,0,none⟩)|3=>x=.pointer (some ⟨bd,0,none⟩)|4=>x=.pointer (some ⟨bd,4,none⟩)|5=>x=.slice (some ⟨pb,po,none⟩) pn pc|6=>x=.int .i64 (o:Int)|7=>x=.pointer (some ⟨pb,po+o*3,none⟩)|8=>x=.agg #[.int .i64 hd,.int .i64 fr,.bool half]|9=>x=.int .i64 (i:Int)|10=>x=.pointer (some ⟨bd,0,none⟩)|11=>x=.pointer (some ⟨bd,0,none⟩)|12=>x=.pointer (some ⟨bd,6,none⟩)|13=>x=.map (some mb)|14=>x=.int .i64 (i:Int)|15=>x=.int .i64 (o:Int)|16=>x=.agg #[.int .i64 (i:Int),.int .i64 (o:Int)]|17=>x=.int .i64 q|18=>x=.int .i64 (ofV fr half q rate)|19=>x=.int .i64 (ofV fr half q rate)|_=>True) ?_ ?_
 ·clear Z;intro k o hk ho' L a hLk Z hsd hd;have hlt:∀ k:Nat,k<20→k=0∨k=1∨k=2∨k=3∨k=4∨k=5∨k=6∨k=7∨k=8∨k=9∨k=10∨k=11∨k=12∨k=13∨k=14∨k=15∨k=16∨k=17∨k=18∨k=19:=by decide
  rcases hlt k hk with rfl|rfl|rfl|rfl|rfl|rfl|rfl|rfl|rfl|rfl|rfl|rfl|rfl|rfl|rfl|rfl|rfl|rfl|rfl|rfl
  ·obtain rfl:=Option.some.inj ho';have e0:=Z.g 0;clear hsd hd;refine(AC (.pointer (some ⟨bd,0,none⟩)) rfl rfl (fun w₂ h₂=>?_) (fun w₂ h₂=>⟨h₂,_,rfl,rfl⟩)).more (by omega);exact oq
  ·obtain rfl:=Option.some.inj ho';have e0:=Z.g 0;clear hsd hd;refine(AC (.pointer (some ⟨bd,0,none⟩)) rfl rfl (fun w₂ h₂=>?_) (fun w₂ h₂=>⟨h₂,_,rfl,rfl⟩)).more (by omega);exact oq
  ·obtain rfl:=Option.some.inj ho';obtain⟨_,e8,rfl⟩:=hsd 1 _ 8 rfl rfl (hd 1 wm);clear hsd hd;refine(AC (.pointer (some ⟨bd,0,none⟩)) rfl rfl (fun w₂ h₂=>?_) (fun w₂ h₂=>⟨h₂,_,rfl,rfl⟩)).more (by omega);exact oq
  ·obtain rfl:=Option.some.inj ho';obtain⟨_,e9,rfl⟩:=hsd 2 _ 9 rfl rfl (hd 2 wm);clear hsd hd;refine(AC (.pointer (some ⟨bd,0,none⟩)) rfl rfl (fun w₂ h₂=>?_) (fun w₂ h₂=>⟨h₂,_,rfl,rfl⟩)).more (by omega);exact oq
  ·obtain rfl:=Option.some.inj ho';obtain⟨_,e10,rfl⟩:=hsd 3 _ 10 rfl rfl (hd 3 wm);clear hsd hd;refine(AC (.pointer (some ⟨bd,4,none⟩)) rfl rfl (fun w₂ h₂=>?_) (fun w₂ h₂=>⟨h₂,_,rfl,rfl⟩)).more (by omega);exact oq
  ·obtain rfl:=Option.some.inj ho';obtain⟨_,e11,rfl⟩:=hsd 4 _ 11 rfl rfl (hd 4 wm);clear hsd hd;refine(AC (.slice (some ⟨pb,po,none⟩) pn pc) rfl rfl (fun w₂ h₂=>?_) (fun w₂ h₂=>⟨h₂,_,rfl,rfl⟩)).more (by omega);have hbl2:Below B w w₂:=h₂.below hBN hBw hBc;have hc:=(hbl2.cell (p:=⟨bd,4,none⟩) hbd).trans h4;have hrd:=BZ (Safe:=Aw) (c:=c) (N:=N) (w:=w₂) (b:=bd) (o:=4) (Nat.lt_of_lt_of_le (Nat.lt_of_lt_of_le hbd hBw) h₂.size) (.inl ⟨by omega,by omega⟩);clear hbl2;refine⟨run_eq_of (fun K hK=>?_),Be.still ?_⟩
   ·go_simp;exact hK
   ·co_evs (exact hrd)
  ·obtain rfl:=Option.some.inj ho';have e1:=Z.g 1;clear hsd hd;refine(AC (.int .i64 (o:Int)) rfl rfl (fun w₂ h₂=>?_) (fun w₂ h₂=>⟨h₂,_,rfl,rfl⟩)).more (by omega);exact oq
  ·obtain rfl:=Option.some.inj ho';obtain⟨_,e12,rfl⟩:=hsd 5 _ 12 rfl rfl (hd 5 wm);obtain⟨_,e13,rfl⟩:=hsd 6 _ 13 rfl rfl (hd 6 wm);clear hsd hd;refine(AC (.pointer (some ⟨pb,po+o*3,none⟩)) rfl rfl (fun w₂ h₂=>?_) (fun w₂ h₂=>⟨h₂,_,rfl,rfl⟩)).more (by omega);have hi1:¬ (pn:Int)≤(o:Int):=by omega
   have hi2:¬ (o:Int)<0:=by omega
   exact oq
  ·obtain rfl:=Option.some.inj ho';obtain⟨_,e14,rfl⟩:=hsd 7 _ 14 rfl rfl (hd 7 wm);clear hsd hd;refine(AC (.agg #[.int .i64 hd,.int .i64 fr,.bool half]) rfl rfl (fun w₂ h₂=>?_) (fun w₂ h₂=>⟨h₂,_,rfl,rfl⟩)).more (by omega);have hbl2:Below B w w₂:=h₂.below hBN hBw hBc;have hc0:=(hbl2.cell (p:=⟨pb,po+o*3,none⟩) hpb).trans p0;have hc1:=(hbl2.cell (p:=⟨pb,po+o*3+1,none⟩) hpb).trans p1;have hc2:=(hbl2.cell (p:=⟨pb,po+o*3+2,none⟩) hpb).trans p2;have hrd:=fun oo=>BZ (Safe:=Aw) (c:=c) (N:=N) (w:=w₂) (b:=pb) (o:=oo) (Nat.lt_of_lt_of_le (Nat.lt_of_lt_of_le hpb hBw) h₂.size) (.inl ⟨by omega,by omega⟩)
   clear hbl2;refine⟨run_eq_of (fun K hK=>?_),Be.still ?_⟩
   ·go_simp;exact hK
   ·intro e he;have hm:=mem_listed he;simp[go_sem, *]at hm;rcases hm with rfl|rfl|rfl<;>exact hrd _
  ·obtain rfl:=Option.some.inj ho';have e2:=Z.g 2;clear hsd hd;refine(AC (.int .i64 (i:Int)) rfl rfl (fun w₂ h₂=>?_) (fun w₂ h₂=>⟨h₂,_,rfl,rfl⟩)).more (by omega);exact oq
  ·obtain rfl:=Option.some.inj ho';have e0:=Z.g 0;clear hsd hd;refine(AC (.pointer (some ⟨bd,0,none⟩)) rfl rfl (fun w₂ h₂=>?_) (fun w₂ h₂=>⟨h₂,_,rfl,rfl⟩)).more (by omega);exact oq
  ·obtain rfl:=Option.some.inj ho';obtain⟨_,e17,rfl⟩:=hsd 10 _ 17 rfl rfl (hd 10 wm);clear hsd hd;refine(AC (.pointer (some ⟨bd,0,none⟩)) rfl rfl (fun w₂ h₂=>?_) (fun w₂ h₂=>⟨h₂,_,rfl,rfl⟩)).more (by omega);exact oq
  ·obtain rfl:=Option.some.inj ho';obtain⟨_,e18,rfl⟩:=hsd 11 _ 18 rfl rfl (hd 11 wm);clear hsd hd;refine(AC (.pointer (some ⟨bd,6,none⟩)) rfl rfl (fun w₂ h₂=>?_) (fun w₂ h₂=>⟨h₂,_,rfl,rfl⟩)).more (by omega);exact oq
  ·obtain rfl:=Option.some.inj ho';obtain⟨_,e19,rfl⟩:=hsd 12 _ 19 rfl rfl (hd 12 wm);clear hsd hd;refine(AC (.map (some mb)) rfl rfl (fun w₂ h₂=>?_) (fun w₂ h₂=>⟨h₂,_,rfl,rfl⟩)).more (by omega);have hbl2:Below B w w₂:=h₂.below hBN hBw hBc;have hc:=(hbl2.cell (p:=⟨bd,6,none⟩) hbd).trans h6;have hrd:=BZ (Safe:=Aw) (c:=c) (N:=N) (w:=w₂) (b:=bd) (o:=6) (Nat.lt_of_lt_of_le (Nat.lt_of_lt_of_le hbd hBw) h₂.size) (.inl ⟨by omega,by omega⟩);clear hbl2;refine⟨run_eq_of (fun K hK=>?_),Be.still ?_⟩
   ·go_simp;exact hK
   ·co_evs (exact hrd)
  ·obtain rfl:=Option.some.inj ho';have e2:=Z.g 2;clear hsd hd;refine(AC (.int .i64 (i:Int)) rfl rfl (fun w₂ h₂=>?_) (fun w₂ h₂=>⟨h₂,_,rfl,rfl⟩)).more (by omega);exact oq
  ·obtain rfl:=Option.some.inj ho';have e1:=Z.g 1;clear hsd hd;refine(AC (.int .i64 (o:Int)) rfl rfl (fun w₂ h₂=>?_) (fun w₂ h₂=>⟨h₂,_,rfl,rfl⟩)).more (by omega);exact oq
  ·obtain rfl:=Option.some.inj ho';obtain⟨_,e21,rfl⟩:=hsd 14 _ 21 rfl rfl (hd 14 wm);obtain⟨_,e22,rfl⟩:=hsd 15 _ 22 rfl rfl (hd 15 wm);clear hsd hd;refine(AC (.agg #[.int .i64 (i:Int),.int .i64 (o:Int)]) rfl rfl (fun w₂ h₂=>?_) (fun w₂ h₂=>⟨h₂,_,rfl,rfl⟩)).more (by omega);exact oq
  ·obtain rfl:=Option.some.inj ho';obtain⟨_,e20,rfl⟩:=hsd 13 _ 20 rfl rfl (hd 13 wm);obtain⟨_,e23,rfl⟩:=hsd 16 _ 23 rfl rfl (hd 16 wm);clear hsd hd;refine(AC (.int .i64 q) rfl rfl (fun w₂ h₂=>?_) (fun w₂ h₂=>⟨h₂,_,rfl,rfl⟩)).more (by omega);have hm2:w₂.heap[mb]?=some (.map ents clock):=(h₂.block mb (Nat.lt_of_lt_of_le hmb hBw) (.inl ⟨by omega,by omega⟩)).trans hmap;have hl1:=hlook w₂ hm2;have hl2:=hlev w₂ hm2 #[];have hlt2:mb<w₂.heap.size:=lt_of_some hm2;refine⟨run_eq_of (fun K hK=>?_),Be.still ?_⟩
   ·go_simp;exact hK
   ·intro e he;have hm:=mem_listed he;simp[go_sem, *]at hm;subst hm;intro x hx b' hb';simp[MemAct.ofEvent,MemAct.touch?]at hx;subst hx;simp[blk]at hb';subst hb';exact⟨rfl,hlt2,.inl ⟨by omega,by omega⟩⟩
  ·obtain rfl:=Option.some.inj ho';obtain⟨_,e7,rfl⟩:=hsd 0 _ 7 rfl rfl (hd 0 wm);obtain⟨_,e15,rfl⟩:=hsd 8 _ 15 rfl rfl (hd 8 wm);obtain⟨_,e16,rfl⟩:=hsd 9 _ 16 rfl rfl (hd 9 wm);obtain⟨_,e24,rfl⟩:=hsd 17 _ 24 rfl rfl (hd 17 wm);have E (t:Nat) (v:Value) (e:a.tmps[t]?=some v):a.eval (.tmp t)=v:=by simp[Act.eval,Array.getD_eq_getD_getElem?,e]
   exact XL _ _ rfl rfl rfl (E _ _ e7) (E _ _ e15) (E _ _ e16) (E _ _ e24) hcall
  ·obtain rfl:=Option.some.inj ho';obtain⟨_,e25,rfl⟩:=hsd 18 _ 25 rfl rfl (hd 18 wm);clear hsd hd;refine(AC (.int .i64 (ofV fr half q rate)) rfl rfl (fun w₂ h₂=>?_) (fun w₂ h₂=>⟨h₂,_,rfl,rfl⟩)).more (by omega);exact oq
 ·intro a w' hr Z' hd';obtain⟨v6,e6,hv6⟩:=hd' 19 _ 6 rfl rfl;obtain rfl:=hv6;simp only[xt,↓reduceIte,Nat.reduceEqDiff];refine wpC_ret Ah ?_
  try simp only[xt,↓reduceIte,Nat.reduceEqDiff]
  refine⟨Z'.defers,.int .i64 (ofV fr half q rate),?_,rfl,hr⟩;have:=resultsC_tmp (P:=Try.prog) Try.results80 a.tmps;rw[Array.getD_eq_getD_getElem?,e6]at this;exact this
end
end Go.Proofs.Ytgdobbcjkiapkaa
