import Derived.Test.YtgdobbcjkiapkaaSv04
import Derived.Test.YtgdobbcjkiapkaaSv21
import Derived.Maps.AppendAt
namespace Go.Proofs.Ytgdobbcjkiapkaa
set_option maxRecDepth 100000
set_option maxHeartbeats 4000000
set_option linter.unusedSimpArgs false
set_option linter.unusedVariables false
section
open Go.RowKit
def atL (t:Ae) (l:List Ar) (o i:Nat):Int:=ofV (t.Aa.getD o default).free (t.Aa.getD o default).half (Au l ((i:Int),(o:Int))) (t.Af.getD i default).rate
def Hu (t:Ae) (l:List Ar) (o:Nat):Int:=Dy (atL t l o) t.Af.length
def Eh (t:Ae) (l:List Ar) (o:Nat):Int:=A7 (Hu t l o)
structure Fq (t:Ae) (l:List Ar):Prop where
 pf:∀ p∈t.Aa,0≤p.free∧p.free≤1000000
 rt:∀ x∈t.Af,0≤x.rate∧x.rate≤100000
 ps:∀ k,0≤Au l k∧Au l k≤1000000
 nt:t.Af.length≤1000
 np:t.Aa.length≤1000
theorem Ji {n:Int}{ts:List BA}:∀ {pre:List BA},BK n pre ts=0→∀ x∈ts,btw x.strip 0 (n-1)=true∧btw x.rate 0 500=true∧btw x.farmer 1 4=true:=by
 induction ts with
 | nil=>intro pre _ x hx;simp at hx
 | cons y l ih =>
  intro pre h x hx;rw[BK]at h
  by_cases e:CP n pre y=0
  ·rw[if_pos e]at h;rcases List.mem_cons.1 hx with rfl|hx
   ·unfold CP at e
    split at e
    ·exact absurd e (by decide)
    ·split at e
     ·exact absurd e (by decide)
     ·rename_i h1 h2;simp at h1 h2;exact⟨h1,h2.1,h2.2⟩
   ·exact ih h x hx
  ·rw[if_neg e]at h;exact absurd h e
theorem Fq.of {t:Ae}{l:List Ar}(hT:Aq t=0) (hl:DZ t l) (hn:l.length≤1000):Fq t l:=by
 obtain⟨_,_,_,h1,h2,h3,_,h4,h5⟩:=AY hT;refine⟨fun p hp=>?_,fun x hx=>?_,fun k=>?_,by omega,by omega⟩
 ·have:=List.all_eq_true.1 h3 p hp;simp only[AZ,Bool.and_eq_true]at this;have:=Am.1 this.2
  omega
 ·have:=Am.1 (Ji h5 x hx).2.1
  omega
 ·have:=EC hl k;omega
theorem getD_mem {α:Type} [Inhabited α] {l:List α}{i:Nat}(h:i<l.length):l.getD i default∈l:=by
 rw[List.getD_eq_getElem?_getD,List.getElem?_eq_getElem h];exact List.getElem_mem h
theorem getD_at {α:Type} [Inhabited α] {l:List α}{i:Nat}(h:i<l.length):l.getD i default=l[i]:=by
 rw[List.getD_eq_getElem?_getD,List.getElem?_eq_getElem h];rfl
theorem Fq.EJ {t:Ae}{l:List Ar}(h:Fq t l) {o:Nat}(ho:o<t.Aa.length) (k:Nat):0≤atL t l o k∧atL t l o k≤200000000000:=by
 have hr:0≤(t.Af.getD k default).rate∧(t.Af.getD k default).rate≤100000:=by
  rw[List.getD_eq_getElem?_getD]
  cases hk:t.Af[k]? with
  | none=>simp[show (default:BA).rate=0 from rfl]
  | some x=>exact h.rt x (List.mem_of_getElem? hk)
 exact Hg (h.pf _ (getD_mem ho)).1 (h.ps _).1 (h.ps _).2 hr.1 hr.2
theorem Zl {x:World}{mb:Nat}{qs:List ((Int×Int)×Int)}{l:List Ar}(hm:G5 x mb (pvG qs)) (hl:∀ key,(atK qs key).getD 0=Au l key) (a b:Int):(Instr.lookup 101 (.map (some mb)) (.agg #[.int .i64 a,.int .i64 b]) false).run Try.prog x=.ok (.int .i64 (Au l (a,b))) x:=by
 rw[← hl];exact(FH x mb _ _ qs #[] (a,b) hm (Qd qs)).1
theorem YB:(fun r=>Try.f80.body=some (.seq (r 0) (.seq (r 1) .ret))) (Ac Try.f80):=by show _=_;kernel_rfl
theorem Aai {w:World}{bd mb:Nat}{t:Ae}{s:Dt}{l:List Ar}{o i:Nat}(hT:Bf w t s) (hD:GL w bd mb t s l) (hF:Fq t l) (ho:o<t.Aa.length) (hi:i<t.Af.length):Calls Try.prog 80 #[.pointer (some ⟨bd,0,none⟩),.int .i64 (o:Int),.int .i64 (i:Int)] w (fun e w'=>e=.returned (.int .i64 (atL t l o i))∧Below w.heap.size w w'):=by
 obtain⟨pb,po,hpa,p0,p1,p2⟩:=hT.Aa.at ho;obtain⟨tb,to_,hta,_,r1,_⟩:=hT.Af.at hi;simp only[Xj,MQ]at p0 p1 p2 r1;have d4:=hD.kd.cell (o:=4) rfl;have d5:=hD.kd.cell (o:=5) rfl;have d6:=hD.kd.cell (o:=6) rfl
 change w.cell? _=some (.slice s.pa t.Aa.length s.pc) at d4
 change w.cell? _=some (.slice s.ta t.Af.length s.tc) at d5
 change w.cell? _=some (.map (some mb)) at d6
 rw[hpa]at d4;rw[hta]at d5;obtain⟨qs,hm,hq⟩:=hD.map;have b1:=hF.pf _ (List.getElem_mem ho);have b2:=hF.rt _ (List.getElem_mem hi);have b3:=hF.ps ((i:Int),(o:Int));have HE:=Lib.hid (show atL t l o i=ofV t.Aa[o].free t.Aa[o].half (Au l ((i:Int),(o:Int))) t.Af[i].rate from by unfold atL;rw[getD_at ho,getD_at hi]);have HO:=Lib.hid (Aa2.mk (w:=w) d5 r1 hi);have HP:=Lib.hid (And.intro p0 (And.intro p1 p2));have HD:=Lib.hid (And.intro d4 (And.intro d5 d6));clear p0 p1 p2 r1 d4 d5 d6 hpa hta hT hD;refine NU Try.func80 YB Try.ntmps80 ?_;intro a Z;refine wsr ?_;refine Z.e ?_;clear Z;intro a Z;refine wp_seq ?_;rw[show Ac Try.f80 1=Code.region 1 _ true from rfl]
 refine D8 (by kernel_rfl) ((((Z.nil.cons (Z.g 2)).cons (Z.g 1)).cons (Z.g 0))) [some 7,some 8,some 9,some 10,some 11,some 12,some 13,some 14,some 15,some 16,some 17,some 18,some 19,some 20,some 21,some 22,some 23,some 24,some 25,some 6] rfl rfl (by kernel_rfl) (fun j v _=>match j with|0=>v=.pointer (some ⟨bd,0,none⟩)|1=>v=.pointer (some ⟨bd,0,none⟩)|2=>v=.pointer (some ⟨bd,0,none⟩)|3=>v=.pointer (some ⟨bd,0,none⟩)|4=>v=.pointer (some ⟨bd,4,none⟩)|5=>v=.slice (some ⟨pb,po,none⟩) t.Aa.length s.pc|6=>v=.int .i64 (o:Int)|7=>v=.pointer (some ⟨pb,po+o*3,none⟩)|8=>v=.agg #[.int .i64 t.Aa[o].heads,.int .i64 t.Aa[o].free,.bool t.Aa[o].half]|9=>v=.int .i64 (i:Int)|10=>v=.pointer (some ⟨bd,0,none⟩)|11=>v=.pointer (some ⟨bd,0,none⟩)|12=>v=.pointer (some ⟨bd,6,none⟩)|13=>v=.map (some mb)|14=>v=.int .i64 (i:Int)|15=>v=.int .i64 (o:Int)|16=>v=.agg #[.int .i64 (i:Int),.int .i64 (o:Int)]|17=>v=.int .i64 (Au l ((i:Int),(o:Int)))|18=>v=.int .i64 (ofV t.Aa[o].free t.Aa[o].half (Au l ((i:Int),(o:Int))) t.Af[i].rate)|19=>v=.int .i64 (ofV t.Aa[o].free t.Aa[o].half (Au l ((i:Int),(o:Int))) t.Af[i].rate)|_=>True) (fun _ x=>Below w.heap.size w x) ((Below.refl _ _).drew) ?_ ?_
 ·clear Z;intro k o hkl ho L a x hI hLk Z hs hd;have hlt:∀ k:Nat,k<20→k=0∨k=1∨k=2∨k=3∨k=4∨k=5∨k=6∨k=7∨k=8∨k=9∨k=10∨k=11∨k=12∨k=13∨k=14∨k=15∨k=16∨k=17∨k=18∨k=19:=by decide
  rcases hlt k hkl with rfl|rfl|rfl|rfl|rfl|rfl|rfl|rfl|rfl|rfl|rfl|rfl|rfl|rfl|rfl|rfl|rfl|rfl|rfl|rfl
  ·obtain rfl:=Option.some.inj ho;have e0:=Z.g 0;clear hs hd;refine wz fun K hK=>?_
   go_simp;exact hK _ _ ⟨_,rfl,rfl,hI,fun _ _ h=>h⟩
  ·obtain rfl:=Option.some.inj ho;have e0:=Z.g 0;clear hs hd;refine wz fun K hK=>?_
   go_simp;exact hK _ _ ⟨_,rfl,rfl,hI,fun _ _ h=>h⟩
  ·obtain rfl:=Option.some.inj ho;obtain⟨_,e8,rfl⟩:=hs 1 _ 8 rfl rfl (hd 1 wm);clear hs hd;refine wz fun K hK=>?_
   go_simp;exact hK _ _ ⟨_,rfl,rfl,hI,fun _ _ h=>h⟩
  ·obtain rfl:=Option.some.inj ho;obtain⟨_,e9,rfl⟩:=hs 2 _ 9 rfl rfl (hd 2 wm);clear hs hd;refine wz fun K hK=>?_
   go_simp;exact hK _ _ ⟨_,rfl,rfl,hI,fun _ _ h=>h⟩
  ·obtain rfl:=Option.some.inj ho;obtain⟨_,e10,rfl⟩:=hs 3 _ 10 rfl rfl (hd 3 wm);clear hs hd;refine wz fun K hK=>?_
   go_simp;exact hK _ _ ⟨_,rfl,rfl,hI,fun _ _ h=>h⟩
  ·obtain rfl:=Option.some.inj ho;obtain⟨_,e11,rfl⟩:=hs 4 _ 11 rfl rfl (hd 4 wm);have c:=((Ef hI).1 _ _ (lt_of_cell HD.out.1)).trans HD.out.1;clear hs hd;refine wz fun K hK=>?_
   go_simp;exact hK _ _ ⟨_,rfl,rfl,hI,fun _ _ h=>h⟩
  ·obtain rfl:=Option.some.inj ho;have e1:=Z.g 1;clear hs hd;refine wz fun K hK=>?_
   go_simp;exact hK _ _ ⟨_,rfl,rfl,hI,fun _ _ h=>h⟩
  ·obtain rfl:=Option.some.inj ho;obtain⟨_,e12,rfl⟩:=hs 5 _ 12 rfl rfl (hd 5 wm);obtain⟨_,e13,rfl⟩:=hs 6 _ 13 rfl rfl (hd 6 wm);have q1:=ho;clear hs hd;refine wz fun K hK=>?_
   go_simp;exact hK _ _ ⟨_,rfl,rfl,hI,fun _ _ h=>h⟩
  ·obtain rfl:=Option.some.inj ho;obtain⟨_,e14,rfl⟩:=hs 7 _ 14 rfl rfl (hd 7 wm);have c0:=((Ef hI).1 _ _ (lt_of_cell HP.out.1)).trans HP.out.1;have c1:=((Ef hI).1 _ _ (lt_of_cell HP.out.2.1)).trans HP.out.2.1;have c2:=((Ef hI).1 _ _ (lt_of_cell HP.out.2.2)).trans HP.out.2.2;clear hs hd;refine wz fun K hK=>?_
   go_simp;exact hK _ _ ⟨_,rfl,rfl,hI,fun _ _ h=>h⟩
  ·obtain rfl:=Option.some.inj ho;have e2:=Z.g 2;clear hs hd;refine wz fun K hK=>?_
   go_simp;exact hK _ _ ⟨_,rfl,rfl,hI,fun _ _ h=>h⟩
  ·obtain rfl:=Option.some.inj ho;have e0:=Z.g 0;clear hs hd;refine wz fun K hK=>?_
   go_simp;exact hK _ _ ⟨_,rfl,rfl,hI,fun _ _ h=>h⟩
  ·obtain rfl:=Option.some.inj ho;obtain⟨_,e17,rfl⟩:=hs 10 _ 17 rfl rfl (hd 10 wm);clear hs hd;refine wz fun K hK=>?_
   go_simp;exact hK _ _ ⟨_,rfl,rfl,hI,fun _ _ h=>h⟩
  ·obtain rfl:=Option.some.inj ho;obtain⟨_,e18,rfl⟩:=hs 11 _ 18 rfl rfl (hd 11 wm);clear hs hd;refine wz fun K hK=>?_
   go_simp;exact hK _ _ ⟨_,rfl,rfl,hI,fun _ _ h=>h⟩
  ·obtain rfl:=Option.some.inj ho;obtain⟨_,e19,rfl⟩:=hs 12 _ 19 rfl rfl (hd 12 wm);have c:=((Ef hI).1 _ _ (lt_of_cell HD.out.2.2)).trans HD.out.2.2;clear hs hd;refine wz fun K hK=>?_
   go_simp;exact hK _ _ ⟨_,rfl,rfl,hI,fun _ _ h=>h⟩
  ·obtain rfl:=Option.some.inj ho;have e2:=Z.g 2;clear hs hd;refine wz fun K hK=>?_
   go_simp;exact hK _ _ ⟨_,rfl,rfl,hI,fun _ _ h=>h⟩
  ·obtain rfl:=Option.some.inj ho;have e1:=Z.g 1;clear hs hd;refine wz fun K hK=>?_
   go_simp;exact hK _ _ ⟨_,rfl,rfl,hI,fun _ _ h=>h⟩
  ·obtain rfl:=Option.some.inj ho;obtain⟨_,e21,rfl⟩:=hs 14 _ 21 rfl rfl (hd 14 wm);obtain⟨_,e22,rfl⟩:=hs 15 _ 22 rfl rfl (hd 15 wm);clear hs hd;refine wz fun K hK=>?_
   go_simp;exact hK _ _ ⟨_,rfl,rfl,hI,fun _ _ h=>h⟩
  ·obtain rfl:=Option.some.inj ho;obtain⟨_,e20,rfl⟩:=hs 13 _ 20 rfl rfl (hd 13 wm);obtain⟨_,e23,rfl⟩:=hs 16 _ 23 rfl rfl (hd 16 wm);have hlk:=Zl (hm.below hI hm.lt) hq (i:Int) (o:Int);clear hs hd;refine wz fun K hK=>?_
   go_simp;exact hK _ _ ⟨_,rfl,rfl,hI,fun _ _ h=>h⟩
  ·obtain rfl:=Option.some.inj ho;obtain⟨_,e7,rfl⟩:=hs 0 _ 7 rfl rfl (hd 0 wm);obtain⟨_,e15,rfl⟩:=hs 8 _ 15 rfl rfl (hd 8 wm);obtain⟨_,e16,rfl⟩:=hs 9 _ 16 rfl rfl (hd 9 wm);obtain⟨_,e24,rfl⟩:=hs 17 _ 24 rfl rfl (hd 17 wm);clear hs hd;refine wz fun K hK=>?_
   go_simp;refine(Aac (HO.out.below hI) b1.1 b1.2 b3.1 b3.2 b2.1 b2.2).mono ?_;rintro e x2 ⟨rfl,hb⟩;replace hI:=hI.trans (hb.mono hI.size);exact hK _ _ ⟨_,rfl,rfl,hI,fun _ _ h=>h⟩
  ·obtain rfl:=Option.some.inj ho;obtain⟨_,e25,rfl⟩:=hs 18 _ 25 rfl rfl (hd 18 wm);clear hs hd;refine wz fun K hK=>?_
   go_simp;exact hK _ _ ⟨_,rfl,rfl,hI,fun _ _ h=>h⟩
 ·clear Z;intro L a x hall hI Z hs;obtain⟨_,e6,rfl⟩:=hs 19 _ 6 rfl rfl (hall 19 (by decide));replace Z:=(Z.cons e6);clear hs hall e6;refine wp_ret ?_
  try simp only[xt]
  exact Z.rt (v:=.int .i64 _) 6 ⟨congrArg (fun z=>Ending.returned (.int .i64 z)) HE.out.symm,hI⟩
theorem Wv:(fun r=>Try.f67.body=some (.seq (r 0) (.seq (r 1) (.seq (.seq (r 2) (.block 0 (.loop (.seq (r 3) (.seq (.cond (.tmp 16) .skip (.exit 0)) (.seq (.block 1 (.seq (r 4) (r 5))) (r 6))))))) (.seq (r 7) .ret))))) (Ac Try.f67):=by show _=_;kernel_rfl
theorem NS {w:World}{x y:Value}{fc:FuncId}{F:Func}{first cap:Array Value}{a:Act}{K:Act→World→Prop}{Q:Exit→Act→World→Prop}(hF:Try.prog.funcs[fc]?=some F) (hname:(F.name == "runtime.NumGoroutine")=false) (hbody:F.body.isNone=false)
  {s t u:Nat}(E5:a.tmps[s]?=some (.func (.func fc) first cap)) (E6:a.tmps[t]?=some x) (E7:a.tmps[u]?=some y) {o:Oper}{ats:Array TypeId}(hop:o.op=.call { callee:=.value (.tmp s),args:=#[.tmp t,.tmp u],argTypes:=ats })
  {R:Ending→World→Prop}(hc:Calls Try.prog fc (first++#[x,y]++cap) w R) (h:∀ e w',R e w'→∃ v,e=.returned v∧K (a.put o.dst v) w'):o.wp Try.prog a w K Q:=by
 have ev:∀ {t:Nat}{v:Value},a.tmps[t]?=some v→a.eval (.tmp t)=v:=fun h=>by simp[Act.eval,Array.getD_eq_getD_getElem?,h]
 unfold Oper.wp;rw[(UB (fn:=0) a hF hname hbody (ev E5) (ev E6) (ev E7) o hop).1];refine hc.mono fun e w' hr=>?_
 obtain⟨v,rfl,hk⟩:=h e w' hr;exact hk
theorem sum_any {w:World}{bd tn tc:Nat}{ta:Option Addr}{o:Int}{fc:FuncId}{Fc:Func}{first cap:Array Value}{f:Nat→Int}(hc5:w.cell? ⟨bd,5,none⟩=some (.slice ta tn tc)) (htn:tn≤1000) (hF:Try.prog.funcs[fc]?=some Fc) (hname:(Fc.name == "runtime.NumGoroutine")=false) (hbody:Fc.body.isNone=false) (hb:∀ k,k<tn→0≤f k∧f k≤200000000000)
  (hcall:∀ x j,Below w.heap.size w x→j<tn→Calls Try.prog fc (first++#[.int .i64 o,.int .i64 (j:Int)]++cap) x (fun e w'=>e=.returned (.int .i64 (f j))∧Below x.heap.size x w')) :
  Calls Try.prog 67 #[.pointer (some ⟨bd,0,none⟩),.int .i64 o,.func (.func fc) first cap] w (fun e w'=>e=.returned (.int .i64 (Dy f tn))∧Below w.heap.size w w'):=by
 have hsb:∀ k,k≤tn→0≤Dy f k∧Dy f k≤200000000000*(k:Int):=fun k=>by
  induction k with
  | zero=>intro _;simp[Dy]
  | succ k ih=>intro hk;have h1:=ih (by omega);have h2:=hb k (by omega);simp only[Dy];push_cast;omega
 have HC:=Lib.hid hcall;clear hcall;have hI:Below w.heap.size w w:=Below.refl _ _;obtain⟨x,hx⟩:∃ x,x=w:=⟨_,rfl⟩;have hI:Below w.heap.size w x:=by rw[hx];exact hI
 have H5:=Lib.hid hc5;clear hc5;refine calls_of_wp Try.func67 Wv ?_;rw[show Code.wp _ _ _ _ w=Code.wp _ _ _ _ x from by rw[hx]];clear hx;have Z:Sl (⟨#[.pointer (some ⟨bd,0,none⟩),.int .i64 o,.func (.func fc) first cap]++Array.replicate (Try.f67.ntmps-(#[.pointer (some ⟨bd,0,none⟩),.int .i64 o,.func (.func fc) first cap]:Array Value).size) undef,[]⟩:Act) 26 [(0,.pointer (some ⟨bd,0,none⟩)),(1,.int .i64 o),(2,.func (.func fc) first cap)]:=by rw[Try.ntmps67];exact Sl.Aag _ _ _ (by omega)
 revert Z;generalize (Act.mk _ _)=a;intro Z;refine wsr ?_;refine Z.e ?_;clear Z;intro a Z;refine wsr ?_;refine Z.e ?_;clear Z;intro a Z;refine wss ?_;(iterate 4 refine Z.s ?_;clear Z;intro a Z);refine Z.f (((Ef hI).1 _ _ (lt_of_cell H5.out)).trans H5.out) ?_;clear Z;intro a Z;(iterate 2 refine Z.s ?_;clear Z;intro a Z);refine od ?_;refine wp_block ?_;refine wp_loop_ghost (fun n p x=>∃ k:Nat,k+n=tn∧Sl p 26 [(1,.int .i64 o),(2,.func (.func fc) first cap),(7,.int .i64 (Dy f k)),(14,.int .i64 (tn:Int)),(15,.int .i64 (k:Int))]∧Below w.heap.size w x) tn ⟨0,by omega,Z.sb,hI⟩ ?_;clear Z hI;rintro n a x ⟨k,hkn,Z,hI⟩;refine wsr ?_
 by_cases hlt:k<tn
 ·have q1:(k:Int)<(tn:Int):=by omega
  refine Z.e ?_;clear Z;intro a Z;refine wp_seq ?_;refine Z.ct 16 ?_;refine wp_skip ?_;refine wp_seq ?_;refine wp_block ?_;refine wsr ?_;(iterate 2 refine Z.s ?_;clear Z;intro a Z);refine od ?_;refine wr ?_;(iterate 4 refine Z.s ?_;clear Z;intro a Z);refine og fun K hK=>?_
  have e19:=Z.g 19;have e20:=Z.g 20;have e21:=Z.g 21;refine NS hF hname hbody e19 e20 e21 rfl (HC.out x k hI hlt) ?_;rintro e x2 ⟨rfl,hb2⟩;refine⟨_,rfl,?_⟩;replace hI:=hI.trans (hb2.mono hI.size);clear hb2;refine Z.K hK ?_;clear Z hK;intro a Z;refine oz fun K hK=>?_
  have e18:=Z.g 18;have e22:=Z.g 22;have h1:=hsb k (by omega);have h2:=hb k hlt;have hw:IntKind.i64.wrap (Dy f k+f k)=Dy f (k+1):=IntWalk.i64_in _ (by omega);go_simp;refine Z.K hK ?_;clear Z hK;intro a Z;refine Z.e ?_;clear Z;intro a Z;refine wr ?_;refine Z.f (Bz k (by omega)) ?_;clear Z;intro a Z;refine Z.e ?_;clear Z;intro a Z;show Exists _;exact⟨n-1,by omega,k+1,by omega,Z.sb,hI⟩
 ·obtain rfl:k=tn:=by omega
  refine Z.e ?_;clear Z;intro a Z;refine wp_seq ?_;refine Z.cf 16 ?_;refine wp_exit ?_;refine wsr ?_;(iterate 2 refine Z.s ?_;clear Z;intro a Z);refine od ?_;refine wp_ret ?_
  try simp only[xt]
  exact Z.rt (v:=.int .i64 (Dy f k)) 6 ⟨rfl,hI⟩
theorem WA:(fun r=>Try.f79.body=some (.seq (r 0) (.seq (r 1) .ret))) (Ac Try.f79):=by show _=_;kernel_rfl
theorem XW {w:World}{bd mb:Nat}{t:Ae}{s:Dt}{l:List Ar}{o:Nat}(hT:Bf w t s) (hD:GL w bd mb t s l) (hF:Fq t l) (ho:o<t.Aa.length):Calls Try.prog 79 #[.pointer (some ⟨bd,0,none⟩),.int .i64 (o:Int)] w (fun e w'=>e=.returned (.int .i64 (Eh t l o))∧Below w.heap.size w w'):=by
 have hS:=Lib.hid (sum_any (w:=w) (bd:=bd) (o:=(o:Int)) (fc:=80) (first:=#[.pointer (some ⟨bd,0,none⟩)]) (cap:=#[]) (f:=atL t l o) (hD.kd.cell (o:=5) rfl) hF.nt Try.func80 (by kernel_rfl) (by kernel_rfl) (fun k _=>hF.EJ ho k) (fun x j hb hj=>Aai (hT.below hb) (hD.below hb) hF ho hj));have hb0:=CV (hF.EJ ho) t.Af.length;have hnt:=hF.nt;refine I7 Try.func79 WA Try.ntmps79 ?_;intro a Z;refine wsr ?_;refine Z.e ?_;clear Z;intro a Z;refine wsr ?_;(iterate 4 refine Z.s ?_;clear Z;intro a Z);refine oz fun K hK=>?_
 have e5:=Z.g 5;have e6:=Z.g 6;have e8:=Z.g 8;go_simp;refine hS.out.mono ?_;rintro e x ⟨rfl,hI⟩;refine Z.K hK ?_;clear Z hK;intro a Z;refine oz fun K hK=>?_
 have e9:=Z.g 9;go_simp;refine(Rt hb0.1 (by omega)).mono ?_;rintro e x2 ⟨rfl,rfl⟩;refine Z.K hK ?_;clear Z hK;intro a Z;refine Z.e ?_;clear Z;intro a Z;refine wp_ret ?_
 try simp only[xt]
 refine bodyPost_ret (v:=.int .i64 (Eh t l o)) ?_ Z.defers ⟨rfl,hI⟩;simp[results,Try.results79,Z.get 4 _ rfl,Eh,Hu]
end
section
open Go.RowKit
def AU {α:Type}(f:α→List Value) (e:TypeId) (k:Nat) (w:World) (B:Nat) (v:Value) (l:List α):Prop:=w.ownsRow B e k v l.length (l.flatMap f)
section
variable {α:Type}{f:α→List Value}{e:TypeId}{k:Nat}{w w':World}{B:Nat}{v:Value}{l:List α}
theorem AU.nil:AU f e k w B (.slice none 0 0) []:=World.ownsRow_nil _ _ _ _
theorem AU.Ak (h:AU f e k w B v l) {g:Nat}(hg:v.ownBlock=some g):B≤g∧g<w.heap.size:=by
  rcases h.2 with ⟨hv,_⟩|⟨g',cap,cur,hv,hb,hh,_⟩
  · rw[hv]at hg;simp[Value.ownBlock]at hg
  · rw[hv]at hg;simp[Value.ownBlock]at hg;subst hg
    exact⟨hb,(Array.getElem?_eq_some_iff.1 hh).1⟩
theorem AU.keep (h:AU f e k w B v l) (hk:∀ g,v.ownBlock=some g→w'.heap[g]?=w.heap[g]?):AU f e k w' B v l:=by
  obtain⟨h1,h2⟩:=h
  refine⟨h1,?_⟩
  rcases h2 with h2|⟨g,cap,cur,hv,hg,hh,hr⟩
  · exact .inl h2
  · exact .inr ⟨g,cap,cur,hv,hg,(hk g (by rw[hv];rfl)).trans hh,hr⟩
theorem AU.below (h:AU f e k w B v l) (hb:Below w.heap.size w w'):AU f e k w' B v l:=h.keep fun g hg=>hb.block g (h.Ak hg).2
theorem AU.lower {B':Nat}(h:AU f e k w B v l) (hB:B'≤B):AU f e k w B' v l:=by
  obtain⟨h1,h2⟩:=h
  refine⟨h1,?_⟩
  rcases h2 with h2|⟨g,cap,cur,hv,hg,r⟩
  · exact .inl h2
  · exact .inr ⟨g,cap,cur,hv,Nat.le_trans hB hg,r⟩
theorem EN (hf:∀ x,(f x).length=k):∀ l:List α,(l.flatMap f).length=l.length*k
  | []=>by simp
  | x::l=>by rw[List.flatMap_cons,List.length_append,hf,EN hf l,List.length_cons,Nat.add_mul];omega
theorem flat_get (hf:∀ x,(f x).length=k):∀ (l:List α) (i j:Nat) (hi:i<l.length),j<k→(l.flatMap f)[i*k+j]?=(f l[i])[j]?
  | x::l,0,j,_,hj=>by rw[List.flatMap_cons,List.getElem?_append_left (by rw[hf];omega)];simp
  | x::l,i+1,j,hi,hj=>by
    rw[List.flatMap_cons,List.getElem?_append_right (by rw[hf,Nat.add_mul];omega),hf,show (i+1)*k+j-k=i*k+j by rw[Nat.add_mul];omega,flat_get hf l i j (by simpa using hi) hj]
    simp
theorem AU.form (h:AU f e k w B v l) (hf:∀ x,(f x).length=k):∃ a cap,v=.slice a l.length cap∧l.length≤cap∧cap≤maxLen∧(a=none→l=[]∧cap=0)∧∀ ad,a=some ad→∃ g,ad=⟨g,0,none⟩∧B≤g∧g<w.heap.size∧∀ (i:Nat) (hi:i<l.length) (j:Nat) (u:Value),j<k→(f l[i])[j]?=some u→w.cell? ⟨g,i*k+j,none⟩=some u:=by
  rcases h.2 with ⟨hv,h0⟩|⟨g,cap,cur,hv,hb,hh,hc,hm,hs,hcells⟩
  · have:=List.length_eq_zero_iff.1 h0
    subst this
    exact⟨none,0,hv,Nat.le_refl _,by unfold maxLen;omega,fun _=>⟨rfl,rfl⟩,fun ad h=>by simp at h⟩
  · refine⟨_,cap,hv,hc,hm,fun h=>by simp at h,fun ad had=>⟨g,by simpa using had.symm,hb,(Array.getElem?_eq_some_iff.1 hh).1,fun i hi j u hj hu=>?_⟩⟩
    have h1:=flat_get hf l i j hi hj
    rw[← hcells,hu]at h1
    have hlt:i*k+j<l.length*k:=by
      have:(i+1)*k≤l.length*k:=Nat.mul_le_mul_right k hi
      rw[Nat.add_mul]at this;omega
    rw[List.getElem?_take_of_lt hlt]at h1
    rw[Array.getElem?_toList]at h1
    simp[World.cell?,hh,h1]
theorem IQ {o:Oper}{a:Act}{K:Act→World→Prop}{Q:Exit→Act→World→Prop}(st:TypeId) {z:Value}{bytes:Nat}(s x:Operand) (hst:Try.prog.underlying st=some (.slice e)) (hinfo:(Try.prog.info? e).map (fun i=>(i.zero,i.size,i.bytes))=some (some z,k,bytes)) (hz:z.cells.size=k) (hk:0<k) (hby:bytes≤100)
    (ho:o.op=.call { callee:=.builtin .append,args:=#[s,x],argTypes:=#[st,st] }) (hs:a.eval s=v) (hown:AU f e k w B v l) (gs:Nat) (y:α) (hx:a.eval x=.slice (some ⟨gs,0,none⟩) 1 1)
    (hf:(f y).length=k) (hr:∀ (j:Nat) (u:Value),(f y)[j]?=some u→w.cell? ⟨gs,j,none⟩=some u) (h1:∀ u∈f y,u.oneCell'=true) (hlen:l.length≤1000000) (hB:B≤w.heap.size)
    (h:∀ v' w',AU f e k w' B v' (l++[y])→Below B w w'→w.grownBy w' v.ownBlock→(v'.ownBlock=v.ownBlock∨v'.ownBlock=some w.heap.size)→v' ≠ .slice none 0 0→K (a.put o.dst v') w'):o.wp Try.prog a w K Q:=by
  obtain⟨i0,hi,hz0,hz1,hz2⟩:=info_parts (P:=Try.prog) hinfo
  have hblk:∀ k,v.ownBlock=some k→B≤k:=fun k hk=>(hown.Ak hk).1
  obtain⟨v',w',q1,q2,q3,q4,q5⟩:=run_append_own_at (P:=Try.prog) w B st o.type e i0 z k bytes hst hi hz0 hz1 hz2 hz hk v l.length _ hown ⟨gs,0,none⟩ 1 1 (f y) (by rw[hf];omega) (by
        intro j u hj
        have:=hr j u hj
        have e:(⟨gs,0,none⟩:Addr).add j=⟨gs,j,none⟩:=by by_cases h0:j=0<;>simp[Addr.add,h0]
        rw[e];exact this) h1 (by unfold maxLen;omega) (by
        have:(l.length+1)*bytes≤1000001*100:=Nat.mul_le_mul (by omega) hby
        omega) hB
  unfold Oper.wp execOp
  simp only[ho,resolve,invoke,builtin,Sem.run_bind,Sem.run_pure,Result.andThen_ok,List.map_toArray,List.map_cons,List.map_nil,hs,hx,q1]
  refine h v' w' ?_ (Below.grown (Below.refl _ _) q3 hB hblk) q3 q5 (fun e=>?_)
  · unfold AU
    rw[List.length_append,List.flatMap_append]
    simpa using q2
  · have:=(q4.1 e).2
    omega
end
theorem Aao {α:Type}{f:α→List Value}{e:TypeId}{k:Nat}{w:World}{B:Nat}{v:Value}{l:List α}{o:Oper}{a:Act}{K:Act→World→Prop}{Q:Exit→Act→World→Prop}(st:TypeId) {z:Value}{bytes:Nat}(s x:Operand) (hst:Try.prog.underlying st=some (.slice e)) (hinfo:(Try.prog.info? e).map (fun i=>(i.zero,i.size,i.bytes))=some (some z,k,bytes)) (hz:z.cells.size=k) (hk:0<k) (hby:bytes≤100)
    (ho:o.op=.call { callee:=.builtin .append,args:=#[s,x],argTypes:=#[st,st] }) (hs:a.eval s=v) (hown:AU f e k w B v l) (gs go:Nat) (c:Nat) (ys:List α) (hx:a.eval x=.slice (some ⟨gs,go,none⟩) ys.length c)
    (hf:∀ y,(f y).length=k) (hr:∀ (i:Nat) (hi:i<ys.length) (j:Nat) (u:Value),j<k→(f ys[i])[j]?=some u→w.cell? ⟨gs,go+(i*k+j),none⟩=some u) (h1:∀ y∈ys,∀ u∈f y,u.oneCell'=true) (hlen:l.length+ys.length≤1000000) (hB:B≤w.heap.size)
    (h:∀ v' w',AU f e k w' B v' (l++ys)→Below B w w'→w.grownBy w' v.ownBlock→(v'.ownBlock=v.ownBlock∨v'.ownBlock=some w.heap.size)→(v'=.slice none 0 0↔v=.slice none 0 0∧ys.length=0)→K (a.put o.dst v') w'):o.wp Try.prog a w K Q:=by
  obtain⟨i0,hi,hz0,hz1,hz2⟩:=info_parts (P:=Try.prog) hinfo
  have hblk:∀ k,v.ownBlock=some k→B≤k:=fun k hk=>(hown.Ak hk).1
  obtain⟨v',w',q1,q2,q3,q4,q5⟩:=run_append_own_at (P:=Try.prog) w B st o.type e i0 z k bytes hst hi hz0 hz1 hz2 hz hk v l.length _ hown ⟨gs,go,none⟩ ys.length c (ys.flatMap f) (EN hf ys) (by
        intro j u hj
        have hjl:j<ys.length*k:=by rw[← EN hf ys];exact(List.getElem?_eq_some_iff.1 hj).1
        have hq:j / k<ys.length:=(Nat.div_lt_iff_lt_mul hk).2 hjl
        have hm:j % k<k:=Nat.mod_lt _ hk
        have hsp:j / k*k+j % k=j:=by rw[Nat.mul_comm];exact Nat.div_add_mod j k
        have h2:=flat_get hf ys (j / k) (j % k) hq hm
        rw[hsp,hj]at h2
        have h3:=hr (j / k) hq (j % k) u hm h2.symm
        rw[hsp]at h3
        have e:(⟨gs,go,none⟩:Addr).add j=⟨gs,go+j,none⟩:=by by_cases h0:j=0<;>simp[Addr.add,h0]
        rw[e];exact h3) (by
        intro u hu
        obtain⟨y,hy,hu⟩:=List.mem_flatMap.1 hu
        exact h1 y hy u hu) (by unfold maxLen;omega) (by
        have:(l.length+ys.length)*bytes≤1000000*100:=Nat.mul_le_mul hlen hby
        omega) hB
  unfold Oper.wp execOp
  simp only[ho,resolve,invoke,builtin,Sem.run_bind,Sem.run_pure,Result.andThen_ok,List.map_toArray,List.map_cons,List.map_nil,hs,hx,q1]
  refine h v' w' ?_ (Below.grown (Below.refl _ _) q3 hB hblk) q3 q5 q4
  unfold AU
  rw[List.length_append,List.flatMap_append]
  exact q2
def G8 (p:Ar):List Value:=[.int .i64 p.toll,.int .i64 p.owner,.int .i64 p.heads]
abbrev Cc:=AU G8 53 3
theorem Cc.at {w:World}{B:Nat}{v:Value}{l:List Ar}(h:Cc w B v l):∃ a cap,v=.slice a l.length cap∧l.length≤cap∧cap≤maxLen∧BV w a l:=by
  obtain⟨a,cap,hv,hc,hm,hn,hs⟩:=AU.form h (fun _=>rfl)
  refine⟨a,cap,hv,hc,hm,?_⟩
  cases a with
  | none=>exact .inl (hn rfl).1
  | some ad =>
    obtain⟨g,rfl,_,_,hcell⟩:=hs ad rfl
    refine .inr ⟨g,0,rfl,fun i hi=>⟨?_,?_,?_⟩⟩
    · have:=hcell i hi 0 _ (by omega) rfl;simpa[Oy] using this
    · have:=hcell i hi 1 _ (by omega) rfl;simpa[Oy] using this
    · have:=hcell i hi 2 _ (by omega) rfl;simpa[Oy] using this
end
section
open Go.RowKit
def RY (x:Int):List Int→Int→Int
 | [],_=>-1
 | y::l,i=>if x=y then i else RY x l (i+1)
theorem Ur {x:Int}:∀ {l:List Int}{i:Int},0≤i→(0≤RY x l i↔x∈l)
 | [],i,_=>by simp[RY]
 | y::l,i,h=>by
  rw[RY]
  by_cases e:x=y
  ·rw[if_pos e];simp[e,h]
  ·rw[if_neg e,Ur (l:=l) (i:=i+1) (by omega)];simp[e]
theorem Zq {x:Int}{l:List Int}{k:Nat}(h:k<l.length) (hx:¬ x=l[k]):RY x (l.drop k) (k:Int)=RY x (l.drop (k+1)) ((k+1:Nat):Int):=by
 rw[List.drop_eq_getElem_cons h,RY,if_neg hx];simp
theorem AaI {x:Int}{l:List Int}{k:Nat}(h:k<l.length) (hx:x=l[k]):RY x (l.drop k) (k:Int)=(k:Int):=by
 rw[List.drop_eq_getElem_cons h,RY,if_pos hx]
theorem AX.at {w:World}{a:Option Addr}{l:List Int}(h:AX w a l) {i:Nat}(hi:i<l.length):∃ b o,a=some ⟨b,o,none⟩∧w.cell? ⟨b,o+i,none⟩=some (.int .i64 l[i]):=by
 rcases h with rfl|⟨b,o,ha,h⟩
 ·simp at hi
 ·exact⟨b,o,ha,h i hi⟩
theorem AX.take {w:World}{b o:Nat}{l:List Int}(h:AX w (some ⟨b,o,none⟩) l) (i:Nat):AX w (some ⟨b,o,none⟩) (l.take i):=by
 rcases h with rfl|⟨b',o',ha,h⟩
 ·simp;exact .inl rfl
 ·refine .inr ⟨b',o',ha,fun j hj=>?_⟩;rw[List.length_take]at hj;rw[List.getElem_take];exact h j (by omega)
theorem WN:(fun r=>Try.f108.body=some (.seq (r 0) (.seq (.seq (r 1) (.block 0 (.loop (.seq (r 2) (.seq (.cond (.tmp 9) .skip (.exit 0)) (.seq (.block 1 (.seq (r 3) (.seq (r 4) (.cond (.tmp 16) (.seq (r 5) .ret) .skip)))) (r 6))))))) (.seq (r 7) .ret)))) (Ac Try.f108):=by show _=_;kernel_rfl
theorem XH {w:World}{la:Option Addr}{cap:Nat}{l:List Int}{x:Int}(hl:AX w la l) (hn:l.length≤1000000):Calls Try.prog 108 #[.slice la l.length cap,.int .i64 x] w (fun e w'=>e=.returned (.int .i64 (RY x l 0))∧w'=w):=by
 refine I7 Try.func108 WN Try.ntmps108 ?_;intro a Z;refine wsr ?_;refine Z.e ?_;clear Z;intro a Z;refine wss ?_;(iterate 3 refine Z.s ?_;clear Z;intro a Z);refine od ?_;refine wp_block ?_;refine wp_loop_ghost (fun n p W=>W=w∧∃ k:Nat,k+n=l.length∧RY x (l.drop k) (k:Int)=RY x l 0∧Sl p 19 [(0,.slice la l.length cap),(1,.int .i64 x),(7,.int .i64 (l.length:Int)),(8,.int .i64 (k:Int))]) l.length ⟨rfl,0,by omega,rfl,Z.sb⟩ ?_;clear Z;rintro n p W ⟨rfl,k,hkn,hE,Z⟩;have HE:=Lib.hid hE;clear hE;refine wsr ?_
 by_cases hlt:k<l.length
 ·have q1:(k:Int)<(l.length:Int):=by omega
  obtain⟨pb,po,hpa,p0⟩:=hl.at hlt;rw[hpa]at Z;refine Z.e ?_;clear Z;intro a Z;refine wp_seq ?_;refine Z.ct 9 ?_;refine wp_skip ?_;refine wp_seq ?_;refine wp_block ?_;refine wsr ?_;(iterate 2 refine Z.s ?_;clear Z;intro a Z);refine od ?_;refine wsr ?_;(iterate 5 refine Z.s ?_;clear Z;intro a Z)
  by_cases h1:x=l[k]
  ·have hb:=EI h1;have hR:=Lib.hid (HE.out.symm.trans (AaI hlt h1));have H1:=Lib.hid h1;clear h1;refine Z.e ?_;clear Z;intro a Z;refine Z.ct 16 ?_;refine wsr ?_;(iterate 2 refine Z.s ?_;clear Z;intro a Z);refine od ?_;refine wp_ret ?_
   try simp only[xt]
   exact Z.rt (v:=.int .i64 (RY x l 0)) 4 ⟨rfl,rfl⟩ (hm:=by rw[hR.out];rfl)
  ·have hb:=DW h1;refine Z.e ?_;clear Z;intro a Z;refine Z.cs 16 ?_;refine wr ?_;refine Z.f (Bz k (by omega)) ?_;clear Z;intro a Z;refine Z.e ?_;clear Z;intro a Z;show Exists _;exact⟨n-1,by omega,by trivial,k+1,by omega,(Zq hlt h1).symm.trans HE.out,by rw[hpa];exact Z.sb⟩
 ·obtain rfl:k=l.length:=by omega
  refine Z.e ?_;clear Z;intro a Z;refine wp_seq ?_;refine Z.cf 9 ?_;refine wp_exit ?_;have hR:=Lib.hid (show RY x l 0 = -1 from by rw[← HE.out,List.drop_of_length_le (Nat.le_refl _)];rfl);refine wsr ?_;refine Z.e ?_;clear Z;intro a Z;refine wp_ret ?_
  try simp only[xt]
  exact Z.rt (v:=.int .i64 (RY x l 0)) 4 ⟨rfl,rfl⟩ (hm:=by rw[hR.out];rfl)
theorem WV:(fun r=>Try.f69.body=some (.seq (r 0) (.seq (r 1) .ret))) (Ac Try.f69):=by show _=_;kernel_rfl
theorem ML {w:World}{la:Option Addr}{cap:Nat}{l:List Int}{x:Int}(hl:AX w la l) (hn:l.length≤1000000):Calls Try.prog 69 #[.slice la l.length cap,.int .i64 x] w (fun e w'=>e=.returned (.bool (decide (x∈l)))∧w'=w):=by
 have hd:decide (0≤RY x l 0)=decide (x∈l):=by rw[decide_eq_decide];exact Ur (Int.le_refl _)
 have HD:=Lib.hid hd;clear hd;refine I7 Try.func69 WV Try.ntmps69 ?_;intro a Z;refine wsr ?_;refine Z.e ?_;clear Z;intro a Z;refine wsr ?_;(iterate 2 refine Z.s ?_;clear Z;intro a Z);refine oz fun K hK=>?_
 have e5:=Z.g 5;have e6:=Z.g 6;go_simp;refine(XH hl hn).mono ?_;rintro e W ⟨rfl,rfl⟩;refine Z.K hK ?_;clear Z hK;intro a Z;(iterate 2 refine Z.s ?_;clear Z;intro a Z);refine od ?_;refine wp_ret ?_
 try simp only[xt]
 refine bodyPost_ret (v:=.bool (decide (x∈l))) ?_ Z.defers ⟨rfl,rfl⟩;rw[← HD.out];simp[results,Try.results69,Z.get 4 _ rfl]
end
end Go.Proofs.Ytgdobbcjkiapkaa
