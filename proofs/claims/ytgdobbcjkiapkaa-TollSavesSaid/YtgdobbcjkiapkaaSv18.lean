import Derived.Test.YtgdobbcjkiapkaaSv14
import Derived.Test.YtgdobbcjkiapkaaProg
import Derived.KernelRfl
import Derived.Test.YtgdobbcjkiapkaaSv04
import Derived.Test.YtgdobbcjkiapkaaSv16
import Derived.Test.YtgdobbcjkiapkaaSv17
namespace Go.Proofs.Ytgdobbcjkiapkaa
set_option maxRecDepth 100000
set_option maxHeartbeats 4000000
set_option linter.unusedSimpArgs false
set_option linter.unusedVariables false
section
open Go Go.Conc
section
variable {P:Program}
instance (s:String):Cal P (Extern.RuntimeError.text s):=by
 unfold Extern.RuntimeError.text
 repeat' (first|infer_instance|(refine Cal.bind ?_ (fun _=>?_))|(refine Cal.GG (fun _ _=>?_) _ _)|(refine Cal.EP (fun _ _=>?_) _ _)|(refine Cal.Ec _ _ _ (fun _ _ _=>?_))|(refine Cal.Iz (fun _=>?_) _)|(refine Cal.ite ?_ ?_)|split|(intro _)|dsimp only)
instance (a:Array Value):Cal P (Extern.RuntimeError.boundsError a):=by
 obtain⟨l⟩:=a;rcases l with _|⟨v,_|⟨y,l⟩⟩
 ·exact(inferInstance:Cal P (stuck "boundsError expected"))
 ·cases v with
  | agg cs =>
   obtain⟨m⟩:=cs;rcases m with _|⟨v1,_|⟨v2,_|⟨v3,_|⟨v4,_|⟨v5,m⟩⟩⟩⟩⟩
   ·exact(inferInstance:Cal P (stuck "boundsError expected"))
   ·exact(inferInstance:Cal P (stuck "boundsError expected"))
   ·exact(inferInstance:Cal P (stuck "boundsError expected"))
   ·exact(inferInstance:Cal P (stuck "boundsError expected"))
   ·cases v1<;>first|exact(inferInstance:Cal P (stuck "boundsError expected"))|skip
    cases v2<;>first|exact(inferInstance:Cal P (stuck "boundsError expected"))|skip
    cases v3<;>first|exact(inferInstance:Cal P (stuck "boundsError expected"))|skip
    cases v4<;>first|exact(inferInstance:Cal P (stuck "boundsError expected"))|skip
    show Cal P (Extern.RuntimeError.boundsError #[.agg #[.int _ _,.int _ _,.bool _,.int _ _]])
    conv=>arg 2;whnf
    split<;>infer_instance
   ·exact(inferInstance:Cal P (stuck "boundsError expected"))
  | _=>exact(inferInstance:Cal P (stuck "boundsError expected"))
 ·exact(inferInstance:Cal P (stuck "boundsError expected"))
instance (v:Value):Cal P (Extern.RuntimeError.described v):=by
 unfold Extern.RuntimeError.described
 repeat' (first|infer_instance|(refine Cal.bind ?_ (fun _=>?_))|(refine Cal.GG (fun _ _=>?_) _ _)|(refine Cal.EP (fun _ _=>?_) _ _)|(refine Cal.Ec _ _ _ (fun _ _ _=>?_))|(refine Cal.Iz (fun _=>?_) _)|(refine Cal.ite ?_ ?_)|split|(intro _)|dsimp only)
instance (i:TypeInfo):Cal P (Extern.RuntimeError.pkgpathOf i):=by
 unfold Extern.RuntimeError.pkgpathOf
 repeat' (first|infer_instance|(refine Cal.bind ?_ (fun _=>?_))|(refine Cal.GG (fun _ _=>?_) _ _)|(refine Cal.EP (fun _ _=>?_) _ _)|(refine Cal.Ec _ _ _ (fun _ _ _=>?_))|(refine Cal.Iz (fun _=>?_) _)|(refine Cal.ite ?_ ?_)|split|(intro _)|dsimp only)
instance (a:Array Value):Cal P (Extern.RuntimeError.typeAssertionError a):=by
 unfold Extern.RuntimeError.typeAssertionError
 repeat' (first|infer_instance|(refine Cal.bind ?_ (fun _=>?_))|(refine Cal.GG (fun _ _=>?_) _ _)|(refine Cal.EP (fun _ _=>?_) _ _)|(refine Cal.Ec _ _ _ (fun _ _ _=>?_))|(refine Cal.Iz (fun _=>?_) _)|(refine Cal.ite ?_ ?_)|split|(intro _)|dsimp only)
instance (a:Array Value):Cal P (Extern.RuntimeError.unhashableTypeError a):=by
 obtain⟨l⟩:=a;rcases l with _|⟨v,_|⟨y,l⟩⟩
 ·exact(inferInstance:Cal P (stuck "unhashableTypeError expected"))
 ·cases v with
  | agg cs =>
   obtain⟨m⟩:=cs;rcases m with _|⟨v1,_|⟨v2,m⟩⟩
   ·exact(inferInstance:Cal P (stuck "unhashableTypeError expected"))
   ·show Cal P (Extern.RuntimeError.unhashableTypeError #[.agg #[v1]]);refine Cal.bind (s:=Extern.RuntimeError.described v1) inferInstance (fun x=>?_)
    split<;>infer_instance
   ·exact(inferInstance:Cal P (stuck "unhashableTypeError expected"))
  | _=>exact(inferInstance:Cal P (stuck "unhashableTypeError expected"))
 ·exact(inferInstance:Cal P (stuck "unhashableTypeError expected"))
instance (a:Array Value):Cal P (Extern.RuntimeError.nothing a):=by
 unfold Extern.RuntimeError.nothing
 repeat' (first|infer_instance|(refine Cal.bind ?_ (fun _=>?_))|(refine Cal.GG (fun _ _=>?_) _ _)|(refine Cal.EP (fun _ _=>?_) _ _)|(refine Cal.Ec _ _ _ (fun _ _ _=>?_))|(refine Cal.Iz (fun _=>?_) _)|(refine Cal.ite ?_ ?_)|split|(intro _)|dsimp only)
theorem VU:∀ p∈Extern.RuntimeError.rows,∀ args,Cal P (p.2 args):=by
 intro p hp args;simp only[Extern.RuntimeError.rows,List.mem_cons,List.not_mem_nil,or_false]at hp;rcases hp with rfl|rfl|rfl|rfl|rfl|rfl|rfl|rfl|rfl|rfl|rfl|rfl|rfl|rfl|rfl|rfl<;>try dsimp only
 all_goals
  repeat' (first|infer_instance|(refine Cal.bind ?_ (fun _=>?_))|(refine Cal.GG (fun _ _=>?_) _ _)|(refine Cal.EP (fun _ _=>?_) _ _)|(refine Cal.Ec _ _ _ (fun _ _ _=>?_))|(refine Cal.Iz (fun _=>?_) _)|(refine Cal.ite ?_ ?_)|split|(intro _)|dsimp only)
theorem LK {α:Type}{β:Type} [BEq α] [LawfulBEq α]:∀ {l:List (α×β)}{a:α}{b:β},l.lookup a=some b→(a,b)∈l
 | [],_,_,h=>by simp at h
 | (x,y)::l,a,b,h=>by
  rw[List.lookup_cons]at h
  by_cases e:a=x
  ·subst e;simp at h;subst h;simp
  ·have e2:(a == x)=false:=by simpa using e
   rw[e2]at h;exact List.mem_cons_of_mem _ (LK h)
theorem BR {fn:Func}(n:String) (h:Extern.find fn=Extern.RuntimeError.rows.lookup n):∀ e,Extern.find fn=some e→∀ args,Cal P (e args):=fun e he args =>
 VU _ (LK (h.symm.trans he)) args
end
theorem Dk:EK Try.prog:=by
 have hall:(List.range 155).all (fun f=>match Try.prog.funcs[f]? with|some fn => !(fn.name == "runtime.NumGoroutine") && (fn.body.isSome || ([0,1,138,139,140,141,142,143,144,145,146,147,148,149,150,151,152,153,154]:List Nat).contains f) && (fn.body.isSome || (Extern.findNext fn).isNone)|none=>false)=true:=by kernel_rfl
 have hsz:Try.prog.funcs.size=155:=by kernel_rfl
 have key:∀ (f:FuncId) (fn:Func),Try.prog.funcs[f]?=some fn→(fn.name == "runtime.NumGoroutine")=false∧(fn.body.isSome=true∨f∈([0,1,138,139,140,141,142,143,144,145,146,147,148,149,150,151,152,153,154]:List Nat))∧(fn.body.isSome || (Extern.findNext fn).isNone)=true:=fun f fn hf=>by
  have hlt:f<155:=by rw[← hsz];exact(Array.getElem?_eq_some_iff.1 hf).1
  have h1:=(List.all_eq_true.1 hall) f (by rw[List.mem_range];exact hlt);rw[hf]at h1;simp only[Bool.and_eq_true,Bool.or_eq_true]at h1;exact⟨by simpa using h1.1.1,h1.1.2.imp id (fun x=>by simpa using x),by simpa using h1.2⟩
 refine⟨fun f fn hf=>(key f fn hf).1,fun f fn hf hb=>?_,fun f fn e hf hb he=>?_⟩
 ·have h2:=(key f fn hf).2.2;rw[Option.isNone_iff_eq_none]at hb;rw[hb]at h2
  simpa using h2
 ·have h2:=(key f fn hf).2.1;rw[Option.isNone_iff_eq_none]at hb;rw[hb]at h2;have h3:=h2.elim (fun x=>by cases x) id;clear h2 hb key hall;simp only[List.mem_cons,List.not_mem_nil,or_false]at h3;rcases h3 with rfl|rfl|rfl|rfl|rfl|rfl|rfl|rfl|rfl|rfl|rfl|rfl|rfl|rfl|rfl|rfl|rfl|rfl|rfl
  ·obtain rfl:fn=Try.f0:=by rw[Try.func0]at hf;exact(Option.some.inj hf).symm
   have h:(Extern.find Try.f0).isNone=true:=by kernel_rfl
   rw[he]at h;cases h
  ·obtain rfl:fn=Try.f1:=by rw[Try.func1]at hf;exact(Option.some.inj hf).symm
   have h:(Extern.find Try.f1).isNone=true:=by kernel_rfl
   rw[he]at h;cases h
  ·obtain rfl:fn=Try.f138:=by rw[Try.func138]at hf;exact(Option.some.inj hf).symm
   exact BR "(runtime.boundsError).Error" (by kernel_rfl) e he
  ·obtain rfl:fn=Try.f139:=by rw[Try.func139]at hf;exact(Option.some.inj hf).symm
   exact BR "(runtime.boundsError).RuntimeError" (by kernel_rfl) e he
  ·obtain rfl:fn=Try.f140:=by rw[Try.func140]at hf;exact(Option.some.inj hf).symm
   exact BR "(runtime.errorString).Error" (by kernel_rfl) e he
  ·obtain rfl:fn=Try.f141:=by rw[Try.func141]at hf;exact(Option.some.inj hf).symm
   exact BR "(runtime.errorString).RuntimeError" (by kernel_rfl) e he
  ·obtain rfl:fn=Try.f142:=by rw[Try.func142]at hf;exact(Option.some.inj hf).symm
   exact BR "(runtime.plainError).Error" (by kernel_rfl) e he
  ·obtain rfl:fn=Try.f143:=by rw[Try.func143]at hf;exact(Option.some.inj hf).symm
   exact BR "(runtime.plainError).RuntimeError" (by kernel_rfl) e he
  ·obtain rfl:fn=Try.f144:=by rw[Try.func144]at hf;exact(Option.some.inj hf).symm
   exact BR "(runtime.errorAddressString).Error" (by kernel_rfl) e he
  ·obtain rfl:fn=Try.f145:=by rw[Try.func145]at hf;exact(Option.some.inj hf).symm
   exact BR "(runtime.errorAddressString).RuntimeError" (by kernel_rfl) e he
  ·obtain rfl:fn=Try.f146:=by rw[Try.func146]at hf;exact(Option.some.inj hf).symm
   exact BR "(*runtime.TypeAssertionError).Error" (by kernel_rfl) e he
  ·obtain rfl:fn=Try.f147:=by rw[Try.func147]at hf;exact(Option.some.inj hf).symm
   exact BR "(*runtime.TypeAssertionError).RuntimeError" (by kernel_rfl) e he
  ·obtain rfl:fn=Try.f148:=by rw[Try.func148]at hf;exact(Option.some.inj hf).symm
   exact BR "(*runtime.PanicNilError).Error" (by kernel_rfl) e he
  ·obtain rfl:fn=Try.f149:=by rw[Try.func149]at hf;exact(Option.some.inj hf).symm
   exact BR "(*runtime.PanicNilError).RuntimeError" (by kernel_rfl) e he
  ·obtain rfl:fn=Try.f150:=by rw[Try.func150]at hf;exact(Option.some.inj hf).symm
   have h:(Extern.find Try.f150).isNone=true:=by kernel_rfl
   rw[he]at h;cases h
  ·obtain rfl:fn=Try.f151:=by rw[Try.func151]at hf;exact(Option.some.inj hf).symm
   exact BR "(internal/runtime/maps.unhashableTypeError).Error" (by kernel_rfl) e he
  ·obtain rfl:fn=Try.f152:=by rw[Try.func152]at hf;exact(Option.some.inj hf).symm
   exact BR "(internal/runtime/maps.unhashableTypeError).RuntimeError" (by kernel_rfl) e he
  ·obtain rfl:fn=Try.f153:=by rw[Try.func153]at hf;exact(Option.some.inj hf).symm
   have h:(Extern.find Try.f153).isNone=true:=by kernel_rfl
   rw[he]at h;cases h
  ·obtain rfl:fn=Try.f154:=by rw[Try.func154]at hf;exact(Option.some.inj hf).symm
   have h:Extern.find Try.f154=Extern.ReflectliteType.rows.lookup "(internal/abi.Kind).String" := by kernel_rfl
   rw[h]at he;have hm:=LK he;simp[Extern.ReflectliteType.rows]at hm;subst hm;intro args
   try dsimp only
   repeat' (first|infer_instance|(refine Cal.bind ?_ (fun _=>?_))|(refine Cal.GG (fun _ _=>?_) _ _)|(refine Cal.EP (fun _ _=>?_) _ _)|(refine Cal.Ec _ _ _ (fun _ _ _=>?_))|(refine Cal.Iz (fun _=>?_) _)|(refine Cal.ite ?_ ?_)|split|(intro _)|dsimp only)
end
section
open Go Go.Conc
open Go.RowKit
structure A8 where
 heads:Int
 free:Int
 half:Bool
 deriving DecidableEq,Inhabited
structure BA where
 strip:Int
 rate:Int
 farmer:Int
 deriving DecidableEq,Inhabited
structure Gq (B:Nat) (w:World) (bd:Nat) (ps:List A8) (ts:List BA) (q:List ((Int×Int)×Int)) (pb po pc tb to_ tc mb clock:Nat) (ents:Array MapEntry):Prop where
 lb:bd<B
 lp:pb<B
 lt:tb<B
 lm:mb<B
 c4:w.cell? ⟨bd,4,none⟩=some (.slice (some ⟨pb,po,none⟩) ps.length pc)
 c5:∃ ta,w.cell? ⟨bd,5,none⟩=some (.slice ta ts.length tc)∧(ts≠[]→ta=some ⟨tb,to_,none⟩)
 c6:w.cell? ⟨bd,6,none⟩=some (.map (some mb))
 p0:∀ (o:Nat) (h:o<ps.length),w.cell? ⟨pb,po+o*3,none⟩=some (.int .i64 ps[o].heads)
 p1:∀ (o:Nat) (h:o<ps.length),w.cell? ⟨pb,po+o*3+1,none⟩=some (.int .i64 ps[o].free)
 p2:∀ (o:Nat) (h:o<ps.length),w.cell? ⟨pb,po+o*3+2,none⟩=some (.bool ps[o].half)
 t1:∀ (i:Nat) (h:i<ts.length),w.cell? ⟨tb,to_+i*3+1,none⟩=some (.int .i64 ts[i].rate)
 map:w.heap[mb]?=some (.map ents clock)
 ents:FU ents.toList q
 free0:∀ p∈ps,0≤p.free∧p.free≤1000000
 rate0:∀ t∈ts,0≤t.rate∧t.rate≤100000
 heads0:∀ k,0≤(atK q k).getD 0∧(atK q k).getD 0≤1000000
theorem Gq.keep {B:Nat}{w w':World}{bd:Nat}{ps:List A8}{ts:List BA}{q:List ((Int×Int)×Int)}{pb po pc tb to_ tc mb clock:Nat}{ents:Array MapEntry}(h:Gq B w bd ps ts q pb po pc tb to_ tc mb clock ents) (hb:Below B w w'):Gq B w' bd ps ts q pb po pc tb to_ tc mb clock ents :=
 ⟨h.lb,h.lp,h.lt,h.lm,(hb.cell (p:=⟨bd,4,none⟩) h.lb).trans h.c4,⟨_,(hb.cell (p:=⟨bd,5,none⟩) h.lb).trans h.c5.choose_spec.1,h.c5.choose_spec.2⟩,(hb.cell (p:=⟨bd,6,none⟩) h.lb).trans h.c6,
  fun o ho=>(hb.cell (p:=⟨pb,po+o*3,none⟩) h.lp).trans (h.p0 o ho),fun o ho=>(hb.cell (p:=⟨pb,po+o*3+1,none⟩) h.lp).trans (h.p1 o ho),fun o ho=>(hb.cell (p:=⟨pb,po+o*3+2,none⟩) h.lp).trans (h.p2 o ho),
  fun i hi=>(hb.cell (p:=⟨tb,to_+i*3+1,none⟩) h.lt).trans (h.t1 i hi),(hb.block mb h.lm).trans h.map,h.ents,h.free0,h.rate0,h.heads0⟩
theorem Gq.at5 {B:Nat}{w:World}{bd:Nat}{ps:List A8}{ts:List BA}{q:List ((Int×Int)×Int)}{pb po pc tb to_ tc mb clock:Nat}{ents:Array MapEntry}(h:Gq B w bd ps ts q pb po pc tb to_ tc mb clock ents) {i:Nat}(hi:i<ts.length):w.cell? ⟨bd,5,none⟩=some (.slice (some ⟨tb,to_,none⟩) ts.length tc):=by
 obtain⟨ta,h1,h2⟩:=h.c5;rw[h2 (fun e=>by subst e;simp at hi)]at h1;exact h1
def atV (ps:List A8) (ts:List BA) (q:List ((Int×Int)×Int)) (o i:Nat):Int:=ofV (ps.getD o default).free (ps.getD o default).half ((atK q ((i:Int),(o:Int))).getD 0) (ts.getD i default).rate
def Dy (f:Nat→Int):Nat→Int
 | 0=>0
 | k+1=>Dy f k+f k
theorem Hg {fr q rate:Int}{half:Bool}(hf:0≤fr) (hq0:0≤q) (hq:q≤1000000) (hr0:0≤rate) (hr:rate≤100000):0≤ofV fr half q rate∧ofV fr half q rate≤200000000000:=by
 have hm0:0≤(if fr<q then q-fr else 0):=by split<;>omega
 have hm1:(if fr<q then q-fr else 0)≤1000000:=by split<;>omega
 have h1:=Int.mul_nonneg hm0 hr0;have h2:(if fr<q then q-fr else 0)*rate≤1000000*100000:=Int.mul_le_mul hm1 hr hr0 (by omega);unfold ofV
 cases half
 ·simp only[Bool.false_eq_true,if_false];omega
 ·simp only[if_true];omega
theorem CV {f:Nat→Int}(h:∀ k,0≤f k∧f k≤200000000000):∀ k:Nat,0≤Dy f k∧Dy f k≤200000000000*(k:Int)
 | 0=>⟨by simp[Dy],by simp[Dy]⟩
 | k+1=>by
  have:=CV h k;have:=h k;simp only[Dy]
  constructor
  ·omega
  ·push_cast;omega
theorem Ho {c N ma n:Nat}{fn f:FuncId}{Q:Exit→Act→World→Prop}{a:Act}{w:World}{av:Array Value}{z:Int}(ops:Array Oper) (i:Nat) (rest:List Nat) (o:Oper) (ho:ops[i]?=some o) (hg:o.guard=none)
  {args:Array Operand}{ats:Array TypeId}(hop:o.op=.call { callee:=.value (.func f),args,argTypes:=ats }) (hargs:args.map a.eval=av)
  (hcall:CallsC Try.prog false (Az Aw c N) (Be Aw c N) f av ma w (fun v w'=>v=.int .i64 z∧Az Aw c N w w'))
  (hn:∀ w',Az Aw c N w w'→OpsC Try.prog false (Az Aw c N) (Be Aw c N) fn ops rest n Q (a.put o.dst (.int .i64 z)) w'):OpsC Try.prog false (Az Aw c N) (Be Aw c N) fn ops (i::rest) (n+ma+3) Q a w:=by
 subst hargs;exact opsC_call Ah ho (by simp[Region.wanted,hg]) hop hcall fun v w' hv=>by rw[hv.1];exact hn w' hv.2
theorem Sl.TL {n:Nat}(x y:Value) (hn:2≤n):Sl (⟨#[x,y]++Array.replicate (n-2) undef,[]⟩:Act) n [(0,x),(1,y)]:=by
 have hs:(⟨#[x,y]++Array.replicate (n-2) undef,[]⟩:Act).tmps.size=n:=by simp;omega
 exact((Sl.nil ⟨hs,rfl,fun t v hv=>by simp at hv⟩ (m:=[])).cons (t:=1) (by rw[Array.getElem?_append_left (by simp)];rfl)).cons (t:=0) (by rw[Array.getElem?_append_left (by simp)];rfl)
theorem XX:(fun r=>Try.f79.body=some (.seq (r 0) (.seq (r 1) .ret))) (Ac Try.f79):=by show _=_;kernel_rfl
def Wh (ps:List A8) (ts:List BA) (q:List ((Int×Int)×Int)) (o:Nat):Int:=A7 (Dy (atV ps ts q o) ts.length)
theorem Aby:∃ m,∀ (B N c:Nat),B≤N→B≤c→∀ (w:World) (bd o:Nat) (ps:List A8) (ts:List BA) (q:List ((Int×Int)×Int)) (pb po pc tb to_ tc mb clock:Nat) (ents:Array MapEntry),B≤w.heap.size→Gq B w bd ps ts q pb po pc tb to_ tc mb clock ents→o<ps.length→ts.length≤1000 →
  CallsC Try.prog false (Az Aw c N) (Be Aw c N) 79 #[.pointer (some ⟨bd,0,none⟩),.int .i64 (o:Int)] m w (fun v w'=>v=.int .i64 (Wh ps ts q o)∧Az Aw c N w w'):=by
 obtain⟨mc,hcoins⟩:=TQ;obtain⟨ma,hat⟩:=Ach;obtain⟨ms,hsum⟩:=Aa8 1000 ma (Nat.le_refl _);refine⟨3+((2+mc+3+ms+3+1+1+1+1+1)+1+1)+1,fun B N c hBN hBc w bd o ps ts q pb po pc tb to_ tc mb clock ents hBw hD ho ht=>callsC_of_wpC Try.func79 (by kernel_rfl) XX ?_⟩;have Z:Sl (⟨#[.pointer (some ⟨bd,0,none⟩),.int .i64 (o:Int)]++Array.replicate (Try.f79.ntmps-(#[.pointer (some ⟨bd,0,none⟩),.int .i64 (o:Int)]:Array Value).size) undef,[]⟩:Act) 11 [(0,.pointer (some ⟨bd,0,none⟩)),(1,.int .i64 (o:Int))]:=by rw[Try.ntmps79];exact Sl.TL _ _ (by omega)
 revert Z;generalize (Act.mk _ _)=a;intro Z
 have hb:∀ k,0≤atV ps ts q o k∧atV ps ts q o k≤200000000000:=fun k=>by
  have hp:0≤(ps.getD o default).free:=by
   rw[List.getD_eq_getElem?_getD,List.getElem?_eq_getElem ho];exact(hD.free0 _ (List.getElem_mem ho)).1
  have hr:0≤(ts.getD k default).rate∧(ts.getD k default).rate≤100000:=by
   rw[List.getD_eq_getElem?_getD]
   cases hk:ts[k]? with
   | none=>simp[show (default:BA).rate=0 from rfl]
   | some t=>exact hD.rate0 t (List.mem_of_getElem? hk)
  exact Hg hp (hD.heads0 _).1 (hD.heads0 _).2 hr.1 hr.2
 have hsb:=CV hb
 have hS:=hsum B N c hBN hBc w bd ts.length tc hD.c5.choose (o:Int) 80 _ #[.pointer (some ⟨bd,0,none⟩)] #[] (atV ps ts q o) (Dy (atV ps ts q o)) hBw hD.lb hD.c5.choose_spec.1 ht Try.func80 (by kernel_rfl) (by kernel_rfl) rfl (fun _=>rfl)
  (fun k hk=>⟨(hsb k).1,Int.le_trans (hsb k).2 (by omega)⟩) (fun w₁ j hr hj=>by
   have hb1:Below B w w₁:=hr.below hBN hBw hBc;have hD1:=hD.keep hb1;have:=hat B N c hBN hBc w₁ bd pb po ps.length pc tb to_ ts.length tc mb clock j o ents q ps[o].heads ps[o].free ts[j].rate ps[o].half (Nat.le_trans hBw hb1.size) hD1.lb hD1.lp hD1.lt hD1.lm hD1.c4 (hD1.at5 hj) hD1.c6 (hD1.p0 o ho) (hD1.p1 o ho) (hD1.p2 o ho) (hD1.t1 j hj) hD1.map hD1.ents hj ho (hD1.free0 _ (List.getElem_mem ho)).1 (hD1.free0 _ (List.getElem_mem ho)).2 (hD1.heads0 _).1 (hD1.heads0 _).2 (hD1.rate0 _ (List.getElem_mem hj)).1 (hD1.rate0 _ (List.getElem_mem hj)).2
   have e:atV ps ts q o j=ofV ps[o].free ps[o].half ((atK q ((j:Int),(o:Int))).getD 0) ts[j].rate:=by
    unfold atV;rw[List.getD_eq_getElem?_getD,List.getElem?_eq_getElem ho,List.getD_eq_getElem?_getD,List.getElem?_eq_getElem hj];rfl
   rw[e];exact this)
 have hs2:=hsb ts.length;have hC:=fun w1=>hcoins N c w1 (Dy (atV ps ts q o) ts.length) hs2.1 (by omega)
 refine wpC_seq (n₁:=3) (n₂:=(2+mc+3+ms+3+1+1+1+1+1)+1+1) Ah ?_;rw[show Ac Try.f79 0=Code.region 0 _ false from rfl];refine wpC_region Ah ?_;simp only[List.size_toArray,List.length_cons,List.length_nil,Nat.reduceAdd,Nat.zero_add,List.range,List.range.loop]
 co_apply Ai Ah (.int .i64 0) rfl (by rfl)
 ·exact fun _ _=>(by exact oq)
 refine Z.goC (by decide) ?_;clear Z;intro a Z;refine opsC_nil Ah ?_;refine wpC_seq (n₁:=(2+mc+3+ms+3+1+1+1+1+1)) (n₂:=1) Ah ?_;rw[show Ac Try.f79 1=Code.region 1 _ false from rfl];refine wpC_region Ah ?_;simp only[List.size_toArray,List.length_cons,List.length_nil,Nat.reduceAdd,Nat.zero_add,List.range,List.range.loop]
 co_apply Ai Ah (.pointer (some ⟨bd,0,none⟩)) rfl (by rfl)
 ·exact fun _ _=>(by have e0:=Z.g 0;exact oq)
 refine Z.goC (by decide) ?_;clear Z;intro a Z
 co_apply Ai Ah (.int .i64 (o:Int)) rfl (by rfl)
 ·exact fun _ _=>(by have e1:=Z.g 1;exact oq)
 refine Z.goC (by decide) ?_;clear Z;intro a Z
 co_apply Ai Ah (.pointer (some ⟨bd,0,none⟩)) rfl (by rfl)
 ·exact fun _ _=>(by have e0:=Z.g 0;exact oq)
 refine Z.goC (by decide) ?_;clear Z;intro a Z
 co_apply Ai Ah (.func (.func 80) #[.pointer (some ⟨bd,0,none⟩)] #[]) rfl (by rfl)
 ·exact fun _ _=>(by have e7:=Z.g 7;exact oq)
 refine Z.goC (by decide) ?_;clear Z;intro a Z;have E (t:Nat) (v:Value) (e:a.tmps[t]?=some v):a.eval (.tmp t)=v:=by simp[Act.eval,Array.getD_eq_getD_getElem?,e]
 refine Ho (n:=2+mc+3) (ma:=ms) (z:=Dy (atV ps ts q o) ts.length) _ _ _ _ rfl rfl rfl (by rw[List.map_toArray,List.map_cons,List.map_cons,List.map_cons,List.map_nil,E 5 _ (Z.g 5),E 6 _ (Z.g 6),E 8 _ (Z.g 8)]) hS fun w1 hr1=>?_
 clear E;refine Z.goC (by decide) fun a' Z'=>?_
 clear Z;revert Z';generalize a'=a;intro Z;have E (t:Nat) (v:Value) (e:a.tmps[t]?=some v):a.eval (.tmp t)=v:=by simp[Act.eval,Array.getD_eq_getD_getElem?,e]
 refine Ho (n:=2) (ma:=mc) (z:=Wh ps ts q o) _ _ _ _ rfl rfl rfl (by rw[List.map_toArray,List.map_cons,List.map_nil,E 9 _ (Z.g 9)]) (hC w1) fun w2 hr2=>?_
 clear E;refine Z.goC (by decide) fun a' Z'=>?_
 clear Z;revert Z';generalize a'=a;intro Z
 co_apply Ai Ah (.int .i64 (Wh ps ts q o)) rfl (by rfl)
 ·exact fun _ _=>(by have e10:=Z.g 10;exact oq)
 refine Z.goC (by decide) ?_;clear Z;intro a Z;refine opsC_nil Ah ?_;refine wpC_ret Ah ?_
 try simp only[xt,↓reduceIte,Nat.reduceEqDiff]
 refine⟨Z.defers,.int .i64 (Wh ps ts q o),?_,rfl,hr1.trans hr2⟩;have h4:=Z.get 4 _ rfl;have:=resultsC_tmp (P:=Try.prog) Try.results79 a.tmps;rw[Array.getD_eq_getD_getElem?,h4]at this;exact this
theorem XU:∃ mf,∀ (w0:World) (bd:Nat) (ps:List A8) (ts:List BA) (q:List ((Int×Int)×Int)) (pb po pc tb to_ tc mb clock:Nat) (ents:Array MapEntry),Gq w0.heap.size w0 bd ps ts q pb po pc tb to_ tc mb clock ents→ts.length≤1000 →
  NZ w0 ps.length mf 79 #[.pointer (some ⟨bd,0,none⟩)] #[] (Wh ps ts q):=by
 obtain⟨m,h⟩:=Aby;refine⟨m,fun w0 bd ps ts q pb po pc tb to_ tc mb clock ents hD ht N c w₁ i hi hN hc hb=>?_⟩
 have hD1:Gq w0.heap.size w₁ bd ps ts q pb po pc tb to_ tc mb clock ents:=by
  have hD':Gq w0.heap.size { w0 with os:=w₁.os,tape:=w₁.tape,output:=w₁.output } bd ps ts q pb po pc tb to_ tc mb clock ents:=⟨hD.lb,hD.lp,hD.lt,hD.lm,hD.c4,hD.c5,hD.c6,hD.p0,hD.p1,hD.p2,hD.t1,hD.map,hD.ents,hD.free0,hD.rate0,hD.heads0⟩;exact hD'.keep ⟨rfl,rfl,rfl,hb.1,hb.2⟩
 exact h w0.heap.size N c hN hc w₁ bd i ps ts q pb po pc tb to_ tc mb clock ents hb.1 hD1 hi ht
theorem ZE {M:Machine}{w0:World}{bd:Nat}{ps:List A8}{ts:List BA}{q:List ((Int×Int)×Int)}{pb po pc tb to_ tc mb clock:Nat}{ents:Array MapEntry}(hD:Gq w0.heap.size w0 bd ps ts q pb po pc tb to_ tc mb clock ents) (ht:ts.length≤1000) (hp:ps.length≤1000) :
  Dz Try.prog M 78 #[.pointer (some ⟨bd,0,none⟩),.func (.func 79) #[.pointer (some ⟨bd,0,none⟩)] #[]] w0
   fun e w'=>∃ g row,e=.returned (.slice (some ⟨g,0,none⟩) ps.length ps.length)∧Below w0.heap.size w0 w'∧w0.heap.size≤g∧w'.heap[g]?=some (.cells row 3 (0,0))∧row.size=ps.length∧∀ i,i<ps.length→row[i]?=some (.int .i64 (Wh ps ts q i)):=by
 obtain⟨mf,h⟩:=XU;exact Qg Dk hD.c4 hp Try.func79 (by kernel_rfl) (by kernel_rfl) (h w0 bd ps ts q pb po pc tb to_ tc mb clock ents hD ht)
end
section
open Go Go.Conc
open Go.RowKit
theorem Tc:(fun r=>Try.f92.body=some (.seq (r 0) (.seq (r 1) .ret))) (Ac Try.f92):=by show _=_;kernel_rfl
def Gw (ts:List BA) (q:List ((Int×Int)×Int)) (o i:Nat):Int:=ofV 0 false ((atK q ((i:Int),(o:Int))).getD 0) (ts.getD i default).rate
theorem Aaz:∃ m,∀ (B N c:Nat),B≤N→B≤c→∀ (w:World) (bd o i:Nat) (ps:List A8) (ts:List BA) (q:List ((Int×Int)×Int)) (pb po pc tb to_ tc mb clock:Nat) (ents:Array MapEntry),B≤w.heap.size→Gq B w bd ps ts q pb po pc tb to_ tc mb clock ents→i<ts.length →
  CallsC Try.prog false (Az Aw c N) (Be Aw c N) 92 #[.pointer (some ⟨bd,0,none⟩),.int .i64 (o:Int),.int .i64 (i:Int)] m w (fun v w'=>v=.int .i64 (Gw ts q o i)∧Az Aw c N w w'):=by
 obtain⟨mo,hof⟩:=Acg;refine⟨3+((2+mo+3+1+1+1+1+1+1+1+1+1+1+1+1)+1+1)+1,fun B N c hBN hBc w bd o i ps ts q pb po pc tb to_ tc mb clock ents hBw hD hi=>callsC_of_wpC Try.func92 (by kernel_rfl) Tc ?_⟩;have Z:Sl (⟨#[.pointer (some ⟨bd,0,none⟩),.int .i64 (o:Int),.int .i64 (i:Int)]++Array.replicate (Try.f92.ntmps-(#[.pointer (some ⟨bd,0,none⟩),.int .i64 (o:Int),.int .i64 (i:Int)]:Array Value).size) undef,[]⟩:Act) 19 [(0,.pointer (some ⟨bd,0,none⟩)),(1,.int .i64 (o:Int)),(2,.int .i64 (i:Int))]:=by rw[Try.ntmps92];exact Sl.NK _ _ _ (by omega)
 revert Z;generalize (Act.mk _ _)=a;intro Z;have hcall:=hof B N c hBN hBc w bd tb to_ ts.length tc i 0 0 ((atK q ((i:Int),(o:Int))).getD 0) ts[i].rate false hBw hD.lb hD.lt (hD.at5 hi) (hD.t1 i hi) hi (Int.le_refl _) (by omega) (hD.heads0 _).1 (hD.heads0 _).2 (hD.rate0 _ (List.getElem_mem hi)).1 (hD.rate0 _ (List.getElem_mem hi)).2
 have e:Gw ts q o i=ofV 0 false ((atK q ((i:Int),(o:Int))).getD 0) ts[i].rate:=by
  unfold Gw;rw[List.getD_eq_getElem?_getD,List.getElem?_eq_getElem hi];rfl
 rw[e];clear e;have hlook:=fun (w:World) (hm:w.heap[mb]?=some (.map ents clock))=>(FH w mb clock ents q #[] ((i:Int),(o:Int)) hm hD.ents).1
 have hlev:=fun (w:World) (hm:w.heap[mb]?=some (.map ents clock)) (es:Array Event)=>(FH w mb clock ents q es ((i:Int),(o:Int)) hm hD.ents).2
 unfold gk at hlook hlev
 dsimp only at hlook hlev
 have hbd:=hD.lb;have hmb:=hD.lm;have h6:=hD.c6;have hmap:=hD.map;clear hof hD;generalize (atK q ((i:Int),(o:Int))).getD 0=y at hcall hlook ⊢;generalize ofV 0 false y ts[i].rate=z at hcall ⊢;refine wpC_seq (n₁:=3) (n₂:=(2+mo+3+1+1+1+1+1+1+1+1+1+1+1+1)+1+1) Ah ?_;rw[show Ac Try.f92 0=Code.region 0 _ false from rfl];refine wpC_region Ah ?_;simp only[List.size_toArray,List.length_cons,List.length_nil,Nat.reduceAdd,Nat.zero_add,List.range,List.range.loop]
 co_apply Ai Ah (.int .i64 0) rfl (by rfl)
 ·exact fun _ _=>(by exact oq)
 refine Z.goC (by decide) ?_;clear Z;intro a Z;refine opsC_nil Ah ?_;refine wpC_seq (n₁:=(2+mo+3+1+1+1+1+1+1+1+1+1+1+1+1)) (n₂:=1) Ah ?_;rw[show Ac Try.f92 1=Code.region 1 _ false from rfl];refine wpC_region Ah ?_;simp only[List.size_toArray,List.length_cons,List.length_nil,Nat.reduceAdd,Nat.zero_add,List.range,List.range.loop]
 co_apply Ai Ah (.pointer (some ⟨bd,0,none⟩)) rfl (by rfl)
 ·exact fun _ _=>(by have e0:=Z.g 0;exact oq)
 refine Z.goC (by decide) ?_;clear Z;intro a Z
 co_apply Ai Ah (.agg #[.int .i64 0,.int .i64 0,.bool false]) rfl (by rfl)
 ·exact fun _ _=>(by exact oq)
 refine Z.goC (by decide) ?_;clear Z;intro a Z
 co_apply Ai Ah (.int .i64 (i:Int)) rfl (by rfl)
 ·exact fun _ _=>(by have e2:=Z.g 2;exact oq)
 refine Z.goC (by decide) ?_;clear Z;intro a Z
 co_apply Ai Ah (.pointer (some ⟨bd,0,none⟩)) rfl (by rfl)
 ·exact fun _ _=>(by have e0:=Z.g 0;exact oq)
 refine Z.goC (by decide) ?_;clear Z;intro a Z
 co_apply Ai Ah (.pointer (some ⟨bd,0,none⟩)) rfl (by rfl)
 ·exact fun _ _=>(by have e10:=Z.g 10;exact oq)
 refine Z.goC (by decide) ?_;clear Z;intro a Z
 co_apply Ai Ah (.pointer (some ⟨bd,6,none⟩)) rfl (by rfl)
 ·exact fun _ _=>(by have e11:=Z.g 11;exact oq)
 refine Z.goC (by decide) ?_;clear Z;intro a Z
 co_apply Ai Ah (.map (some mb)) rfl (by rfl)
 ·
  intro w₂ h₂;have e12:=Z.g 12;have hbl2:Below B w w₂:=h₂.below hBN hBw hBc;have hc:=(hbl2.cell (p:=⟨bd,6,none⟩) hbd).trans h6;have hrd:=BZ (Safe:=Aw) (c:=c) (N:=N) (w:=w₂) (b:=bd) (o:=6) (Nat.lt_of_lt_of_le (Nat.lt_of_lt_of_le hbd hBw) h₂.size) (.inl ⟨by omega,by omega⟩);clear hbl2;refine⟨run_eq_of (fun Kk hKk=>?_),Be.still ?_⟩
  ·go_simp;exact hKk
  ·co_evs (exact hrd)
 refine Z.goC (by decide) fun a' Z'=>?_
 clear Z;revert Z';generalize a'=a;intro Z
 co_apply Ai Ah (.int .i64 (i:Int)) rfl (by rfl)
 ·exact fun _ _=>(by have e2:=Z.g 2;exact oq)
 refine Z.goC (by decide) ?_;clear Z;intro a Z
 co_apply Ai Ah (.int .i64 (o:Int)) rfl (by rfl)
 ·exact fun _ _=>(by have e1:=Z.g 1;exact oq)
 refine Z.goC (by decide) ?_;clear Z;intro a Z
 co_apply Ai Ah (.agg #[.int .i64 (i:Int),.int .i64 (o:Int)]) rfl (by rfl)
 ·exact fun _ _=>(by have e14:=Z.g 14;have e15:=Z.g 15;exact oq)
 refine Z.goC (by decide) ?_;clear Z;intro a Z
 co_apply Ai Ah (.int .i64 y) rfl (by rfl)
 ·
  intro w₂ h₂;have e13:=Z.g 13;have e16:=Z.g 16;have hm2:w₂.heap[mb]?=some (.map ents clock):=(h₂.block mb (Nat.lt_of_lt_of_le hmb hBw) (.inl ⟨by omega,by omega⟩)).trans hmap;have hl1:=hlook w₂ hm2;have hl2:=hlev w₂ hm2 #[];have hlt2:mb<w₂.heap.size:=lt_of_some hm2;refine⟨run_eq_of (fun Kk hKk=>?_),Be.still ?_⟩
  ·go_simp;exact hKk
  ·intro e he;have hm:=mem_listed he;simp[go_sem, *]at hm;subst hm;intro x hx b' hb';simp[MemAct.ofEvent,MemAct.touch?]at hx;subst hx;simp[blk]at hb';subst hb';exact⟨rfl,hlt2,.inl ⟨by omega,by omega⟩⟩
 refine Z.goC (by decide) fun a' Z'=>?_
 clear Z;revert Z';generalize a'=a;intro Z;have E (t:Nat) (v:Value) (e:a.tmps[t]?=some v):a.eval (.tmp t)=v:=by simp[Act.eval,Array.getD_eq_getD_getElem?,e]
 refine Ho (n:=2) (ma:=mo) (z:=z) _ _ _ _ rfl rfl rfl (by rw[List.map_toArray,List.map_cons,List.map_cons,List.map_cons,List.map_cons,List.map_nil,E 7 _ (Z.g 7),E 8 _ (Z.g 8),E 9 _ (Z.g 9),E 17 _ (Z.g 17)]) hcall fun w2 hr2=>?_
 clear E;refine Z.goC (by decide) fun a' Z'=>?_
 clear Z;revert Z';generalize a'=a;intro Z
 co_apply Ai Ah (.int .i64 z) rfl (by rfl)
 ·exact fun _ _=>(by have e18:=Z.g 18;exact oq)
 refine Z.goC (by decide) ?_;clear Z;intro a Z;refine opsC_nil Ah ?_;refine wpC_ret Ah ?_
 try simp only[xt,↓reduceIte,Nat.reduceEqDiff]
 refine⟨Z.defers,.int .i64 z,?_,rfl,hr2⟩;have h6:=Z.get 6 _ rfl;have:=resultsC_tmp (P:=Try.prog) Try.results92 a.tmps;rw[Array.getD_eq_getD_getElem?,h6]at this;exact this
theorem P6 {c N ma i:Nat}{fn f:FuncId}{a:Act}{w:World}{av:Array Value}{z:Int}(ops:Array Oper) (o:Oper) (ho:ops[i]?=some o) (hg:o.guard=none)
  {args:Array Operand}{ats:Array TypeId}(hop:o.op=.call { callee:=.value (.func f),args,argTypes:=ats }) (hargs:args.map a.eval=av)
  (hcall:CallsC Try.prog false (Az Aw c N) (Be Aw c N) f av ma w (fun v w'=>v=.int .i64 z∧Az Aw c N w w')) :
  OpN Try.prog false (Az Aw c N) (Be Aw c N) fn ops i (ma+3) (fun a' w'=>Az Aw c N w w'∧∃ v,a'=a.put o.dst v∧v=.int .i64 z) a w:=by
 subst hargs;exact Uo Ah ho hg hop hcall (fun v w' hv=>⟨hv.2,v,rfl,hv.1⟩)
theorem SS:(fun r=>Try.f91.body=some (.seq (r 0) (.seq (r 1) .ret))) (Ac Try.f91):=by show _=_;kernel_rfl
def Me (ps:List A8) (ts:List BA) (q:List ((Int×Int)×Int)) (o:Nat):Int:=A7 (Dy (Gw ts q o) ts.length)-Wh ps ts q o
theorem LW {B:Nat}{w:World}{bd:Nat}{ps:List A8}{ts:List BA}{q:List ((Int×Int)×Int)}{pb po pc tb to_ tc mb clock:Nat}{ents:Array MapEntry}(hD:Gq B w bd ps ts q pb po pc tb to_ tc mb clock ents) {o:Nat}(ho:o<ps.length) (k:Nat):(0≤atV ps ts q o k∧atV ps ts q o k≤200000000000)∧(0≤Gw ts q o k∧Gw ts q o k≤200000000000):=by
 have hp:0≤(ps.getD o default).free:=by
  rw[List.getD_eq_getElem?_getD,List.getElem?_eq_getElem ho];exact(hD.free0 _ (List.getElem_mem ho)).1
 have hr:0≤(ts.getD k default).rate∧(ts.getD k default).rate≤100000:=by
  rw[List.getD_eq_getElem?_getD]
  cases hk:ts[k]? with
  | none=>simp[show (default:BA).rate=0 from rfl]
  | some t=>exact hD.rate0 t (List.mem_of_getElem? hk)
 exact⟨Hg hp (hD.heads0 _).1 (hD.heads0 _).2 hr.1 hr.2,Hg (Int.le_refl _) (hD.heads0 _).1 (hD.heads0 _).2 hr.1 hr.2⟩
theorem Aav:∃ m,∀ (B N c:Nat),B≤N→B≤c→∀ (w:World) (bd vb o:Nat) (ps:List A8) (ts:List BA) (q:List ((Int×Int)×Int)) (pb po pc tb to_ tc mb clock:Nat) (ents:Array MapEntry),B≤w.heap.size→Gq B w bd ps ts q pb po pc tb to_ tc mb clock ents→vb<B→w.cell? ⟨vb,0,none⟩=some (.pointer (some ⟨bd,0,none⟩))→o<ps.length→ts.length≤1000 →
  CallsC Try.prog false (Az Aw c N) (Be Aw c N) 91 #[.int .i64 (o:Int),.pointer (some ⟨vb,0,none⟩)] m w (fun v w'=>v=.int .i64 (Me ps ts q o)∧Az Aw c N w w'):=by
 obtain⟨mc,hcoins⟩:=TQ;obtain⟨mp,hpl⟩:=Aaz;obtain⟨md,hdue⟩:=Aby;obtain⟨ms,hsum⟩:=Aa8 1000 mp (Nat.le_refl _);refine⟨3+(11*(ms+mc+md+3)+2+1+1)+1,fun B N c hBN hBc w bd vb o ps ts q pb po pc tb to_ tc mb clock ents hBw hD hvb hv ho ht=>callsC_of_wpC Try.func91 (by kernel_rfl) SS ?_⟩;have Z:Sl (⟨#[.int .i64 (o:Int),.pointer (some ⟨vb,0,none⟩)]++Array.replicate (Try.f91.ntmps-(#[.int .i64 (o:Int),.pointer (some ⟨vb,0,none⟩)]:Array Value).size) undef,[]⟩:Act) 14 [(0,.int .i64 (o:Int)),(1,.pointer (some ⟨vb,0,none⟩))]:=by rw[Try.ntmps91];exact Sl.TL _ _ (by omega)
 revert Z;generalize (Act.mk _ _)=a;intro Z;have hb:=fun k=>(LW hD ho k).2
 have hsb:=CV hb
 have hS:=hsum B N c hBN hBc w bd ts.length tc hD.c5.choose (o:Int) 92 _ #[.pointer (some ⟨bd,0,none⟩)] #[] (Gw ts q o) (Dy (Gw ts q o)) hBw hD.lb hD.c5.choose_spec.1 ht Try.func92 (by kernel_rfl) (by kernel_rfl) rfl (fun _=>rfl)
  (fun k hk=>⟨(hsb k).1,Int.le_trans (hsb k).2 (by omega)⟩) (fun w₁ j hr hj=>by
   have hb1:Below B w w₁:=hr.below hBN hBw hBc;exact hpl B N c hBN hBc w₁ bd o j ps ts q pb po pc tb to_ tc mb clock ents (Nat.le_trans hBw hb1.size) (hD.keep hb1) hj)
 have hs2:=hsb ts.length;have hC:=hcoins N c w (Dy (Gw ts q o) ts.length) hs2.1 (by omega);have hU:=hdue B N c hBN hBc w bd o ps ts q pb po pc tb to_ tc mb clock ents hBw hD ho ht
 have hw:IntKind.i64.wrap (A7 (Dy (Gw ts q o) ts.length)-Wh ps ts q o)=Me ps ts q o:=by
  have ha:=CV (fun k=>(LW hD ho k).1) ts.length;unfold Me Wh A7;exact IntWalk.i64_in _ (by omega)
 clear hcoins hpl hdue hsum hb hsb hs2 hD;generalize hcv:A7 (Dy (Gw ts q o) ts.length)=cv at hC hw;generalize Dy (Gw ts q o) ts.length=z at hS hC;generalize Wh ps ts q o=u at hU hw;generalize Me ps ts q o=s at hw ⊢;refine wpC_seq (n₁:=3) (n₂:=11*(ms+mc+md+3)+2+1+1) Ah ?_;rw[show Ac Try.f91 0=Code.region 0 _ false from rfl];refine wpC_region Ah ?_;simp only[List.size_toArray,List.length_cons,List.length_nil,Nat.reduceAdd,Nat.zero_add,List.range,List.range.loop]
 co_apply Ai Ah (.int .i64 0) rfl (by rfl)
 ·exact fun _ _=>(by exact oq)
 refine Z.goC (by decide) ?_;clear Z;intro a Z;refine opsC_nil Ah ?_;refine wpC_seq (n₁:=11*(ms+mc+md+3)+2) (n₂:=1) Ah ?_;rw[show Ac Try.f91 1=Code.region 1 _ true from rfl]
 refine Ig (B:=ms+mc+md+3) (by kernel_rfl) Ah KE ZG (m:=[(0,.int .i64 (o:Int)),(1,.pointer (some ⟨vb,0,none⟩))]) Z.sb [some 4,some 5,some 6,some 7,some 8,some 9,some 10,some 11,some 12,some 13,some 3] rfl rfl (by kernel_rfl)
  (fun j x=>match j with|0=>x=.pointer (some ⟨bd,0,none⟩)|1=>x=.int .i64 (o:Int)|2=>x=.pointer (some ⟨bd,0,none⟩)|3=>x=.func (.func 92) #[.pointer (some ⟨bd,0,none⟩)] #[]|4=>x=.int .i64 z|5=>x=.int .i64 cv|6=>x=.pointer (some ⟨bd,0,none⟩)|7=>x=.int .i64 (o:Int)|8=>x=.int .i64 u|9=>x=.int .i64 s|10=>x=.int .i64 s|_=>True) ?_ ?_
 ·clear Z;intro k o hk ho' L a hLk Z hsd hd;have hlt:∀ k:Nat,k<11→k=0∨k=1∨k=2∨k=3∨k=4∨k=5∨k=6∨k=7∨k=8∨k=9∨k=10:=by decide
  rcases hlt k hk with rfl|rfl|rfl|rfl|rfl|rfl|rfl|rfl|rfl|rfl|rfl
  ·obtain rfl:=Option.some.inj ho';have e1:=Z.g 1;clear hsd hd;refine(AC (.pointer (some ⟨bd,0,none⟩)) rfl rfl (fun w₂ h₂=>?_) (fun w₂ h₂=>⟨h₂,_,rfl,rfl⟩)).more (by omega);have hbl2:Below B w w₂:=h₂.below hBN hBw hBc;have hc:=(hbl2.cell (p:=⟨vb,0,none⟩) hvb).trans hv;have hrd:=BZ (Safe:=Aw) (c:=c) (N:=N) (w:=w₂) (b:=vb) (o:=0) (Nat.lt_of_lt_of_le (Nat.lt_of_lt_of_le hvb hBw) h₂.size) (.inl ⟨by omega,by omega⟩);clear hbl2;refine⟨run_eq_of (fun K hK=>?_),Be.still ?_⟩
   ·go_simp;exact hK
   ·co_evs (exact hrd)
  ·obtain rfl:=Option.some.inj ho';have e0:=Z.g 0;clear hsd hd;refine(AC (.int .i64 (o:Int)) rfl rfl (fun w₂ h₂=>?_) (fun w₂ h₂=>⟨h₂,_,rfl,rfl⟩)).more (by omega);exact oq
  ·obtain rfl:=Option.some.inj ho';have e1:=Z.g 1;clear hsd hd;refine(AC (.pointer (some ⟨bd,0,none⟩)) rfl rfl (fun w₂ h₂=>?_) (fun w₂ h₂=>⟨h₂,_,rfl,rfl⟩)).more (by omega);have hbl2:Below B w w₂:=h₂.below hBN hBw hBc;have hc:=(hbl2.cell (p:=⟨vb,0,none⟩) hvb).trans hv;have hrd:=BZ (Safe:=Aw) (c:=c) (N:=N) (w:=w₂) (b:=vb) (o:=0) (Nat.lt_of_lt_of_le (Nat.lt_of_lt_of_le hvb hBw) h₂.size) (.inl ⟨by omega,by omega⟩);clear hbl2;refine⟨run_eq_of (fun K hK=>?_),Be.still ?_⟩
   ·go_simp;exact hK
   ·co_evs (exact hrd)
  ·obtain rfl:=Option.some.inj ho';obtain⟨_,e6,rfl⟩:=hsd 2 _ 6 rfl rfl (hd 2 wm);clear hsd hd;refine(AC (.func (.func 92) #[.pointer (some ⟨bd,0,none⟩)] #[]) rfl rfl (fun w₂ h₂=>?_) (fun w₂ h₂=>⟨h₂,_,rfl,rfl⟩)).more (by omega);exact oq
  ·obtain rfl:=Option.some.inj ho';obtain⟨_,e4,rfl⟩:=hsd 0 _ 4 rfl rfl (hd 0 wm);obtain⟨_,e5,rfl⟩:=hsd 1 _ 5 rfl rfl (hd 1 wm);obtain⟨_,e7,rfl⟩:=hsd 3 _ 7 rfl rfl (hd 3 wm);have E (t:Nat) (v:Value) (e:a.tmps[t]?=some v):a.eval (.tmp t)=v:=by simp[Act.eval,Array.getD_eq_getD_getElem?,e]
   exact(P6 _ _ rfl rfl rfl (by rw[List.map_toArray,List.map_cons,List.map_cons,List.map_cons,List.map_nil,E 4 _ e4,E 5 _ e5,E 7 _ e7]) hS).more (by omega)
  ·obtain rfl:=Option.some.inj ho';obtain⟨_,e8,rfl⟩:=hsd 4 _ 8 rfl rfl (hd 4 wm);have E (t:Nat) (v:Value) (e:a.tmps[t]?=some v):a.eval (.tmp t)=v:=by simp[Act.eval,Array.getD_eq_getD_getElem?,e]
   exact(P6 _ _ rfl rfl rfl (by rw[List.map_toArray,List.map_cons,List.map_nil,E 8 _ e8]) hC).more (by omega)
  ·obtain rfl:=Option.some.inj ho';have e1:=Z.g 1;clear hsd hd;refine(AC (.pointer (some ⟨bd,0,none⟩)) rfl rfl (fun w₂ h₂=>?_) (fun w₂ h₂=>⟨h₂,_,rfl,rfl⟩)).more (by omega);have hbl2:Below B w w₂:=h₂.below hBN hBw hBc;have hc:=(hbl2.cell (p:=⟨vb,0,none⟩) hvb).trans hv;have hrd:=BZ (Safe:=Aw) (c:=c) (N:=N) (w:=w₂) (b:=vb) (o:=0) (Nat.lt_of_lt_of_le (Nat.lt_of_lt_of_le hvb hBw) h₂.size) (.inl ⟨by omega,by omega⟩);clear hbl2;refine⟨run_eq_of (fun K hK=>?_),Be.still ?_⟩
   ·go_simp;exact hK
   ·co_evs (exact hrd)
  ·obtain rfl:=Option.some.inj ho';have e0:=Z.g 0;clear hsd hd;refine(AC (.int .i64 (o:Int)) rfl rfl (fun w₂ h₂=>?_) (fun w₂ h₂=>⟨h₂,_,rfl,rfl⟩)).more (by omega);exact oq
  ·obtain rfl:=Option.some.inj ho';obtain⟨_,e10,rfl⟩:=hsd 6 _ 10 rfl rfl (hd 6 wm);obtain⟨_,e11,rfl⟩:=hsd 7 _ 11 rfl rfl (hd 7 wm);have E (t:Nat) (v:Value) (e:a.tmps[t]?=some v):a.eval (.tmp t)=v:=by simp[Act.eval,Array.getD_eq_getD_getElem?,e]
   exact(P6 _ _ rfl rfl rfl (by rw[List.map_toArray,List.map_cons,List.map_cons,List.map_nil,E 10 _ e10,E 11 _ e11]) hU).more (by omega)
  ·obtain rfl:=Option.some.inj ho';obtain⟨_,e9,rfl⟩:=hsd 5 _ 9 rfl rfl (hd 5 wm);obtain⟨_,e12,rfl⟩:=hsd 8 _ 12 rfl rfl (hd 8 wm);clear hsd hd;refine(AC (.int .i64 s) rfl rfl (fun w₂ h₂=>?_) (fun w₂ h₂=>⟨h₂,_,rfl,rfl⟩)).more (by omega);exact oq
  ·obtain rfl:=Option.some.inj ho';obtain⟨_,e13,rfl⟩:=hsd 9 _ 13 rfl rfl (hd 9 wm);clear hsd hd;refine(AC (.int .i64 s) rfl rfl (fun w₂ h₂=>?_) (fun w₂ h₂=>⟨h₂,_,rfl,rfl⟩)).more (by omega);exact oq
 ·intro a w' hr Z' hd';obtain⟨v3,e3,hv3⟩:=hd' 10 _ 3 rfl rfl;obtain rfl:=hv3;simp only[xt,↓reduceIte,Nat.reduceEqDiff];refine wpC_ret Ah ?_
  try simp only[xt,↓reduceIte,Nat.reduceEqDiff]
  refine⟨Z'.defers,.int .i64 s,?_,rfl,hr⟩;have:=resultsC_tmp (P:=Try.prog) Try.results91 a.tmps;rw[Array.getD_eq_getD_getElem?,e3]at this;exact this
theorem SQ:∃ mf,∀ (w0:World) (bd vb:Nat) (ps:List A8) (ts:List BA) (q:List ((Int×Int)×Int)) (pb po pc tb to_ tc mb clock:Nat) (ents:Array MapEntry),Gq w0.heap.size w0 bd ps ts q pb po pc tb to_ tc mb clock ents→vb<w0.heap.size→w0.cell? ⟨vb,0,none⟩=some (.pointer (some ⟨bd,0,none⟩))→ts.length≤1000 →
  NZ w0 ps.length mf 91 #[] #[.pointer (some ⟨vb,0,none⟩)] (Me ps ts q):=by
 obtain⟨m,h⟩:=Aav;refine⟨m,fun w0 bd vb ps ts q pb po pc tb to_ tc mb clock ents hD hvb hv ht N c w₁ i hi hN hc hb=>?_⟩;have hbb:Below w0.heap.size { w0 with os:=w₁.os,tape:=w₁.tape,output:=w₁.output } w₁:=⟨rfl,rfl,rfl,hb.1,hb.2⟩
 have hD1:Gq w0.heap.size w₁ bd ps ts q pb po pc tb to_ tc mb clock ents:=by
  have hD':Gq w0.heap.size { w0 with os:=w₁.os,tape:=w₁.tape,output:=w₁.output } bd ps ts q pb po pc tb to_ tc mb clock ents:=⟨hD.lb,hD.lp,hD.lt,hD.lm,hD.c4,hD.c5,hD.c6,hD.p0,hD.p1,hD.p2,hD.t1,hD.map,hD.ents,hD.free0,hD.rate0,hD.heads0⟩;exact hD'.keep hbb
 exact h w0.heap.size N c hN hc w₁ bd vb i ps ts q pb po pc tb to_ tc mb clock ents hb.1 hD1 hvb ((hbb.cell (p:=⟨vb,0,none⟩) hvb).trans hv) hi ht
theorem VM {M:Machine}{w0:World}{bd vb:Nat}{ps:List A8}{ts:List BA}{q:List ((Int×Int)×Int)}{pb po pc tb to_ tc mb clock:Nat}{ents:Array MapEntry}(hD:Gq w0.heap.size w0 bd ps ts q pb po pc tb to_ tc mb clock ents) (hvb:vb<w0.heap.size) (hv:w0.cell? ⟨vb,0,none⟩=some (.pointer (some ⟨bd,0,none⟩))) (ht:ts.length≤1000) (hp:ps.length≤1000) :
  Dz Try.prog M 78 #[.pointer (some ⟨bd,0,none⟩),.func (.func 91) #[] #[.pointer (some ⟨vb,0,none⟩)]] w0
   fun e w'=>∃ g row,e=.returned (.slice (some ⟨g,0,none⟩) ps.length ps.length)∧Below w0.heap.size w0 w'∧w0.heap.size≤g∧w'.heap[g]?=some (.cells row 3 (0,0))∧row.size=ps.length∧∀ i,i<ps.length→row[i]?=some (.int .i64 (Me ps ts q i)):=by
 obtain⟨mf,h⟩:=SQ;exact Qg Dk hD.c4 hp Try.func91 (by kernel_rfl) (by kernel_rfl) (h w0 bd vb ps ts q pb po pc tb to_ tc mb clock ents hD hvb hv ht)
end
end Go.Proofs.Ytgdobbcjkiapkaa
