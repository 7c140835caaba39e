import Derived.Test.YtgdobbcjkiapkaaMo14
import Derived.Test.YtgdobbcjkiapkaaProg
import Derived.KernelRfl
import Derived.Test.YtgdobbcjkiapkaaMo04
import Derived.Test.YtgdobbcjkiapkaaMo16
import Derived.Test.YtgdobbcjkiapkaaMo17
namespace Go.Proofs.Ytgdobbcjkiapkaa
set_option maxRecDepth 100000
set_option maxHeartbeats 4000000
set_option linter.unusedSimpArgs false
set_option linter.unusedVariables false
section
open Go Go.Conc
section
variable {P:Program}
instance (s:String):Cal P (Extern.RuntimeError.text s):=by
 unfold Extern.RuntimeError.text
 repeat' (first | infer_instance | (refine Cal.bind ?_ (fun _ =>?_)) | (refine Cal.F9 (fun _ _ =>?_) _ _) | (refine Cal.Ez (fun _ _ =>?_) _ _) | (refine Cal.DY _ _ _ (fun _ _ _ =>?_)) | (refine Cal.Hy (fun _ =>?_) _) | (refine Cal.ite ?_ ?_) | split | (intro _) | dsimp only)
instance (a:Array Value):Cal P (Extern.RuntimeError.boundsError a):=by
 obtain ⟨l⟩:=a;rcases l with _ | ⟨v,_ | ⟨y,l⟩⟩
 ·exact (inferInstance:Cal P (stuck "boundsError expected"))
 ·cases v with
  | agg cs =>
   obtain ⟨m⟩:=cs;rcases m with _ | ⟨v1,_ | ⟨v2,_ | ⟨v3,_ | ⟨v4,_ | ⟨v5,m⟩⟩⟩⟩⟩
   ·exact (inferInstance:Cal P (stuck "boundsError expected"))
   ·exact (inferInstance:Cal P (stuck "boundsError expected"))
   ·exact (inferInstance:Cal P (stuck "boundsError expected"))
   ·exact (inferInstance:Cal P (stuck "boundsError expected"))
   ·cases v1 <;> first | exact (inferInstance:Cal P (stuck "boundsError expected")) | skip
    cases v2 <;> first | exact (inferInstance:Cal P (stuck "boundsError expected")) | skip
    cases v3 <;> first | exact (inferInstance:Cal P (stuck "boundsError expected")) | skip
    cases v4 <;> first | exact (inferInstance:Cal P (stuck "boundsError expected")) | skip
    show Cal P (Extern.RuntimeError.boundsError #[.agg #[.int _ _, .int _ _, .bool _, .int _ _]])
    conv=>arg 2;whnf
    split <;> infer_instance
   ·exact (inferInstance:Cal P (stuck "boundsError expected"))
  | _=>exact (inferInstance:Cal P (stuck "boundsError expected"))
 ·exact (inferInstance:Cal P (stuck "boundsError expected"))
instance (v:Value):Cal P (Extern.RuntimeError.described v):=by
 unfold Extern.RuntimeError.described
 repeat' (first | infer_instance | (refine Cal.bind ?_ (fun _ =>?_)) | (refine Cal.F9 (fun _ _ =>?_) _ _) | (refine Cal.Ez (fun _ _ =>?_) _ _) | (refine Cal.DY _ _ _ (fun _ _ _ =>?_)) | (refine Cal.Hy (fun _ =>?_) _) | (refine Cal.ite ?_ ?_) | split | (intro _) | dsimp only)
instance (i:TypeInfo):Cal P (Extern.RuntimeError.pkgpathOf i):=by
 unfold Extern.RuntimeError.pkgpathOf
 repeat' (first | infer_instance | (refine Cal.bind ?_ (fun _ =>?_)) | (refine Cal.F9 (fun _ _ =>?_) _ _) | (refine Cal.Ez (fun _ _ =>?_) _ _) | (refine Cal.DY _ _ _ (fun _ _ _ =>?_)) | (refine Cal.Hy (fun _ =>?_) _) | (refine Cal.ite ?_ ?_) | split | (intro _) | dsimp only)
instance (a:Array Value):Cal P (Extern.RuntimeError.typeAssertionError a):=by
 unfold Extern.RuntimeError.typeAssertionError
 repeat' (first | infer_instance | (refine Cal.bind ?_ (fun _ =>?_)) | (refine Cal.F9 (fun _ _ =>?_) _ _) | (refine Cal.Ez (fun _ _ =>?_) _ _) | (refine Cal.DY _ _ _ (fun _ _ _ =>?_)) | (refine Cal.Hy (fun _ =>?_) _) | (refine Cal.ite ?_ ?_) | split | (intro _) | dsimp only)
instance (a:Array Value):Cal P (Extern.RuntimeError.unhashableTypeError a):=by
 obtain ⟨l⟩:=a;rcases l with _ | ⟨v,_ | ⟨y,l⟩⟩
 ·exact (inferInstance:Cal P (stuck "unhashableTypeError expected"))
 ·cases v with
  | agg cs =>
   obtain ⟨m⟩:=cs;rcases m with _ | ⟨v1,_ | ⟨v2,m⟩⟩
   ·exact (inferInstance:Cal P (stuck "unhashableTypeError expected"))
   ·show Cal P (Extern.RuntimeError.unhashableTypeError #[.agg #[v1]]);refine Cal.bind (s:=Extern.RuntimeError.described v1) inferInstance (fun x =>?_)
    split <;> infer_instance
   ·exact (inferInstance:Cal P (stuck "unhashableTypeError expected"))
  | _=>exact (inferInstance:Cal P (stuck "unhashableTypeError expected"))
 ·exact (inferInstance:Cal P (stuck "unhashableTypeError expected"))
instance (a:Array Value):Cal P (Extern.RuntimeError.nothing a):=by
 unfold Extern.RuntimeError.nothing
 repeat' (first | infer_instance | (refine Cal.bind ?_ (fun _ =>?_)) | (refine Cal.F9 (fun _ _ =>?_) _ _) | (refine Cal.Ez (fun _ _ =>?_) _ _) | (refine Cal.DY _ _ _ (fun _ _ _ =>?_)) | (refine Cal.Hy (fun _ =>?_) _) | (refine Cal.ite ?_ ?_) | split | (intro _) | dsimp only)
theorem UG:∀ p∈Extern.RuntimeError.rows,∀ args,Cal P (p.2 args):=by
 intro p hp args;simp only [Extern.RuntimeError.rows,List.mem_cons,List.not_mem_nil,or_false] at hp;rcases hp with rfl | rfl | rfl | rfl | rfl | rfl | rfl | rfl | rfl | rfl | rfl | rfl | rfl | rfl | rfl | rfl <;> try dsimp only
 all_goals
  repeat' (first | infer_instance | (refine Cal.bind ?_ (fun _ =>?_)) | (refine Cal.F9 (fun _ _ =>?_) _ _) | (refine Cal.Ez (fun _ _ =>?_) _ _) | (refine Cal.DY _ _ _ (fun _ _ _ =>?_)) | (refine Cal.Hy (fun _ =>?_) _) | (refine Cal.ite ?_ ?_) | split | (intro _) | dsimp only)
theorem KH {α:Type} {β:Type} [BEq α] [LawfulBEq α]:∀ {l:List (α×β)} {a:α} {b:β},l.lookup a=some b→(a,b)∈l
 | [],_,_,h=>by simp at h
 | (x,y) :: l,a,b,h=>by
  rw [List.lookup_cons] at h
  by_cases e:a=x
  ·subst e;simp at h;subst h;simp
  ·have e2:(a == x)=false:=by simpa using e
   rw [e2] at h;exact List.mem_cons_of_mem _ (KH h)
theorem BM {fn:Func} (n:String) (h:Extern.find fn=Extern.RuntimeError.rows.lookup n):∀ e,Extern.find fn=some e→∀ args,Cal P (e args):=fun e he args =>
 UG _ (KH (h.symm.trans he)) args
end
theorem Ep:EQ Try.prog:=by
 have hall:(List.range 155).all (fun f=>match Try.prog.funcs[f]? with | some fn => !(fn.name == "runtime.NumGoroutine") && (fn.body.isSome || ([0,1,138,139,140,141,142,143,144,145,146,147,148,149,150,151,152,153,154]:List Nat).contains f) && (fn.body.isSome || (Extern.findNext fn).isNone) | none=>false)=true:=by kernel_rfl
 have hsz:Try.prog.funcs.size=155:=by kernel_rfl
 have key:∀ (f:FuncId) (fn:Func),Try.prog.funcs[f]? = some fn→(fn.name == "runtime.NumGoroutine")=false∧(fn.body.isSome=true∨f∈([0,1,138,139,140,141,142,143,144,145,146,147,148,149,150,151,152,153,154]:List Nat))∧(fn.body.isSome || (Extern.findNext fn).isNone)=true:=fun f fn hf=>by
  have hlt:f < 155:=by rw [← hsz];exact (Array.getElem?_eq_some_iff.1 hf).1
  have h1:=(List.all_eq_true.1 hall) f (by rw [List.mem_range];exact hlt);rw [hf] at h1;simp only [Bool.and_eq_true,Bool.or_eq_true] at h1;exact ⟨by simpa using h1.1.1,h1.1.2.imp id (fun x=>by simpa using x),by simpa using h1.2⟩
 refine ⟨fun f fn hf=>(key f fn hf).1,fun f fn hf hb =>?_,fun f fn e hf hb he =>?_⟩
 ·have h2:=(key f fn hf).2.2;rw [Option.isNone_iff_eq_none] at hb;rw [hb] at h2
  simpa using h2
 ·have h2:=(key f fn hf).2.1;rw [Option.isNone_iff_eq_none] at hb;rw [hb] at h2;have h3:=h2.elim (fun x=>by cases x) id;clear h2 hb key hall;simp only [List.mem_cons,List.not_mem_nil,or_false] at h3;rcases h3 with rfl | rfl | rfl | rfl | rfl | rfl | rfl | rfl | rfl | rfl | rfl | rfl | rfl | rfl | rfl | rfl | rfl | rfl | rfl
  ·obtain rfl:fn=Try.f0:=by rw [Try.func0] at hf;exact (Option.some.inj hf).symm
   have h:(Extern.find Try.f0).isNone=true:=by kernel_rfl
   rw [he] at h;cases h
  ·obtain rfl:fn=Try.f1:=by rw [Try.func1] at hf;exact (Option.some.inj hf).symm
   have h:(Extern.find Try.f1).isNone=true:=by kernel_rfl
   rw [he] at h;cases h
  ·obtain rfl:fn=Try.f138:=by rw [Try.func138] at hf;exact (Option.some.inj hf).symm
   exact BM "(runtime.boundsError).Error" (by kernel_rfl) e he
  ·obtain rfl:fn=Try.f139:=by rw [Try.func139] at hf;exact (Option.some.inj hf).symm
   exact BM "(runtime.boundsError).RuntimeError" (by kernel_rfl) e he
  ·obtain rfl:fn=Try.f140:=by rw [Try.func140] at hf;exact (Option.some.inj hf).symm
   exact BM "(runtime.errorString).Error" (by kernel_rfl) e he
  ·obtain rfl:fn=Try.f141:=by rw [Try.func141] at hf;exact (Option.some.inj hf).symm
   exact BM "(runtime.errorString).RuntimeError" (by kernel_rfl) e he
  ·obtain rfl:fn=Try.f142:=by rw [Try.func142] at hf;exact (Option.some.inj hf).symm
   exact BM "(runtime.plainError).Error" (by kernel_rfl) e he
  ·obtain rfl:fn=Try.f143:=by rw [Try.func143] at hf;exact (Option.some.inj hf).symm
   exact BM "(runtime.plainError).RuntimeError" (by kernel_rfl) e he
  ·obtain rfl:fn=Try.f144:=by rw [Try.func144] at hf;exact (Option.some.inj hf).symm
   exact BM "(runtime.errorAddressString).Error" (by kernel_rfl) e he
  ·obtain rfl:fn=Try.f145:=by rw [Try.func145] at hf;exact (Option.some.inj hf).symm
   exact BM "(runtime.errorAddressString).RuntimeError" (by kernel_rfl) e he
  ·obtain rfl:fn=Try.f146:=by rw [Try.func146] at hf;exact (Option.some.inj hf).symm
   exact BM "(*runtime.TypeAssertionError).Error" (by kernel_rfl) e he
  ·obtain rfl:fn=Try.f147:=by rw [Try.func147] at hf;exact (Option.some.inj hf).symm
   exact BM "(*runtime.TypeAssertionError).RuntimeError" (by kernel_rfl) e he
  ·obtain rfl:fn=Try.f148:=by rw [Try.func148] at hf;exact (Option.some.inj hf).symm
   exact BM "(*runtime.PanicNilError).Error" (by kernel_rfl) e he
  ·obtain rfl:fn=Try.f149:=by rw [Try.func149] at hf;exact (Option.some.inj hf).symm
   exact BM "(*runtime.PanicNilError).RuntimeError" (by kernel_rfl) e he
  ·obtain rfl:fn=Try.f150:=by rw [Try.func150] at hf;exact (Option.some.inj hf).symm
   have h:(Extern.find Try.f150).isNone=true:=by kernel_rfl
   rw [he] at h;cases h
  ·obtain rfl:fn=Try.f151:=by rw [Try.func151] at hf;exact (Option.some.inj hf).symm
   exact BM "(internal/runtime/maps.unhashableTypeError).Error" (by kernel_rfl) e he
  ·obtain rfl:fn=Try.f152:=by rw [Try.func152] at hf;exact (Option.some.inj hf).symm
   exact BM "(internal/runtime/maps.unhashableTypeError).RuntimeError" (by kernel_rfl) e he
  ·obtain rfl:fn=Try.f153:=by rw [Try.func153] at hf;exact (Option.some.inj hf).symm
   have h:(Extern.find Try.f153).isNone=true:=by kernel_rfl
   rw [he] at h;cases h
  ·obtain rfl:fn=Try.f154:=by rw [Try.func154] at hf;exact (Option.some.inj hf).symm
   have h:Extern.find Try.f154=Extern.ReflectliteType.rows.lookup "(internal/abi.Kind).String" := by kernel_rfl
   rw [h] at he;have hm:=KH he;simp [Extern.ReflectliteType.rows] at hm;subst hm;intro args
   try dsimp only
   repeat' (first | infer_instance | (refine Cal.bind ?_ (fun _ =>?_)) | (refine Cal.F9 (fun _ _ =>?_) _ _) | (refine Cal.Ez (fun _ _ =>?_) _ _) | (refine Cal.DY _ _ _ (fun _ _ _ =>?_)) | (refine Cal.Hy (fun _ =>?_) _) | (refine Cal.ite ?_ ?_) | split | (intro _) | dsimp only)
end
section
open Go Go.Conc
open Go.RowKit
structure BB where
 heads:Int
 free:Int
 half:Bool
 deriving DecidableEq,Inhabited
structure Bc where
 strip:Int
 rate:Int
 farmer:Int
 deriving DecidableEq,Inhabited
structure IK (B:Nat) (w:World) (bd:Nat) (ps:List BB) (ts:List Bc) (q:List ((Int×Int)×Int)) (pb po pc tb to_ tc mb clock:Nat) (ents:Array MapEntry):Prop where
 lb:bd < B
 lp:pb < B
 lt:tb < B
 lm:mb < B
 c4:w.cell? ⟨bd,4,none⟩=some (.slice (some ⟨pb,po,none⟩) ps.length pc)
 c5:∃ ta,w.cell? ⟨bd,5,none⟩=some (.slice ta ts.length tc)∧(ts≠[]→ta=some ⟨tb,to_,none⟩)
 c6:w.cell? ⟨bd,6,none⟩=some (.map (some mb))
 p0:∀ (o:Nat) (h:o < ps.length),w.cell? ⟨pb,po+o*3,none⟩=some (.int .i64 ps[o].heads)
 p1:∀ (o:Nat) (h:o < ps.length),w.cell? ⟨pb,po+o*3+1,none⟩=some (.int .i64 ps[o].free)
 p2:∀ (o:Nat) (h:o < ps.length),w.cell? ⟨pb,po+o*3+2,none⟩=some (.bool ps[o].half)
 t1:∀ (i:Nat) (h:i < ts.length),w.cell? ⟨tb,to_+i*3+1,none⟩=some (.int .i64 ts[i].rate)
 map:w.heap[mb]? = some (.map ents clock)
 ents:Fp ents.toList q
 free0:∀ p∈ps,0≤p.free∧p.free≤1000000
 rate0:∀ t∈ts,0≤t.rate∧t.rate≤100000
 heads0:∀ k,0≤(atK q k).getD 0∧(atK q k).getD 0≤1000000
theorem IK.keep {B:Nat} {w w':World} {bd:Nat} {ps:List BB} {ts:List Bc} {q:List ((Int×Int)×Int)} {pb po pc tb to_ tc mb clock:Nat} {ents:Array MapEntry} (h:IK B w bd ps ts q pb po pc tb to_ tc mb clock ents) (hb:Below B w w'):IK B w' bd ps ts q pb po pc tb to_ tc mb clock ents :=
 ⟨h.lb,h.lp,h.lt,h.lm,(hb.cell (p:=⟨bd,4,none⟩) h.lb).trans h.c4,⟨_,(hb.cell (p:=⟨bd,5,none⟩) h.lb).trans h.c5.choose_spec.1,h.c5.choose_spec.2⟩,(hb.cell (p:=⟨bd,6,none⟩) h.lb).trans h.c6,
  fun o ho=>(hb.cell (p:=⟨pb,po+o*3,none⟩) h.lp).trans (h.p0 o ho),fun o ho=>(hb.cell (p:=⟨pb,po+o*3+1,none⟩) h.lp).trans (h.p1 o ho),fun o ho=>(hb.cell (p:=⟨pb,po+o*3+2,none⟩) h.lp).trans (h.p2 o ho),
  fun i hi=>(hb.cell (p:=⟨tb,to_+i*3+1,none⟩) h.lt).trans (h.t1 i hi),(hb.block mb h.lm).trans h.map,h.ents,h.free0,h.rate0,h.heads0⟩
theorem IK.at5 {B:Nat} {w:World} {bd:Nat} {ps:List BB} {ts:List Bc} {q:List ((Int×Int)×Int)} {pb po pc tb to_ tc mb clock:Nat} {ents:Array MapEntry} (h:IK B w bd ps ts q pb po pc tb to_ tc mb clock ents) {i:Nat} (hi:i < ts.length):w.cell? ⟨bd,5,none⟩=some (.slice (some ⟨tb,to_,none⟩) ts.length tc):=by
 obtain ⟨ta,h1,h2⟩:=h.c5;rw [h2 (fun e=>by subst e;simp at hi)] at h1;exact h1
def atV (ps:List BB) (ts:List Bc) (q:List ((Int×Int)×Int)) (o i:Nat):Int:=ofV (ps.getD o default).free (ps.getD o default).half ((atK q ((i:Int),(o:Int))).getD 0) (ts.getD i default).rate
def FC (f:Nat→Int):Nat→Int
 | 0=>0
 | k+1=>FC f k+f k
theorem Gx {fr q rate:Int} {half:Bool} (hf:0≤fr) (hq0:0≤q) (hq:q≤1000000) (hr0:0≤rate) (hr:rate≤100000):0≤ofV fr half q rate∧ofV fr half q rate≤200000000000:=by
 have hm0:0≤(if fr < q then q-fr else 0):=by split <;> omega
 have hm1:(if fr < q then q-fr else 0)≤1000000:=by split <;> omega
 have h1:=Int.mul_nonneg hm0 hr0;have h2:(if fr < q then q-fr else 0)*rate≤1000000*100000:=Int.mul_le_mul hm1 hr hr0 (by omega);unfold ofV
 cases half
 ·simp only [Bool.false_eq_true,if_false];omega
 ·simp only [if_true];omega
theorem Eu {f:Nat→Int} (h:∀ k,0≤f k∧f k≤200000000000):∀ k:Nat,0≤FC f k∧FC f k≤200000000000*(k:Int)
 | 0=>⟨by simp [FC],by simp [FC]⟩
 | k+1=>by
  have:=Eu h k;have:=h k;simp only [FC]
  constructor
  ·omega
  ·push_cast;omega
theorem IZ {c N ma n:Nat} {fn f:FuncId} {Q:Exit→Act→World→Prop} {a:Act} {w:World} {av:Array Value} {z:Int} (ops:Array Oper) (i:Nat) (rest:List Nat) (o:Oper) (ho:ops[i]? = some o) (hg:o.guard=none)
  {args:Array Operand} {ats:Array TypeId} (hop:o.op = .call { callee := .value (.func f),args,argTypes:=ats }) (hargs:args.map a.eval=av)
  (hcall:CallsC Try.prog false (AC Az c N) (Bl Az c N) f av ma w (fun v w'=>v = .int .i64 z∧AC Az c N w w'))
  (hn:∀ w',AC Az c N w w'→OpsC Try.prog false (AC Az c N) (Bl Az c N) fn ops rest n Q (a.put o.dst (.int .i64 z)) w'):OpsC Try.prog false (AC Az c N) (Bl Az c N) fn ops (i :: rest) (n+ma+3) Q a w:=by
 subst hargs;exact opsC_call Ah ho (by simp [Region.wanted,hg]) hop hcall fun v w' hv=>by rw [hv.1];exact hn w' hv.2
theorem Sl.We {n:Nat} (x y:Value) (hn:2≤n):Sl (⟨#[x,y]++Array.replicate (n-2) undef,[]⟩:Act) n [(0,x),(1,y)]:=by
 have hs:(⟨#[x,y]++Array.replicate (n-2) undef,[]⟩:Act).tmps.size=n:=by simp;omega
 exact ((Sl.nil ⟨hs,rfl,fun t v hv=>by simp at hv⟩ (m:=[])).cons (t:=1) (by rw [Array.getElem?_append_left (by simp)];rfl)).cons (t:=0) (by rw [Array.getElem?_append_left (by simp)];rfl)
theorem Ws:Try.f79.body=some (Code.seq (Aa Try.f79 0) (Code.seq (Aa Try.f79 1) Code.ret)):=by kernel_rfl
def YD (ps:List BB) (ts:List Bc) (q:List ((Int×Int)×Int)) (o:Nat):Int:=Dn (FC (atV ps ts q o) ts.length)
theorem Aai:∃ m,∀ (B N c:Nat),B≤N→B≤c→∀ (w:World) (bd o:Nat) (ps:List BB) (ts:List Bc) (q:List ((Int×Int)×Int)) (pb po pc tb to_ tc mb clock:Nat) (ents:Array MapEntry),B≤w.heap.size→IK B w bd ps ts q pb po pc tb to_ tc mb clock ents→o < ps.length→ts.length≤1000 →
  CallsC Try.prog false (AC Az c N) (Bl Az c N) 79 #[.pointer (some ⟨bd,0,none⟩), .int .i64 (o:Int)] m w (fun v w'=>v = .int .i64 (YD ps ts q o)∧AC Az c N w w'):=by
 obtain ⟨mc,hcoins⟩:=Wx;obtain ⟨ma,hat⟩:=Aat;obtain ⟨ms,hsum⟩:=Aaa 1000 ma (Nat.le_refl _);refine ⟨3+((2+mc+3+ms+3+1+1+1+1+1)+1+1)+1,fun B N c hBN hBc w bd o ps ts q pb po pc tb to_ tc mb clock ents hBw hD ho ht=>callsC_of_wpC Try.func79 (by kernel_rfl) Ws ?_⟩;have Z:Sl (⟨#[.pointer (some ⟨bd,0,none⟩), .int .i64 (o:Int)]++Array.replicate (Try.f79.ntmps-(#[.pointer (some ⟨bd,0,none⟩), .int .i64 (o:Int)]:Array Value).size) undef,[]⟩:Act) 11 [(0, .pointer (some ⟨bd,0,none⟩)),(1, .int .i64 (o:Int))]:=by rw [Try.ntmps79];exact Sl.We _ _ (by omega)
 revert Z;generalize (Act.mk _ _)=a;intro Z
 have hb:∀ k,0≤atV ps ts q o k∧atV ps ts q o k≤200000000000:=fun k=>by
  have hp:0≤(ps.getD o default).free:=by
   rw [List.getD_eq_getElem?_getD,List.getElem?_eq_getElem ho];exact (hD.free0 _ (List.getElem_mem ho)).1
  have hr:0≤(ts.getD k default).rate∧(ts.getD k default).rate≤100000:=by
   rw [List.getD_eq_getElem?_getD]
   cases hk:ts[k]? with
   | none=>simp [show (default:Bc).rate=0 from rfl]
   | some t=>exact hD.rate0 t (List.mem_of_getElem? hk)
  exact Gx hp (hD.heads0 _).1 (hD.heads0 _).2 hr.1 hr.2
 have hsb:=Eu hb
 have hS:=hsum B N c hBN hBc w bd ts.length tc hD.c5.choose (o:Int) 80 _ #[.pointer (some ⟨bd,0,none⟩)] #[] (atV ps ts q o) (FC (atV ps ts q o)) hBw hD.lb hD.c5.choose_spec.1 ht Try.func80 (by kernel_rfl) (by kernel_rfl) rfl (fun _=>rfl)
  (fun k hk=>⟨(hsb k).1,Int.le_trans (hsb k).2 (by omega)⟩) (fun w₁ j hr hj=>by
   have hb1:Below B w w₁:=hr.below hBN hBw hBc;have hD1:=hD.keep hb1;have:=hat B N c hBN hBc w₁ bd pb po ps.length pc tb to_ ts.length tc mb clock j o ents q ps[o].heads ps[o].free ts[j].rate ps[o].half (Nat.le_trans hBw hb1.size) hD1.lb hD1.lp hD1.lt hD1.lm hD1.c4 (hD1.at5 hj) hD1.c6 (hD1.p0 o ho) (hD1.p1 o ho) (hD1.p2 o ho) (hD1.t1 j hj) hD1.map hD1.ents hj ho (hD1.free0 _ (List.getElem_mem ho)).1 (hD1.free0 _ (List.getElem_mem ho)).2 (hD1.heads0 _).1 (hD1.heads0 _).2 (hD1.rate0 _ (List.getElem_mem hj)).1 (hD1.rate0 _ (List.getElem_mem hj)).2
   have e:atV ps ts q o j=ofV ps[o].free ps[o].half ((atK q ((j:Int),(o:Int))).getD 0) ts[j].rate:=by
    unfold atV;rw [List.getD_eq_getElem?_getD,List.getElem?_eq_getElem ho,List.getD_eq_getElem?_getD,List.getElem?_eq_getElem hj];rfl
   rw [e];exact this)
 have hs2:=hsb ts.length;have hC:=fun w1=>hcoins N c w1 (FC (atV ps ts q o) ts.length) hs2.1 (by omega)
 refine wpC_seq (n₁:=3) (n₂:=(2+mc+3+ms+3+1+1+1+1+1)+1+1) Ah ?_;rw [show Aa Try.f79 0=Code.region 0 _ false from rfl];refine wpC_region Ah ?_;simp only [List.size_toArray,List.length_cons,List.length_nil,Nat.reduceAdd,Nat.zero_add,List.range,List.range.loop]
 co_apply Aj Ah (.int .i64 0) rfl (by rfl)
 ·exact fun _ _=>(by exact oq)
 refine Z.goC (by decide) ?_;clear Z;intro a Z;refine opsC_nil Ah ?_;refine wpC_seq (n₁:=(2+mc+3+ms+3+1+1+1+1+1)) (n₂:=1) Ah ?_;rw [show Aa Try.f79 1=Code.region 1 _ false from rfl];refine wpC_region Ah ?_;simp only [List.size_toArray,List.length_cons,List.length_nil,Nat.reduceAdd,Nat.zero_add,List.range,List.range.loop]
 co_apply Aj Ah (.pointer (some ⟨bd,0,none⟩)) rfl (by rfl)
 ·exact fun _ _=>(by have e0:=Z.g 0;exact oq)
 refine Z.goC (by decide) ?_;clear Z;intro a Z
 co_apply Aj Ah (.int .i64 (o:Int)) rfl (by rfl)
 ·exact fun _ _=>(by have e1:=Z.g 1;exact oq)
 refine Z.goC (by decide) ?_;clear Z;intro a Z
 co_apply Aj Ah (.pointer (some ⟨bd,0,none⟩)) rfl (by rfl)
 ·exact fun _ _=>(by have e0:=Z.g 0;exact oq)
 refine Z.goC (by decide) ?_;clear Z;intro a Z
 co_apply Aj Ah (.func (.func 80) #[.pointer (some ⟨bd,0,none⟩)] #[]) rfl (by rfl)
 ·exact fun _ _=>(by have e7:=Z.g 7;exact oq)
 refine Z.goC (by decide) ?_;clear Z;intro a Z;have E (t:Nat) (v:Value) (e:a.tmps[t]? = some v):a.eval (.tmp t)=v:=by simp [Act.eval,Array.getD_eq_getD_getElem?,e]
 refine IZ (n:=2+mc+3) (ma:=ms) (z:=FC (atV ps ts q o) ts.length) _ _ _ _ rfl rfl rfl (by rw [List.map_toArray,List.map_cons,List.map_cons,List.map_cons,List.map_nil,E 5 _ (Z.get 5 _ rfl),E 6 _ (Z.get 6 _ rfl),E 8 _ (Z.get 8 _ rfl)]) hS fun w1 hr1 =>?_
 clear E;refine Z.goC (by decide) fun a' hsl' =>?_
 clear Z;revert hsl';generalize a'=a;intro Z;have E (t:Nat) (v:Value) (e:a.tmps[t]? = some v):a.eval (.tmp t)=v:=by simp [Act.eval,Array.getD_eq_getD_getElem?,e]
 refine IZ (n:=2) (ma:=mc) (z:=YD ps ts q o) _ _ _ _ rfl rfl rfl (by rw [List.map_toArray,List.map_cons,List.map_nil,E 9 _ (Z.get 9 _ rfl)]) (hC w1) fun w2 hr2 =>?_
 clear E;refine Z.goC (by decide) fun a' hsl' =>?_
 clear Z;revert hsl';generalize a'=a;intro Z
 co_apply Aj Ah (.int .i64 (YD ps ts q o)) rfl (by rfl)
 ·exact fun _ _=>(by have e10:=Z.g 10;exact oq)
 refine Z.goC (by decide) ?_;clear Z;intro a Z;refine opsC_nil Ah ?_;refine wpC_ret Ah ?_
 try simp only [Exit.then,Exit.inBlock,↓reduceIte,Nat.reduceEqDiff]
 refine ⟨Z.defers, .int .i64 (YD ps ts q o),?_,rfl,hr1.trans hr2⟩;have h4:=Z.get 4 _ rfl;have:=resultsC_tmp (P:=Try.prog) Try.results79 a.tmps;rw [Array.getD_eq_getD_getElem?,h4] at this;exact this
theorem Wl:∃ mf,∀ (w0:World) (bd:Nat) (ps:List BB) (ts:List Bc) (q:List ((Int×Int)×Int)) (pb po pc tb to_ tc mb clock:Nat) (ents:Array MapEntry),IK w0.heap.size w0 bd ps ts q pb po pc tb to_ tc mb clock ents→ts.length≤1000 →
  Pj w0 ps.length mf 79 #[.pointer (some ⟨bd,0,none⟩)] #[] (YD ps ts q):=by
 obtain ⟨m,h⟩:=Aai;refine ⟨m,fun w0 bd ps ts q pb po pc tb to_ tc mb clock ents hD ht N c w₁ i hi hN hc hb =>?_⟩
 have hD1:IK w0.heap.size w₁ bd ps ts q pb po pc tb to_ tc mb clock ents:=by
  have hD':IK w0.heap.size { w0 with os:=w₁.os,tape:=w₁.tape,output:=w₁.output } bd ps ts q pb po pc tb to_ tc mb clock ents:=⟨hD.lb,hD.lp,hD.lt,hD.lm,hD.c4,hD.c5,hD.c6,hD.p0,hD.p1,hD.p2,hD.t1,hD.map,hD.ents,hD.free0,hD.rate0,hD.heads0⟩;exact hD'.keep ⟨rfl,rfl,rfl,hb.1,hb.2⟩
 exact h w0.heap.size N c hN hc w₁ bd i ps ts q pb po pc tb to_ tc mb clock ents hb.1 hD1 hi ht
theorem XZ {M:Machine} {w0:World} {bd:Nat} {ps:List BB} {ts:List Bc} {q:List ((Int×Int)×Int)} {pb po pc tb to_ tc mb clock:Nat} {ents:Array MapEntry} (hD:IK w0.heap.size w0 bd ps ts q pb po pc tb to_ tc mb clock ents) (ht:ts.length≤1000) (hp:ps.length≤1000) :
  DD Try.prog M 78 #[.pointer (some ⟨bd,0,none⟩), .func (.func 79) #[.pointer (some ⟨bd,0,none⟩)] #[]] w0
   fun e w'=>∃ g row,e = .returned (.slice (some ⟨g,0,none⟩) ps.length ps.length)∧Below w0.heap.size w0 w'∧w0.heap.size≤g∧w'.heap[g]? = some (.cells row 3 (0,0))∧row.size=ps.length∧∀ i,i < ps.length→row[i]? = some (.int .i64 (YD ps ts q i)):=by
 obtain ⟨mf,h⟩:=Wl;exact SL Ep hD.c4 hp Try.func79 (by kernel_rfl) (by kernel_rfl) (h w0 bd ps ts q pb po pc tb to_ tc mb clock ents hD ht)
end
section
open Go Go.Conc
open Go.RowKit
def Yw (ts:List Bc) (q:List ((Int×Int)×Int)) (o i:Nat):Int:=ofV 0 false ((atK q ((i:Int),(o:Int))).getD 0) (ts.getD i default).rate
theorem UM {B:Nat} {w:World} {bd:Nat} {ps:List BB} {ts:List Bc} {q:List ((Int×Int)×Int)} {pb po pc tb to_ tc mb clock:Nat} {ents:Array MapEntry} (hD:IK B w bd ps ts q pb po pc tb to_ tc mb clock ents) {o:Nat} (ho:o < ps.length) (k:Nat):(0≤atV ps ts q o k∧atV ps ts q o k≤200000000000)∧(0≤Yw ts q o k∧Yw ts q o k≤200000000000):=by
 have hp:0≤(ps.getD o default).free:=by
  rw [List.getD_eq_getElem?_getD,List.getElem?_eq_getElem ho];exact (hD.free0 _ (List.getElem_mem ho)).1
 have hr:0≤(ts.getD k default).rate∧(ts.getD k default).rate≤100000:=by
  rw [List.getD_eq_getElem?_getD]
  cases hk:ts[k]? with
  | none=>simp [show (default:Bc).rate=0 from rfl]
  | some t=>exact hD.rate0 t (List.mem_of_getElem? hk)
 exact ⟨Gx hp (hD.heads0 _).1 (hD.heads0 _).2 hr.1 hr.2,Gx (Int.le_refl _) (hD.heads0 _).1 (hD.heads0 _).2 hr.1 hr.2⟩
end
section
open Go Go.Conc
open Go.RowKit
theorem Vk:Try.f93.body=some (Code.seq (Aa Try.f93 0) (Code.seq (Aa Try.f93 1) (Code.seq (Code.seq (Aa Try.f93 2) (Code.block 0 (Code.loop (Code.seq (Aa Try.f93 3) (Code.seq (Code.cond (Operand.tmp 11) Code.skip (Code.exit 0)) (Code.seq (Code.block 1 (Code.seq (Aa Try.f93 4) (Aa Try.f93 5))) (Aa Try.f93 6))))))) (Code.seq (Aa Try.f93 7) Code.ret)))):=by kernel_rfl
def Zg (ps:List BB) (ts:List Bc) (q:List ((Int×Int)×Int)) (o:Nat):Int:=FC (fun i=>Dn (atV ps ts q o i)) ts.length
theorem Aab:∃ m,∀ (B N c:Nat),B≤N→B≤c→∀ (w:World) (bd vb vt o:Nat) (ps:List BB) (ts:List Bc) (q:List ((Int×Int)×Int)) (pb po pc tb to_ tc mb clock:Nat) (ents:Array MapEntry) (sa:Option Addr) (sc:Nat),B≤w.heap.size→IK B w bd ps ts q pb po pc tb to_ tc mb clock ents→vb < B→vt < B→w.cell? ⟨vb,0,none⟩=some (.pointer (some ⟨bd,0,none⟩))→w.cell? ⟨vt,5,none⟩=some (.slice sa ts.length sc)→o < ps.length→ts.length≤1000 →
  CallsC Try.prog false (AC Az c N) (Bl Az c N) 93 #[.int .i64 (o:Int), .pointer (some ⟨vt,0,none⟩), .pointer (some ⟨vb,0,none⟩)] m w (fun v w'=>v = .int .i64 (Zg ps ts q o)∧AC Az c N w w'):=by
 obtain ⟨mc,hcoins⟩:=Wx;obtain ⟨ma,hat⟩:=Aat;refine ⟨(3+(3+((6+(((1000+1)*((3+(2+((4+(3+mc+3+ma+3+1+1+1+1+1)+1+2)+4+1)+1)+1)+1)+1)+2)+1)+6+1)+1)+1),fun B N c hBN hBc w bd vb vt o ps ts q pb po pc tb to_ tc mb clock ents sa sc hBw hD hvb hvt hv hvs ho ht=>callsC_of_wpC Try.func93 (by kernel_rfl) Vk ?_⟩;have Z:Sl (⟨#[.int .i64 (o:Int), .pointer (some ⟨vt,0,none⟩), .pointer (some ⟨vb,0,none⟩)]++Array.replicate (Try.f93.ntmps-(#[.int .i64 (o:Int), .pointer (some ⟨vt,0,none⟩), .pointer (some ⟨vb,0,none⟩)]:Array Value).size) undef,[]⟩:Act) 22 [(0, .int .i64 (o:Int)),(1, .pointer (some ⟨vt,0,none⟩)),(2, .pointer (some ⟨vb,0,none⟩))]:=by rw [Try.ntmps93];exact Sl.O8 _ _ _ (by omega)
 revert Z;generalize (Act.mk _ _)=a;intro Z;have hab:=fun k=>(UM hD ho k).1
 have hcb:∀ k,0≤Dn (atV ps ts q o k)∧Dn (atV ps ts q o k)≤200000000000:=fun k=>by
  have:=hab k;unfold Dn
  omega
 have hcall:∀ w₁ j,AC Az c N w w₁→j < ts.length→CallsC Try.prog false (AC Az c N) (Bl Az c N) 80 #[.pointer (some ⟨bd,0,none⟩), .int .i64 (o:Int), .int .i64 (j:Int)] ma w₁ (fun v w'=>v = .int .i64 (atV ps ts q o j)∧AC Az c N w₁ w'):=fun w₁ j hr hj=>by
  have hb1:Below B w w₁:=hr.below hBN hBw hBc;have hD1:=hD.keep hb1;have:=hat B N c hBN hBc w₁ bd pb po ps.length pc tb to_ ts.length tc mb clock j o ents q ps[o].heads ps[o].free ts[j].rate ps[o].half (Nat.le_trans hBw hb1.size) hD1.lb hD1.lp hD1.lt hD1.lm hD1.c4 (hD1.at5 hj) hD1.c6 (hD1.p0 o ho) (hD1.p1 o ho) (hD1.p2 o ho) (hD1.t1 j hj) hD1.map hD1.ents hj ho (hD1.free0 _ (List.getElem_mem ho)).1 (hD1.free0 _ (List.getElem_mem ho)).2 (hD1.heads0 _).1 (hD1.heads0 _).2 (hD1.rate0 _ (List.getElem_mem hj)).1 (hD1.rate0 _ (List.getElem_mem hj)).2
  have e:atV ps ts q o j=ofV ps[o].free ps[o].half ((atK q ((j:Int),(o:Int))).getD 0) ts[j].rate:=by
   unfold atV;rw [List.getD_eq_getElem?_getD,List.getElem?_eq_getElem ho,List.getD_eq_getElem?_getD,List.getElem?_eq_getElem hj];rfl
  rw [e];exact this
 have hC:=fun w1 k=>hcoins N c w1 (atV ps ts q o k) (hab k).1 (by have:=hab k;omega)
 unfold Zg;obtain ⟨f,hf⟩:∃ f,f=fun i=>Dn (atV ps ts q o i):=⟨_,rfl⟩
 have hfk:∀ k,Dn (atV ps ts q o k)=f k:=fun k=>by rw [hf]
 simp only [hfk] at hcb hC;rw [← hf];have hSb:=Eu hcb;clear hcoins hat hab hD hf;refine wpC_seq (n₁:=3) (n₂:=3+((6+(((1000+1)*((3+(2+((4+(3+mc+3+ma+3+1+1+1+1+1)+1+2)+4+1)+1)+1)+1)+1)+2)+1)+6+1)+1) Ah ?_;rw [show Aa Try.f93 0=Code.region 0 _ false from rfl];refine wpC_region Ah ?_;simp only [List.size_toArray,List.length_cons,List.length_nil,Nat.reduceAdd,Nat.zero_add,List.range,List.range.loop]
 co_apply Aj Ah (.int .i64 0) rfl (by rfl)
 ·exact fun _ _=>(by exact oq)
 refine Z.goC (by decide) ?_;clear Z;intro a Z;refine opsC_nil Ah ?_;refine wpC_seq (n₁:=3) (n₂:=((6+(((1000+1)*((3+(2+((4+(3+mc+3+ma+3+1+1+1+1+1)+1+2)+4+1)+1)+1)+1)+1)+2)+1)+6+1)) Ah ?_;rw [show Aa Try.f93 1=Code.region 1 _ false from rfl];refine wpC_region Ah ?_;simp only [List.size_toArray,List.length_cons,List.length_nil,Nat.reduceAdd,Nat.zero_add,List.range,List.range.loop]
 co_apply Aj Ah (.int .i64 0) rfl (by rfl)
 ·exact fun _ _=>(by exact oq)
 refine Z.goC (by decide) ?_;clear Z;intro a Z;refine opsC_nil Ah ?_;refine wpC_seq (n₁:=6+(((1000+1)*((3+(2+((4+(3+mc+3+ma+3+1+1+1+1+1)+1+2)+4+1)+1)+1)+1)+1)+2)+1) (n₂:=6) Ah ?_;refine wpC_seq (n₁:=6) (n₂:=((1000+1)*((3+(2+((4+(3+mc+3+ma+3+1+1+1+1+1)+1+2)+4+1)+1)+1)+1)+1)+2) Ah ?_;rw [show Aa Try.f93 2=Code.region 2 _ false from rfl];refine wpC_region Ah ?_;simp only [List.size_toArray,List.length_cons,List.length_nil,Nat.reduceAdd,Nat.zero_add,List.range,List.range.loop]
 co_apply Aj Ah (.pointer (some ⟨vt,5,none⟩)) rfl (by rfl)
 ·exact fun _ _=>(by have e1:=Z.g 1;exact oq)
 refine Z.goC (by decide) ?_;clear Z;intro a Z
 co_apply Aj Ah (.slice sa ts.length sc) rfl (by rfl)
 ·
  intro w₂ h₂;have e7:=Z.g 7;have hbl2:Below B w w₂:=h₂.below hBN hBw hBc;have hc:=(hbl2.cell (p:=⟨vt,5,none⟩) hvt).trans hvs;have hrd:=Dj (Safe:=Az) (c:=c) (N:=N) (w:=w₂) (b:=vt) (o:=5) (Nat.lt_of_lt_of_le (Nat.lt_of_lt_of_le hvt hBw) h₂.size) (.inl ⟨by omega,by omega⟩);clear hbl2;refine ⟨run_eq_of (fun Kk hKk =>?_),Bl.still ?_⟩
  ·go_simp;exact hKk
  ·co_evs (exact hrd)
 refine Z.goC (by decide) fun a' hsl' =>?_
 clear Z;revert hsl';generalize a'=a;intro Z
 co_apply Aj Ah (.int .i64 (ts.length:Int)) rfl (by rfl)
 ·exact fun _ _=>(by have e8:=Z.g 8;exact oq)
 refine Z.goC (by decide) ?_;clear Z;intro a Z
 co_apply Aj Ah (.int .i64 0) rfl (by rfl)
 ·exact fun _ _=>(by exact oq)
 refine Z.goC (by decide) ?_;clear Z;intro a Z;refine opsC_nil Ah ?_;replace Z:Sl a 22 [(10, .int .i64 ((0:Nat):Int)),(9, .int .i64 (ts.length:Int)),(5, .int .i64 (FC f 0)),(0, .int .i64 (o:Int)),(2, .pointer (some ⟨vb,0,none⟩))]:=Z.sb;refine wpC_block Ah ?_;refine wpC_loop Ah (fun a w'=>∃ k:Nat,k≤ts.length∧Sl a 22 [(10, .int .i64 (k:Int)),(9, .int .i64 (ts.length:Int)),(5, .int .i64 (FC f k)),(0, .int .i64 (o:Int)),(2, .pointer (some ⟨vb,0,none⟩))]∧AC Az c N w w') (fun a _=>ts.length-(intOf (a.eval (.tmp 10))).toNat) (3+(2+((4+(3+mc+3+ma+3+1+1+1+1+1)+1+2)+4+1)+1)+1) 1000 ⟨0,by omega,Z,AC.refl _⟩ (by omega) ?_;clear Z;rintro a w' ⟨k,hk,Z,hrel⟩;have hmu:ts.length-(intOf (a.eval (.tmp 10))).toNat=ts.length-k:=by rw [Z.ev 10 rfl];simp [intOf]
 rw [hmu];clear hmu;have hB':=(hrel.below hBN hBw hBc);have hv':=(hB'.cell (p:=⟨vb,0,none⟩) hvb).trans hv;have hBw':=Nat.le_trans hBw hB'.size;clear hB';refine wpC_seq (n₁:=3) (n₂:=2+((4+(3+mc+3+ma+3+1+1+1+1+1)+1+2)+4+1)+1) Ah ?_;rw [show Aa Try.f93 3=Code.region 3 _ false from rfl];refine wpC_region Ah ?_;simp only [List.size_toArray,List.length_cons,List.length_nil,Nat.reduceAdd,Nat.zero_add,List.range,List.range.loop]
 co_apply Aj Ah (.bool (decide (k < ts.length))) rfl (by rfl)
 ·
  refine fun w₁ hgr=>⟨run_eq_of (fun Kk hKk =>?_),?_⟩
  ·
   have e10:=Z.g 10;have e9:=Z.g 9;have hdec:decide ((k:Int) < (ts.length:Int))=decide (k < ts.length):=by simp
   go_simp;exact hKk
  ·
   have e10:=Z.g 10;have e9:=Z.g 9;have hdec:decide ((k:Int) < (ts.length:Int))=decide (k < ts.length):=by simp
   rw [listed_nil (by simp [go_sem, *])];exact Bl.idle _
 refine Z.goC (by decide) fun a' hsl' =>?_
 clear Z;revert hsl';generalize a'=a;intro Z;refine opsC_nil Ah ?_;refine wpC_seq (n₁:=2) (n₂:=((4+(3+mc+3+ma+3+1+1+1+1+1)+1+2)+4+1)) Ah ?_
 by_cases hkn:k < ts.length
 rotate_left
 ·have e11:=Z.ev 11 rfl;rw [decide_eq_false hkn] at e11;refine wpC_cond Ah e11 (n:=1) (wpC_exit Ah ?_);simp only [Exit.then,Exit.inBlock,↓reduceIte,Nat.reduceEqDiff];obtain rfl:k=ts.length:=by omega
  refine wpC_seq (n₁:=4) (n₂:=1) Ah ?_;rw [show Aa Try.f93 7=Code.region 7 _ false from rfl];refine wpC_region Ah ?_;simp only [List.size_toArray,List.length_cons,List.length_nil,Nat.reduceAdd,Nat.zero_add,List.range,List.range.loop]
  co_apply Aj Ah (.int .i64 (FC f ts.length)) rfl (by rfl)
  ·exact fun _ _=>(by have e5:=Z.g 5;exact oq)
  refine Z.goC (by decide) ?_;clear Z;intro a Z
  co_apply Aj Ah (.int .i64 (FC f ts.length)) rfl (by rfl)
  ·exact fun _ _=>(by have e21:=Z.g 21;exact oq)
  refine Z.goC (by decide) ?_;clear Z;intro a Z;refine opsC_nil Ah ?_;refine wpC_ret Ah ?_
  try simp only [Exit.then,Exit.inBlock,↓reduceIte,Nat.reduceEqDiff]
  refine ⟨Z.defers, .int .i64 (FC f ts.length),?_,rfl,hrel⟩;have h4:=Z.get 4 _ rfl;have:=resultsC_tmp (P:=Try.prog) Try.results93 a.tmps;rw [Array.getD_eq_getD_getElem?,h4] at this;exact this
 have e11:=Z.ev 11 rfl;rw [decide_eq_true hkn] at e11;refine wpC_cond Ah e11 (n:=1) (wpC_skip Ah ?_);simp only [Exit.then,Exit.inBlock,↓reduceIte,Nat.reduceEqDiff];clear e11;replace Z:Sl a 22 [(10, .int .i64 (k:Int)),(9, .int .i64 (ts.length:Int)),(5, .int .i64 (FC f k)),(0, .int .i64 (o:Int)),(2, .pointer (some ⟨vb,0,none⟩))]:=Z.sb;refine wpC_seq (n₁:=4+(3+mc+3+ma+3+1+1+1+1+1)+1+2) (n₂:=4) Ah ?_;refine wpC_block Ah ?_;refine wpC_seq (n₁:=4) (n₂:=(3+mc+3+ma+3+1+1+1+1+1)) Ah ?_;rw [show Aa Try.f93 4=Code.region 4 _ false from rfl];refine wpC_region Ah ?_;simp only [List.size_toArray,List.length_cons,List.length_nil,Nat.reduceAdd,Nat.zero_add,List.range,List.range.loop]
 co_apply Aj Ah (.int .i64 (k:Int)) rfl (by rfl)
 ·exact fun _ _=>(by have e10:=Z.g 10;exact oq)
 refine Z.goC (by decide) ?_;clear Z;intro a Z
 co_apply Aj Ah (.int .i64 (k:Int)) rfl (by rfl)
 ·exact fun _ _=>(by have e12:=Z.g 12;exact oq)
 refine Z.goC (by decide) ?_;clear Z;intro a Z;refine opsC_nil Ah ?_
 try simp only [Exit.then,Exit.inBlock,↓reduceIte,Nat.reduceEqDiff]
 rw [show Aa Try.f93 5=Code.region 5 _ false from rfl];refine wpC_region Ah ?_;simp only [List.size_toArray,List.length_cons,List.length_nil,Nat.reduceAdd,Nat.zero_add,List.range,List.range.loop]
 co_apply Aj Ah (.int .i64 (FC f k)) rfl (by rfl)
 ·exact fun _ _=>(by have e5:=Z.g 5;exact oq)
 refine Z.goC (by decide) ?_;clear Z;intro a Z
 co_apply Aj Ah (.pointer (some ⟨bd,0,none⟩)) rfl (by rfl)
 ·
  intro w₂ h₂;have e2:=Z.g 2;have hbl2:Below B w' w₂:=h₂.below hBN hBw' hBc;have hc:=(hbl2.cell (p:=⟨vb,0,none⟩) hvb).trans hv';have hrd:=Dj (Safe:=Az) (c:=c) (N:=N) (w:=w₂) (b:=vb) (o:=0) (Nat.lt_of_lt_of_le (Nat.lt_of_lt_of_le hvb hBw') h₂.size) (.inl ⟨by omega,by omega⟩);clear hbl2;refine ⟨run_eq_of (fun Kk hKk =>?_),Bl.still ?_⟩
  ·go_simp;exact hKk
  ·co_evs (exact hrd)
 refine Z.goC (by decide) fun a' hsl' =>?_
 clear Z;revert hsl';generalize a'=a;intro Z
 co_apply Aj Ah (.int .i64 (o:Int)) rfl (by rfl)
 ·exact fun _ _=>(by have e0:=Z.g 0;exact oq)
 refine Z.goC (by decide) ?_;clear Z;intro a Z
 co_apply Aj Ah (.int .i64 (k:Int)) rfl (by rfl)
 ·exact fun _ _=>(by have e6:=Z.g 6;exact oq)
 refine Z.goC (by decide) ?_;clear Z;intro a Z;have E (t:Nat) (v:Value) (e:a.tmps[t]? = some v):a.eval (.tmp t)=v:=by simp [Act.eval,Array.getD_eq_getD_getElem?,e]
 refine IZ (n:=3+mc+3) (ma:=ma) (z:=atV ps ts q o k) _ _ _ _ rfl rfl rfl (by rw [List.map_toArray,List.map_cons,List.map_cons,List.map_cons,List.map_nil,E 14 _ (Z.get 14 _ rfl),E 15 _ (Z.get 15 _ rfl),E 16 _ (Z.get 16 _ rfl)]) (hcall w' k hrel hkn) fun w1 hr1 =>?_
 clear E;refine Z.goC (by decide) fun a' hsl' =>?_
 clear Z;revert hsl';generalize a'=a;intro Z;have E (t:Nat) (v:Value) (e:a.tmps[t]? = some v):a.eval (.tmp t)=v:=by simp [Act.eval,Array.getD_eq_getD_getElem?,e]
 refine IZ (n:=3) (ma:=mc) (z:=f k) _ _ _ _ rfl rfl rfl (by rw [List.map_toArray,List.map_cons,List.map_nil,E 17 _ (Z.get 17 _ rfl)]) (hC w1 k) fun w2 hr2 =>?_
 clear E;refine Z.goC (by decide) fun a' hsl' =>?_
 clear Z;revert hsl';generalize a'=a;intro Z;have hrel2:=(hrel.trans hr1).trans hr2;clear hr1 hr2 hrel hv' hBw';revert hrel2;generalize w2=w';intro hrel;have hb1:0≤FC f k+f k∧FC f k+f k≤200000000000*((k+1:Nat):Int):=hSb (k+1)
 co_apply Aj Ah (.int .i64 (FC f k+f k)) rfl (by rfl)
 ·
  refine fun w₁ hgr=>⟨run_eq_of (fun Kk hKk =>?_),?_⟩
  ·
   have e13:=Z.g 13;have e18:=Z.g 18;have hw:=IntWalk.i64_in (FC f k+f k) (by omega);go_simp;exact hKk
  ·
   have e13:=Z.g 13;have e18:=Z.g 18;have hw:=IntWalk.i64_in (FC f k+f k) (by omega);rw [listed_nil (by simp [go_sem, *])];exact Bl.idle _
 refine Z.goC (by decide) fun a' hsl' =>?_
 clear Z;revert hsl';generalize a'=a;intro Z
 co_apply Aj Ah (.int .i64 (FC f k+f k)) rfl (by rfl)
 ·exact fun _ _=>(by have e19:=Z.g 19;exact oq)
 refine Z.goC (by decide) ?_;clear Z;intro a Z;refine opsC_nil Ah ?_
 try simp only [Exit.then,Exit.inBlock,↓reduceIte,Nat.reduceEqDiff]
 rw [show Aa Try.f93 6=Code.region 6 _ false from rfl];refine wpC_region Ah ?_;simp only [List.size_toArray,List.length_cons,List.length_nil,Nat.reduceAdd,Nat.zero_add,List.range,List.range.loop]
 co_apply Aj Ah (.int .i64 ((k+1:Nat):Int)) rfl (by rfl)
 ·
  refine fun w₁ hgr=>⟨run_eq_of (fun Kk hKk =>?_),?_⟩
  ·
   have e10:=Z.g 10;have hadd:=I9 k (by omega);go_simp;exact hKk
  ·
   have e10:=Z.g 10;have hadd:=I9 k (by omega);rw [listed_nil (by simp [go_sem, *])];exact Bl.idle _
 refine Z.goC (by decide) fun a' hsl' =>?_
 clear Z;revert hsl';generalize a'=a;intro Z
 co_apply Aj Ah (.int .i64 ((k+1:Nat):Int)) rfl (by rfl)
 ·exact fun _ _=>(by have e20:=Z.g 20;exact oq)
 refine Z.goC (by decide) ?_;clear Z;intro a Z;refine opsC_nil Ah ?_
 try simp only [Exit.then,Exit.inBlock,↓reduceIte,Nat.reduceEqDiff]
 refine ⟨⟨k+1,by omega,Z.sb,hrel⟩,?_⟩;rw [Z.ev 10 rfl];simp [intOf]
 omega
theorem Vh:∃ mf,∀ (w0:World) (bd vb vt:Nat) (ps:List BB) (ts:List Bc) (q:List ((Int×Int)×Int)) (pb po pc tb to_ tc mb clock:Nat) (ents:Array MapEntry) (sa:Option Addr) (sc:Nat),IK w0.heap.size w0 bd ps ts q pb po pc tb to_ tc mb clock ents→vb < w0.heap.size→vt < w0.heap.size→w0.cell? ⟨vb,0,none⟩=some (.pointer (some ⟨bd,0,none⟩))→w0.cell? ⟨vt,5,none⟩=some (.slice sa ts.length sc)→ts.length≤1000 →
  Pj w0 ps.length mf 93 #[] #[.pointer (some ⟨vt,0,none⟩), .pointer (some ⟨vb,0,none⟩)] (Zg ps ts q):=by
 obtain ⟨m,h⟩:=Aab;refine ⟨m,fun w0 bd vb vt ps ts q pb po pc tb to_ tc mb clock ents sa sc hD hvb hvt hv hvs ht N c w₁ i hi hN hc hb =>?_⟩;have hbb:Below w0.heap.size { w0 with os:=w₁.os,tape:=w₁.tape,output:=w₁.output } w₁:=⟨rfl,rfl,rfl,hb.1,hb.2⟩
 have hD1:IK w0.heap.size w₁ bd ps ts q pb po pc tb to_ tc mb clock ents:=by
  have hD':IK w0.heap.size { w0 with os:=w₁.os,tape:=w₁.tape,output:=w₁.output } bd ps ts q pb po pc tb to_ tc mb clock ents:=⟨hD.lb,hD.lp,hD.lt,hD.lm,hD.c4,hD.c5,hD.c6,hD.p0,hD.p1,hD.p2,hD.t1,hD.map,hD.ents,hD.free0,hD.rate0,hD.heads0⟩;exact hD'.keep hbb
 exact h w0.heap.size N c hN hc w₁ bd vb vt i ps ts q pb po pc tb to_ tc mb clock ents sa sc hb.1 hD1 hvb hvt ((hbb.cell (p:=⟨vb,0,none⟩) hvb).trans hv) ((hbb.cell (p:=⟨vt,5,none⟩) hvt).trans hvs) hi ht
theorem XW {M:Machine} {w0:World} {bd vb vt:Nat} {ps:List BB} {ts:List Bc} {q:List ((Int×Int)×Int)} {pb po pc tb to_ tc mb clock:Nat} {ents:Array MapEntry} {sa:Option Addr} {sc:Nat} (hD:IK w0.heap.size w0 bd ps ts q pb po pc tb to_ tc mb clock ents) (hvb:vb < w0.heap.size) (hvt:vt < w0.heap.size) (hv:w0.cell? ⟨vb,0,none⟩=some (.pointer (some ⟨bd,0,none⟩))) (hvs:w0.cell? ⟨vt,5,none⟩=some (.slice sa ts.length sc)) (ht:ts.length≤1000) (hp:ps.length≤1000) :
  DD Try.prog M 78 #[.pointer (some ⟨bd,0,none⟩), .func (.func 93) #[] #[.pointer (some ⟨vt,0,none⟩), .pointer (some ⟨vb,0,none⟩)]] w0
   fun e w'=>∃ g row,e = .returned (.slice (some ⟨g,0,none⟩) ps.length ps.length)∧Below w0.heap.size w0 w'∧w0.heap.size≤g∧w'.heap[g]? = some (.cells row 3 (0,0))∧row.size=ps.length∧∀ i,i < ps.length→row[i]? = some (.int .i64 (Zg ps ts q i)):=by
 obtain ⟨mf,h⟩:=Vh;exact SL Ep hD.c4 hp Try.func93 (by kernel_rfl) (by kernel_rfl) (h w0 bd vb vt ps ts q pb po pc tb to_ tc mb clock ents sa sc hD hvb hvt hv hvs ht)
end
end Go.Proofs.Ytgdobbcjkiapkaa
