import Derived.Test.YtgdobbcjkiapkaaCh14
import Derived.Test.YtgdobbcjkiapkaaProg
import Derived.KernelRfl
import Derived.Test.YtgdobbcjkiapkaaCh04
import Derived.Test.YtgdobbcjkiapkaaCh17
import Derived.Test.YtgdobbcjkiapkaaCh18
import Derived.Test.YtgdobbcjkiapkaaCh01
namespace Go.Proofs.Ytgdobbcjkiapkaa
set_option maxRecDepth 100000
set_option maxHeartbeats 4000000
set_option linter.unusedSimpArgs false
set_option linter.unusedVariables false
section
open Go Go.Conc
section
variable {P:Program}
instance (s:String):Cal P (Extern.RuntimeError.text s):=by
 unfold Extern.RuntimeError.text
 repeat' (first | infer_instance | (refine Cal.bind ?_ (fun _ =>?_)) | (refine Cal.F9 (fun _ _ =>?_) _ _) | (refine Cal.Ep (fun _ _ =>?_) _ _) | (refine Cal.DT _ _ _ (fun _ _ _ =>?_)) | (refine Cal.Ie (fun _ =>?_) _) | (refine Cal.ite ?_ ?_) | split | (intro _) | dsimp only)
instance (a:Array Value):Cal P (Extern.RuntimeError.boundsError a):=by
 obtain ⟨l⟩:=a;rcases l with _ | ⟨v,_ | ⟨y,l⟩⟩
 ·exact (inferInstance:Cal P (stuck "boundsError expected"))
 ·cases v with
  | agg cs =>
   obtain ⟨m⟩:=cs;rcases m with _ | ⟨v1,_ | ⟨v2,_ | ⟨v3,_ | ⟨v4,_ | ⟨v5,m⟩⟩⟩⟩⟩
   ·exact (inferInstance:Cal P (stuck "boundsError expected"))
   ·exact (inferInstance:Cal P (stuck "boundsError expected"))
   ·exact (inferInstance:Cal P (stuck "boundsError expected"))
   ·exact (inferInstance:Cal P (stuck "boundsError expected"))
   ·cases v1 <;> first | exact (inferInstance:Cal P (stuck "boundsError expected")) | skip
    cases v2 <;> first | exact (inferInstance:Cal P (stuck "boundsError expected")) | skip
    cases v3 <;> first | exact (inferInstance:Cal P (stuck "boundsError expected")) | skip
    cases v4 <;> first | exact (inferInstance:Cal P (stuck "boundsError expected")) | skip
    show Cal P (Extern.RuntimeError.boundsError #[.agg #[.int _ _, .int _ _, .bool _, .int _ _]])
    conv=>arg 2;whnf
    split <;> infer_instance
   ·exact (inferInstance:Cal P (stuck "boundsError expected"))
  | _=>exact (inferInstance:Cal P (stuck "boundsError expected"))
 ·exact (inferInstance:Cal P (stuck "boundsError expected"))
instance (v:Value):Cal P (Extern.RuntimeError.described v):=by
 unfold Extern.RuntimeError.described
 repeat' (first | infer_instance | (refine Cal.bind ?_ (fun _ =>?_)) | (refine Cal.F9 (fun _ _ =>?_) _ _) | (refine Cal.Ep (fun _ _ =>?_) _ _) | (refine Cal.DT _ _ _ (fun _ _ _ =>?_)) | (refine Cal.Ie (fun _ =>?_) _) | (refine Cal.ite ?_ ?_) | split | (intro _) | dsimp only)
instance (i:TypeInfo):Cal P (Extern.RuntimeError.pkgpathOf i):=by
 unfold Extern.RuntimeError.pkgpathOf
 repeat' (first | infer_instance | (refine Cal.bind ?_ (fun _ =>?_)) | (refine Cal.F9 (fun _ _ =>?_) _ _) | (refine Cal.Ep (fun _ _ =>?_) _ _) | (refine Cal.DT _ _ _ (fun _ _ _ =>?_)) | (refine Cal.Ie (fun _ =>?_) _) | (refine Cal.ite ?_ ?_) | split | (intro _) | dsimp only)
instance (a:Array Value):Cal P (Extern.RuntimeError.typeAssertionError a):=by
 unfold Extern.RuntimeError.typeAssertionError
 repeat' (first | infer_instance | (refine Cal.bind ?_ (fun _ =>?_)) | (refine Cal.F9 (fun _ _ =>?_) _ _) | (refine Cal.Ep (fun _ _ =>?_) _ _) | (refine Cal.DT _ _ _ (fun _ _ _ =>?_)) | (refine Cal.Ie (fun _ =>?_) _) | (refine Cal.ite ?_ ?_) | split | (intro _) | dsimp only)
instance (a:Array Value):Cal P (Extern.RuntimeError.unhashableTypeError a):=by
 obtain ⟨l⟩:=a;rcases l with _ | ⟨v,_ | ⟨y,l⟩⟩
 ·exact (inferInstance:Cal P (stuck "unhashableTypeError expected"))
 ·cases v with
  | agg cs =>
   obtain ⟨m⟩:=cs;rcases m with _ | ⟨v1,_ | ⟨v2,m⟩⟩
   ·exact (inferInstance:Cal P (stuck "unhashableTypeError expected"))
   ·show Cal P (Extern.RuntimeError.unhashableTypeError #[.agg #[v1]]);refine Cal.bind (s:=Extern.RuntimeError.described v1) inferInstance (fun x =>?_)
    split <;> infer_instance
   ·exact (inferInstance:Cal P (stuck "unhashableTypeError expected"))
  | _=>exact (inferInstance:Cal P (stuck "unhashableTypeError expected"))
 ·exact (inferInstance:Cal P (stuck "unhashableTypeError expected"))
instance (a:Array Value):Cal P (Extern.RuntimeError.nothing a):=by
 unfold Extern.RuntimeError.nothing
 repeat' (first | infer_instance | (refine Cal.bind ?_ (fun _ =>?_)) | (refine Cal.F9 (fun _ _ =>?_) _ _) | (refine Cal.Ep (fun _ _ =>?_) _ _) | (refine Cal.DT _ _ _ (fun _ _ _ =>?_)) | (refine Cal.Ie (fun _ =>?_) _) | (refine Cal.ite ?_ ?_) | split | (intro _) | dsimp only)
theorem Vx:∀ p∈Extern.RuntimeError.rows,∀ args,Cal P (p.2 args):=by
 intro p hp args;simp only [Extern.RuntimeError.rows,List.mem_cons,List.not_mem_nil,or_false] at hp;rcases hp with rfl | rfl | rfl | rfl | rfl | rfl | rfl | rfl | rfl | rfl | rfl | rfl | rfl | rfl | rfl | rfl <;> try dsimp only
 all_goals
  repeat' (first | infer_instance | (refine Cal.bind ?_ (fun _ =>?_)) | (refine Cal.F9 (fun _ _ =>?_) _ _) | (refine Cal.Ep (fun _ _ =>?_) _ _) | (refine Cal.DT _ _ _ (fun _ _ _ =>?_)) | (refine Cal.Ie (fun _ =>?_) _) | (refine Cal.ite ?_ ?_) | split | (intro _) | dsimp only)
theorem KA {α:Type} {β:Type} [BEq α] [LawfulBEq α]:∀ {l:List (α×β)} {a:α} {b:β},l.lookup a=some b→(a,b)∈l
 | [],_,_,h=>by simp at h
 | (x,y) :: l,a,b,h=>by
  rw [List.lookup_cons] at h
  by_cases e:a=x
  ·subst e;simp at h;subst h;simp
  ·have e2:(a == x)=false:=by simpa using e
   rw [e2] at h;exact List.mem_cons_of_mem _ (KA h)
theorem BF {fn:Func} (n:String) (h:Extern.find fn=Extern.RuntimeError.rows.lookup n):∀ e,Extern.find fn=some e→∀ args,Cal P (e args):=fun e he args =>
 Vx _ (KA (h.symm.trans he)) args
end
theorem G5:EJ Try.prog:=by
 have hall:(List.range 155).all (fun f=>match Try.prog.funcs[f]? with | some fn => !(fn.name == "runtime.NumGoroutine") && (fn.body.isSome || ([0,1,138,139,140,141,142,143,144,145,146,147,148,149,150,151,152,153,154]:List Nat).contains f) && (fn.body.isSome || (Extern.findNext fn).isNone) | none=>false)=true:=by kernel_rfl
 have hsz:Try.prog.funcs.size=155:=by kernel_rfl
 have key:∀ (f:FuncId) (fn:Func),Try.prog.funcs[f]? = some fn→(fn.name == "runtime.NumGoroutine")=false∧(fn.body.isSome=true∨f∈([0,1,138,139,140,141,142,143,144,145,146,147,148,149,150,151,152,153,154]:List Nat))∧(fn.body.isSome || (Extern.findNext fn).isNone)=true:=fun f fn hf=>by
  have hlt:f < 155:=by rw [← hsz];exact (Array.getElem?_eq_some_iff.1 hf).1
  have h1:=(List.all_eq_true.1 hall) f (by rw [List.mem_range];exact hlt);rw [hf] at h1;simp only [Bool.and_eq_true,Bool.or_eq_true] at h1;exact ⟨by simpa using h1.1.1,h1.1.2.imp id (fun x=>by simpa using x),by simpa using h1.2⟩
 refine ⟨fun f fn hf=>(key f fn hf).1,fun f fn hf hb =>?_,fun f fn e hf hb he =>?_⟩
 ·have h2:=(key f fn hf).2.2;rw [Option.isNone_iff_eq_none] at hb;rw [hb] at h2
  simpa using h2
 ·have h2:=(key f fn hf).2.1;rw [Option.isNone_iff_eq_none] at hb;rw [hb] at h2;have h3:=h2.elim (fun x=>by cases x) id;clear h2 hb key hall;simp only [List.mem_cons,List.not_mem_nil,or_false] at h3;rcases h3 with rfl | rfl | rfl | rfl | rfl | rfl | rfl | rfl | rfl | rfl | rfl | rfl | rfl | rfl | rfl | rfl | rfl | rfl | rfl
  ·obtain rfl:fn=Try.f0:=by rw [Try.func0] at hf;exact (Option.some.inj hf).symm
   have h:(Extern.find Try.f0).isNone=true:=by kernel_rfl
   rw [he] at h;cases h
  ·obtain rfl:fn=Try.f1:=by rw [Try.func1] at hf;exact (Option.some.inj hf).symm
   have h:(Extern.find Try.f1).isNone=true:=by kernel_rfl
   rw [he] at h;cases h
  ·obtain rfl:fn=Try.f138:=by rw [Try.func138] at hf;exact (Option.some.inj hf).symm
   exact BF "(runtime.boundsError).Error" (by kernel_rfl) e he
  ·obtain rfl:fn=Try.f139:=by rw [Try.func139] at hf;exact (Option.some.inj hf).symm
   exact BF "(runtime.boundsError).RuntimeError" (by kernel_rfl) e he
  ·obtain rfl:fn=Try.f140:=by rw [Try.func140] at hf;exact (Option.some.inj hf).symm
   exact BF "(runtime.errorString).Error" (by kernel_rfl) e he
  ·obtain rfl:fn=Try.f141:=by rw [Try.func141] at hf;exact (Option.some.inj hf).symm
   exact BF "(runtime.errorString).RuntimeError" (by kernel_rfl) e he
  ·obtain rfl:fn=Try.f142:=by rw [Try.func142] at hf;exact (Option.some.inj hf).symm
   exact BF "(runtime.plainError).Error" (by kernel_rfl) e he
  ·obtain rfl:fn=Try.f143:=by rw [Try.func143] at hf;exact (Option.some.inj hf).symm
   exact BF "(runtime.plainError).RuntimeError" (by kernel_rfl) e he
  ·obtain rfl:fn=Try.f144:=by rw [Try.func144] at hf;exact (Option.some.inj hf).symm
   exact BF "(runtime.errorAddressString).Error" (by kernel_rfl) e he
  ·obtain rfl:fn=Try.f145:=by rw [Try.func145] at hf;exact (Option.some.inj hf).symm
   exact BF "(runtime.errorAddressString).RuntimeError" (by kernel_rfl) e he
  ·obtain rfl:fn=Try.f146:=by rw [Try.func146] at hf;exact (Option.some.inj hf).symm
   exact BF "(*runtime.TypeAssertionError).Error" (by kernel_rfl) e he
  ·obtain rfl:fn=Try.f147:=by rw [Try.func147] at hf;exact (Option.some.inj hf).symm
   exact BF "(*runtime.TypeAssertionError).RuntimeError" (by kernel_rfl) e he
  ·obtain rfl:fn=Try.f148:=by rw [Try.func148] at hf;exact (Option.some.inj hf).symm
   exact BF "(*runtime.PanicNilError).Error" (by kernel_rfl) e he
  ·obtain rfl:fn=Try.f149:=by rw [Try.func149] at hf;exact (Option.some.inj hf).symm
   exact BF "(*runtime.PanicNilError).RuntimeError" (by kernel_rfl) e he
  ·obtain rfl:fn=Try.f150:=by rw [Try.func150] at hf;exact (Option.some.inj hf).symm
   have h:(Extern.find Try.f150).isNone=true:=by kernel_rfl
   rw [he] at h;cases h
  ·obtain rfl:fn=Try.f151:=by rw [Try.func151] at hf;exact (Option.some.inj hf).symm
   exact BF "(internal/runtime/maps.unhashableTypeError).Error" (by kernel_rfl) e he
  ·obtain rfl:fn=Try.f152:=by rw [Try.func152] at hf;exact (Option.some.inj hf).symm
   exact BF "(internal/runtime/maps.unhashableTypeError).RuntimeError" (by kernel_rfl) e he
  ·obtain rfl:fn=Try.f153:=by rw [Try.func153] at hf;exact (Option.some.inj hf).symm
   have h:(Extern.find Try.f153).isNone=true:=by kernel_rfl
   rw [he] at h;cases h
  ·obtain rfl:fn=Try.f154:=by rw [Try.func154] at hf;exact (Option.some.inj hf).symm
   have h:Extern.find Try.f154=Extern.ReflectliteType.rows.lookup "(internal/abi.Kind).String" := by kernel_rfl
   rw [h] at he;have hm:=KA he;simp [Extern.ReflectliteType.rows] at hm;subst hm;intro args
   try dsimp only
   repeat' (first | infer_instance | (refine Cal.bind ?_ (fun _ =>?_)) | (refine Cal.F9 (fun _ _ =>?_) _ _) | (refine Cal.Ep (fun _ _ =>?_) _ _) | (refine Cal.DT _ _ _ (fun _ _ _ =>?_)) | (refine Cal.Ie (fun _ =>?_) _) | (refine Cal.ite ?_ ?_) | split | (intro _) | dsimp only)
end
section
open Go Go.Conc
open Go.RowKit
structure BA where
 heads:Int
 free:Int
 half:Bool
 deriving DecidableEq,Inhabited
structure BH where
 strip:Int
 rate:Int
 farmer:Int
 deriving DecidableEq,Inhabited
structure Nq (B:Nat) (w:World) (bd:Nat) (ps:List BA) (ts:List BH) (q:List ((Int×Int)×Int)) (pb po pc tb to_ tc mb clock:Nat) (ents:Array MapEntry):Prop where
 lb:bd < B
 lp:pb < B
 lt:tb < B
 lm:mb < B
 c4:w.cell? ⟨bd,4,none⟩=some (.slice (some ⟨pb,po,none⟩) ps.length pc)
 c5:∃ ta,w.cell? ⟨bd,5,none⟩=some (.slice ta ts.length tc)∧(ts≠[]→ta=some ⟨tb,to_,none⟩)
 c6:w.cell? ⟨bd,6,none⟩=some (.map (some mb))
 p0:∀ (o:Nat) (h:o < ps.length),w.cell? ⟨pb,po+o*3,none⟩=some (.int .i64 ps[o].heads)
 p1:∀ (o:Nat) (h:o < ps.length),w.cell? ⟨pb,po+o*3+1,none⟩=some (.int .i64 ps[o].free)
 p2:∀ (o:Nat) (h:o < ps.length),w.cell? ⟨pb,po+o*3+2,none⟩=some (.bool ps[o].half)
 t1:∀ (i:Nat) (h:i < ts.length),w.cell? ⟨tb,to_+i*3+1,none⟩=some (.int .i64 ts[i].rate)
 map:w.heap[mb]? = some (.map ents clock)
 ents:EZ ents.toList q
 free0:∀ p∈ps,0≤p.free∧p.free≤1000000
 rate0:∀ t∈ts,0≤t.rate∧t.rate≤100000
 heads0:∀ k,0≤(atK q k).getD 0∧(atK q k).getD 0≤1000000
theorem Nq.keep {B:Nat} {w w':World} {bd:Nat} {ps:List BA} {ts:List BH} {q:List ((Int×Int)×Int)} {pb po pc tb to_ tc mb clock:Nat} {ents:Array MapEntry} (h:Nq B w bd ps ts q pb po pc tb to_ tc mb clock ents) (hb:Below B w w'):Nq B w' bd ps ts q pb po pc tb to_ tc mb clock ents :=
 ⟨h.lb,h.lp,h.lt,h.lm,(hb.cell (p:=⟨bd,4,none⟩) h.lb).trans h.c4,⟨_,(hb.cell (p:=⟨bd,5,none⟩) h.lb).trans h.c5.choose_spec.1,h.c5.choose_spec.2⟩,(hb.cell (p:=⟨bd,6,none⟩) h.lb).trans h.c6,
  fun o ho=>(hb.cell (p:=⟨pb,po+o*3,none⟩) h.lp).trans (h.p0 o ho),fun o ho=>(hb.cell (p:=⟨pb,po+o*3+1,none⟩) h.lp).trans (h.p1 o ho),fun o ho=>(hb.cell (p:=⟨pb,po+o*3+2,none⟩) h.lp).trans (h.p2 o ho),
  fun i hi=>(hb.cell (p:=⟨tb,to_+i*3+1,none⟩) h.lt).trans (h.t1 i hi),(hb.block mb h.lm).trans h.map,h.ents,h.free0,h.rate0,h.heads0⟩
theorem Nq.at5 {B:Nat} {w:World} {bd:Nat} {ps:List BA} {ts:List BH} {q:List ((Int×Int)×Int)} {pb po pc tb to_ tc mb clock:Nat} {ents:Array MapEntry} (h:Nq B w bd ps ts q pb po pc tb to_ tc mb clock ents) {i:Nat} (hi:i < ts.length):w.cell? ⟨bd,5,none⟩=some (.slice (some ⟨tb,to_,none⟩) ts.length tc):=by
 obtain ⟨ta,h1,h2⟩:=h.c5;rw [h2 (fun e=>by subst e;simp at hi)] at h1;exact h1
def atV (ps:List BA) (ts:List BH) (q:List ((Int×Int)×Int)) (o i:Nat):Int:=ofV (ps.getD o default).free (ps.getD o default).half ((atK q ((i:Int),(o:Int))).getD 0) (ts.getD i default).rate
def Jb (f:Nat→Int):Nat→Int
 | 0=>0
 | k+1=>Jb f k+f k
theorem Ky {fr q rate:Int} {half:Bool} (hf:0≤fr) (hq0:0≤q) (hq:q≤1000000) (hr0:0≤rate) (hr:rate≤100000):0≤ofV fr half q rate∧ofV fr half q rate≤200000000000:=by
 have hm0:0≤(if fr < q then q-fr else 0):=by split <;> omega
 have hm1:(if fr < q then q-fr else 0)≤1000000:=by split <;> omega
 have h1:=Int.mul_nonneg hm0 hr0;have h2:(if fr < q then q-fr else 0)*rate≤1000000*100000:=Int.mul_le_mul hm1 hr hr0 (by omega);unfold ofV
 cases half
 ·simp only [Bool.false_eq_true,if_false];omega
 ·simp only [if_true];omega
theorem EO {f:Nat→Int} (h:∀ k,0≤f k∧f k≤200000000000):∀ k:Nat,0≤Jb f k∧Jb f k≤200000000000*(k:Int)
 | 0=>⟨by simp [Jb],by simp [Jb]⟩
 | k+1=>by
  have:=EO h k;have:=h k;simp only [Jb]
  constructor
  ·omega
  ·push_cast;omega
theorem Om {c N ma n:Nat} {fn f:FuncId} {Q:Exit→Act→World→Prop} {a:Act} {w:World} {av:Array Value} {z:Int} (ops:Array Oper) (i:Nat) (rest:List Nat) (o:Oper) (ho:ops[i]? = some o) (hg:o.guard=none)
  {args:Array Operand} {ats:Array TypeId} (hop:o.op = .call { callee := .value (.func f),args,argTypes:=ats }) (hargs:args.map a.eval=av)
  (hcall:CallsC Try.prog false (AO AP c N) (Bo AP c N) f av ma w (fun v w'=>v = .int .i64 z∧AO AP c N w w'))
  (hn:∀ w',AO AP c N w w'→OpsC Try.prog false (AO AP c N) (Bo AP c N) fn ops rest n Q (a.put o.dst (.int .i64 z)) w'):OpsC Try.prog false (AO AP c N) (Bo AP c N) fn ops (i :: rest) (n+ma+3) Q a w:=by
 subst hargs;exact opsC_call Ag ho (by simp [Region.wanted,hg]) hop hcall fun v w' hv=>by rw [hv.1];exact hn w' hv.2
theorem Sl.Xt {n:Nat} (x y:Value) (hn:2≤n):Sl (⟨#[x,y]++Array.replicate (n-2) undef,[]⟩:Act) n [(0,x),(1,y)]:=by
 have hs:(⟨#[x,y]++Array.replicate (n-2) undef,[]⟩:Act).tmps.size=n:=by simp;omega
 exact ((Sl.nil ⟨hs,rfl,fun t v hv=>by simp at hv⟩ (m:=[])).cons (t:=1) (by rw [Array.getElem?_append_left (by simp)];rfl)).cons (t:=0) (by rw [Array.getElem?_append_left (by simp)];rfl)
theorem XB:Try.f79.body=some (Code.seq (Aa Try.f79 0) (Code.seq (Aa Try.f79 1) Code.ret)):=by kernel_rfl
def Zw (ps:List BA) (ts:List BH) (q:List ((Int×Int)×Int)) (o:Nat):Int:=F8 (Jb (atV ps ts q o) ts.length)
theorem Abn:∃ m,∀ (B N c:Nat),B≤N→B≤c→∀ (w:World) (bd o:Nat) (ps:List BA) (ts:List BH) (q:List ((Int×Int)×Int)) (pb po pc tb to_ tc mb clock:Nat) (ents:Array MapEntry),B≤w.heap.size→Nq B w bd ps ts q pb po pc tb to_ tc mb clock ents→o < ps.length→ts.length≤1000 →
  CallsC Try.prog false (AO AP c N) (Bo AP c N) 79 #[.pointer (some ⟨bd,0,none⟩), .int .i64 (o:Int)] m w (fun v w'=>v = .int .i64 (Zw ps ts q o)∧AO AP c N w w'):=by
 obtain ⟨mc,hcoins⟩:=Aac;obtain ⟨ma,hat⟩:=AbJ;obtain ⟨ms,hsum⟩:=Abe 1000 ma (Nat.le_refl _);refine ⟨3+((2+mc+3+ms+3+1+1+1+1+1)+1+1)+1,fun B N c hBN hBc w bd o ps ts q pb po pc tb to_ tc mb clock ents hBw hD ho ht=>callsC_of_wpC Try.func79 (by kernel_rfl) XB ?_⟩;have Z:Sl (⟨#[.pointer (some ⟨bd,0,none⟩), .int .i64 (o:Int)]++Array.replicate (Try.f79.ntmps-(#[.pointer (some ⟨bd,0,none⟩), .int .i64 (o:Int)]:Array Value).size) undef,[]⟩:Act) 11 [(0, .pointer (some ⟨bd,0,none⟩)),(1, .int .i64 (o:Int))]:=by rw [Try.ntmps79];exact Sl.Xt _ _ (by omega)
 revert Z;generalize (Act.mk _ _)=a;intro Z
 have hb:∀ k,0≤atV ps ts q o k∧atV ps ts q o k≤200000000000:=fun k=>by
  have hp:0≤(ps.getD o default).free:=by
   rw [List.getD_eq_getElem?_getD,List.getElem?_eq_getElem ho];exact (hD.free0 _ (List.getElem_mem ho)).1
  have hr:0≤(ts.getD k default).rate∧(ts.getD k default).rate≤100000:=by
   rw [List.getD_eq_getElem?_getD]
   cases hk:ts[k]? with
   | none=>simp [show (default:BH).rate=0 from rfl]
   | some t=>exact hD.rate0 t (List.mem_of_getElem? hk)
  exact Ky hp (hD.heads0 _).1 (hD.heads0 _).2 hr.1 hr.2
 have hsb:=EO hb
 have hS:=hsum B N c hBN hBc w bd ts.length tc hD.c5.choose (o:Int) 80 _ #[.pointer (some ⟨bd,0,none⟩)] #[] (atV ps ts q o) (Jb (atV ps ts q o)) hBw hD.lb hD.c5.choose_spec.1 ht Try.func80 (by kernel_rfl) (by kernel_rfl) rfl (fun _=>rfl)
  (fun k hk=>⟨(hsb k).1,Int.le_trans (hsb k).2 (by omega)⟩) (fun w₁ j hr hj=>by
   have hb1:Below B w w₁:=hr.below hBN hBw hBc;have hD1:=hD.keep hb1;have:=hat B N c hBN hBc w₁ bd pb po ps.length pc tb to_ ts.length tc mb clock j o ents q ps[o].heads ps[o].free ts[j].rate ps[o].half (Nat.le_trans hBw hb1.size) hD1.lb hD1.lp hD1.lt hD1.lm hD1.c4 (hD1.at5 hj) hD1.c6 (hD1.p0 o ho) (hD1.p1 o ho) (hD1.p2 o ho) (hD1.t1 j hj) hD1.map hD1.ents hj ho (hD1.free0 _ (List.getElem_mem ho)).1 (hD1.free0 _ (List.getElem_mem ho)).2 (hD1.heads0 _).1 (hD1.heads0 _).2 (hD1.rate0 _ (List.getElem_mem hj)).1 (hD1.rate0 _ (List.getElem_mem hj)).2
   have e:atV ps ts q o j=ofV ps[o].free ps[o].half ((atK q ((j:Int),(o:Int))).getD 0) ts[j].rate:=by
    unfold atV;rw [List.getD_eq_getElem?_getD,List.getElem?_eq_getElem ho,List.getD_eq_getElem?_getD,List.getElem?_eq_getElem hj];rfl
   rw [e];exact this)
 have hs2:=hsb ts.length;have hC:=fun w1=>hcoins N c w1 (Jb (atV ps ts q o) ts.length) hs2.1 (by omega)
 refine wpC_seq (n₁:=3) (n₂:=(2+mc+3+ms+3+1+1+1+1+1)+1+1) Ag ?_;rw [show Aa Try.f79 0=Code.region 0 _ false from rfl];refine wpC_region Ag ?_;simp only [List.size_toArray,List.length_cons,List.length_nil,Nat.reduceAdd,Nat.zero_add,List.range,List.range.loop]
 co_apply Ap Ag (.int .i64 0) rfl (by rfl)
 ·exact fun _ _=>(by exact oq)
 refine Z.goC (by decide) ?_;clear Z;intro a Z;refine opsC_nil Ag ?_;refine wpC_seq (n₁:=(2+mc+3+ms+3+1+1+1+1+1)) (n₂:=1) Ag ?_;rw [show Aa Try.f79 1=Code.region 1 _ false from rfl];refine wpC_region Ag ?_;simp only [List.size_toArray,List.length_cons,List.length_nil,Nat.reduceAdd,Nat.zero_add,List.range,List.range.loop]
 co_apply Ap Ag (.pointer (some ⟨bd,0,none⟩)) rfl (by rfl)
 ·exact fun _ _=>(by have e0:=Z.g 0;exact oq)
 refine Z.goC (by decide) ?_;clear Z;intro a Z
 co_apply Ap Ag (.int .i64 (o:Int)) rfl (by rfl)
 ·exact fun _ _=>(by have e1:=Z.g 1;exact oq)
 refine Z.goC (by decide) ?_;clear Z;intro a Z
 co_apply Ap Ag (.pointer (some ⟨bd,0,none⟩)) rfl (by rfl)
 ·exact fun _ _=>(by have e0:=Z.g 0;exact oq)
 refine Z.goC (by decide) ?_;clear Z;intro a Z
 co_apply Ap Ag (.func (.func 80) #[.pointer (some ⟨bd,0,none⟩)] #[]) rfl (by rfl)
 ·exact fun _ _=>(by have e7:=Z.g 7;exact oq)
 refine Z.goC (by decide) ?_;clear Z;intro a Z;have E (t:Nat) (v:Value) (e:a.tmps[t]? = some v):a.eval (.tmp t)=v:=by simp [Act.eval,Array.getD_eq_getD_getElem?,e]
 refine Om (n:=2+mc+3) (ma:=ms) (z:=Jb (atV ps ts q o) ts.length) _ _ _ _ rfl rfl rfl (by rw [List.map_toArray,List.map_cons,List.map_cons,List.map_cons,List.map_nil,E 5 _ (Z.get 5 _ rfl),E 6 _ (Z.get 6 _ rfl),E 8 _ (Z.get 8 _ rfl)]) hS fun w1 hr1 =>?_
 clear E;refine Z.goC (by decide) fun a' hsl' =>?_
 clear Z;revert hsl';generalize a'=a;intro Z;have E (t:Nat) (v:Value) (e:a.tmps[t]? = some v):a.eval (.tmp t)=v:=by simp [Act.eval,Array.getD_eq_getD_getElem?,e]
 refine Om (n:=2) (ma:=mc) (z:=Zw ps ts q o) _ _ _ _ rfl rfl rfl (by rw [List.map_toArray,List.map_cons,List.map_nil,E 9 _ (Z.get 9 _ rfl)]) (hC w1) fun w2 hr2 =>?_
 clear E;refine Z.goC (by decide) fun a' hsl' =>?_
 clear Z;revert hsl';generalize a'=a;intro Z
 co_apply Ap Ag (.int .i64 (Zw ps ts q o)) rfl (by rfl)
 ·exact fun _ _=>(by have e10:=Z.g 10;exact oq)
 refine Z.goC (by decide) ?_;clear Z;intro a Z;refine opsC_nil Ag ?_;refine wpC_ret Ag ?_
 try simp only [Exit.then,Exit.inBlock,↓reduceIte,Nat.reduceEqDiff]
 refine ⟨Z.defers, .int .i64 (Zw ps ts q o),?_,rfl,hr1.trans hr2⟩;have h4:=Z.get 4 _ rfl;have:=resultsC_tmp (P:=Try.prog) Try.results79 a.tmps;rw [Array.getD_eq_getD_getElem?,h4] at this;exact this
theorem Xx:∃ mf,∀ (w0:World) (bd:Nat) (ps:List BA) (ts:List BH) (q:List ((Int×Int)×Int)) (pb po pc tb to_ tc mb clock:Nat) (ents:Array MapEntry),Nq w0.heap.size w0 bd ps ts q pb po pc tb to_ tc mb clock ents→ts.length≤1000 →
  TA w0 ps.length mf 79 #[.pointer (some ⟨bd,0,none⟩)] #[] (Zw ps ts q):=by
 obtain ⟨m,h⟩:=Abn;refine ⟨m,fun w0 bd ps ts q pb po pc tb to_ tc mb clock ents hD ht N c w₁ i hi hN hc hb =>?_⟩
 have hD1:Nq w0.heap.size w₁ bd ps ts q pb po pc tb to_ tc mb clock ents:=by
  have hD':Nq w0.heap.size { w0 with os:=w₁.os,tape:=w₁.tape,output:=w₁.output } bd ps ts q pb po pc tb to_ tc mb clock ents:=⟨hD.lb,hD.lp,hD.lt,hD.lm,hD.c4,hD.c5,hD.c6,hD.p0,hD.p1,hD.p2,hD.t1,hD.map,hD.ents,hD.free0,hD.rate0,hD.heads0⟩;exact hD'.keep ⟨rfl,rfl,rfl,hb.1,hb.2⟩
 exact h w0.heap.size N c hN hc w₁ bd i ps ts q pb po pc tb to_ tc mb clock ents hb.1 hD1 hi ht
theorem YW {M:Machine} {w0:World} {bd:Nat} {ps:List BA} {ts:List BH} {q:List ((Int×Int)×Int)} {pb po pc tb to_ tc mb clock:Nat} {ents:Array MapEntry} (hD:Nq w0.heap.size w0 bd ps ts q pb po pc tb to_ tc mb clock ents) (ht:ts.length≤1000) (hp:ps.length≤1000) :
  Ed Try.prog M 78 #[.pointer (some ⟨bd,0,none⟩), .func (.func 79) #[.pointer (some ⟨bd,0,none⟩)] #[]] w0
   fun e w'=>∃ g row,e = .returned (.slice (some ⟨g,0,none⟩) ps.length ps.length)∧Below w0.heap.size w0 w'∧w0.heap.size≤g∧w'.heap[g]? = some (.cells row 3 (0,0))∧row.size=ps.length∧∀ i,i < ps.length→row[i]? = some (.int .i64 (Zw ps ts q i)):=by
 obtain ⟨mf,h⟩:=Xx;exact YX G5 hD.c4 hp Try.func79 (by kernel_rfl) (by kernel_rfl) (h w0 bd ps ts q pb po pc tb to_ tc mb clock ents hD ht)
end
section
open Go Go.Conc
open Go.RowKit
end
section
open Go Go.Conc
open Go.RowKit
end
section
open Go.RowKit
structure Ac where
 roads:BU
 pace:Int
 Ad:List BA
 Ai:List BH
 deriving DecidableEq
structure AV where
 toll:Int
 owner:Int
 heads:Int
 deriving DecidableEq,Inhabited
def Ud (n lo hi:Int):Int:=if n < lo then 7 else if hi < n then 6 else 0
def Am:List BA→Int
 | []=>0
 | p :: l=>p.heads+Am l
def Bd (p:BA):Bool:=btw p.heads 0 40 && btw p.free 0 40
def BZ (n:Int) (pre:List BH) (x:BH):Int :=
 if !(btw x.strip 0 (n-1)) then 3
 else if !(btw x.rate 0 500) || !(btw x.farmer 1 4) then 1
 else if pre.any (fun y=>y.strip == x.strip && y.farmer == x.farmer) then 4
 else 0
def BV (n:Int):List BH→List BH→Int
 | _,[]=>0
 | pre,x :: l=>if BZ n pre x=0 then BV n (pre++[x]) l else BZ n pre x
def Fj (t:Ac):Int:=if 6 < t.Ai.length then 6 else BV t.roads.strips.length [] t.Ai
def Ak (t:Ac):Int :=
 if BN t.roads≠0 then BN t.roads
 else if !(btw t.pace 1 9) then 1
 else if Ud t.Ad.length 1 4≠0 then Ud t.Ad.length 1 4
 else if !(t.Ad.all Bd) then 1
 else if !(btw (Am t.Ad) 1 40) then 1
 else Fj t
theorem O0 {n:Int} {ts:List BH} {k:Nat} (h:k < ts.length) (he:BZ n (ts.take k) ts[k]=0):BV n (ts.take (k+1)) (ts.drop (k+1))=BV n (ts.take k) (ts.drop k):=by
 rw [List.drop_eq_getElem_cons h]
 conv=>rhs;rw [BV]
 rw [if_pos he,List.take_succ_eq_append_getElem h]
theorem OZ {n:Int} {ts:List BH} {k:Nat} {e:Int} (h:k < ts.length) (he:BZ n (ts.take k) ts[k]=e) (h0:e≠0):BV n (ts.take k) (ts.drop k)=e:=by
 rw [List.drop_eq_getElem_cons h,BV,if_neg (by rw [he];exact h0),he]
theorem NQ (a b:List BA):Am (a++b)=Am a+Am b:=by
 induction a with
 | nil=>simp [Am]
 | cons x a ih=>simp only [List.cons_append,Am,ih];omega
theorem QM {ps:List BA} {k:Nat} (h:k < ps.length):Am (ps.take (k+1))=Am (ps.take k)+ps[k].heads:=by
 rw [List.take_succ_eq_append_getElem h,NQ];simp [Am]
theorem Jg {ps:List BA} (h:ps.all Bd=true):0≤Am ps∧Am ps≤40*(ps.length:Int):=by
 induction ps with
 | nil=>simp [Am]
 | cons p l ih =>
  simp only [List.all_cons,Bool.and_eq_true] at h;obtain ⟨h1,h2⟩:=h;have:=ih h2;simp only [Bd,Bool.and_eq_true] at h1;have h3:=Aj.1 h1.1;simp only [Am,List.length_cons]
  push_cast
  omega
def PQ {α:Type} (f:α→Value×Value×Value) (w:World) (a:Option Addr) (l:List α):Prop :=
 l=[]∨∃ b o,a=some ⟨b,o,none⟩∧∀ (i:Nat) (h:i < l.length),w.cell? ⟨b,o+i*3,none⟩=some (f l[i]).1∧w.cell? ⟨b,o+i*3+1,none⟩=some (f l[i]).2.1∧w.cell? ⟨b,o+i*3+2,none⟩=some (f l[i]).2.2
theorem PQ.below {α:Type} {f:α→Value×Value×Value} {w w':World} {a:Option Addr} {l:List α} (h:PQ f w a l) (hb:Below w.heap.size w w'):PQ f w' a l:=by
 rcases h with h | ⟨b,o,ha,h⟩
 ·exact .inl h
 ·exact .inr ⟨b,o,ha,fun i hi=>⟨((Eo hb).1 _ _ (lt_of_cell (h i hi).1)).trans (h i hi).1,((Eo hb).1 _ _ (lt_of_cell (h i hi).2.1)).trans (h i hi).2.1,((Eo hb).1 _ _ (lt_of_cell (h i hi).2.2)).trans (h i hi).2.2⟩⟩
theorem PQ.at {α:Type} {f:α→Value×Value×Value} {w:World} {a:Option Addr} {l:List α} (h:PQ f w a l) {i:Nat} (hi:i < l.length):∃ b o,a=some ⟨b,o,none⟩∧w.cell? ⟨b,o+i*3,none⟩=some (f l[i]).1∧w.cell? ⟨b,o+i*3+1,none⟩=some (f l[i]).2.1∧w.cell? ⟨b,o+i*3+2,none⟩=some (f l[i]).2.2:=by
 rcases h with rfl | ⟨b,o,ha,h⟩
 ·simp at hi
 ·exact ⟨b,o,ha,h i hi⟩
def Zp (p:BA):Value×Value×Value:=(.int .i64 p.heads, .int .i64 p.free, .bool p.half)
def P8 (x:BH):Value×Value×Value:=(.int .i64 x.strip, .int .i64 x.rate, .int .i64 x.farmer)
def SB (x:AV):Value×Value×Value:=(.int .i64 x.toll, .int .i64 x.owner, .int .i64 x.heads)
abbrev Ur:=PQ Zp
abbrev X4:=PQ P8
abbrev GY:=PQ SB
structure DF where
 sa:Option Addr
 sc:Nat
 pa:Option Addr
 pc:Nat
 ta:Option Addr
 tc:Nat
def Em (t:Ac) (s:DF):Array Value:=#[.int .i64 t.roads.days, .int .i64 t.roads.stages, .slice s.sa t.roads.strips.length s.sc, .int .i64 t.pace, .slice s.pa t.Ad.length s.pc, .slice s.ta t.Ai.length s.tc]
structure BM (w:World) (t:Ac) (s:DF):Prop where
 strips:EH w s.sa t.roads.strips
 Ad:Ur w s.pa t.Ad
 Ai:X4 w s.ta t.Ai
 ls:t.roads.strips.length≤maxLen
 lp:t.Ad.length≤maxLen
 lt:t.Ai.length≤maxLen
 qp:t.Ad.length≤s.pc
 qt:t.Ai.length≤s.tc
theorem BM.below {w w':World} {t:Ac} {s:DF} (h:BM w t s) (hb:Below w.heap.size w w'):BM w' t s:=⟨h.strips.below hb,h.Ad.below hb,h.Ai.below hb,h.ls,h.lp,h.lt,h.qp,h.qt⟩
theorem Bl (n lo hi:Int) (w:World) :
  Calls Try.prog 86 #[.int .i64 n, .int .i64 lo, .int .i64 hi] w fun e w'=>e = .returned (.bool (btw n lo hi))∧w=w':=by
 by_cases h:lo≤n
 ·go_enter Try.func86,Try.ntmps86
  go_wp2
  go_ret
  exact ⟨by simp [h,btw],rfl⟩
 ·go_enter Try.func86,Try.ntmps86
  go_wp2
  go_ret
  exact ⟨by simp [btw];omega,rfl⟩
theorem ZV (n lo hi:Int) (w:World) :
  Calls Try.prog 87 #[.int .i64 n, .int .i64 lo, .int .i64 hi] w fun e w'=>e = .returned (.int .i64 (Ud n lo hi))∧w=w':=by
 by_cases h:n < lo
 ·go_enter Try.func87,Try.ntmps87
  go_wp2
  go_ret
  exact ⟨DR (by simp [h,Ud]),rfl⟩
 ·by_cases h2:hi < n
  ·go_enter Try.func87,Try.ntmps87
   go_wp2
   go_ret
   exact ⟨DR (by simp [h,h2,Ud]),rfl⟩
  ·go_enter Try.func87,Try.ntmps87
   go_wp2
   go_ret
   exact ⟨DR (by unfold Ud;rw [if_neg (by omega),if_neg (by omega)]),rfl⟩
theorem Sl.AaL {n:Nat}:Sl (⟨#[]++Array.replicate (n-0) undef,[]⟩:Act) n []:=⟨by simp,rfl,fun t v h=>by simp at h⟩
theorem Sl.AaK {n:Nat} (x:Value) (hn:1≤n):Sl (⟨#[x]++Array.replicate (n-1) undef,[]⟩:Act) n [(0,x)]:=Sl.Xu x hn
theorem Sl.Xv {n:Nat} (x y:Value) (hn:2≤n):Sl (⟨#[x,y]++Array.replicate (n-2) undef,[]⟩:Act) n [(0,x),(1,y)]:=Sl.Xt x y hn
theorem Sl.AaJ {n:Nat} (x y z:Value) (hn:3≤n):Sl (⟨#[x,y,z]++Array.replicate (n-3) undef,[]⟩:Act) n [(0,x),(1,y),(2,z)]:=Sl.S9 x y z hn
theorem Sl.AaI {n:Nat} (x y z u:Value) (hn:4≤n):Sl (⟨#[x,y,z,u]++Array.replicate (n-4) undef,[]⟩:Act) n [(0,x),(1,y),(2,z),(3,u)]:=Sl.Xr x y z u hn
theorem Oo:∀ (vs:List Value) (k t:Nat) (v:Value),((vs.zipIdx k).map fun q=>(q.2,q.1)).lookup t=some v→k≤t∧vs[t-k]? = some v
 | [],k,t,v,h=>by simp at h
 | x :: vs,k,t,v,h=>by
  rw [List.zipIdx_cons,List.map_cons,List.lookup_cons] at h
  by_cases e:t=k
  ·subst e;simp at h;exact ⟨Nat.le_refl _,by simp [h]⟩
  ·have e2:(t == k)=false:=by simpa using e
   rw [e2] at h;obtain ⟨h1,h2⟩:=Oo vs (k+1) t v h;exact ⟨by omega,by rw [show t-k=(t-(k+1))+1 by omega];simpa using h2⟩
theorem Sl.Uf (vs:List Value) {n:Nat} (hn:vs.length≤n):Sl (⟨vs.toArray++Array.replicate (n-vs.length) undef,[]⟩:Act) n ((vs.zipIdx 0).map fun q=>(q.2,q.1)):=by
 refine ⟨by simp;omega,rfl,fun t v h =>?_⟩;obtain ⟨_,h2⟩:=Oo vs 0 t v h;rw [Nat.sub_zero] at h2;have hlt:t < vs.length:=(List.getElem?_eq_some_iff.1 h2).1;rw [Array.getElem?_append_left (by simpa using hlt)]
 simpa using h2
theorem Ae {w:World} {c:Array Value} {t:TypeId} {G:World→Prop} (h:∀ W,W.heap.size=w.heap.size+1→Rw W w.heap.size c t→Below w.heap.size w W→G W):G (w.alloc (.cells c t)):=h _ (by simp) (Rw.new _ _ _) (Dp _ _)
end
end Go.Proofs.Ytgdobbcjkiapkaa
