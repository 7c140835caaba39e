import Derived.Test.YtgdobbcjkiapkaaSv01
import Derived.Test.YtgdobbcjkiapkaaSv02
import Derived.Test.YtgdobbcjkiapkaaSv03
namespace Go.Proofs.Ytgdobbcjkiapkaa
set_option maxRecDepth 100000
set_option maxHeartbeats 4000000
set_option linter.unusedSimpArgs false
set_option linter.unusedVariables false
section
open Go.RowKit
section
variable {P:Program}{ops:Array Oper}{Q:Exit→Act→World→Prop}{i:Nat}{rest:List Nat}{o:Oper}{a:Act}{w w':World}{n d:Nat}{m:List (Nat×Value)}{v:Value}
def tmpsOf (o:Oper):List Nat:=o.op.operands.toList.filterMap fun | .tmp t=>some t|_=>none
def Gi (P:Program) (o:Oper) (a:Act) (w:World) (K:Value→World→Prop):Prop :=
 match (execOp a.eval o).run P w with
 | .ok (.value u) w'=>K u w'
 | _=>False
def Yields (P:Program) (o:Oper) (n:Nat) (m:List (Nat×Value)) (w:World) (v:Value) (w':World):Prop:=∀ a,Sl a n m→∀ K:Value→World→Prop,K v w'→Gi P o a w K
theorem rd0 (hu:tmpsOf o=[]:=by rfl) (hs:∀ (a':Act) (K:Value→World→Prop),K v w'→Gi P o a' w K:=by intro a' K hK;unfold Gi;go_simp;exact hK):Yields P o n m w v w':=fun a' _ K hK=>hs a' K hK
theorem rd1 {t1:Nat}{v1:Value}(hu:tmpsOf o=[t1]:=by rfl) (h1:m.lookup t1=some v1:=by rfl) (hs:∀ (a':Act) (K:Value→World→Prop),a'.tmps[t1]?=some v1→K v w'→Gi P o a' w K:=by intro a' K e1 hK;unfold Gi;go_simp;exact hK):Yields P o n m w v w':=fun a' h K hK=>hs a' K (h.get _ _ h1) hK
theorem rd2 {t1 t2:Nat}{v1 v2:Value}(hu:tmpsOf o=[t1,t2]:=by rfl) (h1:m.lookup t1=some v1:=by rfl) (h2:m.lookup t2=some v2:=by rfl) (hs:∀ (a':Act) (K:Value→World→Prop),a'.tmps[t1]?=some v1→a'.tmps[t2]?=some v2→K v w'→Gi P o a' w K:=by intro a' K e1 e2 hK;unfold Gi;go_simp;exact hK):Yields P o n m w v w':=fun a' h K hK=>hs a' K (h.get _ _ h1) (h.get _ _ h2) hK
theorem rd3 {t1 t2 t3:Nat}{v1 v2 v3:Value}(hu:tmpsOf o=[t1,t2,t3]:=by rfl) (h1:m.lookup t1=some v1:=by rfl) (h2:m.lookup t2=some v2:=by rfl) (h3:m.lookup t3=some v3:=by rfl) (hs:∀ (a':Act) (K:Value→World→Prop),a'.tmps[t1]?=some v1→a'.tmps[t2]?=some v2→a'.tmps[t3]?=some v3→K v w'→Gi P o a' w K:=by intro a' K e1 e2 e3 hK;unfold Gi;go_simp;exact hK):Yields P o n m w v w':=fun a' h K hK=>hs a' K (h.get _ _ h1) (h.get _ _ h2) (h.get _ _ h3) hK
theorem rd4 {t1 t2 t3 t4:Nat}{v1 v2 v3 v4:Value}(hu:tmpsOf o=[t1,t2,t3,t4]:=by rfl) (h1:m.lookup t1=some v1:=by rfl) (h2:m.lookup t2=some v2:=by rfl) (h3:m.lookup t3=some v3:=by rfl) (h4:m.lookup t4=some v4:=by rfl) (hs:∀ (a':Act) (K:Value→World→Prop),a'.tmps[t1]?=some v1→a'.tmps[t2]?=some v2→a'.tmps[t3]?=some v3→a'.tmps[t4]?=some v4→K v w'→Gi P o a' w K:=by intro a' K e1 e2 e3 e4 hK;unfold Gi;go_simp;exact hK):Yields P o n m w v w':=fun a' h K hK=>hs a' K (h.get _ _ h1) (h.get _ _ h2) (h.get _ _ h3) (h.get _ _ h4) hK
theorem rd5 {t1 t2 t3 t4 t5:Nat}{v1 v2 v3 v4 v5:Value}(hu:tmpsOf o=[t1,t2,t3,t4,t5]:=by rfl) (h1:m.lookup t1=some v1:=by rfl) (h2:m.lookup t2=some v2:=by rfl) (h3:m.lookup t3=some v3:=by rfl) (h4:m.lookup t4=some v4:=by rfl) (h5:m.lookup t5=some v5:=by rfl) (hs:∀ (a':Act) (K:Value→World→Prop),a'.tmps[t1]?=some v1→a'.tmps[t2]?=some v2→a'.tmps[t3]?=some v3→a'.tmps[t4]?=some v4→a'.tmps[t5]?=some v5→K v w'→Gi P o a' w K:=by intro a' K e1 e2 e3 e4 e5 hK;unfold Gi;go_simp;exact hK):Yields P o n m w v w':=fun a' h K hK=>hs a' K (h.get _ _ h1) (h.get _ _ h2) (h.get _ _ h3) (h.get _ _ h4) (h.get _ _ h5) hK
theorem rd6 {t1 t2 t3 t4 t5 t6:Nat}{v1 v2 v3 v4 v5 v6:Value}(hu:tmpsOf o=[t1,t2,t3,t4,t5,t6]:=by rfl) (h1:m.lookup t1=some v1:=by rfl) (h2:m.lookup t2=some v2:=by rfl) (h3:m.lookup t3=some v3:=by rfl) (h4:m.lookup t4=some v4:=by rfl) (h5:m.lookup t5=some v5:=by rfl) (h6:m.lookup t6=some v6:=by rfl) (hs:∀ (a':Act) (K:Value→World→Prop),a'.tmps[t1]?=some v1→a'.tmps[t2]?=some v2→a'.tmps[t3]?=some v3→a'.tmps[t4]?=some v4→a'.tmps[t5]?=some v5→a'.tmps[t6]?=some v6→K v w'→Gi P o a' w K:=by intro a' K e1 e2 e3 e4 e5 e6 hK;unfold Gi;go_simp;exact hK):Yields P o n m w v w':=fun a' h K hK=>hs a' K (h.get _ _ h1) (h.get _ _ h2) (h.get _ _ h3) (h.get _ _ h4) (h.get _ _ h5) (h.get _ _ h6) hK
theorem rd7 {t1 t2 t3 t4 t5 t6 t7:Nat}{v1 v2 v3 v4 v5 v6 v7:Value}(hu:tmpsOf o=[t1,t2,t3,t4,t5,t6,t7]:=by rfl) (h1:m.lookup t1=some v1:=by rfl) (h2:m.lookup t2=some v2:=by rfl) (h3:m.lookup t3=some v3:=by rfl) (h4:m.lookup t4=some v4:=by rfl) (h5:m.lookup t5=some v5:=by rfl) (h6:m.lookup t6=some v6:=by rfl) (h7:m.lookup t7=some v7:=by rfl) (hs:∀ (a':Act) (K:Value→World→Prop),a'.tmps[t1]?=some v1→a'.tmps[t2]?=some v2→a'.tmps[t3]?=some v3→a'.tmps[t4]?=some v4→a'.tmps[t5]?=some v5→a'.tmps[t6]?=some v6→a'.tmps[t7]?=some v7→K v w'→Gi P o a' w K:=by intro a' K e1 e2 e3 e4 e5 e6 e7 hK;unfold Gi;go_simp;exact hK):Yields P o n m w v w':=fun a' h K hK=>hs a' K (h.get _ _ h1) (h.get _ _ h2) (h.get _ _ h3) (h.get _ _ h4) (h.get _ _ h5) (h.get _ _ h6) (h.get _ _ h7) hK
theorem Ul {x:Operand}{K:Value→World→Prop}(hp:o.op=.move x∨o.op=.assign x) (hK:K (a.eval x) w):Gi P o a w K:=by
 have:execOp a.eval o=pure (.value (a.eval x)):=by unfold execOp;rcases hp with hp|hp<;>rw[hp]
 unfold Gi;rw[this,Sem.run_pure];exact hK
theorem rdv {x:Nat}(hp:o.op=.move (.tmp x)∨o.op=.assign (.tmp x):=by first|exact .inl rfl|exact .inr rfl) (hx:m.lookup x=some v:=by rfl):Yields P o n m w v w:=fun a h K hK=>Ul hp (by rw[h.ev x hx];exact hK)
theorem rdc (hp:o.op=.move (.const v)∨o.op=.assign (.const v):=by first|exact .inl rfl|exact .inr rfl):Yields P o n m w v w:=fun a _ K hK=>Ul hp hK
theorem Sl.s (h:Sl a n m) (hG:∀ a',Sl a' n ((d,v)::m)→wpOps P ops Q rest a' w') (ho:ops[i]?=some o:=by rfl) (hg:o.guard=none:=by rfl) (hd:o.dst=some d:=by rfl) (hn:d<n:=by decide)
  (hy:Yields P o n m w v w':=by first|exact rdv|exact rdc|exact rd1|exact rd2|exact rd0|exact rd3|exact rd4|exact rd5|exact rd6|exact rd7):wpOps P ops Q (i::rest) a w:=by
 refine BQ ho hg (fun K hK=>?_);have h1:=hy a h (fun u x=>u=v∧x=w') ⟨rfl,rfl⟩;unfold Gi at h1;unfold Oper.wp;generalize (execOp a.eval o).run P w=r at *
 cases r with
 | ok y x =>
  cases y<;>simp only at h1
  case value u =>
   obtain⟨rfl,rfl⟩:=h1;rw[Oper.upon_value,hd];exact hK _ _ (hG _ (h.put d u hn))
 | halt x w'=>exact h1.elim
theorem Wi {K:Act→World→Prop}(hd:o.dst=some d) (hn:d<n) (h:Sl a n m) (hy:Yields P o n m w v w') (hK:∀ a',Sl a' n ((d,v)::m)→K a' w'):o.wp P a w K Q:=by
 have h1:=hy a h (fun u x=>u=v∧x=w') ⟨rfl,rfl⟩;unfold Gi at h1;unfold Oper.wp;generalize (execOp a.eval o).run P w=r at *
 cases r with
 | ok y x =>
  cases y<;>simp only at h1
  case value u =>
   obtain⟨rfl,rfl⟩:=h1;rw[Oper.upon_value,hd];exact hK _ (h.put d u hn)
 | halt x w'=>exact h1.elim
theorem Sl.t (h:Sl a n m) {k t:Nat}{b:Bool}{ok:Oper}(hG:∀ a',Sl a' n ((d,v)::m)→wpOps P ops Q rest a' w') (ho:ops[i]?=some o:=by rfl) (hg:o.guard=some (k,b):=by rfl) (hk:ops[k]?=some ok:=by rfl) (ht:ok.dst=some t:=by rfl) (hb:m.lookup t=some (.bool b):=by rfl) (hd:o.dst=some d:=by rfl) (hn:d<n:=by decide)
  (hy:Yields P o n m w v w':=by first|exact rdv|exact rdc|exact rd1|exact rd2|exact rd0|exact rd3|exact rd4|exact rd5|exact rd6|exact rd7):wpOps P ops Q (i::rest) a w :=
 PW ho hg hk ht (h.get _ _ hb) (fun _ hK=>Wi hd hn h hy fun _ h'=>hK _ _ (hG _ h'))
theorem Sl.z (h:Sl a n m) {k t:Nat}{b c:Bool}{ok:Oper}(hG:∀ a',Sl a' n ((d,undef)::m)→wpOps P ops Q rest a' w) (ho:ops[i]?=some o:=by rfl) (hg:o.guard=some (k,b):=by rfl) (hk:ops[k]?=some ok:=by rfl) (ht:ok.dst=some t:=by rfl) (hb:m.lookup t=some (.bool c):=by rfl) (hc:c≠b:=by decide) (hd:o.dst=some d:=by rfl) (hn:d<n:=by decide):wpOps P ops Q (i::rest) a w :=
 h.no ho hg hk ht hb hc hd hn hG
theorem Sl.g (h:Sl a n m) (t:Nat) {v:Value}(hm:m.lookup t=some v:=by rfl):a.tmps[t]?=some v:=h.get t v hm
theorem Sl.K (h:Sl a n m) {K:Act→World→Prop}(hK:∀ a w,wpOps P ops Q rest a w→K a w) (hG:∀ a',Sl a' n ((d,v)::m)→wpOps P ops Q rest a' w) (hd:d<n:=by decide):K (a.put (some d) v) w:=h.k hK hd hG
theorem og (h:∀ K:Act→World→Prop,(∀ a w,wpOps P ops Q rest a w→K a w)→o.wp P a w K Q) (ho:ops[i]?=some o:=by rfl) (hg:o.guard=none:=by rfl):wpOps P ops Q (i::rest) a w:=BQ ho hg h
def subs (m:List (Nat×Value)):List (Nat×Value)→Prop
 | []=>True
 | (t,v)::r=>m.lookup t=some v∧subs m r
theorem WG (h:Sl a n m):∀ {m':List (Nat×Value)},subs m m'→Sl a n m'
 | [],_=>h.nil
 | (t,_)::_,⟨h1,h2⟩=>(WG h h2).cons (h.get t _ h1)
theorem Sl.sb (h:Sl a n m) {m':List (Nat×Value)}(hm:subs m m':=by repeat (first|exact trivial|refine And.intro rfl ?_)):Sl a n m':=WG h hm
variable {C:World→Prop}{Qq:Act→Prop}
theorem Sl.u (h:Sl a n m) (hG:∀ a',Sl a' n ((d,v)::m)→Oa P ops C Qq rest a') (ho:ops[i]?=some o:=by rfl) (hg:o.guard=none:=by rfl) (hd:o.dst=some d:=by rfl) (hn:d<n:=by decide)
  (hy:∀ y,Yields P o n m y v y:=by intro y;first|exact rdv|exact rdc|exact rd1|exact rd2|exact rd0|exact rd3|exact rd4|exact rd5|exact rd6|exact rd7):Oa P ops C Qq (i::rest) a:=by
 refine h.q ho hg hd hn ⟨v,fun y hy' K hK=>?_,hG⟩;have h1:=hy y a h (fun u x=>u=v∧x=y) ⟨rfl,rfl⟩;unfold Gi at h1;unfold Oper.Dl;generalize (execOp a.eval o).run P y=r at *
 cases r with
 | ok z x =>
  cases z<;>simp only at h1
  case value u =>
   obtain⟨rfl,rfl⟩:=h1;exact⟨rfl,hK⟩
 | halt x w'=>exact h1.elim
theorem Sl.uw (h:Sl a n m) {k t:Nat}{b:Bool}{ok:Oper}(hG:∀ a',Sl a' n ((d,v)::m)→Oa P ops C Qq rest a') (ho:ops[i]?=some o:=by rfl) (hg:o.guard=some (k,b):=by rfl) (hk:ops[k]?=some ok:=by rfl) (ht:ok.dst=some t:=by rfl) (hb:m.lookup t=some (.bool b):=by rfl) (hd:o.dst=some d:=by rfl) (hn:d<n:=by decide)
  (hy:∀ y,Yields P o n m y v y:=by intro y;first|exact rdv|exact rdc|exact rd1|exact rd2|exact rd0|exact rd3|exact rd4|exact rd5|exact rd6|exact rd7):Oa P ops C Qq (i::rest) a:=by
 refine h.qw ho hg hk ht hb hd hn ⟨v,fun y hy' K hK=>?_,hG⟩;have h1:=hy y a h (fun u x=>u=v∧x=y) ⟨rfl,rfl⟩;unfold Gi at h1;unfold Oper.Dl;generalize (execOp a.eval o).run P y=r at *
 cases r with
 | ok z x =>
  cases z<;>simp only at h1
  case value u =>
   obtain⟨rfl,rfl⟩:=h1;exact⟨rfl,hK⟩
 | halt x w'=>exact h1.elim
theorem Sl.un (h:Sl a n m) {k t:Nat}{b c:Bool}{ok:Oper}(hG:∀ a',Sl a' n ((d,undef)::m)→Oa P ops C Qq rest a') (ho:ops[i]?=some o:=by rfl) (hg:o.guard=some (k,b):=by rfl) (hk:ops[k]?=some ok:=by rfl) (ht:ok.dst=some t:=by rfl) (hb:m.lookup t=some (.bool c):=by rfl) (hc:c≠b:=by decide) (hd:o.dst=some d:=by rfl) (hn:d<n:=by decide):Oa P ops C Qq (i::rest) a:=h.qno ho hg hk ht hb hc hd hn hG
theorem wg {K:Act→World→Prop}(h:∀ K':Act→World→Prop,(∀ a w,K a w→K' a w)→o.wp P a w K' Q) (ho:ops[i]?=some o:=by rfl) (hg:o.guard=none:=by rfl):wpOp P ops Q i K a w:=Fz ho hg h
theorem AaX {f:FuncId}{fn:Func}{c:Code}{R:Ending→World→Prop}(hf:P.funcs[f]?=some fn) (hb:fn.body=some c) (hn:fn.ntmps=n) (h:∀ a,Sl a n []→c.wp P (bodyPost P fn R) a w) (hlt:0≤n:=by decide):Calls P f #[] w R:=by
 refine calls_of_wp hf hb (h _ ?_);rw[hn];have hs:(⟨#[]++Array.replicate (n-(#[]:Array Value).size) undef,[]⟩:Act).tmps.size=n:=by simp
 exact(Sl.nil ⟨hs,rfl,fun t v hv=>by simp at hv⟩ (m:=[]))
theorem MW {f:FuncId}{fn:Func}{c:Code}{R:Ending→World→Prop}{x0:Value}(hf:P.funcs[f]?=some fn) (hb:fn.body=some c) (hn:fn.ntmps=n) (h:∀ a,Sl a n [(0,x0)]→c.wp P (bodyPost P fn R) a w) (hlt:1≤n:=by decide):Calls P f #[x0] w R:=by
 refine calls_of_wp hf hb (h _ ?_);rw[hn];have hs:(⟨#[x0]++Array.replicate (n-(#[x0]:Array Value).size) undef,[]⟩:Act).tmps.size=n:=by simp;omega
 exact((Sl.nil ⟨hs,rfl,fun t v hv=>by simp at hv⟩ (m:=[])).cons (t:=0) (by rw[Array.getElem?_append_left (by simp)];rfl))
theorem I7 {f:FuncId}{fn:Func}{c:Code}{R:Ending→World→Prop}{x0 x1:Value}(hf:P.funcs[f]?=some fn) (hb:fn.body=some c) (hn:fn.ntmps=n) (h:∀ a,Sl a n [(0,x0),(1,x1)]→c.wp P (bodyPost P fn R) a w) (hlt:2≤n:=by decide):Calls P f #[x0,x1] w R:=by
 refine calls_of_wp hf hb (h _ ?_);rw[hn];have hs:(⟨#[x0,x1]++Array.replicate (n-(#[x0,x1]:Array Value).size) undef,[]⟩:Act).tmps.size=n:=by simp;omega
 exact(((Sl.nil ⟨hs,rfl,fun t v hv=>by simp at hv⟩ (m:=[])).cons (t:=1) (by rw[Array.getElem?_append_left (by simp)];rfl)).cons (t:=0) (by rw[Array.getElem?_append_left (by simp)];rfl))
theorem NU {f:FuncId}{fn:Func}{c:Code}{R:Ending→World→Prop}{x0 x1 x2:Value}(hf:P.funcs[f]?=some fn) (hb:fn.body=some c) (hn:fn.ntmps=n) (h:∀ a,Sl a n [(0,x0),(1,x1),(2,x2)]→c.wp P (bodyPost P fn R) a w) (hlt:3≤n:=by decide):Calls P f #[x0,x1,x2] w R:=by
 refine calls_of_wp hf hb (h _ ?_);rw[hn];have hs:(⟨#[x0,x1,x2]++Array.replicate (n-(#[x0,x1,x2]:Array Value).size) undef,[]⟩:Act).tmps.size=n:=by simp;omega
 exact((((Sl.nil ⟨hs,rfl,fun t v hv=>by simp at hv⟩ (m:=[])).cons (t:=2) (by rw[Array.getElem?_append_left (by simp)];rfl)).cons (t:=1) (by rw[Array.getElem?_append_left (by simp)];rfl)).cons (t:=0) (by rw[Array.getElem?_append_left (by simp)];rfl))
theorem call4 {f:FuncId}{fn:Func}{c:Code}{R:Ending→World→Prop}{x0 x1 x2 x3:Value}(hf:P.funcs[f]?=some fn) (hb:fn.body=some c) (hn:fn.ntmps=n) (h:∀ a,Sl a n [(0,x0),(1,x1),(2,x2),(3,x3)]→c.wp P (bodyPost P fn R) a w) (hlt:4≤n:=by decide):Calls P f #[x0,x1,x2,x3] w R:=by
 refine calls_of_wp hf hb (h _ ?_);rw[hn];have hs:(⟨#[x0,x1,x2,x3]++Array.replicate (n-(#[x0,x1,x2,x3]:Array Value).size) undef,[]⟩:Act).tmps.size=n:=by simp;omega
 exact(((((Sl.nil ⟨hs,rfl,fun t v hv=>by simp at hv⟩ (m:=[])).cons (t:=3) (by rw[Array.getElem?_append_left (by simp)];rfl)).cons (t:=2) (by rw[Array.getElem?_append_left (by simp)];rfl)).cons (t:=1) (by rw[Array.getElem?_append_left (by simp)];rfl)).cons (t:=0) (by rw[Array.getElem?_append_left (by simp)];rfl))
theorem SlD.g {dq:List Deferred}(h:SlD a n dq m) (t:Nat) {v:Value}(hm:m.lookup t=some v:=by rfl):a.tmps[t]?=some v:=h.get t v hm
theorem wsr {f:Func}{k id:Nat}{y:Code}(h:wpOps P ops (Exit.then (y.wp P Q) Q) (List.range ops.size) a w) (e:Ac f k=Code.region id ops false:=by rfl):(Code.seq (Ac f k) y).wp P Q a w:=wp_seq (Z7 e h)
theorem wr {f:Func}{k id:Nat}(h:wpOps P ops Q (List.range ops.size) a w) (e:Ac f k=Code.region id ops false:=by rfl):(Ac f k).wp P Q a w:=Z7 e h
theorem od (h:Q .normal a w):wpOps P ops Q [] a w:=h
theorem wm {j:Nat}(h:(waits o).contains j=true:=by kernel_rfl):j∈waits o:=by simpa using h
theorem oz (h:∀ K:Act→World→Prop,(∀ a w,wpOps P ops Q rest a w→K a w)→o.upon P a K Q ((execOp a.eval o).run P w)) (ho:ops[i]?=some o:=by rfl) (hg:o.guard=none:=by rfl):wpOps P ops Q (i::rest) a w:=BQ ho hg fun K hK=>h K hK
theorem oy {k t:Nat}{b:Bool}{ok:Oper}(hv:a.tmps[t]?=some (.bool b)) (h:∀ K:Act→World→Prop,(∀ a w,wpOps P ops Q rest a w→K a w)→o.upon P a K Q ((execOp a.eval o).run P w)) (ho:ops[i]?=some o:=by rfl) (hg:o.guard=some (k,b):=by rfl) (hk:ops[k]?=some ok:=by rfl) (ht:ok.dst=some t:=by rfl):wpOps P ops Q (i::rest) a w:=PW ho hg hk ht hv fun K hK=>h K hK
theorem wz {K:Act→World→Prop}(h:∀ K':Act→World→Prop,(∀ a w,K a w→K' a w)→o.upon P a K' Q ((execOp a.eval o).run P w)) (ho:ops[i]?=some o:=by rfl) (hg:o.guard=none:=by rfl):wpOp P ops Q i K a w:=Fz ho hg fun K hK=>h K hK
theorem Sl.f (h:Sl a n m) {p:Prop}(hp:p) (hG:∀ a',Sl a' n ((d,v)::m)→wpOps P ops Q rest a' w') (ho:ops[i]?=some o:=by rfl) (hg:o.guard=none:=by rfl) (hd:o.dst=some d:=by rfl) (hn:d<n:=by decide)
  (hy:p→Yields P o n m w v w':=by intro c_;first|exact rd1|exact rd2|exact rd0|exact rd3|exact rd4|exact rd5|exact rd6|exact rd7):wpOps P ops Q (i::rest) a w:=h.s hG ho hg hd hn (hy hp)
theorem Sl.e (h:Sl a n m) (hG:∀ a',Sl a' n ((d,v)::m)→Q .normal a' w') (ho:ops[i]?=some o:=by rfl) (hg:o.guard=none:=by rfl) (hd:o.dst=some d:=by rfl) (hn:d<n:=by decide)
  (hy:Yields P o n m w v w':=by first|exact rdv|exact rdc|exact rd1|exact rd2|exact rd0|exact rd3|exact rd4|exact rd5|exact rd6|exact rd7):wpOps P ops Q [i] a w:=h.s (rest:=[]) hG ho hg hd hn hy
end
inductive Stp (P:Program) (ops:Array Oper) (n:Nat) (m:List (Nat×Value)) (i:Nat) (w:World):Nat→Value→World→Prop
 | s {o:Oper}{d:Nat}{v:Value}{w':World}(ho:ops[i]?=some o:=by rfl) (hg:o.guard=none:=by rfl) (hd:o.dst=some d:=by rfl) (hn:d<n:=by decide) (hy:Yields P o n m w v w':=by first|exact rdv|exact rdc|exact rd1|exact rd2|exact rd0|exact rd3|exact rd4|exact rd5|exact rd6|exact rd7):Stp P ops n m i w d v w'
 | t {o:Oper}{d:Nat}{v:Value}{w':World}{k t:Nat}{b:Bool}{ok:Oper}(ho:ops[i]?=some o:=by rfl) (hg:o.guard=some (k,b):=by rfl) (hk:ops[k]?=some ok:=by rfl) (ht:ok.dst=some t:=by rfl) (hb:m.lookup t=some (.bool b):=by rfl) (hd:o.dst=some d:=by rfl) (hn:d<n:=by decide) (hy:Yields P o n m w v w':=by first|exact rdv|exact rdc|exact rd1|exact rd2|exact rd0|exact rd3|exact rd4|exact rd5|exact rd6|exact rd7):Stp P ops n m i w d v w'
 | z {o:Oper}{d k t:Nat}{b c:Bool}{ok:Oper}(ho:ops[i]?=some o:=by rfl) (hg:o.guard=some (k,b):=by rfl) (hk:ops[k]?=some ok:=by rfl) (ht:ok.dst=some t:=by rfl) (hb:m.lookup t=some (.bool c):=by rfl) (hc:c≠b:=by decide) (hd:o.dst=some d:=by rfl) (hn:d<n:=by decide):Stp P ops n m i w d undef w
section
variable {P:Program}{ops:Array Oper}{Q:Exit→Act→World→Prop}{i:Nat}{rest:List Nat}{o:Oper}{a:Act}{w w':World}{n d:Nat}{m:List (Nat×Value)}{v:Value}
theorem Sl.x (h:Sl a n m) (hG:∀ a',Sl a' n ((d,v)::m)→wpOps P ops Q rest a' w') (hs:Stp P ops n m i w d v w':=by first|exact .s|exact .z|exact .t):wpOps P ops Q (i::rest) a w:=by
 cases hs with
 | s ho hg hd hn hy=>exact h.s hG ho hg hd hn hy
 | t ho hg hk ht hb hd hn hy=>exact h.t hG ho hg hk ht hb hd hn hy
 | z ho hg hk ht hb hc hd hn=>exact h.z hG ho hg hk ht hb hc hd hn
theorem Sl.rt (h:Sl a n m) (t:Nat) {fn:Func}{R:Ending→World→Prop}{v:Value}(hR:R (.returned v) w) (hr:fn.results = #[.tmp t]:=by rfl) (hm:m.lookup t=some v:=by rfl):bodyPost P fn R .ret a w:=by
 refine bodyPost_ret (v:=v) ?_ h.defers hR;have e:=h.get t v hm;simp[results,hr,e,Array.getD_eq_getD_getElem?]
theorem Sl.ct (h:Sl a n m) (t:Nat) {x y:Code}(hx:x.wp P Q a w) (e:m.lookup t=some (.bool true):=by rfl):(Code.cond (.tmp t) x y).wp P Q a w:=wp_cond_true (h.ev t e) hx
theorem Sl.cf (h:Sl a n m) (t:Nat) {x y:Code}(hx:y.wp P Q a w) (e:m.lookup t=some (.bool false):=by rfl):(Code.cond (.tmp t) x y).wp P Q a w:=wp_cond_false (h.ev t e) hx
theorem Sl.cs (h:Sl a n m) (t:Nat) {x:Code}(hx:Q .normal a w) (e:m.lookup t=some (.bool false):=by rfl):(Code.cond (.tmp t) x Code.skip).wp P Q a w:=wp_cond_false (h.ev t e) (wp_skip hx)
theorem SlD.ct {dq:List Deferred}(h:SlD a n dq m) (t:Nat) {x y:Code}(hx:x.wp P Q a w) (e:m.lookup t=some (.bool true):=by rfl):(Code.cond (.tmp t) x y).wp P Q a w:=wp_cond_true (h.ev t e) hx
theorem SlD.cf {dq:List Deferred}(h:SlD a n dq m) (t:Nat) {x y:Code}(hx:y.wp P Q a w) (e:m.lookup t=some (.bool false):=by rfl):(Code.cond (.tmp t) x y).wp P Q a w:=wp_cond_false (h.ev t e) hx
theorem SlD.cs {dq:List Deferred}(h:SlD a n dq m) (t:Nat) {x:Code}(hx:Q .normal a w) (e:m.lookup t=some (.bool false):=by rfl):(Code.cond (.tmp t) x Code.skip).wp P Q a w:=wp_cond_false (h.ev t e) (wp_skip hx)
theorem wss {f:Func}{k id:Nat}{y z:Code}(h:wpOps P ops (Exit.then (y.wp P (Exit.then (z.wp P Q) Q)) (Exit.then (z.wp P Q) Q)) (List.range ops.size) a w) (e:Ac f k=Code.region id ops false:=by rfl):(Code.seq (Code.seq (Ac f k) y) z).wp P Q a w:=wp_seq (wsr h e)
theorem xt:(∀ (K:Act→World→Prop) (Q:Exit→Act→World→Prop) (a:Act) (w:World),Exit.then K Q .normal a w=K a w)∧(∀ (K:Act→World→Prop) (Q:Exit→Act→World→Prop) (e:Exit) (a:Act) (w:World),(e=.normal→False)→Exit.then K Q e a w=Q e a w)∧(∀ (i:Nat) (Q:Exit→Act→World→Prop) (a:Act) (w:World) (j:Nat),Exit.inBlock i Q (.exit j) a w=if j=i then Q .normal a w else Q (.exit j) a w)∧(∀ (i:Nat) (Q:Exit→Act→World→Prop) (e:Exit) (a:Act) (w:World),(∀ j,e=.exit j→False)→Exit.inBlock i Q e a w=Q e a w):=⟨Exit.then.eq_1,Exit.then.eq_2,Exit.inBlock.eq_1,Exit.inBlock.eq_2⟩
end
end
end Go.Proofs.Ytgdobbcjkiapkaa
