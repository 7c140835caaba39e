import Derived.Conc.Beside
namespace Go.Proofs.Ytgdobbcjkiapkaa
set_option maxRecDepth 100000
set_option maxHeartbeats 4000000
set_option linter.unusedSimpArgs false
set_option linter.unusedVariables false
section
open Go Go.Conc
def re (τ:Nat→Question→Nat) (d c:Nat) (w:World):World:={ w with tape:=τ,drawn:=w.drawn-d+c }
def EW (τ:Nat→Question→Nat) (d c:Nat) (T:Nat→Question→Nat) (D:Nat):Prop:=∀ j,d≤j→j<D→∀ q,τ (j-d+c) q=T j q
theorem EW.mono {τ T:Nat→Question→Nat}{d c D D':Nat}(h:EW τ d c T D) (hD:D'≤D):EW τ d c T D':=fun j h1 h2 q=>h j h1 (Nat.lt_of_lt_of_le h2 hD) q
structure Ib (w w':World):Prop where
 le:w.drawn≤w'.drawn
 tape:w'.tape=w.tape
theorem Ib.refl (w:World):Ib w w:=⟨Nat.le_refl _,rfl⟩
theorem Ib.trans {a b c:World}(h:Ib a b) (k:Ib b c):Ib a c:=⟨Nat.le_trans h.le k.le,k.tape.trans h.tape⟩
section
variable {τ:Nat→Question→Nat}{d c:Nat}
theorem Xd (w:World) (hd:d≤w.drawn) {D:Nat}(hD:w.drawn<D) (h:EW τ d c w.tape D) (q:Question):(re τ d c w).tape (re τ d c w).drawn q=w.tape w.drawn q:=h w.drawn hd hD q
theorem Xe (w:World) (hd:d≤w.drawn):({ re τ d c w with drawn:=(re τ d c w).drawn+1 }:World)=re τ d c { w with drawn:=w.drawn+1 }:=by
 simp only[re];congr 1;omega
theorem UD {α:Type}(a:Ask α):∀ w:World,Ib w (w.ask a).2∧(w.ask a).2={ w with drawn:=(w.ask a).2.drawn }:=by
 induction a with
 | done a=>exact fun w=>⟨Ib.refl w,rfl⟩
 | ask what range k ih =>
  intro w;simp only[World.ask]
  split
  ·exact ih _ w
  ·obtain⟨h1,h2⟩:=ih ((Question.extern what range).cut (w.tape w.drawn (.extern what range))) { w with drawn:=w.drawn+1 };exact⟨⟨Nat.le_trans (Nat.le_succ _) h1.le,h1.tape⟩,h2⟩
theorem Aaj {α:Type}(a:Ask α):∀ w:World,d≤w.drawn→EW τ d c w.tape (w.ask a).2.drawn→(re τ d c w).ask a=((w.ask a).1,re τ d c (w.ask a).2):=by
 induction a with
 | done a=>exact fun w _ _=>rfl
 | ask what range k ih =>
  intro w hd h;simp only[World.ask]at h ⊢
  split
  ·rename_i hf;rw[if_pos hf]at h;exact ih _ w hd h
  ·rename_i hf
   rw[if_neg hf]at h;have h1:=(UD (k ((Question.extern what range).cut (w.tape w.drawn (.extern what range)))) { w with drawn:=w.drawn+1 }).1.le;rw[Xd w hd (D:=_) (Nat.lt_of_lt_of_le (Nat.lt_succ_self _) h1) h,Xe w hd];exact ih _ { w with drawn:=w.drawn+1 } (by show d≤w.drawn+1;omega) h
theorem PL (w:World) (s:Sys):Ib w (w.sys s).2:=by
 unfold World.sys;have:=(UD (Kernel.perform s w.os) w).1
 split
 ·exact Ib.refl w
 ·rename_i h;rw[h]at this;exact⟨this.le,this.tape⟩
theorem Z8 (w:World) (s:Sys) (hd:d≤w.drawn) (h:EW τ d c w.tape (w.sys s).2.drawn) (h':(w.sys s).1=.wouldBlock→∀ D,EW τ d c w.tape D) :
  (re τ d c w).sys s=((w.sys s).1,re τ d c (w.sys s).2):=by
 have hp:Kernel.perform s (re τ d c w).os=Kernel.perform s w.os:=rfl
 cases hk:w.ask (Kernel.perform s w.os) with
 | mk x w1 =>
  obtain⟨r,os⟩:=x
  by_cases hr:r=.wouldBlock
  ·subst hr;have e:w.sys s=(.wouldBlock,w):=by unfold World.sys;rw[hk]
   have hall:=h' (by rw[e]);have:=Aaj (τ:=τ) (d:=d) (c:=c) (Kernel.perform s w.os) w hd (hall _);unfold World.sys;rw[hp,this,hk]
  ·have e:w.sys s=(r,{ w1 with os }):=by
    unfold World.sys;rw[hk]
    cases r<;>first|rfl|exact absurd rfl hr
   rw[e]at h ⊢;have:=Aaj (τ:=τ) (d:=d) (c:=c) (Kernel.perform s w.os) w hd (by rw[hk];exact h);unfold World.sys;rw[hp,this,hk]
   cases r<;>first|rfl|exact absurd rfl hr
end
theorem J9 {α:Type}(e:String):(MonadExcept.throw e:Except String α)=.error e:=rfl
theorem Jy (P:Program) (w:World) (τ:Nat→Question→Nat) (n:Nat) (at_:Addr) (u:TypeId) (k:Addr) (v:Value) (m:Bool) :
  World.viewStore P { w with tape:=τ,drawn:=n } at_ u k v m=(World.viewStore P w at_ u k v m).map fun x=>({ x.1 with tape:=τ,drawn:=n },x.2):=by
 unfold World.viewStore;have hs:World.seen P { w with tape:=τ,drawn:=n } at_ u k m=World.seen P w at_ u k m:=rfl;rw[hs]
 cases World.seen P w at_ u k m with
 | error e=>cases v.bytes?<;>by_cases ht:tight P P.depth u=true<;>simp[ht,bind,Except.bind,Except.map,J9]
 | ok x =>
  obtain⟨c,e,fr,first,like,cells⟩:=x
  by_cases ht:tight P P.depth u=true
  ·cases v.bytes? with
   | none=>simp[ht,bind,Except.bind,Except.map,J9]
   | some bs =>
    by_cases hl:some bs.length=like.bytes?.map (·.length)
    ·simp only[ht,hl,bind,Except.bind,Bool.not_true,Bool.false_eq_true,if_false,ne_eq,not_true,pure,Except.pure];generalize (List.foldlM (m:=Except String) _ _ _:Except String (Array Value))=X
     cases X<;>rfl
    ·simp[ht,hl,bind,Except.bind,Except.map,J9]
  ·simp[ht,bind,Except.bind,Except.map,J9]
theorem Oj (P:Program) (w w':World) (at_:Addr) (u:TypeId) (k:Addr) (v:Value) (m:Bool) (l:List Addr) (h:World.viewStore P w at_ u k v m=.ok (w',l)):w'.tape=w.tape∧w'.drawn=w.drawn:=by
 have e:=Jy P w w.tape w.drawn at_ u k v m;have e0:({ w with tape:=w.tape,drawn:=w.drawn }:World)=w:=rfl;rw[e0,h]at e;simp only[Except.map,Except.ok.injEq,Prod.mk.injEq,and_true]at e;rw[e];exact⟨rfl,rfl⟩
theorem Qb (P:Program) (w:World) (τ:Nat→Question→Nat) (n:Nat) (a:Addr) (v:Value) (m:Bool) :
  World.farStore P { w with tape:=τ,drawn:=n } a v m=(World.farStore P w a v m).map fun x=>({ x.1 with tape:=τ,drawn:=n },x.2):=by
 have hh:({ w with tape:=τ,drawn:=n }:World).heap[a.block]?=w.heap[a.block]?:=rfl;have hn:({ w with tape:=τ,drawn:=n }:World).noCell a "store: no such cell" = w.noCell a "store: no such cell" := rfl;unfold World.farStore;rw[hh,hn]
 cases w.heap[a.block]? with
 | none=>rfl
 | some o =>
  cases o with
  | view at_ u =>
   simp only[Jy]
   cases World.viewStore P w at_ u a v m<;>rfl
  | _=>rfl
theorem Ip (P:Program) (w w':World) (a:Addr) (v:Value) (m:Bool) (l:List Addr) (h:World.farStore P w a v m=.ok (w',l)):w'.tape=w.tape∧w'.drawn=w.drawn:=by
 unfold World.farStore at h
 split at h
 ·split at h
  ·rename_i hv
   cases h
   exact Oj P w _ _ _ _ _ _ _ hv
  ·cases h
 ·cases h
def Gl:Halt→Prop
 | .blocked | .waiting | .stuck _ | .unsupported _=>True
 | _=>False
def calm (P:Program) {α:Type}(K:α→Prop):Sem α→Nat→Prop
 | .pure a,n=>n=0∧K a
 | .load _ _ k,n=>∀ v,calm P K (k v) n
 | .store _ _ _ k,n=>calm P K k n
 | .new _ k,n=>∀ r,calm P K (k r) n
 | .shape _ k,n=>∀ s,calm P K (k s) n
 | .freeze _ _ k,n=>calm P K k n
 | .frozen _ k,n=>∀ b,calm P K (k b) n
 | .getObj _ k,n=>∀ o,calm P K (k o) n
 | .setObj _ _ k,n=>calm P K k n
 | .choose _ k,n=>∀ x,calm P K (k x) n
 | .sys s k,n=>(∀ r,calm P K (k r) n)∧((∀ w:World,(w.sys s).1 ≠ .wouldBlock)∨∃ u,k .wouldBlock=.halt (.unsupported u)∧∀ g,u ≠ .initOrder g)
 | .program k,n=>calm P K (k P) n
 | .mark m k,n=>match m with
  | .disable=>calm P K k (n+1)
  | .enable=>calm P K k (n-1)
  | _=>calm P K k n
 | .halt h,n=>n=0∨Gl h
section
variable {P:Program}{α β:Type}{K:α→Prop}
theorem EH {J:β→Prop}{f:α→Sem β}:∀ {s:Sem α}{n:Nat},calm P K s n→(∀ a,K a→calm P J (f a) 0)→calm P J (s.bind f) n:=by
 intro s
 induction s with
 | pure a=>intro n h hf;obtain⟨rfl,hk⟩:=h;exact hf a hk
 | load m a k ih=>exact fun h hf v=>ih v (h v) hf
 | store m a v k ih=>exact fun h hf=>ih h hf
 | new o k ih=>exact fun h hf r=>ih r (h r) hf
 | shape r k ih=>exact fun h hf s=>ih s (h s) hf
 | freeze a n k ih=>exact fun h hf=>ih h hf
 | frozen a k ih=>exact fun h hf b=>ih b (h b) hf
 | getObj r k ih=>exact fun h hf o=>ih o (h o) hf
 | setObj r o k ih=>exact fun h hf=>ih h hf
 | choose q k ih=>exact fun h hf x=>ih x (h x) hf
 | sys c k ih=>exact fun h hf=>⟨fun r=>ih r (h.1 r) hf,h.2.imp id fun ⟨u,hu,hn⟩=>⟨u,by simp only[hu];rfl,hn⟩⟩
 | program k ih=>exact fun h hf=>ih P h hf
 | mark m k ih =>
  intro n h hf
  cases m<;>exact ih h hf
 | halt h=>exact fun h _=>h
def YY:Result α→World
 | .ok _ w | .halt _ w=>w
def Nq (f:World→World):Result α→Result α
 | .ok a w => .ok a (f w)
 | .halt h w => .halt h (f w)
theorem Jk (P:Program) {s:Sem α}:∀ w:World,Ib w (YY (s.run P w)):=by
 induction s with
 | pure a=>exact fun w=>Ib.refl w
 | load m a k ih =>
  intro w;unfold Sem.run
  split
  ·exact ih _ w
  ·split
   ·exact ih _ w
   ·exact Ib.refl w
 | store m a v k ih =>
  intro w
  have key:Ib w (YY (match w.cell? a with
    | some _=>if w.frozen? a then Result.halt (.unsupported (.unsafePointer "a write to bytes that a string shares")) w else k.run P (w.setCell a v)
    | none=>match w.farStore P a v (m == .atomic) with
     | .ok (w,_)=>k.run P w
     | .error h => .halt h w)):=by
   split
   ·split
    ·exact Ib.refl w
    ·exact⟨(ih (w.setCell a v)).le,(ih (w.setCell a v)).tape⟩
   ·split
    ·rename_i hf
     obtain⟨h1,h2⟩:=Ip P _ _ _ _ _ _ hf;exact⟨by rw[← h2];exact(ih _).le,(ih _).tape.trans h1⟩
    ·exact Ib.refl w
  cases v<;>first|exact Ib.refl w|exact key
 | new o k ih =>
  intro w;have:=ih w.heap.size { w with heap:=w.heap.push o };exact⟨this.le,this.tape⟩
 | shape r k ih=>exact fun w=>ih _ w
 | freeze a n k ih =>
  intro w;have h:=ih (w.freeze a n);have e:(w.freeze a n).drawn=w.drawn∧(w.freeze a n).tape=w.tape:=by unfold World.freeze;split<;>exact⟨rfl,rfl⟩
  exact⟨by rw[← e.1];exact h.le,h.tape.trans e.2⟩
 | frozen a k ih=>exact fun w=>ih _ w
 | getObj r k ih =>
  intro w;unfold Sem.run
  split
  ·exact Ib.refl w
  ·exact ih _ w
  ·exact Ib.refl w
 | setObj r o k ih =>
  intro w;unfold Sem.run
  split
  ·exact Ib.refl w
  ·have:=ih { w with heap:=w.heap.setIfInBounds r o };exact⟨this.le,this.tape⟩
  ·exact Ib.refl w
 | choose q k ih =>
  intro w;unfold Sem.run
  split
  ·exact ih _ w
  ·have:=ih (q.cut (w.tape w.drawn q)) { w with drawn:=w.drawn+1 };exact⟨Nat.le_trans (Nat.le_succ _) this.le,this.tape⟩
 | sys c k ih=>exact fun w=>(PL w c).trans (ih _ _)
 | program k ih=>exact fun w=>ih _ w
 | mark m k ih=>exact fun w=>ih w
 | halt h=>exact fun w=>Ib.refl w
theorem SX {K:α→Prop}{τ:Nat→Question→Nat}{d c:Nat}{s:Sem α}:∀ {n:Nat},calm P K s n→∀ (w:World) (es:Array Event),d≤w.drawn →
  EW τ d c w.tape (YY (s.run P w)).drawn→(∀ u w',s.run P w=.halt (.unsupported u) w'→(∀ g,u ≠ .initOrder g)→∀ D,EW τ d c w.tape D) →
  s.runT P (re τ d c w) es=(Nq (re τ d c) (s.runT P w es).1,(s.runT P w es).2):=by
 induction s with
 | pure a=>exact fun _ w es _ _ _=>rfl
 | load m a k ih =>
  intro n hc w es hd hT hU;have e1:(re τ d c w).cell? a=w.cell? a:=rfl;have e2:(re τ d c w).farLoad P a (m == .atomic)=w.farLoad P a (m == .atomic):=rfl;unfold Sem.run at hT hU;unfold Sem.runT;rw[e1,e2]
  cases hcell:w.cell? a with
  | some v=>rw[hcell]at hT hU;exact ih v (hc v) w _ hd hT hU
  | none =>
   rw[hcell]at hT hU;simp only at hT hU ⊢
   cases hf:w.farLoad P a (m == .atomic) with
   | ok x=>obtain⟨v,l⟩:=x;rw[hf]at hT hU;exact ih v (hc v) w _ hd hT hU
   | error h=>rfl
 | store m a v k ih =>
  intro n hc w es hd hT hU;have e1:(re τ d c w).cell? a=w.cell? a:=rfl;have e3:(re τ d c w).frozen? a=w.frozen? a:=rfl
  have e2:(re τ d c w).farStore P a v (m == .atomic)=(w.farStore P a v (m == .atomic)).map fun x=>(re τ d c x.1,x.2):=by
   have:=Qb P w τ (w.drawn-d+c) a v (m == .atomic);refine this.trans ?_
   cases hf:w.farStore P a v (m == .atomic) with
   | error h=>rfl
   | ok x =>
    obtain⟨w',l⟩:=x;obtain⟨_,h2⟩:=Ip P _ _ _ _ _ _ hf;simp only[Except.map,re,h2]
  by_cases hv:(∃ x,v=.agg x)∨(∃ x,v=.tuple x)
  ·rcases hv with ⟨x,rfl⟩|⟨x,rfl⟩<;>rfl
  have er:∀ w:World,(Sem.store m a v k).run P w=match w.cell? a with
    | some _=>if w.frozen? a then Result.halt (.unsupported (.unsafePointer "a write to bytes that a string shares")) w else k.run P (w.setCell a v)
    | none=>match w.farStore P a v (m == .atomic) with
     | .ok (w,_)=>k.run P w
     | .error h => .halt h w:=by
   intro w;cases v<;>first|rfl|exact absurd (.inl ⟨_,rfl⟩) hv|exact absurd (.inr ⟨_,rfl⟩) hv
  have et:∀ (w:World) (es:Array Event),(Sem.store m a v k).runT P w es=match w.cell? a with
    | some _=>if w.frozen? a then (Result.halt (.unsupported (.unsafePointer "a write to bytes that a string shares")) w,es) else k.runT P (w.setCell a v) (es.push ⟨.cell a,true,m == .atomic⟩)
    | none=>match w.farStore P a v (m == .atomic) with
     | .ok (w,touched)=>k.runT P w (es++touched.toArray.map (⟨.cell ·,true,m == .atomic⟩))
     | .error h=>(.halt h w,es):=by
   intro w es;cases v<;>first|rfl|exact absurd (.inl ⟨_,rfl⟩) hv|exact absurd (.inr ⟨_,rfl⟩) hv
  rw[er]at hT hU;rw[et,et,e1,e2,e3]
  cases hcell:w.cell? a with
  | some v' =>
   rw[hcell]at hT hU;simp only at hT hU ⊢
   by_cases hfr:w.frozen? a=true
   ·simp only[hfr,if_true];rfl
   ·simp only[hfr,if_false,Bool.false_eq_true]at hT hU ⊢;exact ih hc (w.setCell a v) _ hd hT hU
  | none =>
   rw[hcell]at hT hU;simp only at hT hU ⊢
   cases hf:w.farStore P a v (m == .atomic) with
   | error h=>rfl
   | ok x =>
    obtain⟨w',l⟩:=x;rw[hf]at hT hU;obtain⟨h1,h2⟩:=Ip P _ _ _ _ _ _ hf;simp only[Except.map]at hT hU ⊢;exact ih hc w' _ (by rw[h2];exact hd) (by rw[h1];exact hT) (by rw[h1];exact hU)
 | new o k ih =>
  intro n hc w es hd hT hU;exact ih w.heap.size (hc _) { w with heap:=w.heap.push o } es hd hT hU
 | shape r k ih=>exact fun hc w es hd hT hU=>ih (w.shape? r) (hc _) w es hd hT hU
 | freeze a n k ih =>
  intro m hc w es hd hT hU;have e:(w.freeze a n).drawn=w.drawn∧(w.freeze a n).tape=w.tape:=by unfold World.freeze;split<;>exact⟨rfl,rfl⟩
  have e2:(re τ d c w).freeze a n=re τ d c (w.freeze a n):=by unfold World.freeze;split<;>rfl
  have:=ih hc (w.freeze a n) es (by rw[e.1];exact hd) (by rw[e.2];exact hT) (by rw[e.2];exact hU);unfold Sem.runT;rw[e2];exact this
 | frozen a k ih=>exact fun hc w es hd hT hU=>ih (w.frozen? a) (hc _) w es hd hT hU
 | getObj r k ih =>
  intro n hc w es hd hT hU;have e1:(re τ d c w).heap[r]?=w.heap[r]?:=rfl;unfold Sem.run at hT hU;unfold Sem.runT;rw[e1]
  cases ho:w.heap[r]? with
  | none=>rfl
  | some o =>
   rw[ho]at hT hU
   cases o with
   | cells _ _ _=>rfl
   | _=>exact ih _ (hc _) w _ hd hT hU
 | setObj r o k ih =>
  intro n hc w es hd hT hU;have e1:(re τ d c w).heap[r]?=w.heap[r]?:=rfl;unfold Sem.run at hT hU;unfold Sem.runT;rw[e1]
  cases ho:w.heap[r]? with
  | none=>rfl
  | some o' =>
   rw[ho]at hT hU
   cases o' with
   | cells _ _ _=>rfl
   | _=>exact ih hc { w with heap:=w.heap.setIfInBounds r o } _ hd hT hU
 | choose q k ih =>
  intro n hc w es hd hT hU;unfold Sem.run at hT hU;unfold Sem.runT
  by_cases hq:q.forced=true
  ·simp only[hq,if_true]at hT hU ⊢;exact ih 0 (hc 0) w es hd hT hU
  ·simp only[hq,if_false,Bool.false_eq_true]at hT hU ⊢;have h1:=(Jk P (s:=k (q.cut (w.tape w.drawn q))) { w with drawn:=w.drawn+1 }).le;rw[Xd w hd (Nat.lt_of_lt_of_le (Nat.lt_succ_self _) h1) hT,Xe w hd];exact ih _ (hc _) { w with drawn:=w.drawn+1 } es (by show d≤w.drawn+1;omega) hT hU
 | sys s k ih =>
  intro n hc w es hd hT hU;have hm:=(Jk P (s:=k (w.sys s).1) (w.sys s).2).le;have hdr:=PL w s
  have hs:=Z8 (τ:=τ) (c:=c) w s hd (hT.mono hm) (fun e=>by
   rcases hc.2 with hw|⟨u,hu,hn⟩
   ·exact absurd e (hw w)
   have hr:(Sem.sys s k).run P w=.halt (.unsupported u) (w.sys s).2:=by show (k (w.sys s).1).run P (w.sys s).2=_;rw[e,hu];rfl
   exact hU u _ hr hn)
  unfold Sem.runT;rw[hs];exact ih _ (hc.1 _) (w.sys s).2 _ (Nat.le_trans hd hdr.le) (by rw[hdr.tape];exact hT) (by rw[hdr.tape];exact hU)
 | program k ih=>exact fun hc w es hd hT hU=>ih P hc w es hd hT hU
 | mark m k ih =>
  intro n hc w es hd hT hU
  cases m<;>exact ih hc w _ hd hT hU
 | halt h=>exact fun _ w es _ _ _=>rfl
theorem CU (d:Nat) (a b:Array Event):deafBehind d (a++b)=deafBehind (deafBehind d a) b:=by
 obtain⟨a⟩:=a;obtain⟨b⟩:=b;simp[deafBehind]
theorem MG (w:World) (a:Addr) (what:String):Gl (w.noCell a what):=by
 unfold World.noCell
 split<;>exact trivial
theorem Qc {w:World}{a:Addr}{m:Bool}{h:Halt}(e:w.farLoad P a m=.error h):Gl h:=by
 unfold World.farLoad at e
 split at e
 ·split at e
  ·cases e
  ·cases e;exact trivial
 ·cases e;exact MG _ _ _
theorem OE {w:World}{a:Addr}{v:Value}{m:Bool}{h:Halt}(e:w.farStore P a v m=.error h):Gl h:=by
 unfold World.farStore at e
 split at e
 ·split at e
  ·cases e
  ·cases e;exact trivial
 ·cases e;exact MG _ _ _
def Jf {α:Type}(K:α→Prop) (x:Result α×Array Event):Prop :=
 match x.1 with
 | .ok a _=>K a∧deafBehind 0 x.2=0
 | .halt h _=>Gl h∨deafBehind 0 x.2=0
theorem Qh {K:α→Prop}{s:Sem α}:∀ {n:Nat},calm P K s n→∀ (w:World) (es:Array Event),deafBehind 0 es=n→Jf K (s.runT P w es):=by
 have push0:∀ (es:Array Event) (e:Event),e.loc ≠ .mark .disable→e.loc ≠ .mark .enable→deafBehind 0 (es.push e)=deafBehind 0 es:=by
  intro es e h1 h2;rw[Array.push_eq_append,CU];exact deafBehind_still (by simp;exact⟨h1,h2⟩) _
 have app0:∀ (es:Array Event) (l:List Addr) (wr sy:Bool),deafBehind 0 (es++l.toArray.map (⟨.cell ·,wr,sy⟩))=deafBehind 0 es:=by
  intro es l wr sy;rw[CU];exact deafBehind_still (by simp) _
 induction s with
 | pure a=>exact fun h w es hn=>⟨h.2,hn.trans h.1⟩
 | load m a k ih =>
  intro n hc w es hn;unfold Sem.runT
  cases hcell:w.cell? a with
  | some v=>exact ih v (hc v) w _ (by rw[push0 _ _ (by simp) (by simp)];exact hn)
  | none =>
   simp only
   cases hf:w.farLoad P a (m == .atomic) with
   | ok x=>exact ih _ (hc _) w _ (by rw[app0];exact hn)
   | error h=>exact .inl (Qc hf)
 | store m a v k ih =>
  intro n hc w es hn
  by_cases hv:(∃ x,v=.agg x)∨(∃ x,v=.tuple x)
  ·rcases hv with ⟨x,rfl⟩|⟨x,rfl⟩<;>exact .inl trivial
  have et:∀ (w:World) (es:Array Event),(Sem.store m a v k).runT P w es=match w.cell? a with
    | some _=>if w.frozen? a then (Result.halt (.unsupported (.unsafePointer "a write to bytes that a string shares")) w,es) else k.runT P (w.setCell a v) (es.push ⟨.cell a,true,m == .atomic⟩)
    | none=>match w.farStore P a v (m == .atomic) with
     | .ok (w,touched)=>k.runT P w (es++touched.toArray.map (⟨.cell ·,true,m == .atomic⟩))
     | .error h=>(.halt h w,es):=by
   intro w es;cases v<;>first|rfl|exact absurd (.inl ⟨_,rfl⟩) hv|exact absurd (.inr ⟨_,rfl⟩) hv
  rw[et]
  cases hcell:w.cell? a with
  | some v' =>
   simp only
   by_cases hfr:w.frozen? a=true
   ·simp only[hfr,if_true];exact .inl trivial
   ·simp only[hfr,if_false,Bool.false_eq_true];exact ih hc _ _ (by rw[push0 _ _ (by simp) (by simp)];exact hn)
  | none =>
   simp only
   cases hf:w.farStore P a v (m == .atomic) with
   | error h=>exact .inl (OE hf)
   | ok x=>exact ih hc _ _ (by rw[app0];exact hn)
 | new o k ih=>exact fun hc w es hn=>ih _ (hc _) _ es hn
 | shape r k ih=>exact fun hc w es hn=>ih _ (hc _) w es hn
 | freeze a m k ih=>exact fun hc w es hn=>ih hc _ es hn
 | frozen a k ih=>exact fun hc w es hn=>ih _ (hc _) w es hn
 | getObj r k ih =>
  intro n hc w es hn;unfold Sem.runT
  cases ho:w.heap[r]? with
  | none=>exact .inl trivial
  | some o =>
   cases o with
   | cells _ _ _=>exact .inl trivial
   | _=>exact ih _ (hc _) w _ (by rw[push0 _ _ (by simp) (by simp)];exact hn)
 | setObj r o k ih =>
  intro n hc w es hn;unfold Sem.runT
  cases ho:w.heap[r]? with
  | none=>exact .inl trivial
  | some o' =>
   cases o' with
   | cells _ _ _=>exact .inl trivial
   | _=>exact ih hc _ _ (by rw[push0 _ _ (by simp) (by simp)];exact hn)
 | choose q k ih =>
  intro n hc w es hn;unfold Sem.runT
  split
  ·exact ih _ (hc _) w es hn
  ·exact ih _ (hc _) _ es hn
 | sys s k ih =>
  intro n hc w es hn;exact ih _ (hc.1 _) _ _ (by rw[push0 _ _ (by simp) (by simp)];exact hn)
 | program k ih=>exact fun hc w es hn=>ih P hc w es hn
 | mark m k ih =>
  intro n hc w es hn;have one:∀ e:Event,deafBehind 0 (es.push e)=deafBehind (deafBehind 0 es) #[e]:=fun e=>by rw[Array.push_eq_append,CU]
  cases m<;>first
   | exact ih hc w _ (by rw[push0 _ _ (by simp) (by simp)];exact hn)
   | exact ih hc w _ (by rw[one,hn];rfl)
 | halt h=>exact fun hc w es hn=>hc.symm.imp id fun e=>hn.trans e
end
end
end Go.Proofs.Ytgdobbcjkiapkaa
