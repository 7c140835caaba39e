import Derived.Test.YtgdobbcjkiapkaaSv06
namespace Go.Proofs.Ytgdobbcjkiapkaa
set_option maxRecDepth 100000
set_option maxHeartbeats 4000000
set_option linter.unusedSimpArgs false
set_option linter.unusedVariables false
section
open Go Go.Conc
def stepW:GStep→World
 | .go _ w _ | .comm _ _ _ _ w _ | .spawn _ _ w _ | .count _ w _ | .timer _ _ w _ | .alone _ _ w _ | .newcoro _ _ _ w _ | .coroswitch _ _ _ w _ | .collect _ w _ | .watch _ w _ | .ended _ w _=>w
def EZ (f:World→World):GStep→GStep
 | .go g w es => .go g (f w) es
 | .comm g c b s w es => .comm g c b s (f w) es
 | .spawn g h w es => .spawn g h (f w) es
 | .count g w es => .count g (f w) es
 | .timer g o w es => .timer g o (f w) es
 | .alone g o w es => .alone g o (f w) es
 | .newcoro g c d w es => .newcoro g c d (f w) es
 | .coroswitch g c x w es => .coroswitch g c x (f w) es
 | .collect g w es => .collect g (f w) es
 | .watch g w es => .watch g (f w) es
 | .ended o w es => .ended o (f w) es
def CW:GStep→Prop
 | .ended _ _ _=>True
 | _=>False
def IE:Item→Prop
 | .call _ _ _ _=>False
 | .extern r _=>r=Gx
 | _=>True
def AQ (fr:Frame):Prop:=∀ it∈fr.todo,IE it
def DR (g:Goroutine):Prop:=AQ g.frame∧∀ c∈g.callers,AQ c
def Ea (s:GoStatus):Prop:=∀ t,s ≠ .sleeping t
def Lu:GStep→Prop
 | .go g _ es=>DR g∧Ea g.status∧deafBehind 0 es=0
 | .comm g _ _ _ _ es=>DR g∧Ea g.status∧deafBehind 0 es=0
 | .spawn g _ _ es=>DR g∧Ea g.status∧deafBehind 0 es=0
 | .coroswitch g _ x _ es=>DR g∧x=true∧deafBehind 0 es=0
 | .ended _ _ _=>True
 | _=>False
structure Ag (F:World→GStep):Prop where
 ok:∀ w,Lu (F w)
 drew:∀ w,Ib w (stepW (F w))
 same:∀ (w:World) (τ:Nat→Question→Nat) (d c:Nat),d≤w.drawn→EW τ d c w.tape (stepW (F w)).drawn→(CW (F w)→∀ D,EW τ d c w.tape D) →
  F (re τ d c w)=EZ (re τ d c) (F w)
section
variable {P:Program}
theorem FB (es:Array Event) (s:GStep):stepW (s.after es)=stepW s:=by cases s<;>rfl
theorem Ih (f:World→World) (es:Array Event) (s:GStep):EZ f (s.after es)=(EZ f s).after es:=by cases s<;>rfl
theorem Gh (es:Array Event) (s:GStep):CW (s.after es)↔CW s:=by cases s<;>exact Iff.rfl
theorem L9 {es:Array Event}{s:GStep}(h:Lu s) (he:¬ CW s→deafBehind 0 es=0):Lu (s.after es):=by
 cases s with
 | go g w es'=>exact⟨h.1,h.2.1,by show deafBehind 0 (es++es')=0;rw[CU,he (fun x=>x)];exact h.2.2⟩
 | comm g c b s w es'=>exact⟨h.1,h.2.1,by show deafBehind 0 (es++es')=0;rw[CU,he (fun x=>x)];exact h.2.2⟩
 | spawn g h' w es'=>exact⟨h.1,h.2.1,by show deafBehind 0 (es++es')=0;rw[CU,he (fun x=>x)];exact h.2.2⟩
 | coroswitch g c x w es'=>exact⟨h.1,h.2.1,by show deafBehind 0 (es++es')=0;rw[CU,he (fun x=>x)];exact h.2.2⟩
 | ended o w es'=>trivial
 | _=>exact h.elim
theorem Ag.ended (o:Outcome):Ag (fun w => .ended o w):=⟨fun _=>trivial,fun w=>Ib.refl w,fun _ _ _ _ _ _ _=>rfl⟩
theorem Ag.go {g:Goroutine}(hg:DR g) (hs:Ea g.status):Ag (fun w => .go g w):=⟨fun _=>⟨hg,hs,rfl⟩,fun w=>Ib.refl w,fun _ _ _ _ _ _ _=>rfl⟩
theorem Ag.goE {g:Goroutine}(hg:DR g) (hs:Ea g.status) {es:Array Event}(he:deafBehind 0 es=0):Ag (fun w => .go g w es):=⟨fun _=>⟨hg,hs,he⟩,fun w=>Ib.refl w,fun _ _ _ _ _ _ _=>rfl⟩
theorem Ag.comm {g:Goroutine}(hg:DR g) (hs:Ea g.status) (c:Array CommCase) (b:Bool) (s:CommShape):Ag (fun w => .comm g c b s w):=⟨fun _=>⟨hg,hs,rfl⟩,fun w=>Ib.refl w,fun _ _ _ _ _ _ _=>rfl⟩
theorem Ag.spawn {g:Goroutine}(hg:DR g) (hs:Ea g.status) (h:Goroutine):Ag (fun w => .spawn g h w):=⟨fun _=>⟨hg,hs,rfl⟩,fun w=>Ib.refl w,fun _ _ _ _ _ _ _=>rfl⟩
theorem Ag.coro {g:Goroutine}(hg:DR g) (c:Nat):Ag (fun w => .coroswitch g c true w):=⟨fun _=>⟨hg,rfl,rfl⟩,fun w=>Ib.refl w,fun _ _ _ _ _ _ _=>rfl⟩
def Dx (es:Array Event):Prop:=∀ e∈es,∀ m,e.loc=.mark m→e.sync=true
theorem DV {es:Array Event}{e:Event}(h:Dx es) (he:∀ m,e.loc=.mark m→e.sync=true):Dx (es.push e):=fun x hx=>by
 rcases Array.mem_push.1 hx with h1|rfl
 ·exact h x h1
 ·exact he
theorem IY {es:Array Event}(h:Dx es) (l:List Addr) (wr sy:Bool):Dx (es++l.toArray.map (⟨.cell ·,wr,sy⟩)):=fun x hx=>by
 rcases Array.mem_append.1 hx with h1|h1
 ·exact h x h1
 ·obtain⟨a,_,rfl⟩:=Array.mem_map.1 h1;intro m e;cases e
theorem QL {α:Type}{s:Sem α}:∀ (w:World) (es:Array Event),Dx es→Dx (s.runT P w es).2:=by
 induction s with
 | pure a=>exact fun w es h=>h
 | load m a k ih =>
  intro w es h;unfold Sem.runT
  split
  ·exact ih _ w _ (DV h (fun m e=>by cases e))
  ·split
   ·exact ih _ w _ (IY h _ _ _)
   ·exact h
 | store m a v k ih =>
  intro w es h
  have key:Dx ((match w.cell? a with
    | some _=>if w.frozen? a then (Result.halt (.unsupported (.unsafePointer "a write to bytes that a string shares")) w,es) else k.runT P (w.setCell a v) (es.push ⟨.cell a,true,m == .atomic⟩)
    | none=>match w.farStore P a v (m == .atomic) with
     | .ok (w,touched)=>k.runT P w (es++touched.toArray.map (⟨.cell ·,true,m == .atomic⟩))
     | .error h=>(.halt h w,es):Result α×Array Event)).2:=by
   split
   ·split
    ·exact h
    ·exact ih _ _ (DV h (fun m e=>by cases e))
   ·split
    ·exact ih _ _ (IY h _ _ _)
    ·exact h
  cases v<;>first|exact h|exact key
 | new o k ih=>exact fun w es h=>ih _ _ es h
 | shape r k ih=>exact fun w es h=>ih _ w es h
 | freeze a n k ih=>exact fun w es h=>ih _ es h
 | frozen a k ih=>exact fun w es h=>ih _ w es h
 | getObj r k ih =>
  intro w es h;unfold Sem.runT
  split
  ·exact h
  ·exact ih _ w _ (DV h (fun m e=>by cases e))
  ·exact h
 | setObj r o k ih =>
  intro w es h;unfold Sem.runT
  split
  ·exact h
  ·exact ih _ _ (DV h (fun m e=>by cases e))
  ·exact h
 | choose q k ih =>
  intro w es h;unfold Sem.runT
  split
  ·exact ih _ w es h
  ·exact ih _ _ es h
 | sys c k ih=>exact fun w es h=>ih _ _ _ (DV h (fun m e=>by cases e))
 | program k ih=>exact fun w es h=>ih P w es h
 | mark m k ih=>exact fun w es h=>ih w _ (DV h (fun m e=>rfl))
 | halt x=>exact fun w es h=>h
theorem Gn (fn:FuncId) (es:Array Event) (h:Dx es) (d:Nat):deafBehind d (seen P fn es)=deafBehind d es:=by
 have h':∀ e∈es.toList,∀ m,e.loc=.mark m→e.sync=true:=fun e he=>h e (Array.mem_toList_iff.1 he)
 rw[seen_def]
 have key:∀ (l:List Event) (q:Bool) (kept:Array Event),(∀ e∈l,∀ m,e.loc=.mark m→e.sync=true) →
   deafBehind d (l.foldl (seenStep fun f=>(P.funcs[f]?).any (·.norace)) (q,kept)).2=deafBehind (deafBehind d kept) l.toArray:=by
  intro l
  induction l with
  | nil=>intro q kept _;rfl
  | cons e l ih =>
   intro q kept hl;have e1:deafBehind (deafBehind d kept) (e::l).toArray=deafBehind (deafBehind (deafBehind d kept) #[e]) l.toArray:=by simp[deafBehind]
   have hl':∀ e∈l,∀ m,e.loc=.mark m→e.sync=true:=fun x hx=>hl x (List.mem_cons_of_mem _ hx)
   have hpush:deafBehind d (kept.push e)=deafBehind (deafBehind d kept) #[e]:=by rw[Array.push_eq_append,CU]
   rw[List.foldl_cons,e1];have he:=hl e (List.mem_cons_self ..);obtain⟨loc,wr,sy⟩:=e
   have hk:(seenStep (fun f=>(P.funcs[f]?).any (·.norace)) (q,kept) ⟨loc,wr,sy⟩).2=kept∧deafBehind (deafBehind d kept) #[(⟨loc,wr,sy⟩:Event)]=deafBehind d kept ∨
     (seenStep (fun f=>(P.funcs[f]?).any (·.norace)) (q,kept) ⟨loc,wr,sy⟩).2=kept.push ⟨loc,wr,sy⟩:=by
    cases loc with
    | mark m =>
     have hs:sy=true:=he m rfl;subst hs
     cases m<;>first|exact .inl ⟨rfl,rfl⟩|(refine .inr ?_;simp[seenStep])
    | _ =>
     simp only[seenStep]
     split
     ·exact .inl ⟨rfl,rfl⟩
     ·exact .inr rfl
   generalize hst:seenStep (fun f=>(P.funcs[f]?).any (·.norace)) (q,kept) ⟨loc,wr,sy⟩=st at hk;obtain⟨q',kept'⟩:=st;rw[ih q' kept' hl'];rcases hk with ⟨hk,h2⟩|hk
   ·simp only at hk;rw[hk,h2]
   ·simp only at hk;rw[hk,hpush]
 obtain⟨l⟩:=es;exact key l _ #[] h'
theorem Ag.run {α:Type}{K:α→Prop}{s:Sem α}(hs:calm P K s 0) (E:Result α→Array Event→Array Event) (F:Result α→GStep)
  (hok:∀ a,K a→Ag (fun w=>F (.ok a w))) (hhalt:∀ h,Ag (fun w=>F (.halt h w)))
  (hU:∀ u w,(∀ g,u ≠ .initOrder g)→CW (F (.halt (.unsupported u) w)))
  (hE:∀ r es,Jf K (r,es)→Dx es→¬ CW (F r)→deafBehind 0 (E r es)=0) (hEm:∀ f r es,E (Nq f r) es=E r es) :
  Ag (fun w=>GStep.after (E (s.runT P w #[]).1 (s.runT P w #[]).2) (F (s.runT P w #[]).1)):=by
 have one:∀ w,∃ r,(s.runT P w #[]).1=r∧Jf K (s.runT P w #[])∧Ib w (YY r)∧s.run P w=r:=fun w=>by
  have hr:(s.runT P w #[]).1=s.run P w:=by rw[Sem.runT_eq]
  exact⟨_,rfl,Qh hs w #[] rfl,by rw[hr];exact Jk P w,hr.symm⟩
 refine⟨fun w=>?_,fun w=>?_,fun w τ d c hd hT hend=>?_⟩
 ·obtain⟨r,hr,hc,_,_⟩:=one w;refine L9 ?_ (fun hn=>hE _ _ hc (QL w #[] (fun e he=>by simp at he)) hn);rw[hr]
  cases r with
  | ok a w'=>exact(hok a (by have:=hc;unfold Jf at this;rw[hr]at this;exact this.1)).ok w'
  | halt h w'=>exact(hhalt h).ok w'
 ·obtain⟨r,hr,hc,hdw,_⟩:=one w;rw[FB,hr]
  cases r with
  | ok a w'=>exact hdw.trans ((hok a (by have:=hc;unfold Jf at this;rw[hr]at this;exact this.1)).drew w')
  | halt h w'=>exact hdw.trans ((hhalt h).drew w')
 ·obtain⟨r,hr,hc,hdw,hrun⟩:=one w;rw[FB]at hT;rw[Gh]at hend
  have hF:Ag (fun w'=>match r with | .ok a _=>F (.ok a w') | .halt h _=>F (.halt h w')):=by
   cases r with
   | ok a w'=>exact hok a (by have:=hc;unfold Jf at this;rw[hr]at this;exact this.1)
   | halt h w'=>exact hhalt h
  have hFr:F r=(match r with | .ok a w=>F (.ok a w) | .halt h w=>F (.halt h w)):=by cases r<;>rfl
  have hT1:EW τ d c w.tape (YY r).drawn:=by
   refine hT.mono ?_;rw[hr]
   cases r with
   | ok a w'=>exact(hF.drew w').le
   | halt h w'=>exact(hF.drew w').le
  have hre:=SX (τ:=τ) (d:=d) (c:=c) hs w #[] hd (by rw[hrun];exact hT1) (fun u w' hu hn=>hend (by rw[hr,← hrun,hu];exact hU u w' hn));rw[hre]
  dsimp only
  rw[hEm,Ih]
  congr 1
  rw[hr]at hT hend ⊢
  cases r with
  | ok a w'=>exact hF.same w' τ d c (Nat.le_trans hd hdw.le) (by rw[show w'.tape=w.tape from hdw.tape];exact hT) (by rw[show w'.tape=w.tape from hdw.tape];exact hend)
  | halt h w'=>exact hF.same w' τ d c (Nat.le_trans hd hdw.le) (by rw[show w'.tape=w.tape from hdw.tape];exact hT) (by rw[show w'.tape=w.tape from hdw.tape];exact hend)
end
end
end Go.Proofs.Ytgdobbcjkiapkaa
