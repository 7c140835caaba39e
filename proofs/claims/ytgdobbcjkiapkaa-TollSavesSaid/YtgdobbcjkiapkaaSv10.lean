import Derived.Test.YtgdobbcjkiapkaaSv09
import Derived.Conc.LoneCalls
namespace Go.Proofs.Ytgdobbcjkiapkaa
set_option maxRecDepth 100000
set_option maxHeartbeats 4000000
set_option linter.unusedSimpArgs false
set_option linter.unusedVariables false
section
open Go Go.Conc
open Go.ConcN (sumTo upd sumTo_upd upd_ne upd_same)
section
variable {P:Program}{M:Machine}{n:Nat}{gs:Array Goroutine}{W w:World}{sl:Option (Nat×Nat)}{t:Trace}{q:Nat→Nat}{g:Goroutine}
theorem OL {g:Goroutine}(hg:DR g) (hwk:Ea g.status) (cases:Array CommCase) (b:Bool) (s:CommShape) (w:World) {m':Machine}{ops:Array MemOp}
    (h:communicate P Ju #[ph] 0 g cases b s w=(.next m',ops)):∃ g' w',m'=solo g' w'∧DR g'∧Ea g'.status∧∀ op∈ops,op.g=0∧op.act.touch?=none∧∀ mk,op.act ≠ .mark mk:=by
  have hp0:∀ r b,partners #[ph] r b=[]:=fun r b=>rfl
  have hwy:=Gf hp0 w
  have hready:∀ x∈((cases.zipIdx.toList.map fun (c,k)=>(k,c,ways w #[ph] c)).filter fun (_,_,ws) => !ws.isEmpty),∀ v∈x.2.2,EQ v:=by
    intro x hx v hv
    obtain⟨hx,_⟩:=List.mem_filter.1 hx
    obtain⟨y,_,rfl⟩:=List.mem_map.1 hx
    exact hwy _ v hv
  have hfin:∀ k v ok,DR (g.finishComm P cases s k v ok):=fun k v ok=>⟨BB hg.1 _,hg.2⟩
  have hnone:∀ op∈(#[]:Array MemOp),op.g=0∧op.act.touch?=none∧∀ mk,op.act ≠ .mark mk:=fun op ho=>by simp at ho
  unfold communicate at h
  dsimp only at h
  simp only[hp0,F5 (rest:=Ju) rfl]at h
  split at h
  · cases h
  · split at h
    · split at h
      · cases h
        exact⟨_,_,rfl,⟨hg.1,hg.2⟩,D9,hnone⟩
      · cases h
        exact⟨_,_,rfl,hfin _ _ _,AP,hnone⟩
    · cases hpk:Sem.run P _ w with
      | halt x w1=>rw[hpk]at h;cases h
      | ok x w1 =>
        have hn:=TT (NR _ hready) hpk
        rw[hpk]at h
        obtain⟨k,c,way⟩:=x
        dsimp only at hn h
        cases way with
        | partner h hk=>exact hn.elim
        | closed =>
          cases h
          refine⟨_,_,rfl,hfin _ _ _,AP,fun op ho=>?_⟩
          simp at ho;subst ho
          exact⟨rfl,rfl,fun mk e=>by cases e⟩
        | _ =>
          repeat' first
            | contradiction
            | (cases h;done)
            | (cases h;exact⟨_,_,rfl,⟨DI hg.1 _,hg.2⟩,hwk,hnone⟩)
            | (cases h
               refine⟨_,_,rfl,hfin _ _ _,AP,fun op ho=>?_⟩
               simp at ho
               rcases ho with rfl|rfl
               · exact⟨rfl,rfl,fun mk e=>by cases e⟩
               · exact⟨rfl,rfl,fun mk e=>by cases e⟩)
            | split at h
theorem Aax (d:Nat):re (Fa P M) (W.at d).drawn (cAt P M n) (W.at d)=Wq P M n W:=by
  unfold re Wq World.at
  simp
theorem QU (h:Leavers P t gs q):∀ r b,partners (gs.setIfInBounds 0 ph) r b=[]:=by
  intro r b
  refine partners_nil (fun j x hx=>?_)
  rcases getElem?_stand gs 0 j x hx with ⟨_,rfl⟩|⟨hne,hx⟩
  · exact offersAt_ph _ _
  · refine offersAt_of_not_blocked ?_ _ _
    rcases(h.old j x (by omega) hx).status with e|e<;>rw[e]<;>simp
theorem Beside.tells (hP:EK P) (h:Beside P M n gs W sl t q g w) {d:Nat}{sl':Option (Nat×Nat)}(hm:move P (crowd gs W sl)=.goroutine (crowd gs (W.at d) sl') 0) :
    EW (Fa P M) (W.at d).drawn (cAt P M n) (W.at d).tape (stepW (stepG P true g (W.at d))).drawn ∧
      (CW (stepG P true g (W.at d))→∀ D,EW (Fa P M) (W.at d).drawn (cAt P M n) (W.at d).tape D):=by
  have hst:step P (crowd gs W sl)=(runT P (crowd gs (W.at d) sl') 0).1:=by rw[step,Bi hm]
  have tell:∀ D,((∃ o w',step P (crowd gs W sl)=.ended o w')∨∃ m',step P (crowd gs W sl)=.next m'∧D≤m'.world.drawn)→EW (Fa P M) (W.at d).drawn (cAt P M n) (W.at d).tape D:=fun D hD=>by
    have:=Qy P M h.mac (PG hm) hD
    rw[show (W.at d).tape=M.world.tape from h.tape]
    exact this
  have hok:=(Bg hP h.plain true).ok (W.at d)
  have h0:(0 == 0)=true:=rfl
  cases hs:stepG P true g (W.at d) with
  | ended o w' es =>
    have he:=runT_many_ended (P:=P) (sl:=sl') (i:=0) h.zero (show stepG P (0 == 0) g (W.at d)=_ from hs)
    have hend:∃ o w',step P (crowd gs W sl)=.ended o w':=⟨o,w',by rw[hst,he]⟩
    exact⟨tell _ (.inl hend),fun _ D=>tell D (.inl hend)⟩
  | go g' w' es =>
    have he:=runT_crowd_go (P:=P) (sl:=sl') (i:=0) h.zero (show stepG P (0 == 0) g (W.at d)=_ from hs)
    exact⟨tell _ (.inr ⟨_,by rw[hst,he],Nat.le_refl _⟩),fun x=>x.elim⟩
  | spawn g' c w' es =>
    have he:=runT_crowd_spawn (P:=P) (sl:=sl') (i:=0) h.zero (show stepG P (0 == 0) g (W.at d)=_ from hs)
    exact⟨tell _ (.inr ⟨_,by rw[hst,he],Nat.le_refl _⟩),fun x=>x.elim⟩
  | comm g' cs b s w' es =>
    have he:=runT_crowd_comm (P:=P) (sl:=sl') (i:=0) h.zero (show stepG P (0 == 0) g (W.at d)=_ from hs)
    refine⟨tell _ ?_,fun x=>x.elim⟩
    rw[hst,he]
    cases hc:(communicate P (crowd gs (W.at d) sl').rest (gs.setIfInBounds 0 ph) 0 g' cs b s w').1 with
    | ended o x=>exact .inl ⟨_,_,rfl⟩
    | next m'=>exact .inr ⟨m',rfl,(II _ _ _ _ _ _ _ _ _ hc).le⟩
  | coroswitch g' c x w' es =>
    refine⟨tell _ ?_,fun x=>x.elim⟩
    rw[hst]
    obtain⟨hlt,hge⟩:=Array.getElem?_eq_some_iff.1 h.zero
    have hsw:=swapAt_of_lt hlt { (default:Goroutine) with status:=.finished }
    unfold runT
    simp only[crowd,hsw,hge,h0,hs,GStep.es]
    rcases w'.heap[c]? with _|o
    · exact .inl ⟨_,_,rfl⟩
    · cases o<;>first|exact .inl ⟨_,_,rfl⟩|skip
      rename_i pk
      cases pk with
      | none=>exact .inr ⟨_,rfl,Nat.le_refl _⟩
      | some k=>exact .inr ⟨_,rfl,Nat.le_refl _⟩
  | _=>rw[hs]at hok;exact hok.elim
theorem Beside.same (hP:EK P) (h:Beside P M n gs W sl t q g w) {d:Nat}{sl':Option (Nat×Nat)}(hm:move P (crowd gs W sl)=.goroutine (crowd gs (W.at d) sl') 0) :
    stepG P true g w=EZ (re (Fa P M) (W.at d).drawn (cAt P M n)) (stepG P true g (W.at d)):=by
  obtain⟨h1,h2⟩:=h.tells hP hm
  have:=(Bg hP h.plain true).same (W.at d) (Fa P M) (W.at d).drawn (cAt P M n) (Nat.le_refl _) h1 h2
  rw[Aax,← h.world]at this
  exact this
theorem Y8 (h:∃ B,Past (fun _=>False) B t) {u:Trace}(hu:∀ op∈u,op.g=0) (hd:Deaf (t++u) 0=Deaf t 0):∃ B,Past (fun _=>False) B (t++u):=by
  obtain⟨B,hP⟩:=h
  have low1:∀ x:MemAct,∃ B,x.low B:=by
    intro x
    cases x with
    | access e =>
      obtain⟨l,wr,sy⟩:=e
      cases l with
      | cell a=>exact⟨a.block+1,Nat.lt_succ_self _⟩
      | obj r=>exact⟨r+1,Nat.lt_succ_self _⟩
      | _=>exact⟨0,trivial⟩
    | mark m=>cases m with
      | acquire a=>exact⟨a.block+1,Nat.lt_succ_self _⟩
      | release a=>exact⟨a.block+1,Nat.lt_succ_self _⟩
      | releaseMerge a=>exact⟨a.block+1,Nat.lt_succ_self _⟩
      | read a=>exact⟨a.block+1,Nat.lt_succ_self _⟩
      | write a=>exact⟨a.block+1,Nat.lt_succ_self _⟩
      | _=>exact⟨0,trivial⟩
    | go _=>exact⟨0,trivial⟩
    | start=>exact⟨0,trivial⟩
    | send c k=>exact⟨c+1,Nat.lt_succ_self _⟩
    | sendDone c k=>exact⟨c+1,Nat.lt_succ_self _⟩
    | recv c k p=>exact⟨c+1,Nat.lt_succ_self _⟩
    | recvDone c k=>exact⟨c+1,Nat.lt_succ_self _⟩
    | close c=>exact⟨c+1,Nat.lt_succ_self _⟩
    | recvClosed c=>exact⟨c+1,Nat.lt_succ_self _⟩
  have low:∀ l:List MemOp,∃ B,∀ op∈l,op.act.low B:=by
    intro l
    induction l with
    | nil=>exact⟨0,fun op ho=>by cases ho⟩
    | cons x l ih =>
      obtain⟨B1,h1⟩:=ih
      obtain⟨B2,h2⟩:=low1 x.act
      refine⟨B1+B2,fun op ho=>?_⟩
      rcases List.mem_cons.1 ho with rfl|ho
      · exact MemAct.low_mono (Nat.le_add_left _ _) h2
      · exact MemAct.low_mono (Nat.le_add_right _ _) (h1 op ho)
  obtain⟨B',hB'⟩:=low u.toList
  refine⟨B+B',(hP.mono (Nat.le_add_right _ _)).app0 hu (fun _ _ _ _ x=>x.elim) hd (fun op ho=>MemAct.low_mono (Nat.le_add_left _ _) (hB' op (Array.mem_toList_iff.2 ho)))⟩
theorem Beside.moved (h:Beside P M n gs W sl t q g w) {d:Nat}{sl':Option (Nat×Nat)}(hm:move P (crowd gs W sl)=.goroutine (crowd gs (W.at d) sl') 0)
    {gs':Array Goroutine}{W':World}{g':Goroutine}{u:Trace}(hs:stepT P (crowd gs W sl)=(.next (crowd gs' W' sl'),u)) (hgs:∀ j x,gs'[j]?=some x→0<j→gs[j]?=some x) (hsz:gs'.size=gs.size) (h0:gs'[0]?=some g')
    (hT:W'.tape=W.tape) (hu:∀ op∈u,op.g=0) (hd:Deaf (t++u) 0=Deaf t 0) (hpl:DR g') (hw:Ea g'.status) :
    Beside P M (n+1) gs' W' sl' (t++u) q g' (re (Fa P M) (W.at d).drawn (cAt P M n) W'):=by
  refine⟨LD h.run hs,h0,hT.trans h.tape,?_,⟨fun j x hj hx=>?_,fun j hj=>?_⟩,Y8 h.past hu hd,hpl,hw⟩
  · unfold re Wq
    rw[AaY h.mac (PG hm) (by rw[step,hs])]
    simp only[crowd]
    congr 1
    omega
  · rw[Deaf_other t (g':=0) (by omega) u hu]
    exact h.leave.old j x hj (hgs j x hx hj)
  · rcases Nat.eq_zero_or_pos j with rfl|hpos
    · rw[hd];exact h.leave.above 0 (by omega)
    · rw[Deaf_other t (g':=0) (by omega) u hu]
      exact h.leave.above j (by omega)
theorem XZ (h:∃ B,Past (fun _=>False) B t):Deaf t 0=0:=h.elim fun _ x=>x.hears
theorem NM (h:∃ B,Past (fun _=>False) B t) (fn:FuncId) (pos:String) {es:Array Event}(he:deafBehind 0 es=0):Deaf (t++MemOp.ofEvents 0 fn pos es) 0=Deaf t 0:=by
  rw[Deaf_own,XZ h,he]
theorem Nv (fn:FuncId) (pos:String) (es:Array Event):∀ op∈MemOp.ofEvents 0 fn pos es,op.g=0:=fun op hop=>by obtain⟨e,_,rfl⟩:=Conc.mem_ofEvents hop;rfl
theorem Nk (h:gs[0]?=some g) {gs':Array Goroutine}(hs:gs'.size=gs.size) (x:Goroutine):(gs'.setIfInBounds 0 x)[0]?=some x:=by
  have:=(Array.getElem?_eq_some_iff.1 h).1
  exact Array.getElem?_setIfInBounds_self_of_lt (by omega)
theorem Beside.go (hP:EK P) (h:Beside P M n gs W sl t q g w) {d:Nat}{sl':Option (Nat×Nat)}(hm:move P (crowd gs W sl)=.goroutine (crowd gs (W.at d) sl') 0) {g':Goroutine}{w':World}{es:Array Event}(hs:stepG P true g w=.go g' w' es) :
    ∃ gs' W' t',Beside P M (n+1) gs' W' sl' t' q g' w':=by
  have hsame:=h.same hP hm
  have hok:=(Bg hP h.plain true).ok (W.at d)
  have hdr:=(Bg hP h.plain true).drew (W.at d)
  rw[hs]at hsame
  cases hx:stepG P true g (W.at d) with
  | go g1 W1 es1 =>
    rw[hx]at hsame hok hdr
    simp only[EZ,GStep.go.injEq]at hsame
    obtain⟨rfl,rfl,rfl⟩:=hsame
    have he:=runT_crowd_go (P:=P) (sl:=sl') (i:=0) h.zero (show stepG P (0 == 0) g (W.at d)=_ from hx)
    refine⟨_,_,_,h.moved hm ((Bi hm).trans he) (fun j x hx' hj=>?_) (by simp) (Nk h.zero (by simp) _) hdr.tape (Nv _ _ _) (NM h.past _ _ hok.2.2) hok.1 hok.2.1⟩
    rw[Array.getElem?_setIfInBounds_ne (by omega),Array.getElem?_map]at hx'
    obtain⟨y,hy,rfl⟩:=Option.map_eq_some_iff.1 hx'
    rw[woken_quitsD (h.leave.old j y hj hy)]
    exact hy
  | _=>rw[hx]at hsame;simp[EZ]at hsame
theorem Beside.comm (hP:EK P) (h:Beside P M n gs W sl t q g w) {d:Nat}{sl':Option (Nat×Nat)}(hm:move P (crowd gs W sl)=.goroutine (crowd gs (W.at d) sl') 0) {g₁:Goroutine}{cs:Array CommCase}{b:Bool}{s:CommShape}{w₁:World}{es:Array Event}
    (hs:stepG P true g w=.comm g₁ cs b s w₁ es) {m':Machine}{ops:Array MemOp}(hc:communicate P Ju #[ph] 0 g₁ cs b s w₁=(.next m',ops)) :
    ∃ g' w' gs' W' t',m'=solo g' w'∧Beside P M (n+1) gs' W' sl' t' q g' w':=by
  have hsame:=h.same hP hm
  have hok:=(Bg hP h.plain true).ok (W.at d)
  have hdr:=(Bg hP h.plain true).drew (W.at d)
  rw[hs]at hsame
  cases hx:stepG P true g (W.at d) with
  | comm g1 c1 b1 s1 W1 es1 =>
    rw[hx]at hsame hok hdr
    simp only[EZ,GStep.comm.injEq]at hsame
    obtain⟨rfl,rfl,rfl,rfl,rfl,rfl⟩:=hsame
    have he:=runT_crowd_comm (P:=P) (sl:=sl') (i:=0) h.zero (show stepG P (0 == 0) g (W.at d)=_ from hx)
    have hal:=LQ (P:=P) (rest:=(crowd gs (W.at d) sl').rest) rfl (QU h.leave) g₁ cs b s W1
    have hst:stepT P (crowd gs W sl)=_:=(Bi hm).trans he
    have tell:∀ D,((∃ o w',step P (crowd gs W sl)=.ended o w')∨∃ m',step P (crowd gs W sl)=.next m'∧D≤m'.world.drawn)→EW (Fa P M) (W.at d).drawn (cAt P M n) W1.tape D:=fun D hD=>by
      have:=Qy P M h.mac (PG hm) hD
      rw[show W1.tape=M.world.tape from (show W1.tape=W.tape from hdr.tape).trans h.tape]
      exact this
    have hre:=OJ (τ:=Fa P M) (d:=(W.at d).drawn) (c:=cAt P M n) (P:=P) g₁ cs b s W1 hdr.le (fun m hm'=>tell _ (.inr ⟨{ world:=m.world,gs:=(gs.setIfInBounds 0 ph).setIfInBounds 0 (m.gs.getD 0 default),rest:=(crowd gs (W.at d) sl').rest },by
        rw[step,hst,hal]
        cases hcw:communicate P Ju #[ph] 0 g₁ cs b s W1 with
        | mk r o=>rw[hcw]at hm';cases hm';rfl,Nat.le_refl _⟩)) (fun hen D=>tell D (.inl (by
        obtain⟨o,x,hen⟩:=hen
        refine⟨o,x,?_⟩
        rw[step,hst,hal]
        cases hcw:communicate P Ju #[ph] 0 g₁ cs b s W1 with
        | mk r o'=>rw[hcw]at hen;cases hen;rfl)))
    rw[hc]at hre
    cases hcw:communicate P Ju #[ph] 0 g₁ cs b s W1 with
    | mk r o =>
      rw[hcw]at hre hal
      cases r with
      | ended o' x=>simp[stC]at hre
      | next mw =>
        simp only[stC,Prod.mk.injEq,Stepped.next.injEq]at hre
        obtain⟨rfl,rfl⟩:=hre
        obtain⟨g',w',hmw,hpl,hwk,hops⟩:=OL hok.1 hok.2.1 cs b s W1 hcw
        subst hmw
        have hst':stepT P (crowd gs W sl)=(.next (crowd ((gs.setIfInBounds 0 ph).setIfInBounds 0 g') w' sl'),MemOp.ofEvents 0 g.frame.fn g.frame.place es++ops):=by
          rw[hst,hal];rfl
        have hde:Deaf (t++(MemOp.ofEvents 0 g.frame.fn g.frame.place es++ops)) 0=Deaf t 0:=by
          rw[← Array.append_assoc]
          have h1:=NM h.past g.frame.fn g.frame.place hok.2.2
          obtain⟨l⟩:=ops
          rw[Deaf_append,h1]
          have:∀ (l:List MemOp) (x:Nat),(∀ op∈l,∀ mk,op.act ≠ .mark mk)→l.foldl (deafStep 0) x=x:=by
            intro l
            induction l with
            | nil=>intro x _;rfl
            | cons y l ih =>
              intro x hl
              have e1:deafStep 0 x y=x:=by
                unfold deafStep
                split
                · rename_i e;exact absurd e (hl y (List.mem_cons_self ..) _)
                · rename_i e;exact absurd e (hl y (List.mem_cons_self ..) _)
                · rfl
              rw[List.foldl_cons,e1]
              exact ih x fun op ho=>hl op (List.mem_cons_of_mem _ ho)
          exact this l _ fun op ho=>(hops op (by simpa using ho)).2.2
        refine⟨g',re (Fa P M) (W.at d).drawn (cAt P M n) w',_,_,_,rfl,h.moved hm hst' (fun j x hx' hj=>?_) (by simp) (Nk h.zero (by simp) _) ?_ (fun op ho=>?_) hde hpl hwk⟩
        · rw[Array.getElem?_setIfInBounds_ne (by omega),Array.getElem?_setIfInBounds_ne (by omega)]at hx'
          exact hx'
        · have:=(II (P:=P) _ _ _ _ _ _ _ _ (solo g' w') (by rw[hcw])).tape
          exact this.trans hdr.tape
        · rcases Array.mem_append.1 ho with ho|ho
          · exact Nv _ _ _ op ho
          · exact(hops op ho).1
  | _=>rw[hx]at hsame;simp[EZ]at hsame
theorem QM {g₁:Goroutine}{c:Nat}{W1:World}{es:Array Event}(hz:gs[0]?=some g) (hx:stepG P true g W=.coroswitch g₁ c true W1 es):∀ o,W1.heap[c]?=o→runT P (crowd gs W sl) 0=(match o with
      | some (.coro (some k))=>(.next { world:={ W1 with heap:=W1.heap.setIfInBounds c (.coro none) },gs:=(gs.setIfInBounds 0 { g₁ with status:=.finished }).modify k (fun o=>{ o with status:=.running }),rest:=(crowd gs W sl).rest },MemOp.ofEvents 0 g.frame.fn g.frame.place es)
      | some (.coro none)=>(match endThrow g₁.frame "coroswitch on exited coro" W1 with
        | .go g w _ => .next { world:=w,gs:=gs.setIfInBounds 0 g,rest:=(crowd gs W sl).rest }
        | _ => .ended (.stuck "" "") W1,MemOp.ofEvents 0 g.frame.fn g.frame.place es)
      | _=>(.ended (.stuck "coroswitch: no coroutine" "") W1,MemOp.ofEvents 0 g.frame.fn g.frame.place es)):=by
  intro o ho
  obtain⟨hlt,hge⟩:=Array.getElem?_eq_some_iff.1 hz
  have hsw:=swapAt_of_lt hlt { (default:Goroutine) with status:=.finished }
  have h0:(0 == 0)=true:=rfl
  have hset:∀ y,(gs.set 0 { (default:Goroutine) with status:=.finished }).setIfInBounds 0 y=gs.setIfInBounds 0 y:=fun y=>set_setIfInBounds hlt _ _
  unfold runT
  simp only[crowd,hsw,hge,h0,hx,GStep.es,ho]
  cases o with
  | none=>rfl
  | some o =>
    cases o<;>first|rfl|skip
    rename_i pk
    cases pk with
    | none=>simp only[endThrow,dieOf,hset]
    | some k=>simp only[hset];rfl
theorem Beside.coro (hP:EK P) (h:Beside P M n gs W sl t q g w) {d:Nat}{sl':Option (Nat×Nat)}(hm:move P (crowd gs W sl)=.goroutine (crowd gs (W.at d) sl') 0) {g₁:Goroutine}{c:Nat}{x:Bool}{w₁:World}{es:Array Event}
    (hs:stepG P true g w=.coroswitch g₁ c x w₁ es) {m':Machine}{ops:Array MemOp}(hc:runT P (solo g w) 0=(.next m',ops)) :
    ∃ g' w',m'=solo g' w'∧(g'.status=.running→∃ gs' W' t',Beside P M (n+1) gs' W' sl' t' q g' w')∧Ea g'.status:=by
  have hsame:=h.same hP hm
  have hok:=(Bg hP h.plain true).ok (W.at d)
  have hdr:=(Bg hP h.plain true).drew (W.at d)
  have h0:(0 == 0)=true:=rfl
  rw[hs]at hsame
  cases hx:stepG P true g (W.at d) with
  | coroswitch g1 c1 x1 W1 es1 =>
    rw[hx]at hsame hok hdr
    simp only[EZ,GStep.coroswitch.injEq]at hsame
    obtain⟨rfl,rfl,rfl,rfl,rfl⟩:=hsame
    obtain⟨hpl,rfl,hde⟩:=hok
    have hlt:=(Array.getElem?_eq_some_iff.1 h.zero).1
    have hst:stepT P (crowd gs W sl)=_:=Bi hm
    have hrun:=QM (P:=P) (sl:=sl') h.zero hx
    have hlone:=QM (P:=P) (gs:=#[g]) (sl:=none) rfl hs
    rw[solo_eq_crowd]at hc
    cases ho:W1.heap[c]? with
    | none=>rw[hlone _ ho]at hc;cases hc
    | some o =>
      have hl:=hlone _ ho
      have hr:=hrun _ ho
      rw[hc]at hl
      cases o<;>first|(cases hl;done)|skip
      rename_i pk
      have dz:=NM h.past g.frame.fn g.frame.place hde
      cases pk with
      | none =>
        cases hl
        refine⟨_,_,rfl,fun _=>⟨_,_,_,h.moved hm (hst.trans hr) (fun j y hy hj=>?_) (by simp) (Nk h.zero (by simp) _) hdr.tape (Nv _ _ _) dz ⟨hpl.1,fun c hc=>by cases hc⟩ AP⟩,AP⟩
        rw[Array.getElem?_setIfInBounds_ne (by omega)]at hy
        exact hy
      | some k =>
        cases k with
        | zero =>
          cases hl
          refine⟨{ { g₁ with status:=.finished } with status:=.running },_,rfl,fun _=>?_,AP⟩
          have:=h.moved (gs':=(gs.setIfInBounds 0 { g₁ with status:=.finished }).modify 0 (fun o=>{ o with status:=.running })) (g':={ { g₁ with status:=.finished } with status:=.running }) hm (hst.trans hr) (fun j y hy hj=>?_) (by simp) ?_ hdr.tape (Nv _ _ _) dz hpl AP
          · exact⟨_,_,_,this⟩
          · rw[Array.getElem?_modify,if_neg (by omega),Array.getElem?_setIfInBounds_ne (by omega)]at hy
            exact hy
          · rw[Array.getElem?_modify,if_pos rfl,Array.getElem?_setIfInBounds_self_of_lt hlt];rfl
        | succ k =>
          have e:((#[g]:Array Goroutine).setIfInBounds 0 { g₁ with status:=.finished }).modify (k+1) (fun o=>{ o with status:=.running }) = #[{ g₁ with status:=.finished }]:=by
            apply Array.ext_getElem?;intro i;rw[Array.getElem?_modify];split
            · subst_vars;simp
            · rfl
          simp only[e]at hl
          cases hl
          exact⟨{ g₁ with status:=.finished },_,rfl,fun (hf:GoStatus.finished=GoStatus.running)=>GoStatus.noConfusion hf,FX⟩
  | _=>rw[hx]at hsame;simp[EZ]at hsame
theorem O6 {g:Goroutine}(hw:Ea g.status) (hs:g.status ≠ .running):∀ (k:Nat) (w:World) {g':Goroutine}{w':World},runN P k (solo g w)=.next (solo g' w')→g'.status ≠ .running:=by
  intro k
  induction k with
  | zero =>
    intro w g' w' h
    simp only[runN,Stepped.next.injEq]at h
    have:g=g':=by have:=congrArg (fun m=>m.gs[0]?) h;simpa[solo] using this
    exact this ▸ hs
  | succ k ih =>
    intro w g' w' h
    have hst:step P (solo g w)=.next (solo g w)∨∃ o w',step P (solo g w)=.ended o w':=by
      have fin:∀ x:GStep,∃ o w',(match x with | .ended o w _=>Move.machine (.ended o w)|_ => .machine (.ended (.stuck "" "") default))=Move.machine (.ended o w'):=fun x=>by
        cases x<;>exact⟨_,_,rfl⟩
      cases hg:g.status with
      | running=>exact absurd hg hs
      | sleeping t=>exact absurd hg (hw t)
      | waiting =>
        left
        simp[step,stepT,move,ask,askOn,solo,runnable_eq,due,ahead,Goroutine.canRun,List.range_succ,pure,Sem.run,hg]
      | _ =>
        right
        simp[step,stepT,move,ask,askOn,solo,runnable_eq,due,ahead,Goroutine.canRun,List.range_succ,pure,Sem.run,hg]
        split<;>(rename_i h;split at h<;>first|(cases h;exact⟨_,_,rfl⟩)|(cases h;done))
    rcases hst with hst|⟨o,x,hst⟩
    · simp only[runN,hst]at h
      exact ih w h
    · simp only[runN,hst]at h
      cases h
theorem YH {g g':Goroutine}{w w':World}(h:solo g w=solo g' w'):g=g'∧w=w':=by
  constructor
  · have:=congrArg (fun m=>m.gs[0]?) h;simpa[solo] using this
  · exact congrArg Machine.world h
theorem Xx (hP:EK P):∀ (k n:Nat) (g:Goroutine) (w:World) (g₂:Goroutine) (w₂:World),runN P k (solo g w)=.next (solo g₂ w₂)→g₂.status=.running→IM P M n g w→∃ n',n≤n'∧IM P M n' g₂ w₂:=by
  intro k
  induction k with
  | zero =>
    intro n g w g₂ w₂ h _ hg
    simp only[runN,Stepped.next.injEq]at h
    obtain⟨rfl,rfl⟩:=YH h
    exact⟨n,Nat.le_refl _,hg⟩
  | succ k ih =>
    intro n g w g₂ w₂ h h2 hg
    obtain⟨gs,W,sl,t,q,hb⟩:=hg
    by_cases hrun:g.status=.running
    · obtain⟨n',gs',W',sl',t',q',d,sl'',hn,hb',hm⟩:=Beside.pick hrun _ n gs W sl t q (Nat.le_refl _) hb
      have hst:step P (solo g w)=(runT P (solo g w) 0).1:=by rw[step,stepT_solo hrun]
      have hok:=(Bg hP hb'.plain true).ok w
      simp only[runN]at h
      cases hs:stepG P true g w with
      | go g' w' es =>
        obtain⟨gs3,W3,t3,hb3⟩:=hb'.go hP hm hs
        rw[hst,runT_solo_go hs]at h
        obtain⟨n3,hn3,hg3⟩:=ih (n'+1) g' w' g₂ w₂ h h2 ⟨_,_,_,_,_,hb3⟩
        exact⟨n3,by omega,hg3⟩
      | comm g' cs b s w' es =>
        have he:=runT_crowd_comm (P:=P) (gs:=#[g]) (sl:=none) (i:=0) rfl (show stepG P (0 == 0) g w=_ from hs)
        rw[← solo_eq_crowd]at he
        rw[hst,he]at h
        have hrest:(solo g w).rest=Ju:=rfl
        have hgs:(#[g]:Array Goroutine).setIfInBounds 0 ph = #[ph]:=rfl
        rw[hrest,hgs]at h
        cases hc:communicate P Ju #[ph] 0 g' cs b s w' with
        | mk r ops =>
          rw[hc]at h
          cases r with
          | ended o x=>cases h
          | next m' =>
            obtain⟨g3,w3,gs3,W3,t3,rfl,hb3⟩:=hb'.comm hP hm hs hc
            obtain⟨n3,hn3,hg3⟩:=ih (n'+1) g3 w3 g₂ w₂ h h2 ⟨_,_,_,_,_,hb3⟩
            exact⟨n3,by omega,hg3⟩
      | spawn g' c w' es =>
        have he:=runT_crowd_spawn (P:=P) (gs:=#[g]) (sl:=none) (i:=0) rfl (show stepG P (0 == 0) g w=_ from hs)
        rw[← solo_eq_crowd]at he
        rw[hst,he]at h
        have hsz:=runNT_size P k _ (solo g₂ w₂) #[] (runNT P k _ #[]).2 (Prod.ext (by rw[runNT_fst];exact h) rfl)
        simp[crowd,solo]at hsz
      | coroswitch g' c x w' es =>
        rw[hst]at h
        cases hc:runT P (solo g w) 0 with
        | mk r ops =>
          rw[hc]at h
          cases r with
          | ended o x=>cases h
          | next m' =>
            obtain⟨g3,w3,rfl,hgo,hwk⟩:=hb'.coro hP hm hs hc
            by_cases h3:g3.status=.running
            · obtain⟨gs3,W3,t3,hb3⟩:=hgo h3
              obtain⟨n3,hn3,hg3⟩:=ih (n'+1) g3 w3 g₂ w₂ h h2 ⟨_,_,_,_,_,hb3⟩
              exact⟨n3,by omega,hg3⟩
            · exact absurd h2 (O6 hwk h3 k w3 h)
      | ended o w' es =>
        have he:=runT_many_ended (P:=P) (gs:=#[g]) (sl:=none) (i:=0) rfl (show stepG P (0 == 0) g w=_ from hs)
        rw[← solo_eq_crowd]at he
        rw[hst,he]at h
        cases h
      | _=>rw[hs]at hok;exact hok.elim
    · exact absurd h2 (O6 hb.wake hrun (k+1) w h)
end
end
section
open Go Go.Conc
section
variable (P:Program) (M:Machine)
def Dz (f:FuncId) (args:Array Value) (w:World) (R:Ending→World→Prop):Prop :=
 ∀ (cs:List Frame) (n:Nat),IM P M n (G (Frame.enter P f args .normal) cs) w →
  ∃ e w' fr n',n≤n'∧R e w'∧IM P M n' (G fr cs) w'∧fr.fn=f∧fr.leaving P w' e∧(∀ x,e=x→x ≠ .outgrown)
def Yx (n:Nat) (b:Frame) (k:List Item) (cs:List Frame):Exit→Act→World→Prop
 | .normal,a,w=>∃ n',n≤n'∧IM P M n' (G (b.at a k) cs) w
 | .exit id,a,w=>∀ k',exitTo id k=some k'→∃ n',n≤n'∧IM P M n' (G (b.at a k') cs) w
 | .goto l,a,w=>∀ k',gotoIn l k=some k'→∃ n',n≤n'∧IM P M n' (G (b.at a k') cs) w
 | .ret,a,w=>∃ todo n',n≤n'∧IM P M n' (G { b.at a todo with mode:=.returning } cs) w
 | .panic chain,a,w=>∃ todo n',n≤n'∧IM P M n' (G { b.at a todo with mode:=.panicking chain } cs) w
 | .outgrown,_,_=>False
def wpX (c:Code) (Q:Exit→Act→World→Prop) (a:Act) (w:World):Prop :=
 ∀ (b:Frame) (k:List Item) (cs:List Frame) (n:Nat),IM P M n (G (b.at a (.code c::k)) cs) w→∃ e a' w',Q e a' w'∧Yx P M n b k cs e a' w'
end
section
variable {P:Program}{M:Machine}{Q:Exit→Act→World→Prop}{a:Act}{w w':World}{n:Nat}
theorem AA (hP:EK P) {fr fr':Frame}{cs cs':List Frame}(h:Steps P (lone fr cs w) (lone fr' cs' w')) (hg:IM P M n (G fr cs) w):∃ n',n≤n'∧IM P M n' (G fr' cs') w':=by
 obtain⟨k,hk⟩:=h;exact Xx hP k n (G fr cs) w (G fr' cs') w' hk rfl hg
def Je (Q:Exit→Act→World→Prop):Prop:=∀ a w,¬ Q .outgrown a w
theorem Dz.mono {f:FuncId}{args:Array Value}{R R':Ending→World→Prop}(h:Dz P M f args w R) (hr:∀ e w',R e w'→R' e w'):Dz P M f args w R' :=
 fun cs n hg=>let ⟨e,w',fr,n',hn,r,rest⟩:=h cs n hg;⟨e,w',fr,n',hn,hr _ _ r,rest⟩
theorem Dz.of (hP:EK P) {f:FuncId}{args:Array Value}{R:Ending→World→Prop}(h:Calls P f args w R) (hno:∀ w',¬ R .outgrown w'):Dz P M f args w R:=by
 intro cs n hg;obtain⟨e,w',fr,r,hc,hf,hl⟩:=h cs
 cases e with
 | outgrown=>exact absurd r (hno _)
 | returned v =>
  obtain⟨n',hn,hg'⟩:=AA hP hc hg;exact⟨_,w',fr,n',hn,r,hg',hf,hl,fun x e=>by subst e;simp⟩
 | panicked c =>
  obtain⟨n',hn,hg'⟩:=AA hP hc hg;exact⟨_,w',fr,n',hn,r,hg',hf,hl,fun x e=>by subst e;simp⟩
theorem Yx.later {n n':Nat}(h:n≤n') {b:Frame}{k:List Item}{cs:List Frame}{e:Exit}(hx:Yx P M n' b k cs e a w):Yx P M n b k cs e a w:=by
 cases e with
 | normal=>obtain⟨m,hm,hg⟩:=hx;exact⟨m,by omega,hg⟩
 | exit id=>exact fun k' hk=>let ⟨m,hm,hg⟩:=hx k' hk;⟨m,by omega,hg⟩
 | goto l=>exact fun k' hk=>let ⟨m,hm,hg⟩:=hx k' hk;⟨m,by omega,hg⟩
 | ret=>obtain⟨t,m,hm,hg⟩:=hx;exact⟨t,m,by omega,hg⟩
 | panic c=>obtain⟨t,m,hm,hg⟩:=hx;exact⟨t,m,by omega,hg⟩
 | outgrown=>exact hx.elim
theorem Yx.pass {b:Frame}{x:Item}{k:List Item}{cs:List Frame}{e:Exit}(hx:x.plain=true) (he:e ≠ .normal) (h:Yx P M n b (x::k) cs e a w):Yx P M n b k cs e a w:=by
 cases e with
 | normal=>exact absurd rfl he
 | exit id=>exact fun k' hk=>h k' (by cases x<;>simp_all [exitTo,Item.plain])
 | goto l=>exact fun k' hk=>h k' (by cases x<;>simp_all [gotoIn,Item.plain])
 | ret=>exact h
 | panic chain=>exact h
 | outgrown=>exact h
theorem wpX.of (hP:EK P) {c:Code}(h:c.wp P Q a w) (hno:Je Q):wpX P M c Q a w:=by
 intro b k cs n hg;obtain⟨e,a',w',q,harr⟩:=h b k cs;refine⟨e,a',w',q,?_⟩
 cases e with
 | normal=>exact AA hP harr hg
 | exit id=>exact fun k' hk=>AA hP (harr k' hk) hg
 | goto l=>exact fun k' hk=>AA hP (harr k' hk) hg
 | ret=>obtain⟨t,hs⟩:=harr;obtain⟨m,hm,hg'⟩:=AA hP hs hg;exact⟨t,m,hm,hg'⟩
 | panic c=>obtain⟨t,hs⟩:=harr;obtain⟨m,hm,hg'⟩:=AA hP hs hg;exact⟨t,m,hm,hg'⟩
 | outgrown=>exact hno _ _ q
theorem F8 {K:Act→World→Prop}(h:Je Q):Je (Exit.then K Q):=fun a w hx=>h a w hx
theorem wpX.cut (hP:EK P) {x:Code}{K:Act→World→Prop}(hno:Je Q) (h:∀ K':Act→World→Prop,(∀ a w,K a w→K' a w)→x.wp P (Exit.then K' Q) a w):wpX P M x (Exit.then K Q) a w :=
 wpX.of hP (h K fun _ _ h=>h) (F8 hno)
theorem BD (hP:EK P) {x y:Code}(h:wpX P M x (Exit.then (wpX P M y Q) Q) a w):wpX P M (.seq x y) Q a w:=by
 intro b k cs n hg;obtain⟨n0,hn0,hg0⟩:=AA hP (.one step_seq) hg;obtain⟨e,a₁,w₁,hq,harr⟩:=h b (.code y::k) cs n0 hg0
 cases e with
 | normal =>
  obtain⟨n1,hn1,hg1⟩:=harr;obtain⟨e₂,a₂,w₂,hq₂,harr₂⟩:=hq b k cs n1 hg1;exact⟨e₂,a₂,w₂,hq₂,harr₂.later (by omega)⟩
 | exit id=>exact⟨_,a₁,w₁,hq,(harr.pass (x:=.code y) rfl (by simp)).later hn0⟩
 | goto l=>exact⟨_,a₁,w₁,hq,(harr.pass (x:=.code y) rfl (by simp)).later hn0⟩
 | ret=>exact⟨_,a₁,w₁,hq,(harr.pass (x:=.code y) rfl (by simp)).later hn0⟩
 | panic c=>exact⟨_,a₁,w₁,hq,(harr.pass (x:=.code y) rfl (by simp)).later hn0⟩
 | outgrown=>exact harr.elim
theorem Ue (hP:EK P) {c:Operand}{x y:Code}{t:Bool}(hc:a.eval c=.bool t) (h:wpX P M (if t then x else y) Q a w):wpX P M (.cond c x y) Q a w:=by
 intro b k cs n hg;obtain⟨n0,hn0,hg0⟩:=AA hP (.one (step_cond hc)) hg;obtain⟨e,a',w',q,r⟩:=h b k cs n0 hg0;exact⟨e,a',w',q,r.later hn0⟩
theorem J5 (hP:EK P) {c:Operand}{x y:Code}(hc:a.eval c=.bool true) (h:wpX P M x Q a w):wpX P M (.cond c x y) Q a w:=Ue hP hc h
theorem Og (hP:EK P) {c:Operand}{x y:Code}(hc:a.eval c=.bool false) (h:wpX P M y Q a w):wpX P M (.cond c x y) Q a w:=Ue hP hc h
theorem Qp (hP:EK P) {id:Nat}{c:Code}(h:wpX P M c (Exit.inBlock id Q) a w):wpX P M (.block id c) Q a w:=by
 intro b k cs n hg;obtain⟨n0,hn0,hg0⟩:=AA hP (.one step_block) hg;obtain⟨e,a₁,w₁,hq,harr⟩:=h b (.inBlock id::k) cs n0 hg0
 cases e with
 | normal =>
  obtain⟨n1,hn1,hg1⟩:=harr;obtain⟨n2,hn2,hg2⟩:=AA hP (.one step_inBlock) hg1;exact⟨.normal,a₁,w₁,hq,n2,by omega,hg2⟩
 | exit id' =>
  by_cases hid:id'=id
  ·simp only[Exit.inBlock,hid,if_true]at hq;obtain⟨n1,hn1,hg1⟩:=harr k (by simp[exitTo,hid]);exact⟨.normal,a₁,w₁,hq,n1,by omega,hg1⟩
  ·simp only[Exit.inBlock,hid,if_false]at hq;refine⟨.exit id',a₁,w₁,hq,fun k' hk=>?_⟩;have:(id == id')=false:=by simp;exact fun h=>hid h.symm
   obtain⟨n1,hn1,hg1⟩:=harr k' (by simp[exitTo,this,hk]);exact⟨n1,by omega,hg1⟩
 | goto l =>
  refine⟨_,a₁,w₁,hq,fun k' hk=>?_⟩;obtain⟨n1,hn1,hg1⟩:=harr k' (by simp[gotoIn,hk]);exact⟨n1,by omega,hg1⟩
 | ret=>obtain⟨t,n1,hn1,hg1⟩:=harr;exact⟨_,a₁,w₁,hq,t,n1,by omega,hg1⟩
 | panic c=>obtain⟨t,n1,hn1,hg1⟩:=harr;exact⟨_,a₁,w₁,hq,t,n1,by omega,hg1⟩
 | outgrown=>exact harr.elim
def Ab1 (P:Program) (M:Machine) (o:Oper) (a:Act) (w:World) (next:Act→World→Prop) (Q:Exit→Act→World→Prop):Prop :=
 (∃ f args w',(execOp a.eval o).run P w=.ok (.enter f args) w'∧Dz P M f args w' fun
   | .returned v,w''=>next (a.put o.dst v) w''
   | .panicked chain,w''=>Q (.panic chain) a w''
   | .outgrown,_=>False)∨o.wp P a w next Q
def MR (P:Program) (M:Machine) (ops:Array Oper) (Q:Exit→Act→World→Prop):List Nat→Act→World→Prop
 | [],a,w=>Q .normal a w
 | i::rest,a,w =>
  match ops[i]? with
  | none=>MR P M ops Q rest a w
  | some o =>
   if Region.wanted o (yielded ops a.tmps) then Ab1 P M o a w (MR P M ops Q rest) Q
   else MR P M ops Q rest (a.put o.dst undef) w
theorem Xl (hP:EK P) {ops:Array Oper}(hno:Je Q) (l:List Nat):∀ (a:Act) (w:World),MR P M ops Q l a w→∀ (b:Frame) (k:List Item) (cs:List Frame) (n:Nat),IM P M n (G (b.at a (.inRegion ops l::k)) cs) w →
  ∃ e a' w',Q e a' w'∧Yx P M n b k cs e a' w':=by
 induction l with
 | nil=>exact fun a w h b k cs n hg=>⟨.normal,a,w,h,AA hP (.one step_region_end) hg⟩
 | cons i rest ih =>
  intro a w h b k cs n hg;simp only[MR]at h
  cases ho:ops[i]? with
  | none =>
   simp only[ho]at h;have hs:=step_op_skip (P:=P) (b:=b) (a:=a) (k:=k) (cs:=cs) (w:=w) (ops:=ops) (i:=i) (rest:=rest) (by simp[ho]);simp only[ho,Option.bind_none,Act.put]at hs;obtain⟨n0,hn0,hg0⟩:=AA hP (.one hs) hg;obtain⟨e,a',w',q,r⟩:=ih a w h b k cs n0 hg0;exact⟨e,a',w',q,r.later hn0⟩
  | some o =>
   simp only[ho]at h
   by_cases hw:Region.wanted o (yielded ops a.tmps)=true
   ·simp only[hw,if_true]at h;have hgop:=stepG_op (P:=P) (b:=b) (k:=k) (cs:=cs) (w:=w) (rest:=rest) ho hw
    have hfin:∀ v,(b.at a (.inRegion ops (i::rest)::k)).finish v=b.at (a.put o.dst v) (.inRegion ops rest::k):=by
     intro v;rw[Frame.finish_at,ho];rfl
    have enter:∀ f args w',(execOp a.eval o).run P w=.ok (.enter f args) w'→Dz P M f args w' (fun
      | .returned v,w''=>MR P M ops Q rest (a.put o.dst v) w''
      | .panicked chain,w''=>Q (.panic chain) a w''
      | .outgrown,_=>False)→∃ e a' w',Q e a' w'∧Yx P M n b k cs e a' w':=by
     intro f args w' hr hc
     have henter:step P (lone (b.at a (.inRegion ops (i::rest)::k)) cs w)=.next (lone (Frame.enter P f args .normal) (b.at a (.inRegion ops (i::rest)::k)::cs) w') :=
      step_lone_go (by rw[hgop];simp[stepG.apply,hr,Frame.at])
     obtain⟨n0,hn0,hg0⟩:=AA hP (.one henter) hg;obtain⟨e,w'',fr,n1,hn1,hR,hg1,_,hleave,_⟩:=hc (b.at a (.inRegion ops (i::rest)::k)::cs) n0 hg0
     cases e with
     | returned v =>
      have hl:=step_leave_returned (c:=b.at a (.inRegion ops (i::rest)::k)) (cs:=cs) hleave;rw[hfin]at hl;obtain⟨n2,hn2,hg2⟩:=AA hP (.one hl) hg1;obtain⟨e,a',w3,q,r⟩:=ih _ _ hR b k cs n2 hg2;exact⟨e,a',w3,q,r.later (by omega)⟩
     | panicked chain =>
      have hl:=step_leave_panicked (c:=b.at a (.inRegion ops (i::rest)::k)) (cs:=cs) hleave;rw[Frame.raise_at]at hl;obtain⟨n2,hn2,hg2⟩:=AA hP (.one hl) hg1;exact⟨.panic chain,a,w'',hR,.inRegion ops (i::rest)::k,n2,by omega,hg2⟩
     | outgrown=>exact hR.elim
    rcases h with ⟨f,args,w',hr,hc⟩|h
    ·exact enter f args w' hr hc
    simp only[Oper.wp,Oper.upon]at h
    split at h
    ·rename_i v w' hr
     obtain⟨n0,hn0,hg0⟩:=AA hP (.one (step_lone_go (fr':=b.at (a.put o.dst v) (.inRegion ops rest::k)) (cs':=cs) (w':=w') (by rw[hgop,← hfin];simp[stepG.apply,hr]))) hg;obtain⟨e,a',w3,q,r⟩:=ih _ _ h b k cs n0 hg0;exact⟨e,a',w3,q,r.later hn0⟩
    ·rename_i w' hr
     obtain⟨n0,hn0,hg0⟩:=AA hP (.one (step_lone_go (fr':=b.at (a.put o.dst undef) (.inRegion ops rest::k)) (cs':=cs) (w':=w') (by rw[hgop,← hfin];simp[stepG.apply,hr]))) hg;obtain⟨e,a',w3,q,r⟩:=ih _ _ h b k cs n0 hg0;exact⟨e,a',w3,q,r.later hn0⟩
    ·rename_i d w' hr
     have hfd:({ b.at a (.inRegion ops (i::rest)::k) with defers:=d::a.defers }:Frame).finish undef=b.at ({ a with defers:=d::a.defers }.put o.dst undef) (.inRegion ops rest::k):=by
      have:=Frame.finish_at b { a with defers:=d::a.defers } ops i rest k undef;rw[ho]at this;exact this
     obtain⟨n0,hn0,hg0⟩:=AA hP (.one (step_lone_go (fr':=b.at ({ a with defers:=d::a.defers }.put o.dst undef) (.inRegion ops rest::k)) (cs':=cs) (w':=w') (by
      rw[hgop];simp only[stepG.apply,Sem.runT_eq,hr,GStep.bare_after];exact congrArg (fun fr=>GStep.go { frame:=fr,callers:=cs,status:=.running,dying:=none } w') hfd))) hg
     obtain⟨e,a',w3,q,r⟩:=ih _ _ h b k cs n0 hg0;exact⟨e,a',w3,q,r.later hn0⟩
    ·rename_i f args w' hr
     refine enter f args w' hr ((Dz.of hP (h.mono (R':=fun
      | .returned v,w''=>MR P M ops Q rest (a.put o.dst v) w''
      | .panicked chain,w''=>Q (.panic chain) a w''
      | .outgrown,_=>LetsOut Q) fun e w' h=>by cases e<;>exact h) fun w' ⟨a,w,hx⟩=>hno a w hx).mono fun e w' h=>?_)
     cases e with
     | outgrown=>obtain⟨a,w,hx⟩:=h;exact hno a w hx
     | _=>exact h
    ·rename_i row args w' hr
     obtain⟨v,w'',hR,hsteps⟩:=h (b.at a (.inRegion ops (i::rest)::k)) cs
     have henter:step P (lone (b.at a (.inRegion ops (i::rest)::k)) cs w)=.next (lone (Frame.ofRow P row args .normal) (b.at a (.inRegion ops (i::rest)::k)::cs) w') :=
      step_lone_go (by rw[hgop];simp[stepG.apply,hr,Frame.at])
     rw[hfin]at hsteps;obtain⟨n0,hn0,hg0⟩:=AA hP (.head henter hsteps) hg;obtain⟨e,a',w3,q,r⟩:=ih _ _ hR b k cs n0 hg0;exact⟨e,a',w3,q,r.later hn0⟩
    ·rename_i v w' hr
     obtain⟨n0,hn0,hg0⟩:=AA hP (.one (step_lone_go (fr':={ b.at a (.inRegion ops (i::rest)::k) with mode:=.panicking [{ v,recovered:=false }] }) (cs':=cs) (w':=w') (by rw[hgop,← Frame.raise_at];simp[stepG.apply,hr]))) hg;exact⟨_,a,w',h,.inRegion ops (i::rest)::k,n0,hn0,hg0⟩
    ·exact h.elim
   ·simp only[hw,if_false,Bool.false_eq_true]at h;have hs:=step_op_skip (P:=P) (b:=b) (a:=a) (k:=k) (cs:=cs) (w:=w) (ops:=ops) (i:=i) (rest:=rest) (by simp[ho];simpa using hw);simp only[ho,Option.bind_some]at hs;obtain⟨n0,hn0,hg0⟩:=AA hP (.one hs) hg;obtain⟨e,a',w',q,r⟩:=ih _ _ h b k cs n0 hg0;exact⟨e,a',w',q,r.later hn0⟩
theorem Jh (hP:EK P) {id:Nat}{ops:Array Oper}(hno:Je Q) (h:MR P M ops Q (List.range ops.size) a w):wpX P M (.region id ops false) Q a w:=by
 intro b k cs n hg;obtain⟨n0,hn0,hg0⟩:=AA hP (.one step_region) hg;obtain⟨e,a',w',q,r⟩:=Xl hP hno _ a w h b k cs n0 hg0;exact⟨e,a',w',q,r.later hn0⟩
theorem Bj {ops:Array Oper}{i:Nat}{rest:List Nat}{o:Oper}(ho:ops[i]?=some o) (hg:o.guard=none)
  (h:∀ K:Act→World→Prop,(∀ a w,MR P M ops Q rest a w→K a w)→o.wp P a w K Q):MR P M ops Q (i::rest) a w:=by
 rw[MR,ho];simp only[Region.wanted,hg,if_true];exact .inr (h _ fun _ _ h=>h)
theorem Xm {ops:Array Oper}{i:Nat}{rest:List Nat}{o:Oper}{f:FuncId}{args:Array Value}{w':World}(ho:ops[i]?=some o) (hg:o.guard=none) (hr:(execOp a.eval o).run P w=.ok (.enter f args) w') {R:Ending→World→Prop}(hc:Dz P M f args w' R)
  (h:∀ e w'',R e w''→∃ v,e=.returned v∧MR P M ops Q rest (a.put o.dst v) w''):MR P M ops Q (i::rest) a w:=by
 rw[MR,ho];simp only[Region.wanted,hg,if_true];refine .inl ⟨f,args,w',hr,hc.mono fun e w'' hx=>?_⟩;obtain⟨v,rfl,hn⟩:=h e w'' hx;exact hn
theorem Fb {ops:Array Oper}(h:Q .normal a w):MR P M ops Q [] a w:=h
theorem Fh (hP:EK P) {f:FuncId}{fn:Func}{c:Code}{args:Array Value}{R:Ending→World→Prop}(hf:P.funcs[f]?=some fn) (hb:fn.body=some c)
  (h:wpX P M c (bodyPost P fn R) { tmps:=args++Array.replicate (fn.ntmps-args.size) undef,defers:=[] } w) (hno:∀ w,¬ R .outgrown w):Dz P M f args w R:=by
 intro cs n hg
 let b:Frame:={ (default:Frame) with fn:=f,kind:=.normal }
 have henter:Frame.enter P f args .normal=b.at { tmps:=args++Array.replicate (fn.ntmps-args.size) undef,defers:=[] } [.code c]:=by
  simp[Frame.enter,Frame.at,hf,hb,b]
 rw[henter]at hg;obtain⟨e,a',w',hq,harr⟩:=h b [] cs n hg
 cases e with
 | normal =>
  obtain⟨hd,v,hr,hR⟩:=hq;obtain⟨n0,hn0,hg0⟩:=harr;obtain⟨n1,hn1,hg1⟩:=AA hP (.one step_end) hg0;exact⟨.returned v,w',_,n1,by omega,hR,hg1,rfl,⟨rfl,hd,rfl,fn,hf,hr⟩,fun x e=>by subst e;simp⟩
 | ret =>
  obtain⟨hd,v,hr,hR⟩:=hq;obtain⟨todo,n0,hn0,hg0⟩:=harr;exact⟨.returned v,w',_,n0,hn0,hR,hg0,rfl,⟨rfl,hd,rfl,fn,hf,hr⟩,fun x e=>by subst e;simp⟩
 | panic chain =>
  obtain⟨hd,hR⟩:=hq;obtain⟨todo,n0,hn0,hg0⟩:=harr;exact⟨.panicked chain,w',_,n0,hn0,hR,hg0,rfl,⟨rfl,hd,fn,hf⟩,fun x e=>by subst e;simp⟩
 | exit id=>exact hq.elim
 | goto l=>exact hq.elim
 | outgrown=>exact absurd hq (hno _)
end
end
section
open Go Go.Conc
section
variable {P:Program}
theorem good_start {f:FuncId}{args:Array Value}{W:World}:IM P (solo (G (Frame.enter P f args .normal) []) W) 0 (G (Frame.enter P f args .normal) []) (Wq P (solo (G (Frame.enter P f args .normal) []) W) 0 W) :=
 ⟨#[G (Frame.enter P f args .normal) []],W,none,#[],fun _=>0,⟨rfl,rfl,rfl,rfl,leavers_one _ _,⟨0,past_nil⟩,⟨DJ _ _ _,fun c hc=>by cases hc⟩,AP⟩⟩
theorem YQ (hP:EK P) {f:FuncId}{args:Array Value}{W:World}{R:Ending→World→Prop}{Post:Value→World→Prop}(hi:P.inits.idxOf? f=none)
  (h:∀ (M:Machine) (w:World),w.heap=W.heap→w.os=W.os→w.output=W.output→Dz P M f args w R)
  (hR:∀ e w',R e w'→∃ v,e=.returned v∧∀ W':World,W'.heap=w'.heap→W'.os=w'.os→W'.output=w'.output→Post v W') :
  ∃ N last o w' t',runNT P (N+1) (solo (G (Frame.enter P f args .normal) []) W) #[]=(.ended o w',t')∧runN P N (solo (G (Frame.enter P f args .normal) []) W)=.next last∧step P last=.ended o w'∧Conc.Good P Post last o w' t':=by
 obtain⟨e,w',fr,n,_,hr,hg,hfn,hl,_⟩:=h (solo (G (Frame.enter P f args .normal) []) W) (Wq P (solo (G (Frame.enter P f args .normal) []) W) 0 W) rfl rfl rfl [] 0 good_start;obtain⟨v,rfl,hpost⟩:=hR e w' hr;obtain⟨gs,W1,sl,t,q,hb⟩:=hg;obtain⟨n',gs',W',sl',t',q',d,sl'',_,hb',hm⟩:=Beside.pick (g:=G fr []) rfl _ n gs W1 sl t q (Nat.le_refl _) hb;have hsame:=hb'.same hP hm;obtain⟨hmo,hd,hk,fn,hf,hre⟩:=hl;have hlast:(stepG P true (G fr []) w').bare=.ended (.done v) w':=by simp[G,stepG,unwind,doReturn,hmo,hd,hk,hf,hre,hfn ▸ hi]
 cases hx:stepG P true (G fr []) (W'.at d) with
 | ended o W2 es =>
  rw[hx]at hsame;rw[hsame]at hlast;simp only[EZ,GStep.bare,GStep.ended.injEq]at hlast;obtain⟨rfl,hw,_⟩:=hlast;have he:=runT_many_ended (P:=P) (sl:=sl'') (i:=0) hb'.zero (show stepG P (0 == 0) (G fr []) (W'.at d)=_ from hx);have hst:stepT P (crowd gs' W' sl')=_:=(Bi hm).trans he;obtain⟨B,hPast⟩:=hb'.past;have hu:=Nv fr.fn (G fr []).frame.place es;refine⟨n',crowd gs' W' sl',_,W2,t'++MemOp.ofEvents 0 fr.fn (G fr []).frame.place es,?_,?_,?_,v,rfl,hpost W2 (by rw[← hw];rfl) (by rw[← hw];rfl) (by rw[← hw];rfl),fun said=>?_,?_,⟨fun x hx=>?_,rfl⟩,fun j x hx hj=>?_⟩
  ·rw[runNT_add,hb'.run];simp only[runNT,hst]
   rfl
  ·rw[← runNT_fst P n' _ #[],hb'.run]
  ·rw[step,hst]
  ·exact noRace_append (hPast.clean said) hu fun i a ha op hop b hb hc=>(hPast.known i a ha hc.2.1).elim id fun x=>x.1.elim
  ·exact handedOver_app hPast.over fun op hop => .inl (hu op hop)
  ·obtain⟨j,hj⟩:=List.mem_iff_getElem?.1 hx;rw[List.getElem?_drop]at hj;exact⟨_,(hb'.leave.old (1+j) x (by omega) (by simpa[crowd] using hj)).leaves⟩
  ·have hq:=hb'.leave.old j x (by omega) hx;refine⟨q' j,?_⟩;have e:(t'++MemOp.ofEvents 0 fr.fn (G fr []).frame.place es).deaf j (t'++MemOp.ofEvents 0 fr.fn (G fr []).frame.place es).size=Deaf t' j:=Deaf_other t' (g:=j) (g':=0) (by omega) _ hu;rw[e];exact hq.hears _
 | _=>rw[hx]at hsame;rw[hsame]at hlast;simp[EZ,GStep.bare]at hlast
end
end
end Go.Proofs.Ytgdobbcjkiapkaa
