import Derived.Test.YtgdobbcjkiapkaaSv07
namespace Go.Proofs.Ytgdobbcjkiapkaa
set_option maxRecDepth 100000
set_option maxHeartbeats 4000000
set_option linter.unusedSimpArgs false
set_option linter.unusedVariables false
section
open Go Go.Conc
section
variable {P:Program}
theorem DJ (f:FuncId) (x:Array Value) (k:CallKind):AQ (Frame.enter P f x k):=fun it h=>by
 simp only[Frame.enter,List.mem_singleton]at h;subst h;trivial
theorem KI (l:Nat) (f:FuncId) (t:Array Value) (a b:Code) (k:CallKind):AQ (Frame.round l f t a b k):=fun it h=>by
 simp only[Frame.round,List.mem_cons,List.not_mem_nil,or_false]at h;rcases h with rfl|rfl|rfl<;>trivial
theorem NF (x:Array Value) (k:CallKind):AQ (Frame.ofRow P Gx x k):=fun it h=>by
 simp only[Frame.ofRow,List.mem_singleton]at h;subst h;exact rfl
theorem DI {fr:Frame}(h:AQ fr) (c:List PanicEntry):AQ (fr.raise c):=by
 unfold Frame.raise;split<;>exact h
theorem BB {fr:Frame}(h:AQ fr) (v:Value):AQ (fr.finish v):=by
 unfold Frame.finish
 split
 ·rename_i he
  intro it hi;rcases List.mem_cons.1 hi with rfl|hi
  ·trivial
  ·exact h it (by rw[he];exact List.mem_cons_of_mem _ hi)
 ·rename_i he
  intro it hi;rcases List.mem_cons.1 hi with rfl|hi
  ·trivial
  ·exact h it (by rw[he];exact List.mem_cons_of_mem _ hi)
 ·rename_i he
  exact fun it hi=>h it (by rw[he];exact List.mem_cons_of_mem _ hi)
 ·rename_i he
  have hx:=h _ (by rw[he];exact List.mem_cons_self ..);exact False.elim hx
 ·rename_i he
  exact fun it hi=>h it (by rw[he];exact List.mem_cons_of_mem _ hi)
 ·exact h
theorem VA {id:Nat}:∀ {k k':List Item},(∀ it∈k,IE it)→exitTo id k=some k'→∀ it∈k',IE it:=by
 intro k
 induction k with
 | nil=>intro k' _ h;simp[exitTo]at h
 | cons x k ih =>
  intro k' hk h;have hk':∀ it∈k,IE it:=fun it hi=>hk it (List.mem_cons_of_mem _ hi)
  cases x<;>simp only[exitTo]at h<;>try exact ih hk' h
  split at h
  ·cases h;exact hk'
  ·exact ih hk' h
theorem Vz {l:Nat}:∀ {k k':List Item},(∀ it∈k,IE it)→gotoIn l k=some k'→∀ it∈k',IE it:=by
 intro k
 induction k with
 | nil=>intro k' _ h;simp[gotoIn]at h
 | cons x k ih =>
  intro k' hk h;have hk':∀ it∈k,IE it:=fun it hi=>hk it (List.mem_cons_of_mem _ hi)
  cases x<;>simp only[gotoIn]at h<;>try exact ih hk' h
  split at h
  ·cases h
   intro it hi;rcases List.mem_cons.1 hi with rfl|hi
   ·trivial
   ·exact hk it hi
  ·exact ih hk' h
theorem CY {fr:Frame}{cs:List Frame}{s:GoStatus}{d:Option Dying}{o:Option (Array CommCase×CommShape)}(h:AQ fr) (hc:∀ c∈cs,AQ c) :
  DR { frame:=fr,callers:=cs,status:=s,dying:=d,offers:=o }:=⟨h,hc⟩
theorem LP {fr:Frame}{cs:List Frame}(h:AQ fr) (hc:∀ c∈cs,AQ c):∀ c∈fr::cs,AQ c:=fun c hx=>by
 rcases List.mem_cons.1 hx with rfl|hx
 ·exact h
 ·exact hc c hx
theorem Jl:∀ {cs cs':List Frame}{v:Value}{fr:Frame},(∀ c∈cs,AQ c)→tryRecover fr cs=some (v,cs')→∀ c∈cs',AQ c:=by
 intro cs
 induction cs with
 | nil =>
  intro cs' v fr _ h;unfold tryRecover at h
  split at h<;>simp_all
 | cons c cs ih =>
  intro cs' v fr hc h;have hc':∀ x∈cs,AQ x:=fun x hx=>hc x (List.mem_cons_of_mem _ hx)
  have h0:AQ c:=hc c (List.mem_cons_self ..);unfold tryRecover at h
  split at h
  ·rename_i heq
   cases heq
   split at h
   ·cases h;exact LP h0 hc'
   ·cases h
  ·rename_i heq
   cases heq
   obtain⟨⟨v',r⟩,hr,e⟩:=Option.map_eq_some_iff.1 h
   cases e
   exact LP h0 (ih hc' hr)
  ·cases h
theorem Ou:∀ {cs cs':List Frame}{v:Value}{l:Nat},(∀ c∈cs,AQ c)→tryRecoverLoop l cs=some (v,cs')→∀ c∈cs',AQ c:=by
 intro cs
 induction cs with
 | nil=>intro cs' v l _ h;simp[tryRecoverLoop]at h
 | cons c cs ih =>
  intro cs' v l hc h;have hc':∀ x∈cs,AQ x:=fun x hx=>hc x (List.mem_cons_of_mem _ hx)
  have h0:AQ c:=hc c (List.mem_cons_self ..);unfold tryRecoverLoop at h;obtain⟨⟨v',r⟩,hr,e⟩:=Option.map_eq_some_iff.1 h
  cases e
  refine LP h0 ?_
  split at hr
  ·exact ih hc' hr
  ·split at hr
   ·exact Jl (fr:=c) hc' hr
   ·exact ih hc' hr
  ·exact ih hc' hr
theorem AP:Ea .running:=fun t e=>by cases e
theorem D9:Ea .blocked:=fun t e=>by cases e
theorem IR:Ea .waiting:=fun t e=>by cases e
theorem FX:Ea .finished:=fun t e=>by cases e
theorem Ag.G6 {fr:Frame}{cs:List Frame}{d:Option Dying}(h:AQ fr) (hc:∀ c∈cs,AQ c):Ag (fun w => .go { frame:=fr,callers:=cs,status:=.running,dying:=d } w):=Ag.go (CY h hc) AP
theorem Gt {fr:Frame}(h:AQ fr) (m:String):Ag (fun w=>endThrow fr m w):=Ag.G6 h (by simp)
theorem Ag.Aba {F:World→GStep}(h:Ag F) (p:Outcome→Bool):Ag (fun w=>match F w with | .ended o w' es => .ended o (if p o then w else w') es|s=>s):=by
 refine⟨fun w=>?_,fun w=>?_,fun w τ d c hd hT hend=>?_⟩
 ·have:=h.ok w
  cases hF:F w<;>rw[hF]at this<;>first|exact this|trivial
 ·have:=h.drew w
  cases hF:F w<;>rw[hF]at this<;>dsimp only<;>first|exact this|skip
  show Ib w (if _ then w else _)
  split
  ·exact Ib.refl w
  ·exact this
 ·have key:EW τ d c w.tape (stepW (F w)).drawn∧(CW (F w)→∀ D,EW τ d c w.tape D):=by
   cases hF:F w<;>rw[hF]at hT hend<;>dsimp only at hT hend<;>first|exact⟨hT,hend⟩|exact⟨hend trivial _,fun _=>hend trivial⟩
  have:=h.same w τ d c hd key.1 key.2;rw[this]
  cases F w<;>dsimp only[EZ]
  split<;>rfl
theorem QF {fr:Frame}(h:AQ fr) (a:List ByteArray) (m:String) (x:Bool):Ag (fun w=>dieOf fr a m x w):=Ag.G6 h (by simp)
theorem IV {fr:Frame}(h:AQ fr) (v:Value):Ag (fun w=>endPrinting P fr v w):=by
 unfold endPrinting
 dsimp only
 split
 ·exact Gt h _
 ·exact Ag.ended _
theorem Ag.Acb {α:Type}{s:Sem α}(hs:Cal P s) (F:Result α→GStep) (hok:∀ a,Ag (fun w=>F (.ok a w))) (hhalt:∀ h,Ag (fun w=>F (.halt h w)))
  (hU:∀ u w,(∀ g,u ≠ .initOrder g)→CW (F (.halt (.unsupported u) w))):Ag (fun w=>F (s.run P w)):=by
 have:=Ag.run hs.out (fun _ _=>#[]) F (fun a _=>hok a) hhalt hU (fun _ _ _ _ _=>rfl) (fun _ _ _=>rfl);refine⟨fun w=>?_,fun w=>?_,fun w τ d c hd hT hend=>?_⟩
 ·have h:=this.ok w;simp only[Sem.runT_eq]at h
  cases hF:F (s.run P w)<;>rw[hF]at h<;>first|(simp[GStep.after,Lu,CW]at h;done)|(simp[GStep.after,Lu,CW];done)|simpa[GStep.after,Lu,CW] using h
 ·have h:=this.drew w;simp only[Sem.runT_eq,FB]at h;exact h
 ·have h:=this.same w τ d c hd (by simpa only [Sem.runT_eq,FB] using hT) (by simpa only [Sem.runT_eq,Gh] using hend);simp only[Sem.runT_eq,Ih]at h;generalize F (s.run P (re τ d c w))=x at h ⊢;generalize F (s.run P w)=y at h ⊢
  cases x<;>cases y<;>simp only[GStep.after,EZ,Array.empty_append]at h ⊢<;>first|exact h|exact absurd h (by simp)
theorem Ag.congr {F G:World→GStep}(h:Ag F) (e:∀ w,G w=F w):Ag G:=by
 have:G=F:=funext e;rw[this];exact h
theorem Ag.YR {α:Type}{K:α→Prop}{s:Sem α}{G:World→GStep}{H:Result α→Array Event→GStep}(hG:∀ w r es,s.runT P w #[]=(r,es)→G w=H r es) (hs:calm P K s 0)
  (hok:∀ a es,K a→Dx es→deafBehind 0 es=0→Ag (fun w=>H (.ok a w) es)) (hhalt:∀ h es,Dx es→Gl h∨deafBehind 0 es=0→Ag (fun w=>H (.halt h w) es))
  (hU:∀ u w es,(∀ g,u ≠ .initOrder g)→CW (H (.halt (.unsupported u) w) es)):Ag G:=by
 have hm:∀ w,Dx (s.runT P w #[]).2:=fun w=>QL w #[] (fun e he=>by simp at he)
 have hc:∀ w,Jf K (s.runT P w #[]):=fun w=>Qh hs w #[] rfl
 have hr:∀ w,(s.runT P w #[]).1=s.run P w:=fun w=>by rw[Sem.runT_eq]
 have key:∀ w,∃ L:World→GStep,Ag L∧G w=L (YY (s.run P w))∧(∀ f:World→World,H (Nq f (s.run P w)) (s.runT P w #[]).2=L (f (YY (s.run P w))))∧Ib w (YY (s.run P w)):=fun w=>by
  have h1:=hG w _ _ rfl;have h2:=hc w;have h3:=Jk P (s:=s) w;unfold Jf at h2;rw[hr]at h1 h2
  cases hx:s.run P w with
  | ok a w' =>
   rw[hx]at h1 h2 h3;exact⟨fun w=>H (.ok a w) _,hok a _ h2.1 (hm w) h2.2,h1,fun f=>rfl,h3⟩
  | halt h w' =>
   rw[hx]at h1 h2 h3;exact⟨fun w=>H (.halt h w) _,hhalt h _ (hm w) h2,h1,fun f=>rfl,h3⟩
 refine⟨fun w=>?_,fun w=>?_,fun w τ d c hd hT hend=>?_⟩
 ·obtain⟨L,hL,e,_,_⟩:=key w;rw[e];exact hL.ok _
 ·obtain⟨L,hL,e,_,hd⟩:=key w;rw[e];exact hd.trans (hL.drew _)
 ·obtain⟨L,hL,e,em,hdw⟩:=key w;rw[e]at hT hend ⊢
  have hre:=SX (τ:=τ) (d:=d) (c:=c) hs w #[] hd (hT.mono (hL.drew _).le) (fun u w' hu hn=>hend (by
   have h1:=hG w _ _ rfl;rw[← e,h1,hr,hu];exact hU u w' _ hn))
  have h1:=hG (re τ d c w) (Nq (re τ d c) (s.runT P w #[]).1) (s.runT P w #[]).2 hre;rw[h1,hr,em];exact hL.same _ τ d c (Nat.le_trans hd hdw.le) (by rw[hdw.tape];exact hT) (by rw[hdw.tape];exact hend)
theorem Ag.after {F:World→GStep}(hF:Ag F) {es:Array Event}(he:∀ w,¬ CW (F w)→deafBehind 0 es=0):Ag (fun w=>GStep.after es (F w)):=by
 refine⟨fun w=>L9 (hF.ok w) (he w),fun w=>by rw[FB];exact hF.drew w,fun w τ d c hd hT hend=>?_⟩;rw[FB]at hT;rw[Gh]at hend;rw[Ih,hF.same w τ d c hd hT hend]
theorem Ag.G7 {F:World→GStep}(hF:Ag F) {es:Array Event}(hm:Dx es) (he:deafBehind 0 es=0) (fn:FuncId):Ag (fun w=>GStep.after (seen P fn es) (F w)) :=
 hF.after fun _ _=>by rw[Gn fn es hm];exact he
theorem Ag.Uj {F:World→GStep}(hF:Ag F) (fn:FuncId):Ag (fun w=>GStep.after (seen P fn #[]) (F w)) :=
 hF.after fun _ _=>rfl
theorem Ag.KQ (es:Array Event) (o:Outcome):Ag (fun w=>GStep.after es (.ended o w)):=(Ag.ended o).after fun _ h=>absurd trivial h
theorem Ag.AbL {α:Type}{s:Sem α}{G:World→GStep}{F:Result α→GStep}(hs:Cal P s) (hG:∀ w r,s.run P w=r→G w=F r) (hok:∀ a,Ag (fun w=>F (.ok a w))) (hhalt:∀ h,Ag (fun w=>F (.halt h w)))
  (hU:∀ u w,(∀ g,u ≠ .initOrder g)→CW (F (.halt (.unsupported u) w))):Ag G :=
 (Ag.Acb hs F hok hhalt hU).congr fun w=>hG w _ rfl
theorem I9:∀ (l:List PanicEntry) (b:Bool),Cal P (reportChain l b)
 | [],b=>by unfold reportChain;infer_instance
 | e::l,b=>by
  have ih:∀ b,Cal P (reportChain l b):=I9 l;unfold reportChain
  repeat' (first|infer_instance|(refine Cal.bind ?_ (fun _=>?_))|(refine Cal.ite ?_ ?_)|split|(intro _)|dsimp only)
instance (l:List PanicEntry) (b:Bool):Cal P (reportChain l b):=I9 l b
instance (s:ByteArray):Cal P (withAddress s):=by unfold withAddress;infer_instance
theorem Mc {fr:Frame}{cs:List Frame}(h:AQ fr) (d:Option Dying) (m:String):Ag (fun w=>endFatal P fr cs d m w):=by
 unfold endFatal
 dsimp only
 apply Ag.AbL
 case hG=>intro w r hr;rw[hr]
 case hs=>repeat' (first|infer_instance|(refine Cal.bind ?_ (fun _=>?_))|(refine Cal.ite ?_ ?_)|(refine Cal.P8 (fun _=>?_) _)|split|(intro _)|dsimp only)
 case hok=>exact fun a=>QF h _ _ _
 case hhalt=>intro x;cases x<;>exact Ag.ended _
 case hU=>exact fun u w _=>trivial
theorem Oo (fd:Nat) (t:ByteArray) (o:Outcome):Ag (fun w=>endWith w fd t o):=by
 obtain⟨O,e⟩:∃ O:SysRet→Outcome,∀ w:World,endWith w fd t o=.ended (O (w.sys (.write fd t)).1) (w.sys (.write fd t)).2:=by
  refine⟨fun r=>match r with
   | .int n=>if n == t.size && t.size≤65536 then o else .unsupported (.noEntry (if t.size > 65536 then "a report of more than 65536 bytes" else "a report that its descriptor cannot take whole")) ""
   | .err _=>o
   | _ => .unsupported (.noEntry (if t.size > 65536 then "a report of more than 65536 bytes" else "a report that its descriptor cannot take whole")) "",fun w=>?_⟩
  unfold endWith
  dsimp only
  cases w.sys (.write fd t) with
  | mk r w'=>cases r<;>dsimp only<;>first|rfl|(split<;>rfl)
 refine⟨fun w=>by rw[e];trivial,fun w=>by rw[e];exact PL _ _,fun w τ d c hd hT hend=>?_⟩;have hall:=hend (by rw[e];trivial);have hs:=Z8 (τ:=τ) (c:=c) w (.write fd t) hd (hall _) (fun _=>hall);rw[e,e,hs]
 rfl
theorem Om {fr:Frame}(h:AQ fr) (d:Dying) (f:Fatal):Ag (fun w=>writeOn P fr d f w):=by
 cases hp:f.pieces with
 | nil=>exact(Ag.ended (.fatal f.text)).congr (fun w=>by unfold writeOn;dsimp only;rw[hp])
 | cons piece rest =>
  have hw:∀ b:Bool,calm P (fun _:Unit=>True) (do
    if b then
     mark .disable
     if ← Extern.PrintPieces.held then .halt .blocked
     if f.whole then store (printLock (← program)) (.bool true) .atomic
     mark .enable
    if piece.size > 65536 then unsupported (.noEntry "a report of more than 65536 bytes")
    match ← sys (.write 2 piece) with
    | .int n=>if n != piece.size then unsupported (.noEntry "a report that its descriptor cannot take whole")
    | .err _=>pure ()
    | _=>unsupported (.noEntry "a report that its descriptor cannot take whole")) 0:=by
   intro b
   have tail:calm P (fun _:Unit=>True) (do
    if piece.size > 65536 then unsupported (.noEntry "a report of more than 65536 bytes")
    match ← sys (.write 2 piece) with
    | .int n=>if n != piece.size then unsupported (.noEntry "a report that its descriptor cannot take whole")
    | .err _=>pure ()
    | _=>unsupported (.noEntry "a report that its descriptor cannot take whole")) 0:=by
    by_cases hs:piece.size > 65536
    ·simp only[hs,if_true];exact .inl rfl
    ·simp only[hs,if_false];refine⟨fun r=>?_,.inr ⟨_,rfl,fun g e=>by cases e⟩⟩
     cases r<;>first
      | exact⟨rfl,trivial⟩
      | exact .inl rfl
      | (show calm P _ (if _ then _ else _) 0;split<;>first|exact .inl rfl|exact⟨rfl,trivial⟩)
   cases b
   ·exact tail
   ·refine fun v=>?_
    cases v<;>first|exact .inr trivial|skip
    rename_i q
    cases q
    ·cases hwh:f.whole
     ·exact tail
     ·exact tail
    ·exact .inr trivial
  unfold writeOn;rw[hp]
  dsimp only
  apply Ag.YR (K:=fun _:Unit=>True)
  case hG=>intro w r es hr;rw[hr]
  case hs=>exact hw (!(f.whole && f.begun))
  case hok=>exact fun a es _ _ he=>Ag.goE (CY h (fun c hx=>by cases hx)) AP he
  case hhalt=>intro x es _ _;cases x<;>first|exact Ag.ended _|exact Ag.goE (CY h (fun c hx=>by cases hx)) D9 rfl
  case hU=>exact fun u w es _=>trivial
def NL (P:Program) (fr:Frame) (d:Dying) (mk:String) (v:Value):Result Next→GStep
 | .ok (.enter f args) w => .go { frame:=Frame.enter P f args .report,callers:=[],status:=.running,dying:=some { d with calling:=true,hand:=some v } } w
 | .ok (.value (.string s)) w => .go { frame:=fr,callers:=[],status:=.running,dying:=some { d with texts:=(s,mk)::d.texts } } w
 | .halt (.unsupported u) w => .ended (.unsupported u "the report of an uncaught panic") w
 | .halt (.panic v) w=>endPrinting P fr v w
 | .ok _ w | .halt _ w => .ended (.stuck "report: Error or String returned no string" "") w
theorem U0 (hP:EK P) {fr:Frame}(h:AQ fr) (d:Dying):Ag (fun w=>die P fr d w):=by
 obtain⟨todo,texts,calling,pending,rte,hand,fatal⟩:=d
 cases fatal with
 | some f=>exact Om h _ f
 | none =>
  cases todo with
  | nil =>
   have s1:Ag (fun w:World=>(.go { frame:=fr,callers:=[],status:=.blocked,dying:=some ⟨[],texts,calling,pending,rte,hand,none⟩ } w:GStep)):=Ag.go (CY h (by simp)) D9;have s2:=Oo 2 (panicReport texts) (.panic rte);have e:∀ w,die P fr ⟨[],texts,calling,pending,rte,hand,none⟩ w=if printLockHeld P w then .go { frame:=fr,callers:=[],status:=.blocked,dying:=some ⟨[],texts,calling,pending,rte,hand,none⟩ } w else endWith w 2 (panicReport texts) (.panic rte):=fun w=>rfl
   have er:∀ (w:World) (τ:Nat→Question→Nat) (d c:Nat),printLockHeld P (re τ d c w)=printLockHeld P w:=fun _ _ _ _=>rfl
   refine⟨fun w=>?_,fun w=>?_,fun w τ d' c hd hT hend=>?_⟩
   ·rw[e];split
    ·exact s1.ok w
    ·exact s2.ok w
   ·rw[e];split
    ·exact s1.drew w
    ·exact s2.drew w
   ·rw[e,e,er];rw[e]at hT hend
    split
    ·rfl
    ·rename_i hh
     rw[if_neg hh]at hT hend;exact s2.same w τ d' c hd hT hend
  | cons x rest =>
   obtain⟨v,mk⟩:=x;unfold die
   dsimp only
   cases panicText P false v with
   | text s=>exact Ag.G6 h (fun c hx=>by cases hx)
   | address s =>
    apply Ag.AbL (P:=P)
    case hG=>intro w r hr;dsimp only;rw[hr]
    case hs=>infer_instance
    case hok=>exact fun a=>Ag.G6 h (fun c hx=>by cases hx)
    case hhalt=>exact fun x=>Ag.ended _
    case hU=>exact fun u w _=>trivial
   | no u=>exact Ag.ended _
   | call t recv name =>
    dsimp only
    have:=Ag.Aba (F:=fun w=>GStep.after (seen P fr.fn ((invoke (.fn (.method name) #[]) #[.iface t recv]).runT P w #[]).2) (NL P fr ⟨rest,texts,calling,mk,rte,hand,none⟩ mk v ((invoke (.fn (.method name) #[]) #[.iface t recv]).runT P w #[]).1)) ?_ (fun o=>match o with | .stuck s _=>s == "report: Error or String returned no string" | _=>false)
    ·refine this.congr (fun w=>?_);generalize Sem.runT P _ w #[]=y;obtain⟨r,es⟩:=y
     dsimp only
     cases r with
     | ok a w' =>
      cases a<;>dsimp only[NL,GStep.after]<;>first|rfl|skip
      rename_i v
      cases v<;>dsimp only[GStep.after]<;>rfl
     | halt x w' =>
      cases x<;>dsimp only[NL,GStep.after]<;>first|rfl|skip
      rename_i v'
      have hp:(∃ g,endPrinting P fr v' w'=.go g w')∨∃ u,endPrinting P fr v' w'=.ended (.unsupported u "") w':=by
       unfold endPrinting
       dsimp only
       split
       ·exact .inl ⟨_,rfl⟩
       ·exact .inr ⟨_,rfl⟩
      rcases hp with ⟨g,hp⟩|⟨u,hp⟩<;>rw[hp]<;>rfl
    ·apply Ag.YR (K:=EF)
     case hG=>intro w r es hr;rw[hr]
     case hs=>exact Iw hP _ _
     case hok =>
      intro a es ha hm he;refine Ag.G7 ?_ hm he _;clear ha
      cases a<;>dsimp only[NL]<;>first|exact Ag.G6 (DJ _ _ _) (fun c hx=>by cases hx)|exact Ag.ended _|skip
      rename_i v
      cases v<;>first|exact Ag.G6 h (fun c hx=>by cases hx)|exact Ag.ended _
     case hhalt =>
      intro x es hm he
      cases x<;>dsimp only[NL]<;>first
       | exact Ag.KQ _ _
       | exact Ag.G7 (IV h _) hm (he.elim (fun y=>y.elim) id) _
     case hU=>exact fun u w es _=>trivial
theorem Us (w:World) (τ:Nat→Question→Nat) (d c:Nat):∀ (n:Nat) (f:FuncId),P.found (re τ d c w) n f=P.found w n f
 | 0,f=>rfl
 | n+1,f=>by
  have ih:=Us w τ d c n;unfold Program.found;have h1:∀ h:Nat,(re τ d c w).heap[h]?=w.heap[h]?:=fun _=>rfl
  have h2:(re τ d c w).shape?=w.shape?:=rfl;simp only[ih,h1,h2]
theorem Pm (w:World) (τ:Nat→Question→Nat) (d c:Nat):∀ (n:Nat) (a b:List FuncId),P.brought (re τ d c w) n a b=P.brought w n a b
 | 0,a,b=>rfl
 | n+1,[],b=>rfl
 | n+1,f::a,b=>by
  have ih:=Pm w τ d c n;unfold Program.brought;have h1:∀ h:Nat,(re τ d c w).heap[h]?=w.heap[h]?:=fun _=>rfl
  simp only[ih,h1]
theorem Ag.ite {F G:World→GStep}(c:World→Bool) (hc:∀ (w:World) (τ:Nat→Question→Nat) (d k:Nat),c (re τ d k w)=c w) (hF:Ag F) (hG:Ag G):Ag (fun w=>if c w=true then F w else G w):=by
 refine⟨fun w=>?_,fun w=>?_,fun w τ d k hd hT hend=>?_⟩
 ·split
  ·exact hF.ok w
  ·exact hG.ok w
 ·split
  ·exact hF.drew w
  ·exact hG.drew w
 ·rw[hc]
  split
  ·rename_i h;rw[if_pos h]at hT hend;exact hF.same w τ d k hd hT hend
  ·rename_i h;rw[if_neg h]at hT hend;exact hG.same w τ d k hd hT hend
theorem QE {fr:Frame}{cs:List Frame}(h:AQ fr) (hc:∀ c∈cs,AQ c) (dy:Option Dying) (g:Nat):Ag (fun w=>early P fr cs dy g w):=by
 have notYet:Ag (fun w=>match w.heap[g]? with
  | some (.pending c elem) => .go { frame:=fr,callers:=cs,status:=.running,dying:=dy } { w with heap:=w.heap.setIfInBounds g (.cells c elem) }
  | _ => .ended (.stuck "early: the variable does not wait" (fr.pos P)) w):=by
  refine⟨fun w=>?_,fun w=>?_,fun w τ d c hd hT hend=>?_⟩
  ·split
   ·exact⟨CY h hc,AP,rfl⟩
   ·trivial
  ·split
   ·exact⟨Nat.le_refl _,rfl⟩
   ·exact Ib.refl w
  ·have h1:(re τ d c w).heap[g]?=w.heap[g]?:=rfl;rw[h1]
   split<;>rfl
 have there:∀ (ahead:World→List Frame),(∀ w,∀ c∈ahead w,AQ c)→(∀ (w:World) (τ:Nat→Question→Nat) (d k:Nat),ahead (re τ d k w)=ahead w)→∀ f,Ag (fun w =>
   (.go { frame:=Frame.enter P f #[] .early,callers:=ahead w++fr::cs,status:=.running,dying:=dy } w:GStep)):=by
  intro ahead ha hr f;refine⟨fun w=>⟨⟨DJ _ _ _,fun c hx=>?_⟩,AP,rfl⟩,fun w=>Ib.refl w,fun w τ d c hd hT hend=>?_⟩
  ·rcases List.mem_append.1 hx with hx|hx
   ·exact ha w c hx
   ·exact LP h hc c hx
  ·rw[hr];rfl
 have there':∀ f,Ag (fun w=>(.go { frame:=Frame.enter P f #[] .early,callers:=(if (P.code? f).any P.plainData then (P.brought w (2*P.funcs.size+1) [f] []).drop 1 else []).map (Frame.enter P · #[] .early)++fr::cs,status:=.running,dying:=dy } w:GStep)):=fun f=>by
  refine there (fun w=>(if (P.code? f).any P.plainData then (P.brought w (2*P.funcs.size+1) [f] []).drop 1 else []).map (Frame.enter P · #[] .early)) (fun w c hx=>?_) (fun w τ d k=>?_) f
  ·obtain⟨x,_,rfl⟩:=List.mem_map.1 hx;exact DJ _ _ _
  ·simp only[Pm]
 unfold early
 dsimp only
 split
 ·exact notYet
 ·cases P.stepOf g with
  | none=>exact Ag.ended _
  | some f =>
   dsimp only
   split
   ·exact notYet
   ·refine Ag.ite (fun w=>(((P.code? f).bind fun c=>(readies c).getLast?).bind w.shape?).isSome) (fun _ _ _ _=>rfl) notYet ?_
    have key:∀ x:Found,Ag (fun w:World=>(match x,fr.kind == .early with
      | .unknown,_ => .ended (.unsupported (.initOrder g) (fr.pos P)) w
      | .either,true => .go { frame:=Frame.enter P f #[] .early,callers:=(if (P.code? f).any P.plainData then (P.brought w (2*P.funcs.size+1) [f] []).drop 1 else []).map (Frame.enter P · #[] .early)++fr::cs,status:=.running,dying:=dy } w
      | .notYet,true => .ended (.unsupported (.initOrder g) (fr.pos P)) w
      | .notYet,false=>match w.heap[g]? with
       | some (.pending c elem) => .go { frame:=fr,callers:=cs,status:=.running,dying:=dy } { w with heap:=w.heap.setIfInBounds g (.cells c elem) }
       | _ => .ended (.stuck "early: the variable does not wait" (fr.pos P)) w
      | .either,false =>
       if (P.code? f).any P.plainData then .go { frame:=Frame.enter P f #[] .early,callers:=(if (P.code? f).any P.plainData then (P.brought w (2*P.funcs.size+1) [f] []).drop 1 else []).map (Frame.enter P · #[] .early)++fr::cs,status:=.running,dying:=dy } w else
       if !(P.code? f).any P.bareCopy then match w.heap[g]? with
        | some (.pending c elem) => .go { frame:=fr,callers:=cs,status:=.running,dying:=dy } { w with heap:=w.heap.setIfInBounds g (.cells c elem) }
        | _ => .ended (.stuck "early: the variable does not wait" (fr.pos P)) w else
       match (choose (.early g)).run P w with
       | .ok 0 w=>match w.heap[g]? with
        | some (.pending c elem) => .go { frame:=fr,callers:=cs,status:=.running,dying:=dy } { w with heap:=w.heap.setIfInBounds g (.cells c elem) }
        | _ => .ended (.stuck "early: the variable does not wait" (fr.pos P)) w
       | .ok _ w => .go { frame:=Frame.enter P f #[] .early,callers:=(if (P.code? f).any P.plainData then (P.brought w (2*P.funcs.size+1) [f] []).drop 1 else []).map (Frame.enter P · #[] .early)++fr::cs,status:=.running,dying:=dy } w
       | .halt _ w => .ended (.stuck "early" (fr.pos P)) w:GStep)):=by
     intro x
     cases x<;>cases fr.kind == .early<;>dsimp only<;>first
      | exact Ag.ended _
      | exact notYet
      | exact there' f
      | skip
     refine Ag.ite (fun _=>(P.code? f).any P.plainData) (fun _ _ _ _=>rfl) (there' f) ?_;refine Ag.ite (fun _ => !(P.code? f).any P.bareCopy) (fun _ _ _ _=>rfl) notYet ?_
     ·refine Ag.Acb (P:=P) (s:=choose (.early g)) (F:=fun r=>match r with
        | .ok 0 w=>match w.heap[g]? with
         | some (.pending c elem) => .go { frame:=fr,callers:=cs,status:=.running,dying:=dy } { w with heap:=w.heap.setIfInBounds g (.cells c elem) }
         | _ => .ended (.stuck "early: the variable does not wait" (fr.pos P)) w
        | .ok _ w => .go { frame:=Frame.enter P f #[] .early,callers:=(if (P.code? f).any P.plainData then (P.brought w (2*P.funcs.size+1) [f] []).drop 1 else []).map (Frame.enter P · #[] .early)++fr::cs,status:=.running,dying:=dy } w
        | .halt _ w => .ended (.stuck "early" (fr.pos P)) w) inferInstance (fun a=>?_) (fun x=>Ag.ended _) (fun u w _=>trivial)
      cases a with
      | zero=>exact notYet
      | succ a=>exact there' f
    refine⟨fun w=>(key (P.found w P.funcs.size f)).ok w,fun w=>(key (P.found w P.funcs.size f)).drew w,fun w τ d c hd hT hend=>?_⟩;rw[Us];exact(key (P.found w P.funcs.size f)).same w τ d c hd hT hend
theorem Ii {fr:Frame}{cs:List Frame}(h:AQ fr) (hc:∀ c∈cs,AQ c) (main:Bool) (dy:Option Dying) (v:Value):Ag (fun w=>doReturn P main fr cs dy v w):=by
 cases cs with
 | cons c rest =>
  have h0:AQ c:=hc c (List.mem_cons_self ..);have hr:∀ x∈rest,AQ x:=fun x hx=>hc x (List.mem_cons_of_mem _ hx)
  unfold doReturn
  dsimp only
  split
  ·exact Ag.G6 (BB h0 v) hr
  ·exact Ag.G6 (BB h0 v) hr
  ·exact Ag.G6 h0 hr
  ·refine Ag.G6 ?_ hr
   split
   ·split<;>exact h0
   ·exact h0
 | nil =>
  unfold doReturn
  dsimp only
  split
  ·exact Ag.G6 h (by simp)
  ·exact Ag.ended _
  ·split
   ·exact Ag.go (CY h (by simp)) FX
   ·split
    ·exact Ag.G6 (DJ _ _ _) (by simp)
    ·exact Ag.ended _
theorem Nh (hP:EK P) {fr:Frame}{cs:List Frame}(h:AQ fr) (hc:∀ c∈cs,AQ c) (dy:Option Dying) (d:Deferred):Ag (fun w=>callDeferred P fr cs dy d w):=by
 have hcc:=LP h hc;unfold callDeferred;refine Ag.ite _ (fun _ _ _ _=>rfl) (Ag.ended _) ?_;apply Ag.YR (K:=EF)
 case hG=>intro w r es hr;rw[hr]
 case hs=>exact Iw hP _ _
 case hok =>
  intro a es ha hm he;refine Ag.G7 ?_ hm he _
  cases a with
  | enter f args=>exact Ag.G6 (DJ _ _ _) hcc
  | round l f t a b=>exact Ag.G6 (KI _ _ _ _ _ _) hcc
  | row r args=>obtain rfl:r=Gx:=ha;exact Ag.G6 (NF _ _) hcc
  | recover =>
   dsimp only
   split
   ·rename_i hr;exact Ag.G6 h (Jl hc hr)
   ·exact Ag.G6 h hc
  | coroswitch c x=>cases x with|true=>exact Ag.coro (CY h hc) c|false=>exact ha.elim
  | value v=>exact Ag.G6 h hc
  | skip=>exact Ag.G6 h hc
  | defer d=>exact Ag.G6 h hc
  | spawn d=>exact Ag.G6 h hc
  | comm c b s=>exact Ag.G6 h hc
  | _=>exact ha.elim
 case hhalt =>
  intro x es hm he
  cases x with
  | panic v=>dsimp only;exact Ag.G7 (Ag.G6 (DI h _) hc) hm (he.elim (fun y=>y.elim) id) _
  | goexit=>dsimp only;exact Ag.G7 (Ag.G6 (DI h _) hc) hm (he.elim (fun y=>y.elim) id) _
  | fatal m=>dsimp only;exact Ag.G7 (Mc h _ _) hm (he.elim (fun y=>y.elim) id) _
  | throw m=>dsimp only;exact Ag.G7 (Gt h _) hm (he.elim (fun y=>y.elim) id) _
  | blocked=>dsimp only;exact Ag.Uj (Ag.go (CY (fr:={ fr with defers:=d::fr.defers }) h hc) D9) _
  | waiting=>dsimp only;exact Ag.Uj (Ag.go (CY (fr:={ fr with defers:=d::fr.defers }) h hc) IR) _
  | _=>dsimp only;exact Ag.KQ _ _
 case hU=>exact fun u w es _=>trivial
theorem PQ (hP:EK P) {fr:Frame}{cs:List Frame}(h:AQ fr) (hc:∀ c∈cs,AQ c) (main:Bool) (dy:Option Dying):Ag (fun w=>unwind P main fr cs dy w):=by
 obtain⟨fn,tmps,todo,defers,mode,kind,ro⟩:=fr
 cases defers with
 | cons d ds =>
  have hdef:Ag (fun w=>callDeferred P ⟨fn,tmps,todo,ds,mode,kind,ro⟩ cs dy d w):=Nh (fr:=⟨fn,tmps,todo,ds,mode,kind,ro⟩) hP h hc dy d;obtain⟨t,a⟩:=d
  cases t with
  | collected b =>
   unfold unwind
   dsimp only
   apply Ag.YR (K:=fun _=>True)
   case hG=>intro w r es hr;rw[hr]
   case hs=>exact Cal.out
   case hok=>intro a es _ hm he;dsimp only;exact Ag.G7 (Ag.G6 (fr:=⟨fn,tmps,todo,a++ds,mode,kind,ro⟩) h hc) hm he _
   case hhalt=>intro x es _ _;dsimp only;exact Ag.KQ _ _
   case hU=>exact fun u w es _=>trivial
  | _=>exact hdef
 | nil =>
  cases mode with
  | run=>exact Ag.ended _
  | panicking chain =>
   ·unfold unwind
    dsimp only
    refine Ag.ite (fun _=>Frame.catches P ⟨fn,tmps,todo,[],.panicking chain,kind,ro⟩) (fun _ _ _ _=>rfl) (Ag.ended _) ?_
    cases cs with
    | cons c rest=>exact Ag.G6 (DI (hc c (List.mem_cons_self ..)) chain) (fun x hx=>hc x (List.mem_cons_of_mem _ hx))
    | nil =>
     cases dy with
     | none =>
      refine Ag.ite (fun _=>chain.head?.any (·.goexit)) (fun _ _ _ _=>rfl) (Ag.go (g:={ frame:=⟨fn,tmps,todo,[],.panicking chain,kind,ro⟩,callers:=[],status:=.finished,dying:=none }) (CY h (fun c hx=>by cases hx)) FX) ?_;apply Ag.AbL (P:=P)
      case hG=>intro w r hr;rw[hr]
      case hs=>infer_instance
      case hok=>exact fun a=>Ag.G6 h (fun c hx=>by cases hx)
      case hhalt=>intro x;cases x<;>exact Ag.ended _
      case hU=>exact fun u w _=>trivial
     | some d =>
      dsimp only
      cases chain with
      | nil=>exact Ag.ended _
      | cons e older =>
       obtain⟨v,r,g⟩:=e
       cases g with
       | true=>exact Ag.ended _
       | false=>exact IV h v
  | returning =>
   unfold unwind
   dsimp only
   cases P.funcs[fn]? with
   | none=>exact Ii (fr:=⟨fn,tmps,todo,[],.returning,kind,ro⟩) h hc main dy (tmps.getD 0 undef)
   | some f =>
    apply Ag.YR (K:=fun _=>True)
    case hG=>intro w r es hr;dsimp only;rw[hr]
    case hs=>exact Cal.out
    case hok=>intro a es _ hm he;dsimp only;exact Ag.G7 (Ii (fr:=⟨fn,tmps,todo,[],.returning,kind,ro⟩) h hc main dy a) hm he _
    case hhalt=>intro x es _ _;cases x<;>(dsimp only;exact Ag.KQ _ _)
    case hU=>exact fun u w es _=>trivial
theorem Vp:Extern.next Gx=some (Extern.PrintPieces.piece #[] #[]):=by
 unfold Extern.next
 have:Extern.allNextRows.lookup Gx=some Extern.PrintPieces.piece:=by
  rfl
 rw[this];rfl
theorem Md {fr:Frame}{cs:List Frame}(h:AQ fr) (hc:∀ c∈cs,AQ c) (dy:Option Dying) {s:Sem Next}(hs:calm P EF s 0):Ag (fun w=>stepG.apply P true fr cs dy s w):=by
 have hcc:=LP h hc;have nc:∀ d x r y k,fr.todo ≠ .call d x r y::k:=fun d x r y k e=>h (.call d x r y) (by rw[e];exact List.mem_cons_self ..)
 unfold stepG.apply
 dsimp only
 simp only[if_true];apply Ag.YR (K:=EF)
 case hG=>intro w r es hr;rw[hr]
 case hs=>exact hs
 case hok =>
  intro a es ha hm he
  dsimp only
  refine Ag.after ?_ (fun _ _=>?_)
  ·cases a with
   | value v=>exact Ag.G6 (BB h v) hc
   | skip=>exact Ag.G6 (BB h _) hc
   | enter f args=>exact Ag.G6 (DJ _ _ _) hcc
   | round l f t a b=>exact Ag.G6 (KI _ _ _ _ _ _) hcc
   | row r args =>
    obtain rfl:r=Gx:=ha
    dsimp only
    split
    ·rename_i he
     refine Ag.G6 (fun it hi=>?_) hc;rcases List.mem_cons.1 hi with rfl|hi
     ·rfl
     ·exact h it (by rw[he];exact List.mem_cons_of_mem _ hi)
    ·exact Ag.G6 (NF _ _) hcc
   | defer d=>exact Ag.G6 (BB (fr:={ fr with defers:=d::fr.defers }) h undef) hc
   | recover =>
    dsimp only
    split
    ·rename_i hr
     refine Ag.G6 (BB h _) ?_
     split at hr
     ·split at hr
      ·exact Jl hc hr
      ·exact Ou hc hr
     ·exact Jl hc hr
    ·exact Ag.G6 (BB h _) hc
   | comm c b s=>exact Ag.comm (CY h hc) AP c b s
   | coroswitch c x=>cases x with|true=>exact Ag.coro (CY h hc) c|false=>exact ha.elim
   | spawn d =>
    dsimp only
    refine Ag.ite _ (fun _ _ _ _=>rfl) (Gt h _) ?_;exact Ag.spawn (CY (BB h undef) hc) AP _
   | _=>exact ha.elim
  ·rw[Gn _ _ (by split<;>first|exact hm|exact fun e he=>by simp at he)]
   split
   ·rfl
   ·exact he
 case hhalt =>
  intro x es hm he
  have hq:∀ (q:Bool),¬ Gl x→deafBehind 0 (seen P fr.fn (if q=true then #[] else es))=0:=fun q hx=>by
   rw[Gn _ _ (by split<;>first|exact hm|exact fun e he=>by simp at he)]
   split
   ·rfl
   ·exact he.elim (fun y=>absurd y hx) id
  have hz:∀ (q:Bool),deafBehind 0 (seen P fr.fn (if q=true then #[] else #[]))=0:=fun q=>by split<;>rfl
  cases x with
  | panic v=>exact Ag.after (Ag.G6 (DI h _) hc) (fun _ _=>hq _ (fun y=>y))
  | goexit=>exact Ag.after (Ag.G6 (DI h _) hc) (fun _ _=>hq _ (fun y=>y))
  | fatal m=>exact Ag.after (Mc h _ _) (fun _ _=>hq _ (fun y=>y))
  | throw m=>exact Ag.after (Gt h _) (fun _ _=>hq _ (fun y=>y))
  | blocked=>exact Ag.after (Ag.go (CY h hc) D9) (fun _ _=>hz _)
  | waiting=>exact Ag.after (Ag.go (CY h hc) IR) (fun _ _=>hz _)
  | unsupported u=>cases u<;>dsimp only<;>first|exact Ag.KQ _ _|exact Ag.after (QE h hc _ _) (fun _ _=>hz _)
  | _=>dsimp only;exact Ag.KQ _ _
 case hU=>intro u w es hu;cases u<;>first|trivial|exact absurd rfl (hu _)
theorem SK (hP:EK P) {fr:Frame}{cs:List Frame}(h:AQ fr) (hc:∀ c∈cs,AQ c) (main:Bool) (dy:Option Dying):Ag (fun w=>stepG.exec P main true fr cs dy w):=by
 obtain⟨fn,tmps,todo,defers,mode,kind,ro⟩:=fr;have sub:∀ {x:Item}{k:List Item},todo=x::k→∀ it∈k,IE it:=fun e it hi=>h it (by subst e;exact List.mem_cons_of_mem _ hi)
 have to:∀ k:List Item,(∀ it∈k,IE it)→Ag (fun w=>(.go { frame:=⟨fn,tmps,k,defers,mode,kind,ro⟩,callers:=cs,status:=.running,dying:=dy } w:GStep)):=fun k hk=>Ag.G6 (fr:=⟨fn,tmps,k,defers,mode,kind,ro⟩) hk hc
 have cons:∀ {x:Item}{k:List Item},IE x→(∀ it∈k,IE it)→∀ it∈x::k,IE it:=fun hx hk it hi=>by
  rcases List.mem_cons.1 hi with rfl|hi
  ·exact hx
  ·exact hk it hi
 have back:∀ m:FrameMode,Ag (fun w=>(.go { frame:=⟨fn,tmps,todo,defers,m,kind,ro⟩,callers:=cs,status:=.running,dying:=dy } w:GStep)):=fun m=>Ag.G6 (fr:=⟨fn,tmps,todo,defers,m,kind,ro⟩) h hc
 have round:∀ (l:Nat) (j:Option Code),Ag (fun w=>match (Instr.endRound l j).runT P w #[] with
   | (r,es)=>GStep.after (seen P fn es) (match r with
    | .ok v w=>doReturn P main ⟨fn,tmps,todo,defers,mode,kind,ro⟩ cs dy v w
    | .halt _ w => .ended (.stuck "range over a function: no such loop" (Frame.pos P ⟨fn,tmps,todo,defers,mode,kind,ro⟩)) w)):=fun l j=>by
  apply Ag.YR (K:=fun _=>True)
  case hG=>intro w r es hr;rw[hr]
  case hs=>exact Cal.out
  case hok=>intro a es _ hm he;dsimp only;exact Ag.G7 (Ii h hc main dy a) hm he _
  case hhalt=>intro x es _ _;dsimp only;exact Ag.KQ _ _
  case hU=>exact fun u w es _=>trivial
 have app:∀ s:Sem Next,calm P EF s 0→Ag (fun w=>stepG.apply P true ⟨fn,tmps,todo,defers,mode,kind,ro⟩ cs dy s w):=fun s hs=>Md h hc dy hs
 have fin:∀ v,Ag (fun w=>(.go { frame:=Frame.finish ⟨fn,tmps,todo,defers,mode,kind,ro⟩ v,callers:=cs,status:=.running,dying:=dy } w:GStep)):=fun v=>Ag.G6 (BB h v) hc
 unfold stepG.exec
 dsimp only
 cases todo with
 | nil=>cases ro with|none=>exact back _|some l=>exact round l none
 | cons it k =>
  have hk:=sub rfl
  cases it with
  | code c =>
   cases c with
   | ret=>cases ro with|none=>exact back _|some l=>exact round l _
   | skip=>exact to k hk
   | label l=>exact to k hk
   | seq a b=>exact to _ (cons trivial (cons trivial hk))
   | cond x a b =>
    dsimp only
    split
    ·exact to _ (cons trivial hk)
    ·exact Ag.ended _
   | block id b=>exact to _ (cons trivial (cons trivial hk))
   | loop b=>exact to _ (cons trivial (cons trivial hk))
   | scope b=>exact to _ (cons trivial (cons trivial hk))
   | exit id =>
    dsimp only
    cases he:exitTo id k with
    | none=>cases ro with|none=>exact Ag.ended _|some l=>exact round l _
    | some k'=>exact to k' (VA hk he)
   | goto l =>
    dsimp only
    cases he:gotoIn l k with
    | none=>cases ro with|none=>exact Ag.ended _|some l=>exact round l _
    | some k'=>exact to k' (Vz hk he)
   | rangeFunc f params assign body =>
    dsimp only
    apply Ag.YR (K:=fun _=>True)
    case hG=>intro w r es hr;rw[hr]
    case hs=>exact Cal.out
    case hok =>
     intro a es _ hm he
     dsimp only
     refine Ag.G7 ?_ hm he _;exact Md (fr:=⟨fn,tmps,.inRangeFunc a.1::k,a.2++defers,mode,kind,ro⟩) (cons trivial hk) hc dy (BN _ _ (fun d=>Iw hP _ _))
    case hhalt=>intro x es _ _;dsimp only;exact Ag.KQ _ _
    case hU=>exact fun u w es _=>trivial
   | region id ops draw =>
    cases draw with
    | false=>exact to _ (cons trivial hk)
    | true =>
     simp only[Bool.not_true,Bool.false_eq_true,if_false];apply Ag.AbL (P:=P)
     case hG=>intro w r hr;rw[hr]
     case hs=>infer_instance
     case hok=>exact fun a=>to _ (cons trivial hk)
     case hhalt=>exact fun x=>Ag.ended _
     case hU=>exact fun u w _=>trivial
   | refuse why=>exact Ag.ended _
  | inBlock id=>exact to k hk
  | inLoop b=>exact to _ (cons trivial (cons trivial hk))
  | inScope b=>exact to k hk
  | inRegion ops l =>
   cases l with
   | nil=>exact to k hk
   | cons i rest =>
    dsimp only
    refine Ag.ite _ (fun _ _ _ _=>rfl) ?_ (fin undef);unfold stepG.oper
    dsimp only
    split
    ·exact Ag.ended _
    ·split
     ·exact app _ (BN _ _ (fun d=>BN _ _ (fun u=>⟨rfl,trivial⟩)))
     ·exact app _ (TV hP _ _)
  | inRangeFunc l=>exact Ag.ended _
  | endRangeFunc l =>
   dsimp only
   apply Ag.YR (K:=fun _=>True)
   case hG=>intro w r es hr;rw[hr]
   case hs=>exact Cal.out
   case hok =>
    intro a es _ hm he
    dsimp only
    refine Ag.G7 (to _ (fun it hi=>?_)) hm he _;rcases List.mem_append.1 hi with hi|hi
    ·cases a with
     | none=>cases hi
     | some c=>obtain rfl:=List.mem_singleton.1 hi;trivial
    ·exact hk it hi
   case hhalt =>
    intro x es hm he
    cases x with
    | panic v=>exact Ag.G7 (Ag.G6 (DI h _) hc) hm (he.elim (fun y=>y.elim) id) _
    | _=>dsimp only;exact Ag.KQ _ _
   case hU=>exact fun u w es _=>trivial
  | beginRound =>
   cases ro with
   | none=>exact app _ (BN (stuck _) _ (fun u=>⟨rfl,trivial⟩))
   | some l=>exact app _ (BN (Instr.beginRound l) _ (fun u=>⟨rfl,trivial⟩))
  | call d wr r s=>exact(h (.call d wr r s) (List.mem_cons_self ..)).elim
  | extern row args =>
   have hrow:row=Gx:=h (.extern row args) (List.mem_cons_self ..);subst hrow
   dsimp only
   rw[Vp];exact app _ (Pj _ _ _)
theorem Bg (hP:EK P) {g:Goroutine}(hg:DR g) (main:Bool):Ag (fun w=>stepG P main g w):=by
 obtain⟨fr,cs,st,dy,of⟩:=g;obtain⟨h,hc⟩:=hg;unfold stepG
 dsimp only
 split
 ·exact U0 hP h _
 ·exact SK hP h hc main _
 ·exact PQ hP h hc main _
end
end
end Go.Proofs.Ytgdobbcjkiapkaa
