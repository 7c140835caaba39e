import Derived.Test.YtgdobbcjkiapkaaCh07
namespace Go.Proofs.Ytgdobbcjkiapkaa
set_option maxRecDepth 100000
set_option maxHeartbeats 4000000
set_option linter.unusedSimpArgs false
set_option linter.unusedVariables false
section
open Go Go.Conc
section
variable {P:Program}
theorem Dl (f:FuncId) (x:Array Value) (k:CallKind):AL (Frame.enter P f x k):=fun it h=>by
 simp only [Frame.enter,List.mem_singleton] at h;subst h;trivial
theorem JQ (l:Nat) (f:FuncId) (t:Array Value) (a b:Code) (k:CallKind):AL (Frame.round l f t a b k):=fun it h=>by
 simp only [Frame.round,List.mem_cons,List.not_mem_nil,or_false] at h;rcases h with rfl | rfl | rfl <;> trivial
theorem MO (x:Array Value) (k:CallKind):AL (Frame.ofRow P F6 x k):=fun it h=>by
 simp only [Frame.ofRow,List.mem_singleton] at h;subst h;exact rfl
theorem Dk {fr:Frame} (h:AL fr) (c:List PanicEntry):AL (fr.raise c):=by
 unfold Frame.raise;split <;> exact h
theorem Bg {fr:Frame} (h:AL fr) (v:Value):AL (fr.finish v):=by
 unfold Frame.finish
 split
 ·rename_i he
  intro it hi;rcases List.mem_cons.1 hi with rfl | hi
  ·trivial
  ·exact h it (by rw [he];exact List.mem_cons_of_mem _ hi)
 ·rename_i he
  intro it hi;rcases List.mem_cons.1 hi with rfl | hi
  ·trivial
  ·exact h it (by rw [he];exact List.mem_cons_of_mem _ hi)
 ·rename_i he
  exact fun it hi=>h it (by rw [he];exact List.mem_cons_of_mem _ hi)
 ·rename_i he
  have hx:=h _ (by rw [he];exact List.mem_cons_self ..);exact False.elim hx
 ·rename_i he
  exact fun it hi=>h it (by rw [he];exact List.mem_cons_of_mem _ hi)
 ·exact h
theorem U9 {id:Nat}:∀ {k k':List Item},(∀ it∈k,Ig it)→exitTo id k=some k'→∀ it∈k',Ig it:=by
 intro k
 induction k with
 | nil=>intro k' _ h;simp [exitTo] at h
 | cons x k ih =>
  intro k' hk h;have hk':∀ it∈k,Ig it:=fun it hi=>hk it (List.mem_cons_of_mem _ hi)
  cases x <;> simp only [exitTo] at h <;> try exact ih hk' h
  split at h
  ·cases h;exact hk'
  ·exact ih hk' h
theorem U8 {l:Nat}:∀ {k k':List Item},(∀ it∈k,Ig it)→gotoIn l k=some k'→∀ it∈k',Ig it:=by
 intro k
 induction k with
 | nil=>intro k' _ h;simp [gotoIn] at h
 | cons x k ih =>
  intro k' hk h;have hk':∀ it∈k,Ig it:=fun it hi=>hk it (List.mem_cons_of_mem _ hi)
  cases x <;> simp only [gotoIn] at h <;> try exact ih hk' h
  split at h
  ·cases h
   intro it hi;rcases List.mem_cons.1 hi with rfl | hi
   ·trivial
   ·exact hk it hi
  ·exact ih hk' h
theorem Cj {fr:Frame} {cs:List Frame} {s:GoStatus} {d:Option Dying} {o:Option (Array CommCase×CommShape)} (h:AL fr) (hc:∀ c∈cs,AL c) :
  Du { frame:=fr,callers:=cs,status:=s,dying:=d,offers:=o }:=⟨h,hc⟩
theorem KG {fr:Frame} {cs:List Frame} (h:AL fr) (hc:∀ c∈cs,AL c):∀ c∈fr :: cs,AL c:=fun c hx=>by
 rcases List.mem_cons.1 hx with rfl | hx
 ·exact h
 ·exact hc c hx
theorem IW:∀ {cs cs':List Frame} {v:Value} {fr:Frame},(∀ c∈cs,AL c)→tryRecover fr cs=some (v,cs')→∀ c∈cs',AL c:=by
 intro cs
 induction cs with
 | nil =>
  intro cs' v fr _ h;unfold tryRecover at h
  split at h <;> simp_all
 | cons c cs ih =>
  intro cs' v fr hc h;have hc':∀ x∈cs,AL x:=fun x hx=>hc x (List.mem_cons_of_mem _ hx)
  have h0:AL c:=hc c (List.mem_cons_self ..);unfold tryRecover at h
  split at h
  ·rename_i heq
   cases heq
   split at h
   ·cases h;exact KG h0 hc'
   ·cases h
  ·rename_i heq
   cases heq
   obtain ⟨⟨v',r⟩,hr,e⟩:=Option.map_eq_some_iff.1 h
   cases e
   exact KG h0 (ih hc' hr)
  ·cases h
theorem NF:∀ {cs cs':List Frame} {v:Value} {l:Nat},(∀ c∈cs,AL c)→tryRecoverLoop l cs=some (v,cs')→∀ c∈cs',AL c:=by
 intro cs
 induction cs with
 | nil=>intro cs' v l _ h;simp [tryRecoverLoop] at h
 | cons c cs ih =>
  intro cs' v l hc h;have hc':∀ x∈cs,AL x:=fun x hx=>hc x (List.mem_cons_of_mem _ hx)
  have h0:AL c:=hc c (List.mem_cons_self ..);unfold tryRecoverLoop at h;obtain ⟨⟨v',r⟩,hr,e⟩:=Option.map_eq_some_iff.1 h
  cases e
  refine KG h0 ?_
  split at hr
  ·exact ih hc' hr
  ·split at hr
   ·exact IW (fr:=c) hc' hr
   ·exact ih hc' hr
  ·exact ih hc' hr
theorem AA:DK .running:=fun t e=>by cases e
theorem DJ:DK .blocked:=fun t e=>by cases e
theorem Iq:DK .waiting:=fun t e=>by cases e
theorem Fe:DK .finished:=fun t e=>by cases e
theorem Af.Gt {fr:Frame} {cs:List Frame} {d:Option Dying} (h:AL fr) (hc:∀ c∈cs,AL c):Af (fun w => .go { frame:=fr,callers:=cs,status := .running,dying:=d } w):=Af.go (Cj h hc) AA
theorem FY {fr:Frame} (h:AL fr) (m:String):Af (fun w=>endThrow fr m w):=Af.Gt h (by simp)
theorem Af.Aar {F:World→GStep} (h:Af F) (p:Outcome→Bool):Af (fun w=>match F w with | .ended o w' es => .ended o (if p o then w else w') es | s=>s):=by
 refine ⟨fun w =>?_,fun w =>?_,fun w τ d c hd hT hend =>?_⟩
 ·have:=h.ok w
  cases hF:F w <;> rw [hF] at this <;> first | exact this | trivial
 ·have:=h.drew w
  cases hF:F w <;> rw [hF] at this <;> dsimp only <;> first | exact this | skip
  show GZ w (if _ then w else _)
  split
  ·exact GZ.refl w
  ·exact this
 ·have key:EC τ d c w.tape (stepW (F w)).drawn∧(Ci (F w)→∀ D,EC τ d c w.tape D):=by
   cases hF:F w <;> rw [hF] at hT hend <;> dsimp only at hT hend <;> first | exact ⟨hT,hend⟩ | exact ⟨hend trivial _,fun _=>hend trivial⟩
  have:=h.same w τ d c hd key.1 key.2;rw [this]
  cases F w <;> dsimp only [EE]
  split <;> rfl
theorem Qn {fr:Frame} (h:AL fr) (a:List ByteArray) (m:String) (x:Bool):Af (fun w=>dieOf fr a m x w):=Af.Gt h (by simp)
theorem Iu {fr:Frame} (h:AL fr) (v:Value):Af (fun w=>endPrinting P fr v w):=by
 unfold endPrinting
 dsimp only
 split
 ·exact FY h _
 ·exact Af.ended _
theorem Af.Abv {α:Type} {s:Sem α} (hs:Cal P s) (F:Result α→GStep) (hok:∀ a,Af (fun w=>F (.ok a w))) (hhalt:∀ h,Af (fun w=>F (.halt h w)))
  (hU:∀ u w,(∀ g,u ≠ .initOrder g)→Ci (F (.halt (.unsupported u) w))):Af (fun w=>F (s.run P w)):=by
 have:=Af.run hs.out (fun _ _=>#[]) F (fun a _=>hok a) hhalt hU (fun _ _ _ _ _=>rfl) (fun _ _ _=>rfl);refine ⟨fun w =>?_,fun w =>?_,fun w τ d c hd hT hend =>?_⟩
 ·have h:=this.ok w;simp only [Sem.runT_eq] at h
  cases hF:F (s.run P w) <;> rw [hF] at h <;> first | (simp [GStep.after,J9,Ci] at h;done) | (simp [GStep.after,J9,Ci];done) | simpa [GStep.after,J9,Ci] using h
 ·have h:=this.drew w;simp only [Sem.runT_eq,EP] at h;exact h
 ·have h:=this.same w τ d c hd (by simpa only [Sem.runT_eq,EP] using hT) (by simpa only [Sem.runT_eq,FH] using hend);simp only [Sem.runT_eq,Hf] at h;generalize F (s.run P (re τ d c w))=x at h ⊢;generalize F (s.run P w)=y at h ⊢
  cases x <;> cases y <;> simp only [GStep.after,EE,Array.empty_append] at h ⊢ <;> first | exact h | exact absurd h (by simp)
theorem Af.congr {F G:World→GStep} (h:Af F) (e:∀ w,G w=F w):Af G:=by
 have:G=F:=funext e;rw [this];exact h
theorem Af.Yk {α:Type} {K:α→Prop} {s:Sem α} {G:World→GStep} {H:Result α→Array Event→GStep} (hG:∀ w r es,s.runT P w #[]=(r,es)→G w=H r es) (hs:calm P K s 0)
  (hok:∀ a es,K a→CZ es→deafBehind 0 es=0→Af (fun w=>H (.ok a w) es)) (hhalt:∀ h es,CZ es→FO h∨deafBehind 0 es=0→Af (fun w=>H (.halt h w) es))
  (hU:∀ u w es,(∀ g,u ≠ .initOrder g)→Ci (H (.halt (.unsupported u) w) es)):Af G:=by
 have hm:∀ w,CZ (s.runT P w #[]).2:=fun w=>Qs w #[] (fun e he=>by simp at he)
 have hc:∀ w,IR K (s.runT P w #[]):=fun w=>PN hs w #[] rfl
 have hr:∀ w,(s.runT P w #[]).1=s.run P w:=fun w=>by rw [Sem.runT_eq]
 have key:∀ w,∃ L:World→GStep,Af L∧G w=L (Yl (s.run P w))∧(∀ f:World→World,H (L9 f (s.run P w)) (s.runT P w #[]).2=L (f (Yl (s.run P w))))∧GZ w (Yl (s.run P w)):=fun w=>by
  have h1:=hG w _ _ rfl;have h2:=hc w;have h3:=IV P (s:=s) w;unfold IR at h2;rw [hr] at h1 h2
  cases hx:s.run P w with
  | ok a w' =>
   rw [hx] at h1 h2 h3;exact ⟨fun w=>H (.ok a w) _,hok a _ h2.1 (hm w) h2.2,h1,fun f=>rfl,h3⟩
  | halt h w' =>
   rw [hx] at h1 h2 h3;exact ⟨fun w=>H (.halt h w) _,hhalt h _ (hm w) h2,h1,fun f=>rfl,h3⟩
 refine ⟨fun w =>?_,fun w =>?_,fun w τ d c hd hT hend =>?_⟩
 ·obtain ⟨L,hL,e,_,_⟩:=key w;rw [e];exact hL.ok _
 ·obtain ⟨L,hL,e,_,hd⟩:=key w;rw [e];exact hd.trans (hL.drew _)
 ·obtain ⟨L,hL,e,em,hdw⟩:=key w;rw [e] at hT hend ⊢
  have hre:=Si (τ:=τ) (d:=d) (c:=c) hs w #[] hd (hT.mono (hL.drew _).le) (fun u w' hu hn=>hend (by
   have h1:=hG w _ _ rfl;rw [← e,h1,hr,hu];exact hU u w' _ hn))
  have h1:=hG (re τ d c w) (L9 (re τ d c) (s.runT P w #[]).1) (s.runT P w #[]).2 hre;rw [h1,hr,em];exact hL.same _ τ d c (Nat.le_trans hd hdw.le) (by rw [hdw.tape];exact hT) (by rw [hdw.tape];exact hend)
theorem Af.after {F:World→GStep} (hF:Af F) {es:Array Event} (he:∀ w,¬ Ci (F w)→deafBehind 0 es=0):Af (fun w=>GStep.after es (F w)):=by
 refine ⟨fun w=>La (hF.ok w) (he w),fun w=>by rw [EP];exact hF.drew w,fun w τ d c hd hT hend =>?_⟩;rw [EP] at hT;rw [FH] at hend;rw [Hf,hF.same w τ d c hd hT hend]
theorem Af.Gu {F:World→GStep} (hF:Af F) {es:Array Event} (hm:CZ es) (he:deafBehind 0 es=0) (fn:FuncId):Af (fun w=>GStep.after (seen P fn es) (F w)) :=
 hF.after fun _ _=>by rw [FQ fn es hm];exact he
theorem Af.TP {F:World→GStep} (hF:Af F) (fn:FuncId):Af (fun w=>GStep.after (seen P fn #[]) (F w)) :=
 hF.after fun _ _=>rfl
theorem Af.JU (es:Array Event) (o:Outcome):Af (fun w=>GStep.after es (.ended o w)):=(Af.ended o).after fun _ h=>absurd trivial h
theorem Af.Aa0 {α:Type} {s:Sem α} {G:World→GStep} {F:Result α→GStep} (hs:Cal P s) (hG:∀ w r,s.run P w=r→G w=F r) (hok:∀ a,Af (fun w=>F (.ok a w))) (hhalt:∀ h,Af (fun w=>F (.halt h w)))
  (hU:∀ u w,(∀ g,u ≠ .initOrder g)→Ci (F (.halt (.unsupported u) w))):Af G :=
 (Af.Abv hs F hok hhalt hU).congr fun w=>hG w _ rfl
theorem IJ:∀ (l:List PanicEntry) (b:Bool),Cal P (reportChain l b)
 | [],b=>by unfold reportChain;infer_instance
 | e :: l,b=>by
  have ih:∀ b,Cal P (reportChain l b):=IJ l;unfold reportChain
  repeat' (first | infer_instance | (refine Cal.bind ?_ (fun _ =>?_)) | (refine Cal.ite ?_ ?_) | split | (intro _) | dsimp only)
instance (l:List PanicEntry) (b:Bool):Cal P (reportChain l b):=IJ l b
instance (s:ByteArray):Cal P (withAddress s):=by unfold withAddress;infer_instance
theorem Lc {fr:Frame} {cs:List Frame} (h:AL fr) (d:Option Dying) (m:String):Af (fun w=>endFatal P fr cs d m w):=by
 unfold endFatal
 dsimp only
 apply Af.Aa0
 case hG=>intro w r hr;rw [hr]
 case hs=>repeat' (first | infer_instance | (refine Cal.bind ?_ (fun _ =>?_)) | (refine Cal.ite ?_ ?_) | (refine Cal.Px (fun _ =>?_) _) | split | (intro _) | dsimp only)
 case hok=>exact fun a=>Qn h _ _ _
 case hhalt=>intro x;cases x <;> exact Af.ended _
 case hU=>exact fun u w _=>trivial
theorem ND (fd:Nat) (t:ByteArray) (o:Outcome):Af (fun w=>endWith w fd t o):=by
 obtain ⟨O,e⟩:∃ O:SysRet→Outcome,∀ w:World,endWith w fd t o = .ended (O (w.sys (.write fd t)).1) (w.sys (.write fd t)).2:=by
  refine ⟨fun r=>match r with
   | .int n=>if n == t.size && t.size≤65536 then o else .unsupported (.noEntry (if t.size > 65536 then "a report of more than 65536 bytes" else "a report that its descriptor cannot take whole")) ""
   | .err _=>o
   | _ => .unsupported (.noEntry (if t.size > 65536 then "a report of more than 65536 bytes" else "a report that its descriptor cannot take whole")) "",fun w =>?_⟩
  unfold endWith
  dsimp only
  cases w.sys (.write fd t) with
  | mk r w'=>cases r <;> dsimp only <;> first | rfl | (split <;> rfl)
 refine ⟨fun w=>by rw [e];trivial,fun w=>by rw [e];exact O4 _ _,fun w τ d c hd hT hend =>?_⟩;have hall:=hend (by rw [e];trivial);have hs:=Zn (τ:=τ) (c:=c) w (.write fd t) hd (hall _) (fun _=>hall);rw [e,e,hs]
 rfl
theorem NC {fr:Frame} (h:AL fr) (d:Dying) (f:Fatal):Af (fun w=>writeOn P fr d f w):=by
 cases hp:f.pieces with
 | nil=>exact (Af.ended (.fatal f.text)).congr (fun w=>by unfold writeOn;dsimp only;rw [hp])
 | cons piece rest =>
  have hw:∀ b:Bool,calm P (fun _:Unit=>True) (do
    if b then
     mark .disable
     if ← Extern.PrintPieces.held then .halt .blocked
     if f.whole then store (printLock (← program)) (.bool true) .atomic
     mark .enable
    if piece.size > 65536 then unsupported (.noEntry "a report of more than 65536 bytes")
    match ← sys (.write 2 piece) with
    | .int n=>if n != piece.size then unsupported (.noEntry "a report that its descriptor cannot take whole")
    | .err _=>pure ()
    | _=>unsupported (.noEntry "a report that its descriptor cannot take whole")) 0:=by
   intro b
   have tail:calm P (fun _:Unit=>True) (do
    if piece.size > 65536 then unsupported (.noEntry "a report of more than 65536 bytes")
    match ← sys (.write 2 piece) with
    | .int n=>if n != piece.size then unsupported (.noEntry "a report that its descriptor cannot take whole")
    | .err _=>pure ()
    | _=>unsupported (.noEntry "a report that its descriptor cannot take whole")) 0:=by
    by_cases hs:piece.size > 65536
    ·simp only [hs,if_true];exact .inl rfl
    ·simp only [hs,if_false];refine ⟨fun r =>?_, .inr ⟨_,rfl,fun g e=>by cases e⟩⟩
     cases r <;> first
      | exact ⟨rfl,trivial⟩
      | exact .inl rfl
      | (show calm P _ (if _ then _ else _) 0;split <;> first | exact .inl rfl | exact ⟨rfl,trivial⟩)
   cases b
   ·exact tail
   ·refine fun v =>?_
    cases v <;> first | exact .inr trivial | skip
    rename_i q
    cases q
    ·cases hwh:f.whole
     ·exact tail
     ·exact tail
    ·exact .inr trivial
  unfold writeOn;rw [hp]
  dsimp only
  apply Af.Yk (K:=fun _:Unit=>True)
  case hG=>intro w r es hr;rw [hr]
  case hs=>exact hw (!(f.whole && f.begun))
  case hok=>exact fun a es _ _ he=>Af.goE (Cj h (fun c hx=>by cases hx)) AA he
  case hhalt=>intro x es _ _;cases x <;> first | exact Af.ended _ | exact Af.goE (Cj h (fun c hx=>by cases hx)) DJ rfl
  case hU=>exact fun u w es _=>trivial
def MS (P:Program) (fr:Frame) (d:Dying) (mk:String) (v:Value):Result Next→GStep
 | .ok (.enter f args) w => .go { frame:=Frame.enter P f args .report,callers:=[],status := .running,dying:=some { d with calling:=true,hand:=some v } } w
 | .ok (.value (.string s)) w => .go { frame:=fr,callers:=[],status := .running,dying:=some { d with texts:=(s,mk) :: d.texts } } w
 | .halt (.unsupported u) w => .ended (.unsupported u "the report of an uncaught panic") w
 | .halt (.panic v) w=>endPrinting P fr v w
 | .ok _ w | .halt _ w => .ended (.stuck "report: Error or String returned no string" "") w
theorem UK (hP:EJ P) {fr:Frame} (h:AL fr) (d:Dying):Af (fun w=>die P fr d w):=by
 obtain ⟨todo,texts,calling,pending,rte,hand,fatal⟩:=d
 cases fatal with
 | some f=>exact NC h _ f
 | none =>
  cases todo with
  | nil =>
   have s1:Af (fun w:World=>(.go { frame:=fr,callers:=[],status := .blocked,dying:=some ⟨[],texts,calling,pending,rte,hand,none⟩ } w:GStep)):=Af.go (Cj h (by simp)) DJ;have s2:=ND 2 (panicReport texts) (.panic rte);have e:∀ w,die P fr ⟨[],texts,calling,pending,rte,hand,none⟩ w=if printLockHeld P w then .go { frame:=fr,callers:=[],status := .blocked,dying:=some ⟨[],texts,calling,pending,rte,hand,none⟩ } w else endWith w 2 (panicReport texts) (.panic rte):=fun w=>rfl
   have er:∀ (w:World) (τ:Nat→Question→Nat) (d c:Nat),printLockHeld P (re τ d c w)=printLockHeld P w:=fun _ _ _ _=>rfl
   refine ⟨fun w =>?_,fun w =>?_,fun w τ d' c hd hT hend =>?_⟩
   ·rw [e];split
    ·exact s1.ok w
    ·exact s2.ok w
   ·rw [e];split
    ·exact s1.drew w
    ·exact s2.drew w
   ·rw [e,e,er];rw [e] at hT hend
    split
    ·rfl
    ·rename_i hh
     rw [if_neg hh] at hT hend;exact s2.same w τ d' c hd hT hend
  | cons x rest =>
   obtain ⟨v,mk⟩:=x;unfold die
   dsimp only
   cases panicText P false v with
   | text s=>exact Af.Gt h (fun c hx=>by cases hx)
   | address s =>
    apply Af.Aa0 (P:=P)
    case hG=>intro w r hr;dsimp only;rw [hr]
    case hs=>infer_instance
    case hok=>exact fun a=>Af.Gt h (fun c hx=>by cases hx)
    case hhalt=>exact fun x=>Af.ended _
    case hU=>exact fun u w _=>trivial
   | no u=>exact Af.ended _
   | call t recv name =>
    dsimp only
    have:=Af.Aar (F:=fun w=>GStep.after (seen P fr.fn ((invoke (.fn (.method name) #[]) #[.iface t recv]).runT P w #[]).2) (MS P fr ⟨rest,texts,calling,mk,rte,hand,none⟩ mk v ((invoke (.fn (.method name) #[]) #[.iface t recv]).runT P w #[]).1)) ?_ (fun o=>match o with | .stuck s _=>s == "report: Error or String returned no string" | _=>false)
    ·refine this.congr (fun w =>?_);generalize Sem.runT P _ w #[]=y;obtain ⟨r,es⟩:=y
     dsimp only
     cases r with
     | ok a w' =>
      cases a <;> dsimp only [MS,GStep.after] <;> first | rfl | skip
      rename_i v
      cases v <;> dsimp only [GStep.after] <;> rfl
     | halt x w' =>
      cases x <;> dsimp only [MS,GStep.after] <;> first | rfl | skip
      rename_i v'
      have hp:(∃ g,endPrinting P fr v' w' = .go g w')∨∃ u,endPrinting P fr v' w' = .ended (.unsupported u "") w':=by
       unfold endPrinting
       dsimp only
       split
       ·exact .inl ⟨_,rfl⟩
       ·exact .inr ⟨_,rfl⟩
      rcases hp with ⟨g,hp⟩ | ⟨u,hp⟩ <;> rw [hp] <;> rfl
    ·apply Af.Yk (K:=Eb)
     case hG=>intro w r es hr;rw [hr]
     case hs=>exact Ib hP _ _
     case hok =>
      intro a es ha hm he;refine Af.Gu ?_ hm he _;clear ha
      cases a <;> dsimp only [MS] <;> first | exact Af.Gt (Dl _ _ _) (fun c hx=>by cases hx) | exact Af.ended _ | skip
      rename_i v
      cases v <;> first | exact Af.Gt h (fun c hx=>by cases hx) | exact Af.ended _
     case hhalt =>
      intro x es hm he
      cases x <;> dsimp only [MS] <;> first
       | exact Af.JU _ _
       | exact Af.Gu (Iu h _) hm (he.elim (fun y=>y.elim) id) _
     case hU=>exact fun u w es _=>trivial
theorem Ua (w:World) (τ:Nat→Question→Nat) (d c:Nat):∀ (n:Nat) (f:FuncId),P.found (re τ d c w) n f=P.found w n f
 | 0,f=>rfl
 | n+1,f=>by
  have ih:=Ua w τ d c n;unfold Program.found;have h1:∀ h:Nat,(re τ d c w).heap[h]? = w.heap[h]?:=fun _=>rfl
  have h2:(re τ d c w).shape? = w.shape?:=rfl;simp only [ih,h1,h2]
theorem OC (w:World) (τ:Nat→Question→Nat) (d c:Nat):∀ (n:Nat) (a b:List FuncId),P.brought (re τ d c w) n a b=P.brought w n a b
 | 0,a,b=>rfl
 | n+1,[],b=>rfl
 | n+1,f :: a,b=>by
  have ih:=OC w τ d c n;unfold Program.brought;have h1:∀ h:Nat,(re τ d c w).heap[h]? = w.heap[h]?:=fun _=>rfl
  simp only [ih,h1]
theorem Af.ite {F G:World→GStep} (c:World→Bool) (hc:∀ (w:World) (τ:Nat→Question→Nat) (d k:Nat),c (re τ d k w)=c w) (hF:Af F) (hG:Af G):Af (fun w=>if c w=true then F w else G w):=by
 refine ⟨fun w =>?_,fun w =>?_,fun w τ d k hd hT hend =>?_⟩
 ·split
  ·exact hF.ok w
  ·exact hG.ok w
 ·split
  ·exact hF.drew w
  ·exact hG.drew w
 ·rw [hc]
  split
  ·rename_i h;rw [if_pos h] at hT hend;exact hF.same w τ d k hd hT hend
  ·rename_i h;rw [if_neg h] at hT hend;exact hG.same w τ d k hd hT hend
theorem Qm {fr:Frame} {cs:List Frame} (h:AL fr) (hc:∀ c∈cs,AL c) (dy:Option Dying) (g:Nat):Af (fun w=>early P fr cs dy g w):=by
 have notYet:Af (fun w=>match w.heap[g]? with
  | some (.pending c elem) => .go { frame:=fr,callers:=cs,status := .running,dying:=dy } { w with heap:=w.heap.setIfInBounds g (.cells c elem) }
  | _ => .ended (.stuck "early: the variable does not wait" (fr.pos P)) w):=by
  refine ⟨fun w =>?_,fun w =>?_,fun w τ d c hd hT hend =>?_⟩
  ·split
   ·exact ⟨Cj h hc,AA,rfl⟩
   ·trivial
  ·split
   ·exact ⟨Nat.le_refl _,rfl⟩
   ·exact GZ.refl w
  ·have h1:(re τ d c w).heap[g]? = w.heap[g]?:=rfl;rw [h1]
   split <;> rfl
 have there:∀ (ahead:World→List Frame),(∀ w,∀ c∈ahead w,AL c)→(∀ (w:World) (τ:Nat→Question→Nat) (d k:Nat),ahead (re τ d k w)=ahead w)→∀ f,Af (fun w =>
   (.go { frame:=Frame.enter P f #[] .early,callers:=ahead w++fr :: cs,status := .running,dying:=dy } w:GStep)):=by
  intro ahead ha hr f;refine ⟨fun w=>⟨⟨Dl _ _ _,fun c hx =>?_⟩,AA,rfl⟩,fun w=>GZ.refl w,fun w τ d c hd hT hend =>?_⟩
  ·rcases List.mem_append.1 hx with hx | hx
   ·exact ha w c hx
   ·exact KG h hc c hx
  ·rw [hr];rfl
 have there':∀ f,Af (fun w=>(.go { frame:=Frame.enter P f #[] .early,callers:=(if (P.code? f).any P.plainData then (P.brought w (2*P.funcs.size+1) [f] []).drop 1 else []).map (Frame.enter P · #[] .early)++fr :: cs,status := .running,dying:=dy } w:GStep)):=fun f=>by
  refine there (fun w=>(if (P.code? f).any P.plainData then (P.brought w (2*P.funcs.size+1) [f] []).drop 1 else []).map (Frame.enter P · #[] .early)) (fun w c hx =>?_) (fun w τ d k =>?_) f
  ·obtain ⟨x,_,rfl⟩:=List.mem_map.1 hx;exact Dl _ _ _
  ·simp only [OC]
 unfold early
 dsimp only
 split
 ·exact notYet
 ·cases P.stepOf g with
  | none=>exact Af.ended _
  | some f =>
   dsimp only
   split
   ·exact notYet
   ·refine Af.ite (fun w=>(((P.code? f).bind fun c=>(readies c).getLast?).bind w.shape?).isSome) (fun _ _ _ _=>rfl) notYet ?_
    have key:∀ x:Found,Af (fun w:World=>(match x,fr.kind == .early with
      | .unknown,_ => .ended (.unsupported (.initOrder g) (fr.pos P)) w
      | .either,true => .go { frame:=Frame.enter P f #[] .early,callers:=(if (P.code? f).any P.plainData then (P.brought w (2*P.funcs.size+1) [f] []).drop 1 else []).map (Frame.enter P · #[] .early)++fr :: cs,status := .running,dying:=dy } w
      | .notYet,true => .ended (.unsupported (.initOrder g) (fr.pos P)) w
      | .notYet,false=>match w.heap[g]? with
       | some (.pending c elem) => .go { frame:=fr,callers:=cs,status := .running,dying:=dy } { w with heap:=w.heap.setIfInBounds g (.cells c elem) }
       | _ => .ended (.stuck "early: the variable does not wait" (fr.pos P)) w
      | .either,false =>
       if (P.code? f).any P.plainData then .go { frame:=Frame.enter P f #[] .early,callers:=(if (P.code? f).any P.plainData then (P.brought w (2*P.funcs.size+1) [f] []).drop 1 else []).map (Frame.enter P · #[] .early)++fr :: cs,status := .running,dying:=dy } w else
       if !(P.code? f).any P.bareCopy then match w.heap[g]? with
        | some (.pending c elem) => .go { frame:=fr,callers:=cs,status := .running,dying:=dy } { w with heap:=w.heap.setIfInBounds g (.cells c elem) }
        | _ => .ended (.stuck "early: the variable does not wait" (fr.pos P)) w else
       match (choose (.early g)).run P w with
       | .ok 0 w=>match w.heap[g]? with
        | some (.pending c elem) => .go { frame:=fr,callers:=cs,status := .running,dying:=dy } { w with heap:=w.heap.setIfInBounds g (.cells c elem) }
        | _ => .ended (.stuck "early: the variable does not wait" (fr.pos P)) w
       | .ok _ w => .go { frame:=Frame.enter P f #[] .early,callers:=(if (P.code? f).any P.plainData then (P.brought w (2*P.funcs.size+1) [f] []).drop 1 else []).map (Frame.enter P · #[] .early)++fr :: cs,status := .running,dying:=dy } w
       | .halt _ w => .ended (.stuck "early" (fr.pos P)) w:GStep)):=by
     intro x
     cases x <;> cases fr.kind == .early <;> dsimp only <;> first
      | exact Af.ended _
      | exact notYet
      | exact there' f
      | skip
     refine Af.ite (fun _=>(P.code? f).any P.plainData) (fun _ _ _ _=>rfl) (there' f) ?_;refine Af.ite (fun _ => !(P.code? f).any P.bareCopy) (fun _ _ _ _=>rfl) notYet ?_
     ·refine Af.Abv (P:=P) (s:=choose (.early g)) (F:=fun r=>match r with
        | .ok 0 w=>match w.heap[g]? with
         | some (.pending c elem) => .go { frame:=fr,callers:=cs,status := .running,dying:=dy } { w with heap:=w.heap.setIfInBounds g (.cells c elem) }
         | _ => .ended (.stuck "early: the variable does not wait" (fr.pos P)) w
        | .ok _ w => .go { frame:=Frame.enter P f #[] .early,callers:=(if (P.code? f).any P.plainData then (P.brought w (2*P.funcs.size+1) [f] []).drop 1 else []).map (Frame.enter P · #[] .early)++fr :: cs,status := .running,dying:=dy } w
        | .halt _ w => .ended (.stuck "early" (fr.pos P)) w) inferInstance (fun a =>?_) (fun x=>Af.ended _) (fun u w _=>trivial)
      cases a with
      | zero=>exact notYet
      | succ a=>exact there' f
    refine ⟨fun w=>(key (P.found w P.funcs.size f)).ok w,fun w=>(key (P.found w P.funcs.size f)).drew w,fun w τ d c hd hT hend =>?_⟩;rw [Ua];exact (key (P.found w P.funcs.size f)).same w τ d c hd hT hend
theorem Hg {fr:Frame} {cs:List Frame} (h:AL fr) (hc:∀ c∈cs,AL c) (main:Bool) (dy:Option Dying) (v:Value):Af (fun w=>doReturn P main fr cs dy v w):=by
 cases cs with
 | cons c rest =>
  have h0:AL c:=hc c (List.mem_cons_self ..);have hr:∀ x∈rest,AL x:=fun x hx=>hc x (List.mem_cons_of_mem _ hx)
  unfold doReturn
  dsimp only
  split
  ·exact Af.Gt (Bg h0 v) hr
  ·exact Af.Gt (Bg h0 v) hr
  ·exact Af.Gt h0 hr
  ·refine Af.Gt ?_ hr
   split
   ·split <;> exact h0
   ·exact h0
 | nil =>
  unfold doReturn
  dsimp only
  split
  ·exact Af.Gt h (by simp)
  ·exact Af.ended _
  ·split
   ·exact Af.go (Cj h (by simp)) Fe
   ·split
    ·exact Af.Gt (Dl _ _ _) (by simp)
    ·exact Af.ended _
theorem LY (hP:EJ P) {fr:Frame} {cs:List Frame} (h:AL fr) (hc:∀ c∈cs,AL c) (dy:Option Dying) (d:Deferred):Af (fun w=>callDeferred P fr cs dy d w):=by
 have hcc:=KG h hc;unfold callDeferred;refine Af.ite _ (fun _ _ _ _=>rfl) (Af.ended _) ?_;apply Af.Yk (K:=Eb)
 case hG=>intro w r es hr;rw [hr]
 case hs=>exact Ib hP _ _
 case hok =>
  intro a es ha hm he;refine Af.Gu ?_ hm he _
  cases a with
  | enter f args=>exact Af.Gt (Dl _ _ _) hcc
  | round l f t a b=>exact Af.Gt (JQ _ _ _ _ _ _) hcc
  | row r args=>obtain rfl:r=F6:=ha;exact Af.Gt (MO _ _) hcc
  | recover =>
   dsimp only
   split
   ·rename_i hr;exact Af.Gt h (IW hc hr)
   ·exact Af.Gt h hc
  | coroswitch c x=>cases x with | true=>exact Af.coro (Cj h hc) c | false=>exact ha.elim
  | value v=>exact Af.Gt h hc
  | skip=>exact Af.Gt h hc
  | defer d=>exact Af.Gt h hc
  | spawn d=>exact Af.Gt h hc
  | comm c b s=>exact Af.Gt h hc
  | _=>exact ha.elim
 case hhalt =>
  intro x es hm he
  cases x with
  | panic v=>dsimp only;exact Af.Gu (Af.Gt (Dk h _) hc) hm (he.elim (fun y=>y.elim) id) _
  | goexit=>dsimp only;exact Af.Gu (Af.Gt (Dk h _) hc) hm (he.elim (fun y=>y.elim) id) _
  | fatal m=>dsimp only;exact Af.Gu (Lc h _ _) hm (he.elim (fun y=>y.elim) id) _
  | throw m=>dsimp only;exact Af.Gu (FY h _) hm (he.elim (fun y=>y.elim) id) _
  | blocked=>dsimp only;exact Af.TP (Af.go (Cj (fr:={ fr with defers:=d :: fr.defers }) h hc) DJ) _
  | waiting=>dsimp only;exact Af.TP (Af.go (Cj (fr:={ fr with defers:=d :: fr.defers }) h hc) Iq) _
  | _=>dsimp only;exact Af.JU _ _
 case hU=>exact fun u w es _=>trivial
theorem Pg (hP:EJ P) {fr:Frame} {cs:List Frame} (h:AL fr) (hc:∀ c∈cs,AL c) (main:Bool) (dy:Option Dying):Af (fun w=>unwind P main fr cs dy w):=by
 obtain ⟨fn,tmps,todo,defers,mode,kind,ro⟩:=fr
 cases defers with
 | cons d ds =>
  have hdef:Af (fun w=>callDeferred P ⟨fn,tmps,todo,ds,mode,kind,ro⟩ cs dy d w):=LY (fr:=⟨fn,tmps,todo,ds,mode,kind,ro⟩) hP h hc dy d;obtain ⟨t,a⟩:=d
  cases t with
  | collected b =>
   unfold unwind
   dsimp only
   apply Af.Yk (K:=fun _=>True)
   case hG=>intro w r es hr;rw [hr]
   case hs=>exact Cal.out
   case hok=>intro a es _ hm he;dsimp only;exact Af.Gu (Af.Gt (fr:=⟨fn,tmps,todo,a++ds,mode,kind,ro⟩) h hc) hm he _
   case hhalt=>intro x es _ _;dsimp only;exact Af.JU _ _
   case hU=>exact fun u w es _=>trivial
  | _=>exact hdef
 | nil =>
  cases mode with
  | run=>exact Af.ended _
  | panicking chain =>
   ·unfold unwind
    dsimp only
    refine Af.ite (fun _=>Frame.catches P ⟨fn,tmps,todo,[], .panicking chain,kind,ro⟩) (fun _ _ _ _=>rfl) (Af.ended _) ?_
    cases cs with
    | cons c rest=>exact Af.Gt (Dk (hc c (List.mem_cons_self ..)) chain) (fun x hx=>hc x (List.mem_cons_of_mem _ hx))
    | nil =>
     cases dy with
     | none =>
      refine Af.ite (fun _=>chain.head?.any (·.goexit)) (fun _ _ _ _=>rfl) (Af.go (g:={ frame:=⟨fn,tmps,todo,[], .panicking chain,kind,ro⟩,callers:=[],status := .finished,dying:=none }) (Cj h (fun c hx=>by cases hx)) Fe) ?_;apply Af.Aa0 (P:=P)
      case hG=>intro w r hr;rw [hr]
      case hs=>infer_instance
      case hok=>exact fun a=>Af.Gt h (fun c hx=>by cases hx)
      case hhalt=>intro x;cases x <;> exact Af.ended _
      case hU=>exact fun u w _=>trivial
     | some d =>
      dsimp only
      cases chain with
      | nil=>exact Af.ended _
      | cons e older =>
       obtain ⟨v,r,g⟩:=e
       cases g with
       | true=>exact Af.ended _
       | false=>exact Iu h v
  | returning =>
   unfold unwind
   dsimp only
   cases P.funcs[fn]? with
   | none=>exact Hg (fr:=⟨fn,tmps,todo,[], .returning,kind,ro⟩) h hc main dy (tmps.getD 0 undef)
   | some f =>
    apply Af.Yk (K:=fun _=>True)
    case hG=>intro w r es hr;dsimp only;rw [hr]
    case hs=>exact Cal.out
    case hok=>intro a es _ hm he;dsimp only;exact Af.Gu (Hg (fr:=⟨fn,tmps,todo,[], .returning,kind,ro⟩) h hc main dy a) hm he _
    case hhalt=>intro x es _ _;cases x <;> (dsimp only;exact Af.JU _ _)
    case hU=>exact fun u w es _=>trivial
theorem U3:Extern.next F6=some (Extern.PrintPieces.piece #[] #[]):=by
 unfold Extern.next
 have:Extern.allNextRows.lookup F6=some Extern.PrintPieces.piece:=by
  rfl
 rw [this];rfl
theorem Ld {fr:Frame} {cs:List Frame} (h:AL fr) (hc:∀ c∈cs,AL c) (dy:Option Dying) {s:Sem Next} (hs:calm P Eb s 0):Af (fun w=>stepG.apply P true fr cs dy s w):=by
 have hcc:=KG h hc;have nc:∀ d x r y k,fr.todo ≠ .call d x r y :: k:=fun d x r y k e=>h (.call d x r y) (by rw [e];exact List.mem_cons_self ..)
 unfold stepG.apply
 dsimp only
 simp only [if_true];apply Af.Yk (K:=Eb)
 case hG=>intro w r es hr;rw [hr]
 case hs=>exact hs
 case hok =>
  intro a es ha hm he
  dsimp only
  refine Af.after ?_ (fun _ _ =>?_)
  ·cases a with
   | value v=>exact Af.Gt (Bg h v) hc
   | skip=>exact Af.Gt (Bg h _) hc
   | enter f args=>exact Af.Gt (Dl _ _ _) hcc
   | round l f t a b=>exact Af.Gt (JQ _ _ _ _ _ _) hcc
   | row r args =>
    obtain rfl:r=F6:=ha
    dsimp only
    split
    ·rename_i he
     refine Af.Gt (fun it hi =>?_) hc;rcases List.mem_cons.1 hi with rfl | hi
     ·rfl
     ·exact h it (by rw [he];exact List.mem_cons_of_mem _ hi)
    ·exact Af.Gt (MO _ _) hcc
   | defer d=>exact Af.Gt (Bg (fr:={ fr with defers:=d :: fr.defers }) h undef) hc
   | recover =>
    dsimp only
    split
    ·rename_i hr
     refine Af.Gt (Bg h _) ?_
     split at hr
     ·split at hr
      ·exact IW hc hr
      ·exact NF hc hr
     ·exact IW hc hr
    ·exact Af.Gt (Bg h _) hc
   | comm c b s=>exact Af.comm (Cj h hc) AA c b s
   | coroswitch c x=>cases x with | true=>exact Af.coro (Cj h hc) c | false=>exact ha.elim
   | spawn d =>
    dsimp only
    refine Af.ite _ (fun _ _ _ _=>rfl) (FY h _) ?_;exact Af.spawn (Cj (Bg h undef) hc) AA _
   | _=>exact ha.elim
  ·rw [FQ _ _ (by split <;> first | exact hm | exact fun e he=>by simp at he)]
   split
   ·rfl
   ·exact he
 case hhalt =>
  intro x es hm he
  have hq:∀ (q:Bool),¬ FO x→deafBehind 0 (seen P fr.fn (if q=true then #[] else es))=0:=fun q hx=>by
   rw [FQ _ _ (by split <;> first | exact hm | exact fun e he=>by simp at he)]
   split
   ·rfl
   ·exact he.elim (fun y=>absurd y hx) id
  have hz:∀ (q:Bool),deafBehind 0 (seen P fr.fn (if q=true then #[] else #[]))=0:=fun q=>by split <;> rfl
  cases x with
  | panic v=>exact Af.after (Af.Gt (Dk h _) hc) (fun _ _=>hq _ (fun y=>y))
  | goexit=>exact Af.after (Af.Gt (Dk h _) hc) (fun _ _=>hq _ (fun y=>y))
  | fatal m=>exact Af.after (Lc h _ _) (fun _ _=>hq _ (fun y=>y))
  | throw m=>exact Af.after (FY h _) (fun _ _=>hq _ (fun y=>y))
  | blocked=>exact Af.after (Af.go (Cj h hc) DJ) (fun _ _=>hz _)
  | waiting=>exact Af.after (Af.go (Cj h hc) Iq) (fun _ _=>hz _)
  | unsupported u=>cases u <;> dsimp only <;> first | exact Af.JU _ _ | exact Af.after (Qm h hc _ _) (fun _ _=>hz _)
  | _=>dsimp only;exact Af.JU _ _
 case hU=>intro u w es hu;cases u <;> first | trivial | exact absurd rfl (hu _)
theorem RX (hP:EJ P) {fr:Frame} {cs:List Frame} (h:AL fr) (hc:∀ c∈cs,AL c) (main:Bool) (dy:Option Dying):Af (fun w=>stepG.exec P main true fr cs dy w):=by
 obtain ⟨fn,tmps,todo,defers,mode,kind,ro⟩:=fr;have sub:∀ {x:Item} {k:List Item},todo=x :: k→∀ it∈k,Ig it:=fun e it hi=>h it (by subst e;exact List.mem_cons_of_mem _ hi)
 have to:∀ k:List Item,(∀ it∈k,Ig it)→Af (fun w=>(.go { frame:=⟨fn,tmps,k,defers,mode,kind,ro⟩,callers:=cs,status := .running,dying:=dy } w:GStep)):=fun k hk=>Af.Gt (fr:=⟨fn,tmps,k,defers,mode,kind,ro⟩) hk hc
 have cons:∀ {x:Item} {k:List Item},Ig x→(∀ it∈k,Ig it)→∀ it∈x :: k,Ig it:=fun hx hk it hi=>by
  rcases List.mem_cons.1 hi with rfl | hi
  ·exact hx
  ·exact hk it hi
 have back:∀ m:FrameMode,Af (fun w=>(.go { frame:=⟨fn,tmps,todo,defers,m,kind,ro⟩,callers:=cs,status := .running,dying:=dy } w:GStep)):=fun m=>Af.Gt (fr:=⟨fn,tmps,todo,defers,m,kind,ro⟩) h hc
 have round:∀ (l:Nat) (j:Option Code),Af (fun w=>match (Instr.endRound l j).runT P w #[] with
   | (r,es)=>GStep.after (seen P fn es) (match r with
    | .ok v w=>doReturn P main ⟨fn,tmps,todo,defers,mode,kind,ro⟩ cs dy v w
    | .halt _ w => .ended (.stuck "range over a function: no such loop" (Frame.pos P ⟨fn,tmps,todo,defers,mode,kind,ro⟩)) w)):=fun l j=>by
  apply Af.Yk (K:=fun _=>True)
  case hG=>intro w r es hr;rw [hr]
  case hs=>exact Cal.out
  case hok=>intro a es _ hm he;dsimp only;exact Af.Gu (Hg h hc main dy a) hm he _
  case hhalt=>intro x es _ _;dsimp only;exact Af.JU _ _
  case hU=>exact fun u w es _=>trivial
 have app:∀ s:Sem Next,calm P Eb s 0→Af (fun w=>stepG.apply P true ⟨fn,tmps,todo,defers,mode,kind,ro⟩ cs dy s w):=fun s hs=>Ld h hc dy hs
 have fin:∀ v,Af (fun w=>(.go { frame:=Frame.finish ⟨fn,tmps,todo,defers,mode,kind,ro⟩ v,callers:=cs,status := .running,dying:=dy } w:GStep)):=fun v=>Af.Gt (Bg h v) hc
 unfold stepG.exec
 dsimp only
 cases todo with
 | nil=>cases ro with | none=>exact back _ | some l=>exact round l none
 | cons it k =>
  have hk:=sub rfl
  cases it with
  | code c =>
   cases c with
   | ret=>cases ro with | none=>exact back _ | some l=>exact round l _
   | skip=>exact to k hk
   | label l=>exact to k hk
   | seq a b=>exact to _ (cons trivial (cons trivial hk))
   | cond x a b =>
    dsimp only
    split
    ·exact to _ (cons trivial hk)
    ·exact Af.ended _
   | block id b=>exact to _ (cons trivial (cons trivial hk))
   | loop b=>exact to _ (cons trivial (cons trivial hk))
   | scope b=>exact to _ (cons trivial (cons trivial hk))
   | exit id =>
    dsimp only
    cases he:exitTo id k with
    | none=>cases ro with | none=>exact Af.ended _ | some l=>exact round l _
    | some k'=>exact to k' (U9 hk he)
   | goto l =>
    dsimp only
    cases he:gotoIn l k with
    | none=>cases ro with | none=>exact Af.ended _ | some l=>exact round l _
    | some k'=>exact to k' (U8 hk he)
   | rangeFunc f params assign body =>
    dsimp only
    apply Af.Yk (K:=fun _=>True)
    case hG=>intro w r es hr;rw [hr]
    case hs=>exact Cal.out
    case hok =>
     intro a es _ hm he
     dsimp only
     refine Af.Gu ?_ hm he _;exact Ld (fr:=⟨fn,tmps, .inRangeFunc a.1 :: k,a.2++defers,mode,kind,ro⟩) (cons trivial hk) hc dy (Bz _ _ (fun d=>Ib hP _ _))
    case hhalt=>intro x es _ _;dsimp only;exact Af.JU _ _
    case hU=>exact fun u w es _=>trivial
   | region id ops draw =>
    cases draw with
    | false=>exact to _ (cons trivial hk)
    | true =>
     simp only [Bool.not_true,Bool.false_eq_true,if_false];apply Af.Aa0 (P:=P)
     case hG=>intro w r hr;rw [hr]
     case hs=>infer_instance
     case hok=>exact fun a=>to _ (cons trivial hk)
     case hhalt=>exact fun x=>Af.ended _
     case hU=>exact fun u w _=>trivial
   | refuse why=>exact Af.ended _
  | inBlock id=>exact to k hk
  | inLoop b=>exact to _ (cons trivial (cons trivial hk))
  | inScope b=>exact to k hk
  | inRegion ops l =>
   cases l with
   | nil=>exact to k hk
   | cons i rest =>
    dsimp only
    refine Af.ite _ (fun _ _ _ _=>rfl) ?_ (fin undef);unfold stepG.oper
    dsimp only
    split
    ·exact Af.ended _
    ·split
     ·exact app _ (Bz _ _ (fun d=>Bz _ _ (fun u=>⟨rfl,trivial⟩)))
     ·exact app _ (Tq hP _ _)
  | inRangeFunc l=>exact Af.ended _
  | endRangeFunc l =>
   dsimp only
   apply Af.Yk (K:=fun _=>True)
   case hG=>intro w r es hr;rw [hr]
   case hs=>exact Cal.out
   case hok =>
    intro a es _ hm he
    dsimp only
    refine Af.Gu (to _ (fun it hi =>?_)) hm he _;rcases List.mem_append.1 hi with hi | hi
    ·cases a with
     | none=>cases hi
     | some c=>obtain rfl:=List.mem_singleton.1 hi;trivial
    ·exact hk it hi
   case hhalt =>
    intro x es hm he
    cases x with
    | panic v=>exact Af.Gu (Af.Gt (Dk h _) hc) hm (he.elim (fun y=>y.elim) id) _
    | _=>dsimp only;exact Af.JU _ _
   case hU=>exact fun u w es _=>trivial
  | beginRound =>
   cases ro with
   | none=>exact app _ (Bz (stuck _) _ (fun u=>⟨rfl,trivial⟩))
   | some l=>exact app _ (Bz (Instr.beginRound l) _ (fun u=>⟨rfl,trivial⟩))
  | call d wr r s=>exact (h (.call d wr r s) (List.mem_cons_self ..)).elim
  | extern row args =>
   have hrow:row=F6:=h (.extern row args) (List.mem_cons_self ..);subst hrow
   dsimp only
   rw [U3];exact app _ (OB _ _ _)
theorem A7 (hP:EJ P) {g:Goroutine} (hg:Du g) (main:Bool):Af (fun w=>stepG P main g w):=by
 obtain ⟨fr,cs,st,dy,of⟩:=g;obtain ⟨h,hc⟩:=hg;unfold stepG
 dsimp only
 split
 ·exact UK hP h _
 ·exact RX hP h hc main _
 ·exact Pg hP h hc main _
end
end
end Go.Proofs.Ytgdobbcjkiapkaa
