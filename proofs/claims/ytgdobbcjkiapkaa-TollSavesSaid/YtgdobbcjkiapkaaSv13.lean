import Derived.Test.YtgdobbcjkiapkaaSv12
import Derived.Conc.CompanyWords
namespace Go.Proofs.Ytgdobbcjkiapkaa
set_option maxRecDepth 100000
set_option maxHeartbeats 4000000
set_option linter.unusedSimpArgs false
set_option linter.unusedVariables false
section
open Go Go.Conc
open Go.ConcN (sumTo upd sumTo_upd upd_ne upd_same)
def acts (A:Nat→Option Wk) (m:Nat):List Value:=(List.range m).filterMap fun j=>(A j).map Wk.v
theorem FT (A:Nat→Option Wk) (m:Nat):acts A (m+1)=acts A m++((A m).map Wk.v).toList:=by
 unfold acts;rw[List.range_succ,List.filterMap_append]
 cases h:A m<;>simp[h]
theorem LX {A A':Nat→Option Wk}:∀ {m:Nat},(∀ j,j<m→A' j=A j)→acts A' m=acts A m
 | 0,_=>rfl
 | m+1,h=>by rw[FT,FT,LX (fun j hj=>h j (by omega)),h m (by omega)]
theorem RN {A:Nat→Option Wk}:∀ {m:Nat},acts A m=[]→∀ j,j<m→A j=none
 | 0,_,j,hj=>by omega
 | m+1,h,j,hj=>by
  rw[FT,List.append_eq_nil_iff]at h
  by_cases e:j=m
  ·subst e
   cases hA:A j with
   | none=>rfl
   | some d=>rw[hA]at h;simp at h
  ·exact RN h.1 j (by omega)
theorem RJ {A:Nat→Option Wk}:∀ {m:Nat},acts A m≠[]→∃ j d,A j=some d
 | 0,h=>absurd rfl h
 | m+1,h=>by
  cases hA:A m with
  | some d=>exact⟨m,d,hA⟩
  | none =>
   rw[FT,hA]at h;exact RJ (m:=m) (by simpa using h)
theorem RP {A:Nat→Option Wk}{i:Nat}{d:Wk}(hi:A i=some d):∀ {m:Nat},i<m→(acts A m).Perm (d.v::acts (fun j=>if j=i then none else A j) m)
 | 0,h=>by omega
 | m+1,h=>by
  rw[FT,FT]
  by_cases e:i=m
  ·subst e;rw[LX (A:=A) (A':=fun j=>if j=i then none else A j) (fun j hj=>by simp[show j≠i by omega]),hi];simp
  ·have:=RP (A:=A) hi (m:=m) (by omega);have e':m≠i:=fun x=>e x.symm
   simp only[e',if_false];exact this.append_right _
section
variable (P:Program) (M:Machine) (Safe:Obj→Prop) (c:Nat)
def PX (n:Nat) (L:List Value) (K:Nat) (g:Goroutine) (W:World):Prop:=∃ gs sl t q A,IL P Safe c M n gs W sl t q A K g∧(acts A gs.size).Perm L
end
section
variable {P:Program}{M:Machine}{Safe:Obj→Prop}{c:Nat}{n:Nat}{L:List Value}{K:Nat}{g:Goroutine}{w W:World}
theorem Ua:∀ m,acts (fun _=>none) m=[]:=by
 intro m
 induction m with
 | zero=>rfl
 | succ m ih=>rw[FT,ih];rfl
theorem Y3 (h:IM P M n g w) {s:Nat}{tm:Bool}(hc:w.heap[c]?=some (.chan 0 #[] false s s tm)) (hu:∀ s r tm,¬ Safe (.chan 0 #[] false s r tm)):∃ W,w=Wq P M n W∧PX P M Safe c n [] w.heap.size g W:=by
 obtain⟨gs,W,sl,t,q,hb⟩:=h;have hw:=hb.world;obtain⟨B,hp⟩:=hb.past;have hh:w.heap=W.heap:=by rw[hw];rfl
 have hcl:c<w.heap.size:=lt_of_some hc;exact⟨W,hw,gs,sl,t,q,fun _=>none,⟨hb.run,hb.zero,hb.tape,hb.plain,⟨s,tm,by rw[← hh];exact hc⟩,hcl,by rw[hh];exact Nat.le_refl _,hu,.start hp,rfl,fun j x hj hx=>hb.leave.old j x hj hx,fun j hj=>⟨hb.leave.above j hj,rfl⟩,fun j d hj=>by cases hj⟩,by rw[Ua]⟩
theorem Aaa (h:PX P M Safe c n [] K g W) (hg:g.status=.running):IM P M n g (Wq P M n W):=by
 obtain⟨gs,sl,t,q,A,hM,hL⟩:=h
 have hA:∀ j,A j=none:=fun j=>by
  rcases Nat.lt_or_ge j gs.size with hj|hj
  ·exact RN (List.Perm.eq_nil hL) j hj
  ·exact(hM.above j hj).2
 exact⟨gs,W,sl,t,q,hM.run,hM.zero,hM.tape,rfl,⟨fun i x hi hx=>by have:=hM.others i x hi hx;rw[hA i]at this;exact this,fun j hj=>(hM.above j hj).1⟩,hM.trace.past hA,hM.plain,by rw[hg];exact AP⟩
theorem SY (hP:EK P) (h:PX P M Safe c n L K g w) (hg:g.status=.running) {Nx:Goroutine→World→Prop}
  (hs:∀ w₁,Grown c w w₁→(stepG P true g w₁).goes fun g' w' es=>Di Safe K w₁ w' es∧Nx g' w'):∃ n' g' w',n≤n'∧PX P M Safe c n' L K g' w'∧Nx g' w':=by
 obtain⟨gs,sl,t,q,A,hM,hL⟩:=h;obtain⟨n',gs',W',sl',t',q',d,sl'',hn,hM',hgr,hsz,hm⟩:=IL.pick hP hg _ n gs w sl t q (Nat.le_refl _) hM;obtain⟨g',w',es,hgo,hD,hN⟩:=goes_elim (hs (W'.at d) (hgr.trans (Grown.at W' d)));have hsz2:∀ gs'' t'',IL P Safe c M (n'+1) gs'' w' sl'' t'' q' A K g'→(acts A gs''.size).Perm L→∃ n' g' w',n≤n'∧PX P M Safe c n' L K g' w'∧Nx g' w':=fun gs'' t'' hM'' hp=>⟨n'+1,g',w',by omega,⟨gs'',sl'',t'',q',A,hM'',hp⟩,hN⟩
 obtain⟨gs'',t'',hM'',hsz''⟩:=hM'.own hP hm hgo hD;exact hsz2 gs'' t'' hM'' (by rw[hsz'',hsz];exact hL)
theorem Y4 (hP:EK P) (h:PX P M Safe c n L K g w) (hg:g.status=.running) {v:Value}{m:Nat}{Nx:Goroutine→World→Prop}
  (hs:∀ w₁,Grown c w w₁→∃ g' child w' es,stepG P true g w₁=.spawn g' child w' es∧Di Safe K w₁ w' es∧DR child∧Goes P false (Az Safe c w'.heap.size) (Be Safe c w'.heap.size) (RU P Safe c w'.heap.size v) m child w'∧Nx g' w') :
  ∃ n' g' w',n≤n'∧PX P M Safe c n' (L++[v]) w'.heap.size g' w'∧Nx g' w':=by
 obtain⟨gs,sl,t,q,A,hM,hL⟩:=h;obtain⟨n',gs',W',sl',t',q',d,sl'',hn,hM',hgr,hsz,hm⟩:=IL.pick hP hg _ n gs w sl t q (Nat.le_refl _) hM;obtain⟨g',child,w',es,hgo,hD,hcp,hch,hN⟩:=hs (W'.at d) (hgr.trans (Grown.at W' d));obtain⟨gs'',t'',q'',hM'',hsz''⟩:=hM'.spawn hP hm hgo hD hcp hch;refine⟨n'+1,g',w',by omega,⟨gs'',sl'',t'',q'',_,hM'',?_⟩,hN⟩;rw[hsz'',FT,LX (A:=A) (A':=fun j=>if j=gs'.size then some ⟨w'.heap.size,v⟩ else A j) (fun j hj=>by simp[show j≠gs'.size by omega]),hsz];simp only[if_true,Option.map_some,Option.toList_some];exact hL.append_right _
theorem Aay (hP:EK P) (h:PX P M Safe c n L K g w) (hg:g.status=.running) (hne:L≠[]) {g₂:Goroutine}{z:Value}{f:Bool}
  (hs:∀ w₁,Grown c w w₁→∃ es,stepG P true g w₁=.comm g₂ #[rcase c z] true (.recv f) w₁ es∧Di Safe K w₁ w₁ es) :
  ∃ n' w' v L',n≤n'∧L.Perm (v::L')∧PX P M Safe c n' L' K (Conc.served g₂ (recvd f v true)) w'∧Grown c w w':=by
 obtain⟨gs,sl,t,q,A,hM,hL⟩:=h;obtain⟨n',gs',W',sl',t',q',d,sl'',hn,hM',hgr,hsz,hm⟩:=IL.pick hP hg _ n gs w sl t q (Nat.le_refl _) hM;obtain⟨es,hgo,hD⟩:=hs (W'.at d) (hgr.trans (Grown.at W' d))
 have hact:∃ j d,A j=some d:=RJ (m:=gs.size) fun e=>by
  rw[e]at hL;exact hne (List.Perm.eq_nil hL.symm)
 obtain⟨n'',gs'',W'',sl3,t'',q'',i,dd,hn',hA,hil,hM'',hgr',hsz'⟩:=hM'.recv hP hact hm hgo hD;refine⟨n'',W'',dd.v,_,by omega,?_,⟨gs'',sl3,t'',q'',_,hM'',.refl _⟩,hgr.trans hgr'⟩;rw[hsz',hsz];exact hL.symm.trans (RP hA (by omega))
end
section
variable (P:Program) (M:Machine) (Safe:Obj→Prop) (c:Nat)
def Aan (n:Nat) (b:Frame) (k:List Item) (cs:List Frame):Exit→Act→World→List Value→Nat→Prop
 | .normal,a,w,L,K=>∃ n' w₁,n≤n'∧Grown c w w₁∧PX P M Safe c n' L K (G (b.at a k) cs) w₁
 | .exit id,a,w,L,K=>∃ k',exitTo id k=some k'∧∃ n' w₁,n≤n'∧Grown c w w₁∧PX P M Safe c n' L K (G (b.at a k') cs) w₁
 | .ret,a,w,L,K=>∃ todo n' w₁,n≤n'∧Grown c w w₁∧PX P M Safe c n' L K (G { b.at a todo with mode:=.returning } cs) w₁
 | _,_,_,_,_=>False
def AbK (fn:FuncId) (item:Item) (Q:Exit→Act→World→List Value→Nat→Prop) (a:Act) (w:World) (L:List Value) (K:Nat):Prop :=
 ∀ (w₁:World),Grown c w w₁→∀ (b:Frame) (k:List Item) (cs:List Frame) (n:Nat),b.fn=fn→b.kind ≠ .early→PX P M Safe c n L K (G (b.at a (item::k)) cs) w₁ →
  (∀ id a' w' L' K',Q (.exit id) a' w' L' K'→∃ k',exitTo id k=some k')→∃ e a' w' L' K',Q e a' w' L' K'∧Aan P M Safe c n b k cs e a' w' L' K'
abbrev wpP (fn:FuncId) (x:Code):=AbK P M Safe c fn (.code x)
abbrev Qo (fn:FuncId) (ops:Array Oper) (todo:List Nat):=AbK P M Safe c fn (.inRegion ops todo)
end
section
variable {P:Program}{M:Machine}{Safe:Obj→Prop}{c:Nat}{fn:FuncId}{Q:Exit→Act→World→List Value→Nat→Prop}{a:Act}{w:World}{L:List Value}{K:Nat}
theorem Aan.later {n n':Nat}(h:n≤n') {b:Frame}{k:List Item}{cs:List Frame}{e:Exit}(hx:Aan P M Safe c n' b k cs e a w L K):Aan P M Safe c n b k cs e a w L K:=by
 cases e with
 | normal=>obtain⟨m,w₁,hm,r⟩:=hx;exact⟨m,w₁,by omega,r⟩
 | exit id=>obtain⟨k',hk,m,w₁,hm,r⟩:=hx;exact⟨k',hk,m,w₁,by omega,r⟩
 | ret=>obtain⟨t,m,w₁,hm,r⟩:=hx;exact⟨t,m,w₁,by omega,r⟩
 | _=>exact hx.elim
theorem Aan.pass {n:Nat}{b:Frame}{x:Item}{k:List Item}{cs:List Frame}{e:Exit}(hx:x.plain=true) (he:e ≠ .normal) (h:Aan P M Safe c n b (x::k) cs e a w L K):Aan P M Safe c n b k cs e a w L K:=by
 cases e with
 | normal=>exact absurd rfl he
 | exit id=>obtain⟨k',hk,r⟩:=h;exact⟨k',by cases x<;>simp_all [exitTo,Item.plain],r⟩
 | ret=>exact h
 | _=>exact h.elim
theorem Wn {item:Item}{w₁:World}(h:AbK P M Safe c fn item Q a w L K) (hr:Grown c w w₁):AbK P M Safe c fn item Q a w₁ L K :=
 fun w₂ h₂=>h w₂ (hr.trans h₂)
theorem JD (hP:EK P) {n:Nat}{b:Frame}{k k':List Item}{cs:List Frame}{a':Act}(h:PX P M Safe c n L K (G (b.at a k) cs) w)
  (hs:∀ w,stepG P true (G (b.at a k) cs) w=.go (G (b.at a' k') cs) w #[]):∃ n' w',n≤n'∧Grown c w w'∧PX P M Safe c n' L K (G (b.at a' k') cs) w':=by
 obtain⟨n',g',w',hn,hp,rfl,hg⟩:=SY hP h rfl (Nx:=fun g' w'=>g'=G (b.at a' k') cs∧Grown c w w') fun w₁ h₁=>by
  rw[hs];exact⟨Di.idle _,rfl,h₁⟩
 exact⟨n',w',hn,hg,hp⟩
theorem Uf (hP:EK P) (h:Q .normal a w L K):wpP P M Safe c fn .skip Q a w L K:=fun w₁ h₁ b k cs n _ _ hx _=>by
 obtain⟨n',w',hn,hg,hp⟩:=JD hP hx fun w=>stepG_skip
 exact⟨.normal,a,w,L,K,h,n',w',hn,h₁.trans hg,hp⟩
theorem Uh (hP:EK P) {id:Nat}(h:Q (.exit id) a w L K):wpP P M Safe c fn (.exit id) Q a w L K:=fun w₁ h₁ b k cs n _ _ hx hex=>by
 obtain⟨k',hk⟩:=hex _ _ _ _ _ h;obtain⟨n',w',hn,hg,hp⟩:=JD hP hx fun w=>stepG_exit hk
 exact⟨.exit id,a,w,L,K,h,k',hk,n',w',hn,h₁.trans hg,hp⟩
theorem Aaq (hP:EK P) (h:Q .ret a w L K):wpP P M Safe c fn .ret Q a w L K:=fun w₁ h₁ b k cs n _ _ hx _=>by
 obtain⟨n',g',w',hn,hp,rfl,hg⟩:=SY hP hx rfl (Nx:=fun g' w'=>g'=G { b.at a (.code .ret::k) with mode:=.returning } cs∧Grown c w w') fun w₂ h₂=>by
  rw[stepG_ret'];exact⟨Di.idle _,rfl,h₁.trans h₂⟩
 exact⟨.ret,a,w,L,K,h,_,n',w',hn,hg,hp⟩
theorem NH {id:Nat}{x:Item}{k k':List Item}(hx:∀ i,x ≠ .inBlock i) (h:exitTo id k=some k'):∃ k'',exitTo id (x::k)=some k'':=by
 cases x<;>first|exact⟨k',by simpa[exitTo] using h⟩|exact absurd rfl (hx _)
theorem EX (hP:EK P) {x y:Code}(h:wpP P M Safe c fn x (fun e a' w' L' K'=>Exit.then (fun a' w'=>wpP P M Safe c fn y Q a' w' L' K') (fun e a w=>Q e a w L' K') e a' w') a w L K):wpP P M Safe c fn (.seq x y) Q a w L K:=by
 intro w₁ h₁ b k cs n hb hk hx hex;obtain⟨n0,w0,hn0,hg0,hp0⟩:=JD hP hx fun w=>stepG_seq
 obtain⟨e,a₁,w₂,L₁,K₁,hq,harr⟩:=h w0 (h₁.trans hg0) b (.code y::k) cs n0 hb hk hp0 (fun id a' w' L' K' q=>NH (by simp) (hex id a' w' L' K' q).choose_spec)
 cases e with
 | normal =>
  obtain⟨n1,w3,hn1,hg1,hp1⟩:=harr;obtain⟨e₂,a₂,w₄,L₂,K₂,hq₂,harr₂⟩:=hq w3 hg1 b k cs n1 hb hk hp1 hex;exact⟨e₂,a₂,w₄,L₂,K₂,hq₂,harr₂.later (by omega)⟩
 | exit id=>exact⟨_,a₁,w₂,L₁,K₁,hq,(harr.pass (x:=.code y) rfl (by simp)).later hn0⟩
 | ret=>exact⟨_,a₁,w₂,L₁,K₁,hq,(harr.pass (x:=.code y) rfl (by simp)).later hn0⟩
 | _=>exact harr.elim
theorem MZ (hP:EK P) {o:Operand}{x y:Code}{t:Bool}(hc:a.eval o=.bool t) (h:wpP P M Safe c fn (if t then x else y) Q a w L K):wpP P M Safe c fn (.cond o x y) Q a w L K:=by
 intro w₁ h₁ b k cs n hb hk hx hex;obtain⟨n0,w0,hn0,hg0,hp0⟩:=JD hP hx fun w=>stepG_cond hc
 obtain⟨e,a',w',L',K',q,r⟩:=h w0 (h₁.trans hg0) b k cs n0 hb hk hp0 hex;exact⟨e,a',w',L',K',q,r.later hn0⟩
theorem J6 (hP:EK P) {id:Nat}{x:Code}(h:wpP P M Safe c fn x (fun e a' w' L' K'=>Exit.inBlock id (fun e a w=>Q e a w L' K') e a' w') a w L K):wpP P M Safe c fn (.block id x) Q a w L K:=by
 intro w₁ h₁ b k cs n hb hk hx hex;obtain⟨n0,w0,hn0,hg0,hp0⟩:=JD hP hx fun w=>stepG_block
 obtain⟨e,a₁,w₂,L₁,K₁,hq,harr⟩:=h w0 (h₁.trans hg0) b (.inBlock id::k) cs n0 hb hk hp0 (fun id' a' w' L' K' q=>by
  by_cases hid:id'=id
  ·exact⟨k,by simp[exitTo,hid]⟩
  ·simp only[Exit.inBlock,hid,if_false]at q;obtain⟨k',hk'⟩:=hex id' a' w' L' K' q;have:(id == id')=false:=by simp;exact fun h=>hid h.symm
   exact⟨k',by simp[exitTo,this,hk']⟩)
 cases e with
 | normal =>
  obtain⟨n1,w3,hn1,hg1,hp1⟩:=harr;obtain⟨n2,w4,hn2,hg2,hp2⟩:=JD hP hp1 fun w=>stepG_inBlock
  exact⟨.normal,a₁,w₂,L₁,K₁,hq,n2,w4,by omega,hg1.trans hg2,hp2⟩
 | exit id' =>
  obtain⟨k',hk',n1,w3,hn1,hg1,hp1⟩:=harr
  by_cases hid:id'=id
  ·simp only[Exit.inBlock,hid,if_true]at hq;have:k'=k:=by simpa[exitTo,hid] using hk'.symm
   subst this;exact⟨.normal,a₁,w₂,L₁,K₁,hq,n1,w3,by omega,hg1,hp1⟩
  ·simp only[Exit.inBlock,hid,if_false]at hq;have:(id == id')=false:=by simp;exact fun h=>hid h.symm
   exact⟨.exit id',a₁,w₂,L₁,K₁,hq,k',by simpa[exitTo,this] using hk',n1,w3,by omega,hg1,hp1⟩
 | ret=>obtain⟨t,n1,w3,hn1,r⟩:=harr;exact⟨.ret,a₁,w₂,L₁,K₁,hq,t,n1,w3,by omega,r⟩
 | _=>exact harr.elim
theorem Ug (hP:EK P) {x:Code}(I:Act→World→List Value→Nat→Prop) (μ:Act→World→List Value→Nat→Nat) (h₀:I a w L K)
  (round:∀ a w L K,I a w L K→wpP P M Safe c fn x (fun e a' w' L' K'=>Exit.then (fun a' w'=>I a' w' L' K'∧μ a' w' L' K'<μ a w L K) (fun e a w=>Q e a w L' K') e a' w') a w L K):wpP P M Safe c fn (.loop x) Q a w L K:=by
 intro w₁ h₁ b k cs n hb hk hx hex
 have key:∀ (m:Nat) (a:Act) (w w₁:World) (L:List Value) (K:Nat) (n:Nat),μ a w L K=m→I a w L K→Grown c w w₁→PX P M Safe c n L K (G (b.at a (.code x :: .inLoop x::k)) cs) w₁→∃ e a' w' L' K',Q e a' w' L' K'∧Aan P M Safe c n b k cs e a' w' L' K':=by
  intro m
  induction m using Nat.strongRecOn with
  | _ m ih =>
   intro a w w₁ L K n hm hI hgr hx;obtain⟨e,a₁,w₂,L₁,K₁,hq,harr⟩:=round a w L K hI w₁ hgr b (.inLoop x::k) cs n hb hk hx (fun id a' w' L' K' q=>NH (by simp) (hex id a' w' L' K' q).choose_spec)
   cases e with
   | normal =>
    obtain⟨hI₁,hlt⟩:=hq;obtain⟨n1,w3,hn1,hg1,hp1⟩:=harr;obtain⟨n2,w4,hn2,hg2,hp2⟩:=JD hP hp1 fun w=>stepG_inLoop
    obtain⟨e₂,a₂,w₅,L₂,K₂,hq₂,harr₂⟩:=ih _ (hm ▸ hlt) a₁ w₂ w4 L₁ K₁ n2 rfl hI₁ (hg1.trans hg2) hp2;exact⟨e₂,a₂,w₅,L₂,K₂,hq₂,harr₂.later (by omega)⟩
   | exit id=>exact⟨_,a₁,w₂,L₁,K₁,hq,harr.pass (x:=.inLoop x) rfl (by simp)⟩
   | ret=>exact⟨_,a₁,w₂,L₁,K₁,hq,harr.pass (x:=.inLoop x) rfl (by simp)⟩
   | _=>exact harr.elim
 obtain⟨n0,w0,hn0,hg0,hp0⟩:=JD hP hx fun w=>stepG_loop
 obtain⟨e,a',w',L',K',hq,harr⟩:=key _ a w w0 L K n0 rfl h₀ (h₁.trans hg0) hp0;exact⟨e,a',w',L',K',hq,harr.later hn0⟩
theorem Dj (hP:EK P) {id:Nat}{ops:Array Oper}(h:Qo P M Safe c fn ops (List.range ops.size) Q a w L K):wpP P M Safe c fn (.region id ops false) Q a w L K:=by
 intro w₁ h₁ b k cs n hb hk hx hex;obtain⟨n0,w0,hn0,hg0,hp0⟩:=JD hP hx fun w=>stepG_region
 obtain⟨e,a',w',L',K',q,r⟩:=h w0 (h₁.trans hg0) b k cs n0 hb hk hp0 hex;exact⟨e,a',w',L',K',q,r.later hn0⟩
theorem EM (hP:EK P) {ops:Array Oper}(h:Q .normal a w L K):Qo P M Safe c fn ops [] Q a w L K:=fun w₁ h₁ b k cs n _ _ hx _=>by
 obtain⟨n',w',hn,hg,hp⟩:=JD hP hx fun w=>stepG_region_end
 exact⟨.normal,a,w,L,K,h,n',w',hn,h₁.trans hg,hp⟩
theorem QZ (hP:EK P) {ops:Array Oper}{i:Nat}{rest:List Nat}{o:Oper}(ho:ops[i]?=some o) (hw:Region.wanted o (yielded ops a.tmps)=true)
  (h:∀ w₁,Grown c w w₁→∀ Kk:Act→World→Prop,(∀ a' w',Di Safe K w₁ w' (listed P fn a o w₁)∧Qo P M Safe c fn ops rest Q a' w' L K→Kk a' w')→uponK o a Kk ((execOp a.eval o).run P w₁)):Qo P M Safe c fn ops (i::rest) Q a w L K:=by
 intro w₁ h₁ b k cs n hb hk hx hex
 obtain⟨n0,g',w0,hn0,hp0,a',rfl,hr⟩:=SY hP hx rfl (Nx:=fun g' w'=>∃ a',g'=G (b.at a' (.inRegion ops rest::k)) cs∧Qo P M Safe c fn ops rest Q a' w' L K) fun w₂ h₂=>goes_oper ho hw hk (by
  have:=h w₂ (h₁.trans h₂) _ fun _ _ x=>x
  revert this;rw[hb]
  cases (execOp a.eval o).run P w₂ with
  | ok x w'=>cases x<;>first|exact fun ⟨d,g⟩=>⟨d,_,rfl,g⟩|exact id
  | halt _ _=>exact id)
 obtain⟨e,a₁,w',L',K',q,r⟩:=hr w0 (Grown.refl _) b k cs n0 hb hk hp0 hex;exact⟨e,a₁,w',L',K',q,r.later hn0⟩
theorem Vj (hP:EK P) {ops:Array Oper}{i:Nat}{rest:List Nat}{o:Oper}{v:Value}{m:Nat}(ho:ops[i]?=some o) (hw:Region.wanted o (yielded ops a.tmps)=true)
  (h:∀ w₁,Grown c w w₁→∃ d f cap,(execOp a.eval o).run P w₁=.ok (.spawn d) w₁∧d.target=.fn f cap∧Di Safe K w₁ w₁ (listed P fn a o w₁)∧DR (born P d) ∧
   Goes P false (Az Safe c w₁.heap.size) (Be Safe c w₁.heap.size) (RU P Safe c w₁.heap.size v) m (born P d) w₁∧Qo P M Safe c fn ops rest Q (a.put o.dst undef) w₁ (L++[v]) w₁.heap.size):Qo P M Safe c fn ops (i::rest) Q a w L K:=by
 intro w₁ h₁ b k cs n hb hk hx hex
 obtain⟨n0,g',w0,hn0,hp0,rfl,hr⟩:=Y4 hP hx rfl (v:=v) (m:=m) (Nx:=fun g' w'=>g'=G (b.at (a.put o.dst undef) (.inRegion ops rest::k)) cs∧Qo P M Safe c fn ops rest Q (a.put o.dst undef) w' (L++[v]) w'.heap.size) fun w₂ h₂=>by
  obtain⟨d,f,cap,hrun,hd,hD,hpl,hgo,hnx⟩:=h w₂ (h₁.trans h₂);exact⟨_,_,_,_,stepG_spawn ho hw hk hrun hd,by rw[hb];exact hD,hpl,hgo,rfl,hnx⟩
 obtain⟨e,a₁,w',L',K',q,r⟩:=hr w0 (Grown.refl _) b k cs n0 hb hk hp0 hex;exact⟨e,a₁,w',L',K',q,r.later hn0⟩
theorem Xn (hP:EK P) {ops:Array Oper}{i:Nat}{rest:List Nat}{o:Oper}{z:Value}{f:Bool}(ho:ops[i]?=some o) (hw:Region.wanted o (yielded ops a.tmps)=true) (hne:L≠[])
  (hr:∀ w₁,Grown c w w₁→(execOp a.eval o).run P w₁=.ok (.comm #[rcase c z] true (.recv f)) w₁∧Di Safe K w₁ w₁ (listed P fn a o w₁))
  (h:∀ w₁ v L',Grown c w w₁→L.Perm (v::L')→Qo P M Safe c fn ops rest Q (a.put o.dst (recvd f v true)) w₁ L' K):Qo P M Safe c fn ops (i::rest) Q a w L K:=by
 intro w₁ h₁ b k cs n hb hk hx hex
 obtain⟨n0,w0,v,L',hn0,hp,hp0,hgr⟩:=Aay hP hx rfl hne (g₂:=G (b.at a (.inRegion ops (i::rest)::k)) cs) (z:=z) (f:=f) fun w₂ h₂=>by
  obtain⟨hrun,hD⟩:=hr w₂ (h₁.trans h₂);exact⟨_,stepG_comm ho hw hk hrun,by rw[hb];exact hD⟩
 have e:Conc.served (G (b.at a (.inRegion ops (i::rest)::k)) cs) (recvd f v true)=G (b.at (a.put o.dst (recvd f v true)) (.inRegion ops rest::k)) cs:=by
  have hfin:(b.at a (.inRegion ops (i::rest)::k)).finish (recvd f v true)=b.at (a.put o.dst (recvd f v true)) (.inRegion ops rest::k):=by rw[Frame.finish_at,ho];rfl
  unfold Conc.served G;simp only[hfin]
 rw[e]at hp0;obtain⟨e,a₁,w',L₁,K₁,q,r⟩:=h w0 v L' (h₁.trans hgr) hp w0 (Grown.refl _) b k cs n0 hb hk hp0 hex;exact⟨e,a₁,w',L₁,K₁,q,r.later hn0⟩
def Aa4 (P:Program) (M:Machine) (fn:FuncId) (x:Code) (Q:Exit→Act→World→Prop) (a:Act) (w:World):Prop :=
 ∀ (b:Frame) (k:List Item) (cs:List Frame) (n:Nat),b.fn=fn→b.kind ≠ .early→IM P M n (G (b.at a (.code x::k)) cs) w→∃ e a' w',Q e a' w'∧Yx P M n b k cs e a' w'
theorem Wl {x:Code}{QX:Exit→Act→World→Prop}(h:wpX P M x QX a w):Aa4 P M fn x QX a w:=fun b k cs n _ _ hg=>h b k cs n hg
theorem Ud (hP:EK P) {x y:Code}{QX:Exit→Act→World→Prop}(h:Aa4 P M fn x (Exit.then (Aa4 P M fn y QX) QX) a w):Aa4 P M fn (.seq x y) QX a w:=by
 intro b k cs n hb hk hg;obtain⟨n0,hn0,hg0⟩:=AA hP (.one step_seq) hg;obtain⟨e,a₁,w₁,hq,harr⟩:=h b (.code y::k) cs n0 hb hk hg0
 cases e with
 | normal =>
  obtain⟨n1,hn1,hg1⟩:=harr;obtain⟨e₂,a₂,w₂,hq₂,harr₂⟩:=hq b k cs n1 hb hk hg1;exact⟨e₂,a₂,w₂,hq₂,harr₂.later (by omega)⟩
 | exit id=>exact⟨_,a₁,w₁,hq,(harr.pass (x:=.code y) rfl (by simp)).later hn0⟩
 | goto l=>exact⟨_,a₁,w₁,hq,(harr.pass (x:=.code y) rfl (by simp)).later hn0⟩
 | ret=>exact⟨_,a₁,w₁,hq,(harr.pass (x:=.code y) rfl (by simp)).later hn0⟩
 | panic c=>exact⟨_,a₁,w₁,hq,(harr.pass (x:=.code y) rfl (by simp)).later hn0⟩
 | outgrown=>exact harr.elim
theorem OM (hP:EK P) {f:FuncId}{F:Func}{x:Code}{args:Array Value}{R:Ending→World→Prop}(hf:P.funcs[f]?=some F) (hb:F.body=some x)
  (h:Aa4 P M f x (bodyPost P F R) { tmps:=args++Array.replicate (F.ntmps-args.size) undef,defers:=[] } w) (hno:∀ w,¬ R .outgrown w):Dz P M f args w R:=by
 intro cs n hg;have henter:=enter_at (P:=P) args hf hb;rw[henter]at hg;obtain⟨e,a',w',hq,harr⟩:=h (base f) [] cs n rfl (by simp[base]) hg
 cases e with
 | normal =>
  obtain⟨hd,v,hr,hR⟩:=hq;obtain⟨n0,hn0,hg0⟩:=harr;obtain⟨n1,hn1,hg1⟩:=AA hP (.one step_end) hg0;exact⟨.returned v,w',_,n1,by omega,hR,hg1,rfl,⟨rfl,hd,rfl,F,hf,hr⟩,fun x e=>by subst e;simp⟩
 | ret =>
  obtain⟨hd,v,hr,hR⟩:=hq;obtain⟨todo,n0,hn0,hg0⟩:=harr;exact⟨.returned v,w',_,n0,hn0,hR,hg0,rfl,⟨rfl,hd,rfl,F,hf,hr⟩,fun x e=>by subst e;simp⟩
 | panic chain =>
  obtain⟨hd,hR⟩:=hq;obtain⟨todo,n0,hn0,hg0⟩:=harr;exact⟨.panicked chain,w',_,n0,hn0,hR,hg0,rfl,⟨rfl,hd,F,hf⟩,fun x e=>by subst e;simp⟩
 | exit id=>exact hq.elim
 | goto l=>exact hq.elim
 | outgrown=>exact absurd hq (hno _)
theorem Si {x:Code}{QX:Exit→Act→World→Prop}{s:Nat}{tm:Bool}(hc:w.heap[c]?=some (.chan 0 #[] false s s tm)) (hu:∀ s r tm,¬ Safe (.chan 0 #[] false s r tm))
  (h:∀ W,W.heap=w.heap→W.os=w.os→W.output=w.output→wpP P M Safe c fn x (fun e a' w' L' _=>L'=[]∧(e=.ret∨e=.normal)∧∀ w₂ w₃:World,Grown c w' w₂→w₃.heap=w₂.heap→w₃.os=w₂.os→w₃.output=w₂.output→w₃.tape=w.tape→QX e a' w₃) a W [] w.heap.size) :
  Aa4 P M fn x QX a w:=by
 intro b k cs n hb hk hg;obtain⟨W,hW,hx⟩:=Y3 hg hc hu;obtain⟨e,a',w',L',K',⟨rfl,he,hQ⟩,harr⟩:=h W (by rw[hW];rfl) (by rw[hW];rfl) (by rw[hW];rfl) W (Grown.refl _) b k cs n hb hk hx (fun id a' w' L' K' q=>by rcases q.2.1 with q|q<;>cases q);rcases he with rfl|rfl
 ·obtain⟨todo,n',w₁,hn,hgr,hp⟩:=harr;exact⟨.ret,a',Wq P M n' w₁,hQ w₁ _ hgr rfl rfl rfl (by rw[hW];rfl),todo,n',hn,Aaa hp rfl⟩
 ·obtain⟨n',w₁,hn,hgr,hp⟩:=harr;exact⟨.normal,a',Wq P M n' w₁,hQ w₁ _ hgr rfl rfl rfl (by rw[hW];rfl),n',hn,Aaa hp rfl⟩
end
end
end Go.Proofs.Ytgdobbcjkiapkaa
