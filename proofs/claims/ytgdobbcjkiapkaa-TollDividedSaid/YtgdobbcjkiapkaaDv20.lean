import Derived.Test.YtgdobbcjkiapkaaDv15
import Derived.Test.YtgdobbcjkiapkaaDv14
import Derived.Test.YtgdobbcjkiapkaaDv04
import Derived.Test.YtgdobbcjkiapkaaDv19
import Derived.Test.YtgdobbcjkiapkaaDv02
namespace Go.Proofs.Ytgdobbcjkiapkaa
set_option maxRecDepth 100000
set_option maxHeartbeats 4000000
set_option linter.unusedSimpArgs false
set_option linter.unusedVariables false
section
open Go Go.Conc
open Go.RowKit
open Go.ChangeMaps (setBlock)
def pvG (q:List ((Int×Int)×Int)):List (Value×Value):=q.map fun p=>(gk p.1, .int .i64 p.2)
theorem KG (q:List ((Int×Int)×Int)):(pvG q).length=q.length:=by simp [pvG]
theorem PL (q:List ((Int×Int)×Int)):FB (MX (pvG q)).toList q:=by
 unfold FB;apply List.ext_getElem?;intro i;rw [List.getElem?_map,Array.getElem?_toList,D6];simp only [pvG,List.getElem?_map]
 cases q[i]? <;> rfl
def F6:List ((Int×Int)×Int)→Int×Int→Nat→Option (Nat×Int)
 | [],_,_=>none
 | p :: l,k,i=>if p.1=k then some (i,p.2) else F6 l k (i+1)
def Rf:List ((Int×Int)×Int)→Int×Int→Int→List ((Int×Int)×Int)
 | [],k,v=>[(k,v)]
 | p :: l,k,v=>if p.1=k then (k,v) :: l else p :: Rf l k v
theorem JF:∀ {l:List ((Int×Int)×Int)} {k:Int×Int} {i:Nat},F6 l k i=none→atK l k=none∧∀ v,Rf l k v=l++[(k,v)]
 | [],k,i,_=>⟨rfl,fun v=>rfl⟩
 | p :: l,k,i,h=>by
  rw [F6] at h
  by_cases e:p.1=k
  ·rw [if_pos e] at h;simp at h
  ·rw [if_neg e] at h;obtain ⟨h1,h2⟩:=JF h;have e2:(p.1 == k)=false:=by simpa using e
   refine ⟨?_,fun v =>?_⟩
   ·unfold atK at h1 ⊢;rw [List.find?_cons,e2];exact h1
   ·rw [Rf,if_neg e,h2];rfl
theorem JE:∀ {l:List ((Int×Int)×Int)} {k:Int×Int} {i j:Nat} {u:Int},F6 l k i=some (j,u)→i≤j∧j-i < l.length∧l[j-i]? = some (k,u)∧atK l k=some u∧∀ v,Rf l k v=l.set (j-i) (k,v)
 | [],k,i,j,u,h=>by simp [F6] at h
 | p :: l,k,i,j,u,h=>by
  rw [F6] at h
  by_cases e:p.1=k
  ·rw [if_pos e] at h;simp only [Option.some.injEq,Prod.mk.injEq] at h;obtain ⟨rfl,rfl⟩:=h;refine ⟨Nat.le_refl _,by simp,by simp [← e],?_,fun v =>?_⟩
   ·unfold atK;rw [List.find?_cons,show (p.1 == k)=true by simpa using e];rfl
   ·rw [Rf,if_pos e];simp
  ·rw [if_neg e] at h;obtain ⟨h1,h2,h3,h4,h5⟩:=JE h;have hj:j-i=(j-(i+1))+1:=by omega
   refine ⟨by omega,by simp only [List.length_cons];omega,by rw [hj];simpa using h3,?_,fun v =>?_⟩
   ·unfold atK at h4 ⊢;rw [List.find?_cons,show (p.1 == k)=false by simpa using e];exact h4
   ·rw [Rf,if_neg e,h5,hj];rfl
theorem XI (l:List ((Int×Int)×Int)) (k k':Int×Int) (v:Int):atK (Rf l k v) k'=if k'=k then some v else atK l k':=by
 induction l with
 | nil =>
  by_cases e:k'=k
  ·subst e;simp [Rf,atK]
  ·have:(k == k')=false:=by simpa using fun h=>e h.symm
   simp [Rf,atK,this,e]
 | cons p l ih =>
  rw [Rf]
  by_cases c:p.1=k
  ·rw [if_pos c]
   by_cases e:k'=k
   ·subst e;simp [atK]
   ·have h1:(k == k')=false:=by simpa using fun h=>e h.symm
    have h2:(p.1 == k')=false:=by rw [c];exact h1
    rw [if_neg e];simp [atK,List.find?_cons,h1,h2]
  ·rw [if_neg c]
   by_cases e:p.1=k'
   ·have h1:(p.1 == k')=true:=by simpa using e
    have h2:k'≠k:=fun h=>c (e.trans h)
    rw [if_neg h2];simp [atK,List.find?_cons,h1]
   ·have h1:(p.1 == k')=false:=by simpa using e
    unfold atK at ih ⊢;rw [List.find?_cons,List.find?_cons,h1];exact ih
theorem Nh (w:World) (k:Int×Int):∀ (ents:List MapEntry) (l:List ((Int×Int)×Int)) (i:Nat),FB ents l →
  (Instr.findAsking 140 (gk k) ents i).run Try.prog w = .ok ((F6 l k i).map fun p=>(p.1, .int .i64 p.2)) w
 | [],l,i,h=>by
  have:l=[]:=by cases l with | nil=>rfl | cons x l=>simp [FB] at h
  subst this
  rfl
 | e :: ents,l,i,h=>by
  cases l with
  | nil=>simp [FB] at h
  | cons p l =>
   obtain ⟨⟨p1,p2⟩,pv⟩:=p;obtain ⟨k1,k2⟩:=k;simp only [FB,List.map_cons,List.cons.injEq,Prod.mk.injEq] at h;obtain ⟨⟨hk,hv⟩,hr⟩:=h;have ih:=Nh w (k1,k2) ents l (i+1) hr;have heq:=(W9 w #[] k1 k2 p1 p2).1;rw [Instr.findAsking,hk];unfold gk at *
   by_cases hkk:k1=p1∧k2=p2
   ·obtain ⟨rfl,rfl⟩:=hkk;simp [go_sem,heq,F6,hv]
   ·have hne:(k1 == p1 && k2 == p2)=false:=by
     simp only [Bool.and_eq_false_iff,beq_eq_false_iff_ne]
     by_cases h1:k1=p1
     ·exact .inr fun h2=>hkk ⟨h1,h2⟩
     ·exact .inl h1
    have hne2:¬ ((p1,p2)=(k1,k2)):=by
     simp only [Prod.mk.injEq];exact fun h=>hkk ⟨h.1.symm,h.2.symm⟩
    rw [hne] at heq;rw [F6,if_neg hne2];simp [go_sem,heq,ih]
theorem SB (w:World) (k:Int×Int) (ents:List MapEntry) (l:List ((Int×Int)×Int)) (h:FB ents l) :
  (Instr.findKey 140 (gk k) ents).run Try.prog w = .ok ((F6 l k 0).map fun p=>(p.1, .int .i64 p.2)) w:=by
 have hu:=Try.underlying140;have h1:=Nh w k ents l 0 h
 cases ents with
 | nil =>
  have:l=[]:=by cases l with | nil=>rfl | cons x l=>simp [FB] at h
  subst this;simp [Instr.findKey,run_underlying hu,go_sem,Instr.findNow,F6]
 | cons e ents=>simp [Instr.findKey,run_underlying hu,go_sem,Instr.findNow,Instr.sameNow,h1]
theorem Us (w:World) (k:Int×Int):(Instr.keyThatStays (gk k) (gk k)).run Try.prog w = .ok (gk k) w:=by
 have:Instr.sameBits 10000 (gk k) (gk k)=true:=by simp [gk,Instr.sameBits]
 simp [Instr.keyThatStays,this,go_sem]
theorem U7 (ps:List (Value×Value)) (i:Nat) (h:i < ps.length):(MX ps).findIdx? (fun e=>(e.born:Int) == (i:Int))=some i:=by
 rw [Array.findIdx?_eq_some_iff_getElem];refine ⟨by rw [MW];exact h,?_,fun j hj =>?_⟩
 ·have:=D6 ps i;rw [List.getElem?_eq_getElem h,Array.getElem?_eq_getElem (by rw [MW];exact h)] at this;simp only [Option.map_some,Option.some.injEq] at this;rw [this];simp
 ·have:=D6 ps j;rw [List.getElem?_eq_getElem (by omega),Array.getElem?_eq_getElem (by rw [MW];omega)] at this;simp only [Option.map_some,Option.some.injEq] at this;rw [this];simp;omega
def PN (q:List ((Int×Int)×Int)) (k:Int×Int):List ((Int×Int)×Int):=match F6 q k 0 with | none=>q++[(k,0)] | some _=>q
def VC (q:List ((Int×Int)×Int)) (k:Int×Int):Nat:=match F6 q k 0 with | none=>q.length | some r=>r.1
theorem SH (q:List ((Int×Int)×Int)) (k:Int×Int):VC q k < (PN q k).length∧((PN q k)[VC q k]?).map (·.1)=some k∧(∀ v,(PN q k).set (VC q k) (k,v)=Rf q k v)∧(atK (PN q k) k).getD 0=(atK q k).getD 0:=by
 unfold PN VC
 cases hx:F6 q k 0 with
 | none =>
  obtain ⟨h1,h2⟩:=JF hx;refine ⟨by simp,by simp,fun v=>by rw [h2];simp,?_⟩
  dsimp only
  rw [← h2 0,XI,if_pos rfl,h1];rfl
 | some r =>
  obtain ⟨j,u⟩:=r;obtain ⟨_,h2,h3,h4,h5⟩:=JE hx;simp only [Nat.sub_zero] at h2 h3 h5;exact ⟨h2,by dsimp only;rw [h3];rfl,fun v=>(h5 v).symm,rfl⟩
theorem Vb (w:World) (mb:Nat) (q:List ((Int×Int)×Int)) (k:Int×Int) (hm:GG w mb (pvG q)) :
  (Instr.mapEntry 101 (.map (some mb)) (gk k)).run Try.prog w = .ok (.tuple #[.int .i64 ((atK q k).getD 0), .int .i64 (VC q k:Nat)]) (setBlock w mb (.map (MX (pvG (PN q k))) (pvG (PN q k)).length)):=by
 have hu:=Try.underlying101;have hf:=SB w k (MX (pvG q)).toList q (PL q);have hc:=(OA false w #[] k).1;have hz:(zeroValue 3).run Try.prog w = .ok (.int .i64 0) w:=by simp [go_sem]
 unfold GG at hm;unfold PN VC
 cases hx:F6 q k 0 with
 | none =>
  obtain ⟨h1,h2⟩:=JF hx;rw [hx] at hf
  dsimp only
  have e:pvG (q++[(k,0)])=pvG q++[(gk k, .int .i64 0)]:=by simp [pvG]
  rw [e,← WG];simp [Instr.mapEntry,run_underlying hu,MapKept.run_getObj_map hm,hc,hf,hz,MapKept.run_setObj_map _ hm,Result.andThen,setBlock,h1,goInt,KG]
 | some r =>
  obtain ⟨j,u⟩:=r;obtain ⟨_,h2,h3,h4,h5⟩:=JE hx;rw [hx] at hf;simp only [Nat.sub_zero] at h2 h3 h5
  dsimp only
  have e1:(MX (pvG q))[j]? = some ⟨gk k, .int .i64 u,j⟩:=by rw [D6];simp [pvG,h3]
  have e2:(MX (pvG q)).modify j (fun e=>{ e with key:=gk k })=MX (pvG q):=by
   apply Array.ext_getElem?;intro i;rw [Array.getElem?_modify]
   by_cases c:j=i
   ·subst c;rw [if_pos rfl,e1];rfl
   ·rw [if_neg c]
  simp [Instr.mapEntry,run_underlying hu,MapKept.run_getObj_map hm,hc,hf,e1,Us,e2,MapKept.run_setObj_map _ hm,Result.andThen,setBlock,h4,goInt]
theorem SE (w:World) (mb:Nat) (q1:List ((Int×Int)×Int)) (st:Nat) (v:Int) (k:Int×Int) (hst:st < q1.length) (hk:(q1[st]?).map (·.1)=some k) (hm:GG w mb (pvG q1)) :
  (Instr.entryStore 101 (.map (some mb)) (.int .i64 (st:Nat)) (.int .i64 v)).run Try.prog w = .ok () (setBlock w mb (.map (MX (pvG (q1.set st (k,v)))) (pvG (q1.set st (k,v))).length)):=by
 unfold GG at hm;have h1:=U7 (pvG q1) st (by rw [KG];exact hst)
 have h2:(MX (pvG q1)).modify st (fun e=>{ e with val := .int .i64 v })=MX (pvG (q1.set st (k,v))):=by
  apply Array.ext_getElem?;intro i;rw [Array.getElem?_modify,D6,D6];simp only [pvG,List.getElem?_map,List.getElem?_set]
  by_cases c:st=i
  ·subst c;rw [if_pos rfl,if_pos rfl,if_pos hst]
   cases hq:q1[st]? with
   | none=>rw [hq] at hk;simp at hk
   | some p=>rw [hq] at hk;simp at hk;simp [hk]
  ·rw [if_neg c,if_neg c]
 have h3:(pvG (q1.set st (k,v))).length=(pvG q1).length:=by simp [KG]
 simp [Instr.entryStore,MapKept.run_getObj_map hm,asInt,asIntOf,go_sem,h1,h2,h3,MapKept.run_setObj_map _ hm,Result.andThen,setBlock]
end
section
open Go.RowKit
open Go.ChangeMaps (setBlock)
def Ap:List Am→Int×Int→Int
 | [],_=>0
 | p :: l,k=>(if (p.toll,p.owner)=k then p.heads else 0)+Ap l k
theorem Gu (a b:List Am) (k:Int×Int):Ap (a++b) k=Ap a k+Ap b k:=by
 induction a with
 | nil=>simp [Ap]
 | cons x a ih=>simp only [List.cons_append,Ap,ih];omega
def Ey (t:Af) (p:Am):Int :=
 if !(btw p.toll 0 ((t.Ah.length:Int)-1)) || !(btw p.owner 0 ((t.Ac.length:Int)-1)) then 3
 else if !(btw p.heads 1 40) then 1 else 0
def EZ (t:Af):List Am→Int
 | []=>0
 | p :: l=>if Ey t p=0 then EZ t l else Ey t p
def BZ (t:Af) (l:List Am):Int:=if AP t≠0 then AP t else if 24 < l.length then 6 else EZ t l
theorem Abf {t:Af} {p:Am} (h:btw p.toll 0 ((t.Ah.length:Int)-1)=false):Ey t p=3:=by unfold Ey;rw [if_pos (by simp [h])]
theorem Abe {t:Af} {p:Am} (h:btw p.owner 0 ((t.Ac.length:Int)-1)=false):Ey t p=3:=by unfold Ey;rw [if_pos (by simp [h])]
theorem pe1 {t:Af} {p:Am} (h:btw p.toll 0 ((t.Ah.length:Int)-1)=true) (h2:btw p.owner 0 ((t.Ac.length:Int)-1)=true) (h3:btw p.heads 1 40=false):Ey t p=1:=by unfold Ey;rw [if_neg (by simp [h,h2]),if_pos (by simp [h3])]
theorem pe0 {t:Af} {p:Am} (h:btw p.toll 0 ((t.Ah.length:Int)-1)=true) (h2:btw p.owner 0 ((t.Ac.length:Int)-1)=true) (h3:btw p.heads 1 40=true):Ey t p=0:=by unfold Ey;rw [if_neg (by simp [h,h2]),if_neg (by simp [h3])]
theorem Wn {t:Af} {p:Am} (h:Ey t p=0):btw p.toll 0 ((t.Ah.length:Int)-1)=true∧btw p.owner 0 ((t.Ac.length:Int)-1)=true∧btw p.heads 1 40=true:=by
 unfold Ey at h
 split at h
 ·exact absurd h (by decide)
 ·split at h
  ·exact absurd h (by decide)
  ·rename_i h1 h2;simp at h1 h2;exact ⟨h1.1,h1.2,h2⟩
theorem Qz {t:Af} {l:List Am} {k:Nat} {e:Int} (h:k < l.length) (he:Ey t l[k]=e) (h0:e≠0):EZ t (l.drop k)=e:=by
 rw [List.drop_eq_getElem_cons h,EZ,if_neg (by rw [he];exact h0),he]
theorem QA {t:Af} {l:List Am} {k:Nat} (h:k < l.length) (he:Ey t l[k]=0):EZ t (l.drop k)=EZ t (l.drop (k+1)):=by
 rw [List.drop_eq_getElem_cons h,EZ,if_pos he]
def DF (t:Af) (l:List Am):Prop:=∀ p∈l,Ey t p=0
theorem Pj {t:Af} {l:List Am} {k:Nat} (hk:k < l.length) (h:DF t (l.take k)) (h1:Ey t l[k]=0):DF t (l.take (k+1)):=by
 intro p hp;rw [List.take_succ_eq_append_getElem hk,List.mem_append] at hp;rcases hp with hp | hp
 ·exact h p hp
 ·simp at hp;rw [hp];exact h1
theorem LC {t:Af}:∀ {l:List Am},EZ t l=0→DF t l
 | [],_,p,hp=>by simp at hp
 | x :: l,h,p,hp=>by
  rw [EZ] at h
  by_cases e:Ey t x=0
  ·rw [if_pos e] at h;rcases List.mem_cons.1 hp with rfl | hp
   ·exact e
   ·exact LC h p hp
  ·rw [if_neg e] at h;exact absurd h e
theorem Fh {t:Af} {l:List Am} (h:DF t l) (k:Int×Int):0≤Ap l k∧Ap l k≤40*(l.length:Int):=by
 induction l with
 | nil=>simp [Ap]
 | cons p l ih =>
  have h1:=ih fun x hx=>h x (by simp [hx])
  have h2:=Aq.1 (Wn (h p (by simp))).2.2;simp only [Ap,List.length_cons]
  push_cast
  split <;> omega
theorem Gm {l:List Am} {k:Nat} (hk:k < l.length) (key:Int×Int):Ap (l.take (k+1)) key=Ap (l.take k) key+(if (l[k].toll,l[k].owner)=key then l[k].heads else 0):=by
 rw [List.take_succ_eq_append_getElem hk,Gu];simp [Ap]
theorem upd_sum {l:List Am} {k:Nat} (hk:k < l.length) {qs:List ((Int×Int)×Int)} (h:∀ key,(atK qs key).getD 0=Ap (l.take k) key):∀ key,(atK (Rf qs (l[k].toll,l[k].owner) (Ap (l.take k) (l[k].toll,l[k].owner)+l[k].heads)) key).getD 0=Ap (l.take (k+1)) key:=by
 intro key;rw [XI,Gm hk]
 by_cases e:key=(l[k].toll,l[k].owner)
 ·subst e;rw [if_pos rfl,if_pos rfl];rfl
 ·rw [if_neg e,if_neg (Ne.symm e),h];omega
def QP (t:Af) (s:Eg) (mb:Nat):Array Value:=#[.int .i64 t.roads.days, .int .i64 t.roads.stages, .slice s.sa t.roads.strips.length s.sc, .int .i64 t.pace, .slice s.pa t.Ac.length s.pc, .slice s.ta t.Ah.length s.tc, .map (some mb)]
structure Hm (w:World) (bd mb:Nat) (t:Af) (s:Eg) (l:List Am):Prop where
 kd:Rw w bd (QP t s mb) 103
 map:∃ qs,GG w mb (pvG qs)∧∀ key,(atK qs key).getD 0=Ap l key
theorem Hm.below {w w':World} {bd mb:Nat} {t:Af} {s:Eg} {l:List Am} (h:Hm w bd mb t s l) (hb:Below w.heap.size w w'):Hm w' bd mb t s l:=by
 obtain ⟨qs,h1,h2⟩:=h.map;exact ⟨h.kd.below hb,qs,h1.below hb h1.lt,h2⟩
structure OI (w x:World) (bt bd mb:Nat) (t:Af) (s:Eg) (qs:List ((Int×Int)×Int)):Prop where
 below:Below w.heap.size w x
 kb:Rw x bt (EI t s) 28
 kd:Rw x bd (QP t s mb) 103
 mp:GG x mb (pvG qs)
 n1:w.heap.size≤bt∧w.heap.size≤bd∧w.heap.size≤mb∧mb≠bt∧mb≠bd
section
variable {w x:World} {bt bd mb:Nat} {t:Af} {s:Eg} {qs:List ((Int×Int)×Int)}
theorem OI.keep (h:OI w x bt bd mb t s qs) {x2:World} (hb:Below x.heap.size x x2):OI w x2 bt bd mb t s qs:=⟨h.below.trans (hb.mono h.below.size),h.kb.below hb,h.kd.below hb,h.mp.below hb h.mp.lt,h.n1⟩
theorem OI.drew (h:OI w x bt bd mb t s qs):OI w x.drew bt bd mb t s qs:=h.keep (Below.refl _ _).drew
theorem Rw.other {w:World} {b mb:Nat} {c:Array Value} {ty:TypeId} (h:Rw w b c ty) (o:Obj) (hne:mb≠b):Rw (setBlock w mb o) b c ty:=(NR o hne).trans h
theorem OI.put (h:OI w x bt bd mb t s qs) (q2:List ((Int×Int)×Int)):OI w (setBlock x mb (.map (MX (pvG q2)) (pvG q2).length)) bt bd mb t s q2 :=
 ⟨Gt _ h.below h.n1.2.2.1,h.kb.other _ h.n1.2.2.2.1,h.kd.other _ h.n1.2.2.2.2,h.mp.set _,h.n1⟩
theorem OI.look (h:OI w x bt bd mb t s qs) (a b:Int):(Instr.lookup 101 (.map (some mb)) (.agg #[.int .i64 a, .int .i64 b]) false).run Try.prog x = .ok (.int .i64 ((atK qs (a,b)).getD 0)) x:=(E8 x mb _ _ qs #[] (a,b) h.mp (PL qs)).1
theorem OI.entry (h:OI w x bt bd mb t s qs) (a b:Int):(Instr.mapEntry 101 (.map (some mb)) (.agg #[.int .i64 a, .int .i64 b])).run Try.prog x = .ok (.tuple #[.int .i64 ((atK qs (a,b)).getD 0), .int .i64 (VC qs (a,b):Nat)]) (setBlock x mb (.map (MX (pvG (PN qs (a,b)))) (pvG (PN qs (a,b))).length)):=Vb x mb qs (a,b) h.mp
theorem OI.store {q0:List ((Int×Int)×Int)} {k:Int×Int} (h:OI w x bt bd mb t s (PN q0 k)) (v:Int):(Instr.entryStore 101 (.map (some mb)) (.int .i64 (VC q0 k:Nat)) (.int .i64 v)).run Try.prog x = .ok () (setBlock x mb (.map (MX (pvG (Rf q0 k v))) (pvG (Rf q0 k v)).length)):=by
 obtain ⟨h1,h2,h3,_⟩:=SH q0 k;rw [← h3 v];exact SE x mb _ _ v k h1 h2 h.mp
theorem OL {w:World} {G:World→Prop} (h:∀ W,W.heap.size=w.heap.size+1→GG W w.heap.size []→Below w.heap.size w W→G W):G (w.alloc (.map #[] 0)):=h _ (by simp) (GG.made _) (Dl _ _)
end
theorem BG {t:Af} (h:AP t=0):BP t.roads=0∧1≤t.pace∧t.pace≤9∧1≤t.Ac.length∧t.Ac.length≤4∧t.Ac.all Bj=true∧(1≤AZ t.Ac∧AZ t.Ac≤40)∧t.Ah.length≤6∧BQ t.roads.strips.length [] t.Ah=0:=by
 unfold AP at h
 by_cases h1:BP t.roads=0
 ·rw [if_neg (by simp [h1])] at h
  cases h2:btw t.pace 1 9 with
  | false=>rw [h2] at h;simp at h
  | true =>
   rw [if_neg (by simp [h2])] at h
   by_cases h3:TG t.Ac.length 1 4=0
   ·rw [if_neg (by simp [h3])] at h
    cases h4:t.Ac.all Bj with
    | false=>rw [h4] at h;simp at h
    | true =>
     rw [if_neg (by simp [h4])] at h
     cases h5:btw (AZ t.Ac) 1 40 with
     | false=>rw [h5] at h;simp at h
     | true =>
      rw [if_neg (by simp [h5])] at h;unfold FK at h
      by_cases h6:6 < t.Ah.length
      ·rw [if_pos h6] at h;simp at h
      ·rw [if_neg h6] at h;have h7:=TF h3;have h8:=Aq.1 h2;exact ⟨h1,h8.1,h8.2,by omega,by omega,rfl,Aq.1 h5,by omega,h⟩
   ·rw [if_pos h3] at h;exact absurd h h3
 ·rw [if_pos h1] at h;exact absurd h h1
def YW (w:World) (t:Af) (s:Eg) (l:List Am) (e:Ending) (w':World):Prop :=
 Below w.heap.size w w'∧(BZ t l≠0→e = .returned (.tuple #[.pointer none, .int .i64 (BZ t l)]))∧(BZ t l=0→∃ bd mb,e = .returned (.tuple #[.pointer (some ⟨bd,0,none⟩), .int .i64 0])∧w.heap.size≤bd∧w.heap.size≤mb∧Hm w' bd mb t s l)
theorem GU {t:Af} {l:List Am}:(AP t≠0→BZ t l=AP t)∧(AP t=0→24 < l.length→BZ t l=6)∧(AP t=0→l.length≤24→BZ t l=EZ t l):=by
 unfold BZ;exact ⟨fun h=>if_pos h,fun h h2=>by rw [if_neg (by simp [h]),if_pos h2],fun h h2=>by rw [if_neg (by simp [h]),if_neg (by omega)]⟩
theorem Ro:Try.f66.body=some (Code.seq (Aa Try.f66 0) (Code.seq (Aa Try.f66 1) Code.ret)):=by kernel_rfl
theorem QB {w:World} {bd:Nat} {n:Int} {pa:Option Addr} {pl pc:Nat} (hc:w.cell? ⟨bd,4,none⟩=some (.slice pa pl pc)) (hp:pl≤maxLen):Calls Try.prog 66 #[.pointer (some ⟨bd,0,none⟩), .int .i64 n] w (fun e w'=>e = .returned (.bool (btw n 0 ((pl:Int)-1)))∧w=w'):=by
 have hw:IntKind.i64.wrap ((pl:Int)-1)=(pl:Int)-1:=IntWalk.i64_in _ (by unfold maxLen at hp;omega);refine LZ Try.func66 Ro Try.ntmps66 ?_;intro a Z;refine wsr ?_;refine Z.s ?_;clear Z;intro a Z;refine od ?_;refine wsr ?_;(iterate 8 refine Z.s ?_;clear Z;intro a Z);refine og fun K hK =>?_
 have e5:=Z.g 5;have e12:=Z.g 12;unfold Oper.wp;go_simp;refine (Bo _ _ _ _).mono ?_;rintro e x ⟨rfl,rfl⟩;clear e5 e12;refine Z.K hK ?_;clear Z hK;intro a Z;refine Z.s ?_;clear Z;intro a Z;refine od ?_;refine wp_ret ?_
 try simp only [Exit.then,Exit.inBlock]
 refine bodyPost_ret (v := .bool (btw n 0 ((pl:Int)-1))) ?_ Z.defers ⟨rfl,rfl⟩;simp [results,Try.results66,Z.get 4 _ rfl]
theorem Uc:Try.f77.body=some (Code.seq (Aa Try.f77 0) (Code.seq (Code.seq (Aa Try.f77 1) (Code.seq (Aa Try.f77 2) (Code.cond (Operand.tmp 13) (Code.seq (Aa Try.f77 3) Code.ret) Code.skip))) (Code.seq (Code.seq (Aa Try.f77 4) (Code.cond (Operand.tmp 17) (Code.seq (Aa Try.f77 5) Code.ret) Code.skip)) (Code.seq (Aa Try.f77 6) (Code.seq (Code.seq (Aa Try.f77 7) (Code.block 0 (Code.loop (Code.seq (Aa Try.f77 8) (Code.seq (Code.cond (Operand.tmp 25) Code.skip (Code.exit 0)) (Code.seq (Code.block 1 (Code.seq (Aa Try.f77 9) (Code.seq (Code.seq (Aa Try.f77 10) (Code.cond (Operand.tmp 42) (Code.seq (Aa Try.f77 11) Code.ret) Code.skip)) (Code.seq (Code.seq (Aa Try.f77 12) (Code.cond (Operand.tmp 46) (Code.seq (Aa Try.f77 13) Code.ret) Code.skip)) (Aa Try.f77 14))))) (Aa Try.f77 15))))))) (Code.seq (Aa Try.f77 16) Code.ret)))))):=by kernel_rfl
theorem Aad {w x:World} {bt bd mb g:Nat} {t:Af} {s:Eg} {qs:List ((Int×Int)×Int)} {p:Am} (I0:OI w x bt bd mb t s qs) (G0:Rw x g #[.int .i64 p.toll, .int .i64 p.owner, .int .i64 p.heads] 53) (hg:mb≠g) (hq0:0≤(atK qs (p.toll,p.owner)).getD 0) (hq1:(atK qs (p.toll,p.owner)).getD 0≤1000000) (hh:btw p.heads 1 40=true) (v2 v22 v23 v24:Value) (a:Act) (Z:Sl a 64 [(2,v2),(7, .pointer (some ⟨bd,0,none⟩)),(9, .pointer (some ⟨g,0,none⟩)),(22,v22),(23,v23),(24,v24)]) (Q:Exit→Act→World→Prop)
  (h:∀ a x,Sl a 64 [(2,v2),(7, .pointer (some ⟨bd,0,none⟩)),(9, .pointer (some ⟨g,0,none⟩)),(22,v22),(23,v23),(24,v24)]→OI w x bt bd mb t s (Rf qs (p.toll,p.owner) ((atK qs (p.toll,p.owner)).getD 0+p.heads))→Q .normal a x):(Aa Try.f77 14).wp Try.prog Q a x:=by
 rw [show Aa Try.f77 14=Code.region 14 _ true from rfl];refine Ho 15 (by kernel_rfl) rfl (by kernel_rfl) (by kernel_rfl) (Z) [some 47,some 48,some 49,some 50,some 51,some 52,some 53,some 54,some 55,some 56,some 57,some 58,some 59,some 60,some 61] rfl rfl (fun j v _=>match j with | 0=>v = .pointer (some ⟨bd,0,none⟩) | 1=>v = .pointer (some ⟨bd,0,none⟩) | 2=>v = .pointer (some ⟨bd,6,none⟩) | 3=>v = .map (some mb) | 4=>v = .pointer (some ⟨g,0,none⟩) | 5=>v = .int .i64 p.toll | 6=>v = .pointer (some ⟨g,1,none⟩) | 7=>v = .int .i64 p.owner | 8=>v = .agg #[.int .i64 p.toll, .int .i64 p.owner] | 9=>v = .int .i64 ((atK qs (p.toll,p.owner)).getD 0) | 10=>v = .pointer (some ⟨g,2,none⟩) | 11=>v = .int .i64 p.heads | 12=>v = .int .i64 ((atK qs (p.toll,p.owner)).getD 0+p.heads) | 13=>v = .tuple #[.int .i64 ((atK qs (p.toll,p.owner)).getD 0), .int .i64 (VC qs (p.toll,p.owner):Nat)] | 14=>v = .int .i64 (VC qs (p.toll,p.owner):Nat) | _=>True) (fun L x=>OI w x bt bd mb t s (if L 13 then PN qs (p.toll,p.owner) else qs)∧Rw x g #[.int .i64 p.toll, .int .i64 p.owner, .int .i64 p.heads] 53) ⟨I0.drew,G0.below (Below.refl _ _).drew⟩ ?_ ?_
 ·clear Z;intro k o hkl ho L a x hI hLk Z hs hd;have hlt:∀ k:Nat,k < 15→k=0∨k=1∨k=2∨k=3∨k=4∨k=5∨k=6∨k=7∨k=8∨k=9∨k=10∨k=11∨k=12∨k=13∨k=14:=by decide
  rcases hlt k hkl with rfl | rfl | rfl | rfl | rfl | rfl | rfl | rfl | rfl | rfl | rfl | rfl | rfl | rfl | rfl
  ·obtain rfl:=Option.some.inj ho;have e7:=Z.g 7;clear hs hd;refine wg fun K hK =>?_
   unfold Oper.wp;go_simp;exact hK _ _ ⟨_,rfl,rfl,by simpa [Bi] using hI,fun _ _ h=>h⟩
  ·obtain rfl:=Option.some.inj ho;obtain ⟨_,e47,rfl⟩:=hs 0 _ 47 rfl rfl (hd 0 wm);clear hs hd;refine wg fun K hK =>?_
   unfold Oper.wp;go_simp;exact hK _ _ ⟨_,rfl,rfl,by simpa [Bi] using hI,fun _ _ h=>h⟩
  ·obtain rfl:=Option.some.inj ho;obtain ⟨_,e48,rfl⟩:=hs 1 _ 48 rfl rfl (hd 1 wm);clear hs hd;refine wg fun K hK =>?_
   unfold Oper.wp;go_simp;exact hK _ _ ⟨_,rfl,rfl,by simpa [Bi] using hI,fun _ _ h=>h⟩
  ·obtain rfl:=Option.some.inj ho;obtain ⟨_,e49,rfl⟩:=hs 2 _ 49 rfl rfl (hd 2 wm);have hc:=hI.1.kd.cell (o:=6) rfl;clear hs hd;refine wg fun K hK =>?_
   unfold Oper.wp;go_simp;exact hK _ _ ⟨_,rfl,rfl,by simpa [Bi] using hI,fun _ _ h=>h⟩
  ·obtain rfl:=Option.some.inj ho;have e9:=Z.g 9;clear hs hd;refine wg fun K hK =>?_
   unfold Oper.wp;go_simp;exact hK _ _ ⟨_,rfl,rfl,by simpa [Bi] using hI,fun _ _ h=>h⟩
  ·obtain rfl:=Option.some.inj ho;obtain ⟨_,e51,rfl⟩:=hs 4 _ 51 rfl rfl (hd 4 wm);have hc:=hI.2.cell (o:=0) rfl;clear hs hd;refine wg fun K hK =>?_
   unfold Oper.wp;go_simp;exact hK _ _ ⟨_,rfl,rfl,by simpa [Bi] using hI,fun _ _ h=>h⟩
  ·obtain rfl:=Option.some.inj ho;have e9:=Z.g 9;clear hs hd;refine wg fun K hK =>?_
   unfold Oper.wp;go_simp;exact hK _ _ ⟨_,rfl,rfl,by simpa [Bi] using hI,fun _ _ h=>h⟩
  ·obtain rfl:=Option.some.inj ho;obtain ⟨_,e53,rfl⟩:=hs 6 _ 53 rfl rfl (hd 6 wm);have hc:=hI.2.cell (o:=1) rfl;clear hs hd;refine wg fun K hK =>?_
   unfold Oper.wp;go_simp;exact hK _ _ ⟨_,rfl,rfl,by simpa [Bi] using hI,fun _ _ h=>h⟩
  ·obtain rfl:=Option.some.inj ho;obtain ⟨_,e52,rfl⟩:=hs 5 _ 52 rfl rfl (hd 5 wm);obtain ⟨_,e54,rfl⟩:=hs 7 _ 54 rfl rfl (hd 7 wm);clear hs hd;refine wg fun K hK =>?_
   unfold Oper.wp;go_simp;exact hK _ _ ⟨_,rfl,rfl,by simpa [Bi] using hI,fun _ _ h=>h⟩
  ·obtain rfl:=Option.some.inj ho;obtain ⟨_,e50,rfl⟩:=hs 3 _ 50 rfl rfl (hd 3 wm);obtain ⟨_,e55,rfl⟩:=hs 8 _ 55 rfl rfl (hd 8 wm);have hlk:=hI.1.look p.toll p.owner;have hsame:(atK (if L 13 then PN qs (p.toll,p.owner) else qs) (p.toll,p.owner)).getD 0=(atK qs (p.toll,p.owner)).getD 0:=by by_cases c:L 13=true;(rw [if_pos c];exact (SH qs _).2.2.2);rw [if_neg c]
   rw [hsame] at hlk;clear hsame;clear hs hd;refine wg fun K hK =>?_
   unfold Oper.wp;go_simp;exact hK _ _ ⟨_,rfl,rfl,by simpa [Bi] using hI,fun _ _ h=>h⟩
  ·obtain rfl:=Option.some.inj ho;have e9:=Z.g 9;clear hs hd;refine wg fun K hK =>?_
   unfold Oper.wp;go_simp;exact hK _ _ ⟨_,rfl,rfl,by simpa [Bi] using hI,fun _ _ h=>h⟩
  ·obtain rfl:=Option.some.inj ho;obtain ⟨_,e57,rfl⟩:=hs 10 _ 57 rfl rfl (hd 10 wm);have hc:=hI.2.cell (o:=2) rfl;clear hs hd;refine wg fun K hK =>?_
   unfold Oper.wp;go_simp;exact hK _ _ ⟨_,rfl,rfl,by simpa [Bi] using hI,fun _ _ h=>h⟩
  ·obtain rfl:=Option.some.inj ho;obtain ⟨_,e56,rfl⟩:=hs 9 _ 56 rfl rfl (hd 9 wm);obtain ⟨_,e58,rfl⟩:=hs 11 _ 58 rfl rfl (hd 11 wm);have hw:IntKind.i64.wrap ((atK qs (p.toll,p.owner)).getD 0+p.heads)=(atK qs (p.toll,p.owner)).getD 0+p.heads:=IntWalk.i64_in _ (by have:=Aq.1 hh;omega);clear hs hd;refine wg fun K hK =>?_
   unfold Oper.wp;go_simp;exact hK _ _ ⟨_,rfl,rfl,by simpa [Bi] using hI,fun _ _ h=>h⟩
  ·obtain rfl:=Option.some.inj ho;obtain ⟨_,e50,rfl⟩:=hs 3 _ 50 rfl rfl (hd 3 wm);obtain ⟨_,e55,rfl⟩:=hs 8 _ 55 rfl rfl (hd 8 wm);rw [hLk] at hI;have hme:=(show OI w x bt bd mb t s qs from hI.1).entry p.toll p.owner;clear hs hd;refine wg fun K hK =>?_
   unfold Oper.wp;go_simp;refine hK _ _ ⟨_,rfl,rfl,⟨?_,hI.2.other _ hg⟩,fun _ _ h=>h⟩;have:=(show OI w x bt bd mb t s qs from hI.1).put (PN qs (p.toll,p.owner))
   simpa [Bi] using this
  ·obtain rfl:=Option.some.inj ho;obtain ⟨_,e60,rfl⟩:=hs 13 _ 60 rfl rfl (hd 13 wm);clear hs hd;refine wg fun K hK =>?_
   unfold Oper.wp;go_simp;exact hK _ _ ⟨_,rfl,rfl,by simpa [Bi] using hI,fun _ _ h=>h⟩
 ·clear Z;intro L a x hall hI Z hs;obtain ⟨_,e50,rfl⟩:=hs 3 _ 50 rfl rfl (hall 3 (by decide));obtain ⟨_,e59,rfl⟩:=hs 12 _ 59 rfl rfl (hall 12 (by decide));obtain ⟨_,e61,rfl⟩:=hs 14 _ 61 rfl rfl (hall 14 (by decide));have I1:=hI.1;rw [hall 13 (by decide)] at I1;have hes:=(show OI w x bt bd mb t s (PN qs (p.toll,p.owner)) from I1).store ((atK qs (p.toll,p.owner)).getD 0+p.heads);clear hs;refine wg fun K hK =>?_
  unfold Oper.wp;go_simp;refine hK _ _ (h _ _ Z ?_);exact I1.put _
theorem MG {t:Af} {s:Eg} {l:List Am} {la:Option Addr} {lc:Nat} {w:World} (ht:Dc w t s) (hl:DJ w la l) (hlm:l.length≤maxLen):Calls Try.prog 77 #[.agg (EI t s), .slice la l.length lc] w (YW w t s l):=by
 refine LZ Try.func77 Uc Try.ntmps77 ?_;intro a Z;refine wsr ?_;refine Z.s ?_;clear Z;intro a Z;refine Ad (G:=fun W=>wpOps _ _ _ _ _ W) ?_;intro x hz X hb;have hI:=TI.made (Below.refl _ _) ht X hb;obtain ⟨bt,hbt⟩:∃ b,b=w.heap.size:=⟨_,rfl⟩;rw [← hbt] at Z hI;clear hz X hb hbt;(iterate 2 refine Z.s ?_;clear Z;intro a Z);refine od ?_;refine wp_seq ?_;refine wsr ?_;refine og fun K hK =>?_
 have e2:=Z.g 2;have c0:=hI.c0;have c1:=hI.c1;have c2:=hI.c2;have c3:=hI.c3;have c4:=hI.c4;have c5:=hI.c5;unfold Oper.wp;go_simp;clear e2;refine Z.K hK ?_;clear Z hK;intro a Z;refine og fun K hK =>?_
 have e10:=Z.g 10;unfold Oper.wp;go_simp;refine (Kv hI.tar).mono ?_;rintro e x ⟨rfl,hb⟩;replace hI:=hI.keep hb;clear hb;clear e10;refine Z.K hK ?_;clear Z hK;intro a Z;refine Z.s ?_;clear Z;intro a Z;refine od ?_;refine wsr ?_;refine Z.s ?_;clear Z;intro a Z
 by_cases h1:AP t=0
 ·have hne:=CP h1;refine Z.s ?_;clear Z;intro a Z;refine od ?_;refine wp_cond_false (Z.ev 13 rfl) ?_;refine wp_skip ?_;refine wp_seq ?_;refine wsr ?_;(iterate 2 refine Z.s ?_;clear Z;intro a Z)
  by_cases h2:24 < l.length
  ·have q1:(24:Int) < (l.length:Int):=by omega
   have hE:=Lib.hid (GU.2.1 h1 h2);refine Z.s ?_;clear Z;intro a Z;refine od ?_;refine wp_cond_true (Z.ev 17 rfl) ?_;refine wsr ?_;(iterate 2 refine Z.s ?_;clear Z;intro a Z);refine od ?_;refine wp_ret ?_
   try simp only [Exit.then,Exit.inBlock]
   have hnz:BZ t l≠0:=by rw [hE.out];decide
   refine bodyPost_ret (v := .tuple #[.pointer none, .int .i64 (BZ t l)]) ?_ Z.defers ⟨hI.below,fun _=>rfl,fun h=>absurd h hnz⟩;rw [hE.out];simp [results,Try.results77,Z.get 4 _ rfl,Z.get 5 _ rfl]
  ·have q1:¬ (24:Int) < (l.length:Int):=by omega
   obtain ⟨_,_,_,hl1,hl4,hpf,_,hl6,hte⟩:=BG h1;have HE0:=Lib.hid (GU.2.2 h1 (Nat.le_of_not_lt h2));have HTE:=Lib.hid hte;clear hte;refine Z.s ?_;clear Z;intro a Z;refine od ?_;refine wp_cond_false (Z.ev 17 rfl) ?_;refine wp_skip ?_;refine wsr ?_;refine og fun K hK =>?_
   have e2:=Z.g 2;have c0:=hI.c0;have c1:=hI.c1;have c2:=hI.c2;have c3:=hI.c3;have c4:=hI.c4;have c5:=hI.c5;unfold Oper.wp;go_simp;clear e2;refine Z.K hK ?_;clear Z hK;intro a Z;refine Z.s ?_;clear Z;intro a Z;clear c0 c1 c2 c3 c4 c5;refine OL (G:=fun W=>wpOps _ _ _ _ _ W) ?_;have hzx:=hI.below.size;have hzt:=hI.kb.lt;obtain ⟨mb,hmb⟩:∃ b,b=x.heap.size:=⟨_,rfl⟩;intro x hz M hb;replace hI:=hI.keep hb;rw [← hmb] at Z M hz;have hmt:mb≠bt:=by omega
   have hwm:w.heap.size≤mb:=by omega
   have HZ:=Lib.hid hz;clear hb hmb hz hzx hzt;(iterate 2 refine Z.s ?_;clear Z;intro a Z);refine Ad (G:=fun W=>wpOps _ _ _ _ _ W) ?_;obtain ⟨bd,hbd⟩:∃ b,b=x.heap.size:=⟨_,rfl⟩;have hz:=HZ.out;intro x hz2 D hb;rw [← hbd] at Z D;have hO:OI w x bt bd mb t s []:=⟨hI.below.trans (hb.mono hI.below.size),hI.kb.below hb,D,M.below hb (by omega),hI.lb,by omega,hwm,hmt,by omega⟩;clear hI D M hz hz2 HZ hb hbd hmt hwm;have hI:=hO;clear hO;refine Z.s ?_;clear Z;intro a Z;refine od ?_;refine wp_seq ?_;refine wsr ?_;(iterate 3 refine Z.s ?_;clear Z;intro a Z);refine od ?_;refine wp_block ?_;refine wp_loop_ghost (fun n p x=>∃ (k:Nat) (qs:List ((Int×Int)×Int)),k+n=l.length∧DF t (l.take k)∧EZ t (l.drop k)=BZ t l∧(∀ key,(atK qs key).getD 0=Ap (l.take k) key)∧Sl p 64 [(2, .pointer (some ⟨bt,0,none⟩)),(7, .pointer (some ⟨bd,0,none⟩)),(22, .slice la l.length lc),(23, .int .i64 (l.length:Int)),(24, .int .i64 (k:Int))]∧OI w x bt bd mb t s qs) l.length ⟨0,[],by omega,fun p hp=>by simp at hp,HE0.out.symm,fun key=>rfl,Z.sb,hI⟩ ?_;clear Z hI;rintro n a x ⟨k,qs,hkn,hfine,hE,hS,Z,hI⟩;have HE:=Lib.hid hE;clear hE;have HS:=Lib.hid hS;clear hS;have HF:=Lib.hid hfine;clear hfine;refine wsr ?_
   by_cases hlt:k < l.length
   ·have q1:(k:Int) < (l.length:Int):=by omega
    obtain ⟨pb,po,hpa,p0,p1,p2⟩:=(hl.below hI.below).at hlt;rw [hpa] at Z;simp only [Pm] at p0 p1 p2;refine Z.s ?_;clear Z;intro a Z;refine od ?_;refine wp_seq ?_;refine wp_cond_true (Z.ev 25 rfl) ?_;refine wp_skip ?_;refine wp_seq ?_;refine wp_block ?_;refine wsr ?_;(iterate 2 refine Z.s ?_;clear Z;intro a Z);refine og fun K hK =>?_
    obtain ⟨g,hg⟩:∃ b,b=x.heap.size:=⟨_,rfl⟩;unfold Oper.wp;go_simp;refine Z.K hK ?_;clear Z hK;intro a Z;refine og fun K hK =>?_
    have e9:=Z.g 9;have e27:=Z.g 27;unfold Oper.wp;go_simp;clear e9 e27;refine hK _ _ ?_;clear hK;refine Ad (G:=fun W=>wpOps _ _ _ _ _ W) ?_;have hmg:mb≠g:=by have:=hI.mp.lt;omega
    intro x hz G hb;replace hI:=hI.keep hb;rw [← hg] at Z G;clear hz hb p0 p1 p2 hg;refine od ?_;have HR:=Lib.hid (fun e (h:Ey t l[k]=e) (h0:e≠0)=>HE.out.symm.trans (Qz hlt h h0));refine wp_seq ?_;refine wsr ?_;refine Z.s ?_;clear Z;intro a Z;refine og fun K hK =>?_
    have e28:=Z.g 28;have g0:=G.cell (o:=0) rfl;unfold Oper.wp;go_simp;clear e28;refine Z.K hK ?_;clear Z hK;intro a Z;refine Z.s ?_;clear Z;intro a Z;refine og fun K hK =>?_
    have e30:=Z.g 30;have c5:=hI.kb.cell (o:=5) rfl;unfold Oper.wp;go_simp;clear e30;refine Z.K hK ?_;clear Z hK;intro a Z;refine Z.s ?_;clear Z;intro a Z;refine og fun K hK =>?_
    have e32:=Z.g 32;have hw:IntKind.i64.wrap ((t.Ah.length:Int)-1)=(t.Ah.length:Int)-1:=IntWalk.i64_in _ (by omega);unfold Oper.wp;go_simp;clear e32;refine Z.K hK ?_;clear Z hK;intro a Z;refine og fun K hK =>?_
    have e29:=Z.g 29;have e33:=Z.g 33;unfold Oper.wp;go_simp;refine (Bo _ _ _ _).mono ?_;rintro e x ⟨rfl,rfl⟩;clear e29 e33;refine Z.K hK ?_;clear Z hK;intro a Z;rcases Bool.eq_false_or_eq_true (btw l[k].toll 0 ((t.Ah.length:Int)-1)) with h3 | h3
    ·rw [h3] at Z;(iterate 2 refine Z.s ?_;clear Z;intro a Z);(iterate 2 refine Z.t ?_;clear Z;intro a Z);refine oW (Z.g 36) fun K hK =>?_
     have e38:=Z.g 38;have g1:=G.cell (o:=1) rfl;unfold Oper.wp;go_simp;clear e38;refine Z.K hK ?_;clear Z hK;intro a Z;refine oW (Z.g 36) fun K hK =>?_
     have e37:=Z.g 37;have e39:=Z.g 39;unfold Oper.wp;go_simp;refine (QB (hI.kd.cell (o:=4) rfl) (by unfold maxLen;omega)).mono ?_;rintro e x ⟨rfl,rfl⟩;clear e37 e39;refine Z.K hK ?_;clear Z hK;intro a Z;rcases Bool.eq_false_or_eq_true (btw l[k].owner 0 ((t.Ac.length:Int)-1)) with h4 | h4
     ·rw [h4] at Z;refine Z.t ?_;clear Z;intro a Z;refine Z.s ?_;clear Z;intro a Z;refine od ?_;refine wp_cond_false (Z.ev 42 rfl) ?_;refine wp_skip ?_;refine wp_seq ?_;refine wsr ?_;refine Z.s ?_;clear Z;intro a Z;refine og fun K hK =>?_
      have e43:=Z.g 43;have g2:=G.cell (o:=2) rfl;unfold Oper.wp;go_simp;clear e43;refine Z.K hK ?_;clear Z hK;intro a Z;refine og fun K hK =>?_
      have e44:=Z.g 44;unfold Oper.wp;go_simp;refine (Bo _ _ _ _).mono ?_;rintro e x ⟨rfl,rfl⟩;clear e44;refine Z.K hK ?_;clear Z hK;intro a Z;rcases Bool.eq_false_or_eq_true (btw l[k].heads 1 40) with h5 | h5
      ·rw [h5] at Z;refine Z.s ?_;clear Z;intro a Z;refine od ?_;refine wp_cond_false (Z.ev 46 rfl) ?_;refine wp_skip ?_;have hs5:=HS.out (l[k].toll,l[k].owner);have hb5:=Fh HF.out (l[k].toll,l[k].owner);have hlk5:(l.take k).length≤24:=by rw [List.length_take];omega
       refine Aad hI G hmg (by rw [hs5];exact hb5.1) (by rw [hs5];omega) h5 _ _ _ _ a Z.sb _ ?_;clear Z hI;intro a x Z hI;rw [hs5] at hI;refine wr ?_;refine og fun K hK =>?_
       have e24:=Z.g 24;have hw:=Bc k (by omega);unfold Oper.wp;go_simp;clear e24;refine Z.K hK ?_;clear Z hK;intro a Z;refine Z.s ?_;clear Z;intro a Z;refine od ?_;show Exists _;exact ⟨n-1,by omega,k+1,_,by omega,Pj hlt HF.out (pe0 h3 h4 h5),(QA hlt (pe0 h3 h4 h5)).symm.trans HE.out,upd_sum hlt HS.out,by rw [hpa];exact Z.sb,hI⟩
      ·rw [h5] at Z;have hE:=Lib.hid (HR.out _ (pe1 h3 h4 h5) (by decide));refine Z.s ?_;clear Z;intro a Z;refine od ?_;refine wp_cond_true (Z.ev 46 rfl) ?_;refine wsr ?_;(iterate 2 refine Z.s ?_;clear Z;intro a Z);refine od ?_;refine wp_ret ?_
       try simp only [Exit.then,Exit.inBlock]
       have hnz:BZ t l≠0:=by rw [hE.out];decide
       refine bodyPost_ret (v := .tuple #[.pointer none, .int .i64 (BZ t l)]) ?_ Z.defers ⟨hI.below,fun _=>rfl,fun h=>absurd h hnz⟩;rw [hE.out];simp [results,Try.results77,Z.get 4 _ rfl,Z.get 5 _ rfl]
     ·rw [h4] at Z;have hE:=Lib.hid (HR.out _ (Abe h4) (by decide));refine Z.t ?_;clear Z;intro a Z;refine Z.s ?_;clear Z;intro a Z;refine od ?_;refine wp_cond_true (Z.ev 42 rfl) ?_;refine wsr ?_;(iterate 2 refine Z.s ?_;clear Z;intro a Z);refine od ?_;refine wp_ret ?_
      try simp only [Exit.then,Exit.inBlock]
      have hnz:BZ t l≠0:=by rw [hE.out];decide
      refine bodyPost_ret (v := .tuple #[.pointer none, .int .i64 (BZ t l)]) ?_ Z.defers ⟨hI.below,fun _=>rfl,fun h=>absurd h hnz⟩;rw [hE.out];simp [results,Try.results77,Z.get 4 _ rfl,Z.get 5 _ rfl]
    ·rw [h3] at Z;have hE:=Lib.hid (HR.out _ (Abf h3) (by decide));(iterate 2 refine Z.s ?_;clear Z;intro a Z);refine Z.z ?_;clear Z;intro a Z;refine Z.z ?_;clear Z;intro a Z;refine Z.z ?_;clear Z;intro a Z;refine Z.z ?_;clear Z;intro a Z;refine Z.z ?_;clear Z;intro a Z;refine Z.s ?_;clear Z;intro a Z;refine od ?_;refine wp_cond_true (Z.ev 42 rfl) ?_;refine wsr ?_;(iterate 2 refine Z.s ?_;clear Z;intro a Z);refine od ?_;refine wp_ret ?_
     try simp only [Exit.then,Exit.inBlock]
     have hnz:BZ t l≠0:=by rw [hE.out];decide
     refine bodyPost_ret (v := .tuple #[.pointer none, .int .i64 (BZ t l)]) ?_ Z.defers ⟨hI.below,fun _=>rfl,fun h=>absurd h hnz⟩;rw [hE.out];simp [results,Try.results77,Z.get 4 _ rfl,Z.get 5 _ rfl]
   ·obtain rfl:k=l.length:=by omega
    refine Z.s ?_;clear Z;intro a Z;refine od ?_;refine wp_seq ?_;refine wp_cond_false (Z.ev 25 rfl) ?_;refine wp_exit ?_;refine wsr ?_;(iterate 3 refine Z.s ?_;clear Z;intro a Z);refine od ?_;refine wp_ret ?_
    try simp only [Exit.then,Exit.inBlock]
    have hE0:BZ t l=0:=by rw [← HE.out,List.drop_of_length_le (Nat.le_refl _)];rfl
    rw [List.take_length] at HS;refine bodyPost_ret (v := .tuple #[.pointer (some ⟨bd,0,none⟩), .int .i64 0]) ?_ Z.defers ⟨hI.below,fun h=>absurd hE0 h,fun _=>⟨bd,mb,rfl,hI.n1.2.1,hI.n1.2.2.1,hI.kd,qs,hI.mp,HS.out⟩⟩;simp [results,Try.results77,Z.get 4 _ rfl,Z.get 5 _ rfl]
 ·have hne:=Du h1;have hE:=Lib.hid (GU (l:=l).1 h1);have HN:=Lib.hid h1;clear h1;refine Z.s ?_;clear Z;intro a Z;refine od ?_;refine wp_cond_true (Z.ev 13 rfl) ?_;refine wsr ?_;(iterate 3 refine Z.s ?_;clear Z;intro a Z);refine od ?_;refine wp_ret ?_
  try simp only [Exit.then,Exit.inBlock]
  have hnz:BZ t l≠0:=by rw [hE.out];exact HN.out
  refine bodyPost_ret (v := .tuple #[.pointer none, .int .i64 (BZ t l)]) ?_ Z.defers ⟨hI.below,fun _=>rfl,fun h=>absurd h hnz⟩;rw [hE.out];simp [results,Try.results77,Z.get 4 _ rfl,Z.get 5 _ rfl]
end
end Go.Proofs.Ytgdobbcjkiapkaa
