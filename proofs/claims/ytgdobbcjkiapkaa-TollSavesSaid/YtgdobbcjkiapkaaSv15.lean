import Derived.Test.YtgdobbcjkiapkaaSv14
namespace Go.Proofs.Ytgdobbcjkiapkaa
set_option maxRecDepth 100000
set_option maxHeartbeats 4000000
set_option linter.unusedSimpArgs false
set_option linter.unusedVariables false
section
open Go Go.Conc
open Go.RowKit
theorem XP (w:World) (es:Array Event) (a b x y:Int):(Op.equal 140 (.agg #[.int .i64 a,.int .i64 b]) (.agg #[.int .i64 x,.int .i64 y])).run Try.prog w=.ok (a == x && b == y) w ∧
  (Op.equal 140 (.agg #[.int .i64 a,.int .i64 b]) (.agg #[.int .i64 x,.int .i64 y])).events Try.prog w es=es:=by
 have hu:=Try.underlying140;have hi:=Try.underlying3;have hst:Try.prog.stoodInHeld 140=false:=by kernel_rfl
 have hp:(Sem.program Sem.pure:Sem Program).run Try.prog w=.ok Try.prog w:=rfl;have hpe:∀ es,(Sem.program Sem.pure:Sem Program).events Try.prog w es=es:=fun _=>rfl
 have he:Op.equal 140 (.agg #[.int .i64 a,.int .i64 b]) (.agg #[.int .i64 x,.int .i64 y])=Op.equalIn (9998+1+1) 140 (.agg #[.int .i64 a,.int .i64 b]) (.agg #[.int .i64 x,.int .i64 y]):=rfl;rw[he,Op.equalIn]
 constructor
 ·simp[run_underlying hu,hst,go_sem,program,hp]
  by_cases h1:a=x<;>by_cases h2:b=y<;>simp[h1,h2]
 ·have hei:∀ (x y:Int) (w:World) (es:Array Event),(Op.equalIn 9999 3 (.int .i64 x) (.int .i64 y)).events Try.prog w es=es:=fun x y w es=>by
   rw[show (9999:Nat)=9998+1 from rfl,Op.equalIn];simp[run_underlying hi,go_sem]
  simp[run_underlying hu,hst,go_sem,program,hp,hpe]
  by_cases h1:a=x<;>by_cases h2:b=y<;>simp[h1,h2,hei]
def gk (k:Int×Int):Value:=.agg #[.int .i64 k.1,.int .i64 k.2]
def FU (ents:List MapEntry) (l:List ((Int×Int)×Int)):Prop:=ents.map (fun e=>(e.key,e.val))=l.map fun p=>(gk p.1,.int .i64 p.2)
def atK (l:List ((Int×Int)×Int)) (k:Int×Int):Option Int:=(l.find? fun p=>p.1 == k).map (·.2)
theorem O7 (w:World) (k:Int×Int):∀ (ents:List MapEntry) (l:List ((Int×Int)×Int)) (i:Nat) (es:Array Event),FU ents l →
  (∃ r,(Instr.findAsking 140 (gk k) ents i).run Try.prog w=.ok r w∧r.map (·.2)=(atK l k).map (Value.int .i64))∧(Instr.findAsking 140 (gk k) ents i).events Try.prog w es=es
 | [],l,i,es,h=>by
  have:l=[]:=by cases l with|nil=>rfl|cons x l=>simp[FU]at h
  subst this;exact⟨⟨none,rfl,rfl⟩,rfl⟩
 | e::ents,l,i,es,h=>by
  cases l with
  | nil=>simp[FU]at h
  | cons p l =>
   obtain⟨⟨p1,p2⟩,pv⟩:=p;obtain⟨k1,k2⟩:=k;simp only[FU,List.map_cons,List.cons.injEq,Prod.mk.injEq]at h;obtain⟨⟨hk,hv⟩,hr⟩:=h;obtain⟨⟨r,ih1,ih2⟩,ih3⟩:=O7 w (k1,k2) ents l (i+1) es hr;have heq:=XP w es k1 k2 p1 p2;rw[Instr.findAsking,hk];unfold gk at *
   by_cases hkk:k1=p1∧k2=p2
   ·obtain⟨rfl,rfl⟩:=hkk;refine⟨⟨some (i,e.val),?_,?_⟩,?_⟩
    ·simp[go_sem,heq.1]
    ·simp[atK,hv]
    ·simp[go_sem,heq.1,heq.2]
   ·have hne:(k1 == p1 && k2 == p2)=false:=by
     simp only[Bool.and_eq_false_iff,beq_eq_false_iff_ne]
     by_cases h1:k1=p1
     ·exact .inr fun h2=>hkk ⟨h1,h2⟩
     ·exact .inl h1
    have hne2:((p1,p2) == (k1,k2))=false:=by
     simp only[beq_eq_false_iff_ne,ne_eq,Prod.mk.injEq];exact fun h=>hkk ⟨h.1.symm,h.2.symm⟩
    rw[hne]at heq;refine⟨⟨r,?_,?_⟩,?_⟩
    ·simp[go_sem,heq.1,ih1]
    ·rw[ih2];simp[atK,hne2]
    ·simp[go_sem,heq.1,heq.2,ih3]
theorem Pg (em:Bool) (w:World) (es:Array Event) (k:Int×Int):(Instr.checkKey em 10000 140 (gk k)).run Try.prog w=.ok () w∧(Instr.checkKey em 10000 140 (gk k)).events Try.prog w es=es:=by
 have hu:=Try.underlying140;have hi:=Try.underlying3
 have hci:∀ (x:Int) (w:World) (es:Array Event),(Instr.checkKey em 9999 3 (.int .i64 x)).run Try.prog w=.ok () w∧(Instr.checkKey em 9999 3 (.int .i64 x)).events Try.prog w es=es:=fun x w es=>by
  rw[show (9999:Nat)=9998+1 from rfl,Instr.checkKey]
  constructor<;>simp[run_underlying hi,go_sem]
 have hc1:∀ (x:Int) (w:World),(Instr.checkKey em 9999 3 (.int .i64 x)).run Try.prog w=.ok () w:=fun x w=>(hci x w #[]).1
 have hc2:∀ (x:Int) (w:World) (es:Array Event),(Instr.checkKey em 9999 3 (.int .i64 x)).events Try.prog w es=es:=fun x w es=>(hci x w es).2
 clear hci;rw[show (10000:Nat)=9999+1 from rfl,Instr.checkKey];unfold gk
 constructor
 ·simp[run_underlying hu,go_sem,hc1]
 ·simp[run_underlying hu,go_sem,hc1,hc2]
theorem VH (w:World) (k:Int×Int) (ents:List MapEntry) (l:List ((Int×Int)×Int)) (es:Array Event) (h:FU ents l) :
  (∃ r,(Instr.findKey 140 (gk k) ents).run Try.prog w=.ok r w∧r.map (·.2)=(atK l k).map (Value.int .i64))∧(Instr.findKey 140 (gk k) ents).events Try.prog w es=es:=by
 have hu:=Try.underlying140;obtain⟨⟨r,h1,h2⟩,h3⟩:=O7 w k ents l 0 es h
 cases ents with
 | nil =>
  have:l=[]:=by cases l with|nil=>rfl|cons x l=>simp[FU]at h
  subst this;refine⟨⟨none,?_,rfl⟩,?_⟩
  ·simp[Instr.findKey,run_underlying hu,go_sem,Instr.findNow]
  ·simp[Instr.findKey,run_underlying hu,go_sem,Instr.findNow]
 | cons e ents =>
  refine⟨⟨r,?_,h2⟩,?_⟩
  ·simp[Instr.findKey,run_underlying hu,go_sem,Instr.findNow,Instr.sameNow,h1]
  ·simp[Instr.findKey,run_underlying hu,go_sem,Instr.findNow,Instr.sameNow,h3]
theorem KO {w:World}{mb clock:Nat}{ents:Array MapEntry}(hm:w.heap[mb]?=some (.map ents clock)) (es:Array Event):(getObj mb).events Try.prog w es=es.push ⟨.obj mb,false,false⟩:=by
 simp[getObj,Sem.events,Sem.runT,hm,Obj.isChan,-Sem.runT_eq]
theorem FH (w:World) (mb clock:Nat) (ents:Array MapEntry) (l:List ((Int×Int)×Int)) (es:Array Event) (k:Int×Int) (hm:w.heap[mb]?=some (.map ents clock)) (h:FU ents.toList l) :
  (Instr.lookup 101 (.map (some mb)) (gk k) false).run Try.prog w=.ok (.int .i64 ((atK l k).getD 0)) w ∧
   (Instr.lookup 101 (.map (some mb)) (gk k) false).events Try.prog w es=es.push ⟨.obj mb,false,false⟩:=by
 have hu:=Try.underlying101;obtain⟨⟨r,h1,h2⟩,h3⟩:=VH w k ents.toList l (es.push ⟨.obj mb,false,false⟩) h;have hc:=Pg ents.isEmpty w (es.push ⟨.obj mb,false,false⟩) k;have hz:(zeroValue 3).run Try.prog w=.ok (.int .i64 0) w:=by simp[go_sem]
 have hres:(∃ j v,r=some (j,.int .i64 v)∧atK l k=some v)∨(r=none∧atK l k=none):=by
  cases hk:atK l k with
  | none=>rw[hk]at h2;cases r with|none=>exact .inr ⟨rfl,rfl⟩|some x=>simp at h2
  | some v =>
   rw[hk]at h2
   cases r with
   | none=>simp at h2
   | some x =>
    obtain⟨j,y⟩:=x;simp at h2;subst h2;exact .inl ⟨j,v,rfl,rfl⟩
 constructor
 ·simp[Instr.lookup,run_underlying hu,go_sem,MapKept.run_getObj_map hm,hc.1,h1];rcases hres with ⟨j,v,rfl,hk⟩|⟨rfl,hk⟩
  ·rw[hk];simp
  ·rw[hk];simp
 ·simp[Instr.lookup,run_underlying hu,go_sem,MapKept.run_getObj_map hm,hc.1,hc.2,h1,h3];rcases hres with ⟨j,v,rfl,hk⟩|⟨rfl,hk⟩
  ·rw[KO hm,hc.2,h3];rfl
  ·rw[KO hm,hc.2,h3];simp[go_sem]
end
end Go.Proofs.Ytgdobbcjkiapkaa
