import Derived.Test.YtgdobbcjkiapkaaNo38
import Derived.Test.YtgdobbcjkiapkaaNo21
import Derived.Test.YtgdobbcjkiapkaaNo03
import Derived.Test.YtgdobbcjkiapkaaNo19
import Derived.Laws.Tables
import Derived.Laws.Rows
import Derived.Test.YtgdobbcjkiapkaaNo04
import Derived.Test.YtgdobbcjkiapkaaNo32
import Derived.Test.YtgdobbcjkiapkaaNo36
namespace Go.Proofs.Ytgdobbcjkiapkaa
set_option maxRecDepth 100000
set_option maxHeartbeats 4000000
set_option linter.unusedSimpArgs false
set_option linter.unusedVariables false
section
open Go Go.RowKit
section
variable {w x x':World} {m g B b:Nat} {c:Array Value} {t:TypeId}
theorem Rw.ext (h:Rw x b c t) (hE:Ext m x x') (hne:b≠m):Rw x' b c t:=(hE.block b h.lt hne).trans h
theorem Rw.Fa (h:Rw x b c t) (hB:Below B x x') (hlt:b < B):Rw x' b c t:=(hB.block b hlt).trans h
theorem Ext.set (h:Ext m w x) (hg:w.heap.size≤g) (o:Nat) (v:Value):Ext m w (x.setCell ⟨g,o,none⟩ v):=by
 refine ⟨h.os,h.tape,h.output,?_,fun k hk hne =>?_⟩
 ·simpa using h.size
 ·rw [Below.heap_setCell _ ⟨g,o,none⟩ _ k (by show k≠g;omega)];exact h.block k hk hne
theorem Ext.app (h:Ext m w x) (hB:Below B x x') (hw:w.heap.size≤B):Ext m w x' :=
 ⟨hB.os.trans h.os,hB.tape.trans h.tape,hB.output.trans h.output,Nat.le_trans h.size hB.size,fun k hk hne=>(hB.block k (by omega)).trans (h.block k hk hne)⟩
theorem Ext.bel (h:Ext m w x) (hb:Below x.heap.size x x'):Ext m w x':=h.trans (Ext.of_below hb)
theorem AX.far {hb n ca:Nat} {a:Option Addr} (h:AX x hb B a n ca) (hlt:hb < g) (o:Nat) (v:Value):AX (x.setCell ⟨g,o,none⟩ v) hb B a n ca:=h.keep fun k _ hk=>Below.heap_setCell _ ⟨g,o,none⟩ _ k (by show k≠g;omega)
theorem AX.Fa {hb n ca D:Nat} {a:Option Addr} (h:AX x hb D a n ca) (hB:Below B x x') (hlt:hb < B):AX x' hb D a n ca:=h.keep fun k _ hk=>hB.block k (by omega)
end
section
variable {α:Type} {f:α→List Value} {e:TypeId} {k:Nat} {w x x':World} {B D m g:Nat} {v:Value} {l:List α}
theorem Bl.ext (h:Bl f e k x B v l) (hE:Ext m x x') (hm:m < B):Bl f e k x' B v l:=h.keep fun b hb=>hE.block b (h.Aj hb).2 (by have:=(h.Aj hb).1;omega)
theorem Bl.far (h:Bl f e k x B v l) (hg:g < B) (o:Nat) (u:Value):Bl f e k (x.setCell ⟨g,o,none⟩ u) B v l:=h.keep fun b hb=>Below.heap_setCell _ ⟨g,o,none⟩ _ b (by have:=(h.Aj hb).1;show b≠g;omega)
def SY (C:Nat) (v:Value):Prop:=∀ b,v.ownBlock=some b→b < C
theorem SY.nil {C:Nat}:SY C (.slice none 0 0):=fun b h=>by simp [Value.ownBlock] at h
theorem Bl.upTo (h:Bl f e k x B v l):SY x.heap.size v:=fun b hb=>(h.Aj hb).2
theorem Bl.Fa {C:Nat} (h:Bl f e k x B v l) (hu:SY C v) (hB:Below D x x') (hd:C≤D):Bl f e k x' B v l:=h.keep fun b hb=>hB.block b (by have:=hu b hb;omega)
theorem YG {o:Oper} {a:Act} {K:Value→World→Prop} (st:TypeId) {z:Value} {bytes:Nat} (s y0:Operand) (hst:Try.prog.underlying st=some (.slice e)) (hinfo:(Try.prog.info? e).map (fun i=>(i.zero,i.size,i.bytes))=some (some z,k,bytes)) (hz:z.cells.size=k) (hk:0 < k) (hby:bytes≤100)
  (ho:o.op = .call { callee := .builtin .append,args:=#[s,y0],argTypes:=#[st,st] }) (hs:a.eval s=v) (hown:Bl f e k w B v l) (gs:Nat) (y:α) (hx:a.eval y0 = .slice (some ⟨gs,0,none⟩) 1 1)
  (hf:(f y).length=k) (hr:∀ (j:Nat) (u:Value),(f y)[j]? = some u→w.cell? ⟨gs,j,none⟩=some u) (h1:∀ u∈f y,u.oneCell'=true) (hlen:l.length≤1000000) (hB:B≤w.heap.size)
  (h:∀ v' w',Bl f e k w' B v' (l++[y])→Below B w w'→v' ≠ .slice none 0 0→K v' w'):BV Try.prog o a w K:=by
 obtain ⟨i0,hi,hz0,hz1,hz2⟩:=info_parts (P:=Try.prog) hinfo;have hblk:∀ k,v.ownBlock=some k→B≤k:=fun k hk=>(hown.Aj hk).1
 obtain ⟨v',w',q1,q2,q3,q4,q5⟩:=run_append_own_at (P:=Try.prog) w B st o.type e i0 z k bytes hst hi hz0 hz1 hz2 hz hk v l.length _ hown ⟨gs,0,none⟩ 1 1 (f y) (by rw [hf];omega) (by
    intro j u hj;have:=hr j u hj;have e:(⟨gs,0,none⟩:Addr).add j=⟨gs,j,none⟩:=by by_cases h0:j=0 <;> simp [Addr.add,h0]
    rw [e];exact this) h1 (by unfold maxLen;omega) (by
    have:(l.length+1)*bytes≤1000001*100:=Nat.mul_le_mul (by omega) hby
    omega) hB
 unfold BV execOp;simp only [ho,resolve,invoke,builtin,Sem.run_bind,Sem.run_pure,Result.andThen_ok,List.map_toArray,List.map_cons,List.map_nil,hs,hx,q1];refine h v' w' ?_ (Below.grown (Below.refl _ _) q3 hB hblk) (fun e =>?_)
 ·unfold Bl;rw [List.length_append,List.flatMap_append]
  simpa using q2
 ·have:=(q4.1 e).2
  omega
end
end
section
open Go Go.RowKit
def Em {α:Type} (f:α→List Value) (k:Nat) (w:World) (A:Option Addr) (ys:List α):Prop :=
 ys=[]∨∃ b o,A=some ⟨b,o,none⟩∧∀ (i:Nat) (hi:i < ys.length) (j:Nat) (u:Value),j < k→(f ys[i])[j]? = some u→w.cell? ⟨b,o+(i*k+j),none⟩=some u
section
variable {α:Type} {f:α→List Value} {e:TypeId} {k:Nat} {w:World} {B:Nat} {v:Value} {l:List α}
theorem Bl.cells (h:Bl f e k w B v l) (hf:∀ x,(f x).length=k):∃ a cap,v = .slice a l.length cap∧l.length≤cap∧cap≤maxLen∧Em f k w a l:=by
 obtain ⟨a,cap,hv,h1,h2,hn,hs⟩:=h.form hf;refine ⟨a,cap,hv,h1,h2,?_⟩
 cases a with
 | none=>exact .inl (hn rfl).1
 | some ad =>
  obtain ⟨g,rfl,_,_,hc⟩:=hs ad rfl;exact .inr ⟨g,0,rfl,fun i hi j u hj hu=>by rw [Nat.zero_add];exact hc i hi j u hj hu⟩
end
section
variable {w x x':World} {b g B:Nat} {c:Array Value} {t:TypeId} {r:Option Nat}
theorem Rw.grown (h:Rw x b c t) (hG:x.grownBy x' r) (hne:some b≠r):Rw x' b c t:=(hG.block b h.lt hne).trans h
theorem Bl.grown {α:Type} {f:α→List Value} {e:TypeId} {k:Nat} {v:Value} {l:List α} (h:Bl f e k x B v l) (hG:x.grownBy x' r) (hne:v.ownBlock≠r):Bl f e k x' B v l:=h.keep fun q hq=>hG.block q (h.Aj hq).2 (by rw [← hq];exact hne)
theorem Bl.Iy {α:Type} {f:α→List Value} {e:TypeId} {k:Nat} {v:Value} {l:List α} (h:Bl f e k x B v l) (hb:x.heap.size≤b):v.ownBlock≠some b:=fun e=>by have:=(h.Aj e).2;omega
end
def G6 (s:Strip):List Value:=[.int .i64 s.A, .int .i64 s.B, .int .i64 s.L, .int .i64 s.W, .int .i64 s.K, .int .i64 s.X, .int .i64 s.Y]
def Uz (p:BA):List Value:=[.int .i64 p.heads, .int .i64 p.free, .bool p.half]
def Ol (x:BK):List Value:=[.int .i64 x.strip, .int .i64 x.rate, .int .i64 x.farmer]
abbrev F7:=Bl G6 96 7
abbrev Jr:=Bl Uz 69 3
abbrev Lj:=Bl Ol 57 3
theorem seven {j:Nat} (h:j < 7):j=0∨j=1∨j=2∨j=3∨j=4∨j=5∨j=6:=by omega
theorem three {j:Nat} (h:j < 3):j=0∨j=1∨j=2:=by omega
theorem G5 (l:List Strip):∀ y∈l,∀ u∈G6 y,u.oneCell'=true:=fun y _ u hu=>by simp only [G6,List.mem_cons,List.not_mem_nil,or_false] at hu;rcases hu with rfl | rfl | rfl | rfl | rfl | rfl | rfl <;> rfl
theorem V8 (l:List BA):∀ y∈l,∀ u∈Uz y,u.oneCell'=true:=fun y _ u hu=>by simp only [Uz,List.mem_cons,List.not_mem_nil,or_false] at hu;rcases hu with rfl | rfl | rfl <;> rfl
theorem Uf (l:List BK):∀ y∈l,∀ u∈Ol y,u.oneCell'=true:=fun y _ u hu=>by simp only [Ol,List.mem_cons,List.not_mem_nil,or_false] at hu;rcases hu with rfl | rfl | rfl <;> rfl
theorem Em.strips {w:World} {A:Option Addr} {l:List Strip}:Em G6 7 w A l↔Eg w A l:=by
 constructor
 ·rintro (h | ⟨b,o,ha,h⟩)
  ·exact .inl h
  ·exact .inr ⟨b,o,ha,fun i hi=>⟨h i hi 0 _ (by omega) rfl,(h i hi 1 _ (by omega) rfl :),(h i hi 2 _ (by omega) rfl :),(h i hi 3 _ (by omega) rfl :),(h i hi 4 _ (by omega) rfl :),(h i hi 5 _ (by omega) rfl :),(h i hi 6 _ (by omega) rfl :)⟩⟩
 ·rintro (h | ⟨b,o,ha,h⟩)
  ·exact .inl h
  ·refine .inr ⟨b,o,ha,fun i hi j u hj hu =>?_⟩;obtain ⟨c0,c1,c2,c3,c4,c5,c6⟩:=h i hi;rcases seven hj with rfl | rfl | rfl | rfl | rfl | rfl | rfl <;> (simp only [G6,List.getElem?_cons_zero,List.getElem?_cons_succ,Option.some.injEq] at hu;subst hu;assumption)
theorem Em.tri {α:Type} {f:α→List Value} {g:α→Value×Value×Value} (hfg:∀ x,f x=[(g x).1,(g x).2.1,(g x).2.2]) {w:World} {A:Option Addr} {l:List α}:Em f 3 w A l↔PO g w A l:=by
 constructor
 ·rintro (h | ⟨b,o,ha,h⟩)
  ·exact .inl h
  ·exact .inr ⟨b,o,ha,fun i hi=>⟨h i hi 0 _ (by omega) (by rw [hfg];rfl),(h i hi 1 _ (by omega) (by rw [hfg];rfl) :),(h i hi 2 _ (by omega) (by rw [hfg];rfl) :)⟩⟩
 ·rintro (h | ⟨b,o,ha,h⟩)
  ·exact .inl h
  ·refine .inr ⟨b,o,ha,fun i hi j u hj hu =>?_⟩;obtain ⟨c0,c1,c2⟩:=h i hi;rw [hfg] at hu;rcases three hj with rfl | rfl | rfl <;> (simp only [List.getElem?_cons_zero,List.getElem?_cons_succ,Option.some.injEq] at hu;subst hu;assumption)
theorem Em.Ac {w:World} {A:Option Addr} {l:List BA}:Em Uz 3 w A l↔TW w A l:=Em.tri (f:=Uz) (g:=Zf) fun _=>rfl
theorem Em.Ah {w:World} {A:Option Addr} {l:List BK}:Em Ol 3 w A l↔XO w A l:=Em.tri (f:=Ol) (g:=P6) fun _=>rfl
structure DZ (w:World) (B:Nat) (t:Ae) (s:Ef):Prop where
 os:F7 w B (.slice s.sa t.roads.strips.length s.sc) t.roads.strips
 op:Jr w B (.slice s.pa t.Ac.length s.pc) t.Ac
 ot:Lj w B (.slice s.ta t.Ah.length s.tc) t.Ah
theorem DZ.tar {w:World} {B:Nat} {t:Ae} {s:Ef} (h:DZ w B t s):CV w t s:=by
 obtain ⟨a1,c1,e1,l1,m1,x1⟩:=h.os.cells (fun _=>rfl);obtain ⟨a2,c2,e2,l2,m2,x2⟩:=h.op.cells (fun _=>rfl);obtain ⟨a3,c3,e3,l3,m3,x3⟩:=h.ot.cells (fun _=>rfl);simp only [Value.slice.injEq,true_and] at e1 e2 e3;obtain ⟨rfl,rfl⟩:=e1;obtain ⟨rfl,rfl⟩:=e2;obtain ⟨rfl,rfl⟩:=e3;exact ⟨Em.strips.1 x1,Em.Ac.1 x2,Em.Ah.1 x3,Nat.le_trans l1 m1,Nat.le_trans l2 m2,Nat.le_trans l3 m3,l2,l3⟩
theorem DZ.below {w w':World} {B:Nat} {t:Ae} {s:Ef} (h:DZ w B t s) (hb:Below w.heap.size w w'):DZ w' B t s:=⟨h.os.below hb,h.op.below hb,h.ot.below hb⟩
theorem DZ.ext {w w':World} {B m:Nat} {t:Ae} {s:Ef} (h:DZ w B t s) (hE:Ext m w w') (hm:m < B):DZ w' B t s:=⟨h.os.ext hE hm,h.op.ext hE hm,h.ot.ext hE hm⟩
theorem DZ.lower {w:World} {B B':Nat} {t:Ae} {s:Ef} (h:DZ w B t s) (hB:B'≤B):DZ w B' t s:=⟨h.os.lower hB,h.op.lower hB,h.ot.lower hB⟩
theorem DZ.make {w:World} {B:Nat} {r:AQ} {p:Int} {ps:List BA} {ts:List BK} {v1 v2 v3:Value} (h1:F7 w B v1 r.strips) (h2:Jr w B v2 ps) (h3:Lj w B v3 ts):∃ s,DZ w B ⟨r,p,ps,ts⟩ s ∧ .agg #[.int .i64 r.days, .int .i64 r.stages,v1, .int .i64 p,v2,v3]=Value.agg (ER ⟨r,p,ps,ts⟩ s):=by
 obtain ⟨a1,c1,e1,_⟩:=h1.cells (fun _=>rfl);obtain ⟨a2,c2,e2,_⟩:=h2.cells (fun _=>rfl);obtain ⟨a3,c3,e3,_⟩:=h3.cells (fun _=>rfl);subst e1 e2 e3;exact ⟨⟨a1,c1,a2,c2,a3,c3⟩,⟨h1,h2,h3⟩,rfl⟩
end
section
open Go Go.RowKit
section
variable {P:Program} {ops:Array Oper} {Q:Exit→Act→World→Prop} {i:Nat} {rest:List Nat} {o:Oper} {a:Act} {n d:Nat} {m:List (Nat×Value)} {v:Value} {w w':World} {b:Nat} {c c':Array Value} {t ty:TypeId}
theorem E8 {x:Operand} {td:TypeDesc} (ho:o.op = .load ty x) (hx:a.eval x = .pointer (some ⟨b,0,none⟩)) (hu:P.underlying ty=some td) (hd:(match td with | .struct _ | .array _ _=>true | _=>false)=true) (hi:(P.info? ty).map (·.size)=some c.size) (K:Rw w b c t):(execOp a.eval o).run P w = .ok (.value (.agg c)) w:=by
 have h:=run_loadVar_row (P:=P) w b t ty c (0,0) td K hu hd hi;unfold execOp;simp only [ho,hx,Instr.loadAt,Instr.sureAddr,Sem.run_bind,Sem.run_pure,Result.andThen_ok,h]
theorem FB {x y:Operand} (ho:o.op = .store ty x y) (hx:a.eval x = .pointer (some ⟨b,0,none⟩)) (hy:a.eval y = .agg c') (hi:(P.info? ty).map (·.size)=some c'.size) (K:Rw w b c t) (hs:c.size=c'.size) (h1:c'.toList.all (·.oneCell')=true):(execOp a.eval o).run P w = .ok .skip (w.setRow b c'):=by
 have h:=run_storeVar_row (P:=P) w b t ty c c' K hi hs (by rw [← Array.all_toList];exact h1);unfold execOp;simp only [ho,hx,hy,Instr.storeAt,Instr.sureAddr,Sem.run_bind,Sem.run_pure,Result.andThen_ok,h]
theorem Bf {x:Operand} {q:Nat} {td:TypeDesc} (ho:o.op = .load ty x) (hx:a.eval x = .pointer (some ⟨b,q,none⟩)) (hu:P.underlying ty=some td) (hd:(match td with | .struct _ | .array _ _=>true | _=>false)=false) (hc:w.cell? ⟨b,q,none⟩=some v):(execOp a.eval o).run P w = .ok (.value v) w:=by
 have h:(isAgg ty).run P w = .ok false w:=by cases td <;> simp_all [isAgg,run_underlying hu]
 unfold execOp;simp only [ho,hx,Instr.loadAt,Instr.sureAddr,loadVar,Sem.run_bind,Sem.run_pure,Result.andThen_ok,h];simp [hc]
theorem DJ {x y:Operand} {q:Nat} {u:Value} (ho:o.op = .store ty x y) (hx:a.eval x = .pointer (some ⟨b,q,none⟩)) (hy:a.eval y=v) (hi:(P.info? ty).map (·.size)=some 1) (hs:v.cells = #[v]) (h1:v.oneCell'=true) (hc:w.cell? ⟨b,q,none⟩=some u) (hf:w.frozen? ⟨b,q,none⟩=false):(execOp a.eval o).run P w = .ok .skip (w.setCell ⟨b,q,none⟩ v):=by
 have hst:=Go.run_store P w ⟨b,q,none⟩ v .plain h1;rw [hc] at hst;simp only [hf] at hst;have e0:(⟨b,q,none⟩:Addr).add 0=⟨b,q,none⟩:=by simp [Addr.add]
 cases hq:P.info? ty with
 | none=>simp [hq] at hi
 | some i =>
  have hsz:i.size=1:=by simpa [hq] using hi
  unfold execOp;simp only [ho,hx,hy,Instr.storeAt,Instr.sureAddr,Sem.run_bind,Sem.run_pure,Result.andThen_ok];simp [storeVar,sizeOf,typeInfo,hq,hsz,hs,storeCells,e0,hst]
theorem Sl.rv (h:Sl a n m) (ho:ops[i]? = some o) (hg:o.guard=none) (hd:o.dst=some d) (hn:d < n) (hr:(execOp a.eval o).run P w = .ok (.value v) w') (hG:∀ a',Sl a' n ((d,v) :: m)→wpOps P ops Q rest a' w'):wpOps P ops Q (i :: rest) a w:=by
 refine BJ ho hg (fun K hK =>?_);unfold Oper.wp;rw [hr,Oper.upon_value,hd];exact h.k hK hn hG
theorem Sl.rs (_h:Sl a n m) (ho:ops[i]? = some o) (hg:o.guard=none) (hd:o.dst=none) (hr:(execOp a.eval o).run P w = .ok .skip w') (hG:wpOps P ops Q rest a w'):wpOps P ops Q (i :: rest) a w:=by
 refine BJ ho hg (fun K hK =>?_);unfold Oper.wp;rw [hr,Oper.upon_skip,hd];exact hK _ _ hG
theorem Dn {K:Value→Prop} (hr:(execOp a.eval o).run P w = .ok (.value v) w) (hK:K v):CU P o a w K:=by unfold CU;rw [hr];exact ⟨rfl,hK⟩
theorem DU {C:World→Prop} {K:Value→Prop} (hr:(execOp a.eval o).run P w = .ok (.value v) w) (hK:K v):Oper.FV P o a C w K:=by unfold Oper.FV;rw [hr];exact ⟨rfl,hK⟩
theorem KQ {K:Value→World→Prop} (hr:(execOp a.eval o).run P w = .ok .skip w') (hK:K undef w'):BV P o a w K:=by unfold BV;rw [hr];exact hK
theorem Rw.setRow (K:Rw w b c t) (c':Array Value):Rw (w.setRow b c') b c' t:=setRow_heap w b c c' t (0,0) K
theorem BQ (K:Rw w b c t) (c':Array Value):w.grownBy (w.setRow b c') (some b):=by
 refine ⟨rfl,rfl,rfl,by simp [World.setRow],fun k hk hne =>?_⟩;unfold World.setRow;simp only [Array.getElem?_modify];rw [if_neg (fun e=>hne (by rw [e]))]
end
section
variable {w x x':World} {b g B:Nat} {c:Array Value} {t:TypeId}
theorem Bl.Wu {α:Type} {f:α→List Value} {e:TypeId} {k:Nat} {v:Value} {l:List α} (h:Bl f e k x B v l) (hg:g < B):v.ownBlock≠some g:=fun e=>by have:=(h.Aj e).1;omega
theorem Bl.XW {α:Type} {f:α→List Value} {e:TypeId} {k:Nat} {v:Value} {l:List α} (h:Bl f e k x B v l) (hne:v.ownBlock≠some g) (o:Nat) (u:Value):Bl f e k (x.setCell ⟨g,o,none⟩ u) B v l:=h.keep fun q hq=>Below.heap_setCell _ ⟨g,o,none⟩ _ q (by intro e;apply hne;rw [hq,e])
theorem Bl.Aa6 {α:Type} {f:α→List Value} {e:TypeId} {k C:Nat} {v:Value} {l:List α} (h:Bl f e k x B v l) (hu:SY C v) (hg:g < B∨C≤g):v.ownBlock≠some g:=fun e=>by have:=(h.Aj e).1;have:=hu g e;omega
theorem Bl.AaS {α:Type} {f:α→List Value} {e:TypeId} {k C:Nat} {v:Value} {l:List α} (h:Bl f e k x B v l) (hu:SY C v) (hg:g < B∨C≤g) (o:Nat) (u:Value):Bl f e k (x.setCell ⟨g,o,none⟩ u) B v l:=h.XW (h.Aa6 hu hg) o u
theorem AX.grown {hb n ca D:Nat} {a:Option Addr} (h:AX x hb D a n ca) (hG:x.grownBy x' (some g)) (hlt:hb < g):AX x' hb D a n ca:=h.keep fun k hk hle=>hG.block k hk (by simp;omega)
theorem Ext.grown {m:Nat} (h:Ext m w x) (hG:x.grownBy x' (some g)) (hw:w.heap.size≤g):Ext m w x' :=
 ⟨hG.os.trans h.os,hG.tape.trans h.tape,hG.output.trans h.output,Nat.le_trans h.size hG.size,fun k hk hne=>(hG.block k (Nat.lt_of_lt_of_le hk h.size) (by simp;omega)).trans (h.block k hk hne)⟩
theorem Ld (h:Below w.heap.size w x) (hG:x.grownBy x' (some g)) (hw:w.heap.size≤g):Below w.heap.size w x':=h.grown hG h.size fun k hk=>by cases hk;exact hw
end
end
section
open Go.RowKit
end
section
open Go.RowKit
theorem RN:Try.f57.body=some (Code.seq (Aa Try.f57 0) (Code.seq (Aa Try.f57 1) (Code.seq (Code.seq (Aa Try.f57 2) (Code.block 0 (Code.loop (Code.seq (Code.seq (Aa Try.f57 3) (Code.cond (Operand.tmp 12) Code.skip (Code.exit 0))) (Code.seq (Code.block 1 (Aa Try.f57 5)) (Aa Try.f57 4)))))) (Code.seq (Aa Try.f57 6) Code.ret)))):=by kernel_rfl
theorem LD {w:World} {t:Ae} {s:Ef} (hT:CV w t s) (hC:Ap t=0):Calls Try.prog 57 #[.agg (ER t s)] w (fun e w'=>e = .returned (.agg #[.int .i64 (Bi t).heads, .int .i64 (Bi t).pace])∧Below w.heap.size w w'):=by
 obtain ⟨sa,sc,pa,pc,ta,tc⟩:=s;obtain ⟨_,_,_,_,hl4,hpf,_,_,_⟩:=AU hC
 have hhb:∀ k (hk:k < t.Ac.length),(0≤Ak (t.Ac.take k)∧Ak (t.Ac.take k)≤160)∧0≤t.Ac[k].heads∧t.Ac[k].heads≤40:=fun k hk=>by
  have h1:(t.Ac.take k).all A7=true:=by rw [List.all_eq_true] at hpf ⊢;exact fun x hx=>hpf x (List.mem_of_mem_take hx)
  have h2:=List.all_eq_true.1 hpf _ (List.getElem_mem hk);simp only [A7,Bool.and_eq_true] at h2;have h3:=Jm h1;have h4:(t.Ac.take k).length≤4:=by rw [List.length_take];omega
  exact ⟨by omega,Ai.1 h2.1⟩
 have HHB:=Lib.hid hhb;clear hhb hpf;have hB:=Below.refl w.heap.size w;have hTW:=hT;clear hT;refine QU Try.func57 RN Try.ntmps57 ?_;intro a Z;refine wsr ?_;refine Z.s ?_;clear Z;intro a Z;refine Af (G:=fun W=>wpOps _ _ _ _ _ W) ?_;obtain ⟨b1,hg⟩:∃ b,b=w.heap.size:=⟨_,rfl⟩;intro x hz K1 hb2;rw [← hg] at Z K1;have hhB1:w.heap.size≤b1:=by rw [hg];exact hB.size
 replace hB:=hB.trans (hb2.mono hB.size);clear hz hg hb2;refine Z.s ?_;clear Z;intro a Z;refine Af (G:=fun W=>wpOps _ _ _ _ _ W) ?_;obtain ⟨b2,hg⟩:∃ b,b=x.heap.size:=⟨_,rfl⟩;intro x hz K2 hb2;rw [← hg] at Z K2;have hhB2:w.heap.size≤b2:=by rw [hg];exact hB.size
 have h1_2:b1 < b2:=by rw [hg];exact K1.lt
 replace hB:=hB.trans (hb2.mono hB.size);replace K1:=K1.below hb2;clear hz hg hb2;refine od ?_;refine wsr ?_;refine Z.s ?_;clear Z;intro a Z;refine Z.rv rfl rfl rfl (by decide) (Bf rfl (Z.ev 5 rfl) Try.underlying3 rfl (K1.cell (o:=3) (v := .int .i64 t.pace) rfl)) ?_;clear Z;intro a Z;(iterate 2 refine Z.s ?_;clear Z;intro a Z);refine Af (G:=fun W=>wpOps _ _ _ _ _ W) ?_;obtain ⟨b3,hg⟩:∃ b,b=x.heap.size:=⟨_,rfl⟩;intro x hz K3 hb2;rw [← hg] at Z K3;have hhB3:w.heap.size≤b3:=by rw [hg];exact hB.size
 have h1_3:b1 < b3:=by rw [hg];exact K1.lt
 have h2_3:b2 < b3:=by rw [hg];exact K2.lt
 replace hB:=hB.trans (hb2.mono hB.size);replace K1:=K1.below hb2;replace K2:=K2.below hb2;clear hz hg hb2;refine Z.rs rfl rfl rfl (FB rfl (Z.ev 3 rfl) (Z.ev 7 rfl) (by kernel_rfl) K3 rfl rfl) ?_;have hG:=BQ K3 #[.int .i64 0, .int .i64 t.pace];have K_:=K3.setRow #[.int .i64 0, .int .i64 t.pace];replace hB:=Ld hB hG (by omega);replace K1:=K1.grown hG (by simp;omega);replace K2:=K2.grown hG (by simp;omega);have K3:=K_;clear hG K_;obtain ⟨x,hx2⟩:∃ q,q=x.setRow b3 #[.int .i64 0, .int .i64 t.pace]:=⟨_,rfl⟩;rw [← hx2] at hB K1 K2 K3 ⊢;clear hx2;refine od ?_;refine wp_seq ?_;refine wsr ?_;refine Z.s ?_;clear Z;intro a Z;refine od ?_;refine wp_block ?_;refine wp_loop_ghost (fun n p x=>∃ k:Nat,k+n=t.Ac.length∧Sl p 26 [(4, .int .i64 (k:Int)),(1, .pointer (some ⟨b1,0,none⟩)),(2, .pointer (some ⟨b2,0,none⟩)),(3, .pointer (some ⟨b3,0,none⟩))]∧Below w.heap.size w x∧Rw x b1 (ER t ⟨sa,sc,pa,pc,ta,tc⟩) 28∧Rw x b2 #[.int .i64 0, .int .i64 0] 87∧Rw x b3 #[.int .i64 (Ak (t.Ac.take k)), .int .i64 t.pace] 87) (t.Ac.length) ⟨0,by omega,Z.sb,hB,K1,K2,K3⟩ ?_;clear Z hB K1 K2 K3;rintro n a x ⟨k,hkn,Z,hB,K1,K2,K3⟩;have hT:=hTW.below hB;refine wp_seq ?_;refine wsr ?_;(iterate 2 refine Z.s ?_;clear Z;intro a Z)
 refine Z.rv rfl rfl rfl (by decide) (Bf rfl (Z.ev 9 rfl) Try.underlying25 rfl (K1.cell (o:=4) (v := .slice pa t.Ac.length pc) rfl)) ?_;clear Z;intro a Z;refine Z.s ?_;clear Z;intro a Z
 by_cases hlt:k < t.Ac.length
 ·have q1:(k:Int) < (t.Ac.length:Int):=by omega
  refine Z.s ?_;clear Z;intro a Z;refine od ?_;refine wp_cond_true (Z.ev 12 rfl) ?_;refine wp_skip ?_;refine wp_seq ?_;refine wp_block ?_;obtain ⟨yb,yo,hya,y0,_,_⟩:=hT.Ac.at hlt;replace hya:pa=some ⟨yb,yo,none⟩:=hya;subst hya;simp only [Zf] at y0;have qk:(k:Int) < (t.Ac.length:Int):=by omega
  have hhk:=HHB.out k hlt;clear hT;have hb2:Below x.heap.size x x.drew:=(Below.refl _ _).drew;replace hB:=hB.trans (hb2.mono hB.size);replace K1:=K1.below hb2;replace K2:=K2.below hb2;replace K3:=K3.below hb2;replace y0:=BC hb2 y0;refine MB [[],[0],[],[2],[],[2,3,4],[2,3,4,5],[2,3,4,5,6],[0,1,2,3,4,5,6,7],[0,1,2,3,4,5,6,7,8],[0,1,2,3,4,5,6,7,8,9]] (fun i=>[10].contains i) (fun y=>Rw y b1 #[.int .i64 t.roads.days, .int .i64 t.roads.stages, .slice sa t.roads.strips.length sc, .int .i64 t.pace, .slice (some ⟨yb,yo,none⟩) t.Ac.length pc, .slice ta t.Ah.length tc] 28∧Rw y b3 #[.int .i64 (Ak (t.Ac.take k)), .int .i64 t.pace] 87∧y.cell? ⟨yb,yo+k*3,none⟩=some (.int .i64 t.Ac[k].heads)) rfl (by kernel_rfl) (by kernel_rfl) ⟨K1,K3,y0⟩ ?_;clear hb2;obtain ⟨x,hx2⟩:∃ q,q=x.drew:=⟨_,rfl⟩;rw [← hx2] at hB K1 K2 K3 y0 ⊢;clear hx2;refine Z.mr rfl rfl rfl rfl (by decide) ⟨?_,fun y hy K hK =>?_,?_⟩;rotate_left
  ·have e3:=Z.g 3;unfold CU;go_simp;exact hK
  clear Z;intro a Z;refine Z.mr rfl rfl rfl rfl (by decide) ⟨?_,fun y hy K hK =>?_,?_⟩;rotate_left
  ·have e15:=Z.g 15;obtain ⟨K1,K3,y0⟩:=hy;refine Dn (Bf rfl (Z.ev 15 rfl) Try.underlying3 rfl (K3.cell (o:=0) (v := .int .i64 (Ak (t.Ac.take k))) rfl)) ?_;exact hK
  clear Z;intro a Z;refine Z.mr rfl rfl rfl rfl (by decide) ⟨?_,fun y hy K hK =>?_,?_⟩;rotate_left
  ·have e1:=Z.g 1;unfold CU;go_simp;exact hK
  clear Z;intro a Z;refine Z.mr rfl rfl rfl rfl (by decide) ⟨?_,fun y hy K hK =>?_,?_⟩;rotate_left
  ·have e17:=Z.g 17;obtain ⟨K1,K3,y0⟩:=hy;refine Dn (Bf rfl (Z.ev 17 rfl) Try.underlying25 rfl (K1.cell (o:=4) (v := .slice (some ⟨yb,yo,none⟩) t.Ac.length pc) rfl)) ?_;exact hK
  clear Z;intro a Z;refine Z.mmv rfl rfl rfl (.inl rfl) rfl (by decide) rfl ?_;clear Z;intro a Z;refine Z.mr rfl rfl rfl rfl (by decide) ⟨?_,fun y hy K hK =>?_,?_⟩;rotate_left
  ·have e18:=Z.g 18;have e19:=Z.g 19;unfold CU;go_simp;exact hK
  clear Z;intro a Z;refine Z.mr rfl rfl rfl rfl (by decide) ⟨?_,fun y hy K hK =>?_,?_⟩;rotate_left
  ·have e20:=Z.g 20;unfold CU;go_simp;exact hK
  clear Z;intro a Z;refine Z.mr rfl rfl rfl rfl (by decide) ⟨?_,fun y hy K hK =>?_,?_⟩;rotate_left
  ·have e21:=Z.g 21;obtain ⟨K1,K3,y0⟩:=hy;refine Dn (Bf rfl (Z.ev 21 rfl) Try.underlying3 rfl (y0)) ?_;exact hK
  clear Z;intro a Z;refine Z.mr rfl rfl rfl rfl (by decide) ⟨?_,fun y hy K hK =>?_,?_⟩;rotate_left
  ·have e16:=Z.g 16;have e22:=Z.g 22;have hw23:=IntWalk.i64_in ((Ak (t.Ac.take k))+t.Ac[k].heads) (by omega);unfold CU;go_simp;exact hK
  clear Z;intro a Z;refine Z.mr rfl rfl rfl rfl (by decide) ⟨?_,fun y hy K hK =>?_,?_⟩;rotate_left
  ·have e3:=Z.g 3;unfold CU;go_simp;exact hK
  clear Z;intro a Z;refine Z.ml rfl rfl (by kernel_rfl) rfl rfl (fun K hK =>?_);have e23:=Z.g 23;have e24:=Z.g 24;refine KQ (DJ (v := .int .i64 ((Ak (t.Ac.take k))+t.Ac[k].heads)) rfl (Z.ev 24 rfl) (Z.ev 23 rfl) (by kernel_rfl) rfl rfl (K3.cell (o:=0) (v := .int .i64 (Ak (t.Ac.take k))) rfl) (K3.fz 0)) ?_;replace hB:=hB.setCell (p:=⟨b3,0,none⟩) (by show _≤b3;omega) (.int .i64 ((Ak (t.Ac.take k))+t.Ac[k].heads));replace K1:=K1.far (g:=b3) (by omega) 0 (.int .i64 ((Ak (t.Ac.take k))+t.Ac[k].heads));replace K2:=K2.far (g:=b3) (by omega) 0 (.int .i64 ((Ak (t.Ac.take k))+t.Ac[k].heads));replace K3:Rw _ b3 #[.int .i64 ((Ak (t.Ac.take k))+t.Ac[k].heads), .int .i64 t.pace] 87:=K3.set 0 (.int .i64 ((Ak (t.Ac.take k))+t.Ac[k].heads));clear y0;obtain ⟨x,hx2⟩:∃ q,q=x.setCell ⟨b3,0,none⟩ (.int .i64 ((Ak (t.Ac.take k))+t.Ac[k].heads)):=⟨_,rfl⟩;rw [← hx2] at hB K1 K2 K3 ⊢;clear hx2;clear e23 e24;refine hK _ _ ?_;clear hK;refine QB ?_;refine wr ?_;refine Z.s ?_;clear Z;intro a Z;refine og fun K hK =>?_
  have e13:=Z.g 13;have hw14:=IntWalk.i64_in ((k:Int)+1) (by omega);unfold Oper.wp;go_simp;clear e13;refine Z.K hK ?_;clear Z hK;intro a Z;refine Z.s ?_;clear Z;intro a Z;refine od ?_;have hnx:Ak (t.Ac.take k)+t.Ac[k].heads=Ak (t.Ac.take (k+1)):=QI hlt;rw [hnx] at K3;exact ⟨n-1,by omega,k+1,by omega,Z.sb,hB,K1,K2,K3⟩
 ·have q1:¬ (k:Int) < (t.Ac.length:Int):=by omega
  obtain rfl:k=t.Ac.length:=by omega
  refine Z.s ?_;clear Z;intro a Z;refine od ?_;refine wp_cond_false (Z.ev 12 rfl) ?_;refine wp_exit ?_;refine wp_seq ?_;rw [List.take_length] at K3;refine wr ?_;refine Z.rv rfl rfl rfl (by decide) (E8 rfl (Z.ev 3 rfl) Try.underlying87 rfl (by kernel_rfl) K3) ?_;clear Z;intro a Z;refine Z.rs rfl rfl rfl (FB rfl (Z.ev 2 rfl) (Z.ev 25 rfl) (by kernel_rfl) K2 rfl rfl) ?_;have hG:=BQ K2 #[.int .i64 (Ak t.Ac), .int .i64 t.pace];have K_:=K2.setRow #[.int .i64 (Ak t.Ac), .int .i64 t.pace];replace hB:=Ld hB hG (by omega);replace K1:=K1.grown hG (by simp;omega);replace K3:=K3.grown hG (by simp;omega);have K2:=K_;clear hG K_;obtain ⟨x,hx2⟩:∃ q,q=x.setRow b2 #[.int .i64 (Ak t.Ac), .int .i64 t.pace]:=⟨_,rfl⟩;rw [← hx2] at hB K1 K2 K3 ⊢;clear hx2;refine od ?_;refine wp_ret ?_
  try simp only [Exit.then,Exit.inBlock]
  refine bodyPost_ret (v := .agg #[.int .i64 (Ak t.Ac), .int .i64 t.pace]) ?_ Z.defers ⟨rfl,hB⟩;simp [results,Try.results57,Z.get 2 _ rfl,go_sem,K2.cell (o:=0) rfl,K2.cell (o:=1) rfl]
theorem Uw:Try.f50.body=some (Code.seq (Aa Try.f50 0) (Code.seq (Aa Try.f50 1) (Code.seq (Code.seq (Aa Try.f50 2) (Code.block 0 (Code.loop (Code.seq (Code.seq (Aa Try.f50 3) (Code.cond (Operand.tmp 10) Code.skip (Code.exit 0))) (Code.seq (Code.block 1 (Aa Try.f50 5)) (Aa Try.f50 4)))))) (Code.seq (Aa Try.f50 6) Code.ret)))):=by kernel_rfl
theorem RP {w:World} {t:Ae} {s:Ef} {way:List Int} {wa:Option Addr} {wc:Nat} (hT:CV w t s) (hW:Aq w wa way) (hC:Ap t=0) (hwl:way.length≤1000) (hin:∀ k∈way,0≤k∧k < (t.roads.strips.length:Int)):Calls Try.prog 50 #[.agg (ER t s), .slice wa way.length wc] w (fun e w'=>e = .returned (.int .i64 (Ij t.roads way))∧Below w.heap.size w w'):=by
 obtain ⟨sa,sc,pa,pc,ta,tc⟩:=s;have HIN:=Lib.hid hin;clear hin;have HLR:=Lib.hid (FH (TD hC) way);have HLG:=Lib.hid (Jy (TD hC));have hB:=Below.refl w.heap.size w;refine L9 Try.func50 Uw Try.ntmps50 ?_;intro a Z;refine wsr ?_;refine Z.s ?_;clear Z;intro a Z;refine Af (G:=fun W=>wpOps _ _ _ _ _ W) ?_;obtain ⟨b2,hg⟩:∃ b,b=w.heap.size:=⟨_,rfl⟩;intro x hz K2 hb2;rw [← hg] at Z K2;have hhB2:w.heap.size≤b2:=by rw [hg];exact hB.size
 replace hB:=hB.trans (hb2.mono hB.size);replace hT:=hT.below hb2;replace hW:=hW.below hb2;clear hz hg hb2;refine Z.s ?_;clear Z;intro a Z;refine od ?_;refine wsr ?_;refine Z.s ?_;clear Z;intro a Z;refine od ?_;refine wp_seq ?_;refine wsr ?_;refine Z.s ?_;clear Z;intro a Z;refine od ?_;refine wp_block ?_;refine wp_loop_ghost (fun n p x=>∃ k:Nat,k+n=way.length∧Sl p 26 [(6, .int .i64 (k:Int)),(1, .slice wa way.length wc),(2, .pointer (some ⟨b2,0,none⟩)),(5, .int .i64 (Gx t.roads way k))]∧Below w.heap.size w x∧CV x t ⟨sa,sc,pa,pc,ta,tc⟩∧Aq x wa way∧Rw x b2 (ER t ⟨sa,sc,pa,pc,ta,tc⟩) 28) (way.length) ⟨0,by omega,Z.sb,hB,hT,hW,K2⟩ ?_;clear Z hB hT hW K2;rintro n a x ⟨k,hkn,Z,hB,hT,hW,K2⟩;refine wp_seq ?_;refine wsr ?_;(iterate 3 refine Z.s ?_;clear Z;intro a Z)
 by_cases hlt:k < way.length
 ·have q1:(k:Int) < (way.length:Int):=by omega
  refine Z.s ?_;clear Z;intro a Z;refine od ?_;refine wp_cond_true (Z.ev 10 rfl) ?_;refine wp_skip ?_;refine wp_seq ?_;refine wp_block ?_;have hik:=HIN.out way[k] (List.getElem_mem hlt);obtain ⟨j,hj⟩:∃ j:Nat,way[k]=(j:Int):=⟨way[k].toNat,by omega⟩;have hjl:j < t.roads.strips.length:=by omega
  obtain ⟨wb,wo,hwa,c0⟩:∃ wb wo,wa=some ⟨wb,wo,none⟩∧x.cell? ⟨wb,wo+k,none⟩=some (.int .i64 (j:Int)):=by
   rcases hW with h0 | ⟨wb,wo,h1,h2⟩
   ·rw [h0] at hlt;simp at hlt
   ·exact ⟨wb,wo,h1,by have h3:=h2 k hlt;rw [hj] at h3;exact h3⟩
  subst hwa;obtain ⟨sb,so,hsa,_,_,c1,_⟩:=hT.strips.at hjl;replace hsa:sa=some ⟨sb,so,none⟩:=hsa;subst hsa;have qk:(k:Int) < (way.length:Int):=by omega
  have qj:(j:Int) < (t.roads.strips.length:Int):=by omega
  have hlk:=HLR.out k;have hgk:=HLG.out way[k];have hgj:MX t.roads way[k]=t.roads.strips[j].L:=by rw [hj];unfold MX;simp [hjl]
  rw [hgj] at hgk;have HGJ:=Lib.hid hgj;clear hgj hj hik;refine OZ rfl (by kernel_rfl) (by kernel_rfl) ?_;(iterate 3 refine Z.u ?_;clear Z;intro a Z);refine Z.q rfl rfl rfl (by decide) ⟨?_,fun y hy K hK =>?_,?_⟩;rotate_left
  ·have e15:=Z.g 15;replace hB:=hB.trans (hy.mono hB.size);replace hT:=hT.below hy;replace hW:=hW.below hy;replace K2:=K2.below hy;replace c0:=BC hy c0;replace c1:=BC hy c1;refine DU (Bf rfl (Z.ev 15 rfl) Try.underlying22 rfl (K2.cell (o:=2) (v := .slice (some ⟨sb,so,none⟩) t.roads.strips.length sc) rfl)) ?_;exact hK
  clear Z;intro a Z;(iterate 3 refine Z.u ?_;clear Z;intro a Z);refine Z.q rfl rfl rfl (by decide) ⟨?_,fun y hy K hK =>?_,?_⟩;rotate_left
  ·have e19:=Z.g 19;replace hB:=hB.trans (hy.mono hB.size);replace hT:=hT.below hy;replace hW:=hW.below hy;replace K2:=K2.below hy;replace c0:=BC hy c0;replace c1:=BC hy c1;refine DU (Bf rfl (Z.ev 19 rfl) Try.underlying3 rfl (c0)) ?_;exact hK
  clear Z;intro a Z;(iterate 2 refine Z.u ?_;clear Z;intro a Z);refine Z.q rfl rfl rfl (by decide) ⟨?_,fun y hy K hK =>?_,?_⟩;rotate_left
  ·have e22:=Z.g 22;replace hB:=hB.trans (hy.mono hB.size);replace hT:=hT.below hy;replace hW:=hW.below hy;replace K2:=K2.below hy;replace c0:=BC hy c0;replace c1:=BC hy c1;refine DU (Bf rfl (Z.ev 22 rfl) Try.underlying3 rfl (c1)) ?_;exact hK
  clear Z;intro a Z;refine Z.q rfl rfl rfl (by decide) ⟨?_,fun y hy K hK =>?_,?_⟩;rotate_left
  ·have e13:=Z.g 13;have e23:=Z.g 23;have hw24:=IntWalk.i64_in ((Gx t.roads way k)+t.roads.strips[j].L) (by omega);unfold Oper.FV;go_simp;exact hK
  clear Z;intro a Z;refine Z.u ?_;clear Z;intro a Z;refine JM ?_;intro x hb2;replace hB:=hB.trans (hb2.mono hB.size);replace hT:=hT.below hb2;replace hW:=hW.below hb2;replace K2:=K2.below hb2;replace c0:=BC hb2 c0;replace c1:=BC hb2 c1;clear hb2;refine wr ?_;refine Z.s ?_;clear Z;intro a Z;refine og fun K hK =>?_
  have e11:=Z.g 11;have hw12:=IntWalk.i64_in ((k:Int)+1) (by omega);unfold Oper.wp;go_simp;clear e11;refine Z.K hK ?_;clear Z hK;intro a Z;refine Z.s ?_;clear Z;intro a Z;refine od ?_;have hnx:Gx t.roads way k+t.roads.strips[j].L=Gx t.roads way (k+1):=by rw [Gx,show way.getD k 0=way[k] by simp [List.getD_eq_getElem?_getD,hlt],HGJ.out]
  rw [hnx] at Z;exact ⟨n-1,by omega,k+1,by omega,Z.sb,hB,hT,hW,K2⟩
 ·have q1:¬ (k:Int) < (way.length:Int):=by omega
  obtain rfl:k=way.length:=by omega
  refine Z.s ?_;clear Z;intro a Z;refine od ?_;refine wp_cond_false (Z.ev 10 rfl) ?_;refine wp_exit ?_;refine wsr ?_;(iterate 2 refine Z.s ?_;clear Z;intro a Z);refine od ?_;refine wp_ret ?_
  try simp only [Exit.then,Exit.inBlock]
  refine bodyPost_ret (v := .int .i64 (Ij t.roads way)) ?_ Z.defers ⟨rfl,hB⟩;simp [results,Try.results50,Z.get 4 _ rfl,Ij]
end
section
open Go.RowKit
def Zt (nt np:Nat) (l:List A8):Prop:=∀ p∈l,0≤p.toll∧p.toll < (nt:Int)∧0≤p.owner∧p.owner < (np:Int)∧1≤p.heads∧p.heads≤40
end
section
open Go Go.RowKit
theorem Ph {D S:Int} {s:Strip} (h:Lh D S s) (_hD:1≤D):BZ s D S=0:=by
 obtain ⟨h1,h2,h3,h4,h5,h6,h7,h8,h9,hk⟩:=h;unfold BZ;have b1:btw s.A 0 (S-1)=true:=Ai.2 (by omega);have b2:btw s.B 0 (S-1)=true:=Ai.2 (by omega);have b3:(s.A == s.B)=false:=by simpa using h5
 have b4:btw s.L 1 9=true:=Ai.2 (by omega);have b5:btw s.W 1 99=true:=Ai.2 (by omega);simp only [b1,b2,b3,b4,b5,Bool.not_true,Bool.or_self,Bool.false_eq_true,if_false];unfold Hl;rcases hk with ⟨k,x,y⟩ | ⟨k,x,y,z⟩ | ⟨k,x,y,z,u⟩ | ⟨k,x,y,z⟩
 all_goals
  rw [if_pos (by simp [k])];rw [if_pos];unfold Hg;simp only [k];simp
 ·exact ⟨x,y⟩
 ·exact ⟨Ai.2 (by omega),Ai.2 (by omega)⟩
 ·exact ⟨Ai.2 (by omega),Ai.2 (by omega)⟩
 ·exact ⟨Ai.2 (by omega),z⟩
theorem Ji {D S:Int} (hD:1≤D):∀ {l:List Strip},(∀ s∈l,Lh D S s)→Be D S l=0
 | [],_=>rfl
 | s :: l,h=>by
  have h1:=Ph (h s (by simp)) hD;unfold Be;rw [h1]
  simpa using Ji hD fun x hx=>h x (by simp [hx])
theorem PD {D S A k L W K X Y:Int} (hS:2≤S) (h0:0≤A) (h1:A≤max (S-1) 0) (k1:1≤k) (k2:k≤max (S-1) 1) (l1:1≤L) (l2:L≤max 4 1) (hW:W∈(90:Int) :: [90,90,45,25])
  (hk:(K=1∧X=0∧Y=0)∨(K=2∧0≤X∧X≤Y∧Y < D)∨(K=3∧0≤X∧X≤20∧-5≤Y∧Y≤5)∨(K=4∧1≤X∧X≤40∧Y=0)):Lh D S ⟨A,(A+k) % S,L,W,K,X,Y⟩:=by
 have e1:=Int.emod_nonneg (A+k) (show S≠0 by omega);have e2:=Int.emod_lt_of_pos (A+k) (show 0 < S by omega)
 have hne:A≠(A+k) % S:=by
  by_cases hlt:A+k < S
  ·rw [Int.emod_eq_of_lt (by omega) hlt];omega
  ·have:(A+k) % S=A+k-S:=by
    rw [← Int.sub_emod_right,Int.emod_eq_of_lt (by omega) (by omega)]
   rw [this];omega
 have hw:1≤W∧W≤99:=by
  simp only [List.mem_cons,List.mem_nil_iff,or_false] at hW
  omega
 exact ⟨h0,by show A < S;omega,e1,e2,hne,by show 1≤L;omega,by show L≤9;omega,hw.1,hw.2,hk⟩
theorem Ls {n:Int} {x:BK}:∀ {l pre:List BK},BR n pre l=0→BX n (pre++l) x=0→BR n pre (l++[x])=0
 | [],pre,_,h=>by
  rw [List.append_nil] at h;show (if BX n pre x=0 then BR n (pre++[x]) [] else BX n pre x)=0;rw [if_pos h];rfl
 | y :: l,pre,h1,h2=>by
  have hy:BX n pre y=0:=by
   by_cases c:BX n pre y=0
   ·exact c
   ·rw [BR,if_neg c] at h1;exact absurd h1 c
  rw [BR,if_pos hy] at h1;show (if BX n pre y=0 then BR n (pre++[y]) (l++[x]) else BX n pre y)=0;rw [if_pos hy];exact Ls h1 (by rw [List.append_assoc];exact h2)
structure Y6 (ns nt:Nat) (t:Ae):Prop where
 ok:Ap t=0
 ls:t.roads.strips.length≤ns
 lt:t.Ah.length≤nt
 lp:t.Ac.length≤3
 p1:1≤t.Ac.length
 st:2≤t.roads.stages∧t.roads.stages≤4
theorem UW {ps:List BA} (h:∀ p∈ps,0≤p.heads∧p.heads≤12):0≤Ak ps∧Ak ps≤12*(ps.length:Int):=by
 induction ps with
 | nil=>simp [Ak]
 | cons p l ih =>
  have h1:=h p (by simp);have h2:=ih fun x hx=>h x (by simp [hx])
  simp only [Ak,List.length_cons]
  push_cast;omega
theorem Un {ns nt:Nat} {D S pace:Int} {l:List Strip} {p:BA} {ps:List BA} {ts:List BK} (hD:1≤D∧D≤3) (hS:2≤S∧S≤4) (hl:∀ s∈l,Lh D S s) (hns:l.length≤ns) (h8:ns≤8) (hp:1≤pace∧pace≤9)
  (hps:∀ q∈p :: ps,(0≤q.heads∧q.heads≤12)∧0≤q.free∧q.free≤5) (hn:ps.length≤2) (ht:BR l.length [] ts=0) (hnt:ts.length≤nt) (h6:nt≤6):Y6 ns nt ⟨⟨D,S,l⟩,pace,{ p with heads:=p.heads+1 } :: ps,ts⟩:=by
 refine ⟨?_,hns,hnt,by show ps.length+1≤3;omega,by show 1≤ps.length+1;omega,hS⟩
 have c1:BM ⟨D,S,l⟩=0:=by
  unfold BM;have b1:btw D 1 10=true:=Ai.2 (by omega);have b2:btw S 1 6=true:=Ai.2 (by omega);simp only [b1,b2,Bool.not_true,Bool.or_self,Bool.false_eq_true,if_false];rw [if_neg (by omega)];exact Ji hD.1 hl
 have hh:=UW (ps:=ps) fun q hq=>(hps q (by simp [hq])).1
 have h0:=hps p (by simp)
 have c2:({ p with heads:=p.heads+1 } :: ps).all A7=true:=by
  rw [List.all_eq_true];intro q hq;unfold A7;rw [Bool.and_eq_true];rcases List.mem_cons.1 hq with rfl | hq
  ·exact ⟨Ai.2 (by show 0≤p.heads+1∧p.heads+1≤40;omega),Ai.2 (by show 0≤p.free∧p.free≤40;omega)⟩
  ·have:=hps q (by simp [hq]);exact ⟨Ai.2 (by omega),Ai.2 (by omega)⟩
 have c3:btw (Ak ({ p with heads:=p.heads+1 } :: ps)) 1 40=true:=Ai.2 (by simp only [Ak];omega)
 have c4:TL (({ p with heads:=p.heads+1 } :: ps).length:Int) 1 4=0:=by
  unfold TL;rw [if_neg (by simp only [List.length_cons];push_cast;omega),if_neg (by simp only [List.length_cons];push_cast;omega)]
 have c5:btw pace 1 9=true:=Ai.2 hp;unfold Ap;simp only [c1,c2,c3,c4,c5,ne_eq,not_true_eq_false,if_false,Bool.not_true,Bool.false_eq_true];unfold Ff;rw [if_neg (by show ¬ 6 < ts.length;omega)];exact ht
theorem P5 {n X R F z:Int} {ts:List BK} (hn:0 < n) (hX:0≤X∧X≤max (n-1) 0) (hR:R∈(0:Int) :: [25,50,z]) (hz:0≤z∧z≤max 500 0) (hF:1≤F∧F≤max 3 1) (hf:ts.all (fun y=>y.strip != X || y.farmer != F)=true):BX n ts ⟨X,R,F⟩=0:=by
 have hr:0≤R∧R≤500:=by
  simp only [List.mem_cons,List.mem_nil_iff,or_false] at hR
  omega
 unfold BX;have b1:btw X 0 (n-1)=true:=Ai.2 (by omega);have b2:btw R 0 500=true:=Ai.2 hr;have b3:btw F 1 4=true:=Ai.2 (by omega)
 have b4:(ts.any fun y=>y.strip == X && y.farmer == F)=false:=by
  rw [List.any_eq_false];intro y hy;have:=(List.all_eq_true.1 hf) y hy;intro hc;rw [Bool.and_eq_true] at hc;simp only [beq_iff_eq] at hc;simp [hc.1,hc.2] at this
 simp only [b1,b2,b3,b4,Bool.not_true,Bool.or_self,Bool.false_eq_true,if_false]
theorem Bl.put {α:Type} {f:α→List Value} {e:TypeId} {k:Nat} {w:World} {B g c:Nat} {l:List α} (h:Bl f e k w B (.slice (some ⟨g,0,none⟩) l.length c) l) (hf:∀ x,(f x).length=k) {i j:Nat} (hi:i < l.length) (hj:j < k) {y:α} {u:Value} (hy:f y=(f l[i]).set j u) :
  Bl f e k (w.setCell ⟨g,i*k+j,none⟩ u) B (.slice (some ⟨g,0,none⟩) (l.set i y).length c) (l.set i y):=by
 obtain ⟨h1,h2⟩:=h;refine ⟨EQ hf _,?_⟩;rcases h2 with ⟨hv,_⟩ | ⟨g',cap,cur,hv,hb,hh,hc,hm,hs,hcells⟩
 ·simp at hv
 ·simp only [Value.slice.injEq,Option.some.injEq,Addr.mk.injEq,and_true,true_and] at hv;obtain ⟨rfl,rfl⟩:=hv;refine .inr ⟨g,c,cur.setIfInBounds (i*k+j) u,by simp,hb,?_,by simpa using hc,hm,by simpa using hs,?_⟩
  ·simp [World.setCell,Array.getElem?_modify,hh]
  ·have hlt:i*k+j < l.length*k:=by
    have:(i+1)*k≤l.length*k:=Nat.mul_le_mul_right k hi;rw [Nat.add_mul] at this;omega
   rw [Array.toList_setIfInBounds,List.length_set,List.take_set,hcells];apply List.ext_getElem?;intro q
   by_cases hq:q < l.length*k
   ·have hk0:0 < k:=by omega
    have hqd:q / k < l.length:=(Nat.div_lt_iff_lt_mul hk0).2 hq;have hqm:q % k < k:=Nat.mod_lt _ hk0;have hsp:q / k*k+q % k=q:=by rw [Nat.mul_comm];exact Nat.div_add_mod q k
    have e1:=flat_get hf (l.set i y) (q / k) (q % k) (by simpa using hqd) hqm;have e2:=flat_get hf l (q / k) (q % k) hqd hqm;rw [hsp] at e1 e2;rw [e1,List.getElem?_set]
    by_cases ei:q / k=i
    ·subst ei;rw [List.getElem_set_self,hy,List.getElem?_set];have hfl:(l.flatMap f).length=l.length*k:=EQ hf l
     by_cases ej:j=q % k
     ·subst ej;rw [if_pos hsp,if_pos rfl,hfl,if_pos hlt,hf,if_pos hj]
     ·rw [if_neg (fun e=>ej (by omega)),if_neg ej,e2]
    ·rw [List.getElem_set_ne (Ne.symm ei),if_neg (fun e=>ei (by rw [← e,Nat.mul_comm,Nat.mul_add_div hk0,Nat.div_eq_of_lt hj];rfl)),e2]
   ·rw [List.getElem?_eq_none (by rw [List.length_set,EQ hf];omega),List.getElem?_eq_none (by rw [EQ hf];simpa using Nat.le_of_not_lt hq)]
theorem Bl.at0 {α:Type} {f:α→List Value} {e:TypeId} {k:Nat} {w:World} {B c:Nat} {a:Option Addr} {l:List α} (h:Bl f e k w B (.slice a l.length c) l) (hf:∀ x,(f x).length=k) (hpos:0 < l.length):∃ g,a=some ⟨g,0,none⟩∧B≤g∧g < w.heap.size∧(∀ (i:Nat) (hi:i < l.length) (j:Nat) (u:Value),j < k→(f l[i])[j]? = some u→w.cell? ⟨g,i*k+j,none⟩=some u)∧∀ o,w.frozen? ⟨g,o,none⟩=false:=by
 obtain ⟨a',c',hv,_,_,hn,hs⟩:=h.form hf;simp only [Value.slice.injEq,true_and] at hv;obtain ⟨rfl,rfl⟩:=hv
 cases a with
 | none=>have:=(hn rfl).1;subst this;simp at hpos
 | some ad =>
  obtain ⟨g,rfl,hg1,hg2,hc⟩:=hs ad rfl;refine ⟨g,rfl,hg1,hg2,hc,fun o =>?_⟩;rcases h.2 with ⟨hv,_⟩ | ⟨g',cap,cur,hv,_,hh,_⟩
  ·simp at hv
  ·simp only [Value.slice.injEq,Option.some.injEq,Addr.mk.injEq,and_true,true_and] at hv;obtain ⟨rfl,rfl⟩:=hv;simp [World.frozen?,hh]
theorem Me {α:Type} {P:α→Bool} {l:List α} {k:Nat} (h:k < l.length):(l.take (k+1)).all P=((l.take k).all P && P l[k]):=by
 rw [List.take_succ_eq_append_getElem h,List.all_append];simp
theorem wp_cut {P:Program} {c:Code} {Q:Exit→Act→World→Prop} {a:Act} {w:World} (R:Act→World→Prop) (h1:c.wp P (fun e a x=>e = .normal∧R a x) a w) (h2:∀ a x,R a x→Q .normal a x):c.wp P Q a w:=wp_mono h1 fun _ a x ⟨he,hr⟩=>by subst he;exact h2 a x hr
theorem Y8 (w:World) (hb B:Nat) (a:Option Addr) (n c:Nat) (h:AX w hb B a n c) (hB:B≤1000000) (some_ all:Int) (h3 : -1000≤all) (h4:all≤1000) :
  Calls Try.prog 45 #[.pointer (some ⟨hb,0,none⟩), .int .i64 some_, .int .i64 all] w (XU w hb (B+1) a n c fun v=>∃ x:Bool,v = .bool x):=by
 have H:=Lib.hid h;clear h
 go_enter Try.func45,Try.ntmps45
 go_wp2_with fail
 refine (Dl w hb B a n c H.out hB (all-1) (by omega) (by omega)).mono ?_;rintro e w1 ⟨_,⟨x,x1,x2,rfl⟩,rfl,hh,hE⟩;have HH:=Lib.hid hh;clear hh;have HE:=Lib.hid hE;clear hE
 go_wp2_with fail
 go_ret
 exact ⟨_,⟨_,rfl⟩,rfl,HH.out,HE.out⟩
theorem Y5 (w:World) {x n:Int} (h0:0≤x) (hx:x≤1000) (h1:1≤n) (hn:n≤1000):Calls Try.prog 61 #[.int .i64 x, .int .i64 n] w fun e w'=>e = .returned (.int .i64 (x % n))∧w=w':=by
 have e1:x.tmod n=x % n:=Int.tmod_eq_emod_of_nonneg h0;have e2:=Int.emod_nonneg x (show n≠0 by omega);have e3:=Int.emod_lt_of_pos x (show 0 < n by omega);have c1:¬ n < 1:=by omega
 have c2:¬ x % n < 0:=by omega
 have c3:n≠0:=by omega
 have hw:IntKind.i64.wrap (x % n)=x % n:=IntWalk.i64_in _ (by omega)
 go_enter Try.func61,Try.ntmps61
 go_wp2_with fail
 go_ret
 exact ⟨rfl,rfl⟩
end
end Go.Proofs.Ytgdobbcjkiapkaa
