import Derived.Test.YtgdobbcjkiapkaaFe36
import Derived.Test.YtgdobbcjkiapkaaFe19
import Derived.Laws.Tables
import Derived.Laws.Rows
import Derived.Test.YtgdobbcjkiapkaaFe34
namespace Go.Proofs.Ytgdobbcjkiapkaa
set_option maxRecDepth 100000
set_option maxHeartbeats 4000000
set_option linter.unusedSimpArgs false
set_option linter.unusedVariables false
section
open Go Go.RowKit
def C9 {α:Type} (f:α→List Value) (k:Nat) (w:World) (A:Option Addr) (ys:List α):Prop :=
 ys=[]∨∃ b o,A=some ⟨b,o,none⟩∧∀ (i:Nat) (hi:i < ys.length) (j:Nat) (u:Value),j < k→(f ys[i])[j]? = some u→w.cell? ⟨b,o+(i*k+j),none⟩=some u
section
variable {α:Type} {f:α→List Value} {e:TypeId} {k:Nat} {w:World} {B:Nat} {v:Value} {l:List α}
theorem AX.cells (h:AX f e k w B v l) (hf:∀ x,(f x).length=k):∃ a cap,v = .slice a l.length cap∧l.length≤cap∧cap≤maxLen∧C9 f k w a l:=by
 obtain ⟨a,cap,hv,h1,h2,hn,hs⟩:=h.form hf;refine ⟨a,cap,hv,h1,h2,?_⟩
 cases a with
 | none=>exact .inl (hn rfl).1
 | some ad =>
  obtain ⟨g,rfl,_,_,hc⟩:=hs ad rfl;exact .inr ⟨g,0,rfl,fun i hi j u hj hu=>by rw [Nat.zero_add];exact hc i hi j u hj hu⟩
theorem Nz (w:World) (B:Nat) (st ty:TypeId) {z:Value} {bytes:Nat} (hst:Try.prog.underlying st=some (.slice e)) (hinfo:(Try.prog.info? e).map (fun i=>(i.zero,i.size,i.bytes))=some (some z,k,bytes)) (hz:z.cells.size=k) (hk:0 < k) (hby:bytes≤100)
  (hown:AX f e k w B v l) (A:Option Addr) (c:Nat) (ys:List α) (hr:C9 f k w A ys) (hf:∀ y,(f y).length=k) (h1:∀ y∈ys,∀ u∈f y,u.oneCell'=true) (hlen:l.length+ys.length≤1000000) (hB:B≤w.heap.size) :
  ∃ v' w',(Builtin.append_ #[st,st] ty #[v, .slice A ys.length c]).run Try.prog w = .ok v' w'∧AX f e k w' B v' (l++ys)∧w.grownBy w' v.ownBlock∧(v'.ownBlock=v.ownBlock∨v'.ownBlock=some w.heap.size)∧(v ≠ .slice none 0 0→v' ≠ .slice none 0 0):=by
 obtain ⟨i0,hi,hz0,hz1,hz2⟩:=info_parts (P:=Try.prog) hinfo
 cases A with
 | none =>
  have:ys=[]:=by rcases hr with h | ⟨_,_,h,_⟩;exact h;simp at h
  subst this;refine ⟨v,w,?_,by simpa using hown,⟨rfl,rfl,rfl,Nat.le_refl _,fun _ _ _=>rfl⟩, .inl rfl,id⟩;rcases hown.2 with ⟨rfl,h0⟩ | ⟨g,cap,cur,rfl,_,_,hc,_⟩
  ·simp [Builtin.append_,run_underlying hst,sizeOf,typeInfo,hi,Builtin.lenOf,Builtin.firstCells]
  ·simp [Builtin.append_,run_underlying hst,sizeOf,typeInfo,hi,Builtin.lenOf,Builtin.firstCells,hc,storeCells]
 | some ad =>
  obtain ⟨v',w',q1,q2,q3,q4,q5⟩:=run_append_own_at (P:=Try.prog) w B st ty e i0 z k bytes hst hi hz0 hz1 hz2 hz hk v l.length _ hown ad ys.length c (ys.flatMap f) (D6 hf ys) (by
    intro j u hj;have hjl:j < ys.length*k:=by rw [← D6 hf ys];exact (List.getElem?_eq_some_iff.1 hj).1
    rcases hr with h | ⟨b,o,he,h⟩
    ·subst h;simp at hjl
    ·cases he
     have hq:j / k < ys.length:=(Nat.div_lt_iff_lt_mul hk).2 hjl;have hm:j % k < k:=Nat.mod_lt _ hk;have hsp:j / k*k+j % k=j:=by rw [Nat.mul_comm];exact Nat.div_add_mod j k
     have h2:=flat_get hf ys (j / k) (j % k) hq hm;rw [hsp,hj] at h2;have h3:=h (j / k) hq (j % k) u hm h2.symm;rw [hsp] at h3;have e:(⟨b,o,none⟩:Addr).add j=⟨b,o+j,none⟩:=by by_cases h0:j=0 <;> simp [Addr.add,h0]
     rw [e];exact h3) (by
    intro u hu;obtain ⟨y,hy,hu⟩:=List.mem_flatMap.1 hu;exact h1 y hy u hu) (by unfold maxLen;omega) (by
    have:(l.length+ys.length)*bytes≤1000000*100:=Nat.mul_le_mul hlen hby
    omega) hB
  refine ⟨v',w',q1,?_,q3,q5,fun hv e=>hv (q4.1 e).1⟩;unfold AX;rw [List.length_append,List.flatMap_append];exact q2
theorem O6 {o:Oper} {a:Act} {K:Act→World→Prop} {Q:Exit→Act→World→Prop} (st:TypeId) {z:Value} {bytes:Nat} (s x:Operand) (hst:Try.prog.underlying st=some (.slice e)) (hinfo:(Try.prog.info? e).map (fun i=>(i.zero,i.size,i.bytes))=some (some z,k,bytes)) (hz:z.cells.size=k) (hk:0 < k) (hby:bytes≤100)
  (ho:o.op = .call { callee := .builtin .append,args:=#[s,x],argTypes:=#[st,st] }) (hs:a.eval s=v) (hown:AX f e k w B v l) {A:Option Addr} {c:Nat} {ys:List α} (hx:a.eval x = .slice A ys.length c) (hr:C9 f k w A ys)
  (hf:∀ y,(f y).length=k) (h1:∀ y∈ys,∀ u∈f y,u.oneCell'=true) (hlen:l.length+ys.length≤1000000) (hB:B≤w.heap.size)
  (h:∀ v' w',AX f e k w' B v' (l++ys)→w.grownBy w' v.ownBlock→(v'.ownBlock=v.ownBlock∨v'.ownBlock=some w.heap.size)→(v ≠ .slice none 0 0→v' ≠ .slice none 0 0)→K (a.put o.dst v') w'):o.wp Try.prog a w K Q:=by
 obtain ⟨v',w',q1,q2,q3,q4,q5⟩:=Nz w B st o.type hst hinfo hz hk hby hown A c ys hr hf h1 hlen hB;unfold Oper.wp execOp;simp only [ho,resolve,invoke,builtin,Sem.run_bind,Sem.run_pure,Result.andThen_ok,List.map_toArray,List.map_cons,List.map_nil,hs,hx,q1];exact h v' w' q2 q3 q4 q5
theorem Ug {o:Oper} {a:Act} {K:Value→World→Prop} (st:TypeId) {z:Value} {bytes:Nat} (s x:Operand) (hst:Try.prog.underlying st=some (.slice e)) (hinfo:(Try.prog.info? e).map (fun i=>(i.zero,i.size,i.bytes))=some (some z,k,bytes)) (hz:z.cells.size=k) (hk:0 < k) (hby:bytes≤100)
  (ho:o.op = .call { callee := .builtin .append,args:=#[s,x],argTypes:=#[st,st] }) (hs:a.eval s=v) (hown:AX f e k w B v l) {A:Option Addr} {c:Nat} {ys:List α} (hx:a.eval x = .slice A ys.length c) (hr:C9 f k w A ys)
  (hf:∀ y,(f y).length=k) (h1:∀ y∈ys,∀ u∈f y,u.oneCell'=true) (hlen:l.length+ys.length≤1000000) (hB:B≤w.heap.size)
  (h:∀ v' w',AX f e k w' B v' (l++ys)→w.grownBy w' v.ownBlock→(v'.ownBlock=v.ownBlock∨v'.ownBlock=some w.heap.size)→(v ≠ .slice none 0 0→v' ≠ .slice none 0 0)→K v' w'):BP Try.prog o a w K:=by
 obtain ⟨v',w',q1,q2,q3,q4,q5⟩:=Nz w B st o.type hst hinfo hz hk hby hown A c ys hr hf h1 hlen hB;unfold BP execOp;simp only [ho,resolve,invoke,builtin,Sem.run_bind,Sem.run_pure,Result.andThen_ok,List.map_toArray,List.map_cons,List.map_nil,hs,hx,q1];exact h v' w' q2 q3 q4 q5
end
section
variable {w x x':World} {b g B:Nat} {c:Array Value} {t:TypeId} {r:Option Nat}
theorem Rw.grown (h:Rw x b c t) (hG:x.grownBy x' r) (hne:some b≠r):Rw x' b c t:=(hG.block b h.lt hne).trans h
theorem AX.grown {α:Type} {f:α→List Value} {e:TypeId} {k:Nat} {v:Value} {l:List α} (h:AX f e k x B v l) (hG:x.grownBy x' r) (hne:v.ownBlock≠r):AX f e k x' B v l:=h.keep fun q hq=>hG.block q (h.Ai hq).2 (by rw [← hq];exact hne)
theorem AX.Ic {α:Type} {f:α→List Value} {e:TypeId} {k:Nat} {v:Value} {l:List α} (h:AX f e k x B v l) (hb:x.heap.size≤b):v.ownBlock≠some b:=fun e=>by have:=(h.Ai e).2;omega
end
def Gy (s:Strip):List Value:=[.int .i64 s.A, .int .i64 s.B, .int .i64 s.L, .int .i64 s.W, .int .i64 s.K, .int .i64 s.X, .int .i64 s.Y]
def TA (p:BA):List Value:=[.int .i64 p.heads, .int .i64 p.free, .bool p.half]
def Nv (x:BB):List Value:=[.int .i64 x.strip, .int .i64 x.rate, .int .i64 x.farmer]
abbrev FN:=AX Gy 96 7
abbrev IX:=AX TA 69 3
abbrev J3:=AX Nv 57 3
theorem seven {j:Nat} (h:j < 7):j=0∨j=1∨j=2∨j=3∨j=4∨j=5∨j=6:=by omega
theorem three {j:Nat} (h:j < 3):j=0∨j=1∨j=2:=by omega
theorem Gx (l:List Strip):∀ y∈l,∀ u∈Gy y,u.oneCell'=true:=fun y _ u hu=>by simp only [Gy,List.mem_cons,List.not_mem_nil,or_false] at hu;rcases hu with rfl | rfl | rfl | rfl | rfl | rfl | rfl <;> rfl
theorem Ve (l:List BA):∀ y∈l,∀ u∈TA y,u.oneCell'=true:=fun y _ u hu=>by simp only [TA,List.mem_cons,List.not_mem_nil,or_false] at hu;rcases hu with rfl | rfl | rfl <;> rfl
theorem SS (l:List BB):∀ y∈l,∀ u∈Nv y,u.oneCell'=true:=fun y _ u hu=>by simp only [Nv,List.mem_cons,List.not_mem_nil,or_false] at hu;rcases hu with rfl | rfl | rfl <;> rfl
theorem TC (l:List Au):∀ y∈l,∀ u∈ND y,u.oneCell'=true:=fun y _ u hu=>by simp only [ND,List.mem_cons,List.not_mem_nil,or_false] at hu;rcases hu with rfl | rfl | rfl <;> rfl
theorem C9.strips {w:World} {A:Option Addr} {l:List Strip}:C9 Gy 7 w A l↔Eu w A l:=by
 constructor
 ·rintro (h | ⟨b,o,ha,h⟩)
  ·exact .inl h
  ·exact .inr ⟨b,o,ha,fun i hi=>⟨h i hi 0 _ (by omega) rfl,(h i hi 1 _ (by omega) rfl :),(h i hi 2 _ (by omega) rfl :),(h i hi 3 _ (by omega) rfl :),(h i hi 4 _ (by omega) rfl :),(h i hi 5 _ (by omega) rfl :),(h i hi 6 _ (by omega) rfl :)⟩⟩
 ·rintro (h | ⟨b,o,ha,h⟩)
  ·exact .inl h
  ·refine .inr ⟨b,o,ha,fun i hi j u hj hu =>?_⟩;obtain ⟨c0,c1,c2,c3,c4,c5,c6⟩:=h i hi;rcases seven hj with rfl | rfl | rfl | rfl | rfl | rfl | rfl <;> (simp only [Gy,List.getElem?_cons_zero,List.getElem?_cons_succ,Option.some.injEq] at hu;subst hu;assumption)
theorem C9.tri {α:Type} {f:α→List Value} {g:α→Value×Value×Value} (hfg:∀ x,f x=[(g x).1,(g x).2.1,(g x).2.2]) {w:World} {A:Option Addr} {l:List α}:C9 f 3 w A l↔OY g w A l:=by
 constructor
 ·rintro (h | ⟨b,o,ha,h⟩)
  ·exact .inl h
  ·exact .inr ⟨b,o,ha,fun i hi=>⟨h i hi 0 _ (by omega) (by rw [hfg];rfl),(h i hi 1 _ (by omega) (by rw [hfg];rfl) :),(h i hi 2 _ (by omega) (by rw [hfg];rfl) :)⟩⟩
 ·rintro (h | ⟨b,o,ha,h⟩)
  ·exact .inl h
  ·refine .inr ⟨b,o,ha,fun i hi j u hj hu =>?_⟩;obtain ⟨c0,c1,c2⟩:=h i hi;rw [hfg] at hu;rcases three hj with rfl | rfl | rfl <;> (simp only [List.getElem?_cons_zero,List.getElem?_cons_succ,Option.some.injEq] at hu;subst hu;assumption)
theorem C9.Ae {w:World} {A:Option Addr} {l:List BA}:C9 TA 3 w A l↔SH w A l:=C9.tri (f:=TA) (g:=YI) fun _=>rfl
theorem C9.Ag {w:World} {A:Option Addr} {l:List BB}:C9 Nv 3 w A l↔WN w A l:=C9.tri (f:=Nv) (g:=Om) fun _=>rfl
structure BU (w:World) (B:Nat) (t:Ac) (s:DT):Prop where
 os:FN w B (.slice s.sa t.roads.strips.length s.sc) t.roads.strips
 op:IX w B (.slice s.pa t.Ae.length s.pc) t.Ae
 ot:J3 w B (.slice s.ta t.Ag.length s.tc) t.Ag
theorem BU.tar {w:World} {B:Nat} {t:Ac} {s:DT} (h:BU w B t s):CZ w t s:=by
 obtain ⟨a1,c1,e1,l1,m1,x1⟩:=h.os.cells (fun _=>rfl);obtain ⟨a2,c2,e2,l2,m2,x2⟩:=h.op.cells (fun _=>rfl);obtain ⟨a3,c3,e3,l3,m3,x3⟩:=h.ot.cells (fun _=>rfl);simp only [Value.slice.injEq,true_and] at e1 e2 e3;obtain ⟨rfl,rfl⟩:=e1;obtain ⟨rfl,rfl⟩:=e2;obtain ⟨rfl,rfl⟩:=e3;exact ⟨C9.strips.1 x1,C9.Ae.1 x2,C9.Ag.1 x3,Nat.le_trans l1 m1,Nat.le_trans l2 m2,Nat.le_trans l3 m3,l2,l3⟩
theorem BU.below {w w':World} {B:Nat} {t:Ac} {s:DT} (h:BU w B t s) (hb:Below w.heap.size w w'):BU w' B t s:=⟨h.os.below hb,h.op.below hb,h.ot.below hb⟩
theorem BU.ext {w w':World} {B m:Nat} {t:Ac} {s:DT} (h:BU w B t s) (hE:Ext m w w') (hm:m < B):BU w' B t s:=⟨h.os.ext hE hm,h.op.ext hE hm,h.ot.ext hE hm⟩
theorem BU.lower {w:World} {B B':Nat} {t:Ac} {s:DT} (h:BU w B t s) (hB:B'≤B):BU w B' t s:=⟨h.os.lower hB,h.op.lower hB,h.ot.lower hB⟩
theorem BU.make {w:World} {B:Nat} {r:DR} {p:Int} {ps:List BA} {ts:List BB} {v1 v2 v3:Value} (h1:FN w B v1 r.strips) (h2:IX w B v2 ps) (h3:J3 w B v3 ts):∃ s,BU w B ⟨r,p,ps,ts⟩ s ∧ .agg #[.int .i64 r.days, .int .i64 r.stages,v1, .int .i64 p,v2,v3]=Value.agg (EY ⟨r,p,ps,ts⟩ s):=by
 obtain ⟨a1,c1,e1,_⟩:=h1.cells (fun _=>rfl);obtain ⟨a2,c2,e2,_⟩:=h2.cells (fun _=>rfl);obtain ⟨a3,c3,e3,_⟩:=h3.cells (fun _=>rfl);subst e1 e2 e3;exact ⟨⟨a1,c1,a2,c2,a3,c3⟩,⟨h1,h2,h3⟩,rfl⟩
end
section
open Go Go.RowKit
section
variable {P:Program} {ops:Array Oper} {Q:Exit→Act→World→Prop} {i:Nat} {rest:List Nat} {o:Oper} {a:Act} {n d:Nat} {m:List (Nat×Value)} {v:Value} {w w':World} {b:Nat} {c c':Array Value} {t ty:TypeId}
theorem FT {x:Operand} {td:TypeDesc} (ho:o.op = .load ty x) (hx:a.eval x = .pointer (some ⟨b,0,none⟩)) (hu:P.underlying ty=some td) (hd:(match td with | .struct _ | .array _ _=>true | _=>false)=true) (hi:(P.info? ty).map (·.size)=some c.size) (K:Rw w b c t):(execOp a.eval o).run P w = .ok (.value (.agg c)) w:=by
 have h:=run_loadVar_row (P:=P) w b t ty c (0,0) td K hu hd hi;unfold execOp;simp only [ho,hx,Instr.loadAt,Instr.sureAddr,Sem.run_bind,Sem.run_pure,Result.andThen_ok,h]
theorem GH {x y:Operand} (ho:o.op = .store ty x y) (hx:a.eval x = .pointer (some ⟨b,0,none⟩)) (hy:a.eval y = .agg c') (hi:(P.info? ty).map (·.size)=some c'.size) (K:Rw w b c t) (hs:c.size=c'.size) (h1:c'.toList.all (·.oneCell')=true):(execOp a.eval o).run P w = .ok .skip (w.setRow b c'):=by
 have h:=run_storeVar_row (P:=P) w b t ty c c' K hi hs (by rw [← Array.all_toList];exact h1);unfold execOp;simp only [ho,hx,hy,Instr.storeAt,Instr.sureAddr,Sem.run_bind,Sem.run_pure,Result.andThen_ok,h]
theorem AZ {x:Operand} {q:Nat} {td:TypeDesc} (ho:o.op = .load ty x) (hx:a.eval x = .pointer (some ⟨b,q,none⟩)) (hu:P.underlying ty=some td) (hd:(match td with | .struct _ | .array _ _=>true | _=>false)=false) (hc:w.cell? ⟨b,q,none⟩=some v):(execOp a.eval o).run P w = .ok (.value v) w:=by
 have h:(isAgg ty).run P w = .ok false w:=by cases td <;> simp_all [isAgg,run_underlying hu]
 unfold execOp;simp only [ho,hx,Instr.loadAt,Instr.sureAddr,loadVar,Sem.run_bind,Sem.run_pure,Result.andThen_ok,h];simp [hc]
theorem DN {x y:Operand} {q:Nat} {u:Value} (ho:o.op = .store ty x y) (hx:a.eval x = .pointer (some ⟨b,q,none⟩)) (hy:a.eval y=v) (hi:(P.info? ty).map (·.size)=some 1) (hs:v.cells = #[v]) (h1:v.oneCell'=true) (hc:w.cell? ⟨b,q,none⟩=some u) (hf:w.frozen? ⟨b,q,none⟩=false):(execOp a.eval o).run P w = .ok .skip (w.setCell ⟨b,q,none⟩ v):=by
 have hst:=Go.run_store P w ⟨b,q,none⟩ v .plain h1;rw [hc] at hst;simp only [hf] at hst;have e0:(⟨b,q,none⟩:Addr).add 0=⟨b,q,none⟩:=by simp [Addr.add]
 cases hq:P.info? ty with
 | none=>simp [hq] at hi
 | some i =>
  have hsz:i.size=1:=by simpa [hq] using hi
  unfold execOp;simp only [ho,hx,hy,Instr.storeAt,Instr.sureAddr,Sem.run_bind,Sem.run_pure,Result.andThen_ok];simp [storeVar,sizeOf,typeInfo,hq,hsz,hs,storeCells,e0,hst]
theorem Sl.rv (h:Sl a n m) (ho:ops[i]? = some o) (hg:o.guard=none) (hd:o.dst=some d) (hn:d < n) (hr:(execOp a.eval o).run P w = .ok (.value v) w') (hG:∀ a',Sl a' n ((d,v) :: m)→wpOps P ops Q rest a' w'):wpOps P ops Q (i :: rest) a w:=by
 refine Bz ho hg (fun K hK =>?_);unfold Oper.wp;rw [hr,Oper.upon_value,hd];exact h.k hK hn hG
theorem Sl.rs (_h:Sl a n m) (ho:ops[i]? = some o) (hg:o.guard=none) (hd:o.dst=none) (hr:(execOp a.eval o).run P w = .ok .skip w') (hG:wpOps P ops Q rest a w'):wpOps P ops Q (i :: rest) a w:=by
 refine Bz ho hg (fun K hK =>?_);unfold Oper.wp;rw [hr,Oper.upon_skip,hd];exact hK _ _ hG
theorem F8 {K:Value→Prop} (hr:(execOp a.eval o).run P w = .ok (.value v) w) (hK:K v):EQ P o a w K:=by unfold EQ;rw [hr];exact ⟨rfl,hK⟩
theorem DJ {C:World→Prop} {K:Value→Prop} (hr:(execOp a.eval o).run P w = .ok (.value v) w) (hK:K v):Oper.FD P o a C w K:=by unfold Oper.FD;rw [hr];exact ⟨rfl,hK⟩
theorem NP {K:Value→World→Prop} (hr:(execOp a.eval o).run P w = .ok .skip w') (hK:K undef w'):BP P o a w K:=by unfold BP;rw [hr];exact hK
theorem Rw.setRow (K:Rw w b c t) (c':Array Value):Rw (w.setRow b c') b c' t:=setRow_heap w b c c' t (0,0) K
theorem Ce (K:Rw w b c t) (c':Array Value):w.grownBy (w.setRow b c') (some b):=by
 refine ⟨rfl,rfl,rfl,by simp [World.setRow],fun k hk hne =>?_⟩;unfold World.setRow;simp only [Array.getElem?_modify];rw [if_neg (fun e=>hne (by rw [e]))]
end
section
variable {w x x':World} {b g B:Nat} {c:Array Value} {t:TypeId}
theorem AX.Vq {α:Type} {f:α→List Value} {e:TypeId} {k:Nat} {v:Value} {l:List α} (h:AX f e k x B v l) (hg:g < B):v.ownBlock≠some g:=fun e=>by have:=(h.Ai e).1;omega
theorem AX.WV {α:Type} {f:α→List Value} {e:TypeId} {k:Nat} {v:Value} {l:List α} (h:AX f e k x B v l) (hne:v.ownBlock≠some g) (o:Nat) (u:Value):AX f e k (x.setCell ⟨g,o,none⟩ u) B v l:=h.keep fun q hq=>Below.heap_setCell _ ⟨g,o,none⟩ _ q (by intro e;apply hne;rw [hq,e])
theorem AX.Aac {α:Type} {f:α→List Value} {e:TypeId} {k C:Nat} {v:Value} {l:List α} (h:AX f e k x B v l) (hu:RD C v) (hg:g < B∨C≤g):v.ownBlock≠some g:=fun e=>by have:=(h.Ai e).1;have:=hu g e;omega
theorem AX.ZU {α:Type} {f:α→List Value} {e:TypeId} {k C:Nat} {v:Value} {l:List α} (h:AX f e k x B v l) (hu:RD C v) (hg:g < B∨C≤g) (o:Nat) (u:Value):AX f e k (x.setCell ⟨g,o,none⟩ u) B v l:=h.WV (h.Aac hu hg) o u
theorem AQ.grown {hb n ca D:Nat} {a:Option Addr} (h:AQ x hb D a n ca) (hG:x.grownBy x' (some g)) (hlt:hb < g):AQ x' hb D a n ca:=h.keep fun k hk hle=>hG.block k hk (by simp;omega)
theorem Ext.grown {m:Nat} (h:Ext m w x) (hG:x.grownBy x' (some g)) (hw:w.heap.size≤g):Ext m w x' :=
 ⟨hG.os.trans h.os,hG.tape.trans h.tape,hG.output.trans h.output,Nat.le_trans h.size hG.size,fun k hk hne=>(hG.block k (Nat.lt_of_lt_of_le hk h.size) (by simp;omega)).trans (h.block k hk hne)⟩
theorem Uw (h:Below w.heap.size w x) (hG:x.grownBy x' (some g)) (hw:w.heap.size≤g):Below w.heap.size w x':=h.grown hG h.size fun k hk=>by cases hk;exact hw
end
end
section
open Go.RowKit
end
section
open Go.RowKit
def Me (nt np:Nat) (l:List Au):Prop:=∀ p∈l,0≤p.toll∧p.toll < (nt:Int)∧0≤p.owner∧p.owner < (np:Int)∧1≤p.heads∧p.heads≤40
end
section
open Go Go.RowKit
theorem Ot {D S:Int} {s:Strip} (h:JZ D S s) (_hD:1≤D):CE s D S=0:=by
 obtain ⟨h1,h2,h3,h4,h5,h6,h7,h8,h9,hk⟩:=h;unfold CE;have b1:btw s.A 0 (S-1)=true:=Aj.2 (by omega);have b2:btw s.B 0 (S-1)=true:=Aj.2 (by omega);have b3:(s.A == s.B)=false:=by simpa using h5
 have b4:btw s.L 1 9=true:=Aj.2 (by omega);have b5:btw s.W 1 99=true:=Aj.2 (by omega);simp only [b1,b2,b3,b4,b5,Bool.not_true,Bool.or_self,Bool.false_eq_true,if_false];unfold GV;rcases hk with ⟨k,x,y⟩ | ⟨k,x,y,z⟩ | ⟨k,x,y,z,u⟩ | ⟨k,x,y,z⟩
 all_goals
  rw [if_pos (by simp [k])];rw [if_pos];unfold GU;simp only [k];simp
 ·exact ⟨x,y⟩
 ·exact ⟨Aj.2 (by omega),Aj.2 (by omega)⟩
 ·exact ⟨Aj.2 (by omega),Aj.2 (by omega)⟩
 ·exact ⟨Aj.2 (by omega),z⟩
theorem IP {D S:Int} (hD:1≤D):∀ {l:List Strip},(∀ s∈l,JZ D S s)→Bl D S l=0
 | [],_=>rfl
 | s :: l,h=>by
  have h1:=Ot (h s (by simp)) hD;unfold Bl;rw [h1]
  simpa using IP hD fun x hx=>h x (by simp [hx])
theorem OH {D S A k L W K X Y:Int} (hS:2≤S) (h0:0≤A) (h1:A≤max (S-1) 0) (k1:1≤k) (k2:k≤max (S-1) 1) (l1:1≤L) (l2:L≤max 4 1) (hW:W∈(90:Int) :: [90,90,45,25])
  (hk:(K=1∧X=0∧Y=0)∨(K=2∧0≤X∧X≤Y∧Y < D)∨(K=3∧0≤X∧X≤20∧-5≤Y∧Y≤5)∨(K=4∧1≤X∧X≤40∧Y=0)):JZ D S ⟨A,(A+k) % S,L,W,K,X,Y⟩:=by
 have e1:=Int.emod_nonneg (A+k) (show S≠0 by omega);have e2:=Int.emod_lt_of_pos (A+k) (show 0 < S by omega)
 have hne:A≠(A+k) % S:=by
  by_cases hlt:A+k < S
  ·rw [Int.emod_eq_of_lt (by omega) hlt];omega
  ·have:(A+k) % S=A+k-S:=by
    rw [← Int.sub_emod_right,Int.emod_eq_of_lt (by omega) (by omega)]
   rw [this];omega
 have hw:1≤W∧W≤99:=by
  simp only [List.mem_cons,List.mem_nil_iff,or_false] at hW
  omega
 exact ⟨h0,by show A < S;omega,e1,e2,hne,by show 1≤L;omega,by show L≤9;omega,hw.1,hw.2,hk⟩
theorem J6 {n:Int} {x:BB}:∀ {l pre:List BB},BH n pre l=0→BL n (pre++l) x=0→BH n pre (l++[x])=0
 | [],pre,_,h=>by
  rw [List.append_nil] at h;show (if BL n pre x=0 then BH n (pre++[x]) [] else BL n pre x)=0;rw [if_pos h];rfl
 | y :: l,pre,h1,h2=>by
  have hy:BL n pre y=0:=by
   by_cases c:BL n pre y=0
   ·exact c
   ·rw [BH,if_neg c] at h1;exact absurd h1 c
  rw [BH,if_pos hy] at h1;show (if BL n pre y=0 then BH n (pre++[y]) (l++[x]) else BL n pre y)=0;rw [if_pos hy];exact J6 h1 (by rw [List.append_assoc];exact h2)
structure Yf (ns nt:Nat) (t:Ac):Prop where
 ok:Ar t=0
 ls:t.roads.strips.length≤ns
 lt:t.Ag.length≤nt
 lp:t.Ae.length≤3
 p1:1≤t.Ae.length
 st:2≤t.roads.stages∧t.roads.stages≤4
theorem TY {ps:List BA} (h:∀ p∈ps,0≤p.heads∧p.heads≤12):0≤AV ps∧AV ps≤12*(ps.length:Int):=by
 induction ps with
 | nil=>simp [AV]
 | cons p l ih =>
  have h1:=h p (by simp);have h2:=ih fun x hx=>h x (by simp [hx])
  simp only [AV,List.length_cons]
  push_cast;omega
theorem Ti {ns nt:Nat} {D S pace:Int} {l:List Strip} {p:BA} {ps:List BA} {ts:List BB} (hD:1≤D∧D≤3) (hS:2≤S∧S≤4) (hl:∀ s∈l,JZ D S s) (hns:l.length≤ns) (h8:ns≤8) (hp:1≤pace∧pace≤9)
  (hps:∀ q∈p :: ps,(0≤q.heads∧q.heads≤12)∧0≤q.free∧q.free≤5) (hn:ps.length≤2) (ht:BH l.length [] ts=0) (hnt:ts.length≤nt) (h6:nt≤6):Yf ns nt ⟨⟨D,S,l⟩,pace,{ p with heads:=p.heads+1 } :: ps,ts⟩:=by
 refine ⟨?_,hns,hnt,by show ps.length+1≤3;omega,by show 1≤ps.length+1;omega,hS⟩
 have c1:BG ⟨D,S,l⟩=0:=by
  unfold BG;have b1:btw D 1 10=true:=Aj.2 (by omega);have b2:btw S 1 6=true:=Aj.2 (by omega);simp only [b1,b2,Bool.not_true,Bool.or_self,Bool.false_eq_true,if_false];rw [if_neg (by omega)];exact IP hD.1 hl
 have hh:=TY (ps:=ps) fun q hq=>(hps q (by simp [hq])).1
 have h0:=hps p (by simp)
 have c2:({ p with heads:=p.heads+1 } :: ps).all A8=true:=by
  rw [List.all_eq_true];intro q hq;unfold A8;rw [Bool.and_eq_true];rcases List.mem_cons.1 hq with rfl | hq
  ·exact ⟨Aj.2 (by show 0≤p.heads+1∧p.heads+1≤40;omega),Aj.2 (by show 0≤p.free∧p.free≤40;omega)⟩
  ·have:=hps q (by simp [hq]);exact ⟨Aj.2 (by omega),Aj.2 (by omega)⟩
 have c3:btw (AV ({ p with heads:=p.heads+1 } :: ps)) 1 40=true:=Aj.2 (by simp only [AV];omega)
 have c4:Sj (({ p with heads:=p.heads+1 } :: ps).length:Int) 1 4=0:=by
  unfold Sj;rw [if_neg (by simp only [List.length_cons];push_cast;omega),if_neg (by simp only [List.length_cons];push_cast;omega)]
 have c5:btw pace 1 9=true:=Aj.2 hp;unfold Ar;simp only [c1,c2,c3,c4,c5,ne_eq,not_true_eq_false,if_false,Bool.not_true,Bool.false_eq_true];unfold ET;rw [if_neg (by show ¬ 6 < ts.length;omega)];exact ht
theorem Pi {n X R F z:Int} {ts:List BB} (hn:0 < n) (hX:0≤X∧X≤max (n-1) 0) (hR:R∈(0:Int) :: [25,50,z]) (hz:0≤z∧z≤max 500 0) (hF:1≤F∧F≤max 3 1) (hf:ts.all (fun y=>y.strip != X || y.farmer != F)=true):BL n ts ⟨X,R,F⟩=0:=by
 have hr:0≤R∧R≤500:=by
  simp only [List.mem_cons,List.mem_nil_iff,or_false] at hR
  omega
 unfold BL;have b1:btw X 0 (n-1)=true:=Aj.2 (by omega);have b2:btw R 0 500=true:=Aj.2 hr;have b3:btw F 1 4=true:=Aj.2 (by omega)
 have b4:(ts.any fun y=>y.strip == X && y.farmer == F)=false:=by
  rw [List.any_eq_false];intro y hy;have:=(List.all_eq_true.1 hf) y hy;intro hc;rw [Bool.and_eq_true] at hc;simp only [beq_iff_eq] at hc;simp [hc.1,hc.2] at this
 simp only [b1,b2,b3,b4,Bool.not_true,Bool.or_self,Bool.false_eq_true,if_false]
theorem AX.put {α:Type} {f:α→List Value} {e:TypeId} {k:Nat} {w:World} {B g c:Nat} {l:List α} (h:AX f e k w B (.slice (some ⟨g,0,none⟩) l.length c) l) (hf:∀ x,(f x).length=k) {i j:Nat} (hi:i < l.length) (hj:j < k) {y:α} {u:Value} (hy:f y=(f l[i]).set j u) :
  AX f e k (w.setCell ⟨g,i*k+j,none⟩ u) B (.slice (some ⟨g,0,none⟩) (l.set i y).length c) (l.set i y):=by
 obtain ⟨h1,h2⟩:=h;refine ⟨D6 hf _,?_⟩;rcases h2 with ⟨hv,_⟩ | ⟨g',cap,cur,hv,hb,hh,hc,hm,hs,hcells⟩
 ·simp at hv
 ·simp only [Value.slice.injEq,Option.some.injEq,Addr.mk.injEq,and_true,true_and] at hv;obtain ⟨rfl,rfl⟩:=hv;refine .inr ⟨g,c,cur.setIfInBounds (i*k+j) u,by simp,hb,?_,by simpa using hc,hm,by simpa using hs,?_⟩
  ·simp [World.setCell,Array.getElem?_modify,hh]
  ·have hlt:i*k+j < l.length*k:=by
    have:(i+1)*k≤l.length*k:=Nat.mul_le_mul_right k hi;rw [Nat.add_mul] at this;omega
   rw [Array.toList_setIfInBounds,List.length_set,List.take_set,hcells];apply List.ext_getElem?;intro q
   by_cases hq:q < l.length*k
   ·have hk0:0 < k:=by omega
    have hqd:q / k < l.length:=(Nat.div_lt_iff_lt_mul hk0).2 hq;have hqm:q % k < k:=Nat.mod_lt _ hk0;have hsp:q / k*k+q % k=q:=by rw [Nat.mul_comm];exact Nat.div_add_mod q k
    have e1:=flat_get hf (l.set i y) (q / k) (q % k) (by simpa using hqd) hqm;have e2:=flat_get hf l (q / k) (q % k) hqd hqm;rw [hsp] at e1 e2;rw [e1,List.getElem?_set]
    by_cases ei:q / k=i
    ·subst ei;rw [List.getElem_set_self,hy,List.getElem?_set];have hfl:(l.flatMap f).length=l.length*k:=D6 hf l
     by_cases ej:j=q % k
     ·subst ej;rw [if_pos hsp,if_pos rfl,hfl,if_pos hlt,hf,if_pos hj]
     ·rw [if_neg (fun e=>ej (by omega)),if_neg ej,e2]
    ·rw [List.getElem_set_ne (Ne.symm ei),if_neg (fun e=>ei (by rw [← e,Nat.mul_comm,Nat.mul_add_div hk0,Nat.div_eq_of_lt hj];rfl)),e2]
   ·rw [List.getElem?_eq_none (by rw [List.length_set,D6 hf];omega),List.getElem?_eq_none (by rw [D6 hf];simpa using Nat.le_of_not_lt hq)]
theorem AX.at0 {α:Type} {f:α→List Value} {e:TypeId} {k:Nat} {w:World} {B c:Nat} {a:Option Addr} {l:List α} (h:AX f e k w B (.slice a l.length c) l) (hf:∀ x,(f x).length=k) (hpos:0 < l.length):∃ g,a=some ⟨g,0,none⟩∧B≤g∧g < w.heap.size∧(∀ (i:Nat) (hi:i < l.length) (j:Nat) (u:Value),j < k→(f l[i])[j]? = some u→w.cell? ⟨g,i*k+j,none⟩=some u)∧∀ o,w.frozen? ⟨g,o,none⟩=false:=by
 obtain ⟨a',c',hv,_,_,hn,hs⟩:=h.form hf;simp only [Value.slice.injEq,true_and] at hv;obtain ⟨rfl,rfl⟩:=hv
 cases a with
 | none=>have:=(hn rfl).1;subst this;simp at hpos
 | some ad =>
  obtain ⟨g,rfl,hg1,hg2,hc⟩:=hs ad rfl;refine ⟨g,rfl,hg1,hg2,hc,fun o =>?_⟩;rcases h.2 with ⟨hv,_⟩ | ⟨g',cap,cur,hv,_,hh,_⟩
  ·simp at hv
  ·simp only [Value.slice.injEq,Option.some.injEq,Addr.mk.injEq,and_true,true_and] at hv;obtain ⟨rfl,rfl⟩:=hv;simp [World.frozen?,hh]
theorem KZ {α:Type} {P:α→Bool} {l:List α} {k:Nat} (h:k < l.length):(l.take (k+1)).all P=((l.take k).all P && P l[k]):=by
 rw [List.take_succ_eq_append_getElem h,List.all_append];simp
theorem Yh (w:World) (hb B:Nat) (a:Option Addr) (n c:Nat) (h:AQ w hb B a n c) (hB:B≤1000000) (some_ all:Int) (h3 : -1000≤all) (h4:all≤1000) :
  Calls Try.prog 45 #[.pointer (some ⟨hb,0,none⟩), .int .i64 some_, .int .i64 all] w (WT w hb (B+1) a n c fun v=>∃ x:Bool,v = .bool x):=by
 have H:=Lib.hid h;clear h
 go_enter Try.func45,Try.ntmps45
 go_wp2_with fail
 refine (BX w hb B a n c H.out hB (all-1) (by omega) (by omega)).mono ?_;rintro e w1 ⟨_,⟨x,x1,x2,rfl⟩,rfl,hh,hE⟩;have HH:=Lib.hid hh;clear hh;have HE:=Lib.hid hE;clear hE
 go_wp2_with fail
 go_ret
 exact ⟨_,⟨_,rfl⟩,rfl,HH.out,HE.out⟩
theorem Ye (w:World) {x n:Int} (h0:0≤x) (hx:x≤1000) (h1:1≤n) (hn:n≤1000):Calls Try.prog 61 #[.int .i64 x, .int .i64 n] w fun e w'=>e = .returned (.int .i64 (x % n))∧w=w':=by
 have e1:x.tmod n=x % n:=Int.tmod_eq_emod_of_nonneg h0;have e2:=Int.emod_nonneg x (show n≠0 by omega);have e3:=Int.emod_lt_of_pos x (show 0 < n by omega);have c1:¬ n < 1:=by omega
 have c2:¬ x % n < 0:=by omega
 have c3:n≠0:=by omega
 have hw:IntKind.i64.wrap (x % n)=x % n:=IntWalk.i64_in _ (by omega)
 go_enter Try.func61,Try.ntmps61
 go_wp2_with fail
 go_ret
 exact ⟨rfl,rfl⟩
end
end Go.Proofs.Ytgdobbcjkiapkaa
