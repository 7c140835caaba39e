import Derived.Test.YtgdobbcjkiapkaaSv36
import Derived.Outline
import Derived.Maps.AppendAt
import Derived.Test.YtgdobbcjkiapkaaSv20
import Derived.Deep.CutBlock
import Derived.Test.YtgdobbcjkiapkaaSv22
import Derived.Test.YtgdobbcjkiapkaaSv03
import Derived.Laws.Tables
import Derived.Laws.Rows
namespace Go.Proofs.Ytgdobbcjkiapkaa
set_option maxRecDepth 100000
set_option maxHeartbeats 4000000
set_option linter.unusedSimpArgs false
set_option linter.unusedVariables false
section
open Go.RowKit
def Strip.cells (s:Strip):List Value:=[.int .i64 s.A,.int .i64 s.B,.int .i64 s.L,.int .i64 s.W,.int .i64 s.K,.int .i64 s.X,.int .i64 s.Y]
def Yv (w:World) (B:Nat) (v:Value) (l:List Strip):Prop:=w.ownsRow B 96 7 v l.length (l.flatMap Strip.cells)
end
section
open Go.RowKit
def wide (s:Strip):Strip:={ s with W:=max s.W 90 }
end
section
open Go.RowKit
end
section
open Go.RowKit
def Aa3 (w:World) (B:Nat) (v x:Value) (l:List Int):Prop :=
 ∃ a cap,x=.slice a l.length cap∧(l=[]∨∃ b o,a=some ⟨b,o,none⟩∧B≤b∧v.ownBlock≠some b∧∀ (i:Nat) (h:i<l.length),w.cell? ⟨b,o+i,none⟩=some (.int .i64 l[i]))
def RQ (w:World) (B:Nat) (v:Value) (L:List (List Int)):Prop :=
 ∃ xs:List Value,w.ownsRow B 29 1 v L.length xs∧∀ (i:Nat) (h:i<L.length),∃ x,xs[i]?=some x∧Aa3 w B v x L[i]
theorem RQ.nil (w:World) (B:Nat):RQ w B (.slice none 0 0) []:=⟨[],World.ownsRow_nil _ _ _ _,by simp⟩
end
section
open Go.RowKit
end
section
open Go.RowKit
end
section
open Go.RowKit
structure Ba (w:World) (hb B:Nat) (a:Option Addr) (n c:Nat):Prop where
 c0:w.cell? ⟨hb,0,none⟩=some (.slice a n c)
 c1:∃ k:Nat,k≤B∧w.cell? ⟨hb,1,none⟩=some (.int .i64 k)
 c2:∃ s:Int,0≤s∧s<18446744073709551616∧w.cell? ⟨hb,2,none⟩=some (.int .u64 s)
 f1:w.frozen? ⟨hb,1,none⟩=false
 f2:w.frozen? ⟨hb,2,none⟩=false
 nums:∃ l:List Int,l.length=n∧AX w a l∧(l=[]∨∀ ad,a=some ad→ad.block<hb)
 len:n≤maxLen
theorem JY (a b:Int):0≤bits .xor .u64 a b∧bits .xor .u64 a b<18446744073709551616:=by
 show 0≤IntKind.u64.wrap _∧IntKind.u64.wrap _<_;rw[IntKind.wrap_u64];omega
theorem KU {a:Int}(h:0≤a∧a<18446744073709551616):0≤a / 2048∧a / 2048≤9007199254740991:=by omega
theorem Jg (a:Int):0≤IntKind.u64.wrap a∧IntKind.u64.wrap a<18446744073709551616:=by rw[IntKind.wrap_u64];omega
theorem Ba.Q4 {w w':World}{hb:Nat}{a:Option Addr}{n:Nat}(h:∃ l:List Int,l.length=n∧AX w a l∧(l=[]∨∀ ad,a=some ad→ad.block<hb)) (hk:∀ b,b<w.heap.size→b<hb→w'.heap[b]?=w.heap[b]?) :
  ∃ l:List Int,l.length=n∧AX w' a l∧(l=[]∨∀ ad,a=some ad→ad.block<hb):=by
 obtain⟨l,h1,h2,h3⟩:=h;refine⟨l,h1,?_,h3⟩;rcases h3 with h3|h3
 ·exact .inl h3
 rcases h2 with h2|⟨b,o,ha,hc⟩
 ·exact .inl h2
 ·have hlt:=h3 _ ha;exact .inr ⟨b,o,ha,fun i hi=>(World.cell?_of_block (hk b (lt_of_cell (hc i hi)) hlt)).trans (hc i hi)⟩
theorem Ba.keep {w w':World}{hb B:Nat}{a:Option Addr}{n c:Nat}(h:Ba w hb B a n c) (hk:∀ b,b<w.heap.size→b≤hb→w'.heap[b]?=w.heap[b]?):Ba w' hb B a n c:=by
 obtain⟨c0,⟨k,hk1,c1⟩,⟨s,s1,s2,c2⟩,f1,f2,hnums,hn⟩:=h;have e:=hk hb (lt_of_cell c0) (Nat.le_refl _)
 exact⟨(World.cell?_of_block e).trans c0,⟨k,hk1,(World.cell?_of_block e).trans c1⟩,⟨s,s1,s2,(World.cell?_of_block e).trans c2⟩,(World.frozen?_of_block e).trans f1,(World.frozen?_of_block e).trans f2,
  Ba.Q4 hnums fun b h1 h2=>hk b h1 (by omega),hn⟩
theorem Ba.below {w w':World}{hb B:Nat}{a:Option Addr}{n c:Nat}(h:Ba w hb B a n c) (hb':Below w.heap.size w w'):Ba w' hb B a n c:=h.keep fun b h1 _=>hb'.block b h1
theorem Ba.more {w:World}{hb B B':Nat}{a:Option Addr}{n c:Nat}(h:Ba w hb B a n c) (hB:B≤B'):Ba w hb B' a n c :=
 ⟨h.c0,let ⟨k,hk,c1⟩:=h.c1;⟨k,by omega,c1⟩,h.c2,h.f1,h.f2,h.nums,h.len⟩
theorem Ba.lt {w:World}{hb B:Nat}{a:Option Addr}{n c:Nat}(h:Ba w hb B a n c):hb<w.heap.size:=lt_of_cell h.c0
def Yw (w:World) (hb B:Nat) (a:Option Addr) (n c:Nat) (P:Value→Prop) (e:Ending) (w':World):Prop:=∃ v,P v∧e=.returned v∧Ba w' hb B a n c∧Ext hb w w'
theorem NE {w:World}{hb B:Nat}{a:Option Addr}{n c k:Nat}(h:Ba w hb B a n c) (hk:k≤B) (q:Nat) (s:Int) (h1:0≤s) (h2:s<18446744073709551616) :
  Ba (((w.drewN q).setCell ⟨hb,1,none⟩ (.int .i64 ((k:Int)+1))).setCell ⟨hb,2,none⟩ (.int .u64 s)) hb (B+1) a n c∧Ext hb w (((w.drewN q).setCell ⟨hb,1,none⟩ (.int .i64 ((k:Int)+1))).setCell ⟨hb,2,none⟩ (.int .u64 s)):=by
 obtain⟨c0,⟨k',hk',c1⟩,⟨s',_,_,c2⟩,f1,f2,hnums,hn⟩:=h
 have ho:∀ b,b≠hb→(((w.drewN q).setCell ⟨hb,1,none⟩ (.int .i64 ((k:Int)+1))).setCell ⟨hb,2,none⟩ (.int .u64 s)).heap[b]?=w.heap[b]?:=fun b hne=>by
  rw[Below.heap_setCell _ ⟨hb,2,none⟩ _ b hne,Below.heap_setCell _ ⟨hb,1,none⟩ _ b hne];simp
 refine⟨⟨?_,⟨k+1,by omega,?_⟩,⟨s,h1,h2,?_⟩,?_,?_,Ba.Q4 hnums fun b _ hb'=>ho b (by omega),hn⟩,⟨(below_drewN (Below.refl 0 w) q).os,(below_drewN (Below.refl 0 w) q).tape,(below_drewN (Below.refl 0 w) q).output,by simp,fun b _ hne=>ho b hne⟩⟩
 ·rw[World.cell?_setCell_other _ _ _ _ (by simp),World.cell?_setCell_other _ _ _ _ (by simp)];simpa using c0
 ·rw[World.cell?_setCell_other _ _ _ _ (by simp)];exact World.cell?_setCell_same _ _ _ (u:=.int .i64 k') (by simpa using c1)
 ·exact World.cell?_setCell_same _ _ _ (u:=.int .u64 s') (by rw[World.cell?_setCell_other _ _ _ _ (by simp)];simpa using c2)
 ·rw[World.frozen?_setCell,World.frozen?_setCell];simpa using f1
 ·rw[World.frozen?_setCell,World.frozen?_setCell];simpa using f2
theorem Y5 (w:World) (hb B:Nat) (a:Option Addr) (n c:Nat) (h:Ba w hb B a n c) (hB:B≤1000000) :
  Calls Try.prog 62 #[.pointer (some ⟨hb,0,none⟩)] w (Yw w hb (B+1) a n c fun v=>∃ x:Int,0≤x∧x≤9007199254740991∧v=.int .u64 x):=by
 have H:=Lib.hid h;obtain⟨c0,⟨k,hk,c1⟩,⟨s,s1,s2,c2⟩,f1,f2,hnums,hn⟩:=h;have HN:=Lib.hid hnums;clear hnums;unfold maxLen at hn
 by_cases hlt:k<n
 ·obtain⟨l,hl1,hl2,hl3⟩:=HN.out;have hlt':decide ((k:Int)<(n:Int))=true:=decide_eq_true (by omega);have hkl:k<l.length:=by omega
  rcases hl2 with hz|⟨b,o,rfl,hc⟩
  ·rw[hz]at hkl;simp at hkl
  have hx:=hc k hkl;generalize l[k]=x at hx;have q1:(0:Int)≤(k:Int):=by omega
  have q2:(k:Int)<(n:Int):=by omega
  clear hl1 hl3 hkl hc
  go_enter Try.func62,Try.ntmps62
  go_wp2_with fail
  go_quiet (fail)
  go_wp2_with fail
  go_quiet (fail)
  go_wp2_with fail
  go_ret
  obtain⟨h1,h2⟩:=NE H.out hk _ _ (Jg _).1 (Jg _).2;exact⟨_,⟨_,(KU (JY _ _)).1,(KU (JY _ _)).2,rfl⟩,rfl,h1,h2⟩
 ·have hlt':decide ((k:Int)<(n:Int))=false:=decide_eq_false (by omega)
  go_enter Try.func62,Try.ntmps62
  go_wp2_with fail
  go_quiet (fail)
  go_wp2_with fail
  go_ret
  obtain⟨h1,h2⟩:=NE H.out hk _ _ (Jg _).1 (Jg _).2;exact⟨_,⟨_,(KU (JY _ _)).1,(KU (JY _ _)).2,rfl⟩,rfl,h1,h2⟩
set_option maxHeartbeats 2000000 in
theorem Du (w:World) (hb B:Nat) (a:Option Addr) (n c:Nat) (h:Ba w hb B a n c) (hB:B≤1000000) (most:Int) (hm1 : -1000000≤most) (hm2:most≤1000000) :
  Calls Try.prog 21 #[.pointer (some ⟨hb,0,none⟩),.int .i64 most] w (Yw w hb (B+1) a n c fun v=>∃ x:Int,0≤x∧x≤max most 0∧v=.int .i64 x):=by
 have H:=Lib.hid h;clear h
 by_cases hm:most≤0
 ·go_enter Try.func21,Try.ntmps21
  go_wp2_with fail
  go_ret
  exact⟨_,⟨0,by omega,by omega,rfl⟩,rfl,H.out.more (by omega),Ext.refl _ _⟩
 ·go_enter Try.func21,Try.ntmps21
  go_wp2_with fail
  refine(Y5 w hb B a n c H.out hB).mono ?_;rintro e w1 ⟨_,⟨x,x1,x2,rfl⟩,rfl,hh,hE⟩;have HH:=Lib.hid hh;clear hh;have HE:=Lib.hid hE;clear hE
  go_wp2_with fail
  go_ret
  have r1:0≤x % (most+1):=Int.emod_nonneg _ (by omega);have r2:x % (most+1)<most+1:=Int.emod_lt_of_pos _ (by omega);exact⟨_,⟨wrap64 (x % (most+1)),by unfold wrap64;omega,by unfold wrap64;omega,rfl⟩,rfl,HH.out,HE.out⟩
set_option maxHeartbeats 2000000 in
theorem Dq (w:World) (hb B:Nat) (a:Option Addr) (n c:Nat) (h:Ba w hb B a n c) (hB:B≤1000000) (least most:Int) (h1 : -1000≤least) (h2:least≤1000) (h3 : -1000≤most) (h4:most≤1000) :
  Calls Try.prog 44 #[.pointer (some ⟨hb,0,none⟩),.int .i64 least,.int .i64 most] w (Yw w hb (B+1) a n c fun v=>∃ x:Int,least≤x∧x≤max most least∧v=.int .i64 x):=by
 have H:=Lib.hid h;clear h
 go_enter Try.func44,Try.ntmps44
 go_wp2_with fail
 refine(Du w hb B a n c H.out hB (most-least) (by omega) (by omega)).mono ?_;rintro e w1 ⟨_,⟨x,x1,x2,rfl⟩,rfl,hh,hE⟩;have HH:=Lib.hid hh;clear hh;have HE:=Lib.hid hE;clear hE;have x3:x≤2000:=by omega
 go_wp2_with fail
 go_ret
 exact⟨_,⟨least+x,by omega,by omega,rfl⟩,rfl,HH.out,HE.out⟩
set_option maxHeartbeats 2000000 in
theorem Lm (w:World) (hb B:Nat) (a:Option Addr) (n c:Nat) (h:Ba w hb B a n c) (hB:B≤1000000) (first:Int) (oa:Option Addr) (oc:Nat) (l:List Int) (hl:AX w oa l) (ho:∀ ad,oa=some ad→ad.block≠hb) (hlen:l.length≤100) :
  Calls Try.prog 60 #[.pointer (some ⟨hb,0,none⟩),.int .i64 first,.slice oa l.length oc] w (Yw w hb (B+1) a n c fun v=>∃ x:Int,x∈first::l∧v=.int .i64 x):=by
 have H:=Lib.hid h;clear h;have HL:=Lib.hid hl;clear hl;have HO:=Lib.hid ho;clear ho
 go_enter Try.func60,Try.ntmps60
 go_wp2_with fail
 refine(Du w hb B a n c H.out hB l.length (by omega) (by omega)).mono ?_;rintro e w1 ⟨_,⟨x,x1,x2,rfl⟩,rfl,hh,hE⟩;have HH:=Lib.hid hh;clear hh
 by_cases hx:0<x
 ·obtain⟨k,hk⟩:∃ k:Nat,x=(k:Int)+1:=⟨(x-1).toNat,by omega⟩;have hkl:k<l.length:=by omega
  rcases HL.out with hz|⟨b,o,hoa,hc⟩
  ·rw[hz]at hkl;simp at hkl
  have hck:=hc k hkl;have hne:=HO.out _ hoa;have hc1:=(World.cell?_of_block (hE.block b (lt_of_cell hck) hne)).trans hck;have hmem:l[k]∈first::l:=List.mem_cons_of_mem _ (List.getElem_mem hkl)
  generalize l[k]=y at hc1 hmem;have HM:=Lib.hid hmem;clear hmem hck hc;have HE:=Lib.hid hE;clear hE;subst hk hoa;have q1:(k:Int)<(l.length:Int):=by omega
  go_wp2_with fail
  go_ret
  exact⟨_,⟨y,HM.out,rfl⟩,rfl,HH.out,HE.out⟩
 ·have HE:=Lib.hid hE;clear hE
  go_wp2_with fail
  go_ret
  exact⟨_,⟨first,by simp,rfl⟩,rfl,HH.out,HE.out⟩
end
section
open Go.RowKit
def LY (D S:Int) (s:Strip):Prop:=0≤s.A∧s.A<S∧0≤s.B∧s.B<S∧s.A≠s.B∧1≤s.L∧s.L≤9∧1≤s.W∧s.W≤99 ∧
  ((s.K=1∧s.X=0∧s.Y=0)∨(s.K=2∧0≤s.X∧s.X≤s.Y∧s.Y<D)∨(s.K=3∧0≤s.X∧s.X≤20∧-5≤s.Y∧s.Y≤5)∨(s.K=4∧1≤s.X∧s.X≤40∧s.Y=0))
end
section
open Go Go.RowKit
section
variable {w x x':World}{m g B b:Nat}{c:Array Value}{t:TypeId}
theorem Rw.ext (h:Rw x b c t) (hE:Ext m x x') (hne:b≠m):Rw x' b c t:=(hE.block b h.lt hne).trans h
theorem Rw.FI (h:Rw x b c t) (hB:Below B x x') (hlt:b<B):Rw x' b c t:=(hB.block b hlt).trans h
theorem Ext.set (h:Ext m w x) (hg:w.heap.size≤g) (o:Nat) (v:Value):Ext m w (x.setCell ⟨g,o,none⟩ v):=by
 refine⟨h.os,h.tape,h.output,?_,fun k hk hne=>?_⟩
 ·simpa using h.size
 ·rw[Below.heap_setCell _ ⟨g,o,none⟩ _ k (by show k≠g;omega)];exact h.block k hk hne
theorem Ext.app (h:Ext m w x) (hB:Below B x x') (hw:w.heap.size≤B):Ext m w x' :=
 ⟨hB.os.trans h.os,hB.tape.trans h.tape,hB.output.trans h.output,Nat.le_trans h.size hB.size,fun k hk hne=>(hB.block k (by omega)).trans (h.block k hk hne)⟩
theorem Ext.bel (h:Ext m w x) (hb:Below x.heap.size x x'):Ext m w x':=h.trans (Ext.of_below hb)
theorem Ba.far {hb n ca:Nat}{a:Option Addr}(h:Ba x hb B a n ca) (hlt:hb<g) (o:Nat) (v:Value):Ba (x.setCell ⟨g,o,none⟩ v) hb B a n ca:=h.keep fun k _ hk=>Below.heap_setCell _ ⟨g,o,none⟩ _ k (by show k≠g;omega)
theorem Ba.FI {hb n ca D:Nat}{a:Option Addr}(h:Ba x hb D a n ca) (hB:Below B x x') (hlt:hb<B):Ba x' hb D a n ca:=h.keep fun k _ hk=>hB.block k (by omega)
end
section
variable {α:Type}{f:α→List Value}{e:TypeId}{k:Nat}{w x x':World}{B D m g:Nat}{v:Value}{l:List α}
theorem AU.ext (h:AU f e k x B v l) (hE:Ext m x x') (hm:m<B):AU f e k x' B v l:=h.keep fun b hb=>hE.block b (h.Ak hb).2 (by have:=(h.Ak hb).1;omega)
theorem AU.far (h:AU f e k x B v l) (hg:g<B) (o:Nat) (u:Value):AU f e k (x.setCell ⟨g,o,none⟩ u) B v l:=h.keep fun b hb=>Below.heap_setCell _ ⟨g,o,none⟩ _ b (by have:=(h.Ak hb).1;show b≠g;omega)
def Ub (C:Nat) (v:Value):Prop:=∀ b,v.ownBlock=some b→b<C
theorem Ub.nil {C:Nat}:Ub C (.slice none 0 0):=fun b h=>by simp[Value.ownBlock]at h
theorem AU.upTo (h:AU f e k x B v l):Ub x.heap.size v:=fun b hb=>(h.Ak hb).2
theorem AU.FI {C:Nat}(h:AU f e k x B v l) (hu:Ub C v) (hB:Below D x x') (hd:C≤D):AU f e k x' B v l:=h.keep fun b hb=>hB.block b (by have:=hu b hb;omega)
theorem Ux {o:Oper}{a:Act}{K:Value→World→Prop}(st:TypeId) {z:Value}{bytes:Nat}(s y0:Operand) (hst:Try.prog.underlying st=some (.slice e)) (hinfo:(Try.prog.info? e).map (fun i=>(i.zero,i.size,i.bytes))=some (some z,k,bytes)) (hz:z.cells.size=k) (hk:0<k) (hby:bytes≤100)
  (ho:o.op=.call { callee:=.builtin .append,args:=#[s,y0],argTypes:=#[st,st] }) (hs:a.eval s=v) (hown:AU f e k w B v l) (gs:Nat) (y:α) (hx:a.eval y0=.slice (some ⟨gs,0,none⟩) 1 1)
  (hf:(f y).length=k) (hr:∀ (j:Nat) (u:Value),(f y)[j]?=some u→w.cell? ⟨gs,j,none⟩=some u) (h1:∀ u∈f y,u.oneCell'=true) (hlen:l.length≤1000000) (hB:B≤w.heap.size)
  (h:∀ v' w',AU f e k w' B v' (l++[y])→Below B w w'→v' ≠ .slice none 0 0→K v' w'):BJ Try.prog o a w K:=by
 obtain⟨i0,hi,hz0,hz1,hz2⟩:=info_parts (P:=Try.prog) hinfo;have hblk:∀ k,v.ownBlock=some k→B≤k:=fun k hk=>(hown.Ak hk).1
 obtain⟨v',w',q1,q2,q3,q4,q5⟩:=run_append_own_at (P:=Try.prog) w B st o.type e i0 z k bytes hst hi hz0 hz1 hz2 hz hk v l.length _ hown ⟨gs,0,none⟩ 1 1 (f y) (by rw[hf];omega) (by
    intro j u hj;have:=hr j u hj;have e:(⟨gs,0,none⟩:Addr).add j=⟨gs,j,none⟩:=by by_cases h0:j=0<;>simp[Addr.add,h0]
    rw[e];exact this) h1 (by unfold maxLen;omega) (by
    have:(l.length+1)*bytes≤1000001*100:=Nat.mul_le_mul (by omega) hby
    omega) hB
 unfold BJ execOp;simp only[ho,resolve,invoke,builtin,Sem.run_bind,Sem.run_pure,Result.andThen_ok,List.map_toArray,List.map_cons,List.map_nil,hs,hx,q1];refine h v' w' ?_ (Below.grown (Below.refl _ _) q3 hB hblk) (fun e=>?_)
 ·unfold AU;rw[List.length_append,List.flatMap_append]
  simpa using q2
 ·have:=(q4.1 e).2
  omega
end
end
section
open Go Go.RowKit
def Bl {α:Type}(f:α→List Value) (k:Nat) (w:World) (A:Option Addr) (ys:List α):Prop :=
 ys=[]∨∃ b o,A=some ⟨b,o,none⟩∧∀ (i:Nat) (hi:i<ys.length) (j:Nat) (u:Value),j<k→(f ys[i])[j]?=some u→w.cell? ⟨b,o+(i*k+j),none⟩=some u
section
variable {α:Type}{f:α→List Value}{e:TypeId}{k:Nat}{w:World}{B:Nat}{v:Value}{l:List α}
theorem AU.empty {g:Nat}(h:Rw w g #[] e) (hB:B≤g):AU f e k w B (.slice (some ⟨g,0,none⟩) 0 0) [] :=
 ⟨by simp,.inr ⟨g,0,#[],rfl,hB,h,Nat.le_refl _,by unfold maxLen;omega,by simp,by simp⟩⟩
theorem AU.cells (h:AU f e k w B v l) (hf:∀ x,(f x).length=k):∃ a cap,v=.slice a l.length cap∧l.length≤cap∧cap≤maxLen∧Bl f k w a l:=by
 obtain⟨a,cap,hv,h1,h2,hn,hs⟩:=h.form hf;refine⟨a,cap,hv,h1,h2,?_⟩
 cases a with
 | none=>exact .inl (hn rfl).1
 | some ad =>
  obtain⟨g,rfl,_,_,hc⟩:=hs ad rfl;exact .inr ⟨g,0,rfl,fun i hi j u hj hu=>by rw[Nat.zero_add];exact hc i hi j u hj hu⟩
theorem OW (w:World) (B:Nat) (st ty:TypeId) {z:Value}{bytes:Nat}(hst:Try.prog.underlying st=some (.slice e)) (hinfo:(Try.prog.info? e).map (fun i=>(i.zero,i.size,i.bytes))=some (some z,k,bytes)) (hz:z.cells.size=k) (hk:0<k) (hby:bytes≤100)
  (hown:AU f e k w B v l) (A:Option Addr) (c:Nat) (ys:List α) (hr:Bl f k w A ys) (hf:∀ y,(f y).length=k) (h1:∀ y∈ys,∀ u∈f y,u.oneCell'=true) (hlen:l.length+ys.length≤1000000) (hB:B≤w.heap.size) :
  ∃ v' w',(Builtin.append_ #[st,st] ty #[v,.slice A ys.length c]).run Try.prog w=.ok v' w'∧AU f e k w' B v' (l++ys)∧w.grownBy w' v.ownBlock∧(v'.ownBlock=v.ownBlock∨v'.ownBlock=some w.heap.size)∧(v ≠ .slice none 0 0→v' ≠ .slice none 0 0):=by
 obtain⟨i0,hi,hz0,hz1,hz2⟩:=info_parts (P:=Try.prog) hinfo
 cases A with
 | none =>
  have:ys=[]:=by rcases hr with h|⟨_,_,h,_⟩;exact h;simp at h
  subst this;refine⟨v,w,?_,by simpa using hown,⟨rfl,rfl,rfl,Nat.le_refl _,fun _ _ _=>rfl⟩,.inl rfl,id⟩;rcases hown.2 with ⟨rfl,h0⟩|⟨g,cap,cur,rfl,_,_,hc,_⟩
  ·simp[Builtin.append_,run_underlying hst,sizeOf,typeInfo,hi,Builtin.lenOf,Builtin.firstCells]
  ·simp[Builtin.append_,run_underlying hst,sizeOf,typeInfo,hi,Builtin.lenOf,Builtin.firstCells,hc,storeCells]
 | some ad =>
  obtain⟨v',w',q1,q2,q3,q4,q5⟩:=run_append_own_at (P:=Try.prog) w B st ty e i0 z k bytes hst hi hz0 hz1 hz2 hz hk v l.length _ hown ad ys.length c (ys.flatMap f) (EN hf ys) (by
    intro j u hj;have hjl:j<ys.length*k:=by rw[← EN hf ys];exact(List.getElem?_eq_some_iff.1 hj).1
    rcases hr with h|⟨b,o,he,h⟩
    ·subst h;simp at hjl
    ·cases he
     have hq:j / k<ys.length:=(Nat.div_lt_iff_lt_mul hk).2 hjl;have hm:j % k<k:=Nat.mod_lt _ hk;have hsp:j / k*k+j % k=j:=by rw[Nat.mul_comm];exact Nat.div_add_mod j k
     have h2:=flat_get hf ys (j / k) (j % k) hq hm;rw[hsp,hj]at h2;have h3:=h (j / k) hq (j % k) u hm h2.symm;rw[hsp]at h3;have e:(⟨b,o,none⟩:Addr).add j=⟨b,o+j,none⟩:=by by_cases h0:j=0<;>simp[Addr.add,h0]
     rw[e];exact h3) (by
    intro u hu;obtain⟨y,hy,hu⟩:=List.mem_flatMap.1 hu;exact h1 y hy u hu) (by unfold maxLen;omega) (by
    have:(l.length+ys.length)*bytes≤1000000*100:=Nat.mul_le_mul hlen hby
    omega) hB
  refine⟨v',w',q1,?_,q3,q5,fun hv e=>hv (q4.1 e).1⟩;unfold AU;rw[List.length_append,List.flatMap_append];exact q2
theorem J4 {o:Oper}{a:Act}{K:Act→World→Prop}{Q:Exit→Act→World→Prop}(st:TypeId) {z:Value}{bytes:Nat}(s x:Operand) (hst:Try.prog.underlying st=some (.slice e)) (hinfo:(Try.prog.info? e).map (fun i=>(i.zero,i.size,i.bytes))=some (some z,k,bytes)) (hz:z.cells.size=k) (hk:0<k) (hby:bytes≤100)
  (ho:o.op=.call { callee:=.builtin .append,args:=#[s,x],argTypes:=#[st,st] }) (hs:a.eval s=v) (hown:AU f e k w B v l) {A:Option Addr}{c:Nat}{ys:List α}(hx:a.eval x=.slice A ys.length c) (hr:Bl f k w A ys)
  (hf:∀ y,(f y).length=k) (h1:∀ y∈ys,∀ u∈f y,u.oneCell'=true) (hlen:l.length+ys.length≤1000000) (hB:B≤w.heap.size)
  (h:∀ v' w',AU f e k w' B v' (l++ys)→w.grownBy w' v.ownBlock→(v'.ownBlock=v.ownBlock∨v'.ownBlock=some w.heap.size)→(v ≠ .slice none 0 0→v' ≠ .slice none 0 0)→K (a.put o.dst v') w'):o.wp Try.prog a w K Q:=by
 obtain⟨v',w',q1,q2,q3,q4,q5⟩:=OW w B st o.type hst hinfo hz hk hby hown A c ys hr hf h1 hlen hB;unfold Oper.wp execOp;simp only[ho,resolve,invoke,builtin,Sem.run_bind,Sem.run_pure,Result.andThen_ok,List.map_toArray,List.map_cons,List.map_nil,hs,hx,q1];exact h v' w' q2 q3 q4 q5
theorem F9 {o:Oper}{a:Act}{K:Value→World→Prop}(st:TypeId) {z:Value}{bytes:Nat}(s x:Operand) (hst:Try.prog.underlying st=some (.slice e)) (hinfo:(Try.prog.info? e).map (fun i=>(i.zero,i.size,i.bytes))=some (some z,k,bytes)) (hz:z.cells.size=k) (hk:0<k) (hby:bytes≤100)
  (ho:o.op=.call { callee:=.builtin .append,args:=#[s,x],argTypes:=#[st,st] }) (hs:a.eval s=v) (hown:AU f e k w B v l) {A:Option Addr}{c:Nat}{ys:List α}(hx:a.eval x=.slice A ys.length c) (hr:Bl f k w A ys)
  (hf:∀ y,(f y).length=k) (h1:∀ y∈ys,∀ u∈f y,u.oneCell'=true) (hlen:l.length+ys.length≤1000000) (hB:B≤w.heap.size)
  (h:∀ v' w',AU f e k w' B v' (l++ys)→w.grownBy w' v.ownBlock→(v'.ownBlock=v.ownBlock∨v'.ownBlock=some w.heap.size)→(v ≠ .slice none 0 0→v' ≠ .slice none 0 0)→K v' w'):BJ Try.prog o a w K:=by
 obtain⟨v',w',q1,q2,q3,q4,q5⟩:=OW w B st o.type hst hinfo hz hk hby hown A c ys hr hf h1 hlen hB;unfold BJ execOp;simp only[ho,resolve,invoke,builtin,Sem.run_bind,Sem.run_pure,Result.andThen_ok,List.map_toArray,List.map_cons,List.map_nil,hs,hx,q1];exact h v' w' q2 q3 q4 q5
end
section
variable {w x x':World}{b g B:Nat}{c:Array Value}{t:TypeId}{r:Option Nat}
theorem Rw.grown (h:Rw x b c t) (hG:x.grownBy x' r) (hne:some b≠r):Rw x' b c t:=(hG.block b h.lt hne).trans h
theorem AU.grown {α:Type}{f:α→List Value}{e:TypeId}{k:Nat}{v:Value}{l:List α}(h:AU f e k x B v l) (hG:x.grownBy x' r) (hne:v.ownBlock≠r):AU f e k x' B v l:=h.keep fun q hq=>hG.block q (h.Ak hq).2 (by rw[← hq];exact hne)
theorem Aae {v:Value}(h:v.ownBlock=some g∨v.ownBlock=some B) (h1:g≠b) (h2:B≠b):v.ownBlock≠some b:=fun e=>by rcases h with h|h<;>(rw[h]at e;simp at e;omega)
theorem AU.FP {α:Type}{f:α→List Value}{e:TypeId}{k:Nat}{v:Value}{l:List α}(h:AU f e k x B v l) (hb:x.heap.size≤b):v.ownBlock≠some b:=fun e=>by have:=(h.Ak e).2;omega
end
def GR (s:Strip):List Value:=[.int .i64 s.A,.int .i64 s.B,.int .i64 s.L,.int .i64 s.W,.int .i64 s.K,.int .i64 s.X,.int .i64 s.Y]
def Nu (p:A8):List Value:=[.int .i64 p.heads,.int .i64 p.free,.bool p.half]
def Jz (x:BA):List Value:=[.int .i64 x.strip,.int .i64 x.rate,.int .i64 x.farmer]
abbrev GH:=AU GR 96 7
abbrev Ia:=AU Nu 69 3
abbrev LZ:=AU Jz 57 3
theorem seven {j:Nat}(h:j<7):j=0∨j=1∨j=2∨j=3∨j=4∨j=5∨j=6:=by omega
theorem three {j:Nat}(h:j<3):j=0∨j=1∨j=2:=by omega
theorem Gg (l:List Strip):∀ y∈l,∀ u∈GR y,u.oneCell'=true:=fun y _ u hu=>by simp only[GR,List.mem_cons,List.not_mem_nil,or_false]at hu;rcases hu with rfl|rfl|rfl|rfl|rfl|rfl|rfl<;>rfl
theorem IX (l:List A8):∀ y∈l,∀ u∈Nu y,u.oneCell'=true:=fun y _ u hu=>by simp only[Nu,List.mem_cons,List.not_mem_nil,or_false]at hu;rcases hu with rfl|rfl|rfl<;>rfl
theorem Jj (l:List BA):∀ y∈l,∀ u∈Jz y,u.oneCell'=true:=fun y _ u hu=>by simp only[Jz,List.mem_cons,List.not_mem_nil,or_false]at hu;rcases hu with rfl|rfl|rfl<;>rfl
theorem Vf (l:List Ar):∀ y∈l,∀ u∈G8 y,u.oneCell'=true:=fun y _ u hu=>by simp only[G8,List.mem_cons,List.not_mem_nil,or_false]at hu;rcases hu with rfl|rfl|rfl<;>rfl
theorem Bl.strips {w:World}{A:Option Addr}{l:List Strip}:Bl GR 7 w A l↔DN w A l:=by
 constructor
 ·rintro(h|⟨b,o,ha,h⟩)
  ·exact .inl h
  ·exact .inr ⟨b,o,ha,fun i hi=>⟨h i hi 0 _ (by omega) rfl,(h i hi 1 _ (by omega) rfl :),(h i hi 2 _ (by omega) rfl :),(h i hi 3 _ (by omega) rfl :),(h i hi 4 _ (by omega) rfl :),(h i hi 5 _ (by omega) rfl :),(h i hi 6 _ (by omega) rfl :)⟩⟩
 ·rintro(h|⟨b,o,ha,h⟩)
  ·exact .inl h
  ·refine .inr ⟨b,o,ha,fun i hi j u hj hu=>?_⟩;obtain⟨c0,c1,c2,c3,c4,c5,c6⟩:=h i hi;rcases seven hj with rfl|rfl|rfl|rfl|rfl|rfl|rfl<;>(simp only[GR,List.getElem?_cons_zero,List.getElem?_cons_succ,Option.some.injEq]at hu;subst hu;assumption)
theorem Bl.tri {α:Type}{f:α→List Value}{g:α→Value×Value×Value}(hfg:∀ x,f x=[(g x).1,(g x).2.1,(g x).2.2]) {w:World}{A:Option Addr}{l:List α}:Bl f 3 w A l↔N7 g w A l:=by
 constructor
 ·rintro(h|⟨b,o,ha,h⟩)
  ·exact .inl h
  ·exact .inr ⟨b,o,ha,fun i hi=>⟨h i hi 0 _ (by omega) (by rw[hfg];rfl),(h i hi 1 _ (by omega) (by rw[hfg];rfl) :),(h i hi 2 _ (by omega) (by rw[hfg];rfl) :)⟩⟩
 ·rintro(h|⟨b,o,ha,h⟩)
  ·exact .inl h
  ·refine .inr ⟨b,o,ha,fun i hi j u hj hu=>?_⟩;obtain⟨c0,c1,c2⟩:=h i hi;rw[hfg]at hu;rcases three hj with rfl|rfl|rfl<;>(simp only[List.getElem?_cons_zero,List.getElem?_cons_succ,Option.some.injEq]at hu;subst hu;assumption)
theorem Bl.Aa {w:World}{A:Option Addr}{l:List A8}:Bl Nu 3 w A l↔UF w A l:=Bl.tri (f:=Nu) (g:=Xj) fun _=>rfl
theorem Bl.Af {w:World}{A:Option Addr}{l:List BA}:Bl Jz 3 w A l↔Yr w A l:=Bl.tri (f:=Jz) (g:=MQ) fun _=>rfl
theorem Bl.passes {w:World}{A:Option Addr}{l:List Ar}:Bl G8 3 w A l↔BV w A l:=Bl.tri (f:=G8) (g:=Oy) fun _=>rfl
structure Ce (w:World) (B:Nat) (t:Ae) (s:Dt):Prop where
 os:GH w B (.slice s.sa t.roads.strips.length s.sc) t.roads.strips
 op:Ia w B (.slice s.pa t.Aa.length s.pc) t.Aa
 ot:LZ w B (.slice s.ta t.Af.length s.tc) t.Af
theorem Ce.tar {w:World}{B:Nat}{t:Ae}{s:Dt}(h:Ce w B t s):Bf w t s:=by
 obtain⟨a1,c1,e1,l1,m1,x1⟩:=h.os.cells (fun _=>rfl);obtain⟨a2,c2,e2,l2,m2,x2⟩:=h.op.cells (fun _=>rfl);obtain⟨a3,c3,e3,l3,m3,x3⟩:=h.ot.cells (fun _=>rfl);simp only[Value.slice.injEq,true_and]at e1 e2 e3;obtain⟨rfl,rfl⟩:=e1;obtain⟨rfl,rfl⟩:=e2;obtain⟨rfl,rfl⟩:=e3;exact⟨Bl.strips.1 x1,Bl.Aa.1 x2,Bl.Af.1 x3,Nat.le_trans l1 m1,Nat.le_trans l2 m2,Nat.le_trans l3 m3,l2,l3⟩
theorem Ce.below {w w':World}{B:Nat}{t:Ae}{s:Dt}(h:Ce w B t s) (hb:Below w.heap.size w w'):Ce w' B t s:=⟨h.os.below hb,h.op.below hb,h.ot.below hb⟩
theorem Ce.ext {w w':World}{B m:Nat}{t:Ae}{s:Dt}(h:Ce w B t s) (hE:Ext m w w') (hm:m<B):Ce w' B t s:=⟨h.os.ext hE hm,h.op.ext hE hm,h.ot.ext hE hm⟩
theorem Ce.lower {w:World}{B B':Nat}{t:Ae}{s:Dt}(h:Ce w B t s) (hB:B'≤B):Ce w B' t s:=⟨h.os.lower hB,h.op.lower hB,h.ot.lower hB⟩
theorem Ce.make {w:World}{B:Nat}{r:Ew}{p:Int}{ps:List A8}{ts:List BA}{v1 v2 v3:Value}(h1:GH w B v1 r.strips) (h2:Ia w B v2 ps) (h3:LZ w B v3 ts):∃ s,Ce w B ⟨r,p,ps,ts⟩ s ∧ .agg #[.int .i64 r.days,.int .i64 r.stages,v1,.int .i64 p,v2,v3]=Value.agg (CJ ⟨r,p,ps,ts⟩ s):=by
 obtain⟨a1,c1,e1,_⟩:=h1.cells (fun _=>rfl);obtain⟨a2,c2,e2,_⟩:=h2.cells (fun _=>rfl);obtain⟨a3,c3,e3,_⟩:=h3.cells (fun _=>rfl);subst e1 e2 e3;exact⟨⟨a1,c1,a2,c2,a3,c3⟩,⟨h1,h2,h3⟩,rfl⟩
end
section
open Go Go.RowKit
section
variable {P:Program}{ops:Array Oper}{Q:Exit→Act→World→Prop}{i:Nat}{rest:List Nat}{o:Oper}{a:Act}{n d:Nat}{m:List (Nat×Value)}{v:Value}{w w':World}{b:Nat}{c c':Array Value}{t ty:TypeId}
theorem CQ {x:Operand}{td:TypeDesc}(ho:o.op=.load ty x) (hx:a.eval x=.pointer (some ⟨b,0,none⟩)) (hu:P.underlying ty=some td) (hd:(match td with | .struct _ | .array _ _=>true|_=>false)=true) (hi:(P.info? ty).map (·.size)=some c.size) (K:Rw w b c t):(execOp a.eval o).run P w=.ok (.value (.agg c)) w:=by
 have h:=run_loadVar_row (P:=P) w b t ty c (0,0) td K hu hd hi;unfold execOp;simp only[ho,hx,Instr.loadAt,Instr.sureAddr,Sem.run_bind,Sem.run_pure,Result.andThen_ok,h]
theorem Eu {x y:Operand}(ho:o.op=.store ty x y) (hx:a.eval x=.pointer (some ⟨b,0,none⟩)) (hy:a.eval y=.agg c') (hi:(P.info? ty).map (·.size)=some c'.size) (K:Rw w b c t) (hs:c.size=c'.size) (h1:c'.toList.all (·.oneCell')=true):(execOp a.eval o).run P w=.ok .skip (w.setRow b c'):=by
 have h:=run_storeVar_row (P:=P) w b t ty c c' K hi hs (by rw[← Array.all_toList];exact h1);unfold execOp;simp only[ho,hx,hy,Instr.storeAt,Instr.sureAddr,Sem.run_bind,Sem.run_pure,Result.andThen_ok,h]
theorem Aj {x:Operand}{q:Nat}{td:TypeDesc}(ho:o.op=.load ty x) (hx:a.eval x=.pointer (some ⟨b,q,none⟩)) (hu:P.underlying ty=some td) (hd:(match td with | .struct _ | .array _ _=>true|_=>false)=false) (hc:w.cell? ⟨b,q,none⟩=some v):(execOp a.eval o).run P w=.ok (.value v) w:=by
 have h:(isAgg ty).run P w=.ok false w:=by cases td<;>simp_all [isAgg,run_underlying hu]
 unfold execOp;simp only[ho,hx,Instr.loadAt,Instr.sureAddr,loadVar,Sem.run_bind,Sem.run_pure,Result.andThen_ok,h];simp[hc]
theorem Cj {x y:Operand}{q:Nat}{u:Value}(ho:o.op=.store ty x y) (hx:a.eval x=.pointer (some ⟨b,q,none⟩)) (hy:a.eval y=v) (hi:(P.info? ty).map (·.size)=some 1) (hs:v.cells = #[v]) (h1:v.oneCell'=true) (hc:w.cell? ⟨b,q,none⟩=some u) (hf:w.frozen? ⟨b,q,none⟩=false):(execOp a.eval o).run P w=.ok .skip (w.setCell ⟨b,q,none⟩ v):=by
 have hst:=Go.run_store P w ⟨b,q,none⟩ v .plain h1;rw[hc]at hst;simp only[hf]at hst;have e0:(⟨b,q,none⟩:Addr).add 0=⟨b,q,none⟩:=by simp[Addr.add]
 cases hq:P.info? ty with
 | none=>simp[hq]at hi
 | some i =>
  have hsz:i.size=1:=by simpa[hq] using hi
  unfold execOp;simp only[ho,hx,hy,Instr.storeAt,Instr.sureAddr,Sem.run_bind,Sem.run_pure,Result.andThen_ok];simp[storeVar,sizeOf,typeInfo,hq,hsz,hs,storeCells,e0,hst]
theorem Sl.rv (h:Sl a n m) (ho:ops[i]?=some o) (hg:o.guard=none) (hd:o.dst=some d) (hn:d<n) (hr:(execOp a.eval o).run P w=.ok (.value v) w') (hG:∀ a',Sl a' n ((d,v)::m)→wpOps P ops Q rest a' w'):wpOps P ops Q (i::rest) a w:=by
 refine BQ ho hg (fun K hK=>?_);unfold Oper.wp;rw[hr,Oper.upon_value,hd];exact h.k hK hn hG
theorem Sl.rs (_h:Sl a n m) (ho:ops[i]?=some o) (hg:o.guard=none) (hd:o.dst=none) (hr:(execOp a.eval o).run P w=.ok .skip w') (hG:wpOps P ops Q rest a w'):wpOps P ops Q (i::rest) a w:=by
 refine BQ ho hg (fun K hK=>?_);unfold Oper.wp;rw[hr,Oper.upon_skip,hd];exact hK _ _ hG
theorem Cm {K:Value→Prop}(hr:(execOp a.eval o).run P w=.ok (.value v) w) (hK:K v):CO P o a w K:=by unfold CO;rw[hr];exact⟨rfl,hK⟩
theorem AB {C:World→Prop}{K:Value→Prop}(hr:(execOp a.eval o).run P w=.ok (.value v) w) (hK:K v):Oper.Dl P o a C w K:=by unfold Oper.Dl;rw[hr];exact⟨rfl,hK⟩
theorem Jp {K:Value→World→Prop}(hr:(execOp a.eval o).run P w=.ok .skip w') (hK:K undef w'):BJ P o a w K:=by unfold BJ;rw[hr];exact hK
theorem Rw.setRow (K:Rw w b c t) (c':Array Value):Rw (w.setRow b c') b c' t:=setRow_heap w b c c' t (0,0) K
theorem Bh (K:Rw w b c t) (c':Array Value):w.grownBy (w.setRow b c') (some b):=by
 refine⟨rfl,rfl,rfl,by simp[World.setRow],fun k hk hne=>?_⟩;unfold World.setRow;simp only[Array.getElem?_modify];rw[if_neg (fun e=>hne (by rw[e]))]
end
section
variable {w x x':World}{b g B:Nat}{c:Array Value}{t:TypeId}
theorem AU.Hm {α:Type}{f:α→List Value}{e:TypeId}{k:Nat}{v:Value}{l:List α}(h:AU f e k x B v l) (hg:g<B):v.ownBlock≠some g:=fun e=>by have:=(h.Ak e).1;omega
theorem AU.XN {α:Type}{f:α→List Value}{e:TypeId}{k:Nat}{v:Value}{l:List α}(h:AU f e k x B v l) (hne:v.ownBlock≠some g) (o:Nat) (u:Value):AU f e k (x.setCell ⟨g,o,none⟩ u) B v l:=h.keep fun q hq=>Below.heap_setCell _ ⟨g,o,none⟩ _ q (by intro e;apply hne;rw[hq,e])
theorem AU.Ab2 {α:Type}{f:α→List Value}{e:TypeId}{k C:Nat}{v:Value}{l:List α}(h:AU f e k x B v l) (hu:Ub C v) (hg:g<B∨C≤g):v.ownBlock≠some g:=fun e=>by have:=(h.Ak e).1;have:=hu g e;omega
theorem AU.AbO {α:Type}{f:α→List Value}{e:TypeId}{k C:Nat}{v:Value}{l:List α}(h:AU f e k x B v l) (hu:Ub C v) (hg:g<B∨C≤g) (o:Nat) (u:Value):AU f e k (x.setCell ⟨g,o,none⟩ u) B v l:=h.XN (h.Ab2 hu hg) o u
theorem Ba.grown {hb n ca D:Nat}{a:Option Addr}(h:Ba x hb D a n ca) (hG:x.grownBy x' (some g)) (hlt:hb<g):Ba x' hb D a n ca:=h.keep fun k hk hle=>hG.block k hk (by simp;omega)
theorem Ext.grown {m:Nat}(h:Ext m w x) (hG:x.grownBy x' (some g)) (hw:w.heap.size≤g):Ext m w x' :=
 ⟨hG.os.trans h.os,hG.tape.trans h.tape,hG.output.trans h.output,Nat.le_trans h.size hG.size,fun k hk hne=>(hG.block k (Nat.lt_of_lt_of_le hk h.size) (by simp;omega)).trans (h.block k hk hne)⟩
theorem ET (h:Below w.heap.size w x) (hG:x.grownBy x' (some g)) (hw:w.heap.size≤g):Below w.heap.size w x':=h.grown hG h.size fun k hk=>by cases hk;exact hw
theorem TS {q:Nat}{v:Value}(hG:x.grownBy x' (some g)) (h:x.cell? ⟨b,q,none⟩=some v) (hne:b≠g):x'.cell? ⟨b,q,none⟩=some v:=(World.cell?_of_block (hG.block b (lt_of_cell h) (by simp;exact hne))).trans h
end
end
end Go.Proofs.Ytgdobbcjkiapkaa
