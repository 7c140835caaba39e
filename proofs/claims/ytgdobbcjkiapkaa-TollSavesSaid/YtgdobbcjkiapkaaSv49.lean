import Derived.Test.YtgdobbcjkiapkaaSv10
import Derived.Test.YtgdobbcjkiapkaaSv18
import Derived.Test.YtgdobbcjkiapkaaSv42
import Derived.Test.YtgdobbcjkiapkaaSv37
import Derived.Test.YtgdobbcjkiapkaaSv28
import Derived.Deep.OwnRows
import Derived.RangeFuncNested
import Derived.RangeFuncBound
import Derived.RangeFuncCalls
import Derived.RangeFuncLeaves
import Derived.Shelf.Abstract
import Derived.Shelf.RegionOpen
import Derived.OwnWalkIn
import Derived.TacticsInMore
import Derived.LoopNIn
import Derived.LoopIn
import Derived.Sort.LoopGhostIn
import Derived.Sort.QuietIn
import Derived.OrdersHeld
import Derived.OrdersIn
import Derived.Test.YtgdobbcjkiapkaaSv36
import Derived.Deep.Slices
import Derived.Deep.Fields
import Derived.Lib.SmallJoins
import Derived.ChangeSame
import Derived.Test.YtgdobbcjkiapkaaSv46
namespace Go.Proofs.Ytgdobbcjkiapkaa
set_option maxRecDepth 100000
set_option maxHeartbeats 4000000
set_option linter.unusedSimpArgs false
set_option linter.unusedVariables false
section
open Go Go.Conc Go.RowKit
theorem XE {w W:World}{a:Option Addr}{l:List Int}(hh:w.heap=W.heap) (h:AX W a l):AX w a l:=by
 rcases h with h|⟨b,o,e,h⟩
 ·exact .inl h
 ·exact .inr ⟨b,o,e,fun i hi=>by simpa[World.cell?,hh] using h i hi⟩
theorem V4 {W w w' W':World}(h:Below w.heap.size w w') (hh:w.heap=W.heap) (ho:w.os=W.os) (hu:w.output=W.output) (hh':W'.heap=w'.heap) (ho':W'.os=w'.os) (hu':W'.output=w'.output):Below W.heap.size W { W' with tape:=W.tape } :=
 ⟨ho'.trans (h.os.trans ho),rfl,hu'.trans (h.output.trans hu),by show W.heap.size≤W'.heap.size;rw[hh',← hh];exact h.size,fun k hk=>by show W'.heap[k]?=_;rw[hh',← hh];exact h.block k (by rw[hh];exact hk)⟩
theorem Zh {f:FuncId}{args:Array Value}{W:World}{Post:Value→World→Prop}(hi:Try.prog.inits.idxOf? f=none)
  (h:∀ (M:Machine) (w:World),w.heap=W.heap→Dz Try.prog M f args w (fun e w'=>e=.returned (.bool true)∧Below w.heap.size w w'))
  (hp:∀ W':World,Below W.heap.size W { W' with tape:=W.tape }→Post (.bool true) W') :
  ∃ N last o w' t',runNT Try.prog (N+1) (solo (G (Frame.enter Try.prog f args .normal) []) W) #[]=(.ended o w',t')∧runN Try.prog N (solo (G (Frame.enter Try.prog f args .normal) []) W)=.next last∧step Try.prog last=.ended o w'∧Conc.Good Try.prog Post last o w' t':=by
 refine YQ (R:=fun e w'=>e=.returned (.bool true)∧∃ w:World,w.heap=W.heap∧w.os=W.os∧w.output=W.output∧Below w.heap.size w w') Dk hi (fun M w hh ho hu=>(h M w hh).mono fun e w' hx=>⟨hx.1,w,hh,ho,hu,hx.2⟩) ?_;rintro e w' ⟨rfl,w,hh,ho,hu,hb⟩;exact⟨_,rfl,fun W' h1 h2 h3=>hp W' (V4 hb hh ho hu h1 h2 h3)⟩
end
section
open Go.RowKit
end
section
end
section
open Go.RowKit Go.Shelf
attribute [local go_sem] Oper.semAt_some
def upTo (m k:Nat):List Int:=(List.range m).map fun j:Nat=>if j<k then (j:Int) else 0
end
section
open Go.RowKit Go.Shelf
end
section
open Go.RowKit Go.Shelf
end
section
open Go.RowKit Go.Shelf
attribute [local go_sem] Oper.semAt_some
def Marks (B C:Nat) (W:World) (ds:List Deferred):Prop :=
 ∃ rs:List Nat,ds=rs.map (fun r=>{ target:=.collected r,args:=#[] })∧rs.Nodup∧∀ r∈rs,B≤r∧r<C∧W.heap[r]?=some (.deferred (some []))
theorem Marks.nil (B C:Nat) (W:World):Marks B C W []:=⟨[],rfl,by simp,by simp⟩
theorem Marks.cons {B C C':Nat}{W:World}{ds:List Deferred}(h:Marks B C W ds) {D:Nat}(hD:C≤D) (hD':D<C') (hB:B≤D)
  (hd:W.heap[D]?=some (.deferred (some []))):Marks B C' W ({ target:=.collected D,args:=#[] }::ds):=by
 obtain⟨rs,h1,h2,h3⟩:=h;refine⟨D::rs,by rw[h1];rfl,List.nodup_cons.2 ⟨fun hm=>?_,h2⟩,?_⟩
 ·have:=(h3 D hm).2.1;omega
 ·intro r hr;rcases List.mem_cons.1 hr with rfl|hr
  ·exact⟨hB,hD',hd⟩
  ·exact⟨(h3 r hr).1,by have:=(h3 r hr).2.1;omega,(h3 r hr).2.2⟩
def Found (w:World) (po pf B C:Nat) (ds:List Deferred) (x:List Int) (W:World):Prop :=
 ∃ v,W.cell? ⟨po,0,none⟩=some v∧CG W B v x∧W.cell? ⟨pf,0,none⟩=some (.bool true)∧Below w.heap.size w W∧Marks B C W ds
end
section
open Go.RowKit
end
section
open Go.RowKit
end
section
open Go.RowKit
end
section
open Go.RowKit
end
section
open Go.RowKit
end
section
open Go.RowKit
end
section
open Go.RowKit
end
section
open Go.RowKit
end
section
open Go.RowKit
theorem YW {w:World}{a:Option Addr}{len cap:Nat}{zs:List Int}
  (h:(a=none∧len=0∧cap=0∧zs=[])∨∃ x,a=some x∧len≤cap∧cap≤maxLen∧zs.length=cap∧(∀ i,i<zs.length→w.cell? (x.add i)=some (.int .i64 (zs.getD i 0)))∧∀ n∈zs,(Lit.int .i64 n).wf=true) :
  ∃ l:List Int,AX w a l∧l.length=len∧len≤maxLen∧(l=[]∨∀ ad,a=some ad→ad.block<w.heap.size):=by
 rcases h with ⟨rfl,rfl,rfl,rfl⟩|⟨x,rfl,h1,h2,h3,h4,_⟩
 ·exact⟨[],.inl rfl,rfl,Nat.zero_le _,.inl rfl⟩
 ·by_cases h0:len=0
  ·exact⟨[],.inl rfl,h0.symm,by omega,.inl rfl⟩
  ·obtain⟨b,o,sp⟩:=x;have c0:=h4 0 (by omega)
   have hsp:sp=none:=by
    cases sp with
    | none=>rfl
    | some y =>
     simp only[Addr.add,if_true,World.cell?]at c0
     split at c0<;>simp at c0
   subst hsp
   have key:∀ i,i<zs.length→w.cell? ⟨b,o+i,none⟩=some (.int .i64 (zs.getD i 0)):=fun i hi=>by
    have:=h4 i hi
    rwa [show (⟨b,o,none⟩:Addr).add i=⟨b,o+i,none⟩ by simp only[Addr.add];split<;>simp_all]at this
   refine⟨zs.take len,.inr ⟨b,o,rfl,fun i hi=>?_⟩,by rw[List.length_take];omega,by omega,.inr fun ad e=>by cases e;exact lt_of_cell (key 0 (by omega))⟩;rw[List.length_take]at hi;rw[key i (by omega),List.getElem_take,List.getD_eq_getElem?_getD,List.getElem?_eq_getElem (by omega)];rfl
end
section
open Go.ChangeShapes Go.WideShapes Go.ChangeAt Go.RowKit Go.Joins Go.Deep
theorem Sm:∃ fs:Array Field,Try.prog.underlying 96=some (.struct fs)∧fs.size=7∧∀ j,j<7→∃ g,fs[j]?=some g∧g.offset=j∧g.type=3 :=
 ⟨_,Try.underlying96,rfl,fun j hj=>by
  obtain rfl|rfl|rfl|rfl|rfl|rfl|rfl:j=0∨j=1∨j=2∨j=3∨j=4∨j=5∨j=6:=by omega
  all_goals exact⟨_,rfl,rfl,rfl⟩⟩
theorem La:Try.prog.cellsOf 96=7:=by kernel_rfl
theorem Gp:Try.prog.cellsOf 3=1:=by kernel_rfl
theorem YF {H:Type}{enc:TypeId×Value→H}{W:World}{base:Nat}{sp:Nat→Bool}{held:Bool}{n:Nat}{cs:List Value}{x:DataW H×List MemPlace}(h:DataW.trod enc Try.prog W base sp held n 96 cs=some x) :
  ∃ s:Strip,cs=[.int .i64 s.A,.int .i64 s.B,.int .i64 s.L,.int .i64 s.W,.int .i64 s.K,.int .i64 s.X,.int .i64 s.Y]:=by
 obtain⟨fs,hu,hsz,hf⟩:=Sm;obtain⟨xs,m,_,_,hl,hxl,hg⟩:=DataW.trod_struct hu h;rw[La]at hl
 have key:∀ j,j<7→∃ v:Int,cs[j]?=some (.int .i64 v):=fun j hj=>by
  obtain⟨g,g1,g2,g3⟩:=hf j hj;have h1:=hg j g g1;rw[g2,g3,Gp]at h1;have hjl:j<cs.length:=by omega
  have e:(cs.drop j).take 1=[cs[j]]:=by rw[List.drop_eq_getElem_cons hjl];rfl
  have hjx:j<xs.length:=by omega
  rw[e,List.getElem?_eq_getElem hjx]at h1;obtain⟨v,hv,_⟩:=DataW.trod_int Try.underlying3 h1;refine⟨v,?_⟩;rw[List.getElem?_eq_getElem hjl];simp only[List.cons.injEq,and_true]at hv;rw[hv]
 obtain⟨a,ha⟩:=key 0 (by omega);obtain⟨b,hb⟩:=key 1 (by omega);obtain⟨c,hc⟩:=key 2 (by omega);obtain⟨d,hd⟩:=key 3 (by omega);obtain⟨e,he⟩:=key 4 (by omega);obtain⟨f,hf'⟩:=key 5 (by omega);obtain⟨g,hg'⟩:=key 6 (by omega);revert ha hb hc hd he hf' hg';clear key hg h
 match cs,hl with
 | [c0,c1,c2,c3,c4,c5,c6],_ =>
  intro ha hb hc hd he hf' hg';simp only[List.getElem?_cons_zero,List.getElem?_cons_succ,Option.some.injEq]at ha hb hc hd he hf' hg';exact⟨⟨a,b,c,d,e,f,g⟩,by rw[ha,hb,hc,hd,he,hf',hg']⟩
theorem WH {H:Type}{enc:TypeId×Value→H}{W:World}{n:Nat}{v:Value}{x:DataW H×List MemPlace}(h:DataW.trod enc Try.prog W 0 (fun _=>true) true n 22 [v]=some x) :
  ∃ (l:List Strip) (a:Option Addr) (cap:Nat),v=.slice a l.length cap∧DN W a l∧l.length≤maxLen∧l.length≤cap:=by
 rcases open_slice Try.underlying22 h with ⟨h0,_⟩|⟨a,len,cap,m,n',D,Pl,hcs,hb,hl,hm,hmm,hx,hi⟩
 ·simp only[List.cons.injEq,and_true]at h0;exact⟨[],none,0,h0,.inl rfl,Nat.zero_le _,Nat.zero_le _⟩
 ·simp only[List.cons.injEq,and_true]at hcs;subst hcs;have hm':m=cap:=by simpa using hmm
  have key:∀ i,∃ s:Strip,i<len→W.cells? 0 (a.add (i*7)) 7=some [.int .i64 s.A,.int .i64 s.B,.int .i64 s.L,.int .i64 s.W,.int .i64 s.K,.int .i64 s.X,.int .i64 s.Y]:=fun i=>by
   by_cases hil:i<len
   ·obtain⟨cs',h1,h2⟩:=hi i (by omega);rw[La]at h1;obtain⟨s,rfl⟩:=YF h2;exact⟨s,fun _=>h1⟩
   ·exact⟨⟨0,0,0,0,0,0,0⟩,fun h=>absurd h hil⟩
  obtain⟨st,hst⟩:=Classical.axiomOfChoice key
  by_cases h0:len=0
  ·subst h0;exact⟨[],some a,cap,rfl,.inl rfl,Nat.zero_le _,Nat.zero_le _⟩
  ·obtain⟨b,o,sp⟩:=a
   have hat:∀ i,i<len→∀ j,j<7→W.cell? ((⟨b,o,sp⟩:Addr).add (i*7+j))=([Value.int .i64 (st i).A,.int .i64 (st i).B,.int .i64 (st i).L,.int .i64 (st i).W,.int .i64 (st i).K,.int .i64 (st i).X,.int .i64 (st i).Y])[j]?:=fun i hil j hj=>by
    obtain⟨_,_,h2⟩:=World.cells?_some (hst i hil);have:=h2 j hj;rw[← Go.Deep.add_add];exact this
   have hsp:sp=none:=by
    have c0:W.cell? ((⟨b,o,sp⟩:Addr).add 0)=some (.int .i64 (st 0).A):=hat 0 (by omega) 0 (by omega)
    cases sp with
    | none=>rfl
    | some y =>
     simp only[Addr.add,if_true,World.cell?]at c0
     split at c0<;>simp at c0
   subst hsp;refine⟨(List.range len).map st,some ⟨b,o,none⟩,cap,by simp,.inr ⟨b,o,rfl,fun i hil=>?_⟩,by simp;omega,by simpa using hl⟩;have hil':i<len:=by simpa using hil
   have e:((List.range len).map st)[i]=st i:=by simp
   rw[e]
   have hk:∀ j,j<7→W.cell? ⟨b,o+i*7+j,none⟩=([Value.int .i64 (st i).A,.int .i64 (st i).B,.int .i64 (st i).L,.int .i64 (st i).W,.int .i64 (st i).K,.int .i64 (st i).X,.int .i64 (st i).Y])[j]?:=fun j hj=>by
    have:=hat i hil' j hj
    rwa [show (⟨b,o,none⟩:Addr).add (i*7+j)=⟨b,o+i*7+j,none⟩ by
     simp only[Addr.add]
     split
     ·congr 1;omega
     ·rw[Nat.add_assoc]]at this
   exact⟨hk 0 (by omega),hk 1 (by omega),hk 2 (by omega),hk 3 (by omega),hk 4 (by omega),hk 5 (by omega),hk 6 (by omega)⟩
theorem AaH {H:Type}{enc:TypeId×Value→H}{W:World}{rc:Reach}{b0:Nat}{v:Value}{d:DataW H}{p:List MemPlace}(hv:Value.okWide Try.prog W rc b0 29 v) (h:DataW.Trod enc Try.prog W 0 (fun _=>true) true 29 v d p) :
  ∃ (a:Option Addr) (len cap:Nat) (l:List Int),v=.slice a len cap∧AX W a l∧l.length=len∧len≤maxLen∧(l=[]∨∀ ad,a=some ad→ad.block<W.heap.size):=by
 obtain⟨a,len,cap,rfl⟩:=okWide_slice Try.underlying29 hv;obtain⟨fuel,hf⟩:=h
 have hz:∃ zs:List Int,(a=none∧len=0∧cap=0∧zs=[])∨∃ x,a=some x∧len≤cap∧cap≤maxLen∧zs.length=cap∧(∀ i,i<zs.length→W.cell? (x.add i)=some (.int .i64 (zs.getD i 0)))∧∀ n∈zs,(Lit.int .i64 n).wf=true:=by
  rcases open_ints Try.underlying29 Try.underlying3 (by kernel_rfl) hf with ⟨hcs,_⟩|⟨x,l,c,zs,hcs,_,hl,hm,hz,_,hcell,hwz⟩
  ·simp[Value.cells]at hcs;obtain⟨rfl,rfl,rfl⟩:=hcs;exact⟨[],.inl ⟨rfl,rfl,rfl,rfl⟩⟩
  ·simp[Value.cells]at hcs;obtain⟨rfl,rfl,rfl⟩:=hcs;exact⟨zs,.inr ⟨_,rfl,hl,hm,by simpa using hz,hcell,hwz⟩⟩
 obtain⟨zs,hz⟩:=hz;obtain⟨l,h1,h2,h3,h4⟩:=YW hz;exact⟨a,len,cap,l,rfl,h1,h2,h3,h4⟩
end
section
open Go.ChangeShapes Go.WideShapes Go.ChangeAt Go.RowKit Go.Joins Go.Deep
theorem PR {H:Type}{enc:TypeId×Value→H}{W:World}{α:Type}{f:α→List Value}{k:Nat}{st e:TypeId}(hst:Try.prog.underlying st=some (.slice e)) (hk:Try.prog.cellsOf e=k) (hk0:0<k) (hf:∀ y,(f y).length=k) (y0:α)
  (hread:∀ n cs x,DataW.trod enc Try.prog W 0 (fun _=>true) true n e cs=some x→∃ y,cs=f y) {n:Nat}{v:Value}{x:DataW H×List MemPlace}(h:DataW.trod enc Try.prog W 0 (fun _=>true) true n st [v]=some x) :
  ∃ (l:List α) (a:Option Addr) (cap:Nat),v=.slice a l.length cap∧Bl f k W a l∧l.length≤maxLen∧l.length≤cap:=by
 rcases open_slice hst h with ⟨h0,_⟩|⟨a,len,cap,m,n',D,Pl,hcs,hb,hl,hm,hmm,hx,hi⟩
 ·simp only[List.cons.injEq,and_true]at h0;exact⟨[],none,0,h0,.inl rfl,Nat.zero_le _,Nat.zero_le _⟩
 ·simp only[List.cons.injEq,and_true]at hcs;subst hcs;have hm':m=cap:=by simpa using hmm
  have key:∀ i,∃ y:α,i<len→W.cells? 0 (a.add (i*k)) k=some (f y):=fun i=>by
   by_cases hil:i<len
   ·obtain⟨cs',h1,h2⟩:=hi i (by omega);rw[hk]at h1;obtain⟨y,rfl⟩:=hread _ _ _ h2;exact⟨y,fun _=>h1⟩
   ·exact⟨y0,fun h=>absurd h hil⟩
  obtain⟨s,hs⟩:=Classical.axiomOfChoice key
  by_cases h0:len=0
  ·subst h0;exact⟨[],some a,cap,rfl,.inl rfl,Nat.zero_le _,Nat.zero_le _⟩
  ·obtain⟨b,o,sp⟩:=a
   have hat:∀ i,i<len→∀ j,j<k→W.cell? ((⟨b,o,sp⟩:Addr).add (i*k+j))=(f (s i))[j]?:=fun i hil j hj=>by
    obtain⟨_,_,h2⟩:=World.cells?_some (hs i hil);have:=h2 j hj;rw[← Go.Deep.add_add];exact this
   have hsp:sp=none:=by
    have c0:=hat 0 (by omega) 0 hk0;rw[List.getElem?_eq_getElem (by rw[hf];exact hk0)]at c0
    cases sp with
    | none=>rfl
    | some y =>
     simp only[Addr.add,World.cell?]at c0
     split at c0<;>simp at c0
   subst hsp;refine⟨(List.range len).map s,some ⟨b,o,none⟩,cap,by simp,.inr ⟨b,o,rfl,fun i hil j u hj hu=>?_⟩,by simp;omega,by simpa using hl⟩;have hil':i<len:=by simpa using hil
   have e:((List.range len).map s)[i]=s i:=by simp
   rw[e]at hu;have h3:=hat i hil' j hj;rw[hu]at h3
   rwa [show (⟨b,o,none⟩:Addr).add (i*k+j)=⟨b,o+(i*k+j),none⟩ by
    simp only[Addr.add]
    split
    ·congr 1;omega
    ·rfl]at h3
section
variable {H:Type}{enc:TypeId×Value→H}{W:World}{base n:Nat}{sp:Nat→Bool}{held:Bool}{cs:List Value}{x:DataW H×List MemPlace}
theorem DK:Try.prog.cellsOf 69=3∧Try.prog.cellsOf 57=3∧Try.prog.cellsOf 53=3∧Try.prog.cellsOf 28=6∧Try.prog.cellsOf 24=3:=⟨by kernel_rfl,by kernel_rfl,by kernel_rfl,by kernel_rfl,by kernel_rfl⟩
theorem Rz:Try.prog.cellsOf 4=1:=by kernel_rfl
theorem AaD {α:Type}{l:List α}(h:l.length=3):∃ a b c,l=[a,b,c]:=by
 match l,h with
 | [a,b,c],_=>exact⟨a,b,c,rfl⟩
theorem Y7 (h:DataW.trod enc Try.prog W base sp held n 69 cs=some x):∃ y:A8,cs=Nu y:=by
 obtain⟨y0,y1,y2,m,_,hl,h0,h1,h2⟩:=trod_struct3 Try.underlying69 h;obtain⟨a,b,c,rfl⟩:=AaD (hl.trans DK.1);obtain⟨p,hp,_⟩:=DataW.trod_int Try.underlying3 h0;obtain⟨q,hq,_⟩:=DataW.trod_int Try.underlying3 h1;obtain⟨r,hr,_⟩:=DataW.trod_bool Try.underlying4 h2;simp[Gp,Rz]at hp hq hr;exact⟨⟨p,q,r⟩,by rw[hp,hq,hr];rfl⟩
theorem Aar (h:DataW.trod enc Try.prog W base sp held n 57 cs=some x):∃ y:BA,cs=Jz y:=by
 obtain⟨y0,y1,y2,m,_,hl,h0,h1,h2⟩:=trod_struct3 Try.underlying57 h;obtain⟨a,b,c,rfl⟩:=AaD (hl.trans DK.2.1);obtain⟨p,hp,_⟩:=DataW.trod_int Try.underlying3 h0;obtain⟨q,hq,_⟩:=DataW.trod_int Try.underlying3 h1;obtain⟨r,hr,_⟩:=DataW.trod_int Try.underlying3 h2;simp[Gp]at hp hq hr;exact⟨⟨p,q,r⟩,by rw[hp,hq,hr];rfl⟩
theorem Za (h:DataW.trod enc Try.prog W base sp held n 53 cs=some x):∃ y:Ar,cs=G8 y:=by
 obtain⟨y0,y1,y2,m,_,hl,h0,h1,h2⟩:=trod_struct3 Try.underlying53 h;obtain⟨a,b,c,rfl⟩:=AaD (hl.trans DK.2.2.1);obtain⟨p,hp,_⟩:=DataW.trod_int Try.underlying3 h0;obtain⟨q,hq,_⟩:=DataW.trod_int Try.underlying3 h1;obtain⟨r,hr,_⟩:=DataW.trod_int Try.underlying3 h2;simp[Gp]at hp hq hr;exact⟨⟨p,q,r⟩,by rw[hp,hq,hr];rfl⟩
end
section
variable {H:Type}{enc:TypeId×Value→H}{W:World}{rc:Reach}{b0:Nat}{v:Value}{d:DataW H}{p:List MemPlace}
theorem Ti (hv:Value.okWide Try.prog W rc b0 48 v) (h:DataW.Trod enc Try.prog W 0 (fun _=>true) true 48 v d p):∃ (l:List Ar) (a:Option Addr) (cap:Nat),v=.slice a l.length cap∧BV W a l∧l.length≤maxLen:=by
 obtain⟨a,len,cap,rfl⟩:=okWide_slice Try.underlying48 hv;obtain⟨fuel,hf⟩:=h;obtain⟨l,a',cap',h1,h2,h3,_⟩:=PR Try.underlying48 DK.2.2.1 (by omega) (fun _=>rfl) ⟨0,0,0⟩ (fun _ _ _ h=>Za h) hf;exact⟨l,a',cap',h1,Bl.passes.1 h2,h3⟩
theorem AbE {α:Type}{cs:Array α}(h:cs.size=6):∃ c0 c1 c2 c3 c4 c5,cs = #[c0,c1,c2,c3,c4,c5]:=by
 obtain⟨l⟩:=cs
 match l,h with
 | [c0,c1,c2,c3,c4,c5],_=>exact⟨c0,c1,c2,c3,c4,c5,rfl⟩
theorem WC (hv:Value.okWide Try.prog W rc b0 28 v) (h:DataW.Trod enc Try.prog W 0 (fun _=>true) true 28 v d p):∃ (t:Ae) (s:Dt),v=.agg (CJ t s)∧Bf W t s:=by
 obtain⟨cs,rfl,hsz⟩:=okWide_struct Try.underlying28 hv;obtain⟨c0,c1,c2,c3,c4,c5,rfl⟩:=AbE (hsz.trans DK.2.2.2.1);obtain⟨fuel,hf⟩:=h;obtain⟨y0,y1,y2,y3,m,_,_,h0,h1,h2,h3⟩:=trod_struct4 Try.underlying28 hf;obtain⟨z0,z1,z2,m2,_,_,g0,g1,g2⟩:=trod_struct3 Try.underlying24 h0;obtain⟨D,hD,_⟩:=DataW.trod_int Try.underlying3 g0;obtain⟨S,hS,_⟩:=DataW.trod_int Try.underlying3 g1;obtain⟨P,hP,_⟩:=DataW.trod_int Try.underlying3 h1;simp[Value.cells,Gp,DK.2.2.2.2]at hD hS hP;have cs1:Try.prog.cellsOf 22=1∧Try.prog.cellsOf 25=1∧Try.prog.cellsOf 26=1:=⟨by kernel_rfl,by kernel_rfl,by kernel_rfl⟩;replace g2:DataW.trod enc Try.prog W 0 (fun _=>true) true m2 22 [c2]=some z2:=by simpa[Value.cells,cs1,DK.2.2.2.2] using g2
 replace h2:DataW.trod enc Try.prog W 0 (fun _=>true) true m 25 [c4]=some y2:=by simpa[Value.cells,cs1] using h2
 replace h3:DataW.trod enc Try.prog W 0 (fun _=>true) true m 26 [c5]=some y3:=by simpa[Value.cells,cs1] using h3
 obtain⟨l1,a1,p1,e1,hst,hm1,hc1⟩:=WH g2;obtain⟨l2,a2,p2,e2,hpy,hm2,hc2⟩:=PR Try.underlying25 DK.1 (by omega) (fun _=>rfl) ⟨0,0,false⟩ (fun _ _ _ h=>Y7 h) h2;obtain⟨l3,a3,p3,e3,htl,hm3,hc3⟩:=PR Try.underlying26 DK.2.1 (by omega) (fun _=>rfl) ⟨0,0,0⟩ (fun _ _ _ h=>Aar h) h3;subst hD hS hP e1 e2 e3;exact⟨⟨⟨D,S,l1⟩,P,l2,l3⟩,⟨a1,p1,a2,p2,a3,p3⟩,rfl,⟨hst,Bl.Aa.1 hpy,Bl.Af.1 htl,hm1,hm2,hm3,hc2,hc3⟩⟩
end
section
variable {w W:World}
theorem FQ (hh:w.heap=W.heap) (p:Addr):w.cell? p=W.cell? p:=by simp[World.cell?,hh]
theorem PI {α:Type}{f:α→Value×Value×Value}{a:Option Addr}{l:List α}(hh:w.heap=W.heap) (h:N7 f W a l):N7 f w a l:=by
 rcases h with h|⟨b,o,e,h⟩
 ·exact .inl h
 ·exact .inr ⟨b,o,e,fun i hi=>by simpa[FQ hh] using h i hi⟩
theorem SH {a:Option Addr}{l:List Strip}(hh:w.heap=W.heap) (h:DN W a l):DN w a l:=by
 rcases h with h|⟨b,o,e,h⟩
 ·exact .inl h
 ·exact .inr ⟨b,o,e,fun i hi=>by obtain⟨h0,h1,h2,h3,h4,h5,h6⟩:=h i hi;exact⟨by rw[FQ hh];exact h0,by rw[FQ hh];exact h1,by rw[FQ hh];exact h2,by rw[FQ hh];exact h3,by rw[FQ hh];exact h4,by rw[FQ hh];exact h5,by rw[FQ hh];exact h6⟩⟩
theorem YC {t:Ae}{s:Dt}(hh:w.heap=W.heap) (h:Bf W t s):Bf w t s:=⟨SH hh h.strips,PI hh h.Aa,PI hh h.Af,h.ls,h.lp,h.lt,h.qp,h.qt⟩
end
end
end Go.Proofs.Ytgdobbcjkiapkaa
