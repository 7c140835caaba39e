import Derived.Test.YtgdobbcjkiapkaaNo36
import Derived.Maps.AppendAt
namespace Go.Proofs.Ytgdobbcjkiapkaa
set_option maxRecDepth 100000
set_option maxHeartbeats 4000000
set_option linter.unusedSimpArgs false
set_option linter.unusedVariables false
section
open Go.RowKit
def MX (r:AQ) (i:Int):Int:=match r.strips[i.toNat]? with | some s=>s.L | none=>0
def Gx (r:AQ) (way:List Int):Nat→Int
 | 0=>0
 | k+1=>Gx r way k+MX r (way.getD k 0)
def Ij (r:AQ) (way:List Int):Int:=Gx r way way.length
theorem Jy {r:AQ} {f:Flock} (g:Good r f) (i:Int):0≤MX r i∧MX r i≤9:=by
 unfold MX
 cases h:r.strips[i.toNat]? with
 | none=>simp
 | some s=>have:=g.strip s (List.mem_of_getElem? h);dsimp only;omega
theorem FH {r:AQ} {f:Flock} (g:Good r f) (way:List Int):∀ k,0≤Gx r way k∧Gx r way k≤9*k
 | 0=>by simp [Gx]
 | k+1=>by have:=FH g way k;have:=Jy g (way.getD k 0);simp only [Gx];omega
set_option maxHeartbeats 2000000 in
theorem EN (w:World) (b:Nat) (r:AQ) (f:Flock) (shut:Int) (a:Option Addr) (cap:Nat) (h:GU w b r f shut a cap) (g:Good r f) (wa:Option Addr) (wc:Nat) (way:List Int) (hw:Aq w wa way)
  (hx:∀ x∈way,0≤x∧x < r.strips.length) (hl:way.length≤1000) :
  Calls Try.prog 106 #[.pointer (some ⟨b,0,none⟩), .slice wa way.length wc] w fun e w'=>e = .returned (.int .i64 (Ij r way))∧w=w':=by
 obtain ⟨c0,c1,c2,c3,c4,c5,hs⟩:=h;have HS:=Lib.hid hs;clear hs;have HW:=Lib.hid hw;clear hw;have HX:=Lib.hid hx;clear hx;have hn8:=g.n8;have G:=Lib.hid g;clear g
 go_enter Try.func106,Try.ntmps106
 go_wp2_with fail
 go_loop [5,10] (fun v5 v10=>∃ k:Nat,k≤way.length∧v10 = .int .i64 k∧v5 = .int .i64 (Gx r way k)) (fun _ v=>way.length-(intOf v).toNat)
 case atStart=>exact ⟨0,Nat.zero_le _,rfl,rfl⟩
 case round =>
  obtain ⟨k,hk,rfl,rfl⟩:=hrel;obtain ⟨n1,n2⟩:=FH G.out way k;have hst:k < way.length→Gx r way (k+1)=Gx r way k+MX r (way.getD k 0):=fun _=>rfl
  have Hst:=Lib.hid hst;clear hst;generalize hN:Gx r way k=N at n1 n2 Hst;have HN:=Lib.hid hN;clear hN
  by_cases hlt:k < way.length
  ·rcases HW.out with hz | ⟨wb,wo,hwa,hc⟩
   ·rw [hz] at hlt;simp at hlt
   have hck:=hc k hlt;have hxr:=HX.out _ (List.getElem_mem hlt);have hgd:way.getD k 0=way[k]:=by rw [List.getD_eq_getElem?_getD,List.getElem?_eq_getElem hlt];rfl
   generalize hy:way[k]=y at hck hxr hgd;obtain ⟨j,hj⟩:=Int.eq_ofNat_of_zero_le hxr.1;subst hj;have hjl:j < r.strips.length:=by omega
   rcases HS.out with hz | ⟨sb,so,ha,hs⟩
   ·rw [hz] at hjl;simp at hjl
   have hL:=(hs j hjl).c2;have hleg:MX r j=r.strips[j].L:=by simp [MX,hjl]
   obtain ⟨l1,l2⟩:=Jy G.out j;rw [hleg] at l1 l2;generalize hLL:r.strips[j].L=L at hL hleg l1 l2;have Hgd:=Lib.hid hgd;clear hgd hy hc hs hLL;have Hleg:=Lib.hid hleg;clear hleg;subst hwa ha
   go_wp2_with fail
   exact ⟨⟨k+1,by omega,by go_num,by rw [Hst.out hlt,Hgd.out,Hleg.out]⟩,by simp [intOf];omega⟩
  ·go_wp2_with fail
   go_ret
   obtain rfl:k=way.length:=by omega
   exact ⟨Dc (by rw [← HN.out];rfl),rfl⟩
def IZ (r:AQ) (x y:List Int):Bool:=decide (Ij r x < Ij r y) || (decide (Ij r x=Ij r y) && decide (x.length < y.length))
set_option maxHeartbeats 2000000 in
theorem RG (w:World) (b:Nat) (r:AQ) (f:Flock) (shut:Int) (a:Option Addr) (cap:Nat) (h:GU w b r f shut a cap) (g:Good r f) (xa ya:Option Addr) (xc yc:Nat) (x y:List Int) (hx:Aq w xa x) (hy:Aq w ya y)
  (hxr:∀ i∈x,0≤i∧i < r.strips.length) (hyr:∀ i∈y,0≤i∧i < r.strips.length) (hxl:x.length≤1000) (hyl:y.length≤1000) :
  Calls Try.prog 105 #[.pointer (some ⟨b,0,none⟩), .slice xa x.length xc, .slice ya y.length yc] w fun e w'=>e = .returned (.bool (IZ r x y))∧w=w':=by
 have H:=Lib.hid h;clear h;have HX:=Lib.hid hx;clear hx;have HY:=Lib.hid hy;clear hy;have HXR:=Lib.hid hxr;clear hxr;have HYR:=Lib.hid hyr;clear hyr;have HS:Hid (IZ r x y=(decide (Ij r x < Ij r y) || (decide (Ij r x=Ij r y) && decide (x.length < y.length)))):=Lib.hid rfl;have n1:=FH g x x.length;have n2:=FH g y y.length;have G:=Lib.hid g;clear g
 by_cases c1:Ij r x < Ij r y
 ·go_enter Try.func105,Try.ntmps105
  go_wp2_with fail
  refine (EN w b r f shut a cap H.out G.out xa xc x HX.out HXR.out hxl).mono ?_;rintro e w' ⟨rfl,rfl⟩
  go_wp2_with fail
  refine (EN w b r f shut a cap H.out G.out ya yc y HY.out HYR.out hyl).mono ?_;rintro e w' ⟨rfl,rfl⟩
  go_wp2_with fail
  go_ret
  exact ⟨EE (by rw [HS.out];simp [c1]),rfl⟩
 ·have c1':decide (Ij r x < Ij r y)=false:=decide_eq_false c1
  by_cases c2:Ij r x=Ij r y
  ·have c2':(Ij r x == Ij r y)=true:=by simpa using c2
   have C2:=Lib.hid c2;clear c2
   go_enter Try.func105,Try.ntmps105
   go_wp2_with fail
   refine (EN w b r f shut a cap H.out G.out xa xc x HX.out HXR.out hxl).mono ?_;rintro e w' ⟨rfl,rfl⟩
   go_wp2_with fail
   refine (EN w b r f shut a cap H.out G.out ya yc y HY.out HYR.out hyl).mono ?_;rintro e w' ⟨rfl,rfl⟩
   go_wp2_with fail
   go_ret
   exact ⟨EE (by rw [HS.out,C2.out];simp),rfl⟩
  ·have c2':(Ij r x == Ij r y)=false:=by simpa using c2
   go_enter Try.func105,Try.ntmps105
   go_wp2_with fail
   refine (EN w b r f shut a cap H.out G.out xa xc x HX.out HXR.out hxl).mono ?_;rintro e w' ⟨rfl,rfl⟩
   go_wp2_with fail
   refine (EN w b r f shut a cap H.out G.out ya yc y HY.out HYR.out hyl).mono ?_;rintro e w' ⟨rfl,rfl⟩
   go_wp2_with fail
   go_ret
   exact ⟨EE (by rw [HS.out];simp [c1,c2]),rfl⟩
end
section
open Go.RowKit
def chainOf (r:AQ) (use:List Bool) (met:Nat) (p:Int) (i:Nat):Option Int:=match r.strips[i]? with
 | some s=>if (endOf s p).2 && use.getD i false && !met.testBit (endOf s p).1.toNat then some (endOf s p).1 else none
 | none=>none
def BB (rec:Int→Nat→List (List Int)) (r:AQ) (use:List Bool) (met:Nat) (p:Int):Nat→List (List Int)
 | 0=>[]
 | k+1=>BB rec r use met p k++(match chainOf r use met p k with
  | some q=>(rec q (met ||| 1 <<< q.toNat)).map ((k:Int) :: ·)
  | none=>[])
def Cc (r:AQ) (use:List Bool) (tt:Int):Nat→Int→Nat→List (List Int)
 | 0,p,met=>if p=tt then [[]] else BB (fun _ _=>[]) r use met p r.strips.length
 | k+1,p,met=>if p=tt then [[]] else BB (Cc r use tt k) r use met p r.strips.length
def UZ (met:Nat):Nat:=((List.range 6).filter fun s => !met.testBit s).length
theorem Ja:∀ m < 64,∀ q < 6,m.testBit q=false→UZ (m ||| 1 <<< q) < UZ m∧(m ||| 1 <<< q) < 64:=by decide +kernel
theorem IJ {r:AQ} {use:List Bool} {met:Nat} {p q:Int} {i:Nat}:chainOf r use met p i=some q ↔
  ∃ s,r.strips[i]? = some s∧(endOf s p).2=true∧use.getD i false=true∧met.testBit (endOf s p).1.toNat=false∧q=(endOf s p).1:=by
 unfold chainOf
 cases h:r.strips[i]? with
 | none=>simp
 | some s =>
  simp only [Option.some.injEq,exists_eq_left',Option.ite_none_right_eq_some,Bool.and_eq_true,Bool.not_eq_true']
  constructor
  ·rintro ⟨⟨⟨h1,h2⟩,h3⟩,h4⟩;exact ⟨h1,h2,h3,h4.symm⟩
  ·rintro ⟨h1,h2,h3,h4⟩;exact ⟨⟨⟨h1,h2⟩,h3⟩,h4.symm⟩
theorem II {rec:Int→Nat→List (List Int)} {r:AQ} {use:List Bool} {met:Nat} {p:Int} {P:List Int→Prop}
  (h:∀ i q,i < r.strips.length→∀ l∈rec q (met ||| 1 <<< q.toNat),P ((i:Int) :: l)):∀ k,k≤r.strips.length→∀ l∈BB rec r use met p k,P l
 | 0,_,l,hl=>by simp [BB] at hl
 | k+1,hk,l,hl=>by
  rw [BB,List.mem_append] at hl;rcases hl with hl | hl
  ·exact II h k (by omega) l hl
  ·cases hc:chainOf r use met p k with
   | none=>simp [hc] at hl
   | some q =>
    simp only [hc,List.mem_map] at hl;obtain ⟨a,ha,rfl⟩:=hl;exact h k q (by omega) a ha
theorem F5 {rec:Int→Nat→List (List Int)} {r:AQ} {use:List Bool} {met:Nat} {p:Int} {M:Nat} (h:∀ q m,(rec q m).length≤M):∀ k,(BB rec r use met p k).length≤k*M
 | 0=>by simp [BB]
 | k+1=>by
  have:=F5 (r:=r) (use:=use) (met:=met) (p:=p) h k;rw [BB,List.length_append,Nat.succ_mul]
  cases hc:chainOf r use met p k with
  | none=>simp;omega
  | some q=>have:=h q (met ||| 1 <<< q.toNat);simp only [List.length_map];omega
theorem J7 {r:AQ} {use:List Bool} {tt:Int}:∀ (k:Nat) (p:Int) (met:Nat),∀ l∈Cc r use tt k p met,l.length≤k+1∧∀ x∈l,0≤x∧x < r.strips.length
 | 0,p,met,l,hl=>by
  rw [Cc] at hl
  split at hl
  ·simp at hl;subst hl;simp
  ·exact II (P:=fun l=>l.length≤0+1∧∀ x∈l,0≤x∧x < r.strips.length) (by simp) _ (Nat.le_refl _) l hl
 | k+1,p,met,l,hl=>by
  rw [Cc] at hl
  split at hl
  ·simp at hl;subst hl;simp
  ·refine II (P:=fun l=>l.length≤k+1+1∧∀ x∈l,0≤x∧x < r.strips.length) (fun i q hi a ha =>?_) _ (Nat.le_refl _) l hl;obtain ⟨h1,h2⟩:=J7 k q _ a ha;refine ⟨by simp;omega,fun x hx =>?_⟩;rcases List.mem_cons.1 hx with rfl | hx
   ·omega
   ·exact h2 x hx
theorem KZ {r:AQ} {use:List Bool} {tt:Int} (hr:r.strips.length≤8):∀ (k:Nat) (p:Int) (met:Nat),(Cc r use tt k p met).length≤8 ^ (k+1)
 | 0,p,met=>by
  rw [Cc]
  split
  ·simp
  ·have:=F5 (rec:=fun _ _=>[]) (r:=r) (use:=use) (met:=met) (p:=p) (M:=0) (by simp) r.strips.length;omega
 | k+1,p,met=>by
  rw [Cc]
  split
  ·have:=Nat.pow_le_pow_right (n:=8) (by omega) (Nat.zero_le (k+1+1));simpa using this
  ·have:=F5 (rec:=Cc r use tt k) (r:=r) (use:=use) (met:=met) (p:=p) (fun q m=>KZ hr k q m) r.strips.length;have h2:r.strips.length*8 ^ (k+1)≤8*8 ^ (k+1):=Nat.mul_le_mul_right _ hr;rw [Nat.pow_succ (n:=8) (m:=k+1)];omega
def Abd (w:World) (g:Nat) (l:List Int):Prop:=∀ (j:Nat) (h:j < l.length),w.cell? ⟨g,j,none⟩=some (.int .i64 l[j])
def Gm (w:World) (B:Nat) (v x:Value) (l:List Int):Prop :=
 ∃ a cap,x = .slice a l.length cap∧(l=[]∨∃ b o,a=some ⟨b,o,none⟩∧B≤b∧v.ownBlock≠some b∧∀ (i:Nat) (h:i < l.length),w.cell? ⟨b,o+i,none⟩=some (.int .i64 l[i]))
theorem Gm.ints {w:World} {B:Nat} {v x:Value} {l:List Int} (h:Gm w B v x l):∃ a cap,x = .slice a l.length cap∧Aq w a l:=by
 obtain ⟨a,cap,hx,h⟩:=h;refine ⟨a,cap,hx,?_⟩;rcases h with h | ⟨b,o,ha,_,_,hc⟩
 ·exact .inl h
 ·exact .inr ⟨b,o,ha,hc⟩
theorem Gm.keep {w w':World} {B:Nat} {v v' x:Value} {l:List Int} (h:Gm w B v x l) (hk:∀ b,B≤b→b < w.heap.size→v.ownBlock≠some b→w'.heap[b]? = w.heap[b]?∧v'.ownBlock≠some b):Gm w' B v' x l:=by
 obtain ⟨a,cap,hx,h⟩:=h;refine ⟨a,cap,hx,?_⟩;rcases h with h | ⟨b,o,ha,hB,hv,hc⟩
 ·exact .inl h
 ·by_cases hl:l=[]
  ·exact .inl hl
  ·have h0:=hc 0 (by cases l with | nil=>exact absurd rfl hl | cons x l=>simp);obtain ⟨k1,k2⟩:=hk b hB (lt_of_cell h0) hv;exact .inr ⟨b,o,ha,hB,k2,fun i hi=>(World.cell?_of_block k1).trans (hc i hi)⟩
def Bj (w:World) (B:Nat) (v:Value) (L:List (List Int)):Prop :=
 ∃ xs:List Value,w.ownsRow B 29 1 v L.length xs∧∀ (i:Nat) (h:i < L.length),∃ x,xs[i]? = some x∧Gm w B v x L[i]
theorem Bj.nil (w:World) (B:Nat):Bj w B (.slice none 0 0) []:=⟨[],World.ownsRow_nil _ _ _ _,by simp⟩
theorem Bj.keep {w w':World} {B:Nat} {v:Value} {L:List (List Int)} (h:Bj w B v L) (hk:∀ b,B≤b→b < w.heap.size→w'.heap[b]? = w.heap[b]?):Bj w' B v L:=by
 obtain ⟨xs,⟨h1,h2⟩,h3⟩:=h;refine ⟨xs,⟨h1,?_⟩,fun i hi =>?_⟩
 ·rcases h2 with h2 | ⟨g,cap,cur,hv,hg,hh,r⟩
  ·exact .inl h2
  ·exact .inr ⟨g,cap,cur,hv,hg,by rw [hk g hg (Array.getElem?_eq_some_iff.1 hh).1];exact hh,r⟩
 ·obtain ⟨x,hx,hin⟩:=h3 i hi;exact ⟨x,hx,hin.keep fun b hB hb' hv=>⟨hk b hB hb',hv⟩⟩
theorem Bj.below {w w':World} {B:Nat} {v:Value} {L:List (List Int)} (h:Bj w B v L) (hb:Below w.heap.size w w'):Bj w' B v L:=h.keep fun b _ hb'=>hb.block b hb'
theorem Bj.block_lt {w:World} {B b:Nat} {v:Value} {L:List (List Int)} (h:Bj w B v L) (hb:v.ownBlock=some b):b < w.heap.size∧B≤b:=by
 obtain ⟨xs,⟨_,h2⟩,_⟩:=h;rcases h2 with ⟨hv,_⟩ | ⟨g,cap,cur,hv,hg,hh,r⟩
 ·subst hv;simp [Value.ownBlock] at hb
 ·subst hv;simp [Value.ownBlock] at hb;subst hb;exact ⟨(Array.getElem?_eq_some_iff.1 hh).1,hg⟩
theorem Bj.form {w:World} {B:Nat} {v:Value} {L:List (List Int)} (h:Bj w B v L):∃ a cap,v = .slice a L.length cap∧L.length≤cap∧(L≠[]→∃ g,a=some ⟨g,0,none⟩) ∧
  ∀ (i:Nat) (h:i < L.length),∃ g x,a=some ⟨g,0,none⟩∧B≤g∧w.cell? ⟨g,i,none⟩=some x∧Gm w B v x L[i]:=by
 obtain ⟨xs,⟨h1,h2⟩,h3⟩:=h;rcases h2 with ⟨hv,hn⟩ | ⟨g,cap,cur,hv,hg,hh,hc,hm,hs,ht⟩
 ·have:L=[]:=List.length_eq_zero_iff.1 hn;subst this;exact ⟨none,0,hv,Nat.le_refl _,fun h=>absurd rfl h,fun i hi=>by simp at hi⟩
 ·refine ⟨_,cap,hv,hc,fun _=>⟨g,rfl⟩,fun i hi =>?_⟩;obtain ⟨x,hx,hin⟩:=h3 i hi;refine ⟨g,x,rfl,hg,?_,hin⟩
  have e:cur[i]? = some x:=by
   rw [← Array.getElem?_toList];have:(cur.toList.take (L.length*1))[i]? = cur.toList[i]?:=by rw [List.getElem?_take,if_pos (by omega)]
   rw [← this,ht];exact hx
  simp [World.cell?,hh,e]
theorem Bj.push {w w':World} {B:Nat} {v v' x:Value} {L:List (List Int)} {l:List Int} {xs:List Value} (h3:∀ (i:Nat) (h:i < L.length),∃ x,xs[i]? = some x∧Gm w B v x L[i]) (hl:xs.length=L.length)
  (hx:Gm w B v x l) (hown:w'.ownsRow B 29 1 v' (L.length+1) (xs++[x])) (hk:∀ b,B≤b→b < w.heap.size→v.ownBlock≠some b→w'.heap[b]? = w.heap[b]?∧v'.ownBlock≠some b):Bj w' B v' (L++[l]):=by
 refine ⟨xs++[x],by simpa using hown,fun i hi =>?_⟩;simp only [List.length_append,List.length_cons,List.length_nil] at hi
 by_cases e:i < L.length
 ·obtain ⟨y,hy,hin⟩:=h3 i e;refine ⟨y,by rw [List.getElem?_append_left (by omega)];exact hy,?_⟩;rw [List.getElem_append_left e];exact hin.keep hk
 ·obtain rfl:i=L.length:=by omega
  refine ⟨x,by rw [List.getElem?_append_right (by omega),hl];simp,?_⟩;rw [List.getElem_append_right (Nat.le_refl _)]
  simpa using hx.keep hk
theorem WM:(Try.prog.info? 29).map (fun i=>(i.zero,i.size,i.bytes))=some (some (.slice none 0 0),1,24):=by kernel_rfl
theorem Y3 {ops:Array Oper} {rest:List Oper} {o:Oper} {a:Act} {Q:Exit→Act→World→Prop} {w:World} (hgd:o.guard=none) (s x:Operand)
  (ho:o.op = .call { callee := .builtin .append,args:=#[s,x],argTypes:=#[29,29] })
  (B g:Nat) (i:Int) (hs:a.eval s = .slice (some ⟨g,0,none⟩) 1 1) (hg:w.heap[g]? = some (.cells #[.int .i64 i] 3 (0,0))) (ra:Option Addr) (rc:Nat) (l:List Int) (hx:a.eval x = .slice ra l.length rc) (hl:Aq w ra l)
  (hlen:l.length≤1000000) (hB:B≤g)
  (h:∀ g' cap' w',Abd w' g' (i :: l)→g' < w'.heap.size→B≤g'→Below B w w'→wpList Try.prog ops Q rest (a.put o.dst (.slice (some ⟨g',0,none⟩) (l.length+1) cap')) w'):wpList Try.prog ops Q (o :: rest) a w:=by
 obtain ⟨i0,hi,hz0,hz1,hz2⟩:=info_parts Yx;have hgl:=(Array.getElem?_eq_some_iff.1 hg).1;have hown:w.ownsRow B 3 1 (.slice (some ⟨g,0,none⟩) 1 1) 1 [.int .i64 i]:=⟨rfl, .inr ⟨g,1,_,rfl,hB,hg,Nat.le_refl _,by unfold maxLen;omega,rfl,rfl⟩⟩
 cases ra with
 | none =>
  have hl0:l=[]:=by
   rcases hl with hl | ⟨_,_,h,_⟩
   ·exact hl
   ·simp at h
  subst hl0;refine wpList_plain hgd fun K hK =>?_
  have hr:∀ ty,(Builtin.append_ #[29,29] ty #[.slice (some ⟨g,0,none⟩) 1 1, .slice none 0 rc]).run Try.prog w = .ok (.slice (some ⟨g,0,none⟩) 1 1) w:=by
   intro ty;simp [Builtin.append_,run_underlying Try.underlying29,sizeOf,typeInfo,hi,Builtin.lenOf,Builtin.firstCells,storeCells]
  unfold Oper.wp execOp;simp only [ho,resolve,invoke,builtin,Sem.run_bind,Sem.run_pure,Result.andThen_ok,List.map_toArray,List.map_cons,List.map_nil,hs,hx,List.length_nil,hr];exact hK _ _ (h g 1 w (fun j hj=>by simp at hj;subst hj;simp [World.cell?,hg]) hgl hB (Below.refl _ _))
 | some ad =>
  refine wpList_append_own_at w hgd s x 29 ho B 3 i0 (.int .i64 0) 1 8 Try.underlying29 hi hz0 hz1 hz2 rfl (by decide) _ 1 _ hs hown ad l.length rc (l.map (Value.int .i64)) hx (by simp) ?_ ?_ ?_ ?_ (by omega) ?_
  ·intro j u hj;rw [List.getElem?_map] at hj
   cases hy:l[j]? with
   | none=>simp [hy] at hj
   | some y =>
    simp [hy] at hj;subst hj;obtain ⟨hjl,rfl⟩:=List.getElem?_eq_some_iff.1 hy;rcases hl with hl | ⟨b',o',e,hl⟩
    ·subst hl;simp at hjl
    ·simp only [Option.some.injEq] at e;subst e;rw [show (⟨b',o',none⟩:Addr).add j=⟨b',o'+j,none⟩ by simp [Addr.add]];exact hl j hjl
  ·intro u hu;obtain ⟨x,_,rfl⟩:=List.mem_map.1 hu;rfl
  ·unfold maxLen;omega
  ·omega
  ·intro v' w' h1 h2 h3 h4;have hn:v' ≠ .slice none 0 0:=fun e=>by simpa using h3.1 e
   obtain ⟨g1,g2⟩:=h1;rcases g2 with ⟨hv,_⟩ | ⟨g',cap',cur,hv,hg',hh,hc,hm,hsz,ht⟩
   ·exact absurd hv hn
   ·rw [hv,Nat.add_comm 1 l.length];refine h g' cap' w' (fun j hj =>?_) (Array.getElem?_eq_some_iff.1 hh).1 hg' (Below.grown (Below.refl _ _) h2 (by omega) fun k hk=>by simp [Value.ownBlock] at hk;omega)
    have e:cur[j]? = some (.int .i64 ((i :: l)[j])):=by
     rw [← Array.getElem?_toList];have:(cur.toList.take ((1+l.length)*1))[j]? = cur.toList[j]?:=by rw [List.getElem?_take,if_pos (by simp at hj;omega)]
     rw [← this,ht,show [Value.int .i64 i]++l.map (Value.int .i64)=(i :: l).map (Value.int .i64) from rfl,List.getElem?_map,List.getElem?_eq_getElem hj];rfl
    simp [World.cell?,hh,e]
theorem XM {ops:Array Oper} {rest:List Oper} {o:Oper} {a:Act} {Q:Exit→Act→World→Prop} {w:World} (hgd:o.guard=none) (s x:Operand)
  (ho:o.op = .call { callee := .builtin .append,args:=#[s,x],argTypes:=#[39,39] })
  (B:Nat) (v:Value) (L:List (List Int)) (hs:a.eval s=v) (hown:Bj w B v L) (xv:Value) (l:List Int) (hin:Gm w B v xv l) (hx:a.eval x = .slice (some ⟨w.heap.size,0,none⟩) 1 1)
  (hlen:L.length≤10000000) (hB:B≤w.heap.size)
  (h:∀ v' w',Bj w' B v' (L++[l])→Below B w w'→(∀ b,b < w.heap.size→v.ownBlock≠some b→w'.heap[b]? = w.heap[b]?)→(v'.ownBlock=v.ownBlock∨v'.ownBlock=some (w.heap.size+1))→w.heap.size≤w'.heap.size →
   wpList Try.prog ops Q rest (a.put o.dst v') w'):wpList Try.prog ops Q (o :: rest) a (w.alloc (.cells #[xv] 29)):=by
 obtain ⟨i0,hi,hz0,hz1,hz2⟩:=info_parts WM;have hb0:Below w.heap.size w (w.alloc (.cells #[xv] 29)):=Below.alloc (Below.refl _ _) (Nat.le_refl _) _;have h1c:xv.oneCell'=true:=by obtain ⟨_,_,rfl,_⟩:=hin;rfl
 have hlt:=fun b hb=>(hown.block_lt (b:=b) hb)
 obtain ⟨xs,hrow,h3⟩:=hown.below hb0;have hxl:xs.length=L.length:=by have:=hrow.1;omega
 refine wpList_append_own_at (w.alloc _) hgd s x 39 ho B 29 i0 (.slice none 0 0) 1 24 Try.underlying39 hi hz0 hz1 hz2 rfl (by decide) v L.length xs hs hrow ⟨w.heap.size,0,none⟩ 1 1 [xv] hx rfl ?_ ?_ ?_ ?_ (by simp;omega) ?_
 ·intro j u hj
  match j,hj with
  | 0,hj=>simp at hj;subst hj;simp [Addr.add]
 ·intro u hu;simp at hu;subst hu;exact h1c
 ·unfold maxLen;omega
 ·omega
 ·intro v' w' g1 g2 _ g4;have hbb:Below B (w.alloc (.cells #[xv] 29)) w':=Below.grown (Below.refl _ _) g2 (by simp;omega) fun k hk=>(hlt k hk).2
  have keep:∀ b,b < w.heap.size→v.ownBlock≠some b→w'.heap[b]? = w.heap[b]?:=fun b hb hv=>by
   rw [g2.block b (by simp;omega) (fun e=>hv e.symm),hb0.block b hb]
  refine h v' w' (Bj.push h3 hxl (hin.keep (w':=w.alloc _) (v':=v) fun b _ hb hv=>⟨hb0.block b hb,hv⟩) g1 fun b hBb hb hv =>?_) ((hb0.mono (by omega)).trans hbb) keep (by simpa using g4) (by have:=g2.size;simp at this;omega);refine ⟨g2.block b hb (fun e=>hv e.symm),fun e =>?_⟩;rcases g4 with g4 | g4
  ·exact hv (g4.symm.trans e)
  ·rw [g4] at e;simp at e hb;omega
end
section
open Go.RowKit
def JF (w:World) (a:Option Addr) (l:List Bool):Prop :=
 l=[]∨∃ b o,a=some ⟨b,o,none⟩∧∀ (i:Nat) (h:i < l.length),w.cell? ⟨b,o+i,none⟩=some (.bool l[i])
theorem JF.below {w w':World} {a:Option Addr} {l:List Bool} (h:JF w a l) (hb:Below w.heap.size w w'):JF w' a l:=by
 rcases h with h | ⟨b,o,ha,h⟩
 ·exact .inl h
 ·exact .inr ⟨b,o,ha,fun i hi=>by rw [(DX hb).1 _ _ (lt_of_cell (h i hi))];exact h i hi⟩
def ZB (r:AQ) (use:List Bool) (tt:Int):Nat→Int→Nat→List (List Int)
 | 0=>fun _ _=>[]
 | k+1=>Cc r use tt k
theorem OL (r:AQ) (use:List Bool) (tt:Int) (k:Nat) (p:Int) (met:Nat):Cc r use tt k p met=if p=tt then [[]] else BB (ZB r use tt k) r use met p r.strips.length:=by
 cases k <;> rfl
def Lm (w:World) (L:List (List Int)) (e:Ending) (w':World):Prop:=∃ v,e = .returned v∧Bj w' w.heap.size v L∧Below w.heap.size w w'
set_option maxHeartbeats 8000000 in
theorem Nq (b:Nat) (r:AQ) (f:Flock) (shut:Int) (a:Option Addr) (cap:Nat) (g:Good r f) (ua:Option Addr) (uc:Nat) (use:List Bool) (hul:use.length=r.strips.length) (tt:Int) (rec:Int→Nat→List (List Int)) (p met:Nat)
  (hrl:∀ q m,(rec q m).length≤1000000) (hri:∀ q m,∀ l∈rec q m,l.length≤100)
  (ih:∀ (q:Nat) (w:World),(q:Int) < r.stages→met.testBit q=false→GU w b r f shut a cap→JF w ua use →
   Calls Try.prog 102 #[.pointer (some ⟨b,0,none⟩), .slice ua r.strips.length uc, .int .i64 q, .int .i64 tt, .int .u16 ((met ||| 1 <<< q:Nat):Int)] w (Lm w (rec q (met ||| 1 <<< q))))
  (w:World) (hm:met < 64) (hp:(p:Int) < r.stages) (hW:GU w b r f shut a cap) (hU:JF w ua use) :
  Calls Try.prog 102 #[.pointer (some ⟨b,0,none⟩), .slice ua r.strips.length uc, .int .i64 p, .int .i64 tt, .int .u16 met] w (Lm w (if (p:Int)=tt then [[]] else BB rec r use met p r.strips.length)):=by
 have g2:=g.s2;have hn8:=g.n8
 by_cases hpt:(p:Int)=tt
 ·have hpt':((p:Int) == tt)=true:=by simpa using hpt
  rw [if_pos hpt];clear hpt
  go_enter Try.func102,Try.ntmps102
  go_wp2_with fail
  go_ret
  refine ⟨_,rfl,⟨[.slice none 0 0],⟨rfl, .inr ⟨w.heap.size,1,_,rfl,Nat.le_refl _,heap_alloc_new w _,Nat.le_refl _,by unfold maxLen;omega,rfl,rfl⟩⟩,fun i hi =>?_⟩,Below.alloc (Below.refl _ _) (Nat.le_refl _) _⟩;obtain rfl:i=0:=by simpa using hi
  exact ⟨_,rfl,none,0,rfl, .inl rfl⟩
 ·have hpt':((p:Int) == tt)=false:=by simpa using hpt
  rw [if_neg hpt];have HW:=Lib.hid hW;have HU:=Lib.hid hU;clear hU;have IH:=Lib.hid ih;clear ih;have G:=Lib.hid g;clear g;have HUL:=Lib.hid hul;clear hul;have HRL:=Lib.hid hrl;clear hrl;have HRI:=Lib.hid hri;clear hri;clear hpt;obtain ⟨c0,c1,c2,c3,c4,c5,hs⟩:=hW;clear hs
  go_enter Try.func102,Try.ntmps102
  go_wp2_with fail
  go_loopw [11,27] (fun v11 v27 wx=>∃ i:Nat,i≤r.strips.length∧v27 = .int .i64 i∧Bj wx w.heap.size v11 (BB rec r use met p i)∧Below w.heap.size w wx) (fun _ v _=>r.strips.length-(intOf v).toNat)
  case atStart=>exact ⟨0,Nat.zero_le _,rfl,Bj.nil _ _,Below.refl _ _⟩
  case round =>
   obtain ⟨i,hi,rfl,hown,hb⟩:=hrel;have Hown:=Lib.hid hown;clear hown;clear c0 c1 c2 c3 c4 c5
   by_cases hlt:i < r.strips.length
   ·have HS:=Lib.hid (F5 (r:=r) (use:=use) (met:=met) (p:=(p:Int)) HRL.out i);have hget:r.strips[i]? = some r.strips[i]:=List.getElem?_eq_getElem hlt;have Hget:=Lib.hid hget;clear hget
    go_wp2_with fail
    refine (ZP _ b r f shut a cap (HW.out.below hb) i hlt p).mono ?_;rintro e w2 ⟨rfl,hb2⟩;have hbw2:=hb.trans (hb2.mono hb.size);have Hown2:=Lib.hid (Hown.out.below hb2);have hstep:BB rec r use met p (i+1)=BB rec r use met p i++(match chainOf r use met p i with | some q=>(rec q (met ||| 1 <<< q.toNat)).map ((i:Int) :: ·) | none=>[]):=rfl;have Hstep:=Lib.hid hstep;clear hstep;clear Hown hb2
    cases heo:(endOf r.strips[i] p).2
    ·have hn:chainOf r use met p i=none:=by
      cases hc:chainOf r use met p i with
      | none=>rfl
      | some q=>obtain ⟨s,hs,he,_⟩:=IJ.1 hc;rw [Hget.out] at hs;simp at hs;subst hs;rw [heo] at he;simp at he
     have Hn:=Lib.hid hn;clear hn;have Heo:=Lib.hid heo;clear heo
     go_wp2_with fail
     exact ⟨⟨i+1,by omega,by go_num,by rw [Hstep.out,Hn.out];simpa using Hown2.out,hbw2⟩,by simp [intOf];omega⟩
    ·obtain ⟨er1,er2⟩:=Nj G.out (List.getElem_mem hlt) heo
     have hco:∀ q:Nat,(endOf r.strips[i] p).1=q→chainOf r use met p i=if use.getD i false && !met.testBit q then some (q:Int) else none:=fun q hq=>by
      simp [chainOf,hlt,heo,hq]
     have Hco:=Lib.hid hco;clear hco;have Heo:=Lib.hid heo;clear heo;generalize hq0:(endOf r.strips[i] p).1=q0 at er1 er2 Hco;obtain ⟨q,hq⟩:=Int.eq_ofNat_of_zero_le er1;subst hq;have Hco':=Lib.hid (Hco.out q rfl);clear Hco;clear hq0;have hiu:i < use.length:=by have:=HUL.out;omega
     have hgd:use.getD i false=use[i]:=by rw [List.getD_eq_getElem?_getD,List.getElem?_eq_getElem hiu];rfl
     rcases HU.out.below hbw2 with hz | ⟨ub,uo,hua,hub⟩
     ·rw [hz] at hiu;simp at hiu
     have hcu:=hub i hiu;generalize huv:use[i]=uv at hcu hgd;have Hgd:=Lib.hid hgd;clear hgd;clear huv hub;subst hua
     cases uv
     ·have Hn:=Lib.hid (show chainOf r use met p i=none by rw [Hco'.out,Hgd.out];rfl)
      go_wp2_with fail
      exact ⟨⟨i+1,by omega,by go_num,by rw [Hstep.out,Hn.out];simpa using Hown2.out,hbw2⟩,by simp [intOf];omega⟩
     ·go_wp2_with fail
      refine (ZI met q (by omega) (by omega) _).mono ?_;rintro e w' ⟨rfl,rfl⟩
      cases hmq:met.testBit q
      ·have Hn:=Lib.hid (show chainOf r use met p i=some (q:Int) by rw [Hco'.out,Hgd.out,hmq];rfl);have Hmq:=Lib.hid hmq;clear hmq
       go_wp2_with fail
       refine (Tn met q (by omega) (by omega) _).mono ?_;rintro e w' ⟨rfl,rfl⟩
       go_wp2_with fail
       refine (IH.out q w2 er2 Hmq.out (HW.out.below hbw2) (HU.out.below hbw2)).mono ?_;rintro e w3 ⟨vR,rfl,hR,hb3⟩;have hbw3:=hbw2.trans (hb3.mono hbw2.size);have Hown3:=Lib.hid (Hown2.out.below hb3);have hR1:=HRL.out q (met ||| 1 <<< q);have hR2:=HRI.out q (met ||| 1 <<< q);have hn':(match chainOf r use met p i with | some q=>(rec q (met ||| 1 <<< q.toNat)).map ((i:Int) :: ·) | none=>[])=(rec q (met ||| 1 <<< q)).map ((i:Int) :: ·):=by rw [Hn.out];rfl
       rw [hn'] at Hstep;have hs3:=hb3.size;generalize hRg:rec q (met ||| 1 <<< q)=R at hR hR1 hR2 Hstep;clear hn' hRg;generalize hLg:BB rec r use met p i=Li at Hown3 HS Hstep;clear hLg;obtain ⟨ra,rc,hv,hcap,hne,hcells⟩:=hR.form;clear hR;subst hv;have HR2:=Lib.hid hR2;clear hR2;have Hcells:=Lib.hid hcells;clear hcells;have Hne:=Lib.hid hne;clear hne;have hown3lt:∀ k,u11.ownBlock=some k→k < w2.heap.size∨w3.heap.size≤k:=fun k hk => .inl ((Hown2.out.block_lt hk).1)
       clear Hown2;have hb3':=Lib.hid hb3;clear hb3
       go_wp2_with fail
       go_loopw [11,60] (fun v11 v60 wx=>∃ j:Nat,j≤R.length∧v60 = .int .i64 j∧Bj wx w.heap.size v11 (Li++(R.take j).map ((i:Int) :: ·))∧Below w.heap.size w wx∧w3.heap.size≤wx.heap.size ∧
        (∀ b,w2.heap.size≤b→b < w3.heap.size→wx.heap[b]? = w3.heap[b]?)∧(∀ k,v11.ownBlock=some k→k < w2.heap.size∨w3.heap.size≤k)) (fun _ v _=>R.length-(intOf v).toNat)
       case atStart=>exact ⟨0,Nat.zero_le _,rfl,by simpa using Hown3.out,hbw3,Nat.le_refl _,fun _ _ _=>rfl,hown3lt⟩
       case round =>
        clear Hown3 hown3lt hbw3;obtain ⟨j,hj,rfl,hown,hbr,hzr,hkeep,hlt3⟩:=hrel;have Hown:=Lib.hid hown;clear hown;have Hkeep:=Lib.hid hkeep;clear hkeep;have Hlt3:=Lib.hid hlt3;clear hlt3
        by_cases hjl:j < R.length
        ·obtain ⟨gR,xv,hra,hgR,hcell,hin⟩:=Hcells.out j hjl;have hl100:=HR2.out _ (List.getElem_mem hjl);have htk:R.take (j+1)=R.take j++[R[j]]:=List.take_succ_eq_append_getElem hjl;have hcr:=(World.cell?_of_block (Hkeep.out gR hgR (lt_of_cell hcell))).trans hcell;obtain ⟨la,lc,hxv,hints⟩:=(hin.keep (w':=wr) (v' := .slice ra R.length rc) fun b hB hb hv=>⟨Hkeep.out b hB hb,hv⟩).ints;generalize hl:R[j]=l at hl100 htk hxv hints;clear hin hcell hl;subst hra hxv;have Htk:=Lib.hid htk;clear htk;have hb1:Below wr.heap.size wr (wr.alloc (.cells #[.int .i64 i] 3)):=Below.alloc (Below.refl _ _) (Nat.le_refl _) _;have HI:=Lib.hid (hints.below hb1);clear hints;have HB1:=Lib.hid hb1;clear hb1
         have hLb:(Li++(R.take j).map ((i:Int) :: ·)).length≤10000000:=by
          have h1:=HS.out;have h2:=HRL.out;have h3:i*1000000≤8*1000000:=Nat.mul_le_mul_right _ (by omega);simp only [List.length_append,List.length_map,List.length_take]
          omega
         have HLb:=Lib.hid hLb;clear hLb;have hnewg:wr.heap[wr.heap.size]? = none:=by simp
         go_wp2_with (first
          | (at_builtin;refine Y3 rfl (.tmp 66) (.tmp 67) rfl wr.heap.size wr.heap.size i rfl (heap_alloc_new wr _) la lc l rfl HI.out (by omega) (Nat.le_refl _) ?_;intro g' cap' wA hrow hgl hgB hbA;have Hrow:=Lib.hid hrow;clear hrow;have HbA:=Lib.hid hbA;clear hbA)
          | (at_builtin;refine XM rfl (.tmp 64) (.tmp 69) rfl w.heap.size u11 _ rfl (Hown.out.below (HB1.out.trans HbA.out)) (.slice (some ⟨g',0,none⟩) (l.length+1) cap') (i :: l) ?_ rfl HLb.out ?_ ?_))
         ·exact ⟨_,_,rfl, .inr ⟨g',0,rfl,by have:=hbr.size;omega,fun e=>by have:=(Hown.out.block_lt e).1;omega,fun jj hjj=>by rw [Nat.zero_add];exact Hrow.out jj hjj⟩⟩
         ·have:=HbA.out.size;have:=hbr.size;simp at *;omega
         ·intro v' w' hown' hbB hkeep' hat hsz;have Hown':=Lib.hid hown';clear hown';have HbB:=Lib.hid hbB;clear hbB;have Hkeep':=Lib.hid hkeep';clear hkeep';have Hat:=Lib.hid hat;clear hat;have Hbr:=Lib.hid hbr;clear hbr;clear hcr hnewg;have hsA:=HbA.out.size;simp only [World.size_alloc] at hsA
          go_wp2_with fail
          refine ⟨⟨j+1,by omega,by go_num,?_,?_,by omega,fun bb h1 h2 =>?_,fun kk hkk =>?_⟩,by simp [intOf];omega⟩
          ·have:=Hown'.out;rw [Htk.out,List.map_append]
           simpa using this
          ·have hA:Below w.heap.size w wA:=Hbr.out.trans ((HB1.out.trans HbA.out).mono Hbr.out.size);exact hA.trans HbB.out
          ·have hne:¬ u11.ownBlock=some bb:=fun e=>by
            rcases Hlt3.out _ e with h | h <;> omega
           rw [Hkeep'.out bb (by omega) hne,HbA.out.block bb (by omega),HB1.out.block bb (by omega)];exact Hkeep.out bb h1 h2
          ·rcases Hat.out with h | h
           ·exact Hlt3.out kk (h ▸ hkk)
           ·rw [h] at hkk;simp at hkk;omega
        ·obtain rfl:j=R.length:=by omega
         go_wp2_with fail
         refine ⟨⟨i+1,by omega,by go_num,?_,hbr⟩,by simp [intOf];omega⟩;rw [Hstep.out];have:=Hown.out
         rwa [List.take_length] at this
      ·have Hn:=Lib.hid (show chainOf r use met p i=none by rw [Hco'.out,Hgd.out,hmq];rfl);have Hmq:=Lib.hid hmq;clear hmq
       go_wp2_with fail
       exact ⟨⟨i+1,by omega,by go_num,by rw [Hstep.out,Hn.out];simpa using Hown2.out,hbw2⟩,by simp [intOf];omega⟩
   ·go_wp2_with fail
    go_ret
    obtain rfl:i=r.strips.length:=by omega
    exact ⟨_,rfl,Hown.out,hb⟩
theorem OJ (b:Nat) (r:AQ) (f:Flock) (shut:Int) (a:Option Addr) (cap:Nat) (g:Good r f) (ua:Option Addr) (uc:Nat) (use:List Bool) (hul:use.length=r.strips.length) (tt:Int):∀ (k:Nat) (p:Nat) (met:Nat) (w:World),
  met < 64→(p:Int) < r.stages→UZ met≤k→k≤5→GU w b r f shut a cap→JF w ua use →
  Calls Try.prog 102 #[.pointer (some ⟨b,0,none⟩), .slice ua r.strips.length uc, .int .i64 p, .int .i64 tt, .int .u16 met] w (Lm w (Cc r use tt k p met))
 | 0,p,met,w,hm,hp,hfr,_,hW,hU=>by
  rw [OL];refine Nq b r f shut a cap g ua uc use hul tt _ p met (by simp [ZB]) (by simp [ZB]) (fun q w hq hmq _ _ =>?_) w hm hp hW hU;have:=(Ja met hm q (by have:=g.s2;omega) hmq).1
  omega
 | k+1,p,met,w,hm,hp,hfr,hk,hW,hU=>by
  rw [OL];refine Nq b r f shut a cap g ua uc use hul tt _ p met (fun q m =>?_) (fun q m l hl =>?_) (fun q w hq hmq hW hU =>?_) w hm hp hW hU
  ·refine Nat.le_trans (KZ g.n8 k q m) (Nat.le_trans (Nat.pow_le_pow_right (n:=8) (by omega) (show k+1≤6 by omega)) (by decide))
  ·have:=(J7 k q m l hl).1;omega
  ·obtain ⟨h1,h2⟩:=Ja met hm q (by have:=g.s2;omega) hmq;exact OJ b r f shut a cap g ua uc use hul tt k q _ w h2 hq (by omega) (by omega) hW hU
end
section
open Go.RowKit
def BP (r:AQ) (o y:List Int):List Int:=if IZ r y o then y else o
def JD (r:AQ):List (List Int)→List Int
 | []=>[]
 | x :: l=>l.foldl (BP r) x
def Zb (w:World) (x:List Int) (e:Ending) (w':World):Prop:=w=w'∧∃ a c,e = .returned (.slice a x.length c)∧Aq w a x
theorem YV (w:World) (b:Nat) (r:AQ) (f:Flock) (shut:Int) (a:Option Addr) (cap:Nat) (hW:GU w b r f shut a cap) (g:Good r f) (ra:Option Addr) (rc:Nat) (L:List (List Int)) (hL:L≠[]) (hl:L.length≤rc) (hl2:L.length≤10000000)
  (hc:∀ (i:Nat) (h:i < L.length),∃ gR x la lc,ra=some ⟨gR,0,none⟩∧w.cell? ⟨gR,i,none⟩=some x∧x = .slice la L[i].length lc∧Aq w la L[i])
  (hin:∀ l∈L,l.length≤100∧∀ x∈l,0≤x∧x < r.strips.length) :
  Calls Try.prog 104 #[.slice ra L.length rc, .func (.func 105) #[.pointer (some ⟨b,0,none⟩)] #[]] w (Zb w (JD r L)):=by
 have h0:0 < L.length:=List.length_pos_iff.2 hL;obtain ⟨gR,x0,la0,lc0,hra,hc0,hx0,hi0⟩:=hc 0 h0;subst hra hx0
 have hbest:JD r L=(L.tail.drop 0).foldl (BP r) L[0]:=by
  cases L with
  | nil=>exact absurd rfl hL
  | cons x l=>rfl
 have hmem0:L[0]∈L:=List.getElem_mem h0;have HC:=Lib.hid hc;clear hc;have HIN:=Lib.hid hin;clear hin;have HW:=Lib.hid hW;clear hW;have G:=Lib.hid g;clear g;have HBest:=Lib.hid hbest;clear hbest;generalize hL0:L[0]=o0 at hc0 hi0 hmem0 HBest;clear hL0 hL;have HI0:=Lib.hid hi0;clear hi0;have Hm0:=Lib.hid hmem0;clear hmem0
 by_cases hcap:rc=1
 ·subst hcap;have hn:L.length=1:=by omega
  have hone:L.tail.drop 0=[]:=by
   have:L.tail.length=0:=by simp [hn]
   simpa using List.length_eq_zero_iff.1 this
  rw [hone] at HBest;rw [hn];clear hn hone h0 hl
  go_enter Try.func104,Try.ntmps104
  go_wp2_with fail
  go_loop [5,14] (fun v5 v14=>v5 = .slice la0 o0.length lc0∧v14 = .int .i64 0) (fun _ _=>0)
  case atStart=>exact ⟨rfl,rfl⟩
  case round =>
   obtain ⟨rfl,rfl⟩:=hrel
   go_wp2_with fail
   go_ret
   refine ⟨rfl,la0,lc0,?_,?_⟩
   ·rw [HBest.out];rfl
   ·rw [HBest.out];exact HI0.out
 ·have h1:1 < rc:=by omega
  obtain ⟨N,hN⟩:∃ N,L.length=N+1:=⟨L.length-1,by omega⟩;rw [hN];have hNrc:N+1≤rc:=by omega
  have hNb:N≤10000000:=by omega
  have HN:=Lib.hid hN;clear hN;have htl:L.tail.length=N:=by have:=HN.out;simp;omega
  have HTL:=Lib.hid htl;clear htl;clear hl hl2 h0
  go_enter Try.func104,Try.ntmps104
  go_wp2_with fail
  go_loop [5,14] (fun v5 v14=>∃ (j:Nat) (oa:Option Addr) (oc:Nat) (o:List Int),j≤N∧v14 = .int .i64 j∧v5 = .slice oa o.length oc∧Aq w oa o∧o∈L∧(L.tail.drop j).foldl (BP r) o=JD r L) (fun _ v=>N-(intOf v).toNat)
  case atStart=>exact ⟨0,la0,lc0,o0,Nat.zero_le _,rfl,rfl,HI0.out,Hm0.out,HBest.out.symm⟩
  case round =>
   clear hc0;obtain ⟨j,oa,oc,o,hj,rfl,rfl,hio,hmo,hbo⟩:=hrel;have HIO:=Lib.hid hio;clear hio;have HMO:=Lib.hid hmo;clear hmo;have HBO:=Lib.hid hbo;clear hbo
   by_cases hlt:j < N
   ·have hj1:j+1 < L.length:=by have:=HN.out;omega
    obtain ⟨gR',x,la,lc,hra,hcx,hx,hi⟩:=HC.out (j+1) hj1;simp only [Option.some.injEq,Addr.mk.injEq] at hra;obtain ⟨rfl,_⟩:=hra;subst hx
    have htd:L.tail.drop j=L[j+1] :: L.tail.drop (j+1):=by
     rw [List.drop_eq_getElem_cons (by have:=HTL.out;omega),List.getElem_tail]
    have hmx:L[j+1]∈L:=List.getElem_mem hj1;generalize hxl:L[j+1]=xl at hcx hi htd hmx;clear hxl;rw [show j+1=1+j by omega] at hcx;have HI:=Lib.hid hi;clear hi;have HTD:=Lib.hid htd;clear htd;have HMX:=Lib.hid hmx;clear hmx;obtain ⟨b1,b2⟩:=HIN.out _ HMX.out;obtain ⟨b3,b4⟩:=HIN.out _ HMO.out;have B2:=Lib.hid b2;clear b2;have B4:=Lib.hid b4;clear b4
    go_wp2_with fail
    refine (RG w b r f shut a cap HW.out G.out la oa lc oc xl o HI.out HIO.out B2.out B4.out (by omega) (by omega)).mono ?_;rintro e w' ⟨rfl,rfl⟩;have hstep:(L.tail.drop (j+1)).foldl (BP r) (BP r o xl)=JD r L:=by rw [← HBO.out,HTD.out];rfl
    have HST:=Lib.hid hstep;clear hstep
    cases hsh:IZ r xl o
    ·have hbo:BP r o xl=o:=by simp [BP,hsh]
     have HB:=Lib.hid hbo;clear hbo;have HS:=Lib.hid hsh;clear hsh
     go_wp2_with fail
     exact ⟨⟨j+1,oa,oc,o,by omega,by go_num,rfl,HIO.out,HMO.out,by rw [← HST.out,HB.out]⟩,by simp [intOf];omega⟩
    ·have hbo:BP r o xl=xl:=by simp [BP,hsh]
     have HB:=Lib.hid hbo;clear hbo;have HS:=Lib.hid hsh;clear hsh
     go_wp2_with fail
     exact ⟨⟨j+1,la,lc,xl,by omega,by go_num,rfl,HI.out,HMX.out,by rw [← HST.out,HB.out]⟩,by simp [intOf];omega⟩
   ·go_wp2_with fail
    go_ret
    have hd:L.tail.drop j=[]:=List.drop_of_length_le (by have:=HTL.out;omega);have hbo:=HBO.out;rw [hd] at hbo;exact ⟨rfl,oa,oc,by rw [← hbo];rfl,by rw [← hbo];exact HIO.out⟩
end
end Go.Proofs.Ytgdobbcjkiapkaa
