import Derived.Test.YtgdobbcjkiapkaaCh14
import Derived.Outline
import Derived.Maps.AppendAt
import Derived.Deep.CutBlock
import Derived.Test.YtgdobbcjkiapkaaCh04
import Derived.Conc.SmallLaws
namespace Go.Proofs.Ytgdobbcjkiapkaa
set_option maxRecDepth 100000
set_option maxHeartbeats 4000000
set_option linter.unusedSimpArgs false
set_option linter.unusedVariables false
section
open Go.RowKit
theorem Xc {w:World} {l:List Int}:Aq (w.alloc (.cells (l.map (Value.int .i64)).toArray 3)) (some ⟨w.heap.size,0,none⟩) l:=by
 refine .inr ⟨_,0,rfl,fun i h =>?_⟩;rw [World.cell?_alloc_at _ _ _ _ (by simp)];simp [h]
theorem AbE {r:BU} (hc:BN r=0) {l:List Int} (hl:∀ i (h:i < l.length),i % 2=1→l[i]=r.stages∨l[i]=r.days∨l[i]=r.strips.length):∀ i (h:i < l.length),i % 2=1→0≤l[i]∧l[i]≤1000:=by
 have:=Vu hc;intro i h hi;have:=hl i h hi
 omega
def FT (r:BU) (f:Flock) (i:Nat):Nat→List Int
 | 0=>[]
 | k+1=>FT r f i k++(if NJ r f (-1) i (k:Int) then [(k:Int)] else [])
theorem QU (r:BU) (f:Flock) (i:Nat):∀ k,(FT r f i k).length≤k
 | 0=>Nat.le_refl _
 | k+1=>by have:=QU r f i k;simp only [FT,List.length_append];split <;> simp <;> omega
def PU (w:World) (r:BU) (f:Flock) (strip:Int) (e:Ending) (w':World):Prop :=
 (BP r f [strip,r.strips.length]=0∧∃ v,e = .returned (.tuple #[v, .int .i64 0])∧Cc w' w.heap.size v (FT r f strip.toNat r.days.toNat)∧Below w.heap.size w w') ∨
 (BP r f [strip,r.strips.length]≠0∧e = .returned (.tuple #[.slice none 0 0, .int .i64 (BP r f [strip,r.strips.length])])∧Below w.heap.size w w')
theorem Uu (w:World) (r:BU) (f:Flock) (a:Option Addr) (cap:Nat) (hs:EH w a r.strips) (hm:r.strips.length≤maxLen) (strip:Int) :
  Calls Try.prog 94 #[.agg #[.int .i64 r.days, .int .i64 r.stages, .slice a r.strips.length cap], .agg #[.int .i64 f.heads, .int .i64 f.pace], .int .i64 strip] w (PU w r f strip):=by
 have hb0:Below w.heap.size w (((w.alloc (.cells #[.int .i64 r.days, .int .i64 r.stages, .slice a r.strips.length cap] 24)).alloc (.cells #[.int .i64 f.heads, .int .i64 f.pace] 87)).alloc (.cells #[.int .i64 strip, .int .i64 r.strips.length] 3)) :=
  (((Below.refl _ _).alloc (Nat.le_refl _) _).alloc (by simp) _).alloc (by simp;omega) _
 have hp:Aq (((w.alloc (.cells #[.int .i64 r.days, .int .i64 r.stages, .slice a r.strips.length cap] 24)).alloc (.cells #[.int .i64 f.heads, .int .i64 f.pace] 87)).alloc (.cells #[.int .i64 strip, .int .i64 r.strips.length] 3))
   (some ⟨w.heap.size+1+1,0,none⟩) [strip,r.strips.length]:=by
  have:=@Xc ((w.alloc (.cells #[.int .i64 r.days, .int .i64 r.stages, .slice a r.strips.length cap] 24)).alloc (.cells #[.int .i64 f.heads, .int .i64 f.pace] 87)) [strip,r.strips.length]
  simpa using this
 have HM:=Lib.hid hm;clear hm
 have HO:=Lib.hid (fun hc=>@AbE r hc [strip,r.strips.length] (by
  intro i h hi;simp only [List.length_cons,List.length_nil] at h;obtain rfl:i=1:=by omega
  exact .inr (.inr rfl)))
 go_enter Try.func94,Try.ntmps94
 go_wp2_with fail
 refine (Wx _ r f [strip,r.strips.length] a cap _ 2 (hs.below hb0) HM.out hp (by simp) HO.out).mono ?_;rintro e w1 (⟨hz,b,rfl,hW,hbb,_,hb1⟩ | ⟨hz,rfl,hb1⟩)
 ·obtain ⟨g,hpz⟩:=UR hz;obtain ⟨p1,p2⟩:=Aas.1 hpz;obtain ⟨k,hk⟩:=Int.eq_ofNat_of_zero_le p1;have Hz:=Lib.hid hz;clear hz hpz;subst hk;have hkl:k < r.strips.length:=by omega
  have gd1:=g.d1;have gd2:=g.d2;have hb01:=hb0.trans (hb1.mono hb0.size);have HB1:=Lib.hid hb01;clear hb0 hb1 hp hs;have HW:=Lib.hid hW;clear hW
  go_wp2_with fail
  go_loopw [10,11] (fun v10 v11 wx=>∃ d:Nat,(d:Int)≤r.days∧v11 = .int .i64 (d:Int)∧Cc wx w1.heap.size v10 (FT r f k d)∧Below w1.heap.size w1 wx) (fun _ v _=>r.days.toNat-(intOf v).toNat)
  case atStart=>exact ⟨0,by omega,rfl,Cc.nil _ _,Below.refl _ _⟩
  case round =>
   obtain ⟨d,hd,rfl,hown,hbr⟩:=hrel;have hle:=QU r f k d;have hW':=HW.out.below hbr;have c0:=hW'.c0
   by_cases hlt:(d:Int) < r.days
   ·go_wp2_with fail
    refine (open_any wr b r f (-1) a cap hW' k hkl (d:Int)).mono ?_;rintro e w2 ⟨rfl,hb2⟩;have hbr2:=hbr.trans (hb2.mono hbr.size);have hown2:=hown.below hb2
    cases hT:NJ r f (-1) k (d:Int)
    ·have he:FT r f k (d+1)=FT r f k d:=by simp [FT,hT]
     have HE:=Lib.hid he;clear he hT
     go_wp2_with fail
     exact ⟨⟨d+1,by omega,by go_num,by rw [HE.out];exact hown2,hbr2⟩,by simp [intOf];omega⟩
    ·have he:FT r f k (d+1)=FT r f k d++[(d:Int)]:=by simp [FT,hT]
     have HE:=Lib.hid he;clear he hT
     go_wp2_with (at_builtin;refine I5 rfl _ _ rfl w1.heap.size _ _ rfl hown2 _ rfl (by omega) hbr2.size ?_)
     intro v' w' hown' hbel _
     go_wp2_with fail
     exact ⟨⟨d+1,by omega,by go_num,by rw [HE.out];exact hown',hbr2.trans hbel⟩,by simp [intOf];omega⟩
   ·obtain rfl:d=r.days.toNat:=by omega
    go_wp2_with fail
    go_ret2
    exact .inl ⟨Hz.out,_,rfl,hown.mono HB1.out.size,HB1.out.trans (hbr.mono HB1.out.size)⟩
 ·have hne:(BP r f [strip,r.strips.length] != 0)=true:=by simpa using hz
  have Hz:=Lib.hid hz;clear hz
  go_wp2_with fail
  go_ret2
  exact .inr ⟨Hz.out,rfl,hb0.trans (hb1.mono hb0.size)⟩
def Nl (l:List Int) (n v:Int):Prop:=(∃ k:Nat,∃ h:k < l.length,l[k]=n∧v=(k:Int)∧∀ j (hj:j < k),l[j]≠n)∨(v = -1∧n ∉ l)
theorem Nl.neg {l:List Int} {n v:Int} (h:Nl l n v):v < 0↔n ∉ l:=by
 rcases h with ⟨k,hk,h1,h2,_⟩ | ⟨h1,h2⟩
 ·constructor
  ·intro;omega
  ·intro h;exact absurd (h1 ▸ List.getElem_mem hk) h
 ·exact ⟨fun _=>h2,fun _=>by omega⟩
set_option maxHeartbeats 2000000 in
theorem X7 (w:World) (a:Option Addr) (cap:Nat) (l:List Int) (hl:Aq w a l) (hm:l.length≤maxLen) (n:Int) :
  Calls Try.prog 64 #[.slice a l.length cap, .int .i64 n] w fun e w'=>∃ v:Int,e = .returned (.int .i64 v)∧Nl l n v∧w=w':=by
 unfold maxLen at hm;have HL:=Lib.hid hl;clear hl
 go_enter Try.func64,Try.ntmps64
 go_wp2_with fail
 go_loop [5] (fun v5=>∃ k:Nat,k≤l.length∧v5 = .int .i64 (k:Int)∧∀ j (hj:j < k) (h:j < l.length),l[j]≠n) (fun v5=>l.length-(intOf v5).toNat)
 case atStart=>exact ⟨0,Nat.zero_le _,rfl,fun j hj=>absurd hj (by omega)⟩
 case round =>
  obtain ⟨k,hk,rfl,hno⟩:=hrel;have HNO:=Lib.hid hno;clear hno
  by_cases hlt:k < l.length
  ·rcases HL.out with h0 | ⟨b,o,rfl,hc⟩
   ·rw [h0] at hlt;simp at hlt
   have c:=hc k hlt;clear hc;generalize hx:l[k]=x at c
   by_cases e:x=n
   ·subst e;have HX:=Lib.hid hx;clear hx
    go_wp2_with fail
    go_ret
    exact ⟨(k:Int),rfl, .inl ⟨k,hlt,HX.out,rfl,fun j hj=>HNO.out j hj (by omega)⟩,rfl⟩
   ·have HX:=Lib.hid hx;clear hx
    go_wp2_with fail
    go_round
    case rel =>
     refine ⟨k+1,by omega,by go_num,fun j hj h =>?_⟩
     by_cases ej:j=k
     ·subst ej;rw [HX.out];exact e
     ·exact HNO.out j (by omega) h
    case measure=>simp [intOf];omega
  ·go_wp2_with fail
   go_ret
   refine ⟨-1,rfl, .inr ⟨rfl,fun hmem =>?_⟩,rfl⟩;obtain ⟨j,hj,e⟩:=List.getElem_of_mem hmem;exact HNO.out j (by omega) hj e
def GK (r:BU) (f:Flock) (strip:Int):List Int×Int :=
 if BP r f [strip,r.strips.length]=0 then (FT r f strip.toNat r.days.toNat,0) else ([],BP r f [strip,r.strips.length])
theorem PU.val {w w':World} {r:BU} {f:Flock} {strip:Int} {e:Ending} (h:PU w r f strip e w') :
  ∃ ga gc,e = .returned (.tuple #[.slice ga (GK r f strip).1.length gc, .int .i64 (GK r f strip).2])∧Aq w' ga (GK r f strip).1∧Below w.heap.size w w':=by
 obtain ⟨h1,v,rfl,hown,hb⟩ | ⟨h1,rfl,hb⟩:=h
 ·obtain ⟨ga,gc,rfl,hi,_⟩:=hown.ints;have e:GK r f strip=(FT r f strip.toNat r.days.toNat,0):=by rw [GK,if_pos h1]
  rw [e];exact ⟨ga,gc,rfl,hi,hb⟩
 ·have e:GK r f strip=([],BP r f [strip,r.strips.length]):=by rw [GK,if_neg h1]
  rw [e];exact ⟨none,0,rfl, .inl rfl,hb⟩
end
section
open Go.RowKit
open Go.ChangeMaps (setBlock)
end
section
open Go.RowKit
def bd (f:Flock) (last d l:Int):Int:=(last+1-d)*f.pace-l
end
section
open Go.RowKit
end
section
open Go.RowKit
def Strip.cells (s:Strip):List Value:=[.int .i64 s.A, .int .i64 s.B, .int .i64 s.L, .int .i64 s.W, .int .i64 s.K, .int .i64 s.X, .int .i64 s.Y]
def X8 (w:World) (B:Nat) (v:Value) (l:List Strip):Prop:=w.ownsRow B 96 7 v l.length (l.flatMap Strip.cells)
end
section
open Go.RowKit
def wide (s:Strip):Strip:={ s with W:=max s.W 90 }
end
section
open Go.RowKit
def MJ (r:BU) (i:Int):Int:=match r.strips[i.toNat]? with | some s=>s.L | none=>0
def GG (r:BU) (way:List Int):Nat→Int
 | 0=>0
 | k+1=>GG r way k+MJ r (way.getD k 0)
def VJ (r:BU) (way:List Int):Int:=GG r way way.length
theorem MI {r:BU} {f:Flock} (g:Good r f) (i:Int):0≤MJ r i∧MJ r i≤9:=by
 unfold MJ
 cases h:r.strips[i.toNat]? with
 | none=>simp
 | some s=>have:=g.strip s (List.mem_of_getElem? h);dsimp only;omega
theorem MH {r:BU} {f:Flock} (g:Good r f) (way:List Int):∀ k,0≤GG r way k∧GG r way k≤9*k
 | 0=>by simp [GG]
 | k+1=>by have:=MH g way k;have:=MI g (way.getD k 0);simp only [GG];omega
end
section
open Go.RowKit
def chainOf (r:BU) (use:List Bool) (met:Nat) (p:Int) (i:Nat):Option Int:=match r.strips[i]? with
 | some s=>if (endOf s p).2 && use.getD i false && !met.testBit (endOf s p).1.toNat then some (endOf s p).1 else none
 | none=>none
def Eh (rec:Int→Nat→List (List Int)) (r:BU) (use:List Bool) (met:Nat) (p:Int):Nat→List (List Int)
 | 0=>[]
 | k+1=>Eh rec r use met p k++(match chainOf r use met p k with
  | some q=>(rec q (met ||| 1 <<< q.toNat)).map ((k:Int) :: ·)
  | none=>[])
def Gp (r:BU) (use:List Bool) (tt:Int):Nat→Int→Nat→List (List Int)
 | 0,p,met=>if p=tt then [[]] else Eh (fun _ _=>[]) r use met p r.strips.length
 | k+1,p,met=>if p=tt then [[]] else Eh (Gp r use tt k) r use met p r.strips.length
def Xk (met:Nat):Nat:=((List.range 6).filter fun s => !met.testBit s).length
theorem LU:∀ m < 64,∀ q < 6,m.testBit q=false→Xk (m ||| 1 <<< q) < Xk m∧(m ||| 1 <<< q) < 64:=by decide +kernel
theorem LC {r:BU} {use:List Bool} {met:Nat} {p q:Int} {i:Nat}:chainOf r use met p i=some q ↔
  ∃ s,r.strips[i]? = some s∧(endOf s p).2=true∧use.getD i false=true∧met.testBit (endOf s p).1.toNat=false∧q=(endOf s p).1:=by
 unfold chainOf
 cases h:r.strips[i]? with
 | none=>simp
 | some s =>
  simp only [Option.some.injEq,exists_eq_left',Option.ite_none_right_eq_some,Bool.and_eq_true,Bool.not_eq_true']
  constructor
  ·rintro ⟨⟨⟨h1,h2⟩,h3⟩,h4⟩;exact ⟨h1,h2,h3,h4.symm⟩
  ·rintro ⟨h1,h2,h3,h4⟩;exact ⟨⟨⟨h1,h2⟩,h3⟩,h4.symm⟩
def Aan (w:World) (B:Nat) (v x:Value) (l:List Int):Prop :=
 ∃ a cap,x = .slice a l.length cap∧(l=[]∨∃ b o,a=some ⟨b,o,none⟩∧B≤b∧v.ownBlock≠some b∧∀ (i:Nat) (h:i < l.length),w.cell? ⟨b,o+i,none⟩=some (.int .i64 l[i]))
def Rj (w:World) (B:Nat) (v:Value) (L:List (List Int)):Prop :=
 ∃ xs:List Value,w.ownsRow B 29 1 v L.length xs∧∀ (i:Nat) (h:i < L.length),∃ x,xs[i]? = some x∧Aan w B v x L[i]
theorem Rj.nil (w:World) (B:Nat):Rj w B (.slice none 0 0) []:=⟨[],World.ownsRow_nil _ _ _ _,by simp⟩
end
section
open Go.RowKit
end
section
open Go.RowKit
end
section
open Go.RowKit
structure A8 (w:World) (hb B:Nat) (a:Option Addr) (n c:Nat):Prop where
 c0:w.cell? ⟨hb,0,none⟩=some (.slice a n c)
 c1:∃ k:Nat,k≤B∧w.cell? ⟨hb,1,none⟩=some (.int .i64 k)
 c2:∃ s:Int,0≤s∧s < 18446744073709551616∧w.cell? ⟨hb,2,none⟩=some (.int .u64 s)
 f1:w.frozen? ⟨hb,1,none⟩=false
 f2:w.frozen? ⟨hb,2,none⟩=false
 nums:∃ l:List Int,l.length=n∧Aq w a l∧(l=[]∨∀ ad,a=some ad→ad.block < hb)
 len:n≤maxLen
theorem JA (a b:Int):0≤bits .xor .u64 a b∧bits .xor .u64 a b < 18446744073709551616:=by
 show 0≤IntKind.u64.wrap _∧IntKind.u64.wrap _ < _;rw [IntKind.wrap_u64];omega
theorem JW {a:Int} (h:0≤a∧a < 18446744073709551616):0≤a / 2048∧a / 2048≤9007199254740991:=by omega
theorem IU (a:Int):0≤IntKind.u64.wrap a∧IntKind.u64.wrap a < 18446744073709551616:=by rw [IntKind.wrap_u64];omega
theorem A8.QD {w w':World} {hb:Nat} {a:Option Addr} {n:Nat} (h:∃ l:List Int,l.length=n∧Aq w a l∧(l=[]∨∀ ad,a=some ad→ad.block < hb)) (hk:∀ b,b < w.heap.size→b < hb→w'.heap[b]? = w.heap[b]?) :
  ∃ l:List Int,l.length=n∧Aq w' a l∧(l=[]∨∀ ad,a=some ad→ad.block < hb):=by
 obtain ⟨l,h1,h2,h3⟩:=h;refine ⟨l,h1,?_,h3⟩;rcases h3 with h3 | h3
 ·exact .inl h3
 rcases h2 with h2 | ⟨b,o,ha,hc⟩
 ·exact .inl h2
 ·have hlt:=h3 _ ha;exact .inr ⟨b,o,ha,fun i hi=>(World.cell?_of_block (hk b (lt_of_cell (hc i hi)) hlt)).trans (hc i hi)⟩
theorem A8.keep {w w':World} {hb B:Nat} {a:Option Addr} {n c:Nat} (h:A8 w hb B a n c) (hk:∀ b,b < w.heap.size→b≤hb→w'.heap[b]? = w.heap[b]?):A8 w' hb B a n c:=by
 obtain ⟨c0,⟨k,hk1,c1⟩,⟨s,s1,s2,c2⟩,f1,f2,hnums,hn⟩:=h;have e:=hk hb (lt_of_cell c0) (Nat.le_refl _)
 exact ⟨(World.cell?_of_block e).trans c0,⟨k,hk1,(World.cell?_of_block e).trans c1⟩,⟨s,s1,s2,(World.cell?_of_block e).trans c2⟩,(World.frozen?_of_block e).trans f1,(World.frozen?_of_block e).trans f2,
  A8.QD hnums fun b h1 h2=>hk b h1 (by omega),hn⟩
theorem A8.below {w w':World} {hb B:Nat} {a:Option Addr} {n c:Nat} (h:A8 w hb B a n c) (hb':Below w.heap.size w w'):A8 w' hb B a n c:=h.keep fun b h1 _=>hb'.block b h1
theorem A8.more {w:World} {hb B B':Nat} {a:Option Addr} {n c:Nat} (h:A8 w hb B a n c) (hB:B≤B'):A8 w hb B' a n c :=
 ⟨h.c0,let ⟨k,hk,c1⟩:=h.c1;⟨k,by omega,c1⟩,h.c2,h.f1,h.f2,h.nums,h.len⟩
theorem A8.lt {w:World} {hb B:Nat} {a:Option Addr} {n c:Nat} (h:A8 w hb B a n c):hb < w.heap.size:=lt_of_cell h.c0
def Ya (w:World) (hb B:Nat) (a:Option Addr) (n c:Nat) (P:Value→Prop) (e:Ending) (w':World):Prop:=∃ v,P v∧e = .returned v∧A8 w' hb B a n c∧Ext hb w w'
theorem ML {w:World} {hb B:Nat} {a:Option Addr} {n c k:Nat} (h:A8 w hb B a n c) (hk:k≤B) (q:Nat) (s:Int) (h1:0≤s) (h2:s < 18446744073709551616) :
  A8 (((w.drewN q).setCell ⟨hb,1,none⟩ (.int .i64 ((k:Int)+1))).setCell ⟨hb,2,none⟩ (.int .u64 s)) hb (B+1) a n c∧Ext hb w (((w.drewN q).setCell ⟨hb,1,none⟩ (.int .i64 ((k:Int)+1))).setCell ⟨hb,2,none⟩ (.int .u64 s)):=by
 obtain ⟨c0,⟨k',hk',c1⟩,⟨s',_,_,c2⟩,f1,f2,hnums,hn⟩:=h
 have ho:∀ b,b≠hb→(((w.drewN q).setCell ⟨hb,1,none⟩ (.int .i64 ((k:Int)+1))).setCell ⟨hb,2,none⟩ (.int .u64 s)).heap[b]? = w.heap[b]?:=fun b hne=>by
  rw [Below.heap_setCell _ ⟨hb,2,none⟩ _ b hne,Below.heap_setCell _ ⟨hb,1,none⟩ _ b hne];simp
 refine ⟨⟨?_,⟨k+1,by omega,?_⟩,⟨s,h1,h2,?_⟩,?_,?_,A8.QD hnums fun b _ hb'=>ho b (by omega),hn⟩,⟨(below_drewN (Below.refl 0 w) q).os,(below_drewN (Below.refl 0 w) q).tape,(below_drewN (Below.refl 0 w) q).output,by simp,fun b _ hne=>ho b hne⟩⟩
 ·rw [World.cell?_setCell_other _ _ _ _ (by simp),World.cell?_setCell_other _ _ _ _ (by simp)];simpa using c0
 ·rw [World.cell?_setCell_other _ _ _ _ (by simp)];exact World.cell?_setCell_same _ _ _ (u := .int .i64 k') (by simpa using c1)
 ·exact World.cell?_setCell_same _ _ _ (u := .int .u64 s') (by rw [World.cell?_setCell_other _ _ _ _ (by simp)];simpa using c2)
 ·rw [World.frozen?_setCell,World.frozen?_setCell];simpa using f1
 ·rw [World.frozen?_setCell,World.frozen?_setCell];simpa using f2
theorem Yp (w:World) (hb B:Nat) (a:Option Addr) (n c:Nat) (h:A8 w hb B a n c) (hB:B≤1000000) :
  Calls Try.prog 62 #[.pointer (some ⟨hb,0,none⟩)] w (Ya w hb (B+1) a n c fun v=>∃ x:Int,0≤x∧x≤9007199254740991∧v = .int .u64 x):=by
 have H:=Lib.hid h;obtain ⟨c0,⟨k,hk,c1⟩,⟨s,s1,s2,c2⟩,f1,f2,hnums,hn⟩:=h;have HN:=Lib.hid hnums;clear hnums;unfold maxLen at hn
 by_cases hlt:k < n
 ·obtain ⟨l,hl1,hl2,hl3⟩:=HN.out;have hlt':decide ((k:Int) < (n:Int))=true:=decide_eq_true (by omega);have hkl:k < l.length:=by omega
  rcases hl2 with hz | ⟨b,o,rfl,hc⟩
  ·rw [hz] at hkl;simp at hkl
  have hx:=hc k hkl;generalize l[k]=x at hx;have q1:(0:Int)≤(k:Int):=by omega
  have q2:(k:Int) < (n:Int):=by omega
  clear hl1 hl3 hkl hc
  go_enter Try.func62,Try.ntmps62
  go_wp2_with fail
  go_quiet (fail)
  go_wp2_with fail
  go_quiet (fail)
  go_wp2_with fail
  go_ret
  obtain ⟨h1,h2⟩:=ML H.out hk _ _ (IU _).1 (IU _).2;exact ⟨_,⟨_,(JW (JA _ _)).1,(JW (JA _ _)).2,rfl⟩,rfl,h1,h2⟩
 ·have hlt':decide ((k:Int) < (n:Int))=false:=decide_eq_false (by omega)
  go_enter Try.func62,Try.ntmps62
  go_wp2_with fail
  go_quiet (fail)
  go_wp2_with fail
  go_ret
  obtain ⟨h1,h2⟩:=ML H.out hk _ _ (IU _).1 (IU _).2;exact ⟨_,⟨_,(JW (JA _ _)).1,(JW (JA _ _)).2,rfl⟩,rfl,h1,h2⟩
set_option maxHeartbeats 2000000 in
theorem CX (w:World) (hb B:Nat) (a:Option Addr) (n c:Nat) (h:A8 w hb B a n c) (hB:B≤1000000) (most:Int) (hm1 : -1000000≤most) (hm2:most≤1000000) :
  Calls Try.prog 21 #[.pointer (some ⟨hb,0,none⟩), .int .i64 most] w (Ya w hb (B+1) a n c fun v=>∃ x:Int,0≤x∧x≤max most 0∧v = .int .i64 x):=by
 have H:=Lib.hid h;clear h
 by_cases hm:most≤0
 ·go_enter Try.func21,Try.ntmps21
  go_wp2_with fail
  go_ret
  exact ⟨_,⟨0,by omega,by omega,rfl⟩,rfl,H.out.more (by omega),Ext.refl _ _⟩
 ·go_enter Try.func21,Try.ntmps21
  go_wp2_with fail
  refine (Yp w hb B a n c H.out hB).mono ?_;rintro e w1 ⟨_,⟨x,x1,x2,rfl⟩,rfl,hh,hE⟩;have HH:=Lib.hid hh;clear hh;have HE:=Lib.hid hE;clear hE
  go_wp2_with fail
  go_ret
  have r1:0≤x % (most+1):=Int.emod_nonneg _ (by omega);have r2:x % (most+1) < most+1:=Int.emod_lt_of_pos _ (by omega);exact ⟨_,⟨wrap64 (x % (most+1)),by unfold wrap64;omega,by unfold wrap64;omega,rfl⟩,rfl,HH.out,HE.out⟩
set_option maxHeartbeats 2000000 in
theorem Dx (w:World) (hb B:Nat) (a:Option Addr) (n c:Nat) (h:A8 w hb B a n c) (hB:B≤1000000) (least most:Int) (h1 : -1000≤least) (h2:least≤1000) (h3 : -1000≤most) (h4:most≤1000) :
  Calls Try.prog 44 #[.pointer (some ⟨hb,0,none⟩), .int .i64 least, .int .i64 most] w (Ya w hb (B+1) a n c fun v=>∃ x:Int,least≤x∧x≤max most least∧v = .int .i64 x):=by
 have H:=Lib.hid h;clear h
 go_enter Try.func44,Try.ntmps44
 go_wp2_with fail
 refine (CX w hb B a n c H.out hB (most-least) (by omega) (by omega)).mono ?_;rintro e w1 ⟨_,⟨x,x1,x2,rfl⟩,rfl,hh,hE⟩;have HH:=Lib.hid hh;clear hh;have HE:=Lib.hid hE;clear hE;have x3:x≤2000:=by omega
 go_wp2_with fail
 go_ret
 exact ⟨_,⟨least+x,by omega,by omega,rfl⟩,rfl,HH.out,HE.out⟩
set_option maxHeartbeats 2000000 in
theorem LK (w:World) (hb B:Nat) (a:Option Addr) (n c:Nat) (h:A8 w hb B a n c) (hB:B≤1000000) (first:Int) (oa:Option Addr) (oc:Nat) (l:List Int) (hl:Aq w oa l) (ho:∀ ad,oa=some ad→ad.block≠hb) (hlen:l.length≤100) :
  Calls Try.prog 60 #[.pointer (some ⟨hb,0,none⟩), .int .i64 first, .slice oa l.length oc] w (Ya w hb (B+1) a n c fun v=>∃ x:Int,x∈first :: l∧v = .int .i64 x):=by
 have H:=Lib.hid h;clear h;have HL:=Lib.hid hl;clear hl;have HO:=Lib.hid ho;clear ho
 go_enter Try.func60,Try.ntmps60
 go_wp2_with fail
 refine (CX w hb B a n c H.out hB l.length (by omega) (by omega)).mono ?_;rintro e w1 ⟨_,⟨x,x1,x2,rfl⟩,rfl,hh,hE⟩;have HH:=Lib.hid hh;clear hh
 by_cases hx:0 < x
 ·obtain ⟨k,hk⟩:∃ k:Nat,x=(k:Int)+1:=⟨(x-1).toNat,by omega⟩;have hkl:k < l.length:=by omega
  rcases HL.out with hz | ⟨b,o,hoa,hc⟩
  ·rw [hz] at hkl;simp at hkl
  have hck:=hc k hkl;have hne:=HO.out _ hoa;have hc1:=(World.cell?_of_block (hE.block b (lt_of_cell hck) hne)).trans hck;have hmem:l[k]∈first :: l:=List.mem_cons_of_mem _ (List.getElem_mem hkl)
  generalize l[k]=y at hc1 hmem;have HM:=Lib.hid hmem;clear hmem hck hc;have HE:=Lib.hid hE;clear hE;subst hk hoa;have q1:(k:Int) < (l.length:Int):=by omega
  go_wp2_with fail
  go_ret
  exact ⟨_,⟨y,HM.out,rfl⟩,rfl,HH.out,HE.out⟩
 ·have HE:=Lib.hid hE;clear hE
  go_wp2_with fail
  go_ret
  exact ⟨_,⟨first,by simp,rfl⟩,rfl,HH.out,HE.out⟩
end
section
open Go.RowKit
def KQ (D S:Int) (s:Strip):Prop:=0≤s.A∧s.A < S∧0≤s.B∧s.B < S∧s.A≠s.B∧1≤s.L∧s.L≤9∧1≤s.W∧s.W≤99 ∧
  ((s.K=1∧s.X=0∧s.Y=0)∨(s.K=2∧0≤s.X∧s.X≤s.Y∧s.Y < D)∨(s.K=3∧0≤s.X∧s.X≤20∧-5≤s.Y∧s.Y≤5)∨(s.K=4∧1≤s.X∧s.X≤40∧s.Y=0))
end
section
open Go Go.Conc
open Go.RowKit
theorem Sl.AaH {n:Nat} (x y:Value) (hn:2≤n):Sl (⟨#[x,y]++Array.replicate (n-2) undef,[]⟩:Act) n [(0,x),(1,y)]:=by
 refine ⟨by simp;omega,rfl,fun t v h =>?_⟩;rw [List.lookup_cons] at h
 by_cases e:t=0
 ·subst e;simp at h;rw [h,Array.getElem?_append_left (by simp)];rfl
 ·have e2:(t == 0)=false:=by simpa using e
  rw [e2,List.lookup_cons] at h
  by_cases e3:t=1
  ·subst e3;simp at h;rw [h,Array.getElem?_append_left (by simp)];rfl
  ·have e4:(t == 1)=false:=by simpa using e3
   rw [e4] at h;simp at h
section
variable {P:Program} {M:Machine} {Safe:Obj→Prop} {c:Nat} {fn:FuncId} {Q:Exit→Act→World→List Value→Nat→Prop} {a:Act} {w:World} {L:List Value} {K:Nat}
theorem Sl.goP {ops:Array Oper} {rest:List Nat} {n:Nat} {m:List (Nat×Value)} {d:Nat} {v:Value} (h:Sl a n m) (hd:d < n) (hG:∀ a',Sl a' n ((d,v) :: m)→PV P M Safe c fn ops rest Q a' w L K):PV P M Safe c fn ops rest Q (a.put (some d) v) w L K:=hG _ (h.put d v hd)
end
section
variable {P:Program} {main:Bool} {R:World→World→Prop} {D:World→World→Array Event→Prop} {fn:FuncId} {Q:Exit→Act→World→Prop} {a:Act} {w:World}
theorem Sl.goC {ops:Array Oper} {rest:List Nat} {k n:Nat} {m:List (Nat×Value)} {d:Nat} {v:Value} (h:Sl a n m) (hd:d < n) (hG:∀ a',Sl a' n ((d,v) :: m)→OpsC P main R D fn ops rest k Q a' w):OpsC P main R D fn ops rest k Q (a.put (some d) v) w:=hG _ (h.put d v hd)
end
theorem DU (w:World) (o:Obj) (k:Nat):(w.alloc o).heap[k]? = if k=w.heap.size then some o else w.heap[k]?:=by
 show (w.heap.push o)[k]? = _;rw [Array.getElem?_push]
def AP:Obj→Prop:=fun o=>∃ cs fz,o = .cells cs 69 fz
theorem Aav (w:World):(Instr.makeChan 141 (.int .i64 0)).run Try.prog w = .ok (.chan (some w.heap.size)) (w.alloc (.chan 0 #[] false 0 0 false)):=by
 obtain ⟨i,hi,hb⟩:∃ i,Try.prog.info? 143=some i∧i.bytes=16:=by
  have h:(Try.prog.info? 143).map (·.bytes)=some 16:=by kernel_rfl
  obtain ⟨i,hi,hb⟩:=Option.map_eq_some_iff.1 h;exact ⟨i,hi,hb⟩
 simpa using run_makeChan (P:=Try.prog) (w:=w) Try.underlying141 hi .i64 0 (by omega) (by rw [hb];omega)
theorem Xw:Try.f78.body=some (Code.seq (Aa Try.f78 0) (Code.seq (Aa Try.f78 1) (Code.seq (Code.seq (Aa Try.f78 2) (Code.block 0 (Code.loop (Code.seq (Aa Try.f78 3) (Code.seq (Code.cond (Operand.tmp 17) Code.skip (Code.exit 0)) (Code.seq (Code.block 1 (Code.seq (Aa Try.f78 4) (Aa Try.f78 5))) (Aa Try.f78 6)))))))
  (Code.seq (Aa Try.f78 7) (Code.seq (Code.seq (Aa Try.f78 8) (Code.block 2 (Code.loop (Code.seq (Aa Try.f78 9) (Code.seq (Code.cond (Operand.tmp 35) Code.skip (Code.exit 2)) (Code.seq (Code.block 3 (Code.seq (Aa Try.f78 10) (Aa Try.f78 11))) (Aa Try.f78 12))))))) (Code.seq (Aa Try.f78 13) Code.ret)))))):=by kernel_rfl
theorem Aaa {Q:Exit→Act→World→Prop} (w:World) (bd:Nat) (fc:FuncId) (first cap:Array Value) (a:Act) (Z:Sl a 46 [(0, .pointer (some ⟨bd,0,none⟩)),(1, .func (.func fc) first cap)])
  (hQ:∀ a' w',Sl a' 46 [(0, .pointer (some ⟨bd,0,none⟩)),(3, .pointer (some ⟨w.heap.size,0,none⟩))]→w'=w.alloc (.cells #[.func (.func fc) first cap] 35)→Q .normal a' w') :
  (Aa Try.f78 0).wp Try.prog Q a w:=by
 refine wr ?_;refine og fun K hK =>?_
 have e1:=Z.g 1;unfold Oper.wp;go_simp;refine hK _ _ ?_;clear hK e1;refine Z.go (by decide) ?_;clear Z;intro a1 Z;refine og fun K hK =>?_
 unfold Oper.wp;go_simp;refine hK _ _ ?_;clear hK;refine Z.go (by decide) ?_;clear Z;intro a1 Z;refine od ?_;exact hQ _ _ Z.sb rfl
theorem Z9 {Q:Exit→Act→World→Prop} (w:World) (bd:Nat) (fc:FuncId) (first cap:Array Value) (a:Act) (wx:World) (hwx:wx=w.alloc (.cells #[.func (.func fc) first cap] 35)) (Z:Sl a 46 [(0, .pointer (some ⟨bd,0,none⟩)),(3, .pointer (some ⟨w.heap.size,0,none⟩))])
  (hQ:∀ a' w',Sl a' 46 [(0, .pointer (some ⟨bd,0,none⟩)),(3, .pointer (some ⟨w.heap.size,0,none⟩)),(5, .pointer (some ⟨w.heap.size+2,0,none⟩))]→Below w.heap.size w w'→w'.heap[w.heap.size]? = some (.cells #[.func (.func fc) first cap] 35 (0,0))→w'.heap[w.heap.size+1]? = some (.chan 0 #[] false 0 0 false) →
   w'.heap[w.heap.size+2]? = some (.cells #[.chan (some (w.heap.size+1))] 141 (0,0))→w'.heap.size=w.heap.size+3→Q .normal a' w') :
  (Aa Try.f78 1).wp Try.prog Q a wx:=by
 subst hwx;refine wr ?_;refine og fun K hK =>?_
 unfold Oper.wp;go_simp;rw [Aav];go_simp;refine hK _ _ ?_;clear hK;refine Z.go (by decide) ?_;clear Z;intro a1 Z;refine og fun K hK =>?_
 unfold Oper.wp;go_simp;refine hK _ _ ?_;clear hK;refine Z.go (by decide) ?_;clear Z;intro a1 Z;refine og fun K hK =>?_
 have e5:=Z.g 5;have e9:=Z.g 9;unfold Oper.wp;go_simp;refine hK _ _ ?_;clear hK;refine od ?_;refine hQ _ _ ?_ ?_ ?_ ?_ ?_ ?_
 ·exact Z.sb
 ·exact (((Below.refl _ w).alloc (Nat.le_refl _) _).alloc (by simp) _).alloc (by simp;omega) _
 ·rw [DU,DU,DU,if_neg (by simp;omega),if_neg (by simp),if_pos rfl]
 ·rw [DU,DU,if_neg (by simp),if_pos (by simp)]
 ·rw [DU,if_pos (by simp)]
 ·simp
theorem JG {P:Program} {a:Act} {w:World} {o:Oper} {x:Operand} {f:FuncId} {first cap:Array Value} {F:Func} {args:Array Operand} {ats:Array TypeId} (hop:o.op = .call { callee := .value x,args,argTypes:=ats }) (hx:a.eval x = .func (.func f) first cap)
  (hf:P.funcs[f]? = some F) (hname:(F.name == "runtime.NumGoroutine")=false) (hb:F.body.isNone=false):(execOp a.eval o).run P w = .ok (.enter f (first++args.map a.eval++cap)) w:=by
 have h1:¬ F.name = "runtime.NumGoroutine" := by simpa using hname
 have h2:¬ F.body=none:=by cases hx:F.body <;> simp_all
 unfold execOp;simp [hop,resolve,Deferred.ofValue,invoke,callFunc,hf,h1,h2,hx]
theorem Lp {P:Program} {a:Act} {w:World} {o:Oper} {x:Operand} {f:FuncId} {first cap:Array Value} {F:Func} {args:Array Operand} {ats:Array TypeId} (hop:o.op = .call { callee := .value x,args,argTypes:=ats }) (hx:a.eval x = .func (.func f) first cap)
  (hf:P.funcs[f]? = some F) (hname:(F.name == "runtime.NumGoroutine")=false) (hb:F.body.isNone=false) (es:Array Event):(execOp a.eval o).events P w es=es:=by
 have h1:¬ F.name = "runtime.NumGoroutine" := by simpa using hname
 have h2:¬ F.body=none:=by cases hx:F.body <;> simp_all
 unfold execOp;simp [hop,resolve,Deferred.ofValue,invoke,callFunc,hf,h1,h2,hx]
noncomputable def bot:Frame:={ (default:Frame) with fn:=Try.prog.funcs.size,defers:=[],mode := .panicking [goexitEntry] }
noncomputable def baseD (f:FuncId):Frame:={ (default:Frame) with fn:=f,kind := .deferred }
theorem Vq:Try.f110.body=some (Aa Try.f110 0):=by kernel_rfl
theorem born_step (x y z:Value) (w:World):stepG Try.prog false (born Try.prog { target := .fn (.func 110) #[x,y,z],args:=#[] }) w =
  .go (G ((baseD 110).at ⟨#[x,y,z,undef,undef,undef,undef,undef,undef],[]⟩ [.code (Aa Try.f110 0)]) [bot]) w #[]:=by
 have hn:¬ Try.f110.name = "runtime.NumGoroutine" := by
  have:(Try.f110.name == "runtime.NumGoroutine")=false:=by kernel_rfl
  simpa using this
 simp [hn,Try.ntmps110,born,stepG,unwind,callDeferred,invoke,callFunc,Try.func110,Vq,seen,GStep.after,G,Frame.enter,Frame.at,baseD,bot]
theorem quitsTail (T:Array Value):QuitsD Try.prog 2 0 (G { (baseD 110).at ⟨T,[]⟩ [] with mode := .returning } [bot]):=by
 refine QuitsD.ctl (g':=G bot []) rfl (fun w =>?_) ?_
 ·simp [G,stepG,unwind,doReturn,results,Frame.at,baseD,bot,Try.func110,Try.results110,seen,GStep.after,goexitEntry]
 refine QuitsD.ctl (g':={ G bot [] with status := .finished }) rfl (fun w =>?_) ⟨rfl,rfl⟩;simp [G,stepG,unwind,bot,goexitEntry,Frame.catches]
 rfl
theorem Ym (a:Act) (hd:a.defers=[]) (ops:Array Oper) (ho:(ops[6]?).bind (·.dst)=none):QuitsD Try.prog 4 0 (Conc.served (G ((baseD 110).at a [.inRegion ops [6]]) [bot]) undef):=by
 have e:Conc.served (G ((baseD 110).at a [.inRegion ops [6]]) [bot]) undef=G ((baseD 110).at a [.inRegion ops []]) [bot]:=by
  have hfin:=Frame.finish_at (baseD 110) a ops 6 [] [] undef;rw [ho] at hfin;unfold Conc.served G;simp only [hfin]
  rfl
 rw [e];obtain ⟨T,ds⟩:=a;obtain rfl:ds=[]:=hd;refine QuitsD.ctl rfl (fun w=>stepG_region_end) ?_;refine QuitsD.ctl rfl (fun w=>stepG_end) ?_;exact quitsTail _
theorem BO {w:World} {b o:Nat} {cs:Array Value} {ty:TypeId} {fz:Nat×Nat} {v:Value} (h:w.heap[b]? = some (.cells cs ty fz)) (ho:cs[o]? = some v):w.cell? ⟨b,o,none⟩=some v:=by simp [World.cell?,h,ho]
theorem D7 {o:Oper} {d:Nat} (h:(waits o).contains d=true):d∈waits o:=by simpa using h
theorem AO.row {Safe:Obj→Prop} {c N:Nat} {w w₁:World} (h:AO Safe c N w w₁) {b:Nat} {o:Obj} (ho:w.heap[b]? = some o) (hb:b < N) (hc:b≠c):w₁.heap[b]? = some o :=
 (h.block b (lt_of_some ho) (.inl ⟨hb,hc⟩)).trans ho
theorem DX {Safe:Obj→Prop} {c N:Nat} {w:World} {b o:Nat} (hb:b < w.heap.size) (hf:PT Safe c N w b):∀ x,(MemAct.ofEvent ⟨.cell ⟨b,o,none⟩,false,false⟩).touch? = some x→∀ b',blk x.loc=some b'→x.write=false∧b' < w.heap.size∧PT Safe c N w b':=by
 intro x hx b' hb';simp [MemAct.ofEvent,MemAct.touch?] at hx;subst hx;simp [blk] at hb';subst hb';exact ⟨rfl,hb,hf⟩
theorem Aby {c N mf:Nat} {w:World} {i v:Int} {fc:FuncId} {first cap:Array Value} (a:Act) (fn:FuncId)
  (hcall:∀ w₁,AO AP c N w w₁→CallsC Try.prog false (AO AP c N) (Bo AP c N) fc (first++#[.int .i64 i]++cap) mf w₁ (fun x w'=>x = .int .i64 v∧AO AP c N w₁ w'))
 (ops:Array Oper) (o:Oper) (h4:ops[4]? = some o) (hgd:o.guard=none) (hr:∀ w,(execOp a.eval o).run Try.prog w = .ok (.enter fc (first++#[.int .i64 i]++cap)) w∧listed Try.prog fn a o w = #[]):OpN Try.prog false (AO AP c N) (Bo AP c N) fn ops 4 (mf+3) (fun a' w'=>AO AP c N w w'∧∃ x,a'=a.put o.dst x∧x = .int .i64 v) a w:=by
 have hcl:=hcall w (AO.refl w);exact WP Ag h4 hgd hr hcl (fun x w' hx=>⟨hx.2,_,rfl,hx.1⟩)
theorem Abc {w:World} {i:Int} {fc:FuncId} {F:Func} {first cap:Array Value} (a:Act)
  (hF:Try.prog.funcs[fc]? = some F) (hname:(F.name == "runtime.NumGoroutine")=false) (hbody:F.body.isNone=false)
  (E5:a.eval (.tmp 5) = .func (.func fc) first cap) (E6:a.eval (.tmp 6) = .int .i64 i)
 (o:Oper) (hop:o.op = .call { callee := .value (.tmp 5),args:=#[.tmp 6],argTypes:=#[3] }):(execOp a.eval o).run Try.prog w = .ok (.enter fc (first++#[.int .i64 i]++cap)) w:=by
 have h:=JG (P:=Try.prog) (w:=w) hop E5 hF hname hbody;rw [h,List.map_toArray,List.map_cons,List.map_nil,E6]
theorem Abb {w:World} {fn:FuncId} {fc:FuncId} {F:Func} {first cap:Array Value} (a:Act)
  (hF:Try.prog.funcs[fc]? = some F) (hname:(F.name == "runtime.NumGoroutine")=false) (hbody:F.body.isNone=false)
  (E5:a.eval (.tmp 5) = .func (.func fc) first cap)
 (o:Oper) (hop:o.op = .call { callee := .value (.tmp 5),args:=#[.tmp 6],argTypes:=#[3] }):listed Try.prog fn a o w = #[]:=listed_nil (Lp (P:=Try.prog) hop E5 hF hname hbody #[])
theorem Vp {c N mf:Nat} {w:World} {bs bo bc:Nat} {i v:Int} {fc:FuncId} {F:Func} {first cap:Array Value}
  (hs:w.heap[bs]? = some (.cells #[.chan (some c)] 141 (0,0))) (hsN:bs < N) (hsc:bs≠c) (ho:w.heap[bo]? = some (.cells #[.int .i64 i] 3 (0,0))) (hoN:bo < N) (hoc:bo≠c)
  (hf:w.heap[bc]? = some (.cells #[.func (.func fc) first cap] 35 (0,0))) (hfN:bc < N) (hfc:bc≠c)
  (hF:Try.prog.funcs[fc]? = some F) (hname:(F.name == "runtime.NumGoroutine")=false) (hbody:F.body.isNone=false)
  (hcall:∀ w₁,AO AP c N w w₁→CallsC Try.prog false (AO AP c N) (Bo AP c N) fc (first++#[.int .i64 i]++cap) mf w₁ (fun x w'=>x = .int .i64 v∧AO AP c N w₁ w')) :
  Goes Try.prog false (AO AP c N) (Bo AP c N) (Rk Try.prog AP c N (.agg #[.int .i64 i, .int .i64 v])) (7*(mf+3)+2)
   (born Try.prog { target := .fn (.func 110) #[.pointer (some ⟨bs,0,none⟩), .pointer (some ⟨bo,0,none⟩), .pointer (some ⟨bc,0,none⟩)],args:=#[] }) w:=by
 refine Goes.step rfl fun w₁ h₁ =>?_
 rw [born_step];refine ⟨Bo.idle _,?_⟩;have hs':=h₁.row hs hsN hsc;have ho':=h₁.row ho hoN hoc;have hf':=h₁.row hf hfN hfc;have hcall':∀ w₂,AO AP c N w₁ w₂→CallsC Try.prog false (AO AP c N) (Bo AP c N) fc (first++#[.int .i64 i]++cap) mf w₂ (fun x w'=>x = .int .i64 v∧AO AP c N w₂ w'):=fun w₂ h₂=>hcall w₂ (h₁.trans h₂)
 clear hs ho hf hcall h₁;revert hs' ho' hf' hcall';generalize w₁=w;intro hs ho hf hcall;rw [show Aa Try.f110 0=Code.region 0 _ true from rfl]
 have Z:Sl (⟨#[.pointer (some ⟨bs,0,none⟩), .pointer (some ⟨bo,0,none⟩), .pointer (some ⟨bc,0,none⟩),undef,undef,undef,undef,undef,undef],[]⟩:Act) 9 [(0, .pointer (some ⟨bs,0,none⟩)),(1, .pointer (some ⟨bo,0,none⟩)),(2, .pointer (some ⟨bc,0,none⟩))] :=
  ((Sl.nil ⟨rfl,rfl,fun t v hv=>by simp at hv⟩ (m:=[])).cons (t:=2) rfl |>.cons (t:=1) rfl).cons (t:=0) rfl
 have hread:∀ (bb:Nat) (ob:Obj),w.heap[bb]? = some ob→bb < N→bb≠c→∀ w₂,AO AP c N w w₂→∀ x,(MemAct.ofEvent ⟨.cell ⟨bb,0,none⟩,false,false⟩).touch? = some x→∀ b',blk x.loc=some b'→x.write=false∧b' < w₂.heap.size∧PT AP c N w₂ b' :=
  fun bb ob h1 h2 h3 w₂ h=>DX (Nat.lt_of_lt_of_le (lt_of_some h1) h.size) (.inl ⟨h2,h3⟩)
 refine QP (B:=mf+3) (fn:=110) (by kernel_rfl) Ag MG Aab (z:=6) rfl (by kernel_rfl) Z [some 3,some 4,some 5,some 6,some 7,some 8,none] rfl rfl (by kernel_rfl)
  (fun j x=>match j with | 0=>x = .chan (some c) | 1=>x = .int .i64 i | 2=>x = .func (.func fc) first cap | 3=>x = .int .i64 i | 4=>x = .int .i64 v | 5=>x = .agg #[.int .i64 i, .int .i64 v] | _=>True) rfl (by simp [baseD]) ?_ ?_
 ·clear Z;intro k o hk ho' L a hLk Z hsc' hd;have hlt:∀ k:Nat,k < 6→k=0∨k=1∨k=2∨k=3∨k=4∨k=5:=by decide
  rcases hlt k hk with rfl | rfl | rfl | rfl | rfl | rfl
  ·obtain rfl:=Option.some.inj ho';have e0:=Z.g 0;clear hsc' hd;refine (AX (.chan (some c)) rfl rfl (fun w₂ h₂ =>?_) (fun w₂ h₂=>⟨h₂,_,rfl,rfl⟩)).more (by omega);have hc:=BO (o:=0) (h₂.row hs hsN hsc) rfl;refine ⟨run_eq_of (fun K hK =>?_),Bo.still ?_⟩
   ·go_simp;exact hK
   ·have hr:=hread _ _ hs hsN hsc w₂ h₂
    co_evs (exact hr)
  ·obtain rfl:=Option.some.inj ho';have e1:=Z.g 1;clear hsc' hd;refine (AX (.int .i64 i) rfl rfl (fun w₂ h₂ =>?_) (fun w₂ h₂=>⟨h₂,_,rfl,rfl⟩)).more (by omega);have hc:=BO (o:=0) (h₂.row ho hoN hoc) rfl;refine ⟨run_eq_of (fun K hK =>?_),Bo.still ?_⟩
   ·go_simp;exact hK
   ·have hr:=hread _ _ ho hoN hoc w₂ h₂
    co_evs (exact hr)
  ·obtain rfl:=Option.some.inj ho';have e2:=Z.g 2;clear hsc' hd;refine (AX (.func (.func fc) first cap) rfl rfl (fun w₂ h₂ =>?_) (fun w₂ h₂=>⟨h₂,_,rfl,rfl⟩)).more (by omega);have hc:=BO (o:=0) (h₂.row hf hfN hfc) rfl;refine ⟨run_eq_of (fun K hK =>?_),Bo.still ?_⟩
   ·go_simp;exact hK
   ·have hr:=hread _ _ hf hfN hfc w₂ h₂
    co_evs (exact hr)
  ·obtain rfl:=Option.some.inj ho';have e1:=Z.g 1;clear hsc' hd;refine (AX (.int .i64 i) rfl rfl (fun w₂ h₂ =>?_) (fun w₂ h₂=>⟨h₂,_,rfl,rfl⟩)).more (by omega);have hc:=BO (o:=0) (h₂.row ho hoN hoc) rfl;refine ⟨run_eq_of (fun K hK =>?_),Bo.still ?_⟩
   ·go_simp;exact hK
   ·have hr:=hread _ _ ho hoN hoc w₂ h₂
    co_evs (exact hr)
  ·obtain rfl:=Option.some.inj ho';obtain ⟨v5,e5,hv5⟩:=hsc' 2 _ 5 rfl rfl (hd 2 wm);obtain rfl:=hv5;obtain ⟨v6,e6,hv6⟩:=hsc' 3 _ 6 rfl rfl (hd 3 wm);obtain rfl:=hv6;clear hsc' hd;have E5:a.eval (.tmp 5) = .func (.func fc) first cap:=by simp [Act.eval,Array.getD_eq_getD_getElem?,e5]
   have E6:a.eval (.tmp 6) = .int .i64 i:=by simp [Act.eval,Array.getD_eq_getD_getElem?,e6]
   exact Aby a _ hcall _ _ rfl rfl (fun w₂=>⟨Abc a hF hname hbody E5 E6 _ rfl,Abb a hF hname hbody E5 _ rfl⟩)
  ·obtain rfl:=Option.some.inj ho';obtain ⟨v4,e4,hv4⟩:=hsc' 1 _ 4 rfl rfl (hd 1 wm);obtain rfl:=hv4;obtain ⟨v7,e7,hv7⟩:=hsc' 4 _ 7 rfl rfl (hd 4 wm);obtain rfl:=hv7;clear hsc' hd;refine (AX (.agg #[.int .i64 i, .int .i64 v]) rfl rfl (fun w₂ h₂ =>?_) (fun w₂ h₂=>⟨h₂,_,rfl,rfl⟩)).more (by omega);exact oq
 ·intro a w' hr hsl' hd';obtain ⟨v3,e3,hv3⟩:=hd' 0 _ 3 (by omega) rfl rfl;obtain rfl:=hv3;obtain ⟨v8,e8,hv8⟩:=hd' 5 _ 8 (by omega) rfl rfl;obtain rfl:=hv8;clear hd';refine fun w₂ h₂=>⟨rfl,_, .tuple #[],_,4,stepG_comm rfl (by rfl) (by simp [baseD]) ?_,?_,?_⟩
  ·simp [execOp,scase,Act.eval,Array.getD_eq_getD_getElem?,e3,e8]
  ·rw [listed_nil (by simp [go_sem,execOp,Act.eval,Array.getD_eq_getD_getElem?,e3,e8])];exact Bo.idle _
  ·exact Ym _ hsl'.defers _ rfl
end
end Go.Proofs.Ytgdobbcjkiapkaa
