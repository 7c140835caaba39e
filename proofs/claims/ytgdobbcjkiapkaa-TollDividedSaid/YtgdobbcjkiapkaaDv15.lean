import Derived.Test.YtgdobbcjkiapkaaDv14
import Derived.Outline
import Derived.Deep.CutBlock
import Derived.Test.YtgdobbcjkiapkaaDv04
import Derived.Conc.SmallLaws
namespace Go.Proofs.Ytgdobbcjkiapkaa
set_option maxRecDepth 100000
set_option maxHeartbeats 4000000
set_option linter.unusedSimpArgs false
set_option linter.unusedVariables false
section
open Go.RowKit
theorem WP {w:World} {l:List Int}:AX (w.alloc (.cells (l.map (Value.int .i64)).toArray 3)) (some ⟨w.heap.size,0,none⟩) l:=by
 refine .inr ⟨_,0,rfl,fun i h =>?_⟩;rw [World.cell?_alloc_at _ _ _ _ (by simp)];simp [h]
theorem Abh {r:D9} (hc:BP r=0) {l:List Int} (hl:∀ i (h:i < l.length),i % 2=1→l[i]=r.stages∨l[i]=r.days∨l[i]=r.strips.length):∀ i (h:i < l.length),i % 2=1→0≤l[i]∧l[i]≤1000:=by
 have:=Vj hc;intro i h hi;have:=hl i h hi
 omega
def G6 (r:D9) (f:Flock) (i:Nat):Nat→List Int
 | 0=>[]
 | k+1=>G6 r f i k++(if Sj r f (-1) i (k:Int) then [(k:Int)] else [])
theorem QQ (r:D9) (f:Flock) (i:Nat):∀ k,(G6 r f i k).length≤k
 | 0=>Nat.le_refl _
 | k+1=>by have:=QQ r f i k;simp only [G6,List.length_append];split <;> simp <;> omega
def PZ (w:World) (r:D9) (f:Flock) (strip:Int) (e:Ending) (w':World):Prop :=
 (CB r f [strip,r.strips.length]=0∧∃ v,e = .returned (.tuple #[v, .int .i64 0])∧Cb w' w.heap.size v (G6 r f strip.toNat r.days.toNat)∧Below w.heap.size w w') ∨
 (CB r f [strip,r.strips.length]≠0∧e = .returned (.tuple #[.slice none 0 0, .int .i64 (CB r f [strip,r.strips.length])])∧Below w.heap.size w w')
theorem YZ (w:World) (r:D9) (f:Flock) (a:Option Addr) (cap:Nat) (hs:EQ w a r.strips) (hm:r.strips.length≤maxLen) (strip:Int) :
  Calls Try.prog 94 #[.agg #[.int .i64 r.days, .int .i64 r.stages, .slice a r.strips.length cap], .agg #[.int .i64 f.heads, .int .i64 f.pace], .int .i64 strip] w (PZ w r f strip):=by
 have hb0:Below w.heap.size w (((w.alloc (.cells #[.int .i64 r.days, .int .i64 r.stages, .slice a r.strips.length cap] 24)).alloc (.cells #[.int .i64 f.heads, .int .i64 f.pace] 87)).alloc (.cells #[.int .i64 strip, .int .i64 r.strips.length] 3)) :=
  (((Below.refl _ _).alloc (Nat.le_refl _) _).alloc (by simp) _).alloc (by simp;omega) _
 have hp:AX (((w.alloc (.cells #[.int .i64 r.days, .int .i64 r.stages, .slice a r.strips.length cap] 24)).alloc (.cells #[.int .i64 f.heads, .int .i64 f.pace] 87)).alloc (.cells #[.int .i64 strip, .int .i64 r.strips.length] 3))
   (some ⟨w.heap.size+1+1,0,none⟩) [strip,r.strips.length]:=by
  have:=@WP ((w.alloc (.cells #[.int .i64 r.days, .int .i64 r.stages, .slice a r.strips.length cap] 24)).alloc (.cells #[.int .i64 f.heads, .int .i64 f.pace] 87)) [strip,r.strips.length]
  simpa using this
 have HM:=Lib.hid hm;clear hm
 have HO:=Lib.hid (fun hc=>@Abh r hc [strip,r.strips.length] (by
  intro i h hi;simp only [List.length_cons,List.length_nil] at h;obtain rfl:i=1:=by omega
  exact .inr (.inr rfl)))
 go_enter Try.func94,Try.ntmps94
 go_wp2_with fail
 refine (We _ r f [strip,r.strips.length] a cap _ 2 (hs.below hb0) HM.out hp (by simp) HO.out).mono ?_;rintro e w1 (⟨hz,b,rfl,hW,hbb,_,hb1⟩ | ⟨hz,rfl,hb1⟩)
 ·obtain ⟨g,hpz⟩:=Uz hz;obtain ⟨p1,p2⟩:=Aab.1 hpz;obtain ⟨k,hk⟩:=Int.eq_ofNat_of_zero_le p1;have Hz:=Lib.hid hz;clear hz hpz;subst hk;have hkl:k < r.strips.length:=by omega
  have gd1:=g.d1;have gd2:=g.d2;have hb01:=hb0.trans (hb1.mono hb0.size);have HB1:=Lib.hid hb01;clear hb0 hb1 hp hs;have HW:=Lib.hid hW;clear hW
  go_wp2_with fail
  go_loopw [10,11] (fun v10 v11 wx=>∃ d:Nat,(d:Int)≤r.days∧v11 = .int .i64 (d:Int)∧Cb wx w1.heap.size v10 (G6 r f k d)∧Below w1.heap.size w1 wx) (fun _ v _=>r.days.toNat-(intOf v).toNat)
  case atStart=>exact ⟨0,by omega,rfl,Cb.nil _ _,Below.refl _ _⟩
  case round =>
   obtain ⟨d,hd,rfl,hown,hbr⟩:=hrel;have hle:=QQ r f k d;have hW':=HW.out.below hbr;have c0:=hW'.c0
   by_cases hlt:(d:Int) < r.days
   ·go_wp2_with fail
    refine (open_any wr b r f (-1) a cap hW' k hkl (d:Int)).mono ?_;rintro e w2 ⟨rfl,hb2⟩;have hbr2:=hbr.trans (hb2.mono hbr.size);have hown2:=hown.below hb2
    cases hT:Sj r f (-1) k (d:Int)
    ·have he:G6 r f k (d+1)=G6 r f k d:=by simp [G6,hT]
     have HE:=Lib.hid he;clear he hT
     go_wp2_with fail
     exact ⟨⟨d+1,by omega,by go_num,by rw [HE.out];exact hown2,hbr2⟩,by simp [intOf];omega⟩
    ·have he:G6 r f k (d+1)=G6 r f k d++[(d:Int)]:=by simp [G6,hT]
     have HE:=Lib.hid he;clear he hT
     go_wp2_with (at_builtin;refine Jg rfl _ _ rfl w1.heap.size _ _ rfl hown2 _ rfl (by omega) hbr2.size ?_)
     intro v' w' hown' hbel _
     go_wp2_with fail
     exact ⟨⟨d+1,by omega,by go_num,by rw [HE.out];exact hown',hbr2.trans hbel⟩,by simp [intOf];omega⟩
   ·obtain rfl:d=r.days.toNat:=by omega
    go_wp2_with fail
    go_ret2
    exact .inl ⟨Hz.out,_,rfl,hown.mono HB1.out.size,HB1.out.trans (hbr.mono HB1.out.size)⟩
 ·have hne:(CB r f [strip,r.strips.length] != 0)=true:=by simpa using hz
  have Hz:=Lib.hid hz;clear hz
  go_wp2_with fail
  go_ret2
  exact .inr ⟨Hz.out,rfl,hb0.trans (hb1.mono hb0.size)⟩
def Iu (r:D9) (f:Flock) (strip:Int):List Int×Int :=
 if CB r f [strip,r.strips.length]=0 then (G6 r f strip.toNat r.days.toNat,0) else ([],CB r f [strip,r.strips.length])
theorem PZ.val {w w':World} {r:D9} {f:Flock} {strip:Int} {e:Ending} (h:PZ w r f strip e w') :
  ∃ ga gc,e = .returned (.tuple #[.slice ga (Iu r f strip).1.length gc, .int .i64 (Iu r f strip).2])∧AX w' ga (Iu r f strip).1∧Below w.heap.size w w':=by
 obtain ⟨h1,v,rfl,hown,hb⟩ | ⟨h1,rfl,hb⟩:=h
 ·obtain ⟨ga,gc,rfl,hi,_⟩:=hown.ints;have e:Iu r f strip=(G6 r f strip.toNat r.days.toNat,0):=by rw [Iu,if_pos h1]
  rw [e];exact ⟨ga,gc,rfl,hi,hb⟩
 ·have e:Iu r f strip=([],CB r f [strip,r.strips.length]):=by rw [Iu,if_neg h1]
  rw [e];exact ⟨none,0,rfl, .inl rfl,hb⟩
end
section
open Go.RowKit
open Go.ChangeMaps (setBlock)
end
section
open Go.RowKit
def bd (f:Flock) (last d l:Int):Int:=(last+1-d)*f.pace-l
end
section
open Go.RowKit
end
section
open Go.RowKit
def Strip.cells (s:Strip):List Value:=[.int .i64 s.A, .int .i64 s.B, .int .i64 s.L, .int .i64 s.W, .int .i64 s.K, .int .i64 s.X, .int .i64 s.Y]
def XM (w:World) (B:Nat) (v:Value) (l:List Strip):Prop:=w.ownsRow B 96 7 v l.length (l.flatMap Strip.cells)
end
section
open Go.RowKit
def wide (s:Strip):Strip:={ s with W:=max s.W 90 }
end
section
open Go.RowKit
structure AB (w:World) (hb B:Nat) (a:Option Addr) (n c:Nat):Prop where
 c0:w.cell? ⟨hb,0,none⟩=some (.slice a n c)
 c1:∃ k:Nat,k≤B∧w.cell? ⟨hb,1,none⟩=some (.int .i64 k)
 c2:∃ s:Int,0≤s∧s < 18446744073709551616∧w.cell? ⟨hb,2,none⟩=some (.int .u64 s)
 f1:w.frozen? ⟨hb,1,none⟩=false
 f2:w.frozen? ⟨hb,2,none⟩=false
 nums:∃ l:List Int,l.length=n∧AX w a l∧(l=[]∨∀ ad,a=some ad→ad.block < hb)
 len:n≤maxLen
theorem JH (a b:Int):0≤bits .xor .u64 a b∧bits .xor .u64 a b < 18446744073709551616:=by
 show 0≤IntKind.u64.wrap _∧IntKind.u64.wrap _ < _;rw [IntKind.wrap_u64];omega
theorem J3 {a:Int} (h:0≤a∧a < 18446744073709551616):0≤a / 2048∧a / 2048≤9007199254740991:=by omega
theorem I7 (a:Int):0≤IntKind.u64.wrap a∧IntKind.u64.wrap a < 18446744073709551616:=by rw [IntKind.wrap_u64];omega
theorem AB.QF {w w':World} {hb:Nat} {a:Option Addr} {n:Nat} (h:∃ l:List Int,l.length=n∧AX w a l∧(l=[]∨∀ ad,a=some ad→ad.block < hb)) (hk:∀ b,b < w.heap.size→b < hb→w'.heap[b]? = w.heap[b]?) :
  ∃ l:List Int,l.length=n∧AX w' a l∧(l=[]∨∀ ad,a=some ad→ad.block < hb):=by
 obtain ⟨l,h1,h2,h3⟩:=h;refine ⟨l,h1,?_,h3⟩;rcases h3 with h3 | h3
 ·exact .inl h3
 rcases h2 with h2 | ⟨b,o,ha,hc⟩
 ·exact .inl h2
 ·have hlt:=h3 _ ha;exact .inr ⟨b,o,ha,fun i hi=>(World.cell?_of_block (hk b (lt_of_cell (hc i hi)) hlt)).trans (hc i hi)⟩
theorem AB.keep {w w':World} {hb B:Nat} {a:Option Addr} {n c:Nat} (h:AB w hb B a n c) (hk:∀ b,b < w.heap.size→b≤hb→w'.heap[b]? = w.heap[b]?):AB w' hb B a n c:=by
 obtain ⟨c0,⟨k,hk1,c1⟩,⟨s,s1,s2,c2⟩,f1,f2,hnums,hn⟩:=h;have e:=hk hb (lt_of_cell c0) (Nat.le_refl _)
 exact ⟨(World.cell?_of_block e).trans c0,⟨k,hk1,(World.cell?_of_block e).trans c1⟩,⟨s,s1,s2,(World.cell?_of_block e).trans c2⟩,(World.frozen?_of_block e).trans f1,(World.frozen?_of_block e).trans f2,
  AB.QF hnums fun b h1 h2=>hk b h1 (by omega),hn⟩
theorem AB.below {w w':World} {hb B:Nat} {a:Option Addr} {n c:Nat} (h:AB w hb B a n c) (hb':Below w.heap.size w w'):AB w' hb B a n c:=h.keep fun b h1 _=>hb'.block b h1
theorem AB.more {w:World} {hb B B':Nat} {a:Option Addr} {n c:Nat} (h:AB w hb B a n c) (hB:B≤B'):AB w hb B' a n c :=
 ⟨h.c0,let ⟨k,hk,c1⟩:=h.c1;⟨k,by omega,c1⟩,h.c2,h.f1,h.f2,h.nums,h.len⟩
theorem AB.lt {w:World} {hb B:Nat} {a:Option Addr} {n c:Nat} (h:AB w hb B a n c):hb < w.heap.size:=lt_of_cell h.c0
def XN (w:World) (hb B:Nat) (a:Option Addr) (n c:Nat) (P:Value→Prop) (e:Ending) (w':World):Prop:=∃ v,P v∧e = .returned v∧AB w' hb B a n c∧Ext hb w w'
theorem Nb {w:World} {hb B:Nat} {a:Option Addr} {n c k:Nat} (h:AB w hb B a n c) (hk:k≤B) (q:Nat) (s:Int) (h1:0≤s) (h2:s < 18446744073709551616) :
  AB (((w.drewN q).setCell ⟨hb,1,none⟩ (.int .i64 ((k:Int)+1))).setCell ⟨hb,2,none⟩ (.int .u64 s)) hb (B+1) a n c∧Ext hb w (((w.drewN q).setCell ⟨hb,1,none⟩ (.int .i64 ((k:Int)+1))).setCell ⟨hb,2,none⟩ (.int .u64 s)):=by
 obtain ⟨c0,⟨k',hk',c1⟩,⟨s',_,_,c2⟩,f1,f2,hnums,hn⟩:=h
 have ho:∀ b,b≠hb→(((w.drewN q).setCell ⟨hb,1,none⟩ (.int .i64 ((k:Int)+1))).setCell ⟨hb,2,none⟩ (.int .u64 s)).heap[b]? = w.heap[b]?:=fun b hne=>by
  rw [Below.heap_setCell _ ⟨hb,2,none⟩ _ b hne,Below.heap_setCell _ ⟨hb,1,none⟩ _ b hne];simp
 refine ⟨⟨?_,⟨k+1,by omega,?_⟩,⟨s,h1,h2,?_⟩,?_,?_,AB.QF hnums fun b _ hb'=>ho b (by omega),hn⟩,⟨(below_drewN (Below.refl 0 w) q).os,(below_drewN (Below.refl 0 w) q).tape,(below_drewN (Below.refl 0 w) q).output,by simp,fun b _ hne=>ho b hne⟩⟩
 ·rw [World.cell?_setCell_other _ _ _ _ (by simp),World.cell?_setCell_other _ _ _ _ (by simp)];simpa using c0
 ·rw [World.cell?_setCell_other _ _ _ _ (by simp)];exact World.cell?_setCell_same _ _ _ (u := .int .i64 k') (by simpa using c1)
 ·exact World.cell?_setCell_same _ _ _ (u := .int .u64 s') (by rw [World.cell?_setCell_other _ _ _ _ (by simp)];simpa using c2)
 ·rw [World.frozen?_setCell,World.frozen?_setCell];simpa using f1
 ·rw [World.frozen?_setCell,World.frozen?_setCell];simpa using f2
theorem X8 (w:World) (hb B:Nat) (a:Option Addr) (n c:Nat) (h:AB w hb B a n c) (hB:B≤1000000) :
  Calls Try.prog 62 #[.pointer (some ⟨hb,0,none⟩)] w (XN w hb (B+1) a n c fun v=>∃ x:Int,0≤x∧x≤9007199254740991∧v = .int .u64 x):=by
 have H:=Lib.hid h;obtain ⟨c0,⟨k,hk,c1⟩,⟨s,s1,s2,c2⟩,f1,f2,hnums,hn⟩:=h;have HN:=Lib.hid hnums;clear hnums;unfold maxLen at hn
 by_cases hlt:k < n
 ·obtain ⟨l,hl1,hl2,hl3⟩:=HN.out;have hlt':decide ((k:Int) < (n:Int))=true:=decide_eq_true (by omega);have hkl:k < l.length:=by omega
  rcases hl2 with hz | ⟨b,o,rfl,hc⟩
  ·rw [hz] at hkl;simp at hkl
  have hx:=hc k hkl;generalize l[k]=x at hx;have q1:(0:Int)≤(k:Int):=by omega
  have q2:(k:Int) < (n:Int):=by omega
  clear hl1 hl3 hkl hc
  go_enter Try.func62,Try.ntmps62
  go_wp2_with fail
  go_quiet (fail)
  go_wp2_with fail
  go_quiet (fail)
  go_wp2_with fail
  go_ret
  obtain ⟨h1,h2⟩:=Nb H.out hk _ _ (I7 _).1 (I7 _).2;exact ⟨_,⟨_,(J3 (JH _ _)).1,(J3 (JH _ _)).2,rfl⟩,rfl,h1,h2⟩
 ·have hlt':decide ((k:Int) < (n:Int))=false:=decide_eq_false (by omega)
  go_enter Try.func62,Try.ntmps62
  go_wp2_with fail
  go_quiet (fail)
  go_wp2_with fail
  go_ret
  obtain ⟨h1,h2⟩:=Nb H.out hk _ _ (I7 _).1 (I7 _).2;exact ⟨_,⟨_,(J3 (JH _ _)).1,(J3 (JH _ _)).2,rfl⟩,rfl,h1,h2⟩
set_option maxHeartbeats 2000000 in
theorem CE (w:World) (hb B:Nat) (a:Option Addr) (n c:Nat) (h:AB w hb B a n c) (hB:B≤1000000) (most:Int) (hm1 : -1000000≤most) (hm2:most≤1000000) :
  Calls Try.prog 21 #[.pointer (some ⟨hb,0,none⟩), .int .i64 most] w (XN w hb (B+1) a n c fun v=>∃ x:Int,0≤x∧x≤max most 0∧v = .int .i64 x):=by
 have H:=Lib.hid h;clear h
 by_cases hm:most≤0
 ·go_enter Try.func21,Try.ntmps21
  go_wp2_with fail
  go_ret
  exact ⟨_,⟨0,by omega,by omega,rfl⟩,rfl,H.out.more (by omega),Ext.refl _ _⟩
 ·go_enter Try.func21,Try.ntmps21
  go_wp2_with fail
  refine (X8 w hb B a n c H.out hB).mono ?_;rintro e w1 ⟨_,⟨x,x1,x2,rfl⟩,rfl,hh,hE⟩;have HH:=Lib.hid hh;clear hh;have HE:=Lib.hid hE;clear hE
  go_wp2_with fail
  go_ret
  have r1:0≤x % (most+1):=Int.emod_nonneg _ (by omega);have r2:x % (most+1) < most+1:=Int.emod_lt_of_pos _ (by omega);exact ⟨_,⟨wrap64 (x % (most+1)),by unfold wrap64;omega,by unfold wrap64;omega,rfl⟩,rfl,HH.out,HE.out⟩
set_option maxHeartbeats 2000000 in
theorem CU (w:World) (hb B:Nat) (a:Option Addr) (n c:Nat) (h:AB w hb B a n c) (hB:B≤1000000) (least most:Int) (h1 : -1000≤least) (h2:least≤1000) (h3 : -1000≤most) (h4:most≤1000) :
  Calls Try.prog 44 #[.pointer (some ⟨hb,0,none⟩), .int .i64 least, .int .i64 most] w (XN w hb (B+1) a n c fun v=>∃ x:Int,least≤x∧x≤max most least∧v = .int .i64 x):=by
 have H:=Lib.hid h;clear h
 go_enter Try.func44,Try.ntmps44
 go_wp2_with fail
 refine (CE w hb B a n c H.out hB (most-least) (by omega) (by omega)).mono ?_;rintro e w1 ⟨_,⟨x,x1,x2,rfl⟩,rfl,hh,hE⟩;have HH:=Lib.hid hh;clear hh;have HE:=Lib.hid hE;clear hE;have x3:x≤2000:=by omega
 go_wp2_with fail
 go_ret
 exact ⟨_,⟨least+x,by omega,by omega,rfl⟩,rfl,HH.out,HE.out⟩
set_option maxHeartbeats 2000000 in
theorem J9 (w:World) (hb B:Nat) (a:Option Addr) (n c:Nat) (h:AB w hb B a n c) (hB:B≤1000000) (first:Int) (oa:Option Addr) (oc:Nat) (l:List Int) (hl:AX w oa l) (ho:∀ ad,oa=some ad→ad.block≠hb) (hlen:l.length≤100) :
  Calls Try.prog 60 #[.pointer (some ⟨hb,0,none⟩), .int .i64 first, .slice oa l.length oc] w (XN w hb (B+1) a n c fun v=>∃ x:Int,x∈first :: l∧v = .int .i64 x):=by
 have H:=Lib.hid h;clear h;have HL:=Lib.hid hl;clear hl;have HO:=Lib.hid ho;clear ho
 go_enter Try.func60,Try.ntmps60
 go_wp2_with fail
 refine (CE w hb B a n c H.out hB l.length (by omega) (by omega)).mono ?_;rintro e w1 ⟨_,⟨x,x1,x2,rfl⟩,rfl,hh,hE⟩;have HH:=Lib.hid hh;clear hh
 by_cases hx:0 < x
 ·obtain ⟨k,hk⟩:∃ k:Nat,x=(k:Int)+1:=⟨(x-1).toNat,by omega⟩;have hkl:k < l.length:=by omega
  rcases HL.out with hz | ⟨b,o,hoa,hc⟩
  ·rw [hz] at hkl;simp at hkl
  have hck:=hc k hkl;have hne:=HO.out _ hoa;have hc1:=(World.cell?_of_block (hE.block b (lt_of_cell hck) hne)).trans hck;have hmem:l[k]∈first :: l:=List.mem_cons_of_mem _ (List.getElem_mem hkl)
  generalize l[k]=y at hc1 hmem;have HM:=Lib.hid hmem;clear hmem hck hc;have HE:=Lib.hid hE;clear hE;subst hk hoa;have q1:(k:Int) < (l.length:Int):=by omega
  go_wp2_with fail
  go_ret
  exact ⟨_,⟨y,HM.out,rfl⟩,rfl,HH.out,HE.out⟩
 ·have HE:=Lib.hid hE;clear hE
  go_wp2_with fail
  go_ret
  exact ⟨_,⟨first,by simp,rfl⟩,rfl,HH.out,HE.out⟩
end
section
open Go.RowKit
def La (D S:Int) (s:Strip):Prop:=0≤s.A∧s.A < S∧0≤s.B∧s.B < S∧s.A≠s.B∧1≤s.L∧s.L≤9∧1≤s.W∧s.W≤99 ∧
  ((s.K=1∧s.X=0∧s.Y=0)∨(s.K=2∧0≤s.X∧s.X≤s.Y∧s.Y < D)∨(s.K=3∧0≤s.X∧s.X≤20∧-5≤s.Y∧s.Y≤5)∨(s.K=4∧1≤s.X∧s.X≤40∧s.Y=0))
end
section
open Go Go.Conc
open Go.RowKit
theorem Sl.Aar {n:Nat} (x y:Value) (hn:2≤n):Sl (⟨#[x,y]++Array.replicate (n-2) undef,[]⟩:Act) n [(0,x),(1,y)]:=by
 refine ⟨by simp;omega,rfl,fun t v h =>?_⟩;rw [List.lookup_cons] at h
 by_cases e:t=0
 ·subst e;simp at h;rw [h,Array.getElem?_append_left (by simp)];rfl
 ·have e2:(t == 0)=false:=by simpa using e
  rw [e2,List.lookup_cons] at h
  by_cases e3:t=1
  ·subst e3;simp at h;rw [h,Array.getElem?_append_left (by simp)];rfl
  ·have e4:(t == 1)=false:=by simpa using e3
   rw [e4] at h;simp at h
section
variable {P:Program} {M:Machine} {Safe:Obj→Prop} {c:Nat} {fn:FuncId} {Q:Exit→Act→World→List Value→Nat→Prop} {a:Act} {w:World} {L:List Value} {K:Nat}
theorem Sl.goP {ops:Array Oper} {rest:List Nat} {n:Nat} {m:List (Nat×Value)} {d:Nat} {v:Value} (h:Sl a n m) (hd:d < n) (hG:∀ a',Sl a' n ((d,v) :: m)→P5 P M Safe c fn ops rest Q a' w L K):P5 P M Safe c fn ops rest Q (a.put (some d) v) w L K:=hG _ (h.put d v hd)
end
section
variable {P:Program} {main:Bool} {R:World→World→Prop} {D:World→World→Array Event→Prop} {fn:FuncId} {Q:Exit→Act→World→Prop} {a:Act} {w:World}
theorem Sl.goC {ops:Array Oper} {rest:List Nat} {k n:Nat} {m:List (Nat×Value)} {d:Nat} {v:Value} (h:Sl a n m) (hd:d < n) (hG:∀ a',Sl a' n ((d,v) :: m)→OpsC P main R D fn ops rest k Q a' w):OpsC P main R D fn ops rest k Q (a.put (some d) v) w:=hG _ (h.put d v hd)
end
theorem DZ (w:World) (o:Obj) (k:Nat):(w.alloc o).heap[k]? = if k=w.heap.size then some o else w.heap[k]?:=by
 show (w.heap.push o)[k]? = _;rw [Array.getElem?_push]
def Aw:Obj→Prop:=fun o=>∃ cs fz,o = .cells cs 69 fz
theorem Aae (w:World):(Instr.makeChan 141 (.int .i64 0)).run Try.prog w = .ok (.chan (some w.heap.size)) (w.alloc (.chan 0 #[] false 0 0 false)):=by
 obtain ⟨i,hi,hb⟩:∃ i,Try.prog.info? 143=some i∧i.bytes=16:=by
  have h:(Try.prog.info? 143).map (·.bytes)=some 16:=by kernel_rfl
  obtain ⟨i,hi,hb⟩:=Option.map_eq_some_iff.1 h;exact ⟨i,hi,hb⟩
 simpa using run_makeChan (P:=Try.prog) (w:=w) Try.underlying141 hi .i64 0 (by omega) (by rw [hb];omega)
theorem Xe:Try.f78.body=some (Code.seq (Aa Try.f78 0) (Code.seq (Aa Try.f78 1) (Code.seq (Code.seq (Aa Try.f78 2) (Code.block 0 (Code.loop (Code.seq (Aa Try.f78 3) (Code.seq (Code.cond (Operand.tmp 17) Code.skip (Code.exit 0)) (Code.seq (Code.block 1 (Code.seq (Aa Try.f78 4) (Aa Try.f78 5))) (Aa Try.f78 6)))))))
  (Code.seq (Aa Try.f78 7) (Code.seq (Code.seq (Aa Try.f78 8) (Code.block 2 (Code.loop (Code.seq (Aa Try.f78 9) (Code.seq (Code.cond (Operand.tmp 35) Code.skip (Code.exit 2)) (Code.seq (Code.block 3 (Code.seq (Aa Try.f78 10) (Aa Try.f78 11))) (Aa Try.f78 12))))))) (Code.seq (Aa Try.f78 13) Code.ret)))))):=by kernel_rfl
theorem ZL {Q:Exit→Act→World→Prop} (w:World) (bd:Nat) (fc:FuncId) (first cap:Array Value) (a:Act) (Z:Sl a 46 [(0, .pointer (some ⟨bd,0,none⟩)),(1, .func (.func fc) first cap)])
  (hQ:∀ a' w',Sl a' 46 [(0, .pointer (some ⟨bd,0,none⟩)),(3, .pointer (some ⟨w.heap.size,0,none⟩))]→w'=w.alloc (.cells #[.func (.func fc) first cap] 35)→Q .normal a' w') :
  (Aa Try.f78 0).wp Try.prog Q a w:=by
 refine wr ?_;refine og fun K hK =>?_
 have e1:=Z.g 1;unfold Oper.wp;go_simp;refine hK _ _ ?_;clear hK e1;refine Z.go (by decide) ?_;clear Z;intro a1 Z;refine og fun K hK =>?_
 unfold Oper.wp;go_simp;refine hK _ _ ?_;clear hK;refine Z.go (by decide) ?_;clear Z;intro a1 Z;refine od ?_;exact hQ _ _ Z.sb rfl
theorem ZK {Q:Exit→Act→World→Prop} (w:World) (bd:Nat) (fc:FuncId) (first cap:Array Value) (a:Act) (wx:World) (hwx:wx=w.alloc (.cells #[.func (.func fc) first cap] 35)) (Z:Sl a 46 [(0, .pointer (some ⟨bd,0,none⟩)),(3, .pointer (some ⟨w.heap.size,0,none⟩))])
  (hQ:∀ a' w',Sl a' 46 [(0, .pointer (some ⟨bd,0,none⟩)),(3, .pointer (some ⟨w.heap.size,0,none⟩)),(5, .pointer (some ⟨w.heap.size+2,0,none⟩))]→Below w.heap.size w w'→w'.heap[w.heap.size]? = some (.cells #[.func (.func fc) first cap] 35 (0,0))→w'.heap[w.heap.size+1]? = some (.chan 0 #[] false 0 0 false) →
   w'.heap[w.heap.size+2]? = some (.cells #[.chan (some (w.heap.size+1))] 141 (0,0))→w'.heap.size=w.heap.size+3→Q .normal a' w') :
  (Aa Try.f78 1).wp Try.prog Q a wx:=by
 subst hwx;refine wr ?_;refine og fun K hK =>?_
 unfold Oper.wp;go_simp;rw [Aae];go_simp;refine hK _ _ ?_;clear hK;refine Z.go (by decide) ?_;clear Z;intro a1 Z;refine og fun K hK =>?_
 unfold Oper.wp;go_simp;refine hK _ _ ?_;clear hK;refine Z.go (by decide) ?_;clear Z;intro a1 Z;refine og fun K hK =>?_
 have e5:=Z.g 5;have e9:=Z.g 9;unfold Oper.wp;go_simp;refine hK _ _ ?_;clear hK;refine od ?_;refine hQ _ _ ?_ ?_ ?_ ?_ ?_ ?_
 ·exact Z.sb
 ·exact (((Below.refl _ w).alloc (Nat.le_refl _) _).alloc (by simp) _).alloc (by simp;omega) _
 ·rw [DZ,DZ,DZ,if_neg (by simp;omega),if_neg (by simp),if_pos rfl]
 ·rw [DZ,DZ,if_neg (by simp),if_pos (by simp)]
 ·rw [DZ,if_pos (by simp)]
 ·simp
theorem II {P:Program} {a:Act} {w:World} {o:Oper} {x:Operand} {f:FuncId} {first cap:Array Value} {F:Func} {args:Array Operand} {ats:Array TypeId} (hop:o.op = .call { callee := .value x,args,argTypes:=ats }) (hx:a.eval x = .func (.func f) first cap)
  (hf:P.funcs[f]? = some F) (hname:(F.name == "runtime.NumGoroutine")=false) (hb:F.body.isNone=false):(execOp a.eval o).run P w = .ok (.enter f (first++args.map a.eval++cap)) w:=by
 have h1:¬ F.name = "runtime.NumGoroutine" := by simpa using hname
 have h2:¬ F.body=none:=by cases hx:F.body <;> simp_all
 unfold execOp;simp [hop,resolve,Deferred.ofValue,invoke,callFunc,hf,h1,h2,hx]
theorem LK {P:Program} {a:Act} {w:World} {o:Oper} {x:Operand} {f:FuncId} {first cap:Array Value} {F:Func} {args:Array Operand} {ats:Array TypeId} (hop:o.op = .call { callee := .value x,args,argTypes:=ats }) (hx:a.eval x = .func (.func f) first cap)
  (hf:P.funcs[f]? = some F) (hname:(F.name == "runtime.NumGoroutine")=false) (hb:F.body.isNone=false) (es:Array Event):(execOp a.eval o).events P w es=es:=by
 have h1:¬ F.name = "runtime.NumGoroutine" := by simpa using hname
 have h2:¬ F.body=none:=by cases hx:F.body <;> simp_all
 unfold execOp;simp [hop,resolve,Deferred.ofValue,invoke,callFunc,hf,h1,h2,hx]
noncomputable def bot:Frame:={ (default:Frame) with fn:=Try.prog.funcs.size,defers:=[],mode := .panicking [goexitEntry] }
noncomputable def baseD (f:FuncId):Frame:={ (default:Frame) with fn:=f,kind := .deferred }
theorem Vf:Try.f110.body=some (Aa Try.f110 0):=by kernel_rfl
theorem born_step (x y z:Value) (w:World):stepG Try.prog false (born Try.prog { target := .fn (.func 110) #[x,y,z],args:=#[] }) w =
  .go (G ((baseD 110).at ⟨#[x,y,z,undef,undef,undef,undef,undef,undef],[]⟩ [.code (Aa Try.f110 0)]) [bot]) w #[]:=by
 have hn:¬ Try.f110.name = "runtime.NumGoroutine" := by
  have:(Try.f110.name == "runtime.NumGoroutine")=false:=by kernel_rfl
  simpa using this
 simp [hn,Try.ntmps110,born,stepG,unwind,callDeferred,invoke,callFunc,Try.func110,Vf,seen,GStep.after,G,Frame.enter,Frame.at,baseD,bot]
theorem quitsTail (T:Array Value):QuitsD Try.prog 2 0 (G { (baseD 110).at ⟨T,[]⟩ [] with mode := .returning } [bot]):=by
 refine QuitsD.ctl (g':=G bot []) rfl (fun w =>?_) ?_
 ·simp [G,stepG,unwind,doReturn,results,Frame.at,baseD,bot,Try.func110,Try.results110,seen,GStep.after,goexitEntry]
 refine QuitsD.ctl (g':={ G bot [] with status := .finished }) rfl (fun w =>?_) ⟨rfl,rfl⟩;simp [G,stepG,unwind,bot,goexitEntry,Frame.catches]
 rfl
theorem X4 (a:Act) (hd:a.defers=[]) (ops:Array Oper) (ho:(ops[6]?).bind (·.dst)=none):QuitsD Try.prog 4 0 (Conc.served (G ((baseD 110).at a [.inRegion ops [6]]) [bot]) undef):=by
 have e:Conc.served (G ((baseD 110).at a [.inRegion ops [6]]) [bot]) undef=G ((baseD 110).at a [.inRegion ops []]) [bot]:=by
  have hfin:=Frame.finish_at (baseD 110) a ops 6 [] [] undef;rw [ho] at hfin;unfold Conc.served G;simp only [hfin]
  rfl
 rw [e];obtain ⟨T,ds⟩:=a;obtain rfl:ds=[]:=hd;refine QuitsD.ctl rfl (fun w=>stepG_region_end) ?_;refine QuitsD.ctl rfl (fun w=>stepG_end) ?_;exact quitsTail _
theorem BM {w:World} {b o:Nat} {cs:Array Value} {ty:TypeId} {fz:Nat×Nat} {v:Value} (h:w.heap[b]? = some (.cells cs ty fz)) (ho:cs[o]? = some v):w.cell? ⟨b,o,none⟩=some v:=by simp [World.cell?,h,ho]
theorem Ea {o:Oper} {d:Nat} (h:(waits o).contains d=true):d∈waits o:=by simpa using h
theorem AC.row {Safe:Obj→Prop} {c N:Nat} {w w₁:World} (h:AC Safe c N w w₁) {b:Nat} {o:Obj} (ho:w.heap[b]? = some o) (hb:b < N) (hc:b≠c):w₁.heap[b]? = some o :=
 (h.block b (lt_of_some ho) (.inl ⟨hb,hc⟩)).trans ho
theorem Ce {Safe:Obj→Prop} {c N:Nat} {w:World} {b o:Nat} (hb:b < w.heap.size) (hf:PY Safe c N w b):∀ x,(MemAct.ofEvent ⟨.cell ⟨b,o,none⟩,false,false⟩).touch? = some x→∀ b',blk x.loc=some b'→x.write=false∧b' < w.heap.size∧PY Safe c N w b':=by
 intro x hx b' hb';simp [MemAct.ofEvent,MemAct.touch?] at hx;subst hx;simp [blk] at hb';subst hb';exact ⟨rfl,hb,hf⟩
theorem Abd {c N mf:Nat} {w:World} {i v:Int} {fc:FuncId} {first cap:Array Value} (a:Act) (fn:FuncId)
  (hcall:∀ w₁,AC Aw c N w w₁→CallsC Try.prog false (AC Aw c N) (Bd Aw c N) fc (first++#[.int .i64 i]++cap) mf w₁ (fun x w'=>x = .int .i64 v∧AC Aw c N w₁ w'))
 (ops:Array Oper) (o:Oper) (h4:ops[4]? = some o) (hgd:o.guard=none) (hr:∀ w,(execOp a.eval o).run Try.prog w = .ok (.enter fc (first++#[.int .i64 i]++cap)) w∧listed Try.prog fn a o w = #[]):OpN Try.prog false (AC Aw c N) (Bd Aw c N) fn ops 4 (mf+3) (fun a' w'=>AC Aw c N w w'∧∃ x,a'=a.put o.dst x∧x = .int .i64 v) a w:=by
 have hcl:=hcall w (AC.refl w);exact WA Ag h4 hgd hr hcl (fun x w' hx=>⟨hx.2,_,rfl,hx.1⟩)
theorem AaW {w:World} {i:Int} {fc:FuncId} {F:Func} {first cap:Array Value} (a:Act)
  (hF:Try.prog.funcs[fc]? = some F) (hname:(F.name == "runtime.NumGoroutine")=false) (hbody:F.body.isNone=false)
  (E5:a.eval (.tmp 5) = .func (.func fc) first cap) (E6:a.eval (.tmp 6) = .int .i64 i)
 (o:Oper) (hop:o.op = .call { callee := .value (.tmp 5),args:=#[.tmp 6],argTypes:=#[3] }):(execOp a.eval o).run Try.prog w = .ok (.enter fc (first++#[.int .i64 i]++cap)) w:=by
 have h:=II (P:=Try.prog) (w:=w) hop E5 hF hname hbody;rw [h,List.map_toArray,List.map_cons,List.map_nil,E6]
theorem AaV {w:World} {fn:FuncId} {fc:FuncId} {F:Func} {first cap:Array Value} (a:Act)
  (hF:Try.prog.funcs[fc]? = some F) (hname:(F.name == "runtime.NumGoroutine")=false) (hbody:F.body.isNone=false)
  (E5:a.eval (.tmp 5) = .func (.func fc) first cap)
 (o:Oper) (hop:o.op = .call { callee := .value (.tmp 5),args:=#[.tmp 6],argTypes:=#[3] }):listed Try.prog fn a o w = #[]:=listed_nil (LK (P:=Try.prog) hop E5 hF hname hbody #[])
theorem Ve {c N mf:Nat} {w:World} {bs bo bc:Nat} {i v:Int} {fc:FuncId} {F:Func} {first cap:Array Value}
  (hs:w.heap[bs]? = some (.cells #[.chan (some c)] 141 (0,0))) (hsN:bs < N) (hsc:bs≠c) (ho:w.heap[bo]? = some (.cells #[.int .i64 i] 3 (0,0))) (hoN:bo < N) (hoc:bo≠c)
  (hf:w.heap[bc]? = some (.cells #[.func (.func fc) first cap] 35 (0,0))) (hfN:bc < N) (hfc:bc≠c)
  (hF:Try.prog.funcs[fc]? = some F) (hname:(F.name == "runtime.NumGoroutine")=false) (hbody:F.body.isNone=false)
  (hcall:∀ w₁,AC Aw c N w w₁→CallsC Try.prog false (AC Aw c N) (Bd Aw c N) fc (first++#[.int .i64 i]++cap) mf w₁ (fun x w'=>x = .int .i64 v∧AC Aw c N w₁ w')) :
  Goes Try.prog false (AC Aw c N) (Bd Aw c N) (Q8 Try.prog Aw c N (.agg #[.int .i64 i, .int .i64 v])) (7*(mf+3)+2)
   (born Try.prog { target := .fn (.func 110) #[.pointer (some ⟨bs,0,none⟩), .pointer (some ⟨bo,0,none⟩), .pointer (some ⟨bc,0,none⟩)],args:=#[] }) w:=by
 refine Goes.step rfl fun w₁ h₁ =>?_
 rw [born_step];refine ⟨Bd.idle _,?_⟩;have hs':=h₁.row hs hsN hsc;have ho':=h₁.row ho hoN hoc;have hf':=h₁.row hf hfN hfc;have hcall':∀ w₂,AC Aw c N w₁ w₂→CallsC Try.prog false (AC Aw c N) (Bd Aw c N) fc (first++#[.int .i64 i]++cap) mf w₂ (fun x w'=>x = .int .i64 v∧AC Aw c N w₂ w'):=fun w₂ h₂=>hcall w₂ (h₁.trans h₂)
 clear hs ho hf hcall h₁;revert hs' ho' hf' hcall';generalize w₁=w;intro hs ho hf hcall;rw [show Aa Try.f110 0=Code.region 0 _ true from rfl]
 have Z:Sl (⟨#[.pointer (some ⟨bs,0,none⟩), .pointer (some ⟨bo,0,none⟩), .pointer (some ⟨bc,0,none⟩),undef,undef,undef,undef,undef,undef],[]⟩:Act) 9 [(0, .pointer (some ⟨bs,0,none⟩)),(1, .pointer (some ⟨bo,0,none⟩)),(2, .pointer (some ⟨bc,0,none⟩))] :=
  ((Sl.nil ⟨rfl,rfl,fun t v hv=>by simp at hv⟩ (m:=[])).cons (t:=2) rfl |>.cons (t:=1) rfl).cons (t:=0) rfl
 have hread:∀ (bb:Nat) (ob:Obj),w.heap[bb]? = some ob→bb < N→bb≠c→∀ w₂,AC Aw c N w w₂→∀ x,(MemAct.ofEvent ⟨.cell ⟨bb,0,none⟩,false,false⟩).touch? = some x→∀ b',blk x.loc=some b'→x.write=false∧b' < w₂.heap.size∧PY Aw c N w₂ b' :=
  fun bb ob h1 h2 h3 w₂ h=>Ce (Nat.lt_of_lt_of_le (lt_of_some h1) h.size) (.inl ⟨h2,h3⟩)
 refine QK (B:=mf+3) (fn:=110) (by kernel_rfl) Ag JS YB (z:=6) rfl (by kernel_rfl) Z [some 3,some 4,some 5,some 6,some 7,some 8,none] rfl rfl (by kernel_rfl)
  (fun j x=>match j with | 0=>x = .chan (some c) | 1=>x = .int .i64 i | 2=>x = .func (.func fc) first cap | 3=>x = .int .i64 i | 4=>x = .int .i64 v | 5=>x = .agg #[.int .i64 i, .int .i64 v] | _=>True) rfl (by simp [baseD]) ?_ ?_
 ·clear Z;intro k o hk ho' L a hLk Z hsc' hd;have hlt:∀ k:Nat,k < 6→k=0∨k=1∨k=2∨k=3∨k=4∨k=5:=by decide
  rcases hlt k hk with rfl | rfl | rfl | rfl | rfl | rfl
  ·obtain rfl:=Option.some.inj ho';have e0:=Z.g 0;clear hsc' hd;refine (Az (.chan (some c)) rfl rfl (fun w₂ h₂ =>?_) (fun w₂ h₂=>⟨h₂,_,rfl,rfl⟩)).more (by omega);have hc:=BM (o:=0) (h₂.row hs hsN hsc) rfl;refine ⟨run_eq_of (fun K hK =>?_),Bd.still ?_⟩
   ·go_simp;exact hK
   ·have hr:=hread _ _ hs hsN hsc w₂ h₂
    co_evs (exact hr)
  ·obtain rfl:=Option.some.inj ho';have e1:=Z.g 1;clear hsc' hd;refine (Az (.int .i64 i) rfl rfl (fun w₂ h₂ =>?_) (fun w₂ h₂=>⟨h₂,_,rfl,rfl⟩)).more (by omega);have hc:=BM (o:=0) (h₂.row ho hoN hoc) rfl;refine ⟨run_eq_of (fun K hK =>?_),Bd.still ?_⟩
   ·go_simp;exact hK
   ·have hr:=hread _ _ ho hoN hoc w₂ h₂
    co_evs (exact hr)
  ·obtain rfl:=Option.some.inj ho';have e2:=Z.g 2;clear hsc' hd;refine (Az (.func (.func fc) first cap) rfl rfl (fun w₂ h₂ =>?_) (fun w₂ h₂=>⟨h₂,_,rfl,rfl⟩)).more (by omega);have hc:=BM (o:=0) (h₂.row hf hfN hfc) rfl;refine ⟨run_eq_of (fun K hK =>?_),Bd.still ?_⟩
   ·go_simp;exact hK
   ·have hr:=hread _ _ hf hfN hfc w₂ h₂
    co_evs (exact hr)
  ·obtain rfl:=Option.some.inj ho';have e1:=Z.g 1;clear hsc' hd;refine (Az (.int .i64 i) rfl rfl (fun w₂ h₂ =>?_) (fun w₂ h₂=>⟨h₂,_,rfl,rfl⟩)).more (by omega);have hc:=BM (o:=0) (h₂.row ho hoN hoc) rfl;refine ⟨run_eq_of (fun K hK =>?_),Bd.still ?_⟩
   ·go_simp;exact hK
   ·have hr:=hread _ _ ho hoN hoc w₂ h₂
    co_evs (exact hr)
  ·obtain rfl:=Option.some.inj ho';obtain ⟨v5,e5,hv5⟩:=hsc' 2 _ 5 rfl rfl (hd 2 wm);obtain rfl:=hv5;obtain ⟨v6,e6,hv6⟩:=hsc' 3 _ 6 rfl rfl (hd 3 wm);obtain rfl:=hv6;clear hsc' hd;have E5:a.eval (.tmp 5) = .func (.func fc) first cap:=by simp [Act.eval,Array.getD_eq_getD_getElem?,e5]
   have E6:a.eval (.tmp 6) = .int .i64 i:=by simp [Act.eval,Array.getD_eq_getD_getElem?,e6]
   exact Abd a _ hcall _ _ rfl rfl (fun w₂=>⟨AaW a hF hname hbody E5 E6 _ rfl,AaV a hF hname hbody E5 _ rfl⟩)
  ·obtain rfl:=Option.some.inj ho';obtain ⟨v4,e4,hv4⟩:=hsc' 1 _ 4 rfl rfl (hd 1 wm);obtain rfl:=hv4;obtain ⟨v7,e7,hv7⟩:=hsc' 4 _ 7 rfl rfl (hd 4 wm);obtain rfl:=hv7;clear hsc' hd;refine (Az (.agg #[.int .i64 i, .int .i64 v]) rfl rfl (fun w₂ h₂ =>?_) (fun w₂ h₂=>⟨h₂,_,rfl,rfl⟩)).more (by omega);exact oq
 ·intro a w' hr hsl' hd';obtain ⟨v3,e3,hv3⟩:=hd' 0 _ 3 (by omega) rfl rfl;obtain rfl:=hv3;obtain ⟨v8,e8,hv8⟩:=hd' 5 _ 8 (by omega) rfl rfl;obtain rfl:=hv8;clear hd';refine fun w₂ h₂=>⟨rfl,_, .tuple #[],_,4,stepG_comm rfl (by rfl) (by simp [baseD]) ?_,?_,?_⟩
  ·simp [execOp,scase,Act.eval,Array.getD_eq_getD_getElem?,e3,e8]
  ·rw [listed_nil (by simp [go_sem,execOp,Act.eval,Array.getD_eq_getD_getElem?,e3,e8])];exact Bd.idle _
  ·exact X4 _ hsl'.defers _ rfl
end
section
open Go Go.Conc
open Go.RowKit
theorem W9 (w:World) (es:Array Event) (a b x y:Int):(Op.equal 140 (.agg #[.int .i64 a, .int .i64 b]) (.agg #[.int .i64 x, .int .i64 y])).run Try.prog w = .ok (a == x && b == y) w ∧
  (Op.equal 140 (.agg #[.int .i64 a, .int .i64 b]) (.agg #[.int .i64 x, .int .i64 y])).events Try.prog w es=es:=by
 have hu:=Try.underlying140;have hi:=Try.underlying3;have hst:Try.prog.stoodInHeld 140=false:=by kernel_rfl
 have hp:(Sem.program Sem.pure:Sem Program).run Try.prog w = .ok Try.prog w:=rfl;have hpe:∀ es,(Sem.program Sem.pure:Sem Program).events Try.prog w es=es:=fun _=>rfl
 have he:Op.equal 140 (.agg #[.int .i64 a, .int .i64 b]) (.agg #[.int .i64 x, .int .i64 y])=Op.equalIn (9998+1+1) 140 (.agg #[.int .i64 a, .int .i64 b]) (.agg #[.int .i64 x, .int .i64 y]):=rfl;rw [he,Op.equalIn]
 constructor
 ·simp [run_underlying hu,hst,go_sem,program,hp]
  by_cases h1:a=x <;> by_cases h2:b=y <;> simp [h1,h2]
 ·have hei:∀ (x y:Int) (w:World) (es:Array Event),(Op.equalIn 9999 3 (.int .i64 x) (.int .i64 y)).events Try.prog w es=es:=fun x y w es=>by
   rw [show (9999:Nat)=9998+1 from rfl,Op.equalIn];simp [run_underlying hi,go_sem]
  simp [run_underlying hu,hst,go_sem,program,hp,hpe]
  by_cases h1:a=x <;> by_cases h2:b=y <;> simp [h1,h2,hei]
def gk (k:Int×Int):Value := .agg #[.int .i64 k.1, .int .i64 k.2]
def FB (ents:List MapEntry) (l:List ((Int×Int)×Int)):Prop:=ents.map (fun e=>(e.key,e.val))=l.map fun p=>(gk p.1, .int .i64 p.2)
def atK (l:List ((Int×Int)×Int)) (k:Int×Int):Option Int:=(l.find? fun p=>p.1 == k).map (·.2)
theorem Oz (w:World) (k:Int×Int):∀ (ents:List MapEntry) (l:List ((Int×Int)×Int)) (i:Nat) (es:Array Event),FB ents l →
  (∃ r,(Instr.findAsking 140 (gk k) ents i).run Try.prog w = .ok r w∧r.map (·.2)=(atK l k).map (Value.int .i64))∧(Instr.findAsking 140 (gk k) ents i).events Try.prog w es=es
 | [],l,i,es,h=>by
  have:l=[]:=by cases l with | nil=>rfl | cons x l=>simp [FB] at h
  subst this;exact ⟨⟨none,rfl,rfl⟩,rfl⟩
 | e :: ents,l,i,es,h=>by
  cases l with
  | nil=>simp [FB] at h
  | cons p l =>
   obtain ⟨⟨p1,p2⟩,pv⟩:=p;obtain ⟨k1,k2⟩:=k;simp only [FB,List.map_cons,List.cons.injEq,Prod.mk.injEq] at h;obtain ⟨⟨hk,hv⟩,hr⟩:=h;obtain ⟨⟨r,ih1,ih2⟩,ih3⟩:=Oz w (k1,k2) ents l (i+1) es hr;have heq:=W9 w es k1 k2 p1 p2;rw [Instr.findAsking,hk];unfold gk at *
   by_cases hkk:k1=p1∧k2=p2
   ·obtain ⟨rfl,rfl⟩:=hkk;refine ⟨⟨some (i,e.val),?_,?_⟩,?_⟩
    ·simp [go_sem,heq.1]
    ·simp [atK,hv]
    ·simp [go_sem,heq.1,heq.2]
   ·have hne:(k1 == p1 && k2 == p2)=false:=by
     simp only [Bool.and_eq_false_iff,beq_eq_false_iff_ne]
     by_cases h1:k1=p1
     ·exact .inr fun h2=>hkk ⟨h1,h2⟩
     ·exact .inl h1
    have hne2:((p1,p2) == (k1,k2))=false:=by
     simp only [beq_eq_false_iff_ne,ne_eq,Prod.mk.injEq];exact fun h=>hkk ⟨h.1.symm,h.2.symm⟩
    rw [hne] at heq;refine ⟨⟨r,?_,?_⟩,?_⟩
    ·simp [go_sem,heq.1,ih1]
    ·rw [ih2];simp [atK,hne2]
    ·simp [go_sem,heq.1,heq.2,ih3]
theorem OA (em:Bool) (w:World) (es:Array Event) (k:Int×Int):(Instr.checkKey em 10000 140 (gk k)).run Try.prog w = .ok () w∧(Instr.checkKey em 10000 140 (gk k)).events Try.prog w es=es:=by
 have hu:=Try.underlying140;have hi:=Try.underlying3
 have hci:∀ (x:Int) (w:World) (es:Array Event),(Instr.checkKey em 9999 3 (.int .i64 x)).run Try.prog w = .ok () w∧(Instr.checkKey em 9999 3 (.int .i64 x)).events Try.prog w es=es:=fun x w es=>by
  rw [show (9999:Nat)=9998+1 from rfl,Instr.checkKey]
  constructor <;> simp [run_underlying hi,go_sem]
 have hc1:∀ (x:Int) (w:World),(Instr.checkKey em 9999 3 (.int .i64 x)).run Try.prog w = .ok () w:=fun x w=>(hci x w #[]).1
 have hc2:∀ (x:Int) (w:World) (es:Array Event),(Instr.checkKey em 9999 3 (.int .i64 x)).events Try.prog w es=es:=fun x w es=>(hci x w es).2
 clear hci;rw [show (10000:Nat)=9999+1 from rfl,Instr.checkKey];unfold gk
 constructor
 ·simp [run_underlying hu,go_sem,hc1]
 ·simp [run_underlying hu,go_sem,hc1,hc2]
theorem U6 (w:World) (k:Int×Int) (ents:List MapEntry) (l:List ((Int×Int)×Int)) (es:Array Event) (h:FB ents l) :
  (∃ r,(Instr.findKey 140 (gk k) ents).run Try.prog w = .ok r w∧r.map (·.2)=(atK l k).map (Value.int .i64))∧(Instr.findKey 140 (gk k) ents).events Try.prog w es=es:=by
 have hu:=Try.underlying140;obtain ⟨⟨r,h1,h2⟩,h3⟩:=Oz w k ents l 0 es h
 cases ents with
 | nil =>
  have:l=[]:=by cases l with | nil=>rfl | cons x l=>simp [FB] at h
  subst this;refine ⟨⟨none,?_,rfl⟩,?_⟩
  ·simp [Instr.findKey,run_underlying hu,go_sem,Instr.findNow]
  ·simp [Instr.findKey,run_underlying hu,go_sem,Instr.findNow]
 | cons e ents =>
  refine ⟨⟨r,?_,h2⟩,?_⟩
  ·simp [Instr.findKey,run_underlying hu,go_sem,Instr.findNow,Instr.sameNow,h1]
  ·simp [Instr.findKey,run_underlying hu,go_sem,Instr.findNow,Instr.sameNow,h3]
theorem JY {w:World} {mb clock:Nat} {ents:Array MapEntry} (hm:w.heap[mb]? = some (.map ents clock)) (es:Array Event):(getObj mb).events Try.prog w es=es.push ⟨.obj mb,false,false⟩:=by
 simp [getObj,Sem.events,Sem.runT,hm,Obj.isChan,-Sem.runT_eq]
theorem E8 (w:World) (mb clock:Nat) (ents:Array MapEntry) (l:List ((Int×Int)×Int)) (es:Array Event) (k:Int×Int) (hm:w.heap[mb]? = some (.map ents clock)) (h:FB ents.toList l) :
  (Instr.lookup 101 (.map (some mb)) (gk k) false).run Try.prog w = .ok (.int .i64 ((atK l k).getD 0)) w ∧
   (Instr.lookup 101 (.map (some mb)) (gk k) false).events Try.prog w es=es.push ⟨.obj mb,false,false⟩:=by
 have hu:=Try.underlying101;obtain ⟨⟨r,h1,h2⟩,h3⟩:=U6 w k ents.toList l (es.push ⟨.obj mb,false,false⟩) h;have hc:=OA ents.isEmpty w (es.push ⟨.obj mb,false,false⟩) k;have hz:(zeroValue 3).run Try.prog w = .ok (.int .i64 0) w:=by simp [go_sem]
 have hres:(∃ j v,r=some (j, .int .i64 v)∧atK l k=some v)∨(r=none∧atK l k=none):=by
  cases hk:atK l k with
  | none=>rw [hk] at h2;cases r with | none=>exact .inr ⟨rfl,rfl⟩ | some x=>simp at h2
  | some v =>
   rw [hk] at h2
   cases r with
   | none=>simp at h2
   | some x =>
    obtain ⟨j,y⟩:=x;simp at h2;subst h2;exact .inl ⟨j,v,rfl,rfl⟩
 constructor
 ·simp [Instr.lookup,run_underlying hu,go_sem,MapKept.run_getObj_map hm,hc.1,h1];rcases hres with ⟨j,v,rfl,hk⟩ | ⟨rfl,hk⟩
  ·rw [hk];simp
  ·rw [hk];simp
 ·simp [Instr.lookup,run_underlying hu,go_sem,MapKept.run_getObj_map hm,hc.1,hc.2,h1,h3];rcases hres with ⟨j,v,rfl,hk⟩ | ⟨rfl,hk⟩
  ·rw [JY hm,hc.2,h3];rfl
  ·rw [JY hm,hc.2,h3];simp [go_sem]
end
end Go.Proofs.Ytgdobbcjkiapkaa
