import Derived.Test.YtgdobbcjkiapkaaFe40
import Derived.Test.YtgdobbcjkiapkaaFe37
import Derived.Test.YtgdobbcjkiapkaaFe36
import Derived.Test.YtgdobbcjkiapkaaFe34
import Derived.Test.YtgdobbcjkiapkaaFe33
import Derived.Test.YtgdobbcjkiapkaaFe04
import Derived.Test.YtgdobbcjkiapkaaFe28
namespace Go.Proofs.Ytgdobbcjkiapkaa
set_option maxRecDepth 100000
set_option maxHeartbeats 4000000
set_option linter.unusedSimpArgs false
set_option linter.unusedVariables false
section
open Go Go.Conc Go.RowKit
theorem Xv {w:World} {a:Option Addr} {n c:Nat} {l:List Int} (hl:AP w a l) (hn:l.length=n) (hm:n≤maxLen) (ha:l=[]∨∀ ad,a=some ad→ad.block < w.heap.size):Calls Try.prog 19 #[.slice a n c] w fun e w'=>∃ hb,e = .returned (.pointer (some ⟨hb,0,none⟩))∧w.heap.size≤hb∧AQ w' hb 0 a n c∧Below w.heap.size w w' :=
 (RF w a n c l hl hn hm ha).mono fun _ _ ⟨h1,h2,h3,_⟩=>⟨_,h1,Nat.le_refl _,h2,h3⟩
def Yz (b:Nat) (t:Ac) (s:DT):Prop:=(Value.slice s.sa t.roads.strips.length s.sc).ownBlock≠some b∧(Value.slice s.pa t.Ae.length s.pc).ownBlock≠some b∧(Value.slice s.ta t.Ag.length s.tc).ownBlock≠some b
theorem BU.far {x:World} {B b:Nat} {t:Ac} {s:DT} (h:BU x B t s) (hb:x.heap.size≤b):Yz b t s:=⟨h.os.Ic hb,h.op.Ic hb,h.ot.Ic hb⟩
theorem BU.Zl {x x':World} {B b:Nat} {t:Ac} {s:DT} (h:BU x B t s) (hG:x.grownBy x' (some b)) (hF:Yz b t s):BU x' B t s:=⟨h.os.grown hG hF.1,h.op.grown hG hF.2.1,h.ot.grown hG hF.2.2⟩
theorem UR {w:World} {hb B:Nat} {ha:Option Addr} {hn hc:Nat} (ns nt:Nat) (hH:AQ w hb B ha hn hc) (hB:B≤900000) (h8:ns≤8) (h6:nt≤6):Calls Try.prog 20 #[.pointer (some ⟨hb,0,none⟩), .int .i64 (ns:Int), .int .i64 (nt:Int)] w (fun e w'=>∃ t s,e = .returned (.agg (EY t s))∧BU w' (hb+1) t s∧Hid (Yf ns nt t)∧AQ w' hb (B+200) ha hn hc∧Ext hb w w') :=
 (Pq hH hB h8 h6).mono fun _ _ ⟨t,s,h1,h2,h3,h4,h5⟩=>⟨t,s,h1,h2.lower (Nat.succ_le_of_lt hH.lt),Lib.hid h3,h4,h5⟩
theorem Dl.pass {w:World} {B:Nat} {la:Option Addr} {lc:Nat} {l:List Au} (h:Dl w B (.slice la l.length lc) l):Fq w la l:=by
 obtain ⟨a,cap,hv,_,_,hp⟩:=h.at;simp only [Value.slice.injEq,true_and] at hv;rw [hv.1];exact hp
end
section
open Go Go.Conc Go.RowKit
theorem Vm {t:Ac} {l:List Au} (h:Dh t l=0):l.length≤maxLen:=by
 have:l.length≤24:=Classical.byContradiction fun c=>by
  unfold Dh at h
  by_cases h1:Ar t≠0
  ·rw [if_pos h1] at h;exact h1 h
  ·rw [if_neg h1,if_pos (by omega)] at h;exact absurd h (by decide)
 exact Nat.le_trans this (by decide)
theorem Xz {w:World} {g n:Nat} {f:Nat→Int} {t:TypeId} (h:Rw w g (KN (Jn f n)) t) {i:Nat} (hi:i < n):w.cell? ⟨g,i,none⟩=some (.int .i64 (f i)):=by
 refine h.cell ?_;rw [LJ (l:=Jn f n) (i:=i) (by rw [LG];exact hi)];simp [Jn]
theorem YK {α:Type} {f:α→List Value} {k:Nat} {w:World} {b:Nat} {c:Array Value} {t:TypeId} {y:α} (K:Rw w b c t) (h:c.toList=f y):C9 f k w (some ⟨b,0,none⟩) [y] :=
 .inr ⟨b,0,rfl,fun i hi j u _ hu=>by
  have:i=0:=by simpa using hi
  subst this;have h2:c[j]? = some u:=by rw [← Array.getElem?_toList,h];exact hu
  simpa using K.cell h2⟩
section
variable {M:Machine} {w:World} {t:Ac} {s:DT} {l:List Au} {la:Option Addr} {lc:Nat}
def WS (w0:World) (L:List Int) (n:Nat) (e:Ending) (w':World):Prop :=
 Below w0.heap.size w0 w'∧∃ g,e = .returned (.tuple #[.slice (some ⟨g,0,none⟩) n n, .int .i64 0])∧w0.heap.size≤g∧Rw w' g (KN L) 3
theorem FO.use {L:List Int} {err:Int} {e:Ending} {w':World} (h:FO w L err e w') (h0:err=0) {n:Nat} (hn:L.length=n):WS w L n e w':=by
 obtain ⟨g,h1,h2,h3⟩:=h.2.2 h0;exact ⟨h.1,g,by rw [h1,hn],h2,h3⟩
theorem Aaz (hT:CZ w t s) (hP:Fq w la l) (ho:Hid (Dh t l=0)):DL Try.prog M 30 #[.agg (EY t s), .slice la l.length lc] w (WS w (Jn (Hy t l) t.Ae.length) t.Ae.length) :=
 (Sz hT hP (Vm ho.out)).mono fun _ _ h=>h.use ho.out (LG _ _)
end
end
section
open Go.RowKit
theorem JG {f g:Nat→Int}:∀ n:Nat,(∀ i,i < n→f i=g i)→Gw f n=Gw g n
 | 0,_=>rfl
 | n+1,h=>by show Gw f n+f n=Gw g n+g n;rw [JG n fun i hi=>h i (by omega),h n (by omega)]
end
section
open Go Go.RowKit
section
variable {α β:Type} {f:α→List Value} {f':β→List Value} {e e':TypeId} {k k':Nat} {w w' x x':World} {B B' b g m n c:Nat} {v v':Value} {l:List α} {l':List β} {cs cur:Array Value} {t:TypeId} {r:Option Nat}
theorem AX.Ro (h:AX f e k x B v l) (hb:v.ownBlock=some g):∃ cur,x.heap[g]? = some (.cells cur e (0,0)):=by
 rcases h.2 with ⟨hv,_⟩ | ⟨g',cap,cur,hv,_,hh,_⟩
 ·rw [hv] at hb;simp [Value.ownBlock] at hb
 ·rw [hv] at hb;simp only [Value.ownBlock,Option.some.injEq] at hb;subst hb;exact ⟨cur,hh⟩
theorem Rw.YL (K:Rw x b cs t) (hg:x.heap[g]? = some (.cells cur e (0,0))) (hne:t≠e):b≠g:=by
 rintro rfl;unfold Rw at K;rw [K] at hg;simp only [Option.some.injEq,Obj.cells.injEq] at hg;exact hne hg.2.1
theorem AX.YL (h:AX f' e' k' x B' v' l') (hg:x.heap[g]? = some (.cells cur e (0,0))) (hne:e'≠e):v'.ownBlock≠some g:=fun hb=>by
 obtain ⟨cur2,h2⟩:=h.Ro hb;rw [h2] at hg;simp only [Option.some.injEq,Obj.cells.injEq] at hg;exact hne hg.2.1
theorem AX.WL (h:AX f e k x B v l) (h':AX f' e' k' x B' v' l') (hne:e'≠e):∀ g,v.ownBlock=some g→v'.ownBlock≠some g:=fun g hg=>by
 obtain ⟨cur,h2⟩:=h.Ro hg;exact h'.YL h2 hne
theorem AX.Ig (h':AX f' e' k' x B' v' l') (hG:x.grownBy x' r) (ha:∀ g,r=some g→v'.ownBlock≠some g):AX f' e' k' x' B' v' l':=by
 refine h'.keep fun q hq=>hG.block q (h'.Ai hq).2 fun e =>?_
 exact ha q e.symm hq
theorem Rw.Ig (K:Rw x b cs t) (hG:x.grownBy x' r) (ha:∀ g,r=some g→b≠g):Rw x' b cs t:=K.grown hG fun e=>ha b e.symm rfl
theorem Ext.Ig (h:Ext m w x) (hG:x.grownBy x' r) (ha:∀ g,r=some g→w.heap.size≤g):Ext m w x' :=
 ⟨hG.os.trans h.os,hG.tape.trans h.tape,hG.output.trans h.output,Nat.le_trans h.size hG.size,fun k hk hne=>(hG.block k (Nat.lt_of_lt_of_le hk h.size) (fun e=>by have:=ha k e.symm;omega)).trans (h.block k hk hne)⟩
theorem AQ.Ig {hb D n ca:Nat} {a:Option Addr} (h:AQ x hb D a n ca) (hG:x.grownBy x' r) (ha:∀ g,r=some g→hb < g):AQ x' hb D a n ca:=h.keep fun k hk hle=>hG.block k hk fun e=>by have:=ha k e.symm;omega
theorem BU.Ig {t:Ac} {s:DT} (h:BU x B t s) (hG:x.grownBy x' r) (h1:∀ g,r=some g→(Value.slice s.sa t.roads.strips.length s.sc).ownBlock≠some g) (h2:∀ g,r=some g→(Value.slice s.pa t.Ae.length s.pc).ownBlock≠some g) (h3:∀ g,r=some g→(Value.slice s.ta t.Ag.length s.tc).ownBlock≠some g):BU x' B t s:=⟨h.os.Ig hG h1,h.op.Ig hG h2,h.ot.Ig hG h3⟩
theorem BU.VE {t:Ac} {s:DT} (h:BU x B t s) (hG:x.grownBy x' v.ownBlock) (ho:AX f e k x B' v l) (h1:96≠e) (h2:69≠e) (h3:57≠e):BU x' B t s :=
 h.Ig hG (ho.WL h.os h1) (ho.WL h.op h2) (ho.WL h.ot h3)
theorem Rw.VE (K:Rw x b cs t) (hG:x.grownBy x' v.ownBlock) (ho:AX f e k x B' v l) (hne:t≠e):Rw x' b cs t:=K.Ig hG fun g hg=>by
 obtain ⟨cur,h2⟩:=ho.Ro hg;exact K.YL h2 hne
end
end
section
open Go Go.Conc Go.RowKit
structure ZM (m ms:List Au):Prop where
 len:ms.length=m.length
 same:∀ i (h:i < m.length) (h':i < ms.length),ms[i].toll=m[i].toll∧ms[i].owner=m[i].owner∧m[i].heads≤ms[i].heads∧ms[i].heads≤40
theorem ZM.ok {nt np:Nat} {m ms:List Au} (h:ZM m ms) (hm:Me nt np m):Me nt np ms:=fun p hp=>by
 obtain ⟨i,hi,rfl⟩:=List.getElem_of_mem hp;have hi2:i < m.length:=by rw [← h.len];exact hi
 have hs:=h.same i hi2 hi;have:=hm m[i] (List.getElem_mem hi2);rw [hs.1,hs.2.1];omega
structure ZL (ts us:List BB):Prop where
 len:us.length=ts.length
 same:∀ i (h:i < ts.length) (h':i < us.length),us[i].strip=ts[i].strip∧us[i].farmer=ts[i].farmer∧ts[i].rate≤us[i].rate∧us[i].rate≤500
theorem ZL.range {ts us:List BB} (h:ZL ts us) (h0:∀ x∈ts,0≤x.rate∧x.rate≤500):∀ u∈us,0≤u.rate∧u.rate≤500:=fun u hu=>by
 obtain ⟨i,hi,rfl⟩:=List.getElem_of_mem hu;have hi2:i < ts.length:=by rw [← h.len];exact hi
 have:=h.same i hi2 hi;have:=h0 _ (List.getElem_mem hi2)
 omega
section
variable {w:World} {t:Ac} {s:DT}
end
section
variable {α:Type} {f:α→List Value} {e:TypeId} {k:Nat} {w:World} {B g c:Nat} {l:List α}
theorem AX.src {a:Option Addr} (h:AX f e k w B (.slice a l.length c) l) (hf:∀ x,(f x).length=k):C9 f k w a l:=by
 obtain ⟨a',c',hv,_,_,hC⟩:=h.cells hf;simp only [Value.slice.injEq,true_and] at hv;obtain ⟨rfl,_⟩:=hv;exact hC
end
end
section
open Go.RowKit
structure Aan (nt np:Nat) (l:List Au) (i:Nat) (ps os:List Au):Prop where
 pl:ps.length≤2*i
 ol:os.length≤i
 pk:Me nt np ps
 ok:Me nt np os
 ps:∀ key,AC ps key=AC (l.take i) key
 os:∀ a b:Int,AC os (a,b)=if b=0 then AC (l.take i) (a,b) else 0
theorem Aan.nil (nt np:Nat) (l:List Au):Aan nt np l 0 [] []:=⟨by simp,by simp,fun p h=>by simp at h,fun p h=>by simp at h,fun key=>by simp [AC],fun a b=>by simp [AC]⟩
end
section
open Go.RowKit
def Chain (t:Ac):List Int→Int→Int→Prop
 | [],a,b=>a=b
 | k :: r,a,b=>(0≤k∧k < (t.roads.strips.length:Int))∧0≤E8 (t.roads.strips.getD k.toNat default) a∧Chain t r (E8 (t.roads.strips.getD k.toNat default) a) b
theorem Chain.app {t:Ac}:∀ {x y:List Int} {a b c:Int},Chain t x a b→Chain t y b c→Chain t (x++y) a c
 | [],y,a,b,c,h,h2=>by obtain rfl:a=b:=h;exact h2
 | k :: x,y,a,b,c,h,h2=>⟨h.1,h.2.1,Chain.app h.2.2 h2⟩
theorem Chain.snoc {t:Ac} {x:List Int} {a b k:Int} (h:Chain t x a b) (h0:0≤k) (h1:k < (t.roads.strips.length:Int)) (h2:0≤E8 (t.roads.strips.getD k.toNat default) b):Chain t (x++[k]) a (E8 (t.roads.strips.getD k.toNat default) b) :=
 h.app ⟨⟨h0,h1⟩,h2,rfl⟩
theorem JC {t:Ac}:∀ {x pre:List Int} {a b:Int} {acc:List Au},Chain t x a b→(pre++x).Nodup→CB t pre x a acc=(acc++x.flatMap (fun k=>Dn t k t.Ag.length),0)
 | [],pre,a,b,acc,_,_=>by simp [CB]
 | k :: x,pre,a,b,acc,h,hn=>by
  have hk:¬ k∈pre:=fun hm=>(List.nodup_append.1 hn).2.2 k hm k (by simp) rfl
  rw [CB,if_neg (by rw [Aj.2 (by have:=h.1;omega)];simp),if_neg hk,if_neg (by have:=h.2.1;omega),JC h.2.2 (by rw [List.append_assoc];exact hn)];simp
def ZE (t:Ac) (way:List Int):List Au:=way.flatMap (fun k=>Dn t k t.Ag.length)
theorem Rx {t:Ac} (hT:Ar t=0) {x:List Int} {a b:Int} (h:Chain t x a b) (hn:x.Nodup) (ha:0≤a∧a < t.roads.stages) (h8:x.length≤8):BO t a x=(ZE t x,0):=by
 rw [(Fb (t:=t)).2.2.2 hT (Aj.2 (by omega)) (by omega),JC h (by simpa using hn)]
 rfl
theorem Ky {α β:Type} (f g:α→List β):∀ x:List α,(x.flatMap fun k=>f k++g k).length=(x.flatMap f).length+(x.flatMap g).length
 | []=>rfl
 | k :: x=>by
  have:=Ky f g x;simp only [List.flatMap_cons,List.length_append] at this ⊢
  omega
end
section
open Go Go.RowKit
section
variable {w:World} {B g c:Nat} {a:Option Addr} {l:List Int} {v:Value}
theorem PU (l:List Int):∀ y∈l,∀ u∈[Value.int .i64 y],u.oneCell'=true:=fun y _ u hu=>by simp at hu;subst hu;rfl
theorem CO.ints (h:CO w B (.slice a l.length c) l):AP w a l:=by
 rcases AX.src h (fun _=>rfl) with h0 | ⟨b,o,ha,hc⟩
 ·exact .inl h0
 ·exact .inr ⟨b,o,ha,fun i hi=>by have:=hc i hi 0 _ (by omega) rfl;simpa using this⟩
theorem CO.len (h:CO w B (.slice a l.length c) l):l.length≤c∧c≤maxLen:=by
 obtain ⟨a',c',hv,h1,h2,_⟩:=AX.cells h (fun _=>rfl);simp only [Value.slice.injEq,true_and] at hv;rw [hv.2];exact ⟨h1,h2⟩
end
end
section
open Go.RowKit
theorem Vz:Try.f63.body=some (Code.seq (Aa Try.f63 0) (Code.seq (Code.seq (Aa Try.f63 1) (Code.cond (Operand.tmp 8) (Code.seq (Aa Try.f63 2) Code.ret) Code.skip)) (Code.seq (Code.seq (Aa Try.f63 3) (Code.cond (Operand.tmp 14) (Code.seq (Aa Try.f63 4) Code.ret) Code.skip)) (Code.seq (Aa Try.f63 5) Code.ret)))):=by kernel_rfl
theorem RX {w:World} {s:Strip} {at_:Int}:Calls Try.prog 63 #[.agg #[.int .i64 s.A, .int .i64 s.B, .int .i64 s.L, .int .i64 s.W, .int .i64 s.K, .int .i64 s.X, .int .i64 s.Y], .int .i64 at_] w (fun e w'=>e = .returned (.int .i64 (E8 s at_))∧Below w.heap.size w w'):=by
 have hB:=Below.refl w.heap.size w;refine KQ Try.func63 Vz Try.ntmps63 ?_;intro a Z;refine wsr ?_;refine Z.s ?_;clear Z;intro a Z;refine Af (G:=fun W=>wpOps _ _ _ _ _ W) ?_;obtain ⟨b2,hg⟩:∃ b,b=w.heap.size:=⟨_,rfl⟩;intro x hz K2 hb2;rw [← hg] at Z K2;have hhB2:w.heap.size≤b2:=by rw [hg];exact hB.size
 replace hB:=hB.trans (hb2.mono hB.size);clear hz hg hb2;refine Z.s ?_;clear Z;intro a Z;refine od ?_;refine wp_seq ?_;refine wsr ?_;refine Z.s ?_;clear Z;intro a Z;refine Z.rv rfl rfl rfl (by decide) (AZ rfl (Z.ev 5 rfl) Try.underlying3 rfl (K2.cell (o:=0) (v := .int .i64 s.A) rfl)) ?_;clear Z;intro a Z;refine Z.s ?_;clear Z;intro a Z
 by_cases h1:s.A=at_
 ·have q1:(s.A == at_)=true:=by simp [h1]
  have H1:=Lib.hid h1;clear h1;refine Z.s ?_;clear Z;intro a Z;refine od ?_;refine wp_cond_true (Z.ev 8 rfl) ?_;refine wsr ?_;refine Z.s ?_;clear Z;intro a Z;refine Z.rv rfl rfl rfl (by decide) (AZ rfl (Z.ev 9 rfl) Try.underlying3 rfl (K2.cell (o:=1) (v := .int .i64 s.B) rfl)) ?_;clear Z;intro a Z;refine Z.s ?_;clear Z;intro a Z;refine od ?_;refine wp_ret ?_
  try simp only [Exit.then,Exit.inBlock]
  have HR:=Lib.hid (show E8 s at_=s.B from by unfold E8;rw [if_pos H1.out.symm]);rw [HR.out];refine bodyPost_ret (v := .int .i64 s.B) ?_ Z.defers ⟨rfl,hB⟩;simp [results,Try.results63,Z.get 4 _ rfl]
 ·have q1:(s.A == at_)=false:=by simp [h1]
  have H1:=Lib.hid h1;clear h1;refine Z.s ?_;clear Z;intro a Z;refine od ?_;refine wp_cond_false (Z.ev 8 rfl) ?_;refine wp_skip ?_;refine wp_seq ?_;refine wsr ?_;refine Z.s ?_;clear Z;intro a Z;refine Z.rv rfl rfl rfl (by decide) (AZ rfl (Z.ev 11 rfl) Try.underlying3 rfl (K2.cell (o:=1) (v := .int .i64 s.B) rfl)) ?_;clear Z;intro a Z;refine Z.s ?_;clear Z;intro a Z
  by_cases h2:s.B=at_
  ·have q2:(s.B == at_)=true:=by simp [h2]
   have H2:=Lib.hid h2;clear h2;refine Z.s ?_;clear Z;intro a Z;refine od ?_;refine wp_cond_true (Z.ev 14 rfl) ?_;refine wsr ?_;refine Z.s ?_;clear Z;intro a Z;refine Z.rv rfl rfl rfl (by decide) (AZ rfl (Z.ev 15 rfl) Try.underlying3 rfl (K2.cell (o:=0) (v := .int .i64 s.A) rfl)) ?_;clear Z;intro a Z;refine Z.s ?_;clear Z;intro a Z;refine od ?_;refine wp_ret ?_
   try simp only [Exit.then,Exit.inBlock]
   have HR:=Lib.hid (show E8 s at_=s.A from by unfold E8;rw [if_neg (fun h=>H1.out h.symm),if_pos H2.out.symm]);rw [HR.out];refine bodyPost_ret (v := .int .i64 s.A) ?_ Z.defers ⟨rfl,hB⟩;simp [results,Try.results63,Z.get 4 _ rfl]
  ·have q2:(s.B == at_)=false:=by simp [h2]
   have H2:=Lib.hid h2;clear h2;refine Z.s ?_;clear Z;intro a Z;refine od ?_;refine wp_cond_false (Z.ev 14 rfl) ?_;refine wp_skip ?_;refine wsr ?_;refine Z.s ?_;clear Z;intro a Z;refine od ?_;refine wp_ret ?_
   try simp only [Exit.then,Exit.inBlock]
   have HR:=Lib.hid (show E8 s at_=(-1) from by unfold E8;rw [if_neg (fun h=>H1.out h.symm),if_neg (fun h=>H2.out h.symm)]);rw [HR.out];refine bodyPost_ret (v := .int .i64 (-1)) ?_ Z.defers ⟨rfl,hB⟩;simp [results,Try.results63,Z.get 4 _ rfl]
def WR (t:Ac) (way:List Int) (at_:Int) (nx:List Int):Prop:=∀ k∈nx,(0≤k∧k < (t.roads.strips.length:Int))∧0≤E8 (t.roads.strips.getD k.toNat default) at_∧¬ k∈way
theorem WR.add {t:Ac} {way:List Int} {at_:Int} {nx:List Int} (h:WR t way at_ nx) {k:Nat} (hk:k < t.roads.strips.length) (h1:0≤E8 t.roads.strips[k] at_) (h2:¬ (k:Int)∈way):WR t way at_ (nx++[(k:Int)]):=fun x hx=>by
 rcases List.mem_append.1 hx with hx | hx
 ·exact h x hx
 ·rw [List.mem_singleton.1 hx];refine ⟨by omega,?_,h2⟩;have e:t.roads.strips.getD ((k:Int)).toNat default=t.roads.strips[k]:=by simp [List.getD_eq_getElem?_getD,hk]
  rw [e];exact h1
theorem WW {way:List Int} {k:Int} (h:way.Nodup) (hk:¬ k∈way):(way++[k]).Nodup:=List.nodup_append.2 ⟨h,by simp,fun a ha b hb e=>by rw [List.mem_singleton.1 hb] at e;exact hk (e ▸ ha)⟩
theorem QU:Try.f22.body=some (Code.seq (Aa Try.f22 0) (Code.seq (Aa Try.f22 1) (Code.seq (Code.seq (Aa Try.f22 2) (Code.block 0 (Code.loop (Code.seq (Code.seq (Aa Try.f22 3) (Code.cond (Operand.tmp 16) Code.skip (Code.exit 0))) (Code.seq (Code.block 1 (Code.seq (Aa Try.f22 5) (Code.seq (Code.seq (Aa Try.f22 6) (Code.block 2 (Code.loop (Code.seq (Code.seq (Aa Try.f22 7) (Code.cond (Operand.tmp 24) Code.skip (Code.exit 2))) (Code.seq (Code.block 3 (Code.seq (Aa Try.f22 9) (Code.cond (Operand.tmp 41) (Aa Try.f22 10) Code.skip))) (Aa Try.f22 8)))))) (Code.seq (Code.seq (Aa Try.f22 11) (Code.cond (Operand.tmp 48) (Code.seq (Aa Try.f22 12) Code.ret) Code.skip)) (Code.seq (Aa Try.f22 13) (Aa Try.f22 14)))))) (Aa Try.f22 4)))))) (Code.seq (Aa Try.f22 15) Code.ret)))):=by kernel_rfl
theorem Ri {w:World} {hb B:Nat} {ha:Option Addr} {hn hc:Nat} {t:Ac} {s:DT} {fr:Int} (hH:AQ w hb B ha hn hc) (hB:B≤900000) (hO:BU w (hb+1) t s) (h8:t.roads.strips.length≤100):Calls Try.prog 22 #[.pointer (some ⟨hb,0,none⟩), .agg (EY t s), .int .i64 fr] w (fun e w'=>∃ way wa wc to_,e = .returned (.tuple #[.slice wa way.length wc, .int .i64 to_])∧CO w' w.heap.size (.slice wa way.length wc) way∧way.length≤4∧way.Nodup∧Chain t way fr to_∧AQ w' hb (B+5) ha hn hc∧Ext hb w w'):=by
 obtain ⟨sa,sc,pa,pc,ta,tc⟩:=s;have hE1:=Ext.refl hb w;have hhx:hb < w.heap.size:=hH.lt;refine OW Try.func22 QU Try.ntmps22 ?_;intro a Z;refine wsr ?_;refine Z.s ?_;clear Z;intro a Z;refine Af (G:=fun W=>wpOps _ _ _ _ _ W) ?_;obtain ⟨b4,hg⟩:∃ b,b=w.heap.size:=⟨_,rfl⟩;have hh_b4:hb < b4:=by rw [hg];exact hH.lt
 intro x hz K4 hb2;rw [← hg] at Z K4;have hhE14:w.heap.size≤b4:=by rw [hg];exact hE1.size
 replace hE1:=hE1.bel hb2;replace hH:=hH.below hb2;replace hO:=hO.below hb2;clear hz hg hb2;(iterate 2 refine Z.s ?_;clear Z;intro a Z);refine od ?_;refine wsr ?_;refine Z.s ?_;clear Z;intro a Z;refine od ?_;refine wp_seq ?_;refine wsr ?_;refine Z.s ?_;clear Z;intro a Z;refine og fun K hK =>?_
 have e13:=Z.g 13;unfold Oper.wp;go_simp;refine (BX _ _ _ _ _ _ hH (by omega) (4) (by omega) (by omega)).mono ?_;rintro e x ⟨_,⟨z14,p14,q14,rfl⟩,rfl,hH,hE2⟩;replace hE1:=hE1.trans hE2;replace hO:=hO.ext hE2 (by omega);replace K4:=K4.ext hE2 (by omega);clear hE2;clear e13;refine Z.K hK ?_;clear Z hK;intro a Z;refine Z.s ?_;clear Z;intro a Z;refine od ?_;refine wp_block ?_;obtain ⟨m,rfl⟩:∃ m:Nat,z14=(m:Int):=⟨z14.toNat,by omega⟩;have hm4:m≤4:=by omega
 have hW:CO x w.heap.size (.slice none ([]:List Int).length 0) []:=AX.nil;have HD:Hid (([]:List Int).Nodup):=Lib.hid List.nodup_nil;have HC:Hid (Chain t [] fr fr):=Lib.hid rfl;have hH0:=hH.more (B':=B+5-m) (by omega);refine wp_loop_ghost (fun n p x=>∃ (way:List Int) (wa:Option Addr) (wc:Nat) (at_:Int),n≤4∧way.length+n≤4∧Hid way.Nodup∧Hid (Chain t way fr at_)∧Sl p 73 [(9, .int .i64 (n:Int)),(8, .slice wa way.length wc),(2, .int .i64 at_),(0, .pointer (some ⟨hb,0,none⟩)),(4, .pointer (some ⟨b4,0,none⟩))]∧Ext hb w x∧AQ x hb (B+5-n) ha hn hc∧BU x (hb+1) t ⟨sa,sc,pa,pc,ta,tc⟩∧CO x w.heap.size (.slice wa way.length wc) way∧Rw x b4 (EY t ⟨sa,sc,pa,pc,ta,tc⟩) 28) m ⟨[],none,0,fr,hm4,by simpa using hm4,HD,HC,Z.sb,hE1,hH0,hO,hW,K4⟩ ?_;clear Z hE1 hH hH0 hO hW K4 HD HC hm4;rintro n a x ⟨way,wa,wc,at_,hn4,hwn,HD,HC,Z,hE1,hH,hO,hW,K4⟩;refine wp_seq ?_;refine wsr ?_;refine Z.s ?_;clear Z;intro a Z
 by_cases h0:0 < n
 ·have q0:(0:Int) < (n:Int):=by omega
  refine Z.s ?_;clear Z;intro a Z;refine od ?_;refine wp_cond_true (Z.ev 16 rfl) ?_;refine wp_skip ?_;refine wp_seq ?_;refine wp_block ?_;refine wsr ?_;refine Z.s ?_;clear Z;intro a Z;refine od ?_;refine wp_seq ?_;refine wsr ?_;refine Z.s ?_;clear Z;intro a Z;refine od ?_;refine wp_block ?_;have hhx1:hb < x.heap.size:=hH.lt;have hWx:w.heap.size≤x.heap.size:=hE1.size;obtain ⟨x1,hx0⟩:∃ q,q=x:=⟨_,rfl⟩;rw [← hx0] at hE1 hH hO hW K4 ⊢;clear hx0;have K40:Rw x1 b4 #[.int .i64 t.roads.days, .int .i64 t.roads.stages, .slice sa t.roads.strips.length sc, .int .i64 t.pace, .slice pa t.Ae.length pc, .slice ta t.Ag.length tc] 28:=K4;have hO0:BU x1 (hb+1) t ⟨sa,sc,pa,pc,ta,tc⟩:=hO;have hH0:AQ x1 hb (B+5-n) ha hn hc:=hH;have hW0:CO x1 w.heap.size (.slice wa way.length wc) way:=hW;clear hH;clear hO;clear hW;clear K4;have hB1:=Below.refl x1.heap.size x1;replace hhx1:hb < x1.heap.size:=hH0.lt;replace hWx:w.heap.size≤x1.heap.size:=hE1.size;have hN:CO x1 x1.heap.size (.slice none ([]:List Int).length 0) []:=AX.nil;have HNX:Hid (WR t way at_ []):=Lib.hid (fun k h=>by simp at h)
  refine wp_loop_ghost (fun r p x=>∃ (k:Nat) (nx:List Int) (na:Option Addr) (nc:Nat),k+r=t.roads.strips.length∧Hid (WR t way at_ nx)∧nx.length≤k∧Sl p 73 [(11, .int .i64 (k:Int)),(10, .slice na nx.length nc),(0, .pointer (some ⟨hb,0,none⟩)),(2, .int .i64 at_),(4, .pointer (some ⟨b4,0,none⟩)),(8, .slice wa way.length wc),(9, .int .i64 (n:Int))]∧Below x1.heap.size x1 x∧CO x x1.heap.size (.slice na nx.length nc) nx) t.roads.strips.length ⟨0,[],none,0,by omega,HNX,by simp,Z.sb,hB1,hN⟩ ?_;clear Z hB1 hN HNX;rintro r a x ⟨k,nx,na,nc,hkr,HNX,hnk,Z,hB1,hN⟩;have K4:=K40.below hB1;have hO:=hO0.below hB1;have hH:=hH0.below hB1;have hW:=hW0.below hB1;refine wp_seq ?_;refine wsr ?_;(iterate 3 refine Z.s ?_;clear Z;intro a Z);refine Z.rv rfl rfl rfl (by decide) (AZ rfl (Z.ev 21 rfl) Try.underlying22 rfl (K4.cell (o:=2) (v := .slice sa t.roads.strips.length sc) rfl)) ?_;clear Z;intro a Z;refine Z.s ?_;clear Z;intro a Z
  by_cases hkl:k < t.roads.strips.length
  ·have q1:(k:Int) < (t.roads.strips.length:Int):=by omega
   refine Z.s ?_;clear Z;intro a Z;refine od ?_;refine wp_cond_true (Z.ev 24 rfl) ?_;refine wp_skip ?_;refine wp_seq ?_;refine wp_block ?_;refine wp_seq ?_;obtain ⟨sb,so,hsa,_⟩:=hO.tar.strips.at hkl;replace hsa:sa=some ⟨sb,so,none⟩:=hsa;subst hsa;have qk:(k:Int) < (t.roads.strips.length:Int):=by omega
   refine wr ?_;(iterate 2 refine Z.s ?_;clear Z;intro a Z);refine Z.rv rfl rfl rfl (by decide) (AZ rfl (Z.ev 28 rfl) Try.underlying22 rfl (K4.cell (o:=2) (v := .slice (some ⟨sb,so,none⟩) t.roads.strips.length sc) rfl)) ?_;clear Z;intro a Z;(iterate 2 refine Z.s ?_;clear Z;intro a Z);refine og fun K hK =>?_
   have e31:=Z.g 31;obtain ⟨sb_,so_,hse_,d0,d1,d2,d3,d4,d5,d6⟩:=hO.tar.strips.at hkl;simp only [Option.some.injEq,Addr.mk.injEq,and_true] at hse_;obtain ⟨rfl,rfl⟩:=hse_;unfold Oper.wp;go_simp;clear e31;refine Z.K hK ?_;clear Z hK;intro a Z;refine Z.s ?_;clear Z;intro a Z;refine og fun K hK =>?_
   have e32:=Z.g 32;have e33:=Z.g 33;unfold Oper.wp;go_simp;refine (RX (s:=t.roads.strips[k])).mono ?_;rintro e x ⟨rfl,hb2⟩;replace hB1:=hB1.trans (hb2.mono hB1.size);replace hN:=hN.below hb2;replace K4:=K4.below hb2;replace hO:=hO.below hb2;replace hH:=hH.below hb2;replace hW:=hW.below hb2;clear hb2;clear e32 e33;refine Z.K hK ?_;clear Z hK;intro a Z
   by_cases hf:0≤E8 t.roads.strips[k] at_
   ·have qf:(0:Int)≤E8 t.roads.strips[k] at_:=hf;(iterate 2 refine Z.s ?_;clear Z;intro a Z);(iterate 2 refine Z.t ?_;clear Z;intro a Z);refine oW (Z.g 36) fun K hK =>?_
    have e37:=Z.g 37;have e38:=Z.g 38;unfold Oper.wp;go_simp;refine (WP _ _ _ _ (CO.ints hW) (by unfold maxLen;omega) _).mono ?_;rintro e x2 ⟨pv,rfl,hpo,hxe⟩;subst hxe;clear e37 e38;refine Z.K hK ?_;clear Z hK;intro a Z
    by_cases hp:pv < 0
    ·have qp:pv < 0:=hp;refine Z.t ?_;clear Z;intro a Z;refine Z.s ?_;clear Z;intro a Z;refine od ?_;refine wp_cond_true (Z.ev 41 rfl) ?_;refine wr ?_;(iterate 3 refine Z.s ?_;clear Z;intro a Z);refine Af (G:=fun W=>wpOps _ _ _ _ _ W) ?_;obtain ⟨b44,hg⟩:∃ b,b=x.heap.size:=⟨_,rfl⟩;intro x hz K44 hb2;rw [← hg] at Z K44;have hhB144:x1.heap.size≤b44:=by rw [hg];exact hB1.size
     have h4_44:b4 < b44:=by rw [hg];exact K4.lt
     replace hB1:=hB1.trans (hb2.mono hB1.size);replace hN:=hN.below hb2;replace K4:=K4.below hb2;replace hO:=hO.below hb2;replace hH:=hH.below hb2;replace hW:=hW.below hb2;clear hz hg hb2;refine og fun K hK =>?_
     have e42:=Z.g 42;have e44:=Z.g 44;refine O6 (k:=1) (A:=some ⟨b44,0,none⟩) (c:=1) (ys:=[(k:Int)]) 29 (.tmp 42) (.tmp 44) Try.underlying29 (z := .int .i64 0) (bytes:=8) (by kernel_rfl) rfl (by decide) (by decide) rfl (by simp [Act.eval,Array.getD_eq_getD_getElem?,e42]) hN (by simp [Act.eval,Array.getD_eq_getD_getElem?,e44]) (YK (f:=fun x:Int=>[Value.int .i64 x]) K44 (by rfl)) (fun _=>rfl) (PU _) (by simp;omega) (hB1.size) ?_;intro v_ xx hN2 hG _ _;replace hB1:=hB1.grown hG hB1.size (fun k_ hk_=>(hN.Ai hk_).1);obtain ⟨na2,nc2,rfl,_,_,_⟩:=hN2.cells (fun _=>rfl);clear hG hN K4 hO hH hW K44;have hN:=hN2;clear hN2;obtain ⟨x,hx2⟩:∃ x,x=xx:=⟨_,rfl⟩;rw [← hx2] at hB1 hN ⊢;clear hx2;have K4:=K40.below hB1;have hO:=hO0.below hB1;have hH:=hH0.below hB1;have hW:=hW0.below hB1;clear e42 e44;refine Z.K hK ?_;clear Z hK;intro a Z;refine Z.s ?_;clear Z;intro a Z;refine od ?_;refine wr ?_;refine Z.s ?_;clear Z;intro a Z;refine og fun K hK =>?_
     have e25:=Z.g 25;have hw26:=IntWalk.i64_in ((k:Int)+1) (by omega);unfold Oper.wp;go_simp;clear e25;refine Z.K hK ?_;clear Z hK;intro a Z;refine Z.s ?_;clear Z;intro a Z;refine od ?_;have HN2:=Lib.hid (HNX.out.add hkl hf ((O0.neg hpo).1 hp));exact ⟨r-1,by omega,k+1,_,na2,nc2,by omega,HN2,by simp only [List.length_append,List.length_cons,List.length_nil];omega,Z.sb,hB1,hN⟩
    ·have qp:¬ pv < 0:=hp;refine Z.t ?_;clear Z;intro a Z;refine Z.s ?_;clear Z;intro a Z;refine od ?_;refine wp_cond_false (Z.ev 41 rfl) ?_;refine wp_skip ?_;refine wr ?_;refine Z.s ?_;clear Z;intro a Z;refine og fun K hK =>?_
     have e25:=Z.g 25;have hw26:=IntWalk.i64_in ((k:Int)+1) (by omega);unfold Oper.wp;go_simp;clear e25;refine Z.K hK ?_;clear Z hK;intro a Z;refine Z.s ?_;clear Z;intro a Z;refine od ?_;exact ⟨r-1,by omega,k+1,nx,na,nc,by omega,HNX,by omega,Z.sb,hB1,hN⟩
   ·have qf:¬ (0:Int)≤E8 t.roads.strips[k] at_:=hf;(iterate 2 refine Z.s ?_;clear Z;intro a Z);refine Z.z ?_;clear Z;intro a Z;refine Z.z ?_;clear Z;intro a Z;refine Z.z ?_;clear Z;intro a Z;refine Z.z ?_;clear Z;intro a Z;refine Z.s ?_;clear Z;intro a Z;refine od ?_;refine wp_cond_false (Z.ev 41 rfl) ?_;refine wp_skip ?_;refine wr ?_;refine Z.s ?_;clear Z;intro a Z;refine og fun K hK =>?_
    have e25:=Z.g 25;have hw26:=IntWalk.i64_in ((k:Int)+1) (by omega);unfold Oper.wp;go_simp;clear e25;refine Z.K hK ?_;clear Z hK;intro a Z;refine Z.s ?_;clear Z;intro a Z;refine od ?_;exact ⟨r-1,by omega,k+1,nx,na,nc,by omega,HNX,by omega,Z.sb,hB1,hN⟩
  ·have q1:¬ (k:Int) < (t.roads.strips.length:Int):=by omega
   obtain rfl:k=t.roads.strips.length:=by omega
   refine Z.s ?_;clear Z;intro a Z;refine od ?_;refine wp_cond_false (Z.ev 24 rfl) ?_;refine wp_exit ?_;have hE1n:=hE1.bel hB1;clear hE1 hB1 K40 hO0 hH0 hW0;have hE1:=hE1n;clear hE1n;refine wp_seq ?_;refine wsr ?_;(iterate 2 refine Z.s ?_;clear Z;intro a Z)
   by_cases hz:nx.length=0
   ·have qz:((nx.length:Int) == 0)=true:=by rw [beq_iff_eq];omega
    have HZ:=Lib.hid hz;clear hz;refine Z.s ?_;clear Z;intro a Z;refine od ?_;refine wp_cond_true (Z.ev 48 rfl) ?_;refine wsr ?_;(iterate 4 refine Z.s ?_;clear Z;intro a Z);refine od ?_;refine wp_ret ?_
    try simp only [Exit.then,Exit.inBlock]
    refine bodyPost_ret (v := .tuple #[.slice wa way.length wc, .int .i64 at_]) ?_ Z.defers ⟨way,wa,wc,at_,rfl,hW,by omega,HD.out,HC.out,hH.more (by omega),hE1⟩;simp [results,Try.results22,Z.get 6 _ rfl,Z.get 7 _ rfl]
   ·have qz:((nx.length:Int) == 0)=false:=by rw [beq_eq_false_iff_ne];omega
    have HZ:=Lib.hid hz;clear hz;refine Z.s ?_;clear Z;intro a Z;refine od ?_;refine wp_cond_false (Z.ev 48 rfl) ?_;refine wp_skip ?_;refine wp_seq ?_;have hnz:=HZ.out;have hnp:0 < nx.length:=by omega
    refine wr ?_;(iterate 4 refine Z.s ?_;clear Z;intro a Z);refine og fun K hK =>?_
    have e54:=Z.g 54;have hw55:=IntWalk.i64_in ((nx.length:Int)-1) (by omega);unfold Oper.wp;go_simp;clear e54;refine Z.K hK ?_;clear Z hK;intro a Z;refine og fun K hK =>?_
    have e52:=Z.g 52;have e55:=Z.g 55;unfold Oper.wp;go_simp;refine (BX _ _ _ _ _ _ hH (by omega) (((nx.length:Int)-1)) (by omega) (by omega)).mono ?_;rintro e x ⟨_,⟨z56,p56,q56,rfl⟩,rfl,hH,hE2⟩;replace hE1:=hE1.trans hE2;replace hO:=hO.ext hE2 (by omega);replace hW:=hW.ext hE2 (by omega);replace hN:=hN.ext hE2 (by omega);replace K4:=K4.ext hE2 (by omega);clear hE2;clear e52 e55;refine Z.K hK ?_;clear Z hK;intro a Z;obtain ⟨ix,rfl⟩:∃ ix:Nat,z56=(ix:Int):=⟨z56.toNat,by omega⟩;have hil:ix < nx.length:=by omega
    have qi:(ix:Int) < (nx.length:Int):=by omega
    have hnk:=HNX.out nx[ix] (List.getElem_mem hil);obtain ⟨kk,hkk⟩:∃ kk:Nat,nx[ix]=(kk:Int):=⟨nx[ix].toNat,by omega⟩
    have cn:∃ nb no,na=some ⟨nb,no,none⟩∧x.cell? ⟨nb,no+ix,none⟩=some (.int .i64 (kk:Int)):=by
     rcases CO.ints hN with h0 | ⟨nb,no,h1,h2⟩
     ·rw [h0] at hil;simp at hil
     ·exact ⟨nb,no,h1,by have h3:=h2 ix hil;rw [hkk] at h3;exact h3⟩
    obtain ⟨nb,no,hna,cn⟩:=cn;subst hna;rw [hkk] at hnk;have hkkl:kk < t.roads.strips.length:=by omega
    have HNK:=Lib.hid hnk;clear hnk hkk;obtain ⟨sb,so,hsa,_⟩:=hO.tar.strips.at hkkl;replace hsa:sa=some ⟨sb,so,none⟩:=hsa;subst hsa;have qkk:(kk:Int) < (t.roads.strips.length:Int):=by omega
    refine Z.s ?_;clear Z;intro a Z;refine Z.rv rfl rfl rfl (by decide) (AZ rfl (Z.ev 57 rfl) Try.underlying3 rfl (cn)) ?_;clear Z;intro a Z;clear cn hN;refine Z.s ?_;clear Z;intro a Z;refine od ?_;have hb2:Below x.heap.size x x.drew:=(Below.refl _ _).drew;replace hE1:=hE1.bel hb2;replace hH:=hH.below hb2;replace hO:=hO.below hb2;replace hW:=hW.below hb2;replace K4:=K4.below hb2;refine UE [[],[],[1],[0,1,2],[],[4],[4,5],[],[4,5,6,7],[4,5,6,7,8],[],[0,1,2,3,4,5,6,7,8,9,10],[0,1,2,3,4,5,6,7,8,9,10,11],[0,1,2,3,4,5,6,7,8,9,10,11,12]] (fun i=>[2,3,11].contains i) (fun y=>Rw y b4 #[.int .i64 t.roads.days, .int .i64 t.roads.stages, .slice (some ⟨sb,so,none⟩) t.roads.strips.length sc, .int .i64 t.pace, .slice pa t.Ae.length pc, .slice ta t.Ag.length tc] 28∧BU y (hb+1) t ⟨some ⟨sb,so,none⟩,sc,pa,pc,ta,tc⟩) 11 rfl (by kernel_rfl) (of_decide_eq_true (by kernel_rfl)) (by kernel_rfl) [11,12,13] (by kernel_rfl) ⟨K4,hO⟩ ?_;clear hb2;obtain ⟨x,hx2⟩:∃ q,q=x.drew:=⟨_,rfl⟩;rw [← hx2] at hE1 hH hO hW K4 ⊢;clear hx2;refine CJ (i:=0) rfl rfl (by kernel_rfl) (by kernel_rfl) (by kernel_rfl) ⟨K4,hO⟩ ?_;refine Z.amv rfl rfl rfl (.inl rfl) rfl (by decide) rfl ?_;clear Z;intro a Z;refine CJ (i:=1) rfl rfl (by kernel_rfl) (by kernel_rfl) (by kernel_rfl) ⟨K4,hO⟩ ?_
    refine Z.amv rfl rfl rfl (.inl rfl) rfl (by decide) rfl ?_;clear Z;intro a Z;refine CJ (i:=4) rfl rfl (by kernel_rfl) (by kernel_rfl) (by kernel_rfl) ⟨K4,hO⟩ ?_;refine Z.ar rfl rfl rfl rfl (by decide) ⟨?_,fun y hy K hK =>?_,?_⟩;rotate_left
    ·have e4:=Z.g 4;unfold EQ;go_simp;exact hK
    clear Z;intro a Z;refine CJ (i:=5) rfl rfl (by kernel_rfl) (by kernel_rfl) (by kernel_rfl) ⟨K4,hO⟩ ?_;refine Z.ar rfl rfl rfl rfl (by decide) ⟨?_,fun y hy K hK =>?_,?_⟩;rotate_left
    ·have e63:=Z.g 63;unfold EQ;go_simp;exact hK
    clear Z;intro a Z;refine CJ (i:=6) rfl rfl (by kernel_rfl) (by kernel_rfl) (by kernel_rfl) ⟨K4,hO⟩ ?_;refine Z.ar rfl rfl rfl rfl (by decide) ⟨?_,fun y hy K hK =>?_,?_⟩;rotate_left
    ·have e64:=Z.g 64;obtain ⟨K4,hO⟩:=hy;refine F8 (AZ rfl (Z.ev 64 rfl) Try.underlying22 rfl (K4.cell (o:=2) (v := .slice (some ⟨sb,so,none⟩) t.roads.strips.length sc) rfl)) ?_;exact hK
    clear Z;intro a Z;refine CJ (i:=7) rfl rfl (by kernel_rfl) (by kernel_rfl) (by kernel_rfl) ⟨K4,hO⟩ ?_;refine Z.amv rfl rfl rfl (.inl rfl) rfl (by decide) rfl ?_;clear Z;intro a Z;refine CJ (i:=8) rfl rfl (by kernel_rfl) (by kernel_rfl) (by kernel_rfl) ⟨K4,hO⟩ ?_;refine Z.ar rfl rfl rfl rfl (by decide) ⟨?_,fun y hy K hK =>?_,?_⟩;rotate_left
    ·have e65:=Z.g 65;have e66:=Z.g 66;unfold EQ;go_simp;exact hK
    clear Z;intro a Z;refine CJ (i:=9) rfl rfl (by kernel_rfl) (by kernel_rfl) (by kernel_rfl) ⟨K4,hO⟩ ?_;refine Z.ar rfl rfl rfl rfl (by decide) ⟨?_,fun y hy K hK =>?_,?_⟩;rotate_left
    ·have e67:=Z.g 67;obtain ⟨K4,hO⟩:=hy;obtain ⟨sb_,so_,hse_,d0,d1,d2,d3,d4,d5,d6⟩:=hO.tar.strips.at hkkl;simp only [Option.some.injEq,Addr.mk.injEq,and_true] at hse_;obtain ⟨rfl,rfl⟩:=hse_;unfold EQ;go_simp;exact hK
    clear Z;intro a Z;refine CJ (i:=10) rfl rfl (by kernel_rfl) (by kernel_rfl) (by kernel_rfl) ⟨K4,hO⟩ ?_;refine Z.amv rfl rfl rfl (.inl rfl) rfl (by decide) rfl ?_;clear Z;intro a Z;refine Hf (i:=2) (by kernel_rfl) ?_;refine Z.ae rfl rfl rfl rfl (by decide) (fun K hK =>?_);have e60:=Z.g 60;unfold BP;go_simp;refine Af (G:=fun W=>K _ W) ?_;obtain ⟨b61,hg⟩:∃ b,b=x.heap.size:=⟨_,rfl⟩;have hh_b61:hb < b61:=by rw [hg];exact hH.lt
    intro x hz K61 hb2;rw [← hg] at K61 ⊢;have hhE161:w.heap.size≤b61:=by rw [hg];exact hE1.size
    have h4_61:b4 < b61:=by rw [hg];exact K4.lt
    replace hE1:=hE1.bel hb2;replace hH:=hH.below hb2;replace hO:=hO.below hb2;replace hW:=hW.below hb2;replace K4:=K4.below hb2;clear hz hg hb2;clear e60;refine hK _ _ ⟨K4,hO⟩ ?_;clear Z hK;intro a Z;refine Hf (i:=3) (by kernel_rfl) ?_;refine Z.ae rfl rfl rfl rfl (by decide) (fun K hK =>?_);have e59:=Z.g 59;have e61:=Z.g 61;have hWo:=hW;clear hW;refine Ug (k:=1) (A:=some ⟨b61,0,none⟩) (c:=1) (ys:=[(kk:Int)]) 29 (.tmp 59) (.tmp 61) Try.underlying29 (z := .int .i64 0) (bytes:=8) (by kernel_rfl) rfl (by decide) (by decide) rfl (by simp [Act.eval,Array.getD_eq_getD_getElem?,e59]) hWo (by simp [Act.eval,Array.getD_eq_getD_getElem?,e61]) (YK (f:=fun x:Int=>[Value.int .i64 x]) K61 rfl) (fun _=>rfl) (PU _) (by first | omega | (simp;omega)) (hE1.size) ?_;intro v_ xx hN_ hG _ _;replace hE1:=hE1.Ig hG (fun g_ hg_=>(hWo.Ai hg_).1);replace hH:=hH.Ig hG (fun g_ hg_=>Nat.lt_of_lt_of_le hhx (hWo.Ai hg_).1);replace hO:=hO.VE hG hWo (by decide) (by decide) (by decide);replace K4:=K4.VE hG hWo (by decide);obtain ⟨wa2,wc2,rfl,_,_,_⟩:=hN_.cells (fun _=>rfl);clear hG K61 hWo;have hW:=hN_;clear hN_;obtain ⟨x,hx2⟩:∃ x,x=xx:=⟨_,rfl⟩;rw [← hx2] at hE1 hH hO K4 hW ⊢;clear hx2;clear e59 e61;refine hK _ _ ⟨K4,hO⟩ ?_;clear Z hK;intro a Z;refine JB (by kernel_rfl) ?_;refine og fun K hK =>?_
    have e68:=Z.g 68;have e69:=Z.g 69;unfold Oper.wp;go_simp;refine (RX (s:=t.roads.strips[kk])).mono ?_;rintro e x ⟨rfl,hb2⟩;replace hE1:=hE1.bel hb2;replace hH:=hH.below hb2;replace hO:=hO.below hb2;replace K4:=K4.below hb2;replace hW:=hW.below hb2;clear hb2;clear e68 e69;refine Z.K hK ?_;clear Z hK;intro a Z;(iterate 2 refine Z.s ?_;clear Z;intro a Z);refine od ?_;refine wr ?_;refine Z.s ?_;clear Z;intro a Z;refine og fun K hK =>?_
    have e17:=Z.g 17;have hw18:=IntWalk.i64_in ((n:Int)-1) (by omega);unfold Oper.wp;go_simp;clear e17;refine Z.K hK ?_;clear Z hK;intro a Z;refine Z.s ?_;clear Z;intro a Z;refine od ?_;obtain ⟨m,rfl⟩:∃ m,n=m+1:=⟨n-1,by omega⟩;have e9:((m+1:Nat):Int)-1=(m:Int):=by omega
    rw [e9] at Z;have hnk:=HNK.out;have HC2:=Lib.hid (HC.out.snoc hnk.1.1 hnk.1.2 hnk.2.1);have efv:t.roads.strips.getD ((kk:Nat):Int).toNat default=t.roads.strips[kk]:=by simp [List.getD_eq_getElem?_getD,hkkl]
    rw [efv] at HC2;have HD2:=Lib.hid (WW HD.out hnk.2.2);exact ⟨m,by omega,_,wa2,wc2,_,by omega,by simp only [List.length_append,List.length_cons,List.length_nil];omega,HD2,HC2,Z.sb,hE1,hH.more (by omega),hO,hW,K4⟩
 ·have q0:¬ (0:Int) < (n:Int):=by omega
  refine Z.s ?_;clear Z;intro a Z;refine od ?_;refine wp_cond_false (Z.ev 16 rfl) ?_;refine wp_exit ?_;refine wsr ?_;(iterate 4 refine Z.s ?_;clear Z;intro a Z);refine od ?_;refine wp_ret ?_
  try simp only [Exit.then,Exit.inBlock]
  refine bodyPost_ret (v := .tuple #[.slice wa way.length wc, .int .i64 at_]) ?_ Z.defers ⟨way,wa,wc,at_,rfl,hW,by omega,HD.out,HC.out,hH.more (by omega),hE1⟩;simp [results,Try.results22,Z.get 6 _ rfl,Z.get 7 _ rfl]
end
end Go.Proofs.Ytgdobbcjkiapkaa
