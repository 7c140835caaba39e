import Derived.Test.YtgdobbcjkiapkaaCh41
import Derived.Test.YtgdobbcjkiapkaaCh25
import Derived.Test.YtgdobbcjkiapkaaCh38
import Derived.Test.YtgdobbcjkiapkaaCh24
import Derived.Test.YtgdobbcjkiapkaaCh37
import Derived.Test.YtgdobbcjkiapkaaCh35
import Derived.Test.YtgdobbcjkiapkaaCh22
import Derived.Test.YtgdobbcjkiapkaaCh04
import Derived.Test.YtgdobbcjkiapkaaCh15
import Derived.Test.YtgdobbcjkiapkaaCh14
import Derived.Deep.OwnRows
import Derived.Test.YtgdobbcjkiapkaaCh33
namespace Go.Proofs.Ytgdobbcjkiapkaa
set_option maxRecDepth 100000
set_option maxHeartbeats 4000000
set_option linter.unusedSimpArgs false
set_option linter.unusedVariables false
section
open Go Go.Conc Go.RowKit
theorem YC {w:World} {a:Option Addr} {n c:Nat} {l:List Int} (hl:Aq w a l) (hn:l.length=n) (hm:n≤maxLen) (ha:l=[]∨∀ ad,a=some ad→ad.block < w.heap.size):Calls Try.prog 19 #[.slice a n c] w fun e w'=>∃ hb,e = .returned (.pointer (some ⟨hb,0,none⟩))∧w.heap.size≤hb∧A8 w' hb 0 a n c∧Below w.heap.size w w' :=
 (TD w a n c l hl hn hm ha).mono fun _ _ ⟨h1,h2,h3,_⟩=>⟨_,h1,Nat.le_refl _,h2,h3⟩
def ZC (b:Nat) (t:Ac) (s:DF):Prop:=(Value.slice s.sa t.roads.strips.length s.sc).ownBlock≠some b∧(Value.slice s.pa t.Ad.length s.pc).ownBlock≠some b∧(Value.slice s.ta t.Ai.length s.tc).ownBlock≠some b
theorem D5.far {x:World} {B b:Nat} {t:Ac} {s:DF} (h:D5 x B t s) (hb:x.heap.size≤b):ZC b t s:=⟨h.os.Iy hb,h.op.Iy hb,h.ot.Iy hb⟩
theorem D5.Aax {x x':World} {B b:Nat} {t:Ac} {s:DF} (h:D5 x B t s) (hG:x.grownBy x' (some b)) (hF:ZC b t s):D5 x' B t s:=⟨h.os.grown hG hF.1,h.op.grown hG hF.2.1,h.ot.grown hG hF.2.2⟩
theorem V5 {w:World} {hb B:Nat} {ha:Option Addr} {hn hc:Nat} (ns nt:Nat) (hH:A8 w hb B ha hn hc) (hB:B≤900000) (h8:ns≤8) (h6:nt≤6):Calls Try.prog 20 #[.pointer (some ⟨hb,0,none⟩), .int .i64 (ns:Int), .int .i64 (nt:Int)] w (fun e w'=>∃ t s,e = .returned (.agg (Em t s))∧D5 w' (hb+1) t s∧Hid (Zh ns nt t)∧A8 w' hb (B+200) ha hn hc∧Ext hb w w') :=
 (Qd hH hB h8 h6).mono fun _ _ ⟨t,s,h1,h2,h3,h4,h5⟩=>⟨t,s,h1,h2.lower (Nat.succ_le_of_lt hH.lt),Lib.hid h3,h4,h5⟩
end
section
open Go Go.Conc Go.RowKit
theorem Yz {α:Type} {f:α→List Value} {k:Nat} {w:World} {b:Nat} {c:Array Value} {t:TypeId} {y:α} (K:Rw w b c t) (h:c.toList=f y):Dc f k w (some ⟨b,0,none⟩) [y] :=
 .inr ⟨b,0,rfl,fun i hi j u _ hu=>by
  have:i=0:=by simpa using hi
  subst this;have h2:c[j]? = some u:=by rw [← Array.getElem?_toList,h];exact hu
  simpa using K.cell h2⟩
section
variable {M:Machine} {w:World} {t:Ac} {s:DF} {l:List AV} {la:Option Addr} {lc:Nat}
end
end
section
open Go.RowKit
end
section
open Go Go.RowKit
section
variable {α β:Type} {f:α→List Value} {f':β→List Value} {e e':TypeId} {k k':Nat} {w w' x x':World} {B B' b g m n c:Nat} {v v':Value} {l:List α} {l':List β} {cs cur:Array Value} {t:TypeId} {r:Option Nat}
theorem AC.Tt (h:AC f e k x B v l) (hb:v.ownBlock=some g):∃ cur,x.heap[g]? = some (.cells cur e (0,0)):=by
 rcases h.2 with ⟨hv,_⟩ | ⟨g',cap,cur,hv,_,hh,_⟩
 ·rw [hv] at hb;simp [Value.ownBlock] at hb
 ·rw [hv] at hb;simp only [Value.ownBlock,Option.some.injEq] at hb;subst hb;exact ⟨cur,hh⟩
theorem Rw.ZP (K:Rw x b cs t) (hg:x.heap[g]? = some (.cells cur e (0,0))) (hne:t≠e):b≠g:=by
 rintro rfl;unfold Rw at K;rw [K] at hg;simp only [Option.some.injEq,Obj.cells.injEq] at hg;exact hne hg.2.1
theorem AC.ZP (h:AC f' e' k' x B' v' l') (hg:x.heap[g]? = some (.cells cur e (0,0))) (hne:e'≠e):v'.ownBlock≠some g:=fun hb=>by
 obtain ⟨cur2,h2⟩:=h.Tt hb;rw [h2] at hg;simp only [Option.some.injEq,Obj.cells.injEq] at hg;exact hne hg.2.1
theorem AC.AaS (h:AC f e k x B v l) (h':AC f' e' k' x B' v' l') (hne:e'≠e):∀ g,v.ownBlock=some g→v'.ownBlock≠some g:=fun g hg=>by
 obtain ⟨cur,h2⟩:=h.Tt hg;exact h'.ZP h2 hne
theorem AC.TW (h':AC f' e' k' x B' v' l') (hG:x.grownBy x' r) (ha:∀ g,r=some g→v'.ownBlock≠some g):AC f' e' k' x' B' v' l':=by
 refine h'.keep fun q hq=>hG.block q (h'.Ah hq).2 fun e =>?_
 exact ha q e.symm hq
theorem Rw.TW (K:Rw x b cs t) (hG:x.grownBy x' r) (ha:∀ g,r=some g→b≠g):Rw x' b cs t:=K.grown hG fun e=>ha b e.symm rfl
theorem Rw.Jh (K:Rw x b cs t) (hG:x.grownBy x' v.ownBlock) (ho:AC f e k x B' v l) (hne:t≠e):Rw x' b cs t:=K.TW hG fun g hg=>by
 obtain ⟨cur,h2⟩:=ho.Tt hg;exact K.ZP h2 hne
theorem AC.Jh (h':AC f' e' k' x B' v' l') (hG:x.grownBy x' v.ownBlock) (h:AC f e k x B v l) (hne:e'≠e):AC f' e' k' x' B' v' l':=h'.TW hG (h.AaS h' hne)
end
end
section
open Go Go.Conc Go.RowKit
structure AaW (m ms:List AV):Prop where
 len:ms.length=m.length
 same:∀ i (h:i < m.length) (h':i < ms.length),ms[i].toll=m[i].toll∧ms[i].owner=m[i].owner∧m[i].heads≤ms[i].heads∧ms[i].heads≤40
theorem AaW.ok {nt np:Nat} {m ms:List AV} (h:AaW m ms) (hm:Us nt np m):Us nt np ms:=fun p hp=>by
 obtain ⟨i,hi,rfl⟩:=List.getElem_of_mem hp;have hi2:i < m.length:=by rw [← h.len];exact hi
 have hs:=h.same i hi2 hi;have:=hm m[i] (List.getElem_mem hi2);rw [hs.1,hs.2.1];omega
structure AaV (ts us:List BH):Prop where
 len:us.length=ts.length
 same:∀ i (h:i < ts.length) (h':i < us.length),us[i].strip=ts[i].strip∧us[i].farmer=ts[i].farmer∧ts[i].rate≤us[i].rate∧us[i].rate≤500
theorem AaV.range {ts us:List BH} (h:AaV ts us) (h0:∀ x∈ts,0≤x.rate∧x.rate≤500):∀ u∈us,0≤u.rate∧u.rate≤500:=fun u hu=>by
 obtain ⟨i,hi,rfl⟩:=List.getElem_of_mem hu;have hi2:i < ts.length:=by rw [← h.len];exact hi
 have:=h.same i hi2 hi;have:=h0 _ (List.getElem_mem hi2)
 omega
section
variable {w:World} {t:Ac} {s:DF}
end
section
variable {α:Type} {f:α→List Value} {e:TypeId} {k:Nat} {w:World} {B g c:Nat} {l:List α}
theorem AC.src {a:Option Addr} (h:AC f e k w B (.slice a l.length c) l) (hf:∀ x,(f x).length=k):Dc f k w a l:=by
 obtain ⟨a',c',hv,_,_,hC⟩:=h.cells hf;simp only [Value.slice.injEq,true_and] at hv;obtain ⟨rfl,_⟩:=hv;exact hC
end
end
section
open Go Go.RowKit
section
variable {w:World} {B g c:Nat} {a:Option Addr} {l:List Int} {v:Value}
theorem FN (l:List Int):∀ y∈l,∀ u∈[Value.int .i64 y],u.oneCell'=true:=fun y _ u hu=>by simp at hu;subst hu;rfl
theorem CP.ints (h:CP w B (.slice a l.length c) l):Aq w a l:=by
 rcases AC.src h (fun _=>rfl) with h0 | ⟨b,o,ha,hc⟩
 ·exact .inl h0
 ·exact .inr ⟨b,o,ha,fun i hi=>by have:=hc i hi 0 _ (by omega) rfl;simpa using this⟩
theorem CP.len (h:CP w B (.slice a l.length c) l):l.length≤c∧c≤maxLen:=by
 obtain ⟨a',c',hv,h1,h2,_⟩:=AC.cells h (fun _=>rfl);simp only [Value.slice.injEq,true_and] at hv;rw [hv.2];exact ⟨h1,h2⟩
end
end
section
open Go.RowKit
structure Abx (nt np:Nat) (l:List AV) (i:Nat) (ps os:List AV):Prop where
 pl:ps.length≤2*i
 ol:os.length≤i
 pk:Us nt np ps
 ok:Us nt np os
 ps:∀ key,Ba ps key=Ba (l.take i) key
 os:∀ a b:Int,Ba os (a,b)=if b=0 then Ba (l.take i) (a,b) else 0
theorem Abx.nil (nt np:Nat) (l:List AV):Abx nt np l 0 [] []:=⟨by simp,by simp,fun p h=>by simp at h,fun p h=>by simp at h,fun key=>by simp [Ba],fun a b=>by simp [Ba]⟩
end
section
open Go.RowKit
def Chain (t:Ac):List Int→Int→Int→Prop
 | [],a,b=>a=b
 | k :: r,a,b=>(0≤k∧k < (t.roads.strips.length:Int))∧0≤Df (t.roads.strips.getD k.toNat default) a∧Chain t r (Df (t.roads.strips.getD k.toNat default) a) b
theorem Chain.app {t:Ac}:∀ {x y:List Int} {a b c:Int},Chain t x a b→Chain t y b c→Chain t (x++y) a c
 | [],y,a,b,c,h,h2=>by obtain rfl:a=b:=h;exact h2
 | k :: x,y,a,b,c,h,h2=>⟨h.1,h.2.1,Chain.app h.2.2 h2⟩
theorem Chain.snoc {t:Ac} {x:List Int} {a b k:Int} (h:Chain t x a b) (h0:0≤k) (h1:k < (t.roads.strips.length:Int)) (h2:0≤Df (t.roads.strips.getD k.toNat default) b):Chain t (x++[k]) a (Df (t.roads.strips.getD k.toNat default) b) :=
 h.app ⟨⟨h0,h1⟩,h2,rfl⟩
theorem J5 {t:Ac}:∀ {x pre:List Int} {a b:Int} {acc:List AV},Chain t x a b→(pre++x).Nodup→CU t pre x a acc=(acc++x.flatMap (fun k=>Dz t k t.Ai.length),0)
 | [],pre,a,b,acc,_,_=>by simp [CU]
 | k :: x,pre,a,b,acc,h,hn=>by
  have hk:¬ k∈pre:=fun hm=>(List.nodup_append.1 hn).2.2 k hm k (by simp) rfl
  rw [CU,if_neg (by rw [Aj.2 (by have:=h.1;omega)];simp),if_neg hk,if_neg (by have:=h.2.1;omega),J5 h.2.2 (by rw [List.append_assoc];exact hn)];simp
def Zx (t:Ac) (way:List Int):List AV:=way.flatMap (fun k=>Dz t k t.Ai.length)
theorem Nj {t:Ac} (hT:Ak t=0) {x:List Int} {a b:Int} (h:Chain t x a b) (hn:x.Nodup) (ha:0≤a∧a < t.roads.stages) (h8:x.length≤8):BK t a x=(Zx t x,0):=by
 rw [(FC (t:=t)).2.2.2 hT (Aj.2 (by omega)) (by omega),J5 h (by simpa using hn)]
 rfl
theorem Vt {t:Ac} (hT:Ak t=0) {x:List Int} {a b:Int} (h:Chain t x a b) (hn:x.Nodup) (ha:0≤a∧a < t.roads.stages) (h8:x.length≤8):QV t a x=(Jb (Jz t (Zx t x)) t.Ad.length,0):=by
 unfold QV IE;rw [Nj hT h hn ha h8]
 rfl
end
section
open Go.RowKit
theorem Xa:Try.f63.body=some (Code.seq (Aa Try.f63 0) (Code.seq (Code.seq (Aa Try.f63 1) (Code.cond (Operand.tmp 8) (Code.seq (Aa Try.f63 2) Code.ret) Code.skip)) (Code.seq (Code.seq (Aa Try.f63 3) (Code.cond (Operand.tmp 14) (Code.seq (Aa Try.f63 4) Code.ret) Code.skip)) (Code.seq (Aa Try.f63 5) Code.ret)))):=by kernel_rfl
theorem YI {w:World} {s:Strip} {at_:Int}:Calls Try.prog 63 #[.agg #[.int .i64 s.A, .int .i64 s.B, .int .i64 s.L, .int .i64 s.W, .int .i64 s.K, .int .i64 s.X, .int .i64 s.Y], .int .i64 at_] w (fun e w'=>e = .returned (.int .i64 (Df s at_))∧Below w.heap.size w w'):=by
 have hB:=Below.refl w.heap.size w;refine KI Try.func63 Xa Try.ntmps63 ?_;intro a Z;refine wsr ?_;refine Z.s ?_;clear Z;intro a Z;refine Ae (G:=fun W=>wpOps _ _ _ _ _ W) ?_;obtain ⟨b2,hg⟩:∃ b,b=w.heap.size:=⟨_,rfl⟩;intro x hz K2 hb2;rw [← hg] at Z K2;have hhB2:w.heap.size≤b2:=by rw [hg];exact hB.size
 replace hB:=hB.trans (hb2.mono hB.size);clear hz hg hb2;refine Z.s ?_;clear Z;intro a Z;refine od ?_;refine wp_seq ?_;refine wsr ?_;refine Z.s ?_;clear Z;intro a Z;refine Z.rv rfl rfl rfl (by decide) (Aw rfl (Z.ev 5 rfl) Try.underlying3 rfl (K2.cell (o:=0) (v := .int .i64 s.A) rfl)) ?_;clear Z;intro a Z;refine Z.s ?_;clear Z;intro a Z
 by_cases h1:s.A=at_
 ·have q1:(s.A == at_)=true:=by simp [h1]
  have H1:=Lib.hid h1;clear h1;refine Z.s ?_;clear Z;intro a Z;refine od ?_;refine wp_cond_true (Z.ev 8 rfl) ?_;refine wsr ?_;refine Z.s ?_;clear Z;intro a Z;refine Z.rv rfl rfl rfl (by decide) (Aw rfl (Z.ev 9 rfl) Try.underlying3 rfl (K2.cell (o:=1) (v := .int .i64 s.B) rfl)) ?_;clear Z;intro a Z;refine Z.s ?_;clear Z;intro a Z;refine od ?_;refine wp_ret ?_
  try simp only [Exit.then,Exit.inBlock]
  have HR:=Lib.hid (show Df s at_=s.B from by unfold Df;rw [if_pos H1.out.symm]);rw [HR.out];refine bodyPost_ret (v := .int .i64 s.B) ?_ Z.defers ⟨rfl,hB⟩;simp [results,Try.results63,Z.get 4 _ rfl]
 ·have q1:(s.A == at_)=false:=by simp [h1]
  have H1:=Lib.hid h1;clear h1;refine Z.s ?_;clear Z;intro a Z;refine od ?_;refine wp_cond_false (Z.ev 8 rfl) ?_;refine wp_skip ?_;refine wp_seq ?_;refine wsr ?_;refine Z.s ?_;clear Z;intro a Z;refine Z.rv rfl rfl rfl (by decide) (Aw rfl (Z.ev 11 rfl) Try.underlying3 rfl (K2.cell (o:=1) (v := .int .i64 s.B) rfl)) ?_;clear Z;intro a Z;refine Z.s ?_;clear Z;intro a Z
  by_cases h2:s.B=at_
  ·have q2:(s.B == at_)=true:=by simp [h2]
   have H2:=Lib.hid h2;clear h2;refine Z.s ?_;clear Z;intro a Z;refine od ?_;refine wp_cond_true (Z.ev 14 rfl) ?_;refine wsr ?_;refine Z.s ?_;clear Z;intro a Z;refine Z.rv rfl rfl rfl (by decide) (Aw rfl (Z.ev 15 rfl) Try.underlying3 rfl (K2.cell (o:=0) (v := .int .i64 s.A) rfl)) ?_;clear Z;intro a Z;refine Z.s ?_;clear Z;intro a Z;refine od ?_;refine wp_ret ?_
   try simp only [Exit.then,Exit.inBlock]
   have HR:=Lib.hid (show Df s at_=s.A from by unfold Df;rw [if_neg (fun h=>H1.out h.symm),if_pos H2.out.symm]);rw [HR.out];refine bodyPost_ret (v := .int .i64 s.A) ?_ Z.defers ⟨rfl,hB⟩;simp [results,Try.results63,Z.get 4 _ rfl]
  ·have q2:(s.B == at_)=false:=by simp [h2]
   have H2:=Lib.hid h2;clear h2;refine Z.s ?_;clear Z;intro a Z;refine od ?_;refine wp_cond_false (Z.ev 14 rfl) ?_;refine wp_skip ?_;refine wsr ?_;refine Z.s ?_;clear Z;intro a Z;refine od ?_;refine wp_ret ?_
   try simp only [Exit.then,Exit.inBlock]
   have HR:=Lib.hid (show Df s at_=(-1) from by unfold Df;rw [if_neg (fun h=>H1.out h.symm),if_neg (fun h=>H2.out h.symm)]);rw [HR.out];refine bodyPost_ret (v := .int .i64 (-1)) ?_ Z.defers ⟨rfl,hB⟩;simp [results,Try.results63,Z.get 4 _ rfl]
end
section
open Go.RowKit
end
section
open Go.RowKit
end
section
open Go Go.Conc Go.RowKit
structure ZB (x:World) (B:Nat) (v1:Value) (l1:List AV) (v2:Value) (l2:List AV):Prop where
 h1:Fh x B v1 l1
 h2:Fh x B v2 l2
 ne:∀ g,v1.ownBlock=some g→v2.ownBlock≠some g
section
variable {x x' w:World} {B b m:Nat} {v1 v2 v:Value} {l1 l2 l:List AV} {cs:Array Value} {e:TypeId} {r:Option Nat}
theorem ZB.nil:ZB x B (.slice none 0 0) [] (.slice none 0 0) []:=⟨AC.nil,AC.nil,fun g h=>by simp [Value.ownBlock] at h⟩
end
section
variable {w:World} {a b n:Nat} {f g:Nat→Int}
end
section
variable {w:World} {t:Ac} {s:DF} {l:List AV} {la:Option Addr} {lc:Nat}
end
end
section
open Go Go.Conc Go.RowKit
section
variable {w:World} {t:Ac} {s:DF} {fr N:Int} {way:List Int} {wa:Option Addr} {wc:Nat}
theorem Abr (hT:BM w t s) (hw:Aq w wa way) (hwc:way.length≤wc) (hwl:way.length≤8) (hc:Hid (QV t fr way=(N,0))):Calls Try.prog 34 #[.agg (Em t s), .int .i64 fr, .slice wa way.length wc] w (fun e w'=>e = .returned (.tuple #[.int .i64 N, .int .i64 0])∧Below w.heap.size w w'):=by
 have h:=XE (from_:=fr) hT hw hwc (by omega);rw [hc.out] at h;exact h
end
end
section
open Go.RowKit
def TT (r:BU) (f:Flock) (j:Nat):Nat→Bool
 | 0=>false
 | d+1=>TT r f j d || NJ r f (-1) j d
def Aba (r:BU) (f:Flock):List Bool:=(List.range r.strips.length).map fun j=>TT r f j r.days.toNat
def Zm (r:BU) (f:Flock) (fr:Nat) (tt:Int):List (List Int):=Gp r (Aba r f) tt 5 fr (0 ||| 1 <<< fr)
theorem YN:∀ s < 6,Xk (0 ||| 1 <<< s)≤5:=by decide +kernel
end
section
open Go.RowKit
theorem H9 (rec:Int→Nat→List (List Int)) (r:BU) (use:List Bool) (met:Nat) (p:Int):∀ m:Nat,Eh rec r use met p m=(List.range m).flatMap fun k=>match chainOf r use met p k with | some q=>(rec q (met ||| 1 <<< q.toNat)).map ((k:Int) :: ·) | none=>[]
 | 0=>rfl
 | m+1=>by rw [Eh,H9 rec r use met p m,List.range_succ,List.flatMap_append];simp only [List.flatMap_cons,List.flatMap_nil,List.append_nil];cases chainOf r use met p m <;> rfl
theorem Zy (m q s:Nat):(m ||| 1 <<< q).testBit s=(m.testBit s || decide (q=s)):=by
 rw [Nat.testBit_or]
 congr 1
 rw [Nat.one_shiftLeft,Nat.testBit_two_pow]
theorem SN {α β:Type} {f g:α→List β}:∀ {l:List α},(∀ k∈l,f k=g k)→l.flatMap f=l.flatMap g
 | [],_=>rfl
 | k :: l,h=>by rw [List.flatMap_cons,List.flatMap_cons,h k (by simp),SN fun x hx=>h x (by simp [hx])]
def X9 (met:Nat) (st:List Int):Prop:=met < 64∧∀ s:Nat,s < 6→(met.testBit s=true↔(s:Int)∈st)
theorem X9.add {met q:Nat} {st:List Int} (h:X9 met st) (hq:q < 6) (hn:met.testBit q=false):X9 (met ||| 1 <<< q) (st++[(q:Int)]):=by
 refine ⟨(LU met h.1 q hq hn).2,fun s hs =>?_⟩;rw [Zy,Bool.or_eq_true,h.2 s hs,List.mem_append,List.mem_singleton,decide_eq_true_eq]
 constructor
 ·rintro (h1 | h1)
  ·exact .inl h1
  ·exact .inr (by omega)
 ·rintro (h1 | h1)
  ·exact .inl h1
  ·exact .inr (by omega)
theorem SX {s:Strip} {p:Int} (hA:0≤s.A) (hB:0≤s.B):((endOf s p).2=true→Df s p=(endOf s p).1)∧((endOf s p).2=false→Df s p < 0)∧((endOf s p).2=true→0≤(endOf s p).1):=by
 unfold endOf Df
 by_cases c1:p=s.A
 ·rw [if_pos c1,if_pos c1];exact ⟨fun _=>rfl,fun h=>(by cases h),fun _=>hB⟩
 ·by_cases c2:p=s.B
  ·rw [if_neg c1,if_pos c2,if_neg c1,if_pos c2];exact ⟨fun _=>rfl,fun h=>(by cases h),fun _=>hA⟩
  ·rw [if_neg c1,if_neg c2,if_neg c1,if_neg c2];exact ⟨fun h=>(by cases h),fun _=>(by omega),fun h=>(by cases h)⟩
theorem Xg {t:Ac} {op:List Bool} {from_ to_:Int} (hs:∀ s∈t.roads.strips,0≤s.A∧s.A < 6∧0≤s.B∧s.B < 6):∀ (n d e:Nat) (st wy:List Int) (lg:Int) (met:Nat),X9 met st→Xk met≤n→n < d→n≤e →
  (Gn t op from_ to_ d st wy lg).map AZ.way=(Gp t.roads op to_ e (st.getLastD 0) met).map (wy++·):=by
 intro n
 induction n with
 | zero =>
  intro d e st wy lg met hM hn hd he;obtain ⟨d,rfl⟩:∃ d',d=d'+1:=⟨d-1,by omega⟩
  have key:∀ rec,t.roads.strips.length=t.roads.strips.length→Eh rec t.roads op met (st.getLastD 0) t.roads.strips.length=[]:=fun rec _=>by
   rw [H9,List.flatMap_eq_nil_iff];intro k hk
   cases hc:chainOf t.roads op met (st.getLastD 0) k with
   | none=>rfl
   | some q =>
    obtain ⟨s,h1,h2,h3,h4,h5⟩:=LC.1 hc;have hm:=hs s (List.mem_of_getElem? h1);have hb:=SX (p:=st.getLastD 0) hm.1 hm.2.2.1
    have hq:q.toNat < 6:=by
     rw [h5];unfold endOf at h2 ⊢
     split at h2
     ·rename_i c;rw [if_pos c];dsimp only;omega
     ·rename_i c
      split at h2
      ·rename_i c2;rw [if_neg c,if_pos c2];dsimp only;omega
      ·simp at h2
    have:=(LU met hM.1 q.toNat hq (by rw [h5];exact h4)).1
    omega
  have key2:st.getLastD 0≠to_→(Gn t op from_ to_ (d+1) st wy lg)=[]:=fun hne=>by
   rw [Gn,if_neg hne,List.flatMap_eq_nil_iff];intro k hk;rw [List.mem_range] at hk;refine if_pos ?_;have hm:=hs t.roads.strips[k] (List.getElem_mem hk);have eg:t.roads.strips.getD k default=t.roads.strips[k]:=by simp [List.getD_eq_getElem?_getD,hk]
   rw [eg];have hb:=SX (p:=st.getLastD 0) hm.1 hm.2.2.1
   cases h2:(endOf t.roads.strips[k] (st.getLastD 0)).2 with
   | false=>exact .inl (hb.2.1 h2)
   | true =>
    refine .inr ?_
    cases h3:op.getD k false with
    | false=>exact .inl rfl
    | true =>
     refine .inr ?_;rw [hb.1 h2];have h0:=hb.2.2 h2
     have hq:(endOf t.roads.strips[k] (st.getLastD 0)).1.toNat < 6:=by
      unfold endOf at h2 ⊢
      split at h2
      ·rename_i c;rw [if_pos c];dsimp only;omega
      ·rename_i c
       split at h2
       ·rename_i c2;rw [if_neg c,if_pos c2];dsimp only;omega
       ·simp at h2
     refine Classical.byContradiction fun hn2 =>?_
     have hbit:met.testBit (endOf t.roads.strips[k] (st.getLastD 0)).1.toNat=false:=by
      cases hx:met.testBit (endOf t.roads.strips[k] (st.getLastD 0)).1.toNat with
      | false=>rfl
      | true =>
       have:=(hM.2 _ hq).1 hx;rw [Int.toNat_of_nonneg h0] at this;exact absurd this hn2
     have:=(LU met hM.1 _ hq hbit).1
     omega
  by_cases hto:st.getLastD 0=to_
  ·rw [Gn,if_pos hto]
   cases e <;> (rw [Gp,if_pos hto];simp)
  ·rw [key2 hto]
   cases e <;> (rw [Gp,if_neg hto,key _ rfl];rfl)
 | succ n ih =>
  intro d e st wy lg met hM hn hd he;obtain ⟨d,rfl⟩:∃ d',d=d'+1:=⟨d-1,by omega⟩;obtain ⟨e,rfl⟩:∃ e',e=e'+1:=⟨e-1,by omega⟩
  by_cases hto:st.getLastD 0=to_
  ·rw [Gn,if_pos hto,Gp,if_pos hto];simp
  ·rw [Gn,if_neg hto,Gp,if_neg hto,H9,List.map_flatMap,List.map_flatMap];refine SN fun k hk =>?_
   rw [List.mem_range] at hk;have hm:=hs t.roads.strips[k] (List.getElem_mem hk);have eg:t.roads.strips.getD k default=t.roads.strips[k]:=by simp [List.getD_eq_getElem?_getD,hk]
   rw [eg];have hb:=SX (p:=st.getLastD 0) hm.1 hm.2.2.1;have hgk:t.roads.strips[k]? = some t.roads.strips[k]:=List.getElem?_eq_getElem hk
   cases h2:(endOf t.roads.strips[k] (st.getLastD 0)).2 with
   | false =>
    rw [if_pos (.inl (hb.2.1 h2))];have:chainOf t.roads op met (st.getLastD 0) k=none:=by unfold chainOf;rw [hgk];simp only [h2];rfl
    rw [this];rfl
   | true =>
    have h0:=hb.2.2 h2
    have hq:(endOf t.roads.strips[k] (st.getLastD 0)).1.toNat < 6:=by
     unfold endOf at h2 ⊢
     split at h2
     ·rename_i c;rw [if_pos c];dsimp only;omega
     ·rename_i c
      split at h2
      ·rename_i c2;rw [if_neg c,if_pos c2];dsimp only;omega
      ·simp at h2
    rw [hb.1 h2]
    cases h3:op.getD k false with
    | false =>
     rw [if_pos (.inr (.inl rfl))];have:chainOf t.roads op met (st.getLastD 0) k=none:=by unfold chainOf;rw [hgk];simp only [h2,h3];rfl
     rw [this];rfl
    | true =>
     cases hx:met.testBit (endOf t.roads.strips[k] (st.getLastD 0)).1.toNat with
     | true =>
      have h4:=(hM.2 _ hq).1 hx;rw [Int.toNat_of_nonneg h0] at h4;rw [if_pos (.inr (.inr h4))];have:chainOf t.roads op met (st.getLastD 0) k=none:=by unfold chainOf;rw [hgk];simp only [h2,h3,hx];rfl
      rw [this];rfl
     | false =>
      have h4:¬ (endOf t.roads.strips[k] (st.getLastD 0)).1∈st:=fun hmem=>by
       have:=(hM.2 _ hq).2 (by rw [Int.toNat_of_nonneg h0];exact hmem);rw [hx] at this;cases this
      rw [if_neg (by rintro (h | h | h);omega;(exact absurd h (by simp));(exact h4 h))];have hc:chainOf t.roads op met (st.getLastD 0) k=some (endOf t.roads.strips[k] (st.getLastD 0)).1:=LC.2 ⟨_,hgk,h2,h3,hx,rfl⟩;rw [hc]
      dsimp only
      have hM2:=hM.add hq hx;have hf:=(LU met hM.1 _ hq hx).1;rw [Int.toNat_of_nonneg h0] at hM2;have:=ih d e (st++[(endOf t.roads.strips[k] (st.getLastD 0)).1]) (wy++[(k:Int)]) (lg+t.roads.strips[k].L) _ hM2 (by omega) (by omega) (by omega);rw [this];simp [List.map_map,Function.comp_def]
theorem JX {rec:Int→Nat→List (List Int)} {r:BU} {use:List Bool} {met:Nat} {p:Int}:∀ {m:Nat} {x:List Int},x∈Eh rec r use met p m→∃ (k:Nat) (a:List Int),k < m∧x=(k:Int) :: a
 | 0,x,h=>by simp [Eh] at h
 | m+1,x,h=>by
  rw [Eh] at h;rcases List.mem_append.1 h with h | h
  ·obtain ⟨k,a,h1,h2⟩:=JX h;exact ⟨k,a,by omega,h2⟩
  ·cases hc:chainOf r use met p m with
   | none=>rw [hc] at h;simp at h
   | some q =>
    rw [hc] at h;obtain ⟨a,_,rfl⟩:=List.mem_map.1 h;exact ⟨m,a,by omega,rfl⟩
theorem XI (k:Int) (a b:List Int):Ij (k :: a) (k :: b)=Ij a b:=by
 have:H8 k k=0:=by unfold H8;rw [if_neg (by omega),if_neg (by omega)]
 rw [Ij,if_neg (by rw [this];simp)]
theorem Aad {j k:Int} (h:j < k) (a b:List Int):Ij (k :: a) (j :: b)=1:=by
 have:H8 k j=1:=by unfold H8;rw [if_neg (by omega),if_pos h]
 rw [Ij,if_pos (by rw [this];simp),this]
theorem FU {rec:Int→Nat→List (List Int)} {r:BU} {use:List Bool} {met:Nat} {p:Int} (hr:∀ q m',(rec q m').Pairwise fun a b=>Ij b a=1):∀ m:Nat,(Eh rec r use met p m).Pairwise fun a b=>Ij b a=1
 | 0=>by simp [Eh]
 | m+1=>by
  rw [Eh,List.pairwise_append];refine ⟨FU hr m,?_,?_⟩
  ·cases hc:chainOf r use met p m with
   | none=>exact List.Pairwise.nil
   | some q =>
    dsimp only
    rw [List.pairwise_map];exact (hr q _).imp fun h=>by rw [XI];exact h
  ·intro a ha b hb;obtain ⟨k,a',h1,rfl⟩:=JX ha
   cases hc:chainOf r use met p m with
   | none=>rw [hc] at hb;simp at hb
   | some q =>
    rw [hc] at hb;obtain ⟨b',_,rfl⟩:=List.mem_map.1 hb;exact Aad (by omega) _ _
theorem Ji (r:BU) (use:List Bool) (tt:Int):∀ (e:Nat) (p:Int) (met:Nat),(Gp r use tt e p met).Pairwise fun a b=>Ij b a=1
 | 0,p,met=>by
  rw [Gp];split
  ·simp
  ·exact FU (fun _ _=>List.Pairwise.nil) _
 | e+1,p,met=>by
  rw [Gp];split
  ·simp
  ·exact FU (fun q m'=>Ji r use tt e q m') _
theorem QE (r:BU) (w:List Int) (k:Int):∀ m:Nat,m≤w.length→GG r (w++[k]) m=GG r w m
 | 0,_=>rfl
 | m+1,h=>by
  rw [GG,GG,QE r w k m (by omega)];have:(w++[k]).getD m 0=w.getD m 0:=by simp [List.getD_eq_getElem?_getD,List.getElem?_append_left (show m < w.length by omega)]
  rw [this]
theorem WY (r:BU) (w:List Int) (k:Int):VJ r (w++[k])=VJ r w+MJ r k:=by
 unfold VJ;rw [List.length_append,List.length_singleton,GG,QE r w k _ (Nat.le_refl _)];have:(w++[k]).getD w.length 0=k:=by simp [List.getD_eq_getElem?_getD]
 rw [this]
theorem Ub {t:Ac} (hT:Ak t=0):DZ (CV t)=0:=by
 obtain ⟨_,h1,h2,_,_,_,h3,_⟩:=Au hT;unfold DZ CV;rw [Aj.2 h3,Aj.2 ⟨h1,h2⟩]
 rfl
theorem PD {t:Ac} (hT:Ak t=0):Good t.roads (CV t):=TZ.2 ⟨(Au hT).1,Ub hT⟩
theorem Sr {t:Ac} (hT:Ak t=0) (l:List Int):BP t.roads (CV t) l=CW l:=by
 have h1:=(Au hT).1;unfold BP;rw [h1,Ub hT]
 rfl
theorem ready_one {t:Ac} (hT:Ak t=0) {k:Nat} (hk:k < t.roads.strips.length):BP t.roads (CV t) [(k:Int),t.roads.strips.length]=0:=by
 rw [Sr hT];simp only [CW];rw [if_pos (Aj.2 (by omega))]
theorem QT (r:BU) (f:Flock) (i:Nat):∀ d:Nat,decide (0 < (FT r f i d).length)=TT r f i d
 | 0=>rfl
 | d+1=>by
  have:=QT r f i d;rw [FT,TT,← this,List.length_append]
  by_cases c:NJ r f (-1) i (d:Int)=true
  ·rw [if_pos c,c];simp
  ·rw [if_neg c];have c2:NJ r f (-1) i (d:Int)=false:=by simpa using c
   rw [c2];simp
theorem Yv {t:Ac} (hT:Ak t=0):Ez t=Aba t.roads (CV t):=by
 unfold Ez Aba;refine List.map_congr_left fun k hk =>?_
 rw [List.mem_range] at hk;unfold Iw GK;rw [if_pos (ready_one hT hk)];exact QT _ _ _ _
theorem QN {ps:List BA} {k:Nat} (h:k < ps.length):Am (ps.take k)+ps[k].heads=Am (ps.take (k+1)):=by
 have e:∀ (l:List BA) (p:BA),Am (l++[p])=Am l+p.heads:=fun l p=>by
  induction l with
  | nil=>simp [Am]
  | cons q l ih=>simp only [List.cons_append,Am,ih];omega
 rw [List.take_succ_eq_append_getElem h,e]
theorem Vg:∀ s < 6,Xk (0 ||| 1 <<< s)≤5:=YN
theorem WV {a:Nat} (ha:a < 6):X9 (0 ||| 1 <<< a) [(a:Int)]:=by
 refine ⟨?_,fun s hs =>?_⟩
 ·have:∀ s < 6,(0 ||| 1 <<< s) < 64:=by decide
  exact this a ha
 ·rw [Zy,Nat.zero_testBit,Bool.false_or,decide_eq_true_eq,List.mem_singleton];omega
theorem Ti {t:Ac} (hT:Ak t=0) {a:Nat} (ha:(a:Int) < t.roads.stages) (b:Int):(BR t (a:Int) b).map AZ.way=Zm t.roads (CV t) a b:=by
 have h6:=(BC (Au hT).1).2.1;have hs:=Lt hT;unfold BR Zm;rw [Xg (fun s hm=>by have:=hs s hm;omega) 5 7 5 [(a:Int)] [] 0 _ (WV (by omega)) (Vg a (by omega)) (by omega) (by omega),Yv hT];simp
end
section
open Go.RowKit
def FX (t:Ac) (op:List Bool) (to_:Int):Nat→List Int→List (List Int)
  | 0,_=>[]
  | d+1,st =>
    if st.getLastD 0=to_ then [[]]
    else (List.range t.roads.strips.length).flatMap fun k =>
      if Df (t.roads.strips.getD k default) (st.getLastD 0) < 0∨op.getD k false=false∨Df (t.roads.strips.getD k default) (st.getLastD 0)∈st then []
      else (FX t op to_ d (st++[Df (t.roads.strips.getD k default) (st.getLastD 0)])).map ((k:Int) :: ·)
def UI (t:Ac) (op:List Bool) (to_:Int) (d:Nat) (st:List Int) (k:Nat):List (List Int) :=
  if Df (t.roads.strips.getD k default) (st.getLastD 0) < 0∨op.getD k false=false∨Df (t.roads.strips.getD k default) (st.getLastD 0)∈st then []
  else (FX t op to_ d (st++[Df (t.roads.strips.getD k default) (st.getLastD 0)])).map ((k:Int) :: ·)
def upY (t:Ac) (op:List Bool) (to_:Int) (d:Nat) (st:List Int) (m:Nat):List (List Int):=(List.range m).flatMap (UI t op to_ d st)
theorem Xh {t:Ac} {op:List Bool} {to_:Int} {d:Nat} {st:List Int} (h:st.getLastD 0=to_):FX t op to_ (d+1) st=[[]]:=by rw [FX,if_pos h]
theorem YL {t:Ac} {op:List Bool} {to_:Int} {d:Nat} {st:List Int} (h:¬ st.getLastD 0=to_):FX t op to_ (d+1) st=upY t op to_ d st t.roads.strips.length:=by rw [FX,if_neg h];rfl
theorem OU (t:Ac) (op:List Bool) (to_:Int) (d:Nat) (st:List Int) (m:Nat):upY t op to_ d st (m+1)=upY t op to_ d st m++UI t op to_ d st m:=by
  unfold upY;rw [List.range_succ,List.flatMap_append];simp
theorem TY {t:Ac} {op:List Bool} {from_ to_:Int}:∀ (d:Nat) (st wy:List Int) (lg:Int),(Gn t op from_ to_ d st wy lg).map AZ.way=(FX t op to_ d st).map (wy++·)
  | 0,st,wy,lg=>by simp [Gn,FX]
  | d+1,st,wy,lg=>by
    rw [Gn,FX]
    by_cases c:st.getLastD 0=to_
    · rw [if_pos c,if_pos c];simp
    · rw [if_neg c,if_neg c,List.map_flatMap,List.map_flatMap]
      refine SN fun k _ =>?_
      by_cases c2:Df (t.roads.strips.getD k default) (st.getLastD 0) < 0∨op.getD k false=false∨Df (t.roads.strips.getD k default) (st.getLastD 0)∈st
      · rw [if_pos c2,if_pos c2];rfl
      · rw [if_neg c2,if_neg c2,TY d]
        simp [List.map_map,Function.comp_def]
theorem PE {s:Strip} {p:Int} (h:0≤Df s p):(p=s.A∧Df s p=s.B)∨(p=s.B∧Df s p=s.A):=by
  unfold Df at h ⊢
  by_cases c1:p=s.A
  · rw [if_pos c1];exact .inl ⟨c1,rfl⟩
  · by_cases c2:p=s.B
    · rw [if_neg c1,if_pos c2];exact .inr ⟨c2,rfl⟩
    · rw [if_neg c1,if_neg c2] at h;omega
theorem QO {t:Ac} {op:List Bool} {from_ to_:Int}:∀ (d:Nat) (st wy:List Int) (lg:Int),Chain t wy from_ (st.getLastD 0)→wy.Nodup→(∀ k∈wy,(t.roads.strips.getD k.toNat default).A∈st∧(t.roads.strips.getD k.toNat default).B∈st)→st≠[]→lg=VJ t.roads wy →
    ∀ c∈Gn t op from_ to_ d st wy lg,Chain t c.way from_ to_∧c.way.Nodup∧c.way.length+1≤wy.length+d∧c.coins=IE t from_ c.way∧c.leagues=VJ t.roads c.way
  | 0,_,_,_,_,_,_,_,_,c,hc=>by simp [Gn] at hc
  | d+1,st,wy,lg,h1,h2,h3,h4,h5,c,hc=>by
    rw [Gn] at hc
    split at hc
    · rename_i ht
      rw [List.mem_singleton.1 hc]
      exact ⟨by rw [← ht];exact h1,h2,by simp,rfl,h5⟩
    · obtain ⟨k,hk,hc⟩:=List.mem_flatMap.1 hc
      rw [List.mem_range] at hk
      split at hc
      · simp at hc
      · rename_i hn
        have hf:0≤Df (t.roads.strips.getD k default) (st.getLastD 0):=by
          have:=fun h=>hn (.inl h);omega
        have hm:¬ Df (t.roads.strips.getD k default) (st.getLastD 0)∈st:=fun h=>hn (.inr (.inr h))
        have hlm:st.getLastD 0∈st:=by
          rcases List.eq_nil_or_concat st with h | ⟨l,a,h⟩
          · exact absurd h h4
          · rw [h];simp [List.getLastD_eq_getLast?]
        have hkw:¬ (k:Int)∈wy:=fun h=>by
          have:=h3 _ h
          rw [Int.toNat_natCast] at this
          rcases PE hf with ⟨_,e⟩ | ⟨_,e⟩
          · rw [e] at hm;exact hm this.2
          · rw [e] at hm;exact hm this.1
        have hnl:(st++[Df (t.roads.strips.getD k default) (st.getLastD 0)]).getLastD 0=Df (t.roads.strips.getD k default) (st.getLastD 0):=by simp [List.getLastD_eq_getLast?]
        have:=QO d (st++[Df (t.roads.strips.getD k default) (st.getLastD 0)]) (wy++[(k:Int)]) (lg+(t.roads.strips.getD k default).L) (by
            rw [hnl]
            have:=h1.snoc (k:=(k:Int)) (by omega) (by omega) (by rw [Int.toNat_natCast];exact hf)
            rw [Int.toNat_natCast] at this;exact this) (by
            rw [List.nodup_append]
            exact ⟨h2,by simp,fun a ha b hb e=>by simp at hb;subst hb;subst e;exact hkw ha⟩) (fun j hj=>by
            rcases List.mem_append.1 hj with hj | hj
            · exact ⟨List.mem_append_left _ (h3 j hj).1,List.mem_append_left _ (h3 j hj).2⟩
            · simp at hj;subst hj
              rw [Int.toNat_natCast]
              rcases PE hf with ⟨e1,e2⟩ | ⟨e1,e2⟩
              · exact ⟨by rw [← e1];exact List.mem_append_left _ hlm,by rw [← e2];simp⟩
              · exact ⟨by rw [← e2];simp,by rw [← e1];exact List.mem_append_left _ hlm⟩) (by simp) (by
            rw [WY,h5];unfold MJ;simp [List.getD_eq_getElem?_getD,hk]) c hc
        refine ⟨this.1,this.2.1,?_,this.2.2.2⟩
        have h6:=this.2.2.1
        rw [List.length_append] at h6
        simp at h6;omega
theorem MX {t:Ac} {a b:Int}:∀ c∈BR t a b,Chain t c.way a b∧c.way.Nodup∧c.way.length≤6∧c.coins=IE t a c.way∧c.leagues=VJ t.roads c.way:=fun c hc=>by
  have:=QO 7 [a] [] 0 (show a=[a].getLastD 0 from rfl) List.nodup_nil (fun k hk=>by simp at hk) (by simp) rfl c hc
  refine ⟨this.1,this.2.1,?_,this.2.2.2⟩
  have h6:=this.2.2.1
  simp at h6;omega
def Rz (t:Ac) (a b:Int):List (List Int):=FX t (Ez t) b 7 [a]
theorem TK (t:Ac) (a b:Int):(BR t a b).map AZ.way=Rz t a b:=by
  have:=TY (t:=t) (op:=Ez t) (from_:=a) (to_:=b) 7 [a] [] 0
  unfold BR Rz
  rw [this];simp
def Nc (x b:AZ):Bool:=decide (x.coins < b.coins) || (x.coins == b.coins && (decide (x.leagues < b.leagues) || (x.leagues == b.leagues && decide (x.way.length < b.way.length))))
theorem Ox {x b:AZ} (hl:Ij x.way b.way=1):decide (XJ x b < 0)=Nc x b:=by
  unfold XJ Nc
  rw [hl]
  simp only [orV]
  unfold H8
  by_cases c0:x.coins < b.coins
  · simp [c0]
  · by_cases c0':b.coins < x.coins
    · have:¬ x.coins=b.coins:=by omega
      simp [c0,c0',this]
    · have e0:x.coins=b.coins:=by omega
      by_cases c1:x.leagues < b.leagues
      · simp [e0,c1]
      · by_cases c2:b.leagues < x.leagues
        · have:¬ x.leagues=b.leagues:=by omega
          simp [e0,c1,c2,this]
        · have e:x.leagues=b.leagues:=by omega
          by_cases c3:(x.way.length:Int) < (b.way.length:Int)
          · have:x.way.length < b.way.length:=by omega
            simp [e0,e,this]
          · by_cases c4:(b.way.length:Int) < (x.way.length:Int)
            · have h5:¬ x.way.length < b.way.length:=by omega
              have h6:b.way.length < x.way.length:=by omega
              simp [e0,e,h5,h6]
            · have h5:¬ x.way.length < b.way.length:=by omega
              have h6:¬ b.way.length < x.way.length:=by omega
              simp [e0,e,h5,h6]
def GU (L:List AZ) (lim:Int) (i:Nat):Option AZ:=PO ((L.take i).filter fun c=>decide (c.leagues≤lim))
theorem VB (l:List AZ) (x:AZ):PO (l++[x])=Ql (PO l) x:=by simp [PO]
theorem OE {L:List AZ} {lim:Int} {i:Nat} (h:i < L.length) (hm:¬ L[i].leagues≤lim):GU L lim (i+1)=GU L lim i:=by
  unfold GU
  rw [List.take_succ_eq_append_getElem h,List.filter_append]
  simp [hm]
theorem Jw {L:List AZ} {lim:Int} {i:Nat} (h:i < L.length) (hm:L[i].leagues≤lim):GU L lim (i+1)=Ql (GU L lim i) L[i]:=by
  unfold GU
  rw [List.take_succ_eq_append_getElem h,List.filter_append]
  simp only [List.filter_cons,List.filter_nil,hm,decide_true,if_true]
  rw [VB]
theorem QY {t:Ac} (hT:Ak t=0) {a:Nat} (ha:(a:Int) < t.roads.stages) {b:Int} {i j:Nat} (hi:i < (BR t (a:Int) b).length) (hji:j < i):Ij (BR t (a:Int) b)[i].way (BR t (a:Int) b)[j].way=1:=by
  have hp:((BR t (a:Int) b).map AZ.way).Pairwise fun a b=>Ij b a=1:=by rw [Ti hT ha b];exact Ji _ _ _ _ _ _
  exact (List.pairwise_iff_getElem.1 (List.pairwise_map.1 hp)) j i (by omega) hi hji
def Dh (L:List AZ) (lim:Int) (i:Nat) (best least far:Int):Prop :=
  (GU L lim i=none∧best = -1∧least=0∧far=0)∨∃ j,∃ hj:j < L.length,j < i∧GU L lim i=some L[j]∧best=(j:Int)∧least=L[j].coins∧far=L[j].leagues
theorem Dh.start (L:List AZ) (lim:Int):Dh L lim 0 (-1) 0 0 := .inl ⟨rfl,rfl,rfl,rfl⟩
theorem Dh.far {L:List AZ} {lim best least far_:Int} {i:Nat} (h:Dh L lim i best least far_) (hi:i < L.length) (hm:¬ L[i].leagues≤lim):Dh L lim (i+1) best least far_:=by
  rcases h with ⟨h1,h2⟩ | ⟨j,hj,hji,h1,h2⟩
  · exact .inl ⟨by rw [OE hi hm];exact h1,h2⟩
  · exact .inr ⟨j,hj,by omega,by rw [OE hi hm];exact h1,h2⟩
theorem Dh.first {L:List AZ} {lim best least far_:Int} {i:Nat} (h:Dh L lim i best least far_) (hb:best < 0) (hi:i < L.length) (hm:L[i].leagues≤lim):Dh L lim (i+1) i L[i].coins L[i].leagues:=by
  rcases h with ⟨h1,h2⟩ | ⟨j,hj,hji,h1,h2⟩
  · exact .inr ⟨i,hi,by omega,by rw [Jw hi hm,h1];rfl,rfl,rfl,rfl⟩
  · omega
theorem Dh.new {L:List AZ} {lim best least far_:Int} {i j:Nat} (h:Dh L lim i best least far_) (hb:best=(j:Int)) (hj:j < L.length) (hi:i < L.length) (hm:L[i].leagues≤lim) (hl:∀ j,∀ hj:j < i,Ij L[i].way (L[j]'(by omega)).way=1) (hc:Nc L[i] L[j]=true):Dh L lim (i+1) i L[i].coins L[i].leagues:=by
  rcases h with ⟨h1,h2⟩ | ⟨j',hj',hji,h1,h2,h3⟩
  · omega
  · obtain rfl:j'=j:=by omega
    refine .inr ⟨i,hi,by omega,?_,rfl,rfl,rfl⟩
    rw [Jw hi hm,h1]
    have:=Ox (hl j' hji)
    rw [hc] at this
    unfold Ql;dsimp only;rw [if_pos (of_decide_eq_true this)]
theorem Dh.old {L:List AZ} {lim best least far_:Int} {i j:Nat} (h:Dh L lim i best least far_) (hb:best=(j:Int)) (hj:j < L.length) (hi:i < L.length) (hm:L[i].leagues≤lim) (hl:∀ j,∀ hj:j < i,Ij L[i].way (L[j]'(by omega)).way=1) (hc:Nc L[i] L[j]=false):Dh L lim (i+1) best least far_:=by
  rcases h with ⟨h1,h2⟩ | ⟨j',hj',hji,h1,h2,h3⟩
  · omega
  · obtain rfl:j'=j:=by omega
    refine .inr ⟨j',hj',by omega,?_,h2,h3⟩
    rw [Jw hi hm,h1]
    have:=Ox (hl j' hji)
    rw [hc] at this
    unfold Ql;dsimp only;rw [if_neg (of_decide_eq_false this)]
theorem Y8 {t:Ac} {a b lim:Int} (h:0≤lim):GU (BR t a b) lim (BR t a b).length=G8 t a b lim:=by
  unfold GU G8
  rw [List.take_length]
  congr 1
  refine List.filter_congr fun c _ =>?_
  unfold JM
  have:¬ lim < 0:=by omega
  simp [this]
theorem Y6 {t:Ac} {a b lim:Int} (h:∀ c∈BR t a b,c.leagues≤lim):GU (BR t a b) lim (BR t a b).length=G8 t a b (-1):=by
  unfold GU G8
  rw [List.take_length]
  congr 1
  refine List.filter_congr fun c hc =>?_
  unfold JM
  have:=h c hc
  simp [this]
end
end Go.Proofs.Ytgdobbcjkiapkaa
