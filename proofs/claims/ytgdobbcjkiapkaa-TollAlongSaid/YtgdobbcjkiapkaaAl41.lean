import Derived.Test.YtgdobbcjkiapkaaAl40
import Derived.Test.YtgdobbcjkiapkaaAl37
import Derived.Test.YtgdobbcjkiapkaaAl36
import Derived.Test.YtgdobbcjkiapkaaAl34
import Derived.Test.YtgdobbcjkiapkaaAl33
namespace Go.Proofs.Ytgdobbcjkiapkaa
set_option maxRecDepth 100000
set_option maxHeartbeats 4000000
set_option linter.unusedSimpArgs false
set_option linter.unusedVariables false
section
open Go Go.Conc Go.RowKit
theorem XF {w:World} {a:Option Addr} {n c:Nat} {l:List Int} (hl:Aw w a l) (hn:l.length=n) (hm:n≤maxLen) (ha:l=[]∨∀ ad,a=some ad→ad.block < w.heap.size):Calls Try.prog 19 #[.slice a n c] w fun e w'=>∃ hb,e = .returned (.pointer (some ⟨hb,0,none⟩))∧w.heap.size≤hb∧AO w' hb 0 a n c∧Below w.heap.size w w' :=
 (RN w a n c l hl hn hm ha).mono fun _ _ ⟨h1,h2,h3,_⟩=>⟨_,h1,Nat.le_refl _,h2,h3⟩
def YF (b:Nat) (t:Ac) (s:DN):Prop:=(Value.slice s.sa t.roads.strips.length s.sc).ownBlock≠some b∧(Value.slice s.pa t.Ae.length s.pc).ownBlock≠some b∧(Value.slice s.ta t.Ah.length s.tc).ownBlock≠some b
theorem BV.far {x:World} {B b:Nat} {t:Ac} {s:DN} (h:BV x B t s) (hb:x.heap.size≤b):YF b t s:=⟨h.os.Ih hb,h.op.Ih hb,h.ot.Ih hb⟩
theorem BV.Zr {x x':World} {B b:Nat} {t:Ac} {s:DN} (h:BV x B t s) (hG:x.grownBy x' (some b)) (hF:YF b t s):BV x' B t s:=⟨h.os.grown hG hF.1,h.op.grown hG hF.2.1,h.ot.grown hG hF.2.2⟩
theorem U3 {w:World} {hb B:Nat} {ha:Option Addr} {hn hc:Nat} (ns nt:Nat) (hH:AO w hb B ha hn hc) (hB:B≤900000) (h8:ns≤8) (h6:nt≤6):Calls Try.prog 20 #[.pointer (some ⟨hb,0,none⟩), .int .i64 (ns:Int), .int .i64 (nt:Int)] w (fun e w'=>∃ t s,e = .returned (.agg (EU t s))∧BV w' (hb+1) t s∧Hid (Yl ns nt t)∧AO w' hb (B+200) ha hn hc∧Ext hb w w') :=
 (Pv hH hB h8 h6).mono fun _ _ ⟨t,s,h1,h2,h3,h4,h5⟩=>⟨t,s,h1,h2.lower (Nat.succ_le_of_lt hH.lt),Lib.hid h3,h4,h5⟩
theorem D7.pass {w:World} {B:Nat} {la:Option Addr} {lc:Nat} {l:List AB} (h:D7 w B (.slice la l.length lc) l):Fb w la l:=by
 obtain ⟨a,cap,hv,_,_,hp⟩:=h.at;simp only [Value.slice.injEq,true_and] at hv;rw [hv.1];exact hp
end
section
open Go Go.Conc Go.RowKit
theorem VA {t:Ac} {l:List AB} (h:CU t l=0):l.length≤maxLen:=by
 have:l.length≤24:=Classical.byContradiction fun c=>by
  unfold CU at h
  by_cases h1:Am t≠0
  ·rw [if_pos h1] at h;exact h1 h
  ·rw [if_neg h1,if_pos (by omega)] at h;exact absurd h (by decide)
 exact Nat.le_trans this (by decide)
theorem VV {t:Ac} {l:List AB} (h:CU t l=0):EP t l:=EP.of (JX h) (Eh h).1 (Eh h).2
theorem YQ {α:Type} {f:α→List Value} {k:Nat} {w:World} {b:Nat} {c:Array Value} {t:TypeId} {y:α} (K:Rw w b c t) (h:c.toList=f y):Di f k w (some ⟨b,0,none⟩) [y] :=
 .inr ⟨b,0,rfl,fun i hi j u _ hu=>by
  have:i=0:=by simpa using hi
  subst this;have h2:c[j]? = some u:=by rw [← Array.getElem?_toList,h];exact hu
  simpa using K.cell h2⟩
section
variable {M:Machine} {w:World} {t:Ac} {s:DN} {l:List AB} {la:Option Addr} {lc:Nat}
def Xb (w0:World) (L:List Int) (n:Nat) (e:Ending) (w':World):Prop :=
 Below w0.heap.size w0 w'∧∃ g,e = .returned (.tuple #[.slice (some ⟨g,0,none⟩) n n, .int .i64 0])∧w0.heap.size≤g∧Rw w' g (J4 L) 3
theorem FX.use {L:List Int} {err:Int} {e:Ending} {w':World} (h:FX w L err e w') (h0:err=0) {n:Nat} (hn:L.length=n):Xb w L n e w':=by
 obtain ⟨g,h1,h2,h3⟩:=h.2.2 h0;exact ⟨h.1,g,by rw [h1,hn],h2,h3⟩
theorem AaF (hT:CW w t s) (hP:Fb w la l) (ho:Hid (CU t l=0)):DF Try.prog M 30 #[.agg (EU t s), .slice la l.length lc] w (Xb w (EL (FT t l) t.Ae.length) t.Ae.length) :=
 (SH hT hP (VA ho.out)).mono fun _ _ h=>h.use ho.out (Fv _ _)
end
end
section
open Go.RowKit
theorem JP {f g:Nat→Int}:∀ n:Nat,(∀ i,i < n→f i=g i)→FK f n=FK g n
 | 0,_=>rfl
 | n+1,h=>by show FK f n+f n=FK g n+g n;rw [JP n fun i hi=>h i (by omega),h n (by omega)]
theorem Um {t:Ac} {l l':List AB} (o:Nat) (hp:∀ k:Int,Aq l (k,(o:Int))=Aq l' (k,(o:Int))):KO t l o=KO t l' o :=
 JP _ fun i _=>by unfold atL;rw [hp]
theorem X0 {t:Ac} {l l':List AB} (o:Nat) (hp:∀ k:Int,Aq l (k,(o:Int))=Aq l' (k,(o:Int))):FT t l o=FT t l' o:=by unfold FT;rw [Um o hp]
end
section
open Go Go.RowKit
section
variable {α β:Type} {f:α→List Value} {f':β→List Value} {e e':TypeId} {k k':Nat} {w w' x x':World} {B B' b g m n c:Nat} {v v':Value} {l:List α} {l':List β} {cs cur:Array Value} {t:TypeId} {r:Option Nat}
theorem AX.Rz (h:AX f e k x B v l) (hb:v.ownBlock=some g):∃ cur,x.heap[g]? = some (.cells cur e (0,0)):=by
 rcases h.2 with ⟨hv,_⟩ | ⟨g',cap,cur,hv,_,hh,_⟩
 ·rw [hv] at hb;simp [Value.ownBlock] at hb
 ·rw [hv] at hb;simp only [Value.ownBlock,Option.some.injEq] at hb;subst hb;exact ⟨cur,hh⟩
theorem Rw.YR (K:Rw x b cs t) (hg:x.heap[g]? = some (.cells cur e (0,0))) (hne:t≠e):b≠g:=by
 rintro rfl;unfold Rw at K;rw [K] at hg;simp only [Option.some.injEq,Obj.cells.injEq] at hg;exact hne hg.2.1
theorem AX.YR (h:AX f' e' k' x B' v' l') (hg:x.heap[g]? = some (.cells cur e (0,0))) (hne:e'≠e):v'.ownBlock≠some g:=fun hb=>by
 obtain ⟨cur2,h2⟩:=h.Rz hb;rw [h2] at hg;simp only [Option.some.injEq,Obj.cells.injEq] at hg;exact hne hg.2.1
theorem AX.WV (h:AX f e k x B v l) (h':AX f' e' k' x B' v' l') (hne:e'≠e):∀ g,v.ownBlock=some g→v'.ownBlock≠some g:=fun g hg=>by
 obtain ⟨cur,h2⟩:=h.Rz hg;exact h'.YR h2 hne
theorem AX.Ij (h':AX f' e' k' x B' v' l') (hG:x.grownBy x' r) (ha:∀ g,r=some g→v'.ownBlock≠some g):AX f' e' k' x' B' v' l':=by
 refine h'.keep fun q hq=>hG.block q (h'.Ai hq).2 fun e =>?_
 exact ha q e.symm hq
theorem Rw.Ij (K:Rw x b cs t) (hG:x.grownBy x' r) (ha:∀ g,r=some g→b≠g):Rw x' b cs t:=K.grown hG fun e=>ha b e.symm rfl
theorem Ext.Ij (h:Ext m w x) (hG:x.grownBy x' r) (ha:∀ g,r=some g→w.heap.size≤g):Ext m w x' :=
 ⟨hG.os.trans h.os,hG.tape.trans h.tape,hG.output.trans h.output,Nat.le_trans h.size hG.size,fun k hk hne=>(hG.block k (Nat.lt_of_lt_of_le hk h.size) (fun e=>by have:=ha k e.symm;omega)).trans (h.block k hk hne)⟩
theorem AO.Ij {hb D n ca:Nat} {a:Option Addr} (h:AO x hb D a n ca) (hG:x.grownBy x' r) (ha:∀ g,r=some g→hb < g):AO x' hb D a n ca:=h.keep fun k hk hle=>hG.block k hk fun e=>by have:=ha k e.symm;omega
theorem BV.Ij {t:Ac} {s:DN} (h:BV x B t s) (hG:x.grownBy x' r) (h1:∀ g,r=some g→(Value.slice s.sa t.roads.strips.length s.sc).ownBlock≠some g) (h2:∀ g,r=some g→(Value.slice s.pa t.Ae.length s.pc).ownBlock≠some g) (h3:∀ g,r=some g→(Value.slice s.ta t.Ah.length s.tc).ownBlock≠some g):BV x' B t s:=⟨h.os.Ij hG h1,h.op.Ij hG h2,h.ot.Ij hG h3⟩
theorem BV.VP {t:Ac} {s:DN} (h:BV x B t s) (hG:x.grownBy x' v.ownBlock) (ho:AX f e k x B' v l) (h1:96≠e) (h2:69≠e) (h3:57≠e):BV x' B t s :=
 h.Ij hG (ho.WV h.os h1) (ho.WV h.op h2) (ho.WV h.ot h3)
theorem Rw.VP (K:Rw x b cs t) (hG:x.grownBy x' v.ownBlock) (ho:AX f e k x B' v l) (hne:t≠e):Rw x' b cs t:=K.Ij hG fun g hg=>by
 obtain ⟨cur,h2⟩:=ho.Rz hg;exact K.YR h2 hne
end
end
section
open Go Go.Conc Go.RowKit
structure ZT (m ms:List AB):Prop where
 len:ms.length=m.length
 same:∀ i (h:i < m.length) (h':i < ms.length),ms[i].toll=m[i].toll∧ms[i].owner=m[i].owner∧m[i].heads≤ms[i].heads∧ms[i].heads≤40
theorem ZT.ok {nt np:Nat} {m ms:List AB} (h:ZT m ms) (hm:SY nt np m):SY nt np ms:=fun p hp=>by
 obtain ⟨i,hi,rfl⟩:=List.getElem_of_mem hp;have hi2:i < m.length:=by rw [← h.len];exact hi
 have hs:=h.same i hi2 hi;have:=hm m[i] (List.getElem_mem hi2);rw [hs.1,hs.2.1];omega
structure ZR (ts us:List BC):Prop where
 len:us.length=ts.length
 same:∀ i (h:i < ts.length) (h':i < us.length),us[i].strip=ts[i].strip∧us[i].farmer=ts[i].farmer∧ts[i].rate≤us[i].rate∧us[i].rate≤500
theorem ZR.range {ts us:List BC} (h:ZR ts us) (h0:∀ x∈ts,0≤x.rate∧x.rate≤500):∀ u∈us,0≤u.rate∧u.rate≤500:=fun u hu=>by
 obtain ⟨i,hi,rfl⟩:=List.getElem_of_mem hu;have hi2:i < ts.length:=by rw [← h.len];exact hi
 have:=h.same i hi2 hi;have:=h0 _ (List.getElem_mem hi2)
 omega
section
variable {w:World} {t:Ac} {s:DN}
end
section
variable {α:Type} {f:α→List Value} {e:TypeId} {k:Nat} {w:World} {B g c:Nat} {l:List α}
theorem AX.src {a:Option Addr} (h:AX f e k w B (.slice a l.length c) l) (hf:∀ x,(f x).length=k):Di f k w a l:=by
 obtain ⟨a',c',hv,_,_,hC⟩:=h.cells hf;simp only [Value.slice.injEq,true_and] at hv;obtain ⟨rfl,_⟩:=hv;exact hC
end
end
section
open Go.RowKit
structure Aat (nt np:Nat) (l:List AB) (i:Nat) (ps os:List AB):Prop where
 pl:ps.length≤2*i
 ol:os.length≤i
 pk:SY nt np ps
 ok:SY nt np os
 ps:∀ key,Aq ps key=Aq (l.take i) key
 os:∀ a b:Int,Aq os (a,b)=if b=0 then Aq (l.take i) (a,b) else 0
theorem Aat.nil (nt np:Nat) (l:List AB):Aat nt np l 0 [] []:=⟨by simp,by simp,fun p h=>by simp at h,fun p h=>by simp at h,fun key=>by simp [Aq],fun a b=>by simp [Aq]⟩
theorem PN {a b:List AB} (h:a.Perm b) (key:Int×Int):Aq a key=Aq b key:=by
 induction h with
 | nil=>rfl
 | cons x _ ih=>simp only [Aq,ih]
 | swap x y l=>simp only [Aq];omega
 | trans _ _ h1 h2=>exact h1.trans h2
end
section
open Go.RowKit
def Chain (t:Ac):List Int→Int→Int→Prop
 | [],a,b=>a=b
 | k :: r,a,b=>(0≤k∧k < (t.roads.strips.length:Int))∧0≤EM (t.roads.strips.getD k.toNat default) a∧Chain t r (EM (t.roads.strips.getD k.toNat default) a) b
theorem Chain.app {t:Ac}:∀ {x y:List Int} {a b c:Int},Chain t x a b→Chain t y b c→Chain t (x++y) a c
 | [],y,a,b,c,h,h2=>by obtain rfl:a=b:=h;exact h2
 | k :: x,y,a,b,c,h,h2=>⟨h.1,h.2.1,Chain.app h.2.2 h2⟩
theorem Chain.snoc {t:Ac} {x:List Int} {a b k:Int} (h:Chain t x a b) (h0:0≤k) (h1:k < (t.roads.strips.length:Int)) (h2:0≤EM (t.roads.strips.getD k.toNat default) b):Chain t (x++[k]) a (EM (t.roads.strips.getD k.toNat default) b) :=
 h.app ⟨⟨h0,h1⟩,h2,rfl⟩
theorem Pz {D S:Int}:∀ {l:List Strip},Bd D S l=0→∀ s∈l,0≤s.A∧s.A < S∧0≤s.B∧s.B < S∧s.A≠s.B
 | [],_,s,hs=>by simp at hs
 | x :: l,h,s,hs=>by
  unfold Bd at h
  have hx:BN x D S=0:=by
   by_cases c:BN x D S=0
   ·exact c
   ·simp [c] at h
  rcases List.mem_cons.1 hs with rfl | hm
  ·unfold BN at hx
   by_cases c1:btw s.A 0 (S-1)=true
   ·by_cases c2:btw s.B 0 (S-1)=true
    ·by_cases c3:s.A=s.B
     ·simp [c1,c2,c3] at hx
     ·have:=Aj.1 c1;have:=Aj.1 c2;omega
    ·simp [c2] at hx
   ·simp [c1] at hx
  ·refine Pz (D:=D) (l:=l) ?_ s hm;rw [hx] at h
   simpa using h
theorem KU {t:Ac} (h:Am t=0):∀ s∈t.roads.strips,0≤s.A∧s.A < t.roads.stages∧0≤s.B∧s.B < t.roads.stages∧s.A≠s.B:=by
 have h1:=(Bi h).1;unfold BG at h1
 split at h1
 ·exact absurd h1 (by decide)
 ·split at h1
  ·exact absurd h1 (by decide)
  ·exact Pz h1
theorem RZ {t:Ac} {k:Int} (h0:0≤k) (h1:k < (t.roads.strips.length:Int)):t.roads.strips.getD k.toNat default∈t.roads.strips:=by
 have:k.toNat < t.roads.strips.length:=by omega
 simp [List.getD_eq_getElem?_getD,this]
theorem Chain.to {t:Ac} (hT:Am t=0):∀ {x:List Int} {a b:Int},Chain t x a b→(0≤a∧a < t.roads.stages)→0≤b∧b < t.roads.stages
 | [],a,b,h,h2=>by obtain rfl:a=b:=h;exact h2
 | k :: x,a,b,h,h2=>by
  refine Chain.to hT h.2.2 ⟨h.2.1,?_⟩;have:=KU hT _ (RZ h.1.1 h.1.2);unfold EM;split
  ·omega
  ·split <;> omega
theorem Chain.back {t:Ac} (hT:Am t=0):∀ {x:List Int} {a b:Int},Chain t x a b→0≤a→Chain t x.reverse b a
 | [],a,b,h,_=>Eq.symm h
 | k :: x,a,b,h,h0=>by
  rw [List.reverse_cons];refine (Chain.back hT h.2.2 h.2.1).app ⟨h.1,?_⟩;have hs:=KU hT _ (RZ h.1.1 h.1.2);have h3:=h.2.1
  have e:EM (t.roads.strips.getD k.toNat default) (EM (t.roads.strips.getD k.toNat default) a)=a:=by
   generalize t.roads.strips.getD k.toNat default=s at hs h3;unfold EM at h3 ⊢
   by_cases c1:a=s.A
   ·simp only [c1,if_true];rw [if_neg (by omega)]
   ·by_cases c2:a=s.B
    ·rw [if_neg c1,if_pos c2];simp [c2]
    ·rw [if_neg c1,if_neg c2] at h3;omega
  rw [e];exact ⟨h0,rfl⟩
theorem JJ {t:Ac}:∀ {x pre:List Int} {a b:Int} {acc:List AB},Chain t x a b→(pre++x).Nodup→CG t pre x a acc=(acc++x.flatMap (fun k=>CJ t k t.Ah.length),0)
 | [],pre,a,b,acc,_,_=>by simp [CG]
 | k :: x,pre,a,b,acc,h,hn=>by
  have hk:¬ k∈pre:=fun hm=>(List.nodup_append.1 hn).2.2 k hm k (by simp) rfl
  rw [CG,if_neg (by rw [Aj.2 (by have:=h.1;omega)];simp),if_neg hk,if_neg (by have:=h.2.1;omega),JJ h.2.2 (by rw [List.append_assoc];exact hn)];simp
def En (t:Ac) (way:List Int):List AB:=way.flatMap (fun k=>CJ t k t.Ah.length)
theorem Jf {t:Ac} (hT:Am t=0) {x:List Int} {a b:Int} (h:Chain t x a b) (hn:x.Nodup) (ha:0≤a∧a < t.roads.stages) (h8:x.length≤8):Bz t a x=(En t x,0):=by
 rw [(Fh (t:=t)).2.2.2 hT (Aj.2 (by omega)) (by omega),JJ h (by simpa using hn)]
 rfl
theorem LH {t:Ac} {k:Int} {i m:Nat} (h:(t.Ah.getD i default).strip≠k):GV t k i m=[]:=by
 unfold GV;rw [List.flatMap_eq_nil_iff];intro o _;exact QZ fun e=>h e.1
theorem UV {t:Ac} (i m:Nat):∀ {x:List Int},x.Nodup→(x.flatMap fun k=>GV t k i m).length≤m
 | [],_=>by simp
 | k :: x,h=>by
  rw [List.flatMap_cons,List.length_append]
  by_cases c:(t.Ah.getD i default).strip=k
  ·have h0:x.flatMap (fun k=>GV t k i m)=[]:=by
    rw [List.flatMap_eq_nil_iff];intro k' hk';refine LH fun e =>?_
    have:=(List.nodup_cons.1 h).1;rw [← c,e] at this;exact this hk'
   rw [h0];have:=Jo t k i m
   simpa using this
  ·rw [LH c];have:=UV (t:=t) i m (List.nodup_cons.1 h).2
   simpa using this
theorem KL {α β:Type} (f g:α→List β):∀ x:List α,(x.flatMap fun k=>f k++g k).length=(x.flatMap f).length+(x.flatMap g).length
 | []=>rfl
 | k :: x=>by
  have:=KL f g x;simp only [List.flatMap_cons,List.length_append] at this ⊢
  omega
theorem RX {t:Ac} {x:List Int} (h:x.Nodup):∀ j:Nat,(x.flatMap fun k=>CJ t k j).length≤j*t.Ae.length
 | 0=>by
  have:(x.flatMap fun k=>CJ t k 0)=[]:=List.flatMap_eq_nil_iff.2 fun k _=>rfl
  simp [this]
 | j+1=>by
  have h1:=RX (t:=t) h j;have h2:=UV (t:=t) j t.Ae.length h;have e:(fun k=>CJ t k (j+1))=fun k=>CJ t k j++GV t k j t.Ae.length:=funext fun k=>GX t k j
  rw [e,KL,Nat.add_mul]
  omega
theorem WB {t:Ac} {x:List Int} (h:x.Nodup):(En t x).length≤t.Ah.length*t.Ae.length:=RX h _
theorem NG {t:Ac}:∀ {l:List AB},C9 t l→EF t l=0
 | [],_=>rfl
 | p :: l,h=>by unfold EF;rw [if_pos (h p (by simp))];exact NG fun x hx=>h x (by simp [hx])
theorem UA {t:Ac} (hT:Am t=0) {x:List Int} {a b:Int} (h:Chain t x a b) (hn:x.Nodup) (ha:0≤a∧a < t.roads.stages) (h8:x.length≤8):CU t (En t x)=0:=by
 have h1:=Ht hT a x;rw [Jf hT h hn ha h8] at h1;have h2:=WB (t:=t) hn;obtain ⟨_,_,_,_,h4,_,_,h6,_⟩:=Bi hT;have h3:t.Ah.length*t.Ae.length≤6*4:=Nat.mul_le_mul h6 h4;unfold CU;rw [if_neg (by rw [hT];simp),if_neg (by omega)];exact NG h1.1
theorem Nr {t:Ac} (x:List Int) (key:Int×Int):Aq (En t x) key=Aq (En t x.reverse) key :=
 PN (List.Perm.flatMap_right _ (List.reverse_perm x).symm) key
theorem Pg {f:Nat→Int}:∀ n:Nat,Gf (EL f n)=FK f n
 | 0=>rfl
 | n+1=>by
  have h:=I5 (l:=EL f (n+1)) (k:=n) (by rw [Fv];omega);have h1:(EL f (n+1)).take (n+1)=EL f (n+1):=List.take_of_length_le (by rw [Fv];omega)
  have h2:(EL f (n+1)).take n=EL f n:=by
   unfold EL;rw [List.range_succ,List.map_append,List.take_append_of_le_length (by simp)];exact List.take_of_length_le (by simp)
  have h3:(EL f (n+1))[n]'(by rw [Fv];omega)=f n:=by simp [EL]
  rw [h1,h2,h3,Pg n] at h;exact h
theorem NS {t:Ac} (hT:Am t=0) {x:List Int} {a b:Int} (h:Chain t x a b) (hn:x.Nodup) (ha:0≤a∧a < t.roads.stages) (h8:x.length≤8):Nl t a x=(FK (FT t (En t x)) t.Ae.length,0):=by
 unfold Nl JC;rw [Jf hT h hn ha h8]
 rfl
theorem Ws {t:Ac} (hT:Am t=0) {x:List Int} {a b:Int} (h:Chain t x a b) (hn:x.Nodup) (ha:0≤a∧a < t.roads.stages) (h8:x.length≤8):Nl t b x.reverse=(FK (FT t (En t x)) t.Ae.length,0):=by
 rw [NS hT (h.back hT ha.1) ((List.reverse_perm x).nodup_iff.2 hn) (h.to hT ha) (by simpa using h8)]
 congr 1
 exact JP _ fun o _=>X0 o fun k=>(Nr x _).symm
end
section
open Go Go.RowKit
section
variable {w:World} {B g c:Nat} {a:Option Addr} {l:List Int} {v:Value}
theorem LV (l:List Int):∀ y∈l,∀ u∈[Value.int .i64 y],u.oneCell'=true:=fun y _ u hu=>by simp at hu;subst hu;rfl
theorem CB.ints (h:CB w B (.slice a l.length c) l):Aw w a l:=by
 rcases AX.src h (fun _=>rfl) with h0 | ⟨b,o,ha,hc⟩
 ·exact .inl h0
 ·exact .inr ⟨b,o,ha,fun i hi=>by have:=hc i hi 0 _ (by omega) rfl;simpa using this⟩
theorem CB.len (h:CB w B (.slice a l.length c) l):l.length≤c∧c≤maxLen:=by
 obtain ⟨a',c',hv,h1,h2,_⟩:=AX.cells h (fun _=>rfl);simp only [Value.slice.injEq,true_and] at hv;rw [hv.2];exact ⟨h1,h2⟩
end
end
end Go.Proofs.Ytgdobbcjkiapkaa
