import Derived.Test.YtgdobbcjkiapkaaFm41
import Derived.Test.YtgdobbcjkiapkaaFm37
import Derived.Test.YtgdobbcjkiapkaaFm36
import Derived.Test.YtgdobbcjkiapkaaFm38
import Derived.Test.YtgdobbcjkiapkaaFm33
namespace Go.Proofs.Ytgdobbcjkiapkaa
set_option maxRecDepth 100000
set_option maxHeartbeats 4000000
set_option linter.unusedSimpArgs false
set_option linter.unusedVariables false
section
open Go Go.Conc Go.RowKit
theorem XK {w:World} {a:Option Addr} {n c:Nat} {l:List Int} (hl:AV w a l) (hn:l.length=n) (hm:n≤maxLen) (ha:l=[]∨∀ ad,a=some ad→ad.block < w.heap.size):Calls Try.prog 19 #[.slice a n c] w fun e w'=>∃ hb,e = .returned (.pointer (some ⟨hb,0,none⟩))∧w.heap.size≤hb∧AU w' hb 0 a n c∧Below w.heap.size w w' :=
 (RP w a n c l hl hn hm ha).mono fun _ _ ⟨h1,h2,h3,_⟩=>⟨_,h1,Nat.le_refl _,h2,h3⟩
def YR (b:Nat) (t:Ad) (s:DY):Prop:=(Value.slice s.sa t.roads.strips.length s.sc).ownBlock≠some b∧(Value.slice s.pa t.Ac.length s.pc).ownBlock≠some b∧(Value.slice s.ta t.Ag.length s.tc).ownBlock≠some b
theorem Ec.far {x:World} {B b:Nat} {t:Ad} {s:DY} (h:Ec x B t s) (hb:x.heap.size≤b):YR b t s:=⟨h.os.Ie hb,h.op.Ie hb,h.ot.Ie hb⟩
theorem Ec.ZK {x x':World} {B b:Nat} {t:Ad} {s:DY} (h:Ec x B t s) (hG:x.grownBy x' (some b)) (hF:YR b t s):Ec x' B t s:=⟨h.os.grown hG hF.1,h.op.grown hG hF.2.1,h.ot.grown hG hF.2.2⟩
theorem Va {w:World} {hb B:Nat} {ha:Option Addr} {hn hc:Nat} (ns nt:Nat) (hH:AU w hb B ha hn hc) (hB:B≤900000) (h8:ns≤8) (h6:nt≤6):Calls Try.prog 20 #[.pointer (some ⟨hb,0,none⟩), .int .i64 (ns:Int), .int .i64 (nt:Int)] w (fun e w'=>∃ t s,e = .returned (.agg (EK t s))∧Ec w' (hb+1) t s∧Hid (UR ns nt t)∧AU w' hb (B+200) ha hn hc∧Ext hb w w') :=
 (PK hH hB h8 h6).mono fun _ _ ⟨t,s,h1,h2,h3,h4,h5⟩=>⟨t,s,h1,h2.lower (Nat.succ_le_of_lt hH.lt),Lib.hid h3,h4,h5⟩
theorem Y0 {w:World} {hb B ns nt:Nat} {ha:Option Addr} {hn hc:Nat} {t:Ad} {s:DY} (most:Nat) (hH:AU w hb B ha hn hc) (hB:B≤900000) (hT:Hid (UR ns nt t)) (h6:nt≤6) (hm:most≤24):Calls Try.prog 29 #[.pointer (some ⟨hb,0,none⟩), .agg (EK t s), .int .i64 (most:Int)] w (fun e w'=>∃ l la lc,e = .returned (.slice la l.length lc)∧BP w' (hb+1) (.slice la l.length lc) l∧l.length≤most∧Hid (FM t.Ag.length t.Ac.length l)∧AU w' hb (B+1+5*most) ha hn hc∧Ext hb w w'):=by
 have h:=hT.out;refine (TT (most:=most) hH hB (by have:=h.lt;omega) (by have:=h.lp;omega) h.p1 (by omega)).mono ?_;rintro e w' ⟨l,v,rfl,hO,hl,hG,hH',hE⟩;obtain ⟨la,lc,rfl,_,_,_⟩:=hO.at;exact ⟨l,la,lc,rfl,hO.lower (Nat.succ_le_of_lt hH.lt),hl,Lib.hid hG,hH',hE⟩
theorem BP.pass {w:World} {B:Nat} {la:Option Addr} {lc:Nat} {l:List Am} (h:BP w B (.slice la l.length lc) l):DL w la l:=by
 obtain ⟨a,cap,hv,_,_,hp⟩:=h.at;simp only [Value.slice.injEq,true_and] at hv;rw [hv.1];exact hp
end
section
open Go Go.Conc Go.RowKit
theorem LX {t:Ad} {l:List Am} (h:BK t l=0):l.length≤maxLen:=by
 have:l.length≤24:=Classical.byContradiction fun c=>by
  unfold BK at h
  by_cases h1:Aq t≠0
  ·rw [if_pos h1] at h;exact h1 h
  ·rw [if_neg h1,if_pos (by omega)] at h;exact absurd h (by decide)
 exact Nat.le_trans this (by decide)
theorem Ea {t:Ad} {l:List Am} (h:BK t l=0):Dv t l:=Dv.of (EE h) (DI h).1 (DI h).2
theorem MF {t:Ad} {l:List Am} (h:Dv t l) {o:Nat} (ho:o < t.Ac.length):0≤FZ t l o:=by
 have:=Eg (h.EG ho) t.Ag.length;unfold FZ;omega
theorem XO {w:World} {g n:Nat} {f:Nat→Int} {t:TypeId} (h:Rw w g (J6 (Jd f n)) t) {i:Nat} (hi:i < n):w.cell? ⟨g,i,none⟩=some (.int .i64 (f i)):=by
 refine h.cell ?_;rw [Mc (l:=Jd f n) (i:=i) (by rw [L8];exact hi)];simp [Jd]
theorem Aay {α:Type} {f:α→List Value} {k:Nat} {w:World} {b:Nat} {c:Array Value} {t:TypeId} {y:α} (K:Rw w b c t) (h:c.toList=f y):DN f k w (some ⟨b,0,none⟩) [y] :=
 .inr ⟨b,0,rfl,fun i hi j u _ hu=>by
  have:i=0:=by simpa using hi
  subst this;have h2:c[j]? = some u:=by rw [← Array.getElem?_toList,h];exact hu
  simpa using K.cell h2⟩
section
variable {M:Machine} {w:World} {t:Ad} {s:DY} {l:List Am} {la:Option Addr} {lc:Nat}
def Xe (w0:World) (L:List Int) (n:Nat) (e:Ending) (w':World):Prop :=
 Below w0.heap.size w0 w'∧∃ g,e = .returned (.tuple #[.slice (some ⟨g,0,none⟩) n n, .int .i64 0])∧w0.heap.size≤g∧Rw w' g (J6 L) 3
theorem F7.use {L:List Int} {err:Int} {e:Ending} {w':World} (h:F7 w L err e w') (h0:err=0) {n:Nat} (hn:L.length=n):Xe w L n e w':=by
 obtain ⟨g,h1,h2,h3⟩:=h.2.2 h0;exact ⟨h.1,g,by rw [h1,hn],h2,h3⟩
theorem Aa0 (hT:CB w t s) (hP:DL w la l) (ho:Hid (BK t l=0)):DX Try.prog M 30 #[.agg (EK t s), .slice la l.length lc] w (Xe w (Jd (EX t l) t.Ac.length) t.Ac.length) :=
 (SQ hT hP (LX ho.out)).mono fun _ _ h=>h.use ho.out (L8 _ _)
end
end
section
open Go.RowKit
theorem JS {f g:Nat→Int}:∀ n:Nat,(∀ i,i < n→f i=g i)→FP f n=FP g n
 | 0,_=>rfl
 | n+1,h=>by show FP f n+f n=FP g n+g n;rw [JS n fun i hi=>h i (by omega),h n (by omega)]
theorem Ux {t:Ad} {l l':List Am} (o:Nat) (hp:∀ k:Int,Aj l (k,(o:Int))=Aj l' (k,(o:Int))):FZ t l o=FZ t l' o :=
 JS _ fun i _=>by unfold atL;rw [hp]
theorem X9 {t:Ad} {l l':List Am} (o:Nat) (hp:∀ k:Int,Aj l (k,(o:Int))=Aj l' (k,(o:Int))):EX t l o=EX t l' o:=by unfold EX;rw [Ux o hp]
end
section
open Go Go.RowKit
section
variable {α β:Type} {f:α→List Value} {f':β→List Value} {e e':TypeId} {k k':Nat} {w w' x x':World} {B B' b g m n c:Nat} {v v':Value} {l:List α} {l':List β} {cs cur:Array Value} {t:TypeId} {r:Option Nat}
theorem Be.Zq (h:Be f e k x B v l) (hb:v.ownBlock=some g):∃ cur,x.heap[g]? = some (.cells cur e (0,0)):=by
 rcases h.2 with ⟨hv,_⟩ | ⟨g',cap,cur,hv,_,hh,_⟩
 ·rw [hv] at hb;simp [Value.ownBlock] at hb
 ·rw [hv] at hb;simp only [Value.ownBlock,Option.some.injEq] at hb;subst hb;exact ⟨cur,hh⟩
theorem Be.Aaz (h:Be f' e' k' x B' v' l') (hg:x.heap[g]? = some (.cells cur e (0,0))) (hne:e'≠e):v'.ownBlock≠some g:=fun hb=>by
 obtain ⟨cur2,h2⟩:=h.Zq hb;rw [h2] at hg;simp only [Option.some.injEq,Obj.cells.injEq] at hg;exact hne hg.2.1
theorem Be.AaN (h':Be f' e' k' x B' v' l') (hg:x.heap[g]? = some (.cells cur e (0,0))) (hne:e'≠e) (o:Nat) (u:Value):Be f' e' k' (x.setCell ⟨g,o,none⟩ u) B' v' l':=h'.V8 (h'.Aaz hg hne) o u
end
end
section
open Go Go.Conc Go.RowKit
structure Aae (m ms:List Am):Prop where
 len:ms.length=m.length
 same:∀ i (h:i < m.length) (h':i < ms.length),ms[i].toll=m[i].toll∧ms[i].owner=m[i].owner∧m[i].heads≤ms[i].heads∧ms[i].heads≤40
theorem Aae.ok {nt np:Nat} {m ms:List Am} (h:Aae m ms) (hm:FM nt np m):FM nt np ms:=fun p hp=>by
 obtain ⟨i,hi,rfl⟩:=List.getElem_of_mem hp;have hi2:i < m.length:=by rw [← h.len];exact hi
 have hs:=h.same i hi2 hi;have:=hm m[i] (List.getElem_mem hi2);rw [hs.1,hs.2.1];omega
structure Aad (ts us:List BB):Prop where
 len:us.length=ts.length
 same:∀ i (h:i < ts.length) (h':i < us.length),us[i].strip=ts[i].strip∧us[i].farmer=ts[i].farmer∧ts[i].rate≤us[i].rate∧us[i].rate≤500
theorem Aad.range {ts us:List BB} (h:Aad ts us) (h0:∀ x∈ts,0≤x.rate∧x.rate≤500):∀ u∈us,0≤u.rate∧u.rate≤500:=fun u hu=>by
 obtain ⟨i,hi,rfl⟩:=List.getElem_of_mem hu;have hi2:i < ts.length:=by rw [← h.len];exact hi
 have:=h.same i hi2 hi;have:=h0 _ (List.getElem_mem hi2)
 omega
section
variable {w:World} {t:Ad} {s:DY}
end
section
variable {α:Type} {f:α→List Value} {e:TypeId} {k:Nat} {w:World} {B g c:Nat} {l:List α}
end
end
section
open Go.RowKit
structure AaO (nt np:Nat) (l:List Am) (i:Nat) (ps os:List Am):Prop where
 pl:ps.length≤2*i
 ol:os.length≤i
 pk:FM nt np ps
 ok:FM nt np os
 ps:∀ key,Aj ps key=Aj (l.take i) key
 os:∀ a b:Int,Aj os (a,b)=if b=0 then Aj (l.take i) (a,b) else 0
theorem AaO.nil (nt np:Nat) (l:List Am):AaO nt np l 0 [] []:=⟨by simp,by simp,fun p h=>by simp at h,fun p h=>by simp at h,fun key=>by simp [Aj],fun a b=>by simp [Aj]⟩
theorem X8 {t:Ad} {l:List Am} (hF:Dv t l) {o:Nat} (ho:o < t.Ac.length) (h:∀ a:Int,Aj l (a,(o:Int))=0):EX t l o=0:=by
 have h1:FZ t l o=0:=by
  unfold FZ
  have:FP (atL t l o) t.Ag.length=FP (fun _=>0) t.Ag.length:=JS _ fun i _=>by
   unfold atL;rw [h];have hf:=(hF.pf _ (getD_mem ho)).1;unfold ofV;rw [if_neg (show ¬ (t.Ac.getD o default).free < 0 by omega)];simp
  rw [this];have:∀ n:Nat,FP (fun _=>0) n=0:=fun n=>by induction n with | zero=>rfl | succ n ih=>show FP _ n+0=0;rw [ih];rfl
  exact this _
 unfold EX;rw [h1];rfl
end
section
open Go.RowKit
def Lj (r:Nat→Int):Int:=r 0+r 1+r 2+r 3
theorem RZ {r:Nat→Int} {m:Nat} (h:m < 4) (x:Int):Lj (upd r m x)=Lj r-r m+x:=by
 rcases lt4 h with rfl | rfl | rfl | rfl <;> simp [Lj,upd] <;> omega
theorem Su {r:Nat→Int}:∀ {f k:Nat},k < f→r k≤r (Cj r f)
 | f+1,k,h=>by
  rw [Cj]
  by_cases e:k=f
  ·subst e;split <;> omega
  ·have:=Su (r:=r) (f:=f) (k:=k) (by omega)
   split <;> omega
structure UU (r:Nat→Int) (n:Nat) (p:(Nat→Int)×(Nat→Int)):Prop where
 eq:∀ k,k < 4→p.1 k=r k-200*p.2 k
 sum:Lj p.2=(n:Int)
 pos:∀ k,k < 4→0≤p.2 k
 low:∀ k,k < 4→-200 < p.1 k
 alt:(∀ k,k < 4→0≤p.1 k)∨(∀ k,k < 4→p.1 k < 200)
theorem PM {r:Nat→Int} {n:Nat} {p:(Nat→Int)×(Nat→Int)} (h:UU r n p):Lj p.1=Lj r-200*(n:Int):=by
 have h0:=h.eq 0 (by omega);have h1:=h.eq 1 (by omega);have h2:=h.eq 2 (by omega);have h3:=h.eq 3 (by omega);have hs:=h.sum;unfold Lj at hs ⊢;rw [h0,h1,h2,h3];omega
theorem UU.step {r:Nat→Int} {n:Nat} {p:(Nat→Int)×(Nat→Int)} (h:UU r n p) (hpos:0 < Lj r-200*(n:Int)):UU r (n+1) (TG p):=by
 have hs:=PM h;have hm:Cj p.1 4 < 4:=EW _ (Nat.le_refl 4);have hx:∀ k,k < 4→p.1 k≤p.1 (Cj p.1 4):=fun k hk=>Su hk
 have hp:0 < p.1 (Cj p.1 4):=by
  have h0:=hx 0 (by omega);have h1:=hx 1 (by omega);have h2:=hx 2 (by omega);have h3:=hx 3 (by omega);have hs2:0 < Lj p.1:=by omega
  unfold Lj at hs2;omega
 unfold TG;generalize Cj p.1 4=m at hm hx hp;refine ⟨fun k hk =>?_,?_,fun k hk =>?_,fun k hk =>?_,?_⟩
 ·dsimp only;unfold upd
  have:=h.eq k hk
  split
  ·rename_i e;subst e;omega
  ·exact this
 ·dsimp only;rw [RZ hm,h.sum];push_cast;omega
 ·dsimp only;unfold upd
  have:=h.pos k hk
  split
  ·rename_i e;subst e;omega
  ·exact this
 ·dsimp only;unfold upd
  have:=h.low k hk
  split
  ·omega
  ·exact this
 ·by_cases c:200≤p.1 m
  ·rcases h.alt with ha | ha
   ·left;intro k hk;dsimp only;unfold upd
    have:=ha k hk
    split
    ·omega
    ·exact this
   ·have:=ha m hm;omega
  ·right;intro k hk;dsimp only;unfold upd
   have:=hx k hk
   split
   ·omega
   ·omega
theorem Qn {r:Nat→Int} (hr:∀ k,0≤r k):∀ n:Nat,(n=0∨200*((n:Int)-1) < Lj r)→UU r n (BH (r,fun _=>0) n)
 | 0,_=>⟨fun k _=>by simp [BH],by simp [BH,Lj],fun k _=>by simp [BH],fun k _=>by have:=hr k;simp only [BH];omega, .inl fun k _=>hr k⟩
 | n+1,h=>by
  rw [BH]
  have h2:200*(n:Int) < Lj r:=by
   rcases h with h | h
   ·omega
   ·have e:((n+1:Nat):Int)=(n:Int)+1:=by omega
    rw [e] at h;omega
  exact (Qn hr n (by omega)).step (by omega)
theorem JH (r g:Nat→Int):∀ n:Nat,(BH (r,g) n).1=(BH (r,fun _=>0) n).1∧∀ k,(BH (r,g) n).2 k=g k+(BH (r,fun _=>0) n).2 k
 | 0=>⟨rfl,fun k=>by simp [BH]⟩
 | n+1=>by
  obtain ⟨h1,h2⟩:=JH r g n;simp only [BH,TG];refine ⟨by rw [h1],fun k =>?_⟩;rw [h1];unfold upd
  split
  ·rename_i e
   rw [e,h2];omega
  ·exact h2 k
def FQ (t:Ad) (l:List Am) (o:Nat):Nat→Int:=(BH (FC t l o t.Ag.length,fun _=>0) (EX t l o).toNat).2
theorem O3 (t:Ad) (l:List Am) (o k:Nat):BD t l (o+1) k=BD t l o k+FQ t l o k:=by
 rw [BD];exact (JH _ _ _).2 k
def toF (t:Ad) (l:List Am) (o:Nat) (f:Int):Nat→Int
 | 0=>0
 | j+1=>toF t l o f j+(if (t.Ag.getD j default).farmer=f then atL t l o j else 0)
theorem SH {t:Ad} (hT:Aq t=0) {j:Nat} (hj:j < t.Ag.length):1≤(t.Ag.getD j default).farmer∧(t.Ag.getD j default).farmer≤4:=by
 obtain ⟨_,_,_,_,_,_,_,_,h9⟩:=Ba hT;have e:t.Ag.getD j default=t.Ag[j]:=by simp [List.getD_eq_getElem?_getD,hj]
 rw [e];exact Ak.1 (Gl h9 _ (List.getElem_mem hj)).2.2
theorem QZ {t:Ad} (hT:Aq t=0) {l:List Am} {o:Nat} {k:Nat}:∀ j:Nat,j≤t.Ag.length→FC t l o j k=toF t l o ((k:Int)+1) j
 | 0,_=>rfl
 | j+1,h=>by
  have h1:=QZ hT (l:=l) (o:=o) (k:=k) j (by omega);have h2:=SH hT (j:=j) (by omega);rw [FC,toF,← h1];unfold upd O4
  by_cases c:k=((t.Ag.getD j default).farmer-1).toNat
  ·rw [if_pos c,if_pos (by omega),← c]
  ·rw [if_neg c,if_neg (by omega)];omega
theorem LG {t:Ad} (hT:Aq t=0) {l:List Am} {o:Nat}:∀ j:Nat,j≤t.Ag.length→Lj (FC t l o j)=FP (atL t l o) j
 | 0,_=>by simp [FC,Lj,FP]
 | j+1,h=>by
  have h2:=SH hT (j:=j) (by omega);rw [FC,RZ (by unfold O4;omega),LG hT j (by omega)];show _=FP _ j+atL t l o j
  omega
theorem Lm {t:Ad} (hT:Aq t=0) {l:List Am} (hF:Dv t l) {o:Nat} (ho:o < t.Ac.length):UU (FC t l o t.Ag.length) (EX t l o).toNat (BH (FC t l o t.Ag.length,fun _=>0) (EX t l o).toNat):=by
 refine Qn (fun k=>(EY hF ho _ k).1) _ ?_;rw [LG hT _ (Nat.le_refl _)];have h0:=MF hF ho;unfold EX EL;unfold FZ at h0 ⊢
 omega
theorem VZ {t:Ad} (hT:Aq t=0) {l:List Am} (hF:Dv t l) {o:Nat} (ho:o < t.Ac.length):Lj (FQ t l o)=EX t l o:=by
 have h:=(Lm hT hF ho).sum;have h0:=MF hF ho;have h1:0≤EX t l o:=by unfold EX EL;omega
 unfold FQ;rw [h];omega
theorem O1 {t:Ad} (hT:Aq t=0) {l:List Am} (hF:Dv t l) {o:Nat} (ho:o < t.Ac.length) {k:Nat} (hk:k < 4):0≤FQ t l o k∧200*FQ t l o k < toF t l o ((k:Int)+1) t.Ag.length+200∧toF t l o ((k:Int)+1) t.Ag.length-200 < 200*FQ t l o k:=by
 have h:=Lm hT hF ho;have e:=h.eq k hk;have hl:=h.low k hk;have hp:=h.pos k hk;have hs:=PM h;rw [QZ hT _ (Nat.le_refl _)] at e;rw [LG hT _ (Nat.le_refl _)] at hs;have h0:=MF hF ho
 have hle:Lj (BH (FC t l o t.Ag.length,fun _=>0) (EX t l o).toNat).1≤0:=by
  rw [hs];unfold EX EL;unfold FZ at h0 ⊢;omega
 have hu:(BH (FC t l o t.Ag.length,fun _=>0) (EX t l o).toNat).1 k < 200:=by
  rcases h.alt with ha | ha
  ·have a0:=ha 0 (by omega);have a1:=ha 1 (by omega);have a2:=ha 2 (by omega);have a3:=ha 3 (by omega);unfold Lj at hle;rcases lt4 hk with rfl | rfl | rfl | rfl <;> omega
  ·exact ha k hk
 unfold FQ;exact ⟨hp,by omega,by omega⟩
def IY (l:List Am) (o:Int):List Am:=l.filter fun p=>decide (p.owner=o)
theorem Q9 (l:List Am) (o a b:Int):Aj (IY l o) (a,b)=if b=o then Aj l (a,b) else 0:=by
 induction l with
 | nil=>simp [IY,Aj]
 | cons p l ih =>
  by_cases c:p.owner=o
  ·have:IY (p :: l) o=p :: IY l o:=by simp [IY,c]
   rw [this];simp only [Aj];rw [ih]
   by_cases e:b=o
   ·simp only [if_pos e]
   ·simp only [if_neg e];rw [if_neg (by intro h;simp only [Prod.mk.injEq] at h;omega)];rfl
  ·have:IY (p :: l) o=IY l o:=by simp [IY,c]
   rw [this,ih];simp only [Aj]
   by_cases e:b=o
   ·simp only [if_pos e];rw [if_neg (by intro h;simp only [Prod.mk.injEq] at h;omega)];omega
   ·simp only [if_neg e]
theorem P6 {l:List Am} {i:Nat} (h:i < l.length) (o:Int):IY (l.take (i+1)) o=IY (l.take i) o++(if l[i].owner=o then [l[i]] else []):=by
 rw [List.take_succ_eq_append_getElem h];unfold IY;rw [List.filter_append]
 congr 1
 by_cases c:l[i].owner=o <;> simp [c]
theorem XB (l:List Am) (o:Int):(IY l o).length≤l.length:=List.length_filter_le _ _
theorem Y4 {nt np:Nat} {l:List Am} (h:FM nt np l) (o:Int):FM nt np (IY l o):=fun p hp=>h p (List.mem_filter.1 hp).1
theorem YH {t:Ad} {l:List Am} (o i:Nat):atL t (IY l (o:Int)) o i=atL t l o i:=by unfold atL;rw [Q9,if_pos rfl]
theorem Y2 {t:Ad} {l:List Am} (o:Nat):EX t (IY l (o:Int)) o=EX t l o:=X9 o fun k=>by rw [Q9,if_pos rfl]
theorem Sv {t:Ad} {l:List Am} (o:Nat):∀ j,FC t (IY l (o:Int)) o j=FC t l o j
 | 0=>rfl
 | j+1=>by unfold FC;rw [Sv o j,YH]
theorem Y1 {t:Ad} {l:List Am} (o:Nat):FQ t (IY l (o:Int)) o=FQ t l o:=by unfold FQ;rw [Sv,Y2]
theorem XA {t:Ad} {l:List Am} {o o':Nat} (hF:Dv t (IY l (o:Int))) (ho:o' < t.Ac.length) (h:o'≠o) (k:Nat):FQ t (IY l (o:Int)) o' k=0:=by
 have:EX t (IY l (o:Int)) o'=0:=X8 hF ho fun a=>by rw [Q9,if_neg (by omega)]
 unfold FQ;rw [this];rfl
theorem Sz {t:Ad} {l:List Am} {o:Nat} (hF:Dv t (IY l (o:Int))) (k:Nat):∀ n:Nat,n≤t.Ac.length→BD t (IY l (o:Int)) n k=if o < n then FQ t l o k else 0
 | 0,_=>by simp [BD]
 | n+1,h=>by
  rw [O3,Sz hF k n (by omega)]
  by_cases e:n=o
  ·subst e;rw [if_neg (by omega),if_pos (by omega),Y1];omega
  ·rw [XA hF (by omega) e]
   by_cases c:o < n
   ·rw [if_pos c,if_pos (by omega)];omega
   ·rw [if_neg c,if_neg (by omega)];rfl
theorem SB {t:Ad} (hT:Aq t=0) {l:List Am} (hF:Dv t l) {k:Nat} (hk:k < 4) (h:∀ i,i < t.Ag.length→(t.Ag.getD i default).farmer≠(k:Int)+1):∀ n:Nat,n≤t.Ac.length→BD t l n k=0
 | 0,_=>rfl
 | n+1,hn=>by
  rw [O3,SB hT hF hk h n (by omega)]
  have h0:∀ j,j≤t.Ag.length→toF t l n ((k:Int)+1) j=0:=fun j=>by
   induction j with
   | zero=>intro _;rfl
   | succ j ih=>intro hj;rw [toF,ih (by omega),if_neg (h j (by omega))];rfl
  have h1:=O1 hT hF (o:=n) (by omega) hk;rw [h0 _ (Nat.le_refl _)] at h1;have h2:=(Lm hT hF (o:=n) (by omega)).low k hk;have h3:=(Lm hT hF (o:=n) (by omega)).eq k hk;rw [QZ hT _ (Nat.le_refl _),h0 _ (Nat.le_refl _)] at h3;have h4:(BH (FC t l n t.Ag.length,fun _=>0) (EX t l n).toNat).2 k=FQ t l n k:=rfl
  omega
end
section
open Go Go.RowKit
section
variable {w:World} {B g c:Nat} {a:Option Addr} {l:List Int} {v:Value}
end
end
section
open Go.RowKit
end
section
open Go Go.Conc Go.RowKit
structure YQ (x:World) (B:Nat) (v1:Value) (l1:List Am) (v2:Value) (l2:List Am):Prop where
 h1:BP x B v1 l1
 h2:BP x B v2 l2
 ne:∀ g,v1.ownBlock=some g→v2.ownBlock≠some g
section
variable {x x' w:World} {B b m:Nat} {v1 v2 v:Value} {l1 l2 l:List Am} {cs:Array Value} {e:TypeId} {r:Option Nat}
theorem YQ.nil:YQ x B (.slice none 0 0) [] (.slice none 0 0) []:=⟨Be.nil,Be.nil,fun g h=>by simp [Value.ownBlock] at h⟩
end
section
variable {w:World} {a b n:Nat} {f g:Nat→Int}
theorem ZC (ha:Rw w a (ar4 f) 3) (hb:Rw w b (ar4 g) 3) (he:Hid (f=g)):Calls Try.prog 28 #[.slice (some ⟨a,0,none⟩) 4 4, .slice (some ⟨b,0,none⟩) 4 4] w (fun e w'=>e = .returned (.bool true)∧Below w.heap.size w w'):=by
 have h:=PR (ca:=4) (cb:=4) (BN (l:=[f 0,f 1,f 2,f 3]) ha) (BN (l:=[g 0,g 1,g 2,g 3]) hb) (by simp);refine h.mono ?_;rintro e w' ⟨rfl,hb⟩;exact ⟨by rw [he.out];simp,hb⟩
end
section
variable {w:World} {t:Ad} {s:DY} {l:List Am} {la:Option Addr} {lc:Nat}
theorem AaF (hT:CB w t s) (hP:DL w la l) (ho:Hid (BK t l=0)):Calls Try.prog 31 #[.agg (EK t s), .slice la l.length lc] w (fun e w'=>∃ g,e = .returned (.tuple #[.slice (some ⟨g,0,none⟩) 4 4, .int .i64 0])∧Rw w' g (ar4 (BD t l t.Ac.length)) 3∧Below w.heap.size w w') :=
 (Ji hT hP (LX ho.out)).mono fun _ _ ⟨h1,_,h2⟩=>by
  obtain ⟨g,h3,_,h5⟩:=h2 ho.out;exact ⟨g,h3,h5,h1⟩
end
theorem Ws {t:Ad} {l:List Am} (ho:BK t l=0) (o:Nat) (hol:o < t.Ac.length):0≤EX t l o∧EX t l o≤30000:=by
 have hT:=EE ho;have hf:=(DI ho).1
 have h24:l.length≤24:=Classical.byContradiction fun c=>by
  unfold BK at ho;rw [if_neg (by rw [hT];simp),if_pos (by omega)] at ho;exact absurd ho (by decide)
 obtain ⟨_,_,_,_,_,hp,_,h6,h9⟩:=Ba hT;have hF:=Ea ho
 have hat:∀ i,i < t.Ag.length→0≤atL t l o i∧atL t l o i≤960000:=fun i hi=>by
  have hs:=D7 hf ((i:Int),(o:Int));have e:t.Ag.getD i default=t.Ag[i]:=by simp [List.getD_eq_getElem?_getD,hi]
  have hr:=Ak.1 (Gl h9 _ (List.getElem_mem hi)).2.1;have hfr:=(hF.pf _ (getD_mem hol)).1;unfold atL;rw [e];generalize (t.Ac.getD o default).free=fr at *;generalize (t.Ac.getD o default).half=hf2 at *;generalize Aj l ((i:Int),(o:Int))=q at *;generalize t.Ag[i].rate=r at *;have h0:0≤(if fr < q then q-fr else 0)∧(if fr < q then q-fr else 0)≤960:=by split <;> omega
  have h1:=Int.mul_le_mul h0.2 hr.2 hr.1 (by omega);have h2:=Int.mul_nonneg h0.1 hr.1;unfold ofV
  cases hf2 <;> simp only [if_true,Bool.false_eq_true,if_false] <;> omega
 have hs:∀ n,n≤t.Ag.length→0≤FP (atL t l o) n∧FP (atL t l o) n≤960000*(n:Int):=fun n=>by
  induction n with
  | zero=>intro _;simp [FP]
  | succ n ih =>
   intro hn;have h1:=ih (by omega);have h2:=hat n (by omega);simp only [FP];push_cast;omega
 have h3:=hs _ (Nat.le_refl _);unfold EX FZ EL
 omega
end
end Go.Proofs.Ytgdobbcjkiapkaa
