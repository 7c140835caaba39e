import Derived.Test.YtgdobbcjkiapkaaDv41
import Derived.Test.YtgdobbcjkiapkaaDv24
import Derived.Test.YtgdobbcjkiapkaaDv37
import Derived.Test.YtgdobbcjkiapkaaDv23
import Derived.Test.YtgdobbcjkiapkaaDv38
import Derived.Test.YtgdobbcjkiapkaaDv04
import Derived.Test.YtgdobbcjkiapkaaDv36
namespace Go.Proofs.Ytgdobbcjkiapkaa
set_option maxRecDepth 100000
set_option maxHeartbeats 4000000
set_option linter.unusedSimpArgs false
set_option linter.unusedVariables false
section
open Go Go.Conc Go.RowKit
theorem Yh {w:World} {a:Option Addr} {n c:Nat} {l:List Int} (hl:AX w a l) (hn:l.length=n) (hm:n≤maxLen) (ha:l=[]∨∀ ad,a=some ad→ad.block < w.heap.size):Calls Try.prog 19 #[.slice a n c] w fun e w'=>∃ hb,e = .returned (.pointer (some ⟨hb,0,none⟩))∧w.heap.size≤hb∧AB w' hb 0 a n c∧Below w.heap.size w w' :=
 (Td w a n c l hl hn hm ha).mono fun _ _ ⟨h1,h2,h3,_⟩=>⟨_,h1,Nat.le_refl _,h2,h3⟩
def Zc (b:Nat) (t:Af) (s:Eg):Prop:=(Value.slice s.sa t.roads.strips.length s.sc).ownBlock≠some b∧(Value.slice s.pa t.Ac.length s.pc).ownBlock≠some b∧(Value.slice s.ta t.Ah.length s.tc).ownBlock≠some b
theorem D8.far {x:World} {B b:Nat} {t:Af} {s:Eg} (h:D8 x B t s) (hb:x.heap.size≤b):Zc b t s:=⟨h.os.GY hb,h.op.GY hb,h.ot.GY hb⟩
theorem D8.Aag {x x':World} {B b:Nat} {t:Af} {s:Eg} (h:D8 x B t s) (hG:x.grownBy x' (some b)) (hF:Zc b t s):D8 x' B t s:=⟨h.os.grown hG hF.1,h.op.grown hG hF.2.1,h.ot.grown hG hF.2.2⟩
theorem VR {w:World} {hb B:Nat} {ha:Option Addr} {hn hc:Nat} (ns nt:Nat) (hH:AB w hb B ha hn hc) (hB:B≤900000) (h8:ns≤8) (h6:nt≤6):Calls Try.prog 20 #[.pointer (some ⟨hb,0,none⟩), .int .i64 (ns:Int), .int .i64 (nt:Int)] w (fun e w'=>∃ t s,e = .returned (.agg (EI t s))∧D8 w' (hb+1) t s∧Hid (Vy ns nt t)∧AB w' hb (B+200) ha hn hc∧Ext hb w w') :=
 (Qh hH hB h8 h6).mono fun _ _ ⟨t,s,h1,h2,h3,h4,h5⟩=>⟨t,s,h1,h2.lower (Nat.succ_le_of_lt hH.lt),Lib.hid h3,h4,h5⟩
theorem Zp {w:World} {hb B ns nt:Nat} {ha:Option Addr} {hn hc:Nat} {t:Af} {s:Eg} (most:Nat) (hH:AB w hb B ha hn hc) (hB:B≤900000) (hT:Hid (Vy ns nt t)) (h6:nt≤6) (hm:most≤24):Calls Try.prog 29 #[.pointer (some ⟨hb,0,none⟩), .agg (EI t s), .int .i64 (most:Int)] w (fun e w'=>∃ l la lc,e = .returned (.slice la l.length lc)∧BJ w' (hb+1) (.slice la l.length lc) l∧l.length≤most∧Hid (EG t.Ah.length t.Ac.length l)∧AB w' hb (B+1+5*most) ha hn hc∧Ext hb w w'):=by
 have h:=hT.out;refine (UF (most:=most) hH hB (by have:=h.lt;omega) (by have:=h.lp;omega) h.p1 (by omega)).mono ?_;rintro e w' ⟨l,v,rfl,hO,hl,hG,hH',hE⟩;obtain ⟨la,lc,rfl,_,_,_⟩:=hO.at;exact ⟨l,la,lc,rfl,hO.lower (Nat.succ_le_of_lt hH.lt),hl,Lib.hid hG,hH',hE⟩
theorem BJ.pass {w:World} {B:Nat} {la:Option Addr} {lc:Nat} {l:List Am} (h:BJ w B (.slice la l.length lc) l):DJ w la l:=by
 obtain ⟨a,cap,hv,_,_,hp⟩:=h.at;simp only [Value.slice.injEq,true_and] at hv;rw [hv.1];exact hp
end
section
open Go Go.Conc Go.RowKit
theorem MS {t:Af} {l:List Am} (h:BZ t l=0):l.length≤maxLen:=by
 have:l.length≤24:=Classical.byContradiction fun c=>by
  unfold BZ at h
  by_cases h1:AP t≠0
  ·rw [if_pos h1] at h;exact h1 h
  ·rw [if_neg h1,if_pos (by omega)] at h;exact absurd h (by decide)
 exact Nat.le_trans this (by decide)
theorem QM {t:Af} {l:List Am} (h:BZ t l=0):ES t l:=ES.of (JA h) (DX h).1 (DX h).2
theorem PE {w:World} {g n:Nat} {f:Nat→Int} {t:TypeId} (h:Rw w g (Ib (DY f n)) t) {i:Nat} (hi:i < n):w.cell? ⟨g,i,none⟩=some (.int .i64 (f i)):=by
 refine h.cell ?_;rw [Na (l:=DY f n) (i:=i) (by rw [Ee];exact hi)];simp [DY]
theorem Pv {α:Type} {f:α→List Value} {k:Nat} {w:World} {b:Nat} {c:Array Value} {t:TypeId} {y:α} (K:Rw w b c t) (h:c.toList=f y):DC f k w (some ⟨b,0,none⟩) [y] :=
 .inr ⟨b,0,rfl,fun i hi j u _ hu=>by
  have:i=0:=by simpa using hi
  subst this;have h2:c[j]? = some u:=by rw [← Array.getElem?_toList,h];exact hu
  simpa using K.cell h2⟩
section
variable {M:Machine} {w:World} {t:Af} {s:Eg} {l:List Am} {la:Option Addr} {lc:Nat}
def Tf (w0:World) (L:List Int) (n:Nat) (e:Ending) (w':World):Prop :=
 Below w0.heap.size w0 w'∧∃ g,e = .returned (.tuple #[.slice (some ⟨g,0,none⟩) n n, .int .i64 0])∧w0.heap.size≤g∧Rw w' g (Ib L) 3
theorem Ep.use {L:List Int} {err:Int} {e:Ending} {w':World} (h:Ep w L err e w') (h0:err=0) {n:Nat} (hn:L.length=n):Tf w L n e w':=by
 obtain ⟨g,h1,h2,h3⟩:=h.2.2 h0;exact ⟨h.1,g,by rw [h1,hn],h2,h3⟩
theorem Aa3 (hT:Dc w t s) (hP:DJ w la l) (ho:Hid (BZ t l=0)):CW Try.prog M 30 #[.agg (EI t s), .slice la l.length lc] w (Tf w (DY (Fe t l) t.Ac.length) t.Ac.length) :=
 (TP hT hP (MS ho.out)).mono fun _ _ h=>h.use ho.out (Ee _ _)
theorem Y3 (hT:Dc w t s) (hP:DJ w la l) (ho:Hid (BZ t l=0)):CW Try.prog M 43 #[.agg (EI t s), .slice la l.length lc] w (Tf w (DY (IG t l) t.Ac.length) t.Ac.length) :=
 (Uw hT hP (MS ho.out)).mono fun _ _ h=>h.use ho.out (Ee _ _)
end
end
section
open Go.RowKit
theorem I8 {f g:Nat→Int}:∀ n:Nat,(∀ i,i < n→f i=g i)→FM f n=FM g n
 | 0,_=>rfl
 | n+1,h=>by show FM f n+f n=FM g n+g n;rw [I8 n fun i hi=>h i (by omega),h n (by omega)]
theorem U8 {t:Af} {l l':List Am} (o:Nat) (hp:∀ k:Int,Ap l (k,(o:Int))=Ap l' (k,(o:Int))):Jr t l o=Jr t l' o :=
 I8 _ fun i _=>by unfold atL;rw [hp]
theorem Md {t:Af} {l l':List Am} (o:Nat) (hp:∀ k:Int,Ap l (k,(o:Int))=Ap l' (k,(o:Int))):Fe t l o=Fe t l' o:=by unfold Fe;rw [U8 o hp]
theorem take_same {l:List Am} {k:Nat} (hk:k < l.length) {o:Int} (h:l[k].owner≠o) (i:Int):Ap (l.take (k+1)) (i,o)=Ap (l.take k) (i,o):=by
 rw [Gm hk,if_neg (by intro e;simp only [Prod.mk.injEq] at e;exact h e.2)];omega
end
section
open Go Go.RowKit
section
variable {α β:Type} {f:α→List Value} {f':β→List Value} {e e':TypeId} {k k':Nat} {w w' x x':World} {B B' b g m n c:Nat} {v v':Value} {l:List α} {l':List β} {cs cur:Array Value} {t:TypeId} {r:Option Nat}
theorem A8.Xx (h:A8 f e k x B v l) (hb:v.ownBlock=some g):∃ cur,x.heap[g]? = some (.cells cur e (0,0)):=by
 rcases h.2 with ⟨hv,_⟩ | ⟨g',cap,cur,hv,_,hh,_⟩
 ·rw [hv] at hb;simp [Value.ownBlock] at hb
 ·rw [hv] at hb;simp only [Value.ownBlock,Option.some.injEq] at hb;subst hb;exact ⟨cur,hh⟩
theorem A8.BN (h':A8 f' e' k' x B' v' l') (hG:x.grownBy x' r) (ha:∀ g,r=some g→v'.ownBlock≠some g):A8 f' e' k' x' B' v' l':=by
 refine h'.keep fun q hq=>hG.block q (h'.Ai hq).2 fun e =>?_
 exact ha q e.symm hq
theorem Rw.BN (K:Rw x b cs t) (hG:x.grownBy x' r) (ha:∀ g,r=some g→b≠g):Rw x' b cs t:=K.grown hG fun e=>ha b e.symm rfl
theorem Ext.BN (h:Ext m w x) (hG:x.grownBy x' r) (ha:∀ g,r=some g→w.heap.size≤g):Ext m w x' :=
 ⟨hG.os.trans h.os,hG.tape.trans h.tape,hG.output.trans h.output,Nat.le_trans h.size hG.size,fun k hk hne=>(hG.block k (Nat.lt_of_lt_of_le hk h.size) (fun e=>by have:=ha k e.symm;omega)).trans (h.block k hk hne)⟩
theorem AB.BN {hb D n ca:Nat} {a:Option Addr} (h:AB x hb D a n ca) (hG:x.grownBy x' r) (ha:∀ g,r=some g→hb < g):AB x' hb D a n ca:=h.keep fun k hk hle=>hG.block k hk fun e=>by have:=ha k e.symm;omega
end
end
section
open Go Go.Conc Go.RowKit
structure AaF (m ms:List Am):Prop where
 len:ms.length=m.length
 same:∀ i (h:i < m.length) (h':i < ms.length),ms[i].toll=m[i].toll∧ms[i].owner=m[i].owner∧m[i].heads≤ms[i].heads∧ms[i].heads≤40
theorem AaF.ok {nt np:Nat} {m ms:List Am} (h:AaF m ms) (hm:EG nt np m):EG nt np ms:=fun p hp=>by
 obtain ⟨i,hi,rfl⟩:=List.getElem_of_mem hp;have hi2:i < m.length:=by rw [← h.len];exact hi
 have hs:=h.same i hi2 hi;have:=hm m[i] (List.getElem_mem hi2);rw [hs.1,hs.2.1];omega
structure AaE (ts us:List Bv):Prop where
 len:us.length=ts.length
 same:∀ i (h:i < ts.length) (h':i < us.length),us[i].strip=ts[i].strip∧us[i].farmer=ts[i].farmer∧ts[i].rate≤us[i].rate∧us[i].rate≤500
theorem AaE.range {ts us:List Bv} (h:AaE ts us) (h0:∀ x∈ts,0≤x.rate∧x.rate≤500):∀ u∈us,0≤u.rate∧u.rate≤500:=fun u hu=>by
 obtain ⟨i,hi,rfl⟩:=List.getElem_of_mem hu;have hi2:i < ts.length:=by rw [← h.len];exact hi
 have:=h.same i hi2 hi;have:=h0 _ (List.getElem_mem hi2)
 omega
theorem Oo {nt np:Nat} {a b:List Am} (ha:EG nt np a) (hb:EG nt np b):EG nt np (a++b):=fun p hp=>by rcases List.mem_append.1 hp with h | h;exact ha p h;exact hb p h
section
variable {w:World} {t:Af} {s:Eg}
end
section
variable {α:Type} {f:α→List Value} {e:TypeId} {k:Nat} {w:World} {B g c:Nat} {l:List α}
theorem A8.src {a:Option Addr} (h:A8 f e k w B (.slice a l.length c) l) (hf:∀ x,(f x).length=k):DC f k w a l:=by
 obtain ⟨a',c',hv,_,_,hC⟩:=h.cells hf;simp only [Value.slice.injEq,true_and] at hv;obtain ⟨rfl,_⟩:=hv;exact hC
theorem A8.cellAt (h:A8 f e k w B (.slice (some ⟨g,0,none⟩) l.length c) l) (hf:∀ x,(f x).length=k) {i j:Nat} (hi:i < l.length) (hj:j < k) {u:Value} (hu:(f l[i])[j]? = some u):w.cell? ⟨g,i*k+j,none⟩=some u∧w.frozen? ⟨g,i*k+j,none⟩=false:=by
 obtain ⟨g',hg,_,_,hC,hz⟩:=h.at0 hf (by omega);simp only [Option.some.injEq,Addr.mk.injEq,and_true] at hg;obtain rfl:=hg;refine ⟨?_,hz _⟩;rcases h.src hf with h0 | ⟨b,o,ha,hc⟩
 ·rw [h0] at hi;simp at hi
 ·simp only [Option.some.injEq,Addr.mk.injEq,and_true] at ha;obtain ⟨rfl,rfl⟩:=ha;have:=hc i hi j u hj hu
  simpa using this
end
end
section
open Go Go.RowKit
section
variable {w:World} {B g c:Nat} {a:Option Addr} {l:List Int} {v:Value}
theorem WR (l:List Int):∀ y∈l,∀ u∈[Value.int .i64 y],u.oneCell'=true:=fun y _ u hu=>by simp at hu;subst hu;rfl
theorem CG.ints (h:CG w B (.slice a l.length c) l):AX w a l:=by
 rcases A8.src h (fun _=>rfl) with h0 | ⟨b,o,ha,hc⟩
 ·exact .inl h0
 ·exact .inr ⟨b,o,ha,fun i hi=>by have:=hc i hi 0 _ (by omega) rfl;simpa using this⟩
theorem CG.cell1 (h:CG w B (.slice (some ⟨g,0,none⟩) l.length c) l) {i:Nat} (hi:i < l.length):w.cell? ⟨g,i,none⟩=some (.int .i64 l[i])∧w.frozen? ⟨g,i,none⟩=false:=by
 have:=A8.cellAt h (fun _=>rfl) hi (j:=0) (by omega) rfl
 simpa using this
theorem CG.Aba (h:CG w B (.slice (some ⟨g,0,none⟩) l.length c) l) {i:Nat} (hi:i < l.length) (y:Int):CG (w.setCell ⟨g,i,none⟩ (.int .i64 y)) B (.slice (some ⟨g,0,none⟩) (l.set i y).length c) (l.set i y):=by
 have:=A8.put h (fun _=>rfl) hi (j:=0) (by omega) (y:=y) (u := .int .i64 y) rfl
 simpa using this
theorem CG.AaX (h:CG w B (.slice a l.length c) l) (hp:0 < l.length):∃ g,a=some ⟨g,0,none⟩∧B≤g∧g < w.heap.size:=by
 obtain ⟨g,h1,h2,h3,_⟩:=A8.at0 h (fun _=>rfl) hp;exact ⟨g,h1,h2,h3⟩
end
def EN (n:Nat):List Int:=(List.range n).map fun i:Nat=>(i:Int)
theorem KF (n:Nat):(EN n).length=n:=by simp [EN]
theorem RQ (n:Nat):EN (n+1)=EN n++[(n:Int)]:=by simp [EN,List.range_succ]
theorem UD {l:List Int} {n:Nat} (h:l.Perm (EN n)):l.length=n∧(∀ x∈l,0≤x∧x < (n:Int))∧(l.map Int.toNat).Perm (List.range n):=by
 refine ⟨by rw [h.length_eq,KF],fun x hx =>?_,?_⟩
 ·have:=h.mem_iff.1 hx;simp only [EN,List.mem_map,List.mem_range] at this;obtain ⟨i,hi,rfl⟩:=this
  omega
 ·have h1:=h.map Int.toNat
  have h2:(EN n).map Int.toNat=List.range n:=by
   unfold EN;rw [List.map_map];have:(Int.toNat∘fun i:Nat=>(i:Int))=id:=funext fun i=>by simp
   rw [this,List.map_id]
  rw [h2] at h1;exact h1
end
section
open Go.RowKit
theorem WN:Try.f42.body=some (Code.seq (Aa Try.f42 0) (Code.seq (Aa Try.f42 1) (Code.seq (Code.seq (Aa Try.f42 2) (Code.block 0 (Code.loop (Code.seq (Code.seq (Aa Try.f42 3) (Code.cond (Operand.tmp 12) Code.skip (Code.exit 0))) (Code.seq (Code.block 1 (Aa Try.f42 5)) (Aa Try.f42 4)))))) (Code.seq (Code.seq (Aa Try.f42 6) (Code.block 2 (Code.loop (Code.seq (Code.seq (Aa Try.f42 7) (Code.cond (Operand.tmp 22) Code.skip (Code.exit 2))) (Code.seq (Code.block 3 (Code.seq (Aa Try.f42 9) (Code.seq (Aa Try.f42 10) (Code.seq (Aa Try.f42 11) (Aa Try.f42 12))))) (Aa Try.f42 8)))))) (Code.seq (Aa Try.f42 13) Code.ret))))):=by kernel_rfl
theorem Zk {w:World} {hb B N:Nat} {ha:Option Addr} {hn hc:Nat} (hH:AB w hb B ha hn hc) (hB:B≤900000) (hN:N≤1000):Calls Try.prog 42 #[.pointer (some ⟨hb,0,none⟩), .int .i64 (N:Int)] w (fun e w'=>∃ l oa oc,e = .returned (.slice oa l.length oc)∧CG w' w.heap.size (.slice oa l.length oc) l∧l.Perm (EN N)∧AB w' hb (B+N) ha hn hc∧Ext hb w w'):=by
 have hE1:=Ext.refl hb w;have hhx:hb < w.heap.size:=hH.lt;have hW0:w.heap.size≤w.heap.size:=Nat.le_refl _;refine LZ Try.func42 WN Try.ntmps42 ?_;intro a Z;refine wsr ?_;refine Z.s ?_;clear Z;intro a Z;refine od ?_;refine wsr ?_;refine Z.s ?_;clear Z;intro a Z;refine od ?_;refine wp_seq ?_;refine wsr ?_;refine Z.s ?_;clear Z;intro a Z;refine od ?_;refine wp_block ?_;have hO:CG w w.heap.size (.slice none (EN 0).length 0) (EN 0):=A8.nil;refine wp_loop_ghost (fun n p x=>∃ (k:Nat) (oa:Option Addr) (oc:Nat),k+n=N∧Sl p 44 [(6, .int .i64 (k:Int)),(5, .slice oa (EN k).length oc),(0, .pointer (some ⟨hb,0,none⟩)),(1, .int .i64 (N:Int))]∧Ext hb w x∧AB x hb B ha hn hc∧CG x w.heap.size (.slice oa (EN k).length oc) (EN k)) N ⟨0,none,0,by omega,((((Z.nil.cons (Z.get 1 _ rfl)).cons (Z.get 0 _ rfl)).cons (Z.get 5 _ rfl)).cons (Z.get 6 _ rfl)),hE1,hH,hO⟩ ?_;clear Z hE1 hH hO;rintro n a x ⟨k,oa,oc,hkn,Z,hE1,hH,hO⟩;have hkl:=KF k;refine wp_seq ?_;refine wsr ?_;(iterate 2 refine Z.s ?_;clear Z;intro a Z)
 by_cases hlt:k < N
 ·have q1:(k:Int) < (N:Int):=by omega
  refine Z.s ?_;clear Z;intro a Z;refine od ?_;refine wp_cond_true (Z.ev 12 rfl) ?_;refine wp_skip ?_;refine wp_seq ?_;refine wp_block ?_;refine wr ?_;(iterate 3 refine Z.s ?_;clear Z;intro a Z);refine Ad (G:=fun W=>wpOps _ _ _ _ _ W) ?_;obtain ⟨b17,hg⟩:∃ b,b=x.heap.size:=⟨_,rfl⟩;have hh_b17:w.heap.size≤b17:=by rw [hg];exact hE1.size
  intro x hz K17 hb2;rw [← hg] at Z K17;have hhE117:w.heap.size≤b17:=by rw [hg];exact hE1.size
  replace hE1:=hE1.bel hb2;replace hH:=hH.below hb2;replace hO:=hO.below hb2;clear hz hg hb2;refine og fun K hK =>?_
  have e15:=Z.g 15;have e17:=Z.g 17;have hOo:=hO;clear hO;refine EK (k:=1) (A:=some ⟨b17,0,none⟩) (c:=1) (ys:=[(k:Int)]) 29 (.tmp 15) (.tmp 17) Try.underlying29 (z := .int .i64 0) (bytes:=8) (by kernel_rfl) rfl (by decide) (by decide) rfl (by simp [Act.eval,Array.getD_eq_getD_getElem?,e15]) hOo (by simp [Act.eval,Array.getD_eq_getD_getElem?,e17]) (Pv (f:=fun x:Int=>[Value.int .i64 x]) K17 rfl) (fun _=>rfl) (WR _) (by first | omega | (simp;omega)) (hE1.size) ?_;intro v_ xx hN_ hG _ _;replace hE1:=hE1.BN hG (fun g_ hg_=>(hOo.Ai hg_).1);replace hH:=hH.BN hG (fun g_ hg_=>Nat.lt_of_lt_of_le hhx (hOo.Ai hg_).1);obtain ⟨oa2,oc2,rfl,_,_,_⟩:=hN_.cells (fun _=>rfl);clear hG K17 hOo;have hO:=hN_;clear hN_;obtain ⟨x,hx2⟩:∃ x,x=xx:=⟨_,rfl⟩;rw [← hx2] at hE1 hH hO ⊢;clear hx2;clear e15 e17;refine Z.K hK ?_;clear Z hK;intro a Z;refine Z.s ?_;clear Z;intro a Z;refine od ?_;refine wr ?_;refine Z.s ?_;clear Z;intro a Z;refine og fun K hK =>?_
  have e13:=Z.g 13;have hw14:=IntWalk.i64_in ((k:Int)+1) (by omega);unfold Oper.wp;go_simp;clear e13;refine Z.K hK ?_;clear Z hK;intro a Z;refine Z.s ?_;clear Z;intro a Z;refine od ?_;rw [← RQ] at hO Z;exact ⟨n-1,by omega,k+1,oa2,oc2,by omega,((((Z.nil.cons (Z.get 1 _ rfl)).cons (Z.get 0 _ rfl)).cons (Z.get 5 _ rfl)).cons (Z.get 6 _ rfl)),hE1,hH,hO⟩
 ·have q1:¬ (k:Int) < (N:Int):=by omega
  obtain rfl:k=N:=by omega
  refine Z.s ?_;clear Z;intro a Z;refine od ?_;refine wp_cond_false (Z.ev 12 rfl) ?_;refine wp_exit ?_;obtain ⟨N,hNk⟩:∃ N,N=k:=⟨_,rfl⟩;subst hNk;refine wp_seq ?_;refine wsr ?_;refine Z.s ?_;clear Z;intro a Z;refine og fun K hK =>?_
  have e19:=Z.g 19;have hw20:=IntWalk.i64_in ((N:Int)-1) (by omega);unfold Oper.wp;go_simp;clear e19;refine Z.K hK ?_;clear Z hK;intro a Z;refine Z.s ?_;clear Z;intro a Z;refine od ?_;refine wp_block ?_;have hP:=List.Perm.refl (EN N);have hLN:(EN N).length=N:=KF N;have hH0:=hH.more (B':=B+(N-((N:Int)-1+1).toNat)) (by omega);refine wp_loop_ghost (fun n p x=>∃ (z:Int) (l:List Int) (oa:Option Addr) (oc:Nat),z.toNat=n∧z+1≤(N:Int)∧-1≤z∧l.Perm (EN N)∧l.length=N∧Sl p 44 [(7, .int .i64 z),(5, .slice oa l.length oc),(0, .pointer (some ⟨hb,0,none⟩))]∧Ext hb w x∧AB x hb (B+(N-(z+1).toNat)) ha hn hc∧CG x w.heap.size (.slice oa l.length oc) l) ((N:Int)-1).toNat ⟨(N:Int)-1,EN N,oa,oc,rfl,by omega,by omega,hP,hLN,(((Z.nil.cons (Z.get 0 _ rfl)).cons (Z.get 5 _ rfl)).cons (Z.get 7 _ rfl)),hE1,hH0,hO⟩ ?_;clear Z hE1 hH hH0 hO hP hLN;rintro n a x ⟨z,l,oa,oc,hzn,hz1,hz0,hP,hLN,Z,hE1,hH,hO⟩;have HP:=Lib.hid hP;clear hP;have HLN:=Lib.hid hLN;have HZN:=Lib.hid hzn;clear hzn;have hlN:l.length≤N:=by omega
  have hNl:N≤l.length:=by omega
  have hBN:B+(N-(z+1).toNat)≤1000000:=by omega
  clear hLN;refine wp_seq ?_;refine wsr ?_;refine Z.s ?_;clear Z;intro a Z
  by_cases h0:0 < z
  ·have q2:(0:Int) < z:=h0;refine Z.s ?_;clear Z;intro a Z;refine od ?_;refine wp_cond_true (Z.ev 22 rfl) ?_;refine wp_skip ?_;refine wp_seq ?_;refine wp_block ?_;refine wp_seq ?_;obtain ⟨i,hiz⟩:∃ i:Nat,z=(i:Int):=⟨z.toNat,by omega⟩;subst hiz;obtain ⟨g,rfl,hgw,hgx⟩:=CG.AaX hO (by omega);refine wr ?_;(iterate 2 refine Z.s ?_;clear Z;intro a Z);refine og fun K hK =>?_
   have e25:=Z.g 25;have e26:=Z.g 26;unfold Oper.wp;go_simp;refine (CE _ _ _ _ _ _ hH (by omega) ((i:Int)) (by omega) (by omega)).mono ?_;rintro e x ⟨_,⟨z27,p27,q27,rfl⟩,rfl,hH,hE2⟩;replace hE1:=hE1.trans hE2;replace hO:=hO.ext hE2 (by omega);clear hE2;clear e25 e26;refine Z.K hK ?_;clear Z hK;intro a Z;obtain ⟨kk,rfl⟩:∃ kk:Nat,z27=(kk:Int):=⟨z27.toNat,by omega⟩;refine Z.s ?_;clear Z;intro a Z;refine od ?_;refine wp_seq ?_;have qi:(i:Int) < (l.length:Int):=by omega
   have qk:(kk:Int) < (l.length:Int):=by omega
   refine wr ?_;(iterate 3 refine Z.s ?_;clear Z;intro a Z);refine Z.rv rfl rfl rfl (by decide) (AY rfl (Z.ev 30 rfl) Try.underlying3 rfl ((CG.cell1 hO (i:=i) (by omega)).1)) ?_;clear Z;intro a Z;refine Z.s ?_;clear Z;intro a Z;refine od ?_;refine wsr ?_;(iterate 5 refine Z.s ?_;clear Z;intro a Z);refine Z.rv rfl rfl rfl (by decide) (AY rfl (Z.ev 36 rfl) Try.underlying3 rfl ((CG.cell1 hO (i:=kk) (by omega)).1)) ?_;clear Z;intro a Z;refine Z.s ?_;clear Z;intro a Z;have hcf:=CG.cell1 hO (i:=i) (by omega);refine Z.rs rfl rfl rfl (CZ (v := .int .i64 l[kk]) rfl (Z.ev 38 rfl) (Z.ev 37 rfl) (by kernel_rfl) rfl rfl hcf.1 hcf.2) ?_;clear hcf;have hps:=A8.Xx hO rfl;obtain ⟨cur_,hob⟩:=hps;replace hE1:=hE1.set (g:=g) (by omega) (i) (.int .i64 l[kk]);replace hH:=hH.far (g:=g) (by omega) (i) (.int .i64 l[kk]);replace hO:CG (x.setCell ⟨g,i,none⟩ (.int .i64 l[kk])) w.heap.size (.slice (some ⟨g,0,none⟩) (l.set i l[kk]).length oc) (l.set i l[kk]):=CG.Aba hO (by omega) _;clear hob cur_;obtain ⟨x,hx2⟩:∃ q,q=x.setCell ⟨g,i,none⟩ (.int .i64 l[kk]):=⟨_,rfl⟩;rw [← hx2] at hE1 hH hO ⊢;clear hx2;refine od ?_;refine wr ?_;(iterate 4 refine Z.s ?_;clear Z;intro a Z);have hcf:=CG.cell1 hO (i:=kk) (by simp only [List.length_set];omega)
   refine Z.rs rfl rfl rfl (CZ (v := .int .i64 l[i]) rfl (Z.ev 42 rfl) (Z.ev 41 rfl) (by kernel_rfl) rfl rfl hcf.1 hcf.2) ?_;clear hcf;have hps:=A8.Xx hO rfl;obtain ⟨cur_,hob⟩:=hps;replace hE1:=hE1.set (g:=g) (by omega) (kk) (.int .i64 l[i]);replace hH:=hH.far (g:=g) (by omega) (kk) (.int .i64 l[i]);replace hO:CG (x.setCell ⟨g,kk,none⟩ (.int .i64 l[i])) w.heap.size (.slice (some ⟨g,0,none⟩) ((l.set i l[kk]).set kk l[i]).length oc) ((l.set i l[kk]).set kk l[i]):=CG.Aba hO (by simp only [List.length_set];omega) _;clear hob cur_;obtain ⟨x,hx2⟩:∃ q,q=x.setCell ⟨g,kk,none⟩ (.int .i64 l[i]):=⟨_,rfl⟩;rw [← hx2] at hE1 hH hO ⊢;clear hx2;refine od ?_;refine wr ?_;refine Z.s ?_;clear Z;intro a Z;refine og fun K hK =>?_
   have e23:=Z.g 23;have hw24:=IntWalk.i64_in ((i:Int)-1) (by omega);unfold Oper.wp;go_simp;clear e23;refine Z.K hK ?_;clear Z hK;intro a Z;refine Z.s ?_;clear Z;intro a Z;refine od ?_;have hzn:=HZN.out;have hP2:((l.set i l[kk]).set kk l[i]).Perm l:=List.set_set_perm (by omega) (by omega);have hs2:=(((Z.nil.cons (Z.get 0 _ rfl)).cons (Z.get 5 _ rfl)).cons (Z.get 7 _ rfl));rw [show l.length=((l.set i l[kk]).set kk l[i]).length by simp only [List.length_set]] at hs2;exact ⟨n-1,by omega,(i:Int)-1,_,some ⟨g,0,none⟩,oc,by omega,by omega,by omega,hP2.trans HP.out,by simp only [List.length_set];exact HLN.out,hs2,hE1,hH.more (by omega),hO⟩
  ·have q2:¬ (0:Int) < z:=h0;refine Z.s ?_;clear Z;intro a Z;refine od ?_;refine wp_cond_false (Z.ev 22 rfl) ?_;refine wp_exit ?_;refine wsr ?_;(iterate 2 refine Z.s ?_;clear Z;intro a Z);refine od ?_;refine wp_ret ?_
   try simp only [Exit.then,Exit.inBlock,↓reduceIte,Nat.reduceEqDiff]
   refine bodyPost_ret (v := .slice oa l.length oc) ?_ Z.defers ⟨l,oa,oc,rfl,hO,HP.out,hH.more (by omega),hE1⟩;simp [results,Try.results42,Z.get 4 _ rfl]
end
section
open Go.RowKit
structure ZW (nt np:Nat) (l:List Am) (i:Nat) (ps os:List Am):Prop where
 pl:ps.length≤2*i
 ol:os.length≤i
 pk:EG nt np ps
 ok:EG nt np os
 ps:∀ key,Ap ps key=Ap (l.take i) key
 os:∀ a b:Int,Ap os (a,b)=if b=0 then Ap (l.take i) (a,b) else 0
theorem ZW.nil (nt np:Nat) (l:List Am):ZW nt np l 0 [] []:=⟨by simp,by simp,fun p h=>by simp at h,fun p h=>by simp at h,fun key=>by simp [Ap],fun a b=>by simp [Ap]⟩
def partsOf (p:Am) (z:Int):List Am:=(if 0 < z then [⟨p.toll,p.owner,z⟩] else [])++(if 0 < p.heads-z then [⟨p.toll,p.owner,p.heads-z⟩] else [])
def Gv (p:Am):List Am:=if p.owner=0 then [p] else []
theorem ZW.next {nt np:Nat} {l ps os:List Am} {i:Nat} (h:ZW nt np l i ps os) (hi:i < l.length) (hk:EG nt np l) {z:Int} (h0:0≤z) (h1:z≤l[i].heads):ZW nt np l (i+1) (ps++partsOf l[i] z) (os++Gv l[i]):=by
 have hp:=hk l[i] (List.getElem_mem hi);have hPl:(partsOf l[i] z).length≤2:=by unfold partsOf;split <;> split <;> simp
 have hOl:(Gv l[i]).length≤1:=by unfold Gv;split <;> simp
 refine ⟨by have:=h.pl;rw [List.length_append];omega,by have:=h.ol;rw [List.length_append];omega,Oo h.pk fun x hx =>?_,Oo h.ok fun x hx =>?_,fun key =>?_,fun a b =>?_⟩
 ·unfold partsOf at hx;rcases List.mem_append.1 hx with hx | hx <;> split at hx <;> simp at hx <;> (subst hx;dsimp only;omega)
 ·unfold Gv at hx
  split at hx <;> simp at hx
  subst hx;exact hp
 ·rw [Gm hi,Gu,h.ps]
  congr 1
  unfold partsOf
  by_cases c1:0 < z <;> by_cases c2:0 < l[i].heads-z <;> simp only [c1,c2,if_true,if_false,List.nil_append,List.append_nil,List.cons_append,Ap] <;> (split <;> omega)
 ·rw [Gu,h.os];unfold Gv
  by_cases c:l[i].owner=0
  ·rw [if_pos c]
   by_cases hb:b=0
   ·rw [if_pos hb,if_pos hb,Gm hi];simp [Ap]
   ·rw [if_neg hb,if_neg hb];simp only [Ap];rw [if_neg (by intro e;simp only [Prod.mk.injEq] at e;omega)];omega
  ·rw [if_neg c]
   by_cases hb:b=0
   ·rw [if_pos hb,if_pos hb,take_same hi (by omega)];simp [Ap]
   ·rw [if_neg hb,if_neg hb];simp [Ap]
theorem Qy {a b:List Am} (h:a.Perm b) (key:Int×Int):Ap a key=Ap b key:=by
 induction h with
 | nil=>rfl
 | cons x _ ih=>simp only [Ap,ih]
 | swap x y l=>simp only [Ap];omega
 | trans _ _ h1 h2=>exact h1.trans h2
def L8 (ps:List Am) (os:List Nat):List Am:=os.map fun i=>ps.getD i default
theorem SX (ps:List Am):L8 ps (List.range ps.length)=ps:=by
 unfold L8;apply List.ext_getElem (by simp);intro i h1 h2;simp [h2]
theorem OJ {ps:List Am} {os:List Nat} (h:os.Perm (List.range ps.length)):(L8 ps os).Perm ps:=by
 have h1:(L8 ps os).Perm (L8 ps (List.range ps.length)):=h.map _;rw [SX] at h1;exact h1
theorem Vt (ps:List Am) {os:List Nat} {i:Nat} (hi:i < os.length) (h:os[i] < ps.length):L8 ps (os.take (i+1))=L8 ps (os.take i)++[ps[os[i]]]:=by
 unfold L8;rw [List.take_succ_eq_append_getElem hi,List.map_append];simp [h]
theorem YS {nt np:Nat} {ps:List Am} {os:List Nat} (h:os.Perm (List.range ps.length)) (hk:EG nt np ps):EG nt np (L8 ps os):=fun p hp=>hk p ((OJ h).mem_iff.1 hp)
theorem ZQ {t:Af} {l l':List Am} (h:∀ key,Ap l key=Ap l' key) (o i:Nat):atL t l o i=atL t l' o i:=by unfold atL;rw [h]
theorem Uu {t:Af} {l l':List Am} (h:∀ key,Ap l key=Ap l' key) (o:Nat):IG t l o=IG t l' o:=by
 unfold IG;rw [Md o fun k=>h _]
 congr 2
 exact I8 _ fun i _=>by unfold Tv;rw [h]
theorem Qu {t:Af} {l l':List Am} (h:∀ key,Ap l key=Ap l' key) (o:Nat):∀ j,LW t l o j=LW t l' o j
 | 0=>rfl
 | j+1=>by unfold LW;rw [Qu h o j,ZQ h]
theorem QN {t:Af} {l l':List Am} (h:∀ key,Ap l key=Ap l' key):∀ o,Fq t l o=Fq t l' o
 | 0=>rfl
 | o+1=>by unfold Fq;rw [QN h o,Qu h,Md o fun k=>h _]
theorem Sr {f g:Nat→Int} {n:Nat} (h:∀ i,i < n→f i=g i):DY f n=DY g n:=List.map_congr_left fun i hi=>h i (by simpa using hi)
theorem MC {f:Nat→Int}:∀ n:Nat,(∀ i,i < n→i≠0→f i=0)→0 < n→Eb (DY f n)=f 0
 | 1,_,_=>by simp [DY,Eb]
 | n+2,h,_=>by
  have h1:=MC (f:=f) (n+1) (fun i hi=>h i (by omega)) (by omega);have h2:=h (n+1) (by omega) (by omega);unfold DY at h1 ⊢;rw [List.range_succ,List.map_append]
  have e:∀ a b:List Int,Eb (a++b)=Eb a+Eb b:=fun a b=>by
   unfold Eb;rw [List.foldl_append]
   have:∀ (b:List Int) (x y:Int),b.foldl (·+·) (x+y)=x+b.foldl (·+·) y:=fun b=>by
    induction b with
    | nil=>intro x y;rfl
    | cons c b ih=>intro x y;simp only [List.foldl_cons];rw [Int.add_assoc];exact ih _ _
   have h0:=this b (a.foldl (·+·) 0) 0;rw [Int.add_zero] at h0;exact h0
  rw [e,h1];simp [Eb,h2]
theorem YA {t:Af} {l:List Am} (hF:ES t l) {o:Nat} (ho:o < t.Ac.length) (h:∀ a:Int,Ap l (a,(o:Int))=0):Fe t l o=0:=by
 have h1:Jr t l o=0:=by
  unfold Jr
  have:FM (atL t l o) t.Ah.length=FM (fun _=>0) t.Ah.length:=I8 _ fun i _=>by
   unfold atL;rw [h];have hf:=(hF.pf _ (getD_mem ho)).1;unfold ofV;rw [if_neg (show ¬ (t.Ac.getD o default).free < 0 by omega)];simp
  rw [this];have:∀ n:Nat,FM (fun _=>0) n=0:=fun n=>by induction n with | zero=>rfl | succ n ih=>show FM _ n+0=0;rw [ih];rfl
  exact this _
 unfold Fe;rw [h1];rfl
end
section
open Go Go.Conc Go.RowKit
structure Df (x:World) (B:Nat) (v1:Value) (l1:List Am) (v2:Value) (l2:List Am):Prop where
 h1:BJ x B v1 l1
 h2:BJ x B v2 l2
 ne:∀ g,v1.ownBlock=some g→v2.ownBlock≠some g
section
variable {x x' w:World} {B b m:Nat} {v1 v2 v:Value} {l1 l2 l:List Am} {cs:Array Value} {e:TypeId} {r:Option Nat}
theorem Df.nil:Df x B (.slice none 0 0) [] (.slice none 0 0) []:=⟨A8.nil,A8.nil,fun g h=>by simp [Value.ownBlock] at h⟩
theorem Df.below (h:Df x B v1 l1 v2 l2) (hb:Below x.heap.size x x'):Df x' B v1 l1 v2 l2:=⟨h.h1.below hb,h.h2.below hb,h.ne⟩
theorem Df.ext (h:Df x B v1 l1 v2 l2) (hE:Ext m x x') (hm:m < B):Df x' B v1 l1 v2 l2:=⟨h.h1.ext hE hm,h.h2.ext hE hm,h.ne⟩
def Dv (b:Nat) (v1 v2:Value):Prop:=v1.ownBlock≠some b∧v2.ownBlock≠some b
theorem Df.far (h:Df x B v1 l1 v2 l2) (hb:x.heap.size≤b):Dv b v1 v2:=⟨h.h1.GY hb,h.h2.GY hb⟩
theorem Df.grown (h:Df x B v1 l1 v2 l2) (hG:x.grownBy x' (some b)) (hF:Dv b v1 v2):Df x' B v1 l1 v2 l2:=⟨h.h1.grown hG hF.1,h.h2.grown hG hF.2,h.ne⟩
theorem Df.store (h:Df x B v1 l1 v2 l2) (hF:Dv b v1 v2) (o:Nat) (u:Value):Df (x.setCell ⟨b,o,none⟩ u) B v1 l1 v2 l2:=⟨h.h1.VB hF.1 o u,h.h2.VB hF.2 o u,h.ne⟩
theorem Dv.N7 (h:Dv b v1 v2) (hb:v.ownBlock=v1.ownBlock∨v.ownBlock=some x.heap.size) (hl:b < x.heap.size):Dv b v v2 :=
 ⟨fun e=>by
  rcases hb with hb | hb
  ·exact h.1 (hb.symm.trans e)
  ·rw [hb] at e;cases e;omega,h.2⟩
theorem Dv.KN (h:Dv b v1 v2) (hb:v.ownBlock=v2.ownBlock∨v.ownBlock=some x.heap.size) (hl:b < x.heap.size):Dv b v1 v :=
 ⟨h.1,fun e=>by
  rcases hb with hb | hb
  ·exact h.2 (hb.symm.trans e)
  ·rw [hb] at e;cases e;omega⟩
theorem Df.N7 (h:Df x B v1 l1 v2 l2) (hN:BJ x' B v l) (hG:x.grownBy x' v1.ownBlock) (hb:v.ownBlock=v1.ownBlock∨v.ownBlock=some x.heap.size):Df x' B v l v2 l2 :=
 ⟨hN,h.h2.BN hG h.ne,fun g hg e=>by
  rcases hb with hb | hb
  ·exact h.ne g (hb.symm.trans hg) e
  ·rw [hb] at hg;cases hg
   have:=(h.h2.Ai e).2;omega⟩
theorem Df.KN (h:Df x B v1 l1 v2 l2) (hN:BJ x' B v l) (hG:x.grownBy x' v2.ownBlock) (hb:v.ownBlock=v2.ownBlock∨v.ownBlock=some x.heap.size):Df x' B v1 l1 v l :=
 ⟨h.h1.BN hG fun g hg e=>h.ne g e hg,hN,fun g hg e=>by
  rcases hb with hb | hb
  ·exact h.ne g hg (hb.symm.trans e)
  ·rw [hb] at e;cases e
   have:=(h.h1.Ai hg).2;omega⟩
end
section
variable {w:World} {a b n:Nat} {f g:Nat→Int}
theorem IM (h:Rw w a (Ib (DY f n)) 3):AX w (some ⟨a,0,none⟩) (DY f n):=BR h
theorem Z8 (ha:Rw w a (Ib (DY f n)) 3) (hb:Rw w b (Ib (DY g n)) 3) (hn:n≤1000000) (he:Hid (∀ i,i < n→f i=g i)):Calls Try.prog 28 #[.slice (some ⟨a,0,none⟩) n n, .slice (some ⟨b,0,none⟩) n n] w (fun e w'=>e = .returned (.bool true)∧Below w.heap.size w w'):=by
 have h:=MM (ca:=n) (cb:=n) (IM ha) (IM hb) (by rw [Ee];exact hn);rw [Ee,Ee] at h;refine h.mono ?_;rintro e w' ⟨rfl,hb⟩;exact ⟨by rw [decide_eq_true (Sr he.out)],hb⟩
theorem Z4 (ha:Rw w a (Ib (DY f n)) 3) (hn:n≤1000000) (hB:Hid (∀ i,i < n→-1000000000≤f i∧f i≤1000000000)):Calls Try.prog 32 #[.slice (some ⟨a,0,none⟩) n n] w (fun e w'=>e = .returned (.int .i64 (Eb (DY f n)))∧w=w'):=by
 have h:=total_any (lc:=n) (IM ha) (by rw [Ee];exact hn) (fun y hy=>by
  simp only [DY,List.mem_map,List.mem_range] at hy;obtain ⟨i,hi,rfl⟩:=hy;exact hB.out i hi)
 rw [Ee] at h;exact h
theorem Z9 (ha:Rw w a (ar4 f) 3) (hb:Rw w b (ar4 g) 3) (he:Hid (f=g)):Calls Try.prog 28 #[.slice (some ⟨a,0,none⟩) 4 4, .slice (some ⟨b,0,none⟩) 4 4] w (fun e w'=>e = .returned (.bool true)∧Below w.heap.size w w'):=by
 have h:=MM (ca:=4) (cb:=4) (BR (l:=[f 0,f 1,f 2,f 3]) ha) (BR (l:=[g 0,g 1,g 2,g 3]) hb) (by simp);refine h.mono ?_;rintro e w' ⟨rfl,hb⟩;exact ⟨by rw [he.out];simp,hb⟩
end
section
variable {w:World} {t:Af} {s:Eg} {l:List Am} {la:Option Addr} {lc:Nat}
theorem Aak (hT:Dc w t s) (hP:DJ w la l) (ho:Hid (BZ t l=0)):Calls Try.prog 31 #[.agg (EI t s), .slice la l.length lc] w (fun e w'=>∃ g,e = .returned (.tuple #[.slice (some ⟨g,0,none⟩) 4 4, .int .i64 0])∧Rw w' g (ar4 (Fq t l t.Ac.length)) 3∧Below w.heap.size w w') :=
 (Nj hT hP (MS ho.out)).mono fun _ _ ⟨h1,_,h2⟩=>by
  obtain ⟨g,h3,_,h5⟩:=h2 ho.out;exact ⟨g,h3,h5,h1⟩
end
theorem Xg {t:Af} {l:List Am} (ho:BZ t l=0) (o:Nat) (hol:o < t.Ac.length):0≤Fe t l o∧Fe t l o≤30000:=by
 have hT:=JA ho;have hf:=(DX ho).1
 have h24:l.length≤24:=Classical.byContradiction fun c=>by
  unfold BZ at ho;rw [if_neg (by rw [hT];simp),if_pos (by omega)] at ho;exact absurd ho (by decide)
 obtain ⟨_,_,_,_,_,hp,_,h6,h9⟩:=BG hT;have hF:=QM ho
 have hat:∀ i,i < t.Ah.length→0≤atL t l o i∧atL t l o i≤960000:=fun i hi=>by
  have hs:=Fh hf ((i:Int),(o:Int));have e:t.Ah.getD i default=t.Ah[i]:=by simp [List.getD_eq_getElem?_getD,hi]
  have hr:=Aq.1 (Ku h9 _ (List.getElem_mem hi)).2.1;have hfr:=(hF.pf _ (getD_mem hol)).1;unfold atL;rw [e];generalize (t.Ac.getD o default).free=fr at *;generalize (t.Ac.getD o default).half=hf2 at *;generalize Ap l ((i:Int),(o:Int))=q at *;generalize t.Ah[i].rate=r at *;have h0:0≤(if fr < q then q-fr else 0)∧(if fr < q then q-fr else 0)≤960:=by split <;> omega
  have h1:=Int.mul_le_mul h0.2 hr.2 hr.1 (by omega);have h2:=Int.mul_nonneg h0.1 hr.1;unfold ofV
  cases hf2 <;> simp only [if_true,Bool.false_eq_true,if_false] <;> omega
 have hs:∀ n,n≤t.Ah.length→0≤FM (atL t l o) n∧FM (atL t l o) n≤960000*(n:Int):=fun n=>by
  induction n with
  | zero=>intro _;simp [FM]
  | succ n ih =>
   intro hn;have h1:=ih (by omega);have h2:=hat n (by omega);simp only [FM];push_cast;omega
 have h3:=hs _ (Nat.le_refl _);unfold Fe Jr EE
 omega
end
end Go.Proofs.Ytgdobbcjkiapkaa
