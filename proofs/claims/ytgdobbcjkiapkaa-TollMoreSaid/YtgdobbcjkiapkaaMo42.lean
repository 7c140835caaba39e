import Derived.Test.YtgdobbcjkiapkaaMo41
import Derived.Test.YtgdobbcjkiapkaaMo24
import Derived.Test.YtgdobbcjkiapkaaMo38
import Derived.Test.YtgdobbcjkiapkaaMo23
namespace Go.Proofs.Ytgdobbcjkiapkaa
set_option maxRecDepth 100000
set_option maxHeartbeats 4000000
set_option linter.unusedSimpArgs false
set_option linter.unusedVariables false
section
open Go Go.Conc Go.RowKit
theorem XG {w:World} {a:Option Addr} {n c:Nat} {l:List Int} (hl:Bd w a l) (hn:l.length=n) (hm:n≤maxLen) (ha:l=[]∨∀ ad,a=some ad→ad.block < w.heap.size):Calls Try.prog 19 #[.slice a n c] w fun e w'=>∃ hb,e = .returned (.pointer (some ⟨hb,0,none⟩))∧w.heap.size≤hb∧AO w' hb 0 a n c∧Below w.heap.size w w' :=
 (RQ w a n c l hl hn hm ha).mono fun _ _ ⟨h1,h2,h3,_⟩=>⟨_,h1,Nat.le_refl _,h2,h3⟩
def YG (b:Nat) (t:Ae) (s:D5):Prop:=(Value.slice s.sa t.roads.strips.length s.sc).ownBlock≠some b∧(Value.slice s.pa t.Ac.length s.pc).ownBlock≠some b∧(Value.slice s.ta t.Ag.length s.tc).ownBlock≠some b
theorem Bv.far {x:World} {B b:Nat} {t:Ae} {s:D5} (h:Bv x B t s) (hb:x.heap.size≤b):YG b t s:=⟨h.os.Ff hb,h.op.Ff hb,h.ot.Ff hb⟩
theorem Bv.Zq {x x':World} {B b:Nat} {t:Ae} {s:D5} (h:Bv x B t s) (hG:x.grownBy x' (some b)) (hF:YG b t s):Bv x' B t s:=⟨h.os.grown hG hF.1,h.op.grown hG hF.2.1,h.ot.grown hG hF.2.2⟩
theorem U9 {w:World} {hb B:Nat} {ha:Option Addr} {hn hc:Nat} (ns nt:Nat) (hH:AO w hb B ha hn hc) (hB:B≤900000) (h8:ns≤8) (h6:nt≤6):Calls Try.prog 20 #[.pointer (some ⟨hb,0,none⟩), .int .i64 (ns:Int), .int .i64 (nt:Int)] w (fun e w'=>∃ t s,e = .returned (.agg (BV t s))∧Bv w' (hb+1) t s∧Hid (Pn ns nt t)∧AO w' hb (B+200) ha hn hc∧Ext hb w w') :=
 (PO hH hB h8 h6).mono fun _ _ ⟨t,s,h1,h2,h3,h4,h5⟩=>⟨t,s,h1,h2.lower (Nat.succ_le_of_lt hH.lt),Lib.hid h3,h4,h5⟩
theorem FQ {w:World} {hb B ns nt:Nat} {ha:Option Addr} {hn hc:Nat} {t:Ae} {s:D5} (most:Nat) (hH:AO w hb B ha hn hc) (hB:B≤900000) (hT:Hid (Pn ns nt t)) (h6:nt≤6) (hm:most≤24):Calls Try.prog 29 #[.pointer (some ⟨hb,0,none⟩), .agg (BV t s), .int .i64 (most:Int)] w (fun e w'=>∃ l la lc,e = .returned (.slice la l.length lc)∧BC w' (hb+1) (.slice la l.length lc) l∧l.length≤most∧Hid (EO t.Ag.length t.Ac.length l)∧AO w' hb (B+1+5*most) ha hn hc∧Ext hb w w'):=by
 have h:=hT.out;refine (TQ (most:=most) hH hB (by have:=h.lt;omega) (by have:=h.lp;omega) h.p1 (by omega)).mono ?_;rintro e w' ⟨l,v,rfl,hO,hl,hG,hH',hE⟩;obtain ⟨la,lc,rfl,_,_,_⟩:=hO.at;exact ⟨l,la,lc,rfl,hO.lower (Nat.succ_le_of_lt hH.lt),hl,Lib.hid hG,hH',hE⟩
theorem BC.pass {w:World} {B:Nat} {la:Option Addr} {lc:Nat} {l:List Aw} (h:BC w B (.slice la l.length lc) l):Fj w la l:=by
 obtain ⟨a,cap,hv,_,_,hp⟩:=h.at;simp only [Value.slice.injEq,true_and] at hv;rw [hv.1];exact hp
end
section
open Go Go.Conc Go.RowKit
theorem Qa {t:Ae} {l:List Aw} (h:CJ t l=0):l.length≤maxLen:=by
 have:l.length≤24:=Classical.byContradiction fun c=>by
  unfold CJ at h
  by_cases h1:Au t≠0
  ·rw [if_pos h1] at h;exact h1 h
  ·rw [if_neg h1,if_pos (by omega)] at h;exact absurd h (by decide)
 exact Nat.le_trans this (by decide)
theorem Qm {t:Ae} {l:List Aw} (h:CJ t l=0):Ey t l:=Ey.of (KG h) (Ee h).1 (Ee h).2
theorem LP {w:World} {g n:Nat} {f:Nat→Int} {t:TypeId} (h:Rw w g (Iu (FY f n)) t) {i:Nat} (hi:i < n):w.cell? ⟨g,i,none⟩=some (.int .i64 (f i)):=by
 refine h.cell ?_;rw [MH (l:=FY f n) (i:=i) (by rw [Ir];exact hi)];simp [FY]
section
variable {M:Machine} {w:World} {t:Ae} {s:D5} {l:List Aw} {la:Option Addr} {lc:Nat}
def RU (w0:World) (L:List Int) (n:Nat) (e:Ending) (w':World):Prop :=
 Below w0.heap.size w0 w'∧∃ g,e = .returned (.tuple #[.slice (some ⟨g,0,none⟩) n n, .int .i64 0])∧w0.heap.size≤g∧Rw w' g (Iu L) 3
theorem Eo.use {L:List Int} {err:Int} {e:Ending} {w':World} (h:Eo w L err e w') (h0:err=0) {n:Nat} (hn:L.length=n):RU w L n e w':=by
 obtain ⟨g,h1,h2,h3⟩:=h.2.2 h0;exact ⟨h.1,g,by rw [h1,hn],h2,h3⟩
theorem Aas (hT:Dl w t s) (hP:Fj w la l) (ho:Hid (CJ t l=0)):DD Try.prog M 30 #[.agg (BV t s), .slice la l.length lc] w (RU w (FY (Ib t l) t.Ac.length) t.Ac.length) :=
 (SN hT hP (Qa ho.out)).mono fun _ _ h=>h.use ho.out (Ir _ _)
theorem Aam (hT:Dl w t s) (hP:Fj w la l) (ho:Hid (CJ t l=0)):DD Try.prog M 46 #[.agg (BV t s), .slice la l.length lc] w (RU w (FY (TJ t l) t.Ac.length) t.Ac.length) :=
 (Xl hT hP (Qa ho.out)).mono fun _ _ h=>h.use ho.out (Ir _ _)
end
end
section
open Go.RowKit
theorem LV {f g:Nat→Int}:∀ n:Nat,(∀ i,i < n→f i≤g i)→FC f n≤FC g n
 | 0,_=>Int.le_refl _
 | n+1,h=>Int.add_le_add (LV n fun i hi=>h i (by omega)) (h n (by omega))
theorem MP {a b:Int} (h:a≤b):Dn a≤Dn b:=by unfold Dn;omega
theorem XD {f f' q q' r r':Int} {b b':Bool} (hf:f'≤f) (hq:q≤q') (hr0:0≤r) (hr:r≤r') (hb:b'=true→b=true):ofV f b q r≤ofV f' b' q' r':=by
 have h0:0≤(if f < q then q-f else 0):=by split <;> omega
 have h1:(if f < q then q-f else 0)≤(if f' < q' then q'-f' else 0):=by split <;> split <;> omega
 have h2:=Int.mul_le_mul h1 hr hr0 (by omega);have h3:=Int.mul_nonneg h0 hr0;unfold ofV;generalize (if f < q then q-f else 0)*r=x at *;generalize (if f' < q' then q'-f' else 0)*r'=y at *
 cases b <;> cases b' <;> simp at hb ⊢ <;> omega
theorem Xp {t:Ae} {l:List Aw} (h:Ey t l) (k:Nat):0≤(t.Ag.getD k default).rate:=by
 rw [List.getD_eq_getElem?_getD]
 cases hk:t.Ag[k]? with
 | none=>simp [show (default:Bc).rate=0 from rfl]
 | some x=>exact (h.rt x (List.mem_of_getElem? hk)).1
end
section
open Go Go.RowKit
section
variable {α β:Type} {f:α→List Value} {f':β→List Value} {e e':TypeId} {k k':Nat} {w w' x x':World} {B B' b g m n c:Nat} {v v':Value} {l:List α} {l':List β} {cs cur:Array Value} {t:TypeId} {r:Option Nat}
theorem AX.MZ (h:AX f e k x B v l) (hb:v.ownBlock=some g):∃ cur,x.heap[g]? = some (.cells cur e (0,0)):=by
 rcases h.2 with ⟨hv,_⟩ | ⟨g',cap,cur,hv,_,hh,_⟩
 ·rw [hv] at hb;simp [Value.ownBlock] at hb
 ·rw [hv] at hb;simp only [Value.ownBlock,Option.some.injEq] at hb;subst hb;exact ⟨cur,hh⟩
theorem Rw.ND (K:Rw x b cs t) (hg:x.heap[g]? = some (.cells cur e (0,0))) (hne:t≠e):b≠g:=by
 rintro rfl;unfold Rw at K;rw [K] at hg;simp only [Option.some.injEq,Obj.cells.injEq] at hg;exact hne hg.2.1
theorem AX.ND (h:AX f' e' k' x B' v' l') (hg:x.heap[g]? = some (.cells cur e (0,0))) (hne:e'≠e):v'.ownBlock≠some g:=fun hb=>by
 obtain ⟨cur2,h2⟩:=h.MZ hb;rw [h2] at hg;simp only [Option.some.injEq,Obj.cells.injEq] at hg;exact hne hg.2.1
theorem AX.Qz (h:AX f e k x B v l) (h':AX f' e' k' x B' v' l') (hne:e'≠e):∀ g,v.ownBlock=some g→v'.ownBlock≠some g:=fun g hg=>by
 obtain ⟨cur,h2⟩:=h.MZ hg;exact h'.ND h2 hne
theorem AX.Ba (h':AX f' e' k' x B' v' l') (hG:x.grownBy x' r) (ha:∀ g,r=some g→v'.ownBlock≠some g):AX f' e' k' x' B' v' l':=by
 refine h'.keep fun q hq=>hG.block q (h'.Ai hq).2 fun e =>?_
 exact ha q e.symm hq
theorem Rw.Ba (K:Rw x b cs t) (hG:x.grownBy x' r) (ha:∀ g,r=some g→b≠g):Rw x' b cs t:=K.grown hG fun e=>ha b e.symm rfl
theorem Ext.Ba (h:Ext m w x) (hG:x.grownBy x' r) (ha:∀ g,r=some g→w.heap.size≤g):Ext m w x' :=
 ⟨hG.os.trans h.os,hG.tape.trans h.tape,hG.output.trans h.output,Nat.le_trans h.size hG.size,fun k hk hne=>(hG.block k (Nat.lt_of_lt_of_le hk h.size) (fun e=>by have:=ha k e.symm;omega)).trans (h.block k hk hne)⟩
theorem AO.Ba {hb D n ca:Nat} {a:Option Addr} (h:AO x hb D a n ca) (hG:x.grownBy x' r) (ha:∀ g,r=some g→hb < g):AO x' hb D a n ca:=h.keep fun k hk hle=>hG.block k hk fun e=>by have:=ha k e.symm;omega
theorem Bv.Ba {t:Ae} {s:D5} (h:Bv x B t s) (hG:x.grownBy x' r) (h1:∀ g,r=some g→(Value.slice s.sa t.roads.strips.length s.sc).ownBlock≠some g) (h2:∀ g,r=some g→(Value.slice s.pa t.Ac.length s.pc).ownBlock≠some g) (h3:∀ g,r=some g→(Value.slice s.ta t.Ag.length s.tc).ownBlock≠some g):Bv x' B t s:=⟨h.os.Ba hG h1,h.op.Ba hG h2,h.ot.Ba hG h3⟩
theorem Bv.BP {t:Ae} {s:D5} (h:Bv x B t s) (hG:x.grownBy x' v.ownBlock) (ho:AX f e k x B' v l) (h1:96≠e) (h2:69≠e) (h3:57≠e):Bv x' B t s :=
 h.Ba hG (ho.Qz h.os h1) (ho.Qz h.op h2) (ho.Qz h.ot h3)
theorem Rw.BP (K:Rw x b cs t) (hG:x.grownBy x' v.ownBlock) (ho:AX f e k x B' v l) (hne:t≠e):Rw x' b cs t:=K.Ba hG fun g hg=>by
 obtain ⟨cur,h2⟩:=ho.MZ hg;exact K.ND h2 hne
theorem Bv.rowT {t:Ae} {s:D5} {e:TypeId} (h:Bv x B t s) (hG:x.grownBy x' (some b)) (K:Rw x b cs e) (h1:96≠e) (h2:69≠e) (h3:57≠e):Bv x' B t s :=
 h.Ba hG (fun g hg=>by cases hg;exact h.os.ND K h1) (fun g hg=>by cases hg;exact h.op.ND K h2) (fun g hg=>by cases hg;exact h.ot.ND K h3)
theorem AX.rowT {e:TypeId} (h:AX f' e' k' x B' v' l') (hG:x.grownBy x' (some b)) (K:Rw x b cs e) (hne:e'≠e):AX f' e' k' x' B' v' l':=h.Ba hG fun g hg=>by cases hg;exact h.ND K hne
theorem AX.Zh (h':AX f' e' k' x B' v' l') (hg:x.heap[g]? = some (.cells cur e (0,0))) (hne:e'≠e) (o:Nat) (u:Value):AX f' e' k' (x.setCell ⟨g,o,none⟩ u) B' v' l':=h'.V6 (h'.ND hg hne) o u
theorem Bv.Zh {t:Ae} {s:D5} (h:Bv x B t s) (hg:x.heap[g]? = some (.cells cur e (0,0))) (h1:96≠e) (h2:69≠e) (h3:57≠e) (o:Nat) (u:Value):Bv (x.setCell ⟨g,o,none⟩ u) B t s :=
 ⟨h.os.Zh hg h1 o u,h.op.Zh hg h2 o u,h.ot.Zh hg h3 o u⟩
theorem OQ (hg:g < x.heap.size) (o:Nat) (u:Value):x.grownBy (x.setCell ⟨g,o,none⟩ u) (some g):=by
 refine ⟨rfl,rfl,rfl,by simp [World.setCell],fun k _ hne =>?_⟩;exact Below.heap_setCell _ ⟨g,o,none⟩ _ k (by intro e;exact hne (by rw [e]))
end
theorem Bv.YP {x:World} {B g:Nat} {t:Ae} {s:D5} (h:Bv x B t s) (hs:s.ta=some ⟨g,0,none⟩) {i j:Nat} (hi:i < t.Ag.length) (hj:j < 3) {y:Bc} {u:Value} (hy:Ij y=(Ij t.Ag[i]).set j u) :
  Bv (x.setCell ⟨g,i*3+j,none⟩ u) B ⟨t.roads,t.pace,t.Ac,t.Ag.set i y⟩ s:=by
 have ho:=h.ot;rw [hs] at ho;have hb:(Value.slice (some ⟨g,0,none⟩) t.Ag.length s.tc).ownBlock=some g:=rfl;have hG:=OQ (ho.Ai hb).2 (i*3+j) u;refine ⟨h.os.Ba hG fun q hq =>?_,h.op.Ba hG fun q hq =>?_,?_⟩
 ·cases hq;exact ho.Qz h.os (by decide) g hb
 ·cases hq;exact ho.Qz h.op (by decide) g hb
 ·have:=ho.put (fun _=>rfl) hi hj hy;show Jw _ B (.slice s.ta (t.Ag.set i y).length s.tc) (t.Ag.set i y);rw [hs];exact this
end
section
open Go Go.Conc Go.RowKit
structure J8 (m ms:List Aw):Prop where
 len:ms.length=m.length
 same:∀ i (h:i < m.length) (h':i < ms.length),ms[i].toll=m[i].toll∧ms[i].owner=m[i].owner∧m[i].heads≤ms[i].heads∧ms[i].heads≤40
theorem J8.refl {m:List Aw} (h:∀ p∈m,p.heads≤40):J8 m m:=⟨rfl,fun i hi _=>⟨rfl,rfl,Int.le_refl _,h _ (List.getElem_mem hi)⟩⟩
theorem J8.set {m ms:List Aw} (h:J8 m ms) {k:Nat} (hk:k < ms.length) {z:Int} (h1:ms[k].heads≤z) (h2:z≤40):J8 m (ms.set k ⟨ms[k].toll,ms[k].owner,z⟩):=by
 refine ⟨by rw [List.length_set];exact h.len,fun i hi hi' =>?_⟩;have hi2:i < ms.length:=by rw [List.length_set] at hi';exact hi'
 have hs:=h.same i hi hi2
 by_cases e:k=i
 ·subst e;rw [List.getElem_set_self];exact ⟨hs.1,hs.2.1,by show _≤z;omega,h2⟩
 ·rw [List.getElem_set_ne e];exact hs
theorem J8.sum {m:List Aw} (key:Int×Int):∀ {ms:List Aw},J8 m ms→AP m key≤AP ms key:=by
 induction m with
 | nil=>intro ms h;have:=h.len;cases ms with | nil=>exact Int.le_refl _ | cons _ _=>simp at this
 | cons p m ih =>
  intro ms h
  cases ms with
  | nil=>have:=h.len;simp at this
  | cons q ms =>
   have h0:=h.same 0 (by simp) (by simp);simp only [List.getElem_cons_zero] at h0
   have:=ih (ms:=ms) ⟨by have:=h.len;simpa using this,fun i hi hi'=>by
    have:=h.same (i+1) (by simp;omega) (by simp;omega)
    simpa using this⟩
   simp only [AP,h0.1,h0.2.1]
   split <;> omega
theorem J8.ok {nt np:Nat} {m ms:List Aw} (h:J8 m ms) (hm:EO nt np m):EO nt np ms:=fun p hp=>by
 obtain ⟨i,hi,rfl⟩:=List.getElem_of_mem hp;have hi2:i < m.length:=by rw [← h.len];exact hi
 have hs:=h.same i hi2 hi;have:=hm m[i] (List.getElem_mem hi2);rw [hs.1,hs.2.1];omega
structure Ie (ts us:List Bc):Prop where
 len:us.length=ts.length
 same:∀ i (h:i < ts.length) (h':i < us.length),us[i].strip=ts[i].strip∧us[i].farmer=ts[i].farmer∧ts[i].rate≤us[i].rate∧us[i].rate≤500
theorem Ie.refl {ts:List Bc} (h:∀ x∈ts,x.rate≤500):Ie ts ts:=⟨rfl,fun i hi _=>⟨rfl,rfl,Int.le_refl _,h _ (List.getElem_mem hi)⟩⟩
theorem Ie.set {ts us:List Bc} (h:Ie ts us) {k:Nat} (hk:k < us.length) {z:Int} (h1:us[k].rate≤z) (h2:z≤500):Ie ts (us.set k ⟨us[k].strip,z,us[k].farmer⟩):=by
 refine ⟨by rw [List.length_set];exact h.len,fun i hi hi' =>?_⟩;have hi2:i < us.length:=by rw [List.length_set] at hi';exact hi'
 have hs:=h.same i hi hi2
 by_cases e:k=i
 ·subst e;rw [List.getElem_set_self];exact ⟨hs.1,hs.2.1,by show _≤z;omega,h2⟩
 ·rw [List.getElem_set_ne e];exact hs
theorem Ie.range {ts us:List Bc} (h:Ie ts us) (h0:∀ x∈ts,0≤x.rate∧x.rate≤500):∀ u∈us,0≤u.rate∧u.rate≤500:=fun u hu=>by
 obtain ⟨i,hi,rfl⟩:=List.getElem_of_mem hu;have hi2:i < ts.length:=by rw [← h.len];exact hi
 have:=h.same i hi2 hi;have:=h0 _ (List.getElem_mem hi2)
 omega
theorem Si {ns nt:Nat} {t:Ae} (h:Pn ns nt t):∀ x∈t.Ag,0≤x.rate∧x.rate≤500:=fun x hx=>by
 obtain ⟨_,_,_,_,_,_,_,_,h9⟩:=BH h.ok;exact Ak.1 (IP h9 x hx).2.1
theorem U4 {ns nt:Nat} {t:Ae} (h:Pn ns nt t):∀ x∈t.Ag,x.rate≤500:=fun x hx=>(Si h x hx).2
theorem PG {n:Int} {pre pre':List Bc} {x y:Bc} (h:BL n pre x=0) (hp:pre'.map (fun z=>(z.strip,z.farmer))=pre.map (fun z=>(z.strip,z.farmer))) (h1:y.strip=x.strip) (h2:y.farmer=x.farmer) (h3:0≤y.rate) (h4:y.rate≤500):BL n pre' y=0:=by
 have ha:pre'.any (fun z=>z.strip == y.strip && z.farmer == y.farmer)=pre.any (fun z=>z.strip == x.strip && z.farmer == x.farmer):=by
  have e:∀ l:List Bc,l.any (fun z=>z.strip == x.strip && z.farmer == x.farmer)=(l.map (fun z=>(z.strip,z.farmer))).any fun q=>q.1 == x.strip && q.2 == x.farmer:=fun l=>by rw [List.any_map];rfl
  rw [h1,h2,e,e,hp]
 have hr:btw y.rate 0 500=true:=Ak.2 ⟨h3,h4⟩;unfold BL at h ⊢;rw [ha,h1,h2,hr]
 cases h5:btw x.strip 0 (n-1) with
 | false=>rw [h5] at h;simp at h
 | true =>
  rw [h5] at h
  cases h6:btw x.farmer 1 4 with
  | false=>rw [h6] at h;simp at h
  | true =>
   rw [h6] at h
   cases h7:pre.any (fun z=>z.strip == x.strip && z.farmer == x.farmer) with
   | false=>simp
   | true=>rw [h7] at h;simp at h;split at h <;> simp at h
theorem JC {n:Int}:∀ {ts us pre pre':List Bc},BF n pre ts=0→pre'.map (fun z=>(z.strip,z.farmer))=pre.map (fun z=>(z.strip,z.farmer))→us.map (fun z=>(z.strip,z.farmer))=ts.map (fun z=>(z.strip,z.farmer))→(∀ u∈us,0≤u.rate∧u.rate≤500)→BF n pre' us=0
 | [],us,_,_,_,_,hm,_=>by
  have:us=[]:=by simpa using hm
  subst this;rfl
 | x :: ts,us,pre,pre',h,hp,hm,hr=>by
  cases us with
  | nil=>simp at hm
  | cons y us =>
   simp only [List.map_cons,List.cons.injEq,Prod.mk.injEq] at hm
   have hx:BL n pre x=0:=by
    by_cases c:BL n pre x=0
    ·exact c
    ·rw [BF,if_neg c] at h;exact absurd h c
   rw [BF,if_pos hx] at h;have hy:=PG hx hp hm.1.1 hm.1.2 (hr y (by simp)).1 (hr y (by simp)).2;rw [BF,if_pos hy];exact JC h (by simp [hp,hm.1.1,hm.1.2]) hm.2 fun u hu=>hr u (by simp [hu])
theorem Ie.map {ts us:List Bc} (h:Ie ts us):us.map (fun z=>(z.strip,z.farmer))=ts.map (fun z=>(z.strip,z.farmer)):=by
 apply List.ext_getElem (by simp [h.len]);intro i h1 h2;simp only [List.length_map] at h1 h2;have:=h.same i h2 h1;simp [this.1,this.2.1]
theorem UE {t:Ae} {us:List Bc} (h:Au t=0) (hm:Ie t.Ag us):Au ⟨t.roads,t.pace,t.Ac,us⟩=0:=by
 obtain ⟨_,_,_,_,_,_,_,h6,h9⟩:=BH h
 have key:ER ⟨t.roads,t.pace,t.Ac,us⟩=0:=by
  unfold ER;rw [if_neg (by show ¬ 6 < us.length;rw [hm.len];omega)];refine JC h9 rfl hm.map fun u hu =>?_
  obtain ⟨i,hi,rfl⟩:=List.getElem_of_mem hu;have hi2:i < t.Ag.length:=by rw [← hm.len];exact hi
  have:=hm.same i hi2 hi;have h0:=(Ak.1 (IP h9 _ (List.getElem_mem hi2)).2.1).1;show 0≤us[i].rate∧us[i].rate≤500
  omega
 unfold Au at h ⊢
 by_cases c1:BR t.roads≠0
 ·rw [if_pos c1] at h;exact absurd h c1
 rw [if_neg c1] at h ⊢
 by_cases c2:(!btw t.pace 1 9)=true
 ·rw [if_pos c2] at h;simp at h
 rw [if_neg c2] at h ⊢
 by_cases c3:Ro t.Ac.length 1 4≠0
 ·rw [if_pos c3] at h;exact absurd h c3
 rw [if_neg c3] at h ⊢
 by_cases c4:(!t.Ac.all Bi)=true
 ·rw [if_pos c4] at h;simp at h
 rw [if_neg c4] at h ⊢
 by_cases c5:(!btw (A8 t.Ac) 1 40)=true
 ·rw [if_pos c5] at h;simp at h
 rw [if_neg c5] at h ⊢;exact key
theorem VY {ts us:List Bc} (h:Ie ts us) (i:Nat):(ts.getD i default).rate≤(us.getD i default).rate:=by
 simp only [List.getD_eq_getElem?_getD]
 by_cases hi:i < ts.length
 ·have hi2:i < us.length:=by rw [h.len];exact hi
  rw [List.getElem?_eq_getElem hi,List.getElem?_eq_getElem hi2];exact (h.same i hi hi2).2.2.1
 ·rw [List.getElem?_eq_none (by omega),List.getElem?_eq_none (by rw [h.len];omega)];exact Int.le_refl _
theorem WV {t:Ae} {l ms:List Aw} {us:List Bc} (hF:Ey t l) (hm:Ie t.Ag us) (hp:∀ key,AP l key≤AP ms key) (o i:Nat):atL t l o i≤atL ⟨t.roads,t.pace,t.Ac,us⟩ ms o i :=
 XD (Int.le_refl _) (hp _) (Xp hF i) (VY hm i) id
theorem X0 {t:Ae} {l ms:List Aw} {us:List Bc} (hF:Ey t l) (hm:Ie t.Ag us) (hp:∀ key,AP l key≤AP ms key) (o:Nat):Ib t l o≤Ib ⟨t.roads,t.pace,t.Ac,us⟩ ms o:=by
 unfold Ib Oc;refine MP ?_;show _≤FC _ us.length;rw [hm.len];exact LV _ fun i _=>WV hF hm hp o i
theorem Xk {t:Ae} {l ms:List Aw} {us:List Bc} (hF:Ey t l) (hm:Ie t.Ag us) (hp:∀ key,AP l key≤AP ms key) (o:Nat):TJ t l o≤TJ ⟨t.roads,t.pace,t.Ac,us⟩ ms o:=by
 unfold TJ;show _≤FC _ us.length;rw [hm.len];exact LV _ fun i _=>MP (WV hF hm hp o i)
theorem KF {nt np:Nat} {a b:List Aw} (ha:EO nt np a) (hb:EO nt np b):EO nt np (a++b):=fun p hp=>by rcases List.mem_append.1 hp with h | h;exact ha p h;exact hb p h
theorem TY {t:Ae} {m ms:List Aw} {us:List Bc} (hc:Au t=0) (hm:Ie t.Ag us) (hp:J8 m ms) (hk:EO t.Ag.length t.Ac.length m) (hn:m.length≤24):CJ ⟨t.roads,t.pace,t.Ac,us⟩ ms=0:=by
 unfold CJ;rw [if_neg (by rw [UE hc hm];simp),if_neg (by rw [hp.len];omega)];refine Io ?_;show EO us.length t.Ac.length ms;rw [hm.len];exact hp.ok hk
theorem TD {t:Ae} {l l2 ms:List Aw} (h2:EO t.Ag.length t.Ac.length l2) (hp:J8 (l++l2) ms) (key:Int×Int):AP l key≤AP ms key:=by
 have h1:=hp.sum key;rw [Jh] at h1
 have h0:∀ l2:List Aw,EO t.Ag.length t.Ac.length l2→0≤AP l2 key:=fun l2=>by
  induction l2 with
  | nil=>intro _;exact Int.le_refl _
  | cons p l ih =>
   intro h;have:=h p (by simp);have:=ih fun x hx=>h x (by simp [hx])
   simp only [AP];split <;> omega
 have:=h0 l2 h2
 omega
section
variable {w:World} {t:Ae} {s:D5}
theorem JX (B:Nat) {ns nt:Nat} (hT:Dl w t s) (hK:Hid (Pn ns nt t)) (h8:ns≤1000) (h6:nt≤1000) (hB:B≤w.heap.size):Calls Try.prog 23 #[.agg (BV t s)] w (fun e w'=>∃ sa sc pa pc ta tc,e = .returned (.agg (BV t ⟨sa,sc,pa,pc,ta,tc⟩))∧Bv w' B t ⟨sa,sc,pa,pc,ta,tc⟩∧Below w.heap.size w w') :=
 (Rz hT (by have:=hK.out.ls;omega) (by have:=hK.out.lp;omega) (by have:=hK.out.lt;omega)).mono fun _ _ ⟨hb,s',h1,h2⟩=>⟨s'.sa,s'.sc,s'.pa,s'.pc,s'.ta,s'.tc,h1,h2.lower hB,hb⟩
end
section
variable {α:Type} {f:α→List Value} {e:TypeId} {k:Nat} {w:World} {B g c:Nat} {l:List α}
theorem AX.src {a:Option Addr} (h:AX f e k w B (.slice a l.length c) l) (hf:∀ x,(f x).length=k):Ce f k w a l:=by
 obtain ⟨a',c',hv,_,_,hC⟩:=h.cells hf;simp only [Value.slice.injEq,true_and] at hv;obtain ⟨rfl,_⟩:=hv;exact hC
theorem AX.cellAt (h:AX f e k w B (.slice (some ⟨g,0,none⟩) l.length c) l) (hf:∀ x,(f x).length=k) {i j:Nat} (hi:i < l.length) (hj:j < k) {u:Value} (hu:(f l[i])[j]? = some u):w.cell? ⟨g,i*k+j,none⟩=some u∧w.frozen? ⟨g,i*k+j,none⟩=false:=by
 obtain ⟨g',hg,_,_,hC,hz⟩:=h.at0 hf (by omega);simp only [Option.some.injEq,Addr.mk.injEq,and_true] at hg;obtain rfl:=hg;refine ⟨?_,hz _⟩;rcases h.src hf with h0 | ⟨b,o,ha,hc⟩
 ·rw [h0] at hi;simp at hi
 ·simp only [Option.some.injEq,Addr.mk.injEq,and_true] at ha;obtain ⟨rfl,rfl⟩:=ha;have:=hc i hi j u hj hu
  simpa using this
end
end
end Go.Proofs.Ytgdobbcjkiapkaa
