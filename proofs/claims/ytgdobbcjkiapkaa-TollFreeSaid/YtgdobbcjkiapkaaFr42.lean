import Derived.Test.YtgdobbcjkiapkaaFr41
import Derived.Test.YtgdobbcjkiapkaaFr24
import Derived.Test.YtgdobbcjkiapkaaFr38
import Derived.Test.YtgdobbcjkiapkaaFr23
namespace Go.Proofs.Ytgdobbcjkiapkaa
set_option maxRecDepth 100000
set_option maxHeartbeats 4000000
set_option linter.unusedSimpArgs false
set_option linter.unusedVariables false
section
open Go Go.Conc Go.RowKit
theorem XR {w:World} {a:Option Addr} {n c:Nat} {l:List Int} (hl:Ba w a l) (hn:l.length=n) (hm:n≤maxLen) (ha:l=[]∨∀ ad,a=some ad→ad.block < w.heap.size):Calls Try.prog 19 #[.slice a n c] w fun e w'=>∃ hb,e = .returned (.pointer (some ⟨hb,0,none⟩))∧w.heap.size≤hb∧AY w' hb 0 a n c∧Below w.heap.size w w' :=
 (SV w a n c l hl hn hm ha).mono fun _ _ ⟨h1,h2,h3,_⟩=>⟨_,h1,Nat.le_refl _,h2,h3⟩
def YQ (b:Nat) (t:Ae) (s:D5):Prop:=(Value.slice s.sa t.roads.strips.length s.sc).ownBlock≠some b∧(Value.slice s.pa t.Ac.length s.pc).ownBlock≠some b∧(Value.slice s.ta t.Ag.length s.tc).ownBlock≠some b
theorem A8.far {x:World} {B b:Nat} {t:Ae} {s:D5} (h:A8 x B t s) (hb:x.heap.size≤b):YQ b t s:=⟨h.os.Fe hb,h.op.Fe hb,h.ot.Fe hb⟩
theorem A8.ZF {x x':World} {B b:Nat} {t:Ae} {s:D5} (h:A8 x B t s) (hG:x.grownBy x' (some b)) (hF:YQ b t s):A8 x' B t s:=⟨h.os.grown hG hF.1,h.op.grown hG hF.2.1,h.ot.grown hG hF.2.2⟩
theorem VC {w:World} {hb B:Nat} {ha:Option Addr} {hn hc:Nat} (ns nt:Nat) (hH:AY w hb B ha hn hc) (hB:B≤900000) (h8:ns≤8) (h6:nt≤6):Calls Try.prog 20 #[.pointer (some ⟨hb,0,none⟩), .int .i64 (ns:Int), .int .i64 (nt:Int)] w (fun e w'=>∃ t s,e = .returned (.agg (Bf t s))∧A8 w' (hb+1) t s∧Hid (Nr ns nt t)∧AY w' hb (B+200) ha hn hc∧Ext hb w w') :=
 (Qc hH hB h8 h6).mono fun _ _ ⟨t,s,h1,h2,h3,h4,h5⟩=>⟨t,s,h1,h2.lower (Nat.succ_le_of_lt hH.lt),Lib.hid h3,h4,h5⟩
theorem Y2 {w:World} {hb B ns nt:Nat} {ha:Option Addr} {hn hc:Nat} {t:Ae} {s:D5} (most:Nat) (hH:AY w hb B ha hn hc) (hB:B≤900000) (hT:Hid (Nr ns nt t)) (h6:nt≤6) (hm:most≤24):Calls Try.prog 29 #[.pointer (some ⟨hb,0,none⟩), .agg (Bf t s), .int .i64 (most:Int)] w (fun e w'=>∃ l la lc,e = .returned (.slice la l.length lc)∧CS w' (hb+1) (.slice la l.length lc) l∧l.length≤most∧Hid (G6 t.Ag.length t.Ac.length l)∧AY w' hb (B+1+5*most) ha hn hc∧Ext hb w w'):=by
 have h:=hT.out;refine (Us (most:=most) hH hB (by have:=h.lt;omega) (by have:=h.lp;omega) h.p1 (by omega)).mono ?_;rintro e w' ⟨l,v,rfl,hO,hl,hG,hH',hE⟩;obtain ⟨la,lc,rfl,_,_,_⟩:=hO.at;exact ⟨l,la,lc,rfl,hO.lower (Nat.succ_le_of_lt hH.lt),hl,Lib.hid hG,hH',hE⟩
theorem CS.pass {w:World} {B:Nat} {la:Option Addr} {lc:Nat} {l:List AU} (h:CS w B (.slice la l.length lc) l):Fh w la l:=by
 obtain ⟨a,cap,hv,_,_,hp⟩:=h.at;simp only [Value.slice.injEq,true_and] at hv;rw [hv.1];exact hp
end
section
open Go Go.Conc Go.RowKit
theorem Qx {t:Ae} {l:List AU} (h:Cc t l=0):l.length≤maxLen:=by
 have:l.length≤24:=Classical.byContradiction fun c=>by
  unfold Cc at h
  by_cases h1:AA t≠0
  ·rw [if_pos h1] at h;exact h1 h
  ·rw [if_neg h1,if_pos (by omega)] at h;exact absurd h (by decide)
 exact Nat.le_trans this (by decide)
theorem JV {t:Ae} {l:List AU} (h:Cc t l=0):EF t l:=EF.of (IB h) (Ee h).1 (Ee h).2
theorem Gh {w:World} {g n:Nat} {f:Nat→Int} {t:TypeId} (h:Rw w g (Il (Fz f n)) t) {i:Nat} (hi:i < n):w.cell? ⟨g,i,none⟩=some (.int .i64 (f i)):=by
 refine h.cell ?_;rw [MO (l:=Fz f n) (i:=i) (by rw [IE];exact hi)];simp [Fz]
section
variable {M:Machine} {w:World} {t:Ae} {s:D5} {l:List AU} {la:Option Addr} {lc:Nat}
def Nv (w0:World) (L:List Int) (n:Nat) (e:Ending) (w':World):Prop :=
 Below w0.heap.size w0 w'∧∃ g,e = .returned (.tuple #[.slice (some ⟨g,0,none⟩) n n, .int .i64 0])∧w0.heap.size≤g∧Rw w' g (Il L) 3
theorem Eo.use {L:List Int} {err:Int} {e:Ending} {w':World} (h:Eo w L err e w') (h0:err=0) {n:Nat} (hn:L.length=n):Nv w L n e w':=by
 obtain ⟨g,h1,h2,h3⟩:=h.2.2 h0;exact ⟨h.1,g,by rw [h1,hn],h2,h3⟩
theorem Aaw (hT:Dc w t s) (hP:Fh w la l) (ho:Hid (Cc t l=0)):Dl Try.prog M 30 #[.agg (Bf t s), .slice la l.length lc] w (Nv w (Fz (ER t l) t.Ac.length) t.Ac.length) :=
 (TG hT hP (Qx ho.out)).mono fun _ _ h=>h.use ho.out (IE _ _)
theorem YF (hT:Dc w t s) (hP:Fh w la l) (ho:Hid (Cc t l=0)):Dl Try.prog M 43 #[.agg (Bf t s), .slice la l.length lc] w (Nv w (Fz (Gx t l) t.Ac.length) t.Ac.length) :=
 (Ul hT hP (Qx ho.out)).mono fun _ _ h=>h.use ho.out (IE _ _)
end
end
section
open Go.RowKit
theorem LZ {f g:Nat→Int}:∀ n:Nat,(∀ i,i < n→f i≤g i)→FZ f n≤FZ g n
 | 0,_=>Int.le_refl _
 | n+1,h=>Int.add_le_add (LZ n fun i hi=>h i (by omega)) (h n (by omega))
theorem Og {f g:Nat→Int}:∀ n:Nat,(∀ i,i < n→f i=g i)→FZ f n=FZ g n
 | 0,_=>rfl
 | n+1,h=>by show FZ f n+f n=FZ g n+g n;rw [Og n fun i hi=>h i (by omega),h n (by omega)]
theorem Nb {a b:Int} (h:a≤b):DK a≤DK b:=by unfold DK;omega
theorem Tq {f f' q q' r r':Int} {b b':Bool} (hf:f'≤f) (hq:q≤q') (hr0:0≤r) (hr:r≤r') (hb:b'=true→b=true):ofV f b q r≤ofV f' b' q' r':=by
 have h0:0≤(if f < q then q-f else 0):=by split <;> omega
 have h1:(if f < q then q-f else 0)≤(if f' < q' then q'-f' else 0):=by split <;> split <;> omega
 have h2:=Int.mul_le_mul h1 hr hr0 (by omega);have h3:=Int.mul_nonneg h0 hr0;unfold ofV;generalize (if f < q then q-f else 0)*r=x at *;generalize (if f' < q' then q'-f' else 0)*r'=y at *
 cases b <;> cases b' <;> simp at hb ⊢ <;> omega
theorem Tm {t:Ae} {l:List AU} (h:EF t l) (k:Nat):0≤(t.Ag.getD k default).rate:=by
 rw [List.getD_eq_getElem?_getD]
 cases hk:t.Ag[k]? with
 | none=>simp [show (default:BB).rate=0 from rfl]
 | some x=>exact (h.rt x (List.mem_of_getElem? hk)).1
end
section
open Go Go.RowKit
section
variable {α β:Type} {f:α→List Value} {f':β→List Value} {e e':TypeId} {k k':Nat} {w w' x x':World} {B B' b g m n c:Nat} {v v':Value} {l:List α} {l':List β} {cs cur:Array Value} {t:TypeId} {r:Option Nat}
theorem Bc.IP (h:Bc f e k x B v l) (hb:v.ownBlock=some g):∃ cur,x.heap[g]? = some (.cells cur e (0,0)):=by
 rcases h.2 with ⟨hv,_⟩ | ⟨g',cap,cur,hv,_,hh,_⟩
 ·rw [hv] at hb;simp [Value.ownBlock] at hb
 ·rw [hv] at hb;simp only [Value.ownBlock,Option.some.injEq] at hb;subst hb;exact ⟨cur,hh⟩
theorem Rw.Ik (K:Rw x b cs t) (hg:x.heap[g]? = some (.cells cur e (0,0))) (hne:t≠e):b≠g:=by
 rintro rfl;unfold Rw at K;rw [K] at hg;simp only [Option.some.injEq,Obj.cells.injEq] at hg;exact hne hg.2.1
theorem Bc.Ik (h:Bc f' e' k' x B' v' l') (hg:x.heap[g]? = some (.cells cur e (0,0))) (hne:e'≠e):v'.ownBlock≠some g:=fun hb=>by
 obtain ⟨cur2,h2⟩:=h.IP hb;rw [h2] at hg;simp only [Option.some.injEq,Obj.cells.injEq] at hg;exact hne hg.2.1
theorem Bc.YP (h:Bc f e k x B v l) (h':Bc f' e' k' x B' v' l') (hne:e'≠e):∀ g,v.ownBlock=some g→v'.ownBlock≠some g:=fun g hg=>by
 obtain ⟨cur,h2⟩:=h.IP hg;exact h'.Ik h2 hne
theorem Bc.MQ (h':Bc f' e' k' x B' v' l') (hG:x.grownBy x' r) (ha:∀ g,r=some g→v'.ownBlock≠some g):Bc f' e' k' x' B' v' l':=by
 refine h'.keep fun q hq=>hG.block q (h'.Aj hq).2 fun e =>?_
 exact ha q e.symm hq
theorem A8.MQ {t:Ae} {s:D5} (h:A8 x B t s) (hG:x.grownBy x' r) (h1:∀ g,r=some g→(Value.slice s.sa t.roads.strips.length s.sc).ownBlock≠some g) (h2:∀ g,r=some g→(Value.slice s.pa t.Ac.length s.pc).ownBlock≠some g) (h3:∀ g,r=some g→(Value.slice s.ta t.Ag.length s.tc).ownBlock≠some g):A8 x' B t s:=⟨h.os.MQ hG h1,h.op.MQ hG h2,h.ot.MQ hG h3⟩
theorem A8.rowT {t:Ae} {s:D5} {e:TypeId} (h:A8 x B t s) (hG:x.grownBy x' (some b)) (K:Rw x b cs e) (h1:96≠e) (h2:69≠e) (h3:57≠e):A8 x' B t s :=
 h.MQ hG (fun g hg=>by cases hg;exact h.os.Ik K h1) (fun g hg=>by cases hg;exact h.op.Ik K h2) (fun g hg=>by cases hg;exact h.ot.Ik K h3)
theorem Bc.AaF (h':Bc f' e' k' x B' v' l') (hg:x.heap[g]? = some (.cells cur e (0,0))) (hne:e'≠e) (o:Nat) (u:Value):Bc f' e' k' (x.setCell ⟨g,o,none⟩ u) B' v' l':=h'.Vk (h'.Ik hg hne) o u
theorem O8 (hg:g < x.heap.size) (o:Nat) (u:Value):x.grownBy (x.setCell ⟨g,o,none⟩ u) (some g):=by
 refine ⟨rfl,rfl,rfl,by simp [World.setCell],fun k _ hne =>?_⟩;exact Below.heap_setCell _ ⟨g,o,none⟩ _ k (by intro e;exact hne (by rw [e]))
end
theorem A8.Ol {x:World} {B g:Nat} {t:Ae} {s:D5} (h:A8 x B t s) (hs:s.pa=some ⟨g,0,none⟩) {i j:Nat} (hi:i < t.Ac.length) (hj:j < 3) {y:Aq} {u:Value} (hy:MH y=(MH t.Ac[i]).set j u) :
  A8 (x.setCell ⟨g,i*3+j,none⟩ u) B ⟨t.roads,t.pace,t.Ac.set i y,t.Ag⟩ s:=by
 have ho:=h.op;rw [hs] at ho;have hb:(Value.slice (some ⟨g,0,none⟩) t.Ac.length s.pc).ownBlock=some g:=rfl;have hG:=O8 (ho.Aj hb).2 (i*3+j) u;refine ⟨h.os.MQ hG fun q hq =>?_,?_,h.ot.MQ hG fun q hq =>?_⟩
 ·cases hq;exact ho.YP h.os (by decide) g hb
 ·have:=ho.put (fun _=>rfl) hi hj hy;show IV _ B (.slice s.pa (t.Ac.set i y).length s.pc) (t.Ac.set i y);rw [hs];exact this
 ·cases hq;exact ho.YP h.ot (by decide) g hb
end
section
open Go Go.Conc Go.RowKit
structure Z9 (m ms:List AU):Prop where
 len:ms.length=m.length
 same:∀ i (h:i < m.length) (h':i < ms.length),ms[i].toll=m[i].toll∧ms[i].owner=m[i].owner∧m[i].heads≤ms[i].heads∧ms[i].heads≤40
theorem Z9.ok {nt np:Nat} {m ms:List AU} (h:Z9 m ms) (hm:G6 nt np m):G6 nt np ms:=fun p hp=>by
 obtain ⟨i,hi,rfl⟩:=List.getElem_of_mem hp;have hi2:i < m.length:=by rw [← h.len];exact hi
 have hs:=h.same i hi2 hi;have:=hm m[i] (List.getElem_mem hi2);rw [hs.1,hs.2.1];omega
structure Z8 (ts us:List BB):Prop where
 len:us.length=ts.length
 same:∀ i (h:i < ts.length) (h':i < us.length),us[i].strip=ts[i].strip∧us[i].farmer=ts[i].farmer∧ts[i].rate≤us[i].rate∧us[i].rate≤500
theorem Z8.range {ts us:List BB} (h:Z8 ts us) (h0:∀ x∈ts,0≤x.rate∧x.rate≤500):∀ u∈us,0≤u.rate∧u.rate≤500:=fun u hu=>by
 obtain ⟨i,hi,rfl⟩:=List.getElem_of_mem hu;have hi2:i < ts.length:=by rw [← h.len];exact hi
 have:=h.same i hi2 hi;have:=h0 _ (List.getElem_mem hi2)
 omega
section
variable {w:World} {t:Ae} {s:D5}
theorem J4 (B:Nat) {ns nt:Nat} (hT:Dc w t s) (hK:Hid (Nr ns nt t)) (h8:ns≤1000) (h6:nt≤1000) (hB:B≤w.heap.size):Calls Try.prog 23 #[.agg (Bf t s)] w (fun e w'=>∃ sa sc pa pc ta tc,e = .returned (.agg (Bf t ⟨sa,sc,pa,pc,ta,tc⟩))∧A8 w' B t ⟨sa,sc,pa,pc,ta,tc⟩∧Below w.heap.size w w') :=
 (Na hT (by have:=hK.out.ls;omega) (by have:=hK.out.lp;omega) (by have:=hK.out.lt;omega)).mono fun _ _ ⟨hb,s',h1,h2⟩=>⟨s'.sa,s'.sc,s'.pa,s'.pc,s'.ta,s'.tc,h1,h2.lower hB,hb⟩
end
section
variable {α:Type} {f:α→List Value} {e:TypeId} {k:Nat} {w:World} {B g c:Nat} {l:List α}
theorem Bc.src {a:Option Addr} (h:Bc f e k w B (.slice a l.length c) l) (hf:∀ x,(f x).length=k):Cb f k w a l:=by
 obtain ⟨a',c',hv,_,_,hC⟩:=h.cells hf;simp only [Value.slice.injEq,true_and] at hv;obtain ⟨rfl,_⟩:=hv;exact hC
theorem Bc.cellAt (h:Bc f e k w B (.slice (some ⟨g,0,none⟩) l.length c) l) (hf:∀ x,(f x).length=k) {i j:Nat} (hi:i < l.length) (hj:j < k) {u:Value} (hu:(f l[i])[j]? = some u):w.cell? ⟨g,i*k+j,none⟩=some u∧w.frozen? ⟨g,i*k+j,none⟩=false:=by
 obtain ⟨g',hg,_,_,hC,hz⟩:=h.at0 hf (by omega);simp only [Option.some.injEq,Addr.mk.injEq,and_true] at hg;obtain rfl:=hg;refine ⟨?_,hz _⟩;rcases h.src hf with h0 | ⟨b,o,ha,hc⟩
 ·rw [h0] at hi;simp at hi
 ·simp only [Option.some.injEq,Addr.mk.injEq,and_true] at ha;obtain ⟨rfl,rfl⟩:=ha;have:=hc i hi j u hj hu
  simpa using this
end
end
section
open Go Go.Conc Go.RowKit
def EM (p:Aq):Aq:=⟨p.heads,0,false⟩
def Du (ps:List Aq) (k:Nat):List Aq:=(ps.take k).map EM++ps.drop k
theorem IU (ps:List Aq) (k:Nat):(Du ps k).length=ps.length:=by simp [Du];omega
theorem Xl {ps:List Aq} {k:Nat} (h:k < ps.length):(Du ps k).set k (EM ps[k])=Du ps (k+1):=by
 unfold Du;have hl:((ps.take k).map EM).length=k:=by simp;omega
 rw [List.set_append_right _ _ (by omega),hl,Nat.sub_self,List.drop_eq_getElem_cons h,List.set_cons_zero,List.take_succ_eq_append_getElem h,List.map_append,List.append_assoc]
 rfl
theorem Xm (ps:List Aq):Du ps ps.length=ps.map EM:=by simp [Du]
structure La (ps qs:List Aq):Prop where
 len:qs.length=ps.length
 same:∀ i (h:i < ps.length) (h':i < qs.length),qs[i].heads=ps[i].heads∧ps[i].free≤qs[i].free∧qs[i].free≤40∧(ps[i].half=true→qs[i].half=true)
theorem La.refl {ps:List Aq} (h:∀ p∈ps,p.free≤40):La ps ps:=⟨rfl,fun i hi _=>⟨rfl,Int.le_refl _,h _ (List.getElem_mem hi),id⟩⟩
theorem La.set {ps qs:List Aq} (h:La ps qs) {k:Nat} (hk:k < qs.length) {y:Aq} (h0:y.heads=qs[k].heads) (h1:∀ hp:k < ps.length,ps[k].free≤y.free∧(ps[k].half=true→y.half=true)) (h2:y.free≤40):La ps (qs.set k y):=by
 refine ⟨by rw [List.length_set];exact h.len,fun i hi hi' =>?_⟩;have hi2:i < qs.length:=by rw [List.length_set] at hi';exact hi'
 have hs:=h.same i hi hi2
 by_cases e:k=i
 ·subst e;rw [List.getElem_set_self];exact ⟨h0.trans hs.1,(h1 hi).1,h2,(h1 hi).2⟩
 ·rw [List.getElem_set_ne e];exact hs
theorem RZ {ps qs:List Aq} (h:qs.map (·.heads)=ps.map (·.heads)):AX qs=AX ps:=by
 induction ps generalizing qs with
 | nil =>
  have:qs=[]:=by simpa using h
  subst this;rfl
 | cons p ps ih =>
  cases qs with
  | nil=>simp at h
  | cons q qs =>
   simp only [List.map_cons,List.cons.injEq] at h;simp only [AX,h.1,ih h.2]
theorem U6 {t:Ae} {qs:List Aq} (h:AA t=0) (hm:qs.map (·.heads)=t.Ac.map (·.heads)) (hf:∀ q∈qs,0≤q.free∧q.free≤40):AA ⟨t.roads,t.pace,qs,t.Ag⟩=0:=by
 obtain ⟨_,_,_,_,_,hp,_,h6,h9⟩:=Bo h;have hl:qs.length=t.Ac.length:=by simpa using congrArg List.length hm
 have hall:qs.all A7=true:=by
  rw [List.all_eq_true];intro q hq;have h1:q.heads∈t.Ac.map (·.heads):=by rw [← hm];exact List.mem_map_of_mem hq
  obtain ⟨p,hpm,hpe⟩:=List.mem_map.1 h1;have h2:=(List.all_eq_true.1 hp) p hpm;unfold A7 at h2 ⊢;rw [Bool.and_eq_true] at h2 ⊢;refine ⟨by rw [← hpe];exact h2.1,Am.2 (hf q hq)⟩
 have hh:=RZ hm;unfold AA at h ⊢
 dsimp only
 rw [hl,hall,hh]
 by_cases c1:BO t.roads≠0
 ·rw [if_pos c1] at h;exact absurd h c1
 rw [if_neg c1] at h ⊢
 by_cases c2:(!btw t.pace 1 9)=true
 ·rw [if_pos c2] at h;simp at h
 rw [if_neg c2] at h ⊢
 by_cases c3:Sr t.Ac.length 1 4≠0
 ·rw [if_pos c3] at h;exact absurd h c3
 rw [if_neg c3] at h ⊢;rw [if_neg (show ¬ ((!t.Ac.all A7)=true) by rw [hp];simp)] at h;rw [if_neg (show ¬ ((!true)=true) by simp)]
 by_cases c5:(!btw (AX t.Ac) 1 40)=true
 ·rw [if_pos c5] at h;simp at h
 rw [if_neg c5] at h ⊢;exact h
theorem Oq {t:Ae} {qs:List Aq} {l:List AU} (h:AA t=0) (hm:qs.map (·.heads)=t.Ac.map (·.heads)) (hf:∀ q∈qs,0≤q.free∧q.free≤40) (hk:G6 t.Ag.length t.Ac.length l) (hn:l.length≤24):Cc ⟨t.roads,t.pace,qs,t.Ag⟩ l=0:=by
 have hl:qs.length=t.Ac.length:=by simpa using congrArg List.length hm
 unfold Cc;rw [if_neg (by rw [U6 h hm hf];simp),if_neg (by omega)];refine Iz ?_;show G6 t.Ag.length qs.length l;rw [hl];exact hk
theorem La.map {ps qs:List Aq} (h:La ps qs):qs.map (·.heads)=ps.map (·.heads):=by
 apply List.ext_getElem (by simp [h.len]);intro i h1 h2;simp only [List.length_map] at h1 h2;simp [(h.same i h2 h1).1]
theorem La.range {ps qs:List Aq} (h:La ps qs) (h0:∀ p∈ps,0≤p.free∧p.free≤40):∀ q∈qs,0≤q.free∧q.free≤40:=fun q hq=>by
 obtain ⟨i,hi,rfl⟩:=List.getElem_of_mem hq;have hi2:i < ps.length:=by rw [← h.len];exact hi
 have:=h.same i hi2 hi;have:=h0 _ (List.getElem_mem hi2)
 omega
theorem RI {ns nt:Nat} {t:Ae} (h:Nr ns nt t):∀ p∈t.Ac,0≤p.free∧p.free≤40:=fun p hp=>by
 obtain ⟨_,_,_,_,_,hall,_⟩:=Bo h.ok;have:=(List.all_eq_true.1 hall) p hp;simp only [A7,Bool.and_eq_true] at this;exact Am.1 this.2
theorem Yd {t:Ae} {qs:List Aq} {l:List AU} (hF:EF t l) (h:La t.Ac qs) (o:Nat):ER ⟨t.roads,t.pace,qs,t.Ag⟩ l o≤ER t l o:=by
 unfold ER LC;refine Nb (LZ _ fun i _ =>?_);unfold atL
 by_cases ho:o < t.Ac.length
 ·have ho2:o < qs.length:=by rw [h.len];exact ho
  have hs:=h.same o ho ho2;have e1:(t.Ac.getD o default)=t.Ac[o]:=by simp [List.getD_eq_getElem?_getD,ho]
  have e2:(qs.getD o default)=qs[o]:=by simp [List.getD_eq_getElem?_getD,ho2]
  show ofV (qs.getD o default).free (qs.getD o default).half _ _≤_;rw [e1,e2];exact Tq hs.2.1 (Int.le_refl _) (Tm hF i) (Int.le_refl _) hs.2.2.2
 ·have e1:(t.Ac.getD o default)=default:=by simp [List.getD_eq_getElem?_getD,Nat.le_of_not_lt ho]
  have e2:(qs.getD o default)=default:=by simp [List.getD_eq_getElem?_getD,show qs.length≤o by rw [h.len];omega]
  show ofV (qs.getD o default).free (qs.getD o default).half _ _≤_;rw [e1,e2];exact Int.le_refl _
theorem PL {t:Ae} {l:List AU} {o:Nat} (ho:o < t.Ac.length):ER ⟨t.roads,t.pace,t.Ac.map EM,t.Ag⟩ l o=DK (FZ (MC t l o) t.Ag.length):=by
 unfold ER LC
 congr 1
 refine Og _ fun i _ =>?_
 unfold atL MC;have e:(t.Ac.map EM).getD o default=EM t.Ac[o]:=by simp [List.getD_eq_getElem?_getD,ho]
 show ofV ((t.Ac.map EM).getD o default).free ((t.Ac.map EM).getD o default).half _ _=_;rw [e];rfl
theorem Uk {t:Ae} {l:List AU} {o:Nat} (ho:o < t.Ac.length):Gx t l o=ER ⟨t.roads,t.pace,t.Ac.map EM,t.Ag⟩ l o-ER t l o:=by
 rw [PL ho];rfl
theorem Uj {t:Ae} {l:List AU} {o:Nat} (ho:o < t.Ac.length):Gx ⟨t.roads,t.pace,t.Ac.map EM,t.Ag⟩ l o=0:=by
 have h:=PL (l:=l) ho;unfold Gx;rw [h];show DK (FZ (MC t l o) t.Ag.length)-_=0
 omega
theorem SE {t:Ae} {l:List AU} (hF:EF t l) {o:Nat} (ho:o < t.Ac.length):ER t l o≤ER ⟨t.roads,t.pace,t.Ac.map EM,t.Ag⟩ l o:=by
 rw [PL ho];unfold ER LC;refine Nb (LZ _ fun i _ =>?_);unfold atL MC;exact Tq (hF.pf _ (getD_mem ho)).1 (Int.le_refl _) (Tm hF i) (Int.le_refl _) (fun h=>by cases h)
theorem EL {w:World} {t:Ae} {s:D5} (B:Nat) {ns nt:Nat} (hT:Dc w t s) (hK:Hid (Nr ns nt t)) (h8:ns≤1000) (h6:nt≤1000) (hB:B≤w.heap.size) (A:Option Addr) (hA:∀ a,A=some a→a.block < w.heap.size):Calls Try.prog 23 #[.agg (Bf t s)] w (fun e w'=>∃ sa sc pa pc ta tc,e = .returned (.agg (Bf t ⟨sa,sc,pa,pc,ta,tc⟩))∧A8 w' B t ⟨sa,sc,pa,pc,ta,tc⟩∧(∀ a b:Addr,A=some a→pa=some b→a.block≠b.block)∧Below w.heap.size w w') :=
 (Na hT (by have:=hK.out.ls;omega) (by have:=hK.out.lp;omega) (by have:=hK.out.lt;omega)).mono fun _ _ ⟨hb,s',h1,h2⟩=>⟨s'.sa,s'.sc,s'.pa,s'.pc,s'.ta,s'.tc,h1,h2.lower hB,fun a b ha hb2=>by
  have h3:=hA a ha;have h4:(Value.slice s'.pa t.Ac.length s'.pc).ownBlock=some b.block:=by rw [hb2];rfl
  have:=(h2.op.Aj h4).1
  omega,hb⟩
theorem A8.MG {x:World} {B:Nat} {t:Ae} {s:D5} (h:A8 x B t s):∀ a,s.pa=some a→a.block < x.heap.size:=fun a ha=>(h.op.Aj (by rw [ha];rfl)).2
theorem A8.Zu {x:World} {B g:Nat} {cur:Array Value} {t:Ae} {s:D5} (h:A8 x B t s) (hg:x.heap[g]? = some (.cells cur 69 (0,0))) (hne:∀ a,s.pa=some a→a.block≠g) (o:Nat) (u:Value):A8 (x.setCell ⟨g,o,none⟩ u) B t s :=
 ⟨h.os.AaF hg (by decide) o u,h.op.Vk (fun e=>by
  cases hs:s.pa with
  | none=>rw [hs] at e;simp [Value.ownBlock] at e
  | some a=>rw [hs] at e;exact hne a hs (Option.some.inj e)) o u,h.ot.AaF hg (by decide) o u⟩
theorem Px {M:Machine} {f:FuncId} {args:Array Value} {w:World} {F:Nat→Int} {n n':Nat} (h:Dl Try.prog M f args w (Nv w (Fz F n) n)) (e:n=n'):Dl Try.prog M f args w (Nv w (Fz F n') n'):=e ▸ h
theorem Zj {ns nt:Nat} {t:Ae} {l:List AU} (_hT:Nr ns nt t) (ho:Cc t l=0) {o:Nat} (h:o < t.Ac.length):0≤ER t l o∧ER t l o≤6000000001:=QG (JV ho) h (by obtain ⟨_,_,_,_,_,_,_,h6,_⟩:=Bo (IB ho);exact h6)
theorem NW {ns nt:Nat} {t:Ae} {l:List AU} (_hT:Nr ns nt t) (ho:Cc ⟨t.roads,t.pace,t.Ac.map EM,t.Ag⟩ l=0) {o:Nat} (h:o < t.Ac.length):0≤ER ⟨t.roads,t.pace,t.Ac.map EM,t.Ag⟩ l o∧ER ⟨t.roads,t.pace,t.Ac.map EM,t.Ag⟩ l o≤6000000001:=QG (JV ho) (by simpa using h) (by obtain ⟨_,_,_,_,_,_,_,h6,_⟩:=Bo (IB ho);exact h6)
end
end Go.Proofs.Ytgdobbcjkiapkaa
