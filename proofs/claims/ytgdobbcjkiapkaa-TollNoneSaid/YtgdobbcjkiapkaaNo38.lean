import Derived.Test.YtgdobbcjkiapkaaNo37
import Derived.Test.YtgdobbcjkiapkaaNo28
import Derived.Deep.OwnRows
import Derived.Test.YtgdobbcjkiapkaaNo32
import Derived.Test.YtgdobbcjkiapkaaNo21
import Derived.Test.YtgdobbcjkiapkaaNo19
import Derived.Test.YtgdobbcjkiapkaaNo36
import Derived.Deep.CutBlock
namespace Go.Proofs.Ytgdobbcjkiapkaa
set_option maxRecDepth 100000
set_option maxHeartbeats 4000000
set_option linter.unusedSimpArgs false
set_option linter.unusedVariables false
section
open Go.RowKit
def CB (w:World) (g:Nat) (l:List Bool):Prop:=w.heap[g]? = some (.cells (l.map Value.bool).toArray 4 (0,0))
theorem CB.cell {w:World} {g:Nat} {l:List Bool} (h:CB w g l) {j:Nat} (hj:j < l.length):w.cell? ⟨g,j,none⟩=some (.bool l[j]):=by
 unfold CB at h;simp [World.cell?,h,hj]
theorem CB.free {w:World} {g:Nat} {l:List Bool} (h:CB w g l) (j:Nat):w.frozen? ⟨g,j,none⟩=false:=by
 unfold CB at h;simp [World.frozen?,h]
theorem CB.set {w:World} {g:Nat} {l:List Bool} (h:CB w g l) (j:Nat) (x:Bool):CB (w.setCell ⟨g,j,none⟩ (.bool x)) g (l.set j x):=by
 unfold CB at *;simp only [World.setCell,Array.getElem?_modify,if_true,h];simp [List.map_set]
theorem CB.below {w w':World} {g:Nat} {l:List Bool} (h:CB w g l) (hb:Below w.heap.size w w'):CB w' g l:=by
 unfold CB at *;rw [hb.block g (Array.getElem?_eq_some_iff.1 h).1];exact h
theorem CB.made (w:World) (m:Nat):CB (w.alloc (.cells (madeCells #[.bool false] m) 4)) w.heap.size (List.replicate m false):=by
 unfold CB;rw [heap_alloc_new]
 congr 2
 apply Array.ext
 ·simp [size_madeCells]
 ·intro i h1 h2;simp [madeCells,Nat.mod_one]
theorem CB.bools {w:World} {g:Nat} {l:List Bool} (h:CB w g l):JF w (some ⟨g,0,none⟩) l := .inr ⟨g,0,rfl,fun i hi=>by rw [Nat.zero_add];exact h.cell hi⟩
theorem WN:(Try.prog.info? 4).map (fun i=>(i.zero,i.size,i.bytes))=some (some (.bool false),1,1):=by kernel_rfl
def Ib (r:AQ) (f:Flock) (j:Nat):Nat→Bool
 | 0=>false
 | d+1=>Ib r f j d || LZ r f (-1) j d
def Gp (r:AQ) (f:Flock) (i d:Nat):List Bool:=(List.range r.strips.length).map fun j=>if j < i then Ib r f j r.days.toNat else if j=i then Ib r f j d else false
def Vp (r:AQ) (f:Flock):List Bool:=(List.range r.strips.length).map fun j=>Ib r f j r.days.toNat
theorem MC (r:AQ) (f:Flock) (i d:Nat):(Gp r f i d).length=r.strips.length:=by simp [Gp]
theorem PW {r:AQ} {f:Flock} {i d:Nat} (h:i < r.strips.length):(Gp r f i d)[i]'(by rw [MC];exact h)=Ib r f i d:=by simp [Gp]
theorem Vy {r:AQ} {f:Flock} {i d:Nat}:(Gp r f i d).set i (Ib r f i (d+1))=Gp r f i (d+1):=by
 apply List.ext_getElem (by simp [Gp]);intro j h1 h2;rw [List.getElem_set]
 by_cases e:i=j
 ·subst e;simp [Gp]
 ·rw [if_neg e];simp [Gp,show ¬ j=i from fun h=>e h.symm]
theorem Uc (r:AQ) (f:Flock):Gp r f 0 0=List.replicate r.strips.length false:=by
 apply List.ext_getElem (by simp [Gp]);intro j h1 h2;simp [Gp];intro h;subst h;rfl
theorem Ud (r:AQ) (f:Flock) (i:Nat):Gp r f i r.days.toNat=Gp r f (i+1) 0:=by
 unfold Gp;refine List.map_congr_left fun j _ =>?_
 by_cases h1:j < i
 ·rw [if_pos h1,if_pos (by omega)]
 ·rw [if_neg h1]
  by_cases h2:j=i
  ·rw [if_pos h2,if_pos (by omega)]
  ·rw [if_neg h2,if_neg (by omega)];split <;> simp [Ib]
theorem Vz (r:AQ) (f:Flock):Gp r f r.strips.length 0=Vp r f:=by
 unfold Gp Vp;exact List.map_congr_left fun j hj=>if_pos (List.mem_range.1 hj)
def EC (r:AQ) (f:Flock) (fr:Nat) (tt:Int):List (List Int):=Cc r (Vp r f) tt 5 fr (0 ||| 1 <<< fr)
def Aab (w:World) (r:AQ) (f:Flock) (fr tt:Int) (e:Ending) (w':World):Prop :=
 Below w.heap.size w w'∧(
 (AZ r f [fr,r.stages,tt,r.stages]=0∧EC r f fr.toNat tt=[]∧e = .returned (.tuple #[.slice none 0 0, .int .i64 0, .int .i64 11])) ∨
 (AZ r f [fr,r.stages,tt,r.stages]=0∧EC r f fr.toNat tt≠[]∧∃ a c,e = .returned (.tuple #[.slice a (JD r (EC r f fr.toNat tt)).length c, .int .i64 (Ij r (JD r (EC r f fr.toNat tt))), .int .i64 0])∧Aq w' a (JD r (EC r f fr.toNat tt))) ∨
 (AZ r f [fr,r.stages,tt,r.stages]≠0∧e = .returned (.tuple #[.slice none 0 0, .int .i64 0, .int .i64 (AZ r f [fr,r.stages,tt,r.stages])])))
theorem TF:∀ s < 6,UZ (0 ||| 1 <<< s)≤5:=by decide +kernel
set_option maxHeartbeats 8000000 in
theorem XN (w:World) (r:AQ) (f:Flock) (a:Option Addr) (cap:Nat) (hs:Eg w a r.strips) (hm:r.strips.length≤maxLen) (fr tt:Int) :
  Calls Try.prog 56 #[.agg #[.int .i64 r.days, .int .i64 r.stages, .slice a r.strips.length cap], .agg #[.int .i64 f.heads, .int .i64 f.pace], .int .i64 fr, .int .i64 tt] w (Aab w r f fr tt):=by
 have hb0:Below w.heap.size w (((w.alloc (.cells #[.int .i64 r.days, .int .i64 r.stages, .slice a r.strips.length cap] 24)).alloc (.cells #[.int .i64 f.heads, .int .i64 f.pace] 87)).alloc (.cells #[.int .i64 fr, .int .i64 r.stages, .int .i64 tt, .int .i64 r.stages] 3)) :=
  (((Below.refl _ _).alloc (Nat.le_refl _) _).alloc (by simp) _).alloc (by simp;omega) _
 have hp:=@Yw ((w.alloc (.cells #[.int .i64 r.days, .int .i64 r.stages, .slice a r.strips.length cap] 24)).alloc (.cells #[.int .i64 f.heads, .int .i64 f.pace] 87)) [fr,r.stages,tt,r.stages];simp only [World.size_alloc] at hp;have HM:=Lib.hid hm;clear hm
 have HO:=Lib.hid (fun (hc:BM r=0)=>(show ∀ i (h:i < [fr,r.stages,tt,r.stages].length),i % 2=1→0≤[fr,r.stages,tt,r.stages][i]∧[fr,r.stages,tt,r.stages][i]≤1000 by
  have:=OG hc;intro i h hi;simp only [List.length_cons,List.length_nil] at h;obtain rfl | rfl:i=1∨i=3:=by omega
  ·show 0≤r.stages∧r.stages≤1000;omega
  ·show 0≤r.stages∧r.stages≤1000;omega))
 go_enter Try.func56,Try.ntmps56
 go_wp2_with fail
 refine (Qr _ r f [fr,r.stages,tt,r.stages] a cap _ 4 (hs.below hb0) HM.out hp (by simp) HO.out).mono ?_;rintro e w1 (⟨hz,b,rfl,hW,hbb,_,hb1⟩ | ⟨hz,rfl,hb1⟩)
 ·obtain ⟨g,hpz⟩:=Oq hz;obtain ⟨⟨p1,p2⟩,p3,p4⟩:=Aah.1 hpz;have hg:=g.s2;have hd1:=g.d1;have hd:=g.d2;have hn8:=g.n8;obtain ⟨k,hk⟩:=Int.eq_ofNat_of_zero_le p1;have Hz:=Lib.hid hz;clear hz hpz;subst hk;have hb01:=hb0.trans (hb1.mono hb0.size);have hmk:=run_make_row' (P:=Try.prog) 132 4 (.bool false) 1 Try.underlying132 WN rfl .i64 .i64 r.strips.length (by omega) (by omega)
  have back:∀ bb oo v,(((w.alloc (.cells #[.int .i64 r.days, .int .i64 r.stages, .slice a r.strips.length cap] 24)).alloc (.cells #[.int .i64 f.heads, .int .i64 f.pace] 87)).alloc (.cells #[.int .i64 k, .int .i64 r.stages, .int .i64 tt, .int .i64 r.stages] 3)).cell? ⟨bb,oo,none⟩=some v→w1.cell? ⟨bb,oo,none⟩=some v:=by
   intro bb oo v hv;exact ((DX hb1).1 _ _ (lt_of_cell hv)).trans hv
  have z0:w1.cell? ⟨w.heap.size,0,none⟩=some (.int .i64 r.days):=back _ _ _ (by simp [go_sem]);have z2:w1.cell? ⟨w.heap.size,2,none⟩=some (.slice a r.strips.length cap):=back _ _ _ (by simp [go_sem]);have hwl:=lt_of_cell z2;clear back hb0 hb1 hp hs;have HW1:=Lib.hid hW;clear hW;have hr0:=CB.made w1 r.strips.length;rw [← Uc r f] at hr0;have hbm:Below w1.heap.size w1 (w1.alloc (.cells (madeCells #[.bool false] r.strips.length) 4)):=Below.alloc (Below.refl _ _) (Nat.le_refl _) _;have Hr0:=Lib.hid hr0;clear hr0
  go_wp2_with fail
  clear hmk;generalize hU:w1.alloc (.cells (madeCells #[.bool false] r.strips.length) 4)=wU at Hr0 hbm;have hzU:wU.heap.size=w1.heap.size+1:=by rw [← hU];simp
  clear hU
  go_loopw [38] (fun v38 wx=>∃ i:Nat,i≤r.strips.length∧v38 = .int .i64 i∧CB wx w1.heap.size (Gp r f i 0)∧Below w1.heap.size w1 wx) (fun v _=>r.strips.length-(intOf v).toNat)
  case atStart=>exact ⟨0,Nat.zero_le _,rfl,Hr0.out,hbm⟩
  case round =>
   clear hbm hzU;obtain ⟨i,hi,rfl,hrow,hbx⟩:=hrel;have Hrow:=Lib.hid hrow;clear hrow
   by_cases hlt:i < r.strips.length
   ·go_wp2_with fail
    go_loopw [14] (fun v14 wx=>∃ d:Nat,(d:Int)≤r.days∧v14 = .int .i64 d∧CB wx w1.heap.size (Gp r f i d)∧Below w1.heap.size w1 wx) (fun v _=>(r.days-intOf v).toNat)
    case atStart=>exact ⟨0,by omega,rfl,Hrow.out,hbx⟩
    case round =>
     clear Hrow hbx;obtain ⟨d,hdd,rfl,hrow,hbx⟩:=hrel;have e0:=((DX hbx).1 _ _ hwl).trans z0;have hul:i < (Gp r f i d).length:=by rw [MC];exact hlt
     have hc:=hrow.cell hul;have hf:=hrow.free i;rw [PW hlt] at hc;have hset:=Vy (r:=r) (f:=f) (i:=i) (d:=d);have hnx:Ib r f i (d+1)=(Ib r f i d || LZ r f (-1) i d):=rfl;have Hset:=Lib.hid hset;clear hset;have Hnx:=Lib.hid hnx;clear hnx;have Hrow:=Lib.hid hrow;clear hrow
     by_cases hld:(d:Int) < r.days
     ·cases hop:Ib r f i d
      ·rw [hop] at hc;have Hop:=Lib.hid hop;clear hop
       go_wp2_with fail
       refine (open_any _ b r f (-1) a cap (HW1.out.below hbx) i hlt d).mono ?_;rintro e w2 ⟨rfl,hb2⟩;have hrow2:=Hrow.out.below hb2;have hc2:=hrow2.cell (j:=i) (by rw [MC];exact hlt);have hf2:=hrow2.free i;rw [PW hlt,Hop.out] at hc2;have Hrow2:=Lib.hid hrow2;clear hrow2;have hbx2:=hbx.trans (hb2.mono hbx.size);clear hc hf e0;generalize hob:LZ r f (-1) i d=ob at Hnx;have Hob:=Lib.hid hob;clear hob
       go_wp2_with fail
       refine ⟨⟨d+1,by omega,by go_num,?_,hbx2.setCell (p:=⟨w1.heap.size,i,none⟩) (Nat.le_refl _) _⟩,by simp [intOf];omega⟩;rw [← Hset.out,Hnx.out,Hop.out];exact Hrow2.out.set i _
      ·rw [hop] at hc;have Hop:=Lib.hid hop;clear hop
       go_wp2_with fail
       refine ⟨⟨d+1,by omega,by go_num,?_,hbx.setCell (p:=⟨w1.heap.size,i,none⟩) (Nat.le_refl _) _⟩,by simp [intOf];omega⟩;rw [← Hset.out,Hnx.out,Hop.out];exact Hrow.out.set i _
     ·go_wp2_with fail
      refine ⟨⟨i+1,by omega,by go_num,?_,hbx⟩,by simp [intOf];omega⟩;rw [← Ud,show r.days.toNat=d by omega];exact Hrow.out
   ·obtain rfl:i=r.strips.length:=by omega
    have HU:Hid (CB wr w1.heap.size (Vp r f)):=Lib.hid (by rw [← Vz];exact Hrow.out);have HWr:=Lib.hid (HW1.out.below hbx);clear Hrow
    go_wp2_with fail
    refine (Tn 0 k (by omega) (by omega) _).mono ?_;rintro e w' ⟨rfl,rfl⟩;have hn1:=UG (s:=k) (by omega);have hn2:=TF k (by omega);generalize hn0:(0 ||| 1 <<< k)=n0 at hn1 hn2;have Hn0:=Lib.hid hn0;clear hn0;have Hn2:=Lib.hid hn2;clear hn2
    go_wp2_with fail
    refine (OJ b r f (-1) a cap g (some ⟨w1.heap.size,0,none⟩) r.strips.length (Vp r f) (by simp [Vp]) tt 5 k n0 wr hn1 p2 Hn2.out (Nat.le_refl _) HWr.out HU.out.bools).mono ?_;rintro e w2 ⟨v,rfl,hown,hb2⟩;have hall:EC r f k tt=Cc r (Vp r f) tt 5 k n0:=by unfold EC;rw [Hn0.out]
    have hci:∀ l∈Cc r (Vp r f) tt 5 k n0,l.length≤100∧∀ x∈l,0≤x∧x < r.strips.length:=fun l hl=>by
     obtain ⟨h1,h2⟩:=J7 5 k n0 l hl;exact ⟨by omega,h2⟩
    have hcl:(Cc r (Vp r f) tt 5 k n0).length≤10000000:=Nat.le_trans (KZ hn8 5 k n0) (by decide);generalize hLg:Cc r (Vp r f) tt 5 k n0=L at hown hall hci hcl;clear hLg;have Hall:=Lib.hid hall;clear hall;have Hci:=Lib.hid hci;clear hci;obtain ⟨ra,rc,hv,hcap,hne,hcells⟩:=hown.form;subst hv;clear hown;have Hcells:=Lib.hid hcells;clear hcells hne;have hb2w:Below w.heap.size w w2:=hb01.trans ((hbx.trans (hb2.mono hbx.size)).mono hb01.size);have HW2:=Lib.hid (HWr.out.below hb2);have G:=Lib.hid g;clear g
    by_cases hL:L.length=0
    ·have hL':((L.length:Int) == 0)=true:=by simp [hL]
     have HL:=Lib.hid hL;clear hL
     go_wp2_with fail
     go_ret3
     exact ⟨hb2w, .inl ⟨Hz.out,by simpa [Hall.out] using HL.out,rfl⟩⟩
    ·have hL':((L.length:Int) == 0)=false:=by simpa using hL
     have HL:=Lib.hid hL;clear hL;have hLn:L≠[]:=fun e=>HL.out (by rw [e];rfl)
     have HLn:=Lib.hid hLn;clear hLn
     go_wp2_with fail
     refine (YV w2 b r f (-1) a cap HW2.out G.out ra rc L HLn.out hcap hcl (fun i hi=>by
      obtain ⟨gR,x,h1,_,h3,h4⟩:=Hcells.out i hi;obtain ⟨la,lc,h5,h6⟩:=h4.ints;exact ⟨gR,x,la,lc,h1,h3,h5,h6⟩) Hci.out).mono ?_
     rintro e w3 ⟨rfl,wa,wc,rfl,hib⟩
     have hbm:JD r L∈L:=by
      have key:∀ (l:List (List Int)) (o:List Int),l.foldl (BP r) o∈o :: l:=by
       intro l
       induction l with
       | nil=>intro o;simp
       | cons y l ih =>
        intro o;rw [List.foldl_cons];rcases List.mem_cons.1 (ih (BP r o y)) with h | h
        ·rw [h];unfold BP;split <;> simp
        ·simp [h]
      cases hLL:L with
      | nil=>exact absurd hLL HLn.out
      | cons x l=>exact key l x
     obtain ⟨m1,m2⟩:=Hci.out _ hbm;generalize hbl:JD r L=bl at hib m1 m2;have Hbl:=Lib.hid hbl;clear hbl hbm;have HIB:=Lib.hid hib;clear hib;have HM2:=Lib.hid m2;clear m2
     go_wp2_with fail
     refine (EN w2 b r f (-1) a cap HW2.out G.out wa wc bl HIB.out HM2.out (by omega)).mono ?_;rintro e w' ⟨rfl,rfl⟩
     go_wp2_with fail
     go_ret3
     refine ⟨hb2w, .inr (.inl ⟨Hz.out,by simpa [Hall.out] using HLn.out,wa,wc,?_,?_⟩)⟩
     ·simp only [Int.toNat_natCast,Hall.out,Hbl.out];rfl
     ·simp only [Int.toNat_natCast,Hall.out,Hbl.out];exact HIB.out
 ·have hne:(AZ r f [fr,r.stages,tt,r.stages] != 0)=true:=by simpa using hz
  have Hz:=Lib.hid hz;clear hz
  go_wp2_with fail
  go_ret3
  exact ⟨hb0.trans (hb1.mono hb0.size), .inr (.inr ⟨Hz.out,rfl⟩)⟩
end
section
open Go.RowKit
theorem Qd:∀ n:Nat,Je (fun _=>0) n=0
 | 0=>rfl
 | n+1=>by show Je _ n+0=0;rw [Qd n];rfl
theorem Xm {t:Ae} (h:t.Ah=[]) (a:Int) (w:List Int):L8 t a w=0:=by
 unfold L8;have e:∀ l o,Jn t l o=0:=fun l o=>by unfold Jn OE;rw [h];rfl
 have:Jn t (Ci t a w).1=fun _=>0:=funext fun o=>e _ o
 rw [this];exact Qd _
theorem Hy (rec:Int→Nat→List (List Int)) (r:AQ) (use:List Bool) (met:Nat) (p:Int):∀ m:Nat,BB rec r use met p m=(List.range m).flatMap fun k=>match chainOf r use met p k with | some q=>(rec q (met ||| 1 <<< q.toNat)).map ((k:Int) :: ·) | none=>[]
 | 0=>rfl
 | m+1=>by rw [BB,Hy rec r use met p m,List.range_succ,List.flatMap_append];simp only [List.flatMap_cons,List.flatMap_nil,List.append_nil];cases chainOf r use met p m <;> rfl
theorem Zn (m q s:Nat):(m ||| 1 <<< q).testBit s=(m.testBit s || decide (q=s)):=by
 rw [Nat.testBit_or]
 congr 1
 rw [Nat.one_shiftLeft,Nat.testBit_two_pow]
theorem WW {α β:Type} {f g:α→List β}:∀ {l:List α},(∀ k∈l,f k=g k)→l.flatMap f=l.flatMap g
 | [],_=>rfl
 | k :: l,h=>by rw [List.flatMap_cons,List.flatMap_cons,h k (by simp),WW fun x hx=>h x (by simp [hx])]
def XT (met:Nat) (st:List Int):Prop:=met < 64∧∀ s:Nat,s < 6→(met.testBit s=true↔(s:Int)∈st)
theorem XT.add {met q:Nat} {st:List Int} (h:XT met st) (hq:q < 6) (hn:met.testBit q=false):XT (met ||| 1 <<< q) (st++[(q:Int)]):=by
 refine ⟨(Ja met h.1 q hq hn).2,fun s hs =>?_⟩;rw [Zn,Bool.or_eq_true,h.2 s hs,List.mem_append,List.mem_singleton,decide_eq_true_eq]
 constructor
 ·rintro (h1 | h1)
  ·exact .inl h1
  ·exact .inr (by omega)
 ·rintro (h1 | h1)
  ·exact .inl h1
  ·exact .inr (by omega)
theorem Sz {s:Strip} {p:Int} (hA:0≤s.A) (hB:0≤s.B):((endOf s p).2=true→Io s p=(endOf s p).1)∧((endOf s p).2=false→Io s p < 0)∧((endOf s p).2=true→0≤(endOf s p).1):=by
 unfold endOf Io
 by_cases c1:p=s.A
 ·rw [if_pos c1,if_pos c1];exact ⟨fun _=>rfl,fun h=>(by cases h),fun _=>hB⟩
 ·by_cases c2:p=s.B
  ·rw [if_neg c1,if_pos c2,if_neg c1,if_pos c2];exact ⟨fun _=>rfl,fun h=>(by cases h),fun _=>hA⟩
  ·rw [if_neg c1,if_neg c2,if_neg c1,if_neg c2];exact ⟨fun h=>(by cases h),fun _=>(by omega),fun h=>(by cases h)⟩
theorem WQ {t:Ae} {op:List Bool} {from_ to_:Int} (hs:∀ s∈t.roads.strips,0≤s.A∧s.A < 6∧0≤s.B∧s.B < 6):∀ (n d e:Nat) (st wy:List Int) (lg:Int) (met:Nat),XT met st→UZ met≤n→n < d→n≤e →
  (Ik t op from_ to_ d st wy lg).map BF.way=(Cc t.roads op to_ e (st.getLastD 0) met).map (wy++·):=by
 intro n
 induction n with
 | zero =>
  intro d e st wy lg met hM hn hd he;obtain ⟨d,rfl⟩:∃ d',d=d'+1:=⟨d-1,by omega⟩
  have key:∀ rec,t.roads.strips.length=t.roads.strips.length→BB rec t.roads op met (st.getLastD 0) t.roads.strips.length=[]:=fun rec _=>by
   rw [Hy,List.flatMap_eq_nil_iff];intro k hk
   cases hc:chainOf t.roads op met (st.getLastD 0) k with
   | none=>rfl
   | some q =>
    obtain ⟨s,h1,h2,h3,h4,h5⟩:=IJ.1 hc;have hm:=hs s (List.mem_of_getElem? h1);have hb:=Sz (p:=st.getLastD 0) hm.1 hm.2.2.1
    have hq:q.toNat < 6:=by
     rw [h5];unfold endOf at h2 ⊢
     split at h2
     ·rename_i c;rw [if_pos c];dsimp only;omega
     ·rename_i c
      split at h2
      ·rename_i c2;rw [if_neg c,if_pos c2];dsimp only;omega
      ·simp at h2
    have:=(Ja met hM.1 q.toNat hq (by rw [h5];exact h4)).1
    omega
  have key2:st.getLastD 0≠to_→(Ik t op from_ to_ (d+1) st wy lg)=[]:=fun hne=>by
   rw [Ik,if_neg hne,List.flatMap_eq_nil_iff];intro k hk;rw [List.mem_range] at hk;refine if_pos ?_;have hm:=hs t.roads.strips[k] (List.getElem_mem hk);have eg:t.roads.strips.getD k default=t.roads.strips[k]:=by simp [List.getD_eq_getElem?_getD,hk]
   rw [eg];have hb:=Sz (p:=st.getLastD 0) hm.1 hm.2.2.1
   cases h2:(endOf t.roads.strips[k] (st.getLastD 0)).2 with
   | false=>exact .inl (hb.2.1 h2)
   | true =>
    refine .inr ?_
    cases h3:op.getD k false with
    | false=>exact .inl rfl
    | true =>
     refine .inr ?_;rw [hb.1 h2];have h0:=hb.2.2 h2
     have hq:(endOf t.roads.strips[k] (st.getLastD 0)).1.toNat < 6:=by
      unfold endOf at h2 ⊢
      split at h2
      ·rename_i c;rw [if_pos c];dsimp only;omega
      ·rename_i c
       split at h2
       ·rename_i c2;rw [if_neg c,if_pos c2];dsimp only;omega
       ·simp at h2
     refine Classical.byContradiction fun hn2 =>?_
     have hbit:met.testBit (endOf t.roads.strips[k] (st.getLastD 0)).1.toNat=false:=by
      cases hx:met.testBit (endOf t.roads.strips[k] (st.getLastD 0)).1.toNat with
      | false=>rfl
      | true =>
       have:=(hM.2 _ hq).1 hx;rw [Int.toNat_of_nonneg h0] at this;exact absurd this hn2
     have:=(Ja met hM.1 _ hq hbit).1
     omega
  by_cases hto:st.getLastD 0=to_
  ·rw [Ik,if_pos hto]
   cases e <;> (rw [Cc,if_pos hto];simp)
  ·rw [key2 hto]
   cases e <;> (rw [Cc,if_neg hto,key _ rfl];rfl)
 | succ n ih =>
  intro d e st wy lg met hM hn hd he;obtain ⟨d,rfl⟩:∃ d',d=d'+1:=⟨d-1,by omega⟩;obtain ⟨e,rfl⟩:∃ e',e=e'+1:=⟨e-1,by omega⟩
  by_cases hto:st.getLastD 0=to_
  ·rw [Ik,if_pos hto,Cc,if_pos hto];simp
  ·rw [Ik,if_neg hto,Cc,if_neg hto,Hy,List.map_flatMap,List.map_flatMap];refine WW fun k hk =>?_
   rw [List.mem_range] at hk;have hm:=hs t.roads.strips[k] (List.getElem_mem hk);have eg:t.roads.strips.getD k default=t.roads.strips[k]:=by simp [List.getD_eq_getElem?_getD,hk]
   rw [eg];have hb:=Sz (p:=st.getLastD 0) hm.1 hm.2.2.1;have hgk:t.roads.strips[k]? = some t.roads.strips[k]:=List.getElem?_eq_getElem hk
   cases h2:(endOf t.roads.strips[k] (st.getLastD 0)).2 with
   | false =>
    rw [if_pos (.inl (hb.2.1 h2))];have:chainOf t.roads op met (st.getLastD 0) k=none:=by unfold chainOf;rw [hgk];simp only [h2];rfl
    rw [this];rfl
   | true =>
    have h0:=hb.2.2 h2
    have hq:(endOf t.roads.strips[k] (st.getLastD 0)).1.toNat < 6:=by
     unfold endOf at h2 ⊢
     split at h2
     ·rename_i c;rw [if_pos c];dsimp only;omega
     ·rename_i c
      split at h2
      ·rename_i c2;rw [if_neg c,if_pos c2];dsimp only;omega
      ·simp at h2
    rw [hb.1 h2]
    cases h3:op.getD k false with
    | false =>
     rw [if_pos (.inr (.inl rfl))];have:chainOf t.roads op met (st.getLastD 0) k=none:=by unfold chainOf;rw [hgk];simp only [h2,h3];rfl
     rw [this];rfl
    | true =>
     cases hx:met.testBit (endOf t.roads.strips[k] (st.getLastD 0)).1.toNat with
     | true =>
      have h4:=(hM.2 _ hq).1 hx;rw [Int.toNat_of_nonneg h0] at h4;rw [if_pos (.inr (.inr h4))];have:chainOf t.roads op met (st.getLastD 0) k=none:=by unfold chainOf;rw [hgk];simp only [h2,h3,hx];rfl
      rw [this];rfl
     | false =>
      have h4:¬ (endOf t.roads.strips[k] (st.getLastD 0)).1∈st:=fun hmem=>by
       have:=(hM.2 _ hq).2 (by rw [Int.toNat_of_nonneg h0];exact hmem);rw [hx] at this;cases this
      rw [if_neg (by rintro (h | h | h);omega;(exact absurd h (by simp));(exact h4 h))];have hc:chainOf t.roads op met (st.getLastD 0) k=some (endOf t.roads.strips[k] (st.getLastD 0)).1:=IJ.2 ⟨_,hgk,h2,h3,hx,rfl⟩;rw [hc]
      dsimp only
      have hM2:=hM.add hq hx;have hf:=(Ja met hM.1 _ hq hx).1;rw [Int.toNat_of_nonneg h0] at hM2;have:=ih d e (st++[(endOf t.roads.strips[k] (st.getLastD 0)).1]) (wy++[(k:Int)]) (lg+t.roads.strips[k].L) _ hM2 (by omega) (by omega) (by omega);rw [this];simp [List.map_map,Function.comp_def]
theorem J8 {rec:Int→Nat→List (List Int)} {r:AQ} {use:List Bool} {met:Nat} {p:Int}:∀ {m:Nat} {x:List Int},x∈BB rec r use met p m→∃ (k:Nat) (a:List Int),k < m∧x=(k:Int) :: a
 | 0,x,h=>by simp [BB] at h
 | m+1,x,h=>by
  rw [BB] at h;rcases List.mem_append.1 h with h | h
  ·obtain ⟨k,a,h1,h2⟩:=J8 h;exact ⟨k,a,by omega,h2⟩
  ·cases hc:chainOf r use met p m with
   | none=>rw [hc] at h;simp at h
   | some q =>
    rw [hc] at h;obtain ⟨a,_,rfl⟩:=List.mem_map.1 h;exact ⟨m,a,by omega,rfl⟩
theorem Xq (k:Int) (a b:List Int):IE (k :: a) (k :: b)=IE a b:=by
 have:Hw k k=0:=by unfold Hw;rw [if_neg (by omega),if_neg (by omega)]
 rw [IE,if_neg (by rw [this];simp)]
theorem ZY {j k:Int} (h:j < k) (a b:List Int):IE (k :: a) (j :: b)=1:=by
 have:Hw k j=1:=by unfold Hw;rw [if_neg (by omega),if_pos h]
 rw [IE,if_pos (by rw [this];simp),this]
theorem FO {rec:Int→Nat→List (List Int)} {r:AQ} {use:List Bool} {met:Nat} {p:Int} (hr:∀ q m',(rec q m').Pairwise fun a b=>IE b a=1):∀ m:Nat,(BB rec r use met p m).Pairwise fun a b=>IE b a=1
 | 0=>by simp [BB]
 | m+1=>by
  rw [BB,List.pairwise_append];refine ⟨FO hr m,?_,?_⟩
  ·cases hc:chainOf r use met p m with
   | none=>exact List.Pairwise.nil
   | some q =>
    dsimp only
    rw [List.pairwise_map];exact (hr q _).imp fun h=>by rw [Xq];exact h
  ·intro a ha b hb;obtain ⟨k,a',h1,rfl⟩:=J8 ha
   cases hc:chainOf r use met p m with
   | none=>rw [hc] at hb;simp at hb
   | some q =>
    rw [hc] at hb;obtain ⟨b',_,rfl⟩:=List.mem_map.1 hb;exact ZY (by omega) _ _
theorem Jo (r:AQ) (use:List Bool) (tt:Int):∀ (e:Nat) (p:Int) (met:Nat),(Cc r use tt e p met).Pairwise fun a b=>IE b a=1
 | 0,p,met=>by
  rw [Cc];split
  ·simp
  ·exact FO (fun _ _=>List.Pairwise.nil) _
 | e+1,p,met=>by
  rw [Cc];split
  ·simp
  ·exact FO (fun q m'=>Jo r use tt e q m') _
def Tc (r:AQ) (c:BF):Prop:=c.coins=0∧c.leagues=Ij r c.way
theorem Xr {r:AQ} {x b:BF} (hx:Tc r x) (hb:Tc r b) (hl:IE x.way b.way=1):decide (Va x b < 0)=IZ r x.way b.way:=by
 unfold Va;rw [hx.1,hb.1,hx.2,hb.2,hl];unfold IZ;simp only [orV];unfold Hw
 by_cases c1:Ij r x.way < Ij r b.way
 ·simp [c1]
 ·by_cases c2:Ij r b.way < Ij r x.way
  ·have:¬ Ij r x.way=Ij r b.way:=by omega
   simp [c1,c2,this]
  ·have e:Ij r x.way=Ij r b.way:=by omega
   by_cases c3:(x.way.length:Int) < (b.way.length:Int)
   ·have:x.way.length < b.way.length:=by omega
    simp [e,this]
   ·by_cases c4:(b.way.length:Int) < (x.way.length:Int)
    ·have h5:¬ x.way.length < b.way.length:=by omega
     have h6:b.way.length < x.way.length:=by omega
     simp [e,h5,h6]
    ·have h5:¬ x.way.length < b.way.length:=by omega
     have h6:¬ b.way.length < x.way.length:=by omega
     simp [e,h5,h6]
theorem Nv {r:AQ}:∀ (L:List BF) (b:BF),Tc r b→(∀ x∈L,Tc r x)→(∀ x∈L,IE x.way b.way=1)→(L.Pairwise fun a b=>IE b.way a.way=1)→(L.foldl NK (some b)).map BF.way=some ((L.map BF.way).foldl (BP r) b.way)
 | [],b,_,_,_,_=>rfl
 | x :: L,b,hb,hL,hl,hp=>by
  have hx:=hL x (by simp);have hc:=Xr hx hb (hl x (by simp));have hp2:=List.pairwise_cons.1 hp;simp only [List.foldl_cons,List.map_cons];have e:NK (some b) x=some (if Va x b < 0 then x else b):=by unfold NK;dsimp only;split <;> rfl
  rw [e]
  by_cases c:Va x b < 0
  ·rw [if_pos c,Nv L x hx (fun y hy=>hL y (by simp [hy])) hp2.1 hp2.2];have:BP r b.way x.way=x.way:=by unfold BP;rw [← hc];simp [c]
   rw [this]
  ·rw [if_neg c,Nv L b hb (fun y hy=>hL y (by simp [hy])) (fun y hy=>hl y (by simp [hy])) hp2.2];have:BP r b.way x.way=b.way:=by unfold BP;rw [← hc];simp [c]
   rw [this]
theorem Xz {r:AQ} {L:List BF} (hL:∀ x∈L,Tc r x) (hp:(L.map BF.way).Pairwise fun a b=>IE b a=1):(SL L).map BF.way=if L.map BF.way=[] then none else some (JD r (L.map BF.way)):=by
 cases L with
 | nil=>rfl
 | cons x L =>
  rw [if_neg (by simp)];have hp2:=List.pairwise_cons.1 (List.pairwise_map.1 hp);exact Nv L x (hL x (by simp)) (fun y hy=>hL y (by simp [hy])) hp2.1 hp2.2
theorem QC (r:AQ) (w:List Int) (k:Int):∀ m:Nat,m≤w.length→Gx r (w++[k]) m=Gx r w m
 | 0,_=>rfl
 | m+1,h=>by
  rw [Gx,Gx,QC r w k m (by omega)];have:(w++[k]).getD m 0=w.getD m 0:=by simp [List.getD_eq_getElem?_getD,List.getElem?_append_left (show m < w.length by omega)]
  rw [this]
theorem WE (r:AQ) (w:List Int) (k:Int):Ij r (w++[k])=Ij r w+MX r k:=by
 unfold Ij;rw [List.length_append,List.length_singleton,Gx,QC r w k _ (Nat.le_refl _)];have:(w++[k]).getD w.length 0=k:=by simp [List.getD_eq_getElem?_getD]
 rw [this]
theorem QJ {t:Ae} (h0:t.Ah=[]) {op:List Bool} {from_ to_:Int}:∀ (d:Nat) (st wy:List Int) (lg:Int),lg=Ij t.roads wy→∀ c∈Ik t op from_ to_ d st wy lg,Tc t.roads c
 | 0,_,_,_,_,c,hc=>by simp [Ik] at hc
 | d+1,st,wy,lg,hl,c,hc=>by
  rw [Ik] at hc
  split at hc
  ·rw [List.mem_singleton.1 hc];exact ⟨Xm h0 _ _,hl⟩
  ·obtain ⟨k,hk,hc⟩:=List.mem_flatMap.1 hc
   split at hc
   ·simp at hc
   ·refine QJ h0 d _ _ _ ?_ c hc;rw [WE,hl];rw [List.mem_range] at hk;unfold MX;simp [List.getD_eq_getElem?_getD,hk]
theorem TJ {t:Ae} (hT:Ap t=0):DW (Bi t)=0:=by
 obtain ⟨_,h1,h2,_,_,_,h3,_⟩:=AU hT;unfold DW Bi;rw [Ai.2 h3,Ai.2 ⟨h1,h2⟩]
 rfl
theorem TD {t:Ae} (hT:Ap t=0):Good t.roads (Bi t):=TE.2 ⟨(AU hT).1,TJ hT⟩
theorem ML {t:Ae} (hT:Ap t=0) (l:List Int):AZ t.roads (Bi t) l=Cb l:=by
 have h1:=(AU hT).1;unfold AZ;rw [h1,TJ hT]
 rfl
theorem ready_one {t:Ae} (hT:Ap t=0) {k:Nat} (hk:k < t.roads.strips.length):AZ t.roads (Bi t) [(k:Int),t.roads.strips.length]=0:=by
 rw [ML hT];simp only [Cb];rw [if_pos (Ai.2 (by omega))]
theorem VY {t:Ae} (hT:Ap t=0) {a b:Int} (ha:0≤a∧a < t.roads.stages) (hb:0≤b∧b < t.roads.stages):AZ t.roads (Bi t) [a,t.roads.stages,b,t.roads.stages]=0:=by
 rw [ML hT];simp only [Cb];rw [if_pos (Ai.2 (by omega)),if_pos (Ai.2 (by omega))]
theorem QN (r:AQ) (f:Flock) (i:Nat):∀ d:Nat,decide (0 < (FN r f i d).length)=Ib r f i d
 | 0=>rfl
 | d+1=>by
  have:=QN r f i d;rw [FN,Ib,← this,List.length_append]
  by_cases c:LZ r f (-1) i (d:Int)=true
  ·rw [if_pos c,c];simp
  ·rw [if_neg c];have c2:LZ r f (-1) i (d:Int)=false:=by simpa using c
   rw [c2];simp
theorem Yi {t:Ae} (hT:Ap t=0):MQ t=Vp t.roads (Bi t):=by
 unfold MQ Vp;refine List.map_congr_left fun k hk =>?_
 rw [List.mem_range] at hk;unfold Ox Ho;rw [if_pos (ready_one hT hk)];exact QN _ _ _ _
theorem QI {ps:List BA} {k:Nat} (h:k < ps.length):Ak (ps.take k)+ps[k].heads=Ak (ps.take (k+1)):=by
 have e:∀ (l:List BA) (p:BA),Ak (l++[p])=Ak l+p.heads:=fun l p=>by
  induction l with
  | nil=>simp [Ak]
  | cons q l ih=>simp only [List.cons_append,Ak,ih];omega
 rw [List.take_succ_eq_append_getElem h,e]
theorem UY:∀ s < 6,UZ (0 ||| 1 <<< s)≤5:=TF
theorem WA {a:Nat} (ha:a < 6):XT (0 ||| 1 <<< a) [(a:Int)]:=by
 refine ⟨?_,fun s hs =>?_⟩
 ·have:∀ s < 6,(0 ||| 1 <<< s) < 64:=by decide
  exact this a ha
 ·rw [Zn,Nat.zero_testBit,Bool.false_or,decide_eq_true_eq,List.mem_singleton];omega
theorem SG {t:Ae} (hT:Ap t=0) {a:Nat} (ha:(a:Int) < t.roads.stages) (b:Int):(Fb t (a:Int) b).map BF.way=EC t.roads (Bi t) a b:=by
 have h6:=(Eh (AU hT).1).2.1;have hs:=QQ hT;unfold Fb EC;rw [WQ (fun s hm=>by have:=hs s hm;omega) 5 7 5 [(a:Int)] [] 0 _ (WA (by omega)) (UY a (by omega)) (by omega) (by omega),Yi hT];simp
theorem WU (L:List BF):∀ (o:Option BF) {x:BF},L.foldl NK o=some x→x∈L∨o=some x:=by
 induction L with
 | nil=>intro o x h;exact .inr h
 | cons y L ih =>
  intro o x h;rcases ih _ h with h1 | h1
  ·exact .inl (by simp [h1])
  ·cases o with
   | none =>
    simp only [NK,Option.some.injEq] at h1;exact .inl (by simp [h1])
   | some b =>
    simp only [NK] at h1
    split at h1
    ·simp only [Option.some.injEq] at h1;exact .inl (by simp [h1])
    ·exact .inr h1
theorem XB {L:List BF} {x:BF} (h:SL L=some x):x∈L:=(WU L none h).resolve_right (by simp)
theorem Yo {t:Ae} (hT:Ap t=0) (h0:t.Ah=[]) {a:Nat} (ha:(a:Int) < t.roads.stages) {b:Int}:(XV t (a:Int) b (-1)=none∧EC t.roads (Bi t) a b=[])∨∃ c,XV t (a:Int) b (-1)=some c∧c.coins=0∧EC t.roads (Bi t) a b≠[]∧c.way=JD t.roads (EC t.roads (Bi t) a b):=by
 have hk:(Fb t (a:Int) b).filter (JV (-1))=Fb t (a:Int) b:=List.filter_eq_self.2 fun c _=>by simp [JV]
 have hf:∀ c∈Fb t (a:Int) b,Tc t.roads c:=fun c hc=>QJ h0 _ _ _ _ rfl c hc
 have hw:=SG hT ha b;have hp:((Fb t (a:Int) b).map BF.way).Pairwise fun a b=>IE b a=1:=by rw [hw];exact Jo _ _ _ _ _ _
 have hb:=Xz hf hp;rw [hw] at hb;unfold XV;rw [hk]
 by_cases c:EC t.roads (Bi t) a b=[]
 ·left
  rw [if_pos c] at hb;exact ⟨by simpa using hb,c⟩
 ·right
  rw [if_neg c] at hb;obtain ⟨x,hx,hxw⟩:=Option.map_eq_some_iff.1 hb;refine ⟨x,hx,?_,c,hxw⟩;have hm:x∈Fb t (a:Int) b:=XB hx;exact (hf x hm).1
end
section
open Go.RowKit
structure AX (w:World) (hb B:Nat) (a:Option Addr) (n c:Nat):Prop where
 c0:w.cell? ⟨hb,0,none⟩=some (.slice a n c)
 c1:∃ k:Nat,k≤B∧w.cell? ⟨hb,1,none⟩=some (.int .i64 k)
 c2:∃ s:Int,0≤s∧s < 18446744073709551616∧w.cell? ⟨hb,2,none⟩=some (.int .u64 s)
 f1:w.frozen? ⟨hb,1,none⟩=false
 f2:w.frozen? ⟨hb,2,none⟩=false
 nums:∃ l:List Int,l.length=n∧Aq w a l∧(l=[]∨∀ ad,a=some ad→ad.block < hb)
 len:n≤maxLen
theorem JG (a b:Int):0≤bits .xor .u64 a b∧bits .xor .u64 a b < 18446744073709551616:=by
 show 0≤IntKind.u64.wrap _∧IntKind.u64.wrap _ < _;rw [IntKind.wrap_u64];omega
theorem J6 {a:Int} (h:0≤a∧a < 18446744073709551616):0≤a / 2048∧a / 2048≤9007199254740991:=by omega
theorem IX (a:Int):0≤IntKind.u64.wrap a∧IntKind.u64.wrap a < 18446744073709551616:=by rw [IntKind.wrap_u64];omega
theorem AX.QA {w w':World} {hb:Nat} {a:Option Addr} {n:Nat} (h:∃ l:List Int,l.length=n∧Aq w a l∧(l=[]∨∀ ad,a=some ad→ad.block < hb)) (hk:∀ b,b < w.heap.size→b < hb→w'.heap[b]? = w.heap[b]?) :
  ∃ l:List Int,l.length=n∧Aq w' a l∧(l=[]∨∀ ad,a=some ad→ad.block < hb):=by
 obtain ⟨l,h1,h2,h3⟩:=h;refine ⟨l,h1,?_,h3⟩;rcases h3 with h3 | h3
 ·exact .inl h3
 rcases h2 with h2 | ⟨b,o,ha,hc⟩
 ·exact .inl h2
 ·have hlt:=h3 _ ha;exact .inr ⟨b,o,ha,fun i hi=>(World.cell?_of_block (hk b (lt_of_cell (hc i hi)) hlt)).trans (hc i hi)⟩
theorem AX.keep {w w':World} {hb B:Nat} {a:Option Addr} {n c:Nat} (h:AX w hb B a n c) (hk:∀ b,b < w.heap.size→b≤hb→w'.heap[b]? = w.heap[b]?):AX w' hb B a n c:=by
 obtain ⟨c0,⟨k,hk1,c1⟩,⟨s,s1,s2,c2⟩,f1,f2,hnums,hn⟩:=h;have e:=hk hb (lt_of_cell c0) (Nat.le_refl _)
 exact ⟨(World.cell?_of_block e).trans c0,⟨k,hk1,(World.cell?_of_block e).trans c1⟩,⟨s,s1,s2,(World.cell?_of_block e).trans c2⟩,(World.frozen?_of_block e).trans f1,(World.frozen?_of_block e).trans f2,
  AX.QA hnums fun b h1 h2=>hk b h1 (by omega),hn⟩
theorem AX.below {w w':World} {hb B:Nat} {a:Option Addr} {n c:Nat} (h:AX w hb B a n c) (hb':Below w.heap.size w w'):AX w' hb B a n c:=h.keep fun b h1 _=>hb'.block b h1
theorem AX.more {w:World} {hb B B':Nat} {a:Option Addr} {n c:Nat} (h:AX w hb B a n c) (hB:B≤B'):AX w hb B' a n c :=
 ⟨h.c0,let ⟨k,hk,c1⟩:=h.c1;⟨k,by omega,c1⟩,h.c2,h.f1,h.f2,h.nums,h.len⟩
theorem AX.lt {w:World} {hb B:Nat} {a:Option Addr} {n c:Nat} (h:AX w hb B a n c):hb < w.heap.size:=lt_of_cell h.c0
def XU (w:World) (hb B:Nat) (a:Option Addr) (n c:Nat) (P:Value→Prop) (e:Ending) (w':World):Prop:=∃ v,P v∧e = .returned v∧AX w' hb B a n c∧Ext hb w w'
theorem MZ {w:World} {hb B:Nat} {a:Option Addr} {n c k:Nat} (h:AX w hb B a n c) (hk:k≤B) (q:Nat) (s:Int) (h1:0≤s) (h2:s < 18446744073709551616) :
  AX (((w.drewN q).setCell ⟨hb,1,none⟩ (.int .i64 ((k:Int)+1))).setCell ⟨hb,2,none⟩ (.int .u64 s)) hb (B+1) a n c∧Ext hb w (((w.drewN q).setCell ⟨hb,1,none⟩ (.int .i64 ((k:Int)+1))).setCell ⟨hb,2,none⟩ (.int .u64 s)):=by
 obtain ⟨c0,⟨k',hk',c1⟩,⟨s',_,_,c2⟩,f1,f2,hnums,hn⟩:=h
 have ho:∀ b,b≠hb→(((w.drewN q).setCell ⟨hb,1,none⟩ (.int .i64 ((k:Int)+1))).setCell ⟨hb,2,none⟩ (.int .u64 s)).heap[b]? = w.heap[b]?:=fun b hne=>by
  rw [Below.heap_setCell _ ⟨hb,2,none⟩ _ b hne,Below.heap_setCell _ ⟨hb,1,none⟩ _ b hne];simp
 refine ⟨⟨?_,⟨k+1,by omega,?_⟩,⟨s,h1,h2,?_⟩,?_,?_,AX.QA hnums fun b _ hb'=>ho b (by omega),hn⟩,⟨(below_drewN (Below.refl 0 w) q).os,(below_drewN (Below.refl 0 w) q).tape,(below_drewN (Below.refl 0 w) q).output,by simp,fun b _ hne=>ho b hne⟩⟩
 ·rw [World.cell?_setCell_other _ _ _ _ (by simp),World.cell?_setCell_other _ _ _ _ (by simp)];simpa using c0
 ·rw [World.cell?_setCell_other _ _ _ _ (by simp)];exact World.cell?_setCell_same _ _ _ (u := .int .i64 k') (by simpa using c1)
 ·exact World.cell?_setCell_same _ _ _ (u := .int .u64 s') (by rw [World.cell?_setCell_other _ _ _ _ (by simp)];simpa using c2)
 ·rw [World.frozen?_setCell,World.frozen?_setCell];simpa using f1
 ·rw [World.frozen?_setCell,World.frozen?_setCell];simpa using f2
theorem Yd (w:World) (hb B:Nat) (a:Option Addr) (n c:Nat) (h:AX w hb B a n c) (hB:B≤1000000) :
  Calls Try.prog 62 #[.pointer (some ⟨hb,0,none⟩)] w (XU w hb (B+1) a n c fun v=>∃ x:Int,0≤x∧x≤9007199254740991∧v = .int .u64 x):=by
 have H:=Lib.hid h;obtain ⟨c0,⟨k,hk,c1⟩,⟨s,s1,s2,c2⟩,f1,f2,hnums,hn⟩:=h;have HN:=Lib.hid hnums;clear hnums;unfold maxLen at hn
 by_cases hlt:k < n
 ·obtain ⟨l,hl1,hl2,hl3⟩:=HN.out;have hlt':decide ((k:Int) < (n:Int))=true:=decide_eq_true (by omega);have hkl:k < l.length:=by omega
  rcases hl2 with hz | ⟨b,o,rfl,hc⟩
  ·rw [hz] at hkl;simp at hkl
  have hx:=hc k hkl;generalize l[k]=x at hx;have q1:(0:Int)≤(k:Int):=by omega
  have q2:(k:Int) < (n:Int):=by omega
  clear hl1 hl3 hkl hc
  go_enter Try.func62,Try.ntmps62
  go_wp2_with fail
  go_quiet (fail)
  go_wp2_with fail
  go_quiet (fail)
  go_wp2_with fail
  go_ret
  obtain ⟨h1,h2⟩:=MZ H.out hk _ _ (IX _).1 (IX _).2;exact ⟨_,⟨_,(J6 (JG _ _)).1,(J6 (JG _ _)).2,rfl⟩,rfl,h1,h2⟩
 ·have hlt':decide ((k:Int) < (n:Int))=false:=decide_eq_false (by omega)
  go_enter Try.func62,Try.ntmps62
  go_wp2_with fail
  go_quiet (fail)
  go_wp2_with fail
  go_ret
  obtain ⟨h1,h2⟩:=MZ H.out hk _ _ (IX _).1 (IX _).2;exact ⟨_,⟨_,(J6 (JG _ _)).1,(J6 (JG _ _)).2,rfl⟩,rfl,h1,h2⟩
set_option maxHeartbeats 2000000 in
theorem Dl (w:World) (hb B:Nat) (a:Option Addr) (n c:Nat) (h:AX w hb B a n c) (hB:B≤1000000) (most:Int) (hm1 : -1000000≤most) (hm2:most≤1000000) :
  Calls Try.prog 21 #[.pointer (some ⟨hb,0,none⟩), .int .i64 most] w (XU w hb (B+1) a n c fun v=>∃ x:Int,0≤x∧x≤max most 0∧v = .int .i64 x):=by
 have H:=Lib.hid h;clear h
 by_cases hm:most≤0
 ·go_enter Try.func21,Try.ntmps21
  go_wp2_with fail
  go_ret
  exact ⟨_,⟨0,by omega,by omega,rfl⟩,rfl,H.out.more (by omega),Ext.refl _ _⟩
 ·go_enter Try.func21,Try.ntmps21
  go_wp2_with fail
  refine (Yd w hb B a n c H.out hB).mono ?_;rintro e w1 ⟨_,⟨x,x1,x2,rfl⟩,rfl,hh,hE⟩;have HH:=Lib.hid hh;clear hh;have HE:=Lib.hid hE;clear hE
  go_wp2_with fail
  go_ret
  have r1:0≤x % (most+1):=Int.emod_nonneg _ (by omega);have r2:x % (most+1) < most+1:=Int.emod_lt_of_pos _ (by omega);exact ⟨_,⟨wrap64 (x % (most+1)),by unfold wrap64;omega,by unfold wrap64;omega,rfl⟩,rfl,HH.out,HE.out⟩
set_option maxHeartbeats 2000000 in
theorem Du (w:World) (hb B:Nat) (a:Option Addr) (n c:Nat) (h:AX w hb B a n c) (hB:B≤1000000) (least most:Int) (h1 : -1000≤least) (h2:least≤1000) (h3 : -1000≤most) (h4:most≤1000) :
  Calls Try.prog 44 #[.pointer (some ⟨hb,0,none⟩), .int .i64 least, .int .i64 most] w (XU w hb (B+1) a n c fun v=>∃ x:Int,least≤x∧x≤max most least∧v = .int .i64 x):=by
 have H:=Lib.hid h;clear h
 go_enter Try.func44,Try.ntmps44
 go_wp2_with fail
 refine (Dl w hb B a n c H.out hB (most-least) (by omega) (by omega)).mono ?_;rintro e w1 ⟨_,⟨x,x1,x2,rfl⟩,rfl,hh,hE⟩;have HH:=Lib.hid hh;clear hh;have HE:=Lib.hid hE;clear hE;have x3:x≤2000:=by omega
 go_wp2_with fail
 go_ret
 exact ⟨_,⟨least+x,by omega,by omega,rfl⟩,rfl,HH.out,HE.out⟩
set_option maxHeartbeats 2000000 in
theorem LY (w:World) (hb B:Nat) (a:Option Addr) (n c:Nat) (h:AX w hb B a n c) (hB:B≤1000000) (first:Int) (oa:Option Addr) (oc:Nat) (l:List Int) (hl:Aq w oa l) (ho:∀ ad,oa=some ad→ad.block≠hb) (hlen:l.length≤100) :
  Calls Try.prog 60 #[.pointer (some ⟨hb,0,none⟩), .int .i64 first, .slice oa l.length oc] w (XU w hb (B+1) a n c fun v=>∃ x:Int,x∈first :: l∧v = .int .i64 x):=by
 have H:=Lib.hid h;clear h;have HL:=Lib.hid hl;clear hl;have HO:=Lib.hid ho;clear ho
 go_enter Try.func60,Try.ntmps60
 go_wp2_with fail
 refine (Dl w hb B a n c H.out hB l.length (by omega) (by omega)).mono ?_;rintro e w1 ⟨_,⟨x,x1,x2,rfl⟩,rfl,hh,hE⟩;have HH:=Lib.hid hh;clear hh
 by_cases hx:0 < x
 ·obtain ⟨k,hk⟩:∃ k:Nat,x=(k:Int)+1:=⟨(x-1).toNat,by omega⟩;have hkl:k < l.length:=by omega
  rcases HL.out with hz | ⟨b,o,hoa,hc⟩
  ·rw [hz] at hkl;simp at hkl
  have hck:=hc k hkl;have hne:=HO.out _ hoa;have hc1:=(World.cell?_of_block (hE.block b (lt_of_cell hck) hne)).trans hck;have hmem:l[k]∈first :: l:=List.mem_cons_of_mem _ (List.getElem_mem hkl)
  generalize l[k]=y at hc1 hmem;have HM:=Lib.hid hmem;clear hmem hck hc;have HE:=Lib.hid hE;clear hE;subst hk hoa;have q1:(k:Int) < (l.length:Int):=by omega
  go_wp2_with fail
  go_ret
  exact ⟨_,⟨y,HM.out,rfl⟩,rfl,HH.out,HE.out⟩
 ·have HE:=Lib.hid hE;clear hE
  go_wp2_with fail
  go_ret
  exact ⟨_,⟨first,by simp,rfl⟩,rfl,HH.out,HE.out⟩
end
section
open Go.RowKit
def Lh (D S:Int) (s:Strip):Prop:=0≤s.A∧s.A < S∧0≤s.B∧s.B < S∧s.A≠s.B∧1≤s.L∧s.L≤9∧1≤s.W∧s.W≤99 ∧
  ((s.K=1∧s.X=0∧s.Y=0)∨(s.K=2∧0≤s.X∧s.X≤s.Y∧s.Y < D)∨(s.K=3∧0≤s.X∧s.X≤20∧-5≤s.Y∧s.Y≤5)∨(s.K=4∧1≤s.X∧s.X≤40∧s.Y=0))
end
end Go.Proofs.Ytgdobbcjkiapkaa
