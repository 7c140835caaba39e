import Derived.Test.YtgdobbcjkiapkaaNo42
import Derived.Test.YtgdobbcjkiapkaaNo39
import Derived.Test.YtgdobbcjkiapkaaNo36
import Derived.Test.YtgdobbcjkiapkaaNo04
import Derived.Test.YtgdobbcjkiapkaaNo10
import Derived.Test.YtgdobbcjkiapkaaNo18
namespace Go.Proofs.Ytgdobbcjkiapkaa
set_option maxRecDepth 100000
set_option maxHeartbeats 4000000
set_option linter.unusedSimpArgs false
set_option linter.unusedVariables false
section
open Go Go.Conc Go.RowKit
theorem Yp {w:World} {a:Option Addr} {n c:Nat} {l:List Int} (hl:Aq w a l) (hn:l.length=n) (hm:n≤maxLen) (ha:l=[]∨∀ ad,a=some ad→ad.block < w.heap.size):Calls Try.prog 19 #[.slice a n c] w fun e w'=>∃ hb,e = .returned (.pointer (some ⟨hb,0,none⟩))∧w.heap.size≤hb∧AX w' hb 0 a n c∧Below w.heap.size w w' :=
 (S9 w a n c l hl hn hm ha).mono fun _ _ ⟨h1,h2,h3,_⟩=>⟨_,h1,Nat.le_refl _,h2,h3⟩
def Zq (b:Nat) (t:Ae) (s:Ef):Prop:=(Value.slice s.sa t.roads.strips.length s.sc).ownBlock≠some b∧(Value.slice s.pa t.Ac.length s.pc).ownBlock≠some b∧(Value.slice s.ta t.Ah.length s.tc).ownBlock≠some b
theorem DZ.far {x:World} {B b:Nat} {t:Ae} {s:Ef} (h:DZ x B t s) (hb:x.heap.size≤b):Zq b t s:=⟨h.os.Iy hb,h.op.Iy hb,h.ot.Iy hb⟩
theorem DZ.Aam {x x':World} {B b:Nat} {t:Ae} {s:Ef} (h:DZ x B t s) (hG:x.grownBy x' (some b)) (hF:Zq b t s):DZ x' B t s:=⟨h.os.grown hG hF.1,h.op.grown hG hF.2.1,h.ot.grown hG hF.2.2⟩
theorem VI {w:World} {hb B:Nat} {ha:Option Addr} {hn hc:Nat} (ns nt:Nat) (hH:AX w hb B ha hn hc) (hB:B≤900000) (h8:ns≤8) (h6:nt≤6):Calls Try.prog 20 #[.pointer (some ⟨hb,0,none⟩), .int .i64 (ns:Int), .int .i64 (nt:Int)] w (fun e w'=>∃ t s,e = .returned (.agg (ER t s))∧DZ w' (hb+1) t s∧Hid (Y6 ns nt t)∧AX w' hb (B+200) ha hn hc∧Ext hb w w') :=
 (Qb hH hB h8 h6).mono fun _ _ ⟨t,s,h1,h2,h3,h4,h5⟩=>⟨t,s,h1,h2.lower (Nat.succ_le_of_lt hH.lt),Lib.hid h3,h4,h5⟩
end
section
open Go Go.Conc Go.RowKit
section
variable {M:Machine} {w:World} {t:Ae} {s:Ef} {l:List A8} {la:Option Addr} {lc:Nat}
end
end
section
open Go.RowKit
end
section
open Go Go.RowKit
section
variable {α β:Type} {f:α→List Value} {f':β→List Value} {e e':TypeId} {k k':Nat} {w w' x x':World} {B B' b g m n c:Nat} {v v':Value} {l:List α} {l':List β} {cs cur:Array Value} {t:TypeId} {r:Option Nat}
end
end
section
open Go Go.Conc Go.RowKit
structure AaL (m ms:List A8):Prop where
 len:ms.length=m.length
 same:∀ i (h:i < m.length) (h':i < ms.length),ms[i].toll=m[i].toll∧ms[i].owner=m[i].owner∧m[i].heads≤ms[i].heads∧ms[i].heads≤40
theorem AaL.ok {nt np:Nat} {m ms:List A8} (h:AaL m ms) (hm:Zt nt np m):Zt nt np ms:=fun p hp=>by
 obtain ⟨i,hi,rfl⟩:=List.getElem_of_mem hp;have hi2:i < m.length:=by rw [← h.len];exact hi
 have hs:=h.same i hi2 hi;have:=hm m[i] (List.getElem_mem hi2);rw [hs.1,hs.2.1];omega
structure AaK (ts us:List BK):Prop where
 len:us.length=ts.length
 same:∀ i (h:i < ts.length) (h':i < us.length),us[i].strip=ts[i].strip∧us[i].farmer=ts[i].farmer∧ts[i].rate≤us[i].rate∧us[i].rate≤500
theorem AaK.range {ts us:List BK} (h:AaK ts us) (h0:∀ x∈ts,0≤x.rate∧x.rate≤500):∀ u∈us,0≤u.rate∧u.rate≤500:=fun u hu=>by
 obtain ⟨i,hi,rfl⟩:=List.getElem_of_mem hu;have hi2:i < ts.length:=by rw [← h.len];exact hi
 have:=h.same i hi2 hi;have:=h0 _ (List.getElem_mem hi2)
 omega
section
variable {w:World} {t:Ae} {s:Ef}
end
section
variable {α:Type} {f:α→List Value} {e:TypeId} {k:Nat} {w:World} {B g c:Nat} {l:List α}
theorem Bl.src {a:Option Addr} (h:Bl f e k w B (.slice a l.length c) l) (hf:∀ x,(f x).length=k):Em f k w a l:=by
 obtain ⟨a',c',hv,_,_,hC⟩:=h.cells hf;simp only [Value.slice.injEq,true_and] at hv;obtain ⟨rfl,_⟩:=hv;exact hC
end
end
section
open Go Go.RowKit
section
variable {w:World} {B g c:Nat} {a:Option Addr} {l:List Int} {v:Value}
theorem Dz.ints (h:Dz w B (.slice a l.length c) l):Aq w a l:=by
 rcases Bl.src h (fun _=>rfl) with h0 | ⟨b,o,ha,hc⟩
 ·exact .inl h0
 ·exact .inr ⟨b,o,ha,fun i hi=>by have:=hc i hi 0 _ (by omega) rfl;simpa using this⟩
end
end
section
open Go Go.Conc Go.RowKit
theorem XA {r:AQ} {L:List (List Int)} (h:L≠[]):JD r L∈L:=by
 cases L with
 | nil=>exact absurd rfl h
 | cons x L =>
  show L.foldl (BP r) x∈x :: L
  have key:∀ (L:List (List Int)) (x:List Int),L.foldl (BP r) x∈x :: L:=fun L=>by
   induction L with
   | nil=>intro x;simp
   | cons y L ih =>
    intro x;have:=ih (BP r x y);simp only [List.foldl_cons];rcases List.mem_cons.1 this with h | h
    ·rw [h];unfold BP;split <;> simp
    ·simp [h]
  exact key L x
theorem Aaf {t:Ae} {a:Nat} {b:Int} (h:EC t.roads (Bi t) a b≠[]):(JD t.roads (EC t.roads (Bi t) a b)).length≤6∧∀ k∈JD t.roads (EC t.roads (Bi t) a b),0≤k∧k < (t.roads.strips.length:Int):=by
 have:=J7 5 _ _ _ (XA (r:=t.roads) h);exact ⟨this.1,fun k hk=>this.2 k hk⟩
section
variable {w:World} {t:Ae} {s:Ef} {a:Nat} {b:Int}
theorem AaD (hT:CV w t s) (he:Hid (Fp t (a:Int) b=0)) (hn:Hid (XV t (a:Int) b (-1)=none)):Calls Try.prog 48 #[.agg (ER t s), .int .i64 (a:Int), .int .i64 b] w (fun e w'=>e = .returned (.tuple #[.slice none 0 0, .int .i64 0, .int .i64 11])∧Below w.heap.size w w'):=by
 refine (IG (from_:=(a:Int)) (to_:=b) hT).mono ?_;rintro e w' ⟨hb,h1,_⟩;have hv:GG t (a:Int) b=(none,11):=by unfold GG;rw [if_pos he.out,hn.out]
 rw [hv] at h1;exact ⟨h1 rfl,hb⟩
theorem AaC {c:BF} (hT:CV w t s) (he:Hid (Fp t (a:Int) b=0)) (hn:Hid (XV t (a:Int) b (-1)=some c∧c.coins=0)):Calls Try.prog 48 #[.agg (ER t s), .int .i64 (a:Int), .int .i64 b] w (fun e w'=>∃ va vc,e = .returned (.tuple #[.slice va c.way.length vc, .int .i64 0, .int .i64 0])∧Aq w' va c.way∧Below w.heap.size w w'):=by
 refine (IG (from_:=(a:Int)) (to_:=b) hT).mono ?_;rintro e w' ⟨hb,_,h2⟩;have hv:GG t (a:Int) b=(some c,11):=by unfold GG;rw [if_pos he.out,hn.out.1]
 rw [hv] at h2;obtain ⟨v,h3,h4,_,_⟩:=h2 c rfl;obtain ⟨va,vc,rfl,_,_,_⟩:=Bl.cells h4 (fun _=>rfl);rw [hn.out.2] at h3;exact ⟨va,vc,h3,Dz.ints h4,hb⟩
theorem Abj (hT:CV w t s) (hr:Hid (AZ t.roads (Bi t) [(a:Int),t.roads.stages,b,t.roads.stages]=0)) (hn:Hid (EC t.roads (Bi t) a b=[])):Calls Try.prog 56 #[.agg #[.int .i64 t.roads.days, .int .i64 t.roads.stages, .slice s.sa t.roads.strips.length s.sc], .agg #[.int .i64 (Bi t).heads, .int .i64 (Bi t).pace], .int .i64 (a:Int), .int .i64 b] w (fun e w'=>e = .returned (.tuple #[.slice none 0 0, .int .i64 0, .int .i64 11])∧Below w.heap.size w w'):=by
 refine (XN w t.roads (Bi t) s.sa s.sc hT.strips hT.ls (a:Int) b).mono ?_;rintro e w' ⟨hb,h | h | h⟩
 ·exact ⟨h.2.2,hb⟩
 ·exact absurd (by simpa using hn.out) h.2.1
 ·exact absurd hr.out h.1
theorem Abi (hT:CV w t s) (hr:Hid (AZ t.roads (Bi t) [(a:Int),t.roads.stages,b,t.roads.stages]=0)) (hn:Hid (EC t.roads (Bi t) a b≠[])) {W:List Int} (hW:Hid (W=JD t.roads (EC t.roads (Bi t) a b))):Calls Try.prog 56 #[.agg #[.int .i64 t.roads.days, .int .i64 t.roads.stages, .slice s.sa t.roads.strips.length s.sc], .agg #[.int .i64 (Bi t).heads, .int .i64 (Bi t).pace], .int .i64 (a:Int), .int .i64 b] w (fun e w'=>∃ ga gc,e = .returned (.tuple #[.slice ga W.length gc, .int .i64 (Ij t.roads W), .int .i64 0])∧Aq w' ga W∧Below w.heap.size w w'):=by
 refine (XN w t.roads (Bi t) s.sa s.sc hT.strips hT.ls (a:Int) b).mono ?_;rintro e w' ⟨hb,h | h | h⟩
 ·exact absurd (by simpa using h.2.1) hn.out
 ·obtain ⟨_,_,ga,gc,h1,h2⟩:=h;simp only [Int.toNat_natCast] at h1 h2;rw [← hW.out] at h1 h2;exact ⟨ga,gc,h1,h2,hb⟩
 ·exact absurd hr.out h.1
theorem Aa4 {va ga:Option Addr} {vc gc:Nat} {W:List Int} (h1:Aq w va W) (h2:Aq w ga W) (hn:W.length≤1000):Calls Try.prog 28 #[.slice va W.length vc, .slice ga W.length gc] w (fun e w'=>e = .returned (.bool true)∧Below w.heap.size w w'):=by
 refine (Qm h1 h2 (by omega)).mono ?_;rintro e w' ⟨rfl,hb⟩;exact ⟨by simp,hb⟩
end
theorem YE {t:Ae} (hT:Ap t=0) {a b:Int} (ha:0≤a∧a < t.roads.stages) (hb:0≤b∧b < t.roads.stages):Fp t a b=0:=by
 unfold Fp;rw [if_pos hT,Ai.2 (by omega),Ai.2 (by omega)]
 rfl
end
section
open Go Go.Conc
open Go.RowKit
theorem UM:Try.f16.body=some (Code.seq (Aa Try.f16 0) (Code.seq (Aa Try.f16 1) (Code.seq (Aa Try.f16 2) (Code.seq (Aa Try.f16 3) (Code.seq (Aa Try.f16 4) (Code.seq (Aa Try.f16 5) (Code.seq (Code.seq (Aa Try.f16 6) (Code.cond (Operand.tmp 54) (Code.seq (Aa Try.f16 7) Code.ret) Code.skip)) (Code.seq (Aa Try.f16 8) Code.ret)))))))):=by kernel_rfl
theorem VE {M:Machine} (w:World) (ha:Option Addr) (hn hc:Nat) (nums:List Int) (hl:Aq w ha nums) (hnn:nums.length=hn) (hm:hn≤maxLen) (hlo:nums=[]∨∀ ad,ha=some ad→ad.block < w.heap.size):D5 Try.prog M 16 #[.slice ha hn hc] w (fun e w'=>e = .returned (.bool true)∧Below w.heap.size w w'):=by
 have hno:Ll (bodyPost Try.prog Try.f16 (fun e w'=>e = .returned (.bool true)∧Below w.heap.size w w')):=KL (fun w h=>by cases h.1);have HL:=Lib.hid hl;have HN:=Lib.hid hnn;have HO:=Lib.hid hlo;clear hl hnn hlo;have hB0:=Below.refl w.heap.size w;refine H7 Fg Try.func16 UM ?_ (fun w h=>by cases h.1);have Z:Sl (⟨#[.slice ha hn hc]++Array.replicate (Try.f16.ntmps-(#[.slice ha hn hc]:Array Value).size) undef,[]⟩:Act) 82 [(0, .slice ha hn hc)]:=by rw [Try.ntmps16];exact Sl.Aaz _ (by omega)
 revert Z;generalize (Act.mk _ _)=a;intro Z;refine CX Fg ?_;refine wpX.of Fg ?_ (by repeat (first | assumption | apply AO | apply Az));refine wr ?_;refine Z.s ?_;clear Z;intro a Z;refine od ?_;refine CX Fg ?_;refine wpX.of Fg ?_ (by repeat (first | assumption | apply AO | apply Az));refine wr ?_;refine Z.s ?_;clear Z;intro a Z;refine og fun K hK =>?_
 have e13:=Z.g 13;unfold Oper.wp;go_simp;refine (Yp HL.out HN.out hm HO.out).mono ?_;rintro e x ⟨hb,rfl,hhb,hH,hb2⟩;replace hB0:=hB0.trans (hb2.mono hB0.size);clear hb2;clear HL HN HO;clear e13;refine Z.K hK ?_;clear Z hK;intro a Z;refine Z.s ?_;clear Z;intro a Z;refine od ?_;refine CX Fg ?_;refine wpX.of Fg ?_ (by repeat (first | assumption | apply AO | apply Az));refine wr ?_;refine Z.s ?_;clear Z;intro a Z;refine og fun K hK =>?_
 have e15:=Z.g 15;unfold Oper.wp;go_simp;refine (VI 7 0 hH (by omega) (by omega) (by omega)).mono ?_;rintro e x ⟨t,s,rfl,hO,hTK,hH,hE2⟩;replace hB0:=hE2.below hB0 (by omega) hB0.size;clear hE2;clear e15;refine Z.K hK ?_;clear Z hK;intro a Z;have hst:=hTK.out.st;have ht0:Hid (t.Ah=[]):=Lib.hid (List.eq_nil_of_length_eq_zero (by have:=hTK.out.lt;omega));refine Z.s ?_;clear Z;intro a Z;refine Af (G:=fun W=>wpOps _ _ _ _ _ W) ?_;obtain ⟨b4,hg⟩:∃ b,b=x.heap.size:=⟨_,rfl⟩;have hh_b4:hb < b4:=by rw [hg];exact hH.lt
 have FhO_b4:=Lib.hid (hO.far (b:=b4) (by omega));intro x hz K4 hb2;rw [← hg] at Z K4;have hhB04:w.heap.size≤b4:=by rw [hg];exact hB0.size
 replace hB0:=hB0.trans (hb2.mono hB0.size);replace hH:=hH.below hb2;replace hO:=hO.below hb2;clear hz hg hb2;refine Z.rs rfl rfl rfl (FB rfl (Z.ev 4 rfl) (Z.ev 16 rfl) (by kernel_rfl) K4 rfl rfl) ?_;have hG:=BQ K4 (ER t s);have K_:=K4.setRow (ER t s);replace hB0:=Ld hB0 hG (by omega);replace hH:=hH.grown hG (by omega);replace hO:=hO.Aam hG FhO_b4.out;have K4:=K_;clear hG K_;obtain ⟨x,hx2⟩:∃ q,q=x.setRow b4 (ER t s):=⟨_,rfl⟩;rw [← hx2] at hB0 hH hO K4 ⊢;clear hx2;refine od ?_;refine CX Fg ?_;refine wpX.of Fg ?_ (by repeat (first | assumption | apply AO | apply Az));refine wp_cut (fun b_ z=>∃ (z22:Int) (z28:Int),(0≤z22∧z22 < t.roads.stages)∧(0≤z28∧z28 < t.roads.stages)∧Sl b_ 82 [(3, .pointer (some ⟨hb,0,none⟩)),(4, .pointer (some ⟨b4,0,none⟩)),(5, .int .i64 z22),(6, .int .i64 z28)]∧Below w.heap.size w z∧Rw z b4 (ER t s) 28∧DZ z (hb+1) t s) ?_ ?_
 ·have hb2:Below x.heap.size x x.drew:=(Below.refl _ _).drew;replace hB0:=hB0.trans (hb2.mono hB0.size);replace hH:=hH.below hb2;replace hO:=hO.below hb2;replace K4:=K4.below hb2;refine Vs [[],[],[1],[1,2],[1,2,3],[0,1,2,3,4],[],[],[7],[7,8],[7,8,9],[0,1,2,3,4,5,6,7,8,9,10],[0,1,2,3,4,5,6,7,8,9,10,11],[0,1,2,3,4,5,6,7,8,9,10,11,12]] (fun i=>[5,11].contains i) (fun y=>Rw y b4 (ER t s) 28) 11 rfl (by kernel_rfl) (of_decide_eq_true (by kernel_rfl)) (by kernel_rfl) [11,12,13] (by kernel_rfl) K4 ?_;clear hb2;obtain ⟨x,hx2⟩:∃ q,q=x.drew:=⟨_,rfl⟩;rw [← hx2] at hB0 hH hO K4 ⊢;clear hx2;refine CP (i:=0) rfl rfl (by kernel_rfl) (by kernel_rfl) (by kernel_rfl) K4 ?_;refine Z.amv rfl rfl rfl (.inl rfl) rfl (by decide) rfl ?_;clear Z;intro a Z;refine CP (i:=1) rfl rfl (by kernel_rfl) (by kernel_rfl) (by kernel_rfl) K4 ?_;refine Z.ar rfl rfl rfl rfl (by decide) ⟨?_,fun y hy K hK =>?_,?_⟩;rotate_left
  ·have e4:=Z.g 4;unfold CU;go_simp;exact hK
  clear Z;intro a Z;refine CP (i:=2) rfl rfl (by kernel_rfl) (by kernel_rfl) (by kernel_rfl) K4 ?_;refine Z.ar rfl rfl rfl rfl (by decide) ⟨?_,fun y hy K hK =>?_,?_⟩;rotate_left
  ·have e18:=Z.g 18;unfold CU;go_simp;exact hK
  clear Z;intro a Z;refine CP (i:=3) rfl rfl (by kernel_rfl) (by kernel_rfl) (by kernel_rfl) K4 ?_;refine Z.ar rfl rfl rfl rfl (by decide) ⟨?_,fun y hy K hK =>?_,?_⟩;rotate_left
  ·have e19:=Z.g 19;have K4:=hy;refine Dn (Bf rfl (Z.ev 19 rfl) Try.underlying3 rfl (K4.cell (o:=1) (v := .int .i64 t.roads.stages) rfl)) ?_;exact hK
  clear Z;intro a Z;refine CP (i:=4) rfl rfl (by kernel_rfl) (by kernel_rfl) (by kernel_rfl) K4 ?_;refine Z.ar rfl rfl rfl rfl (by decide) ⟨?_,fun y hy K hK =>?_,?_⟩;rotate_left
  ·have e20:=Z.g 20;have hw21:=IntWalk.i64_in (t.roads.stages-1) (by omega);unfold CU;go_simp;exact hK
  clear Z;intro a Z;refine CP (i:=6) rfl rfl (by kernel_rfl) (by kernel_rfl) (by kernel_rfl) K4 ?_;refine Z.amv rfl rfl rfl (.inl rfl) rfl (by decide) rfl ?_;clear Z;intro a Z;refine CP (i:=7) rfl rfl (by kernel_rfl) (by kernel_rfl) (by kernel_rfl) K4 ?_;refine Z.ar rfl rfl rfl rfl (by decide) ⟨?_,fun y hy K hK =>?_,?_⟩;rotate_left
  ·have e4:=Z.g 4;unfold CU;go_simp;exact hK
  clear Z;intro a Z;refine CP (i:=8) rfl rfl (by kernel_rfl) (by kernel_rfl) (by kernel_rfl) K4 ?_;refine Z.ar rfl rfl rfl rfl (by decide) ⟨?_,fun y hy K hK =>?_,?_⟩;rotate_left
  ·have e24:=Z.g 24;unfold CU;go_simp;exact hK
  clear Z;intro a Z;refine CP (i:=9) rfl rfl (by kernel_rfl) (by kernel_rfl) (by kernel_rfl) K4 ?_;refine Z.ar rfl rfl rfl rfl (by decide) ⟨?_,fun y hy K hK =>?_,?_⟩;rotate_left
  ·have e25:=Z.g 25;have K4:=hy;refine Dn (Bf rfl (Z.ev 25 rfl) Try.underlying3 rfl (K4.cell (o:=1) (v := .int .i64 t.roads.stages) rfl)) ?_;exact hK
  clear Z;intro a Z;refine CP (i:=10) rfl rfl (by kernel_rfl) (by kernel_rfl) (by kernel_rfl) K4 ?_;refine Z.ar rfl rfl rfl rfl (by decide) ⟨?_,fun y hy K hK =>?_,?_⟩;rotate_left
  ·have e26:=Z.g 26;have hw27:=IntWalk.i64_in (t.roads.stages-1) (by omega);unfold CU;go_simp;exact hK
  clear Z;intro a Z;refine IU (i:=5) (by kernel_rfl) ?_;refine Z.ae rfl rfl rfl rfl (by decide) (fun K hK =>?_);have e17:=Z.g 17;have e21:=Z.g 21;unfold BV;go_simp;refine (Dl _ _ _ _ _ _ hH (by omega) ((t.roads.stages-1)) (by omega) (by omega)).mono ?_;rintro e x ⟨_,⟨z22,p22,q22,rfl⟩,rfl,hH,hE2⟩;replace hB0:=hE2.below hB0 (by omega) hB0.size;replace hO:=hO.ext hE2 (by omega);replace K4:=K4.ext hE2 (by omega);clear hE2;refine ⟨_,rfl,?_⟩;clear e17 e21;refine hK _ _ K4 ?_;clear Z hK;intro a Z;refine Kr (by kernel_rfl) ?_;refine og fun K hK =>?_
  have e23:=Z.g 23;have e27:=Z.g 27;unfold Oper.wp;go_simp;refine (Dl _ _ _ _ _ _ hH (by omega) ((t.roads.stages-1)) (by omega) (by omega)).mono ?_;rintro e x ⟨_,⟨z28,p28,q28,rfl⟩,rfl,hH,hE2⟩;replace hB0:=hE2.below hB0 (by omega) hB0.size;replace hO:=hO.ext hE2 (by omega);replace K4:=K4.ext hE2 (by omega);clear hE2;clear e23 e27;refine Z.K hK ?_;clear Z hK;intro a Z;(iterate 2 refine Z.s ?_;clear Z;intro a Z);refine od ?_;exact ⟨rfl,z22,z28,⟨by omega,by omega⟩,⟨by omega,by omega⟩,Z.sb,hB0,K4,hO⟩
 clear Z hB0 hH hO K4;rintro a x ⟨z22,z28,h22,h28,Z,hB0,K4,hO⟩;refine CX Fg ?_;refine wpX.of Fg ?_ (by repeat (first | assumption | apply AO | apply Az));refine wr ?_;have hT:=hO.tar;clear hO;obtain ⟨a,rfl⟩:∃ a:Nat,z22=(a:Int):=⟨z22.toNat,by omega⟩;have hends:Hid (Fp t (a:Int) z28=0):=Lib.hid (YE hTK.out.ok h22 h28);have hrd:=Lib.hid (VY hTK.out.ok h22 h28);rcases Yo hTK.out.ok ht0.out h22.2 (b:=z28) with ⟨hn1,hn2⟩ | ⟨c,hn1,hn2,hn3,hn4⟩
 ·have hw1:=Lib.hid hn1;have hw2:=Lib.hid hn2;clear hn1 hn2;refine Z.rv rfl rfl rfl (by decide) (E8 rfl (Z.ev 4 rfl) Try.underlying28 rfl (by kernel_rfl) K4) ?_;clear Z;intro a Z;(iterate 2 refine Z.s ?_;clear Z;intro a Z);refine og fun K hK =>?_
  have e30:=Z.g 30;have e31:=Z.g 31;have e32:=Z.g 32;unfold Oper.wp;go_simp;refine (AaD hT hends hw1).mono ?_;rintro e x ⟨rfl,hb2⟩;replace hB0:=hB0.trans (hb2.mono hB0.size);replace K4:=K4.below hb2;replace hT:=hT.below hb2;clear hb2;clear e30 e31 e32;refine Z.K hK ?_;clear Z hK;intro a Z;(iterate 7 refine Z.s ?_;clear Z;intro a Z);refine od ?_;refine CX Fg ?_;refine wpX.of Fg ?_ (by repeat (first | assumption | apply AO | apply Az));have hb2:Below x.heap.size x x.drew:=(Below.refl _ _).drew;replace hB0:=hB0.trans (hb2.mono hB0.size);replace K4:=K4.below hb2;replace hT:=hT.below hb2;refine MB [[],[0],[],[2],[],[],[0,1,2,3,4,5],[0,1,2,3,4,5,6],[0,1,2,3,4,5,6,7],[0,1,2,3,4,5,6,7],[0,1,2,3,4,5,6,7],[0,1,2,3,4,5,6,7,8],[0,1,2,3,4,5,6,7,8,9,11],[0,1,2,3,4,5,6,7,8,9,10,11,12]] (fun i=>[3,6].contains i) (fun y=>Rw y b4 (ER t s) 28) rfl (by kernel_rfl) (by kernel_rfl) K4 ?_;clear hb2;obtain ⟨x,hx2⟩:∃ q,q=x.drew:=⟨_,rfl⟩;rw [← hx2] at hB0 K4 hT ⊢;clear hx2;refine Z.mr rfl rfl rfl rfl (by decide) ⟨?_,fun y hy K hK =>?_,?_⟩;rotate_left
  ·have e4:=Z.g 4;unfold CU;go_simp;exact hK
  clear Z;intro a Z;refine Z.mr rfl rfl rfl rfl (by decide) ⟨?_,fun y hy K hK =>?_,?_⟩;rotate_left
  ·have e38:=Z.g 38;have K4:=hy;have c0:=K4.cell (o:=0) (v := .int .i64 t.roads.days) rfl;have c1:=K4.cell (o:=1) (v := .int .i64 t.roads.stages) rfl;have c2:=K4.cell (o:=2) (v := .slice s.sa t.roads.strips.length s.sc) rfl;unfold CU;go_simp;exact hK
  clear Z;intro a Z;refine Z.mr rfl rfl rfl rfl (by decide) ⟨?_,fun y hy K hK =>?_,?_⟩;rotate_left
  ·have e4:=Z.g 4;have K4:=hy;refine Dn (E8 rfl (Z.ev 4 rfl) Try.underlying28 rfl (by kernel_rfl) K4) ?_;exact hK
  clear Z;intro a Z;refine Z.me rfl rfl rfl rfl (by decide) (fun K hK =>?_);have e40:=Z.g 40;unfold BV;go_simp;refine (LD hT hTK.out.ok).mono ?_;rintro e x ⟨rfl,hb2⟩;replace hB0:=hB0.trans (hb2.mono hB0.size);replace K4:=K4.below hb2;replace hT:=hT.below hb2;clear hb2;refine ⟨_,rfl,?_⟩;clear e40;refine hK _ _ K4 ?_;clear Z hK;intro a Z;refine Z.mmv rfl rfl rfl (.inl rfl) rfl (by decide) rfl ?_;clear Z;intro a Z;refine Z.mmv rfl rfl rfl (.inl rfl) rfl (by decide) rfl ?_;clear Z;intro a Z;refine Z.me rfl rfl rfl rfl (by decide) (fun K hK =>?_);have e39:=Z.g 39;have e41:=Z.g 41;have e42:=Z.g 42;have e43:=Z.g 43;unfold BV;go_simp;refine (Abj hT hrd hw2).mono ?_;rintro e x ⟨rfl,hb2⟩;replace hB0:=hB0.trans (hb2.mono hB0.size);replace K4:=K4.below hb2;replace hT:=hT.below hb2;clear hb2;refine ⟨_,rfl,?_⟩;clear e39 e41 e42 e43;refine hK _ _ K4 ?_;clear Z hK;intro a Z;refine Z.mmv rfl rfl rfl (.inl rfl) rfl (by decide) rfl ?_;clear Z;intro a Z;refine Z.mr rfl rfl rfl rfl (by decide) ⟨?_,fun y hy K hK =>?_,?_⟩;rotate_left
  ·have e37:=Z.g 37;unfold CU;go_simp;exact hK
  clear Z;intro a Z;refine Z.mr rfl rfl rfl rfl (by decide) ⟨?_,fun y hy K hK =>?_,?_⟩;rotate_left
  ·have e37:=Z.g 37;unfold CU;go_simp;exact hK
  clear Z;intro a Z;refine Z.mr rfl rfl rfl rfl (by decide) ⟨?_,fun y hy K hK =>?_,?_⟩;rotate_left
  ·have e37:=Z.g 37;unfold CU;go_simp;exact hK
  clear Z;intro a Z;refine Z.mmv rfl rfl rfl (.inr rfl) rfl (by decide) rfl ?_;clear Z;intro a Z;refine Z.mmv rfl rfl rfl (.inr rfl) rfl (by decide) rfl ?_;clear Z;intro a Z;refine Z.mmv rfl rfl rfl (.inr rfl) rfl (by decide) rfl ?_;clear Z;intro a Z;refine QB ?_;refine CX Fg ?_;refine CX Fg ?_;refine wpX.of Fg ?_ (by repeat (first | assumption | apply AO | apply Az));refine wr ?_;(iterate 4 refine Z.s ?_;clear Z;intro a Z);(iterate 2 refine Z.t ?_;clear Z;intro a Z);refine Z.s ?_;clear Z;intro a Z;refine od ?_;refine O1 Fg (Z.ev 54 rfl) ?_;refine CX Fg ?_;refine Rj Fg (by repeat (first | assumption | apply AO | apply Az)) rfl ?_;refine BG rfl rfl (fun K hK =>?_);have e9:=Z.g 9;unfold Oper.wp;go_simp;clear e9;refine Z.kX hK (by decide) ?_;clear Z hK;intro a Z;refine BG rfl rfl (fun K hK =>?_);have e12:=Z.g 12;unfold Oper.wp;go_simp;clear e12;refine Z.kX hK (by decide) ?_;clear Z hK;intro a Z;refine BG rfl rfl (fun K hK =>?_);have e55:=Z.g 55;have e56:=Z.g 56;unfold Oper.wp;go_simp;clear e55 e56;refine Z.kX hK (by decide) ?_;clear Z hK;intro a Z;refine BG rfl rfl (fun K hK =>?_);have e57:=Z.g 57;unfold Oper.wp;go_simp;clear e57;refine Z.kX hK (by decide) ?_;clear Z hK;intro a Z
  refine D8 rfl rfl rfl rfl (Z.get 58 _ rfl) (fun K hK =>?_);have e9:=Z.g 9;unfold Oper.wp;go_simp;clear e9;refine Z.kX hK (by decide) ?_;clear Z hK;intro a Z;refine D8 rfl rfl rfl rfl (Z.get 58 _ rfl) (fun K hK =>?_);have e59:=Z.g 59;unfold Oper.wp;go_simp;clear e59;refine Z.kX hK (by decide) ?_;clear Z hK;intro a Z;refine BG rfl rfl (fun K hK =>?_);have e58:=Z.g 58;have e60:=Z.g 60;unfold Oper.wp;go_simp;clear e58 e60;refine Z.kX hK (by decide) ?_;clear Z hK;intro a Z;refine BG rfl rfl (fun K hK =>?_);have e61:=Z.g 61;unfold Oper.wp;go_simp;clear e61;refine Z.kX hK (by decide) ?_;clear Z hK;intro a Z;refine TA rfl rfl rfl rfl (Z.get 62 _ rfl) rfl Try.func18 (by kernel_rfl) (by kernel_rfl) (args:=#[]) (by simp [Act.eval,Array.getD_eq_getD_getElem?]) (MM) ?_;rintro e x ⟨rfl,hb2⟩;replace hB0:=hB0.trans (hb2.mono hB0.size);replace K4:=K4.below hb2;replace hT:=hT.below hb2;clear hb2;refine ⟨_,rfl,?_⟩;refine Z.goX (by decide) ?_;clear Z;intro a Z;refine BG rfl rfl (fun K hK =>?_);have e62:=Z.g 62;have e63:=Z.g 63;unfold Oper.wp;go_simp;clear e62 e63;refine Z.kX hK (by decide) ?_;clear Z hK;intro a Z;refine BG rfl rfl (fun K hK =>?_);have e64:=Z.g 64;unfold Oper.wp;go_simp;clear e64;refine Z.kX hK (by decide) ?_;clear Z hK;intro a Z;refine JQ ?_
  refine wpX.of Fg ?_ (by repeat (first | assumption | apply AO | apply Az));refine wp_ret ?_
  try simp only [Exit.then,Exit.inBlock]
  refine bodyPost_ret (v := .bool true) ?_ Z.defers ⟨rfl,hB0⟩;simp [results,Try.results16,Z.get 2 _ rfl]
 ·have hwi:=Aaf hn3;rw [← hn4] at hwi;have hw6:c.way.length≤6:=hwi.1;have hwin:=Lib.hid hwi.2;have hw1:=Lib.hid (And.intro hn1 hn2);have hw2:=Lib.hid hn3;have hw3:=Lib.hid hn4;clear hn1 hn2 hn3 hn4 hwi;refine Z.rv rfl rfl rfl (by decide) (E8 rfl (Z.ev 4 rfl) Try.underlying28 rfl (by kernel_rfl) K4) ?_;clear Z;intro a Z;(iterate 2 refine Z.s ?_;clear Z;intro a Z);refine og fun K hK =>?_
  have e30:=Z.g 30;have e31:=Z.g 31;have e32:=Z.g 32;unfold Oper.wp;go_simp;refine (AaC hT hends hw1).mono ?_;rintro e x ⟨va,vc,rfl,hV,hb2⟩;replace hB0:=hB0.trans (hb2.mono hB0.size);replace K4:=K4.below hb2;replace hT:=hT.below hb2;clear hb2;clear e30 e31 e32;refine Z.K hK ?_;clear Z hK;intro a Z;(iterate 7 refine Z.s ?_;clear Z;intro a Z);refine od ?_;refine CX Fg ?_;refine wpX.of Fg ?_ (by repeat (first | assumption | apply AO | apply Az));have hb2:Below x.heap.size x x.drew:=(Below.refl _ _).drew;replace hB0:=hB0.trans (hb2.mono hB0.size);replace K4:=K4.below hb2;replace hT:=hT.below hb2;replace hV:=hV.below hb2;refine MB [[],[0],[],[2],[],[],[0,1,2,3,4,5],[0,1,2,3,4,5,6],[0,1,2,3,4,5,6,7],[0,1,2,3,4,5,6,7],[0,1,2,3,4,5,6,7],[0,1,2,3,4,5,6,7,8],[0,1,2,3,4,5,6,7,8,9,11],[0,1,2,3,4,5,6,7,8,9,10,11,12]] (fun i=>[3,6].contains i) (fun y=>Rw y b4 (ER t s) 28) rfl (by kernel_rfl) (by kernel_rfl) K4 ?_;clear hb2;obtain ⟨x,hx2⟩:∃ q,q=x.drew:=⟨_,rfl⟩;rw [← hx2] at hB0 K4 hT hV ⊢;clear hx2;refine Z.mr rfl rfl rfl rfl (by decide) ⟨?_,fun y hy K hK =>?_,?_⟩;rotate_left
  ·have e4:=Z.g 4;unfold CU;go_simp;exact hK
  clear Z;intro a Z;refine Z.mr rfl rfl rfl rfl (by decide) ⟨?_,fun y hy K hK =>?_,?_⟩;rotate_left
  ·have e38:=Z.g 38;have K4:=hy;have c0:=K4.cell (o:=0) (v := .int .i64 t.roads.days) rfl;have c1:=K4.cell (o:=1) (v := .int .i64 t.roads.stages) rfl;have c2:=K4.cell (o:=2) (v := .slice s.sa t.roads.strips.length s.sc) rfl;unfold CU;go_simp;exact hK
  clear Z;intro a Z;refine Z.mr rfl rfl rfl rfl (by decide) ⟨?_,fun y hy K hK =>?_,?_⟩;rotate_left
  ·have e4:=Z.g 4;have K4:=hy;refine Dn (E8 rfl (Z.ev 4 rfl) Try.underlying28 rfl (by kernel_rfl) K4) ?_;exact hK
  clear Z;intro a Z;refine Z.me rfl rfl rfl rfl (by decide) (fun K hK =>?_);have e40:=Z.g 40;unfold BV;go_simp;refine (LD hT hTK.out.ok).mono ?_;rintro e x ⟨rfl,hb2⟩;replace hB0:=hB0.trans (hb2.mono hB0.size);replace K4:=K4.below hb2;replace hT:=hT.below hb2;replace hV:=hV.below hb2;clear hb2;refine ⟨_,rfl,?_⟩;clear e40;refine hK _ _ K4 ?_;clear Z hK;intro a Z;refine Z.mmv rfl rfl rfl (.inl rfl) rfl (by decide) rfl ?_;clear Z;intro a Z;refine Z.mmv rfl rfl rfl (.inl rfl) rfl (by decide) rfl ?_;clear Z;intro a Z;refine Z.me rfl rfl rfl rfl (by decide) (fun K hK =>?_);have e39:=Z.g 39;have e41:=Z.g 41;have e42:=Z.g 42;have e43:=Z.g 43;unfold BV;go_simp;refine (Abi hT hrd hw2 hw3).mono ?_;rintro e x ⟨ga,gc,rfl,hG,hb2⟩;replace hB0:=hB0.trans (hb2.mono hB0.size);replace K4:=K4.below hb2;replace hT:=hT.below hb2;replace hV:=hV.below hb2;clear hb2;refine ⟨_,rfl,?_⟩;clear e39 e41 e42 e43;refine hK _ _ K4 ?_;clear Z hK;intro a Z;refine Z.mmv rfl rfl rfl (.inl rfl) rfl (by decide) rfl ?_;clear Z;intro a Z;refine Z.mr rfl rfl rfl rfl (by decide) ⟨?_,fun y hy K hK =>?_,?_⟩;rotate_left
  ·have e37:=Z.g 37;unfold CU;go_simp;exact hK
  clear Z;intro a Z;refine Z.mr rfl rfl rfl rfl (by decide) ⟨?_,fun y hy K hK =>?_,?_⟩;rotate_left
  ·have e37:=Z.g 37;unfold CU;go_simp;exact hK
  clear Z;intro a Z;refine Z.mr rfl rfl rfl rfl (by decide) ⟨?_,fun y hy K hK =>?_,?_⟩;rotate_left
  ·have e37:=Z.g 37;unfold CU;go_simp;exact hK
  clear Z;intro a Z;refine Z.mmv rfl rfl rfl (.inr rfl) rfl (by decide) rfl ?_;clear Z;intro a Z;refine Z.mmv rfl rfl rfl (.inr rfl) rfl (by decide) rfl ?_;clear Z;intro a Z;refine Z.mmv rfl rfl rfl (.inr rfl) rfl (by decide) rfl ?_;clear Z;intro a Z;refine QB ?_;refine CX Fg ?_;refine CX Fg ?_;refine wpX.of Fg ?_ (by repeat (first | assumption | apply AO | apply Az));refine wr ?_;(iterate 4 refine Z.s ?_;clear Z;intro a Z);(iterate 2 refine Z.t ?_;clear Z;intro a Z);refine Z.s ?_;clear Z;intro a Z;refine od ?_;refine NF Fg (Z.ev 54 rfl) ?_;refine wpX.of Fg ?_ (by repeat (first | assumption | apply AO | apply Az));refine wp_skip ?_;refine CX Fg ?_;refine Rj Fg (by repeat (first | assumption | apply AO | apply Az)) rfl ?_;refine BG rfl rfl (fun K hK =>?_);have e8:=Z.g 8;unfold Oper.wp;go_simp;clear e8;refine Z.kX hK (by decide) ?_;clear Z hK;intro a Z;refine BG rfl rfl (fun K hK =>?_);have e65:=Z.g 65;unfold Oper.wp;go_simp;clear e65;refine Z.kX hK (by decide) ?_;clear Z hK;intro a Z;refine BG rfl rfl (fun K hK =>?_);have e66:=Z.g 66;unfold Oper.wp;go_simp;clear e66;refine Z.kX hK (by decide) ?_;clear Z hK;intro a Z;refine D8 rfl rfl rfl rfl (Z.get 67 _ rfl) (fun K hK =>?_);have e7:=Z.g 7;unfold Oper.wp;go_simp
  clear e7;refine Z.kX hK (by decide) ?_;clear Z hK;intro a Z;refine D8 rfl rfl rfl rfl (Z.get 67 _ rfl) (fun K hK =>?_);have e10:=Z.g 10;unfold Oper.wp;go_simp;clear e10;refine Z.kX hK (by decide) ?_;clear Z hK;intro a Z;refine D8 rfl rfl rfl rfl (Z.get 67 _ rfl) (fun K hK =>?_);have e68:=Z.g 68;have e69:=Z.g 69;unfold Oper.wp;go_simp;refine (Aa4 hV hG (by omega)).mono ?_;rintro e x ⟨rfl,hb2⟩;replace hB0:=hB0.trans (hb2.mono hB0.size);replace K4:=K4.below hb2;replace hT:=hT.below hb2;replace hV:=hV.below hb2;replace hG:=hG.below hb2;clear hb2;clear e68 e69;refine Z.kX hK (by decide) ?_;clear Z hK;intro a Z;refine BG rfl rfl (fun K hK =>?_);have e67:=Z.g 67;have e70:=Z.g 70;unfold Oper.wp;go_simp;clear e67 e70;refine Z.kX hK (by decide) ?_;clear Z hK;intro a Z;refine BG rfl rfl (fun K hK =>?_);have e71:=Z.g 71;unfold Oper.wp;go_simp;clear e71;refine Z.kX hK (by decide) ?_;clear Z hK;intro a Z;refine D8 rfl rfl rfl rfl (Z.get 72 _ rfl) (fun K hK =>?_);have e4:=Z.g 4;have c0:=K4.cell (o:=0) (v := .int .i64 t.roads.days) rfl;have c1:=K4.cell (o:=1) (v := .int .i64 t.roads.stages) rfl;have c2:=K4.cell (o:=2) (v := .slice s.sa t.roads.strips.length s.sc) rfl;have c3:=K4.cell (o:=3) (v := .int .i64 t.pace) rfl;have c4:=K4.cell (o:=4) (v := .slice s.pa t.Ac.length s.pc) rfl
  have c5:=K4.cell (o:=5) (v := .slice s.ta t.Ah.length s.tc) rfl;unfold Oper.wp;go_simp;clear e4;refine Z.kX hK (by decide) ?_;clear Z hK;intro a Z;refine D8 rfl rfl rfl rfl (Z.get 72 _ rfl) (fun K hK =>?_);have e7:=Z.g 7;unfold Oper.wp;go_simp;clear e7;refine Z.kX hK (by decide) ?_;clear Z hK;intro a Z;refine D8 rfl rfl rfl rfl (Z.get 72 _ rfl) (fun K hK =>?_);have e73:=Z.g 73;have e74:=Z.g 74;unfold Oper.wp;go_simp;refine (RP hT hV hTK.out.ok (by omega) hwin.out).mono ?_;rintro e x ⟨rfl,hb2⟩;replace hB0:=hB0.trans (hb2.mono hB0.size);replace K4:=K4.below hb2;replace hT:=hT.below hb2;replace hV:=hV.below hb2;replace hG:=hG.below hb2;clear hb2;clear e73 e74;refine Z.kX hK (by decide) ?_;clear Z hK;intro a Z;refine D8 rfl rfl rfl rfl (Z.get 72 _ rfl) (fun K hK =>?_);have e11:=Z.g 11;unfold Oper.wp;go_simp;clear e11;refine Z.kX hK (by decide) ?_;clear Z hK;intro a Z;refine D8 rfl rfl rfl rfl (Z.get 72 _ rfl) (fun K hK =>?_);have e75:=Z.g 75;have e76:=Z.g 76;unfold Oper.wp;go_simp;clear e75 e76;refine Z.kX hK (by decide) ?_;clear Z hK;intro a Z;refine BG rfl rfl (fun K hK =>?_);have e72:=Z.g 72;have e77:=Z.g 77;unfold Oper.wp;go_simp;clear e72 e77;refine Z.kX hK (by decide) ?_;clear Z hK;intro a Z;refine BG rfl rfl (fun K hK =>?_);have e78:=Z.g 78
  unfold Oper.wp;go_simp;clear e78;refine Z.kX hK (by decide) ?_;clear Z hK;intro a Z;refine TA rfl rfl rfl rfl (Z.get 79 _ rfl) rfl Try.func18 (by kernel_rfl) (by kernel_rfl) (args:=#[]) (by simp [Act.eval,Array.getD_eq_getD_getElem?]) (MM) ?_;rintro e x ⟨rfl,hb2⟩;replace hB0:=hB0.trans (hb2.mono hB0.size);replace K4:=K4.below hb2;replace hT:=hT.below hb2;replace hV:=hV.below hb2;replace hG:=hG.below hb2;clear hb2;refine ⟨_,rfl,?_⟩;refine Z.goX (by decide) ?_;clear Z;intro a Z;refine BG rfl rfl (fun K hK =>?_);have e79:=Z.g 79;have e80:=Z.g 80;unfold Oper.wp;go_simp;clear e79 e80;refine Z.kX hK (by decide) ?_;clear Z hK;intro a Z;refine BG rfl rfl (fun K hK =>?_);have e81:=Z.g 81;unfold Oper.wp;go_simp;clear e81;refine Z.kX hK (by decide) ?_;clear Z hK;intro a Z;refine JQ ?_;refine wpX.of Fg ?_ (by repeat (first | assumption | apply AO | apply Az));refine wp_ret ?_
  try simp only [Exit.then,Exit.inBlock]
  refine bodyPost_ret (v := .bool true) ?_ Z.defers ⟨rfl,hB0⟩;simp [results,Try.results16,Z.get 2 _ rfl]
end
section
open Go Go.Conc Go.RowKit
theorem WL {w W:World} {a:Option Addr} {l:List Int} (hh:w.heap=W.heap) (h:Aq W a l):Aq w a l:=by
 rcases h with h | ⟨b,o,e,h⟩
 ·exact .inl h
 ·exact .inr ⟨b,o,e,fun i hi=>by simpa [World.cell?,hh] using h i hi⟩
theorem VV {w:World} {a:Option Addr} {len cap:Nat} {zs:List Int}
  (h:(a=none∧len=0∧cap=0∧zs=[])∨∃ x,a=some x∧len≤cap∧cap≤maxLen∧zs.length=cap∧(∀ i,i < zs.length→w.cell? (x.add i)=some (.int .i64 (zs.getD i 0)))∧∀ n∈zs,(Lit.int .i64 n).wf=true) :
  ∃ l:List Int,Aq w a l∧l.length=len∧len≤maxLen∧(l=[]∨∀ ad,a=some ad→ad.block < w.heap.size):=by
 rcases h with ⟨rfl,rfl,rfl,rfl⟩ | ⟨x,rfl,h1,h2,h3,h4,_⟩
 ·exact ⟨[], .inl rfl,rfl,Nat.zero_le _, .inl rfl⟩
 ·by_cases h0:len=0
  ·exact ⟨[], .inl rfl,h0.symm,by omega, .inl rfl⟩
  ·obtain ⟨b,o,sp⟩:=x;have c0:=h4 0 (by omega)
   have hsp:sp=none:=by
    cases sp with
    | none=>rfl
    | some y =>
     simp only [Addr.add,if_true,World.cell?] at c0
     split at c0 <;> simp at c0
   subst hsp
   have key:∀ i,i < zs.length→w.cell? ⟨b,o+i,none⟩=some (.int .i64 (zs.getD i 0)):=fun i hi=>by
    have:=h4 i hi
    rwa [show (⟨b,o,none⟩:Addr).add i=⟨b,o+i,none⟩ by simp only [Addr.add];split <;> simp_all] at this
   refine ⟨zs.take len, .inr ⟨b,o,rfl,fun i hi =>?_⟩,by rw [List.length_take];omega,by omega, .inr fun ad e=>by cases e;exact lt_of_cell (key 0 (by omega))⟩;rw [List.length_take] at hi;rw [key i (by omega),List.getElem_take,List.getD_eq_getElem?_getD,List.getElem?_eq_getElem (by omega)];rfl
theorem Vj {W w w' W':World} (h:Below w.heap.size w w') (hh:w.heap=W.heap) (ho:w.os=W.os) (hu:w.output=W.output) (hh':W'.heap=w'.heap) (ho':W'.os=w'.os) (hu':W'.output=w'.output):Below W.heap.size W { W' with tape:=W.tape } :=
 ⟨ho'.trans (h.os.trans ho),rfl,hu'.trans (h.output.trans hu),by show W.heap.size≤W'.heap.size;rw [hh',← hh];exact h.size,fun k hk=>by show W'.heap[k]? = _;rw [hh',← hh];exact h.block k (by rw [hh];exact hk)⟩
theorem Yn {f:FuncId} {args:Array Value} {W:World} {Post:Value→World→Prop} (hi:Try.prog.inits.idxOf? f=none)
  (h:∀ (M:Machine) (w:World),w.heap=W.heap→D5 Try.prog M f args w (fun e w'=>e = .returned (.bool true)∧Below w.heap.size w w'))
  (hp:∀ W':World,Below W.heap.size W { W' with tape:=W.tape }→Post (.bool true) W') :
  ∃ N last o w' t',runNT Try.prog (N+1) (solo (G (Frame.enter Try.prog f args .normal) []) W) #[]=(.ended o w',t')∧runN Try.prog N (solo (G (Frame.enter Try.prog f args .normal) []) W) = .next last∧step Try.prog last = .ended o w'∧Conc.Good Try.prog Post last o w' t':=by
 refine X6 (R:=fun e w'=>e = .returned (.bool true)∧∃ w:World,w.heap=W.heap∧w.os=W.os∧w.output=W.output∧Below w.heap.size w w') Fg hi (fun M w hh ho hu=>(h M w hh).mono fun e w' hx=>⟨hx.1,w,hh,ho,hu,hx.2⟩) ?_;rintro e w' ⟨rfl,w,hh,ho,hu,hb⟩;exact ⟨_,rfl,fun W' h1 h2 h3=>hp W' (Vj hb hh ho hu h1 h2 h3)⟩
end
end Go.Proofs.Ytgdobbcjkiapkaa
