import Derived.Test.YtgdobbcjkiapkaaCh43
import Derived.Test.YtgdobbcjkiapkaaCh42
import Derived.Test.YtgdobbcjkiapkaaCh38
import Derived.Test.YtgdobbcjkiapkaaCh44
namespace Go.Proofs.Ytgdobbcjkiapkaa
set_option maxRecDepth 100000
set_option maxHeartbeats 4000000
set_option linter.unusedSimpArgs false
set_option linter.unusedVariables false
section
open Go Go.Conc Go.RowKit
section
variable {w:World} {t:Ac} {s:DF} {a:Nat} {b:Int}
theorem Abg {va ga:Option Addr} {vc gc:Nat} {W:List Int} (h1:Aq w va W) (h2:Aq w ga W) (hn:W.length≤1000):Calls Try.prog 28 #[.slice va W.length vc, .slice ga W.length gc] w (fun e w'=>e = .returned (.bool true)∧Below w.heap.size w w'):=by
 refine (Qp h1 h2 (by omega)).mono ?_;rintro e w' ⟨rfl,hb⟩;exact ⟨by simp,hb⟩
end
theorem YR {t:Ac} (hT:Ak t=0) {a b:Int} (ha:0≤a∧a < t.roads.stages) (hb:0≤b∧b < t.roads.stages):EG t a b=0:=by
 unfold EG;rw [if_pos hT,Aj.2 (by omega),Aj.2 (by omega)]
 rfl
end
section
open Go Go.Conc Go.RowKit
def wOf (r:Option AZ):List Int:=match r with | some c=>c.way | none=>[]
def cOf (r:Option AZ):Int:=match r with | some c=>c.coins | none=>0
def eOf (r:Option AZ):Int:=match r with | some _=>0 | none=>11
theorem of_none:wOf none=[]∧cOf none=0∧eOf none=11:=⟨rfl,rfl,rfl⟩
section
variable {w:World} {t:Ac} {s:DF} {a b lim:Int}
theorem TL {r:Option AZ} {e:Ending} {w':World} (h:LW w r 11 e w'):∃ va vc,e = .returned (.tuple #[.slice va (wOf r).length vc, .int .i64 (cOf r), .int .i64 (eOf r)])∧Aq w' va (wOf r)∧Below w.heap.size w w':=by
 obtain ⟨hb,h1,h2⟩:=h
 cases r with
 | none=>exact ⟨none,0,h1 rfl, .inl rfl,hb⟩
 | some c =>
  obtain ⟨v,h3,h4,_,_⟩:=h2 c rfl;obtain ⟨va,vc,rfl,_,_,_⟩:=AC.cells h4 (fun _=>rfl);exact ⟨va,vc,h3,CP.ints h4,hb⟩
theorem AaN (hT:BM w t s) (he:Hid (EG t a b=0)):Calls Try.prog 48 #[.agg (Em t s), .int .i64 a, .int .i64 b] w (fun e w'=>∃ va vc,e = .returned (.tuple #[.slice va (wOf (G8 t a b (-1))).length vc, .int .i64 (cOf (G8 t a b (-1))), .int .i64 (eOf (G8 t a b (-1)))])∧Aq w' va (wOf (G8 t a b (-1)))∧Below w.heap.size w w'):=by
 refine (Lu (from_:=a) (to_:=b) hT).mono ?_;rintro e w' h;have hv:IG t a b=(G8 t a b (-1),11):=by unfold IG;rw [if_pos he.out]
 rw [hv] at h;exact TL h
theorem ZI (hT:BM w t s) (he:Hid (EG t a b=0)) (h0:0≤lim):Calls Try.prog 49 #[.agg (Em t s), .int .i64 a, .int .i64 b, .int .i64 lim] w (fun e w'=>∃ va vc,e = .returned (.tuple #[.slice va (wOf (G8 t a b lim)).length vc, .int .i64 (cOf (G8 t a b lim)), .int .i64 (eOf (G8 t a b lim))])∧Aq w' va (wOf (G8 t a b lim))∧Below w.heap.size w w'):=by
 refine (Ry (from_:=a) (to_:=b) (lim:=lim) hT).mono ?_;rintro e w' h;have hv:Fb t a b lim=(G8 t a b lim,11):=by unfold Fb;rw [if_pos he.out,if_neg (by omega)]
 rw [hv] at h;exact TL h
theorem Aae {g:Nat} (hT:BM w t s) (hC:Ak t=0) (K:Rw w g #[.int .i64 a] 3) (ha:0≤a∧a < t.roads.stages):Calls Try.prog 47 #[.agg (Em t s), .slice (some ⟨g,0,none⟩) 1 1, .int .i64 b] w (fun e w'=>∃ oa oc,e = .returned (.tuple #[.slice oa (Rz t a b).length oc, .bool true])∧DV w' w.heap.size (.slice oa (Rz t a b).length oc) (Rz t a b)∧Below w.heap.size w w'):=by
 refine (MK (to_:=b) hC 7 w s [a] (some ⟨g,0,none⟩) 1 hT (CJ (l:=[a]) K) (Stg.start ha)).mono ?_;rintro e w' ⟨oa,oc,h1,h2,h3⟩;exact ⟨oa,oc,h1,h2,h3⟩
theorem Abl {wy:List Int} {wa:Option Addr} {wc:Nat} {n:Int} (hT:BM w t s) (hW:Aq w wa wy) (hC:Ak t=0) (h:Hid (wy.length≤6∧(∀ k∈wy,0≤k∧k < (t.roads.strips.length:Int))∧VJ t.roads wy=n)):Calls Try.prog 50 #[.agg (Em t s), .slice wa wy.length wc] w (fun e w'=>e = .returned (.int .i64 n)∧Below w.heap.size w w'):=by
 have:=Sm (wc:=wc) hT hW hC (by have:=h.out.1;omega) h.out.2.1;rw [h.out.2.2] at this;exact this
end
theorem Chain.strips {t:Ac}:∀ {x:List Int} {a b:Int},Chain t x a b→∀ k∈x,0≤k∧k < (t.roads.strips.length:Int)
 | [],_,_,_,k,h=>by simp at h
 | j :: x,a,b,h,k,hk=>by
  rcases List.mem_cons.1 hk with rfl | hk
  ·exact h.1
  ·exact Chain.strips h.2.2 k hk
structure AbM (t:Ac) (a b:Int) (W:List (List Int)) (L:List AZ) (i:Nat) (hi:i < W.length) (hl:i < L.length):Prop where
 wy:W[i]=L[i].way
 cost:QV t a W[i]=(L[i].coins,0)
 leag:W[i].length≤6∧(∀ k∈W[i],0≤k∧k < (t.roads.strips.length:Int))∧VJ t.roads W[i]=L[i].leagues
theorem Aaq {t:Ac} (hT:Ak t=0) {a b:Int} (ha:0≤a∧a < t.roads.stages) {W:List (List Int)} {L:List AZ} (hL:BR t a b=L) (hW:Rz t a b=W) {i:Nat} (hi:i < W.length) (hl:i < L.length):AbM t a b W L i hi hl:=by
 have hm:=TK t a b;rw [hL,hW] at hm;have e:W[i]=L[i].way:=by simp only [← hm,List.getElem_map]
 have hc:=MX (t:=t) (a:=a) (b:=b) L[i] (by rw [hL];exact List.getElem_mem hl);refine ⟨e,?_,?_⟩
 ·rw [e,Vt hT hc.1 hc.2.1 ha (by omega),hc.2.2.2.1];unfold IE;rw [Nj hT hc.1 hc.2.1 ha (by omega)]
 ·rw [e];exact ⟨hc.2.2.1,hc.1.strips,hc.2.2.2.2.symm⟩
theorem QG {t:Ac} (hT:Ak t=0):∀ {x:List Int},(∀ k∈x,0≤k∧k < (t.roads.strips.length:Int))→∀ m:Nat,0≤GG t.roads x m∧GG t.roads x m≤100*(m:Int)
 | x,h,0=>by simp [GG]
 | x,h,m+1=>by
  have h1:=QG hT h m;rw [GG]
  have h2:0≤MJ t.roads (x.getD m 0)∧MJ t.roads (x.getD m 0)≤100:=by
   unfold MJ
   split
   ·rename_i s hs
    have:=(PD hT).strip s (List.mem_of_getElem? hs)
    omega
   ·omega
  push_cast;omega
theorem Tj {t:Ac} (hT:Ak t=0) {a b:Int}:∀ c∈BR t a b,c.leagues≤1000:=fun c hc=>by
 have h:=MX c hc;have h2:=QG hT h.1.strips c.way.length;rw [h.2.2.2.2];unfold VJ;have:=h.2.2.1
 omega
theorem PM {t:Ac} (hT:Ak t=0) {a b:Int} (ha:0≤a∧a < t.roads.stages) {i j:Nat} (hi:i < (BR t a b).length) (hji:j < i):Ij (BR t a b)[i].way (BR t a b)[j].way=1:=by
 obtain ⟨n,rfl⟩:=Int.eq_ofNat_of_zero_le ha.1;exact QY hT ha.2 hi hji
theorem VA {L:List AZ} {W:List (List Int)} (hWL:W=L.map AZ.way) {lim best least far:Int} {i:Nat} (h:Dh L lim i best least far) (hi:i < L.length) (hm:L[i].leagues≤lim) (hl:∀ j,∀ hj:j < i,Ij L[i].way (L[j]'(by omega)).way=1) (hiW:i < W.length) :
  (best < 0∧Hid (Dh L lim (i+1) i L[i].coins L[i].leagues))∨∃ j,∃ hj:j < W.length,best=(j:Int)∧(
   (¬ best < 0∧L[i].coins < least∧Hid (Dh L lim (i+1) i L[i].coins L[i].leagues)) ∨
   (¬ best < 0∧¬ L[i].coins < least∧(L[i].coins == least)=false∧Hid (Dh L lim (i+1) best least far)) ∨
   (¬ best < 0∧¬ L[i].coins < least∧(L[i].coins == least)=true∧L[i].leagues < far∧Hid (Dh L lim (i+1) i L[i].coins L[i].leagues)) ∨
   (¬ best < 0∧¬ L[i].coins < least∧(L[i].coins == least)=true∧¬ L[i].leagues < far∧(L[i].leagues == far)=false∧Hid (Dh L lim (i+1) best least far)) ∨
   (¬ best < 0∧¬ L[i].coins < least∧(L[i].coins == least)=true∧¬ L[i].leagues < far∧(L[i].leagues == far)=true∧(W[i].length:Int) < (W[j].length:Int)∧Hid (Dh L lim (i+1) i L[i].coins L[i].leagues)) ∨
   (¬ best < 0∧¬ L[i].coins < least∧(L[i].coins == least)=true∧¬ L[i].leagues < far∧(L[i].leagues == far)=true∧¬ (W[i].length:Int) < (W[j].length:Int)∧Hid (Dh L lim (i+1) best least far))):=by
 by_cases hb:best < 0
 ·exact .inl ⟨hb,Lib.hid (h.first hb hi hm)⟩
 ·have h0:=h;rcases h with ⟨_,h2,_⟩ | ⟨j,hj,hji,h1,h2,h3,h4⟩
  ·omega
  ·have hjW:j < W.length:=by rw [hWL];simpa using hj
   have ei:W[i]=L[i].way:=by simp [hWL]
   have ej:W[j]=L[j].way:=by simp [hWL]
   refine .inr ⟨j,hjW,h2,?_⟩;have new:=fun hc=>Lib.hid (h0.new h2 hj hi hm hl hc)
   have old:=fun hc=>Lib.hid (h0.old h2 hj hi hm hl hc)
   rw [ei,ej];subst h3;subst h4;unfold Nc at new old
   by_cases c1:L[i].coins < L[j].coins
   ·exact .inl ⟨hb,c1,new (by simp [c1])⟩
   ·refine .inr ?_
    by_cases c2:L[i].coins=L[j].coins
    ·have c2b:(L[i].coins == L[j].coins)=true:=by simp [c2]
     refine .inr ?_
     by_cases c3:L[i].leagues < L[j].leagues
     ·exact .inl ⟨hb,c1,c2b,c3,new (by simp [c2,c3])⟩
     ·refine .inr ?_
      by_cases c4:L[i].leagues=L[j].leagues
      ·have c4b:(L[i].leagues == L[j].leagues)=true:=by simp [c4]
       refine .inr ?_
       by_cases c5:L[i].way.length < L[j].way.length
       ·exact .inl ⟨hb,c1,c2b,c3,c4b,by omega,new (by simp [c2,c4,c5])⟩
       ·exact .inr ⟨hb,c1,c2b,c3,c4b,by omega,old (by simp [c2,c4,c5])⟩
      ·exact .inl ⟨hb,c1,c2b,c3,by simp [c4],old (by simp [c2,c3,c4])⟩
    ·exact .inl ⟨hb,c1,by simp [c2],old (by simp [c1,c2])⟩
theorem Y7 {t:Ac} (hT:Ak t=0) {a b lim best least far:Int} {L:List AZ} {W:List (List Int)} (hL:BR t a b=L) (hWL:W=L.map AZ.way) {k:Nat} {lk:Int} {r:Option AZ} (hk:k < 2) (hlim:0≤lim) (hlk:lk=if k=1 then lim else 1000) (hr:r=if k=1 then G8 t a b lim else G8 t a b (-1)) (h:Dh L lk W.length best least far) :
  (best < 0∧r=none)∨∃ j,∃ hj:j < W.length,best=(j:Int)∧¬ best < 0∧wOf r=W[j]∧cOf r=least∧eOf r=0:=by
 have hlen:W.length=L.length:=by rw [hWL];simp
 have hbu:GU L lk W.length=r:=by
  rw [hlen,← hL,hr,hlk]
  by_cases c:k=1
  ·rw [if_pos c,if_pos c];exact Y8 hlim
  ·rw [if_neg c,if_neg c];exact Y6 fun c hc=>Tj hT c hc
 rcases h with ⟨h1,h2,_⟩ | ⟨j,hj,hji,h1,h2,h3,h4⟩
 ·left;rw [hbu] at h1;exact ⟨by omega,h1⟩
 ·right
  rw [hbu] at h1;refine ⟨j,by omega,h2,by omega,?_⟩;subst hWL;rw [h1,h3];exact ⟨by simp [wOf],rfl,rfl⟩
end
end Go.Proofs.Ytgdobbcjkiapkaa
