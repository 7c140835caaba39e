import Derived.Test.YtgdobbcjkiapkaaFe41
import Derived.Test.YtgdobbcjkiapkaaFe36
import Derived.Test.YtgdobbcjkiapkaaFe04
import Derived.Test.YtgdobbcjkiapkaaFe40
import Derived.Test.YtgdobbcjkiapkaaFe10
import Derived.Test.YtgdobbcjkiapkaaFe18
namespace Go.Proofs.Ytgdobbcjkiapkaa
set_option maxRecDepth 100000
set_option maxHeartbeats 4000000
set_option linter.unusedSimpArgs false
set_option linter.unusedVariables false
section
open Go.RowKit
theorem PZ (f:Int→Int) (c:Int):∀ n:Nat,0≤headGo f c n∧headGo f c n≤(n:Int)
 | 0=>by simp [headGo]
 | n+1=>by
  have:=PZ f c n;rw [headGo]
  split
  ·push_cast;omega
  ·push_cast;omega
theorem P5 {f:Int→Int} {c:Int} (h0:f 0≤c):∀ n:Nat,f (headGo f c n)≤c
 | 0=>h0
 | n+1=>by
  rw [headGo]
  split
  ·assumption
  ·exact P5 h0 n
theorem LK {f:Int→Int} {c:Int}:∀ (n:Nat) (m:Int),headGo f c n < m→m≤(n:Int)→¬ f m≤c
 | 0,m,h1,h2=>by simp [headGo] at h1;omega
 | n+1,m,h1,h2=>by
  rw [headGo] at h1
  split at h1
  ·push_cast at h1 h2;omega
  ·rename_i hc
   by_cases e:m=((n+1:Nat):Int)
   ·subst e;exact hc
   ·exact LK n m h1 (by push_cast at h2 e;omega)
def MG (t:Ac) (o n:Int) (k:Int) (j:Nat):List Au:=(List.range j).flatMap fun i=>if (t.Ag.getD i default).strip=k∧0 < n then [⟨(i:Int),o,n⟩] else []
def JR (t:Ac) (o n:Int) (way:List Int):List Au:=way.flatMap fun k=>MG t o n k t.Ag.length
theorem Ih (t:Ac) (o n k:Int) (j:Nat):MG t o n k (j+1)=MG t o n k j++(if (t.Ag.getD j default).strip=k∧0 < n then [⟨(j:Int),o,n⟩] else []):=by simp [MG,List.range_succ]
theorem VO (t:Ac) (o n:Int) (way:List Int) (k:Int):JR t o n (way++[k])=JR t o n way++MG t o n k t.Ag.length:=by simp [JR]
theorem VP (t:Ac) (o n:Int) {way:List Int} {i:Nat} (h:i < way.length):JR t o n (way.take (i+1))=JR t o n (way.take i)++MG t o n way[i] t.Ag.length:=by
 rw [List.take_succ_eq_append_getElem h,VO]
theorem XH {t:Ac} {o n k:Int} {j:Nat} {p:Au} (h:p∈MG t o n k j):0≤p.toll∧p.toll < (j:Int)∧p.owner=o∧p.heads=n∧0 < n:=by
 simp only [MG,List.mem_flatMap,List.mem_range] at h;obtain ⟨i,hi,hp⟩:=h
 split at hp
 ·rename_i hc
  simp only [List.mem_singleton] at hp;subst hp;exact ⟨by show (0:Int)≤i;omega,by show (i:Int) < j;omega,rfl,rfl,hc.2⟩
 ·simp at hp
theorem Zp {t:Ac} {o n:Int} {way:List Int} (ho:0≤o∧o < (t.Ae.length:Int)) (hn:n≤40):Me t.Ag.length t.Ae.length (JR t o n way):=fun p hp=>by
 simp only [JR,List.mem_flatMap] at hp;obtain ⟨k,_,hk⟩:=hp;have:=XH hk
 omega
theorem VL {t:Ac} {o n:Int} (i:Nat):∀ {x:List Int},x.Nodup→(x.flatMap fun k=>if (t.Ag.getD i default).strip=k∧0 < n then [(⟨(i:Int),o,n⟩:Au)] else []).length≤1
 | [],_=>by simp
 | k :: x,h=>by
  rw [List.flatMap_cons,List.length_append]
  by_cases c:(t.Ag.getD i default).strip=k∧0 < n
  ·have h0:(x.flatMap fun k=>if (t.Ag.getD i default).strip=k∧0 < n then [(⟨(i:Int),o,n⟩:Au)] else [])=[]:=by
    rw [List.flatMap_eq_nil_iff];intro k' hk';refine if_neg fun e =>?_
    have:=(List.nodup_cons.1 h).1;rw [← c.1,e.1] at this;exact this hk'
   rw [h0,if_pos c];simp
  ·rw [if_neg c];have:=VL (t:=t) (o:=o) (n:=n) i (List.nodup_cons.1 h).2
   simpa using this
theorem VM {t:Ac} {o n:Int} {x:List Int} (h:x.Nodup):∀ j:Nat,(x.flatMap fun k=>MG t o n k j).length≤j
 | 0=>by
  have:(x.flatMap fun k=>MG t o n k 0)=[]:=List.flatMap_eq_nil_iff.2 fun k _=>rfl
  simp [this]
 | j+1=>by
  have h1:=VM (t:=t) (o:=o) (n:=n) h j;have h2:=VL (t:=t) (o:=o) (n:=n) j h;have e:(fun k=>MG t o n k (j+1))=fun k=>MG t o n k j++(if (t.Ag.getD j default).strip=k∧0 < n then [⟨(j:Int),o,n⟩] else []):=funext fun k=>Ih t o n k j
  rw [e,Ky];omega
theorem XG {t:Ac} (hT:Ar t=0) {o n:Int} {way:List Int} (ho:0≤o∧o < (t.Ae.length:Int)) (hn:n≤40) (hw:way.Nodup):Dh t (JR t o n way)=0:=by
 have h1:=VM (t:=t) (o:=o) (n:=n) hw t.Ag.length;have h6:t.Ag.length≤6:=by obtain ⟨_,_,_,_,_,_,_,h6,_⟩:=Bh hT;exact h6
 unfold Dh;rw [if_neg (by rw [hT];simp),if_neg (by unfold JR;omega)];exact Kq (Zp ho hn)
theorem Sm {t:Ac} {o n k:Int} (i:Nat):∀ j:Nat,AC (MG t o n k j) ((i:Int),o)=if i < j∧(t.Ag.getD i default).strip=k∧0 < n then n else 0
 | 0=>by simp [MG,AC]
 | j+1=>by
  rw [Ih,FV,Sm i j]
  by_cases c:(t.Ag.getD j default).strip=k∧0 < n
  ·rw [if_pos c]
   by_cases e:i=j
   ·subst e;rw [if_neg (by omega),if_pos ⟨by omega,c.1,c.2⟩];simp [AC]
   ·simp only [AC];rw [if_neg (show ¬ ((j:Int),o)=((i:Int),o) by simp;omega)]
    by_cases e2:i < j∧(t.Ag.getD i default).strip=k∧0 < n
    ·rw [if_pos e2,if_pos ⟨by omega,e2.2⟩];omega
    ·rw [if_neg e2,if_neg (fun h=>e2 ⟨by omega,h.2⟩)];omega
  ·rw [if_neg c];simp only [AC,Int.add_zero]
   by_cases e:i=j
   ·subst e;rw [if_neg (by omega),if_neg (fun h=>c h.2)]
   ·by_cases e2:i < j∧(t.Ag.getD i default).strip=k∧0 < n
    ·rw [if_pos e2,if_pos ⟨by omega,e2.2⟩]
    ·rw [if_neg e2,if_neg (fun h=>e2 ⟨by omega,h.2⟩)]
theorem VK {t:Ac} {o n:Int} {i:Nat} (hi:i < t.Ag.length) (hn:0≤n):∀ {x:List Int},x.Nodup→AC (JR t o n x) ((i:Int),o)=if (t.Ag.getD i default).strip∈x then n else 0
 | [],_=>by simp [JR,AC]
 | k :: x,h=>by
  have h1:JR t o n (k :: x)=MG t o n k t.Ag.length++JR t o n x:=by simp [JR]
  rw [h1,FV,Sm,VK hi hn (List.nodup_cons.1 h).2]
  by_cases c:(t.Ag.getD i default).strip=k
  ·have hx:¬ (t.Ag.getD i default).strip∈x:=by rw [c];exact (List.nodup_cons.1 h).1
   rw [if_neg hx,if_pos (show (t.Ag.getD i default).strip∈k :: x by rw [c];simp)]
   by_cases hp:0 < n
   ·rw [if_pos ⟨hi,c,hp⟩];omega
   ·rw [if_neg (fun h=>hp h.2.2)];omega
  ·rw [if_neg (fun h=>c h.2.1)]
   by_cases hx:(t.Ag.getD i default).strip∈x
   ·rw [if_pos hx,if_pos (List.mem_cons_of_mem _ hx)];omega
   ·rw [if_neg hx,if_neg (fun h=>by rcases List.mem_cons.1 h with h | h;exact c h;exact hx h)];omega
theorem VN {t:Ac} (hT:Ar t=0) {o:Nat} {n:Int} {way:List Int} (ho:o < t.Ae.length) (h0:0≤n) (hw:way.Nodup):Hy t (JR t (o:Int) n way) o=D7 t way o n:=by
 unfold Hy NM D7
 congr 1
 refine JG _ fun i hi =>?_
 unfold atL Hl;rw [VK hi h0 hw]
 by_cases c:(t.Ag.getD i default).strip∈way
 ·rw [if_pos c,if_pos c]
 ·rw [if_neg c,if_neg c];obtain ⟨_,_,_,_,_,hp,_⟩:=Bh hT
  have hf:0≤(t.Ae.getD o default).free:=by
   have h1:=(List.all_eq_true.1 hp) _ (getD_mem ho);simp only [A8,Bool.and_eq_true] at h1;exact (Aj.1 h1.2).1
  unfold ofV;rw [if_neg (show ¬ (t.Ae.getD o default).free < 0 by omega)];simp
theorem P6 {t:Ac} (hT:Ar t=0) {o:Nat} {way:List Int} (ho:o < t.Ae.length):D7 t way o 0=0:=by
 obtain ⟨_,_,_,_,_,hp,_⟩:=Bh hT
 have hf:0≤(t.Ae.getD o default).free:=by
  have h1:=(List.all_eq_true.1 hp) _ (getD_mem ho);simp only [A8,Bool.and_eq_true] at h1;exact (Aj.1 h1.2).1
 have h1:Gw (Hl t way o 0) t.Ag.length=Gw (fun _=>0) t.Ag.length:=JG _ fun i _=>by
  unfold Hl ofV;rw [if_neg (show ¬ (t.Ae.getD o default).free < 0 by omega)];simp
 have h2:∀ n:Nat,Gw (fun _=>0) n=0:=fun n=>by induction n with | zero=>rfl | succ n ih=>show Gw _ n+0=0;rw [ih];rfl
 unfold D7;rw [h1,h2];rfl
end
section
open Go.RowKit
end
section
open Go Go.Conc Go.RowKit
structure Yy (x:World) (B:Nat) (v1:Value) (l1:List Au) (v2:Value) (l2:List Au):Prop where
 h1:Dl x B v1 l1
 h2:Dl x B v2 l2
 ne:∀ g,v1.ownBlock=some g→v2.ownBlock≠some g
section
variable {x x' w:World} {B b m:Nat} {v1 v2 v:Value} {l1 l2 l:List Au} {cs:Array Value} {e:TypeId} {r:Option Nat}
theorem Yy.nil:Yy x B (.slice none 0 0) [] (.slice none 0 0) []:=⟨AX.nil,AX.nil,fun g h=>by simp [Value.ownBlock] at h⟩
end
section
variable {w:World} {a b n:Nat} {f g:Nat→Int}
end
section
variable {w:World} {t:Ac} {s:DT} {l:List Au} {la:Option Addr} {lc:Nat}
end
end
section
open Go Go.Conc Go.RowKit
section
variable {w:World} {t:Ac} {s:DT} {fr N:Int} {way:List Int} {wa:Option Addr} {wc:Nat}
theorem Zk {o:Nat} {c H:Int} (hT:CZ w t s) (hw:AP w wa way) (hwc:way.length≤wc) (hwl:way.length≤8) (hc:Hid (EU t fr way (o:Int) c=(H,0))):Calls Try.prog 25 #[.agg (EY t s), .int .i64 fr, .slice wa way.length wc, .int .i64 (o:Int), .int .i64 c] w (fun e w'=>e = .returned (.tuple #[.int .i64 H, .int .i64 0])∧Below w.heap.size w w'):=by
 have h:=PW (from_:=fr) (o:=(o:Int)) (c:=c) hT hw hwc (by omega);rw [hc.out] at h;exact h
end
theorem QW {t:Ac} (hT:Ar t=0) {x:List Int} {a b c:Int} {o:Nat} (h:Chain t x a b) (hn:x.Nodup) (ha:0≤a∧a < t.roads.stages) (h8:x.length≤8) (ho:o < t.Ae.length) (hc:0≤c):EU t a x (o:Int) c=(headGo (D7 t x o) c 40,0):=by
 unfold EU;rw [Rx hT h hn ha h8];rw [if_pos rfl,if_pos (Aj.2 (by omega)),if_neg (by omega)]
 rfl
theorem QV {t:Ac} (hT:Ar t=0) {x:List Int} {c:Int} {o:Nat} (hn:x.Nodup) (ho:o < t.Ae.length) (hc:0≤c) {H:Int} (hH:H=headGo (D7 t x o) c 40) :
  (0≤H∧H≤40)∧Hy t (JR t (o:Int) H x) o≤c∧(H+1≤40→¬ Hy t (JR t (o:Int) (H+1) x) o≤c):=by
 subst hH;have h1:=PZ (D7 t x o) c 40;refine ⟨h1,?_,fun h2 =>?_⟩
 ·rw [VN hT ho h1.1 hn];exact P5 (by rw [P6 hT ho];exact hc) 40
 ·rw [VN hT ho (by omega) hn];exact LK 40 _ (by omega) h2
end
section
open Go Go.Conc
open Go.RowKit
theorem Vw:Try.f5.body=some (Code.seq (Aa Try.f5 0) (Code.seq (Aa Try.f5 1) (Code.seq (Aa Try.f5 2) (Code.seq (Aa Try.f5 3) (Code.seq (Aa Try.f5 4) (Code.seq (Aa Try.f5 5) (Code.seq (Aa Try.f5 6) (Code.seq (Code.seq (Aa Try.f5 7) (Code.cond (Operand.tmp 61) (Code.seq (Aa Try.f5 8) Code.ret) Code.skip)) (Code.seq (Code.seq (Aa Try.f5 9) (Code.block 0 (Code.loop (Code.seq (Code.seq (Aa Try.f5 10) (Code.cond (Operand.tmp 69) Code.skip (Code.exit 0))) (Code.seq (Code.block 1 (Code.seq (Aa Try.f5 12) (Code.seq (Code.seq (Aa Try.f5 13) (Code.block 2 (Code.loop (Code.seq (Code.seq (Aa Try.f5 14) (Code.cond (Operand.tmp 75) Code.skip (Code.exit 2))) (Code.seq (Code.block 3 (Code.seq (Aa Try.f5 16) (Code.block 4 (Code.loop (Code.seq (Code.seq (Aa Try.f5 17) (Code.cond (Operand.tmp 82) Code.skip (Code.exit 4))) (Code.seq (Code.block 5 (Code.seq (Aa Try.f5 19) (Code.cond (Operand.tmp 101) (Aa Try.f5 20) Code.skip))) (Aa Try.f5 18))))))) (Aa Try.f5 15)))))) (Code.seq (Aa Try.f5 21) (Code.seq (Aa Try.f5 22) (Code.cond (Operand.tmp 137) (Code.seq (Aa Try.f5 23) Code.ret) Code.skip)))))) (Aa Try.f5 11)))))) (Code.seq (Aa Try.f5 24) Code.ret)))))))))):=by kernel_rfl
theorem WY {M:Machine} (w:World) (ha:Option Addr) (hn hc:Nat) (nums:List Int) (hl:AP w ha nums) (hnn:nums.length=hn) (hm:hn≤maxLen) (hlo:nums=[]∨∀ ad,ha=some ad→ad.block < w.heap.size):DL Try.prog M 5 #[.slice ha hn hc] w (fun e w'=>e = .returned (.bool true)∧Below w.heap.size w w'):=by
 have hno:J4 (bodyPost Try.prog Try.f5 (fun e w'=>e = .returned (.bool true)∧Below w.heap.size w w')):=JP (fun w h=>by cases h.1);have HL:=Lib.hid hl;have HN:=Lib.hid hnn;have HO:=Lib.hid hlo;clear hl hnn hlo;have hB0:=Below.refl w.heap.size w;refine G7 Ef Try.func5 Vw ?_ (fun w h=>by cases h.1);have Z:Sl (⟨#[.slice ha hn hc]++Array.replicate (Try.f5.ntmps-(#[.slice ha hn hc]:Array Value).size) undef,[]⟩:Act) 139 [(0, .slice ha hn hc)]:=by rw [Try.ntmps5];exact Sl.ZA _ (by omega)
 revert Z;generalize (Act.mk _ _)=a;intro Z;refine BK Ef ?_;refine wpX.of Ef ?_ (by repeat (first | assumption | apply Ap | apply Ak));refine wr ?_;refine Z.s ?_;clear Z;intro a Z;refine od ?_;refine BK Ef ?_;refine wpX.of Ef ?_ (by repeat (first | assumption | apply Ap | apply Ak));refine wr ?_;refine Z.s ?_;clear Z;intro a Z;refine og fun K hK =>?_
 have e18:=Z.g 18;unfold Oper.wp;go_simp;refine (Xv HL.out HN.out hm HO.out).mono ?_;rintro e x ⟨hb,rfl,hhb,hH,hb2⟩;replace hB0:=hB0.trans (hb2.mono hB0.size);clear hb2;clear HL HN HO;clear e18;refine Z.K hK ?_;clear Z hK;intro a Z;refine Z.s ?_;clear Z;intro a Z;refine od ?_;refine BK Ef ?_;refine wpX.of Ef ?_ (by repeat (first | assumption | apply Ap | apply Ak));refine wr ?_;refine Z.s ?_;clear Z;intro a Z;refine og fun K hK =>?_
 have e20:=Z.g 20;unfold Oper.wp;go_simp;refine (UR 7 6 hH (by omega) (by omega) (by omega)).mono ?_;rintro e x ⟨t,s,rfl,hO,hTK,hH,hE2⟩;replace hB0:=hE2.below hB0 (by omega) hB0.size;clear hE2;clear e20;refine Z.K hK ?_;clear Z hK;intro a Z;have hst:=hTK.out.st;have hlp:t.Ae.length≤3:=hTK.out.lp;have hp1:1≤t.Ae.length:=hTK.out.p1;have hlt6:t.Ag.length≤6:=hTK.out.lt;refine Z.s ?_;clear Z;intro a Z;refine Af (G:=fun W=>wpOps _ _ _ _ _ W) ?_;obtain ⟨b4,hg⟩:∃ b,b=x.heap.size:=⟨_,rfl⟩;have hh_b4:hb < b4:=by rw [hg];exact hH.lt
 have FhO_b4:=Lib.hid (hO.far (b:=b4) (by omega));intro x hz K4 hb2;rw [← hg] at Z K4;have hhB04:w.heap.size≤b4:=by rw [hg];exact hB0.size
 replace hB0:=hB0.trans (hb2.mono hB0.size);replace hH:=hH.below hb2;replace hO:=hO.below hb2;clear hz hg hb2;refine Z.rs rfl rfl rfl (GH rfl (Z.ev 4 rfl) (Z.ev 21 rfl) (by kernel_rfl) K4 rfl rfl) ?_;have hG:=Ce K4 (EY t s);have K_:=K4.setRow (EY t s);replace hB0:=Uw hB0 hG (by omega);replace hH:=hH.grown hG (by omega);replace hO:=hO.Zl hG FhO_b4.out;have K4:=K_;clear hG K_;obtain ⟨x,hx2⟩:∃ q,q=x.setRow b4 (EY t s):=⟨_,rfl⟩;rw [← hx2] at hB0 hH hO K4 ⊢;clear hx2;refine od ?_;refine BK Ef ?_;refine wpX.of Ef ?_ (by repeat (first | assumption | apply Ap | apply Ak));refine wr ?_;(iterate 3 refine Z.s ?_;clear Z;intro a Z);refine Z.rv rfl rfl rfl (by decide) (AZ rfl (Z.ev 24 rfl) Try.underlying3 rfl (K4.cell (o:=1) (v := .int .i64 t.roads.stages) rfl)) ?_;clear Z;intro a Z;refine og fun K hK =>?_
 have e25:=Z.g 25;have hw26:=IntWalk.i64_in (t.roads.stages-1) (by omega);unfold Oper.wp;go_simp;clear e25;refine Z.K hK ?_;clear Z hK;intro a Z;refine og fun K hK =>?_
 have e22:=Z.g 22;have e26:=Z.g 26;unfold Oper.wp;go_simp;refine (BX _ _ _ _ _ _ hH (by omega) ((t.roads.stages-1)) (by omega) (by omega)).mono ?_;rintro e x ⟨_,⟨z27,p27,q27,rfl⟩,rfl,hH,hE2⟩;replace hB0:=hE2.below hB0 (by omega) hB0.size;replace hO:=hO.ext hE2 (by omega);replace K4:=K4.ext hE2 (by omega);clear hE2;clear e22 e26;refine Z.K hK ?_;clear Z hK;intro a Z;refine Z.s ?_;clear Z;intro a Z;refine od ?_;refine BK Ef ?_;refine wpX.of Ef ?_ (by repeat (first | assumption | apply Ap | apply Ak));have hhb4:hb+1≤x.heap.size:=hH.lt;refine wr ?_;refine Z.s ?_;clear Z;intro a Z;refine Z.rv rfl rfl rfl (by decide) (FT rfl (Z.ev 4 rfl) Try.underlying28 rfl (by kernel_rfl) K4) ?_;clear Z;intro a Z;refine Z.s ?_;clear Z;intro a Z;refine og fun K hK =>?_
 have e29:=Z.g 29;have e30:=Z.g 30;have e31:=Z.g 31;unfold Oper.wp;go_simp;refine (Ri hH (by omega) hO (by have:=hTK.out.ls;omega)).mono ?_;rintro e x ⟨way,wa,wc,to_,rfl,hW,hwl,hwn,hch,hH,hE2⟩;replace hB0:=hE2.below hB0 (by omega) hB0.size;replace hO:=hO.ext hE2 (by omega);replace K4:=K4.ext hE2 (by omega);clear hE2;have hWc:=(CO.len hW).1;replace hW:=AX.lower hW hhb4;have HWN:=Lib.hid hwn;have HCH:=Lib.hid hch;clear hwn hch;clear e29 e30 e31;refine Z.K hK ?_;clear Z hK;intro a Z;(iterate 5 refine Z.s ?_;clear Z;intro a Z);refine od ?_;refine BK Ef ?_;refine wpX.of Ef ?_ (by repeat (first | assumption | apply Ap | apply Ak));refine wr ?_;(iterate 2 refine Z.s ?_;clear Z;intro a Z);refine Z.rv rfl rfl rfl (by decide) (AZ rfl (Z.ev 36 rfl) Try.underlying25 rfl (K4.cell (o:=4) (v := .slice s.pa t.Ae.length s.pc) rfl)) ?_;clear Z;intro a Z;refine Z.s ?_;clear Z;intro a Z;refine og fun K hK =>?_
 have e38:=Z.g 38;have hw39:=IntWalk.i64_in ((t.Ae.length:Int)-1) (by omega);unfold Oper.wp;go_simp;clear e38;refine Z.K hK ?_;clear Z hK;intro a Z;refine og fun K hK =>?_
 have e35:=Z.g 35;have e39:=Z.g 39;unfold Oper.wp;go_simp;refine (BX _ _ _ _ _ _ hH (by omega) (((t.Ae.length:Int)-1)) (by omega) (by omega)).mono ?_;rintro e x ⟨_,⟨z40,p40,q40,rfl⟩,rfl,hH,hE2⟩;replace hB0:=hE2.below hB0 (by omega) hB0.size;replace hO:=hO.ext hE2 (by omega);replace K4:=K4.ext hE2 (by omega);replace hW:=hW.ext hE2 (by omega);clear hE2;clear e35 e39;refine Z.K hK ?_;clear Z hK;intro a Z;obtain ⟨ow,rfl⟩:∃ ow:Nat,z40=(ow:Int):=⟨z40.toNat,by omega⟩;have how:ow < t.Ae.length:=by omega
 refine Z.s ?_;clear Z;intro a Z;refine og fun K hK =>?_
 have e41:=Z.g 41;unfold Oper.wp;go_simp;refine (BX _ _ _ _ _ _ hH (by omega) (25) (by omega) (by omega)).mono ?_;rintro e x ⟨_,⟨z42,p42,q42,rfl⟩,rfl,hH,hE2⟩;replace hB0:=hE2.below hB0 (by omega) hB0.size;replace hO:=hO.ext hE2 (by omega);replace K4:=K4.ext hE2 (by omega);replace hW:=hW.ext hE2 (by omega);clear hE2;clear e41;refine Z.K hK ?_;clear Z hK;intro a Z;(iterate 2 refine Z.s ?_;clear Z;intro a Z);refine od ?_;refine BK Ef ?_;refine wpX.of Ef ?_ (by repeat (first | assumption | apply Ap | apply Ak));obtain ⟨H,hHH⟩:∃ H,H=headGo (D7 t way ow) z42 40:=⟨_,rfl⟩;have HC:Hid (EU t z27 way (ow:Int) z42=(H,0)):=Lib.hid (by rw [hHH];exact QW hTK.out.ok HCH.out HWN.out (by omega) (by omega) how (by omega));have HR:=Lib.hid (QV hTK.out.ok HWN.out how (by omega) hHH);clear hHH;have hH0_:0≤H:=HR.out.1.1;have hH40:H≤40:=HR.out.1.2;have q56:¬ H < 0:=by omega
 have q60:¬ 40 < H:=by omega
 have hTT:=hO.tar;have hWI:=CO.ints hW;clear hO hH hW;refine wr ?_;refine Z.rv rfl rfl rfl (by decide) (FT rfl (Z.ev 4 rfl) Try.underlying28 rfl (by kernel_rfl) K4) ?_;clear Z;intro a Z;(iterate 4 refine Z.s ?_;clear Z;intro a Z);refine og fun K hK =>?_
 have e44:=Z.g 44;have e45:=Z.g 45;have e46:=Z.g 46;have e47:=Z.g 47;have e48:=Z.g 48;unfold Oper.wp;go_simp;refine (Zk (o:=ow) hTT hWI hWc (by omega) HC).mono ?_;rintro e x ⟨rfl,hb2⟩;replace hB0:=hB0.trans (hb2.mono hB0.size);replace K4:=K4.below hb2;replace hTT:=hTT.below hb2;replace hWI:=hWI.below hb2;clear hb2;clear e44 e45 e46 e47 e48;refine Z.K hK ?_;clear Z hK;intro a Z;(iterate 5 refine Z.s ?_;clear Z;intro a Z);refine od ?_;refine BK Ef ?_;refine wpX.of Ef ?_ (by repeat (first | assumption | apply Ap | apply Ak));refine wsr ?_;(iterate 3 refine Z.s ?_;clear Z;intro a Z);(iterate 2 refine Z.t ?_;clear Z;intro a Z);(iterate 2 refine Z.s ?_;clear Z;intro a Z);(iterate 2 refine Z.t ?_;clear Z;intro a Z);refine Z.s ?_;clear Z;intro a Z;refine od ?_;refine wp_cond_false (Z.ev 61 rfl) ?_;refine wp_skip ?_;refine BK Ef ?_;refine BK Ef ?_;refine wpX.of Ef ?_ (by repeat (first | assumption | apply Ap | apply Ak));refine wr ?_;refine Z.s ?_;clear Z;intro a Z;refine od ?_;refine O7 Ef ?_;obtain ⟨x1,hx0⟩:∃ q,q=x:=⟨_,rfl⟩;rw [← hx0] at hB0 K4 hTT hWI ⊢;clear hx0;have K40:Rw x1 b4 (EY t s) 28:=K4;have hT0:CZ x1 t s:=hTT;have hWI0:AP x1 wa way:=hWI;clear K4;clear hTT;clear hWI;have hB1:=Below.refl x1.heap.size x1
 obtain ⟨sa,sc,pa,pc,ta,tc⟩:=s;refine MJ Ef (fun n p x=>∃ mm:Nat,mm+n=2∧Sl p 139 [(12, .int .i64 (mm:Int)),(3, .pointer (some ⟨hb,0,none⟩)),(4, .pointer (some ⟨b4,0,none⟩)),(5, .int .i64 z27),(6, .slice wa way.length wc),(8, .int .i64 (ow:Int)),(9, .int .i64 z42),(10, .int .i64 H)]∧Below x1.heap.size x1 x) 2 ⟨0,by omega,Z.sb,hB1⟩ ?_;clear Z hB1;rintro n a x ⟨mm,hmn,Z,hB1⟩;have K4:=K40.below hB1;have hT:=hT0.below hB1;have hWI:=hWI0.below hB1;refine BK Ef ?_;refine wpX.of Ef ?_ (by repeat (first | assumption | apply Ap | apply Ak));refine wsr ?_;refine Z.s ?_;clear Z;intro a Z
 by_cases hm2:mm < 2
 ·have q63:(mm:Int) < 2:=by omega
  (iterate 2 refine Z.s ?_;clear Z;intro a Z);(iterate 2 refine Z.t ?_;clear Z;intro a Z);refine oW (Z.g 64) fun K hK =>?_
  have e65:=Z.g 65;have e66:=Z.g 66;have hw67:=IntWalk.i64_in (H+(mm:Int)) (by omega);unfold Oper.wp;go_simp;clear e65 e66;refine Z.K hK ?_;clear Z hK;intro a Z
  by_cases h40:H+(mm:Int)≤40
  ·have q68:H+(mm:Int)≤40:=h40;refine Z.t ?_;clear Z;intro a Z;refine Z.s ?_;clear Z;intro a Z;refine od ?_;refine wp_cond_true (Z.ev 69 rfl) ?_;refine wp_skip ?_;refine BK Ef ?_;refine O7 Ef ?_;refine BK Ef ?_;refine wpX.of Ef ?_ (by repeat (first | assumption | apply Ap | apply Ak));refine wr ?_;refine Z.s ?_;clear Z;intro a Z;refine od ?_;refine BK Ef ?_;refine wpX.of Ef ?_ (by repeat (first | assumption | apply Ap | apply Ak));refine wsr ?_;refine Z.s ?_;clear Z;intro a Z;refine od ?_;refine wp_block ?_;have hU:Dl x x1.heap.size (.slice none ([]:List Au).length 0) []:=AX.nil;have hus:Hid (([]:List Au)=JR t (ow:Int) (H+(mm:Int)) (way.take 0)):=Lib.hid rfl;refine wp_loop_ghost (fun r p x=>∃ (i:Nat) (us:List Au) (ua:Option Addr) (uc:Nat),i+r=way.length∧Hid (us=JR t (ow:Int) (H+(mm:Int)) (way.take i))∧us.length≤6*i∧Sl p 139 [(14, .int .i64 (i:Int)),(13, .slice ua us.length uc),(3, .pointer (some ⟨hb,0,none⟩)),(4, .pointer (some ⟨b4,0,none⟩)),(5, .int .i64 z27),(6, .slice wa way.length wc),(8, .int .i64 (ow:Int)),(9, .int .i64 z42),(10, .int .i64 H),(12, .int .i64 (mm:Int))]∧Below x1.heap.size x1 x∧Dl x x1.heap.size (.slice ua us.length uc) us) way.length ⟨0,[],none,0,by omega,hus,by simp,Z.sb,hB1,hU⟩ ?_
   clear Z hB1 hU hus K4 hT hWI;rintro r a x ⟨i,us,ua,uc,hir,hus,hul,Z,hB1,hU⟩;have K4:=K40.below hB1;have hT:=hT0.below hB1;have hWI:=hWI0.below hB1;refine wp_seq ?_;refine wsr ?_;(iterate 3 refine Z.s ?_;clear Z;intro a Z)
   by_cases hiw:i < way.length
   ·have q1:(i:Int) < (way.length:Int):=by omega
    refine Z.s ?_;clear Z;intro a Z;refine od ?_;refine wp_cond_true (Z.ev 75 rfl) ?_;refine wp_skip ?_;refine wp_seq ?_;refine wp_block ?_;refine wsr ?_;refine Z.s ?_;clear Z;intro a Z;refine od ?_;refine wp_block ?_;have hus2:us=JR t (ow:Int) (H+(mm:Int)) (way.take i)++MG t (ow:Int) (H+(mm:Int)) way[i] 0:=by rw [hus.out];simp [MG]
    have HUS:=Lib.hid hus2;clear hus2 hus;have hul2:us.length≤6*i+0:=by omega
    refine wp_loop_ghost (fun m p x=>∃ (k:Nat) (us:List Au) (ua:Option Addr) (uc:Nat),k+m=t.Ag.length∧Hid (us=JR t (ow:Int) (H+(mm:Int)) (way.take i)++MG t (ow:Int) (H+(mm:Int)) way[i] k)∧us.length≤6*i+k∧Sl p 139 [(15, .int .i64 (k:Int)),(13, .slice ua us.length uc),(3, .pointer (some ⟨hb,0,none⟩)),(4, .pointer (some ⟨b4,0,none⟩)),(5, .int .i64 z27),(6, .slice wa way.length wc),(8, .int .i64 (ow:Int)),(9, .int .i64 z42),(10, .int .i64 H),(12, .int .i64 (mm:Int)),(14, .int .i64 (i:Int))]∧Below x1.heap.size x1 x∧Dl x x1.heap.size (.slice ua us.length uc) us) t.Ag.length ⟨0,us,ua,uc,by omega,HUS,hul2,Z.sb,hB1,hU⟩ ?_;clear Z hB1 hU HUS hul hul2 us ua uc K4 hT hWI;rintro m a x ⟨k,us,ua,uc,hkm,hus,hul,Z,hB1,hU⟩;have K4:=K40.below hB1;have hT:=hT0.below hB1;have hWI:=hWI0.below hB1;refine wp_seq ?_;refine wsr ?_;(iterate 2 refine Z.s ?_;clear Z;intro a Z);refine Z.rv rfl rfl rfl (by decide) (AZ rfl (Z.ev 79 rfl) Try.underlying26 rfl (K4.cell (o:=5) (v := .slice ta t.Ag.length tc) rfl)) ?_;clear Z;intro a Z;refine Z.s ?_;clear Z;intro a Z
    by_cases hkt:k < t.Ag.length
    ·have q1:(k:Int) < (t.Ag.length:Int):=by omega
     refine Z.s ?_;clear Z;intro a Z;refine od ?_;refine wp_cond_true (Z.ev 82 rfl) ?_;refine wp_skip ?_;refine wp_seq ?_;refine wp_block ?_;refine wp_seq ?_
     obtain ⟨qb,qo,hqa,cw0⟩:∃ qb qo,wa=some ⟨qb,qo,none⟩∧x1.cell? ⟨qb,qo+i,none⟩=some (.int .i64 way[i]):=by
      rcases hWI0 with h0 | ⟨qb,qo,h1,h2⟩
      ·rw [h0] at hiw;simp at hiw
      ·exact ⟨qb,qo,h1,h2 i hiw⟩
     subst hqa;have cw:=Be hB1 cw0;obtain ⟨tb,to2,hta,ct0,_⟩:=hT0.Ag.at hkt;replace hta:ta=some ⟨tb,to2,none⟩:=hta;subst hta;have ct:=Be hB1 ct0;simp only [Om] at ct;have qi:(i:Int) < (way.length:Int):=by omega
     have qk:(k:Int) < (t.Ag.length:Int):=by omega
     refine Oa rfl (by kernel_rfl) (by kernel_rfl) ?_;refine Z.u ?_;clear Z;intro a Z;refine Z.q rfl rfl rfl (by decide) ⟨?_,fun y hy K hK =>?_,?_⟩;rotate_left
     ·have e85:=Z.g 85;replace hB1:=hB1.trans (hy.mono hB1.size);replace hU:=hU.below hy;replace K4:=K4.below hy;replace hT:=hT.below hy;replace hWI:=hWI.below hy;replace cw:=Be hy cw;replace ct:=Be hy ct;refine DJ (AZ rfl (Z.ev 85 rfl) Try.underlying26 rfl (K4.cell (o:=5) (v := .slice (some ⟨tb,to2,none⟩) t.Ag.length tc) rfl)) ?_;exact hK
     clear Z;intro a Z;(iterate 3 refine Z.u ?_;clear Z;intro a Z);refine Z.q rfl rfl rfl (by decide) ⟨?_,fun y hy K hK =>?_,?_⟩;rotate_left
     ·have e89:=Z.g 89;replace hB1:=hB1.trans (hy.mono hB1.size);replace hU:=hU.below hy;replace K4:=K4.below hy;replace hT:=hT.below hy;replace hWI:=hWI.below hy;replace cw:=Be hy cw;replace ct:=Be hy ct;refine DJ (AZ rfl (Z.ev 89 rfl) Try.underlying3 rfl (ct)) ?_;exact hK
     clear Z;intro a Z;(iterate 3 refine Z.u ?_;clear Z;intro a Z);refine Z.q rfl rfl rfl (by decide) ⟨?_,fun y hy K hK =>?_,?_⟩;rotate_left
     ·have e93:=Z.g 93;replace hB1:=hB1.trans (hy.mono hB1.size);replace hU:=hU.below hy;replace K4:=K4.below hy;replace hT:=hT.below hy;replace hWI:=hWI.below hy;replace cw:=Be hy cw;replace ct:=Be hy ct;refine DJ (AZ rfl (Z.ev 93 rfl) Try.underlying3 rfl (cw)) ?_;exact hK
     clear Z;intro a Z
     by_cases he:t.Ag[k].strip=way[i]
     ·have q95:(t.Ag[k].strip == way[i])=true:=by simp [he]
      have HE:=Lib.hid he;clear he;(iterate 2 refine Z.u ?_;clear Z;intro a Z);refine Z.uw ?_;clear Z;intro a Z;refine Z.uw ?_;clear Z;intro a Z;refine Z.qw rfl rfl rfl rfl rfl rfl (by decide) ⟨?_,fun y hy K hK =>?_,?_⟩;rotate_left
      ·have e97:=Z.g 97;have e98:=Z.g 98;have hw99:=IntWalk.i64_in (H+(mm:Int)) (by omega);unfold Oper.FD;go_simp;exact hK
      clear Z;intro a Z
      by_cases hp:0 < H+(mm:Int)
      ·have q100:0 < H+(mm:Int):=hp;refine Z.uw ?_;clear Z;intro a Z;refine Z.u ?_;clear Z;intro a Z;refine Ia ?_;intro x hb2;replace hB1:=hB1.trans (hb2.mono hB1.size);replace hU:=hU.below hb2;replace K4:=K4.below hb2;replace hT:=hT.below hb2;replace hWI:=hWI.below hb2;replace cw:=Be hb2 cw;replace ct:=Be hb2 ct;clear hb2;refine wp_cond_true (Z.ev 101 rfl) ?_;refine wr ?_;(iterate 5 refine Z.s ?_;clear Z;intro a Z);refine og fun K hK =>?_
       have e105:=Z.g 105;have e106:=Z.g 106;have hw107:=IntWalk.i64_in (H+(mm:Int)) (by omega);unfold Oper.wp;go_simp;clear e105 e106;refine Z.K hK ?_;clear Z hK;intro a Z;(iterate 2 refine Z.s ?_;clear Z;intro a Z);refine Af (G:=fun W=>wpOps _ _ _ _ _ W) ?_;obtain ⟨b109,hg⟩:∃ b,b=x.heap.size:=⟨_,rfl⟩;intro x hz K109 hb2;rw [← hg] at Z K109;have hhB1109:x1.heap.size≤b109:=by rw [hg];exact hB1.size
       have h4_109:b4 < b109:=by rw [hg];exact K4.lt
       replace hB1:=hB1.trans (hb2.mono hB1.size);replace hU:=hU.below hb2;replace K4:=K4.below hb2;replace hT:=hT.below hb2;replace hWI:=hWI.below hb2;replace cw:=Be hb2 cw;replace ct:=Be hb2 ct;clear hz hg hb2;refine og fun K hK =>?_
       have e102:=Z.g 102;have e109:=Z.g 109;refine O6 (k:=3) (A:=some ⟨b109,0,none⟩) (c:=1) (ys:=[(⟨(k:Int),(ow:Int),(H+(mm:Int))⟩:Au)]) 48 (.tmp 102) (.tmp 109) Try.underlying48 (z := .agg #[.int .i64 0, .int .i64 0, .int .i64 0]) (bytes:=24) (by kernel_rfl) rfl (by decide) (by decide) rfl (by simp [Act.eval,Array.getD_eq_getD_getElem?,e102]) hU (by simp [Act.eval,Array.getD_eq_getD_getElem?,e109]) (YK (f:=ND) K109 (by rfl)) (fun _=>rfl) (TC _) (by simp;omega) (hB1.size) ?_;intro v_ xx hU2 hG _ _;replace hB1:=hB1.grown hG hB1.size (fun k_ hk_=>(hU.Ai hk_).1);obtain ⟨ua2,uc2,rfl,_,_,_⟩:=hU2.cells (fun _=>rfl);clear hG hU K4 hT hWI cw ct K109;have hU:=hU2;clear hU2;obtain ⟨x,hx2⟩:∃ x,x=xx:=⟨_,rfl⟩;rw [← hx2] at hB1 hU ⊢;clear hx2;have K4:=K40.below hB1;have hT:=hT0.below hB1;have hWI:=hWI0.below hB1;clear e102 e109;refine Z.K hK ?_;clear Z hK;intro a Z;refine Z.s ?_;clear Z;intro a Z;refine od ?_;refine wr ?_;refine Z.s ?_;clear Z;intro a Z;refine og fun K hK =>?_
       have e83:=Z.g 83;have hw84:=IntWalk.i64_in ((k:Int)+1) (by omega);unfold Oper.wp;go_simp;clear e83;refine Z.K hK ?_;clear Z hK;intro a Z;refine Z.s ?_;clear Z;intro a Z;refine od ?_;have ek:t.Ag.getD k default=t.Ag[k]:=by simp [List.getD_eq_getElem?_getD,hkt]
       have hus3:us++[(⟨(k:Int),(ow:Int),(H+(mm:Int))⟩:Au)]=JR t (ow:Int) (H+(mm:Int)) (way.take i)++MG t (ow:Int) (H+(mm:Int)) way[i] (k+1):=by rw [Ih,ek,if_pos ⟨HE.out,hp⟩,← List.append_assoc,← hus.out]
       have HU3:=Lib.hid hus3;exact ⟨m-1,by omega,k+1,_,ua2,uc2,by omega,HU3,by simp only [List.length_append,List.length_cons,List.length_nil];omega,Z.sb,hB1,hU⟩
      ·have q100:¬ 0 < H+(mm:Int):=hp;refine Z.uw ?_;clear Z;intro a Z;refine Z.u ?_;clear Z;intro a Z;refine Ia ?_;intro x hb2;replace hB1:=hB1.trans (hb2.mono hB1.size);replace hU:=hU.below hb2;replace K4:=K4.below hb2;replace hT:=hT.below hb2;replace hWI:=hWI.below hb2;replace cw:=Be hb2 cw;replace ct:=Be hb2 ct;clear hb2;refine wp_cond_false (Z.ev 101 rfl) ?_;refine wp_skip ?_;refine wr ?_;refine Z.s ?_;clear Z;intro a Z;refine og fun K hK =>?_
       have e83:=Z.g 83;have hw84:=IntWalk.i64_in ((k:Int)+1) (by omega);unfold Oper.wp;go_simp;clear e83;refine Z.K hK ?_;clear Z hK;intro a Z;refine Z.s ?_;clear Z;intro a Z;refine od ?_;have ek:t.Ag.getD k default=t.Ag[k]:=by simp [List.getD_eq_getElem?_getD,hkt]
       have hus3:us=JR t (ow:Int) (H+(mm:Int)) (way.take i)++MG t (ow:Int) (H+(mm:Int)) way[i] (k+1):=by rw [Ih,ek,if_neg (fun h=>hp h.2),List.append_nil,← hus.out]
       have HU3:=Lib.hid hus3;exact ⟨m-1,by omega,k+1,us,ua,uc,by omega,HU3,by omega,Z.sb,hB1,hU⟩
     ·have q95:(t.Ag[k].strip == way[i])=false:=by simp [he]
      have HE:=Lib.hid he;clear he;(iterate 2 refine Z.u ?_;clear Z;intro a Z);refine Z.un ?_;clear Z;intro a Z;refine Z.un ?_;clear Z;intro a Z;refine Z.un ?_;clear Z;intro a Z;refine Z.un ?_;clear Z;intro a Z;refine Z.u ?_;clear Z;intro a Z;refine Ia ?_;intro x hb2;replace hB1:=hB1.trans (hb2.mono hB1.size);replace hU:=hU.below hb2;replace K4:=K4.below hb2;replace hT:=hT.below hb2;replace hWI:=hWI.below hb2;replace cw:=Be hb2 cw;replace ct:=Be hb2 ct;clear hb2;refine wp_cond_false (Z.ev 101 rfl) ?_;refine wp_skip ?_;refine wr ?_;refine Z.s ?_;clear Z;intro a Z;refine og fun K hK =>?_
      have e83:=Z.g 83;have hw84:=IntWalk.i64_in ((k:Int)+1) (by omega);unfold Oper.wp;go_simp;clear e83;refine Z.K hK ?_;clear Z hK;intro a Z;refine Z.s ?_;clear Z;intro a Z;refine od ?_;have ek:t.Ag.getD k default=t.Ag[k]:=by simp [List.getD_eq_getElem?_getD,hkt]
      have hus3:us=JR t (ow:Int) (H+(mm:Int)) (way.take i)++MG t (ow:Int) (H+(mm:Int)) way[i] (k+1):=by rw [Ih,ek,if_neg (fun h=>HE.out h.1),List.append_nil,← hus.out]
      have HU3:=Lib.hid hus3;exact ⟨m-1,by omega,k+1,us,ua,uc,by omega,HU3,by omega,Z.sb,hB1,hU⟩
    ·have q1:¬ (k:Int) < (t.Ag.length:Int):=by omega
     obtain rfl:k=t.Ag.length:=by omega
     refine Z.s ?_;clear Z;intro a Z;refine od ?_;refine wp_cond_false (Z.ev 82 rfl) ?_;refine wp_exit ?_;have hus2:us=JR t (ow:Int) (H+(mm:Int)) (way.take i)++MG t (ow:Int) (H+(mm:Int)) way[i] t.Ag.length:=hus.out;refine wr ?_;refine Z.s ?_;clear Z;intro a Z;refine og fun K hK =>?_
     have e76:=Z.g 76;have hw77:=IntWalk.i64_in ((i:Int)+1) (by omega);unfold Oper.wp;go_simp;clear e76;refine Z.K hK ?_;clear Z hK;intro a Z;refine Z.s ?_;clear Z;intro a Z;refine od ?_;have hus2:us=JR t (ow:Int) (H+(mm:Int)) (way.take (i+1)):=by rw [hus.out,VP _ _ _ hiw]
     have HUS:=Lib.hid hus2;exact ⟨r-1,by omega,i+1,us,ua,uc,by omega,HUS,by omega,Z.sb,hB1,hU⟩
   ·have q1:¬ (i:Int) < (way.length:Int):=by omega
    obtain rfl:i=way.length:=by omega
    refine Z.s ?_;clear Z;intro a Z;refine od ?_;refine wp_cond_false (Z.ev 75 rfl) ?_;refine wp_exit ?_;have huw:us=(JR t (ow:Int) (H+(mm:Int)) way):=by rw [hus.out,List.take_length]
    clear hus;have hus:=Lib.hid huw;clear huw;have hopen:Hid (Dh t us=0):=Lib.hid (by rw [hus.out];exact XG hTK.out.ok (by omega) (by omega) HWN.out);have hU2:=Dl.pass hU;clear hU;have hU:=hU2;clear hU2;refine BK Ef ?_;refine Oc Ef (by repeat (first | assumption | apply Ap | apply Ak)) rfl ?_;refine Z.rvX rfl rfl rfl (by decide) (FT rfl (Z.ev 4 rfl) Try.underlying28 rfl (by kernel_rfl) K4) ?_;clear Z;intro a Z;refine Cm rfl rfl (fun K hK =>?_);have e13:=Z.g 13;unfold Oper.wp;go_simp;clear e13;refine Z.kX hK (by decide) ?_;clear Z hK;intro a Z;have e112:=Z.g 112;have e113:=Z.g 113;refine Ls rfl rfl rfl Try.func30 (by kernel_rfl) (by kernel_rfl) (args:=#[.agg (EY t ⟨sa,sc,pa,pc,ta,tc⟩), .slice ua us.length uc]) (by simp [Act.eval,Array.getD_eq_getD_getElem?,e112,e113]) (Aaz (s:=⟨sa,sc,pa,pc,ta,tc⟩) hT hU hopen) ?_;clear e112 e113;rintro e x ⟨hb2,gA,rfl,hggA,hA⟩;replace hB1:=hB1.trans (hb2.mono hB1.size);replace hU:=hU.below hb2;replace K4:=K4.below hb2;replace hT:=hT.below hb2;replace hWI:=hWI.below hb2;clear hb2;refine ⟨_,rfl,?_⟩;refine Z.goX (by decide) ?_;clear Z;intro a Z;refine Cm rfl rfl (fun K hK =>?_);have e114:=Z.g 114;unfold Oper.wp;go_simp;clear e114;refine Z.kX hK (by decide) ?_;clear Z hK;intro a Z;refine Cm rfl rfl (fun K hK =>?_);have e111:=Z.g 111
    unfold Oper.wp;go_simp;clear e111;refine Z.kX hK (by decide) ?_;clear Z hK;intro a Z;refine Cm rfl rfl (fun K hK =>?_);have e111:=Z.g 111;unfold Oper.wp;go_simp;clear e111;refine Z.kX hK (by decide) ?_;clear Z hK;intro a Z;refine Cm rfl rfl (fun K hK =>?_);have e115:=Z.g 115;unfold Oper.wp;go_simp;clear e115;refine Z.kX hK (by decide) ?_;clear Z hK;intro a Z;refine Cm rfl rfl (fun K hK =>?_);have e116:=Z.g 116;unfold Oper.wp;go_simp;clear e116;refine Z.kX hK (by decide) ?_;clear Z hK;intro a Z;refine Ib ?_;refine wpX.of Ef ?_ (by repeat (first | assumption | apply Ap | apply Ak));refine wsr ?_;(iterate 3 refine Z.s ?_;clear Z;intro a Z);(iterate 3 refine Z.t ?_;clear Z;intro a Z);refine oW (Z.g 119) fun K hK =>?_
    have e122:=Z.g 122;have c4:=K4.cell (o:=4) rfl;unfold Oper.wp;go_simp;clear e122;refine Z.K hK ?_;clear Z hK;intro a Z;(iterate 2 refine Z.t ?_;clear Z;intro a Z);(iterate 2 refine Z.s ?_;clear Z;intro a Z);(iterate 3 refine Z.t ?_;clear Z;intro a Z);refine oW (Z.g 127) fun K hK =>?_
    have e130:=Z.g 130;have chA:=Xz hA (i:=ow) (how);unfold Oper.wp;go_simp;clear e130;refine Z.K hK ?_;clear Z hK;intro a Z;refine Z.t ?_;clear Z;intro a Z
    by_cases hm0:mm=0
    ·have q133:Hy t us ow≤z42:=by rw [hus.out];subst hm0;rw [show H+((0:Nat):Int)=H by omega];exact HR.out.2.1
     have q135:((mm:Int) == 0)=true:=by rw [beq_iff_eq];omega
     clear hm0;(iterate 4 refine Z.t ?_;clear Z;intro a Z);refine Z.s ?_;clear Z;intro a Z;refine od ?_;refine wp_cond_false (Z.ev 137 rfl) ?_;refine wp_skip ?_;refine wpX.of Ef ?_ (by repeat (first | assumption | apply Ap | apply Ak));refine wr ?_;refine Z.s ?_;clear Z;intro a Z;refine og fun K hK =>?_
     have e70:=Z.g 70;have hw71:=IntWalk.i64_in ((mm:Int)+1) (by omega);unfold Oper.wp;go_simp;clear e70;refine Z.K hK ?_;clear Z hK;intro a Z;refine Z.s ?_;clear Z;intro a Z;refine od ?_;exact ⟨n-1,by omega,mm+1,by omega,Z.sb,hB1⟩
    ·have q133:¬ Hy t us ow≤z42:=by rw [hus.out];obtain rfl:mm=1:=(by omega);exact HR.out.2.2 (by omega)
     have q135:((mm:Int) == 0)=false:=by rw [beq_eq_false_iff_ne];omega
     clear hm0;(iterate 4 refine Z.t ?_;clear Z;intro a Z);refine Z.s ?_;clear Z;intro a Z;refine od ?_;refine wp_cond_false (Z.ev 137 rfl) ?_;refine wp_skip ?_;refine wpX.of Ef ?_ (by repeat (first | assumption | apply Ap | apply Ak));refine wr ?_;refine Z.s ?_;clear Z;intro a Z;refine og fun K hK =>?_
     have e70:=Z.g 70;have hw71:=IntWalk.i64_in ((mm:Int)+1) (by omega);unfold Oper.wp;go_simp;clear e70;refine Z.K hK ?_;clear Z hK;intro a Z;refine Z.s ?_;clear Z;intro a Z;refine od ?_;exact ⟨n-1,by omega,mm+1,by omega,Z.sb,hB1⟩
  ·have q68:¬ H+(mm:Int)≤40:=h40;refine Z.t ?_;clear Z;intro a Z;refine Z.s ?_;clear Z;intro a Z;refine od ?_;refine wp_cond_false (Z.ev 69 rfl) ?_;refine wp_exit ?_;refine BK Ef ?_;refine Oc Ef (by repeat (first | assumption | apply Ap | apply Ak)) rfl ?_;refine Ls rfl rfl rfl Try.func18 (by kernel_rfl) (by kernel_rfl) (args:=#[]) (by simp [Act.eval,Array.getD_eq_getD_getElem?]) (Ll) ?_;rintro e x ⟨rfl,hb2⟩;replace hB1:=hB1.trans (hb2.mono hB1.size);replace K4:=K4.below hb2;replace hT:=hT.below hb2;replace hWI:=hWI.below hb2;clear hb2;refine ⟨_,rfl,?_⟩;refine Z.goX (by decide) ?_;clear Z;intro a Z;refine Cm rfl rfl (fun K hK =>?_);have e138:=Z.g 138;unfold Oper.wp;go_simp;clear e138;refine Z.kX hK (by decide) ?_;clear Z hK;intro a Z;refine Ib ?_;refine wpX.of Ef ?_ (by repeat (first | assumption | apply Ap | apply Ak));refine wp_ret ?_
   try simp only [Exit.then,Exit.inBlock]
   refine bodyPost_ret (v := .bool true) ?_ Z.defers ⟨rfl,hB0.trans (hB1.mono hB0.size)⟩;simp [results,Try.results5,Z.get 2 _ rfl]
 ·have q63:¬ (mm:Int) < 2:=by omega
  (iterate 2 refine Z.s ?_;clear Z;intro a Z);refine Z.z ?_;clear Z;intro a Z;refine Z.z ?_;clear Z;intro a Z;refine Z.z ?_;clear Z;intro a Z;refine Z.z ?_;clear Z;intro a Z;refine Z.s ?_;clear Z;intro a Z;refine od ?_;refine wp_cond_false (Z.ev 69 rfl) ?_;refine wp_exit ?_;refine BK Ef ?_;refine Oc Ef (by repeat (first | assumption | apply Ap | apply Ak)) rfl ?_;refine Ls rfl rfl rfl Try.func18 (by kernel_rfl) (by kernel_rfl) (args:=#[]) (by simp [Act.eval,Array.getD_eq_getD_getElem?]) (Ll) ?_;rintro e x ⟨rfl,hb2⟩;replace hB1:=hB1.trans (hb2.mono hB1.size);replace K4:=K4.below hb2;replace hT:=hT.below hb2;replace hWI:=hWI.below hb2;clear hb2;refine ⟨_,rfl,?_⟩;refine Z.goX (by decide) ?_;clear Z;intro a Z;refine Cm rfl rfl (fun K hK =>?_);have e138:=Z.g 138;unfold Oper.wp;go_simp;clear e138;refine Z.kX hK (by decide) ?_;clear Z hK;intro a Z;refine Ib ?_;refine wpX.of Ef ?_ (by repeat (first | assumption | apply Ap | apply Ak));refine wp_ret ?_
  try simp only [Exit.then,Exit.inBlock]
  refine bodyPost_ret (v := .bool true) ?_ Z.defers ⟨rfl,hB0.trans (hB1.mono hB0.size)⟩;simp [results,Try.results5,Z.get 2 _ rfl]
end
section
open Go Go.Conc Go.RowKit
theorem VC {w W:World} {a:Option Addr} {l:List Int} (hh:w.heap=W.heap) (h:AP W a l):AP w a l:=by
 rcases h with h | ⟨b,o,e,h⟩
 ·exact .inl h
 ·exact .inr ⟨b,o,e,fun i hi=>by simpa [World.cell?,hh] using h i hi⟩
theorem U5 {w:World} {a:Option Addr} {len cap:Nat} {zs:List Int}
  (h:(a=none∧len=0∧cap=0∧zs=[])∨∃ x,a=some x∧len≤cap∧cap≤maxLen∧zs.length=cap∧(∀ i,i < zs.length→w.cell? (x.add i)=some (.int .i64 (zs.getD i 0)))∧∀ n∈zs,(Lit.int .i64 n).wf=true) :
  ∃ l:List Int,AP w a l∧l.length=len∧len≤maxLen∧(l=[]∨∀ ad,a=some ad→ad.block < w.heap.size):=by
 rcases h with ⟨rfl,rfl,rfl,rfl⟩ | ⟨x,rfl,h1,h2,h3,h4,_⟩
 ·exact ⟨[], .inl rfl,rfl,Nat.zero_le _, .inl rfl⟩
 ·by_cases h0:len=0
  ·exact ⟨[], .inl rfl,h0.symm,by omega, .inl rfl⟩
  ·obtain ⟨b,o,sp⟩:=x;have c0:=h4 0 (by omega)
   have hsp:sp=none:=by
    cases sp with
    | none=>rfl
    | some y =>
     simp only [Addr.add,if_true,World.cell?] at c0
     split at c0 <;> simp at c0
   subst hsp
   have key:∀ i,i < zs.length→w.cell? ⟨b,o+i,none⟩=some (.int .i64 (zs.getD i 0)):=fun i hi=>by
    have:=h4 i hi
    rwa [show (⟨b,o,none⟩:Addr).add i=⟨b,o+i,none⟩ by simp only [Addr.add];split <;> simp_all] at this
   refine ⟨zs.take len, .inr ⟨b,o,rfl,fun i hi =>?_⟩,by rw [List.length_take];omega,by omega, .inr fun ad e=>by cases e;exact lt_of_cell (key 0 (by omega))⟩;rw [List.length_take] at hi;rw [key i (by omega),List.getElem_take,List.getD_eq_getElem?_getD,List.getElem?_eq_getElem (by omega)];rfl
theorem Uu {W w w' W':World} (h:Below w.heap.size w w') (hh:w.heap=W.heap) (ho:w.os=W.os) (hu:w.output=W.output) (hh':W'.heap=w'.heap) (ho':W'.os=w'.os) (hu':W'.output=w'.output):Below W.heap.size W { W' with tape:=W.tape } :=
 ⟨ho'.trans (h.os.trans ho),rfl,hu'.trans (h.output.trans hu),by show W.heap.size≤W'.heap.size;rw [hh',← hh];exact h.size,fun k hk=>by show W'.heap[k]? = _;rw [hh',← hh];exact h.block k (by rw [hh];exact hk)⟩
theorem Xu {f:FuncId} {args:Array Value} {W:World} {Post:Value→World→Prop} (hi:Try.prog.inits.idxOf? f=none)
  (h:∀ (M:Machine) (w:World),w.heap=W.heap→DL Try.prog M f args w (fun e w'=>e = .returned (.bool true)∧Below w.heap.size w w'))
  (hp:∀ W':World,Below W.heap.size W { W' with tape:=W.tape }→Post (.bool true) W') :
  ∃ N last o w' t',runNT Try.prog (N+1) (solo (G (Frame.enter Try.prog f args .normal) []) W) #[]=(.ended o w',t')∧runN Try.prog N (solo (G (Frame.enter Try.prog f args .normal) []) W) = .next last∧step Try.prog last = .ended o w'∧Conc.Good Try.prog Post last o w' t':=by
 refine Xd (R:=fun e w'=>e = .returned (.bool true)∧∃ w:World,w.heap=W.heap∧w.os=W.os∧w.output=W.output∧Below w.heap.size w w') Ef hi (fun M w hh ho hu=>(h M w hh).mono fun e w' hx=>⟨hx.1,w,hh,ho,hu,hx.2⟩) ?_;rintro e w' ⟨rfl,w,hh,ho,hu,hb⟩;exact ⟨_,rfl,fun W' h1 h2 h3=>hp W' (Uu hb hh ho hu h1 h2 h3)⟩
end
end Go.Proofs.Ytgdobbcjkiapkaa
