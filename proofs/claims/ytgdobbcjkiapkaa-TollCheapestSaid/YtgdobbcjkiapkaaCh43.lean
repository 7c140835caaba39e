import Derived.Test.YtgdobbcjkiapkaaCh42
import Derived.Test.YtgdobbcjkiapkaaCh04
import Derived.Test.YtgdobbcjkiapkaaCh25
import Derived.Test.YtgdobbcjkiapkaaCh34
namespace Go.Proofs.Ytgdobbcjkiapkaa
set_option maxRecDepth 100000
set_option maxHeartbeats 4000000
set_option linter.unusedSimpArgs false
set_option linter.unusedVariables false
section
open Go Go.RowKit
def slC (p:Option Addr×Nat×Nat):List Value:=[.slice p.1 p.2.1 p.2.2]
def DV (w:World) (B:Nat) (v:Value) (L:List (List Int)):Prop :=
 ∃ xs,AC slC 29 1 w B v xs∧xs.length=L.length∧∀ (i:Nat) (h:i < L.length),∃ a c,xs[i]? = some (a,L[i].length,c)∧CP w B (.slice a L[i].length c) L[i]
section
variable {α:Type} {f:α→List Value} {e:TypeId} {k:Nat} {w w' x x':World} {B B' g m:Nat} {v v':Value} {l:List α} {L R:List (List Int)} {r:Option Nat}
theorem ZL (l:List (Option Addr×Nat×Nat)):∀ y∈l,∀ u∈slC y,u.oneCell'=true:=fun y _ u hu=>by simp [slC] at hu;subst hu;rfl
theorem DV.nil:DV w B (.slice none 0 0) []:=⟨[],AC.nil,rfl,fun i h=>by simp at h⟩
theorem DV.below (h:DV w B v L) (hb:Below w.heap.size w w'):DV w' B v L:=by
 obtain ⟨xs,h1,h2,h3⟩:=h;exact ⟨xs,h1.below hb,h2,fun i hi=>by obtain ⟨a,c,h4,h5⟩:=h3 i hi;exact ⟨a,c,h4,h5.below hb⟩⟩
theorem DV.lower (h:DV w B v L) (hB:B'≤B):DV w B' v L:=by
 obtain ⟨xs,h1,h2,h3⟩:=h;exact ⟨xs,h1.lower hB,h2,fun i hi=>by obtain ⟨a,c,h4,h5⟩:=h3 i hi;exact ⟨a,c,h4,h5.lower hB⟩⟩
theorem DV.form (h:DV w B v L):∃ oa oc,v = .slice oa L.length oc∧L.length≤oc∧oc≤maxLen:=by
 obtain ⟨xs,h1,h2,h3⟩:=h;obtain ⟨a,c,e,h4,h5,_⟩:=h1.cells (fun _=>rfl);rw [h2] at e h4;exact ⟨a,c,e,h4,h5⟩
theorem DV.Ah (h:DV w B v L) (hg:v.ownBlock=some g):B≤g∧g < w.heap.size:=by
 obtain ⟨xs,h1,_⟩:=h;exact h1.Ah hg
theorem DV.at {oa:Option Addr} {n oc:Nat} (h:DV w B (.slice oa n oc) L) {i:Nat} (hi:i < L.length):∃ b o a c,oa=some ⟨b,o,none⟩∧w.cell? ⟨b,o+i,none⟩=some (.slice a L[i].length c)∧CP w B (.slice a L[i].length c) L[i]:=by
 obtain ⟨xs,h1,h2,h3⟩:=h;obtain ⟨a,c,h4,h5⟩:=h3 i hi;obtain ⟨oa',oc',e,_,_,h6⟩:=h1.cells (fun _=>rfl);simp only [Value.slice.injEq] at e;obtain ⟨rfl,_,_⟩:=e;rcases h6 with h0 | ⟨b,o,ha,hc⟩
 ·rw [h0] at h2;simp at h2;omega
 ·have hx:i < xs.length:=by omega
  have e2:xs[i]=(a,L[i].length,c):=by
   have:=List.getElem?_eq_getElem hx;rw [h4] at this;exact (Option.some.inj this).symm
  have h7:=hc i hx 0 _ (by omega) (by rw [e2];rfl);exact ⟨b,o,a,c,ha,by simpa using h7,h5⟩
theorem DV.snoc {xs:List (Option Addr×Nat×Nat)} {a:Option Addr} {c:Nat} {z:List Int} (h1:AC slC 29 1 w B v xs) (h2:xs.length=L.length) (h3:∀ (i:Nat) (h:i < L.length),∃ a c,xs[i]? = some (a,L[i].length,c)∧CP w B (.slice a L[i].length c) L[i])
  (hz:CP w B (.slice a z.length c) z) (hN:AC slC 29 1 w' B v' (xs++[(a,z.length,c)])) (hG:w.grownBy w' v.ownBlock):DV w' B v' (L++[z]):=by
 refine ⟨_,hN,by simp [h2],fun i hi =>?_⟩;rw [List.length_append,List.length_singleton] at hi
 by_cases c1:i < L.length
 ·obtain ⟨a',c',h4,h5⟩:=h3 i c1;rw [List.getElem_append_left c1];exact ⟨a',c',by rw [List.getElem?_append_left (by omega)];exact h4,h5.Jh hG h1 (by decide)⟩
 ·obtain rfl:i=L.length:=by omega
  refine ⟨a,c,?_,?_⟩
  ·rw [List.getElem?_append_right (by omega),h2];simp
  ·simp only [List.getElem_append_right (Nat.le_refl _),Nat.sub_self,List.getElem_cons_zero];exact hz.Jh hG h1 (by decide)
theorem DV.one {b:Nat} (K:Rw w b #[.slice none 0 0] 29) (hB:B≤b):DV w B (.slice (some ⟨b,0,none⟩) 1 1) [[]] :=
 ⟨[(none,0,0)],⟨rfl, .inr ⟨b,1,_,rfl,hB,K,Nat.le_refl _,by unfold maxLen;omega,rfl,rfl⟩⟩,rfl,fun i hi=>by
  obtain rfl:i=0:=by simpa using hi
  exact ⟨none,0,rfl,AC.nil⟩⟩
structure RowsIn (x:World) (B C:Nat) (v:Value) (R:List (List Int)):Prop where
 h:DV x B v R
 up:∀ g,v.ownBlock=some g→g < C
 sz:C≤x.heap.size
theorem DV.rows (h:DV x B v R):RowsIn x B x.heap.size v R:=⟨h,fun g hg=>(h.Ah hg).2,Nat.le_refl _⟩
theorem RowsIn.below {C:Nat} (h:RowsIn x B C v R) (hb:Below x.heap.size x x'):RowsIn x' B C v R:=⟨h.h.below hb,h.up,Nat.le_trans h.sz hb.size⟩
theorem RowsIn.grown {C:Nat} {vo:Value} {xs:List (Option Addr×Nat×Nat)} (h:RowsIn x B C v R) (hO:AC slC 29 1 x B' vo xs) (hG:x.grownBy x' vo.ownBlock) (hs:∀ g,vo.ownBlock=some g→g < B∨C≤g):RowsIn x' B C v R:=by
 obtain ⟨⟨ys,h1,h2,h3⟩,hu,hz⟩:=h;refine ⟨⟨ys,h1.TW hG fun g hg e =>?_,h2,fun i hi =>?_⟩,hu,Nat.le_trans hz hG.size⟩
 ·have:=hs g hg;have:=hu g e;have:=(h1.Ah e).1;omega
 ·obtain ⟨a,c,h4,h5⟩:=h3 i hi;exact ⟨a,c,h4,h5.Jh hG hO (by decide)⟩
end
theorem Pz {w:World} {a:Option Addr} {l:List Int} (h:Aq w a l):Dc (fun x:Int=>[Value.int .i64 x]) 1 w a l:=by
 rcases h with h0 | ⟨b,o,ha,hc⟩
 ·exact .inl h0
 ·exact .inr ⟨b,o,ha,fun i hi j u hj hu=>by
   obtain rfl:j=0:=by omega
   have:=hc i hi;simp at hu;subst hu;simpa using this⟩
structure Stg (t:Ac) (st:List Int) (d:Nat):Prop where
 len:st.length+d=8
 nd:st.Nodup
 inr:∀ x∈st,0≤x∧x < t.roads.stages
 pos:0 < st.length
theorem Stg.start {t:Ac} {a:Int} (h:0≤a∧a < t.roads.stages):Stg t [a] 7:=⟨rfl,by simp,fun x hx=>by rw [List.mem_singleton.1 hx];exact h,by simp⟩
theorem Stg.next {t:Ac} {st:List Int} {d:Nat} {y:Int} (h:Stg t st (d+1)) (hy:0≤y∧y < t.roads.stages) (hn:¬ y∈st):Stg t (st++[y]) d :=
 ⟨by have:=h.len;simp;omega,List.nodup_append.2 ⟨h.nd,by simp,fun a ha b hb e=>by rw [List.mem_singleton.1 hb] at e;exact hn (e ▸ ha)⟩,fun x hx=>by
  rcases List.mem_append.1 hx with hx | hx
  ·exact h.inr x hx
  ·rw [List.mem_singleton.1 hx];exact hy,by simp⟩
theorem Stg.two {t:Ac} {st:List Int} {d:Nat} (h:Stg t st d) (h6:t.roads.stages≤6):2≤d∧st.length≤6:=by
 have:=Jq h.nd fun y hy=>by have:=h.inr y hy;omega
 have:=h.len
 omega
theorem Stg.last {t:Ac} {st:List Int} {d:Nat} (h:Stg t st d) {m:Nat} (hm:(st.length:Int)-1=(m:Int)):∃ hl:m < st.length,st[m]=st.getLastD 0:=by
 have:=h.pos;have hl:m < st.length:=by omega
 refine ⟨hl,?_⟩;rw [List.getLastD_eq_getLast?,List.getLast?_eq_getElem?,show st.length-1=m by omega,List.getElem?_eq_getElem hl];rfl
theorem Xo {t:Ac} (hT:Ak t=0) {k:Nat} (hk:k < t.roads.strips.length) {p:Int} (h:0≤Df t.roads.strips[k] p):Df t.roads.strips[k] p < t.roads.stages:=by
 have:=Lt hT _ (List.getElem_mem hk);rcases PE h with ⟨_,e⟩ | ⟨_,e⟩ <;> omega
theorem V8 {t:Ac} (hT:Ak t=0) {op:List Bool} {to_:Int} {d:Nat} {st:List Int} (h:Stg t st (d+1)) {N:Nat} (hr:∀ st2,Stg t st2 d→(FX t op to_ d st2).length≤N) {k:Nat} (hk:k < t.roads.strips.length):(UI t op to_ d st k).length≤N:=by
 have e:t.roads.strips.getD k default=t.roads.strips[k]:=by simp [List.getD_eq_getElem?_getD,hk]
 unfold UI;rw [e]
 split
 ·simp
 ·rename_i hn
  rw [List.length_map];have hf:0≤Df t.roads.strips[k] (st.getLastD 0):=by have:=fun h=>hn (.inl h);omega
  exact hr _ (h.next ⟨hf,Xo hT hk hf⟩ fun h=>hn (.inr (.inr h)))
theorem TM {t:Ac} (hT:Ak t=0) {op:List Bool} {to_:Int} {d:Nat} {st:List Int} (h:Stg t st (d+1)) {N:Nat} (hr:∀ st2,Stg t st2 d→(FX t op to_ d st2).length≤N):∀ m,m≤t.roads.strips.length→(upY t op to_ d st m).length≤m*N
 | 0,_=>by simp [upY]
 | m+1,hm=>by
  rw [OU,List.length_append,Nat.add_mul];have h1:=TM hT h hr m (by omega);have h2:=V8 hT h hr (k:=m) (by omega)
  omega
theorem MN {t:Ac} (hT:Ak t=0) {op:List Bool} {to_:Int}:∀ (d:Nat) (st:List Int),Stg t st d→(FX t op to_ d st).length≤8 ^ (d-2)
 | 0,_,h=>by have:=(h.two (BC (Au hT).1).2.1).1;omega
 | d+1,st,h=>by
  rw [FX]
  split
  ·have:=Nat.one_le_pow (d+1-2) 8 (by omega);simpa using this
  ·have h8:=(BC (Au hT).1).2.2.1
   by_cases c:2≤d
   ·have h3:=TM hT h (MN hT (op:=op) (to_:=to_) d) _ (Nat.le_refl _);have h4:=Nat.mul_le_mul_right (8 ^ (d-2)) h8;rw [show d+1-2=(d-2)+1 by omega,Nat.pow_succ,Nat.mul_comm (8 ^ (d-2))];exact Nat.le_trans h3 h4
   ·have h3:=TM hT h (N:=0) (fun st2 h2=>by have:=(h2.two (BC (Au hT).1).2.1).1;omega) (op:=op) (to_:=to_) _ (Nat.le_refl _);refine Nat.le_trans h3 (by simp)
theorem VT {t:Ac} (hT:Ak t=0) {op:List Bool} {to_:Int} {d:Nat} {st:List Int} (h:Stg t st (d+1)) {m:Nat} (hm:m≤t.roads.strips.length):(upY t op to_ d st m).length≤32768:=by
 have h8:=(BC (Au hT).1).2.2.1;have hl:=h.len;have hp:=h.pos;have h3:=TM hT h (op:=op) (to_:=to_) (N:=8 ^ 4) (fun st2 h2=>Nat.le_trans (MN hT d st2 h2) (Nat.pow_le_pow_right (by omega) (by omega))) m hm;have h4:m*8 ^ 4≤8*8 ^ 4:=Nat.mul_le_mul_right _ (by omega);have h5:8*8 ^ 4=32768:=by decide
 omega
theorem MM {t:Ac} {op:List Bool} {to_:Int}:∀ (d:Nat) (st:List Int),∀ z∈FX t op to_ d st,z.length≤d
 | 0,_,z,h=>by simp [FX] at h
 | d+1,st,z,h=>by
  rw [FX] at h
  split at h
  ·rw [List.mem_singleton.1 h];simp
  ·obtain ⟨k,_,h⟩:=List.mem_flatMap.1 h
   split at h
   ·simp at h
   ·obtain ⟨y,hy,rfl⟩:=List.mem_map.1 h;have:=MM d _ y hy;simp;omega
theorem Ws {P:List (List Int)} {k:Int} {R:List (List Int)} {j:Nat} (h:j < R.length):P++(R.take (j+1)).map (k :: ·)=(P++(R.take j).map (k :: ·))++[k :: R[j]]:=by
 rw [List.take_succ_eq_append_getElem h,List.map_append,List.append_assoc];rfl
theorem O6 {t:Ac} {op:List Bool} {to_:Int} {d:Nat} {st:List Int} {k:Nat} (hk:k < t.roads.strips.length) (h:Df t.roads.strips[k] (st.getLastD 0) < 0∨op.getD k false=false∨Df t.roads.strips[k] (st.getLastD 0)∈st):upY t op to_ d st (k+1)=upY t op to_ d st k:=by
 have e:t.roads.strips.getD k default=t.roads.strips[k]:=by simp [List.getD_eq_getElem?_getD,hk]
 rw [OU,UI,e,if_pos h,List.append_nil]
theorem Qk {t:Ac} {op:List Bool} {to_:Int} {d:Nat} {st:List Int} {k:Nat} (hk:k < t.roads.strips.length) (h1:0≤Df t.roads.strips[k] (st.getLastD 0)) (h2:op.getD k false=true) (h3:¬ Df t.roads.strips[k] (st.getLastD 0)∈st):upY t op to_ d st (k+1)=upY t op to_ d st k++(FX t op to_ d (st++[Df t.roads.strips[k] (st.getLastD 0)])).map ((k:Int) :: ·):=by
 have e:t.roads.strips.getD k default=t.roads.strips[k]:=by simp [List.getD_eq_getElem?_getD,hk]
 rw [OU,UI,e,if_neg (by rintro (h | h | h);omega;(rw [h2] at h;cases h);exact h3 h)]
theorem Po {t:Ac} {k:Nat} (hk:k < t.roads.strips.length):(Ez t).getD k false=Iw t k:=by
 unfold Ez;simp [List.getD_eq_getElem?_getD,hk]
end
section
open Go.RowKit
theorem Sj:Try.f57.body=some (Code.seq (Aa Try.f57 0) (Code.seq (Aa Try.f57 1) (Code.seq (Code.seq (Aa Try.f57 2) (Code.block 0 (Code.loop (Code.seq (Code.seq (Aa Try.f57 3) (Code.cond (Operand.tmp 12) Code.skip (Code.exit 0))) (Code.seq (Code.block 1 (Aa Try.f57 5)) (Aa Try.f57 4)))))) (Code.seq (Aa Try.f57 6) Code.ret)))):=by kernel_rfl
theorem Qv {w:World} {t:Ac} {s:DF} (hT:BM w t s) (hC:Ak t=0):Calls Try.prog 57 #[.agg (Em t s)] w (fun e w'=>e = .returned (.agg #[.int .i64 (CV t).heads, .int .i64 (CV t).pace])∧Below w.heap.size w w'):=by
 obtain ⟨sa,sc,pa,pc,ta,tc⟩:=s;obtain ⟨_,_,_,_,hl4,hpf,_,_,_⟩:=Au hC
 have hhb:∀ k (hk:k < t.Ad.length),(0≤Am (t.Ad.take k)∧Am (t.Ad.take k)≤160)∧0≤t.Ad[k].heads∧t.Ad[k].heads≤40:=fun k hk=>by
  have h1:(t.Ad.take k).all Bd=true:=by rw [List.all_eq_true] at hpf ⊢;exact fun x hx=>hpf x (List.mem_of_mem_take hx)
  have h2:=List.all_eq_true.1 hpf _ (List.getElem_mem hk);simp only [Bd,Bool.and_eq_true] at h2;have h3:=Jg h1;have h4:(t.Ad.take k).length≤4:=by rw [List.length_take];omega
  exact ⟨by omega,Aj.1 h2.1⟩
 have HHB:=Lib.hid hhb;clear hhb hpf;have hB:=Below.refl w.heap.size w;have hTW:=hT;clear hT;refine Q4 Try.func57 Sj Try.ntmps57 ?_;intro a Z;refine wsr ?_;refine Z.s ?_;clear Z;intro a Z;refine Ae (G:=fun W=>wpOps _ _ _ _ _ W) ?_;obtain ⟨b1,hg⟩:∃ b,b=w.heap.size:=⟨_,rfl⟩;intro x hz K1 hb2;rw [← hg] at Z K1;have hhB1:w.heap.size≤b1:=by rw [hg];exact hB.size
 replace hB:=hB.trans (hb2.mono hB.size);clear hz hg hb2;refine Z.s ?_;clear Z;intro a Z;refine Ae (G:=fun W=>wpOps _ _ _ _ _ W) ?_;obtain ⟨b2,hg⟩:∃ b,b=x.heap.size:=⟨_,rfl⟩;intro x hz K2 hb2;rw [← hg] at Z K2;have hhB2:w.heap.size≤b2:=by rw [hg];exact hB.size
 have h1_2:b1 < b2:=by rw [hg];exact K1.lt
 replace hB:=hB.trans (hb2.mono hB.size);replace K1:=K1.below hb2;clear hz hg hb2;refine od ?_;refine wsr ?_;refine Z.s ?_;clear Z;intro a Z;refine Z.rv rfl rfl rfl (by decide) (Aw rfl (Z.ev 5 rfl) Try.underlying3 rfl (K1.cell (o:=3) (v := .int .i64 t.pace) rfl)) ?_;clear Z;intro a Z;(iterate 2 refine Z.s ?_;clear Z;intro a Z);refine Ae (G:=fun W=>wpOps _ _ _ _ _ W) ?_;obtain ⟨b3,hg⟩:∃ b,b=x.heap.size:=⟨_,rfl⟩;intro x hz K3 hb2;rw [← hg] at Z K3;have hhB3:w.heap.size≤b3:=by rw [hg];exact hB.size
 have h1_3:b1 < b3:=by rw [hg];exact K1.lt
 have h2_3:b2 < b3:=by rw [hg];exact K2.lt
 replace hB:=hB.trans (hb2.mono hB.size);replace K1:=K1.below hb2;replace K2:=K2.below hb2;clear hz hg hb2;refine Z.rs rfl rfl rfl (FI rfl (Z.ev 3 rfl) (Z.ev 7 rfl) (by kernel_rfl) K3 rfl rfl) ?_;have hG:=BQ K3 #[.int .i64 0, .int .i64 t.pace];have K_:=K3.setRow #[.int .i64 0, .int .i64 t.pace];replace hB:=KN hB hG (by omega);replace K1:=K1.grown hG (by simp;omega);replace K2:=K2.grown hG (by simp;omega);have K3:=K_;clear hG K_;obtain ⟨x,hx2⟩:∃ q,q=x.setRow b3 #[.int .i64 0, .int .i64 t.pace]:=⟨_,rfl⟩;rw [← hx2] at hB K1 K2 K3 ⊢;clear hx2;refine od ?_;refine wp_seq ?_;refine wsr ?_;refine Z.s ?_;clear Z;intro a Z;refine od ?_;refine wp_block ?_;refine wp_loop_ghost (fun n p x=>∃ k:Nat,k+n=t.Ad.length∧Sl p 26 [(4, .int .i64 (k:Int)),(1, .pointer (some ⟨b1,0,none⟩)),(2, .pointer (some ⟨b2,0,none⟩)),(3, .pointer (some ⟨b3,0,none⟩))]∧Below w.heap.size w x∧Rw x b1 (Em t ⟨sa,sc,pa,pc,ta,tc⟩) 28∧Rw x b2 #[.int .i64 0, .int .i64 0] 87∧Rw x b3 #[.int .i64 (Am (t.Ad.take k)), .int .i64 t.pace] 87) (t.Ad.length) ⟨0,by omega,Z.sb,hB,K1,K2,K3⟩ ?_;clear Z hB K1 K2 K3;rintro n a x ⟨k,hkn,Z,hB,K1,K2,K3⟩;have hT:=hTW.below hB;refine wp_seq ?_;refine wsr ?_;(iterate 2 refine Z.s ?_;clear Z;intro a Z)
 refine Z.rv rfl rfl rfl (by decide) (Aw rfl (Z.ev 9 rfl) Try.underlying25 rfl (K1.cell (o:=4) (v := .slice pa t.Ad.length pc) rfl)) ?_;clear Z;intro a Z;refine Z.s ?_;clear Z;intro a Z
 by_cases hlt:k < t.Ad.length
 ·have q1:(k:Int) < (t.Ad.length:Int):=by omega
  refine Z.s ?_;clear Z;intro a Z;refine od ?_;refine wp_cond_true (Z.ev 12 rfl) ?_;refine wp_skip ?_;refine wp_seq ?_;refine wp_block ?_;obtain ⟨yb,yo,hya,y0,_,_⟩:=hT.Ad.at hlt;replace hya:pa=some ⟨yb,yo,none⟩:=hya;subst hya;simp only [Zp] at y0;have qk:(k:Int) < (t.Ad.length:Int):=by omega
  have hhk:=HHB.out k hlt;clear hT;have hb2:Below x.heap.size x x.drew:=(Below.refl _ _).drew;replace hB:=hB.trans (hb2.mono hB.size);replace K1:=K1.below hb2;replace K2:=K2.below hb2;replace K3:=K3.below hb2;replace y0:=AB hb2 y0;refine OO [[],[0],[],[2],[],[2,3,4],[2,3,4,5],[2,3,4,5,6],[0,1,2,3,4,5,6,7],[0,1,2,3,4,5,6,7,8],[0,1,2,3,4,5,6,7,8,9]] (fun i=>[10].contains i) (fun y=>Rw y b1 #[.int .i64 t.roads.days, .int .i64 t.roads.stages, .slice sa t.roads.strips.length sc, .int .i64 t.pace, .slice (some ⟨yb,yo,none⟩) t.Ad.length pc, .slice ta t.Ai.length tc] 28∧Rw y b3 #[.int .i64 (Am (t.Ad.take k)), .int .i64 t.pace] 87∧y.cell? ⟨yb,yo+k*3,none⟩=some (.int .i64 t.Ad[k].heads)) rfl (by kernel_rfl) (by kernel_rfl) ⟨K1,K3,y0⟩ ?_;clear hb2;obtain ⟨x,hx2⟩:∃ q,q=x.drew:=⟨_,rfl⟩;rw [← hx2] at hB K1 K2 K3 y0 ⊢;clear hx2;refine Z.mr rfl rfl rfl rfl (by decide) ⟨?_,fun y hy K hK =>?_,?_⟩;rotate_left
  ·have e3:=Z.g 3;unfold CS;go_simp;exact hK
  clear Z;intro a Z;refine Z.mr rfl rfl rfl rfl (by decide) ⟨?_,fun y hy K hK =>?_,?_⟩;rotate_left
  ·have e15:=Z.g 15;obtain ⟨K1,K3,y0⟩:=hy;refine Dt (Aw rfl (Z.ev 15 rfl) Try.underlying3 rfl (K3.cell (o:=0) (v := .int .i64 (Am (t.Ad.take k))) rfl)) ?_;exact hK
  clear Z;intro a Z;refine Z.mr rfl rfl rfl rfl (by decide) ⟨?_,fun y hy K hK =>?_,?_⟩;rotate_left
  ·have e1:=Z.g 1;unfold CS;go_simp;exact hK
  clear Z;intro a Z;refine Z.mr rfl rfl rfl rfl (by decide) ⟨?_,fun y hy K hK =>?_,?_⟩;rotate_left
  ·have e17:=Z.g 17;obtain ⟨K1,K3,y0⟩:=hy;refine Dt (Aw rfl (Z.ev 17 rfl) Try.underlying25 rfl (K1.cell (o:=4) (v := .slice (some ⟨yb,yo,none⟩) t.Ad.length pc) rfl)) ?_;exact hK
  clear Z;intro a Z;refine Z.mmv rfl rfl rfl (.inl rfl) rfl (by decide) rfl ?_;clear Z;intro a Z;refine Z.mr rfl rfl rfl rfl (by decide) ⟨?_,fun y hy K hK =>?_,?_⟩;rotate_left
  ·have e18:=Z.g 18;have e19:=Z.g 19;unfold CS;go_simp;exact hK
  clear Z;intro a Z;refine Z.mr rfl rfl rfl rfl (by decide) ⟨?_,fun y hy K hK =>?_,?_⟩;rotate_left
  ·have e20:=Z.g 20;unfold CS;go_simp;exact hK
  clear Z;intro a Z;refine Z.mr rfl rfl rfl rfl (by decide) ⟨?_,fun y hy K hK =>?_,?_⟩;rotate_left
  ·have e21:=Z.g 21;obtain ⟨K1,K3,y0⟩:=hy;refine Dt (Aw rfl (Z.ev 21 rfl) Try.underlying3 rfl (y0)) ?_;exact hK
  clear Z;intro a Z;refine Z.mr rfl rfl rfl rfl (by decide) ⟨?_,fun y hy K hK =>?_,?_⟩;rotate_left
  ·have e16:=Z.g 16;have e22:=Z.g 22;have hw23:=IntWalk.i64_in ((Am (t.Ad.take k))+t.Ad[k].heads) (by omega);unfold CS;go_simp;exact hK
  clear Z;intro a Z;refine Z.mr rfl rfl rfl rfl (by decide) ⟨?_,fun y hy K hK =>?_,?_⟩;rotate_left
  ·have e3:=Z.g 3;unfold CS;go_simp;exact hK
  clear Z;intro a Z;refine Z.ml rfl rfl (by kernel_rfl) rfl rfl (fun K hK =>?_);have e23:=Z.g 23;have e24:=Z.g 24;refine KE (DN (v := .int .i64 ((Am (t.Ad.take k))+t.Ad[k].heads)) rfl (Z.ev 24 rfl) (Z.ev 23 rfl) (by kernel_rfl) rfl rfl (K3.cell (o:=0) (v := .int .i64 (Am (t.Ad.take k))) rfl) (K3.fz 0)) ?_;replace hB:=hB.setCell (p:=⟨b3,0,none⟩) (by show _≤b3;omega) (.int .i64 ((Am (t.Ad.take k))+t.Ad[k].heads));replace K1:=K1.far (g:=b3) (by omega) 0 (.int .i64 ((Am (t.Ad.take k))+t.Ad[k].heads));replace K2:=K2.far (g:=b3) (by omega) 0 (.int .i64 ((Am (t.Ad.take k))+t.Ad[k].heads));replace K3:Rw _ b3 #[.int .i64 ((Am (t.Ad.take k))+t.Ad[k].heads), .int .i64 t.pace] 87:=K3.set 0 (.int .i64 ((Am (t.Ad.take k))+t.Ad[k].heads));clear y0;obtain ⟨x,hx2⟩:∃ q,q=x.setCell ⟨b3,0,none⟩ (.int .i64 ((Am (t.Ad.take k))+t.Ad[k].heads)):=⟨_,rfl⟩;rw [← hx2] at hB K1 K2 K3 ⊢;clear hx2;clear e23 e24;refine hK _ _ ?_;clear hK;refine TU ?_;refine wr ?_;refine Z.s ?_;clear Z;intro a Z;refine og fun K hK =>?_
  have e13:=Z.g 13;have hw14:=IntWalk.i64_in ((k:Int)+1) (by omega);unfold Oper.wp;go_simp;clear e13;refine Z.K hK ?_;clear Z hK;intro a Z;refine Z.s ?_;clear Z;intro a Z;refine od ?_;have hnx:Am (t.Ad.take k)+t.Ad[k].heads=Am (t.Ad.take (k+1)):=QN hlt;rw [hnx] at K3;exact ⟨n-1,by omega,k+1,by omega,Z.sb,hB,K1,K2,K3⟩
 ·have q1:¬ (k:Int) < (t.Ad.length:Int):=by omega
  obtain rfl:k=t.Ad.length:=by omega
  refine Z.s ?_;clear Z;intro a Z;refine od ?_;refine wp_cond_false (Z.ev 12 rfl) ?_;refine wp_exit ?_;refine wp_seq ?_;rw [List.take_length] at K3;refine wr ?_;refine Z.rv rfl rfl rfl (by decide) (En rfl (Z.ev 3 rfl) Try.underlying87 rfl (by kernel_rfl) K3) ?_;clear Z;intro a Z;refine Z.rs rfl rfl rfl (FI rfl (Z.ev 2 rfl) (Z.ev 25 rfl) (by kernel_rfl) K2 rfl rfl) ?_;have hG:=BQ K2 #[.int .i64 (Am t.Ad), .int .i64 t.pace];have K_:=K2.setRow #[.int .i64 (Am t.Ad), .int .i64 t.pace];replace hB:=KN hB hG (by omega);replace K1:=K1.grown hG (by simp;omega);replace K3:=K3.grown hG (by simp;omega);have K2:=K_;clear hG K_;obtain ⟨x,hx2⟩:∃ q,q=x.setRow b2 #[.int .i64 (Am t.Ad), .int .i64 t.pace]:=⟨_,rfl⟩;rw [← hx2] at hB K1 K2 K3 ⊢;clear hx2;refine od ?_;refine wp_ret ?_
  try simp only [Exit.then,Exit.inBlock]
  refine bodyPost_ret (v := .agg #[.int .i64 (Am t.Ad), .int .i64 t.pace]) ?_ Z.defers ⟨rfl,hB⟩;simp [results,Try.results57,Z.get 2 _ rfl,go_sem,K2.cell (o:=0) rfl,K2.cell (o:=1) rfl]
theorem UQ:Try.f50.body=some (Code.seq (Aa Try.f50 0) (Code.seq (Aa Try.f50 1) (Code.seq (Code.seq (Aa Try.f50 2) (Code.block 0 (Code.loop (Code.seq (Code.seq (Aa Try.f50 3) (Code.cond (Operand.tmp 10) Code.skip (Code.exit 0))) (Code.seq (Code.block 1 (Aa Try.f50 5)) (Aa Try.f50 4)))))) (Code.seq (Aa Try.f50 6) Code.ret)))):=by kernel_rfl
theorem Sm {w:World} {t:Ac} {s:DF} {way:List Int} {wa:Option Addr} {wc:Nat} (hT:BM w t s) (hW:Aq w wa way) (hC:Ak t=0) (hwl:way.length≤1000) (hin:∀ k∈way,0≤k∧k < (t.roads.strips.length:Int)):Calls Try.prog 50 #[.agg (Em t s), .slice wa way.length wc] w (fun e w'=>e = .returned (.int .i64 (VJ t.roads way))∧Below w.heap.size w w'):=by
 obtain ⟨sa,sc,pa,pc,ta,tc⟩:=s;have HIN:=Lib.hid hin;clear hin;have HLR:=Lib.hid (MH (PD hC) way);have HLG:=Lib.hid (MI (PD hC));have hB:=Below.refl w.heap.size w;refine KI Try.func50 UQ Try.ntmps50 ?_;intro a Z;refine wsr ?_;refine Z.s ?_;clear Z;intro a Z;refine Ae (G:=fun W=>wpOps _ _ _ _ _ W) ?_;obtain ⟨b2,hg⟩:∃ b,b=w.heap.size:=⟨_,rfl⟩;intro x hz K2 hb2;rw [← hg] at Z K2;have hhB2:w.heap.size≤b2:=by rw [hg];exact hB.size
 replace hB:=hB.trans (hb2.mono hB.size);replace hT:=hT.below hb2;replace hW:=hW.below hb2;clear hz hg hb2;refine Z.s ?_;clear Z;intro a Z;refine od ?_;refine wsr ?_;refine Z.s ?_;clear Z;intro a Z;refine od ?_;refine wp_seq ?_;refine wsr ?_;refine Z.s ?_;clear Z;intro a Z;refine od ?_;refine wp_block ?_;refine wp_loop_ghost (fun n p x=>∃ k:Nat,k+n=way.length∧Sl p 26 [(6, .int .i64 (k:Int)),(1, .slice wa way.length wc),(2, .pointer (some ⟨b2,0,none⟩)),(5, .int .i64 (GG t.roads way k))]∧Below w.heap.size w x∧BM x t ⟨sa,sc,pa,pc,ta,tc⟩∧Aq x wa way∧Rw x b2 (Em t ⟨sa,sc,pa,pc,ta,tc⟩) 28) (way.length) ⟨0,by omega,Z.sb,hB,hT,hW,K2⟩ ?_;clear Z hB hT hW K2;rintro n a x ⟨k,hkn,Z,hB,hT,hW,K2⟩;refine wp_seq ?_;refine wsr ?_;(iterate 3 refine Z.s ?_;clear Z;intro a Z)
 by_cases hlt:k < way.length
 ·have q1:(k:Int) < (way.length:Int):=by omega
  refine Z.s ?_;clear Z;intro a Z;refine od ?_;refine wp_cond_true (Z.ev 10 rfl) ?_;refine wp_skip ?_;refine wp_seq ?_;refine wp_block ?_;have hik:=HIN.out way[k] (List.getElem_mem hlt);obtain ⟨j,hj⟩:∃ j:Nat,way[k]=(j:Int):=⟨way[k].toNat,by omega⟩;have hjl:j < t.roads.strips.length:=by omega
  obtain ⟨wb,wo,hwa,c0⟩:∃ wb wo,wa=some ⟨wb,wo,none⟩∧x.cell? ⟨wb,wo+k,none⟩=some (.int .i64 (j:Int)):=by
   rcases hW with h0 | ⟨wb,wo,h1,h2⟩
   ·rw [h0] at hlt;simp at hlt
   ·exact ⟨wb,wo,h1,by have h3:=h2 k hlt;rw [hj] at h3;exact h3⟩
  subst hwa;obtain ⟨sb,so,hsa,_,_,c1,_⟩:=hT.strips.at hjl;replace hsa:sa=some ⟨sb,so,none⟩:=hsa;subst hsa;have qk:(k:Int) < (way.length:Int):=by omega
  have qj:(j:Int) < (t.roads.strips.length:Int):=by omega
  have hlk:=HLR.out k;have hgk:=HLG.out way[k];have hgj:MJ t.roads way[k]=t.roads.strips[j].L:=by rw [hj];unfold MJ;simp [hjl]
  rw [hgj] at hgk;have HGJ:=Lib.hid hgj;clear hgj hj hik;refine EN rfl (by kernel_rfl) (by kernel_rfl) ?_;(iterate 3 refine Z.u ?_;clear Z;intro a Z);refine Z.q rfl rfl rfl (by decide) ⟨?_,fun y hy K hK =>?_,?_⟩;rotate_left
  ·have e15:=Z.g 15;replace hB:=hB.trans (hy.mono hB.size);replace hT:=hT.below hy;replace hW:=hW.below hy;replace K2:=K2.below hy;replace c0:=AB hy c0;replace c1:=AB hy c1;refine Bv (Aw rfl (Z.ev 15 rfl) Try.underlying22 rfl (K2.cell (o:=2) (v := .slice (some ⟨sb,so,none⟩) t.roads.strips.length sc) rfl)) ?_;exact hK
  clear Z;intro a Z;(iterate 3 refine Z.u ?_;clear Z;intro a Z);refine Z.q rfl rfl rfl (by decide) ⟨?_,fun y hy K hK =>?_,?_⟩;rotate_left
  ·have e19:=Z.g 19;replace hB:=hB.trans (hy.mono hB.size);replace hT:=hT.below hy;replace hW:=hW.below hy;replace K2:=K2.below hy;replace c0:=AB hy c0;replace c1:=AB hy c1;refine Bv (Aw rfl (Z.ev 19 rfl) Try.underlying3 rfl (c0)) ?_;exact hK
  clear Z;intro a Z;(iterate 2 refine Z.u ?_;clear Z;intro a Z);refine Z.q rfl rfl rfl (by decide) ⟨?_,fun y hy K hK =>?_,?_⟩;rotate_left
  ·have e22:=Z.g 22;replace hB:=hB.trans (hy.mono hB.size);replace hT:=hT.below hy;replace hW:=hW.below hy;replace K2:=K2.below hy;replace c0:=AB hy c0;replace c1:=AB hy c1;refine Bv (Aw rfl (Z.ev 22 rfl) Try.underlying3 rfl (c1)) ?_;exact hK
  clear Z;intro a Z;refine Z.q rfl rfl rfl (by decide) ⟨?_,fun y hy K hK =>?_,?_⟩;rotate_left
  ·have e13:=Z.g 13;have e23:=Z.g 23;have hw24:=IntWalk.i64_in ((GG t.roads way k)+t.roads.strips[j].L) (by omega);unfold Oper.Fp;go_simp;exact hK
  clear Z;intro a Z;refine Z.u ?_;clear Z;intro a Z;refine EK ?_;intro x hb2;replace hB:=hB.trans (hb2.mono hB.size);replace hT:=hT.below hb2;replace hW:=hW.below hb2;replace K2:=K2.below hb2;replace c0:=AB hb2 c0;replace c1:=AB hb2 c1;clear hb2;refine wr ?_;refine Z.s ?_;clear Z;intro a Z;refine og fun K hK =>?_
  have e11:=Z.g 11;have hw12:=IntWalk.i64_in ((k:Int)+1) (by omega);unfold Oper.wp;go_simp;clear e11;refine Z.K hK ?_;clear Z hK;intro a Z;refine Z.s ?_;clear Z;intro a Z;refine od ?_;have hnx:GG t.roads way k+t.roads.strips[j].L=GG t.roads way (k+1):=by rw [GG,show way.getD k 0=way[k] by simp [List.getD_eq_getElem?_getD,hlt],HGJ.out]
  rw [hnx] at Z;exact ⟨n-1,by omega,k+1,by omega,Z.sb,hB,hT,hW,K2⟩
 ·have q1:¬ (k:Int) < (way.length:Int):=by omega
  obtain rfl:k=way.length:=by omega
  refine Z.s ?_;clear Z;intro a Z;refine od ?_;refine wp_cond_false (Z.ev 10 rfl) ?_;refine wp_exit ?_;refine wsr ?_;(iterate 2 refine Z.s ?_;clear Z;intro a Z);refine od ?_;refine wp_ret ?_
  try simp only [Exit.then,Exit.inBlock]
  refine bodyPost_ret (v := .int .i64 (VJ t.roads way)) ?_ Z.defers ⟨rfl,hB⟩;simp [results,Try.results50,Z.get 4 _ rfl,VJ]
end
end Go.Proofs.Ytgdobbcjkiapkaa
