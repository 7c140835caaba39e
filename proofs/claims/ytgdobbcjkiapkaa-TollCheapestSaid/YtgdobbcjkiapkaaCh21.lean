import Derived.Test.YtgdobbcjkiapkaaCh04
import Derived.Test.YtgdobbcjkiapkaaCh20
import Derived.Test.YtgdobbcjkiapkaaCh02
namespace Go.Proofs.Ytgdobbcjkiapkaa
set_option maxRecDepth 100000
set_option maxHeartbeats 4000000
set_option linter.unusedSimpArgs false
set_option linter.unusedVariables false
section
open Go.RowKit
open Go.ChangeMaps (setBlock)
def Ba:List AV→Int×Int→Int
 | [],_=>0
 | p :: l,k=>(if (p.toll,p.owner)=k then p.heads else 0)+Ba l k
theorem NH (a b:List AV) (k:Int×Int):Ba (a++b) k=Ba a k+Ba b k:=by
 induction a with
 | nil=>simp [Ba]
 | cons x a ih=>simp only [List.cons_append,Ba,ih];omega
def EL (t:Ac) (p:AV):Int :=
 if !(btw p.toll 0 ((t.Ai.length:Int)-1)) || !(btw p.owner 0 ((t.Ad.length:Int)-1)) then 3
 else if !(btw p.heads 1 40) then 1 else 0
def FM (t:Ac):List AV→Int
 | []=>0
 | p :: l=>if EL t p=0 then FM t l else EL t p
def Ea (t:Ac) (l:List AV):Int:=if Ak t≠0 then Ak t else if 24 < l.length then 6 else FM t l
theorem AbB {t:Ac} {p:AV} (h:btw p.toll 0 ((t.Ai.length:Int)-1)=false):EL t p=3:=by unfold EL;rw [if_pos (by simp [h])]
theorem AbA {t:Ac} {p:AV} (h:btw p.owner 0 ((t.Ad.length:Int)-1)=false):EL t p=3:=by unfold EL;rw [if_pos (by simp [h])]
theorem pe1 {t:Ac} {p:AV} (h:btw p.toll 0 ((t.Ai.length:Int)-1)=true) (h2:btw p.owner 0 ((t.Ad.length:Int)-1)=true) (h3:btw p.heads 1 40=false):EL t p=1:=by unfold EL;rw [if_neg (by simp [h,h2]),if_pos (by simp [h3])]
theorem pe0 {t:Ac} {p:AV} (h:btw p.toll 0 ((t.Ai.length:Int)-1)=true) (h2:btw p.owner 0 ((t.Ad.length:Int)-1)=true) (h3:btw p.heads 1 40=true):EL t p=0:=by unfold EL;rw [if_neg (by simp [h,h2]),if_neg (by simp [h3])]
theorem WE {t:Ac} {p:AV} (h:EL t p=0):btw p.toll 0 ((t.Ai.length:Int)-1)=true∧btw p.owner 0 ((t.Ad.length:Int)-1)=true∧btw p.heads 1 40=true:=by
 unfold EL at h
 split at h
 ·exact absurd h (by decide)
 ·split at h
  ·exact absurd h (by decide)
  ·rename_i h1 h2;simp at h1 h2;exact ⟨h1.1,h1.2,h2⟩
theorem Qz {t:Ac} {l:List AV} {k:Nat} {e:Int} (h:k < l.length) (he:EL t l[k]=e) (h0:e≠0):FM t (l.drop k)=e:=by
 rw [List.drop_eq_getElem_cons h,FM,if_neg (by rw [he];exact h0),he]
theorem QA {t:Ac} {l:List AV} {k:Nat} (h:k < l.length) (he:EL t l[k]=0):FM t (l.drop k)=FM t (l.drop (k+1)):=by
 rw [List.drop_eq_getElem_cons h,FM,if_pos he]
def DC (t:Ac) (l:List AV):Prop:=∀ p∈l,EL t p=0
theorem Pi {t:Ac} {l:List AV} {k:Nat} (hk:k < l.length) (h:DC t (l.take k)) (h1:EL t l[k]=0):DC t (l.take (k+1)):=by
 intro p hp;rw [List.take_succ_eq_append_getElem hk,List.mem_append] at hp;rcases hp with hp | hp
 ·exact h p hp
 ·simp at hp;rw [hp];exact h1
theorem Lh {t:Ac}:∀ {l:List AV},FM t l=0→DC t l
 | [],_,p,hp=>by simp at hp
 | x :: l,h,p,hp=>by
  rw [FM] at h
  by_cases e:EL t x=0
  ·rw [if_pos e] at h;rcases List.mem_cons.1 hp with rfl | hp
   ·exact e
   ·exact Lh h p hp
  ·rw [if_neg e] at h;exact absurd h e
theorem Gj {t:Ac} {l:List AV} (h:DC t l) (k:Int×Int):0≤Ba l k∧Ba l k≤40*(l.length:Int):=by
 induction l with
 | nil=>simp [Ba]
 | cons p l ih =>
  have h1:=ih fun x hx=>h x (by simp [hx])
  have h2:=Aj.1 (WE (h p (by simp))).2.2;simp only [Ba,List.length_cons]
  push_cast
  split <;> omega
theorem Qy {l:List AV} {k:Nat} (hk:k < l.length) (key:Int×Int):Ba (l.take (k+1)) key=Ba (l.take k) key+(if (l[k].toll,l[k].owner)=key then l[k].heads else 0):=by
 rw [List.take_succ_eq_append_getElem hk,NH];simp [Ba]
theorem upd_sum {l:List AV} {k:Nat} (hk:k < l.length) {qs:List ((Int×Int)×Int)} (h:∀ key,(atK qs key).getD 0=Ba (l.take k) key):∀ key,(atK (Rn qs (l[k].toll,l[k].owner) (Ba (l.take k) (l[k].toll,l[k].owner)+l[k].heads)) key).getD 0=Ba (l.take (k+1)) key:=by
 intro key;rw [X0,Qy hk]
 by_cases e:key=(l[k].toll,l[k].owner)
 ·subst e;rw [if_pos rfl,if_pos rfl];rfl
 ·rw [if_neg e,if_neg (Ne.symm e),h];omega
def QS (t:Ac) (s:DF) (mb:Nat):Array Value:=#[.int .i64 t.roads.days, .int .i64 t.roads.stages, .slice s.sa t.roads.strips.length s.sc, .int .i64 t.pace, .slice s.pa t.Ad.length s.pc, .slice s.ta t.Ai.length s.tc, .map (some mb)]
structure Il (w:World) (bd mb:Nat) (t:Ac) (s:DF) (l:List AV):Prop where
 kd:Rw w bd (QS t s mb) 103
 map:∃ qs,Gs w mb (pvG qs)∧∀ key,(atK qs key).getD 0=Ba l key
theorem Il.below {w w':World} {bd mb:Nat} {t:Ac} {s:DF} {l:List AV} (h:Il w bd mb t s l) (hb:Below w.heap.size w w'):Il w' bd mb t s l:=by
 obtain ⟨qs,h1,h2⟩:=h.map;exact ⟨h.kd.below hb,qs,h1.below hb h1.lt,h2⟩
structure OI (w x:World) (bt bd mb:Nat) (t:Ac) (s:DF) (qs:List ((Int×Int)×Int)):Prop where
 below:Below w.heap.size w x
 kb:Rw x bt (Em t s) 28
 kd:Rw x bd (QS t s mb) 103
 mp:Gs x mb (pvG qs)
 n1:w.heap.size≤bt∧w.heap.size≤bd∧w.heap.size≤mb∧mb≠bt∧mb≠bd
section
variable {w x:World} {bt bd mb:Nat} {t:Ac} {s:DF} {qs:List ((Int×Int)×Int)}
theorem OI.keep (h:OI w x bt bd mb t s qs) {x2:World} (hb:Below x.heap.size x x2):OI w x2 bt bd mb t s qs:=⟨h.below.trans (hb.mono h.below.size),h.kb.below hb,h.kd.below hb,h.mp.below hb h.mp.lt,h.n1⟩
theorem OI.drew (h:OI w x bt bd mb t s qs):OI w x.drew bt bd mb t s qs:=h.keep (Below.refl _ _).drew
theorem Rw.other {w:World} {b mb:Nat} {c:Array Value} {ty:TypeId} (h:Rw w b c ty) (o:Obj) (hne:mb≠b):Rw (setBlock w mb o) b c ty:=(NE o hne).trans h
theorem OI.put (h:OI w x bt bd mb t s qs) (q2:List ((Int×Int)×Int)):OI w (setBlock x mb (.map (MF (pvG q2)) (pvG q2).length)) bt bd mb t s q2 :=
 ⟨Gi _ h.below h.n1.2.2.1,h.kb.other _ h.n1.2.2.2.1,h.kd.other _ h.n1.2.2.2.2,h.mp.set _,h.n1⟩
theorem OI.look (h:OI w x bt bd mb t s qs) (a b:Int):(Instr.lookup 101 (.map (some mb)) (.agg #[.int .i64 a, .int .i64 b]) false).run Try.prog x = .ok (.int .i64 ((atK qs (a,b)).getD 0)) x:=(Ho x mb _ _ qs #[] (a,b) h.mp (PI qs)).1
theorem OI.entry (h:OI w x bt bd mb t s qs) (a b:Int):(Instr.mapEntry 101 (.map (some mb)) (.agg #[.int .i64 a, .int .i64 b])).run Try.prog x = .ok (.tuple #[.int .i64 ((atK qs (a,b)).getD 0), .int .i64 (VK qs (a,b):Nat)]) (setBlock x mb (.map (MF (pvG (PK qs (a,b)))) (pvG (PK qs (a,b))).length)):=Vo x mb qs (a,b) h.mp
theorem OI.store {q0:List ((Int×Int)×Int)} {k:Int×Int} (h:OI w x bt bd mb t s (PK q0 k)) (v:Int):(Instr.entryStore 101 (.map (some mb)) (.int .i64 (VK q0 k:Nat)) (.int .i64 v)).run Try.prog x = .ok () (setBlock x mb (.map (MF (pvG (Rn q0 k v))) (pvG (Rn q0 k v)).length)):=by
 obtain ⟨h1,h2,h3,_⟩:=Tc q0 k;rw [← h3 v];exact SY x mb _ _ v k h1 h2 h.mp
theorem OG {w:World} {G:World→Prop} (h:∀ W,W.heap.size=w.heap.size+1→Gs W w.heap.size []→Below w.heap.size w W→G W):G (w.alloc (.map #[] 0)):=h _ (by simp) (Gs.made _) (Dp _ _)
end
theorem Au {t:Ac} (h:Ak t=0):BN t.roads=0∧1≤t.pace∧t.pace≤9∧1≤t.Ad.length∧t.Ad.length≤4∧t.Ad.all Bd=true∧(1≤Am t.Ad∧Am t.Ad≤40)∧t.Ai.length≤6∧BV t.roads.strips.length [] t.Ai=0:=by
 unfold Ak at h
 by_cases h1:BN t.roads=0
 ·rw [if_neg (by simp [h1])] at h
  cases h2:btw t.pace 1 9 with
  | false=>rw [h2] at h;simp at h
  | true =>
   rw [if_neg (by simp [h2])] at h
   by_cases h3:Ud t.Ad.length 1 4=0
   ·rw [if_neg (by simp [h3])] at h
    cases h4:t.Ad.all Bd with
    | false=>rw [h4] at h;simp at h
    | true =>
     rw [if_neg (by simp [h4])] at h
     cases h5:btw (Am t.Ad) 1 40 with
     | false=>rw [h5] at h;simp at h
     | true =>
      rw [if_neg (by simp [h5])] at h;unfold Fj at h
      by_cases h6:6 < t.Ai.length
      ·rw [if_pos h6] at h;simp at h
      ·rw [if_neg h6] at h;have h7:=Uc h3;have h8:=Aj.1 h2;exact ⟨h1,h8.1,h8.2,by omega,by omega,rfl,Aj.1 h5,by omega,h⟩
   ·rw [if_pos h3] at h;exact absurd h h3
 ·rw [if_pos h1] at h;exact absurd h h1
def Zi (w:World) (t:Ac) (s:DF) (l:List AV) (e:Ending) (w':World):Prop :=
 Below w.heap.size w w'∧(Ea t l≠0→e = .returned (.tuple #[.pointer none, .int .i64 (Ea t l)]))∧(Ea t l=0→∃ bd mb,e = .returned (.tuple #[.pointer (some ⟨bd,0,none⟩), .int .i64 0])∧w.heap.size≤bd∧w.heap.size≤mb∧Il w' bd mb t s l)
theorem Gx {t:Ac} {l:List AV}:(Ak t≠0→Ea t l=Ak t)∧(Ak t=0→24 < l.length→Ea t l=6)∧(Ak t=0→l.length≤24→Ea t l=FM t l):=by
 unfold Ea;exact ⟨fun h=>if_pos h,fun h h2=>by rw [if_neg (by simp [h]),if_pos h2],fun h h2=>by rw [if_neg (by simp [h]),if_neg (by omega)]⟩
theorem RF:Try.f66.body=some (Code.seq (Aa Try.f66 0) (Code.seq (Aa Try.f66 1) Code.ret)):=by kernel_rfl
theorem QB {w:World} {bd:Nat} {n:Int} {pa:Option Addr} {pl pc:Nat} (hc:w.cell? ⟨bd,4,none⟩=some (.slice pa pl pc)) (hp:pl≤maxLen):Calls Try.prog 66 #[.pointer (some ⟨bd,0,none⟩), .int .i64 n] w (fun e w'=>e = .returned (.bool (btw n 0 ((pl:Int)-1)))∧w=w'):=by
 have hw:IntKind.i64.wrap ((pl:Int)-1)=(pl:Int)-1:=IntWalk.i64_in _ (by unfold maxLen at hp;omega);refine KI Try.func66 RF Try.ntmps66 ?_;intro a Z;refine wsr ?_;refine Z.s ?_;clear Z;intro a Z;refine od ?_;refine wsr ?_;(iterate 8 refine Z.s ?_;clear Z;intro a Z);refine og fun K hK =>?_
 have e5:=Z.g 5;have e12:=Z.g 12;unfold Oper.wp;go_simp;refine (Bl _ _ _ _).mono ?_;rintro e x ⟨rfl,rfl⟩;clear e5 e12;refine Z.K hK ?_;clear Z hK;intro a Z;refine Z.s ?_;clear Z;intro a Z;refine od ?_;refine wp_ret ?_
 try simp only [Exit.then,Exit.inBlock]
 refine bodyPost_ret (v := .bool (btw n 0 ((pl:Int)-1))) ?_ Z.defers ⟨rfl,rfl⟩;simp [results,Try.results66,Z.get 4 _ rfl]
theorem Uy:Try.f77.body=some (Code.seq (Aa Try.f77 0) (Code.seq (Code.seq (Aa Try.f77 1) (Code.seq (Aa Try.f77 2) (Code.cond (Operand.tmp 13) (Code.seq (Aa Try.f77 3) Code.ret) Code.skip))) (Code.seq (Code.seq (Aa Try.f77 4) (Code.cond (Operand.tmp 17) (Code.seq (Aa Try.f77 5) Code.ret) Code.skip)) (Code.seq (Aa Try.f77 6) (Code.seq (Code.seq (Aa Try.f77 7) (Code.block 0 (Code.loop (Code.seq (Aa Try.f77 8) (Code.seq (Code.cond (Operand.tmp 25) Code.skip (Code.exit 0)) (Code.seq (Code.block 1 (Code.seq (Aa Try.f77 9) (Code.seq (Code.seq (Aa Try.f77 10) (Code.cond (Operand.tmp 42) (Code.seq (Aa Try.f77 11) Code.ret) Code.skip)) (Code.seq (Code.seq (Aa Try.f77 12) (Code.cond (Operand.tmp 46) (Code.seq (Aa Try.f77 13) Code.ret) Code.skip)) (Aa Try.f77 14))))) (Aa Try.f77 15))))))) (Code.seq (Aa Try.f77 16) Code.ret)))))):=by kernel_rfl
theorem Aau {w x:World} {bt bd mb g:Nat} {t:Ac} {s:DF} {qs:List ((Int×Int)×Int)} {p:AV} (I0:OI w x bt bd mb t s qs) (G0:Rw x g #[.int .i64 p.toll, .int .i64 p.owner, .int .i64 p.heads] 53) (hg:mb≠g) (hq0:0≤(atK qs (p.toll,p.owner)).getD 0) (hq1:(atK qs (p.toll,p.owner)).getD 0≤1000000) (hh:btw p.heads 1 40=true) (v2 v22 v23 v24:Value) (a:Act) (Z:Sl a 64 [(2,v2),(7, .pointer (some ⟨bd,0,none⟩)),(9, .pointer (some ⟨g,0,none⟩)),(22,v22),(23,v23),(24,v24)]) (Q:Exit→Act→World→Prop)
  (h:∀ a x,Sl a 64 [(2,v2),(7, .pointer (some ⟨bd,0,none⟩)),(9, .pointer (some ⟨g,0,none⟩)),(22,v22),(23,v23),(24,v24)]→OI w x bt bd mb t s (Rn qs (p.toll,p.owner) ((atK qs (p.toll,p.owner)).getD 0+p.heads))→Q .normal a x):(Aa Try.f77 14).wp Try.prog Q a x:=by
 rw [show Aa Try.f77 14=Code.region 14 _ true from rfl];refine G6 15 (by kernel_rfl) rfl (by kernel_rfl) (by kernel_rfl) (Z) [some 47,some 48,some 49,some 50,some 51,some 52,some 53,some 54,some 55,some 56,some 57,some 58,some 59,some 60,some 61] rfl rfl (fun j v _=>match j with | 0=>v = .pointer (some ⟨bd,0,none⟩) | 1=>v = .pointer (some ⟨bd,0,none⟩) | 2=>v = .pointer (some ⟨bd,6,none⟩) | 3=>v = .map (some mb) | 4=>v = .pointer (some ⟨g,0,none⟩) | 5=>v = .int .i64 p.toll | 6=>v = .pointer (some ⟨g,1,none⟩) | 7=>v = .int .i64 p.owner | 8=>v = .agg #[.int .i64 p.toll, .int .i64 p.owner] | 9=>v = .int .i64 ((atK qs (p.toll,p.owner)).getD 0) | 10=>v = .pointer (some ⟨g,2,none⟩) | 11=>v = .int .i64 p.heads | 12=>v = .int .i64 ((atK qs (p.toll,p.owner)).getD 0+p.heads) | 13=>v = .tuple #[.int .i64 ((atK qs (p.toll,p.owner)).getD 0), .int .i64 (VK qs (p.toll,p.owner):Nat)] | 14=>v = .int .i64 (VK qs (p.toll,p.owner):Nat) | _=>True) (fun L x=>OI w x bt bd mb t s (if L 13 then PK qs (p.toll,p.owner) else qs)∧Rw x g #[.int .i64 p.toll, .int .i64 p.owner, .int .i64 p.heads] 53) ⟨I0.drew,G0.below (Below.refl _ _).drew⟩ ?_ ?_
 ·clear Z;intro k o hkl ho L a x hI hLk Z hs hd;have hlt:∀ k:Nat,k < 15→k=0∨k=1∨k=2∨k=3∨k=4∨k=5∨k=6∨k=7∨k=8∨k=9∨k=10∨k=11∨k=12∨k=13∨k=14:=by decide
  rcases hlt k hkl with rfl | rfl | rfl | rfl | rfl | rfl | rfl | rfl | rfl | rfl | rfl | rfl | rfl | rfl | rfl
  ·obtain rfl:=Option.some.inj ho;have e7:=Z.g 7;clear hs hd;refine wg fun K hK =>?_
   unfold Oper.wp;go_simp;exact hK _ _ ⟨_,rfl,rfl,by simpa [Bq] using hI,fun _ _ h=>h⟩
  ·obtain rfl:=Option.some.inj ho;obtain ⟨_,e47,rfl⟩:=hs 0 _ 47 rfl rfl (hd 0 wm);clear hs hd;refine wg fun K hK =>?_
   unfold Oper.wp;go_simp;exact hK _ _ ⟨_,rfl,rfl,by simpa [Bq] using hI,fun _ _ h=>h⟩
  ·obtain rfl:=Option.some.inj ho;obtain ⟨_,e48,rfl⟩:=hs 1 _ 48 rfl rfl (hd 1 wm);clear hs hd;refine wg fun K hK =>?_
   unfold Oper.wp;go_simp;exact hK _ _ ⟨_,rfl,rfl,by simpa [Bq] using hI,fun _ _ h=>h⟩
  ·obtain rfl:=Option.some.inj ho;obtain ⟨_,e49,rfl⟩:=hs 2 _ 49 rfl rfl (hd 2 wm);have hc:=hI.1.kd.cell (o:=6) rfl;clear hs hd;refine wg fun K hK =>?_
   unfold Oper.wp;go_simp;exact hK _ _ ⟨_,rfl,rfl,by simpa [Bq] using hI,fun _ _ h=>h⟩
  ·obtain rfl:=Option.some.inj ho;have e9:=Z.g 9;clear hs hd;refine wg fun K hK =>?_
   unfold Oper.wp;go_simp;exact hK _ _ ⟨_,rfl,rfl,by simpa [Bq] using hI,fun _ _ h=>h⟩
  ·obtain rfl:=Option.some.inj ho;obtain ⟨_,e51,rfl⟩:=hs 4 _ 51 rfl rfl (hd 4 wm);have hc:=hI.2.cell (o:=0) rfl;clear hs hd;refine wg fun K hK =>?_
   unfold Oper.wp;go_simp;exact hK _ _ ⟨_,rfl,rfl,by simpa [Bq] using hI,fun _ _ h=>h⟩
  ·obtain rfl:=Option.some.inj ho;have e9:=Z.g 9;clear hs hd;refine wg fun K hK =>?_
   unfold Oper.wp;go_simp;exact hK _ _ ⟨_,rfl,rfl,by simpa [Bq] using hI,fun _ _ h=>h⟩
  ·obtain rfl:=Option.some.inj ho;obtain ⟨_,e53,rfl⟩:=hs 6 _ 53 rfl rfl (hd 6 wm);have hc:=hI.2.cell (o:=1) rfl;clear hs hd;refine wg fun K hK =>?_
   unfold Oper.wp;go_simp;exact hK _ _ ⟨_,rfl,rfl,by simpa [Bq] using hI,fun _ _ h=>h⟩
  ·obtain rfl:=Option.some.inj ho;obtain ⟨_,e52,rfl⟩:=hs 5 _ 52 rfl rfl (hd 5 wm);obtain ⟨_,e54,rfl⟩:=hs 7 _ 54 rfl rfl (hd 7 wm);clear hs hd;refine wg fun K hK =>?_
   unfold Oper.wp;go_simp;exact hK _ _ ⟨_,rfl,rfl,by simpa [Bq] using hI,fun _ _ h=>h⟩
  ·obtain rfl:=Option.some.inj ho;obtain ⟨_,e50,rfl⟩:=hs 3 _ 50 rfl rfl (hd 3 wm);obtain ⟨_,e55,rfl⟩:=hs 8 _ 55 rfl rfl (hd 8 wm);have hlk:=hI.1.look p.toll p.owner;have hsame:(atK (if L 13 then PK qs (p.toll,p.owner) else qs) (p.toll,p.owner)).getD 0=(atK qs (p.toll,p.owner)).getD 0:=by by_cases c:L 13=true;(rw [if_pos c];exact (Tc qs _).2.2.2);rw [if_neg c]
   rw [hsame] at hlk;clear hsame;clear hs hd;refine wg fun K hK =>?_
   unfold Oper.wp;go_simp;exact hK _ _ ⟨_,rfl,rfl,by simpa [Bq] using hI,fun _ _ h=>h⟩
  ·obtain rfl:=Option.some.inj ho;have e9:=Z.g 9;clear hs hd;refine wg fun K hK =>?_
   unfold Oper.wp;go_simp;exact hK _ _ ⟨_,rfl,rfl,by simpa [Bq] using hI,fun _ _ h=>h⟩
  ·obtain rfl:=Option.some.inj ho;obtain ⟨_,e57,rfl⟩:=hs 10 _ 57 rfl rfl (hd 10 wm);have hc:=hI.2.cell (o:=2) rfl;clear hs hd;refine wg fun K hK =>?_
   unfold Oper.wp;go_simp;exact hK _ _ ⟨_,rfl,rfl,by simpa [Bq] using hI,fun _ _ h=>h⟩
  ·obtain rfl:=Option.some.inj ho;obtain ⟨_,e56,rfl⟩:=hs 9 _ 56 rfl rfl (hd 9 wm);obtain ⟨_,e58,rfl⟩:=hs 11 _ 58 rfl rfl (hd 11 wm);have hw:IntKind.i64.wrap ((atK qs (p.toll,p.owner)).getD 0+p.heads)=(atK qs (p.toll,p.owner)).getD 0+p.heads:=IntWalk.i64_in _ (by have:=Aj.1 hh;omega);clear hs hd;refine wg fun K hK =>?_
   unfold Oper.wp;go_simp;exact hK _ _ ⟨_,rfl,rfl,by simpa [Bq] using hI,fun _ _ h=>h⟩
  ·obtain rfl:=Option.some.inj ho;obtain ⟨_,e50,rfl⟩:=hs 3 _ 50 rfl rfl (hd 3 wm);obtain ⟨_,e55,rfl⟩:=hs 8 _ 55 rfl rfl (hd 8 wm);rw [hLk] at hI;have hme:=(show OI w x bt bd mb t s qs from hI.1).entry p.toll p.owner;clear hs hd;refine wg fun K hK =>?_
   unfold Oper.wp;go_simp;refine hK _ _ ⟨_,rfl,rfl,⟨?_,hI.2.other _ hg⟩,fun _ _ h=>h⟩;have:=(show OI w x bt bd mb t s qs from hI.1).put (PK qs (p.toll,p.owner))
   simpa [Bq] using this
  ·obtain rfl:=Option.some.inj ho;obtain ⟨_,e60,rfl⟩:=hs 13 _ 60 rfl rfl (hd 13 wm);clear hs hd;refine wg fun K hK =>?_
   unfold Oper.wp;go_simp;exact hK _ _ ⟨_,rfl,rfl,by simpa [Bq] using hI,fun _ _ h=>h⟩
 ·clear Z;intro L a x hall hI Z hs;obtain ⟨_,e50,rfl⟩:=hs 3 _ 50 rfl rfl (hall 3 (by decide));obtain ⟨_,e59,rfl⟩:=hs 12 _ 59 rfl rfl (hall 12 (by decide));obtain ⟨_,e61,rfl⟩:=hs 14 _ 61 rfl rfl (hall 14 (by decide));have I1:=hI.1;rw [hall 13 (by decide)] at I1;have hes:=(show OI w x bt bd mb t s (PK qs (p.toll,p.owner)) from I1).store ((atK qs (p.toll,p.owner)).getD 0+p.heads);clear hs;refine wg fun K hK =>?_
  unfold Oper.wp;go_simp;refine hK _ _ (h _ _ Z ?_);exact I1.put _
theorem P6 {t:Ac} {s:DF} {l:List AV} {la:Option Addr} {lc:Nat} {w:World} (ht:BM w t s) (hl:GY w la l) (hlm:l.length≤maxLen):Calls Try.prog 77 #[.agg (Em t s), .slice la l.length lc] w (Zi w t s l):=by
 refine KI Try.func77 Uy Try.ntmps77 ?_;intro a Z;refine wsr ?_;refine Z.s ?_;clear Z;intro a Z;refine Ae (G:=fun W=>wpOps _ _ _ _ _ W) ?_;intro x hz X hb;have hI:=TI.made (Below.refl _ _) ht X hb;obtain ⟨bt,hbt⟩:∃ b,b=w.heap.size:=⟨_,rfl⟩;rw [← hbt] at Z hI;clear hz X hb hbt;(iterate 2 refine Z.s ?_;clear Z;intro a Z);refine od ?_;refine wp_seq ?_;refine wsr ?_;refine og fun K hK =>?_
 have e2:=Z.g 2;have c0:=hI.c0;have c1:=hI.c1;have c2:=hI.c2;have c3:=hI.c3;have c4:=hI.c4;have c5:=hI.c5;unfold Oper.wp;go_simp;clear e2;refine Z.K hK ?_;clear Z hK;intro a Z;refine og fun K hK =>?_
 have e10:=Z.g 10;unfold Oper.wp;go_simp;refine (J8 hI.tar).mono ?_;rintro e x ⟨rfl,hb⟩;replace hI:=hI.keep hb;clear hb;clear e10;refine Z.K hK ?_;clear Z hK;intro a Z;refine Z.s ?_;clear Z;intro a Z;refine od ?_;refine wsr ?_;refine Z.s ?_;clear Z;intro a Z
 by_cases h1:Ak t=0
 ·have hne:=Cf h1;refine Z.s ?_;clear Z;intro a Z;refine od ?_;refine wp_cond_false (Z.ev 13 rfl) ?_;refine wp_skip ?_;refine wp_seq ?_;refine wsr ?_;(iterate 2 refine Z.s ?_;clear Z;intro a Z)
  by_cases h2:24 < l.length
  ·have q1:(24:Int) < (l.length:Int):=by omega
   have hE:=Lib.hid (Gx.2.1 h1 h2);refine Z.s ?_;clear Z;intro a Z;refine od ?_;refine wp_cond_true (Z.ev 17 rfl) ?_;refine wsr ?_;(iterate 2 refine Z.s ?_;clear Z;intro a Z);refine od ?_;refine wp_ret ?_
   try simp only [Exit.then,Exit.inBlock]
   have hnz:Ea t l≠0:=by rw [hE.out];decide
   refine bodyPost_ret (v := .tuple #[.pointer none, .int .i64 (Ea t l)]) ?_ Z.defers ⟨hI.below,fun _=>rfl,fun h=>absurd h hnz⟩;rw [hE.out];simp [results,Try.results77,Z.get 4 _ rfl,Z.get 5 _ rfl]
  ·have q1:¬ (24:Int) < (l.length:Int):=by omega
   obtain ⟨_,_,_,hl1,hl4,hpf,_,hl6,hte⟩:=Au h1;have HE0:=Lib.hid (Gx.2.2 h1 (Nat.le_of_not_lt h2));have HTE:=Lib.hid hte;clear hte;refine Z.s ?_;clear Z;intro a Z;refine od ?_;refine wp_cond_false (Z.ev 17 rfl) ?_;refine wp_skip ?_;refine wsr ?_;refine og fun K hK =>?_
   have e2:=Z.g 2;have c0:=hI.c0;have c1:=hI.c1;have c2:=hI.c2;have c3:=hI.c3;have c4:=hI.c4;have c5:=hI.c5;unfold Oper.wp;go_simp;clear e2;refine Z.K hK ?_;clear Z hK;intro a Z;refine Z.s ?_;clear Z;intro a Z;clear c0 c1 c2 c3 c4 c5;refine OG (G:=fun W=>wpOps _ _ _ _ _ W) ?_;have hzx:=hI.below.size;have hzt:=hI.kb.lt;obtain ⟨mb,hmb⟩:∃ b,b=x.heap.size:=⟨_,rfl⟩;intro x hz M hb;replace hI:=hI.keep hb;rw [← hmb] at Z M hz;have hmt:mb≠bt:=by omega
   have hwm:w.heap.size≤mb:=by omega
   have HZ:=Lib.hid hz;clear hb hmb hz hzx hzt;(iterate 2 refine Z.s ?_;clear Z;intro a Z);refine Ae (G:=fun W=>wpOps _ _ _ _ _ W) ?_;obtain ⟨bd,hbd⟩:∃ b,b=x.heap.size:=⟨_,rfl⟩;have hz:=HZ.out;intro x hz2 D hb;rw [← hbd] at Z D;have hO:OI w x bt bd mb t s []:=⟨hI.below.trans (hb.mono hI.below.size),hI.kb.below hb,D,M.below hb (by omega),hI.lb,by omega,hwm,hmt,by omega⟩;clear hI D M hz hz2 HZ hb hbd hmt hwm;have hI:=hO;clear hO;refine Z.s ?_;clear Z;intro a Z;refine od ?_;refine wp_seq ?_;refine wsr ?_;(iterate 3 refine Z.s ?_;clear Z;intro a Z);refine od ?_;refine wp_block ?_;refine wp_loop_ghost (fun n p x=>∃ (k:Nat) (qs:List ((Int×Int)×Int)),k+n=l.length∧DC t (l.take k)∧FM t (l.drop k)=Ea t l∧(∀ key,(atK qs key).getD 0=Ba (l.take k) key)∧Sl p 64 [(2, .pointer (some ⟨bt,0,none⟩)),(7, .pointer (some ⟨bd,0,none⟩)),(22, .slice la l.length lc),(23, .int .i64 (l.length:Int)),(24, .int .i64 (k:Int))]∧OI w x bt bd mb t s qs) l.length ⟨0,[],by omega,fun p hp=>by simp at hp,HE0.out.symm,fun key=>rfl,Z.sb,hI⟩ ?_;clear Z hI;rintro n a x ⟨k,qs,hkn,hfine,hE,hS,Z,hI⟩;have HE:=Lib.hid hE;clear hE;have HS:=Lib.hid hS;clear hS;have HF:=Lib.hid hfine;clear hfine;refine wsr ?_
   by_cases hlt:k < l.length
   ·have q1:(k:Int) < (l.length:Int):=by omega
    obtain ⟨pb,po,hpa,p0,p1,p2⟩:=(hl.below hI.below).at hlt;rw [hpa] at Z;simp only [SB] at p0 p1 p2;refine Z.s ?_;clear Z;intro a Z;refine od ?_;refine wp_seq ?_;refine wp_cond_true (Z.ev 25 rfl) ?_;refine wp_skip ?_;refine wp_seq ?_;refine wp_block ?_;refine wsr ?_;(iterate 2 refine Z.s ?_;clear Z;intro a Z);refine og fun K hK =>?_
    obtain ⟨g,hg⟩:∃ b,b=x.heap.size:=⟨_,rfl⟩;unfold Oper.wp;go_simp;refine Z.K hK ?_;clear Z hK;intro a Z;refine og fun K hK =>?_
    have e9:=Z.g 9;have e27:=Z.g 27;unfold Oper.wp;go_simp;clear e9 e27;refine hK _ _ ?_;clear hK;refine Ae (G:=fun W=>wpOps _ _ _ _ _ W) ?_;have hmg:mb≠g:=by have:=hI.mp.lt;omega
    intro x hz G hb;replace hI:=hI.keep hb;rw [← hg] at Z G;clear hz hb p0 p1 p2 hg;refine od ?_;have HR:=Lib.hid (fun e (h:EL t l[k]=e) (h0:e≠0)=>HE.out.symm.trans (Qz hlt h h0));refine wp_seq ?_;refine wsr ?_;refine Z.s ?_;clear Z;intro a Z;refine og fun K hK =>?_
    have e28:=Z.g 28;have g0:=G.cell (o:=0) rfl;unfold Oper.wp;go_simp;clear e28;refine Z.K hK ?_;clear Z hK;intro a Z;refine Z.s ?_;clear Z;intro a Z;refine og fun K hK =>?_
    have e30:=Z.g 30;have c5:=hI.kb.cell (o:=5) rfl;unfold Oper.wp;go_simp;clear e30;refine Z.K hK ?_;clear Z hK;intro a Z;refine Z.s ?_;clear Z;intro a Z;refine og fun K hK =>?_
    have e32:=Z.g 32;have hw:IntKind.i64.wrap ((t.Ai.length:Int)-1)=(t.Ai.length:Int)-1:=IntWalk.i64_in _ (by omega);unfold Oper.wp;go_simp;clear e32;refine Z.K hK ?_;clear Z hK;intro a Z;refine og fun K hK =>?_
    have e29:=Z.g 29;have e33:=Z.g 33;unfold Oper.wp;go_simp;refine (Bl _ _ _ _).mono ?_;rintro e x ⟨rfl,rfl⟩;clear e29 e33;refine Z.K hK ?_;clear Z hK;intro a Z;rcases Bool.eq_false_or_eq_true (btw l[k].toll 0 ((t.Ai.length:Int)-1)) with h3 | h3
    ·rw [h3] at Z;(iterate 2 refine Z.s ?_;clear Z;intro a Z);(iterate 2 refine Z.t ?_;clear Z;intro a Z);refine oW (Z.g 36) fun K hK =>?_
     have e38:=Z.g 38;have g1:=G.cell (o:=1) rfl;unfold Oper.wp;go_simp;clear e38;refine Z.K hK ?_;clear Z hK;intro a Z;refine oW (Z.g 36) fun K hK =>?_
     have e37:=Z.g 37;have e39:=Z.g 39;unfold Oper.wp;go_simp;refine (QB (hI.kd.cell (o:=4) rfl) (by unfold maxLen;omega)).mono ?_;rintro e x ⟨rfl,rfl⟩;clear e37 e39;refine Z.K hK ?_;clear Z hK;intro a Z;rcases Bool.eq_false_or_eq_true (btw l[k].owner 0 ((t.Ad.length:Int)-1)) with h4 | h4
     ·rw [h4] at Z;refine Z.t ?_;clear Z;intro a Z;refine Z.s ?_;clear Z;intro a Z;refine od ?_;refine wp_cond_false (Z.ev 42 rfl) ?_;refine wp_skip ?_;refine wp_seq ?_;refine wsr ?_;refine Z.s ?_;clear Z;intro a Z;refine og fun K hK =>?_
      have e43:=Z.g 43;have g2:=G.cell (o:=2) rfl;unfold Oper.wp;go_simp;clear e43;refine Z.K hK ?_;clear Z hK;intro a Z;refine og fun K hK =>?_
      have e44:=Z.g 44;unfold Oper.wp;go_simp;refine (Bl _ _ _ _).mono ?_;rintro e x ⟨rfl,rfl⟩;clear e44;refine Z.K hK ?_;clear Z hK;intro a Z;rcases Bool.eq_false_or_eq_true (btw l[k].heads 1 40) with h5 | h5
      ·rw [h5] at Z;refine Z.s ?_;clear Z;intro a Z;refine od ?_;refine wp_cond_false (Z.ev 46 rfl) ?_;refine wp_skip ?_;have hs5:=HS.out (l[k].toll,l[k].owner);have hb5:=Gj HF.out (l[k].toll,l[k].owner);have hlk5:(l.take k).length≤24:=by rw [List.length_take];omega
       refine Aau hI G hmg (by rw [hs5];exact hb5.1) (by rw [hs5];omega) h5 _ _ _ _ a Z.sb _ ?_;clear Z hI;intro a x Z hI;rw [hs5] at hI;refine wr ?_;refine og fun K hK =>?_
       have e24:=Z.g 24;have hw:=Bf k (by omega);unfold Oper.wp;go_simp;clear e24;refine Z.K hK ?_;clear Z hK;intro a Z;refine Z.s ?_;clear Z;intro a Z;refine od ?_;show Exists _;exact ⟨n-1,by omega,k+1,_,by omega,Pi hlt HF.out (pe0 h3 h4 h5),(QA hlt (pe0 h3 h4 h5)).symm.trans HE.out,upd_sum hlt HS.out,by rw [hpa];exact Z.sb,hI⟩
      ·rw [h5] at Z;have hE:=Lib.hid (HR.out _ (pe1 h3 h4 h5) (by decide));refine Z.s ?_;clear Z;intro a Z;refine od ?_;refine wp_cond_true (Z.ev 46 rfl) ?_;refine wsr ?_;(iterate 2 refine Z.s ?_;clear Z;intro a Z);refine od ?_;refine wp_ret ?_
       try simp only [Exit.then,Exit.inBlock]
       have hnz:Ea t l≠0:=by rw [hE.out];decide
       refine bodyPost_ret (v := .tuple #[.pointer none, .int .i64 (Ea t l)]) ?_ Z.defers ⟨hI.below,fun _=>rfl,fun h=>absurd h hnz⟩;rw [hE.out];simp [results,Try.results77,Z.get 4 _ rfl,Z.get 5 _ rfl]
     ·rw [h4] at Z;have hE:=Lib.hid (HR.out _ (AbA h4) (by decide));refine Z.t ?_;clear Z;intro a Z;refine Z.s ?_;clear Z;intro a Z;refine od ?_;refine wp_cond_true (Z.ev 42 rfl) ?_;refine wsr ?_;(iterate 2 refine Z.s ?_;clear Z;intro a Z);refine od ?_;refine wp_ret ?_
      try simp only [Exit.then,Exit.inBlock]
      have hnz:Ea t l≠0:=by rw [hE.out];decide
      refine bodyPost_ret (v := .tuple #[.pointer none, .int .i64 (Ea t l)]) ?_ Z.defers ⟨hI.below,fun _=>rfl,fun h=>absurd h hnz⟩;rw [hE.out];simp [results,Try.results77,Z.get 4 _ rfl,Z.get 5 _ rfl]
    ·rw [h3] at Z;have hE:=Lib.hid (HR.out _ (AbB h3) (by decide));(iterate 2 refine Z.s ?_;clear Z;intro a Z);refine Z.z ?_;clear Z;intro a Z;refine Z.z ?_;clear Z;intro a Z;refine Z.z ?_;clear Z;intro a Z;refine Z.z ?_;clear Z;intro a Z;refine Z.z ?_;clear Z;intro a Z;refine Z.s ?_;clear Z;intro a Z;refine od ?_;refine wp_cond_true (Z.ev 42 rfl) ?_;refine wsr ?_;(iterate 2 refine Z.s ?_;clear Z;intro a Z);refine od ?_;refine wp_ret ?_
     try simp only [Exit.then,Exit.inBlock]
     have hnz:Ea t l≠0:=by rw [hE.out];decide
     refine bodyPost_ret (v := .tuple #[.pointer none, .int .i64 (Ea t l)]) ?_ Z.defers ⟨hI.below,fun _=>rfl,fun h=>absurd h hnz⟩;rw [hE.out];simp [results,Try.results77,Z.get 4 _ rfl,Z.get 5 _ rfl]
   ·obtain rfl:k=l.length:=by omega
    refine Z.s ?_;clear Z;intro a Z;refine od ?_;refine wp_seq ?_;refine wp_cond_false (Z.ev 25 rfl) ?_;refine wp_exit ?_;refine wsr ?_;(iterate 3 refine Z.s ?_;clear Z;intro a Z);refine od ?_;refine wp_ret ?_
    try simp only [Exit.then,Exit.inBlock]
    have hE0:Ea t l=0:=by rw [← HE.out,List.drop_of_length_le (Nat.le_refl _)];rfl
    rw [List.take_length] at HS;refine bodyPost_ret (v := .tuple #[.pointer (some ⟨bd,0,none⟩), .int .i64 0]) ?_ Z.defers ⟨hI.below,fun h=>absurd hE0 h,fun _=>⟨bd,mb,rfl,hI.n1.2.1,hI.n1.2.2.1,hI.kd,qs,hI.mp,HS.out⟩⟩;simp [results,Try.results77,Z.get 4 _ rfl,Z.get 5 _ rfl]
 ·have hne:=C9 h1;have hE:=Lib.hid (Gx (l:=l).1 h1);have HN:=Lib.hid h1;clear h1;refine Z.s ?_;clear Z;intro a Z;refine od ?_;refine wp_cond_true (Z.ev 13 rfl) ?_;refine wsr ?_;(iterate 3 refine Z.s ?_;clear Z;intro a Z);refine od ?_;refine wp_ret ?_
  try simp only [Exit.then,Exit.inBlock]
  have hnz:Ea t l≠0:=by rw [hE.out];exact HN.out
  refine bodyPost_ret (v := .tuple #[.pointer none, .int .i64 (Ea t l)]) ?_ Z.defers ⟨hI.below,fun _=>rfl,fun h=>absurd h hnz⟩;rw [hE.out];simp [results,Try.results77,Z.get 4 _ rfl,Z.get 5 _ rfl]
end
section
open Go.RowKit
theorem RJ:Try.f71.body=some (Code.seq (Aa Try.f71 0) (Code.seq (Aa Try.f71 1) Code.ret)):=by kernel_rfl
theorem QW {w:World} {p:Int} (h0:0≤p) (h1:p≤1000000000000000):Calls Try.prog 71 #[.int .i64 p] w (fun e w'=>e = .returned (.int .i64 (F8 p))∧w'=w):=by
 have hw1:IntKind.i64.wrap (p+199)=p+199:=IntWalk.i64_in _ (by omega)
 have hw2:IntKind.i64.wrap ((p+199).tdiv 200)=F8 p:=by
  rw [Int.tdiv_eq_ediv_of_nonneg (by omega)];exact IntWalk.i64_in _ (by omega)
 refine Q4 Try.func71 RJ Try.ntmps71 ?_;intro a Z;refine wsr ?_;refine Z.s ?_;clear Z;intro a Z;refine od ?_;refine wsr ?_;(iterate 4 refine Z.s ?_;clear Z;intro a Z);refine od ?_;refine wp_ret ?_
 try simp only [Exit.then,Exit.inBlock]
 refine bodyPost_ret (v := .int .i64 (F8 p)) ?_ Z.defers ⟨rfl,rfl⟩;simp [results,Try.results71,Z.get 2 _ rfl]
theorem VY:Try.f107.body=some (Code.seq (Aa Try.f107 0) (Code.seq (Code.seq (Aa Try.f107 1) (Code.block 0 (Code.seq (Aa Try.f107 2) (Code.cond (Operand.tmp 6) (Code.seq (Aa Try.f107 3) Code.ret) (Code.seq (Aa Try.f107 4) (Code.cond (Operand.tmp 12) (Code.seq (Aa Try.f107 5) Code.ret) Code.skip)))))) (Code.seq (Aa Try.f107 6) Code.ret))):=by kernel_rfl
def Df (s:Strip) (at_:Int):Int:=if at_=s.A then s.B else if at_=s.B then s.A else -1
theorem ZW {w:World} {s:Strip} {at_:Int}:Calls Try.prog 107 #[s.val, .int .i64 at_] w (fun e w'=>e = .returned (.int .i64 (Df s at_))∧Below w.heap.size w w'):=by
 have hv:s.val = .agg #[.int .i64 s.A, .int .i64 s.B, .int .i64 s.L, .int .i64 s.W, .int .i64 s.K, .int .i64 s.X, .int .i64 s.Y]:=rfl;rw [hv];clear hv;refine KI Try.func107 VY Try.ntmps107 ?_;intro a Z;refine wsr ?_;refine Z.s ?_;clear Z;intro a Z;refine Ae (G:=fun W=>wpOps _ _ _ _ _ W) ?_;obtain ⟨g,hg⟩:∃ b,b=w.heap.size:=⟨_,rfl⟩;intro x hz X hb0;rw [← hg] at Z X;clear hz hg;refine Z.s ?_;clear Z;intro a Z;refine od ?_;refine wp_seq ?_;refine wsr ?_;refine Z.s ?_;clear Z;intro a Z;refine od ?_;refine wp_block ?_;refine wsr ?_;refine Z.s ?_;clear Z;intro a Z;refine og fun K hK =>?_
 have e7:=Z.g 7;have c:=X.cell (o:=0) rfl;unfold Oper.wp;go_simp;clear e7;refine Z.K hK ?_;clear Z hK;intro a Z
 by_cases h1:at_=s.A
 ·have hb:=EX h1;have hR:=Lib.hid (show Df s at_=s.B from by unfold Df;rw [if_pos h1]);clear h1;(iterate 2 refine Z.s ?_;clear Z;intro a Z);refine od ?_;refine wp_cond_true (Z.ev 6 rfl) ?_;refine wsr ?_;refine Z.s ?_;clear Z;intro a Z;refine og fun K hK =>?_
  have e10:=Z.g 10;have c:=X.cell (o:=1) rfl;unfold Oper.wp;go_simp;clear e10;refine Z.K hK ?_;clear Z hK;intro a Z;refine Z.s ?_;clear Z;intro a Z;refine od ?_;refine wp_ret ?_
  try simp only [Exit.then,Exit.inBlock]
  refine bodyPost_ret (v := .int .i64 (Df s at_)) ?_ Z.defers ⟨rfl,hb0⟩;rw [hR.out];simp [results,Try.results107,Z.get 4 _ rfl]
 ·have hb:=Ey h1;have H1:=Lib.hid h1;clear h1;(iterate 2 refine Z.s ?_;clear Z;intro a Z);refine od ?_;refine wp_cond_false (Z.ev 6 rfl) ?_;refine wsr ?_;refine Z.s ?_;clear Z;intro a Z;refine og fun K hK =>?_
  have e13:=Z.g 13;have c:=X.cell (o:=1) rfl;unfold Oper.wp;go_simp;clear e13;refine Z.K hK ?_;clear Z hK;intro a Z
  by_cases h2:at_=s.B
  ·have hb:=EX h2;have hR:=Lib.hid (show Df s at_=s.A from by unfold Df;rw [if_neg H1.out,if_pos h2]);clear h2;(iterate 2 refine Z.s ?_;clear Z;intro a Z);refine od ?_;refine wp_cond_true (Z.ev 12 rfl) ?_;refine wsr ?_;refine Z.s ?_;clear Z;intro a Z;refine og fun K hK =>?_
   have e16:=Z.g 16;have c:=X.cell (o:=0) rfl;unfold Oper.wp;go_simp;clear e16;refine Z.K hK ?_;clear Z hK;intro a Z;refine Z.s ?_;clear Z;intro a Z;refine od ?_;refine wp_ret ?_
   try simp only [Exit.then,Exit.inBlock]
   refine bodyPost_ret (v := .int .i64 (Df s at_)) ?_ Z.defers ⟨rfl,hb0⟩;rw [hR.out];simp [results,Try.results107,Z.get 4 _ rfl]
  ·have hb:=Ey h2;have hR:=Lib.hid (show Df s at_ = -1 from by unfold Df;rw [if_neg H1.out,if_neg h2]);(iterate 2 refine Z.s ?_;clear Z;intro a Z);refine od ?_;refine wp_cond_false (Z.ev 12 rfl) ?_;refine wp_skip ?_;refine wsr ?_;refine Z.s ?_;clear Z;intro a Z;refine od ?_;refine wp_ret ?_
   try simp only [Exit.then,Exit.inBlock]
   refine bodyPost_ret (v := .int .i64 (Df s at_)) ?_ Z.defers ⟨rfl,hb0⟩;rw [hR.out];simp [results,Try.results107,Z.get 4 _ rfl]
theorem Ue {w:World} (s:Strip) (at_:Int):Calls Try.prog 107 #[.agg #[.int .i64 s.A, .int .i64 s.B, .int .i64 s.L, .int .i64 s.W, .int .i64 s.K, .int .i64 s.X, .int .i64 s.Y], .int .i64 at_] w (fun e w'=>e = .returned (.int .i64 (Df s at_))∧Below w.heap.size w w'):=ZW
theorem Ye:Try.f70.body=some (Code.seq (Aa Try.f70 0) (Code.seq (Aa Try.f70 1) (Code.seq (Code.seq (Aa Try.f70 2) (Code.cond (Operand.tmp 27) (Aa Try.f70 3) Code.skip)) (Code.seq (Aa Try.f70 4) Code.ret)))):=by kernel_rfl
structure Aam (w:World) (bd tb to_ tn tc i:Nat) (rate:Int):Prop where
 c5:w.cell? ⟨bd,5,none⟩=some (.slice (some ⟨tb,to_,none⟩) tn tc)
 r:w.cell? ⟨tb,to_+i*3+1,none⟩=some (.int .i64 rate)
 i:i < tn
theorem Aam.below {w w':World} {bd tb to_ tn tc i:Nat} {rate:Int} (h:Aam w bd tb to_ tn tc i rate) (hb:Below w.heap.size w w'):Aam w' bd tb to_ tn tc i rate:=⟨((Eo hb).1 _ _ (lt_of_cell h.c5)).trans h.c5,((Eo hb).1 _ _ (lt_of_cell h.r)).trans h.r,h.i⟩
structure OfI (w x:World) (bd tb to_ tn tc i g:Nat) (rate hd fr:Int) (half:Bool):Prop where
 below:Below w.heap.size w x
 o:Aam x bd tb to_ tn tc i rate
 G:Rw x g #[.int .i64 hd, .int .i64 fr, .bool half] 69
theorem OfI.drew {w x:World} {bd tb to_ tn tc i g:Nat} {rate hd fr:Int} {half:Bool} (h:OfI w x bd tb to_ tn tc i g rate hd fr half):OfI w x.drew bd tb to_ tn tc i g rate hd fr half:=⟨h.below.drew,h.o.below (Below.refl _ _).drew,h.G.below (Below.refl _ _).drew⟩
theorem Zr {w:World} {bd tb to_ tn tc i:Nat} {hd fr qh rate:Int} {half:Bool} (hO:Aam w bd tb to_ tn tc i rate) (hf0:0≤fr) (hf1:fr≤1000000) (hq0:0≤qh) (hq1:qh≤1000000) (hr0:0≤rate) (hr1:rate≤100000):Calls Try.prog 70 #[.pointer (some ⟨bd,0,none⟩), .agg #[.int .i64 hd, .int .i64 fr, .bool half], .int .i64 (i:Int), .int .i64 qh] w (fun e w'=>e = .returned (.int .i64 (ofV fr half qh rate))∧Below w.heap.size w w'):=by
 have hm0:0≤(if fr < qh then qh-fr else 0):=by split <;> omega
 have hm1:(if fr < qh then qh-fr else 0)≤1000000:=by split <;> omega
 have hpr0:0≤(if fr < qh then qh-fr else 0)*rate:=Int.mul_nonneg hm0 hr0;have hpr1:(if fr < qh then qh-fr else 0)*rate≤1000000*100000:=Int.mul_le_mul hm1 hr1 hr0 (by omega);obtain ⟨P,hP⟩:∃ P,P=(if fr < qh then qh-fr else 0)*rate:=⟨_,rfl⟩;rw [← hP] at hpr0 hpr1;have hw1:IntKind.i64.wrap (qh-fr)=qh-fr:=IntWalk.i64_in _ (by omega);have HW2:=Lib.hid (show IntKind.i64.wrap ((if fr < qh then qh-fr else 0)*rate)=P from by rw [← hP];exact IntWalk.i64_in _ (by omega));have hw3:IntKind.i64.wrap (P*2)=P*2:=IntWalk.i64_in _ (by omega);have HV:=Lib.hid (show ofV fr half qh rate=if half then P else P*2 from by rw [hP];rfl);have HP:=Lib.hid hP;clear hP hm0 hm1;refine call4 Try.func70 Ye Try.ntmps70 ?_;intro a Z;refine wsr ?_;refine Z.s ?_;clear Z;intro a Z;refine Ae (G:=fun W=>wpOps _ _ _ _ _ W) ?_;obtain ⟨g,hg⟩:∃ b,b=w.heap.size:=⟨_,rfl⟩;intro x hz X hb0;rw [← hg] at Z X;have hI:OfI w x bd tb to_ tn tc i g rate hd fr half:=⟨hb0,hO.below hb0,X⟩;clear hz hg X hb0;refine Z.s ?_;clear Z;intro a Z;refine od ?_;refine wp_seq ?_;rw [show Aa Try.f70 1=Code.region 1 _ true from rfl]
 refine DI (by kernel_rfl) (((((Z.nil.cons (Z.get 3 _ rfl)).cons (Z.get 2 _ rfl)).cons (Z.get 5 _ rfl)).cons (Z.get 0 _ rfl))) [some 10,some 11,some 12,some 13,some 14,some 15,some 16,some 17,some 18,some 19,some 20,some 21,some 22,some 23,some 24,some 9] rfl rfl (by kernel_rfl) (fun j v _=>match j with | 0=>v = .int .i64 qh | 1=>v = .pointer (some ⟨g,1,none⟩) | 2=>v = .int .i64 fr | 3=>v = .int .i64 (qh-fr) | 4=>v = .int .i64 (if fr < qh then qh-fr else 0) | 5=>v = .pointer (some ⟨bd,0,none⟩) | 6=>v = .pointer (some ⟨bd,0,none⟩) | 7=>v = .pointer (some ⟨bd,0,none⟩) | 8=>v = .pointer (some ⟨bd,5,none⟩) | 9=>v = .slice (some ⟨tb,to_,none⟩) tn tc | 10=>v = .int .i64 (i:Int) | 11=>v = .pointer (some ⟨tb,to_+i*3,none⟩) | 12=>v = .pointer (some ⟨tb,to_+i*3+1,none⟩) | 13=>v = .int .i64 rate | 14=>v = .int .i64 P | 15=>v = .int .i64 P | _=>True) (fun _ x=>OfI w x bd tb to_ tn tc i g rate hd fr half) (hI.drew) ?_ ?_
 ·clear Z;intro k o hkl ho L a x hI hLk Z hs hd;have hlt:∀ k:Nat,k < 16→k=0∨k=1∨k=2∨k=3∨k=4∨k=5∨k=6∨k=7∨k=8∨k=9∨k=10∨k=11∨k=12∨k=13∨k=14∨k=15:=by decide
  rcases hlt k hkl with rfl | rfl | rfl | rfl | rfl | rfl | rfl | rfl | rfl | rfl | rfl | rfl | rfl | rfl | rfl | rfl
  ·obtain rfl:=Option.some.inj ho;have e3:=Z.g 3;clear hs hd;refine wg fun K hK =>?_
   unfold Oper.wp;go_simp;exact hK _ _ ⟨_,rfl,rfl,hI,fun _ _ h=>h⟩
  ·obtain rfl:=Option.some.inj ho;have e5:=Z.g 5;clear hs hd;refine wg fun K hK =>?_
   unfold Oper.wp;go_simp;exact hK _ _ ⟨_,rfl,rfl,hI,fun _ _ h=>h⟩
  ·obtain rfl:=Option.some.inj ho;obtain ⟨_,e11,rfl⟩:=hs 1 _ 11 rfl rfl (hd 1 wm);have c:=hI.G.cell (o:=1) rfl;clear hs hd;refine wg fun K hK =>?_
   unfold Oper.wp;go_simp;exact hK _ _ ⟨_,rfl,rfl,hI,fun _ _ h=>h⟩
  ·obtain rfl:=Option.some.inj ho;obtain ⟨_,e10,rfl⟩:=hs 0 _ 10 rfl rfl (hd 0 wm);obtain ⟨_,e12,rfl⟩:=hs 2 _ 12 rfl rfl (hd 2 wm);clear hs hd;refine wg fun K hK =>?_
   unfold Oper.wp;go_simp;exact hK _ _ ⟨_,rfl,rfl,hI,fun _ _ h=>h⟩
  ·obtain rfl:=Option.some.inj ho;obtain ⟨_,e13,rfl⟩:=hs 3 _ 13 rfl rfl (hd 3 wm);clear hs hd;refine wg fun K hK =>?_
   unfold Oper.wp;go_simp;exact hK _ _ ⟨_,rfl,rfl,hI,fun _ _ h=>h⟩
  ·obtain rfl:=Option.some.inj ho;have e0:=Z.g 0;clear hs hd;refine wg fun K hK =>?_
   unfold Oper.wp;go_simp;exact hK _ _ ⟨_,rfl,rfl,hI,fun _ _ h=>h⟩
  ·obtain rfl:=Option.some.inj ho;obtain ⟨_,e15,rfl⟩:=hs 5 _ 15 rfl rfl (hd 5 wm);clear hs hd;refine wg fun K hK =>?_
   unfold Oper.wp;go_simp;exact hK _ _ ⟨_,rfl,rfl,hI,fun _ _ h=>h⟩
  ·obtain rfl:=Option.some.inj ho;obtain ⟨_,e16,rfl⟩:=hs 6 _ 16 rfl rfl (hd 6 wm);clear hs hd;refine wg fun K hK =>?_
   unfold Oper.wp;go_simp;exact hK _ _ ⟨_,rfl,rfl,hI,fun _ _ h=>h⟩
  ·obtain rfl:=Option.some.inj ho;obtain ⟨_,e17,rfl⟩:=hs 7 _ 17 rfl rfl (hd 7 wm);clear hs hd;refine wg fun K hK =>?_
   unfold Oper.wp;go_simp;exact hK _ _ ⟨_,rfl,rfl,hI,fun _ _ h=>h⟩
  ·obtain rfl:=Option.some.inj ho;obtain ⟨_,e18,rfl⟩:=hs 8 _ 18 rfl rfl (hd 8 wm);have c:=hI.o.c5;clear hs hd;refine wg fun K hK =>?_
   unfold Oper.wp;go_simp;exact hK _ _ ⟨_,rfl,rfl,hI,fun _ _ h=>h⟩
  ·obtain rfl:=Option.some.inj ho;have e2:=Z.g 2;clear hs hd;refine wg fun K hK =>?_
   unfold Oper.wp;go_simp;exact hK _ _ ⟨_,rfl,rfl,hI,fun _ _ h=>h⟩
  ·obtain rfl:=Option.some.inj ho;obtain ⟨_,e19,rfl⟩:=hs 9 _ 19 rfl rfl (hd 9 wm);obtain ⟨_,e20,rfl⟩:=hs 10 _ 20 rfl rfl (hd 10 wm);have hi3:=hI.o.i;clear hs hd;refine wg fun K hK =>?_
   unfold Oper.wp;go_simp;exact hK _ _ ⟨_,rfl,rfl,hI,fun _ _ h=>h⟩
  ·obtain rfl:=Option.some.inj ho;obtain ⟨_,e21,rfl⟩:=hs 11 _ 21 rfl rfl (hd 11 wm);clear hs hd;refine wg fun K hK =>?_
   unfold Oper.wp;go_simp;exact hK _ _ ⟨_,rfl,rfl,hI,fun _ _ h=>h⟩
  ·obtain rfl:=Option.some.inj ho;obtain ⟨_,e22,rfl⟩:=hs 12 _ 22 rfl rfl (hd 12 wm);have c:=hI.o.r;clear hs hd;refine wg fun K hK =>?_
   unfold Oper.wp;go_simp;exact hK _ _ ⟨_,rfl,rfl,hI,fun _ _ h=>h⟩
  ·obtain rfl:=Option.some.inj ho;obtain ⟨_,e14,rfl⟩:=hs 4 _ 14 rfl rfl (hd 4 wm);obtain ⟨_,e23,rfl⟩:=hs 13 _ 23 rfl rfl (hd 13 wm);have hw2:=HW2.out;clear hs hd;refine wg fun K hK =>?_
   unfold Oper.wp;go_simp;exact hK _ _ ⟨_,rfl,rfl,hI,fun _ _ h=>h⟩
  ·obtain rfl:=Option.some.inj ho;obtain ⟨_,e24,rfl⟩:=hs 14 _ 24 rfl rfl (hd 14 wm);clear hs hd;refine wg fun K hK =>?_
   unfold Oper.wp;go_simp;exact hK _ _ ⟨_,rfl,rfl,hI,fun _ _ h=>h⟩
 ·clear Z;intro L a x hall hI Z hs;obtain ⟨_,e9,rfl⟩:=hs 15 _ 9 rfl rfl (hall 15 (by decide));replace Z:=(Z.cons e9);clear hs hall e9;refine wp_seq ?_;refine wsr ?_;refine Z.s ?_;clear Z;intro a Z;refine og fun K hK =>?_
  have e25:=Z.g 25;have c:=hI.G.cell (o:=2) rfl;unfold Oper.wp;go_simp;clear e25;refine Z.K hK ?_;clear Z hK;intro a Z
  cases half
  ·refine Z.s ?_;clear Z;intro a Z;refine od ?_;refine wp_cond_true (Z.ev 27 rfl) ?_;refine wr ?_;(iterate 3 refine Z.s ?_;clear Z;intro a Z);refine od ?_;refine wsr ?_;(iterate 2 refine Z.s ?_;clear Z;intro a Z);refine od ?_;refine wp_ret ?_
   try simp only [Exit.then,Exit.inBlock]
   refine bodyPost_ret (v := .int .i64 _) ?_ Z.defers ⟨congrArg (fun z=>Ending.returned (.int .i64 z)) (HV.out.symm),hI.below⟩;simp [results,Try.results70,Z.get 8 _ rfl]
  ·refine Z.s ?_;clear Z;intro a Z;refine od ?_;refine wp_cond_false (Z.ev 27 rfl) ?_;refine wp_skip ?_;refine wsr ?_;(iterate 2 refine Z.s ?_;clear Z;intro a Z);refine od ?_;refine wp_ret ?_
   try simp only [Exit.then,Exit.inBlock]
   refine bodyPost_ret (v := .int .i64 _) ?_ Z.defers ⟨congrArg (fun z=>Ending.returned (.int .i64 z)) (HV.out.symm),hI.below⟩;simp [results,Try.results70,Z.get 8 _ rfl]
end
end Go.Proofs.Ytgdobbcjkiapkaa
