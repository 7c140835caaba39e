import Derived.Test.YtgdobbcjkiapkaaSv19
import Derived.Test.YtgdobbcjkiapkaaSv04
import Derived.Test.YtgdobbcjkiapkaaSv20
import Derived.Test.YtgdobbcjkiapkaaSv01
namespace Go.Proofs.Ytgdobbcjkiapkaa
set_option maxRecDepth 100000
set_option maxHeartbeats 4000000
set_option linter.unusedSimpArgs false
set_option linter.unusedVariables false
section
open Go.RowKit
open Go.ChangeMaps (setBlock)
def Au:List Ar→Int×Int→Int
 | [],_=>0
 | p::l,k=>(if (p.toll,p.owner)=k then p.heads else 0)+Au l k
theorem Ox (a b:List Ar) (k:Int×Int):Au (a++b) k=Au a k+Au b k:=by
 induction a with
 | nil=>simp[Au]
 | cons x a ih=>simp only[List.cons_append,Au,ih];omega
def ED (t:Ae) (p:Ar):Int :=
 if !(btw p.toll 0 ((t.Af.length:Int)-1)) || !(btw p.owner 0 ((t.Aa.length:Int)-1)) then 3
 else if !(btw p.heads 1 40) then 1 else 0
def Ed (t:Ae):List Ar→Int
 | []=>0
 | p::l=>if ED t p=0 then Ed t l else ED t p
def Bc (t:Ae) (l:List Ar):Int:=if Aq t≠0 then Aq t else if 24<l.length then 6 else Ed t l
theorem Acf {t:Ae}{p:Ar}(h:btw p.toll 0 ((t.Af.length:Int)-1)=false):ED t p=3:=by unfold ED;rw[if_pos (by simp[h])]
theorem Ace {t:Ae}{p:Ar}(h:btw p.owner 0 ((t.Aa.length:Int)-1)=false):ED t p=3:=by unfold ED;rw[if_pos (by simp[h])]
theorem pe1 {t:Ae}{p:Ar}(h:btw p.toll 0 ((t.Af.length:Int)-1)=true) (h2:btw p.owner 0 ((t.Aa.length:Int)-1)=true) (h3:btw p.heads 1 40=false):ED t p=1:=by unfold ED;rw[if_neg (by simp[h,h2]),if_pos (by simp[h3])]
theorem pe0 {t:Ae}{p:Ar}(h:btw p.toll 0 ((t.Af.length:Int)-1)=true) (h2:btw p.owner 0 ((t.Aa.length:Int)-1)=true) (h3:btw p.heads 1 40=true):ED t p=0:=by unfold ED;rw[if_neg (by simp[h,h2]),if_neg (by simp[h3])]
theorem Td {t:Ae}{p:Ar}(h:ED t p=0):btw p.toll 0 ((t.Af.length:Int)-1)=true∧btw p.owner 0 ((t.Aa.length:Int)-1)=true∧btw p.heads 1 40=true:=by
 unfold ED at h
 split at h
 ·exact absurd h (by decide)
 ·split at h
  ·exact absurd h (by decide)
  ·rename_i h1 h2;simp at h1 h2;exact⟨h1.1,h1.2,h2⟩
theorem Gz {t:Ae}{l:List Ar}{k:Nat}{e:Int}(h:k<l.length) (he:ED t l[k]=e) (h0:e≠0):Ed t (l.drop k)=e:=by
 rw[List.drop_eq_getElem_cons h,Ed,if_neg (by rw[he];exact h0),he]
theorem MC {t:Ae}{l:List Ar}{k:Nat}(h:k<l.length) (he:ED t l[k]=0):Ed t (l.drop k)=Ed t (l.drop (k+1)):=by
 rw[List.drop_eq_getElem_cons h,Ed,if_pos he]
def DZ (t:Ae) (l:List Ar):Prop:=∀ p∈l,ED t p=0
theorem PV {t:Ae}{l:List Ar}{k:Nat}(hk:k<l.length) (h:DZ t (l.take k)) (h1:ED t l[k]=0):DZ t (l.take (k+1)):=by
 intro p hp;rw[List.take_succ_eq_append_getElem hk,List.mem_append]at hp;rcases hp with hp|hp
 ·exact h p hp
 ·simp at hp;rw[hp];exact h1
theorem MF {t:Ae}:∀ {l:List Ar},Ed t l=0→DZ t l
 | [],_,p,hp=>by simp at hp
 | x::l,h,p,hp=>by
  rw[Ed]at h
  by_cases e:ED t x=0
  ·rw[if_pos e]at h;rcases List.mem_cons.1 hp with rfl|hp
   ·exact e
   ·exact MF h p hp
  ·rw[if_neg e]at h;exact absurd h e
theorem EC {t:Ae}{l:List Ar}(h:DZ t l) (k:Int×Int):0≤Au l k∧Au l k≤40*(l.length:Int):=by
 induction l with
 | nil=>simp[Au]
 | cons p l ih =>
  have h1:=ih fun x hx=>h x (by simp[hx])
  have h2:=Am.1 (Td (h p (by simp))).2.2;simp only[Au,List.length_cons]
  push_cast
  split<;>omega
theorem Gy {l:List Ar}{k:Nat}(hk:k<l.length) (key:Int×Int):Au (l.take (k+1)) key=Au (l.take k) key+(if (l[k].toll,l[k].owner)=key then l[k].heads else 0):=by
 rw[List.take_succ_eq_append_getElem hk,Ox];simp[Au]
theorem upd_sum {l:List Ar}{k:Nat}(hk:k<l.length) {qs:List ((Int×Int)×Int)}(h:∀ key,(atK qs key).getD 0=Au (l.take k) key):∀ key,(atK (RX qs (l[k].toll,l[k].owner) (Au (l.take k) (l[k].toll,l[k].owner)+l[k].heads)) key).getD 0=Au (l.take (k+1)) key:=by
 intro key;rw[Yo,Gy hk]
 by_cases e:key=(l[k].toll,l[k].owner)
 ·subst e;rw[if_pos rfl,if_pos rfl];rfl
 ·rw[if_neg e,if_neg (Ne.symm e),h];omega
def Ro (t:Ae) (s:Dt) (mb:Nat):Array Value:=#[.int .i64 t.roads.days,.int .i64 t.roads.stages,.slice s.sa t.roads.strips.length s.sc,.int .i64 t.pace,.slice s.pa t.Aa.length s.pc,.slice s.ta t.Af.length s.tc,.map (some mb)]
structure GL (w:World) (bd mb:Nat) (t:Ae) (s:Dt) (l:List Ar):Prop where
 kd:Rw w bd (Ro t s mb) 103
 map:∃ qs,G5 w mb (pvG qs)∧∀ key,(atK qs key).getD 0=Au l key
theorem GL.below {w w':World}{bd mb:Nat}{t:Ae}{s:Dt}{l:List Ar}(h:GL w bd mb t s l) (hb:Below w.heap.size w w'):GL w' bd mb t s l:=by
 obtain⟨qs,h1,h2⟩:=h.map;exact⟨h.kd.below hb,qs,h1.below hb h1.lt,h2⟩
structure OI (w x:World) (bt bd mb:Nat) (t:Ae) (s:Dt) (qs:List ((Int×Int)×Int)):Prop where
 below:Below w.heap.size w x
 kb:Rw x bt (CJ t s) 28
 kd:Rw x bd (Ro t s mb) 103
 mp:G5 x mb (pvG qs)
 n1:w.heap.size≤bt∧w.heap.size≤bd∧w.heap.size≤mb∧mb≠bt∧mb≠bd
section
variable {w x:World}{bt bd mb:Nat}{t:Ae}{s:Dt}{qs:List ((Int×Int)×Int)}
theorem OI.keep (h:OI w x bt bd mb t s qs) {x2:World}(hb:Below x.heap.size x x2):OI w x2 bt bd mb t s qs:=⟨h.below.trans (hb.mono h.below.size),h.kb.below hb,h.kd.below hb,h.mp.below hb h.mp.lt,h.n1⟩
theorem OI.drew (h:OI w x bt bd mb t s qs):OI w x.drew bt bd mb t s qs:=h.keep (Below.refl _ _).drew
theorem Rw.other {w:World}{b mb:Nat}{c:Array Value}{ty:TypeId}(h:Rw w b c ty) (o:Obj) (hne:mb≠b):Rw (setBlock w mb o) b c ty:=(Oq o hne).trans h
theorem OI.put (h:OI w x bt bd mb t s qs) (q2:List ((Int×Int)×Int)):OI w (setBlock x mb (.map (NC (pvG q2)) (pvG q2).length)) bt bd mb t s q2 :=
 ⟨GU _ h.below h.n1.2.2.1,h.kb.other _ h.n1.2.2.2.1,h.kd.other _ h.n1.2.2.2.2,h.mp.set _,h.n1⟩
theorem OI.look (h:OI w x bt bd mb t s qs) (a b:Int):(Instr.lookup 101 (.map (some mb)) (.agg #[.int .i64 a,.int .i64 b]) false).run Try.prog x=.ok (.int .i64 ((atK qs (a,b)).getD 0)) x:=(FH x mb _ _ qs #[] (a,b) h.mp (Qd qs)).1
theorem OI.entry (h:OI w x bt bd mb t s qs) (a b:Int):(Instr.mapEntry 101 (.map (some mb)) (.agg #[.int .i64 a,.int .i64 b])).run Try.prog x=.ok (.tuple #[.int .i64 ((atK qs (a,b)).getD 0),.int .i64 (We qs (a,b):Nat)]) (setBlock x mb (.map (NC (pvG (Qe qs (a,b)))) (pvG (Qe qs (a,b))).length)):=VL x mb qs (a,b) h.mp
theorem OI.store {q0:List ((Int×Int)×Int)}{k:Int×Int}(h:OI w x bt bd mb t s (Qe q0 k)) (v:Int):(Instr.entryStore 101 (.map (some mb)) (.int .i64 (We q0 k:Nat)) (.int .i64 v)).run Try.prog x=.ok () (setBlock x mb (.map (NC (pvG (RX q0 k v))) (pvG (RX q0 k v)).length)):=by
 obtain⟨h1,h2,h3,_⟩:=TM q0 k;rw[← h3 v];exact TG x mb _ _ v k h1 h2 h.mp
theorem Po {w:World}{G:World→Prop}(h:∀ W,W.heap.size=w.heap.size+1→G5 W w.heap.size []→Below w.heap.size w W→G W):G (w.alloc (.map #[] 0)):=h _ (by simp) (G5.made _) (DL _ _)
end
theorem AY {t:Ae}(h:Aq t=0):Bo t.roads=0∧1≤t.pace∧t.pace≤9∧1≤t.Aa.length∧t.Aa.length≤4∧t.Aa.all AZ=true∧(1≤AL t.Aa∧AL t.Aa≤40)∧t.Af.length≤6∧BK t.roads.strips.length [] t.Af=0:=by
 unfold Aq at h
 by_cases h1:Bo t.roads=0
 ·rw[if_neg (by simp[h1])]at h
  cases h2:btw t.pace 1 9 with
  | false=>rw[h2]at h;simp at h
  | true =>
   rw[if_neg (by simp[h2])]at h
   by_cases h3:O8 t.Aa.length 1 4=0
   ·rw[if_neg (by simp[h3])]at h
    cases h4:t.Aa.all AZ with
    | false=>rw[h4]at h;simp at h
    | true =>
     rw[if_neg (by simp[h4])]at h
     cases h5:btw (AL t.Aa) 1 40 with
     | false=>rw[h5]at h;simp at h
     | true =>
      rw[if_neg (by simp[h5])]at h;unfold DY at h
      by_cases h6:6<t.Af.length
      ·rw[if_pos h6]at h;simp at h
      ·rw[if_neg h6]at h;have h7:=Ut h3;have h8:=Am.1 h2;exact⟨h1,h8.1,h8.2,by omega,by omega,rfl,Am.1 h5,by omega,h⟩
   ·rw[if_pos h3]at h;exact absurd h h3
 ·rw[if_pos h1]at h;exact absurd h h1
def ZY (w:World) (t:Ae) (s:Dt) (l:List Ar) (e:Ending) (w':World):Prop :=
 Below w.heap.size w w'∧(Bc t l≠0→e=.returned (.tuple #[.pointer none,.int .i64 (Bc t l)]))∧(Bc t l=0→∃ bd mb,e=.returned (.tuple #[.pointer (some ⟨bd,0,none⟩),.int .i64 0])∧w.heap.size≤bd∧w.heap.size≤mb∧GL w' bd mb t s l)
theorem Ha {t:Ae}{l:List Ar}:(Aq t≠0→Bc t l=Aq t)∧(Aq t=0→24<l.length→Bc t l=6)∧(Aq t=0→l.length≤24→Bc t l=Ed t l):=by
 unfold Bc;exact⟨fun h=>if_pos h,fun h h2=>by rw[if_neg (by simp[h]),if_pos h2],fun h h2=>by rw[if_neg (by simp[h]),if_neg (by omega)]⟩
theorem Su:(fun r=>Try.f66.body=some (.seq (r 0) (.seq (r 1) .ret))) (Ac Try.f66):=by show _=_;kernel_rfl
theorem QY {w:World}{bd:Nat}{n:Int}{pa:Option Addr}{pl pc:Nat}(hc:w.cell? ⟨bd,4,none⟩=some (.slice pa pl pc)) (hp:pl≤maxLen):Calls Try.prog 66 #[.pointer (some ⟨bd,0,none⟩),.int .i64 n] w (fun e w'=>e=.returned (.bool (btw n 0 ((pl:Int)-1)))∧w=w'):=by
 have hw:IntKind.i64.wrap ((pl:Int)-1)=(pl:Int)-1:=IntWalk.i64_in _ (by unfold maxLen at hp;omega);refine I7 Try.func66 Su Try.ntmps66 ?_;intro a Z;refine wsr ?_;refine Z.e ?_;clear Z;intro a Z;refine wsr ?_;(iterate 8 refine Z.s ?_;clear Z;intro a Z);refine oz fun K hK=>?_
 have e5:=Z.g 5;have e12:=Z.g 12;go_simp;refine(BH _ _ _ _).mono ?_;rintro e x ⟨rfl,rfl⟩;refine Z.K hK ?_;clear Z hK;intro a Z;refine Z.e ?_;clear Z;intro a Z;refine wp_ret ?_
 try simp only[xt]
 exact Z.rt (v:=.bool (btw n 0 ((pl:Int)-1))) 4 ⟨rfl,rfl⟩
theorem UM:(fun r=>Try.f77.body=some (.seq (r 0) (.seq (.seq (r 1) (.seq (r 2) (.cond (.tmp 13) (.seq (r 3) .ret) .skip))) (.seq (.seq (r 4) (.cond (.tmp 17) (.seq (r 5) .ret) .skip)) (.seq (r 6) (.seq (.seq (r 7) (.block 0 (.loop (.seq (r 8) (.seq (.cond (.tmp 25) .skip (.exit 0)) (.seq (.block 1 (.seq (r 9) (.seq (.seq (r 10) (.cond (.tmp 42) (.seq (r 11) .ret) .skip)) (.seq (.seq (r 12) (.cond (.tmp 46) (.seq (r 13) .ret) .skip)) (r 14))))) (r 15))))))) (.seq (r 16) .ret))))))) (Ac Try.f77):=by show _=_;kernel_rfl
theorem Abf {w x:World}{bt bd mb g:Nat}{t:Ae}{s:Dt}{qs:List ((Int×Int)×Int)}{p:Ar}(I0:OI w x bt bd mb t s qs) (G0:Rw x g #[.int .i64 p.toll,.int .i64 p.owner,.int .i64 p.heads] 53) (hg:mb≠g) (hq0:0≤(atK qs (p.toll,p.owner)).getD 0) (hq1:(atK qs (p.toll,p.owner)).getD 0≤1000000) (hh:btw p.heads 1 40=true) (v2 v22 v23 v24:Value) (a:Act) (Z:Sl a 64 [(2,v2),(7,.pointer (some ⟨bd,0,none⟩)),(9,.pointer (some ⟨g,0,none⟩)),(22,v22),(23,v23),(24,v24)]) (Q:Exit→Act→World→Prop)
  (h:∀ a x,Sl a 64 [(2,v2),(7,.pointer (some ⟨bd,0,none⟩)),(9,.pointer (some ⟨g,0,none⟩)),(22,v22),(23,v23),(24,v24)]→OI w x bt bd mb t s (RX qs (p.toll,p.owner) ((atK qs (p.toll,p.owner)).getD 0+p.heads))→Q .normal a x):(Ac Try.f77 14).wp Try.prog Q a x:=by
 rw[show Ac Try.f77 14=Code.region 14 _ true from rfl];refine Ic 15 (by kernel_rfl) rfl (by kernel_rfl) (by kernel_rfl) (Z) [some 47,some 48,some 49,some 50,some 51,some 52,some 53,some 54,some 55,some 56,some 57,some 58,some 59,some 60,some 61] rfl rfl (fun j v _=>match j with|0=>v=.pointer (some ⟨bd,0,none⟩)|1=>v=.pointer (some ⟨bd,0,none⟩)|2=>v=.pointer (some ⟨bd,6,none⟩)|3=>v=.map (some mb)|4=>v=.pointer (some ⟨g,0,none⟩)|5=>v=.int .i64 p.toll|6=>v=.pointer (some ⟨g,1,none⟩)|7=>v=.int .i64 p.owner|8=>v=.agg #[.int .i64 p.toll,.int .i64 p.owner]|9=>v=.int .i64 ((atK qs (p.toll,p.owner)).getD 0)|10=>v=.pointer (some ⟨g,2,none⟩)|11=>v=.int .i64 p.heads|12=>v=.int .i64 ((atK qs (p.toll,p.owner)).getD 0+p.heads)|13=>v=.tuple #[.int .i64 ((atK qs (p.toll,p.owner)).getD 0),.int .i64 (We qs (p.toll,p.owner):Nat)]|14=>v=.int .i64 (We qs (p.toll,p.owner):Nat)|_=>True) (fun L x=>OI w x bt bd mb t s (if L 13 then Qe qs (p.toll,p.owner) else qs)∧Rw x g #[.int .i64 p.toll,.int .i64 p.owner,.int .i64 p.heads] 53) ⟨I0.drew,G0.below (Below.refl _ _).drew⟩ ?_ ?_
 ·clear Z;intro k o hkl ho L a x hI hLk Z hs hd;have hlt:∀ k:Nat,k<15→k=0∨k=1∨k=2∨k=3∨k=4∨k=5∨k=6∨k=7∨k=8∨k=9∨k=10∨k=11∨k=12∨k=13∨k=14:=by decide
  rcases hlt k hkl with rfl|rfl|rfl|rfl|rfl|rfl|rfl|rfl|rfl|rfl|rfl|rfl|rfl|rfl|rfl
  ·obtain rfl:=Option.some.inj ho;have e7:=Z.g 7;clear hs hd;refine wz fun K hK=>?_
   go_simp;exact hK _ _ ⟨_,rfl,rfl,by simpa[BC] using hI,fun _ _ h=>h⟩
  ·obtain rfl:=Option.some.inj ho;obtain⟨_,e47,rfl⟩:=hs 0 _ 47 rfl rfl (hd 0 wm);clear hs hd;refine wz fun K hK=>?_
   go_simp;exact hK _ _ ⟨_,rfl,rfl,by simpa[BC] using hI,fun _ _ h=>h⟩
  ·obtain rfl:=Option.some.inj ho;obtain⟨_,e48,rfl⟩:=hs 1 _ 48 rfl rfl (hd 1 wm);clear hs hd;refine wz fun K hK=>?_
   go_simp;exact hK _ _ ⟨_,rfl,rfl,by simpa[BC] using hI,fun _ _ h=>h⟩
  ·obtain rfl:=Option.some.inj ho;obtain⟨_,e49,rfl⟩:=hs 2 _ 49 rfl rfl (hd 2 wm);have hc:=hI.1.kd.cell (o:=6) rfl;clear hs hd;refine wz fun K hK=>?_
   go_simp;exact hK _ _ ⟨_,rfl,rfl,by simpa[BC] using hI,fun _ _ h=>h⟩
  ·obtain rfl:=Option.some.inj ho;have e9:=Z.g 9;clear hs hd;refine wz fun K hK=>?_
   go_simp;exact hK _ _ ⟨_,rfl,rfl,by simpa[BC] using hI,fun _ _ h=>h⟩
  ·obtain rfl:=Option.some.inj ho;obtain⟨_,e51,rfl⟩:=hs 4 _ 51 rfl rfl (hd 4 wm);have hc:=hI.2.cell (o:=0) rfl;clear hs hd;refine wz fun K hK=>?_
   go_simp;exact hK _ _ ⟨_,rfl,rfl,by simpa[BC] using hI,fun _ _ h=>h⟩
  ·obtain rfl:=Option.some.inj ho;have e9:=Z.g 9;clear hs hd;refine wz fun K hK=>?_
   go_simp;exact hK _ _ ⟨_,rfl,rfl,by simpa[BC] using hI,fun _ _ h=>h⟩
  ·obtain rfl:=Option.some.inj ho;obtain⟨_,e53,rfl⟩:=hs 6 _ 53 rfl rfl (hd 6 wm);have hc:=hI.2.cell (o:=1) rfl;clear hs hd;refine wz fun K hK=>?_
   go_simp;exact hK _ _ ⟨_,rfl,rfl,by simpa[BC] using hI,fun _ _ h=>h⟩
  ·obtain rfl:=Option.some.inj ho;obtain⟨_,e52,rfl⟩:=hs 5 _ 52 rfl rfl (hd 5 wm);obtain⟨_,e54,rfl⟩:=hs 7 _ 54 rfl rfl (hd 7 wm);clear hs hd;refine wz fun K hK=>?_
   go_simp;exact hK _ _ ⟨_,rfl,rfl,by simpa[BC] using hI,fun _ _ h=>h⟩
  ·obtain rfl:=Option.some.inj ho;obtain⟨_,e50,rfl⟩:=hs 3 _ 50 rfl rfl (hd 3 wm);obtain⟨_,e55,rfl⟩:=hs 8 _ 55 rfl rfl (hd 8 wm);have hlk:=hI.1.look p.toll p.owner;have hsame:(atK (if L 13 then Qe qs (p.toll,p.owner) else qs) (p.toll,p.owner)).getD 0=(atK qs (p.toll,p.owner)).getD 0:=by by_cases c:L 13=true;(rw[if_pos c];exact(TM qs _).2.2.2);rw[if_neg c]
   rw[hsame]at hlk;clear hsame;clear hs hd;refine wz fun K hK=>?_
   go_simp;exact hK _ _ ⟨_,rfl,rfl,by simpa[BC] using hI,fun _ _ h=>h⟩
  ·obtain rfl:=Option.some.inj ho;have e9:=Z.g 9;clear hs hd;refine wz fun K hK=>?_
   go_simp;exact hK _ _ ⟨_,rfl,rfl,by simpa[BC] using hI,fun _ _ h=>h⟩
  ·obtain rfl:=Option.some.inj ho;obtain⟨_,e57,rfl⟩:=hs 10 _ 57 rfl rfl (hd 10 wm);have hc:=hI.2.cell (o:=2) rfl;clear hs hd;refine wz fun K hK=>?_
   go_simp;exact hK _ _ ⟨_,rfl,rfl,by simpa[BC] using hI,fun _ _ h=>h⟩
  ·obtain rfl:=Option.some.inj ho;obtain⟨_,e56,rfl⟩:=hs 9 _ 56 rfl rfl (hd 9 wm);obtain⟨_,e58,rfl⟩:=hs 11 _ 58 rfl rfl (hd 11 wm);have hw:IntKind.i64.wrap ((atK qs (p.toll,p.owner)).getD 0+p.heads)=(atK qs (p.toll,p.owner)).getD 0+p.heads:=IntWalk.i64_in _ (by have:=Am.1 hh;omega);clear hs hd;refine wz fun K hK=>?_
   go_simp;exact hK _ _ ⟨_,rfl,rfl,by simpa[BC] using hI,fun _ _ h=>h⟩
  ·obtain rfl:=Option.some.inj ho;obtain⟨_,e50,rfl⟩:=hs 3 _ 50 rfl rfl (hd 3 wm);obtain⟨_,e55,rfl⟩:=hs 8 _ 55 rfl rfl (hd 8 wm);rw[hLk]at hI;have hme:=(show OI w x bt bd mb t s qs from hI.1).entry p.toll p.owner;clear hs hd;refine wz fun K hK=>?_
   go_simp;refine hK _ _ ⟨_,rfl,rfl,⟨?_,hI.2.other _ hg⟩,fun _ _ h=>h⟩;have:=(show OI w x bt bd mb t s qs from hI.1).put (Qe qs (p.toll,p.owner))
   simpa[BC] using this
  ·obtain rfl:=Option.some.inj ho;obtain⟨_,e60,rfl⟩:=hs 13 _ 60 rfl rfl (hd 13 wm);clear hs hd;refine wz fun K hK=>?_
   go_simp;exact hK _ _ ⟨_,rfl,rfl,by simpa[BC] using hI,fun _ _ h=>h⟩
 ·clear Z;intro L a x hall hI Z hs;obtain⟨_,e50,rfl⟩:=hs 3 _ 50 rfl rfl (hall 3 (by decide));obtain⟨_,e59,rfl⟩:=hs 12 _ 59 rfl rfl (hall 12 (by decide));obtain⟨_,e61,rfl⟩:=hs 14 _ 61 rfl rfl (hall 14 (by decide));have I1:=hI.1;rw[hall 13 (by decide)]at I1;have hes:=(show OI w x bt bd mb t s (Qe qs (p.toll,p.owner)) from I1).store ((atK qs (p.toll,p.owner)).getD 0+p.heads);clear hs;refine wz fun K hK=>?_
  go_simp;refine hK _ _ (h _ _ Z ?_);exact I1.put _
theorem J7 {t:Ae}{s:Dt}{l:List Ar}{la:Option Addr}{lc:Nat}{w:World}(ht:Bf w t s) (hl:BV w la l) (hlm:l.length≤maxLen):Calls Try.prog 77 #[.agg (CJ t s),.slice la l.length lc] w (ZY w t s l):=by
 refine I7 Try.func77 UM Try.ntmps77 ?_;intro a Z;refine wsr ?_;refine Z.s ?_;clear Z;intro a Z;refine aw ?_;intro x hz X hb;have hI:=TI.made (Below.refl _ _) ht X hb;obtain⟨bt,hbt⟩:∃ b,b=w.heap.size:=⟨_,rfl⟩;rw[← hbt]at Z hI;clear hz X hb hbt;(iterate 2 refine Z.s ?_;clear Z;intro a Z);refine od ?_;refine wss ?_;refine oz fun K hK=>?_
 have e2:=Z.g 2;have c0:=hI.c0;have c1:=hI.c1;have c2:=hI.c2;have c3:=hI.c3;have c4:=hI.c4;have c5:=hI.c5;go_simp;refine Z.K hK ?_;clear Z hK;intro a Z;refine oz fun K hK=>?_
 have e10:=Z.g 10;go_simp;refine(Lt hI.tar).mono ?_;rintro e x ⟨rfl,hb⟩;replace hI:=hI.keep hb;clear hb;refine Z.K hK ?_;clear Z hK;intro a Z;refine Z.e ?_;clear Z;intro a Z;refine wsr ?_;refine Z.s ?_;clear Z;intro a Z
 by_cases h1:Aq t=0
 ·have hne:=BO h1;refine Z.e ?_;clear Z;intro a Z;refine Z.cs 13 ?_;refine wss ?_;(iterate 2 refine Z.s ?_;clear Z;intro a Z)
  by_cases h2:24<l.length
  ·have q1:(24:Int)<(l.length:Int):=by omega
   have hE:=Lib.hid (Ha.2.1 h1 h2);refine Z.e ?_;clear Z;intro a Z;refine Z.ct 17 ?_;refine wsr ?_;(iterate 2 refine Z.s ?_;clear Z;intro a Z);refine od ?_;refine wp_ret ?_
   try simp only[xt]
   have hnz:Bc t l≠0:=by rw[hE.out];decide
   refine bodyPost_ret (v:=.tuple #[.pointer none,.int .i64 (Bc t l)]) ?_ Z.defers ⟨hI.below,fun _=>rfl,fun h=>absurd h hnz⟩;rw[hE.out];simp[results,Try.results77,Z.get 4 _ rfl,Z.get 5 _ rfl]
  ·have q1:¬ (24:Int)<(l.length:Int):=by omega
   obtain⟨_,_,_,hl1,hl4,hpf,_,hl6,hte⟩:=AY h1;have HE0:=Lib.hid (Ha.2.2 h1 (Nat.le_of_not_lt h2));have HTE:=Lib.hid hte;clear hte;refine Z.e ?_;clear Z;intro a Z;refine Z.cs 17 ?_;refine wsr ?_;refine oz fun K hK=>?_
   have e2:=Z.g 2;have c0:=hI.c0;have c1:=hI.c1;have c2:=hI.c2;have c3:=hI.c3;have c4:=hI.c4;have c5:=hI.c5;go_simp;refine Z.K hK ?_;clear Z hK;intro a Z;refine Z.s ?_;clear Z;intro a Z;clear c0 c1 c2 c3 c4 c5;refine Po (G:=fun W=>wpOps _ _ _ _ _ W) ?_;have hzx:=hI.below.size;have hzt:=hI.kb.lt;obtain⟨mb,hmb⟩:∃ b,b=x.heap.size:=⟨_,rfl⟩;intro x hz M hb;replace hI:=hI.keep hb;rw[← hmb]at Z M hz;have hmt:mb≠bt:=by omega
   have hwm:w.heap.size≤mb:=by omega
   have HZ:=Lib.hid hz;clear hb hmb hz hzx hzt;(iterate 2 refine Z.s ?_;clear Z;intro a Z);refine aw ?_;obtain⟨bd,hbd⟩:∃ b,b=x.heap.size:=⟨_,rfl⟩;have hz:=HZ.out;intro x hz2 D hb;rw[← hbd]at Z D;have hO:OI w x bt bd mb t s []:=⟨hI.below.trans (hb.mono hI.below.size),hI.kb.below hb,D,M.below hb (by omega),hI.lb,by omega,hwm,hmt,by omega⟩;clear hI D M hz hz2 HZ hb hbd hmt hwm;have hI:=hO;clear hO;refine Z.e ?_;clear Z;intro a Z;refine wss ?_;(iterate 3 refine Z.s ?_;clear Z;intro a Z);refine od ?_;refine wp_block ?_;refine wp_loop_ghost (fun n p x=>∃ (k:Nat) (qs:List ((Int×Int)×Int)),k+n=l.length∧DZ t (l.take k)∧Ed t (l.drop k)=Bc t l∧(∀ key,(atK qs key).getD 0=Au (l.take k) key)∧Sl p 64 [(2,.pointer (some ⟨bt,0,none⟩)),(7,.pointer (some ⟨bd,0,none⟩)),(22,.slice la l.length lc),(23,.int .i64 (l.length:Int)),(24,.int .i64 (k:Int))]∧OI w x bt bd mb t s qs) l.length ⟨0,[],by omega,fun p hp=>by simp at hp,HE0.out.symm,fun key=>rfl,Z.sb,hI⟩ ?_;clear Z hI;rintro n a x ⟨k,qs,hkn,hfine,hE,hS,Z,hI⟩;have HE:=Lib.hid hE;clear hE;have HS:=Lib.hid hS;clear hS;have HF:=Lib.hid hfine;clear hfine;refine wsr ?_
   by_cases hlt:k<l.length
   ·have q1:(k:Int)<(l.length:Int):=by omega
    obtain⟨pb,po,hpa,p0,p1,p2⟩:=(hl.below hI.below).at hlt;rw[hpa]at Z;simp only[Oy]at p0 p1 p2;refine Z.e ?_;clear Z;intro a Z;refine wp_seq ?_;refine Z.ct 25 ?_;refine wp_skip ?_;refine wp_seq ?_;refine wp_block ?_;refine wsr ?_;(iterate 2 refine Z.s ?_;clear Z;intro a Z);refine oz fun K hK=>?_
    obtain⟨g,hg⟩:∃ b,b=x.heap.size:=⟨_,rfl⟩;go_simp;refine Z.K hK ?_;clear Z hK;intro a Z;refine oz fun K hK=>?_
    have e9:=Z.g 9;have e27:=Z.g 27;go_simp;clear e9 e27;refine hK _ _ ?_;clear hK;refine aw ?_;have hmg:mb≠g:=by have:=hI.mp.lt;omega
    intro x hz G hb;replace hI:=hI.keep hb;rw[← hg]at Z G;clear hz hb p0 p1 p2 hg;refine od ?_;have HR:=Lib.hid (fun e (h:ED t l[k]=e) (h0:e≠0)=>HE.out.symm.trans (Gz hlt h h0));refine wss ?_;refine Z.s ?_;clear Z;intro a Z;refine Z.f (G.cell (o:=0) rfl) ?_;clear Z;intro a Z;refine Z.s ?_;clear Z;intro a Z;refine Z.f (hI.kb.cell (o:=5) rfl) ?_;clear Z;intro a Z;refine Z.s ?_;clear Z;intro a Z;refine oz fun K hK=>?_
    have e32:=Z.g 32;have hw:IntKind.i64.wrap ((t.Af.length:Int)-1)=(t.Af.length:Int)-1:=IntWalk.i64_in _ (by omega);go_simp;refine Z.K hK ?_;clear Z hK;intro a Z;refine oz fun K hK=>?_
    have e29:=Z.g 29;have e33:=Z.g 33;go_simp;refine(BH _ _ _ _).mono ?_;rintro e x ⟨rfl,rfl⟩;refine Z.K hK ?_;clear Z hK;intro a Z;rcases Bool.eq_false_or_eq_true (btw l[k].toll 0 ((t.Af.length:Int)-1)) with h3|h3
    ·rw[h3]at Z;(iterate 4 refine Z.x ?_;clear Z;intro a Z);refine oy (Z.g 36) fun K hK=>?_
     have e38:=Z.g 38;have g1:=G.cell (o:=1) rfl;go_simp;refine Z.K hK ?_;clear Z hK;intro a Z;refine oy (Z.g 36) fun K hK=>?_
     have e37:=Z.g 37;have e39:=Z.g 39;go_simp;refine(QY (hI.kd.cell (o:=4) rfl) (by unfold maxLen;omega)).mono ?_;rintro e x ⟨rfl,rfl⟩;refine Z.K hK ?_;clear Z hK;intro a Z;rcases Bool.eq_false_or_eq_true (btw l[k].owner 0 ((t.Aa.length:Int)-1)) with h4|h4
     ·rw[h4]at Z;(iterate 2 refine Z.x ?_;clear Z;intro a Z);refine od ?_;refine Z.cs 42 ?_;refine wss ?_;refine Z.s ?_;clear Z;intro a Z;refine Z.f (G.cell (o:=2) rfl) ?_;clear Z;intro a Z;refine oz fun K hK=>?_
      have e44:=Z.g 44;go_simp;refine(BH _ _ _ _).mono ?_;rintro e x ⟨rfl,rfl⟩;refine Z.K hK ?_;clear Z hK;intro a Z;rcases Bool.eq_false_or_eq_true (btw l[k].heads 1 40) with h5|h5
      ·rw[h5]at Z;refine Z.e ?_;clear Z;intro a Z;refine Z.cs 46 ?_;have hs5:=HS.out (l[k].toll,l[k].owner);have hb5:=EC HF.out (l[k].toll,l[k].owner);have hlk5:(l.take k).length≤24:=by rw[List.length_take];omega
       refine Abf hI G hmg (by rw[hs5];exact hb5.1) (by rw[hs5];omega) h5 _ _ _ _ a Z.sb _ ?_;clear Z hI;intro a x Z hI;rw[hs5]at hI;refine wr ?_;refine Z.f (Bz k (by omega)) ?_;clear Z;intro a Z;refine Z.e ?_;clear Z;intro a Z;show Exists _;exact⟨n-1,by omega,k+1,_,by omega,PV hlt HF.out (pe0 h3 h4 h5),(MC hlt (pe0 h3 h4 h5)).symm.trans HE.out,upd_sum hlt HS.out,by rw[hpa];exact Z.sb,hI⟩
      ·rw[h5]at Z;have hE:=Lib.hid (HR.out _ (pe1 h3 h4 h5) (by decide));refine Z.e ?_;clear Z;intro a Z;refine Z.ct 46 ?_;refine wsr ?_;(iterate 2 refine Z.s ?_;clear Z;intro a Z);refine od ?_;refine wp_ret ?_
       try simp only[xt]
       have hnz:Bc t l≠0:=by rw[hE.out];decide
       refine bodyPost_ret (v:=.tuple #[.pointer none,.int .i64 (Bc t l)]) ?_ Z.defers ⟨hI.below,fun _=>rfl,fun h=>absurd h hnz⟩;rw[hE.out];simp[results,Try.results77,Z.get 4 _ rfl,Z.get 5 _ rfl]
     ·rw[h4]at Z;have hE:=Lib.hid (HR.out _ (Ace h4) (by decide));(iterate 2 refine Z.x ?_;clear Z;intro a Z);refine od ?_;refine Z.ct 42 ?_;refine wsr ?_;(iterate 2 refine Z.s ?_;clear Z;intro a Z);refine od ?_;refine wp_ret ?_
      try simp only[xt]
      have hnz:Bc t l≠0:=by rw[hE.out];decide
      refine bodyPost_ret (v:=.tuple #[.pointer none,.int .i64 (Bc t l)]) ?_ Z.defers ⟨hI.below,fun _=>rfl,fun h=>absurd h hnz⟩;rw[hE.out];simp[results,Try.results77,Z.get 4 _ rfl,Z.get 5 _ rfl]
    ·rw[h3]at Z;have hE:=Lib.hid (HR.out _ (Acf h3) (by decide));(iterate 8 refine Z.x ?_;clear Z;intro a Z);refine od ?_;refine Z.ct 42 ?_;refine wsr ?_;(iterate 2 refine Z.s ?_;clear Z;intro a Z);refine od ?_;refine wp_ret ?_
     try simp only[xt]
     have hnz:Bc t l≠0:=by rw[hE.out];decide
     refine bodyPost_ret (v:=.tuple #[.pointer none,.int .i64 (Bc t l)]) ?_ Z.defers ⟨hI.below,fun _=>rfl,fun h=>absurd h hnz⟩;rw[hE.out];simp[results,Try.results77,Z.get 4 _ rfl,Z.get 5 _ rfl]
   ·obtain rfl:k=l.length:=by omega
    refine Z.e ?_;clear Z;intro a Z;refine wp_seq ?_;refine Z.cf 25 ?_;refine wp_exit ?_;refine wsr ?_;(iterate 3 refine Z.s ?_;clear Z;intro a Z);refine od ?_;refine wp_ret ?_
    try simp only[xt]
    have hE0:Bc t l=0:=by rw[← HE.out,List.drop_of_length_le (Nat.le_refl _)];rfl
    rw[List.take_length]at HS;refine bodyPost_ret (v:=.tuple #[.pointer (some ⟨bd,0,none⟩),.int .i64 0]) ?_ Z.defers ⟨hI.below,fun h=>absurd hE0 h,fun _=>⟨bd,mb,rfl,hI.n1.2.1,hI.n1.2.2.1,hI.kd,qs,hI.mp,HS.out⟩⟩;simp[results,Try.results77,Z.get 4 _ rfl,Z.get 5 _ rfl]
 ·have hne:=CB h1;have hE:=Lib.hid (Ha (l:=l).1 h1);have HN:=Lib.hid h1;clear h1;refine Z.e ?_;clear Z;intro a Z;refine Z.ct 13 ?_;refine wsr ?_;(iterate 3 refine Z.s ?_;clear Z;intro a Z);refine od ?_;refine wp_ret ?_
  try simp only[xt]
  have hnz:Bc t l≠0:=by rw[hE.out];exact HN.out
  refine bodyPost_ret (v:=.tuple #[.pointer none,.int .i64 (Bc t l)]) ?_ Z.defers ⟨hI.below,fun _=>rfl,fun h=>absurd h hnz⟩;rw[hE.out];simp[results,Try.results77,Z.get 4 _ rfl,Z.get 5 _ rfl]
end
section
open Go.RowKit
theorem SA:(fun r=>Try.f71.body=some (.seq (r 0) (.seq (r 1) .ret))) (Ac Try.f71):=by show _=_;kernel_rfl
theorem Rt {w:World}{p:Int}(h0:0≤p) (h1:p≤1000000000000000):Calls Try.prog 71 #[.int .i64 p] w (fun e w'=>e=.returned (.int .i64 (A7 p))∧w'=w):=by
 have hw1:IntKind.i64.wrap (p+199)=p+199:=IntWalk.i64_in _ (by omega)
 have hw2:IntKind.i64.wrap ((p+199).tdiv 200)=A7 p:=by
  rw[Int.tdiv_eq_ediv_of_nonneg (by omega)];exact IntWalk.i64_in _ (by omega)
 refine MW Try.func71 SA Try.ntmps71 ?_;intro a Z;refine wsr ?_;refine Z.e ?_;clear Z;intro a Z;refine wsr ?_;(iterate 4 refine Z.s ?_;clear Z;intro a Z);refine od ?_;refine wp_ret ?_
 try simp only[xt]
 exact Z.rt (v:=.int .i64 (A7 p)) 2 ⟨rfl,rfl⟩
theorem Wy:(fun r=>Try.f107.body=some (.seq (r 0) (.seq (.seq (r 1) (.block 0 (.seq (r 2) (.cond (.tmp 6) (.seq (r 3) .ret) (.seq (r 4) (.cond (.tmp 12) (.seq (r 5) .ret) .skip)))))) (.seq (r 6) .ret)))) (Ac Try.f107):=by show _=_;kernel_rfl
def Jv (s:Strip) (at_:Int):Int:=if at_=s.A then s.B else if at_=s.B then s.A else -1
theorem AaK {w:World}{s:Strip}{at_:Int}:Calls Try.prog 107 #[s.val,.int .i64 at_] w (fun e w'=>e=.returned (.int .i64 (Jv s at_))∧Below w.heap.size w w'):=by
 have hv:s.val=.agg #[.int .i64 s.A,.int .i64 s.B,.int .i64 s.L,.int .i64 s.W,.int .i64 s.K,.int .i64 s.X,.int .i64 s.Y]:=rfl;rw[hv];clear hv;refine I7 Try.func107 Wy Try.ntmps107 ?_;intro a Z;refine wsr ?_;refine Z.s ?_;clear Z;intro a Z;refine aw ?_;obtain⟨g,hg⟩:∃ b,b=w.heap.size:=⟨_,rfl⟩;intro x hz X hb0;rw[← hg]at Z X;clear hz hg;refine Z.e ?_;clear Z;intro a Z;refine wss ?_;refine Z.e ?_;clear Z;intro a Z;refine wp_block ?_;refine wsr ?_;refine Z.s ?_;clear Z;intro a Z;refine Z.f (X.cell (o:=0) rfl) ?_;clear Z;intro a Z
 by_cases h1:at_=s.A
 ·have hb:=EI h1;have hR:=Lib.hid (show Jv s at_=s.B from by unfold Jv;rw[if_pos h1]);clear h1;(iterate 2 refine Z.s ?_;clear Z;intro a Z);refine od ?_;refine Z.ct 6 ?_;refine wsr ?_;refine Z.s ?_;clear Z;intro a Z;refine Z.f (X.cell (o:=1) rfl) ?_;clear Z;intro a Z;refine Z.e ?_;clear Z;intro a Z;refine wp_ret ?_
  try simp only[xt]
  exact Z.rt (v:=.int .i64 (Jv s at_)) 4 ⟨rfl,hb0⟩ (hm:=by rw[hR.out];rfl)
 ·have hb:=DW h1;have H1:=Lib.hid h1;clear h1;(iterate 2 refine Z.s ?_;clear Z;intro a Z);refine od ?_;refine Z.cf 6 ?_;refine wsr ?_;refine Z.s ?_;clear Z;intro a Z;refine Z.f (X.cell (o:=1) rfl) ?_;clear Z;intro a Z
  by_cases h2:at_=s.B
  ·have hb:=EI h2;have hR:=Lib.hid (show Jv s at_=s.A from by unfold Jv;rw[if_neg H1.out,if_pos h2]);clear h2;(iterate 2 refine Z.s ?_;clear Z;intro a Z);refine od ?_;refine Z.ct 12 ?_;refine wsr ?_;refine Z.s ?_;clear Z;intro a Z;refine Z.f (X.cell (o:=0) rfl) ?_;clear Z;intro a Z;refine Z.e ?_;clear Z;intro a Z;refine wp_ret ?_
   try simp only[xt]
   exact Z.rt (v:=.int .i64 (Jv s at_)) 4 ⟨rfl,hb0⟩ (hm:=by rw[hR.out];rfl)
  ·have hb:=DW h2;have hR:=Lib.hid (show Jv s at_ = -1 from by unfold Jv;rw[if_neg H1.out,if_neg h2]);(iterate 2 refine Z.s ?_;clear Z;intro a Z);refine od ?_;refine Z.cs 12 ?_;refine wsr ?_;refine Z.e ?_;clear Z;intro a Z;refine wp_ret ?_
   try simp only[xt]
   exact Z.rt (v:=.int .i64 (Jv s at_)) 4 ⟨rfl,hb0⟩ (hm:=by rw[hR.out];rfl)
theorem Uu {w:World}(s:Strip) (at_:Int):Calls Try.prog 107 #[.agg #[.int .i64 s.A,.int .i64 s.B,.int .i64 s.L,.int .i64 s.W,.int .i64 s.K,.int .i64 s.X,.int .i64 s.Y],.int .i64 at_] w (fun e w'=>e=.returned (.int .i64 (Jv s at_))∧Below w.heap.size w w'):=AaK
theorem Yz:(fun r=>Try.f70.body=some (.seq (r 0) (.seq (r 1) (.seq (.seq (r 2) (.cond (.tmp 27) (r 3) .skip)) (.seq (r 4) .ret))))) (Ac Try.f70):=by show _=_;kernel_rfl
structure Aa2 (w:World) (bd tb to_ tn tc i:Nat) (rate:Int):Prop where
 c5:w.cell? ⟨bd,5,none⟩=some (.slice (some ⟨tb,to_,none⟩) tn tc)
 r:w.cell? ⟨tb,to_+i*3+1,none⟩=some (.int .i64 rate)
 i:i<tn
theorem Aa2.below {w w':World}{bd tb to_ tn tc i:Nat}{rate:Int}(h:Aa2 w bd tb to_ tn tc i rate) (hb:Below w.heap.size w w'):Aa2 w' bd tb to_ tn tc i rate:=⟨((Ef hb).1 _ _ (lt_of_cell h.c5)).trans h.c5,((Ef hb).1 _ _ (lt_of_cell h.r)).trans h.r,h.i⟩
structure OfI (w x:World) (bd tb to_ tn tc i g:Nat) (rate hd fr:Int) (half:Bool):Prop where
 below:Below w.heap.size w x
 o:Aa2 x bd tb to_ tn tc i rate
 G:Rw x g #[.int .i64 hd,.int .i64 fr,.bool half] 69
theorem OfI.drew {w x:World}{bd tb to_ tn tc i g:Nat}{rate hd fr:Int}{half:Bool}(h:OfI w x bd tb to_ tn tc i g rate hd fr half):OfI w x.drew bd tb to_ tn tc i g rate hd fr half:=⟨h.below.drew,h.o.below (Below.refl _ _).drew,h.G.below (Below.refl _ _).drew⟩
theorem Aac {w:World}{bd tb to_ tn tc i:Nat}{hd fr qh rate:Int}{half:Bool}(hO:Aa2 w bd tb to_ tn tc i rate) (hf0:0≤fr) (hf1:fr≤1000000) (hq0:0≤qh) (hq1:qh≤1000000) (hr0:0≤rate) (hr1:rate≤100000):Calls Try.prog 70 #[.pointer (some ⟨bd,0,none⟩),.agg #[.int .i64 hd,.int .i64 fr,.bool half],.int .i64 (i:Int),.int .i64 qh] w (fun e w'=>e=.returned (.int .i64 (ofV fr half qh rate))∧Below w.heap.size w w'):=by
 have hm0:0≤(if fr<qh then qh-fr else 0):=by split<;>omega
 have hm1:(if fr<qh then qh-fr else 0)≤1000000:=by split<;>omega
 have hpr0:0≤(if fr<qh then qh-fr else 0)*rate:=Int.mul_nonneg hm0 hr0;have hpr1:(if fr<qh then qh-fr else 0)*rate≤1000000*100000:=Int.mul_le_mul hm1 hr1 hr0 (by omega);obtain⟨P,hP⟩:∃ P,P=(if fr<qh then qh-fr else 0)*rate:=⟨_,rfl⟩;rw[← hP]at hpr0 hpr1;have hw1:IntKind.i64.wrap (qh-fr)=qh-fr:=IntWalk.i64_in _ (by omega);have HW2:=Lib.hid (show IntKind.i64.wrap ((if fr<qh then qh-fr else 0)*rate)=P from by rw[← hP];exact IntWalk.i64_in _ (by omega));have hw3:IntKind.i64.wrap (P*2)=P*2:=IntWalk.i64_in _ (by omega);have HV:=Lib.hid (show ofV fr half qh rate=if half then P else P*2 from by rw[hP];rfl);have HP:=Lib.hid hP;clear hP hm0 hm1;refine call4 Try.func70 Yz Try.ntmps70 ?_;intro a Z;refine wsr ?_;refine Z.s ?_;clear Z;intro a Z;refine aw ?_;obtain⟨g,hg⟩:∃ b,b=w.heap.size:=⟨_,rfl⟩;intro x hz X hb0;rw[← hg]at Z X;have hI:OfI w x bd tb to_ tn tc i g rate hd fr half:=⟨hb0,hO.below hb0,X⟩;clear hz hg X hb0;refine Z.e ?_;clear Z;intro a Z;refine wp_seq ?_;rw[show Ac Try.f70 1=Code.region 1 _ true from rfl]
 refine D8 (by kernel_rfl) (((((Z.nil.cons (Z.g 3)).cons (Z.g 2)).cons (Z.g 5)).cons (Z.g 0))) [some 10,some 11,some 12,some 13,some 14,some 15,some 16,some 17,some 18,some 19,some 20,some 21,some 22,some 23,some 24,some 9] rfl rfl (by kernel_rfl) (fun j v _=>match j with|0=>v=.int .i64 qh|1=>v=.pointer (some ⟨g,1,none⟩)|2=>v=.int .i64 fr|3=>v=.int .i64 (qh-fr)|4=>v=.int .i64 (if fr<qh then qh-fr else 0)|5=>v=.pointer (some ⟨bd,0,none⟩)|6=>v=.pointer (some ⟨bd,0,none⟩)|7=>v=.pointer (some ⟨bd,0,none⟩)|8=>v=.pointer (some ⟨bd,5,none⟩)|9=>v=.slice (some ⟨tb,to_,none⟩) tn tc|10=>v=.int .i64 (i:Int)|11=>v=.pointer (some ⟨tb,to_+i*3,none⟩)|12=>v=.pointer (some ⟨tb,to_+i*3+1,none⟩)|13=>v=.int .i64 rate|14=>v=.int .i64 P|15=>v=.int .i64 P|_=>True) (fun _ x=>OfI w x bd tb to_ tn tc i g rate hd fr half) (hI.drew) ?_ ?_
 ·clear Z;intro k o hkl ho L a x hI hLk Z hs hd;have hlt:∀ k:Nat,k<16→k=0∨k=1∨k=2∨k=3∨k=4∨k=5∨k=6∨k=7∨k=8∨k=9∨k=10∨k=11∨k=12∨k=13∨k=14∨k=15:=by decide
  rcases hlt k hkl with rfl|rfl|rfl|rfl|rfl|rfl|rfl|rfl|rfl|rfl|rfl|rfl|rfl|rfl|rfl|rfl
  ·obtain rfl:=Option.some.inj ho;have e3:=Z.g 3;clear hs hd;refine wz fun K hK=>?_
   go_simp;exact hK _ _ ⟨_,rfl,rfl,hI,fun _ _ h=>h⟩
  ·obtain rfl:=Option.some.inj ho;have e5:=Z.g 5;clear hs hd;refine wz fun K hK=>?_
   go_simp;exact hK _ _ ⟨_,rfl,rfl,hI,fun _ _ h=>h⟩
  ·obtain rfl:=Option.some.inj ho;obtain⟨_,e11,rfl⟩:=hs 1 _ 11 rfl rfl (hd 1 wm);have c:=hI.G.cell (o:=1) rfl;clear hs hd;refine wz fun K hK=>?_
   go_simp;exact hK _ _ ⟨_,rfl,rfl,hI,fun _ _ h=>h⟩
  ·obtain rfl:=Option.some.inj ho;obtain⟨_,e10,rfl⟩:=hs 0 _ 10 rfl rfl (hd 0 wm);obtain⟨_,e12,rfl⟩:=hs 2 _ 12 rfl rfl (hd 2 wm);clear hs hd;refine wz fun K hK=>?_
   go_simp;exact hK _ _ ⟨_,rfl,rfl,hI,fun _ _ h=>h⟩
  ·obtain rfl:=Option.some.inj ho;obtain⟨_,e13,rfl⟩:=hs 3 _ 13 rfl rfl (hd 3 wm);clear hs hd;refine wz fun K hK=>?_
   go_simp;exact hK _ _ ⟨_,rfl,rfl,hI,fun _ _ h=>h⟩
  ·obtain rfl:=Option.some.inj ho;have e0:=Z.g 0;clear hs hd;refine wz fun K hK=>?_
   go_simp;exact hK _ _ ⟨_,rfl,rfl,hI,fun _ _ h=>h⟩
  ·obtain rfl:=Option.some.inj ho;obtain⟨_,e15,rfl⟩:=hs 5 _ 15 rfl rfl (hd 5 wm);clear hs hd;refine wz fun K hK=>?_
   go_simp;exact hK _ _ ⟨_,rfl,rfl,hI,fun _ _ h=>h⟩
  ·obtain rfl:=Option.some.inj ho;obtain⟨_,e16,rfl⟩:=hs 6 _ 16 rfl rfl (hd 6 wm);clear hs hd;refine wz fun K hK=>?_
   go_simp;exact hK _ _ ⟨_,rfl,rfl,hI,fun _ _ h=>h⟩
  ·obtain rfl:=Option.some.inj ho;obtain⟨_,e17,rfl⟩:=hs 7 _ 17 rfl rfl (hd 7 wm);clear hs hd;refine wz fun K hK=>?_
   go_simp;exact hK _ _ ⟨_,rfl,rfl,hI,fun _ _ h=>h⟩
  ·obtain rfl:=Option.some.inj ho;obtain⟨_,e18,rfl⟩:=hs 8 _ 18 rfl rfl (hd 8 wm);have c:=hI.o.c5;clear hs hd;refine wz fun K hK=>?_
   go_simp;exact hK _ _ ⟨_,rfl,rfl,hI,fun _ _ h=>h⟩
  ·obtain rfl:=Option.some.inj ho;have e2:=Z.g 2;clear hs hd;refine wz fun K hK=>?_
   go_simp;exact hK _ _ ⟨_,rfl,rfl,hI,fun _ _ h=>h⟩
  ·obtain rfl:=Option.some.inj ho;obtain⟨_,e19,rfl⟩:=hs 9 _ 19 rfl rfl (hd 9 wm);obtain⟨_,e20,rfl⟩:=hs 10 _ 20 rfl rfl (hd 10 wm);have hi3:=hI.o.i;clear hs hd;refine wz fun K hK=>?_
   go_simp;exact hK _ _ ⟨_,rfl,rfl,hI,fun _ _ h=>h⟩
  ·obtain rfl:=Option.some.inj ho;obtain⟨_,e21,rfl⟩:=hs 11 _ 21 rfl rfl (hd 11 wm);clear hs hd;refine wz fun K hK=>?_
   go_simp;exact hK _ _ ⟨_,rfl,rfl,hI,fun _ _ h=>h⟩
  ·obtain rfl:=Option.some.inj ho;obtain⟨_,e22,rfl⟩:=hs 12 _ 22 rfl rfl (hd 12 wm);have c:=hI.o.r;clear hs hd;refine wz fun K hK=>?_
   go_simp;exact hK _ _ ⟨_,rfl,rfl,hI,fun _ _ h=>h⟩
  ·obtain rfl:=Option.some.inj ho;obtain⟨_,e14,rfl⟩:=hs 4 _ 14 rfl rfl (hd 4 wm);obtain⟨_,e23,rfl⟩:=hs 13 _ 23 rfl rfl (hd 13 wm);have hw2:=HW2.out;clear hs hd;refine wz fun K hK=>?_
   go_simp;exact hK _ _ ⟨_,rfl,rfl,hI,fun _ _ h=>h⟩
  ·obtain rfl:=Option.some.inj ho;obtain⟨_,e24,rfl⟩:=hs 14 _ 24 rfl rfl (hd 14 wm);clear hs hd;refine wz fun K hK=>?_
   go_simp;exact hK _ _ ⟨_,rfl,rfl,hI,fun _ _ h=>h⟩
 ·clear Z;intro L a x hall hI Z hs;obtain⟨_,e9,rfl⟩:=hs 15 _ 9 rfl rfl (hall 15 (by decide));replace Z:=(Z.cons e9);clear hs hall e9;refine wss ?_;refine Z.s ?_;clear Z;intro a Z;refine Z.f (hI.G.cell (o:=2) rfl) ?_;clear Z;intro a Z
  cases half
  ·refine Z.e ?_;clear Z;intro a Z;refine Z.ct 27 ?_;refine wr ?_;(iterate 3 refine Z.s ?_;clear Z;intro a Z);refine od ?_;refine wsr ?_;(iterate 2 refine Z.s ?_;clear Z;intro a Z);refine od ?_;refine wp_ret ?_
   try simp only[xt]
   exact Z.rt (v:=.int .i64 _) 8 ⟨congrArg (fun z=>Ending.returned (.int .i64 z)) (HV.out.symm),hI.below⟩
  ·refine Z.e ?_;clear Z;intro a Z;refine Z.cs 27 ?_;refine wsr ?_;(iterate 2 refine Z.s ?_;clear Z;intro a Z);refine od ?_;refine wp_ret ?_
   try simp only[xt]
   exact Z.rt (v:=.int .i64 _) 8 ⟨congrArg (fun z=>Ending.returned (.int .i64 z)) (HV.out.symm),hI.below⟩
end
end Go.Proofs.Ytgdobbcjkiapkaa
