import Derived.Test.YtgdobbcjkiapkaaSv04
import Derived.Test.YtgdobbcjkiapkaaSv26
namespace Go.Proofs.Ytgdobbcjkiapkaa
set_option maxRecDepth 100000
set_option maxHeartbeats 4000000
set_option linter.unusedSimpArgs false
set_option linter.unusedVariables false
section
open Go.RowKit
def GK (ps:List (Nat×Nat)) (L:Nat→Bool):Prop:=∀ q∈ps,L q.1=true→L q.2=true
theorem GK.upd {ps:List (Nat×Nat)}{L:Nat→Bool}(h:GK ps L) (k:Nat) (hq:∀ q∈ps,q.1=k→L q.2=true):GK ps (BC L k true):=by
 intro q hm h1
 by_cases e2:q.2=k
 ·rw[e2];exact Ez _ _ _
 ·rw[Ap _ _ e2]
  by_cases e:q.1=k
  ·exact hq q hm e
  ·rw[Ap _ _ e]at h1;exact h q hm h1
theorem GK.low {ps:List (Nat×Nat)}{L:Nat→Bool}(h:GK ps L) (k:Nat) (hq:(ps.all fun q=>q.1 != k)=true):GK ps (BC L k true):=h.upd k fun q hm e=>by
 have:=List.all_eq_true.1 hq q hm;simp[e]at this
theorem GK.not {ps:List (Nat×Nat)}{L:Nat→Bool}(h:GK ps L) (s j:Nat) (hm:(s,j)∈ps) (hL:L j=false):L s=false:=by
 cases c:L s with
 | false=>rfl
 | true=>have:=h (s,j) hm c;dsimp only at this;rw[this]at hL;exact absurd hL (by simp)
theorem GK.none (ps:List (Nat×Nat)):GK ps (fun _=>false):=fun _ _ h=>by simp at h
def AbN:List (Nat×Nat):=[(12,0),(12,3),(12,7),(13,4),(13,7),(14,8)]
def AbM:List (Nat×Nat):=[(14,0),(14,1),(15,5),(15,6),(16,10)]
structure D14 where
 x0:World
 vs0:Value
 vw0:Value
 pre:List ChB
 VS:Value
 VW:Value
 lg:Int
 nx:Int
 kk:Int
 Lg:Int
 st:List Int
 wy:List Int
 gt:Nat
 sc:Array Value
structure P14 (J:List ChB→World→Prop) (p:GP) (d:D14) (u1 u2:Value) (g1 g2:Nat) (b2 b3 b6 b7 b12 b13 b14:Bool) (y:World):Prop where
 m:GM J p y d.pre (bif b12 then u1 else d.VS) (bif b13 then u2 else d.VW) (bif b14 then d.lg+d.Lg else d.lg) (bif b3 then u1 else d.VS) (bif b7 then u2 else d.VW) (bif b3 then d.st++[d.nx] else d.st) (bif b7 then d.wy++[d.kk] else d.wy)
 f:FR p d.x0 y d.vs0 d.vw0 (bif b3 then u1 else d.VS) (bif b7 then u2 else d.VW)
 t:TB p y d.gt d.sc 96 (bif b3 then u1 else d.VS) (bif b7 then u2 else d.VW)
 t1:b2=true→b3=false→TB p y g1 #[.int .i64 d.nx] 3 (bif b3 then u1 else d.VS) (bif b7 then u2 else d.VW)
 t2:b6=true→b7=false→TB p y g2 #[.int .i64 d.kk] 3 (bif b3 then u1 else d.VS) (bif b7 then u2 else d.VW)
 n1:b3=true→u1 ≠ .slice none 0 0
 n2:b7=true→u2 ≠ .slice none 0 0
section
variable {J:List ChB→World→Prop}{p:GP}{d:D14}{u1 u2:Value}{g1 g2:Nat}{b2 b3 b6 b7 b12 b13 b14:Bool}{y y':World}
theorem P14.below (h:P14 J p d u1 u2 g1 g2 b2 b3 b6 b7 b12 b13 b14 y) (hJ:JOk J p) (hb:Below y.heap.size y y'):P14 J p d u1 u2 g1 g2 b2 b3 b6 b7 b12 b13 b14 y' :=
 ⟨h.m.below hJ hb,h.f.below hb,h.t.below hb,fun a b=>(h.t1 a b).below hb,fun a b=>(h.t2 a b).below hb,h.n1,h.n2⟩
theorem P14.Acp (h:P14 J p d u1 u2 g1 g2 false b3 b6 b7 b12 b13 b14 y) (hJ:JOk J p):P14 J p d u1 u2 y.heap.size g2 true b3 b6 b7 b12 b13 b14 (y.alloc (.cells #[.int .i64 d.nx] 3)) :=
 have h':=h.below hJ (DL y (.cells #[.int .i64 d.nx] 3))
 ⟨h'.m,h'.f,h'.t,fun _ _=>TB.new h.m hJ (Rw.new _ _ _),h'.t2,h.n1,h.n2⟩
theorem P14.Aco (h:P14 J p d u1 u2 g1 g2 b2 b3 false b7 b12 b13 b14 y) (hJ:JOk J p):P14 J p d u1 u2 g1 y.heap.size b2 b3 true b7 b12 b13 b14 (y.alloc (.cells #[.int .i64 d.kk] 3)) :=
 have h':=h.below hJ (DL y (.cells #[.int .i64 d.kk] 3))
 ⟨h'.m,h'.f,h'.t,h'.t1,fun _ _=>TB.new h.m hJ (Rw.new _ _ _),h.n1,h.n2⟩
theorem P14.app1 (h:P14 J p d u1 u2 g1 g2 b2 false b6 b7 false b13 b14 y) (hJ:JOk J p) {v:Value}(ho:Df y' p.B v (d.st++[d.nx])) (hb:Below p.B y y') (hg:y.grownBy y' d.VS.ownBlock) (hv:v.ownBlock=d.VS.ownBlock∨v.ownBlock=some y.heap.size) (hn:v ≠ .slice none 0 0):P14 J p d v u2 g1 g2 b2 true b6 b7 false b13 b14 y' :=
 ⟨h.m.Aa6 hJ ho hb hg hv,h.f.Aa6 hb.size hg hv,h.t.Aa6 hg hv,fun _ e=>by simp at e,fun a b=>(h.t2 a b).Aa6 hg hv,fun _=>hn,h.n2⟩
theorem P14.Acu (h:P14 J p d u1 u2 g1 g2 b2 b3 b6 false b12 false b14 y) (hJ:JOk J p) {v:Value}(ho:Df y' p.B v (d.wy++[d.kk])) (hb:Below p.B y y') (hg:y.grownBy y' d.VW.ownBlock) (hv:v.ownBlock=d.VW.ownBlock∨v.ownBlock=some y.heap.size) (hn:v ≠ .slice none 0 0):P14 J p d u1 v g1 g2 b2 b3 b6 true b12 false b14 y' :=
 ⟨h.m.appW hJ ho hb hg hv,h.f.appW hb.size hg hv,h.t.appW hg hv,fun a b=>(h.t1 a b).appW hg hv,fun _ e=>by simp at e,h.n1,fun _=>hn⟩
theorem P14.st1 (h:P14 J p d u1 u2 g1 g2 b2 true b6 b7 b12 b13 b14 y) (hJ:JOk J p) (hO:p.Ord):P14 J p d u1 u2 g1 g2 b2 true b6 b7 true b13 b14 (y.setCell ⟨p.bs,0,none⟩ u1) :=
 have hm:p.bs∈p.boxes:=by simp[GP.boxes]
 ⟨h.m.Ab9 hJ hO u1,h.f.Nj hm u1,h.t.Nj hm u1,fun a b=>(h.t1 a b).Nj hm u1,fun a b=>(h.t2 a b).Nj hm u1,h.n1,h.n2⟩
theorem P14.st2 (h:P14 J p d u1 u2 g1 g2 b2 b3 b6 true b12 b13 b14 y) (hJ:JOk J p) (hO:p.Ord):P14 J p d u1 u2 g1 g2 b2 b3 b6 true b12 true b14 (y.setCell ⟨p.bw,0,none⟩ u2) :=
 have hm:p.bw∈p.boxes:=by simp[GP.boxes]
 ⟨h.m.setW hJ hO u2,h.f.Nj hm u2,h.t.Nj hm u2,fun a b=>(h.t1 a b).Nj hm u2,fun a b=>(h.t2 a b).Nj hm u2,h.n1,h.n2⟩
theorem P14.st3 (h:P14 J p d u1 u2 g1 g2 b2 b3 b6 b7 b12 b13 b14 y) (hJ:JOk J p) (hO:p.Ord):P14 J p d u1 u2 g1 g2 b2 b3 b6 b7 b12 b13 true (y.setCell ⟨p.bl,0,none⟩ (.int .i64 (d.lg+d.Lg))) :=
 have hm:p.bl∈p.boxes:=by simp[GP.boxes]
 ⟨h.m.Aca hJ hO (d.lg+d.Lg),h.f.Nj hm _,h.t.Nj hm _,fun a b=>(h.t1 a b).Nj hm _,fun a b=>(h.t2 a b).Nj hm _,h.n1,h.n2⟩
end
theorem Abm {p:GP}{J:List ChB→World→Prop}(hJ:JOk J p) (hO:p.Ord) {s:Strip}{st wy:List Int}{lg nx kk:Int}{pre:List ChB}{VS VW vs0 vw0 v10 v37 v38 v39:Value}{gt:Nat}{x x0:World}(hM:GM J p x pre VS VW lg VS VW st wy) (hF:FR p x0 x vs0 vw0 VS VW) (hTB:TB p x gt #[.int .i64 s.A,.int .i64 s.B,.int .i64 s.L,.int .i64 s.W,.int .i64 s.K,.int .i64 s.X,.int .i64 s.Y] 96 VS VW) (hst:st.length≤8) (hwl:wy.length≤8) (hl0:0≤lg) (hl1:lg≤100) (hL0:0≤s.L) (hL1:s.L≤9) (a:Act) (Z:Sl a 96 [(0,.pointer (some ⟨p.bs,0,none⟩)),(1,.pointer (some ⟨p.bto,0,none⟩)),(2,.pointer (some ⟨p.by_,0,none⟩)),(3,.pointer (some ⟨p.bw,0,none⟩)),(4,.pointer (some ⟨p.bt,0,none⟩)),(5,.pointer (some ⟨p.bf,0,none⟩)),(6,.pointer (some ⟨p.bl,0,none⟩)),(7,.pointer (some ⟨p.bo,0,none⟩)),(8,.pointer (some ⟨p.bg,0,none⟩)),(10,v10),(11,.int .i64 kk),(12,.pointer (some ⟨gt,0,none⟩)),(13,.int .i64 nx),(37,v37),(38,v38),(39,v39)]) (Q:Exit→Act→World→Prop)
  (h:∀ a x2 u1 u2,Sl a 96 [(0,.pointer (some ⟨p.bs,0,none⟩)),(1,.pointer (some ⟨p.bto,0,none⟩)),(2,.pointer (some ⟨p.by_,0,none⟩)),(3,.pointer (some ⟨p.bw,0,none⟩)),(4,.pointer (some ⟨p.bt,0,none⟩)),(5,.pointer (some ⟨p.bf,0,none⟩)),(6,.pointer (some ⟨p.bl,0,none⟩)),(7,.pointer (some ⟨p.bo,0,none⟩)),(8,.pointer (some ⟨p.bg,0,none⟩)),(10,v10),(11,.int .i64 kk),(12,.pointer (some ⟨gt,0,none⟩)),(13,.int .i64 nx),(37,v37),(38,v38),(39,v39)]→GM J p x2 pre u1 u2 (lg+s.L) u1 u2 (st++[nx]) (wy++[kk])→FR p x0 x2 vs0 vw0 u1 u2→TB p x2 gt #[.int .i64 s.A,.int .i64 s.B,.int .i64 s.L,.int .i64 s.W,.int .i64 s.K,.int .i64 s.X,.int .i64 s.Y] 96 u1 u2→u1 ≠ .slice none 0 0→u2 ≠ .slice none 0 0→Q .normal a x2):(Ac Try.f125 14).wp Try.prog Q a x:=by
 rw[show Ac Try.f125 14=Code.region 14 _ true from rfl]
 refine Ie (Γ:=Value×Value×Nat×Nat) (by kernel_rfl) (((((((((((((((((Z.nil.cons (Z.g 39)).cons (Z.g 38)).cons (Z.g 37)).cons (Z.g 13)).cons (Z.g 12)).cons (Z.g 11)).cons (Z.g 10)).cons (Z.g 8)).cons (Z.g 7)).cons (Z.g 6)).cons (Z.g 5)).cons (Z.g 4)).cons (Z.g 3)).cons (Z.g 2)).cons (Z.g 1)).cons (Z.g 0))) [some 66,some 67,some 68,some 69,some 70,some 71,some 72,some 73,some 74,some 75,some 76,some 77,none,none,none] rfl rfl (by kernel_rfl) (fun g j v=>match j with|0=>v=VS|1=>v=.int .i64 nx|2=>v=.slice (some ⟨g.2.2.1,0,none⟩) 1 1|3=>v=g.1|4=>v=VW|5=>v=.int .i64 kk|6=>v=.slice (some ⟨g.2.2.2,0,none⟩) 1 1|7=>v=g.2.1|8=>v=.int .i64 lg|9=>v=.pointer (some ⟨gt,2,none⟩)|10=>v=.int .i64 s.L|11=>v=.int .i64 (lg+s.L)|_=>True) (fun g L y=>P14 J p ⟨x0,vs0,vw0,pre,VS,VW,lg,nx,kk,s.L,st,wy,gt,#[.int .i64 s.A,.int .i64 s.B,.int .i64 s.L,.int .i64 s.W,.int .i64 s.K,.int .i64 s.X,.int .i64 s.Y]⟩ g.1 g.2.1 g.2.2.1 g.2.2.2 (L 2) (L 3) (L 6) (L 7) (L 12) (L 13) (L 14) y∧GK AbN L) (VS,VW,0,0) ⟨⟨hM.drew hJ,hF.below (Below.refl _ _).drew,hTB.below (Below.refl _ _).drew,fun e=>by simp at e,fun e=>by simp at e,fun e=>by simp at e,fun e=>by simp at e⟩,GK.none _⟩ ?_ ?_
 ·clear Z hM hF hTB;rintro k o hkl ho ⟨u1,u2,g1,g2⟩ L a x ⟨hP,hEC⟩ hLk Z hs hd;have hlt:∀ k:Nat,k<15→k=0∨k=1∨k=2∨k=3∨k=4∨k=5∨k=6∨k=7∨k=8∨k=9∨k=10∨k=11∨k=12∨k=13∨k=14:=by decide
  dsimp only at hP hs
  rcases hlt k hkl with rfl|rfl|rfl|rfl|rfl|rfl|rfl|rfl|rfl|rfl|rfl|rfl|rfl|rfl|rfl
  ·obtain rfl:=Option.some.inj ho;have e0:=Z.g 0;have q12:=hEC.not 12 0 (by decide) hLk;have c:x.cell? ⟨p.bs,0,none⟩=some VS:=by have c:=hP.m.ks.cell (o:=0) rfl;rw[q12]at c;exact c
   clear hs hd;refine wz fun K hK=>?_
   go_simp;exact hK _ _ ⟨(u1,u2,g1,g2),_,rfl,rfl,⟨hP,hEC.low 0 (by decide)⟩,fun _ _ _ h=>h⟩
  ·obtain rfl:=Option.some.inj ho;have e13:=Z.g 13;clear hs hd;refine wz fun K hK=>?_
   go_simp;exact hK _ _ ⟨(u1,u2,g1,g2),_,rfl,rfl,⟨hP,hEC.low 1 (by decide)⟩,fun _ _ _ h=>h⟩
  ·obtain rfl:=Option.some.inj ho;obtain⟨v67,e67,hv67⟩:=hs 1 _ 67 rfl rfl (hd 1 wm);rw[hv67]at e67;clear hs hd;refine wz fun K hK=>?_
   go_simp;have hP2:=P14.Acp (by rw[hLk]at hP;exact hP) hJ;exact hK _ _ ⟨(u1,u2,x.heap.size,g2),_,rfl,rfl,⟨hP2,hEC.low 2 (by decide)⟩,fun j u hj=>by match j with|2=>rw[hLk]at hj;exact absurd hj (by simp)|0=>exact id|1=>exact id|3=>exact id|4=>exact id|5=>exact id|6=>exact id|7=>exact id|8=>exact id|9=>exact id|10=>exact id|11=>exact id|_+12=>exact id⟩
  ·obtain rfl:=Option.some.inj ho;obtain⟨v66,e66,hv66⟩:=hs 0 _ 66 rfl rfl (hd 0 wm);rw[hv66]at e66;obtain⟨v68,e68,hv68⟩:=hs 2 _ 68 rfl rfl (hd 2 wm);rw[hv68]at e68;have q12:=hEC.not 12 3 (by decide) hLk;have hb2:L 2=true:=hd 2 wm;have hP2:P14 J p ⟨x0,vs0,vw0,pre,VS,VW,lg,nx,kk,s.L,st,wy,gt,#[.int .i64 s.A,.int .i64 s.B,.int .i64 s.L,.int .i64 s.W,.int .i64 s.K,.int .i64 s.X,.int .i64 s.Y]⟩ u1 u2 g1 g2 true false (L 6) (L 7) false (L 13) (L 14) x:=by rw[hb2,hLk,q12]at hP;exact hP
   have hO1:Df x p.B VS st:=hP2.m.os;have hcg:x.cell? ⟨g1,0,none⟩=some (.int .i64 nx):=(hP2.t1 rfl rfl).r.cell (o:=0) rfl;have hzB:=hP2.m.size hJ;clear hs hd;refine wg fun K hK=>?_
   refine IQ (k:=1) (e:=3) 29 (.tmp 66) (.tmp 68) Try.underlying29 (z:=.int .i64 0) (bytes:=8) (by kernel_rfl) rfl (by decide) (by decide) rfl (by simp[Act.eval,Array.getD_eq_getD_getElem?,e66]) hO1 g1 nx (by simp[Act.eval,Array.getD_eq_getD_getElem?,e68]) rfl (fun j u hu=>?_) (fun u hu=>by simp at hu;subst hu;rfl) (by omega) hzB ?_
   ·cases j with
    | zero=>simp at hu;subst hu;exact hcg
    | succ j=>simp at hu
   intro v2 x2 hO2 hbw hgr hov hnn;have h3:P14 J p ⟨x0,vs0,vw0,pre,VS,VW,lg,nx,kk,s.L,st,wy,gt,#[.int .i64 s.A,.int .i64 s.B,.int .i64 s.L,.int .i64 s.W,.int .i64 s.K,.int .i64 s.X,.int .i64 s.Y]⟩ v2 u2 g1 g2 (L 2) true (L 6) (L 7) (L 12) (L 13) (L 14) x2:=by rw[hb2,q12];exact hP2.app1 hJ hO2 hbw hgr hov hnn
   exact hK _ _ ⟨(v2,u2,g1,g2),v2,rfl,rfl,⟨h3,hEC.low 3 (by decide)⟩,fun j u hj=>by match j with|3=>rw[hLk]at hj;exact absurd hj (by simp)|0=>exact id|1=>exact id|2=>exact id|4=>exact id|5=>exact id|6=>exact id|7=>exact id|8=>exact id|9=>exact id|10=>exact id|11=>exact id|_+12=>exact id⟩
  ·obtain rfl:=Option.some.inj ho;have e3:=Z.g 3;have q13:=hEC.not 13 4 (by decide) hLk;have c:x.cell? ⟨p.bw,0,none⟩=some VW:=by have c:=hP.m.kw.cell (o:=0) rfl;rw[q13]at c;exact c
   clear hs hd;refine wz fun K hK=>?_
   go_simp;exact hK _ _ ⟨(u1,u2,g1,g2),_,rfl,rfl,⟨hP,hEC.low 4 (by decide)⟩,fun _ _ _ h=>h⟩
  ·obtain rfl:=Option.some.inj ho;have e11:=Z.g 11;clear hs hd;refine wz fun K hK=>?_
   go_simp;exact hK _ _ ⟨(u1,u2,g1,g2),_,rfl,rfl,⟨hP,hEC.low 5 (by decide)⟩,fun _ _ _ h=>h⟩
  ·obtain rfl:=Option.some.inj ho;obtain⟨v71,e71,hv71⟩:=hs 5 _ 71 rfl rfl (hd 5 wm);rw[hv71]at e71;clear hs hd;refine wz fun K hK=>?_
   go_simp;have hP2:=P14.Aco (by rw[hLk]at hP;exact hP) hJ;exact hK _ _ ⟨(u1,u2,g1,x.heap.size),_,rfl,rfl,⟨hP2,hEC.low 6 (by decide)⟩,fun j u hj=>by match j with|6=>rw[hLk]at hj;exact absurd hj (by simp)|0=>exact id|1=>exact id|2=>exact id|3=>exact id|4=>exact id|5=>exact id|7=>exact id|8=>exact id|9=>exact id|10=>exact id|11=>exact id|_+12=>exact id⟩
  ·obtain rfl:=Option.some.inj ho;obtain⟨v70,e70,hv70⟩:=hs 4 _ 70 rfl rfl (hd 4 wm);rw[hv70]at e70;obtain⟨v72,e72,hv72⟩:=hs 6 _ 72 rfl rfl (hd 6 wm);rw[hv72]at e72;have q13:=hEC.not 13 7 (by decide) hLk;have hb6:L 6=true:=hd 6 wm;have hP2:P14 J p ⟨x0,vs0,vw0,pre,VS,VW,lg,nx,kk,s.L,st,wy,gt,#[.int .i64 s.A,.int .i64 s.B,.int .i64 s.L,.int .i64 s.W,.int .i64 s.K,.int .i64 s.X,.int .i64 s.Y]⟩ u1 u2 g1 g2 (L 2) (L 3) true false (L 12) false (L 14) x:=by rw[hb6,hLk,q13]at hP;exact hP
   have hO1:Df x p.B VW wy:=hP2.m.ow;have hcg:x.cell? ⟨g2,0,none⟩=some (.int .i64 kk):=(hP2.t2 rfl rfl).r.cell (o:=0) rfl;have hzB:=hP2.m.size hJ;clear hs hd;refine wg fun K hK=>?_
   refine IQ (k:=1) (e:=3) 29 (.tmp 70) (.tmp 72) Try.underlying29 (z:=.int .i64 0) (bytes:=8) (by kernel_rfl) rfl (by decide) (by decide) rfl (by simp[Act.eval,Array.getD_eq_getD_getElem?,e70]) hO1 g2 kk (by simp[Act.eval,Array.getD_eq_getD_getElem?,e72]) rfl (fun j u hu=>?_) (fun u hu=>by simp at hu;subst hu;rfl) (by omega) hzB ?_
   ·cases j with
    | zero=>simp at hu;subst hu;exact hcg
    | succ j=>simp at hu
   intro v2 x2 hO2 hbw hgr hov hnn;have h3:P14 J p ⟨x0,vs0,vw0,pre,VS,VW,lg,nx,kk,s.L,st,wy,gt,#[.int .i64 s.A,.int .i64 s.B,.int .i64 s.L,.int .i64 s.W,.int .i64 s.K,.int .i64 s.X,.int .i64 s.Y]⟩ u1 v2 g1 g2 (L 2) (L 3) (L 6) true (L 12) (L 13) (L 14) x2:=by rw[hb6,q13];exact hP2.Acu hJ hO2 hbw hgr hov hnn
   exact hK _ _ ⟨(u1,v2,g1,g2),v2,rfl,rfl,⟨h3,hEC.low 7 (by decide)⟩,fun j u hj=>by match j with|7=>rw[hLk]at hj;exact absurd hj (by simp)|0=>exact id|1=>exact id|2=>exact id|3=>exact id|4=>exact id|5=>exact id|6=>exact id|8=>exact id|9=>exact id|10=>exact id|11=>exact id|_+12=>exact id⟩
  ·obtain rfl:=Option.some.inj ho;have e6:=Z.g 6;have q14:=hEC.not 14 8 (by decide) hLk;have c:x.cell? ⟨p.bl,0,none⟩=some (.int .i64 lg):=by have c:=hP.m.kl.cell (o:=0) rfl;rw[q14]at c;exact c
   clear hs hd;refine wz fun K hK=>?_
   go_simp;exact hK _ _ ⟨(u1,u2,g1,g2),_,rfl,rfl,⟨hP,hEC.low 8 (by decide)⟩,fun _ _ _ h=>h⟩
  ·obtain rfl:=Option.some.inj ho;have e12:=Z.g 12;clear hs hd;refine wz fun K hK=>?_
   go_simp;exact hK _ _ ⟨(u1,u2,g1,g2),_,rfl,rfl,⟨hP,hEC.low 9 (by decide)⟩,fun _ _ _ h=>h⟩
  ·obtain rfl:=Option.some.inj ho;obtain⟨v75,e75,hv75⟩:=hs 9 _ 75 rfl rfl (hd 9 wm);rw[hv75]at e75;have c:x.cell? ⟨gt,2,none⟩=some (.int .i64 s.L):=hP.t.r.cell (o:=2) rfl;clear hs hd;refine wz fun K hK=>?_
   go_simp;exact hK _ _ ⟨(u1,u2,g1,g2),_,rfl,rfl,⟨hP,hEC.low 10 (by decide)⟩,fun _ _ _ h=>h⟩
  ·obtain rfl:=Option.some.inj ho;obtain⟨v74,e74,hv74⟩:=hs 8 _ 74 rfl rfl (hd 8 wm);rw[hv74]at e74;obtain⟨v76,e76,hv76⟩:=hs 10 _ 76 rfl rfl (hd 10 wm);rw[hv76]at e76;have hw:IntKind.i64.wrap (lg+s.L)=lg+s.L:=IntWalk.i64_in _ (by omega);clear hs hd;refine wz fun K hK=>?_
   go_simp;exact hK _ _ ⟨(u1,u2,g1,g2),_,rfl,rfl,⟨hP,hEC.low 11 (by decide)⟩,fun _ _ _ h=>h⟩
  ·obtain rfl:=Option.some.inj ho;have e0:=Z.g 0;obtain⟨v69,e69,hv69⟩:=hs 3 _ 69 rfl rfl (hd 3 wm);rw[hv69]at e69;have l0:L 0=true:=hd 0 wm;have l3:L 3=true:=hd 3 wm;have l7:L 7=true:=hd 7 wm;have hP2:P14 J p ⟨x0,vs0,vw0,pre,VS,VW,lg,nx,kk,s.L,st,wy,gt,#[.int .i64 s.A,.int .i64 s.B,.int .i64 s.L,.int .i64 s.W,.int .i64 s.K,.int .i64 s.X,.int .i64 s.Y]⟩ u1 u2 g1 g2 (L 2) true (L 6) (L 7) (L 12) (L 13) (L 14) x:=by rw[l3]at hP;exact hP
   obtain⟨ga,na,ca,hu⟩:∃ ga na ca,u1=.slice (some ⟨ga,0,none⟩) na ca:=by obtain⟨ga,ca,hu,_⟩:=Df.sl (show Df x p.B u1 (st++[nx]) from hP2.m.os) (hP2.n1 rfl);exact⟨ga,_,ca,hu⟩
   subst hu;have z1:=hP.m.ks.cell (o:=0) rfl;have z2:=hP.m.ks.fz 0;clear hs hd;refine wz fun K hK=>?_
   go_simp;have h3:P14 J p ⟨x0,vs0,vw0,pre,VS,VW,lg,nx,kk,s.L,st,wy,gt,#[.int .i64 s.A,.int .i64 s.B,.int .i64 s.L,.int .i64 s.W,.int .i64 s.K,.int .i64 s.X,.int .i64 s.Y]⟩ (.slice (some ⟨ga,0,none⟩) na ca) u2 g1 g2 (L 2) (L 3) (L 6) (L 7) true (L 13) (L 14) (x.setCell ⟨p.bs,0,none⟩ (.slice (some ⟨ga,0,none⟩) na ca)):=by rw[l3];exact hP2.st1 hJ hO
   exact hK _ _ ⟨((.slice (some ⟨ga,0,none⟩) na ca),u2,g1,g2),undef,rfl,trivial,⟨h3,hEC.upd 12 (by simp only[AbN,List.mem_cons,List.not_mem_nil,or_false];rintro q (rfl|rfl|rfl|rfl|rfl|rfl) e<;>first|exact absurd e (by decide)|assumption)⟩,fun _ _ _ h=>h⟩
  ·obtain rfl:=Option.some.inj ho;have e3:=Z.g 3;obtain⟨v73,e73,hv73⟩:=hs 7 _ 73 rfl rfl (hd 7 wm);rw[hv73]at e73;have l4:L 4=true:=hd 4 wm;have l7:L 7=true:=hd 7 wm;have hP2:P14 J p ⟨x0,vs0,vw0,pre,VS,VW,lg,nx,kk,s.L,st,wy,gt,#[.int .i64 s.A,.int .i64 s.B,.int .i64 s.L,.int .i64 s.W,.int .i64 s.K,.int .i64 s.X,.int .i64 s.Y]⟩ u1 u2 g1 g2 (L 2) (L 3) (L 6) true (L 12) (L 13) (L 14) x:=by rw[l7]at hP;exact hP
   obtain⟨ga,na,ca,hu⟩:∃ ga na ca,u2=.slice (some ⟨ga,0,none⟩) na ca:=by obtain⟨ga,ca,hu,_⟩:=Df.sl (show Df x p.B u2 (wy++[kk]) from hP2.m.ow) (hP2.n2 rfl);exact⟨ga,_,ca,hu⟩
   subst hu;have z1:=hP.m.kw.cell (o:=0) rfl;have z2:=hP.m.kw.fz 0;clear hs hd;refine wz fun K hK=>?_
   go_simp;have h3:P14 J p ⟨x0,vs0,vw0,pre,VS,VW,lg,nx,kk,s.L,st,wy,gt,#[.int .i64 s.A,.int .i64 s.B,.int .i64 s.L,.int .i64 s.W,.int .i64 s.K,.int .i64 s.X,.int .i64 s.Y]⟩ u1 (.slice (some ⟨ga,0,none⟩) na ca) g1 g2 (L 2) (L 3) (L 6) (L 7) (L 12) true (L 14) (x.setCell ⟨p.bw,0,none⟩ (.slice (some ⟨ga,0,none⟩) na ca)):=by rw[l7];exact hP2.st2 hJ hO
   exact hK _ _ ⟨(u1,(.slice (some ⟨ga,0,none⟩) na ca),g1,g2),undef,rfl,trivial,⟨h3,hEC.upd 13 (by simp only[AbN,List.mem_cons,List.not_mem_nil,or_false];rintro q (rfl|rfl|rfl|rfl|rfl|rfl) e<;>first|exact absurd e (by decide)|assumption)⟩,fun _ _ _ h=>h⟩
  ·obtain rfl:=Option.some.inj ho;have e6:=Z.g 6;obtain⟨v77,e77,hv77⟩:=hs 11 _ 77 rfl rfl (hd 11 wm);rw[hv77]at e77;have l8:L 8=true:=hd 8 wm;have z1:=hP.m.kl.cell (o:=0) rfl;have z2:=hP.m.kl.fz 0;have c77:(lg+s.L)=(lg+s.L):=rfl;clear hs hd;refine wz fun K hK=>?_
   go_simp;have h3:P14 J p ⟨x0,vs0,vw0,pre,VS,VW,lg,nx,kk,s.L,st,wy,gt,#[.int .i64 s.A,.int .i64 s.B,.int .i64 s.L,.int .i64 s.W,.int .i64 s.K,.int .i64 s.X,.int .i64 s.Y]⟩ u1 u2 g1 g2 (L 2) (L 3) (L 6) (L 7) (L 12) (L 13) true (x.setCell ⟨p.bl,0,none⟩ (.int .i64 (lg+s.L))):=by exact hP.st3 hJ hO
   exact hK _ _ ⟨(u1,u2,g1,g2),undef,rfl,trivial,⟨h3,hEC.upd 14 (by simp only[AbN,List.mem_cons,List.not_mem_nil,or_false];rintro q (rfl|rfl|rfl|rfl|rfl|rfl) e<;>first|exact absurd e (by decide)|assumption)⟩,fun _ _ _ h=>h⟩
 ·clear Z hM hF hTB;rintro⟨u1,u2,g1,g2⟩ L a x hall ⟨hP,_⟩ Z hs
  dsimp only at hP
  rw[hall 2 (by decide),hall 3 (by decide),hall 6 (by decide),hall 7 (by decide),hall 12 (by decide),hall 13 (by decide),hall 14 (by decide)]at hP;exact h _ _ u1 u2 Z hP.m hP.f hP.t (hP.n1 rfl) (hP.n2 rfl)
structure P17 (J:List ChB→World→Prop) (p:GP) (x0:World) (vs0 vw0:Value) (pre:List ChB) (VS1 VS2 VW1 VW2:Value) (lg Lg:Int) (ls lw:List Int) (gt:Nat) (sc:Array Value) (b14 b15 b16:Bool) (y:World):Prop where
 m:GM J p y pre (bif b14 then VS1 else VS2) (bif b15 then VW1 else VW2) (bif b16 then lg else lg+Lg) VS2 VW2 ls lw
 f:FR p x0 y vs0 vw0 VS2 VW2
 t:TB p y gt sc 96 VS2 VW2
section
variable {J:List ChB→World→Prop}{p:GP}{x0:World}{vs0 vw0:Value}{pre:List ChB}{VS1 VS2 VW1 VW2:Value}{lg Lg:Int}{ls lw:List Int}{gt:Nat}{sc:Array Value}{b14 b15 b16:Bool}{y:World}
theorem P17.st1 (h:P17 J p x0 vs0 vw0 pre VS1 VS2 VW1 VW2 lg Lg ls lw gt sc b14 b15 b16 y) (hJ:JOk J p) (hO:p.Ord):P17 J p x0 vs0 vw0 pre VS1 VS2 VW1 VW2 lg Lg ls lw gt sc true b15 b16 (y.setCell ⟨p.bs,0,none⟩ VS1) :=
 have hm:p.bs∈p.boxes:=by simp[GP.boxes]
 ⟨h.m.Ab9 hJ hO VS1,h.f.Nj hm _,h.t.Nj hm _⟩
theorem P17.st2 (h:P17 J p x0 vs0 vw0 pre VS1 VS2 VW1 VW2 lg Lg ls lw gt sc b14 b15 b16 y) (hJ:JOk J p) (hO:p.Ord):P17 J p x0 vs0 vw0 pre VS1 VS2 VW1 VW2 lg Lg ls lw gt sc b14 true b16 (y.setCell ⟨p.bw,0,none⟩ VW1) :=
 have hm:p.bw∈p.boxes:=by simp[GP.boxes]
 ⟨h.m.setW hJ hO VW1,h.f.Nj hm _,h.t.Nj hm _⟩
theorem P17.st3 (h:P17 J p x0 vs0 vw0 pre VS1 VS2 VW1 VW2 lg Lg ls lw gt sc b14 b15 b16 y) (hJ:JOk J p) (hO:p.Ord):P17 J p x0 vs0 vw0 pre VS1 VS2 VW1 VW2 lg Lg ls lw gt sc b14 b15 true (y.setCell ⟨p.bl,0,none⟩ (.int .i64 lg)) :=
 have hm:p.bl∈p.boxes:=by simp[GP.boxes]
 ⟨h.m.Aca hJ hO lg,h.f.Nj hm _,h.t.Nj hm _⟩
end
theorem Abl {p:GP}{J:List ChB→World→Prop}(hJ:JOk J p) (hO:p.Ord) {s:Strip}{st wy:List Int}{lg nx kk:Int}{pre:List ChB}{vs0 vw0 v10 v37 v38 v39:Value}{gt gs cs gw cw nS nW:Nat}{x x0:World}(hnS:nS=(st++[nx]).length) (hnW:nW=(wy++[kk]).length) (hM:GM J p x pre (.slice (some ⟨gs,0,none⟩) nS cs) (.slice (some ⟨gw,0,none⟩) nW cw) (lg+s.L) (.slice (some ⟨gs,0,none⟩) nS cs) (.slice (some ⟨gw,0,none⟩) nW cw) (st++[nx]) (wy++[kk])) (hF:FR p x0 x vs0 vw0 (.slice (some ⟨gs,0,none⟩) nS cs) (.slice (some ⟨gw,0,none⟩) nW cw)) (hTB:TB p x gt #[.int .i64 s.A,.int .i64 s.B,.int .i64 s.L,.int .i64 s.W,.int .i64 s.K,.int .i64 s.X,.int .i64 s.Y] 96 (.slice (some ⟨gs,0,none⟩) nS cs) (.slice (some ⟨gw,0,none⟩) nW cw)) (hst:st.length≤8) (hwl:wy.length≤8) (hl0:0≤lg) (hl1:lg≤100) (hL0:0≤s.L) (hL1:s.L≤9) (a:Act) (Z:Sl a 96 [(0,.pointer (some ⟨p.bs,0,none⟩)),(1,.pointer (some ⟨p.bto,0,none⟩)),(2,.pointer (some ⟨p.by_,0,none⟩)),(3,.pointer (some ⟨p.bw,0,none⟩)),(4,.pointer (some ⟨p.bt,0,none⟩)),(5,.pointer (some ⟨p.bf,0,none⟩)),(6,.pointer (some ⟨p.bl,0,none⟩)),(7,.pointer (some ⟨p.bo,0,none⟩)),(8,.pointer (some ⟨p.bg,0,none⟩)),(10,v10),(12,.pointer (some ⟨gt,0,none⟩)),(37,v37),(38,v38),(39,v39)]) (Q:Exit→Act→World→Prop)
  (h:∀ a x2,Sl a 96 [(0,.pointer (some ⟨p.bs,0,none⟩)),(1,.pointer (some ⟨p.bto,0,none⟩)),(2,.pointer (some ⟨p.by_,0,none⟩)),(3,.pointer (some ⟨p.bw,0,none⟩)),(4,.pointer (some ⟨p.bt,0,none⟩)),(5,.pointer (some ⟨p.bf,0,none⟩)),(6,.pointer (some ⟨p.bl,0,none⟩)),(7,.pointer (some ⟨p.bo,0,none⟩)),(8,.pointer (some ⟨p.bg,0,none⟩)),(10,v10),(12,.pointer (some ⟨gt,0,none⟩)),(37,v37),(38,v38),(39,v39)]→GM J p x2 pre (.slice (some ⟨gs,0,none⟩) st.length cs) (.slice (some ⟨gw,0,none⟩) wy.length cw) lg (.slice (some ⟨gs,0,none⟩) st.length cs) (.slice (some ⟨gw,0,none⟩) wy.length cw) st wy→FR p x0 x2 vs0 vw0 (.slice (some ⟨gs,0,none⟩) st.length cs) (.slice (some ⟨gw,0,none⟩) wy.length cw)→Q .normal a x2):(Ac Try.f125 17).wp Try.prog Q a x:=by
 have hOs:=hM.os;have hOw:=hM.ow;have hcs:(st++[nx]).length≤cs:=(Df.at0 hOs).2.1;have hcw:(wy++[kk]).length≤cw:=(Df.at0 hOw).2.1;simp only[List.length_append,List.length_cons,List.length_nil]at hnS hnW hcs hcw;have hwS:IntKind.i64.wrap ((nS:Int)-1)=(st.length:Int):=by rw[IntWalk.i64_in _ (by omega)];omega
 have hwW:IntKind.i64.wrap ((nW:Int)-1)=(wy.length:Int):=by rw[IntWalk.i64_in _ (by omega)];omega
 have hwL:IntKind.i64.wrap lg=lg:=IntWalk.i64_in _ (by omega);have HW:=Lib.hid (And.intro hwS (And.intro hwW hwL));clear hwS hwW hwL;have HN:=Lib.hid (And.intro hnS hnW);clear hnS hnW;rw[show Ac Try.f125 17=Code.region 17 _ true from rfl]
 refine Ie (Γ:=Unit) (by kernel_rfl) (((((((((((((((Z.nil.cons (Z.g 39)).cons (Z.g 38)).cons (Z.g 37)).cons (Z.g 12)).cons (Z.g 10)).cons (Z.g 8)).cons (Z.g 7)).cons (Z.g 6)).cons (Z.g 5)).cons (Z.g 4)).cons (Z.g 3)).cons (Z.g 2)).cons (Z.g 1)).cons (Z.g 0))) [some 81,some 82,some 83,some 84,some 85,some 86,some 87,some 88,some 89,some 90,some 91,some 92,some 93,some 94,none,none,none] rfl rfl (by kernel_rfl) (fun _ j v=>match j with|0=>v=.slice (some ⟨gs,0,none⟩) nS cs|1=>v=.slice (some ⟨gs,0,none⟩) nS cs|2=>v=.int .i64 (nS:Int)|3=>v=.int .i64 (st.length:Int)|4=>v=.slice (some ⟨gs,0,none⟩) st.length cs|5=>v=.slice (some ⟨gw,0,none⟩) nW cw|6=>v=.slice (some ⟨gw,0,none⟩) nW cw|7=>v=.int .i64 (nW:Int)|8=>v=.int .i64 (wy.length:Int)|9=>v=.slice (some ⟨gw,0,none⟩) wy.length cw|10=>v=.int .i64 (lg+s.L)|11=>v=.pointer (some ⟨gt,2,none⟩)|12=>v=.int .i64 s.L|13=>v=.int .i64 lg|_=>True) (fun _ L y=>P17 J p x0 vs0 vw0 pre (.slice (some ⟨gs,0,none⟩) st.length cs) (.slice (some ⟨gs,0,none⟩) nS cs) (.slice (some ⟨gw,0,none⟩) wy.length cw) (.slice (some ⟨gw,0,none⟩) nW cw) lg s.L (st++[nx]) (wy++[kk]) gt #[.int .i64 s.A,.int .i64 s.B,.int .i64 s.L,.int .i64 s.W,.int .i64 s.K,.int .i64 s.X,.int .i64 s.Y] (L 14) (L 15) (L 16) y∧GK AbM L) () ⟨⟨hM.drew hJ,hF.below (Below.refl _ _).drew,hTB.below (Below.refl _ _).drew⟩,GK.none _⟩ ?_ ?_
 ·clear Z hM hF hTB;rintro k o hkl ho ⟨⟩ L a x ⟨hP,hEC⟩ hLk Z hs hd;have hlt:∀ k:Nat,k<17→k=0∨k=1∨k=2∨k=3∨k=4∨k=5∨k=6∨k=7∨k=8∨k=9∨k=10∨k=11∨k=12∨k=13∨k=14∨k=15∨k=16:=by decide
  rcases hlt k hkl with rfl|rfl|rfl|rfl|rfl|rfl|rfl|rfl|rfl|rfl|rfl|rfl|rfl|rfl|rfl|rfl|rfl
  ·obtain rfl:=Option.some.inj ho;have e0:=Z.g 0;have q14:=hEC.not 14 0 (by decide) hLk;have c:x.cell? ⟨p.bs,0,none⟩=some (.slice (some ⟨gs,0,none⟩) nS cs):=by have c:=hP.m.ks.cell (o:=0) rfl;rw[q14]at c;exact c
   clear hs hd;refine wz fun K hK=>?_
   go_simp;exact hK _ _ ⟨(),_,rfl,rfl,⟨hP,hEC.low 0 (by decide)⟩,fun _ _ _ h=>h⟩
  ·obtain rfl:=Option.some.inj ho;have e0:=Z.g 0;have q14:=hEC.not 14 1 (by decide) hLk;have c:x.cell? ⟨p.bs,0,none⟩=some (.slice (some ⟨gs,0,none⟩) nS cs):=by have c:=hP.m.ks.cell (o:=0) rfl;rw[q14]at c;exact c
   clear hs hd;refine wz fun K hK=>?_
   go_simp;exact hK _ _ ⟨(),_,rfl,rfl,⟨hP,hEC.low 1 (by decide)⟩,fun _ _ _ h=>h⟩
  ·obtain rfl:=Option.some.inj ho;obtain⟨v82,e82,hv82⟩:=hs 1 _ 82 rfl rfl (hd 1 wm);rw[hv82]at e82;clear hs hd;refine wz fun K hK=>?_
   go_simp;exact hK _ _ ⟨(),_,rfl,rfl,⟨hP,hEC.low 2 (by decide)⟩,fun _ _ _ h=>h⟩
  ·obtain rfl:=Option.some.inj ho;obtain⟨v83,e83,hv83⟩:=hs 2 _ 83 rfl rfl (hd 2 wm);rw[hv83]at e83;have hw:=HW.out.1;clear hs hd;refine wz fun K hK=>?_
   go_simp;exact hK _ _ ⟨(),_,rfl,rfl,⟨hP,hEC.low 3 (by decide)⟩,fun _ _ _ h=>h⟩
  ·obtain rfl:=Option.some.inj ho;obtain⟨v81,e81,hv81⟩:=hs 0 _ 81 rfl rfl (hd 0 wm);rw[hv81]at e81;obtain⟨v84,e84,hv84⟩:=hs 3 _ 84 rfl rfl (hd 3 wm);rw[hv84]at e84;have hqk:(st.length:Int)≤(cs:Int):=by omega
   have hk0:(0:Int)≤(st.length:Int):=by omega
   clear hs hd;refine wz fun K hK=>?_
   go_simp;exact hK _ _ ⟨(),_,rfl,rfl,⟨hP,hEC.low 4 (by decide)⟩,fun _ _ _ h=>h⟩
  ·obtain rfl:=Option.some.inj ho;have e3:=Z.g 3;have q15:=hEC.not 15 5 (by decide) hLk;have c:x.cell? ⟨p.bw,0,none⟩=some (.slice (some ⟨gw,0,none⟩) nW cw):=by have c:=hP.m.kw.cell (o:=0) rfl;rw[q15]at c;exact c
   clear hs hd;refine wz fun K hK=>?_
   go_simp;exact hK _ _ ⟨(),_,rfl,rfl,⟨hP,hEC.low 5 (by decide)⟩,fun _ _ _ h=>h⟩
  ·obtain rfl:=Option.some.inj ho;have e3:=Z.g 3;have q15:=hEC.not 15 6 (by decide) hLk;have c:x.cell? ⟨p.bw,0,none⟩=some (.slice (some ⟨gw,0,none⟩) nW cw):=by have c:=hP.m.kw.cell (o:=0) rfl;rw[q15]at c;exact c
   clear hs hd;refine wz fun K hK=>?_
   go_simp;exact hK _ _ ⟨(),_,rfl,rfl,⟨hP,hEC.low 6 (by decide)⟩,fun _ _ _ h=>h⟩
  ·obtain rfl:=Option.some.inj ho;obtain⟨v87,e87,hv87⟩:=hs 6 _ 87 rfl rfl (hd 6 wm);rw[hv87]at e87;clear hs hd;refine wz fun K hK=>?_
   go_simp;exact hK _ _ ⟨(),_,rfl,rfl,⟨hP,hEC.low 7 (by decide)⟩,fun _ _ _ h=>h⟩
  ·obtain rfl:=Option.some.inj ho;obtain⟨v88,e88,hv88⟩:=hs 7 _ 88 rfl rfl (hd 7 wm);rw[hv88]at e88;have hw:=HW.out.2.1;clear hs hd;refine wz fun K hK=>?_
   go_simp;exact hK _ _ ⟨(),_,rfl,rfl,⟨hP,hEC.low 8 (by decide)⟩,fun _ _ _ h=>h⟩
  ·obtain rfl:=Option.some.inj ho;obtain⟨v86,e86,hv86⟩:=hs 5 _ 86 rfl rfl (hd 5 wm);rw[hv86]at e86;obtain⟨v89,e89,hv89⟩:=hs 8 _ 89 rfl rfl (hd 8 wm);rw[hv89]at e89;have hqk:(wy.length:Int)≤(cw:Int):=by omega
   have hk0:(0:Int)≤(wy.length:Int):=by omega
   clear hs hd;refine wz fun K hK=>?_
   go_simp;exact hK _ _ ⟨(),_,rfl,rfl,⟨hP,hEC.low 9 (by decide)⟩,fun _ _ _ h=>h⟩
  ·obtain rfl:=Option.some.inj ho;have e6:=Z.g 6;have q16:=hEC.not 16 10 (by decide) hLk;have c:x.cell? ⟨p.bl,0,none⟩=some (.int .i64 (lg+s.L)):=by have c:=hP.m.kl.cell (o:=0) rfl;rw[q16]at c;exact c
   clear hs hd;refine wz fun K hK=>?_
   go_simp;exact hK _ _ ⟨(),_,rfl,rfl,⟨hP,hEC.low 10 (by decide)⟩,fun _ _ _ h=>h⟩
  ·obtain rfl:=Option.some.inj ho;have e12:=Z.g 12;clear hs hd;refine wz fun K hK=>?_
   go_simp;exact hK _ _ ⟨(),_,rfl,rfl,⟨hP,hEC.low 11 (by decide)⟩,fun _ _ _ h=>h⟩
  ·obtain rfl:=Option.some.inj ho;obtain⟨v92,e92,hv92⟩:=hs 11 _ 92 rfl rfl (hd 11 wm);rw[hv92]at e92;have c:x.cell? ⟨gt,2,none⟩=some (.int .i64 s.L):=hP.t.r.cell (o:=2) rfl;clear hs hd;refine wz fun K hK=>?_
   go_simp;exact hK _ _ ⟨(),_,rfl,rfl,⟨hP,hEC.low 12 (by decide)⟩,fun _ _ _ h=>h⟩
  ·obtain rfl:=Option.some.inj ho;obtain⟨v91,e91,hv91⟩:=hs 10 _ 91 rfl rfl (hd 10 wm);rw[hv91]at e91;obtain⟨v93,e93,hv93⟩:=hs 12 _ 93 rfl rfl (hd 12 wm);rw[hv93]at e93;have hw:=HW.out.2.2;clear hs hd;refine wz fun K hK=>?_
   go_simp;exact hK _ _ ⟨(),_,rfl,rfl,⟨hP,hEC.low 13 (by decide)⟩,fun _ _ _ h=>h⟩
  ·obtain rfl:=Option.some.inj ho;have e0:=Z.g 0;obtain⟨v85,e85,hv85⟩:=hs 4 _ 85 rfl rfl (hd 4 wm);rw[hv85]at e85;have l0:L 0=true:=hd 0 wm;have l1:L 1=true:=hd 1 wm;have z1:=hP.m.ks.cell (o:=0) rfl;have z2:=hP.m.ks.fz 0;clear hs hd;refine wz fun K hK=>?_
   go_simp;exact hK _ _ ⟨(),undef,rfl,trivial,⟨hP.st1 hJ hO,hEC.upd 14 (by simp only[AbM,List.mem_cons,List.not_mem_nil,or_false];rintro q (rfl|rfl|rfl|rfl|rfl) e<;>first|exact absurd e (by decide)|assumption)⟩,fun _ _ _ h=>h⟩
  ·obtain rfl:=Option.some.inj ho;have e3:=Z.g 3;obtain⟨v90,e90,hv90⟩:=hs 9 _ 90 rfl rfl (hd 9 wm);rw[hv90]at e90;have l5:L 5=true:=hd 5 wm;have l6:L 6=true:=hd 6 wm;have z1:=hP.m.kw.cell (o:=0) rfl;have z2:=hP.m.kw.fz 0;clear hs hd;refine wz fun K hK=>?_
   go_simp;exact hK _ _ ⟨(),undef,rfl,trivial,⟨hP.st2 hJ hO,hEC.upd 15 (by simp only[AbM,List.mem_cons,List.not_mem_nil,or_false];rintro q (rfl|rfl|rfl|rfl|rfl) e<;>first|exact absurd e (by decide)|assumption)⟩,fun _ _ _ h=>h⟩
  ·obtain rfl:=Option.some.inj ho;have e6:=Z.g 6;obtain⟨v94,e94,hv94⟩:=hs 13 _ 94 rfl rfl (hd 13 wm);rw[hv94]at e94;have l10:L 10=true:=hd 10 wm;have z1:=hP.m.kl.cell (o:=0) rfl;have z2:=hP.m.kl.fz 0;clear hs hd;refine wz fun K hK=>?_
   go_simp;exact hK _ _ ⟨(),undef,rfl,trivial,⟨hP.st3 hJ hO,hEC.upd 16 (by simp only[AbM,List.mem_cons,List.not_mem_nil,or_false];rintro q (rfl|rfl|rfl|rfl|rfl) e<;>first|exact absurd e (by decide)|assumption)⟩,fun _ _ _ h=>h⟩
 ·clear Z hM hF hTB;rintro⟨⟩ L a x hall ⟨hP,_⟩ Z hs;rw[hall 14 (by decide),hall 15 (by decide),hall 16 (by decide)]at hP;obtain⟨hnS,hnW⟩:=HN.out;have hOs2:Df x p.B (.slice (some ⟨gs,0,none⟩) (st++[nx]).length cs) (st++[nx]):=by have:=hP.m.os;rw[hnS]at this;simpa using this
  have hOw2:Df x p.B (.slice (some ⟨gw,0,none⟩) (wy++[kk]).length cw) (wy++[kk]):=by have:=hP.m.ow;rw[hnW]at this;simpa using this
  exact h _ _ Z (GM.rows (show GM J p x pre (.slice (some ⟨gs,0,none⟩) st.length cs) (.slice (some ⟨gw,0,none⟩) wy.length cw) lg (.slice (some ⟨gs,0,none⟩) nS cs) (.slice (some ⟨gw,0,none⟩) nW cw) (st++[nx]) (wy++[kk]) from hP.m) (Df.drop hOs2) (Df.drop hOw2) rfl rfl) (hP.f.rows rfl rfl)
end
end Go.Proofs.Ytgdobbcjkiapkaa
