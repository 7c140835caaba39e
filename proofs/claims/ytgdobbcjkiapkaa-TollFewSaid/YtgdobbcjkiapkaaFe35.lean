import Derived.Test.YtgdobbcjkiapkaaFe18
import Derived.Test.YtgdobbcjkiapkaaFe32
import Derived.Test.YtgdobbcjkiapkaaFe04
import Derived.Test.YtgdobbcjkiapkaaFe34
import Derived.Test.YtgdobbcjkiapkaaFe33
import Derived.KernelRfl
import Derived.Test.YtgdobbcjkiapkaaFe24
namespace Go.Proofs.Ytgdobbcjkiapkaa
set_option maxRecDepth 100000
set_option maxHeartbeats 4000000
set_option linter.unusedSimpArgs false
set_option linter.unusedVariables false
section
open Go Go.Conc
open Go.RowKit
section
variable {P:Program} {M:Machine} {ops:Array Oper} {Q:Exit→Act→World→Prop} {i:Nat} {rest:List Nat} {o:Oper} {a:Act} {w:World} {n d:Nat} {m:List (Nat×Value)} {v:Value}
theorem Ak {id:Nat} (h:J4 Q):J4 (Exit.inBlock id Q):=fun a w hx=>h a w hx
theorem JP {fn:Func} {R:Ending→World→Prop} (h:∀ w,¬ R .outgrown w):J4 (bodyPost P fn R):=fun _ w hx=>h w hx
theorem Sl.kX (h:Sl a n m) {K:Act→World→Prop} (hK:∀ a w,KY P M ops Q rest a w→K a w) (hd:d < n) (hG:∀ a',Sl a' n ((d,v) :: m)→KY P M ops Q rest a' w):K (a.put (some d) v) w:=hK _ _ (hG _ (h.put d v hd))
theorem Sl.goX (h:Sl a n m) (hd:d < n) (hG:∀ a',Sl a' n ((d,v) :: m)→KY P M ops Q rest a' w):KY P M ops Q rest (a.put (some d) v) w:=hG _ (h.put d v hd)
theorem Ls {fc:FuncId} {F:Func} {ars:Array Operand} {ats:Array TypeId} (ho:ops[i]? = some o) (hg:o.guard=none) (hop:o.op = .call { callee := .value (.func fc),args:=ars,argTypes:=ats })
  (hF:P.funcs[fc]? = some F) (hname:(F.name == "runtime.NumGoroutine")=false) (hbody:F.body.isNone=false) {args:Array Value} (ha:ars.map a.eval=args) {R:Ending→World→Prop} (hc:DL P M fc args w R)
  (h:∀ e w'',R e w''→∃ v,e = .returned v∧KY P M ops Q rest (a.put o.dst v) w''):KY P M ops Q (i :: rest) a w:=by
 have hr:=Ji (P:=P) (w:=w) (a:=a) hop rfl hF hname hbody;refine Vh ho hg (f:=fc) (args:=args) (w':=w) ?_ hc h;rw [hr,← ha];simp
theorem Oc (hP:Eh P) {f:Func} {k id:Nat} (hno:J4 Q) (e:Aa f k=Code.region id ops false) (h:KY P M ops Q (List.range ops.size) a w):wpX P M (Aa f k) Q a w:=by
 rw [e];exact Nr hP hno h
theorem MJ (hP:Eh P) {c:Code} (I:Nat→Act→World→Prop) (n:Nat) (h₀:I n a w)
  (round:∀ n a w,I n a w→wpX P M c (Exit.then (fun a' w'=>∃ m,m < n∧I m a' w') Q) a w):wpX P M (.loop c) Q a w:=by
 intro b k cs n₁ hg
 have key:∀ (m:Nat) (a:Act) (w:World) (n₁:Nat),I m a w→Hw P M n₁ (G (b.at a (.code c :: .inLoop c :: k)) cs) w→∃ e a' w',Q e a' w'∧WU P M n₁ b k cs e a' w':=by
  intro m
  induction m using Nat.strongRecOn with
  | _ m ih =>
   intro a w n₁ hI hg;obtain ⟨e,a₁,w₁,hq,harr⟩:=round m a w hI b (.inLoop c :: k) cs n₁ hg
   cases e with
   | normal =>
    obtain ⟨m',hlt,hI₁⟩:=hq;obtain ⟨n1,hn1,hg1⟩:=harr;obtain ⟨n2,hn2,hg2⟩:=Aw hP (.one step_inLoop) hg1;obtain ⟨e₂,a₂,w₂,hq₂,harr₂⟩:=ih m' hlt a₁ w₁ n2 hI₁ hg2;exact ⟨e₂,a₂,w₂,hq₂,harr₂.later (by omega)⟩
   | exit id=>exact ⟨_,a₁,w₁,hq,harr.pass (x := .inLoop c) rfl (by simp)⟩
   | goto l=>exact ⟨_,a₁,w₁,hq,harr.pass (x := .inLoop c) rfl (by simp)⟩
   | ret=>exact ⟨_,a₁,w₁,hq,harr.pass (x := .inLoop c) rfl (by simp)⟩
   | panic ch=>exact ⟨_,a₁,w₁,hq,harr.pass (x := .inLoop c) rfl (by simp)⟩
   | outgrown=>exact harr.elim
 obtain ⟨n0,hn0,hg0⟩:=Aw hP (.one step_loop) hg;obtain ⟨e,a',w',hq,harr⟩:=key n a w n0 h₀ hg0;exact ⟨e,a',w',hq,harr.later hn0⟩
end
theorem Y7 {t:Ac} {l:List Au} {qs:List ((Int×Int)×Int)} (hq:∀ key,(atK qs key).getD 0=AC l key) (o i:Nat):atV t.Ae t.Ag qs o i=atL t l o i:=by unfold atV atL;rw [hq]
theorem V7 {t:Ac} {l:List Au} {qs:List ((Int×Int)×Int)} (hq:∀ key,(atK qs key).getD 0=AC l key) (o:Nat):Yv t.Ae t.Ag qs o=Hy t l o:=by
 unfold Yv Hy NM;rw [show atV t.Ae t.Ag qs o=atL t l o from funext fun i=>Y7 hq o i]
theorem Hq.c {w:World} {bd mb:Nat} {t:Ac} {s:DT} {l:List Au} (hT:CZ w t s) (hD:Hq w bd mb t s l) (ho:Dh t l=0) :
  ∃ q pb po pc tb to_ tc clock ents,MC w.heap.size w bd t.Ae t.Ag q pb po pc tb to_ tc mb clock ents∧∀ key,(atK q key).getD 0=AC l key:=by
 have hck:=OD ho;have hF:=Fa.of hck (Gf ho).1 (Gf ho).2;obtain ⟨_,_,_,hp1,_⟩:=Bh hck;obtain ⟨qs,hm,hq⟩:=hD.map;have d4:=hD.kd.cell (o:=4) rfl;have d5:=hD.kd.cell (o:=5) rfl;have d6:=hD.kd.cell (o:=6) rfl
 change w.cell? _=some (.slice s.pa t.Ae.length s.pc) at d4
 change w.cell? _=some (.slice s.ta t.Ag.length s.tc) at d5
 change w.cell? _=some (.map (some mb)) at d6
 obtain ⟨pb,po,hpa,_,_,_⟩:=hT.Ae.at (i:=0) (by omega)
 have hpay:∀ (o:Nat) (h:o < t.Ae.length),w.cell? ⟨pb,po+o*3,none⟩=some (.int .i64 t.Ae[o].heads)∧w.cell? ⟨pb,po+o*3+1,none⟩=some (.int .i64 t.Ae[o].free)∧w.cell? ⟨pb,po+o*3+2,none⟩=some (.bool t.Ae[o].half):=fun o h=>by
  obtain ⟨b',o',e,h1,h2,h3⟩:=hT.Ae.at h;rw [hpa] at e;simp only [Option.some.injEq,Addr.mk.injEq,and_true] at e;obtain ⟨rfl,rfl⟩:=e;exact ⟨h1,h2,h3⟩
 have lpb:pb < w.heap.size:=lt_of_cell (hpay 0 (by omega)).1
 obtain ⟨tb,to_,htb,hta,htl⟩:∃ tb to_,tb < w.heap.size∧(t.Ag≠[]→s.ta=some ⟨tb,to_,none⟩)∧∀ (i:Nat) (h:i < t.Ag.length),w.cell? ⟨tb,to_+i*3+1,none⟩=some (.int .i64 t.Ag[i].rate):=by
  rcases hT.Ag with h | ⟨b,o,ha,h⟩
  ·exact ⟨pb,0,lpb,fun hne=>absurd h hne,fun i hi=>by rw [h] at hi;simp at hi⟩
  ·by_cases hz:0 < t.Ag.length
   ·exact ⟨b,o,lt_of_cell (h 0 hz).1,fun _=>ha,fun i hi=>(h i hi).2.1⟩
   ·exact ⟨pb,0,lpb,fun hne=>absurd (List.length_pos_iff.2 hne) hz,fun i hi=>absurd (by omega) hz⟩
 rw [hpa] at d4;exact ⟨qs,pb,po,s.pc,tb,to_,s.tc,_,_,⟨lt_of_cell d4,lpb,htb,hm.lt,d4,⟨s.ta,d5,hta⟩,d6,fun o h=>(hpay o h).1,fun o h=>(hpay o h).2.1,fun o h=>(hpay o h).2.2,htl,hm,OT qs,hF.pf,hF.rt,fun k=>by rw [hq];exact hF.ps k⟩,hq⟩
end
section
open Go Go.Conc
open Go.RowKit
def FO (w0:World) (L:List Int) (err:Int) (e:Ending) (w':World):Prop :=
 Below w0.heap.size w0 w'∧(err≠0→e = .returned (.tuple #[.slice none 0 0, .int .i64 err]))∧(err=0→∃ g,e = .returned (.tuple #[.slice (some ⟨g,0,none⟩) L.length L.length, .int .i64 0])∧w0.heap.size≤g∧Rw w' g (KN L) 3)
theorem FO.no {w0:World} {L:List Int} {err:Int} (w':World):¬ FO w0 L err .outgrown w':=fun h=>by
 rcases Classical.em (err=0) with e | e
 ·obtain ⟨g,hx,_⟩:=h.2.2 e;cases hx
 ·cases h.2.1 e
def Jn (f:Nat→Int) (n:Nat):List Int:=(List.range n).map f
theorem LG (f:Nat→Int) (n:Nat):(Jn f n).length=n:=by simp [Jn]
theorem Aap {row:Array Value} {n:Nat} {f g:Nat→Int} (hs:row.size=n) (h:∀ i,i < n→row[i]? = some (.int .i64 (g i))) (hfg:∀ i,g i=f i):row=KN (Jn f n):=by
 apply Array.ext
 ·simp [KN,Jn,hs]
 ·intro i h1 h2;have:=h i (by omega);rw [Array.getElem?_eq_getElem h1,hfg] at this;rw [Option.some.inj this];simp [KN,Jn]
theorem Tc:Try.f30.body=some (Code.seq (Aa Try.f30 0) (Code.seq (Aa Try.f30 1) (Code.seq (Code.seq (Aa Try.f30 2) (Code.cond (Operand.tmp 15) (Code.seq (Aa Try.f30 3) Code.ret) Code.skip)) (Code.seq (Aa Try.f30 4) Code.ret)))):=by kernel_rfl
theorem Sz {M:Machine} {t:Ac} {s:DT} {l:List Au} {la:Option Addr} {lc:Nat} {w:World} (ht:CZ w t s) (hl:Fq w la l) (hlm:l.length≤maxLen):DL Try.prog M 30 #[.agg (EY t s), .slice la l.length lc] w (FO w (Jn (Hy t l) t.Ae.length) (Dh t l)):=by
 have hno:J4 (bodyPost Try.prog Try.f30 (FO w (Jn (Hy t l) t.Ae.length) (Dh t l))):=JP FO.no;refine G7 Ef Try.func30 Tc ?_ FO.no;have Z:Sl (⟨#[.agg (EY t s), .slice la l.length lc]++Array.replicate (Try.f30.ntmps-(#[.agg (EY t s), .slice la l.length lc]:Array Value).size) undef,[]⟩:Act) 21 [(0, .agg (EY t s)),(1, .slice la l.length lc)]:=by rw [Try.ntmps30];exact Sl.VX _ _ (by omega)
 revert Z;generalize (Act.mk _ _)=a;intro Z;refine BK Ef ?_;refine wpX.of Ef ?_ (by repeat (first | assumption | apply Ap | apply Ak));refine wr ?_;refine Z.s ?_;clear Z;intro a Z;refine Af (G:=fun W=>wpOps _ _ _ _ _ W) ?_;intro x hz X hb;have hI:=TI.made (Below.refl _ _) ht X hb;obtain ⟨bt,hbt⟩:∃ b,b=w.heap.size:=⟨_,rfl⟩;rw [← hbt] at Z hI;clear hz X hb hbt;(iterate 2 refine Z.s ?_;clear Z;intro a Z);refine od ?_;refine BK Ef ?_;refine wpX.of Ef ?_ (by repeat (first | assumption | apply Ap | apply Ak));refine wr ?_;refine og fun K hK =>?_
 have e2:=Z.g 2;have c0:=hI.c0;have c1:=hI.c1;have c2:=hI.c2;have c3:=hI.c3;have c4:=hI.c4;have c5:=hI.c5;unfold Oper.wp;go_simp;clear e2;refine Z.K hK ?_;clear Z hK;intro a Z;refine Z.s ?_;clear Z;intro a Z;refine og fun K hK =>?_
 have e9:=Z.g 9;have e10:=Z.g 10;unfold Oper.wp;go_simp;refine (Ph hI.tar (hl.below hI.below) hlm).mono ?_;rintro e x2 ⟨hb2,hN,hS⟩;have hxx:=hI.below.size;replace hI:=hI.keep hb2;clear e9 e10
 by_cases h1:Dh t l=0
 ·obtain ⟨bd,mb,rfl,hbd,hmb,hD⟩:=hS h1;have HE:=Lib.hid h1;have hne:=CS h1;clear hS hN hb2 hxx h1;refine Z.K hK ?_;clear Z hK;intro a Z;obtain ⟨x,hx2⟩:∃ x,x=x2:=⟨_,rfl⟩;rw [← hx2] at hI ⊢ hD;clear hx2;(iterate 5 refine Z.s ?_;clear Z;intro a Z);refine od ?_;refine BK Ef ?_;refine wpX.of Ef ?_ (by repeat (first | assumption | apply Ap | apply Ak));refine wsr ?_;(iterate 2 refine Z.s ?_;clear Z;intro a Z);refine od ?_;refine wp_cond_false (Z.ev 15 rfl) ?_;refine wp_skip ?_;refine BK Ef ?_;rw [show Aa Try.f30 4=Code.region 4 _ false from rfl];refine Nr Ef (by repeat (first | assumption | apply Ap | apply Ak)) ?_;refine Cm rfl rfl (fun K hK =>?_);have e6:=Z.g 6;unfold Oper.wp;go_simp;clear e6;refine Z.kX hK (by decide) ?_;clear Z hK;intro a Z;refine Cm rfl rfl (fun K hK =>?_);have e6:=Z.g 6;unfold Oper.wp;go_simp;clear e6;refine Z.kX hK (by decide) ?_;clear Z hK;intro a Z;refine Cm rfl rfl (fun K hK =>?_);have e18:=Z.g 18;unfold Oper.wp;go_simp;clear e18;refine Z.kX hK (by decide) ?_;clear Z hK;intro a Z;have e17:=Z.g 17;have e19:=Z.g 19;obtain ⟨qs,pb,po,pc,tb,to_,tc,clock,ents,hDC,hq⟩:=Hq.c hI.tar hD HE.out;have hFL:=Fa.of (OD HE.out) (Gf HE.out).1 (Gf HE.out).2
  refine Ls rfl rfl rfl Try.func78 (by kernel_rfl) (by kernel_rfl) (args:=#[.pointer (some ⟨bd,0,none⟩), .func (.func 79) #[.pointer (some ⟨bd,0,none⟩)] #[]]) (by simp [Act.eval,Array.getD_eq_getD_getElem?,e17,e19]) (XQ hDC hFL.nt hFL.np) ?_;clear e17 e19;rintro e x2 ⟨g,row,rfl,hb,hg,hrow,hrs,hri⟩;have hxx:=hI.below.size;have hG:Rw x2 g (KN (Jn (Hy t l) t.Ae.length)) 3:=by have:=Aap hrs hri (fun i=>V7 hq i);rw [this] at hrow;exact hrow
  replace hI:=hI.keep hb;have hgw:w.heap.size≤g:=Nat.le_trans hxx hg;clear hrow hrs hri hb hD hDC hq hxx hg;obtain ⟨x,hx2⟩:∃ x,x=x2:=⟨_,rfl⟩;rw [← hx2] at hI hG ⊢;clear hx2;refine ⟨_,rfl,?_⟩;refine Z.goX (by decide) ?_;clear Z;intro a Z;refine Cm rfl rfl (fun K hK =>?_);have e20:=Z.g 20;unfold Oper.wp;go_simp;clear e20;refine Z.kX hK (by decide) ?_;clear Z hK;intro a Z;refine Cm rfl rfl (fun K hK =>?_);unfold Oper.wp;go_simp;refine Z.kX hK (by decide) ?_;clear Z hK;intro a Z;refine Ib ?_;refine wpX.of Ef ?_ (by repeat (first | assumption | apply Ap | apply Ak));refine wp_ret ?_
  try simp only [Exit.then,Exit.inBlock]
  refine bodyPost_ret (v := .tuple #[.slice (some ⟨g,0,none⟩) t.Ae.length t.Ae.length, .int .i64 0]) ?_ Z.defers ⟨hI.below,fun h=>absurd HE.out h,fun _=>⟨g,by rw [LG],hgw,hG⟩⟩;simp [results,Try.results30,Z.get 4 _ rfl,Z.get 5 _ rfl]
 ·obtain rfl:=hN h1;have HE:=Lib.hid h1;have hne:=DC h1;clear hS hN hb2 hxx h1;refine Z.K hK ?_;clear Z hK;intro a Z;obtain ⟨x,hx2⟩:∃ x,x=x2:=⟨_,rfl⟩;rw [← hx2] at hI ⊢;clear hx2;(iterate 5 refine Z.s ?_;clear Z;intro a Z);refine od ?_;refine BK Ef ?_;refine wpX.of Ef ?_ (by repeat (first | assumption | apply Ap | apply Ak));refine wsr ?_;(iterate 2 refine Z.s ?_;clear Z;intro a Z);refine od ?_;refine wp_cond_true (Z.ev 15 rfl) ?_;refine wsr ?_;(iterate 3 refine Z.s ?_;clear Z;intro a Z);refine od ?_;refine wp_ret ?_
  try simp only [Exit.then,Exit.inBlock]
  refine bodyPost_ret (v := .tuple #[.slice none 0 0, .int .i64 (Dh t l)]) ?_ Z.defers ⟨hI.below,fun _=>rfl,fun h=>absurd h HE.out⟩;simp [results,Try.results30,Z.get 4 _ rfl,Z.get 5 _ rfl]
end
section
open Go.RowKit
def exT:Ac:=⟨⟨2,3,[⟨0,1,4,90,1,0,0⟩,⟨1,2,4,90,1,0,0⟩,⟨0,2,6,90,1,0,0⟩]⟩,6,[⟨12,2,false⟩,⟨10,0,true⟩],[⟨0,55,1⟩,⟨1,33,2⟩,⟨2,100,1⟩]⟩
def exL:List Au:=[⟨0,0,12⟩,⟨0,1,10⟩,⟨1,0,12⟩,⟨1,1,10⟩]
theorem VQ:Dh exT exL=0:=by kernel_rfl
theorem Zt:Jn (Hy exT exL) 2=[9,5]:=by kernel_rfl
theorem YS:(Gj exT exL 2 0,Gj exT exL 2 1,Gj exT exL 2 2,Gj exT exL 2 3)=(9,5,0,0):=by kernel_rfl
theorem XK:BO exT 0 [0,1]=(exL,0):=by kernel_rfl
theorem XI:EU exT 0 [0,1] 1 5=(11,0):=by kernel_rfl
theorem XJ:(Jw exT 0 2).1.map (fun c=>(c.way,c.coins))=some ([0,1],14):=by kernel_rfl
end
section
open Go.RowKit
theorem Ue:Try.f58.body=some (Code.seq (Aa Try.f58 0) (Code.seq (Aa Try.f58 1) (Code.seq (Aa Try.f58 2) (Code.seq (Aa Try.f58 3) (Code.seq (Aa Try.f58 4) Code.ret))))):=by kernel_rfl
theorem Zu {w:World} {bS bP bT:Nat} {tS tP tT:TypeId} (KS:Rw w bS #[.int .i64 0, .int .i64 1, .int .i64 4, .int .i64 90, .int .i64 1, .int .i64 0, .int .i64 0, .int .i64 1, .int .i64 2, .int .i64 4, .int .i64 90, .int .i64 1, .int .i64 0, .int .i64 0, .int .i64 0, .int .i64 2, .int .i64 6, .int .i64 90, .int .i64 1, .int .i64 0, .int .i64 0] tS) (KP:Rw w bP #[.int .i64 12, .int .i64 2, .bool false, .int .i64 10, .int .i64 0, .bool true] tP) (KT:Rw w bT #[.int .i64 0, .int .i64 55, .int .i64 1, .int .i64 1, .int .i64 33, .int .i64 2, .int .i64 2, .int .i64 100, .int .i64 1] tT):CZ w exT ⟨some ⟨bS,0,none⟩,3,some ⟨bP,0,none⟩,2,some ⟨bT,0,none⟩,3⟩:=by
 refine ⟨.inr ⟨bS,0,rfl,fun i hi =>?_⟩, .inr ⟨bP,0,rfl,fun i hi =>?_⟩, .inr ⟨bT,0,rfl,fun i hi =>?_⟩,by show 3≤maxLen;decide,by show 2≤maxLen;decide,by show 3≤maxLen;decide,by show 2≤2;decide,by show 3≤3;decide⟩
 ·have h3:i=0∨i=1∨i=2:=by have:i < 3:=hi;omega
  rcases h3 with rfl | rfl | rfl
  ·exact ⟨KS.cell (o:=0) rfl,KS.cell (o:=1) rfl,KS.cell (o:=2) rfl,KS.cell (o:=3) rfl,KS.cell (o:=4) rfl,KS.cell (o:=5) rfl,KS.cell (o:=6) rfl⟩
  ·exact ⟨KS.cell (o:=7) rfl,KS.cell (o:=8) rfl,KS.cell (o:=9) rfl,KS.cell (o:=10) rfl,KS.cell (o:=11) rfl,KS.cell (o:=12) rfl,KS.cell (o:=13) rfl⟩
  ·exact ⟨KS.cell (o:=14) rfl,KS.cell (o:=15) rfl,KS.cell (o:=16) rfl,KS.cell (o:=17) rfl,KS.cell (o:=18) rfl,KS.cell (o:=19) rfl,KS.cell (o:=20) rfl⟩
 ·have h3:i=0∨i=1:=by have:i < 2:=hi;omega
  rcases h3 with rfl | rfl
  ·exact ⟨KP.cell (o:=0) rfl,KP.cell (o:=1) rfl,KP.cell (o:=2) rfl⟩
  ·exact ⟨KP.cell (o:=3) rfl,KP.cell (o:=4) rfl,KP.cell (o:=5) rfl⟩
 ·have h3:i=0∨i=1∨i=2:=by have:i < 3:=hi;omega
  rcases h3 with rfl | rfl | rfl
  ·exact ⟨KT.cell (o:=0) rfl,KT.cell (o:=1) rfl,KT.cell (o:=2) rfl⟩
  ·exact ⟨KT.cell (o:=3) rfl,KT.cell (o:=4) rfl,KT.cell (o:=5) rfl⟩
  ·exact ⟨KT.cell (o:=6) rfl,KT.cell (o:=7) rfl,KT.cell (o:=8) rfl⟩
theorem Ii {w:World}:Calls Try.prog 58 #[] w (fun e w'=>Below w.heap.size w w'∧∃ s,e = .returned (.agg (EY exT s))∧CZ w' exT s):=by
 refine Y4 Try.func58 Ue Try.ntmps58 ?_;intro a Z;refine wsr ?_;refine Z.s ?_;clear Z;intro a Z;refine Af (G:=fun W=>wpOps _ _ _ _ _ W) ?_;obtain ⟨b0,hg⟩:∃ b,b=w.heap.size:=⟨_,rfl⟩;intro x hz K0 hb;rw [← hg] at Z K0;have hb0:w.heap.size≤b0:=by omega
 clear hz hg;refine od ?_;refine wsr ?_;refine Z.s ?_;clear Z;intro a Z;refine og fun K hK =>?_
 obtain ⟨b1,hg⟩:∃ b,b=x.heap.size:=⟨_,rfl⟩;unfold Oper.wp;go_simp;refine Z.K hK ?_;clear Z hK;intro a Z;refine og fun K hK =>?_
 have e1:=Z.g 1;have e4:=Z.g 4;unfold Oper.wp;go_simp;clear e1 e4;refine hK _ _ ?_;clear hK;have hl:=K0.lt;refine Af (G:=fun W=>wpOps _ _ _ _ _ W) ?_;intro x hz K1 hb2;rw [← hg] at Z K1;have h01:b0 < b1:=by omega
 replace K0:=K0.below hb2;replace hb:=hb.trans (hb2.mono hb.size);clear hz hg hb2 hl;refine od ?_;refine wp_seq ?_;rw [show Aa Try.f58 2=Code.region 2 _ true from rfl];refine Gv (Γ:=Nat×Nat) (by kernel_rfl) (((Z.nil.cons (Z.get 1 _ rfl)).cons (Z.get 0 _ rfl))) [some 5,some 6,some 2,some 3,none,none] rfl rfl (by kernel_rfl) (fun g j v=>match j with | 0=>v = .agg #[.int .i64 0, .int .i64 1, .int .i64 4, .int .i64 90, .int .i64 1, .int .i64 0, .int .i64 0] | 1=>v = .agg #[.int .i64 0, .int .i64 1, .int .i64 4, .int .i64 90, .int .i64 1, .int .i64 0, .int .i64 0] | 2=>v = .pointer (some ⟨g.1,0,none⟩) | 3=>v = .pointer (some ⟨g.2,0,none⟩) | _=>True) (fun g L y=>Below x.heap.size x y∧GI x 2 4 #[.int .i64 0, .int .i64 0, .int .i64 0, .int .i64 0, .int .i64 0, .int .i64 0, .int .i64 0] #[.int .i64 0, .int .i64 1, .int .i64 4, .int .i64 90, .int .i64 1, .int .i64 0, .int .i64 0] 96 g.1 L y∧GI x 3 5 #[.int .i64 0, .int .i64 0, .int .i64 0, .int .i64 0, .int .i64 0, .int .i64 0, .int .i64 0] #[.int .i64 0, .int .i64 1, .int .i64 4, .int .i64 90, .int .i64 1, .int .i64 0, .int .i64 0] 96 g.2 L y∧(L 2=true→L 3=true→g.1≠g.2)) (0,0) ⟨(Below.refl _ _).drew,GI.init,GI.init,fun h=>by simp at h⟩ ?_ ?_
 ·clear Z;rintro k o hkl ho g L a y ⟨hB,hG0,hG1,hD01⟩ hLk Z hs hd;have hI:Below x.heap.size x y∧True:=⟨hB,trivial⟩;have hlt:∀ k:Nat,k < 6→k=0∨k=1∨k=2∨k=3∨k=4∨k=5:=by decide
  rcases hlt k hkl with rfl | rfl | rfl | rfl | rfl | rfl
  ·obtain rfl:=Option.some.inj ho;have e1:=Z.g 1;have c0:=(K1.below hI.1).cell (o:=0) rfl;have c1:=(K1.below hI.1).cell (o:=1) rfl;have c2:=(K1.below hI.1).cell (o:=2) rfl;have c3:=(K1.below hI.1).cell (o:=3) rfl;have c4:=(K1.below hI.1).cell (o:=4) rfl;have c5:=(K1.below hI.1).cell (o:=5) rfl;have c6:=(K1.below hI.1).cell (o:=6) rfl;clear hs hd;refine wg fun K hK =>?_
   unfold Oper.wp;go_simp;exact hK _ _ ⟨g,_,rfl,rfl,⟨hB,(hG0.other (by decide) (by decide)),(hG1.other (by decide) (by decide)),(by rw [Aq _ _ (by decide),Aq _ _ (by decide)];exact hD01)⟩,fun j u _ h=>h⟩
  ·obtain rfl:=Option.some.inj ho;have e1:=Z.g 1;have c0:=(K1.below hI.1).cell (o:=0) rfl;have c1:=(K1.below hI.1).cell (o:=1) rfl;have c2:=(K1.below hI.1).cell (o:=2) rfl;have c3:=(K1.below hI.1).cell (o:=3) rfl;have c4:=(K1.below hI.1).cell (o:=4) rfl;have c5:=(K1.below hI.1).cell (o:=5) rfl;have c6:=(K1.below hI.1).cell (o:=6) rfl;clear hs hd;refine wg fun K hK =>?_
   unfold Oper.wp;go_simp;exact hK _ _ ⟨g,_,rfl,rfl,⟨hB,(hG0.other (by decide) (by decide)),(hG1.other (by decide) (by decide)),(by rw [Aq _ _ (by decide),Aq _ _ (by decide)];exact hD01)⟩,fun j u _ h=>h⟩
  ·obtain rfl:=Option.some.inj ho;clear hs hd;refine wg fun K hK =>?_
   unfold Oper.wp;go_simp;exact hK _ _ ⟨⟨y.heap.size,g.2⟩,_,rfl,rfl,⟨hB.trans ((CY _ _).mono hB.size),(hG0.made hLk hB.size (by decide)),((hG1.below (CY _ _)).other (by decide) (by decide)),(fun _ h2=>by rw [Aq _ _ (by decide)] at h2;have:=hG1.lt h2;show y.heap.size≠g.2;omega)⟩,fun j u hL hv=>by by_cases c:j=2;(subst c;rw [hLk] at hL;exact absurd hL (by decide));(revert hv;dsimp only;split <;> first | exact id | (intro _;trivial) | (rename_i e;exact absurd rfl c) | contradiction)⟩
  ·obtain rfl:=Option.some.inj ho;clear hs hd;refine wg fun K hK =>?_
   unfold Oper.wp;go_simp;exact hK _ _ ⟨⟨g.1,y.heap.size⟩,_,rfl,rfl,⟨hB.trans ((CY _ _).mono hB.size),((hG0.below (CY _ _)).other (by decide) (by decide)),(hG1.made hLk hB.size (by decide)),(fun h2 _=>by rw [Aq _ _ (by decide)] at h2;have:=hG0.lt h2;show g.1≠y.heap.size;omega)⟩,fun j u hL hv=>by by_cases c:j=3;(subst c;rw [hLk] at hL;exact absurd hL (by decide));(revert hv;dsimp only;split <;> first | exact id | (intro _;trivial) | (rename_i e;exact absurd rfl c) | contradiction)⟩
  ·obtain rfl:=Option.some.inj ho;obtain ⟨_,e2,rfl⟩:=hs 2 _ 2 rfl rfl (hd 2 wm);obtain ⟨_,e5,rfl⟩:=hs 0 _ 5 rfl rfl (hd 0 wm);have hLa:=hd 2 wm;have K0:=hG0.get hLa hLk;have hge:=(hG0.2 hLa).1;have c0:=K0.cell (o:=0) rfl;have z0:=K0.fz 0;have c1:=K0.cell (o:=1) rfl;have z1:=K0.fz 1;have c2:=K0.cell (o:=2) rfl;have z2:=K0.fz 2;have c3:=K0.cell (o:=3) rfl;have z3:=K0.fz 3;have c4:=K0.cell (o:=4) rfl;have z4:=K0.fz 4;have c5:=K0.cell (o:=5) rfl;have z5:=K0.fz 5;have c6:=K0.cell (o:=6) rfl;have z6:=K0.fz 6;clear hs hd;refine wg fun K hK =>?_
   unfold Oper.wp;go_simp;exact hK _ _ ⟨g,undef,rfl,trivial,⟨(((((((hB.setCell (p:=⟨g.1,0,none⟩) hge (.int .i64 0)).setCell (p:=⟨g.1,1,none⟩) hge (.int .i64 1)).setCell (p:=⟨g.1,2,none⟩) hge (.int .i64 4)).setCell (p:=⟨g.1,3,none⟩) hge (.int .i64 90)).setCell (p:=⟨g.1,4,none⟩) hge (.int .i64 1)).setCell (p:=⟨g.1,5,none⟩) hge (.int .i64 0)).setCell (p:=⟨g.1,6,none⟩) hge (.int .i64 0)),(hG0.stored hLa (by decide) (((((((K0.set 0 (.int .i64 0)).set 1 (.int .i64 1)).set 2 (.int .i64 4)).set 3 (.int .i64 90)).set 4 (.int .i64 1)).set 5 (.int .i64 0)).set 6 (.int .i64 0))),(GI.other (((((((hG1.far (fun h=>Ne.symm (hD01 hLa h)) 0 (.int .i64 0)).far (fun h=>Ne.symm (hD01 hLa h)) 1 (.int .i64 1)).far (fun h=>Ne.symm (hD01 hLa h)) 2 (.int .i64 4)).far (fun h=>Ne.symm (hD01 hLa h)) 3 (.int .i64 90)).far (fun h=>Ne.symm (hD01 hLa h)) 4 (.int .i64 1)).far (fun h=>Ne.symm (hD01 hLa h)) 5 (.int .i64 0)).far (fun h=>Ne.symm (hD01 hLa h)) 6 (.int .i64 0)) (by decide) (by decide)),(by rw [Aq _ _ (by decide),Aq _ _ (by decide)];exact hD01)⟩,fun j u _ h=>h⟩
  ·obtain rfl:=Option.some.inj ho;obtain ⟨_,e3,rfl⟩:=hs 3 _ 3 rfl rfl (hd 3 wm);obtain ⟨_,e6,rfl⟩:=hs 1 _ 6 rfl rfl (hd 1 wm);have hLa:=hd 3 wm;have K0:=hG1.get hLa hLk;have hge:=(hG1.2 hLa).1;have c0:=K0.cell (o:=0) rfl;have z0:=K0.fz 0;have c1:=K0.cell (o:=1) rfl;have z1:=K0.fz 1;have c2:=K0.cell (o:=2) rfl;have z2:=K0.fz 2;have c3:=K0.cell (o:=3) rfl;have z3:=K0.fz 3;have c4:=K0.cell (o:=4) rfl;have z4:=K0.fz 4;have c5:=K0.cell (o:=5) rfl;have z5:=K0.fz 5;have c6:=K0.cell (o:=6) rfl;have z6:=K0.fz 6;clear hs hd;refine wg fun K hK =>?_
   unfold Oper.wp;go_simp;exact hK _ _ ⟨g,undef,rfl,trivial,⟨(((((((hB.setCell (p:=⟨g.2,0,none⟩) hge (.int .i64 0)).setCell (p:=⟨g.2,1,none⟩) hge (.int .i64 1)).setCell (p:=⟨g.2,2,none⟩) hge (.int .i64 4)).setCell (p:=⟨g.2,3,none⟩) hge (.int .i64 90)).setCell (p:=⟨g.2,4,none⟩) hge (.int .i64 1)).setCell (p:=⟨g.2,5,none⟩) hge (.int .i64 0)).setCell (p:=⟨g.2,6,none⟩) hge (.int .i64 0)),(GI.other (((((((hG0.far (fun h=>hD01 h hLa) 0 (.int .i64 0)).far (fun h=>hD01 h hLa) 1 (.int .i64 1)).far (fun h=>hD01 h hLa) 2 (.int .i64 4)).far (fun h=>hD01 h hLa) 3 (.int .i64 90)).far (fun h=>hD01 h hLa) 4 (.int .i64 1)).far (fun h=>hD01 h hLa) 5 (.int .i64 0)).far (fun h=>hD01 h hLa) 6 (.int .i64 0)) (by decide) (by decide)),(hG1.stored hLa (by decide) (((((((K0.set 0 (.int .i64 0)).set 1 (.int .i64 1)).set 2 (.int .i64 4)).set 3 (.int .i64 90)).set 4 (.int .i64 1)).set 5 (.int .i64 0)).set 6 (.int .i64 0))),(by rw [Aq _ _ (by decide),Aq _ _ (by decide)];exact hD01)⟩,fun j u _ h=>h⟩
 ·clear Z;rintro g L a y hall ⟨hB,hG0,hG1,hD01⟩ Z hs;obtain ⟨hb2,Kb2⟩:=hG0.full (hall 2 (by decide)) (hall 4 (by decide));obtain ⟨hb3,Kb3⟩:=hG1.full (hall 3 (by decide)) (hall 5 (by decide));have hneb2b3:=hD01 (hall 2 (by decide)) (hall 3 (by decide));obtain ⟨_,e2,rfl⟩:=hs 2 _ 2 rfl rfl (hall 2 (by decide));obtain ⟨_,e3,rfl⟩:=hs 3 _ 3 rfl rfl (hall 3 (by decide));replace Z:=((Z.cons e2).cons e3);clear hs hall hG0 hG1 hD01 e2 e3
  skip
  skip
  obtain ⟨b2,hgn0⟩:∃ b,b=g.1:=⟨_,rfl⟩;obtain ⟨b3,hgn1⟩:∃ b,b=g.2:=⟨_,rfl⟩;simp only [← hgn0,← hgn1] at Z hb2 Kb2 hb3 Kb3 hneb2b3;clear hgn0 hgn1;have hb1s:=K1.lt;have hb0s:=K0.lt;replace K0:=K0.below hB;replace K1:=K1.below hB;have h2b:b1 < b2∧b0 < b2∧b1 < b3∧b0 < b3:=by omega
  have hw2:w.heap.size≤b2∧w.heap.size≤b3:=by have:=hb.size;omega
  replace hb:=hb.trans (hB.mono hb.size);have K2:=Kb2;have K3:=Kb3;clear Kb2 Kb3 hB hb2 hb3 hb1s hb0s;obtain ⟨x,hx2⟩:∃ q,q=y:=⟨_,rfl⟩;rw [← hx2] at K0 K1 K2 K3 hb ⊢;clear hx2;refine wsr ?_;refine Z.s ?_;clear Z;intro a Z;refine og fun K hK =>?_
  have e7:=Z.g 7;have c:=K2.cell (o:=0) rfl;have z:=K2.fz 0;unfold Oper.wp;go_simp;clear e7;refine hK _ _ ?_;clear hK;replace K2:=K2.set 0 (.int .i64 1);replace K0:=K0.far (g:=b2) (by omega) 0 (.int .i64 1);replace K1:=K1.far (g:=b2) (by omega) 0 (.int .i64 1);replace K3:=K3.far (g:=b2) (Ne.symm hneb2b3) 0 (.int .i64 1);replace hb:=hb.setCell (p:=⟨b2,0,none⟩) (by show w.heap.size≤b2;omega) (.int .i64 1);clear c z;obtain ⟨x,hx2⟩:∃ q,q=x.setCell ⟨b2,0,none⟩ (.int .i64 1):=⟨_,rfl⟩;rw [← hx2] at K0 K1 K2 K3 hb ⊢;clear hx2;refine Z.s ?_;clear Z;intro a Z;refine og fun K hK =>?_
  have e8:=Z.g 8;have c:=K2.cell (o:=1) rfl;have z:=K2.fz 1;unfold Oper.wp;go_simp;clear e8;refine hK _ _ ?_;clear hK;replace K2:=K2.set 1 (.int .i64 2);replace K0:=K0.far (g:=b2) (by omega) 1 (.int .i64 2);replace K1:=K1.far (g:=b2) (by omega) 1 (.int .i64 2);replace K3:=K3.far (g:=b2) (Ne.symm hneb2b3) 1 (.int .i64 2);replace hb:=hb.setCell (p:=⟨b2,1,none⟩) (by show w.heap.size≤b2;omega) (.int .i64 2);clear c z;obtain ⟨x,hx2⟩:∃ q,q=x.setCell ⟨b2,1,none⟩ (.int .i64 2):=⟨_,rfl⟩;rw [← hx2] at K0 K1 K2 K3 hb ⊢;clear hx2;refine Z.s ?_;clear Z;intro a Z;refine og fun K hK =>?_
  have e9:=Z.g 9;have c:=K3.cell (o:=1) rfl;have z:=K3.fz 1;unfold Oper.wp;go_simp;clear e9;refine hK _ _ ?_;clear hK;replace K3:=K3.set 1 (.int .i64 2);replace K0:=K0.far (g:=b3) (by omega) 1 (.int .i64 2);replace K1:=K1.far (g:=b3) (by omega) 1 (.int .i64 2);replace K2:=K2.far (g:=b3) (hneb2b3) 1 (.int .i64 2);replace hb:=hb.setCell (p:=⟨b3,1,none⟩) (by show w.heap.size≤b3;omega) (.int .i64 2);clear c z;obtain ⟨x,hx2⟩:∃ q,q=x.setCell ⟨b3,1,none⟩ (.int .i64 2):=⟨_,rfl⟩;rw [← hx2] at K0 K1 K2 K3 hb ⊢;clear hx2;refine Z.s ?_;clear Z;intro a Z;refine og fun K hK =>?_
  have e10:=Z.g 10;have c:=K3.cell (o:=2) rfl;have z:=K3.fz 2;unfold Oper.wp;go_simp;clear e10;refine hK _ _ ?_;clear hK;replace K3:=K3.set 2 (.int .i64 6);replace K0:=K0.far (g:=b3) (by omega) 2 (.int .i64 6);replace K1:=K1.far (g:=b3) (by omega) 2 (.int .i64 6);replace K2:=K2.far (g:=b3) (hneb2b3) 2 (.int .i64 6);replace hb:=hb.setCell (p:=⟨b3,2,none⟩) (by show w.heap.size≤b3;omega) (.int .i64 6);clear c z;obtain ⟨x,hx2⟩:∃ q,q=x.setCell ⟨b3,2,none⟩ (.int .i64 6):=⟨_,rfl⟩;rw [← hx2] at K0 K1 K2 K3 hb ⊢;clear hx2;refine od ?_;refine wsr ?_;refine og fun K hK =>?_
  have e1:=Z.g 1;have c0:=K1.cell (o:=0) rfl;have c1:=K1.cell (o:=1) rfl;have c2:=K1.cell (o:=2) rfl;have c3:=K1.cell (o:=3) rfl;have c4:=K1.cell (o:=4) rfl;have c5:=K1.cell (o:=5) rfl;have c6:=K1.cell (o:=6) rfl;unfold Oper.wp;go_simp;clear e1;refine Z.K hK ?_;clear Z hK;intro a Z;refine og fun K hK =>?_
  have e2:=Z.g 2;have c0:=K2.cell (o:=0) rfl;have c1:=K2.cell (o:=1) rfl;have c2:=K2.cell (o:=2) rfl;have c3:=K2.cell (o:=3) rfl;have c4:=K2.cell (o:=4) rfl;have c5:=K2.cell (o:=5) rfl;have c6:=K2.cell (o:=6) rfl;unfold Oper.wp;go_simp;clear e2;refine Z.K hK ?_;clear Z hK;intro a Z;refine og fun K hK =>?_
  have e3:=Z.g 3;have c0:=K3.cell (o:=0) rfl;have c1:=K3.cell (o:=1) rfl;have c2:=K3.cell (o:=2) rfl;have c3:=K3.cell (o:=3) rfl;have c4:=K3.cell (o:=4) rfl;have c5:=K3.cell (o:=5) rfl;have c6:=K3.cell (o:=6) rfl;unfold Oper.wp;go_simp;clear e3;refine Z.K hK ?_;clear Z hK;intro a Z;refine og fun K hK =>?_
  have e11:=Z.g 11;have e12:=Z.g 12;have e13:=Z.g 13;have hbz:=hb.size;unfold Oper.wp;go_simp;clear e11 e12 e13;refine Z.K hK ?_;clear Z hK;intro a Z;refine Af (G:=fun W=>wpOps _ _ _ _ _ W) ?_;obtain ⟨bS,hg⟩:∃ b,b=x.heap.size:=⟨_,rfl⟩;intro x hz KS hb2;rw [← hg] at Z KS;have h0S:b0 < bS:=by have:=K0.lt;omega
  replace K0:=K0.below hb2;replace K1:=K1.below hb2;replace K2:=K2.below hb2;replace K3:=K3.below hb2;replace hb:=hb.trans (hb2.mono hb.size);clear hz hg hb2 hbz;(iterate 3 refine Z.s ?_;clear Z;intro a Z);refine og fun K hK =>?_
  have e16:=Z.g 16;have e17:=Z.g 17;have hbz:=hb.size;unfold Oper.wp;go_simp;clear e16 e17;refine Z.K hK ?_;clear Z hK;intro a Z;refine Af (G:=fun W=>wpOps _ _ _ _ _ W) ?_;obtain ⟨bP,hg⟩:∃ b,b=x.heap.size:=⟨_,rfl⟩;intro x hz KP hb2;rw [← hg] at Z KP;have h0P:b0 < bP:=by have:=K0.lt;omega
  replace K0:=K0.below hb2;replace KS:=KS.below hb2;replace hb:=hb.trans (hb2.mono hb.size);clear hz hg hb2 hbz;(iterate 3 refine Z.s ?_;clear Z;intro a Z);refine og fun K hK =>?_
  have e19:=Z.g 19;have e20:=Z.g 20;have e21:=Z.g 21;have hbz:=hb.size;unfold Oper.wp;go_simp;clear e19 e20 e21;refine Z.K hK ?_;clear Z hK;intro a Z;refine Af (G:=fun W=>wpOps _ _ _ _ _ W) ?_;obtain ⟨bT,hg⟩:∃ b,b=x.heap.size:=⟨_,rfl⟩;intro x hz KT hb2;rw [← hg] at Z KT;have h0T:b0 < bT:=by have:=K0.lt;omega
  replace K0:=K0.below hb2;replace KS:=KS.below hb2;replace KP:=KP.below hb2;replace hb:=hb.trans (hb2.mono hb.size);clear hz hg hb2 hbz;refine Z.s ?_;clear Z;intro a Z;refine og fun K hK =>?_
  have e0:=Z.g 0;have e23:=Z.g 23;have c0:=K0.cell (o:=0) rfl;have z0:=K0.fz 0;have c1:=K0.cell (o:=1) rfl;have z1:=K0.fz 1;have c2:=K0.cell (o:=2) rfl;have z2:=K0.fz 2;have c3:=K0.cell (o:=3) rfl;have z3:=K0.fz 3;have c4:=K0.cell (o:=4) rfl;have z4:=K0.fz 4;have c5:=K0.cell (o:=5) rfl;have z5:=K0.fz 5;unfold Oper.wp;go_simp;clear e0 e23;refine hK _ _ ?_;clear hK;clear c0 z0 c1 z1 c2 z2 c3 z3 c4 z4 c5 z5;replace KS:=((((((KS.far (g:=b0) (by omega) 0 (.int .i64 2)).far (g:=b0) (by omega) 1 (.int .i64 3)).far (g:=b0) (by omega) 2 (.slice (some ⟨bS,0,none⟩) 3 3)).far (g:=b0) (by omega) 3 (.int .i64 6)).far (g:=b0) (by omega) 4 (.slice (some ⟨bP,0,none⟩) 2 2)).far (g:=b0) (by omega) 5 (.slice (some ⟨bT,0,none⟩) 3 3));replace KP:=((((((KP.far (g:=b0) (by omega) 0 (.int .i64 2)).far (g:=b0) (by omega) 1 (.int .i64 3)).far (g:=b0) (by omega) 2 (.slice (some ⟨bS,0,none⟩) 3 3)).far (g:=b0) (by omega) 3 (.int .i64 6)).far (g:=b0) (by omega) 4 (.slice (some ⟨bP,0,none⟩) 2 2)).far (g:=b0) (by omega) 5 (.slice (some ⟨bT,0,none⟩) 3 3));replace KT:=((((((KT.far (g:=b0) (by omega) 0 (.int .i64 2)).far (g:=b0) (by omega) 1 (.int .i64 3)).far (g:=b0) (by omega) 2 (.slice (some ⟨bS,0,none⟩) 3 3)).far (g:=b0) (by omega) 3 (.int .i64 6)).far (g:=b0) (by omega) 4 (.slice (some ⟨bP,0,none⟩) 2 2)).far (g:=b0) (by omega) 5 (.slice (some ⟨bT,0,none⟩) 3 3))
  replace K0:=((((((K0.set 0 (.int .i64 2)).set 1 (.int .i64 3)).set 2 (.slice (some ⟨bS,0,none⟩) 3 3)).set 3 (.int .i64 6)).set 4 (.slice (some ⟨bP,0,none⟩) 2 2)).set 5 (.slice (some ⟨bT,0,none⟩) 3 3));replace hb:=((((((hb.setCell (p:=⟨b0,0,none⟩) (by show w.heap.size≤b0;omega) (.int .i64 2)).setCell (p:=⟨b0,1,none⟩) (by show w.heap.size≤b0;omega) (.int .i64 3)).setCell (p:=⟨b0,2,none⟩) (by show w.heap.size≤b0;omega) (.slice (some ⟨bS,0,none⟩) 3 3)).setCell (p:=⟨b0,3,none⟩) (by show w.heap.size≤b0;omega) (.int .i64 6)).setCell (p:=⟨b0,4,none⟩) (by show w.heap.size≤b0;omega) (.slice (some ⟨bP,0,none⟩) 2 2)).setCell (p:=⟨b0,5,none⟩) (by show w.heap.size≤b0;omega) (.slice (some ⟨bT,0,none⟩) 3 3));refine od ?_;refine wp_ret ?_
  try simp only [Exit.then,Exit.inBlock]
  have hS:CZ _ exT ⟨some ⟨bS,0,none⟩,3,some ⟨bP,0,none⟩,2,some ⟨bT,0,none⟩,3⟩:=Zu KS KP KT;have c0:=K0.cell (o:=0) rfl;have c1:=K0.cell (o:=1) rfl;have c2:=K0.cell (o:=2) rfl;have c3:=K0.cell (o:=3) rfl;have c4:=K0.cell (o:=4) rfl;have c5:=K0.cell (o:=5) rfl;refine bodyPost_ret (v := .agg (EY exT ⟨some ⟨bS,0,none⟩,3,some ⟨bP,0,none⟩,2,some ⟨bT,0,none⟩,3⟩)) ?_ Z.defers ⟨hb,_,rfl,hS⟩;simp [results,Try.results58,Z.get 0 _ rfl,go_sem,c0,c1,c2,c3,c4,c5]
  first | done | rfl
theorem Ud:Try.f59.body=some (Code.seq (Aa Try.f59 0) (Code.seq (Aa Try.f59 1) Code.ret)):=by kernel_rfl
theorem LV {w:World}:Calls Try.prog 59 #[] w (fun e w'=>Below w.heap.size w w'∧∃ b,e = .returned (.slice (some ⟨b,0,none⟩) 4 4)∧w.heap.size≤b∧Fq w' (some ⟨b,0,none⟩) exL):=by
 refine Y4 Try.func59 Ud Try.ntmps59 ?_;intro a Z;refine wsr ?_;refine Z.s ?_;clear Z;intro a Z;refine od ?_;refine wsr ?_;(iterate 5 refine Z.s ?_;clear Z;intro a Z);refine Af (G:=fun W=>wpOps _ _ _ _ _ W) ?_;obtain ⟨b,hg⟩:∃ b,b=w.heap.size:=⟨_,rfl⟩;intro x hz KW hb;rw [← hg] at Z KW;have hbw:w.heap.size≤b:=by omega
 clear hz hg;refine Z.s ?_;clear Z;intro a Z;refine od ?_;refine wp_ret ?_
 try simp only [Exit.then,Exit.inBlock]
 have hP:Fq x (some ⟨b,0,none⟩) exL:=by
  refine .inr ⟨b,0,rfl,fun i hi =>?_⟩;have h3:i=0∨i=1∨i=2∨i=3:=by have:i < 4:=hi;omega
  rcases h3 with rfl | rfl | rfl | rfl
  ·exact ⟨KW.cell (o:=0) rfl,KW.cell (o:=1) rfl,KW.cell (o:=2) rfl⟩
  ·exact ⟨KW.cell (o:=3) rfl,KW.cell (o:=4) rfl,KW.cell (o:=5) rfl⟩
  ·exact ⟨KW.cell (o:=6) rfl,KW.cell (o:=7) rfl,KW.cell (o:=8) rfl⟩
  ·exact ⟨KW.cell (o:=9) rfl,KW.cell (o:=10) rfl,KW.cell (o:=11) rfl⟩
 refine bodyPost_ret (v := .slice (some ⟨b,0,none⟩) 4 4) ?_ Z.defers ⟨hb,b,rfl,hbw,hP⟩;simp [results,Try.results59,Z.get 0 _ rfl]
end
end Go.Proofs.Ytgdobbcjkiapkaa
