import Derived.Test.YtgdobbcjkiapkaaDv18
import Derived.Test.YtgdobbcjkiapkaaDv32
import Derived.Test.YtgdobbcjkiapkaaDv04
namespace Go.Proofs.Ytgdobbcjkiapkaa
set_option maxRecDepth 100000
set_option maxHeartbeats 4000000
set_option linter.unusedSimpArgs false
set_option linter.unusedVariables false
section
open Go Go.Conc
open Go.RowKit
section
variable {P:Program} {M:Machine} {ops:Array Oper} {Q:Exit→Act→World→Prop} {i:Nat} {rest:List Nat} {o:Oper} {a:Act} {w:World} {n d:Nat} {m:List (Nat×Value)} {v:Value}
theorem Ak {id:Nat} (h:Il Q):Il (Exit.inBlock id Q):=fun a w hx=>h a w hx
theorem Jd {fn:Func} {R:Ending→World→Prop} (h:∀ w,¬ R .outgrown w):Il (bodyPost P fn R):=fun _ w hx=>h w hx
theorem Sl.kX (h:Sl a n m) {K:Act→World→Prop} (hK:∀ a w,Jp P M ops Q rest a w→K a w) (hd:d < n) (hG:∀ a',Sl a' n ((d,v) :: m)→Jp P M ops Q rest a' w):K (a.put (some d) v) w:=hK _ _ (hG _ (h.put d v hd))
theorem Sl.goX (h:Sl a n m) (hd:d < n) (hG:∀ a',Sl a' n ((d,v) :: m)→Jp P M ops Q rest a' w):Jp P M ops Q rest (a.put (some d) v) w:=hG _ (h.put d v hd)
theorem IJ {fc:FuncId} {F:Func} {ars:Array Operand} {ats:Array TypeId} (ho:ops[i]? = some o) (hg:o.guard=none) (hop:o.op = .call { callee := .value (.func fc),args:=ars,argTypes:=ats })
  (hF:P.funcs[fc]? = some F) (hname:(F.name == "runtime.NumGoroutine")=false) (hbody:F.body.isNone=false) {args:Array Value} (ha:ars.map a.eval=args) {R:Ending→World→Prop} (hc:CW P M fc args w R)
  (h:∀ e w'',R e w''→∃ v,e = .returned v∧Jp P M ops Q rest (a.put o.dst v) w''):Jp P M ops Q (i :: rest) a w:=by
 have hr:=II (P:=P) (w:=w) (a:=a) hop rfl hF hname hbody;refine Wu ho hg (f:=fc) (args:=args) (w':=w) ?_ hc h;rw [hr,← ha];simp
theorem Kr (hP:Eo P) {f:Func} {k id:Nat} (hno:Il Q) (e:Aa f k=Code.region id ops false) (h:Jp P M ops Q (List.range ops.size) a w):wpX P M (Aa f k) Q a w:=by
 rw [e];exact Kq hP hno h
end
theorem ZR {t:Af} {l:List Am} {qs:List ((Int×Int)×Int)} (hq:∀ key,(atK qs key).getD 0=Ap l key) (o i:Nat):atV t.Ac t.Ah qs o i=atL t l o i:=by unfold atV atL;rw [hq]
theorem QO {t:Af} {l:List Am} {qs:List ((Int×Int)×Int)} (hq:∀ key,(atK qs key).getD 0=Ap l key) (o:Nat):VE t.Ac t.Ah qs o=Fe t l o:=by
 unfold VE Fe Jr;rw [show atV t.Ac t.Ah qs o=atL t l o from funext fun i=>ZR hq o i]
def Tv (t:Af) (l:List Am) (o i:Nat):Int:=ofV 0 false (Ap l ((i:Int),(o:Int))) (t.Ah.getD i default).rate
def IG (t:Af) (l:List Am) (o:Nat):Int:=EE (FM (Tv t l o) t.Ah.length)-Fe t l o
theorem Pi {t:Af} {l:List Am} {qs:List ((Int×Int)×Int)} (hq:∀ key,(atK qs key).getD 0=Ap l key) (o:Nat):Lp t.Ac t.Ah qs o=IG t l o:=by
 unfold Lp IG;rw [QO hq,show Gj t.Ah qs o=Tv t l o from funext fun i=>by unfold Gj Tv;rw [hq]]
theorem Hm.c {w:World} {bd mb:Nat} {t:Af} {s:Eg} {l:List Am} (hT:Dc w t s) (hD:Hm w bd mb t s l) (ho:BZ t l=0) :
  ∃ q pb po pc tb to_ tc clock ents,Iy w.heap.size w bd t.Ac t.Ah q pb po pc tb to_ tc mb clock ents∧∀ key,(atK q key).getD 0=Ap l key:=by
 have hck:=JA ho;have hF:=ES.of hck (DX ho).1 (DX ho).2;obtain ⟨_,_,_,hp1,_⟩:=BG hck;obtain ⟨qs,hm,hq⟩:=hD.map;have d4:=hD.kd.cell (o:=4) rfl;have d5:=hD.kd.cell (o:=5) rfl;have d6:=hD.kd.cell (o:=6) rfl
 change w.cell? _=some (.slice s.pa t.Ac.length s.pc) at d4
 change w.cell? _=some (.slice s.ta t.Ah.length s.tc) at d5
 change w.cell? _=some (.map (some mb)) at d6
 obtain ⟨pb,po,hpa,_,_,_⟩:=hT.Ac.at (i:=0) (by omega)
 have hpay:∀ (o:Nat) (h:o < t.Ac.length),w.cell? ⟨pb,po+o*3,none⟩=some (.int .i64 t.Ac[o].heads)∧w.cell? ⟨pb,po+o*3+1,none⟩=some (.int .i64 t.Ac[o].free)∧w.cell? ⟨pb,po+o*3+2,none⟩=some (.bool t.Ac[o].half):=fun o h=>by
  obtain ⟨b',o',e,h1,h2,h3⟩:=hT.Ac.at h;rw [hpa] at e;simp only [Option.some.injEq,Addr.mk.injEq,and_true] at e;obtain ⟨rfl,rfl⟩:=e;exact ⟨h1,h2,h3⟩
 have lpb:pb < w.heap.size:=lt_of_cell (hpay 0 (by omega)).1
 obtain ⟨tb,to_,htb,hta,htl⟩:∃ tb to_,tb < w.heap.size∧(t.Ah≠[]→s.ta=some ⟨tb,to_,none⟩)∧∀ (i:Nat) (h:i < t.Ah.length),w.cell? ⟨tb,to_+i*3+1,none⟩=some (.int .i64 t.Ah[i].rate):=by
  rcases hT.Ah with h | ⟨b,o,ha,h⟩
  ·exact ⟨pb,0,lpb,fun hne=>absurd h hne,fun i hi=>by rw [h] at hi;simp at hi⟩
  ·by_cases hz:0 < t.Ah.length
   ·exact ⟨b,o,lt_of_cell (h 0 hz).1,fun _=>ha,fun i hi=>(h i hi).2.1⟩
   ·exact ⟨pb,0,lpb,fun hne=>absurd (List.length_pos_iff.2 hne) hz,fun i hi=>absurd (by omega) hz⟩
 rw [hpa] at d4;exact ⟨qs,pb,po,s.pc,tb,to_,s.tc,_,_,⟨lt_of_cell d4,lpb,htb,hm.lt,d4,⟨s.ta,d5,hta⟩,d6,fun o h=>(hpay o h).1,fun o h=>(hpay o h).2.1,fun o h=>(hpay o h).2.2,htl,hm,PL qs,hF.pf,hF.rt,fun k=>by rw [hq];exact hF.ps k⟩,hq⟩
end
section
open Go Go.Conc
open Go.RowKit
def Ep (w0:World) (L:List Int) (err:Int) (e:Ending) (w':World):Prop :=
 Below w0.heap.size w0 w'∧(err≠0→e = .returned (.tuple #[.slice none 0 0, .int .i64 err]))∧(err=0→∃ g,e = .returned (.tuple #[.slice (some ⟨g,0,none⟩) L.length L.length, .int .i64 0])∧w0.heap.size≤g∧Rw w' g (Ib L) 3)
theorem Ep.no {w0:World} {L:List Int} {err:Int} (w':World):¬ Ep w0 L err .outgrown w':=fun h=>by
 rcases Classical.em (err=0) with e | e
 ·obtain ⟨g,hx,_⟩:=h.2.2 e;cases hx
 ·cases h.2.1 e
def DY (f:Nat→Int) (n:Nat):List Int:=(List.range n).map f
theorem Ee (f:Nat→Int) (n:Nat):(DY f n).length=n:=by simp [DY]
theorem Aa9 {row:Array Value} {n:Nat} {f g:Nat→Int} (hs:row.size=n) (h:∀ i,i < n→row[i]? = some (.int .i64 (g i))) (hfg:∀ i,g i=f i):row=Ib (DY f n):=by
 apply Array.ext
 ·simp [Ib,DY,hs]
 ·intro i h1 h2;have:=h i (by omega);rw [Array.getElem?_eq_getElem h1,hfg] at this;rw [Option.some.inj this];simp [Ib,DY]
theorem Ui:Try.f30.body=some (Code.seq (Aa Try.f30 0) (Code.seq (Aa Try.f30 1) (Code.seq (Code.seq (Aa Try.f30 2) (Code.cond (Operand.tmp 15) (Code.seq (Aa Try.f30 3) Code.ret) Code.skip)) (Code.seq (Aa Try.f30 4) Code.ret)))):=by kernel_rfl
theorem TP {M:Machine} {t:Af} {s:Eg} {l:List Am} {la:Option Addr} {lc:Nat} {w:World} (ht:Dc w t s) (hl:DJ w la l) (hlm:l.length≤maxLen):CW Try.prog M 30 #[.agg (EI t s), .slice la l.length lc] w (Ep w (DY (Fe t l) t.Ac.length) (BZ t l)):=by
 have hno:Il (bodyPost Try.prog Try.f30 (Ep w (DY (Fe t l) t.Ac.length) (BZ t l))):=Jd Ep.no;refine FQ DD Try.func30 Ui ?_ Ep.no;have Z:Sl (⟨#[.agg (EI t s), .slice la l.length lc]++Array.replicate (Try.f30.ntmps-(#[.agg (EI t s), .slice la l.length lc]:Array Value).size) undef,[]⟩:Act) 21 [(0, .agg (EI t s)),(1, .slice la l.length lc)]:=by rw [Try.ntmps30];exact Sl.TL _ _ (by omega)
 revert Z;generalize (Act.mk _ _)=a;intro Z;refine BC DD ?_;refine wpX.of DD ?_ (by repeat (first | assumption | apply Ar | apply Ak));refine wr ?_;refine Z.s ?_;clear Z;intro a Z;refine Ad (G:=fun W=>wpOps _ _ _ _ _ W) ?_;intro x hz X hb;have hI:=TI.made (Below.refl _ _) ht X hb;obtain ⟨bt,hbt⟩:∃ b,b=w.heap.size:=⟨_,rfl⟩;rw [← hbt] at Z hI;clear hz X hb hbt;(iterate 2 refine Z.s ?_;clear Z;intro a Z);refine od ?_;refine BC DD ?_;refine wpX.of DD ?_ (by repeat (first | assumption | apply Ar | apply Ak));refine wr ?_;refine og fun K hK =>?_
 have e2:=Z.g 2;have c0:=hI.c0;have c1:=hI.c1;have c2:=hI.c2;have c3:=hI.c3;have c4:=hI.c4;have c5:=hI.c5;unfold Oper.wp;go_simp;clear e2;refine Z.K hK ?_;clear Z hK;intro a Z;refine Z.s ?_;clear Z;intro a Z;refine og fun K hK =>?_
 have e9:=Z.g 9;have e10:=Z.g 10;unfold Oper.wp;go_simp;refine (MG hI.tar (hl.below hI.below) hlm).mono ?_;rintro e x2 ⟨hb2,hN,hS⟩;have hxx:=hI.below.size;replace hI:=hI.keep hb2;clear e9 e10
 by_cases h1:BZ t l=0
 ·obtain ⟨bd,mb,rfl,hbd,hmb,hD⟩:=hS h1;have HE:=Lib.hid h1;have hne:=CP h1;clear hS hN hb2 hxx h1;refine Z.K hK ?_;clear Z hK;intro a Z;obtain ⟨x,hx2⟩:∃ x,x=x2:=⟨_,rfl⟩;rw [← hx2] at hI ⊢ hD;clear hx2;(iterate 5 refine Z.s ?_;clear Z;intro a Z);refine od ?_;refine BC DD ?_;refine wpX.of DD ?_ (by repeat (first | assumption | apply Ar | apply Ak));refine wsr ?_;(iterate 2 refine Z.s ?_;clear Z;intro a Z);refine od ?_;refine wp_cond_false (Z.ev 15 rfl) ?_;refine wp_skip ?_;refine BC DD ?_;rw [show Aa Try.f30 4=Code.region 4 _ false from rfl];refine Kq DD (by repeat (first | assumption | apply Ar | apply Ak)) ?_;refine AO rfl rfl (fun K hK =>?_);have e6:=Z.g 6;unfold Oper.wp;go_simp;clear e6;refine Z.kX hK (by decide) ?_;clear Z hK;intro a Z;refine AO rfl rfl (fun K hK =>?_);have e6:=Z.g 6;unfold Oper.wp;go_simp;clear e6;refine Z.kX hK (by decide) ?_;clear Z hK;intro a Z;refine AO rfl rfl (fun K hK =>?_);have e18:=Z.g 18;unfold Oper.wp;go_simp;clear e18;refine Z.kX hK (by decide) ?_;clear Z hK;intro a Z;have e17:=Z.g 17;have e19:=Z.g 19;obtain ⟨qs,pb,po,pc,tb,to_,tc,clock,ents,hDC,hq⟩:=Hm.c hI.tar hD HE.out;have hFL:=ES.of (JA HE.out) (DX HE.out).1 (DX HE.out).2
  refine IJ rfl rfl rfl Try.func78 (by kernel_rfl) (by kernel_rfl) (args:=#[.pointer (some ⟨bd,0,none⟩), .func (.func 79) #[.pointer (some ⟨bd,0,none⟩)] #[]]) (by simp [Act.eval,Array.getD_eq_getD_getElem?,e17,e19]) (Yz hDC hFL.nt hFL.np) ?_;clear e17 e19;rintro e x2 ⟨g,row,rfl,hb,hg,hrow,hrs,hri⟩;have hxx:=hI.below.size;have hG:Rw x2 g (Ib (DY (Fe t l) t.Ac.length)) 3:=by have:=Aa9 hrs hri (fun i=>QO hq i);rw [this] at hrow;exact hrow
  replace hI:=hI.keep hb;have hgw:w.heap.size≤g:=Nat.le_trans hxx hg;clear hrow hrs hri hb hD hDC hq hxx hg;obtain ⟨x,hx2⟩:∃ x,x=x2:=⟨_,rfl⟩;rw [← hx2] at hI hG ⊢;clear hx2;refine ⟨_,rfl,?_⟩;refine Z.goX (by decide) ?_;clear Z;intro a Z;refine AO rfl rfl (fun K hK =>?_);have e20:=Z.g 20;unfold Oper.wp;go_simp;clear e20;refine Z.kX hK (by decide) ?_;clear Z hK;intro a Z;refine AO rfl rfl (fun K hK =>?_);unfold Oper.wp;go_simp;refine Z.kX hK (by decide) ?_;clear Z hK;intro a Z;refine Fp ?_;refine wpX.of DD ?_ (by repeat (first | assumption | apply Ar | apply Ak));refine wp_ret ?_
  try simp only [Exit.then,Exit.inBlock]
  refine bodyPost_ret (v := .tuple #[.slice (some ⟨g,0,none⟩) t.Ac.length t.Ac.length, .int .i64 0]) ?_ Z.defers ⟨hI.below,fun h=>absurd HE.out h,fun _=>⟨g,by rw [Ee],hgw,hG⟩⟩;simp [results,Try.results30,Z.get 4 _ rfl,Z.get 5 _ rfl]
 ·obtain rfl:=hN h1;have HE:=Lib.hid h1;have hne:=Du h1;clear hS hN hb2 hxx h1;refine Z.K hK ?_;clear Z hK;intro a Z;obtain ⟨x,hx2⟩:∃ x,x=x2:=⟨_,rfl⟩;rw [← hx2] at hI ⊢;clear hx2;(iterate 5 refine Z.s ?_;clear Z;intro a Z);refine od ?_;refine BC DD ?_;refine wpX.of DD ?_ (by repeat (first | assumption | apply Ar | apply Ak));refine wsr ?_;(iterate 2 refine Z.s ?_;clear Z;intro a Z);refine od ?_;refine wp_cond_true (Z.ev 15 rfl) ?_;refine wsr ?_;(iterate 3 refine Z.s ?_;clear Z;intro a Z);refine od ?_;refine wp_ret ?_
  try simp only [Exit.then,Exit.inBlock]
  refine bodyPost_ret (v := .tuple #[.slice none 0 0, .int .i64 (BZ t l)]) ?_ Z.defers ⟨hI.below,fun _=>rfl,fun h=>absurd h HE.out⟩;simp [results,Try.results30,Z.get 4 _ rfl,Z.get 5 _ rfl]
theorem P9:Try.f43.body=some (Code.seq (Aa Try.f43 0) (Code.seq (Aa Try.f43 1) (Code.seq (Code.seq (Aa Try.f43 2) (Code.cond (Operand.tmp 15) (Code.seq (Aa Try.f43 3) Code.ret) Code.skip)) (Code.seq (Aa Try.f43 4) Code.ret)))):=by kernel_rfl
theorem Uw {M:Machine} {t:Af} {s:Eg} {l:List Am} {la:Option Addr} {lc:Nat} {w:World} (ht:Dc w t s) (hl:DJ w la l) (hlm:l.length≤maxLen):CW Try.prog M 43 #[.agg (EI t s), .slice la l.length lc] w (Ep w (DY (IG t l) t.Ac.length) (BZ t l)):=by
 have hno:Il (bodyPost Try.prog Try.f43 (Ep w (DY (IG t l) t.Ac.length) (BZ t l))):=Jd Ep.no;refine FQ DD Try.func43 P9 ?_ Ep.no;have Z:Sl (⟨#[.agg (EI t s), .slice la l.length lc]++Array.replicate (Try.f43.ntmps-(#[.agg (EI t s), .slice la l.length lc]:Array Value).size) undef,[]⟩:Act) 20 [(0, .agg (EI t s)),(1, .slice la l.length lc)]:=by rw [Try.ntmps43];exact Sl.TL _ _ (by omega)
 revert Z;generalize (Act.mk _ _)=a;intro Z;refine BC DD ?_;refine wpX.of DD ?_ (by repeat (first | assumption | apply Ar | apply Ak));refine wr ?_;refine Z.s ?_;clear Z;intro a Z;refine Ad (G:=fun W=>wpOps _ _ _ _ _ W) ?_;intro x hz X hb;have hI:=TI.made (Below.refl _ _) ht X hb;obtain ⟨bt,hbt⟩:∃ b,b=w.heap.size:=⟨_,rfl⟩;rw [← hbt] at Z hI;clear hz X hb hbt;(iterate 2 refine Z.s ?_;clear Z;intro a Z);refine od ?_;refine BC DD ?_;refine wpX.of DD ?_ (by repeat (first | assumption | apply Ar | apply Ak));refine wr ?_;refine og fun K hK =>?_
 have e2:=Z.g 2;have c0:=hI.c0;have c1:=hI.c1;have c2:=hI.c2;have c3:=hI.c3;have c4:=hI.c4;have c5:=hI.c5;unfold Oper.wp;go_simp;clear e2;refine Z.K hK ?_;clear Z hK;intro a Z;refine Z.s ?_;clear Z;intro a Z;refine og fun K hK =>?_
 have e9:=Z.g 9;have e10:=Z.g 10;unfold Oper.wp;go_simp;refine (MG hI.tar (hl.below hI.below) hlm).mono ?_;rintro e x2 ⟨hb2,hN,hS⟩;have hxx:=hI.below.size;replace hI:=hI.keep hb2;clear e9 e10
 by_cases h1:BZ t l=0
 ·obtain ⟨bd,mb,rfl,hbd,hmb,hD⟩:=hS h1;have HE:=Lib.hid h1;have hne:=CP h1;clear hS hN hb2 hxx h1;refine Z.K hK ?_;clear Z hK;intro a Z;obtain ⟨x,hx2⟩:∃ x,x=x2:=⟨_,rfl⟩;rw [← hx2] at hI ⊢ hD;clear hx2;(iterate 3 refine Z.s ?_;clear Z;intro a Z);refine og fun K hK =>?_
  obtain ⟨vb,hg⟩:∃ b,b=x.heap.size:=⟨_,rfl⟩;unfold Oper.wp;go_simp;refine Z.K hK ?_;clear Z hK;intro a Z;refine og fun K hK =>?_
  have e6:=Z.g 6;have e12:=Z.g 12;unfold Oper.wp;go_simp;clear e6 e12;refine hK _ _ ?_;clear hK;refine Ad (G:=fun W=>wpOps _ _ _ _ _ W) ?_;intro x hz KP hb;rw [← hg] at Z KP;replace hI:=hI.keep hb;replace hD:=hD.below hb;clear hz hb hg;refine Z.s ?_;clear Z;intro a Z;refine od ?_;refine BC DD ?_;refine wpX.of DD ?_ (by repeat (first | assumption | apply Ar | apply Ak));refine wsr ?_;(iterate 2 refine Z.s ?_;clear Z;intro a Z);refine od ?_;refine wp_cond_false (Z.ev 15 rfl) ?_;refine wp_skip ?_;refine BC DD ?_;rw [show Aa Try.f43 4=Code.region 4 _ false from rfl];refine Kq DD (by repeat (first | assumption | apply Ar | apply Ak)) ?_;refine AO rfl rfl (fun K hK =>?_);have e6:=Z.g 6;have c:=KP.cell (o:=0) rfl;unfold Oper.wp;go_simp;clear e6;refine Z.kX hK (by decide) ?_;clear Z hK;intro a Z;refine AO rfl rfl (fun K hK =>?_);have e6:=Z.g 6;unfold Oper.wp;go_simp;clear e6;refine Z.kX hK (by decide) ?_;clear Z hK;intro a Z;have e17:=Z.g 17;have e18:=Z.g 18;obtain ⟨qs,pb,po,pc,tb,to_,tc,clock,ents,hDC,hq⟩:=Hm.c hI.tar hD HE.out;have hFL:=ES.of (JA HE.out) (DX HE.out).1 (DX HE.out).2
  refine IJ rfl rfl rfl Try.func78 (by kernel_rfl) (by kernel_rfl) (args:=#[.pointer (some ⟨bd,0,none⟩), .func (.func 91) #[] #[.pointer (some ⟨vb,0,none⟩)]]) (by simp [Act.eval,Array.getD_eq_getD_getElem?,e17,e18]) (Vd hDC KP.lt (KP.cell (o:=0) rfl) hFL.nt hFL.np) ?_;clear e17 e18;rintro e x2 ⟨g,row,rfl,hb,hg,hrow,hrs,hri⟩;have hxx:=hI.below.size;have hG:Rw x2 g (Ib (DY (IG t l) t.Ac.length)) 3:=by have:=Aa9 hrs hri (fun i=>Pi hq i);rw [this] at hrow;exact hrow
  replace hI:=hI.keep hb;have hgw:w.heap.size≤g:=Nat.le_trans hxx hg;clear hrow hrs hri hb hD hDC hq hxx hg KP;obtain ⟨x,hx2⟩:∃ x,x=x2:=⟨_,rfl⟩;rw [← hx2] at hI hG ⊢;clear hx2;refine ⟨_,rfl,?_⟩;refine Z.goX (by decide) ?_;clear Z;intro a Z;refine AO rfl rfl (fun K hK =>?_);have e19:=Z.g 19;unfold Oper.wp;go_simp;clear e19;refine Z.kX hK (by decide) ?_;clear Z hK;intro a Z;refine AO rfl rfl (fun K hK =>?_);unfold Oper.wp;go_simp;refine Z.kX hK (by decide) ?_;clear Z hK;intro a Z;refine Fp ?_;refine wpX.of DD ?_ (by repeat (first | assumption | apply Ar | apply Ak));refine wp_ret ?_
  try simp only [Exit.then,Exit.inBlock]
  refine bodyPost_ret (v := .tuple #[.slice (some ⟨g,0,none⟩) t.Ac.length t.Ac.length, .int .i64 0]) ?_ Z.defers ⟨hI.below,fun h=>absurd HE.out h,fun _=>⟨g,by rw [Ee],hgw,hG⟩⟩;simp [results,Try.results43,Z.get 4 _ rfl,Z.get 5 _ rfl]
 ·obtain rfl:=hN h1;have HE:=Lib.hid h1;have hne:=Du h1;clear hS hN hb2 hxx h1;refine Z.K hK ?_;clear Z hK;intro a Z;obtain ⟨x,hx2⟩:∃ x,x=x2:=⟨_,rfl⟩;rw [← hx2] at hI ⊢;clear hx2;(iterate 3 refine Z.s ?_;clear Z;intro a Z);refine og fun K hK =>?_
  obtain ⟨vb,hg⟩:∃ b,b=x.heap.size:=⟨_,rfl⟩;unfold Oper.wp;go_simp;refine Z.K hK ?_;clear Z hK;intro a Z;refine og fun K hK =>?_
  have e6:=Z.g 6;have e12:=Z.g 12;unfold Oper.wp;go_simp;clear e6 e12;refine hK _ _ ?_;clear hK;refine Ad (G:=fun W=>wpOps _ _ _ _ _ W) ?_;intro x hz KP hb;rw [← hg] at Z KP;replace hI:=hI.keep hb;clear hz hb hg;refine Z.s ?_;clear Z;intro a Z;refine od ?_;refine BC DD ?_;refine wpX.of DD ?_ (by repeat (first | assumption | apply Ar | apply Ak));refine wsr ?_;(iterate 2 refine Z.s ?_;clear Z;intro a Z);refine od ?_;refine wp_cond_true (Z.ev 15 rfl) ?_;refine wsr ?_;(iterate 3 refine Z.s ?_;clear Z;intro a Z);refine od ?_;refine wp_ret ?_
  try simp only [Exit.then,Exit.inBlock]
  refine bodyPost_ret (v := .tuple #[.slice none 0 0, .int .i64 (BZ t l)]) ?_ Z.defers ⟨hI.below,fun _=>rfl,fun h=>absurd h HE.out⟩;simp [results,Try.results43,Z.get 4 _ rfl,Z.get 5 _ rfl]
end
end Go.Proofs.Ytgdobbcjkiapkaa
