import Derived.Test.YtgdobbcjkiapkaaSv14
import Derived.Test.YtgdobbcjkiapkaaSv04
import Derived.Test.YtgdobbcjkiapkaaSv18
import Derived.Test.YtgdobbcjkiapkaaSv01
namespace Go.Proofs.Ytgdobbcjkiapkaa
set_option maxRecDepth 100000
set_option maxHeartbeats 4000000
set_option linter.unusedSimpArgs false
set_option linter.unusedVariables false
section
open Go Go.Conc
open Go.RowKit
theorem WU:(fun r=>Try.f93.body=some (.seq (r 0) (.seq (r 1) (.seq (.seq (r 2) (.block 0 (.loop (.seq (r 3) (.seq (.cond (.tmp 11) .skip (.exit 0)) (.seq (.block 1 (.seq (r 4) (r 5))) (r 6))))))) (.seq (r 7) .ret))))) (Ac Try.f93):=by show _=_;kernel_rfl
def Aa5 (ps:List A8) (ts:List BA) (q:List ((Int×Int)×Int)) (o:Nat):Int:=Dy (fun i=>A7 (atV ps ts q o i)) ts.length
theorem AbY:∃ m,∀ (B N c:Nat),B≤N→B≤c→∀ (w:World) (bd vb vt o:Nat) (ps:List A8) (ts:List BA) (q:List ((Int×Int)×Int)) (pb po pc tb to_ tc mb clock:Nat) (ents:Array MapEntry) (sa:Option Addr) (sc:Nat),B≤w.heap.size→Gq B w bd ps ts q pb po pc tb to_ tc mb clock ents→vb<B→vt<B→w.cell? ⟨vb,0,none⟩=some (.pointer (some ⟨bd,0,none⟩))→w.cell? ⟨vt,5,none⟩=some (.slice sa ts.length sc)→o<ps.length→ts.length≤1000 →
  CallsC Try.prog false (Az Aw c N) (Be Aw c N) 93 #[.int .i64 (o:Int),.pointer (some ⟨vt,0,none⟩),.pointer (some ⟨vb,0,none⟩)] m w (fun v w'=>v=.int .i64 (Aa5 ps ts q o)∧Az Aw c N w w'):=by
 obtain⟨mc,hcoins⟩:=TQ;obtain⟨ma,hat⟩:=Ach;refine⟨(3+(3+((6+(((1000+1)*((3+(2+((4+(3+mc+3+ma+3+1+1+1+1+1)+1+2)+4+1)+1)+1)+1)+1)+2)+1)+6+1)+1)+1),fun B N c hBN hBc w bd vb vt o ps ts q pb po pc tb to_ tc mb clock ents sa sc hBw hD hvb hvt hv hvs ho ht=>callsC_of_wpC Try.func93 (by kernel_rfl) WU ?_⟩;have Z:Sl (⟨#[.int .i64 (o:Int),.pointer (some ⟨vt,0,none⟩),.pointer (some ⟨vb,0,none⟩)]++Array.replicate (Try.f93.ntmps-(#[.int .i64 (o:Int),.pointer (some ⟨vt,0,none⟩),.pointer (some ⟨vb,0,none⟩)]:Array Value).size) undef,[]⟩:Act) 22 [(0,.int .i64 (o:Int)),(1,.pointer (some ⟨vt,0,none⟩)),(2,.pointer (some ⟨vb,0,none⟩))]:=by rw[Try.ntmps93];exact Sl.NK _ _ _ (by omega)
 revert Z;generalize (Act.mk _ _)=a;intro Z;have hab:=fun k=>(LW hD ho k).1
 have hcb:∀ k,0≤A7 (atV ps ts q o k)∧A7 (atV ps ts q o k)≤200000000000:=fun k=>by
  have:=hab k;unfold A7
  omega
 have hcall:∀ w₁ j,Az Aw c N w w₁→j<ts.length→CallsC Try.prog false (Az Aw c N) (Be Aw c N) 80 #[.pointer (some ⟨bd,0,none⟩),.int .i64 (o:Int),.int .i64 (j:Int)] ma w₁ (fun v w'=>v=.int .i64 (atV ps ts q o j)∧Az Aw c N w₁ w'):=fun w₁ j hr hj=>by
  have hb1:Below B w w₁:=hr.below hBN hBw hBc;have hD1:=hD.keep hb1;have:=hat B N c hBN hBc w₁ bd pb po ps.length pc tb to_ ts.length tc mb clock j o ents q ps[o].heads ps[o].free ts[j].rate ps[o].half (Nat.le_trans hBw hb1.size) hD1.lb hD1.lp hD1.lt hD1.lm hD1.c4 (hD1.at5 hj) hD1.c6 (hD1.p0 o ho) (hD1.p1 o ho) (hD1.p2 o ho) (hD1.t1 j hj) hD1.map hD1.ents hj ho (hD1.free0 _ (List.getElem_mem ho)).1 (hD1.free0 _ (List.getElem_mem ho)).2 (hD1.heads0 _).1 (hD1.heads0 _).2 (hD1.rate0 _ (List.getElem_mem hj)).1 (hD1.rate0 _ (List.getElem_mem hj)).2
  have e:atV ps ts q o j=ofV ps[o].free ps[o].half ((atK q ((j:Int),(o:Int))).getD 0) ts[j].rate:=by
   unfold atV;rw[List.getD_eq_getElem?_getD,List.getElem?_eq_getElem ho,List.getD_eq_getElem?_getD,List.getElem?_eq_getElem hj];rfl
  rw[e];exact this
 have hC:=fun w1 k=>hcoins N c w1 (atV ps ts q o k) (hab k).1 (by have:=hab k;omega)
 unfold Aa5;obtain⟨f,hf⟩:∃ f,f=fun i=>A7 (atV ps ts q o i):=⟨_,rfl⟩
 have hfk:∀ k,A7 (atV ps ts q o k)=f k:=fun k=>by rw[hf]
 simp only[hfk]at hcb hC;rw[← hf];have hSb:=CV hcb;clear hcoins hat hab hD hf;refine wpC_seq (n₁:=3) (n₂:=3+((6+(((1000+1)*((3+(2+((4+(3+mc+3+ma+3+1+1+1+1+1)+1+2)+4+1)+1)+1)+1)+1)+2)+1)+6+1)+1) Ah ?_;rw[show Ac Try.f93 0=Code.region 0 _ false from rfl];refine wpC_region Ah ?_;simp only[List.size_toArray,List.length_cons,List.length_nil,Nat.reduceAdd,Nat.zero_add,List.range,List.range.loop]
 co_apply Ai Ah (.int .i64 0) rfl (by rfl)
 ·exact fun _ _=>(by exact oq)
 refine Z.goC (by decide) ?_;clear Z;intro a Z;refine opsC_nil Ah ?_;refine wpC_seq (n₁:=3) (n₂:=((6+(((1000+1)*((3+(2+((4+(3+mc+3+ma+3+1+1+1+1+1)+1+2)+4+1)+1)+1)+1)+1)+2)+1)+6+1)) Ah ?_;rw[show Ac Try.f93 1=Code.region 1 _ false from rfl];refine wpC_region Ah ?_;simp only[List.size_toArray,List.length_cons,List.length_nil,Nat.reduceAdd,Nat.zero_add,List.range,List.range.loop]
 co_apply Ai Ah (.int .i64 0) rfl (by rfl)
 ·exact fun _ _=>(by exact oq)
 refine Z.goC (by decide) ?_;clear Z;intro a Z;refine opsC_nil Ah ?_;refine wpC_seq (n₁:=6+(((1000+1)*((3+(2+((4+(3+mc+3+ma+3+1+1+1+1+1)+1+2)+4+1)+1)+1)+1)+1)+2)+1) (n₂:=6) Ah ?_;refine wpC_seq (n₁:=6) (n₂:=((1000+1)*((3+(2+((4+(3+mc+3+ma+3+1+1+1+1+1)+1+2)+4+1)+1)+1)+1)+1)+2) Ah ?_;rw[show Ac Try.f93 2=Code.region 2 _ false from rfl];refine wpC_region Ah ?_;simp only[List.size_toArray,List.length_cons,List.length_nil,Nat.reduceAdd,Nat.zero_add,List.range,List.range.loop]
 co_apply Ai Ah (.pointer (some ⟨vt,5,none⟩)) rfl (by rfl)
 ·exact fun _ _=>(by have e1:=Z.g 1;exact oq)
 refine Z.goC (by decide) ?_;clear Z;intro a Z
 co_apply Ai Ah (.slice sa ts.length sc) rfl (by rfl)
 ·
  intro w₂ h₂;have e7:=Z.g 7;have hbl2:Below B w w₂:=h₂.below hBN hBw hBc;have hc:=(hbl2.cell (p:=⟨vt,5,none⟩) hvt).trans hvs;have hrd:=BZ (Safe:=Aw) (c:=c) (N:=N) (w:=w₂) (b:=vt) (o:=5) (Nat.lt_of_lt_of_le (Nat.lt_of_lt_of_le hvt hBw) h₂.size) (.inl ⟨by omega,by omega⟩);clear hbl2;refine⟨run_eq_of (fun Kk hKk=>?_),Be.still ?_⟩
  ·go_simp;exact hKk
  ·co_evs (exact hrd)
 refine Z.goC (by decide) fun a' Z'=>?_
 clear Z;revert Z';generalize a'=a;intro Z
 co_apply Ai Ah (.int .i64 (ts.length:Int)) rfl (by rfl)
 ·exact fun _ _=>(by have e8:=Z.g 8;exact oq)
 refine Z.goC (by decide) ?_;clear Z;intro a Z
 co_apply Ai Ah (.int .i64 0) rfl (by rfl)
 ·exact fun _ _=>(by exact oq)
 refine Z.goC (by decide) ?_;clear Z;intro a Z;refine opsC_nil Ah ?_;replace Z:Sl a 22 [(10,.int .i64 ((0:Nat):Int)),(9,.int .i64 (ts.length:Int)),(5,.int .i64 (Dy f 0)),(0,.int .i64 (o:Int)),(2,.pointer (some ⟨vb,0,none⟩))]:=Z.sb;refine wpC_block Ah ?_;refine wpC_loop Ah (fun a w'=>∃ k:Nat,k≤ts.length∧Sl a 22 [(10,.int .i64 (k:Int)),(9,.int .i64 (ts.length:Int)),(5,.int .i64 (Dy f k)),(0,.int .i64 (o:Int)),(2,.pointer (some ⟨vb,0,none⟩))]∧Az Aw c N w w') (fun a _=>ts.length-(intOf (a.eval (.tmp 10))).toNat) (3+(2+((4+(3+mc+3+ma+3+1+1+1+1+1)+1+2)+4+1)+1)+1) 1000 ⟨0,by omega,Z,Az.refl _⟩ (by omega) ?_;clear Z;rintro a w' ⟨k,hk,Z,hrel⟩;have hmu:ts.length-(intOf (a.eval (.tmp 10))).toNat=ts.length-k:=by rw[Z.ev 10 rfl];simp[intOf]
 rw[hmu];clear hmu;have hB':=(hrel.below hBN hBw hBc);have hv':=(hB'.cell (p:=⟨vb,0,none⟩) hvb).trans hv;have hBw':=Nat.le_trans hBw hB'.size;clear hB';refine wpC_seq (n₁:=3) (n₂:=2+((4+(3+mc+3+ma+3+1+1+1+1+1)+1+2)+4+1)+1) Ah ?_;rw[show Ac Try.f93 3=Code.region 3 _ false from rfl];refine wpC_region Ah ?_;simp only[List.size_toArray,List.length_cons,List.length_nil,Nat.reduceAdd,Nat.zero_add,List.range,List.range.loop]
 co_apply Ai Ah (.bool (decide (k<ts.length))) rfl (by rfl)
 ·
  refine fun w₁ hgr=>⟨run_eq_of (fun Kk hKk=>?_),?_⟩
  ·
   have e10:=Z.g 10;have e9:=Z.g 9;have hdec:decide ((k:Int)<(ts.length:Int))=decide (k<ts.length):=by simp
   go_simp;exact hKk
  ·
   have e10:=Z.g 10;have e9:=Z.g 9;have hdec:decide ((k:Int)<(ts.length:Int))=decide (k<ts.length):=by simp
   rw[listed_nil (by simp[go_sem, *])];exact Be.idle _
 refine Z.goC (by decide) fun a' Z'=>?_
 clear Z;revert Z';generalize a'=a;intro Z;refine opsC_nil Ah ?_;refine wpC_seq (n₁:=2) (n₂:=((4+(3+mc+3+ma+3+1+1+1+1+1)+1+2)+4+1)) Ah ?_
 by_cases hkn:k<ts.length
 rotate_left
 ·have e11:=Z.ev 11 rfl;rw[decide_eq_false hkn]at e11;refine wpC_cond Ah e11 (n:=1) (wpC_exit Ah ?_);simp only[xt,↓reduceIte,Nat.reduceEqDiff];obtain rfl:k=ts.length:=by omega
  refine wpC_seq (n₁:=4) (n₂:=1) Ah ?_;rw[show Ac Try.f93 7=Code.region 7 _ false from rfl];refine wpC_region Ah ?_;simp only[List.size_toArray,List.length_cons,List.length_nil,Nat.reduceAdd,Nat.zero_add,List.range,List.range.loop]
  co_apply Ai Ah (.int .i64 (Dy f ts.length)) rfl (by rfl)
  ·exact fun _ _=>(by have e5:=Z.g 5;exact oq)
  refine Z.goC (by decide) ?_;clear Z;intro a Z
  co_apply Ai Ah (.int .i64 (Dy f ts.length)) rfl (by rfl)
  ·exact fun _ _=>(by have e21:=Z.g 21;exact oq)
  refine Z.goC (by decide) ?_;clear Z;intro a Z;refine opsC_nil Ah ?_;refine wpC_ret Ah ?_
  try simp only[xt,↓reduceIte,Nat.reduceEqDiff]
  refine⟨Z.defers,.int .i64 (Dy f ts.length),?_,rfl,hrel⟩;have h4:=Z.get 4 _ rfl;have:=resultsC_tmp (P:=Try.prog) Try.results93 a.tmps;rw[Array.getD_eq_getD_getElem?,h4]at this;exact this
 have e11:=Z.ev 11 rfl;rw[decide_eq_true hkn]at e11;refine wpC_cond Ah e11 (n:=1) (wpC_skip Ah ?_);simp only[xt,↓reduceIte,Nat.reduceEqDiff];clear e11;replace Z:Sl a 22 [(10,.int .i64 (k:Int)),(9,.int .i64 (ts.length:Int)),(5,.int .i64 (Dy f k)),(0,.int .i64 (o:Int)),(2,.pointer (some ⟨vb,0,none⟩))]:=Z.sb;refine wpC_seq (n₁:=4+(3+mc+3+ma+3+1+1+1+1+1)+1+2) (n₂:=4) Ah ?_;refine wpC_block Ah ?_;refine wpC_seq (n₁:=4) (n₂:=(3+mc+3+ma+3+1+1+1+1+1)) Ah ?_;rw[show Ac Try.f93 4=Code.region 4 _ false from rfl];refine wpC_region Ah ?_;simp only[List.size_toArray,List.length_cons,List.length_nil,Nat.reduceAdd,Nat.zero_add,List.range,List.range.loop]
 co_apply Ai Ah (.int .i64 (k:Int)) rfl (by rfl)
 ·exact fun _ _=>(by have e10:=Z.g 10;exact oq)
 refine Z.goC (by decide) ?_;clear Z;intro a Z
 co_apply Ai Ah (.int .i64 (k:Int)) rfl (by rfl)
 ·exact fun _ _=>(by have e12:=Z.g 12;exact oq)
 refine Z.goC (by decide) ?_;clear Z;intro a Z;refine opsC_nil Ah ?_
 try simp only[xt,↓reduceIte,Nat.reduceEqDiff]
 rw[show Ac Try.f93 5=Code.region 5 _ false from rfl];refine wpC_region Ah ?_;simp only[List.size_toArray,List.length_cons,List.length_nil,Nat.reduceAdd,Nat.zero_add,List.range,List.range.loop]
 co_apply Ai Ah (.int .i64 (Dy f k)) rfl (by rfl)
 ·exact fun _ _=>(by have e5:=Z.g 5;exact oq)
 refine Z.goC (by decide) ?_;clear Z;intro a Z
 co_apply Ai Ah (.pointer (some ⟨bd,0,none⟩)) rfl (by rfl)
 ·
  intro w₂ h₂;have e2:=Z.g 2;have hbl2:Below B w' w₂:=h₂.below hBN hBw' hBc;have hc:=(hbl2.cell (p:=⟨vb,0,none⟩) hvb).trans hv';have hrd:=BZ (Safe:=Aw) (c:=c) (N:=N) (w:=w₂) (b:=vb) (o:=0) (Nat.lt_of_lt_of_le (Nat.lt_of_lt_of_le hvb hBw') h₂.size) (.inl ⟨by omega,by omega⟩);clear hbl2;refine⟨run_eq_of (fun Kk hKk=>?_),Be.still ?_⟩
  ·go_simp;exact hKk
  ·co_evs (exact hrd)
 refine Z.goC (by decide) fun a' Z'=>?_
 clear Z;revert Z';generalize a'=a;intro Z
 co_apply Ai Ah (.int .i64 (o:Int)) rfl (by rfl)
 ·exact fun _ _=>(by have e0:=Z.g 0;exact oq)
 refine Z.goC (by decide) ?_;clear Z;intro a Z
 co_apply Ai Ah (.int .i64 (k:Int)) rfl (by rfl)
 ·exact fun _ _=>(by have e6:=Z.g 6;exact oq)
 refine Z.goC (by decide) ?_;clear Z;intro a Z;have E (t:Nat) (v:Value) (e:a.tmps[t]?=some v):a.eval (.tmp t)=v:=by simp[Act.eval,Array.getD_eq_getD_getElem?,e]
 refine Ho (n:=3+mc+3) (ma:=ma) (z:=atV ps ts q o k) _ _ _ _ rfl rfl rfl (by rw[List.map_toArray,List.map_cons,List.map_cons,List.map_cons,List.map_nil,E 14 _ (Z.g 14),E 15 _ (Z.g 15),E 16 _ (Z.g 16)]) (hcall w' k hrel hkn) fun w1 hr1=>?_
 clear E;refine Z.goC (by decide) fun a' Z'=>?_
 clear Z;revert Z';generalize a'=a;intro Z;have E (t:Nat) (v:Value) (e:a.tmps[t]?=some v):a.eval (.tmp t)=v:=by simp[Act.eval,Array.getD_eq_getD_getElem?,e]
 refine Ho (n:=3) (ma:=mc) (z:=f k) _ _ _ _ rfl rfl rfl (by rw[List.map_toArray,List.map_cons,List.map_nil,E 17 _ (Z.g 17)]) (hC w1 k) fun w2 hr2=>?_
 clear E;refine Z.goC (by decide) fun a' Z'=>?_
 clear Z;revert Z';generalize a'=a;intro Z;have hrel2:=(hrel.trans hr1).trans hr2;clear hr1 hr2 hrel hv' hBw';revert hrel2;generalize w2=w';intro hrel;have hb1:0≤Dy f k+f k∧Dy f k+f k≤200000000000*((k+1:Nat):Int):=hSb (k+1)
 co_apply Ai Ah (.int .i64 (Dy f k+f k)) rfl (by rfl)
 ·
  refine fun w₁ hgr=>⟨run_eq_of (fun Kk hKk=>?_),?_⟩
  ·
   have e13:=Z.g 13;have e18:=Z.g 18;have hw:=IntWalk.i64_in (Dy f k+f k) (by omega);go_simp;exact hKk
  ·
   have e13:=Z.g 13;have e18:=Z.g 18;have hw:=IntWalk.i64_in (Dy f k+f k) (by omega);rw[listed_nil (by simp[go_sem, *])];exact Be.idle _
 refine Z.goC (by decide) fun a' Z'=>?_
 clear Z;revert Z';generalize a'=a;intro Z
 co_apply Ai Ah (.int .i64 (Dy f k+f k)) rfl (by rfl)
 ·exact fun _ _=>(by have e19:=Z.g 19;exact oq)
 refine Z.goC (by decide) ?_;clear Z;intro a Z;refine opsC_nil Ah ?_
 try simp only[xt,↓reduceIte,Nat.reduceEqDiff]
 rw[show Ac Try.f93 6=Code.region 6 _ false from rfl];refine wpC_region Ah ?_;simp only[List.size_toArray,List.length_cons,List.length_nil,Nat.reduceAdd,Nat.zero_add,List.range,List.range.loop]
 co_apply Ai Ah (.int .i64 ((k+1:Nat):Int)) rfl (by rfl)
 ·
  refine fun w₁ hgr=>⟨run_eq_of (fun Kk hKk=>?_),?_⟩
  ·
   have e10:=Z.g 10;have hadd:=Jt k (by omega);go_simp;exact hKk
  ·
   have e10:=Z.g 10;have hadd:=Jt k (by omega);rw[listed_nil (by simp[go_sem, *])];exact Be.idle _
 refine Z.goC (by decide) fun a' Z'=>?_
 clear Z;revert Z';generalize a'=a;intro Z
 co_apply Ai Ah (.int .i64 ((k+1:Nat):Int)) rfl (by rfl)
 ·exact fun _ _=>(by have e20:=Z.g 20;exact oq)
 refine Z.goC (by decide) ?_;clear Z;intro a Z;refine opsC_nil Ah ?_
 try simp only[xt,↓reduceIte,Nat.reduceEqDiff]
 refine⟨⟨k+1,by omega,Z.sb,hrel⟩,?_⟩;rw[Z.ev 10 rfl];simp[intOf]
 omega
theorem WO:∃ mf,∀ (w0:World) (bd vb vt:Nat) (ps:List A8) (ts:List BA) (q:List ((Int×Int)×Int)) (pb po pc tb to_ tc mb clock:Nat) (ents:Array MapEntry) (sa:Option Addr) (sc:Nat),Gq w0.heap.size w0 bd ps ts q pb po pc tb to_ tc mb clock ents→vb<w0.heap.size→vt<w0.heap.size→w0.cell? ⟨vb,0,none⟩=some (.pointer (some ⟨bd,0,none⟩))→w0.cell? ⟨vt,5,none⟩=some (.slice sa ts.length sc)→ts.length≤1000 →
  NZ w0 ps.length mf 93 #[] #[.pointer (some ⟨vt,0,none⟩),.pointer (some ⟨vb,0,none⟩)] (Aa5 ps ts q):=by
 obtain⟨m,h⟩:=AbY;refine⟨m,fun w0 bd vb vt ps ts q pb po pc tb to_ tc mb clock ents sa sc hD hvb hvt hv hvs ht N c w₁ i hi hN hc hb=>?_⟩;have hbb:Below w0.heap.size { w0 with os:=w₁.os,tape:=w₁.tape,output:=w₁.output } w₁:=⟨rfl,rfl,rfl,hb.1,hb.2⟩
 have hD1:Gq w0.heap.size w₁ bd ps ts q pb po pc tb to_ tc mb clock ents:=by
  have hD':Gq w0.heap.size { w0 with os:=w₁.os,tape:=w₁.tape,output:=w₁.output } bd ps ts q pb po pc tb to_ tc mb clock ents:=⟨hD.lb,hD.lp,hD.lt,hD.lm,hD.c4,hD.c5,hD.c6,hD.p0,hD.p1,hD.p2,hD.t1,hD.map,hD.ents,hD.free0,hD.rate0,hD.heads0⟩;exact hD'.keep hbb
 exact h w0.heap.size N c hN hc w₁ bd vb vt i ps ts q pb po pc tb to_ tc mb clock ents sa sc hb.1 hD1 hvb hvt ((hbb.cell (p:=⟨vb,0,none⟩) hvb).trans hv) ((hbb.cell (p:=⟨vt,5,none⟩) hvt).trans hvs) hi ht
theorem ZA {M:Machine}{w0:World}{bd vb vt:Nat}{ps:List A8}{ts:List BA}{q:List ((Int×Int)×Int)}{pb po pc tb to_ tc mb clock:Nat}{ents:Array MapEntry}{sa:Option Addr}{sc:Nat}(hD:Gq w0.heap.size w0 bd ps ts q pb po pc tb to_ tc mb clock ents) (hvb:vb<w0.heap.size) (hvt:vt<w0.heap.size) (hv:w0.cell? ⟨vb,0,none⟩=some (.pointer (some ⟨bd,0,none⟩))) (hvs:w0.cell? ⟨vt,5,none⟩=some (.slice sa ts.length sc)) (ht:ts.length≤1000) (hp:ps.length≤1000) :
  Dz Try.prog M 78 #[.pointer (some ⟨bd,0,none⟩),.func (.func 93) #[] #[.pointer (some ⟨vt,0,none⟩),.pointer (some ⟨vb,0,none⟩)]] w0
   fun e w'=>∃ g row,e=.returned (.slice (some ⟨g,0,none⟩) ps.length ps.length)∧Below w0.heap.size w0 w'∧w0.heap.size≤g∧w'.heap[g]?=some (.cells row 3 (0,0))∧row.size=ps.length∧∀ i,i<ps.length→row[i]?=some (.int .i64 (Aa5 ps ts q i)):=by
 obtain⟨mf,h⟩:=WO;exact Qg Dk hD.c4 hp Try.func93 (by kernel_rfl) (by kernel_rfl) (h w0 bd vb vt ps ts q pb po pc tb to_ tc mb clock ents sa sc hD hvb hvt hv hvs ht)
end
section
open Go.RowKit
structure Ae where
 roads:Ew
 pace:Int
 Aa:List A8
 Af:List BA
 deriving DecidableEq
structure Ar where
 toll:Int
 owner:Int
 heads:Int
 deriving DecidableEq,Inhabited
def O8 (n lo hi:Int):Int:=if n<lo then 7 else if hi<n then 6 else 0
def AL:List A8→Int
 | []=>0
 | p::l=>p.heads+AL l
def AZ (p:A8):Bool:=btw p.heads 0 40 && btw p.free 0 40
def CP (n:Int) (pre:List BA) (x:BA):Int :=
 if !(btw x.strip 0 (n-1)) then 3
 else if !(btw x.rate 0 500) || !(btw x.farmer 1 4) then 1
 else if pre.any (fun y=>y.strip == x.strip && y.farmer == x.farmer) then 4
 else 0
def BK (n:Int):List BA→List BA→Int
 | _,[]=>0
 | pre,x::l=>if CP n pre x=0 then BK n (pre++[x]) l else CP n pre x
def DY (t:Ae):Int:=if 6<t.Af.length then 6 else BK t.roads.strips.length [] t.Af
def Aq (t:Ae):Int :=
 if Bo t.roads≠0 then Bo t.roads
 else if !(btw t.pace 1 9) then 1
 else if O8 t.Aa.length 1 4≠0 then O8 t.Aa.length 1 4
 else if !(t.Aa.all AZ) then 1
 else if !(btw (AL t.Aa) 1 40) then 1
 else DY t
theorem J8 {n:Int}{ts:List BA}{k:Nat}(h:k<ts.length) (he:CP n (ts.take k) ts[k]=0):BK n (ts.take (k+1)) (ts.drop (k+1))=BK n (ts.take k) (ts.drop k):=by
 rw[List.drop_eq_getElem_cons h]
 conv=>rhs;rw[BK]
 rw[if_pos he,List.take_succ_eq_append_getElem h]
theorem EY {n:Int}{ts:List BA}{k:Nat}{e:Int}(h:k<ts.length) (he:CP n (ts.take k) ts[k]=e) (h0:e≠0):BK n (ts.take k) (ts.drop k)=e:=by
 rw[List.drop_eq_getElem_cons h,BK,if_neg (by rw[he];exact h0),he]
theorem OC (a b:List A8):AL (a++b)=AL a+AL b:=by
 induction a with
 | nil=>simp[AL]
 | cons x a ih=>simp only[List.cons_append,AL,ih];omega
theorem MI {ps:List A8}{k:Nat}(h:k<ps.length):AL (ps.take (k+1))=AL (ps.take k)+ps[k].heads:=by
 rw[List.take_succ_eq_append_getElem h,OC];simp[AL]
theorem JF {ps:List A8}(h:ps.all AZ=true):0≤AL ps∧AL ps≤40*(ps.length:Int):=by
 induction ps with
 | nil=>simp[AL]
 | cons p l ih =>
  simp only[List.all_cons,Bool.and_eq_true]at h;obtain⟨h1,h2⟩:=h;have:=ih h2;simp only[AZ,Bool.and_eq_true]at h1;have h3:=Am.1 h1.1;simp only[AL,List.length_cons]
  push_cast
  omega
def N7 {α:Type}(f:α→Value×Value×Value) (w:World) (a:Option Addr) (l:List α):Prop :=
 l=[]∨∃ b o,a=some ⟨b,o,none⟩∧∀ (i:Nat) (h:i<l.length),w.cell? ⟨b,o+i*3,none⟩=some (f l[i]).1∧w.cell? ⟨b,o+i*3+1,none⟩=some (f l[i]).2.1∧w.cell? ⟨b,o+i*3+2,none⟩=some (f l[i]).2.2
theorem N7.below {α:Type}{f:α→Value×Value×Value}{w w':World}{a:Option Addr}{l:List α}(h:N7 f w a l) (hb:Below w.heap.size w w'):N7 f w' a l:=by
 rcases h with h|⟨b,o,ha,h⟩
 ·exact .inl h
 ·exact .inr ⟨b,o,ha,fun i hi=>⟨((Ef hb).1 _ _ (lt_of_cell (h i hi).1)).trans (h i hi).1,((Ef hb).1 _ _ (lt_of_cell (h i hi).2.1)).trans (h i hi).2.1,((Ef hb).1 _ _ (lt_of_cell (h i hi).2.2)).trans (h i hi).2.2⟩⟩
theorem N7.at {α:Type}{f:α→Value×Value×Value}{w:World}{a:Option Addr}{l:List α}(h:N7 f w a l) {i:Nat}(hi:i<l.length):∃ b o,a=some ⟨b,o,none⟩∧w.cell? ⟨b,o+i*3,none⟩=some (f l[i]).1∧w.cell? ⟨b,o+i*3+1,none⟩=some (f l[i]).2.1∧w.cell? ⟨b,o+i*3+2,none⟩=some (f l[i]).2.2:=by
 rcases h with rfl|⟨b,o,ha,h⟩
 ·simp at hi
 ·exact⟨b,o,ha,h i hi⟩
def Xj (p:A8):Value×Value×Value:=(.int .i64 p.heads,.int .i64 p.free,.bool p.half)
def MQ (x:BA):Value×Value×Value:=(.int .i64 x.strip,.int .i64 x.rate,.int .i64 x.farmer)
def Oy (x:Ar):Value×Value×Value:=(.int .i64 x.toll,.int .i64 x.owner,.int .i64 x.heads)
abbrev UF:=N7 Xj
abbrev Yr:=N7 MQ
abbrev BV:=N7 Oy
structure Dt where
 sa:Option Addr
 sc:Nat
 pa:Option Addr
 pc:Nat
 ta:Option Addr
 tc:Nat
def CJ (t:Ae) (s:Dt):Array Value:=#[.int .i64 t.roads.days,.int .i64 t.roads.stages,.slice s.sa t.roads.strips.length s.sc,.int .i64 t.pace,.slice s.pa t.Aa.length s.pc,.slice s.ta t.Af.length s.tc]
structure Bf (w:World) (t:Ae) (s:Dt):Prop where
 strips:DN w s.sa t.roads.strips
 Aa:UF w s.pa t.Aa
 Af:Yr w s.ta t.Af
 ls:t.roads.strips.length≤maxLen
 lp:t.Aa.length≤maxLen
 lt:t.Af.length≤maxLen
 qp:t.Aa.length≤s.pc
 qt:t.Af.length≤s.tc
theorem Bf.below {w w':World}{t:Ae}{s:Dt}(h:Bf w t s) (hb:Below w.heap.size w w'):Bf w' t s:=⟨h.strips.below hb,h.Aa.below hb,h.Af.below hb,h.ls,h.lp,h.lt,h.qp,h.qt⟩
theorem BH (n lo hi:Int) (w:World) :
  Calls Try.prog 86 #[.int .i64 n,.int .i64 lo,.int .i64 hi] w fun e w'=>e=.returned (.bool (btw n lo hi))∧w=w':=by
 by_cases h:lo≤n
 ·go_enter Try.func86,Try.ntmps86
  go_wp2
  go_ret
  exact⟨by simp[h,btw],rfl⟩
 ·go_enter Try.func86,Try.ntmps86
  go_wp2
  go_ret
  exact⟨by simp[btw];omega,rfl⟩
theorem AaJ (n lo hi:Int) (w:World) :
  Calls Try.prog 87 #[.int .i64 n,.int .i64 lo,.int .i64 hi] w fun e w'=>e=.returned (.int .i64 (O8 n lo hi))∧w=w':=by
 by_cases h:n<lo
 ·go_enter Try.func87,Try.ntmps87
  go_wp2
  go_ret
  exact⟨BX (by simp[h,O8]),rfl⟩
 ·by_cases h2:hi<n
  ·go_enter Try.func87,Try.ntmps87
   go_wp2
   go_ret
   exact⟨BX (by simp[h,h2,O8]),rfl⟩
  ·go_enter Try.func87,Try.ntmps87
   go_wp2
   go_ret
   exact⟨BX (by unfold O8;rw[if_neg (by omega),if_neg (by omega)]),rfl⟩
theorem Sl.Abx {n:Nat}:Sl (⟨#[]++Array.replicate (n-0) undef,[]⟩:Act) n []:=⟨by simp,rfl,fun t v h=>by simp at h⟩
theorem Sl.Rk {n:Nat}(x y:Value) (hn:2≤n):Sl (⟨#[x,y]++Array.replicate (n-2) undef,[]⟩:Act) n [(0,x),(1,y)]:=Sl.TL x y hn
theorem Sl.Aag {n:Nat}(x y z:Value) (hn:3≤n):Sl (⟨#[x,y,z]++Array.replicate (n-3) undef,[]⟩:Act) n [(0,x),(1,y),(2,z)]:=Sl.NK x y z hn
theorem Sl.Abw {n:Nat}(x y z u:Value) (hn:4≤n):Sl (⟨#[x,y,z,u]++Array.replicate (n-4) undef,[]⟩:Act) n [(0,x),(1,y),(2,z),(3,u)]:=Sl.XQ x y z u hn
theorem O3:∀ (vs:List Value) (k t:Nat) (v:Value),((vs.zipIdx k).map fun q=>(q.2,q.1)).lookup t=some v→k≤t∧vs[t-k]?=some v
 | [],k,t,v,h=>by simp at h
 | x::vs,k,t,v,h=>by
  rw[List.zipIdx_cons,List.map_cons,List.lookup_cons]at h
  by_cases e:t=k
  ·subst e;simp at h;exact⟨Nat.le_refl _,by simp[h]⟩
  ·have e2:(t == k)=false:=by simpa using e
   rw[e2]at h;obtain⟨h1,h2⟩:=O3 vs (k+1) t v h;exact⟨by omega,by rw[show t-k=(t-(k+1))+1 by omega];simpa using h2⟩
theorem Sl.Uw (vs:List Value) {n:Nat}(hn:vs.length≤n):Sl (⟨vs.toArray++Array.replicate (n-vs.length) undef,[]⟩:Act) n ((vs.zipIdx 0).map fun q=>(q.2,q.1)):=by
 refine⟨by simp;omega,rfl,fun t v h=>?_⟩;obtain⟨_,h2⟩:=O3 vs 0 t v h;rw[Nat.sub_zero]at h2;have hlt:t<vs.length:=(List.getElem?_eq_some_iff.1 h2).1;rw[Array.getElem?_append_left (by simpa using hlt)]
 simpa using h2
theorem Bd {w:World}{c:Array Value}{t:TypeId}{G:World→Prop}(h:∀ W,W.heap.size=w.heap.size+1→Rw W w.heap.size c t→Below w.heap.size w W→G W):G (w.alloc (.cells c t)):=h _ (by simp) (Rw.new _ _ _) (DL _ _)
end
section
open Go.RowKit
theorem aw {P:Program}{ops:Array Oper}{Q:Exit→Act→World→Prop}{rest:List Nat}{a:Act}{w:World}{c:Array Value}{t:TypeId}(h:∀ W,W.heap.size=w.heap.size+1→Rw W w.heap.size c t→Below w.heap.size w W→wpOps P ops Q rest a W):wpOps P ops Q rest a (w.alloc (.cells c t)):=Bd (G:=fun W=>wpOps P ops Q rest a W) h
end
end Go.Proofs.Ytgdobbcjkiapkaa
