/- Proved: the statement TollSaves, for every input that its header takes in; no condition beyond it. -/
import Derived.Test.YtgdobbcjkiapkaaRows
import Derived.Test.YtgdobbcjkiapkaaSv48
import Derived.Test.YtgdobbcjkiapkaaSv49
import Derived.Conc.LeavingOf
import Derived.WalkKit
import Derived.ProofKit
import Derived.OpenShut
import Derived.ShutString
import Derived.ChangeOld
import Derived.Below
namespace Go.Proofs.Ytgdobbcjkiapkaa.tollSaves
open Go Go.Conc Go.ChangeShapes Go.WideShapes Go.ChangeAt Go.RowKit
theorem own:ownKnob Try.prog.godebug=none:=by kernel_rfl
theorem laidOut:laidOutB Try.prog=true:=by kernel_rfl
set_option maxRecDepth 100000 in
theorem lifted (os:Os) (started:os.Started) (H:Type) (enc:TypeId×Value→H) :
  ReturnsInLeavingWide {} Try.checked os 12 .any (Rows.tollSavesSpec.pre6 enc Try.prog Try.f12 Rows.tollSavesRow.domain false) (Rows.tollSavesSpec.post enc Try.prog Try.f12 false true false false):=by
 refine returnsInLeavingWide_of_change_sized (C:=Try.checked) own started Try.func12
  (ChangeSpec.witness6 (enc:=enc) (C:=Try.checked) false ⟨#[],#[.agg #[.int .i64 0,.int .i64 0,.slice none 0 0,.int .i64 0,.slice none 0 0,.slice none 0 0],.slice none 0 0,.slice none 0 0],[]⟩ 8 (by kernel_rfl) (by kernel_rfl) (by kernel_rfl) (by kernel_rfl)) ?_
 intro W base args ds gs before hval0 hW hcnd _ _;have hval:∀ (j:Nat) t v,Try.f12.params[j]?=some t→args[j]?=some v→Value.okWide Try.prog W .any base t v:=hval0;have hW':=hW;obtain⟨p,q,hA0,hV,rfl,hfz,hnd⟩:=hW;have hA:DataW.TrodAll enc Try.prog W 0 (fun _=>true) true Try.f12.params.toList args.toList ds p:=hA0;rw[Try.params12]at hA hval;obtain⟨v0,vs0,d0,ds0,p0,q0,hargs0,rfl,rfl,h0,r0⟩:=trodAll_cons hA;obtain⟨v1,vs1,d1,ds1,p1,q1,hargs1,rfl,rfl,h1,r1⟩:=trodAll_cons r0;obtain⟨v2,vs2,d2,ds2,p2,q2,hargs2,rfl,rfl,h2,r2⟩:=trodAll_cons r1;obtain⟨rfl,rfl,rfl⟩:=trodAll_nil r2;obtain rfl:args = #[v0,v1,v2]:=by cases args;simp_all
 obtain⟨rfl,rfl⟩:=trodVars_none hV;have k0:=h0;have lt0:∀ x∈p0,x.block<W.heap.size:=by obtain⟨m,hm⟩:=k0;exact DataW.trod_lt m _ _ _ hm
 obtain⟨t0,s0,rfl,hT0⟩:=WC (hval 0 28 v0 rfl rfl) h0;have k1:=h1;have lt1:∀ x∈p1,x.block<W.heap.size:=by obtain⟨m,hm⟩:=k1;exact DataW.trod_lt m _ _ _ hm
 obtain⟨l1,a1,c1,rfl,hP1,hm1⟩:=Ti (hval 1 48 v1 rfl rfl) h1;have k2:=h2;have lt2:∀ x∈p2,x.block<W.heap.size:=by obtain⟨m,hm⟩:=k2;exact DataW.trod_lt m _ _ _ hm
 obtain⟨a2,n2,c2,l2,rfl,i1_2,i2_2,i3_2,i4_2⟩:=AaH (hval 2 29 v2 rfl rfl) h2;clear hA0 hval0;refine Zh (by kernel_rfl) (fun M w hh=>UL w (YC hh hT0) (PI hh hP1) hm1 a2 n2 c2 l2 (XE hh i1_2) i2_2 i3_2 (by rw[hh];exact i4_2)) fun W' bel=>?_
 exact⟨_,_,_,[],_,[],hW',trodAll_mk1 (shut_bool Try.underlying4 _),(trodAll_cons_mk ((Below.trod laidOut (by kernel_rfl) (of_decide_eq_true (by kernel_rfl)) k0 bel lt0).of_heap (show World.heap { W' with tape:=W.tape }=W'.heap from rfl)) (trodAll_cons_mk ((Below.trod laidOut (by kernel_rfl) (of_decide_eq_true (by kernel_rfl)) k1 bel lt1).of_heap (show World.heap { W' with tape:=W.tape }=W'.heap from rfl)) (trodAll_cons_mk ((Below.trod laidOut (by kernel_rfl) (of_decide_eq_true (by kernel_rfl)) k2 bel lt2).of_heap (show World.heap { W' with tape:=W.tape }=W'.heap from rfl)) trodAll_mk0))),rfl,⟨bel.os,bel.output,fun i hi=>by rw[show W'.heap[i]?=W.heap[i]? from bel.block i hi];split<;>simp_all⟩,fun h=>by cases h⟩
theorem over:Rows.tollSavesRow.holds Try.pinned (OpenSpec.ofChange Rows.tollSavesSpec) :=
 OpenClaim.holds_of_wide_leaving 12 Try.f12 rfl rfl rfl rfl rfl rfl rfl ⟨rfl,rfl,rfl,rfl,rfl⟩ rfl rfl rfl rfl rfl (by kernel_rfl) Try.func12 (by kernel_rfl)
  (of_decide_eq_true (by kernel_rfl)) (by unfold Func.isWrapper;first|(rw[if_pos (by decide +kernel)];kernel_rfl)|(rw[if_neg (by decide +kernel)];exact⟨rfl,rfl⟩))
  (fun os started H enc _=>lifted os started H enc)
theorem proved:Rows.TollSavesSaid:=over
#print axioms proved
end Go.Proofs.Ytgdobbcjkiapkaa.tollSaves
