import Derived.Test.YtgdobbcjkiapkaaOn15
import Derived.Test.YtgdobbcjkiapkaaOn04
import Derived.Test.YtgdobbcjkiapkaaOn20
import Derived.Test.YtgdobbcjkiapkaaOn02
import Derived.Test.YtgdobbcjkiapkaaOn01
namespace Go.Proofs.Ytgdobbcjkiapkaa
set_option maxRecDepth 100000
set_option maxHeartbeats 4000000
set_option linter.unusedSimpArgs false
set_option linter.unusedVariables false
section
open Go Go.Conc
open Go.RowKit
theorem sevC_body : Try.f93.body = some (Code.seq (regionIn Try.f93 0) (Code.seq (regionIn Try.f93 1) (Code.seq (Code.seq (regionIn Try.f93 2) (Code.block 0 (Code.loop (Code.seq (regionIn Try.f93 3) (Code.seq (Code.cond (Operand.tmp 11) Code.skip (Code.exit 0)) (Code.seq (Code.block 1 (Code.seq (regionIn Try.f93 4) (regionIn Try.f93 5))) (regionIn Try.f93 6))))))) (Code.seq (regionIn Try.f93 7) Code.ret)))) := by kernel_rfl
def sevV (ps : List PayerV) (ts : List TollV) (q : List ((Int × Int) × Int)) (o : Nat) : Int := sumV (fun i => coinsV (atV ps ts q o i)) ts.length
theorem sev_c : ∃ m, ∀ (B N c : Nat), B ≤ N → B ≤ c → ∀ (w : World) (bd vb vt o : Nat) (ps : List PayerV) (ts : List TollV) (q : List ((Int × Int) × Int)) (pb po pc tb to_ tc mb clock : Nat) (ents : Array MapEntry) (sa : Option Addr) (sc : Nat), B ≤ w.heap.size → DeskC B w bd ps ts q pb po pc tb to_ tc mb clock ents → vb < B → vt < B → w.cell? ⟨vb, 0, none⟩ = some (.pointer (some ⟨bd, 0, none⟩)) → w.cell? ⟨vt, 5, none⟩ = some (.slice sa ts.length sc) → o < ps.length → ts.length ≤ 1000 →
  CallsC Try.prog false (RelyW SafeO c N) (GuarW SafeO c N) 93 #[.int .i64 (o : Int), .pointer (some ⟨vt, 0, none⟩), .pointer (some ⟨vb, 0, none⟩)] m w (fun v w' => v = .int .i64 (sevV ps ts q o) ∧ RelyW SafeO c N w w') := by
 obtain ⟨mc, hcoins⟩ := coins_c; obtain ⟨ma, hat⟩ := at_c; refine ⟨(3 + (3 + ((6 + (((1000 + 1) * ((3 + (2 + ((4 + (3 + mc + 3 + ma + 3 + 1 + 1 + 1 + 1 + 1) + 1 + 2) + 4 + 1) + 1) + 1) + 1) + 1) + 2) + 1) + 6 + 1) + 1) + 1), fun B N c hBN hBc w bd vb vt o ps ts q pb po pc tb to_ tc mb clock ents sa sc hBw hD hvb hvt hv hvs ho ht => callsC_of_wpC Try.func93 (by kernel_rfl) sevC_body ?_⟩; have hsl : Sl (⟨#[.int .i64 (o : Int), .pointer (some ⟨vt, 0, none⟩), .pointer (some ⟨vb, 0, none⟩)] ++ Array.replicate (Try.f93.ntmps - (#[.int .i64 (o : Int), .pointer (some ⟨vt, 0, none⟩), .pointer (some ⟨vb, 0, none⟩)] : Array Value).size) undef, []⟩ : Act) 22 [(0, .int .i64 (o : Int)), (1, .pointer (some ⟨vt, 0, none⟩)), (2, .pointer (some ⟨vb, 0, none⟩))] := by rw [Try.ntmps93]; exact Sl.entryC3 _ _ _ (by omega)
 revert hsl; generalize (Act.mk _ _) = a; intro hsl; have hab := fun k => (atV_bounds hD ho k).1
 have hcb : ∀ k, 0 ≤ coinsV (atV ps ts q o k) ∧ coinsV (atV ps ts q o k) ≤ 200000000000 := fun k => by
  have := hab k; unfold coinsV
  omega
 have hcall : ∀ w₁ j, RelyW SafeO c N w w₁ → j < ts.length → CallsC Try.prog false (RelyW SafeO c N) (GuarW SafeO c N) 80 #[.pointer (some ⟨bd, 0, none⟩), .int .i64 (o : Int), .int .i64 (j : Int)] ma w₁ (fun v w' => v = .int .i64 (atV ps ts q o j) ∧ RelyW SafeO c N w₁ w') := fun w₁ j hr hj => by
  have hb1 : Below B w w₁ := hr.below hBN hBw hBc; have hD1 := hD.keep hb1; have := hat B N c hBN hBc w₁ bd pb po ps.length pc tb to_ ts.length tc mb clock j o ents q ps[o].heads ps[o].free ts[j].rate ps[o].half (Nat.le_trans hBw hb1.size) hD1.lb hD1.lp hD1.lt hD1.lm hD1.c4 (hD1.at5 hj) hD1.c6 (hD1.p0 o ho) (hD1.p1 o ho) (hD1.p2 o ho) (hD1.t1 j hj) hD1.map hD1.ents hj ho (hD1.free0 _ (List.getElem_mem ho)).1 (hD1.free0 _ (List.getElem_mem ho)).2 (hD1.heads0 _).1 (hD1.heads0 _).2 (hD1.rate0 _ (List.getElem_mem hj)).1 (hD1.rate0 _ (List.getElem_mem hj)).2
  have e : atV ps ts q o j = ofV ps[o].free ps[o].half ((atK q ((j : Int), (o : Int))).getD 0) ts[j].rate := by
   unfold atV; rw [List.getD_eq_getElem?_getD, List.getElem?_eq_getElem ho, List.getD_eq_getElem?_getD, List.getElem?_eq_getElem hj]; rfl
  rw [e]; exact this
 have hC := fun w1 k => hcoins N c w1 (atV ps ts q o k) (hab k).1 (by have := hab k; omega)
 unfold sevV; obtain ⟨f, hf⟩ : ∃ f, f = fun i => coinsV (atV ps ts q o i) := ⟨_, rfl⟩
 have hfk : ∀ k, coinsV (atV ps ts q o k) = f k := fun k => by rw [hf]
 simp only [hfk] at hcb hC; rw [← hf]; have hSb := sumV_bounds hcb; clear hcoins hat hab hD hf; refine wpC_seq (n₁ := 3) (n₂ := 3 + ((6 + (((1000 + 1) * ((3 + (2 + ((4 + (3 + mc + 3 + ma + 3 + 1 + 1 + 1 + 1 + 1) + 1 + 2) + 4 + 1) + 1) + 1) + 1) + 1) + 2) + 1) + 6 + 1) + 1) termsW ?_; rw [show regionIn Try.f93 0 = Code.region 0 _ false from rfl]; refine wpC_region termsW ?_; simp only [List.size_toArray, List.length_cons, List.length_nil, Nat.reduceAdd, Nat.zero_add, List.range, List.range.loop]
 co_apply opsC_val termsW (.int .i64 0) rfl (by rfl)
 ·exact fun _ _ => (by exact oq)
 refine hsl.goC (by decide) ?_; clear hsl; intro a hsl; refine opsC_nil termsW ?_; refine wpC_seq (n₁ := 3) (n₂ := ((6 + (((1000 + 1) * ((3 + (2 + ((4 + (3 + mc + 3 + ma + 3 + 1 + 1 + 1 + 1 + 1) + 1 + 2) + 4 + 1) + 1) + 1) + 1) + 1) + 2) + 1) + 6 + 1)) termsW ?_; rw [show regionIn Try.f93 1 = Code.region 1 _ false from rfl]; refine wpC_region termsW ?_; simp only [List.size_toArray, List.length_cons, List.length_nil, Nat.reduceAdd, Nat.zero_add, List.range, List.range.loop]
 co_apply opsC_val termsW (.int .i64 0) rfl (by rfl)
 ·exact fun _ _ => (by exact oq)
 refine hsl.goC (by decide) ?_; clear hsl; intro a hsl; refine opsC_nil termsW ?_; refine wpC_seq (n₁ := 6 + (((1000 + 1) * ((3 + (2 + ((4 + (3 + mc + 3 + ma + 3 + 1 + 1 + 1 + 1 + 1) + 1 + 2) + 4 + 1) + 1) + 1) + 1) + 1) + 2) + 1) (n₂ := 6) termsW ?_; refine wpC_seq (n₁ := 6) (n₂ := ((1000 + 1) * ((3 + (2 + ((4 + (3 + mc + 3 + ma + 3 + 1 + 1 + 1 + 1 + 1) + 1 + 2) + 4 + 1) + 1) + 1) + 1) + 1) + 2) termsW ?_; rw [show regionIn Try.f93 2 = Code.region 2 _ false from rfl]; refine wpC_region termsW ?_; simp only [List.size_toArray, List.length_cons, List.length_nil, Nat.reduceAdd, Nat.zero_add, List.range, List.range.loop]
 co_apply opsC_val termsW (.pointer (some ⟨vt, 5, none⟩)) rfl (by rfl)
 ·exact fun _ _ => (by have e1 := hsl.g 1; exact oq)
 refine hsl.goC (by decide) ?_; clear hsl; intro a hsl
 co_apply opsC_val termsW (.slice sa ts.length sc) rfl (by rfl)
 ·
  intro w₂ h₂; have e7 := hsl.g 7; have hbl2 : Below B w w₂ := h₂.below hBN hBw hBc; have hc := (hbl2.cell (p := ⟨vt, 5, none⟩) hvt).trans hvs; have hrd := reads_cell (Safe := SafeO) (c := c) (N := N) (w := w₂) (b := vt) (o := 5) (Nat.lt_of_lt_of_le (Nat.lt_of_lt_of_le hvt hBw) h₂.size) (.inl ⟨by omega, by omega⟩); clear hbl2; refine ⟨run_eq_of (fun Kk hKk => ?_), GuarW.still ?_⟩
  ·go_simp; exact hKk
  ·co_evs (exact hrd)
 refine hsl.goC (by decide) fun a' hsl' => ?_
 clear hsl; revert hsl'; generalize a' = a; intro hsl
 co_apply opsC_val termsW (.int .i64 (ts.length : Int)) rfl (by rfl)
 ·exact fun _ _ => (by have e8 := hsl.g 8; exact oq)
 refine hsl.goC (by decide) ?_; clear hsl; intro a hsl
 co_apply opsC_val termsW (.int .i64 0) rfl (by rfl)
 ·exact fun _ _ => (by exact oq)
 refine hsl.goC (by decide) ?_; clear hsl; intro a hsl; refine opsC_nil termsW ?_; replace hsl : Sl a 22 [(10, .int .i64 ((0 : Nat) : Int)), (9, .int .i64 (ts.length : Int)), (5, .int .i64 (sumV f 0)), (0, .int .i64 (o : Int)), (2, .pointer (some ⟨vb, 0, none⟩))] := hsl.sb; refine wpC_block termsW ?_; refine wpC_loop termsW (fun a w' => ∃ k : Nat, k ≤ ts.length ∧ Sl a 22 [(10, .int .i64 (k : Int)), (9, .int .i64 (ts.length : Int)), (5, .int .i64 (sumV f k)), (0, .int .i64 (o : Int)), (2, .pointer (some ⟨vb, 0, none⟩))] ∧ RelyW SafeO c N w w') (fun a _ => ts.length - (intOf (a.eval (.tmp 10))).toNat) (3 + (2 + ((4 + (3 + mc + 3 + ma + 3 + 1 + 1 + 1 + 1 + 1) + 1 + 2) + 4 + 1) + 1) + 1) 1000 ⟨0, by omega, hsl, RelyW.refl _⟩ (by omega) ?_; clear hsl; rintro a w' ⟨k, hk, hsl, hrel⟩; have hmu : ts.length - (intOf (a.eval (.tmp 10))).toNat = ts.length - k := by rw [hsl.ev 10 rfl]; simp [intOf]
 rw [hmu]; clear hmu; have hB' := (hrel.below hBN hBw hBc); have hv' := (hB'.cell (p := ⟨vb, 0, none⟩) hvb).trans hv; have hBw' := Nat.le_trans hBw hB'.size; clear hB'; refine wpC_seq (n₁ := 3) (n₂ := 2 + ((4 + (3 + mc + 3 + ma + 3 + 1 + 1 + 1 + 1 + 1) + 1 + 2) + 4 + 1) + 1) termsW ?_; rw [show regionIn Try.f93 3 = Code.region 3 _ false from rfl]; refine wpC_region termsW ?_; simp only [List.size_toArray, List.length_cons, List.length_nil, Nat.reduceAdd, Nat.zero_add, List.range, List.range.loop]
 co_apply opsC_val termsW (.bool (decide (k < ts.length))) rfl (by rfl)
 ·
  refine fun w₁ hgr => ⟨run_eq_of (fun Kk hKk => ?_), ?_⟩
  ·
   have e10 := hsl.g 10; have e9 := hsl.g 9; have hdec : decide ((k : Int) < (ts.length : Int)) = decide (k < ts.length) := by simp
   go_simp; exact hKk
  ·
   have e10 := hsl.g 10; have e9 := hsl.g 9; have hdec : decide ((k : Int) < (ts.length : Int)) = decide (k < ts.length) := by simp
   rw [listed_nil (by simp [go_sem, *])]; exact GuarW.idle _
 refine hsl.goC (by decide) fun a' hsl' => ?_
 clear hsl; revert hsl'; generalize a' = a; intro hsl; refine opsC_nil termsW ?_; refine wpC_seq (n₁ := 2) (n₂ := ((4 + (3 + mc + 3 + ma + 3 + 1 + 1 + 1 + 1 + 1) + 1 + 2) + 4 + 1)) termsW ?_
 by_cases hkn : k < ts.length
 rotate_left
 ·have e11 := hsl.ev 11 rfl; rw [decide_eq_false hkn] at e11; refine wpC_cond termsW e11 (n := 1) (wpC_exit termsW ?_); simp only [Exit.then, Exit.inBlock, ↓reduceIte, Nat.reduceEqDiff]; obtain rfl : k = ts.length := by omega
  refine wpC_seq (n₁ := 4) (n₂ := 1) termsW ?_; rw [show regionIn Try.f93 7 = Code.region 7 _ false from rfl]; refine wpC_region termsW ?_; simp only [List.size_toArray, List.length_cons, List.length_nil, Nat.reduceAdd, Nat.zero_add, List.range, List.range.loop]
  co_apply opsC_val termsW (.int .i64 (sumV f ts.length)) rfl (by rfl)
  ·exact fun _ _ => (by have e5 := hsl.g 5; exact oq)
  refine hsl.goC (by decide) ?_; clear hsl; intro a hsl
  co_apply opsC_val termsW (.int .i64 (sumV f ts.length)) rfl (by rfl)
  ·exact fun _ _ => (by have e21 := hsl.g 21; exact oq)
  refine hsl.goC (by decide) ?_; clear hsl; intro a hsl; refine opsC_nil termsW ?_; refine wpC_ret termsW ?_
  try simp only [Exit.then, Exit.inBlock, ↓reduceIte, Nat.reduceEqDiff]
  refine ⟨hsl.defers, .int .i64 (sumV f ts.length), ?_, rfl, hrel⟩; have h4 := hsl.get 4 _ rfl; have := resultsC_tmp (P := Try.prog) Try.results93 a.tmps; rw [Array.getD_eq_getD_getElem?, h4] at this; exact this
 have e11 := hsl.ev 11 rfl; rw [decide_eq_true hkn] at e11; refine wpC_cond termsW e11 (n := 1) (wpC_skip termsW ?_); simp only [Exit.then, Exit.inBlock, ↓reduceIte, Nat.reduceEqDiff]; clear e11; replace hsl : Sl a 22 [(10, .int .i64 (k : Int)), (9, .int .i64 (ts.length : Int)), (5, .int .i64 (sumV f k)), (0, .int .i64 (o : Int)), (2, .pointer (some ⟨vb, 0, none⟩))] := hsl.sb; refine wpC_seq (n₁ := 4 + (3 + mc + 3 + ma + 3 + 1 + 1 + 1 + 1 + 1) + 1 + 2) (n₂ := 4) termsW ?_; refine wpC_block termsW ?_; refine wpC_seq (n₁ := 4) (n₂ := (3 + mc + 3 + ma + 3 + 1 + 1 + 1 + 1 + 1)) termsW ?_; rw [show regionIn Try.f93 4 = Code.region 4 _ false from rfl]; refine wpC_region termsW ?_; simp only [List.size_toArray, List.length_cons, List.length_nil, Nat.reduceAdd, Nat.zero_add, List.range, List.range.loop]
 co_apply opsC_val termsW (.int .i64 (k : Int)) rfl (by rfl)
 ·exact fun _ _ => (by have e10 := hsl.g 10; exact oq)
 refine hsl.goC (by decide) ?_; clear hsl; intro a hsl
 co_apply opsC_val termsW (.int .i64 (k : Int)) rfl (by rfl)
 ·exact fun _ _ => (by have e12 := hsl.g 12; exact oq)
 refine hsl.goC (by decide) ?_; clear hsl; intro a hsl; refine opsC_nil termsW ?_
 try simp only [Exit.then, Exit.inBlock, ↓reduceIte, Nat.reduceEqDiff]
 rw [show regionIn Try.f93 5 = Code.region 5 _ false from rfl]; refine wpC_region termsW ?_; simp only [List.size_toArray, List.length_cons, List.length_nil, Nat.reduceAdd, Nat.zero_add, List.range, List.range.loop]
 co_apply opsC_val termsW (.int .i64 (sumV f k)) rfl (by rfl)
 ·exact fun _ _ => (by have e5 := hsl.g 5; exact oq)
 refine hsl.goC (by decide) ?_; clear hsl; intro a hsl
 co_apply opsC_val termsW (.pointer (some ⟨bd, 0, none⟩)) rfl (by rfl)
 ·
  intro w₂ h₂; have e2 := hsl.g 2; have hbl2 : Below B w' w₂ := h₂.below hBN hBw' hBc; have hc := (hbl2.cell (p := ⟨vb, 0, none⟩) hvb).trans hv'; have hrd := reads_cell (Safe := SafeO) (c := c) (N := N) (w := w₂) (b := vb) (o := 0) (Nat.lt_of_lt_of_le (Nat.lt_of_lt_of_le hvb hBw') h₂.size) (.inl ⟨by omega, by omega⟩); clear hbl2; refine ⟨run_eq_of (fun Kk hKk => ?_), GuarW.still ?_⟩
  ·go_simp; exact hKk
  ·co_evs (exact hrd)
 refine hsl.goC (by decide) fun a' hsl' => ?_
 clear hsl; revert hsl'; generalize a' = a; intro hsl
 co_apply opsC_val termsW (.int .i64 (o : Int)) rfl (by rfl)
 ·exact fun _ _ => (by have e0 := hsl.g 0; exact oq)
 refine hsl.goC (by decide) ?_; clear hsl; intro a hsl
 co_apply opsC_val termsW (.int .i64 (k : Int)) rfl (by rfl)
 ·exact fun _ _ => (by have e6 := hsl.g 6; exact oq)
 refine hsl.goC (by decide) ?_; clear hsl; intro a hsl; have E (t : Nat) (v : Value) (e : a.tmps[t]? = some v) : a.eval (.tmp t) = v := by simp [Act.eval, Array.getD_eq_getD_getElem?, e]
 refine name_callC (n := 3 + mc + 3) (ma := ma) (z := atV ps ts q o k) _ _ _ _ rfl rfl rfl (by rw [List.map_toArray, List.map_cons, List.map_cons, List.map_cons, List.map_nil, E 14 _ (hsl.get 14 _ rfl), E 15 _ (hsl.get 15 _ rfl), E 16 _ (hsl.get 16 _ rfl)]) (hcall w' k hrel hkn) fun w1 hr1 => ?_
 clear E; refine hsl.goC (by decide) fun a' hsl' => ?_
 clear hsl; revert hsl'; generalize a' = a; intro hsl; have E (t : Nat) (v : Value) (e : a.tmps[t]? = some v) : a.eval (.tmp t) = v := by simp [Act.eval, Array.getD_eq_getD_getElem?, e]
 refine name_callC (n := 3) (ma := mc) (z := f k) _ _ _ _ rfl rfl rfl (by rw [List.map_toArray, List.map_cons, List.map_nil, E 17 _ (hsl.get 17 _ rfl)]) (hC w1 k) fun w2 hr2 => ?_
 clear E; refine hsl.goC (by decide) fun a' hsl' => ?_
 clear hsl; revert hsl'; generalize a' = a; intro hsl; have hrel2 := (hrel.trans hr1).trans hr2; clear hr1 hr2 hrel hv' hBw'; revert hrel2; generalize w2 = w'; intro hrel; have hb1 : 0 ≤ sumV f k + f k ∧ sumV f k + f k ≤ 200000000000 * ((k + 1 : Nat) : Int) := hSb (k + 1)
 co_apply opsC_val termsW (.int .i64 (sumV f k + f k)) rfl (by rfl)
 ·
  refine fun w₁ hgr => ⟨run_eq_of (fun Kk hKk => ?_), ?_⟩
  ·
   have e13 := hsl.g 13; have e18 := hsl.g 18; have hw := IntWalk.i64_in (sumV f k + f k) (by omega); go_simp; exact hKk
  ·
   have e13 := hsl.g 13; have e18 := hsl.g 18; have hw := IntWalk.i64_in (sumV f k + f k) (by omega); rw [listed_nil (by simp [go_sem, *])]; exact GuarW.idle _
 refine hsl.goC (by decide) fun a' hsl' => ?_
 clear hsl; revert hsl'; generalize a' = a; intro hsl
 co_apply opsC_val termsW (.int .i64 (sumV f k + f k)) rfl (by rfl)
 ·exact fun _ _ => (by have e19 := hsl.g 19; exact oq)
 refine hsl.goC (by decide) ?_; clear hsl; intro a hsl; refine opsC_nil termsW ?_
 try simp only [Exit.then, Exit.inBlock, ↓reduceIte, Nat.reduceEqDiff]
 rw [show regionIn Try.f93 6 = Code.region 6 _ false from rfl]; refine wpC_region termsW ?_; simp only [List.size_toArray, List.length_cons, List.length_nil, Nat.reduceAdd, Nat.zero_add, List.range, List.range.loop]
 co_apply opsC_val termsW (.int .i64 ((k + 1 : Nat) : Int)) rfl (by rfl)
 ·
  refine fun w₁ hgr => ⟨run_eq_of (fun Kk hKk => ?_), ?_⟩
  ·
   have e10 := hsl.g 10; have hadd := add_smallC k (by omega); go_simp; exact hKk
  ·
   have e10 := hsl.g 10; have hadd := add_smallC k (by omega); rw [listed_nil (by simp [go_sem, *])]; exact GuarW.idle _
 refine hsl.goC (by decide) fun a' hsl' => ?_
 clear hsl; revert hsl'; generalize a' = a; intro hsl
 co_apply opsC_val termsW (.int .i64 ((k + 1 : Nat) : Int)) rfl (by rfl)
 ·exact fun _ _ => (by have e20 := hsl.g 20; exact oq)
 refine hsl.goC (by decide) ?_; clear hsl; intro a hsl; refine opsC_nil termsW ?_
 try simp only [Exit.then, Exit.inBlock, ↓reduceIte, Nat.reduceEqDiff]
 refine ⟨⟨k + 1, by omega, hsl.sb, hrel⟩, ?_⟩; rw [hsl.ev 10 rfl]; simp [intOf]
 omega
theorem sev_works : ∃ mf, ∀ (w0 : World) (bd vb vt : Nat) (ps : List PayerV) (ts : List TollV) (q : List ((Int × Int) × Int)) (pb po pc tb to_ tc mb clock : Nat) (ents : Array MapEntry) (sa : Option Addr) (sc : Nat), DeskC w0.heap.size w0 bd ps ts q pb po pc tb to_ tc mb clock ents → vb < w0.heap.size → vt < w0.heap.size → w0.cell? ⟨vb, 0, none⟩ = some (.pointer (some ⟨bd, 0, none⟩)) → w0.cell? ⟨vt, 5, none⟩ = some (.slice sa ts.length sc) → ts.length ≤ 1000 →
  WorksAt w0 ps.length mf 93 #[] #[.pointer (some ⟨vt, 0, none⟩), .pointer (some ⟨vb, 0, none⟩)] (sevV ps ts q) := by
 obtain ⟨m, h⟩ := sev_c; refine ⟨m, fun w0 bd vb vt ps ts q pb po pc tb to_ tc mb clock ents sa sc hD hvb hvt hv hvs ht N c w₁ i hi hN hc hb => ?_⟩; have hbb : Below w0.heap.size { w0 with os := w₁.os, tape := w₁.tape, output := w₁.output } w₁ := ⟨rfl, rfl, rfl, hb.1, hb.2⟩
 have hD1 : DeskC w0.heap.size w₁ bd ps ts q pb po pc tb to_ tc mb clock ents := by
  have hD' : DeskC w0.heap.size { w0 with os := w₁.os, tape := w₁.tape, output := w₁.output } bd ps ts q pb po pc tb to_ tc mb clock ents := ⟨hD.lb, hD.lp, hD.lt, hD.lm, hD.c4, hD.c5, hD.c6, hD.p0, hD.p1, hD.p2, hD.t1, hD.map, hD.ents, hD.free0, hD.rate0, hD.heads0⟩; exact hD'.keep hbb
 exact h w0.heap.size N c hN hc w₁ bd vb vt i ps ts q pb po pc tb to_ tc mb clock ents sa sc hb.1 hD1 hvb hvt ((hbb.cell (p := ⟨vb, 0, none⟩) hvb).trans hv) ((hbb.cell (p := ⟨vt, 5, none⟩) hvt).trans hvs) hi ht
theorem each_sev {M : Machine} {w0 : World} {bd vb vt : Nat} {ps : List PayerV} {ts : List TollV} {q : List ((Int × Int) × Int)} {pb po pc tb to_ tc mb clock : Nat} {ents : Array MapEntry} {sa : Option Addr} {sc : Nat} (hD : DeskC w0.heap.size w0 bd ps ts q pb po pc tb to_ tc mb clock ents) (hvb : vb < w0.heap.size) (hvt : vt < w0.heap.size) (hv : w0.cell? ⟨vb, 0, none⟩ = some (.pointer (some ⟨bd, 0, none⟩))) (hvs : w0.cell? ⟨vt, 5, none⟩ = some (.slice sa ts.length sc)) (ht : ts.length ≤ 1000) (hp : ps.length ≤ 1000) :
  CallsX Try.prog M 78 #[.pointer (some ⟨bd, 0, none⟩), .func (.func 93) #[] #[.pointer (some ⟨vt, 0, none⟩), .pointer (some ⟨vb, 0, none⟩)]] w0
   fun e w' => ∃ g row, e = .returned (.slice (some ⟨g, 0, none⟩) ps.length ps.length) ∧ Below w0.heap.size w0 w' ∧ w0.heap.size ≤ g ∧ w'.heap[g]? = some (.cells row 3 (0, 0)) ∧ row.size = ps.length ∧ ∀ i, i < ps.length → row[i]? = some (.int .i64 (sevV ps ts q i)) := by
 obtain ⟨mf, h⟩ := sev_works; exact each_any tame hD.c4 hp Try.func93 (by kernel_rfl) (by kernel_rfl) (h w0 bd vb vt ps ts q pb po pc tb to_ tc mb clock ents sa sc hD hvb hvt hv hvs ht)
end
section
open Go.RowKit
structure TariffV where
 roads : Roads
 pace : Int
 payers : List PayerV
 tolls : List TollV
 deriving DecidableEq
structure PassV where
 toll : Int
 owner : Int
 heads : Int
 deriving DecidableEq, Inhabited
def fewV (n lo hi : Int) : Int := if n < lo then 7 else if hi < n then 6 else 0
def headsOf : List PayerV → Int
 | [] => 0
 | p :: l => p.heads + headsOf l
def payerFine (p : PayerV) : Bool := btw p.heads 0 40 && btw p.free 0 40
def tollErr (n : Int) (pre : List TollV) (x : TollV) : Int :=
 if !(btw x.strip 0 (n - 1)) then 3
 else if !(btw x.rate 0 500) || !(btw x.farmer 1 4) then 1
 else if pre.any (fun y => y.strip == x.strip && y.farmer == x.farmer) then 4
 else 0
def tollsErr (n : Int) : List TollV → List TollV → Int
 | _, [] => 0
 | pre, x :: l => if tollErr n pre x = 0 then tollsErr n (pre ++ [x]) l else tollErr n pre x
def tollsE (t : TariffV) : Int := if 6 < t.tolls.length then 6 else tollsErr t.roads.strips.length [] t.tolls
def checkT (t : TariffV) : Int :=
 if checkR t.roads ≠ 0 then checkR t.roads
 else if !(btw t.pace 1 9) then 1
 else if fewV t.payers.length 1 4 ≠ 0 then fewV t.payers.length 1 4
 else if !(t.payers.all payerFine) then 1
 else if !(btw (headsOf t.payers) 1 40) then 1
 else tollsE t
theorem tollsErr_next {n : Int} {ts : List TollV} {k : Nat} (h : k < ts.length) (he : tollErr n (ts.take k) ts[k] = 0) : tollsErr n (ts.take (k + 1)) (ts.drop (k + 1)) = tollsErr n (ts.take k) (ts.drop k) := by
 rw [List.drop_eq_getElem_cons h]
 conv => rhs; rw [tollsErr]
 rw [if_pos he, List.take_succ_eq_append_getElem h]
theorem tollsErr_stop {n : Int} {ts : List TollV} {k : Nat} {e : Int} (h : k < ts.length) (he : tollErr n (ts.take k) ts[k] = e) (h0 : e ≠ 0) : tollsErr n (ts.take k) (ts.drop k) = e := by
 rw [List.drop_eq_getElem_cons h, tollsErr, if_neg (by rw [he]; exact h0), he]
theorem headsOf_append (a b : List PayerV) : headsOf (a ++ b) = headsOf a + headsOf b := by
 induction a with
 | nil => simp [headsOf]
 | cons x a ih => simp only [List.cons_append, headsOf, ih]; omega
theorem headsOf_take {ps : List PayerV} {k : Nat} (h : k < ps.length) : headsOf (ps.take (k + 1)) = headsOf (ps.take k) + ps[k].heads := by
 rw [List.take_succ_eq_append_getElem h, headsOf_append]; simp [headsOf]
theorem headsOf_bounds {ps : List PayerV} (h : ps.all payerFine = true) : 0 ≤ headsOf ps ∧ headsOf ps ≤ 40 * (ps.length : Int) := by
 induction ps with
 | nil => simp [headsOf]
 | cons p l ih =>
  simp only [List.all_cons, Bool.and_eq_true] at h; obtain ⟨h1, h2⟩ := h; have := ih h2; simp only [payerFine, Bool.and_eq_true] at h1; have h3 := btw_true.1 h1.1; simp only [headsOf, List.length_cons]
  push_cast
  omega
def TriAt {α : Type} (f : α → Value × Value × Value) (w : World) (a : Option Addr) (l : List α) : Prop :=
 l = [] ∨ ∃ b o, a = some ⟨b, o, none⟩ ∧ ∀ (i : Nat) (h : i < l.length), w.cell? ⟨b, o + i * 3, none⟩ = some (f l[i]).1 ∧ w.cell? ⟨b, o + i * 3 + 1, none⟩ = some (f l[i]).2.1 ∧ w.cell? ⟨b, o + i * 3 + 2, none⟩ = some (f l[i]).2.2
theorem TriAt.below {α : Type} {f : α → Value × Value × Value} {w w' : World} {a : Option Addr} {l : List α} (h : TriAt f w a l) (hb : Below w.heap.size w w') : TriAt f w' a l := by
 rcases h with h | ⟨b, o, ha, h⟩
 ·exact .inl h
 ·exact .inr ⟨b, o, ha, fun i hi => ⟨((bcell hb).1 _ _ (lt_of_cell (h i hi).1)).trans (h i hi).1, ((bcell hb).1 _ _ (lt_of_cell (h i hi).2.1)).trans (h i hi).2.1, ((bcell hb).1 _ _ (lt_of_cell (h i hi).2.2)).trans (h i hi).2.2⟩⟩
theorem TriAt.at {α : Type} {f : α → Value × Value × Value} {w : World} {a : Option Addr} {l : List α} (h : TriAt f w a l) {i : Nat} (hi : i < l.length) : ∃ b o, a = some ⟨b, o, none⟩ ∧ w.cell? ⟨b, o + i * 3, none⟩ = some (f l[i]).1 ∧ w.cell? ⟨b, o + i * 3 + 1, none⟩ = some (f l[i]).2.1 ∧ w.cell? ⟨b, o + i * 3 + 2, none⟩ = some (f l[i]).2.2 := by
 rcases h with rfl | ⟨b, o, ha, h⟩
 ·simp at hi
 ·exact ⟨b, o, ha, h i hi⟩
def payC (p : PayerV) : Value × Value × Value := (.int .i64 p.heads, .int .i64 p.free, .bool p.half)
def tollC (x : TollV) : Value × Value × Value := (.int .i64 x.strip, .int .i64 x.rate, .int .i64 x.farmer)
def passC (x : PassV) : Value × Value × Value := (.int .i64 x.toll, .int .i64 x.owner, .int .i64 x.heads)
abbrev PayersAt := TriAt payC
abbrev TollsAt := TriAt tollC
abbrev PassAt := TriAt passC
structure TarS where
 sa : Option Addr
 sc : Nat
 pa : Option Addr
 pc : Nat
 ta : Option Addr
 tc : Nat
def tarC (t : TariffV) (s : TarS) : Array Value := #[.int .i64 t.roads.days, .int .i64 t.roads.stages, .slice s.sa t.roads.strips.length s.sc, .int .i64 t.pace, .slice s.pa t.payers.length s.pc, .slice s.ta t.tolls.length s.tc]
structure TarIn (w : World) (t : TariffV) (s : TarS) : Prop where
 strips : StripsAt w s.sa t.roads.strips
 payers : PayersAt w s.pa t.payers
 tolls : TollsAt w s.ta t.tolls
 ls : t.roads.strips.length ≤ maxLen
 lp : t.payers.length ≤ maxLen
 lt : t.tolls.length ≤ maxLen
 qp : t.payers.length ≤ s.pc
 qt : t.tolls.length ≤ s.tc
theorem TarIn.below {w w' : World} {t : TariffV} {s : TarS} (h : TarIn w t s) (hb : Below w.heap.size w w') : TarIn w' t s := ⟨h.strips.below hb, h.payers.below hb, h.tolls.below hb, h.ls, h.lp, h.lt, h.qp, h.qt⟩
theorem tbetween_any (n lo hi : Int) (w : World) :
  Calls Try.prog 86 #[.int .i64 n, .int .i64 lo, .int .i64 hi] w fun e w' => e = .returned (.bool (btw n lo hi)) ∧ w = w' := by
 by_cases h : lo ≤ n
 ·go_enter Try.func86, Try.ntmps86
  go_wp2
  go_ret
  exact ⟨by simp [h, btw], rfl⟩
 ·go_enter Try.func86, Try.ntmps86
  go_wp2
  go_ret
  exact ⟨by simp [btw]; omega, rfl⟩
theorem few_any (n lo hi : Int) (w : World) :
  Calls Try.prog 87 #[.int .i64 n, .int .i64 lo, .int .i64 hi] w fun e w' => e = .returned (.int .i64 (fewV n lo hi)) ∧ w = w' := by
 by_cases h : n < lo
 ·go_enter Try.func87, Try.ntmps87
  go_wp2
  go_ret
  exact ⟨ret_int (by simp [h, fewV]), rfl⟩
 ·by_cases h2 : hi < n
  ·go_enter Try.func87, Try.ntmps87
   go_wp2
   go_ret
   exact ⟨ret_int (by simp [h, h2, fewV]), rfl⟩
  ·go_enter Try.func87, Try.ntmps87
   go_wp2
   go_ret
   exact ⟨ret_int (by unfold fewV; rw [if_neg (by omega), if_neg (by omega)]), rfl⟩
theorem Sl.entry0 {n : Nat} : Sl (⟨#[] ++ Array.replicate (n - 0) undef, []⟩ : Act) n [] := ⟨by simp, rfl, fun t v h => by simp at h⟩
theorem Sl.entry1 {n : Nat} (x : Value) (hn : 1 ≤ n) : Sl (⟨#[x] ++ Array.replicate (n - 1) undef, []⟩ : Act) n [(0, x)] := Sl.entryC1 x hn
theorem Sl.entry2 {n : Nat} (x y : Value) (hn : 2 ≤ n) : Sl (⟨#[x, y] ++ Array.replicate (n - 2) undef, []⟩ : Act) n [(0, x), (1, y)] := Sl.entryC2 x y hn
theorem Sl.entry3 {n : Nat} (x y z : Value) (hn : 3 ≤ n) : Sl (⟨#[x, y, z] ++ Array.replicate (n - 3) undef, []⟩ : Act) n [(0, x), (1, y), (2, z)] := Sl.entryC3 x y z hn
theorem Sl.entry4 {n : Nat} (x y z u : Value) (hn : 4 ≤ n) : Sl (⟨#[x, y, z, u] ++ Array.replicate (n - 4) undef, []⟩ : Act) n [(0, x), (1, y), (2, z), (3, u)] := Sl.entryC4 x y z u hn
theorem lookup_zip : ∀ (vs : List Value) (k t : Nat) (v : Value), ((vs.zipIdx k).map fun q => (q.2, q.1)).lookup t = some v → k ≤ t ∧ vs[t - k]? = some v
 | [], k, t, v, h => by simp at h
 | x :: vs, k, t, v, h => by
  rw [List.zipIdx_cons, List.map_cons, List.lookup_cons] at h
  by_cases e : t = k
  ·subst e; simp at h; exact ⟨Nat.le_refl _, by simp [h]⟩
  ·have e2 : (t == k) = false := by simpa using e
   rw [e2] at h; obtain ⟨h1, h2⟩ := lookup_zip vs (k + 1) t v h; exact ⟨by omega, by rw [show t - k = (t - (k + 1)) + 1 by omega]; simpa using h2⟩
theorem Sl.entryL (vs : List Value) {n : Nat} (hn : vs.length ≤ n) : Sl (⟨vs.toArray ++ Array.replicate (n - vs.length) undef, []⟩ : Act) n ((vs.zipIdx 0).map fun q => (q.2, q.1)) := by
 refine ⟨by simp; omega, rfl, fun t v h => ?_⟩; obtain ⟨_, h2⟩ := lookup_zip vs 0 t v h; rw [Nat.sub_zero] at h2; have hlt : t < vs.length := (List.getElem?_eq_some_iff.1 h2).1; rw [Array.getElem?_append_left (by simpa using hlt)]
 simpa using h2
theorem alloc_rwB {w : World} {c : Array Value} {t : TypeId} {G : World → Prop} (h : ∀ W, W.heap.size = w.heap.size + 1 → Rw W w.heap.size c t → Below w.heap.size w W → G W) : G (w.alloc (.cells c t)) := h _ (by simp) (Rw.new _ _ _) (alloc_below _ _)
end
end Go.Proofs.Ytgdobbcjkiapkaa
