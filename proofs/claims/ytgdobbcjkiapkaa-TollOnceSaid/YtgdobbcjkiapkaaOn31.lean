import Derived.Test.YtgdobbcjkiapkaaOn04
import Derived.Test.YtgdobbcjkiapkaaOn30
namespace Go.Proofs.Ytgdobbcjkiapkaa
set_option maxRecDepth 100000
set_option maxHeartbeats 4000000
set_option linter.unusedSimpArgs false
set_option linter.unusedVariables false
section
open Go.RowKit
def cmpZ (a b : Int) : Int := if a < b then -1 else if b < a then 1 else 0
def cmpI : List Int → List Int → Int
 | [], [] => 0
 | [], _ :: _ => -1
 | _ :: _, [] => 1
 | x :: a, y :: b => if cmpZ x y ≠ 0 then cmpZ x y else cmpI a b
def orV : List Int → Int
 | [] => 0
 | x :: l => if x ≠ 0 then x else orV l
theorem orV_hit {l : List Int} {k : Nat} (h : k < l.length) (h0 : ¬ l[k] = 0) : orV (l.drop k) = l[k] := by rw [List.drop_eq_getElem_cons h, orV, if_pos h0]
theorem orV_next {l : List Int} {k : Nat} (h : k < l.length) (h0 : l[k] = 0) : orV (l.drop k) = orV (l.drop (k + 1)) := by rw [List.drop_eq_getElem_cons h, orV, if_neg (by simp [h0])]
theorem cmpI_long {a b : List Int} {k : Nat} (h : k < a.length) (h2 : ¬ k < b.length) : cmpI (a.drop k) (b.drop k) = 1 := by rw [List.drop_eq_getElem_cons h, show b.drop k = [] from List.drop_of_length_le (by omega)]; rfl
theorem cmpI_hit {a b : List Int} {k : Nat} (h : k < a.length) (h2 : k < b.length) (h0 : ¬ cmpZ a[k] b[k] = 0) : cmpI (a.drop k) (b.drop k) = cmpZ a[k] b[k] := by rw [List.drop_eq_getElem_cons h, List.drop_eq_getElem_cons h2, cmpI, if_pos h0]
theorem cmpI_next {a b : List Int} {k : Nat} (h : k < a.length) (h2 : k < b.length) (h0 : cmpZ a[k] b[k] = 0) : cmpI (a.drop k) (b.drop k) = cmpI (a.drop (k + 1)) (b.drop (k + 1)) := by
 rw [List.drop_eq_getElem_cons h, List.drop_eq_getElem_cons h2]
 conv => lhs; rw [cmpI, if_neg (by simp [h0])]
theorem cmpI_end {a b : List Int} (h : a.length < b.length) : cmpI (a.drop a.length) (b.drop a.length) = -1 := by rw [List.drop_of_length_le (Nat.le_refl _), List.drop_eq_getElem_cons h]; rfl
theorem cmpI_same {a b : List Int} (h : ¬ a.length < b.length) : cmpI (a.drop a.length) (b.drop a.length) = 0 := by rw [List.drop_of_length_le (Nat.le_refl _), List.drop_of_length_le (by omega)]; rfl
def cmpC (a b : ChainV) : Int := orV [cmpZ a.coins b.coins, cmpZ a.leagues b.leagues, cmpZ a.way.length b.way.length, cmpI a.way b.way]
theorem isnan_body : Try.f137.body = some (Code.seq (regionIn Try.f137 0) (Code.seq (regionIn Try.f137 1) Code.ret)) := by kernel_rfl
theorem isNaN_any {w : World} {x : Int} : Calls Try.prog 137 #[.int .i64 x] w (fun e w' => e = .returned (.bool false) ∧ w' = w) := by
 refine call1 Try.func137 isnan_body Try.ntmps137 ?_; intro a hsl; refine wsr ?_; refine hsl.s ?_; clear hsl; intro a hsl; refine od ?_; refine wsr ?_; (iterate 4 refine hsl.s ?_; clear hsl; intro a hsl); refine od ?_; refine wp_ret ?_
 try simp only [Exit.then, Exit.inBlock]
 refine bodyPost_ret (v := .bool false) ?_ hsl.defers ⟨rfl, rfl⟩; simp [results, Try.results137, hsl.get 2 _ rfl]
theorem ccmp_body : Try.f129.body = some (Code.seq (regionIn Try.f129 0) (Code.seq (regionIn Try.f129 1) (Code.seq (regionIn Try.f129 2) (Code.seq (Code.seq (regionIn Try.f129 3) (Code.cond (Operand.tmp 11) (Code.seq (Code.seq (regionIn Try.f129 4) (Code.cond (Operand.tmp 12) (Code.seq (regionIn Try.f129 5) Code.ret) Code.skip)) (Code.seq (regionIn Try.f129 6) Code.ret)) Code.skip)) (Code.seq (Code.seq (regionIn Try.f129 7) (Code.cond (Operand.tmp 13) (Code.seq (regionIn Try.f129 8) Code.ret) Code.skip)) (Code.seq (Code.seq (regionIn Try.f129 9) (Code.cond (Operand.tmp 16) (Code.seq (regionIn Try.f129 10) Code.ret) Code.skip)) (Code.seq (Code.seq (regionIn Try.f129 11) (Code.cond (Operand.tmp 19) (Code.seq (regionIn Try.f129 12) Code.ret) Code.skip)) (Code.seq (regionIn Try.f129 13) Code.ret)))))))) := by kernel_rfl
theorem compare_any {w : World} {x y : Int} : Calls Try.prog 129 #[.int .i64 x, .int .i64 y] w (fun e w' => e = .returned (.int .i64 (cmpZ x y)) ∧ w' = w) := by
 refine call2 Try.func129 ccmp_body Try.ntmps129 ?_; intro a hsl; refine wsr ?_; refine hsl.s ?_; clear hsl; intro a hsl; refine od ?_; refine wsr ?_; refine hsl.s ?_; clear hsl; intro a hsl; refine og fun K hK => ?_
 have e7 := hsl.g 7; unfold Oper.wp; go_simp; refine isNaN_any.mono ?_; rintro e W ⟨rfl, rfl⟩; clear e7; refine hsl.K hK ?_; clear hsl hK; intro a hsl; refine hsl.s ?_; clear hsl; intro a hsl; refine od ?_; refine wsr ?_; refine hsl.s ?_; clear hsl; intro a hsl; refine og fun K hK => ?_
 have e9 := hsl.g 9; unfold Oper.wp; go_simp; refine isNaN_any.mono ?_; rintro e W ⟨rfl, rfl⟩; clear e9; refine hsl.K hK ?_; clear hsl hK; intro a hsl; refine hsl.s ?_; clear hsl; intro a hsl; refine od ?_; refine wp_seq ?_; refine wsr ?_; refine hsl.s ?_; clear hsl; intro a hsl; refine od ?_; refine wp_cond_false (hsl.ev 11 rfl) ?_; refine wp_skip ?_; refine wp_seq ?_; refine wsr ?_; refine hsl.s ?_; clear hsl; intro a hsl; refine od ?_; refine wp_cond_false (hsl.ev 13 rfl) ?_; refine wp_skip ?_; refine wp_seq ?_; refine wsr ?_; (iterate 2 refine hsl.s ?_; clear hsl; intro a hsl)
 by_cases h1 : x < y
 ·have hR := Lib.hid (show cmpZ x y = -1 from by unfold cmpZ; rw [if_pos h1]); refine hsl.s ?_; clear hsl; intro a hsl; refine od ?_; refine wp_cond_true (hsl.ev 16 rfl) ?_; refine wsr ?_; refine hsl.s ?_; clear hsl; intro a hsl; refine od ?_; refine wp_ret ?_
  try simp only [Exit.then, Exit.inBlock]
  refine bodyPost_ret (v := .int .i64 (cmpZ x y)) ?_ hsl.defers ⟨rfl, rfl⟩; rw [hR.out]; simp [results, Try.results129, hsl.get 4 _ rfl]
 ·have H1 := Lib.hid h1; refine hsl.s ?_; clear hsl; intro a hsl; refine od ?_; refine wp_cond_false (hsl.ev 16 rfl) ?_; refine wp_skip ?_; refine wp_seq ?_; refine wsr ?_; (iterate 2 refine hsl.s ?_; clear hsl; intro a hsl)
  by_cases h2 : y < x
  ·have hR := Lib.hid (show cmpZ x y = 1 from by unfold cmpZ; rw [if_neg H1.out, if_pos h2]); refine hsl.s ?_; clear hsl; intro a hsl; refine od ?_; refine wp_cond_true (hsl.ev 19 rfl) ?_; refine wsr ?_; refine hsl.s ?_; clear hsl; intro a hsl; refine od ?_; refine wp_ret ?_
   try simp only [Exit.then, Exit.inBlock]
   refine bodyPost_ret (v := .int .i64 (cmpZ x y)) ?_ hsl.defers ⟨rfl, rfl⟩; rw [hR.out]; simp [results, Try.results129, hsl.get 4 _ rfl]
  ·have hR := Lib.hid (show cmpZ x y = 0 from by unfold cmpZ; rw [if_neg H1.out, if_neg h2]); refine hsl.s ?_; clear hsl; intro a hsl; refine od ?_; refine wp_cond_false (hsl.ev 19 rfl) ?_; refine wp_skip ?_; refine wsr ?_; refine hsl.s ?_; clear hsl; intro a hsl; refine od ?_; refine wp_ret ?_
   try simp only [Exit.then, Exit.inBlock]
   refine bodyPost_ret (v := .int .i64 (cmpZ x y)) ?_ hsl.defers ⟨rfl, rfl⟩; rw [hR.out]; simp [results, Try.results129, hsl.get 4 _ rfl]
theorem cor_body : Try.f128.body = some (Code.seq (regionIn Try.f128 0) (Code.seq (regionIn Try.f128 1) (Code.seq (Code.seq (regionIn Try.f128 2) (Code.block 0 (Code.loop (Code.seq (regionIn Try.f128 3) (Code.seq (Code.cond (Operand.tmp 9) Code.skip (Code.exit 0)) (Code.seq (Code.block 1 (Code.seq (regionIn Try.f128 4) (Code.seq (regionIn Try.f128 5) (Code.cond (Operand.tmp 14) (Code.seq (regionIn Try.f128 6) Code.ret) Code.skip)))) (regionIn Try.f128 7))))))) (Code.seq (regionIn Try.f128 8) Code.ret)))) := by kernel_rfl
theorem or_any {w : World} {la : Option Addr} {cap : Nat} {l : List Int} (hl : IntsAt w la l) (hn : l.length ≤ 1000) : Calls Try.prog 128 #[.slice la l.length cap] w (fun e w' => e = .returned (.int .i64 (orV l)) ∧ w' = w) := by
 refine call1 Try.func128 cor_body Try.ntmps128 ?_; intro a hsl; refine wsr ?_; refine hsl.s ?_; clear hsl; intro a hsl; refine od ?_; refine wsr ?_; refine hsl.s ?_; clear hsl; intro a hsl; refine od ?_; refine wp_seq ?_; refine wsr ?_; (iterate 3 refine hsl.s ?_; clear hsl; intro a hsl); refine od ?_; refine wp_block ?_; refine wp_loop_ghost (fun n p W => W = w ∧ ∃ k : Nat, k + n = l.length ∧ orV (l.drop k) = orV l ∧ Sl p 18 [(3, .int .i64 0), (6, .slice la l.length cap), (7, .int .i64 (l.length : Int)), (8, .int .i64 (k : Int))]) l.length ⟨rfl, 0, by omega, rfl, hsl.sb⟩ ?_; clear hsl; rintro n p W ⟨rfl, k, hkn, hE, hsl⟩; have HE := Lib.hid hE; clear hE; refine wsr ?_
 by_cases hlt : k < l.length
 ·have q1 : (k : Int) < (l.length : Int) := by omega
  obtain ⟨pb, po, hpa, p0⟩ := hl.at hlt; rw [hpa] at hsl; refine hsl.s ?_; clear hsl; intro a hsl; refine od ?_; refine wp_seq ?_; refine wp_cond_true (hsl.ev 9 rfl) ?_; refine wp_skip ?_; refine wp_seq ?_; refine wp_block ?_; refine wsr ?_; (iterate 3 refine hsl.s ?_; clear hsl; intro a hsl); refine od ?_; refine wsr ?_; (iterate 2 refine hsl.s ?_; clear hsl; intro a hsl)
  by_cases h1 : l[k] = 0
  ·have hb := bne_falseI h1; refine hsl.s ?_; clear hsl; intro a hsl; refine od ?_; refine wp_cond_false (hsl.ev 14 rfl) ?_; refine wp_skip ?_; refine wr ?_; refine og fun K hK => ?_
   have e8 := hsl.g 8; have hw := add_one k (by omega); unfold Oper.wp; go_simp; clear e8; refine hsl.K hK ?_; clear hsl hK; intro a hsl; refine hsl.s ?_; clear hsl; intro a hsl; refine od ?_; show Exists _; exact ⟨n - 1, by omega, by trivial, k + 1, by omega, (orV_next hlt h1).symm.trans HE.out, by rw [hpa]; exact hsl.sb⟩
  ·have hb := bne_trueI h1; have hR := Lib.hid (HE.out.symm.trans (orV_hit hlt h1)); refine hsl.s ?_; clear hsl; intro a hsl; refine od ?_; refine wp_cond_true (hsl.ev 14 rfl) ?_; refine wsr ?_; (iterate 2 refine hsl.s ?_; clear hsl; intro a hsl); refine od ?_; refine wp_ret ?_
   try simp only [Exit.then, Exit.inBlock]
   refine bodyPost_ret (v := .int .i64 (orV l)) ?_ hsl.defers ⟨rfl, rfl⟩; rw [hR.out]; simp [results, Try.results128, hsl.get 2 _ rfl]
 ·obtain rfl : k = l.length := by omega
  refine hsl.s ?_; clear hsl; intro a hsl; refine od ?_; refine wp_seq ?_; refine wp_cond_false (hsl.ev 9 rfl) ?_; refine wp_exit ?_; have hR := Lib.hid (show orV l = 0 from by rw [← HE.out, List.drop_of_length_le (Nat.le_refl _)]; rfl); refine wsr ?_; (iterate 2 refine hsl.s ?_; clear hsl; intro a hsl); refine od ?_; refine wp_ret ?_
  try simp only [Exit.then, Exit.inBlock]
  refine bodyPost_ret (v := .int .i64 (orV l)) ?_ hsl.defers ⟨rfl, rfl⟩; rw [hR.out]; simp [results, Try.results128, hsl.get 2 _ rfl]
theorem scmp_body : Try.f130.body = some (Code.seq (regionIn Try.f130 0) (Code.seq (Code.seq (regionIn Try.f130 1) (Code.block 0 (Code.loop (Code.seq (regionIn Try.f130 2) (Code.seq (Code.cond (Operand.tmp 12) Code.skip (Code.exit 0)) (Code.seq (Code.block 1 (Code.seq (regionIn Try.f130 3) (Code.seq (Code.seq (regionIn Try.f130 4) (Code.cond (Operand.tmp 19) (Code.seq (regionIn Try.f130 5) Code.ret) Code.skip)) (Code.seq (regionIn Try.f130 6) (Code.seq (regionIn Try.f130 7) (Code.seq (regionIn Try.f130 8) (Code.cond (Operand.tmp 28) (Code.seq (regionIn Try.f130 9) Code.ret) Code.skip))))))) (regionIn Try.f130 10))))))) (Code.seq (Code.seq (regionIn Try.f130 11) (Code.cond (Operand.tmp 35) (Code.seq (regionIn Try.f130 12) Code.ret) Code.skip)) (Code.seq (regionIn Try.f130 13) Code.ret)))) := by kernel_rfl
theorem scompare_any {w : World} {la lb : Option Addr} {ca cb : Nat} {l m : List Int} (hl : IntsAt w la l) (hm : IntsAt w lb m) (hn : l.length ≤ 100000) : Calls Try.prog 130 #[.slice la l.length ca, .slice lb m.length cb] w (fun e w' => e = .returned (.int .i64 (cmpI l m)) ∧ w' = w) := by
 refine call2 Try.func130 scmp_body Try.ntmps130 ?_; intro a hsl; refine wsr ?_; refine hsl.s ?_; clear hsl; intro a hsl; refine od ?_; refine wp_seq ?_; refine wsr ?_; (iterate 3 refine hsl.s ?_; clear hsl; intro a hsl); refine od ?_; refine wp_block ?_; refine wp_loop_ghost (fun n p W => W = w ∧ ∃ k : Nat, k + n = l.length ∧ cmpI (l.drop k) (m.drop k) = cmpI l m ∧ Sl p 36 [(0, .slice la l.length ca), (1, .slice lb m.length cb), (9, .slice la l.length ca), (10, .int .i64 (l.length : Int)), (11, .int .i64 (k : Int))]) l.length ⟨rfl, 0, by omega, rfl, hsl.sb⟩ ?_; clear hsl; rintro n p W ⟨rfl, k, hkn, hE, hsl⟩; have HE := Lib.hid hE; clear hE; refine wsr ?_
 by_cases hlt : k < l.length
 ·have q1 : (k : Int) < (l.length : Int) := by omega
  obtain ⟨pb, po, hpa, p0⟩ := hl.at hlt; rw [hpa] at hsl; refine hsl.s ?_; clear hsl; intro a hsl; refine od ?_; refine wp_seq ?_; refine wp_cond_true (hsl.ev 12 rfl) ?_; refine wp_skip ?_; refine wp_seq ?_; refine wp_block ?_; refine wsr ?_; (iterate 5 refine hsl.s ?_; clear hsl; intro a hsl); refine od ?_; refine wp_seq ?_; refine wsr ?_; (iterate 3 refine hsl.s ?_; clear hsl; intro a hsl)
  by_cases h1 : k < m.length
  ·have q2 : ¬ (m.length : Int) ≤ (k : Int) := by omega
   have q3 : (k : Int) < (m.length : Int) := by omega
   obtain ⟨qb, qo, hqa, r0⟩ := hm.at h1; rw [hqa] at hsl; refine hsl.s ?_; clear hsl; intro a hsl; refine od ?_; refine wp_cond_false (hsl.ev 19 rfl) ?_; refine wp_skip ?_; refine wsr ?_; (iterate 5 refine hsl.s ?_; clear hsl; intro a hsl); refine od ?_; refine wsr ?_; (iterate 2 refine hsl.s ?_; clear hsl; intro a hsl); refine og fun K hK => ?_
   have e24 := hsl.g 24; have e25 := hsl.g 25; unfold Oper.wp; go_simp; refine compare_any.mono ?_; rintro e W ⟨rfl, rfl⟩; clear e24 e25; refine hsl.K hK ?_; clear hsl hK; intro a hsl; refine hsl.s ?_; clear hsl; intro a hsl; refine od ?_; refine wsr ?_; refine hsl.s ?_; clear hsl; intro a hsl
   by_cases h2 : cmpZ l[k] m[k] = 0
   ·have hb := bne_falseI h2; refine hsl.s ?_; clear hsl; intro a hsl; refine od ?_; refine wp_cond_false (hsl.ev 28 rfl) ?_; refine wp_skip ?_; refine wr ?_; refine og fun K hK => ?_
    have e11 := hsl.g 11; have hw := add_one k (by omega); unfold Oper.wp; go_simp; clear e11; refine hsl.K hK ?_; clear hsl hK; intro a hsl; refine hsl.s ?_; clear hsl; intro a hsl; refine od ?_; show Exists _; exact ⟨n - 1, by omega, by trivial, k + 1, by omega, (cmpI_next hlt h1 h2).symm.trans HE.out, by rw [hpa, hqa]; exact hsl.sb⟩
   ·have hb := bne_trueI h2; have hR := Lib.hid (HE.out.symm.trans (cmpI_hit hlt h1 h2)); refine hsl.s ?_; clear hsl; intro a hsl; refine od ?_; refine wp_cond_true (hsl.ev 28 rfl) ?_; refine wsr ?_; (iterate 2 refine hsl.s ?_; clear hsl; intro a hsl); refine od ?_; refine wp_ret ?_
    try simp only [Exit.then, Exit.inBlock]
    refine bodyPost_ret (v := .int .i64 (cmpI l m)) ?_ hsl.defers ⟨rfl, rfl⟩; rw [hR.out]; simp [results, Try.results130, hsl.get 4 _ rfl]
  ·have q2 : (m.length : Int) ≤ (k : Int) := by omega
   have hR := Lib.hid (HE.out.symm.trans (cmpI_long hlt h1)); refine hsl.s ?_; clear hsl; intro a hsl; refine od ?_; refine wp_cond_true (hsl.ev 19 rfl) ?_; refine wsr ?_; refine hsl.s ?_; clear hsl; intro a hsl; refine od ?_; refine wp_ret ?_
   try simp only [Exit.then, Exit.inBlock]
   refine bodyPost_ret (v := .int .i64 (cmpI l m)) ?_ hsl.defers ⟨rfl, rfl⟩; rw [hR.out]; simp [results, Try.results130, hsl.get 4 _ rfl]
 ·obtain rfl : k = l.length := by omega
  refine hsl.s ?_; clear hsl; intro a hsl; refine od ?_; refine wp_seq ?_; refine wp_cond_false (hsl.ev 12 rfl) ?_; refine wp_exit ?_; refine wp_seq ?_; refine wsr ?_; (iterate 4 refine hsl.s ?_; clear hsl; intro a hsl)
  by_cases h3 : l.length < m.length
  ·have q2 : (l.length : Int) < (m.length : Int) := by omega
   have hR := Lib.hid (HE.out.symm.trans (cmpI_end h3)); refine hsl.s ?_; clear hsl; intro a hsl; refine od ?_; refine wp_cond_true (hsl.ev 35 rfl) ?_; refine wsr ?_; refine hsl.s ?_; clear hsl; intro a hsl; refine od ?_; refine wp_ret ?_
   try simp only [Exit.then, Exit.inBlock]
   refine bodyPost_ret (v := .int .i64 (cmpI l m)) ?_ hsl.defers ⟨rfl, rfl⟩; rw [hR.out]; simp [results, Try.results130, hsl.get 4 _ rfl]
  ·have q2 : ¬ (l.length : Int) < (m.length : Int) := by omega
   have hR := Lib.hid (HE.out.symm.trans (cmpI_same h3)); refine hsl.s ?_; clear hsl; intro a hsl; refine od ?_; refine wp_cond_false (hsl.ev 35 rfl) ?_; refine wp_skip ?_; refine wsr ?_; refine hsl.s ?_; clear hsl; intro a hsl; refine od ?_; refine wp_ret ?_
   try simp only [Exit.then, Exit.inBlock]
   refine bodyPost_ret (v := .int .i64 (cmpI l m)) ?_ hsl.defers ⟨rfl, rfl⟩; rw [hR.out]; simp [results, Try.results130, hsl.get 4 _ rfl]
theorem tcheap1_body : Try.f127.body = some (Code.seq (regionIn Try.f127 0) (Code.seq (regionIn Try.f127 1) Code.ret)) := by kernel_rfl
structure Ch1 (W x : World) (b2 b3 : Nat) (aa ab : Option Addr) (ca cb : Nat) (a b : ChainV) : Prop where
 below : Below W.heap.size W x
 k2 : Rw x b2 #[.slice aa a.way.length ca, .int .i64 a.coins, .int .i64 a.leagues] 149
 k3 : Rw x b3 #[.slice ab b.way.length cb, .int .i64 b.coins, .int .i64 b.leagues] 149
theorem Ch1.keep {W x x2 : World} {b2 b3 : Nat} {aa ab : Option Addr} {ca cb : Nat} {a b : ChainV} (h : Ch1 W x b2 b3 aa ab ca cb a b) (hb : Below x.heap.size x x2) : Ch1 W x2 b2 b3 aa ab ca cb a b := ⟨h.below.trans (hb.mono h.below.size), h.k2.below hb, h.k3.below hb⟩
theorem cheap1_any {w : World} {aa ab : Option Addr} {ca cb : Nat} {a b : ChainV} (ha : IntsAt w aa a.way) (hb : IntsAt w ab b.way) (hn : a.way.length ≤ 100000) : Calls Try.prog 127 #[.agg #[.slice aa a.way.length ca, .int .i64 a.coins, .int .i64 a.leagues], .agg #[.slice ab b.way.length cb, .int .i64 b.coins, .int .i64 b.leagues]] w (fun e w' => e = .returned (.int .i64 (cmpC a b)) ∧ Below w.heap.size w w') := by
 have HA := Lib.hid ha; have HB := Lib.hid hb; clear ha hb; refine calls_of_wp Try.func127 tcheap1_body ?_; have hsl : Sl (⟨#[.agg #[.slice aa a.way.length ca, .int .i64 a.coins, .int .i64 a.leagues], .agg #[.slice ab b.way.length cb, .int .i64 b.coins, .int .i64 b.leagues]] ++ Array.replicate (Try.f127.ntmps - (#[.agg #[.slice aa a.way.length ca, .int .i64 a.coins, .int .i64 a.leagues], .agg #[.slice ab b.way.length cb, .int .i64 b.coins, .int .i64 b.leagues]] : Array Value).size) undef, []⟩ : Act) 29 [(0, .agg #[.slice aa a.way.length ca, .int .i64 a.coins, .int .i64 a.leagues]), (1, .agg #[.slice ab b.way.length cb, .int .i64 b.coins, .int .i64 b.leagues])] := by rw [Try.ntmps127]; exact Sl.entry2 _ _ (by omega)
 revert hsl; generalize (Act.mk _ _) = a0; intro hsl; refine wsr ?_; refine og fun K hK => ?_
 have e0 := hsl.g 0; unfold Oper.wp; go_simp; clear e0; refine hsl.k hK (by decide) ?_; clear hsl hK; intro a0 hsl; refine alloc_rwB (G := fun W => wpOps _ _ _ _ _ W) ?_; obtain ⟨b2, hg⟩ : ∃ g, g = w.heap.size := ⟨_, rfl⟩; intro x hz X2 hbb; rw [← hg] at hsl X2; clear hg hz; refine og fun K hK => ?_
 have e1 := hsl.g 1; unfold Oper.wp; go_simp; clear e1; refine hsl.k hK (by decide) ?_; clear hsl hK; intro a0 hsl; refine alloc_rwB (G := fun W => wpOps _ _ _ _ _ W) ?_; obtain ⟨b3, hg⟩ : ∃ g, g = x.heap.size := ⟨_, rfl⟩; intro x hz X3 hb2; rw [← hg] at hsl X3; have hI : Ch1 w x b2 b3 aa ab ca cb a b := ⟨hbb.trans (hb2.mono hbb.size), X2.below hb2, X3⟩; clear hg hz hbb X2 X3 hb2; refine hsl.co rfl rfl (.inr rfl) rfl (by decide) ?_; clear hsl; intro a0 hsl; refine od ?_; refine wp_seq ?_; rw [show regionIn Try.f127 1 = Code.region 1 _ true from rfl]
 refine wp_region_sl (by kernel_rfl) (((hsl.nil.cons (hsl.get 3 _ rfl)).cons (hsl.get 2 _ rfl))) [some 5, some 6, some 7, some 8, some 9, some 10, some 11, some 12, some 13, some 14, some 15, some 16, some 17, some 18, some 19, some 20, some 21, some 22, some 23, some 24, some 25, some 26, some 27, some 28, some 4] rfl rfl (by kernel_rfl) (fun j v x => match j with | 0 => v = .pointer (some ⟨b2, 1, none⟩) | 1 => v = .int .i64 a.coins | 2 => v = .pointer (some ⟨b3, 1, none⟩) | 3 => v = .int .i64 b.coins | 4 => v = .int .i64 (cmpZ a.coins b.coins) | 5 => v = .pointer (some ⟨b2, 2, none⟩) | 6 => v = .int .i64 a.leagues | 7 => v = .pointer (some ⟨b3, 2, none⟩) | 8 => v = .int .i64 b.leagues | 9 => v = .int .i64 (cmpZ a.leagues b.leagues) | 10 => v = .pointer (some ⟨b2, 0, none⟩) | 11 => v = .slice aa a.way.length ca | 12 => v = .int .i64 (a.way.length : Int) | 13 => v = .pointer (some ⟨b3, 0, none⟩) | 14 => v = .slice ab b.way.length cb | 15 => v = .int .i64 (b.way.length : Int) | 16 => v = .int .i64 (cmpZ a.way.length b.way.length) | 17 => v = .pointer (some ⟨b2, 0, none⟩) | 18 => v = .slice aa a.way.length ca | 19 => v = .pointer (some ⟨b3, 0, none⟩) | 20 => v = .slice ab b.way.length cb | 21 => v = .int .i64 (cmpI a.way b.way) | 22 => (∃ g, v = .slice (some ⟨g, 0, none⟩) 4 4 ∧ IntsAt x (some ⟨g, 0, none⟩) [cmpZ a.coins b.coins, cmpZ a.leagues b.leagues, cmpZ a.way.length b.way.length, cmpI a.way b.way]) | 23 => v = .int .i64 (cmpC a b) | 24 => v = .int .i64 (cmpC a b) | _ => True) (fun _ x => Ch1 w x b2 b3 aa ab ca cb a b) (hI.keep (Below.refl _ _).drew) ?_ ?_
 ·clear hsl hI; intro k2 o hkl ho L a2 x hI hLk hsl hs hd; have hlt3 : ∀ k : Nat, k < 25 → k = 0 ∨ k = 1 ∨ k = 2 ∨ k = 3 ∨ k = 4 ∨ k = 5 ∨ k = 6 ∨ k = 7 ∨ k = 8 ∨ k = 9 ∨ k = 10 ∨ k = 11 ∨ k = 12 ∨ k = 13 ∨ k = 14 ∨ k = 15 ∨ k = 16 ∨ k = 17 ∨ k = 18 ∨ k = 19 ∨ k = 20 ∨ k = 21 ∨ k = 22 ∨ k = 23 ∨ k = 24 := by decide
  rcases hlt3 k2 hkl with rfl | rfl | rfl | rfl | rfl | rfl | rfl | rfl | rfl | rfl | rfl | rfl | rfl | rfl | rfl | rfl | rfl | rfl | rfl | rfl | rfl | rfl | rfl | rfl | rfl
  ·obtain rfl := Option.some.inj ho; have e2 := hsl.g 2; clear hs hd; refine wg fun K hK => ?_
   unfold Oper.wp; go_simp; exact hK _ _ ⟨_, rfl, rfl, hI, fun _ _ h => h⟩
  ·obtain rfl := Option.some.inj ho; obtain ⟨_, e5, rfl⟩ := hs 0 _ 5 rfl rfl (hd 0 wm); have c := hI.k2.cell (o := 1) rfl; clear hs hd; refine wg fun K hK => ?_
   unfold Oper.wp; go_simp; exact hK _ _ ⟨_, rfl, rfl, hI, fun _ _ h => h⟩
  ·obtain rfl := Option.some.inj ho; have e3 := hsl.g 3; clear hs hd; refine wg fun K hK => ?_
   unfold Oper.wp; go_simp; exact hK _ _ ⟨_, rfl, rfl, hI, fun _ _ h => h⟩
  ·obtain rfl := Option.some.inj ho; obtain ⟨_, e7, rfl⟩ := hs 2 _ 7 rfl rfl (hd 2 wm); have c := hI.k3.cell (o := 1) rfl; clear hs hd; refine wg fun K hK => ?_
   unfold Oper.wp; go_simp; exact hK _ _ ⟨_, rfl, rfl, hI, fun _ _ h => h⟩
  ·obtain rfl := Option.some.inj ho; obtain ⟨_, e6, rfl⟩ := hs 1 _ 6 rfl rfl (hd 1 wm); obtain ⟨_, e8, rfl⟩ := hs 3 _ 8 rfl rfl (hd 3 wm); clear hs hd; refine wg fun K hK => ?_
   unfold Oper.wp; go_simp; refine compare_any.mono ?_; rintro e W ⟨rfl, rfl⟩; exact hK _ _ ⟨_, rfl, rfl, hI, fun _ _ h => h⟩
  ·obtain rfl := Option.some.inj ho; have e2 := hsl.g 2; clear hs hd; refine wg fun K hK => ?_
   unfold Oper.wp; go_simp; exact hK _ _ ⟨_, rfl, rfl, hI, fun _ _ h => h⟩
  ·obtain rfl := Option.some.inj ho; obtain ⟨_, e10, rfl⟩ := hs 5 _ 10 rfl rfl (hd 5 wm); have c := hI.k2.cell (o := 2) rfl; clear hs hd; refine wg fun K hK => ?_
   unfold Oper.wp; go_simp; exact hK _ _ ⟨_, rfl, rfl, hI, fun _ _ h => h⟩
  ·obtain rfl := Option.some.inj ho; have e3 := hsl.g 3; clear hs hd; refine wg fun K hK => ?_
   unfold Oper.wp; go_simp; exact hK _ _ ⟨_, rfl, rfl, hI, fun _ _ h => h⟩
  ·obtain rfl := Option.some.inj ho; obtain ⟨_, e12, rfl⟩ := hs 7 _ 12 rfl rfl (hd 7 wm); have c := hI.k3.cell (o := 2) rfl; clear hs hd; refine wg fun K hK => ?_
   unfold Oper.wp; go_simp; exact hK _ _ ⟨_, rfl, rfl, hI, fun _ _ h => h⟩
  ·obtain rfl := Option.some.inj ho; obtain ⟨_, e11, rfl⟩ := hs 6 _ 11 rfl rfl (hd 6 wm); obtain ⟨_, e13, rfl⟩ := hs 8 _ 13 rfl rfl (hd 8 wm); clear hs hd; refine wg fun K hK => ?_
   unfold Oper.wp; go_simp; refine compare_any.mono ?_; rintro e W ⟨rfl, rfl⟩; exact hK _ _ ⟨_, rfl, rfl, hI, fun _ _ h => h⟩
  ·obtain rfl := Option.some.inj ho; have e2 := hsl.g 2; clear hs hd; refine wg fun K hK => ?_
   unfold Oper.wp; go_simp; exact hK _ _ ⟨_, rfl, rfl, hI, fun _ _ h => h⟩
  ·obtain rfl := Option.some.inj ho; obtain ⟨_, e15, rfl⟩ := hs 10 _ 15 rfl rfl (hd 10 wm); have c := hI.k2.cell (o := 0) rfl; clear hs hd; refine wg fun K hK => ?_
   unfold Oper.wp; go_simp; exact hK _ _ ⟨_, rfl, rfl, hI, fun _ _ h => h⟩
  ·obtain rfl := Option.some.inj ho; obtain ⟨_, e16, rfl⟩ := hs 11 _ 16 rfl rfl (hd 11 wm); clear hs hd; refine wg fun K hK => ?_
   unfold Oper.wp; go_simp; exact hK _ _ ⟨_, rfl, rfl, hI, fun _ _ h => h⟩
  ·obtain rfl := Option.some.inj ho; have e3 := hsl.g 3; clear hs hd; refine wg fun K hK => ?_
   unfold Oper.wp; go_simp; exact hK _ _ ⟨_, rfl, rfl, hI, fun _ _ h => h⟩
  ·obtain rfl := Option.some.inj ho; obtain ⟨_, e18, rfl⟩ := hs 13 _ 18 rfl rfl (hd 13 wm); have c := hI.k3.cell (o := 0) rfl; clear hs hd; refine wg fun K hK => ?_
   unfold Oper.wp; go_simp; exact hK _ _ ⟨_, rfl, rfl, hI, fun _ _ h => h⟩
  ·obtain rfl := Option.some.inj ho; obtain ⟨_, e19, rfl⟩ := hs 14 _ 19 rfl rfl (hd 14 wm); clear hs hd; refine wg fun K hK => ?_
   unfold Oper.wp; go_simp; exact hK _ _ ⟨_, rfl, rfl, hI, fun _ _ h => h⟩
  ·obtain rfl := Option.some.inj ho; obtain ⟨_, e17, rfl⟩ := hs 12 _ 17 rfl rfl (hd 12 wm); obtain ⟨_, e20, rfl⟩ := hs 15 _ 20 rfl rfl (hd 15 wm); clear hs hd; refine wg fun K hK => ?_
   unfold Oper.wp; go_simp; refine compare_any.mono ?_; rintro e W ⟨rfl, rfl⟩; exact hK _ _ ⟨_, rfl, rfl, hI, fun _ _ h => h⟩
  ·obtain rfl := Option.some.inj ho; have e2 := hsl.g 2; clear hs hd; refine wg fun K hK => ?_
   unfold Oper.wp; go_simp; exact hK _ _ ⟨_, rfl, rfl, hI, fun _ _ h => h⟩
  ·obtain rfl := Option.some.inj ho; obtain ⟨_, e22, rfl⟩ := hs 17 _ 22 rfl rfl (hd 17 wm); have c := hI.k2.cell (o := 0) rfl; clear hs hd; refine wg fun K hK => ?_
   unfold Oper.wp; go_simp; exact hK _ _ ⟨_, rfl, rfl, hI, fun _ _ h => h⟩
  ·obtain rfl := Option.some.inj ho; have e3 := hsl.g 3; clear hs hd; refine wg fun K hK => ?_
   unfold Oper.wp; go_simp; exact hK _ _ ⟨_, rfl, rfl, hI, fun _ _ h => h⟩
  ·obtain rfl := Option.some.inj ho; obtain ⟨_, e24, rfl⟩ := hs 19 _ 24 rfl rfl (hd 19 wm); have c := hI.k3.cell (o := 0) rfl; clear hs hd; refine wg fun K hK => ?_
   unfold Oper.wp; go_simp; exact hK _ _ ⟨_, rfl, rfl, hI, fun _ _ h => h⟩
  ·obtain rfl := Option.some.inj ho; obtain ⟨_, e23, rfl⟩ := hs 18 _ 23 rfl rfl (hd 18 wm); obtain ⟨_, e25, rfl⟩ := hs 20 _ 25 rfl rfl (hd 20 wm); clear hs hd; refine wg fun K hK => ?_
   unfold Oper.wp; go_simp; refine (scompare_any (HA.out.below (hI.below.mono (Nat.le_refl _))) (HB.out.below hI.below) hn).mono ?_; rintro e W ⟨rfl, rfl⟩; exact hK _ _ ⟨_, rfl, rfl, hI, fun _ _ h => h⟩
  ·obtain rfl := Option.some.inj ho; obtain ⟨_, e9, rfl⟩ := hs 4 _ 9 rfl rfl (hd 4 wm); obtain ⟨_, e14, rfl⟩ := hs 9 _ 14 rfl rfl (hd 9 wm); obtain ⟨_, e21, rfl⟩ := hs 16 _ 21 rfl rfl (hd 16 wm); obtain ⟨_, e26, rfl⟩ := hs 21 _ 26 rfl rfl (hd 21 wm); clear hs hd; refine wg fun K hK => ?_
   unfold Oper.wp; go_simp; have hbx := alloc_below x (.cells #[.int .i64 (cmpZ a.coins b.coins), .int .i64 (cmpZ a.leagues b.leagues), .int .i64 (cmpZ a.way.length b.way.length), .int .i64 (cmpI a.way b.way)] 3); have hr := Rw.new x #[.int .i64 (cmpZ a.coins b.coins), .int .i64 (cmpZ a.leagues b.leagues), .int .i64 (cmpZ a.way.length b.way.length), .int .i64 (cmpI a.way b.way)] 3
   exact hK _ _ ⟨_, rfl, ⟨_, rfl, .inr ⟨x.heap.size, 0, rfl, fun i hi => by
    have h4 : ∀ i : Nat, i < 4 → i = 0 ∨ i = 1 ∨ i = 2 ∨ i = 3 := by decide
    rcases h4 i hi with rfl | rfl | rfl | rfl <;> exact hr.cell rfl⟩⟩, hI.keep hbx, fun j u => by match j with | 22 => exact fun ⟨g, h1, h2⟩ => ⟨g, h1, h2.below hbx⟩ | 0 => exact id | 1 => exact id | 2 => exact id | 3 => exact id | 4 => exact id | 5 => exact id | 6 => exact id | 7 => exact id | 8 => exact id | 9 => exact id | 10 => exact id | 11 => exact id | 12 => exact id | 13 => exact id | 14 => exact id | 15 => exact id | 16 => exact id | 17 => exact id | 18 => exact id | 19 => exact id | 20 => exact id | 21 => exact id | 23 => exact id | 24 => exact id | _ + 25 => exact id⟩
  ·obtain rfl := Option.some.inj ho; obtain ⟨v27, e27, hv27⟩ := hs 22 _ 27 rfl rfl (hd 22 wm); obtain ⟨g4, rfl, hg4⟩ := hv27; clear hs hd; refine wg fun K hK => ?_
   unfold Oper.wp; go_simp; refine (or_any (l := [cmpZ a.coins b.coins, cmpZ a.leagues b.leagues, cmpZ a.way.length b.way.length, cmpI a.way b.way]) hg4 (by simp)).mono ?_; rintro e W ⟨rfl, rfl⟩; exact hK _ _ ⟨_, rfl, rfl, hI, fun _ _ h => h⟩
  ·obtain rfl := Option.some.inj ho; obtain ⟨_, e28, rfl⟩ := hs 23 _ 28 rfl rfl (hd 23 wm); clear hs hd; refine wg fun K hK => ?_
   unfold Oper.wp; go_simp; exact hK _ _ ⟨_, rfl, rfl, hI, fun _ _ h => h⟩
 ·clear hsl hI; intro L a2 x hall hI hsl hs; obtain ⟨_, e4, rfl⟩ := hs 24 _ 4 rfl rfl (hall 24 (by decide)); replace hsl := hsl.cons e4; clear hs hall e4; refine wp_ret ?_
  try simp only [Exit.then, Exit.inBlock]
  refine bodyPost_ret (v := .int .i64 (cmpC a b)) ?_ hsl.defers ⟨rfl, hI.below⟩; simp [results, Try.results127, hsl.get 4 _ rfl]
end
end Go.Proofs.Ytgdobbcjkiapkaa
