import Derived.Test.YtgdobbcjkiapkaaSt04
import Derived.Test.YtgdobbcjkiapkaaSt34
import Derived.Test.YtgdobbcjkiapkaaSt02
namespace Go.Proofs.Ytgdobbcjkiapkaa
set_option maxRecDepth 100000
set_option maxHeartbeats 4000000
set_option linter.unusedSimpArgs false
set_option linter.unusedVariables false
section
open Go.RowKit
theorem Q4 : Try.f118.body = some (Code.seq (Aa Try.f118 0) (Code.seq (Aa Try.f118 1) Code.ret)) := by kernel_rfl
theorem Xd {w : World} : Calls Try.prog 118 #[] w (fun e w' => e = .returned (.agg #[.func (.func 127) #[] #[]]) ∧ Below w.heap.size w w') := by
 refine ZB Try.func118 Q4 Try.ntmps118 ?_; intro a Z; refine wsr ?_; refine Z.s ?_; clear Z; intro a Z; refine Af (G := fun W => wpOps _ _ _ _ _ W) ?_; obtain ⟨b, hg⟩ : ∃ b, b = w.heap.size := ⟨_, rfl⟩; intro x hz KX hb; rw [← hg] at Z KX; have hbl : w.heap.size ≤ b := by omega
 clear hz hg; refine od ?_; refine wsr ?_; refine Z.s ?_; clear Z; intro a Z; refine og fun K hK => ?_
 have e0 := Z.g 0; have e1 := Z.g 1; have c0 := KX.cell (o := 0) rfl; have z0 := KX.fz 0; unfold Oper.wp; go_simp; clear e0 e1; refine hK _ _ ?_; clear hK; replace hb := hb.setCell (p := ⟨b, 0, none⟩) (by show w.heap.size ≤ b; exact hbl) (.func (.func 127) #[] #[]); replace KX := KX.set 0 (.func (.func 127) #[] #[]); refine od ?_; refine wp_ret ?_
 try simp only [Exit.then, Exit.inBlock]
 have c1 := KX.cell (o := 0) rfl; refine bodyPost_ret (v := .agg #[.func (.func 127) #[] #[]]) ?_ Z.defers ⟨rfl, hb⟩; simp [results, Try.results118, Z.get 0 _ rfl, go_sem, c1]
def ZL (t : Ad) (from_ to_ lim : Int) : Option Ew := Xj ((MM t from_ to_).filter (Lp lim))
def Xv (w0 : World) (r : Option Ew) (err : Int) (e : Ending) (w' : World) : Prop :=
 Below w0.heap.size w0 w' ∧ (r = none → e = .returned (.tuple #[.slice none 0 0, .int .i64 0, .int .i64 err])) ∧ (∀ c, r = some c → ∃ v, e = .returned (.tuple #[v, .int .i64 c.coins, .int .i64 0]) ∧ DL w' w0.heap.size v c.way ∧ v ≠ .slice none 0 0 ∧ c.way.length ≤ 1000)
theorem PL : Try.f96.body = some (Code.seq (Aa Try.f96 0) (Code.seq (Aa Try.f96 1) (Code.seq (Code.seq (Aa Try.f96 2) (Code.cond (Operand.tmp 20) (Code.seq (Aa Try.f96 3) Code.ret) Code.skip)) (Code.seq (Aa Try.f96 4) Code.ret)))) := by kernel_rfl
theorem TG {t : Ad} {s : Ee} {w : World} {from_ to_ lim : Int} (ht : CU w t s) (hT : AB t = 0) (hfr : btw from_ 0 (t.roads.stages - 1) = true) : Calls Try.prog 96 #[.agg (EI t s), .int .i64 from_, .int .i64 to_, .int .i64 lim] w (Xv w (ZL t from_ to_ lim) 11) := by
 refine call4 Try.func96 PL Try.ntmps96 ?_; intro a Z; refine wsr ?_; refine Z.s ?_; clear Z; intro a Z; refine Af (G := fun W => wpOps _ _ _ _ _ W) ?_; obtain ⟨bt, hg⟩ : ∃ g, g = w.heap.size := ⟨_, rfl⟩; intro x hz Kt hb; rw [← hg] at Z Kt; have h0 : w.heap.size ≤ bt := by omega
 clear hg hz; refine Z.s ?_; clear Z; intro a Z; refine Af (G := fun W => wpOps _ _ _ _ _ W) ?_; obtain ⟨bf, hg⟩ : ∃ g, g = x.heap.size := ⟨_, rfl⟩; have hz0 := hb.size; intro x hz Kf hb2; rw [← hg] at Z Kf; have h1 : w.heap.size ≤ bf := by omega
 replace hb := hb.trans (hb2.mono hb.size); replace Kt := Kt.below hb2; clear hz0 hb2; clear hg hz; refine Z.s ?_; clear Z; intro a Z; refine Af (G := fun W => wpOps _ _ _ _ _ W) ?_; obtain ⟨bto, hg⟩ : ∃ g, g = x.heap.size := ⟨_, rfl⟩; have hz0 := hb.size; intro x hz Kto hb2; rw [← hg] at Z Kto; have h2 : w.heap.size ≤ bto := by omega
 replace hb := hb.trans (hb2.mono hb.size); replace Kt := Kt.below hb2; replace Kf := Kf.below hb2; clear hz0 hb2; clear hg hz; refine Z.s ?_; clear Z; intro a Z; refine Af (G := fun W => wpOps _ _ _ _ _ W) ?_; obtain ⟨bl, hg⟩ : ∃ g, g = x.heap.size := ⟨_, rfl⟩; have hz0 := hb.size; intro x hz Kl hb2; rw [← hg] at Z Kl; have h3 : w.heap.size ≤ bl := by omega
 replace hb := hb.trans (hb2.mono hb.size); replace Kt := Kt.below hb2; replace Kf := Kf.below hb2; replace Kto := Kto.below hb2; clear hz0 hb2; clear hg hz; (iterate 3 refine Z.s ?_; clear Z; intro a Z); refine od ?_; refine wsr ?_; refine Z.s ?_; clear Z; intro a Z; refine og fun K hK => ?_
 unfold Oper.wp; go_simp; refine Xd.mono ?_; rintro e x ⟨rfl, hb2⟩; replace Kt := Kt.below hb2; replace Kf := Kf.below hb2; replace Kto := Kto.below hb2; replace Kl := Kl.below hb2; replace hb := hb.trans (hb2.mono hb.size); clear hb2; refine Z.K hK ?_; clear Z hK; intro a Z; refine og fun K hK => ?_
 have e14 := Z.g 14; have e15 := Z.g 15; have hbe := YA (PK (lim := lim) (bt := bt) (bf := bf) (bto := bto) (bl := bl) (to_ := to_) (s := s) hT hfr) (w0 := x) (fun V hV => ⟨⟨ht.below (hb.trans (hV.mono hb.size)), Kt.below hV, Kf.below hV, Kto.below hV⟩, Kl.below hV⟩) (fun l W => by simp [invoke, go_sem]); unfold Oper.wp; go_simp; refine hbe.mono ?_; rintro e x2 ⟨hb2, hN, hS⟩; have hxx := hb.size; replace hb := hb.trans (hb2.mono hb.size); clear hb2 Kt Kf Kto Kl hbe; have hW : ZL t from_ to_ lim = Xj ((MM t from_ to_).filter (Lp lim)) := rfl; rw [← hW] at hN hS; clear hW; clear e14 e15
 cases hc : ZL t from_ to_ lim with
 | none =>
  obtain rfl := hN hc; clear hS hN hxx
  try simp only [Value.elem?]
  try refine ⟨_, rfl, ?_⟩
  refine Z.K hK ?_; clear Z hK; intro a Z; obtain ⟨x, hx2⟩ : ∃ x, x = x2 := ⟨_, rfl⟩; rw [← hx2] at hb ⊢; clear hx2; (iterate 3 refine Z.s ?_; clear Z; intro a Z); refine og fun K hK => ?_
  obtain ⟨bc, hg⟩ : ∃ b, b = x.heap.size := ⟨_, rfl⟩; unfold Oper.wp; go_simp; refine Z.K hK ?_; clear Z hK; intro a Z; refine og fun K hK => ?_
  have e11 := Z.g 11; have e17 := Z.g 17; unfold Oper.wp; go_simp; clear e11 e17; refine hK _ _ ?_; clear hK; have hbs := hb.size; refine Af (G := fun W => wpOps _ _ _ _ _ W) ?_; intro x2 hz KC hb3; rw [← hg] at Z KC; replace hb := hb.trans (hb3.mono hb.size)
  skip
  have hbc : w.heap.size ≤ bc := by rw [hg]; exact hbs
  clear hz hb3 hg hbs; obtain ⟨x, hx3⟩ : ∃ x, x = x2 := ⟨_, rfl⟩; rw [← hx3] at hb KC ⊢; clear hx3; refine Z.s ?_; clear Z; intro a Z; refine od ?_; refine wp_seq ?_; refine wsr ?_; (iterate 2 refine Z.s ?_; clear Z; intro a Z); refine od ?_; refine wp_cond_true (Z.ev 20 rfl) ?_; refine wsr ?_; (iterate 3 refine Z.s ?_; clear Z; intro a Z); refine od ?_; refine wp_ret ?_
  try simp only [Exit.then, Exit.inBlock]
  refine bodyPost_ret (v := .tuple #[.slice none 0 0, .int .i64 0, .int .i64 11]) ?_ Z.defers ⟨hb, fun _ => rfl, fun c2 h2 => by rw [hc] at h2; simp at h2⟩; simp [results, Try.results96, Z.get 8 _ rfl, Z.get 9 _ rfl, Z.get 10 _ rfl]
 | some c =>
  obtain ⟨cv, rfl, hO, hnn, hl⟩ := hS c hc; clear hS hN; replace hO := Bg.lower hO hxx; clear hxx; obtain ⟨ga, ca, hcv, _⟩ := DL.sl hO hnn; subst hcv
  try simp only [Value.elem?]
  try refine ⟨_, rfl, ?_⟩
  refine Z.K hK ?_; clear Z hK; intro a Z; obtain ⟨x, hx2⟩ : ∃ x, x = x2 := ⟨_, rfl⟩; rw [← hx2] at hb ⊢ hO; clear hx2; (iterate 3 refine Z.s ?_; clear Z; intro a Z); refine og fun K hK => ?_
  obtain ⟨bc, hg⟩ : ∃ b, b = x.heap.size := ⟨_, rfl⟩; unfold Oper.wp; go_simp; refine Z.K hK ?_; clear Z hK; intro a Z; refine og fun K hK => ?_
  have e11 := Z.g 11; have e17 := Z.g 17; unfold Oper.wp; go_simp; clear e11 e17; refine hK _ _ ?_; clear hK; have hbs := hb.size; refine Af (G := fun W => wpOps _ _ _ _ _ W) ?_; intro x2 hz KC hb3; rw [← hg] at Z KC; replace hb := hb.trans (hb3.mono hb.size); replace hO := hO.below hb3; have hbc : w.heap.size ≤ bc := by rw [hg]; exact hbs
  clear hz hb3 hg hbs; obtain ⟨x, hx3⟩ : ∃ x, x = x2 := ⟨_, rfl⟩; rw [← hx3] at hb KC ⊢ hO; clear hx3; refine Z.s ?_; clear Z; intro a Z; refine od ?_; refine wp_seq ?_; refine wsr ?_; (iterate 2 refine Z.s ?_; clear Z; intro a Z); refine od ?_; refine wp_cond_false (Z.ev 20 rfl) ?_; refine wp_skip ?_; refine wp_seq ?_; replace KC : Rw x bc #[.slice (some ⟨ga, 0, none⟩) c.way.length ca, .int .i64 c.coins, .int .i64 c.leagues] 149 := KC; rw [show Aa Try.f96 4 = Code.region 4 _ true from rfl]; refine Dv (by kernel_rfl) ((Z.nil.cons (Z.get 11 _ rfl))) [some 21, some 22, some 23, some 24, some 8, some 9, some 10] rfl rfl (by kernel_rfl) (fun j v _ => match j with | 0 => v = .pointer (some ⟨bc, 0, none⟩) | 1 => v = .slice (some ⟨ga, 0, none⟩) c.way.length ca | 2 => v = .pointer (some ⟨bc, 1, none⟩) | 3 => v = .int .i64 c.coins | 4 => v = .slice (some ⟨ga, 0, none⟩) c.way.length ca | 5 => v = .int .i64 c.coins | 6 => v = .int .i64 0 | _ => True) (fun _ x => Rw x bc #[.slice (some ⟨ga, 0, none⟩) c.way.length ca, .int .i64 c.coins, .int .i64 c.leagues] 149 ∧ Below w.heap.size w x ∧ DL x w.heap.size (.slice (some ⟨ga, 0, none⟩) c.way.length ca) c.way) (⟨KC.below (Below.refl _ _).drew, hb.trans ((Below.refl _ _).drew.mono hb.size), hO.below (Below.refl _ _).drew⟩) ?_ ?_
  ·clear Z; intro k o hkl ho L a x hI hLk Z hs hd; have hlt : ∀ k : Nat, k < 7 → k = 0 ∨ k = 1 ∨ k = 2 ∨ k = 3 ∨ k = 4 ∨ k = 5 ∨ k = 6 := by decide
   rcases hlt k hkl with rfl | rfl | rfl | rfl | rfl | rfl | rfl
   ·obtain rfl := Option.some.inj ho; have e11 := Z.g 11; clear hs hd; refine wg fun K hK => ?_
    unfold Oper.wp; go_simp; exact hK _ _ ⟨_, rfl, rfl, hI, fun _ _ h => h⟩
   ·obtain rfl := Option.some.inj ho; obtain ⟨_, e21, rfl⟩ := hs 0 _ 21 rfl rfl (hd 0 wm); have c0 := hI.1.cell (o := 0) rfl; clear hs hd; refine wg fun K hK => ?_
    unfold Oper.wp; go_simp; exact hK _ _ ⟨_, rfl, rfl, hI, fun _ _ h => h⟩
   ·obtain rfl := Option.some.inj ho; have e11 := Z.g 11; clear hs hd; refine wg fun K hK => ?_
    unfold Oper.wp; go_simp; exact hK _ _ ⟨_, rfl, rfl, hI, fun _ _ h => h⟩
   ·obtain rfl := Option.some.inj ho; obtain ⟨_, e23, rfl⟩ := hs 2 _ 23 rfl rfl (hd 2 wm); have c1 := hI.1.cell (o := 1) rfl; clear hs hd; refine wg fun K hK => ?_
    unfold Oper.wp; go_simp; exact hK _ _ ⟨_, rfl, rfl, hI, fun _ _ h => h⟩
   ·obtain rfl := Option.some.inj ho; obtain ⟨_, e22, rfl⟩ := hs 1 _ 22 rfl rfl (hd 1 wm); clear hs hd; refine wg fun K hK => ?_
    unfold Oper.wp; go_simp; exact hK _ _ ⟨_, rfl, rfl, hI, fun _ _ h => h⟩
   ·obtain rfl := Option.some.inj ho; obtain ⟨_, e24, rfl⟩ := hs 3 _ 24 rfl rfl (hd 3 wm); clear hs hd; refine wg fun K hK => ?_
    unfold Oper.wp; go_simp; exact hK _ _ ⟨_, rfl, rfl, hI, fun _ _ h => h⟩
   ·obtain rfl := Option.some.inj ho; clear hs hd; refine wg fun K hK => ?_
    unfold Oper.wp; go_simp; exact hK _ _ ⟨_, rfl, rfl, hI, fun _ _ h => h⟩
  ·clear Z; intro L a x hall hI Z hs; obtain ⟨v8, e8, hv8⟩ := hs 4 _ 8 rfl rfl (hall 4 (by decide)); obtain rfl := hv8; obtain ⟨v9, e9, hv9⟩ := hs 5 _ 9 rfl rfl (hall 5 (by decide)); obtain rfl := hv9; obtain ⟨_, e10, rfl⟩ := hs 6 _ 10 rfl rfl (hall 6 (by decide)); replace Z := (((Z.cons e8).cons e9).cons e10); clear hs hall e8 e9 e10; refine wp_ret ?_
   try simp only [Exit.then, Exit.inBlock]
   obtain ⟨KC, hb, hO⟩ := hI; refine bodyPost_ret (v := .tuple #[.slice (some ⟨ga, 0, none⟩) c.way.length ca, .int .i64 c.coins, .int .i64 0]) ?_ Z.defers ⟨hb, fun h => by rw [hc] at h; simp at h, fun c2 h2 => by rw [hc] at h2; obtain rfl := Option.some.inj h2; exact ⟨_, rfl, hO, hnn, hl⟩⟩; simp [results, Try.results96, Z.get 8 _ rfl, Z.get 9 _ rfl, Z.get 10 _ rfl]
def Hf (t : Ad) (from_ to_ : Int) : Int := if AB t = 0 then (if (btw from_ 0 (t.roads.stages - 1) && btw to_ 0 (t.roads.stages - 1)) = true then 0 else 3) else AB t
def JK (t : Ad) (from_ to_ : Int) : Option Ew × Int := if Hf t from_ to_ = 0 then (ZL t from_ to_ (-1), 11) else (none, Hf t from_ to_)
theorem YI {t : Ad} {from_ : Int} {way : List Int} (h : (BZ t from_ way).2 = 0) : AB t = 0 := by
 rcases Classical.em (AB t = 0) with h1 | h1
 ·exact h1
 ·have := (GK (from_ := from_) (way := way)).1 h1; rw [this] at h; exact absurd h h1
theorem G6 {t : Ad} {l : List Ar} (h : BM t l = 0) : AB t = 0 := by
 rcases Classical.em (AB t = 0) with h1 | h1
 ·exact h1
 ·rw [Gs.1 h1] at h; exact absurd h h1
theorem Cm {t : Ad} {l : List Ar} (h : BM t l = 0) : CZ t l ∧ l.length ≤ 1000 := by
 have h1 := G6 h; rcases Nat.lt_or_ge 24 l.length with h2 | h2
 ·rw [Gs.2.1 h1 h2] at h; exact absurd h (by decide)
 ·rw [Gs.2.2 h1 h2] at h; exact ⟨KY h, by omega⟩
theorem WR {t : Ad} {from_ to_ : Int} (h : Hf t from_ to_ = 0) : AB t = 0 ∧ btw from_ 0 (t.roads.stages - 1) = true := by
 unfold Hf at h
 split at h
 ·rename_i h1
  split at h
  ·rename_i h2; simp only [Bool.and_eq_true] at h2; exact ⟨h1, h2.1⟩
  ·exact absurd h (by decide)
 ·rename_i h1; exact absurd h h1
theorem TS : Try.f95.body = some (Code.seq (Aa Try.f95 0) (Code.seq (Code.seq (Aa Try.f95 1) (Code.seq (Aa Try.f95 2) (Code.cond (Operand.tmp 11) (Code.seq (Aa Try.f95 3) Code.ret) Code.skip))) (Code.seq (Code.seq (Aa Try.f95 4) (Code.cond (Operand.tmp 28) (Code.seq (Aa Try.f95 5) Code.ret) Code.skip)) (Code.seq (Aa Try.f95 6) Code.ret)))) := by kernel_rfl
theorem Yj {t : Ad} {s : Ee} {w : World} {from_ to_ : Int} (ht : CU w t s) : Calls Try.prog 95 #[.agg (EI t s), .int .i64 from_, .int .i64 to_] w (fun e w' => e = .returned (.int .i64 (Hf t from_ to_)) ∧ Below w.heap.size w w') := by
 refine Pn Try.func95 TS Try.ntmps95 ?_; intro a Z; refine wsr ?_; refine Z.s ?_; clear Z; intro a Z; refine Af (G := fun W => wpOps _ _ _ _ _ W) ?_; intro x hz X hb; have hI := TI.made (Below.refl _ _) ht X hb; obtain ⟨bt, hbt⟩ : ∃ b, b = w.heap.size := ⟨_, rfl⟩; rw [← hbt] at Z hI; clear hz X hb hbt; refine Z.s ?_; clear Z; intro a Z; refine od ?_; refine wp_seq ?_; refine wsr ?_; refine og fun K hK => ?_
 have e3 := Z.g 3; have c0 := hI.c0; have c1 := hI.c1; have c2 := hI.c2; have c3 := hI.c3; have c4 := hI.c4; have c5 := hI.c5; unfold Oper.wp; go_simp; clear e3; refine Z.K hK ?_; clear Z hK; intro a Z; refine og fun K hK => ?_
 have e8 := Z.g 8; unfold Oper.wp; go_simp; refine (JX hI.tar).mono ?_; rintro e x ⟨rfl, hb⟩; replace hI := hI.keep hb; clear hb; clear e8; refine Z.K hK ?_; clear Z hK; intro a Z; refine Z.s ?_; clear Z; intro a Z; refine od ?_; refine wsr ?_; refine Z.s ?_; clear Z; intro a Z
 by_cases h1 : AB t = 0
 ·have hne := Cf h1; refine Z.s ?_; clear Z; intro a Z; refine od ?_; refine wp_cond_false (Z.ev 11 rfl) ?_; refine wp_skip ?_; refine wp_seq ?_; refine wsr ?_; (iterate 3 refine Z.s ?_; clear Z; intro a Z); refine og fun K hK => ?_
  have e15 := Z.g 15; have c1 := hI.c1; unfold Oper.wp; go_simp; clear e15; refine Z.K hK ?_; clear Z hK; intro a Z; refine og fun K hK => ?_
  have e16 := Z.g 16; have hww : IntKind.i64.wrap (t.roads.stages - 1) = t.roads.stages - 1 := IntWalk.i64_in _ (by have := EL (Bo h1).1; omega); unfold Oper.wp; go_simp; clear e16; refine Z.K hK ?_; clear Z hK; intro a Z; refine og fun K hK => ?_
  have e13 := Z.g 13; have e17 := Z.g 17; unfold Oper.wp; go_simp; refine (A7 _ _ _ _).mono ?_; rintro e x ⟨rfl, rfl⟩; clear e13 e17; refine Z.K hK ?_; clear Z hK; intro a Z; rcases Bool.eq_false_or_eq_true (btw from_ 0 (t.roads.stages - 1)) with h2 | h2
  ·rw [h2] at Z; (iterate 2 refine Z.s ?_; clear Z; intro a Z); (iterate 3 refine Z.t ?_; clear Z; intro a Z); refine oW (Z.g 20) fun K hK => ?_
   have e23 := Z.g 23; have c1 := hI.c1; unfold Oper.wp; go_simp; clear e23; refine Z.K hK ?_; clear Z hK; intro a Z; refine oW (Z.g 20) fun K hK => ?_
   have e24 := Z.g 24; have hww : IntKind.i64.wrap (t.roads.stages - 1) = t.roads.stages - 1 := IntWalk.i64_in _ (by have := EL (Bo h1).1; omega); unfold Oper.wp; go_simp; clear e24; refine Z.K hK ?_; clear Z hK; intro a Z; refine oW (Z.g 20) fun K hK => ?_
   have e21 := Z.g 21; have e25 := Z.g 25; unfold Oper.wp; go_simp; refine (A7 _ _ _ _).mono ?_; rintro e x ⟨rfl, rfl⟩; clear e21 e25; refine Z.K hK ?_; clear Z hK; intro a Z; rcases Bool.eq_false_or_eq_true (btw to_ 0 (t.roads.stages - 1)) with h3 | h3
   ·rw [h3] at Z; refine Z.t ?_; clear Z; intro a Z; refine Z.s ?_; clear Z; intro a Z; refine od ?_; refine wp_cond_false (Z.ev 28 rfl) ?_; refine wp_skip ?_; refine wsr ?_; refine Z.s ?_; clear Z; intro a Z; refine od ?_; refine wp_ret ?_
    try simp only [Exit.then, Exit.inBlock]
    have hR := Lib.hid (show Hf t from_ to_ = 0 from by unfold Hf; rw [if_pos h1, if_pos (by rw [h2, h3]; rfl)]); refine bodyPost_ret (v := .int .i64 (Hf t from_ to_)) ?_ Z.defers ⟨rfl, hI.below⟩; rw [hR.out]; simp [results, Try.results95, Z.get 6 _ rfl]
   ·rw [h3] at Z; refine Z.t ?_; clear Z; intro a Z; refine Z.s ?_; clear Z; intro a Z; refine od ?_; refine wp_cond_true (Z.ev 28 rfl) ?_; refine wsr ?_; refine Z.s ?_; clear Z; intro a Z; refine od ?_; refine wp_ret ?_
    try simp only [Exit.then, Exit.inBlock]
    have hR := Lib.hid (show Hf t from_ to_ = 3 from by unfold Hf; rw [if_pos h1, if_neg (by rw [h2, h3]; decide)]); refine bodyPost_ret (v := .int .i64 (Hf t from_ to_)) ?_ Z.defers ⟨rfl, hI.below⟩; rw [hR.out]; simp [results, Try.results95, Z.get 6 _ rfl]
  ·rw [h2] at Z; (iterate 2 refine Z.s ?_; clear Z; intro a Z); refine Z.z ?_; clear Z; intro a Z; refine Z.z ?_; clear Z; intro a Z; refine Z.z ?_; clear Z; intro a Z; refine Z.z ?_; clear Z; intro a Z; refine Z.z ?_; clear Z; intro a Z; refine Z.z ?_; clear Z; intro a Z; refine Z.z ?_; clear Z; intro a Z; refine Z.s ?_; clear Z; intro a Z; refine od ?_; refine wp_cond_true (Z.ev 28 rfl) ?_; refine wsr ?_; refine Z.s ?_; clear Z; intro a Z; refine od ?_; refine wp_ret ?_
   try simp only [Exit.then, Exit.inBlock]
   have hR := Lib.hid (show Hf t from_ to_ = 3 from by unfold Hf; rw [if_pos h1, if_neg (by rw [h2]; simp)]); refine bodyPost_ret (v := .int .i64 (Hf t from_ to_)) ?_ Z.defers ⟨rfl, hI.below⟩; rw [hR.out]; simp [results, Try.results95, Z.get 6 _ rfl]
 ·have hne := Dk h1; have hR := Lib.hid (show Hf t from_ to_ = AB t from if_neg h1); refine Z.s ?_; clear Z; intro a Z; refine od ?_; refine wp_cond_true (Z.ev 11 rfl) ?_; refine wsr ?_; (iterate 2 refine Z.s ?_; clear Z; intro a Z); refine od ?_; refine wp_ret ?_
  try simp only [Exit.then, Exit.inBlock]
  refine bodyPost_ret (v := .int .i64 (Hf t from_ to_)) ?_ Z.defers ⟨rfl, hI.below⟩; rw [hR.out]; simp [results, Try.results95, Z.get 6 _ rfl]
theorem Nq : Try.f48.body = some (Code.seq (Aa Try.f48 0) (Code.seq (Code.seq (Aa Try.f48 1) (Code.seq (Aa Try.f48 2) (Code.cond (Operand.tmp 15) (Code.seq (Aa Try.f48 3) Code.ret) Code.skip))) (Code.seq (Aa Try.f48 4) Code.ret))) := by kernel_rfl
theorem QC {t : Ad} {s : Ee} {w : World} {from_ to_ : Int} (ht : CU w t s) : Calls Try.prog 48 #[.agg (EI t s), .int .i64 from_, .int .i64 to_] w (Xv w (JK t from_ to_).1 (JK t from_ to_).2) := by
 refine Pn Try.func48 Nq Try.ntmps48 ?_; intro a Z; refine wsr ?_; refine Z.s ?_; clear Z; intro a Z; refine Af (G := fun W => wpOps _ _ _ _ _ W) ?_; intro x hz X hb; have hI := TI.made (Below.refl _ _) ht X hb; obtain ⟨bt, hbt⟩ : ∃ b, b = w.heap.size := ⟨_, rfl⟩; rw [← hbt] at Z hI; clear hz X hb hbt; (iterate 3 refine Z.s ?_; clear Z; intro a Z); refine od ?_; refine wp_seq ?_; refine wsr ?_; refine og fun K hK => ?_
 have e3 := Z.g 3; have c0 := hI.c0; have c1 := hI.c1; have c2 := hI.c2; have c3 := hI.c3; have c4 := hI.c4; have c5 := hI.c5; unfold Oper.wp; go_simp; clear e3; refine Z.K hK ?_; clear Z hK; intro a Z; (iterate 2 refine Z.s ?_; clear Z; intro a Z); refine og fun K hK => ?_
 have e10 := Z.g 10; have e11 := Z.g 11; have e12 := Z.g 12; unfold Oper.wp; go_simp; refine (Yj hI.tar).mono ?_; rintro e x ⟨rfl, hb⟩; replace hI := hI.keep hb; clear hb; clear e10 e11 e12; refine Z.K hK ?_; clear Z hK; intro a Z; refine Z.s ?_; clear Z; intro a Z; refine od ?_; refine wsr ?_; refine Z.s ?_; clear Z; intro a Z
 by_cases h1 : Hf t from_ to_ = 0
 ·have HE := Lib.hid h1; have hne := Cf h1; clear h1; refine Z.s ?_; clear Z; intro a Z; refine od ?_; refine wp_cond_false (Z.ev 15 rfl) ?_; refine wp_skip ?_; refine wsr ?_; refine og fun K hK => ?_
  have e3 := Z.g 3; have c0 := hI.c0; have c1 := hI.c1; have c2 := hI.c2; have c3 := hI.c3; have c4 := hI.c4; have c5 := hI.c5; unfold Oper.wp; go_simp; clear e3; refine Z.K hK ?_; clear Z hK; intro a Z; (iterate 2 refine Z.s ?_; clear Z; intro a Z); refine og fun K hK => ?_
  have e17 := Z.g 17; have e18 := Z.g 18; have e19 := Z.g 19; unfold Oper.wp; go_simp; refine (TG (to_ := to_) (lim := (-1)) hI.tar (WR HE.out).1 (WR HE.out).2).mono ?_; rintro e x2 ⟨hb2, hN, hS⟩; have hxx := hI.below.size; replace hI := hI.keep hb2; clear hb2 e17 e18 e19
  cases hc : ZL t from_ to_ (-1) with
  | none =>
   obtain rfl := hN hc; clear hS hN; clear hxx
   try refine ⟨_, rfl, ?_⟩
   refine Z.K hK ?_; clear Z hK; intro a Z; obtain ⟨x, hx2⟩ : ∃ x, x = x2 := ⟨_, rfl⟩; rw [← hx2] at hI ⊢; clear hx2; (iterate 6 refine Z.s ?_; clear Z; intro a Z); refine od ?_; refine wp_ret ?_
   try simp only [Exit.then, Exit.inBlock]
   have hR := Lib.hid (show JK t from_ to_ = (none, 11) from by unfold JK; rw [if_pos HE.out, hc]); rw [hR.out]; refine bodyPost_ret (v := .tuple #[.slice none 0 0, .int .i64 0, .int .i64 11]) ?_ Z.defers ⟨hI.below, fun _ => rfl, fun c2 h2 => by simp at h2⟩; simp [results, Try.results48, Z.get 6 _ rfl, Z.get 7 _ rfl, Z.get 8 _ rfl]
  | some c =>
   obtain ⟨cv, rfl, hO, hnn, hl⟩ := hS c hc; clear hS hN; replace hO := Bg.lower hO hxx; clear hxx
   try refine ⟨_, rfl, ?_⟩
   refine Z.K hK ?_; clear Z hK; intro a Z; obtain ⟨x, hx2⟩ : ∃ x, x = x2 := ⟨_, rfl⟩; rw [← hx2] at hI ⊢ hO; clear hx2; (iterate 6 refine Z.s ?_; clear Z; intro a Z); refine od ?_; refine wp_ret ?_
   try simp only [Exit.then, Exit.inBlock]
   have hR := Lib.hid (show JK t from_ to_ = (some c, 11) from by unfold JK; rw [if_pos HE.out, hc]); rw [hR.out]; refine bodyPost_ret (v := .tuple #[cv, .int .i64 c.coins, .int .i64 0]) ?_ Z.defers ⟨hI.below, fun h => by simp at h, fun c2 h2 => by obtain rfl := Option.some.inj h2; exact ⟨_, rfl, hO, hnn, hl⟩⟩; simp [results, Try.results48, Z.get 6 _ rfl, Z.get 7 _ rfl, Z.get 8 _ rfl]
 ·have HE := Lib.hid h1; have hne := Dk h1; clear h1; refine Z.s ?_; clear Z; intro a Z; refine od ?_; refine wp_cond_true (Z.ev 15 rfl) ?_; refine wsr ?_; (iterate 4 refine Z.s ?_; clear Z; intro a Z); refine od ?_; refine wp_ret ?_
  try simp only [Exit.then, Exit.inBlock]
  have hR := Lib.hid (show JK t from_ to_ = (none, Hf t from_ to_) from by unfold JK; rw [if_neg HE.out]); rw [hR.out]; refine bodyPost_ret (v := .tuple #[.slice none 0 0, .int .i64 0, .int .i64 (Hf t from_ to_)]) ?_ Z.defers ⟨hI.below, fun _ => rfl, fun c2 h2 => by simp at h2⟩; simp [results, Try.results48, Z.get 6 _ rfl, Z.get 7 _ rfl, Z.get 8 _ rfl]
theorem PT : Try.f35.body = some (Code.seq (Aa Try.f35 0) (Code.seq (Aa Try.f35 1) Code.ret)) := by kernel_rfl
theorem Vg {t : Ad} {s : Ee} {w : World} {from_ : Int} {way : List Int} {wa : Option Addr} {wc : Nat} (ht : CU w t s) (hw : AU w wa way) (hwc : way.length ≤ wc) (hwl : way.length ≤ 1000000) : Calls Try.prog 35 #[.agg (EI t s), .int .i64 from_, .slice wa way.length wc] w (QN w t from_ way) := by
 refine Pn Try.func35 PT Try.ntmps35 ?_; intro a Z; refine wsr ?_; refine Z.s ?_; clear Z; intro a Z; refine Af (G := fun W => wpOps _ _ _ _ _ W) ?_; intro x hz X hb; have hI := TI.made (Below.refl _ _) ht X hb; obtain ⟨bt, hbt⟩ : ∃ b, b = w.heap.size := ⟨_, rfl⟩; rw [← hbt] at Z hI; clear hz X hb hbt; (iterate 2 refine Z.s ?_; clear Z; intro a Z); refine od ?_; refine wsr ?_; refine og fun K hK => ?_
 have e3 := Z.g 3; have c0 := hI.c0; have c1 := hI.c1; have c2 := hI.c2; have c3 := hI.c3; have c4 := hI.c4; have c5 := hI.c5; unfold Oper.wp; go_simp; clear e3; refine Z.K hK ?_; clear Z hK; intro a Z; (iterate 2 refine Z.s ?_; clear Z; intro a Z); refine og fun K hK => ?_
 have e8 := Z.g 8; have e9 := Z.g 9; have e10 := Z.g 10; unfold Oper.wp; go_simp; refine (MR hI.tar (hw.below hI.below) hwc hwl).mono ?_; rintro e x ⟨hb, va, rfl, hO, hnil⟩; have hxx := hI.below.size; replace hO := Bg.lower hO hxx; clear hxx; replace hI := hI.keep hb; clear hb; clear e8 e9 e10; refine Z.K hK ?_; clear Z hK; intro a Z; (iterate 4 refine Z.s ?_; clear Z; intro a Z); refine od ?_; refine wp_ret ?_
 try simp only [Exit.then, Exit.inBlock]
 refine bodyPost_ret (v := .tuple #[va, .int .i64 (BZ t from_ way).2]) ?_ Z.defers ⟨hI.below, va, rfl, hO, hnil⟩; simp [results, Try.results35, Z.get 6 _ rfl, Z.get 7 _ rfl]
end
section
open Go.RowKit
structure Dq where
 owner : Int
 coins : Int
def JQ (w : World) (a : Option Addr) (l : List Dq) : Prop :=
 l = [] ∨ ∃ b o, a = some ⟨b, o, none⟩ ∧ ∀ (i : Nat) (h : i < l.length), w.cell? ⟨b, o + i * 2, none⟩ = some (.int .i64 l[i].owner) ∧ w.cell? ⟨b, o + i * 2 + 1, none⟩ = some (.int .i64 l[i].coins)
theorem JQ.below {w w' : World} {a : Option Addr} {l : List Dq} (h : JQ w a l) (hb : Below w.heap.size w w') : JQ w' a l := by
 rcases h with h | ⟨b, o, ha, h⟩
 ·exact .inl h
 ·exact .inr ⟨b, o, ha, fun i hi => ⟨((DW hb).1 _ _ (lt_of_cell (h i hi).1)).trans (h i hi).1, ((DW hb).1 _ _ (lt_of_cell (h i hi).2)).trans (h i hi).2⟩⟩
theorem JQ.at {w : World} {a : Option Addr} {l : List Dq} (h : JQ w a l) {i : Nat} (hi : i < l.length) : ∃ b o, a = some ⟨b, o, none⟩ ∧ w.cell? ⟨b, o + i * 2, none⟩ = some (.int .i64 l[i].owner) ∧ w.cell? ⟨b, o + i * 2 + 1, none⟩ = some (.int .i64 l[i].coins) := by
 rcases h with rfl | ⟨b, o, ha, h⟩
 ·simp at hi
 ·exact ⟨b, o, ha, h i hi⟩
def FH (l : List Int) : Array Value := (l.map fun x => Value.int .i64 x).toArray
theorem Ip {l : List Int} {i : Nat} (h : i < l.length) : (FH l)[i]? = some (.int .i64 l[i]) := by simp [FH, h]
theorem Wy {l : List Int} {i : Nat} (x : Int) : (FH l).setIfInBounds i (.int .i64 x) = FH (l.set i x) := by simp [FH]
def Vk (l : List Int) (p : Dq) : List Int := l.set p.owner.toNat (l.getD p.owner.toNat 0 - p.coins)
def Ro (l : List Int) (ps : List Dq) : List Int := ps.foldl Vk l
theorem OZ {l : List Int} {ps : List Dq} : (Ro l ps).length = l.length := by
 unfold Ro
 induction ps generalizing l with
 | nil => rfl
 | cons p ps ih => rw [List.foldl_cons, ih]; simp [Vk]
theorem Qb {l : List Int} {ps : List Dq} {k : Nat} (hk : k < ps.length) : Ro l (ps.take (k + 1)) = Vk (Ro l (ps.take k)) ps[k] := by
 unfold Ro; rw [List.take_succ_eq_append_getElem hk, List.foldl_append]; rfl
theorem Rq {l : List Int} {p : Dq} {A B : Int} (h : ∀ x ∈ l, -A ≤ x ∧ x ≤ B) (h0 : 0 ≤ p.coins) (h1 : p.coins ≤ 1000000) : ∀ x ∈ Vk l p, -(A + 1000000) ≤ x ∧ x ≤ B := by
 intro x hx; unfold Vk at hx; rcases List.mem_or_eq_of_mem_set hx with hx | rfl
 ·have := h x hx; omega
 ·by_cases hm : p.owner.toNat < l.length
  ·rw [List.getD_eq_getElem?_getD, List.getElem?_eq_getElem hm]; have := h _ (List.getElem_mem hm); simp only [Option.getD_some]; omega
  ·rw [List.set_eq_of_length_le (by omega)] at hx; have := h _ hx; omega
theorem Rn {l : List Int} {ps : List Dq} (h : ∀ x ∈ l, -10000000000000 ≤ x ∧ x ≤ 10000000000000) (hp : ∀ p ∈ ps, 0 ≤ p.coins ∧ p.coins ≤ 1000000) : ∀ k, k ≤ ps.length → ∀ x ∈ Ro l (ps.take k), -(10000000000000 + 1000000 * (k : Int)) ≤ x ∧ x ≤ 10000000000000 := by
 intro k
 induction k with
 | zero => intro _ x hx; have := h x (by simpa [Ro] using hx); omega
 | succ k ih =>
  intro hk x hx; rw [Qb (by omega)] at hx; have := Rq (ih (by omega)) (hp _ (List.getElem_mem (by omega))).1 (hp _ (List.getElem_mem (by omega))).2 x hx
  push_cast; omega
theorem MQ {P : Program} {fn : Func} {R : Ending → World → Prop} {a : Act} {w : World} {v : Value} (hr : (results fn a.tmps).run P w = .ok v w) (hd : a.defers = []) (hR : R (.returned v) w) : bodyPost P fn R .normal a w := ⟨hd, v, hr, hR⟩
theorem Vw : Try.f98.body = some (Code.seq (Aa Try.f98 0) (Code.block 0 (Code.loop (Code.seq (Aa Try.f98 1) (Code.seq (Code.cond (Operand.tmp 9) Code.skip (Code.exit 0)) (Code.seq (Code.block 1 (Code.seq (Aa Try.f98 2) (Aa Try.f98 3))) (Aa Try.f98 4))))))) := by kernel_rfl
theorem pay3 {w0 xs : World} {g gp m cap : Nat} {ls : List Int} {c : Int} (HB : Below w0.heap.size w0 xs) (hg : w0.heap.size ≤ g) (hgp : g < gp) (K0 : Rw xs g (FH ls) 3) (G : Rw xs gp #[.int .i64 (m : Int), .int .i64 c] 81) (hm : m < ls.length) (hlo : -20000000000000 ≤ ls[m]) (hhi : ls[m] ≤ 20000000000000) (hc0 : 0 ≤ c) (hc1 : c ≤ 1000000) {v6 v7 v8 : Value} (a : Act) (Z : Sl a 22 [(0, .slice (some ⟨g, 0, none⟩) ls.length cap), (6, v6), (7, v7), (8, v8), (5, .pointer (some ⟨gp, 0, none⟩))]) (Q : Exit → Act → World → Prop)
  (h : ∀ a x2, Sl a 22 [(0, .slice (some ⟨g, 0, none⟩) ls.length cap), (6, v6), (7, v7), (8, v8)] → Below w0.heap.size w0 x2 → Rw x2 g (FH (ls.set m (ls[m] - c))) 3 → Q .normal a x2) : (Aa Try.f98 3).wp Try.prog Q a xs := by
 have hww : IntKind.i64.wrap (ls[m] - c) = ls[m] - c := IntWalk.i64_in _ (by omega); rw [show Aa Try.f98 3 = Code.region 3 _ true from rfl]; refine Ff 9 (by kernel_rfl) rfl (by kernel_rfl) (by kernel_rfl) (Z) [some 12, some 13, some 14, some 15, some 16, some 17, some 18, some 19, some 20] rfl rfl (fun jj v _ => match jj with | 0 => v = .slice (some ⟨g, 0, none⟩) ls.length cap | 1 => v = .pointer (some ⟨gp, 0, none⟩) | 2 => v = .int .i64 (m : Int) | 3 => v = .pointer (some ⟨g, m, none⟩) | 4 => v = .int .i64 ls[m] | 5 => v = .pointer (some ⟨gp, 1, none⟩) | 6 => v = .int .i64 c | 7 => v = .int .i64 (ls[m] - c) | 8 => v = .pointer (some ⟨g, m, none⟩) | _ => True) (fun _ y => Rw y g (FH ls) 3 ∧ Rw y gp #[.int .i64 (m : Int), .int .i64 c] 81 ∧ Below w0.heap.size w0 y) ⟨K0.below (Below.refl _ _).drew, G.below (Below.refl _ _).drew, HB.trans ((Below.refl _ _).drew.mono HB.size)⟩ ?_ ?_
 ·clear Z; intro k o hkl ho L a x hI hLk Z hs hd; have hlt : ∀ k : Nat, k < 9 → k = 0 ∨ k = 1 ∨ k = 2 ∨ k = 3 ∨ k = 4 ∨ k = 5 ∨ k = 6 ∨ k = 7 ∨ k = 8 := by decide
  rcases hlt k hkl with rfl | rfl | rfl | rfl | rfl | rfl | rfl | rfl | rfl
  ·obtain rfl := Option.some.inj ho; have e0 := Z.g 0; clear hs hd; refine wg fun K hK => ?_
   unfold Oper.wp; go_simp; exact hK _ _ ⟨_, rfl, rfl, hI, fun _ _ h => h⟩
  ·obtain rfl := Option.some.inj ho; have e5 := Z.g 5; clear hs hd; refine wg fun K hK => ?_
   unfold Oper.wp; go_simp; exact hK _ _ ⟨_, rfl, rfl, hI, fun _ _ h => h⟩
  ·obtain rfl := Option.some.inj ho; obtain ⟨_, e13, rfl⟩ := hs 1 _ 13 rfl rfl (hd 1 wm); have c0 := hI.2.1.cell (o := 0) rfl; clear hs hd; refine wg fun K hK => ?_
   unfold Oper.wp; go_simp; exact hK _ _ ⟨_, rfl, rfl, hI, fun _ _ h => h⟩
  ·obtain rfl := Option.some.inj ho; obtain ⟨_, e12, rfl⟩ := hs 0 _ 12 rfl rfl (hd 0 wm); obtain ⟨_, e14, rfl⟩ := hs 2 _ 14 rfl rfl (hd 2 wm); have q1 := hm; clear hs hd; refine wg fun K hK => ?_
   unfold Oper.wp; go_simp; exact hK _ _ ⟨_, rfl, rfl, hI, fun _ _ h => h⟩
  ·obtain rfl := Option.some.inj ho; obtain ⟨_, e15, rfl⟩ := hs 3 _ 15 rfl rfl (hd 3 wm); have c2 := hI.1.cell (o := m) (Ip hm); clear hs hd; refine wg fun K hK => ?_
   unfold Oper.wp; go_simp; exact hK _ _ ⟨_, rfl, rfl, hI, fun _ _ h => h⟩
  ·obtain rfl := Option.some.inj ho; have e5 := Z.g 5; clear hs hd; refine wg fun K hK => ?_
   unfold Oper.wp; go_simp; exact hK _ _ ⟨_, rfl, rfl, hI, fun _ _ h => h⟩
  ·obtain rfl := Option.some.inj ho; obtain ⟨_, e17, rfl⟩ := hs 5 _ 17 rfl rfl (hd 5 wm); have c1 := hI.2.1.cell (o := 1) rfl; clear hs hd; refine wg fun K hK => ?_
   unfold Oper.wp; go_simp; exact hK _ _ ⟨_, rfl, rfl, hI, fun _ _ h => h⟩
  ·obtain rfl := Option.some.inj ho; obtain ⟨_, e16, rfl⟩ := hs 4 _ 16 rfl rfl (hd 4 wm); obtain ⟨_, e18, rfl⟩ := hs 6 _ 18 rfl rfl (hd 6 wm); clear hs hd; refine wg fun K hK => ?_
   unfold Oper.wp; go_simp; exact hK _ _ ⟨_, rfl, rfl, hI, fun _ _ h => h⟩
  ·obtain rfl := Option.some.inj ho; obtain ⟨_, e12, rfl⟩ := hs 0 _ 12 rfl rfl (hd 0 wm); obtain ⟨_, e14, rfl⟩ := hs 2 _ 14 rfl rfl (hd 2 wm); have q1 := hm; clear hs hd; refine wg fun K hK => ?_
   unfold Oper.wp; go_simp; exact hK _ _ ⟨_, rfl, rfl, hI, fun _ _ h => h⟩
 ·clear Z; intro L a x hall hI Z hs; obtain ⟨_, e19, rfl⟩ := hs 7 _ 19 rfl rfl (hall 7 (by decide)); obtain ⟨_, e20, rfl⟩ := hs 8 _ 20 rfl rfl (hall 8 (by decide)); have q1 := hm; have c2 := hI.1.cell (o := m) (Ip hm); have z := hI.1.fz m; clear hs; refine wg fun K hK => ?_
  unfold Oper.wp; go_simp; refine hK _ _ (h _ _ (((((Z.nil.cons (Z.get 8 _ rfl)).cons (Z.get 7 _ rfl)).cons (Z.get 6 _ rfl)).cons (Z.get 0 _ rfl))) (hI.2.2.setCell (p := ⟨g, m, none⟩) (by show w0.heap.size ≤ g; exact hg) _) ?_); have := hI.1.set m (.int .i64 (ls[m] - c)); rw [Wy] at this; exact this
theorem Za {w0 w : World} {g cap pc : Nat} {l : List Int} {ps : List Dq} {pa : Option Addr} (HB : Below w0.heap.size w0 w) (hg : w0.heap.size ≤ g) (hp : JQ w0 pa ps) (K0 : Rw w g (FH l) 3) (hpl : ps.length ≤ 1000) (hl : ∀ x ∈ l, -10000000000000 ≤ x ∧ x ≤ 10000000000000) (hps : ∀ p ∈ ps, 0 ≤ p.owner ∧ p.owner < (l.length : Int) ∧ 0 ≤ p.coins ∧ p.coins ≤ 1000000) : Calls Try.prog 98 #[.slice (some ⟨g, 0, none⟩) l.length cap, .slice pa ps.length pc] w (fun e w' => e = .returned (.tuple #[]) ∧ Below w0.heap.size w0 w' ∧ Rw w' g (FH (Ro l ps)) 3) := by
 have hbn := Rn hl (fun p h => (hps p h).2.2); have HBN := Lib.hid hbn; have HPS := Lib.hid hps; clear hbn hps hl; obtain ⟨x, hx⟩ : ∃ x, x = w := ⟨_, rfl⟩; rw [← hx] at HB K0 ⊢; clear hx; refine Lt Try.func98 Vw Try.ntmps98 ?_; intro a Z; refine wsr ?_; (iterate 3 refine Z.s ?_; clear Z; intro a Z); refine od ?_; refine wp_block ?_; refine wp_loop_ghost (fun n p x => ∃ k : Nat, k + n = ps.length ∧ Sl p 22 [(0, .slice (some ⟨g, 0, none⟩) l.length cap), (6, .slice pa ps.length pc), (7, .int .i64 (ps.length : Int)), (8, .int .i64 (k : Int))] ∧ Below w0.heap.size w0 x ∧ Rw x g (FH (Ro l (ps.take k))) 3) ps.length ⟨0, by omega, Z.sb, HB, K0⟩ ?_; clear Z HB K0; rintro n a x ⟨k, hkn, Z, HB, KL⟩; refine wsr ?_
 by_cases hlt : k < ps.length
 ·have q1 : (k : Int) < (ps.length : Int) := by omega
  obtain ⟨pb, po, hpa, p0, p1⟩ := (hp.below HB).at hlt; rw [hpa] at Z; refine Z.s ?_; clear Z; intro a Z; refine od ?_; refine wp_seq ?_; refine wp_cond_true (Z.ev 9 rfl) ?_; refine wp_skip ?_; refine wp_seq ?_; refine wp_block ?_; refine wsr ?_; (iterate 2 refine Z.s ?_; clear Z; intro a Z); refine og fun K hK => ?_
  obtain ⟨gp, hgp⟩ : ∃ b, b = x.heap.size := ⟨_, rfl⟩; unfold Oper.wp; go_simp; refine Z.K hK ?_; clear Z hK; intro a Z; refine og fun K hK => ?_
  have e5 := Z.g 5; have e11 := Z.g 11; unfold Oper.wp; go_simp; clear e5 e11; refine hK _ _ ?_; clear hK; refine Af (G := fun W => wpOps _ _ _ _ _ W) ?_; have hl1 := KL.lt; intro x hz G hb; rw [← hgp] at Z G; replace KL := KL.below hb; have hgg : g < gp := by omega
  replace HB := HB.trans (hb.mono HB.size); clear hz hgp hb hl1 p0 p1; refine od ?_
  try simp only [Exit.then, Exit.inBlock, ↓reduceIte, Nat.reduceEqDiff]
  obtain ⟨L, hL⟩ : ∃ L, L = Ro l (ps.take k) := ⟨_, rfl⟩; have hll : L.length = l.length := by rw [hL, OZ]
  have ho := HPS.out _ (List.getElem_mem hlt); obtain ⟨m, hm⟩ : ∃ m : Nat, ps[k].owner = (m : Int) := ⟨ps[k].owner.toNat, by omega⟩; have hml : m < L.length := by omega
  have hb1 := HBN.out k (by omega) L[m] (by have := List.getElem_mem hml; rw [← hL]; exact this); have HNX := Lib.hid (show Ro l (ps.take (k + 1)) = L.set m (L[m] - ps[k].coins) from by rw [Qb hlt, ← hL]; unfold Vk; rw [hm, Int.toNat_natCast, List.getD_eq_getElem?_getD, List.getElem?_eq_getElem hml]; rfl); rw [← hL] at KL; rw [hm] at G; rw [← hll] at Z; refine pay3 HB hg hgg KL G hml (by omega) (by omega) ho.2.2.1 ho.2.2.2 a Z.sb _ ?_; rw [hll] at Z; clear Z; intro a x Z HB KL; rw [hll] at Z; clear hL hm ho hb1 G; refine wr ?_; refine og fun K hK => ?_
  have e8 := Z.g 8; have hw := AY k (by omega); unfold Oper.wp; go_simp; clear e8; refine Z.K hK ?_; clear Z hK; intro a Z; refine Z.s ?_; clear Z; intro a Z; refine od ?_; show Exists _; exact ⟨n - 1, by omega, k + 1, by omega, by rw [hpa]; exact Z.sb, HB, by rw [HNX.out]; exact KL⟩
 ·obtain rfl : k = ps.length := by omega
  refine Z.s ?_; clear Z; intro a Z; refine od ?_; refine wp_seq ?_; refine wp_cond_false (Z.ev 9 rfl) ?_; refine wp_exit ?_
  try simp only [Exit.then, Exit.inBlock, ↓reduceIte, Nat.reduceEqDiff]
  rw [List.take_length] at KL; refine MQ (v := .tuple #[]) ?_ Z.defers ⟨rfl, HB, KL⟩; simp [results, Try.results98]
end
end Go.Proofs.Ytgdobbcjkiapkaa
