import Derived.Test.YtgdobbcjkiapkaaOn04
import Derived.Test.YtgdobbcjkiapkaaOn37
import Derived.Test.YtgdobbcjkiapkaaOn02
namespace Go.Proofs.Ytgdobbcjkiapkaa
set_option maxRecDepth 100000
set_option maxHeartbeats 4000000
set_option linter.unusedSimpArgs false
set_option linter.unusedVariables false
section
open Go.RowKit
theorem tcheap_body : Try.f118.body = some (Code.seq (regionIn Try.f118 0) (Code.seq (regionIn Try.f118 1) Code.ret)) := by kernel_rfl
theorem cheap_any {w : World} : Calls Try.prog 118 #[] w (fun e w' => e = .returned (.agg #[.func (.func 127) #[] #[]]) ∧ Below w.heap.size w w') := by
 refine call0 Try.func118 tcheap_body Try.ntmps118 ?_; intro a hsl; refine wsr ?_; refine hsl.s ?_; clear hsl; intro a hsl; refine alloc_rwB (G := fun W => wpOps _ _ _ _ _ W) ?_; obtain ⟨b, hg⟩ : ∃ b, b = w.heap.size := ⟨_, rfl⟩; intro x hz KX hb; rw [← hg] at hsl KX; have hbl : w.heap.size ≤ b := by omega
 clear hz hg; refine od ?_; refine wsr ?_; refine hsl.s ?_; clear hsl; intro a hsl; refine og fun K hK => ?_
 have e0 := hsl.g 0; have e1 := hsl.g 1; have c0 := KX.cell (o := 0) rfl; have z0 := KX.fz 0; unfold Oper.wp; go_simp; clear e0 e1; refine hK _ _ ?_; clear hK; replace hb := hb.setCell (p := ⟨b, 0, none⟩) (by show w.heap.size ≤ b; exact hbl) (.func (.func 127) #[] #[]); replace KX := KX.set 0 (.func (.func 127) #[] #[]); refine od ?_; refine wp_ret ?_
 try simp only [Exit.then, Exit.inBlock]
 have c1 := KX.cell (o := 0) rfl; refine bodyPost_ret (v := .agg #[.func (.func 127) #[] #[]]) ?_ hsl.defers ⟨rfl, hb⟩; simp [results, Try.results118, hsl.get 0 _ rfl, go_sem, c1]
def wayB (t : TariffV) (from_ to_ lim : Int) : Option ChainV := bestC ((chainsL t from_ to_).filter (keepC lim))
def WayPost (w0 : World) (r : Option ChainV) (err : Int) (e : Ending) (w' : World) : Prop :=
 Below w0.heap.size w0 w' ∧ (r = none → e = .returned (.tuple #[.slice none 0 0, .int .i64 0, .int .i64 err])) ∧ (∀ c, r = some c → ∃ v, e = .returned (.tuple #[v, .int .i64 c.coins, .int .i64 0]) ∧ OwnI w' w0.heap.size v c.way ∧ v ≠ .slice none 0 0 ∧ c.way.length ≤ 1000)
theorem twithin_body : Try.f96.body = some (Code.seq (regionIn Try.f96 0) (Code.seq (regionIn Try.f96 1) (Code.seq (Code.seq (regionIn Try.f96 2) (Code.cond (Operand.tmp 20) (Code.seq (regionIn Try.f96 3) Code.ret) Code.skip)) (Code.seq (regionIn Try.f96 4) Code.ret)))) := by kernel_rfl
theorem within_any {t : TariffV} {s : TarS} {w : World} {from_ to_ lim : Int} (ht : TarIn w t s) (hT : checkT t = 0) (hfr : btw from_ 0 (t.roads.stages - 1) = true) : Calls Try.prog 96 #[.agg (tarC t s), .int .i64 from_, .int .i64 to_, .int .i64 lim] w (WayPost w (wayB t from_ to_ lim) 11) := by
 refine call4 Try.func96 twithin_body Try.ntmps96 ?_; intro a hsl; refine wsr ?_; refine hsl.s ?_; clear hsl; intro a hsl; refine alloc_rwB (G := fun W => wpOps _ _ _ _ _ W) ?_; obtain ⟨bt, hg⟩ : ∃ g, g = w.heap.size := ⟨_, rfl⟩; intro x hz Kt hb; rw [← hg] at hsl Kt; have h0 : w.heap.size ≤ bt := by omega
 clear hg hz; refine hsl.s ?_; clear hsl; intro a hsl; refine alloc_rwB (G := fun W => wpOps _ _ _ _ _ W) ?_; obtain ⟨bf, hg⟩ : ∃ g, g = x.heap.size := ⟨_, rfl⟩; have hz0 := hb.size; intro x hz Kf hb2; rw [← hg] at hsl Kf; have h1 : w.heap.size ≤ bf := by omega
 replace hb := hb.trans (hb2.mono hb.size); replace Kt := Kt.below hb2; clear hz0 hb2; clear hg hz; refine hsl.s ?_; clear hsl; intro a hsl; refine alloc_rwB (G := fun W => wpOps _ _ _ _ _ W) ?_; obtain ⟨bto, hg⟩ : ∃ g, g = x.heap.size := ⟨_, rfl⟩; have hz0 := hb.size; intro x hz Kto hb2; rw [← hg] at hsl Kto; have h2 : w.heap.size ≤ bto := by omega
 replace hb := hb.trans (hb2.mono hb.size); replace Kt := Kt.below hb2; replace Kf := Kf.below hb2; clear hz0 hb2; clear hg hz; refine hsl.s ?_; clear hsl; intro a hsl; refine alloc_rwB (G := fun W => wpOps _ _ _ _ _ W) ?_; obtain ⟨bl, hg⟩ : ∃ g, g = x.heap.size := ⟨_, rfl⟩; have hz0 := hb.size; intro x hz Kl hb2; rw [← hg] at hsl Kl; have h3 : w.heap.size ≤ bl := by omega
 replace hb := hb.trans (hb2.mono hb.size); replace Kt := Kt.below hb2; replace Kf := Kf.below hb2; replace Kto := Kto.below hb2; clear hz0 hb2; clear hg hz; (iterate 3 refine hsl.s ?_; clear hsl; intro a hsl); refine od ?_; refine wsr ?_; refine hsl.s ?_; clear hsl; intro a hsl; refine og fun K hK => ?_
 unfold Oper.wp; go_simp; refine cheap_any.mono ?_; rintro e x ⟨rfl, hb2⟩; replace Kt := Kt.below hb2; replace Kf := Kf.below hb2; replace Kto := Kto.below hb2; replace Kl := Kl.below hb2; replace hb := hb.trans (hb2.mono hb.size); clear hb2; refine hsl.K hK ?_; clear hsl hK; intro a hsl; refine og fun K hK => ?_
 have e14 := hsl.g 14; have e15 := hsl.g 15; have hbe := best_any (within1_iter (lim := lim) (bt := bt) (bf := bf) (bto := bto) (bl := bl) (to_ := to_) (s := s) hT hfr) (w0 := x) (fun V hV => ⟨⟨ht.below (hb.trans (hV.mono hb.size)), Kt.below hV, Kf.below hV, Kto.below hV⟩, Kl.below hV⟩) (fun l W => by simp [invoke, go_sem]); unfold Oper.wp; go_simp; refine hbe.mono ?_; rintro e x2 ⟨hb2, hN, hS⟩; have hxx := hb.size; replace hb := hb.trans (hb2.mono hb.size); clear hb2 Kt Kf Kto Kl hbe; have hW : wayB t from_ to_ lim = bestC ((chainsL t from_ to_).filter (keepC lim)) := rfl; rw [← hW] at hN hS; clear hW; clear e14 e15
 cases hc : wayB t from_ to_ lim with
 | none =>
  obtain rfl := hN hc; clear hS hN hxx
  try simp only [Value.elem?]
  try refine ⟨_, rfl, ?_⟩
  refine hsl.K hK ?_; clear hsl hK; intro a hsl; obtain ⟨x, hx2⟩ : ∃ x, x = x2 := ⟨_, rfl⟩; rw [← hx2] at hb ⊢; clear hx2; (iterate 3 refine hsl.s ?_; clear hsl; intro a hsl); refine og fun K hK => ?_
  obtain ⟨bc, hg⟩ : ∃ b, b = x.heap.size := ⟨_, rfl⟩; unfold Oper.wp; go_simp; refine hsl.K hK ?_; clear hsl hK; intro a hsl; refine og fun K hK => ?_
  have e11 := hsl.g 11; have e17 := hsl.g 17; unfold Oper.wp; go_simp; clear e11 e17; refine hK _ _ ?_; clear hK; have hbs := hb.size; refine alloc_rwB (G := fun W => wpOps _ _ _ _ _ W) ?_; intro x2 hz KC hb3; rw [← hg] at hsl KC; replace hb := hb.trans (hb3.mono hb.size)
  skip
  have hbc : w.heap.size ≤ bc := by rw [hg]; exact hbs
  clear hz hb3 hg hbs; obtain ⟨x, hx3⟩ : ∃ x, x = x2 := ⟨_, rfl⟩; rw [← hx3] at hb KC ⊢; clear hx3; refine hsl.s ?_; clear hsl; intro a hsl; refine od ?_; refine wp_seq ?_; refine wsr ?_; (iterate 2 refine hsl.s ?_; clear hsl; intro a hsl); refine od ?_; refine wp_cond_true (hsl.ev 20 rfl) ?_; refine wsr ?_; (iterate 3 refine hsl.s ?_; clear hsl; intro a hsl); refine od ?_; refine wp_ret ?_
  try simp only [Exit.then, Exit.inBlock]
  refine bodyPost_ret (v := .tuple #[.slice none 0 0, .int .i64 0, .int .i64 11]) ?_ hsl.defers ⟨hb, fun _ => rfl, fun c2 h2 => by rw [hc] at h2; simp at h2⟩; simp [results, Try.results96, hsl.get 8 _ rfl, hsl.get 9 _ rfl, hsl.get 10 _ rfl]
 | some c =>
  obtain ⟨cv, rfl, hO, hnn, hl⟩ := hS c hc; clear hS hN; replace hO := OwnL.lower hO hxx; clear hxx; obtain ⟨ga, ca, hcv, _⟩ := OwnI.sl hO hnn; subst hcv
  try simp only [Value.elem?]
  try refine ⟨_, rfl, ?_⟩
  refine hsl.K hK ?_; clear hsl hK; intro a hsl; obtain ⟨x, hx2⟩ : ∃ x, x = x2 := ⟨_, rfl⟩; rw [← hx2] at hb ⊢ hO; clear hx2; (iterate 3 refine hsl.s ?_; clear hsl; intro a hsl); refine og fun K hK => ?_
  obtain ⟨bc, hg⟩ : ∃ b, b = x.heap.size := ⟨_, rfl⟩; unfold Oper.wp; go_simp; refine hsl.K hK ?_; clear hsl hK; intro a hsl; refine og fun K hK => ?_
  have e11 := hsl.g 11; have e17 := hsl.g 17; unfold Oper.wp; go_simp; clear e11 e17; refine hK _ _ ?_; clear hK; have hbs := hb.size; refine alloc_rwB (G := fun W => wpOps _ _ _ _ _ W) ?_; intro x2 hz KC hb3; rw [← hg] at hsl KC; replace hb := hb.trans (hb3.mono hb.size); replace hO := hO.below hb3; have hbc : w.heap.size ≤ bc := by rw [hg]; exact hbs
  clear hz hb3 hg hbs; obtain ⟨x, hx3⟩ : ∃ x, x = x2 := ⟨_, rfl⟩; rw [← hx3] at hb KC ⊢ hO; clear hx3; refine hsl.s ?_; clear hsl; intro a hsl; refine od ?_; refine wp_seq ?_; refine wsr ?_; (iterate 2 refine hsl.s ?_; clear hsl; intro a hsl); refine od ?_; refine wp_cond_false (hsl.ev 20 rfl) ?_; refine wp_skip ?_; refine wp_seq ?_; replace KC : Rw x bc #[.slice (some ⟨ga, 0, none⟩) c.way.length ca, .int .i64 c.coins, .int .i64 c.leagues] 149 := KC; rw [show regionIn Try.f96 4 = Code.region 4 _ true from rfl]; refine wp_region_sl (by kernel_rfl) ((hsl.nil.cons (hsl.get 11 _ rfl))) [some 21, some 22, some 23, some 24, some 8, some 9, some 10] rfl rfl (by kernel_rfl) (fun j v _ => match j with | 0 => v = .pointer (some ⟨bc, 0, none⟩) | 1 => v = .slice (some ⟨ga, 0, none⟩) c.way.length ca | 2 => v = .pointer (some ⟨bc, 1, none⟩) | 3 => v = .int .i64 c.coins | 4 => v = .slice (some ⟨ga, 0, none⟩) c.way.length ca | 5 => v = .int .i64 c.coins | 6 => v = .int .i64 0 | _ => True) (fun _ x => Rw x bc #[.slice (some ⟨ga, 0, none⟩) c.way.length ca, .int .i64 c.coins, .int .i64 c.leagues] 149 ∧ Below w.heap.size w x ∧ OwnI x w.heap.size (.slice (some ⟨ga, 0, none⟩) c.way.length ca) c.way) (⟨KC.below (Below.refl _ _).drew, hb.trans ((Below.refl _ _).drew.mono hb.size), hO.below (Below.refl _ _).drew⟩) ?_ ?_
  ·clear hsl; intro k o hkl ho L a x hI hLk hsl hs hd; have hlt : ∀ k : Nat, k < 7 → k = 0 ∨ k = 1 ∨ k = 2 ∨ k = 3 ∨ k = 4 ∨ k = 5 ∨ k = 6 := by decide
   rcases hlt k hkl with rfl | rfl | rfl | rfl | rfl | rfl | rfl
   ·obtain rfl := Option.some.inj ho; have e11 := hsl.g 11; clear hs hd; refine wg fun K hK => ?_
    unfold Oper.wp; go_simp; exact hK _ _ ⟨_, rfl, rfl, hI, fun _ _ h => h⟩
   ·obtain rfl := Option.some.inj ho; obtain ⟨_, e21, rfl⟩ := hs 0 _ 21 rfl rfl (hd 0 wm); have c0 := hI.1.cell (o := 0) rfl; clear hs hd; refine wg fun K hK => ?_
    unfold Oper.wp; go_simp; exact hK _ _ ⟨_, rfl, rfl, hI, fun _ _ h => h⟩
   ·obtain rfl := Option.some.inj ho; have e11 := hsl.g 11; clear hs hd; refine wg fun K hK => ?_
    unfold Oper.wp; go_simp; exact hK _ _ ⟨_, rfl, rfl, hI, fun _ _ h => h⟩
   ·obtain rfl := Option.some.inj ho; obtain ⟨_, e23, rfl⟩ := hs 2 _ 23 rfl rfl (hd 2 wm); have c1 := hI.1.cell (o := 1) rfl; clear hs hd; refine wg fun K hK => ?_
    unfold Oper.wp; go_simp; exact hK _ _ ⟨_, rfl, rfl, hI, fun _ _ h => h⟩
   ·obtain rfl := Option.some.inj ho; obtain ⟨_, e22, rfl⟩ := hs 1 _ 22 rfl rfl (hd 1 wm); clear hs hd; refine wg fun K hK => ?_
    unfold Oper.wp; go_simp; exact hK _ _ ⟨_, rfl, rfl, hI, fun _ _ h => h⟩
   ·obtain rfl := Option.some.inj ho; obtain ⟨_, e24, rfl⟩ := hs 3 _ 24 rfl rfl (hd 3 wm); clear hs hd; refine wg fun K hK => ?_
    unfold Oper.wp; go_simp; exact hK _ _ ⟨_, rfl, rfl, hI, fun _ _ h => h⟩
   ·obtain rfl := Option.some.inj ho; clear hs hd; refine wg fun K hK => ?_
    unfold Oper.wp; go_simp; exact hK _ _ ⟨_, rfl, rfl, hI, fun _ _ h => h⟩
  ·clear hsl; intro L a x hall hI hsl hs; obtain ⟨v8, e8, hv8⟩ := hs 4 _ 8 rfl rfl (hall 4 (by decide)); obtain rfl := hv8; obtain ⟨v9, e9, hv9⟩ := hs 5 _ 9 rfl rfl (hall 5 (by decide)); obtain rfl := hv9; obtain ⟨_, e10, rfl⟩ := hs 6 _ 10 rfl rfl (hall 6 (by decide)); replace hsl := (((hsl.cons e8).cons e9).cons e10); clear hs hall e8 e9 e10; refine wp_ret ?_
   try simp only [Exit.then, Exit.inBlock]
   obtain ⟨KC, hb, hO⟩ := hI; refine bodyPost_ret (v := .tuple #[.slice (some ⟨ga, 0, none⟩) c.way.length ca, .int .i64 c.coins, .int .i64 0]) ?_ hsl.defers ⟨hb, fun h => by rw [hc] at h; simp at h, fun c2 h2 => by rw [hc] at h2; obtain rfl := Option.some.inj h2; exact ⟨_, rfl, hO, hnn, hl⟩⟩; simp [results, Try.results96, hsl.get 8 _ rfl, hsl.get 9 _ rfl, hsl.get 10 _ rfl]
def endsV (t : TariffV) (from_ to_ : Int) : Int := if checkT t = 0 then (if (btw from_ 0 (t.roads.stages - 1) && btw to_ 0 (t.roads.stages - 1)) = true then 0 else 3) else checkT t
def cheapV (t : TariffV) (from_ to_ : Int) : Option ChainV × Int := if endsV t from_ to_ = 0 then (wayB t from_ to_ (-1), 11) else (none, endsV t from_ to_)
def exactV (t : TariffV) (l : List PassV) (o : Int) : Int × Int := if openE t l = 0 then (if btw o 0 ((t.payers.length : Int) - 1) = true then (exactL t l o.toNat, 0) else (0, 3)) else (0, openE t l)
theorem along_ok {t : TariffV} {from_ : Int} {way : List Int} (h : (alongV t from_ way).2 = 0) : checkT t = 0 := by
 rcases Classical.em (checkT t = 0) with h1 | h1
 ·exact h1
 ·have := (along_errs (from_ := from_) (way := way)).1 h1; rw [this] at h; exact absurd h h1
theorem open_ok {t : TariffV} {l : List PassV} (h : openE t l = 0) : checkT t = 0 := by
 rcases Classical.em (checkT t = 0) with h1 | h1
 ·exact h1
 ·rw [open_errs.1 h1] at h; exact absurd h h1
theorem open_fine {t : TariffV} {l : List PassV} (h : openE t l = 0) : passFine t l ∧ l.length ≤ 1000 := by
 have h1 := open_ok h; rcases Nat.lt_or_ge 24 l.length with h2 | h2
 ·rw [open_errs.2.1 h1 h2] at h; exact absurd h (by decide)
 ·rw [open_errs.2.2 h1 h2] at h; exact ⟨passErr_fine h, by omega⟩
theorem ends_ok {t : TariffV} {from_ to_ : Int} (h : endsV t from_ to_ = 0) : checkT t = 0 ∧ btw from_ 0 (t.roads.stages - 1) = true := by
 unfold endsV at h
 split at h
 ·rename_i h1
  split at h
  ·rename_i h2; simp only [Bool.and_eq_true] at h2; exact ⟨h1, h2.1⟩
  ·exact absurd h (by decide)
 ·rename_i h1; exact absurd h h1
theorem tends_body : Try.f95.body = some (Code.seq (regionIn Try.f95 0) (Code.seq (Code.seq (regionIn Try.f95 1) (Code.seq (regionIn Try.f95 2) (Code.cond (Operand.tmp 11) (Code.seq (regionIn Try.f95 3) Code.ret) Code.skip))) (Code.seq (Code.seq (regionIn Try.f95 4) (Code.cond (Operand.tmp 28) (Code.seq (regionIn Try.f95 5) Code.ret) Code.skip)) (Code.seq (regionIn Try.f95 6) Code.ret)))) := by kernel_rfl
theorem ends_any {t : TariffV} {s : TarS} {w : World} {from_ to_ : Int} (ht : TarIn w t s) : Calls Try.prog 95 #[.agg (tarC t s), .int .i64 from_, .int .i64 to_] w (fun e w' => e = .returned (.int .i64 (endsV t from_ to_)) ∧ Below w.heap.size w w') := by
 refine call3 Try.func95 tends_body Try.ntmps95 ?_; intro a hsl; refine wsr ?_; refine hsl.s ?_; clear hsl; intro a hsl; refine alloc_rwB (G := fun W => wpOps _ _ _ _ _ W) ?_; intro x hz X hb; have hI := TI.made (Below.refl _ _) ht X hb; obtain ⟨bt, hbt⟩ : ∃ b, b = w.heap.size := ⟨_, rfl⟩; rw [← hbt] at hsl hI; clear hz X hb hbt; refine hsl.s ?_; clear hsl; intro a hsl; refine od ?_; refine wp_seq ?_; refine wsr ?_; refine og fun K hK => ?_
 have e3 := hsl.g 3; have c0 := hI.c0; have c1 := hI.c1; have c2 := hI.c2; have c3 := hI.c3; have c4 := hI.c4; have c5 := hI.c5; unfold Oper.wp; go_simp; clear e3; refine hsl.K hK ?_; clear hsl hK; intro a hsl; refine og fun K hK => ?_
 have e8 := hsl.g 8; unfold Oper.wp; go_simp; refine (tcheck_any hI.tar).mono ?_; rintro e x ⟨rfl, hb⟩; replace hI := hI.keep hb; clear hb; clear e8; refine hsl.K hK ?_; clear hsl hK; intro a hsl; refine hsl.s ?_; clear hsl; intro a hsl; refine od ?_; refine wsr ?_; refine hsl.s ?_; clear hsl; intro a hsl
 by_cases h1 : checkT t = 0
 ·have hne := bne_falseI h1; refine hsl.s ?_; clear hsl; intro a hsl; refine od ?_; refine wp_cond_false (hsl.ev 11 rfl) ?_; refine wp_skip ?_; refine wp_seq ?_; refine wsr ?_; (iterate 3 refine hsl.s ?_; clear hsl; intro a hsl); refine og fun K hK => ?_
  have e15 := hsl.g 15; have c1 := hI.c1; unfold Oper.wp; go_simp; clear e15; refine hsl.K hK ?_; clear hsl hK; intro a hsl; refine og fun K hK => ?_
  have e16 := hsl.g 16; have hww : IntKind.i64.wrap (t.roads.stages - 1) = t.roads.stages - 1 := IntWalk.i64_in _ (by have := roads_small (check_lens h1).1; omega); unfold Oper.wp; go_simp; clear e16; refine hsl.K hK ?_; clear hsl hK; intro a hsl; refine og fun K hK => ?_
  have e13 := hsl.g 13; have e17 := hsl.g 17; unfold Oper.wp; go_simp; refine (tbetween_any _ _ _ _).mono ?_; rintro e x ⟨rfl, rfl⟩; clear e13 e17; refine hsl.K hK ?_; clear hsl hK; intro a hsl; rcases Bool.eq_false_or_eq_true (btw from_ 0 (t.roads.stages - 1)) with h2 | h2
  ·rw [h2] at hsl; (iterate 2 refine hsl.s ?_; clear hsl; intro a hsl); (iterate 3 refine hsl.t ?_; clear hsl; intro a hsl); refine ow (hsl.g 20) fun K hK => ?_
   have e23 := hsl.g 23; have c1 := hI.c1; unfold Oper.wp; go_simp; clear e23; refine hsl.K hK ?_; clear hsl hK; intro a hsl; refine ow (hsl.g 20) fun K hK => ?_
   have e24 := hsl.g 24; have hww : IntKind.i64.wrap (t.roads.stages - 1) = t.roads.stages - 1 := IntWalk.i64_in _ (by have := roads_small (check_lens h1).1; omega); unfold Oper.wp; go_simp; clear e24; refine hsl.K hK ?_; clear hsl hK; intro a hsl; refine ow (hsl.g 20) fun K hK => ?_
   have e21 := hsl.g 21; have e25 := hsl.g 25; unfold Oper.wp; go_simp; refine (tbetween_any _ _ _ _).mono ?_; rintro e x ⟨rfl, rfl⟩; clear e21 e25; refine hsl.K hK ?_; clear hsl hK; intro a hsl; rcases Bool.eq_false_or_eq_true (btw to_ 0 (t.roads.stages - 1)) with h3 | h3
   ·rw [h3] at hsl; refine hsl.t ?_; clear hsl; intro a hsl; refine hsl.s ?_; clear hsl; intro a hsl; refine od ?_; refine wp_cond_false (hsl.ev 28 rfl) ?_; refine wp_skip ?_; refine wsr ?_; refine hsl.s ?_; clear hsl; intro a hsl; refine od ?_; refine wp_ret ?_
    try simp only [Exit.then, Exit.inBlock]
    have hR := Lib.hid (show endsV t from_ to_ = 0 from by unfold endsV; rw [if_pos h1, if_pos (by rw [h2, h3]; rfl)]); refine bodyPost_ret (v := .int .i64 (endsV t from_ to_)) ?_ hsl.defers ⟨rfl, hI.below⟩; rw [hR.out]; simp [results, Try.results95, hsl.get 6 _ rfl]
   ·rw [h3] at hsl; refine hsl.t ?_; clear hsl; intro a hsl; refine hsl.s ?_; clear hsl; intro a hsl; refine od ?_; refine wp_cond_true (hsl.ev 28 rfl) ?_; refine wsr ?_; refine hsl.s ?_; clear hsl; intro a hsl; refine od ?_; refine wp_ret ?_
    try simp only [Exit.then, Exit.inBlock]
    have hR := Lib.hid (show endsV t from_ to_ = 3 from by unfold endsV; rw [if_pos h1, if_neg (by rw [h2, h3]; decide)]); refine bodyPost_ret (v := .int .i64 (endsV t from_ to_)) ?_ hsl.defers ⟨rfl, hI.below⟩; rw [hR.out]; simp [results, Try.results95, hsl.get 6 _ rfl]
  ·rw [h2] at hsl; (iterate 2 refine hsl.s ?_; clear hsl; intro a hsl); refine hsl.z ?_; clear hsl; intro a hsl; refine hsl.z ?_; clear hsl; intro a hsl; refine hsl.z ?_; clear hsl; intro a hsl; refine hsl.z ?_; clear hsl; intro a hsl; refine hsl.z ?_; clear hsl; intro a hsl; refine hsl.z ?_; clear hsl; intro a hsl; refine hsl.z ?_; clear hsl; intro a hsl; refine hsl.s ?_; clear hsl; intro a hsl; refine od ?_; refine wp_cond_true (hsl.ev 28 rfl) ?_; refine wsr ?_; refine hsl.s ?_; clear hsl; intro a hsl; refine od ?_; refine wp_ret ?_
   try simp only [Exit.then, Exit.inBlock]
   have hR := Lib.hid (show endsV t from_ to_ = 3 from by unfold endsV; rw [if_pos h1, if_neg (by rw [h2]; simp)]); refine bodyPost_ret (v := .int .i64 (endsV t from_ to_)) ?_ hsl.defers ⟨rfl, hI.below⟩; rw [hR.out]; simp [results, Try.results95, hsl.get 6 _ rfl]
 ·have hne := bne_trueI h1; have hR := Lib.hid (show endsV t from_ to_ = checkT t from if_neg h1); refine hsl.s ?_; clear hsl; intro a hsl; refine od ?_; refine wp_cond_true (hsl.ev 11 rfl) ?_; refine wsr ?_; (iterate 2 refine hsl.s ?_; clear hsl; intro a hsl); refine od ?_; refine wp_ret ?_
  try simp only [Exit.then, Exit.inBlock]
  refine bodyPost_ret (v := .int .i64 (endsV t from_ to_)) ?_ hsl.defers ⟨rfl, hI.below⟩; rw [hR.out]; simp [results, Try.results95, hsl.get 6 _ rfl]
theorem tcheapest_body : Try.f48.body = some (Code.seq (regionIn Try.f48 0) (Code.seq (Code.seq (regionIn Try.f48 1) (Code.seq (regionIn Try.f48 2) (Code.cond (Operand.tmp 15) (Code.seq (regionIn Try.f48 3) Code.ret) Code.skip))) (Code.seq (regionIn Try.f48 4) Code.ret))) := by kernel_rfl
theorem cheapest_any {t : TariffV} {s : TarS} {w : World} {from_ to_ : Int} (ht : TarIn w t s) : Calls Try.prog 48 #[.agg (tarC t s), .int .i64 from_, .int .i64 to_] w (WayPost w (cheapV t from_ to_).1 (cheapV t from_ to_).2) := by
 refine call3 Try.func48 tcheapest_body Try.ntmps48 ?_; intro a hsl; refine wsr ?_; refine hsl.s ?_; clear hsl; intro a hsl; refine alloc_rwB (G := fun W => wpOps _ _ _ _ _ W) ?_; intro x hz X hb; have hI := TI.made (Below.refl _ _) ht X hb; obtain ⟨bt, hbt⟩ : ∃ b, b = w.heap.size := ⟨_, rfl⟩; rw [← hbt] at hsl hI; clear hz X hb hbt; (iterate 3 refine hsl.s ?_; clear hsl; intro a hsl); refine od ?_; refine wp_seq ?_; refine wsr ?_; refine og fun K hK => ?_
 have e3 := hsl.g 3; have c0 := hI.c0; have c1 := hI.c1; have c2 := hI.c2; have c3 := hI.c3; have c4 := hI.c4; have c5 := hI.c5; unfold Oper.wp; go_simp; clear e3; refine hsl.K hK ?_; clear hsl hK; intro a hsl; (iterate 2 refine hsl.s ?_; clear hsl; intro a hsl); refine og fun K hK => ?_
 have e10 := hsl.g 10; have e11 := hsl.g 11; have e12 := hsl.g 12; unfold Oper.wp; go_simp; refine (ends_any hI.tar).mono ?_; rintro e x ⟨rfl, hb⟩; replace hI := hI.keep hb; clear hb; clear e10 e11 e12; refine hsl.K hK ?_; clear hsl hK; intro a hsl; refine hsl.s ?_; clear hsl; intro a hsl; refine od ?_; refine wsr ?_; refine hsl.s ?_; clear hsl; intro a hsl
 by_cases h1 : endsV t from_ to_ = 0
 ·have HE := Lib.hid h1; have hne := bne_falseI h1; clear h1; refine hsl.s ?_; clear hsl; intro a hsl; refine od ?_; refine wp_cond_false (hsl.ev 15 rfl) ?_; refine wp_skip ?_; refine wsr ?_; refine og fun K hK => ?_
  have e3 := hsl.g 3; have c0 := hI.c0; have c1 := hI.c1; have c2 := hI.c2; have c3 := hI.c3; have c4 := hI.c4; have c5 := hI.c5; unfold Oper.wp; go_simp; clear e3; refine hsl.K hK ?_; clear hsl hK; intro a hsl; (iterate 2 refine hsl.s ?_; clear hsl; intro a hsl); refine og fun K hK => ?_
  have e17 := hsl.g 17; have e18 := hsl.g 18; have e19 := hsl.g 19; unfold Oper.wp; go_simp; refine (within_any (to_ := to_) (lim := (-1)) hI.tar (ends_ok HE.out).1 (ends_ok HE.out).2).mono ?_; rintro e x2 ⟨hb2, hN, hS⟩; have hxx := hI.below.size; replace hI := hI.keep hb2; clear hb2 e17 e18 e19
  cases hc : wayB t from_ to_ (-1) with
  | none =>
   obtain rfl := hN hc; clear hS hN; clear hxx
   try refine ⟨_, rfl, ?_⟩
   refine hsl.K hK ?_; clear hsl hK; intro a hsl; obtain ⟨x, hx2⟩ : ∃ x, x = x2 := ⟨_, rfl⟩; rw [← hx2] at hI ⊢; clear hx2; (iterate 6 refine hsl.s ?_; clear hsl; intro a hsl); refine od ?_; refine wp_ret ?_
   try simp only [Exit.then, Exit.inBlock]
   have hR := Lib.hid (show cheapV t from_ to_ = (none, 11) from by unfold cheapV; rw [if_pos HE.out, hc]); rw [hR.out]; refine bodyPost_ret (v := .tuple #[.slice none 0 0, .int .i64 0, .int .i64 11]) ?_ hsl.defers ⟨hI.below, fun _ => rfl, fun c2 h2 => by simp at h2⟩; simp [results, Try.results48, hsl.get 6 _ rfl, hsl.get 7 _ rfl, hsl.get 8 _ rfl]
  | some c =>
   obtain ⟨cv, rfl, hO, hnn, hl⟩ := hS c hc; clear hS hN; replace hO := OwnL.lower hO hxx; clear hxx
   try refine ⟨_, rfl, ?_⟩
   refine hsl.K hK ?_; clear hsl hK; intro a hsl; obtain ⟨x, hx2⟩ : ∃ x, x = x2 := ⟨_, rfl⟩; rw [← hx2] at hI ⊢ hO; clear hx2; (iterate 6 refine hsl.s ?_; clear hsl; intro a hsl); refine od ?_; refine wp_ret ?_
   try simp only [Exit.then, Exit.inBlock]
   have hR := Lib.hid (show cheapV t from_ to_ = (some c, 11) from by unfold cheapV; rw [if_pos HE.out, hc]); rw [hR.out]; refine bodyPost_ret (v := .tuple #[cv, .int .i64 c.coins, .int .i64 0]) ?_ hsl.defers ⟨hI.below, fun h => by simp at h, fun c2 h2 => by obtain rfl := Option.some.inj h2; exact ⟨_, rfl, hO, hnn, hl⟩⟩; simp [results, Try.results48, hsl.get 6 _ rfl, hsl.get 7 _ rfl, hsl.get 8 _ rfl]
 ·have HE := Lib.hid h1; have hne := bne_trueI h1; clear h1; refine hsl.s ?_; clear hsl; intro a hsl; refine od ?_; refine wp_cond_true (hsl.ev 15 rfl) ?_; refine wsr ?_; (iterate 4 refine hsl.s ?_; clear hsl; intro a hsl); refine od ?_; refine wp_ret ?_
  try simp only [Exit.then, Exit.inBlock]
  have hR := Lib.hid (show cheapV t from_ to_ = (none, endsV t from_ to_) from by unfold cheapV; rw [if_neg HE.out]); rw [hR.out]; refine bodyPost_ret (v := .tuple #[.slice none 0 0, .int .i64 0, .int .i64 (endsV t from_ to_)]) ?_ hsl.defers ⟨hI.below, fun _ => rfl, fun c2 h2 => by simp at h2⟩; simp [results, Try.results48, hsl.get 6 _ rfl, hsl.get 7 _ rfl, hsl.get 8 _ rfl]
theorem talongP_body : Try.f35.body = some (Code.seq (regionIn Try.f35 0) (Code.seq (regionIn Try.f35 1) Code.ret)) := by kernel_rfl
theorem alongP_any {t : TariffV} {s : TarS} {w : World} {from_ : Int} {way : List Int} {wa : Option Addr} {wc : Nat} (ht : TarIn w t s) (hw : IntsAt w wa way) (hwc : way.length ≤ wc) (hwl : way.length ≤ 1000000) : Calls Try.prog 35 #[.agg (tarC t s), .int .i64 from_, .slice wa way.length wc] w (AlongPost w t from_ way) := by
 refine call3 Try.func35 talongP_body Try.ntmps35 ?_; intro a hsl; refine wsr ?_; refine hsl.s ?_; clear hsl; intro a hsl; refine alloc_rwB (G := fun W => wpOps _ _ _ _ _ W) ?_; intro x hz X hb; have hI := TI.made (Below.refl _ _) ht X hb; obtain ⟨bt, hbt⟩ : ∃ b, b = w.heap.size := ⟨_, rfl⟩; rw [← hbt] at hsl hI; clear hz X hb hbt; (iterate 2 refine hsl.s ?_; clear hsl; intro a hsl); refine od ?_; refine wsr ?_; refine og fun K hK => ?_
 have e3 := hsl.g 3; have c0 := hI.c0; have c1 := hI.c1; have c2 := hI.c2; have c3 := hI.c3; have c4 := hI.c4; have c5 := hI.c5; unfold Oper.wp; go_simp; clear e3; refine hsl.K hK ?_; clear hsl hK; intro a hsl; (iterate 2 refine hsl.s ?_; clear hsl; intro a hsl); refine og fun K hK => ?_
 have e8 := hsl.g 8; have e9 := hsl.g 9; have e10 := hsl.g 10; unfold Oper.wp; go_simp; refine (along_any hI.tar (hw.below hI.below) hwc hwl).mono ?_; rintro e x ⟨hb, va, rfl, hO, hnil⟩; have hxx := hI.below.size; replace hO := OwnL.lower hO hxx; clear hxx; replace hI := hI.keep hb; clear hb; clear e8 e9 e10; refine hsl.K hK ?_; clear hsl hK; intro a hsl; (iterate 4 refine hsl.s ?_; clear hsl; intro a hsl); refine od ?_; refine wp_ret ?_
 try simp only [Exit.then, Exit.inBlock]
 refine bodyPost_ret (v := .tuple #[va, .int .i64 (alongV t from_ way).2]) ?_ hsl.defers ⟨hI.below, va, rfl, hO, hnil⟩; simp [results, Try.results35, hsl.get 6 _ rfl, hsl.get 7 _ rfl]
theorem texact_body : Try.f36.body = some (Code.seq (regionIn Try.f36 0) (Code.seq (regionIn Try.f36 1) (Code.seq (Code.seq (regionIn Try.f36 2) (Code.cond (Operand.tmp 17) (Code.seq (regionIn Try.f36 3) Code.ret) Code.skip)) (Code.seq (Code.seq (regionIn Try.f36 4) (Code.cond (Operand.tmp 22) (Code.seq (regionIn Try.f36 5) Code.ret) Code.skip)) (Code.seq (regionIn Try.f36 6) Code.ret))))) := by kernel_rfl
theorem exact_any {t : TariffV} {s : TarS} {l : List PassV} {la : Option Addr} {lc : Nat} {w : World} {o : Int} (ht : TarIn w t s) (hl : PassAt w la l) (hlm : l.length ≤ maxLen) : Calls Try.prog 36 #[.agg (tarC t s), .slice la l.length lc, .int .i64 o] w (fun e w' => e = .returned (.tuple #[.int .i64 (exactV t l o).1, .int .i64 (exactV t l o).2]) ∧ Below w.heap.size w w') := by
 refine call3 Try.func36 texact_body Try.ntmps36 ?_; intro a hsl; refine wsr ?_; refine hsl.s ?_; clear hsl; intro a hsl; refine alloc_rwB (G := fun W => wpOps _ _ _ _ _ W) ?_; intro x hz X hb; have hI := TI.made (Below.refl _ _) ht X hb; obtain ⟨bt, hbt⟩ : ∃ b, b = w.heap.size := ⟨_, rfl⟩; rw [← hbt] at hsl hI; clear hz X hb hbt; (iterate 2 refine hsl.s ?_; clear hsl; intro a hsl); refine od ?_; refine wsr ?_; refine og fun K hK => ?_
 have e3 := hsl.g 3; have c0 := hI.c0; have c1 := hI.c1; have c2 := hI.c2; have c3 := hI.c3; have c4 := hI.c4; have c5 := hI.c5; unfold Oper.wp; go_simp; clear e3; refine hsl.K hK ?_; clear hsl hK; intro a hsl; refine hsl.s ?_; clear hsl; intro a hsl; refine og fun K hK => ?_
 have e11 := hsl.g 11; have e12 := hsl.g 12; unfold Oper.wp; go_simp; refine (topen_any hI.tar (hl.below hI.below) hlm).mono ?_; rintro e x2 ⟨hb2, hN, hS⟩; have hxx := hI.below.size; replace hI := hI.keep hb2; clear e11 e12
 by_cases h1 : openE t l = 0
 ·obtain ⟨bd, mb, rfl, hbd, hmb, hD⟩ := hS h1; have HE := Lib.hid h1; have hne := bne_falseI h1; clear hS hN hb2 hxx h1; refine hsl.K hK ?_; clear hsl hK; intro a hsl; obtain ⟨x, hx2⟩ : ∃ x, x = x2 := ⟨_, rfl⟩; rw [← hx2] at hI ⊢ hD; clear hx2; (iterate 5 refine hsl.s ?_; clear hsl; intro a hsl); refine od ?_; refine wp_seq ?_; refine wsr ?_; (iterate 2 refine hsl.s ?_; clear hsl; intro a hsl); refine od ?_; refine wp_cond_false (hsl.ev 17 rfl) ?_; refine wp_skip ?_; refine wp_seq ?_; refine wsr ?_; (iterate 2 refine hsl.s ?_; clear hsl; intro a hsl); refine og fun K hK => ?_
  have e19 := hsl.g 19; have e20 := hsl.g 20; unfold Oper.wp; go_simp; refine (owner_any (hD.kd.cell (o := 4) rfl) hI.tar.lp).mono ?_; rintro e x2 ⟨rfl, rfl⟩; clear e19 e20; refine hsl.K hK ?_; clear hsl hK; intro a hsl; rcases Bool.eq_false_or_eq_true (btw o 0 ((t.payers.length : Int) - 1)) with h2 | h2
  ·rw [h2] at hsl; refine hsl.s ?_; clear hsl; intro a hsl; refine od ?_; refine wp_cond_false (hsl.ev 22 rfl) ?_; refine wp_skip ?_; refine wsr ?_; (iterate 4 refine hsl.s ?_; clear hsl; intro a hsl); refine og fun K hK => ?_
   have e23 := hsl.g 23; have e24 := hsl.g 24; have e26 := hsl.g 26; unfold Oper.wp; go_simp; have hFL := FineL.of (open_ok HE.out) (open_fine HE.out).1 (open_fine HE.out).2; have ho := btw_true.1 h2; obtain ⟨on, rfl⟩ : ∃ n : Nat, o = (n : Int) := ⟨o.toNat, by omega⟩; have hon : on < t.payers.length := by omega
   refine (sum_any (w := x) (bd := bd) (o := (on : Int)) (fc := 80) (first := #[.pointer (some ⟨bd, 0, none⟩)]) (cap := #[]) (f := atL t l on) (hD.kd.cell (o := 5) rfl) hFL.nt Try.func80 (by kernel_rfl) (by kernel_rfl) (fun k _ => hFL.at_bounds hon k) (fun x j hb hj => at_any (hI.tar.below hb) (hD.below hb) hFL hon hj)).mono ?_; rintro e x ⟨rfl, hb⟩; replace hI := hI.keep hb; clear hb hFL ho; clear e23 e24 e26; refine hsl.K hK ?_; clear hsl hK; intro a hsl; (iterate 2 refine hsl.s ?_; clear hsl; intro a hsl); refine od ?_; refine wp_ret ?_
   try simp only [Exit.then, Exit.inBlock]
   have hR := Lib.hid (show exactV t l (on : Int) = (exactL t l on, 0) from by unfold exactV; rw [if_pos HE.out, if_pos h2]; rfl); rw [hR.out]; refine bodyPost_ret (v := .tuple #[.int .i64 (exactL t l on), .int .i64 0]) ?_ hsl.defers ⟨rfl, hI.below⟩; simp [results, Try.results36, hsl.get 6 _ rfl, hsl.get 7 _ rfl, exactL]
  ·rw [h2] at hsl; refine hsl.s ?_; clear hsl; intro a hsl; refine od ?_; refine wp_cond_true (hsl.ev 22 rfl) ?_; refine wsr ?_; (iterate 2 refine hsl.s ?_; clear hsl; intro a hsl); refine od ?_; refine wp_ret ?_
   try simp only [Exit.then, Exit.inBlock]
   have hR := Lib.hid (show exactV t l o = (0, 3) from by unfold exactV; rw [if_pos HE.out, if_neg (by rw [h2]; decide)]); rw [hR.out]; refine bodyPost_ret (v := .tuple #[.int .i64 0, .int .i64 3]) ?_ hsl.defers ⟨rfl, hI.below⟩; simp [results, Try.results36, hsl.get 6 _ rfl, hsl.get 7 _ rfl]
 ·obtain rfl := hN h1; have HE := Lib.hid h1; have hne := bne_trueI h1; clear hS hN hb2 hxx h1; refine hsl.K hK ?_; clear hsl hK; intro a hsl; obtain ⟨x, hx2⟩ : ∃ x, x = x2 := ⟨_, rfl⟩; rw [← hx2] at hI ⊢; clear hx2; (iterate 5 refine hsl.s ?_; clear hsl; intro a hsl); refine od ?_; refine wp_seq ?_; refine wsr ?_; (iterate 2 refine hsl.s ?_; clear hsl; intro a hsl); refine od ?_; refine wp_cond_true (hsl.ev 17 rfl) ?_; refine wsr ?_; (iterate 3 refine hsl.s ?_; clear hsl; intro a hsl); refine od ?_; refine wp_ret ?_
  try simp only [Exit.then, Exit.inBlock]
  have hR := Lib.hid (show exactV t l o = (0, openE t l) from if_neg HE.out); rw [hR.out]; refine bodyPost_ret (v := .tuple #[.int .i64 0, .int .i64 (openE t l)]) ?_ hsl.defers ⟨rfl, hI.below⟩; simp [results, Try.results36, hsl.get 6 _ rfl, hsl.get 7 _ rfl]
end
section
open Go.RowKit
structure PaidV where
 owner : Int
 coins : Int
def PaysAt (w : World) (a : Option Addr) (l : List PaidV) : Prop :=
 l = [] ∨ ∃ b o, a = some ⟨b, o, none⟩ ∧ ∀ (i : Nat) (h : i < l.length), w.cell? ⟨b, o + i * 2, none⟩ = some (.int .i64 l[i].owner) ∧ w.cell? ⟨b, o + i * 2 + 1, none⟩ = some (.int .i64 l[i].coins)
theorem PaysAt.at {w : World} {a : Option Addr} {l : List PaidV} (h : PaysAt w a l) {i : Nat} (hi : i < l.length) : ∃ b o, a = some ⟨b, o, none⟩ ∧ w.cell? ⟨b, o + i * 2, none⟩ = some (.int .i64 l[i].owner) ∧ w.cell? ⟨b, o + i * 2 + 1, none⟩ = some (.int .i64 l[i].coins) := by
 rcases h with rfl | ⟨b, o, ha, h⟩
 ·simp at hi
 ·exact ⟨b, o, ha, h i hi⟩
def intsA (l : List Int) : Array Value := (l.map fun x => Value.int .i64 x).toArray
theorem intsA_get {l : List Int} {i : Nat} (h : i < l.length) : (intsA l)[i]? = some (.int .i64 l[i]) := by simp [intsA, h]
end
end Go.Proofs.Ytgdobbcjkiapkaa
