import Derived.Test.YtgdobbcjkiapkaaOn04
import Derived.Test.YtgdobbcjkiapkaaOn45
import Derived.Test.YtgdobbcjkiapkaaOn46
import Derived.Test.YtgdobbcjkiapkaaOn47
import Derived.Test.YtgdobbcjkiapkaaOn39
import Derived.Test.YtgdobbcjkiapkaaOn29
import Derived.Test.YtgdobbcjkiapkaaOn16
import Derived.Deep.AppendLies
import Derived.Deep.RegionLaw
import Derived.Test.YtgdobbcjkiapkaaOn43
namespace Go.Proofs.Ytgdobbcjkiapkaa
set_option maxRecDepth 100000
set_option maxHeartbeats 4000000
set_option linter.unusedSimpArgs false
set_option linter.unusedVariables false
section
open Go.RowKit
theorem ktar_body : Try.f20.body = some (Code.seq (regionIn Try.f20 0) (Code.seq (regionIn Try.f20 1) (Code.seq (Code.seq (regionIn Try.f20 2) (Code.block 0 (Code.loop (Code.seq (Code.seq (regionIn Try.f20 3) (Code.cond (Operand.tmp 26) Code.skip (Code.exit 0))) (Code.seq (Code.block 1 (Code.seq (regionIn Try.f20 5) (Code.seq (regionIn Try.f20 6) (Code.seq (Code.seq (regionIn Try.f20 7) (Code.block 2 (Code.seq (regionIn Try.f20 8) (Code.cond (Operand.tmp 54) (Code.seq (regionIn Try.f20 9) (regionIn Try.f20 10)) (Code.seq (regionIn Try.f20 11) (Code.cond (Operand.tmp 71) (regionIn Try.f20 12) (Code.seq (regionIn Try.f20 13) (Code.cond (Operand.tmp 80) (regionIn Try.f20 14) Code.skip)))))))) (regionIn Try.f20 15))))) (regionIn Try.f20 4)))))) (Code.seq (regionIn Try.f20 16) (Code.seq (Code.seq (regionIn Try.f20 17) (Code.block 3 (Code.loop (Code.seq (Code.seq (regionIn Try.f20 18) (Code.cond (Operand.tmp 102) Code.skip (Code.exit 3))) (Code.seq (Code.block 4 (regionIn Try.f20 20)) (regionIn Try.f20 19)))))) (Code.seq (regionIn Try.f20 21) (Code.seq (Code.seq (regionIn Try.f20 22) (Code.block 5 (Code.loop (Code.seq (Code.seq (regionIn Try.f20 23) (Code.cond (Operand.tmp 144) Code.skip (Code.exit 5))) (Code.seq (Code.block 6 (Code.seq (regionIn Try.f20 25) (Code.seq (regionIn Try.f20 26) (Code.seq (Code.seq (regionIn Try.f20 27) (Code.block 7 (Code.loop (Code.seq (Code.seq (regionIn Try.f20 28) (Code.cond (Operand.tmp 165) Code.skip (Code.exit 7))) (Code.seq (Code.block 8 (regionIn Try.f20 30)) (regionIn Try.f20 29)))))) (Code.seq (regionIn Try.f20 31) (Code.cond (Operand.tmp 191) (regionIn Try.f20 32) Code.skip)))))) (regionIn Try.f20 24)))))) (Code.seq (regionIn Try.f20 33) Code.ret)))))))) := by kernel_rfl
theorem tariffOf_any {w : World} {hb B : Nat} {ha : Option Addr} {hn hc ns nt : Nat} (hH : HandAt w hb B ha hn hc) (hB : B ≤ 900000) (h8 : ns ≤ 8) (h6 : nt ≤ 6) : Calls Try.prog 20 #[.pointer (some ⟨hb, 0, none⟩), .int .i64 (ns : Int), .int .i64 (nt : Int)] w (fun e w' => ∃ t s, e = .returned (.agg (tarC t s)) ∧ TarOwn w' w.heap.size t s ∧ TarOK ns nt t ∧ HandAt w' hb (B + 200) ha hn hc ∧ Ext hb w w') := by
 have hE := Ext.refl hb w; have hhb := hH.lt; refine call3 Try.func20 ktar_body Try.ntmps20 ?_; intro a hsl; refine wsr ?_; refine hsl.s ?_; clear hsl; intro a hsl; refine alloc_rwB (G := fun W => wpOps _ _ _ _ _ W) ?_; obtain ⟨b6, hg⟩ : ∃ b, b = w.heap.size := ⟨_, rfl⟩; intro x hz K6 hb2; rw [← hg] at hsl K6; have hhE6 : w.heap.size ≤ b6 := by rw [hg]; exact hE.size
 replace hH := hH.below hb2; replace hE := hE.bel hb2; clear hz hg hb2; refine od ?_; refine wsr ?_; refine hsl.s ?_; clear hsl; intro a hsl; refine og fun K hK => ?_
 have e16 := hsl.g 16; unfold Oper.wp; go_simp; refine (Among_any _ _ _ _ _ _ hH (by omega) (1) (3) (by omega) (by omega) (by omega) (by omega)).mono ?_; rintro e x ⟨_, ⟨z17, p17, q17, rfl⟩, rfl, hH, hE2⟩; replace hE := hE.trans hE2; replace K6 := K6.ext hE2 (by omega); clear hE2; clear e16; refine hsl.K hK ?_; clear hsl hK; intro a hsl; refine hsl.s ?_; clear hsl; intro a hsl; refine og fun K hK => ?_
 have e18 := hsl.g 18; unfold Oper.wp; go_simp; refine (Among_any _ _ _ _ _ _ hH (by omega) (2) (4) (by omega) (by omega) (by omega) (by omega)).mono ?_; rintro e x ⟨_, ⟨z19, p19, q19, rfl⟩, rfl, hH, hE2⟩; replace hE := hE.trans hE2; replace K6 := K6.ext hE2 (by omega); clear hE2; clear e18; refine hsl.K hK ?_; clear hsl hK; intro a hsl; (iterate 2 refine hsl.s ?_; clear hsl; intro a hsl); refine alloc_rwB (G := fun W => wpOps _ _ _ _ _ W) ?_; obtain ⟨b7, hg⟩ : ∃ b, b = x.heap.size := ⟨_, rfl⟩; intro x hz K7 hb2; rw [← hg] at hsl K7; have hhE7 : w.heap.size ≤ b7 := by rw [hg]; exact hE.size
 have h6_7 : b6 < b7 := by rw [hg]; exact K6.lt
 replace hH := hH.below hb2; replace hE := hE.bel hb2; replace K6 := K6.below hb2; clear hz hg hb2; refine hsl.rs rfl rfl rfl (run_str rfl (hsl.ev 7 rfl) (hsl.ev 20 rfl) (by kernel_rfl) K7 rfl rfl) ?_; have hG := setRow_grown K7 #[.int .i64 z17, .int .i64 z19, .slice none 0 0]; have K_ := K7.setRow #[.int .i64 z17, .int .i64 z19, .slice none 0 0]; replace hH := hH.grown hG (by omega); replace hE := hE.grown hG (by omega); replace K6 := K6.grown hG (by simp; omega); have K7 := K_; clear hG K_; obtain ⟨x, hx2⟩ : ∃ q, q = x.setRow b7 #[.int .i64 z17, .int .i64 z19, .slice none 0 0] := ⟨_, rfl⟩; rw [← hx2] at hH hE K6 K7 ⊢; clear hx2; refine od ?_; refine wp_seq ?_; refine wsr ?_; (iterate 3 refine hsl.s ?_; clear hsl; intro a hsl); rw [show (if (8 : Int) < (ns : Int) then (8 : Int) else (ns : Int)) = (ns : Int) from if_neg (by omega)] at hsl; refine og fun K hK => ?_
 have e21 := hsl.g 21; have e23 := hsl.g 23; unfold Oper.wp; go_simp; refine (Upto_any _ _ _ _ _ _ hH (by omega) ((ns : Int)) (by omega) (by omega)).mono ?_; rintro e x ⟨_, ⟨z24, p24, q24, rfl⟩, rfl, hH, hE2⟩; replace hE := hE.trans hE2; replace K6 := K6.ext hE2 (by omega); replace K7 := K7.ext hE2 (by omega); clear hE2; clear e21 e23; refine hsl.K hK ?_; clear hsl hK; intro a hsl; refine hsl.s ?_; clear hsl; intro a hsl; refine od ?_; obtain ⟨m, rfl⟩ : ∃ m : Nat, z24 = (m : Int) := ⟨z24.toNat, by omega⟩; refine ktar_l1 (dD := z17) (dS := z19) hB h8 (by omega) (by omega) hhb hhE6 h6_7 a (((((hsl.nil.cons (hsl.get 7 _ rfl)).cons (hsl.get 6 _ rfl)).cons (hsl.get 2 _ rfl)).cons (hsl.get 0 _ rfl)).cons (hsl.get 8 _ rfl)) K6 K7 hH hE _ ?_; clear hsl K6 K7 hH hE; intro a x l aS cS hln hG hsl K6 K7 hO hH hE; have HG := Lib.hid hG; clear hG; refine wp_seq ?_; refine ktar_r16 (ns := ns) hB hhb hhE6 h6_7 a ((((hsl.nil.cons (hsl.get 7 _ rfl)).cons (hsl.get 6 _ rfl)).cons (hsl.get 2 _ rfl)).cons (hsl.get 0 _ rfl)) K6 K7 hO hH hE _ ?_; clear hsl K6 K7 hO hH hE; intro a x b10 pace hpc h7_10 UO hsl K6 K7 K10 hO hH hE; refine wp_seq ?_; refine ktar_l2 (ns := ns) hB hhb hhE6 h6_7 h7_10 UO a (((((hsl.nil.cons (hsl.get 10 _ rfl)).cons (hsl.get 7 _ rfl)).cons (hsl.get 6 _ rfl)).cons (hsl.get 2 _ rfl)).cons (hsl.get 0 _ rfl)) K6 K7 hO K10 hH hE _ ?_; clear hsl K6 K7 hO K10 hH hE; intro a x ps aP cP hp1 hp3 hps hsl K6 K7 hO K10 hOP hH hE; refine wp_seq ?_
 obtain ⟨p, qs, rfl⟩ : ∃ p qs, ps = p :: qs := by cases ps with | nil => simp at hp1 | cons p qs => exact ⟨p, qs, rfl⟩
 have HPS := Lib.hid hps; clear hps; obtain ⟨gP, rfl, hgP, _, hcP, hfP⟩ := hOP.at0 (fun _ => rfl) (by simp); have c0P : x.cell? ⟨gP, 0, none⟩ = some (.int .i64 p.heads) := (by have := hcP 0 (by simp) 0 _ (by decide) rfl; simpa using this); have f0P := hfP 0; have hb0 := (HPS.out p (by simp)).1; clear hcP hfP; refine wr ?_; refine hsl.s ?_; clear hsl; intro a hsl; refine hsl.rv rfl rfl rfl (by decide) (run_ld1 rfl (hsl.ev 125 rfl) Try.underlying25 rfl (K10.cell (o := 4) (v := .slice (some ⟨gP, 0, none⟩) (p :: qs).length cP) rfl)) ?_; clear hsl; intro a hsl; refine og fun K hK => ?_
 have e126 := hsl.g 126; have q6 : (0 : Int) < ((p :: qs).length : Int) := by simp only [List.length_cons]; omega
 unfold Oper.wp; go_simp; clear e126; refine hsl.K hK ?_; clear hsl hK; intro a hsl; refine hsl.s ?_; clear hsl; intro a hsl; refine hsl.rv rfl rfl rfl (by decide) (run_ld1 rfl (hsl.ev 128 rfl) Try.underlying3 rfl (c0P)) ?_; clear hsl; intro a hsl; refine og fun K hK => ?_
 have e129 := hsl.g 129; have hw130 := IntWalk.i64_in (p.heads + 1) (by omega); unfold Oper.wp; go_simp; clear e129; refine hsl.K hK ?_; clear hsl hK; intro a hsl; refine og fun K hK => ?_
 have e126 := hsl.g 126; have q6 : (0 : Int) < ((p :: qs).length : Int) := by simp only [List.length_cons]; omega
 unfold Oper.wp; go_simp; clear e126; refine hsl.K hK ?_; clear hsl hK; intro a hsl; refine hsl.s ?_; clear hsl; intro a hsl; refine hsl.rs rfl rfl rfl (run_st1 (v := .int .i64 (p.heads + 1)) rfl (hsl.ev 132 rfl) (hsl.ev 130 rfl) (by kernel_rfl) rfl rfl c0P f0P) ?_; have hOP2 := hOP.put (fun _ => rfl) (i := 0) (j := 0) (by simp) (by decide) (y := { p with heads := p.heads + 1 }) (u := .int .i64 (p.heads + 1)) rfl; replace hOP2 : OwnPay (x.setCell ⟨gP, 0, none⟩ (.int .i64 (p.heads + 1))) (b10 + 1) (.slice (some ⟨gP, 0, none⟩) (p :: qs).length cP) ({ p with heads := p.heads + 1 } :: qs) := hOP2; replace K6 := K6.far (g := gP) (by omega) 0 (.int .i64 (p.heads + 1)); replace K7 := K7.far (g := gP) (by omega) 0 (.int .i64 (p.heads + 1)); replace K10 := K10.far (g := gP) (by omega) 0 (.int .i64 (p.heads + 1)); replace hO := hO.farE UO.out (g := gP) (by omega) 0 (.int .i64 (p.heads + 1)); replace hH := hH.far (g := gP) (by omega) 0 (.int .i64 (p.heads + 1)); replace hE := hE.set (g := gP) (by omega) 0 (.int .i64 (p.heads + 1)); clear hOP; have hOP := hOP2; clear hOP2 c0P f0P; obtain ⟨x, hx2⟩ : ∃ q, q = x.setCell ⟨gP, 0, none⟩ (.int .i64 (p.heads + 1)) := ⟨_, rfl⟩; rw [← hx2] at K6 K7 K10 hO hOP hH hE ⊢; clear hx2; refine od ?_; refine wp_seq ?_; obtain ⟨B3, hB3⟩ : ∃ B, B = x.heap.size := ⟨_, rfl⟩; have h10B : b10 < B3 := by rw [hB3]; exact K10.lt
 have hS : B3 ≤ x.heap.size := by omega
 have UP : Hid (UpTo B3 (.slice (some ⟨gP, 0, none⟩) ({ p with heads := p.heads + 1 } :: qs).length cP)) := Lib.hid (by rw [hB3]; exact hOP.upTo); clear hB3; refine ktar_l3 (ns := ns) hB h6 (by omega) hhb hhE6 h6_7 h7_10 h10B hS UO UP a (((((hsl.nil.cons (hsl.get 10 _ rfl)).cons (hsl.get 7 _ rfl)).cons (hsl.get 6 _ rfl)).cons (hsl.get 2 _ rfl)).cons (hsl.get 0 _ rfl)) K6 K7 hO K10 hOP hH hE _ ?_; clear hsl K6 K7 hO K10 hOP hH hE hS; intro a x ts aT cT htn htE hsl K6 hO K10 hOP hOT hH hE; have HT := Lib.hid htE; clear htE; refine wsr ?_; refine hsl.rv rfl rfl rfl (by decide) (run_ldr rfl (hsl.ev 10 rfl) Try.underlying28 rfl (by kernel_rfl) K10) ?_; clear hsl; intro a hsl; refine hsl.rs rfl rfl rfl (run_str rfl (hsl.ev 6 rfl) (hsl.ev 198 rfl) (by kernel_rfl) K6 rfl rfl) ?_; have hG := setRow_grown K6 #[.int .i64 z17, .int .i64 z19, .slice aS l.length cS, .int .i64 pace, .slice (some ⟨gP, 0, none⟩) ({ p with heads := p.heads + 1 } :: qs).length cP, .slice aT ts.length cT]; have K_ := K6.setRow #[.int .i64 z17, .int .i64 z19, .slice aS l.length cS, .int .i64 pace, .slice (some ⟨gP, 0, none⟩) ({ p with heads := p.heads + 1 } :: qs).length cP, .slice aT ts.length cT]; replace hO := hO.grown hG (hO.ne_low (by omega)); replace K10 := K10.grown hG (by simp; omega); replace hOP := hOP.grown hG (hOP.ne_low (by omega)); replace hOT := hOT.grown hG (hOT.ne_low (by omega)); replace hH := hH.grown hG (by omega); replace hE := hE.grown hG (by omega); have K6 := K_; clear hG K_
 obtain ⟨x, hx2⟩ : ∃ q, q = x.setRow b6 #[.int .i64 z17, .int .i64 z19, .slice aS l.length cS, .int .i64 pace, .slice (some ⟨gP, 0, none⟩) ({ p with heads := p.heads + 1 } :: qs).length cP, .slice aT ts.length cT] := ⟨_, rfl⟩; rw [← hx2] at K6 hO K10 hOP hOT hH hE ⊢; clear hx2; refine od ?_; refine wp_ret ?_
 try simp only [Exit.then, Exit.inBlock, ↓reduceIte, Nat.reduceEqDiff]
 have hT6 : TarOK ns nt ⟨⟨z17, z19, l⟩, pace, { p with heads := p.heads + 1 } :: qs, ts⟩ := tarOK_make (by omega) (by omega) HG.out hln h8 hpc HPS.out (by simp at hp3; omega) HT.out htn h6; obtain ⟨s2, hs2, he2⟩ := TarOwn.make (r := ⟨z17, z19, l⟩) (p := pace) (hO.lower (B' := w.heap.size) (by omega)) (hOP.lower (B' := w.heap.size) (by omega)) (hOT.lower (B' := w.heap.size) (by omega)); refine bodyPost_ret (v := .agg (tarC _ s2)) ?_ hsl.defers ⟨_, s2, rfl, hs2, hT6, hH.more (by omega), hE⟩; rw [← he2]; have c0 := K6.cell (o := 0) rfl; have c1 := K6.cell (o := 1) rfl; have c2 := K6.cell (o := 2) rfl; have c3 := K6.cell (o := 3) rfl; have c4 := K6.cell (o := 4) rfl; have c5 := K6.cell (o := 5) rfl; simp [results, Try.results20, hsl.get 6 _ rfl, go_sem, c0, c1, c2, c3, c4, c5]
end
section
open Go.RowKit
theorem passErr_made {t : TariffV} : ∀ {l : List PassV}, PassOK t.tolls.length t.payers.length l → passErr t l = 0
 | [], _ => rfl
 | p :: l, h => by
  have h1 := h p (by simp)
  have e : passE1 t p = 0 := by
   unfold passE1; have b1 : btw p.toll 0 ((t.tolls.length : Int) - 1) = true := btw_true.2 (by omega); have b2 : btw p.owner 0 ((t.payers.length : Int) - 1) = true := btw_true.2 (by omega); have b3 : btw p.heads 1 40 = true := btw_true.2 (by omega); simp [b1, b2, b3]
  have h2 : PassOK t.tolls.length t.payers.length l := fun x hx => h x (List.mem_cons_of_mem _ hx)
  have h3 := passErr_made h2; unfold passErr; rw [if_pos e]; exact h3
theorem openE_made {ns nt : Nat} {t : TariffV} {l : List PassV} (hT : TarOK ns nt t) (hl : PassOK t.tolls.length t.payers.length l) (hn : l.length ≤ 24) : openE t l = 0 := by
 unfold openE; rw [if_neg (by rw [hT.ok]; simp), if_neg (by omega)]; exact passErr_made hl
theorem once_sum {f : Nat → Int} : ∀ n : Nat, sumV f n ≤ 200 * sumV (fun i => coinsV (f i)) n ∧ 200 * sumV (fun i => coinsV (f i)) n ≤ sumV f n + 199 * (n : Int)
 | 0 => by simp [sumV]
 | n + 1 => by
  have := once_sum (f := f) n; simp only [sumV, coinsV]; simp only [coinsV] at this
  push_cast
  omega
theorem once_law {t : TariffV} {l : List PassV} (o : Nat) : exactL t l o ≤ 200 * dueL t l o ∧ 200 * dueL t l o < exactL t l o + 200 ∧ dueL t l o ≤ sevL t l o ∧ sevL t l o ≤ dueL t l o + max 0 ((t.tolls.length : Int) - 1) := by
 have h := once_sum (f := atL t l o) t.tolls.length; unfold dueL sevL exactL; simp only [coinsV] at h ⊢; refine ⟨by omega, by omega, by omega, ?_⟩
 by_cases h0 : t.tolls.length = 0
 ·rw [h0] at h ⊢; simp [sumV]; omega
 ·omega
end
section
open Go Go.Conc Go.RowKit
section
variable {P : Program} {M : Machine} {ops : Array Oper} {Q : Exit → Act → World → Prop} {i : Nat} {rest : List Nat} {o : Oper} {a : Act} {n d : Nat} {m : List (Nat × Value)} {v : Value} {w w' : World}
theorem Sl.rvX (h : Sl a n m) (ho : ops[i]? = some o) (hg : o.guard = none) (hd : o.dst = some d) (hn : d < n) (hr : (execOp a.eval o).run P w = .ok (.value v) w') (hG : ∀ a', Sl a' n ((d, v) :: m) → opsX P M ops Q rest a' w') : opsX P M ops Q (i :: rest) a w := by
 refine opsX_go ho hg (fun K hK => ?_); unfold Oper.wp; rw [hr, Oper.upon_value, hd]; exact h.kX hK hn hG
end
end
section
open Go.RowKit
structure RS (w0 wx : World) (hb B p : Nat) (a : Option Addr) (n c : Nat) (D S : Int) (v : Value) (l : List Strip) : Prop where
 c0 : wx.cell? ⟨p, 0, none⟩ = some (.int .i64 D)
 c1 : wx.cell? ⟨p, 1, none⟩ = some (.int .i64 S)
 c2 : wx.cell? ⟨p, 2, none⟩ = some v
 free : wx.frozen? ⟨p, 2, none⟩ = false
 own : OwnStrips wx w0.heap.size v l
 nb : v.ownBlock ≠ some p
 hand : HandAt wx hb B a n c
 ext : Ext hb w0 wx
 new : w0.heap.size ≤ p
 old : hb < w0.heap.size
end
section
open Go.RowKit
set_option maxHeartbeats 2000000 in
theorem NewHand_any (w : World) (a : Option Addr) (n c : Nat) (l : List Int) (hl : IntsAt w a l) (hn : l.length = n) (hm : n ≤ maxLen) (ha : l = [] ∨ ∀ ad, a = some ad → ad.block < w.heap.size) :
  Calls Try.prog 19 #[.slice a n c] w fun e w' => e = .returned (.pointer (some ⟨w.heap.size, 0, none⟩)) ∧ HandAt w' w.heap.size 0 a n c ∧ Below w.heap.size w w' ∧ w'.heap.size = w.heap.size + 1 := by
 have HL := Lib.hid hl; clear hl; have HA := Lib.hid ha; clear ha
 go_enter Try.func19, Try.ntmps19
 go_wp2_with fail
 go_ret
 refine ⟨rfl, ⟨by simp, ⟨0, Nat.le_refl _, by simp⟩, ⟨88172645463325252, by omega, by omega, by simp⟩, by simp, by simp, ⟨l, hn, HL.out.below (Below.alloc (Below.refl _ _) (Nat.le_refl _) _), HA.out⟩, hm⟩, Below.alloc (Below.refl _ _) (Nat.le_refl _) _, by simp⟩
end
section
open Go Go.Conc Go.RowKit
theorem newHand2 {w : World} {a : Option Addr} {n c : Nat} {l : List Int} (hl : IntsAt w a l) (hn : l.length = n) (hm : n ≤ maxLen) (ha : l = [] ∨ ∀ ad, a = some ad → ad.block < w.heap.size) : Calls Try.prog 19 #[.slice a n c] w fun e w' => ∃ hb, e = .returned (.pointer (some ⟨hb, 0, none⟩)) ∧ w.heap.size ≤ hb ∧ HandAt w' hb 0 a n c ∧ Below w.heap.size w w' :=
 (NewHand_any w a n c l hl hn hm ha).mono fun _ _ ⟨h1, h2, h3, _⟩ => ⟨_, h1, Nat.le_refl _, h2, h3⟩
def TarFar (b : Nat) (t : TariffV) (s : TarS) : Prop := (Value.slice s.sa t.roads.strips.length s.sc).ownBlock ≠ some b ∧ (Value.slice s.pa t.payers.length s.pc).ownBlock ≠ some b ∧ (Value.slice s.ta t.tolls.length s.tc).ownBlock ≠ some b
theorem TarOwn.far {x : World} {B b : Nat} {t : TariffV} {s : TarS} (h : TarOwn x B t s) (hb : x.heap.size ≤ b) : TarFar b t s := ⟨h.os.ne_new hb, h.op.ne_new hb, h.ot.ne_new hb⟩
theorem TarOwn.grownF {x x' : World} {B b : Nat} {t : TariffV} {s : TarS} (h : TarOwn x B t s) (hG : x.grownBy x' (some b)) (hF : TarFar b t s) : TarOwn x' B t s := ⟨h.os.grown hG hF.1, h.op.grown hG hF.2.1, h.ot.grown hG hF.2.2⟩
theorem tariffOf2 {w : World} {hb B : Nat} {ha : Option Addr} {hn hc : Nat} (ns nt : Nat) (hH : HandAt w hb B ha hn hc) (hB : B ≤ 900000) (h8 : ns ≤ 8) (h6 : nt ≤ 6) : Calls Try.prog 20 #[.pointer (some ⟨hb, 0, none⟩), .int .i64 (ns : Int), .int .i64 (nt : Int)] w (fun e w' => ∃ t s, e = .returned (.agg (tarC t s)) ∧ TarOwn w' (hb + 1) t s ∧ Hid (TarOK ns nt t) ∧ HandAt w' hb (B + 200) ha hn hc ∧ Ext hb w w') :=
 (tariffOf_any hH hB h8 h6).mono fun _ _ ⟨t, s, h1, h2, h3, h4, h5⟩ => ⟨t, s, h1, h2.lower (Nat.succ_le_of_lt hH.lt), Lib.hid h3, h4, h5⟩
theorem passOf2 {w : World} {hb B ns nt : Nat} {ha : Option Addr} {hn hc : Nat} {t : TariffV} {s : TarS} (most : Nat) (hH : HandAt w hb B ha hn hc) (hB : B ≤ 900000) (hT : Hid (TarOK ns nt t)) (h6 : nt ≤ 6) (hm : most ≤ 24) : Calls Try.prog 29 #[.pointer (some ⟨hb, 0, none⟩), .agg (tarC t s), .int .i64 (most : Int)] w (fun e w' => ∃ l la lc, e = .returned (.slice la l.length lc) ∧ OwnPass w' (hb + 1) (.slice la l.length lc) l ∧ l.length ≤ most ∧ Hid (PassOK t.tolls.length t.payers.length l) ∧ HandAt w' hb (B + 1 + 5 * most) ha hn hc ∧ Ext hb w w') := by
 have h := hT.out; refine (passOf_any (most := most) hH hB (by have := h.lt; omega) (by have := h.lp; omega) h.p1 (by omega)).mono ?_; rintro e w' ⟨l, v, rfl, hO, hl, hG, hH', hE⟩; obtain ⟨la, lc, rfl, _, _, _⟩ := hO.at; exact ⟨l, la, lc, rfl, hO.lower (Nat.succ_le_of_lt hH.lt), hl, Lib.hid hG, hH', hE⟩
theorem OwnPass.pass {w : World} {B : Nat} {la : Option Addr} {lc : Nat} {l : List PassV} (h : OwnPass w B (.slice la l.length lc) l) : PassAt w la l := by
 obtain ⟨a, cap, hv, _, _, hp⟩ := h.at; simp only [Value.slice.injEq, true_and] at hv; rw [hv.1]; exact hp
end
section
open Go Go.Conc Go.RowKit
theorem openE_len {t : TariffV} {l : List PassV} (h : openE t l = 0) : l.length ≤ maxLen := by
 have : l.length ≤ 24 := Classical.byContradiction fun c => by
  unfold openE at h
  by_cases h1 : checkT t ≠ 0
  ·rw [if_pos h1] at h; exact h1 h
  ·rw [if_neg h1, if_pos (by omega)] at h; exact absurd h (by decide)
 exact Nat.le_trans this (by decide)
theorem fine_open {t : TariffV} {l : List PassV} (h : openE t l = 0) : FineL t l := FineL.of (open_ok h) (open_fine h).1 (open_fine h).2
theorem exact_pos {t : TariffV} {l : List PassV} (h : FineL t l) {o : Nat} (ho : o < t.payers.length) : 0 ≤ exactL t l o := by
 have := sumV_bounds (h.at_bounds ho) t.tolls.length; unfold exactL; omega
theorem listCell {w : World} {g n : Nat} {f : Nat → Int} {t : TypeId} (h : Rw w g (intsA (listF f n)) t) {i : Nat} (hi : i < n) : w.cell? ⟨g, i, none⟩ = some (.int .i64 (f i)) := by
 refine h.cell ?_; rw [intsA_get (l := listF f n) (i := i) (by rw [listF_len]; exact hi)]; simp [listF]
section
variable {M : Machine} {w : World} {t : TariffV} {s : TarS} {l : List PassV} {la : Option Addr} {lc : Nat}
def ListUse (w0 : World) (L : List Int) (n : Nat) (e : Ending) (w' : World) : Prop :=
 Below w0.heap.size w0 w' ∧ ∃ g, e = .returned (.tuple #[.slice (some ⟨g, 0, none⟩) n n, .int .i64 0]) ∧ w0.heap.size ≤ g ∧ Rw w' g (intsA L) 3
theorem ListPost.use {L : List Int} {err : Int} {e : Ending} {w' : World} (h : ListPost w L err e w') (h0 : err = 0) {n : Nat} (hn : L.length = n) : ListUse w L n e w' := by
 obtain ⟨g, h1, h2, h3⟩ := h.2.2 h0; exact ⟨h.1, g, by rw [h1, hn], h2, h3⟩
theorem due2 (hT : TarIn w t s) (hP : PassAt w la l) (ho : Hid (openE t l = 0)) : CallsX Try.prog M 30 #[.agg (tarC t s), .slice la l.length lc] w (ListUse w (listF (dueL t l) t.payers.length) t.payers.length) :=
 (dueX_any hT hP (openE_len ho.out)).mono fun _ _ h => h.use ho.out (listF_len _ _)
theorem sev2 (hT : TarIn w t s) (hP : PassAt w la l) (ho : Hid (openE t l = 0)) : CallsX Try.prog M 46 #[.agg (tarC t s), .slice la l.length lc] w (ListUse w (listF (sevL t l) t.payers.length) t.payers.length) :=
 (sevX_any hT hP (openE_len ho.out)).mono fun _ _ h => h.use ho.out (listF_len _ _)
theorem exact2 (hT : TarIn w t s) (hP : PassAt w la l) (ho : Hid (openE t l = 0)) {k : Nat} (hk : k < t.payers.length) : Calls Try.prog 36 #[.agg (tarC t s), .slice la l.length lc, .int .i64 (k : Int)] w (fun e w' => e = .returned (.tuple #[.int .i64 (exactL t l k), .int .i64 0]) ∧ Below w.heap.size w w') := by
 refine (exact_any hT hP (openE_len ho.out)).mono ?_; rintro e w' ⟨rfl, hb⟩
 have hv : exactV t l (k : Int) = (exactL t l k, 0) := by
  unfold exactV; rw [if_pos ho.out, if_pos (btw_true.2 (by omega))]
  rfl
 rw [hv]; exact ⟨rfl, hb⟩
end
end
end Go.Proofs.Ytgdobbcjkiapkaa
