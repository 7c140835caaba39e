import Derived.Test.YtgdobbcjkiapkaaOn04
import Derived.Test.YtgdobbcjkiapkaaOn21
namespace Go.Proofs.Ytgdobbcjkiapkaa
set_option maxRecDepth 100000
set_option maxHeartbeats 4000000
set_option linter.unusedSimpArgs false
set_option linter.unusedVariables false
section
open Go.RowKit
structure TI (w x : World) (bt : Nat) (t : TariffV) (s : TarS) : Prop where
 below : Below w.heap.size w x
 tar : TarIn x t s
 kb : Rw x bt (tarC t s) 28
 lb : w.heap.size ≤ bt
section
variable {w x : World} {bt : Nat} {t : TariffV} {s : TarS}
theorem TI.keep (h : TI w x bt t s) {x2 : World} (hb : Below x.heap.size x x2) : TI w x2 bt t s := ⟨h.below.trans (hb.mono h.below.size), h.tar.below hb, h.kb.below hb, h.lb⟩
theorem TI.c0 (h : TI w x bt t s) : x.cell? ⟨bt, 0, none⟩ = some (.int .i64 t.roads.days) := h.kb.cell rfl
theorem TI.c1 (h : TI w x bt t s) : x.cell? ⟨bt, 1, none⟩ = some (.int .i64 t.roads.stages) := h.kb.cell rfl
theorem TI.c2 (h : TI w x bt t s) : x.cell? ⟨bt, 2, none⟩ = some (.slice s.sa t.roads.strips.length s.sc) := h.kb.cell rfl
theorem TI.c3 (h : TI w x bt t s) : x.cell? ⟨bt, 3, none⟩ = some (.int .i64 t.pace) := h.kb.cell rfl
theorem TI.c4 (h : TI w x bt t s) : x.cell? ⟨bt, 4, none⟩ = some (.slice s.pa t.payers.length s.pc) := h.kb.cell rfl
theorem TI.c5 (h : TI w x bt t s) : x.cell? ⟨bt, 5, none⟩ = some (.slice s.ta t.tolls.length s.tc) := h.kb.cell rfl
theorem TI.made {w0 : World} (h0 : Below w.heap.size w w0) (ht : TarIn w0 t s) {W : World} (hX : Rw W w0.heap.size (tarC t s) 28) (hb : Below w0.heap.size w0 W) : TI w W w0.heap.size t s := ⟨h0.trans (hb.mono h0.size), ht.below hb, hX, h0.size⟩
end
theorem rcheck_any {t : TariffV} {s : TarS} {w : World} (h : TarIn w t s) : Calls Try.prog 85 #[.agg #[.int .i64 t.roads.days, .int .i64 t.roads.stages, .slice s.sa t.roads.strips.length s.sc]] w
   fun e w' => e = .returned (.int .i64 (checkR t.roads)) ∧ Below w.heap.size w w' := check_any _ _ _ _ _ _ h.strips h.ls
theorem add_one (k : Nat) (h : k ≤ 1000000) : IntKind.i64.wrap ((k : Int) + 1) = ((k + 1 : Nat) : Int) := by rw [IntWalk.i64_in _ (by omega)]; simp
theorem beq_trueI {a b : Int} (h : a = b) : (a == b) = true := by simpa using h
theorem beq_falseI {a b : Int} (h : ¬ a = b) : (a == b) = false := by simpa using h
theorem bne_trueI {a b : Int} (h : ¬ a = b) : (a != b) = true := by simpa using h
theorem few_zero {n lo hi : Int} (h : fewV n lo hi = 0) : lo ≤ n ∧ n ≤ hi := by
 unfold fewV at h
 split at h
 ·exact absurd h (by decide)
 ·split at h
  ·exact absurd h (by decide)
  ·omega
theorem check_at {t : TariffV} (h1 : checkR t.roads = 0) (h2 : btw t.pace 1 9 = true) (h3 : fewV t.payers.length 1 4 = 0) :
  (∀ k (hk : k < t.payers.length), (btw (t.payers[k]).heads 0 40 = false ∨ btw (t.payers[k]).free 0 40 = false) → checkT t = 1) ∧
  (t.payers.all payerFine = true → btw (headsOf t.payers) 1 40 = false → checkT t = 1) ∧ (t.payers.all payerFine = true → btw (headsOf t.payers) 1 40 = true → checkT t = tollsE t) := by
 refine ⟨fun k hk h => ?_, fun ha hb => ?_, fun ha hb => ?_⟩
 ·have : t.payers.all payerFine = false := by
   rw [List.all_eq_false]; exact ⟨t.payers[k], List.getElem_mem hk, by rcases h with h | h <;> simp [payerFine, h]⟩
  unfold checkT; rw [if_neg (by simp [h1]), if_neg (by simp [h2]), if_neg (by simp [h3]), if_pos (by simp [this])]
 ·unfold checkT; rw [if_neg (by simp [h1]), if_neg (by simp [h2]), if_neg (by simp [h3]), if_neg (by simp [ha]), if_pos (by simp [hb])]
 ·unfold checkT; rw [if_neg (by simp [h1]), if_neg (by simp [h2]), if_neg (by simp [h3]), if_neg (by simp [ha]), if_neg (by simp [hb])]
theorem fine_next {ps : List PayerV} {k : Nat} (hk : k < ps.length) (h : (ps.take k).all payerFine = true) (h1 : btw ps[k].heads 0 40 = true) (h2 : btw ps[k].free 0 40 = true) : (ps.take (k + 1)).all payerFine = true := by
 rw [List.take_succ_eq_append_getElem hk, List.all_append, h]; simp [payerFine, h1, h2]
theorem add_heads {ps : List PayerV} {k : Nat} (hl : (ps.length : Int) ≤ 4) (hk : k < ps.length) (h : (ps.take k).all payerFine = true) (h1 : btw ps[k].heads 0 40 = true) : IntKind.i64.wrap (headsOf (ps.take k) + ps[k].heads) = headsOf (ps.take (k + 1)) := by
 have h2 := headsOf_bounds h; have h3 := btw_true.1 h1; have h4 : (ps.take k).length ≤ 4 := by rw [List.length_take]; omega
 rw [headsOf_take hk, IntWalk.i64_in _ (by omega)]
theorem bne_falseI {a b : Int} (h : a = b) : (a != b) = false := by simpa using h
theorem te3 {N : Int} {pre : List TollV} {x : TollV} (h : btw x.strip 0 (N - 1) = false) : tollErr N pre x = 3 := by unfold tollErr; rw [if_pos (by rw [h]; rfl)]
theorem te1 {N : Int} {pre : List TollV} {x : TollV} (h : btw x.strip 0 (N - 1) = true) (h2 : btw x.rate 0 500 = false ∨ btw x.farmer 1 4 = false) : tollErr N pre x = 1 := by
 unfold tollErr; rw [if_neg (by simp [h]), if_pos (by rcases h2 with h2 | h2 <;> simp [h2])]
theorem te4 {N : Int} {pre : List TollV} {x : TollV} (h : btw x.strip 0 (N - 1) = true) (h1 : btw x.rate 0 500 = true) (h2 : btw x.farmer 1 4 = true) (h3 : pre.any (fun y => y.strip == x.strip && y.farmer == x.farmer) = true) : tollErr N pre x = 4 := by
 unfold tollErr; rw [if_neg (by simp [h]), if_neg (by simp [h1, h2]), if_pos h3]
theorem te0 {N : Int} {pre : List TollV} {x : TollV} (h : btw x.strip 0 (N - 1) = true) (h1 : btw x.rate 0 500 = true) (h2 : btw x.farmer 1 4 = true) (h3 : pre.any (fun y => y.strip == x.strip && y.farmer == x.farmer) = false) : tollErr N pre x = 0 := by
 unfold tollErr; rw [if_neg (by simp [h]), if_neg (by simp [h1, h2]), if_neg (by rw [h3]; simp)]
theorem any_hit {ts : List TollV} {k j : Nat} (hk : k < ts.length) (hj : j < k) (h1 : ts[j].strip = ts[k].strip) (h2 : ts[j].farmer = ts[k].farmer) : (ts.take k).any (fun y => y.strip == ts[k].strip && y.farmer == ts[k].farmer) = true := by
 rw [List.any_eq_true]; refine ⟨ts[j], ?_, by simp [h1, h2]⟩; rw [List.mem_take_iff_getElem]; exact ⟨j, by omega, rfl⟩
theorem any_miss {ts : List TollV} {x : TollV} {j : Nat} (hj : j < ts.length) (h : (ts.take j).any (fun y => y.strip == x.strip && y.farmer == x.farmer) = false) (h1 : ¬ (ts[j].strip = x.strip ∧ ts[j].farmer = x.farmer)) : (ts.take (j + 1)).any (fun y => y.strip == x.strip && y.farmer == x.farmer) = false := by
 rw [List.take_succ_eq_append_getElem hj, List.any_append, h]; simp only [List.any_cons, List.any_nil, Bool.or_false, Bool.false_or, Bool.and_eq_false_iff, beq_eq_false_iff_ne]
 by_cases e : ts[j].strip = x.strip
 ·exact .inr fun e2 => h1 ⟨e, e2⟩
 ·exact .inl e
theorem ttolls_body : Try.f88.body = some (Code.seq (regionIn Try.f88 0) (Code.seq (Code.seq (regionIn Try.f88 1) (Code.cond (Operand.tmp 10) (Code.seq (regionIn Try.f88 2) Code.ret) Code.skip)) (Code.seq (Code.seq (regionIn Try.f88 3) (Code.block 0 (Code.loop (Code.seq (regionIn Try.f88 4) (Code.seq (Code.cond (Operand.tmp 15) Code.skip (Code.exit 0)) (Code.seq (Code.block 1 (Code.seq (regionIn Try.f88 5) (Code.seq (Code.seq (regionIn Try.f88 6) (Code.cond (Operand.tmp 27) (Code.seq (regionIn Try.f88 7) Code.ret) Code.skip)) (Code.seq (Code.seq (regionIn Try.f88 8) (Code.cond (Operand.tmp 37) (Code.seq (regionIn Try.f88 9) Code.ret) Code.skip)) (Code.seq (regionIn Try.f88 10) (Code.block 2 (Code.loop (Code.seq (regionIn Try.f88 11) (Code.seq (Code.cond (Operand.tmp 44) Code.skip (Code.exit 2)) (Code.seq (Code.block 3 (Code.seq (regionIn Try.f88 12) (Code.seq (regionIn Try.f88 13) (Code.cond (Operand.tmp 58) (Code.seq (regionIn Try.f88 14) Code.ret) Code.skip)))) (regionIn Try.f88 15))))))))))) (regionIn Try.f88 16))))))) (Code.seq (regionIn Try.f88 17) Code.ret)))) := by kernel_rfl
theorem tolls_any {t : TariffV} {s : TarS} {w : World} (ht : TarIn w t s) : Calls Try.prog 88 #[.agg (tarC t s)] w (fun e w' => e = .returned (.int .i64 (tollsE t)) ∧ Below w.heap.size w w') := by
 refine call1 Try.func88 ttolls_body Try.ntmps88 ?_; intro a hsl; refine wsr ?_; refine hsl.s ?_; clear hsl; intro a hsl; refine alloc_rwB (G := fun W => wpOps _ _ _ _ _ W) ?_; intro x hz X hb; have hI := TI.made (Below.refl _ _) ht X hb; obtain ⟨bt, hbt⟩ : ∃ b, b = w.heap.size := ⟨_, rfl⟩; rw [← hbt] at hsl hI; clear hz X hb hbt; refine hsl.s ?_; clear hsl; intro a hsl; refine od ?_; refine wp_seq ?_; refine wsr ?_; refine hsl.s ?_; clear hsl; intro a hsl; refine og fun K hK => ?_
 have e7 := hsl.g 7; have c5 := hI.c5; unfold Oper.wp; go_simp; clear e7; refine hsl.K hK ?_; clear hsl hK; intro a hsl; refine hsl.s ?_; clear hsl; intro a hsl
 by_cases h1 : 6 < t.tolls.length
 ·have q1 : (6 : Int) < (t.tolls.length : Int) := by omega
  have hR := Lib.hid (show tollsE t = 6 from by unfold tollsE; rw [if_pos h1]); refine hsl.s ?_; clear hsl; intro a hsl; refine od ?_; refine wp_cond_true (hsl.ev 10 rfl) ?_; refine wsr ?_; refine hsl.s ?_; clear hsl; intro a hsl; refine od ?_; refine wp_ret ?_
  try simp only [Exit.then, Exit.inBlock]
  refine bodyPost_ret (v := .int .i64 (tollsE t)) ?_ hsl.defers ⟨rfl, hI.below⟩; rw [hR.out]; simp [results, Try.results88, hsl.get 2 _ rfl]
 ·have q1 : ¬ (6 : Int) < (t.tolls.length : Int) := by omega
  refine hsl.s ?_; clear hsl; intro a hsl; refine od ?_; refine wp_cond_false (hsl.ev 10 rfl) ?_; refine wp_skip ?_; refine wp_seq ?_; refine wsr ?_; refine hsl.s ?_; clear hsl; intro a hsl; refine og fun K hK => ?_
  have e11 := hsl.g 11; have c5 := hI.c5; unfold Oper.wp; go_simp; clear e11; refine hsl.K hK ?_; clear hsl hK; intro a hsl; (iterate 2 refine hsl.s ?_; clear hsl; intro a hsl); refine od ?_; refine wp_block ?_; have hl6 : t.tolls.length ≤ 6 := by omega
  refine wp_loop_ghost (fun n p x => ∃ k : Nat, k + n = t.tolls.length ∧ tollsErr t.roads.strips.length (t.tolls.take k) (t.tolls.drop k) = tollsE t ∧ Sl p 61 [(1, .pointer (some ⟨bt, 0, none⟩)), (12, .slice s.ta t.tolls.length s.tc), (13, .int .i64 (t.tolls.length : Int)), (14, .int .i64 (k : Int))] ∧ TI w x bt t s) t.tolls.length ⟨0, by omega, by unfold tollsE; rw [if_neg h1]; rfl, hsl.sb, hI⟩ ?_; clear hsl hI h1; rintro n a x ⟨k, hkn, hE, hsl, hI⟩; have HE := Lib.hid hE; clear hE; refine wsr ?_
  by_cases hlt : k < t.tolls.length
  ·have q1 : (k : Int) < (t.tolls.length : Int) := by omega
   obtain ⟨pb, po, hpa, p0, p1, p2⟩ := hI.tar.tolls.at hlt; rw [hpa] at hsl; simp only [tollC] at p0 p1 p2; refine hsl.s ?_; clear hsl; intro a hsl; refine od ?_; refine wp_seq ?_; refine wp_cond_true (hsl.ev 15 rfl) ?_; refine wp_skip ?_; refine wp_seq ?_; refine wp_block ?_; refine wsr ?_; (iterate 3 refine hsl.s ?_; clear hsl; intro a hsl); refine og fun K hK => ?_
   obtain ⟨g, hg⟩ : ∃ b, b = x.heap.size := ⟨_, rfl⟩; unfold Oper.wp; go_simp; refine hsl.K hK ?_; clear hsl hK; intro a hsl; refine hsl.s ?_; clear hsl; intro a hsl; refine og fun K hK => ?_
   have e4 := hsl.g 4; have e18 := hsl.g 18; unfold Oper.wp; go_simp; clear e4 e18; refine hK _ _ ?_; clear hK; refine alloc_rwB (G := fun W => wpOps _ _ _ _ _ W) ?_; intro x hz G hb; replace hI := hI.keep hb; rw [← hg] at hsl G; clear hz hb p0 p1 p2 hg; refine od ?_; have HR := Lib.hid (fun e (h : tollErr t.roads.strips.length (t.tolls.take k) t.tolls[k] = e) (h0 : e ≠ 0) => HE.out.symm.trans (tollsErr_stop hlt h h0)); refine wp_seq ?_; refine wsr ?_; refine hsl.s ?_; clear hsl; intro a hsl; refine og fun K hK => ?_
   have e19 := hsl.g 19; have g0 := G.cell (o := 0) rfl; unfold Oper.wp; go_simp; clear e19; refine hsl.K hK ?_; clear hsl hK; intro a hsl; (iterate 2 refine hsl.s ?_; clear hsl; intro a hsl); refine og fun K hK => ?_
   have e22 := hsl.g 22; have c2 := hI.c2; unfold Oper.wp; go_simp; clear e22; refine hsl.K hK ?_; clear hsl hK; intro a hsl; refine hsl.s ?_; clear hsl; intro a hsl; refine og fun K hK => ?_
   have e24 := hsl.g 24; have hw : IntKind.i64.wrap ((t.roads.strips.length : Int) - 1) = (t.roads.strips.length : Int) - 1 := IntWalk.i64_in _ (by have := hI.tar.ls; unfold maxLen at this; omega); unfold Oper.wp; go_simp; clear e24; refine hsl.K hK ?_; clear hsl hK; intro a hsl; refine og fun K hK => ?_
   have e20 := hsl.g 20; have e25 := hsl.g 25; unfold Oper.wp; go_simp; refine (tbetween_any _ _ _ _).mono ?_; rintro e x ⟨rfl, rfl⟩; clear e20 e25; refine hsl.K hK ?_; clear hsl hK; intro a hsl; rcases Bool.eq_false_or_eq_true (btw t.tolls[k].strip 0 ((t.roads.strips.length : Int) - 1)) with h2 | h2
   ·rw [h2] at hsl; refine hsl.s ?_; clear hsl; intro a hsl; refine od ?_; refine wp_cond_false (hsl.ev 27 rfl) ?_; refine wp_skip ?_; refine wp_seq ?_; refine wsr ?_; refine hsl.s ?_; clear hsl; intro a hsl; refine og fun K hK => ?_
    have e28 := hsl.g 28; have g1 := G.cell (o := 1) rfl; unfold Oper.wp; go_simp; clear e28; refine hsl.K hK ?_; clear hsl hK; intro a hsl; refine og fun K hK => ?_
    have e29 := hsl.g 29; unfold Oper.wp; go_simp; refine (tbetween_any _ _ _ _).mono ?_; rintro e x ⟨rfl, rfl⟩; clear e29; refine hsl.K hK ?_; clear hsl hK; intro a hsl; rcases Bool.eq_false_or_eq_true (btw t.tolls[k].rate 0 500) with h3 | h3
    ·rw [h3] at hsl; (iterate 2 refine hsl.s ?_; clear hsl; intro a hsl); refine hsl.t ?_; clear hsl; intro a hsl; refine ow (hsl.g 32) fun K hK => ?_
     have e33 := hsl.g 33; have g6 := G.cell (o := 2) rfl; unfold Oper.wp; go_simp; clear e33; refine hsl.K hK ?_; clear hsl hK; intro a hsl; refine ow (hsl.g 32) fun K hK => ?_
     have e34 := hsl.g 34; unfold Oper.wp; go_simp; refine (tbetween_any _ _ _ _).mono ?_; rintro e x ⟨rfl, rfl⟩; clear e34; refine hsl.K hK ?_; clear hsl hK; intro a hsl; rcases Bool.eq_false_or_eq_true (btw t.tolls[k].farmer 1 4) with h4 | h4
     ·rw [h4] at hsl; refine hsl.t ?_; clear hsl; intro a hsl; refine hsl.s ?_; clear hsl; intro a hsl; refine od ?_; refine wp_cond_false (hsl.ev 37 rfl) ?_; refine wp_skip ?_; refine wsr ?_; refine hsl.s ?_; clear hsl; intro a hsl; refine og fun K hK => ?_
      have e38 := hsl.g 38; have c5 := hI.c5; unfold Oper.wp; go_simp; clear e38; refine hsl.K hK ?_; clear hsl hK; intro a hsl; refine hsl.s ?_; clear hsl; intro a hsl; refine og fun K hK => ?_
      have e39 := hsl.g 39; have e40 := hsl.g 40; have hqk : (k : Int) ≤ (s.tc : Int) := by have := hI.tar.qt; omega
      have hk0 : (0 : Int) ≤ (k : Int) := by omega
      unfold Oper.wp; go_simp; clear e39 e40; refine hsl.K hK ?_; clear hsl hK; intro a hsl; (iterate 2 refine hsl.s ?_; clear hsl; intro a hsl); refine od ?_; refine wp_block ?_; refine wp_loop_ghost (fun n2 p x => ∃ j : Nat, j + n2 = k ∧ (t.tolls.take j).any (fun y => y.strip == t.tolls[k].strip && y.farmer == t.tolls[k].farmer) = false ∧ Sl p 61 [(1, .pointer (some ⟨bt, 0, none⟩)), (4, .pointer (some ⟨g, 0, none⟩)), (12, .slice (some ⟨pb, po, none⟩) t.tolls.length s.tc), (13, .int .i64 (t.tolls.length : Int)), (14, .int .i64 (k : Int)), (41, .slice (some ⟨pb, po, none⟩) k s.tc), (42, .int .i64 (k : Int)), (43, .int .i64 (j : Int))] ∧ TI w x bt t s ∧ Rw x g #[.int .i64 t.tolls[k].strip, .int .i64 t.tolls[k].rate, .int .i64 t.tolls[k].farmer] 57) k ⟨0, by omega, by simp, hsl.sb, hI, G⟩ ?_; clear hsl hI G; rintro n2 a x ⟨j, hjn, hany, hsl, hI, G⟩; have HANY := Lib.hid hany; clear hany; refine wsr ?_
      by_cases hj : j < k
      ·have q2 : (j : Int) < (k : Int) := by omega
       have hjl : j < t.tolls.length := by omega
       obtain ⟨pb2, po2, hpa2, p0, p1, p2⟩ := hI.tar.tolls.at hjl; obtain ⟨rfl, rfl⟩ : pb = pb2 ∧ po = po2 := by rw [hpa] at hpa2; simpa using hpa2
       simp only [tollC] at p0 p1 p2; clear hpa2; refine hsl.s ?_; clear hsl; intro a hsl; refine od ?_; refine wp_seq ?_; refine wp_cond_true (hsl.ev 44 rfl) ?_; refine wp_skip ?_; refine wp_seq ?_; refine wp_block ?_; refine wsr ?_; (iterate 2 refine hsl.s ?_; clear hsl; intro a hsl); refine og fun K hK => ?_
       obtain ⟨g2, hg⟩ : ∃ b, b = x.heap.size := ⟨_, rfl⟩; unfold Oper.wp; go_simp; refine hsl.K hK ?_; clear hsl hK; intro a hsl; refine og fun K hK => ?_
       have e6 := hsl.g 6; have e46 := hsl.g 46; unfold Oper.wp; go_simp; clear e6 e46; refine hK _ _ ?_; clear hK; refine alloc_rwB (G := fun W => wpOps _ _ _ _ _ W) ?_; intro x hz Y hb; replace hI := hI.keep hb; replace G := G.below hb; rw [← hg] at hsl Y; clear hz hb p0 p1 p2 hg; refine od ?_; refine wsr ?_; refine hsl.s ?_; clear hsl; intro a hsl; refine og fun K hK => ?_
       have e47 := hsl.g 47; have y0 := Y.cell (o := 0) rfl; unfold Oper.wp; go_simp; clear e47; refine hsl.K hK ?_; clear hsl hK; intro a hsl; refine hsl.s ?_; clear hsl; intro a hsl; refine og fun K hK => ?_
       have e49 := hsl.g 49; have g0 := G.cell (o := 0) rfl; unfold Oper.wp; go_simp; clear e49; refine hsl.K hK ?_; clear hsl hK; intro a hsl
       by_cases h5 : t.tolls[j].strip = t.tolls[k].strip
       ·have hbe := beq_trueI h5; (iterate 2 refine hsl.s ?_; clear hsl; intro a hsl); refine hsl.t ?_; clear hsl; intro a hsl; refine ow (hsl.g 52) fun K hK => ?_
        have e53 := hsl.g 53; have y2 := Y.cell (o := 2) rfl; unfold Oper.wp; go_simp; clear e53; refine hsl.K hK ?_; clear hsl hK; intro a hsl; refine hsl.t ?_; clear hsl; intro a hsl; refine ow (hsl.g 52) fun K hK => ?_
        have e55 := hsl.g 55; have g2 := G.cell (o := 2) rfl; unfold Oper.wp; go_simp; clear e55; refine hsl.K hK ?_; clear hsl hK; intro a hsl
        by_cases h6 : t.tolls[j].farmer = t.tolls[k].farmer
        ·have hbe2 := beq_trueI h6; have hR := Lib.hid (HR.out _ (te4 h2 h3 h4 (any_hit hlt hj h5 h6)) (by decide)); refine hsl.t ?_; clear hsl; intro a hsl; refine hsl.s ?_; clear hsl; intro a hsl; refine od ?_; refine wp_cond_true (hsl.ev 58 rfl) ?_; refine wsr ?_; refine hsl.s ?_; clear hsl; intro a hsl; refine od ?_; refine wp_ret ?_
         try simp only [Exit.then, Exit.inBlock]
         refine bodyPost_ret (v := .int .i64 (tollsE t)) ?_ hsl.defers ⟨rfl, hI.below⟩; rw [hR.out]; simp [results, Try.results88, hsl.get 2 _ rfl]
        ·have hbe2 := beq_falseI h6; refine hsl.t ?_; clear hsl; intro a hsl; refine hsl.s ?_; clear hsl; intro a hsl; refine od ?_; refine wp_cond_false (hsl.ev 58 rfl) ?_; refine wp_skip ?_; refine wr ?_; refine og fun K hK => ?_
         have e43 := hsl.g 43; have hw := add_one j (by omega); unfold Oper.wp; go_simp; clear e43; refine hsl.K hK ?_; clear hsl hK; intro a hsl; refine hsl.s ?_; clear hsl; intro a hsl; refine od ?_; show Exists _; exact ⟨n2 - 1, by omega, j + 1, by omega, any_miss hjl HANY.out (fun h => h6 h.2), hsl.sb, hI, G⟩
       ·have hbe := beq_falseI h5; (iterate 2 refine hsl.s ?_; clear hsl; intro a hsl); refine hsl.z ?_; clear hsl; intro a hsl; refine hsl.z ?_; clear hsl; intro a hsl; refine hsl.z ?_; clear hsl; intro a hsl; refine hsl.z ?_; clear hsl; intro a hsl; refine hsl.z ?_; clear hsl; intro a hsl; refine hsl.s ?_; clear hsl; intro a hsl; refine od ?_; refine wp_cond_false (hsl.ev 58 rfl) ?_; refine wp_skip ?_; refine wr ?_; refine og fun K hK => ?_
        have e43 := hsl.g 43; have hw := add_one j (by omega); unfold Oper.wp; go_simp; clear e43; refine hsl.K hK ?_; clear hsl hK; intro a hsl; refine hsl.s ?_; clear hsl; intro a hsl; refine od ?_; show Exists _; exact ⟨n2 - 1, by omega, j + 1, by omega, any_miss hjl HANY.out (fun h => h5 h.1), hsl.sb, hI, G⟩
      ·obtain rfl : k = j := by omega
       refine hsl.s ?_; clear hsl; intro a hsl; refine od ?_; refine wp_seq ?_; refine wp_cond_false (hsl.ev 44 rfl) ?_; refine wp_exit ?_; have hany := HANY.out; refine wr ?_; refine og fun K hK => ?_
       have e14 := hsl.g 14; have hw := add_one k (by omega); unfold Oper.wp; go_simp; clear e14; refine hsl.K hK ?_; clear hsl hK; intro a hsl; refine hsl.s ?_; clear hsl; intro a hsl; refine od ?_; show Exists _; exact ⟨n - 1, by omega, k + 1, by omega, (tollsErr_next hlt (te0 h2 h3 h4 hany)).trans HE.out, by rw [hpa]; exact hsl.sb, hI⟩
     ·rw [h4] at hsl; have hR := Lib.hid (HR.out _ (te1 h2 (.inr h4)) (by decide)); refine hsl.t ?_; clear hsl; intro a hsl; refine hsl.s ?_; clear hsl; intro a hsl; refine od ?_; refine wp_cond_true (hsl.ev 37 rfl) ?_; refine wsr ?_; refine hsl.s ?_; clear hsl; intro a hsl; refine od ?_; refine wp_ret ?_
      try simp only [Exit.then, Exit.inBlock]
      refine bodyPost_ret (v := .int .i64 (tollsE t)) ?_ hsl.defers ⟨rfl, hI.below⟩; rw [hR.out]; simp [results, Try.results88, hsl.get 2 _ rfl]
    ·rw [h3] at hsl; have hR := Lib.hid (HR.out _ (te1 h2 (.inl h3)) (by decide)); (iterate 2 refine hsl.s ?_; clear hsl; intro a hsl); refine hsl.z ?_; clear hsl; intro a hsl; refine hsl.z ?_; clear hsl; intro a hsl; refine hsl.z ?_; clear hsl; intro a hsl; refine hsl.z ?_; clear hsl; intro a hsl; refine hsl.s ?_; clear hsl; intro a hsl; refine od ?_; refine wp_cond_true (hsl.ev 37 rfl) ?_; refine wsr ?_; refine hsl.s ?_; clear hsl; intro a hsl; refine od ?_; refine wp_ret ?_
     try simp only [Exit.then, Exit.inBlock]
     refine bodyPost_ret (v := .int .i64 (tollsE t)) ?_ hsl.defers ⟨rfl, hI.below⟩; rw [hR.out]; simp [results, Try.results88, hsl.get 2 _ rfl]
   ·rw [h2] at hsl; have hR := Lib.hid (HR.out _ (te3 h2) (by decide)); refine hsl.s ?_; clear hsl; intro a hsl; refine od ?_; refine wp_cond_true (hsl.ev 27 rfl) ?_; refine wsr ?_; refine hsl.s ?_; clear hsl; intro a hsl; refine od ?_; refine wp_ret ?_
    try simp only [Exit.then, Exit.inBlock]
    refine bodyPost_ret (v := .int .i64 (tollsE t)) ?_ hsl.defers ⟨rfl, hI.below⟩; rw [hR.out]; simp [results, Try.results88, hsl.get 2 _ rfl]
  ·obtain rfl : k = t.tolls.length := by omega
   refine hsl.s ?_; clear hsl; intro a hsl; refine od ?_; refine wp_seq ?_; refine wp_cond_false (hsl.ev 15 rfl) ?_; refine wp_exit ?_; have hR := Lib.hid (show tollsE t = 0 from by rw [← HE.out, List.drop_of_length_le (Nat.le_refl _)]; rfl); refine wsr ?_; refine hsl.s ?_; clear hsl; intro a hsl; refine od ?_; refine wp_ret ?_
   try simp only [Exit.then, Exit.inBlock]
   refine bodyPost_ret (v := .int .i64 (tollsE t)) ?_ hsl.defers ⟨rfl, hI.below⟩; rw [hR.out]; simp [results, Try.results88, hsl.get 2 _ rfl]
theorem tcheck_body : Try.f39.body = some (Code.seq (regionIn Try.f39 0) (Code.seq (Code.seq (regionIn Try.f39 1) (Code.seq (regionIn Try.f39 2) (Code.cond (Operand.tmp 12) (Code.seq (regionIn Try.f39 3) Code.ret) Code.skip))) (Code.seq (Code.seq (regionIn Try.f39 4) (Code.cond (Operand.tmp 17) (Code.seq (regionIn Try.f39 5) Code.ret) Code.skip)) (Code.seq (Code.seq (regionIn Try.f39 6) (Code.seq (regionIn Try.f39 7) (Code.cond (Operand.tmp 23) (Code.seq (regionIn Try.f39 8) Code.ret) Code.skip))) (Code.seq (regionIn Try.f39 9) (Code.seq (Code.seq (regionIn Try.f39 10) (Code.block 0 (Code.loop (Code.seq (regionIn Try.f39 11) (Code.seq (Code.cond (Operand.tmp 29) Code.skip (Code.exit 0)) (Code.seq (Code.block 1 (Code.seq (regionIn Try.f39 12) (Code.seq (Code.seq (regionIn Try.f39 13) (Code.cond (Operand.tmp 41) (Code.seq (regionIn Try.f39 14) Code.ret) Code.skip)) (regionIn Try.f39 15)))) (regionIn Try.f39 16))))))) (Code.seq (Code.seq (regionIn Try.f39 17) (Code.cond (Operand.tmp 49) (Code.seq (regionIn Try.f39 18) Code.ret) Code.skip)) (Code.seq (regionIn Try.f39 19) Code.ret)))))))) := by kernel_rfl
theorem tcheck_any {t : TariffV} {s : TarS} {w : World} (ht : TarIn w t s) : Calls Try.prog 39 #[.agg (tarC t s)] w (fun e w' => e = .returned (.int .i64 (checkT t)) ∧ Below w.heap.size w w') := by
 refine call1 Try.func39 tcheck_body Try.ntmps39 ?_; intro a hsl; refine wsr ?_; refine hsl.s ?_; clear hsl; intro a hsl; refine alloc_rwB (G := fun W => wpOps _ _ _ _ _ W) ?_; intro x hz X hb; have hI := TI.made (Below.refl _ _) ht X hb; obtain ⟨bt, hbt⟩ : ∃ b, b = w.heap.size := ⟨_, rfl⟩; rw [← hbt] at hsl hI; clear hz X hb hbt; refine hsl.s ?_; clear hsl; intro a hsl; refine od ?_; refine wp_seq ?_; refine wsr ?_; refine hsl.s ?_; clear hsl; intro a hsl; refine og fun K hK => ?_
 have e8 := hsl.g 8; have c0 := hI.c0; have c1 := hI.c1; have c2 := hI.c2; unfold Oper.wp; go_simp; clear e8; refine hsl.K hK ?_; clear hsl hK; intro a hsl; refine og fun K hK => ?_
 have e9 := hsl.g 9; unfold Oper.wp; go_simp; refine (rcheck_any hI.tar).mono ?_; rintro e x ⟨rfl, hb⟩; replace hI := hI.keep hb; clear hb; clear e9; refine hsl.K hK ?_; clear hsl hK; intro a hsl; refine hsl.s ?_; clear hsl; intro a hsl; refine od ?_; refine wsr ?_; refine hsl.s ?_; clear hsl; intro a hsl
 by_cases h1 : checkR t.roads = 0
 ·have hne := bne_falseI h1; refine hsl.s ?_; clear hsl; intro a hsl; refine od ?_; refine wp_cond_false (hsl.ev 12 rfl) ?_; refine wp_skip ?_; refine wp_seq ?_; refine wsr ?_; refine hsl.s ?_; clear hsl; intro a hsl; refine og fun K hK => ?_
  have e14 := hsl.g 14; have c3 := hI.c3; unfold Oper.wp; go_simp; clear e14; refine hsl.K hK ?_; clear hsl hK; intro a hsl; refine og fun K hK => ?_
  have e15 := hsl.g 15; unfold Oper.wp; go_simp; refine (tbetween_any _ _ _ _).mono ?_; rintro e x ⟨rfl, rfl⟩; clear e15; refine hsl.K hK ?_; clear hsl hK; intro a hsl; rcases Bool.eq_false_or_eq_true (btw t.pace 1 9) with h2 | h2
  ·rw [h2] at hsl; refine hsl.s ?_; clear hsl; intro a hsl; refine od ?_; refine wp_cond_false (hsl.ev 17 rfl) ?_; refine wp_skip ?_; refine wp_seq ?_; refine wsr ?_; refine hsl.s ?_; clear hsl; intro a hsl; refine og fun K hK => ?_
   have e18 := hsl.g 18; have c4 := hI.c4; unfold Oper.wp; go_simp; clear e18; refine hsl.K hK ?_; clear hsl hK; intro a hsl; refine hsl.s ?_; clear hsl; intro a hsl; refine og fun K hK => ?_
   have e20 := hsl.g 20; unfold Oper.wp; go_simp; refine (few_any _ _ _ _).mono ?_; rintro e x ⟨rfl, rfl⟩; clear e20; refine hsl.K hK ?_; clear hsl hK; intro a hsl; refine hsl.s ?_; clear hsl; intro a hsl; refine od ?_; refine wsr ?_; refine hsl.s ?_; clear hsl; intro a hsl
   by_cases h3 : fewV t.payers.length 1 4 = 0
   ·have hne := bne_falseI h3; obtain ⟨hl1, hl4⟩ := few_zero h3; have HC := Lib.hid (check_at h1 h2 h3); clear h1 h2 h3; refine hsl.s ?_; clear hsl; intro a hsl; refine od ?_; refine wp_cond_false (hsl.ev 23 rfl) ?_; refine wp_skip ?_; refine wsr ?_; refine hsl.s ?_; clear hsl; intro a hsl; refine od ?_; refine wp_seq ?_; refine wsr ?_; refine hsl.s ?_; clear hsl; intro a hsl; refine og fun K hK => ?_
    have e25 := hsl.g 25; have c4 := hI.c4; unfold Oper.wp; go_simp; clear e25; refine hsl.K hK ?_; clear hsl hK; intro a hsl; (iterate 2 refine hsl.s ?_; clear hsl; intro a hsl); refine od ?_; refine wp_block ?_; refine wp_loop_ghost (fun n p x => ∃ k : Nat, k + n = t.payers.length ∧ (t.payers.take k).all payerFine = true ∧ Sl p 52 [(1, .pointer (some ⟨bt, 0, none⟩)), (5, .int .i64 (headsOf (t.payers.take k))), (26, .slice s.pa t.payers.length s.pc), (27, .int .i64 (t.payers.length : Int)), (28, .int .i64 (k : Int))] ∧ TI w x bt t s) t.payers.length ⟨0, by omega, rfl, hsl.sb, hI⟩ ?_; clear hsl hI; rintro n a x ⟨k, hkn, hfine, hsl, hI⟩; have hadd := fun (hlt : k < t.payers.length) h4 => add_heads (hl := hl4) hlt hfine h4
    refine wsr ?_
    by_cases hlt : k < t.payers.length
    ·have q1 : (k : Int) < (t.payers.length : Int) := by omega
     obtain ⟨pb, po, hpa, p0, p1, p2⟩ := hI.tar.payers.at hlt; rw [hpa] at hsl; simp only [payC] at p0 p1 p2; refine hsl.s ?_; clear hsl; intro a hsl; refine od ?_; refine wp_seq ?_; refine wp_cond_true (hsl.ev 29 rfl) ?_; refine wp_skip ?_; refine wp_seq ?_; refine wp_block ?_; refine wsr ?_; (iterate 3 refine hsl.s ?_; clear hsl; intro a hsl); refine og fun K hK => ?_
     have e7 := hsl.g 7; have e31 := hsl.g 31; unfold Oper.wp; go_simp; clear e7 e31; refine hK _ _ ?_; clear hK; refine alloc_rwB (G := fun W => wpOps _ _ _ _ _ W) ?_; intro x hz G hb; replace hI := hI.keep hb; clear hz hb p0 p1 p2; refine od ?_; refine wp_seq ?_; refine wsr ?_; refine hsl.s ?_; clear hsl; intro a hsl; refine og fun K hK => ?_
     have e32 := hsl.g 32; have g1 := G.cell (o := 0) rfl; unfold Oper.wp; go_simp; clear e32; refine hsl.K hK ?_; clear hsl hK; intro a hsl; refine og fun K hK => ?_
     have e33 := hsl.g 33; unfold Oper.wp; go_simp; refine (tbetween_any _ _ _ _).mono ?_; rintro e x ⟨rfl, rfl⟩; clear e33; refine hsl.K hK ?_; clear hsl hK; intro a hsl; rcases Bool.eq_false_or_eq_true (btw (t.payers[k]).heads 0 40) with h4 | h4
     ·rw [h4] at hsl; (iterate 2 refine hsl.s ?_; clear hsl; intro a hsl); refine hsl.t ?_; clear hsl; intro a hsl; refine ow (hsl.g 36) fun K hK => ?_
      have e37 := hsl.g 37; have g6 := G.cell (o := 1) rfl; unfold Oper.wp; go_simp; clear e37; refine hsl.K hK ?_; clear hsl hK; intro a hsl; refine ow (hsl.g 36) fun K hK => ?_
      have e38 := hsl.g 38; unfold Oper.wp; go_simp; refine (tbetween_any _ _ _ _).mono ?_; rintro e x ⟨rfl, rfl⟩; clear e38; refine hsl.K hK ?_; clear hsl hK; intro a hsl; rcases Bool.eq_false_or_eq_true (btw (t.payers[k]).free 0 40) with h5 | h5
      ·rw [h5] at hsl; refine hsl.t ?_; clear hsl; intro a hsl; refine hsl.s ?_; clear hsl; intro a hsl; refine od ?_; refine wp_cond_false (hsl.ev 41 rfl) ?_; refine wp_skip ?_; refine wr ?_; (iterate 2 refine hsl.s ?_; clear hsl; intro a hsl); refine og fun K hK => ?_
       have e43 := hsl.g 43; have g0 := G.cell (o := 0) rfl; unfold Oper.wp; go_simp; clear e43; refine hsl.K hK ?_; clear hsl hK; intro a hsl; refine og fun K hK => ?_
       have e42 := hsl.g 42; have e44 := hsl.g 44; have hw := hadd hlt h4; unfold Oper.wp; go_simp; clear e42 e44; refine hsl.K hK ?_; clear hsl hK; intro a hsl; refine hsl.s ?_; clear hsl; intro a hsl; refine od ?_; refine wr ?_; refine og fun K hK => ?_
       have e28 := hsl.g 28; have hw := add_one k (by omega); unfold Oper.wp; go_simp; clear e28; refine hsl.K hK ?_; clear hsl hK; intro a hsl; refine hsl.s ?_; clear hsl; intro a hsl; refine od ?_; have hpa2 := hpa; exact ⟨n - 1, by omega, k + 1, by omega, fine_next hlt hfine h4 h5, by rw [hpa]; exact hsl.sb, hI⟩
      ·rw [h5] at hsl; have hR := Lib.hid (HC.out.1 k hlt (.inr h5)); refine hsl.t ?_; clear hsl; intro a hsl; refine hsl.s ?_; clear hsl; intro a hsl; refine od ?_; refine wp_cond_true (hsl.ev 41 rfl) ?_; refine wsr ?_; refine hsl.s ?_; clear hsl; intro a hsl; refine od ?_; refine wp_ret ?_
       try simp only [Exit.then, Exit.inBlock]
       refine bodyPost_ret (v := .int .i64 (checkT t)) ?_ hsl.defers ⟨rfl, hI.below⟩; rw [hR.out]; simp [results, Try.results39, hsl.get 2 _ rfl]
     ·rw [h4] at hsl; have hR := Lib.hid (HC.out.1 k hlt (.inl h4)); (iterate 2 refine hsl.s ?_; clear hsl; intro a hsl); refine hsl.z ?_; clear hsl; intro a hsl; refine hsl.z ?_; clear hsl; intro a hsl; refine hsl.z ?_; clear hsl; intro a hsl; refine hsl.z ?_; clear hsl; intro a hsl; refine hsl.s ?_; clear hsl; intro a hsl; refine od ?_; refine wp_cond_true (hsl.ev 41 rfl) ?_; refine wsr ?_; refine hsl.s ?_; clear hsl; intro a hsl; refine od ?_; refine wp_ret ?_
      try simp only [Exit.then, Exit.inBlock]
      refine bodyPost_ret (v := .int .i64 (checkT t)) ?_ hsl.defers ⟨rfl, hI.below⟩; rw [hR.out]; simp [results, Try.results39, hsl.get 2 _ rfl]
    ·obtain rfl : k = t.payers.length := by omega
     rw [List.take_length] at hsl hfine; refine hsl.s ?_; clear hsl; intro a hsl; refine od ?_; refine wp_seq ?_; refine wp_cond_false (hsl.ev 29 rfl) ?_; refine wp_exit ?_; refine wp_seq ?_; refine wsr ?_; refine hsl.s ?_; clear hsl; intro a hsl; refine og fun K hK => ?_
     have e47 := hsl.g 47; unfold Oper.wp; go_simp; refine (tbetween_any _ _ _ _).mono ?_; rintro e x ⟨rfl, rfl⟩; clear e47; refine hsl.K hK ?_; clear hsl hK; intro a hsl; rcases Bool.eq_false_or_eq_true (btw (headsOf t.payers) 1 40) with h6 | h6
     ·rw [h6] at hsl; have hR := Lib.hid (HC.out.2.2 hfine h6); refine hsl.s ?_; clear hsl; intro a hsl; refine od ?_; refine wp_cond_false (hsl.ev 49 rfl) ?_; refine wp_skip ?_; refine wsr ?_; refine og fun K hK => ?_
      have e1 := hsl.g 1; have c0 := hI.c0; have c1 := hI.c1; have c2 := hI.c2; have c3 := hI.c3; have c4 := hI.c4; have c5 := hI.c5; unfold Oper.wp; go_simp; clear e1; refine hsl.K hK ?_; clear hsl hK; intro a hsl; refine og fun K hK => ?_
      have e50 := hsl.g 50; unfold Oper.wp; go_simp; refine (tolls_any hI.tar).mono ?_; rintro e x ⟨rfl, hb⟩; replace hI := hI.keep hb; clear hb; clear e50; refine hsl.K hK ?_; clear hsl hK; intro a hsl; refine hsl.s ?_; clear hsl; intro a hsl; refine od ?_; refine wp_ret ?_
      try simp only [Exit.then, Exit.inBlock]
      refine bodyPost_ret (v := .int .i64 (checkT t)) ?_ hsl.defers ⟨rfl, hI.below⟩; rw [hR.out]; simp [results, Try.results39, hsl.get 2 _ rfl]
     ·rw [h6] at hsl; have hR := Lib.hid (HC.out.2.1 hfine h6); refine hsl.s ?_; clear hsl; intro a hsl; refine od ?_; refine wp_cond_true (hsl.ev 49 rfl) ?_; refine wsr ?_; refine hsl.s ?_; clear hsl; intro a hsl; refine od ?_; refine wp_ret ?_
      try simp only [Exit.then, Exit.inBlock]
      refine bodyPost_ret (v := .int .i64 (checkT t)) ?_ hsl.defers ⟨rfl, hI.below⟩; rw [hR.out]; simp [results, Try.results39, hsl.get 2 _ rfl]
   ·have hne := bne_trueI h3; have hR := Lib.hid (show checkT t = fewV t.payers.length 1 4 from by unfold checkT; rw [if_neg (by simp [h1]), if_neg (by simp [h2]), if_pos h3]); refine hsl.s ?_; clear hsl; intro a hsl; refine od ?_; refine wp_cond_true (hsl.ev 23 rfl) ?_; refine wsr ?_; (iterate 2 refine hsl.s ?_; clear hsl; intro a hsl); refine od ?_; refine wp_ret ?_
    try simp only [Exit.then, Exit.inBlock]
    refine bodyPost_ret (v := .int .i64 (checkT t)) ?_ hsl.defers ⟨rfl, hI.below⟩; rw [hR.out]; simp [results, Try.results39, hsl.get 2 _ rfl]
  ·rw [h2] at hsl; have hR := Lib.hid (show checkT t = 1 from by unfold checkT; rw [if_neg (by simp [h1]), if_pos (by rw [h2]; rfl)]); refine hsl.s ?_; clear hsl; intro a hsl; refine od ?_; refine wp_cond_true (hsl.ev 17 rfl) ?_; refine wsr ?_; refine hsl.s ?_; clear hsl; intro a hsl; refine od ?_; refine wp_ret ?_
   try simp only [Exit.then, Exit.inBlock]
   refine bodyPost_ret (v := .int .i64 (checkT t)) ?_ hsl.defers ⟨rfl, hI.below⟩; rw [hR.out]; simp [results, Try.results39, hsl.get 2 _ rfl]
 ·have hne := bne_trueI h1; have hR := Lib.hid (show checkT t = checkR t.roads from by unfold checkT; rw [if_pos h1]); refine hsl.s ?_; clear hsl; intro a hsl; refine od ?_; refine wp_cond_true (hsl.ev 12 rfl) ?_; refine wsr ?_; (iterate 2 refine hsl.s ?_; clear hsl; intro a hsl); refine od ?_; refine wp_ret ?_
  try simp only [Exit.then, Exit.inBlock]
  refine bodyPost_ret (v := .int .i64 (checkT t)) ?_ hsl.defers ⟨rfl, hI.below⟩; rw [hR.out]; simp [results, Try.results39, hsl.get 2 _ rfl]
end
end Go.Proofs.Ytgdobbcjkiapkaa
