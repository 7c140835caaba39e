import Derived.Test.YtgdobbcjkiapkaaOn04
import Derived.Test.YtgdobbcjkiapkaaOn26
namespace Go.Proofs.Ytgdobbcjkiapkaa
set_option maxRecDepth 100000
set_option maxHeartbeats 4000000
set_option linter.unusedSimpArgs false
set_option linter.unusedVariables false
section
open Go.RowKit
instance : Inhabited Strip := ⟨⟨0, 0, 0, 0, 0, 0, 0⟩⟩
def oneP (t : TariffV) (k : Int) (i o : Nat) : List PassV := if (t.tolls.getD i default).strip = k ∧ 0 < (t.payers.getD o default).heads then [⟨i, o, (t.payers.getD o default).heads⟩] else []
def payUp (t : TariffV) (k : Int) (i m : Nat) : List PassV := (List.range m).flatMap (oneP t k i)
def passUp (t : TariffV) (k : Int) (j : Nat) : List PassV := (List.range j).flatMap fun i => payUp t k i t.payers.length
theorem payUp_succ (t : TariffV) (k : Int) (i m : Nat) : payUp t k i (m + 1) = payUp t k i m ++ oneP t k i m := by simp [payUp, List.range_succ]
theorem passUp_succ (t : TariffV) (k : Int) (j : Nat) : passUp t k (j + 1) = passUp t k j ++ payUp t k j t.payers.length := by simp [passUp, List.range_succ]
theorem oneP_len (t : TariffV) (k : Int) (i o : Nat) : (oneP t k i o).length ≤ 1 := by unfold oneP; split <;> simp
theorem payUp_len (t : TariffV) (k : Int) (i : Nat) : ∀ m, (payUp t k i m).length ≤ m
 | 0 => by simp [payUp]
 | m + 1 => by have := payUp_len t k i m; have := oneP_len t k i m; rw [payUp_succ, List.length_append]; omega
theorem passUp_len (t : TariffV) (k : Int) : ∀ j, (passUp t k j).length ≤ j * t.payers.length
 | 0 => by simp [passUp]
 | j + 1 => by have := passUp_len t k j; have := payUp_len t k j t.payers.length; rw [passUp_succ, List.length_append, Nat.add_mul]; omega
def alongGo (t : TariffV) : List Int → List Int → Int → List PassV → List PassV × Int
 | _, [], _, acc => (acc, 0)
 | pre, k :: rest, at_, acc =>
  if !(btw k 0 ((t.roads.strips.length : Int) - 1)) then ([], 3)
  else if k ∈ pre then ([], 4)
  else if farV (t.roads.strips.getD k.toNat default) at_ < 0 then ([], 12)
  else alongGo t (pre ++ [k]) rest (farV (t.roads.strips.getD k.toNat default) at_) (acc ++ passUp t k t.tolls.length)
def alongV (t : TariffV) (from_ : Int) (way : List Int) : List PassV × Int :=
 if checkT t ≠ 0 then ([], checkT t)
 else if !(btw from_ 0 (t.roads.stages - 1)) then ([], 3)
 else if 8 < way.length then ([], 6)
 else alongGo t [] way from_ []
section
variable {t : TariffV} {way : List Int} {i : Nat} {at_ : Int} {acc : List PassV}
theorem ag3 (h : i < way.length) (h1 : btw way[i] 0 ((t.roads.strips.length : Int) - 1) = false) : alongGo t (way.take i) (way.drop i) at_ acc = ([], 3) := by
 rw [List.drop_eq_getElem_cons h, alongGo, if_pos (by rw [h1]; rfl)]
theorem ag4 (h : i < way.length) (h1 : btw way[i] 0 ((t.roads.strips.length : Int) - 1) = true) (h2 : way[i] ∈ way.take i) : alongGo t (way.take i) (way.drop i) at_ acc = ([], 4) := by
 rw [List.drop_eq_getElem_cons h, alongGo, if_neg (by simp [h1]), if_pos h2]
theorem ag12 (h : i < way.length) (h1 : btw way[i] 0 ((t.roads.strips.length : Int) - 1) = true) (h2 : ¬ way[i] ∈ way.take i) (h3 : farV (t.roads.strips.getD way[i].toNat default) at_ < 0) : alongGo t (way.take i) (way.drop i) at_ acc = ([], 12) := by
 rw [List.drop_eq_getElem_cons h, alongGo, if_neg (by simp [h1]), if_neg h2, if_pos h3]
theorem agN (h : i < way.length) (h1 : btw way[i] 0 ((t.roads.strips.length : Int) - 1) = true) (h2 : ¬ way[i] ∈ way.take i) (h3 : ¬ farV (t.roads.strips.getD way[i].toNat default) at_ < 0) :
  alongGo t (way.take i) (way.drop i) at_ acc = alongGo t (way.take (i + 1)) (way.drop (i + 1)) (farV (t.roads.strips.getD way[i].toNat default) at_) (acc ++ passUp t way[i] t.tolls.length) := by
 rw [List.drop_eq_getElem_cons h]
 conv => lhs; rw [alongGo, if_neg (by simp [h1]), if_neg h2, if_neg h3]
 rw [List.take_succ_eq_append_getElem h]
end
theorem along_errs {t : TariffV} {from_ : Int} {way : List Int} : (checkT t ≠ 0 → alongV t from_ way = ([], checkT t)) ∧ (checkT t = 0 → btw from_ 0 (t.roads.stages - 1) = false → alongV t from_ way = ([], 3)) ∧ (checkT t = 0 → btw from_ 0 (t.roads.stages - 1) = true → 8 < way.length → alongV t from_ way = ([], 6)) ∧ (checkT t = 0 → btw from_ 0 (t.roads.stages - 1) = true → ¬ 8 < way.length → alongV t from_ way = alongGo t [] way from_ []) := by
 unfold alongV; refine ⟨fun h => if_pos h, fun h h1 => ?_, fun h h1 h2 => ?_, fun h h1 h2 => ?_⟩
 ·rw [if_neg (by simp [h]), if_pos (by simp [h1])]
 ·rw [if_neg (by simp [h]), if_neg (by simp [h1]), if_pos h2]
 ·rw [if_neg (by simp [h]), if_neg (by simp [h1]), if_neg h2]
theorem oneP_no {t : TariffV} {k : Int} {i o : Nat} (h : ¬ ((t.tolls.getD i default).strip = k ∧ 0 < (t.payers.getD o default).heads)) : oneP t k i o = [] := if_neg h
theorem oneP_yes {t : TariffV} {k : Int} {i o : Nat} (h : (t.tolls.getD i default).strip = k ∧ 0 < (t.payers.getD o default).heads) : oneP t k i o = [⟨i, o, (t.payers.getD o default).heads⟩] := if_pos h
theorem StripsAt.at {w : World} {a : Option Addr} {l : List Strip} (h : StripsAt w a l) {i : Nat} (hi : i < l.length) : ∃ b o, a = some ⟨b, o, none⟩ ∧ StripAt w b (o + i * 7) l[i] := by
 rcases h with rfl | ⟨b, o, ha, h⟩
 ·simp at hi
 ·exact ⟨b, o, ha, h i hi⟩
theorem roads_small {r : Roads} (h : checkR r = 0) : 1 ≤ r.stages ∧ r.stages ≤ 6 ∧ r.strips.length ≤ 8 ∧ 1 ≤ r.days ∧ r.days ≤ 10 := by
 unfold checkR at h
 split at h
 ·exact absurd h (by decide)
 ·split at h
  ·exact absurd h (by decide)
  ·rename_i h1 h2
   simp only [Bool.or_eq_true, Bool.not_eq_true', not_or, Bool.not_eq_false] at h1; have a := btw_true.1 h1.1; have b := btw_true.1 h1.2
   omega
theorem TI.grow {w x x2 : World} {bt : Nat} {t : TariffV} {s : TarS} (h : TI w x bt t s) (ht : TarIn w t s) (hb : Below (bt + 1) x x2) : TI w x2 bt t s := by
 have h1 : Below w.heap.size w x2 := h.below.trans (hb.mono (by have := h.lb; omega)); exact ⟨h1, ht.below h1, (hb.block bt (by omega)).trans h.kb, h.lb⟩
def AlongPost (w : World) (t : TariffV) (from_ : Int) (way : List Int) (e : Ending) (w' : World) : Prop :=
 Below w.heap.size w w' ∧ ∃ v, e = .returned (.tuple #[v, .int .i64 (alongV t from_ way).2]) ∧ OwnPass w' w.heap.size v (alongV t from_ way).1 ∧ ((alongV t from_ way).1 = [] → v = .slice none 0 0)
theorem talong_body : Try.f65.body = some (Code.seq (regionIn Try.f65 0) (Code.seq (Code.seq (regionIn Try.f65 1) (Code.seq (regionIn Try.f65 2) (Code.cond (Operand.tmp 19) (Code.seq (regionIn Try.f65 3) Code.ret) Code.skip))) (Code.seq (Code.seq (regionIn Try.f65 4) (Code.cond (Operand.tmp 27) (Code.seq (regionIn Try.f65 5) Code.ret) Code.skip)) (Code.seq (Code.seq (regionIn Try.f65 6) (Code.cond (Operand.tmp 30) (Code.seq (regionIn Try.f65 7) Code.ret) Code.skip)) (Code.seq (regionIn Try.f65 8) (Code.seq (Code.seq (regionIn Try.f65 9) (Code.block 0 (Code.loop (Code.seq (regionIn Try.f65 10) (Code.seq (Code.cond (Operand.tmp 34) Code.skip (Code.exit 0)) (Code.seq (Code.block 1 (Code.seq (regionIn Try.f65 11) (Code.seq (Code.seq (regionIn Try.f65 12) (Code.cond (Operand.tmp 45) (Code.seq (regionIn Try.f65 13) Code.ret) Code.skip)) (Code.seq (Code.seq (regionIn Try.f65 14) (Code.cond (Operand.tmp 50) (Code.seq (regionIn Try.f65 15) Code.ret) Code.skip)) (Code.seq (Code.seq (regionIn Try.f65 16) (Code.seq (regionIn Try.f65 17) (Code.cond (Operand.tmp 60) (Code.seq (regionIn Try.f65 18) Code.ret) Code.skip))) (Code.seq (regionIn Try.f65 19) (Code.block 2 (Code.loop (Code.seq (regionIn Try.f65 20) (Code.seq (Code.cond (Operand.tmp 65) Code.skip (Code.exit 2)) (Code.seq (Code.block 3 (Code.seq (regionIn Try.f65 21) (Code.seq (regionIn Try.f65 22) (Code.block 4 (Code.loop (Code.seq (regionIn Try.f65 23) (Code.seq (Code.cond (Operand.tmp 73) Code.skip (Code.exit 4)) (Code.seq (Code.block 5 (Code.seq (regionIn Try.f65 24) (Code.seq (regionIn Try.f65 25) (Code.cond (Operand.tmp 85) (regionIn Try.f65 26) Code.skip)))) (regionIn Try.f65 27))))))))) (regionIn Try.f65 28)))))))))))) (regionIn Try.f65 29))))))) (Code.seq (regionIn Try.f65 30) Code.ret))))))) := by kernel_rfl
theorem along_any {t : TariffV} {s : TarS} {w : World} {from_ : Int} {way : List Int} {wa : Option Addr} {wc : Nat} (ht : TarIn w t s) (hw : IntsAt w wa way) (hwc : way.length ≤ wc) (hwl : way.length ≤ 1000000) : Calls Try.prog 65 #[.agg (tarC t s), .int .i64 from_, .slice wa way.length wc] w (AlongPost w t from_ way) := by
 refine call3 Try.func65 talong_body Try.ntmps65 ?_; intro a hsl; refine wsr ?_; refine hsl.s ?_; clear hsl; intro a hsl; refine alloc_rwB (G := fun W => wpOps _ _ _ _ _ W) ?_; intro x hz X hb; have hI := TI.made (Below.refl _ _) ht X hb; obtain ⟨bt, hbt⟩ : ∃ b, b = w.heap.size := ⟨_, rfl⟩; rw [← hbt] at hsl hI; clear hz X hb hbt; (iterate 2 refine hsl.s ?_; clear hsl; intro a hsl); refine od ?_; refine wp_seq ?_; refine wsr ?_; refine og fun K hK => ?_
 have e3 := hsl.g 3; have c0 := hI.c0; have c1 := hI.c1; have c2 := hI.c2; have c3 := hI.c3; have c4 := hI.c4; have c5 := hI.c5; unfold Oper.wp; go_simp; clear e3; refine hsl.K hK ?_; clear hsl hK; intro a hsl; refine og fun K hK => ?_
 have e16 := hsl.g 16; unfold Oper.wp; go_simp; refine (tcheck_any hI.tar).mono ?_; rintro e x ⟨rfl, hb⟩; replace hI := hI.keep hb; clear hb; clear e16; refine hsl.K hK ?_; clear hsl hK; intro a hsl; refine hsl.s ?_; clear hsl; intro a hsl; refine od ?_; refine wsr ?_; refine hsl.s ?_; clear hsl; intro a hsl
 by_cases h1 : checkT t = 0
 ·have hne := bne_falseI h1; refine hsl.s ?_; clear hsl; intro a hsl; refine od ?_; refine wp_cond_false (hsl.ev 19 rfl) ?_; refine wp_skip ?_; refine wp_seq ?_; refine wsr ?_; (iterate 3 refine hsl.s ?_; clear hsl; intro a hsl); refine og fun K hK => ?_
  have e23 := hsl.g 23; have c1 := hI.c1; unfold Oper.wp; go_simp; clear e23; refine hsl.K hK ?_; clear hsl hK; intro a hsl; refine og fun K hK => ?_
  have e24 := hsl.g 24; have hww : IntKind.i64.wrap (t.roads.stages - 1) = t.roads.stages - 1 := IntWalk.i64_in _ (by have := roads_small (check_lens h1).1; omega); unfold Oper.wp; go_simp; clear e24; refine hsl.K hK ?_; clear hsl hK; intro a hsl; refine og fun K hK => ?_
  have e21 := hsl.g 21; have e25 := hsl.g 25; unfold Oper.wp; go_simp; refine (tbetween_any _ _ _ _).mono ?_; rintro e x ⟨rfl, rfl⟩; clear e21 e25; refine hsl.K hK ?_; clear hsl hK; intro a hsl; rcases Bool.eq_false_or_eq_true (btw from_ 0 (t.roads.stages - 1)) with h2 | h2
  ·rw [h2] at hsl; refine hsl.s ?_; clear hsl; intro a hsl; refine od ?_; refine wp_cond_false (hsl.ev 27 rfl) ?_; refine wp_skip ?_; refine wp_seq ?_; refine wsr ?_; (iterate 2 refine hsl.s ?_; clear hsl; intro a hsl)
   by_cases h3 : 8 < way.length
   ·have q1 : (8 : Int) < (way.length : Int) := by omega
    have hE := Lib.hid (along_errs.2.2.1 h1 h2 h3); refine hsl.s ?_; clear hsl; intro a hsl; refine od ?_; refine wp_cond_true (hsl.ev 30 rfl) ?_; refine wsr ?_; (iterate 2 refine hsl.s ?_; clear hsl; intro a hsl); refine od ?_; refine wp_ret ?_
    try simp only [Exit.then, Exit.inBlock]
    refine bodyPost_ret (v := .tuple #[.slice none 0 0, .int .i64 (alongV t from_ way).2]) ?_ hsl.defers ⟨hI.below, _, rfl, by rw [hE.out]; exact OwnL.nil, fun _ => rfl⟩; rw [hE.out]; simp [results, Try.results65, hsl.get 6 _ rfl, hsl.get 7 _ rfl]
   ·have q1 : ¬ (8 : Int) < (way.length : Int) := by omega
    have HE0 := Lib.hid (along_errs.2.2.2 h1 h2 h3); refine hsl.s ?_; clear hsl; intro a hsl; refine od ?_; refine wp_cond_false (hsl.ev 30 rfl) ?_; refine wp_skip ?_; refine wsr ?_; refine hsl.s ?_; clear hsl; intro a hsl; refine od ?_; refine wp_seq ?_; refine wsr ?_; (iterate 3 refine hsl.s ?_; clear hsl; intro a hsl); refine od ?_; refine wp_block ?_; have hl4 := (check_lens h1).2.2.2.2.1; have hl6 := (check_lens h1).2.2.2.2.2.2.2.1; refine wp_loop_ghost (fun n p x => ∃ (i : Nat) (at_ : Int) (acc : List PassV) (va : Value), i + n = way.length ∧ acc.length ≤ 24 * i ∧ alongGo t (way.take i) (way.drop i) at_ acc = alongV t from_ way ∧ Sl p 98 [(1, .int .i64 at_), (2, .slice wa way.length wc), (3, .pointer (some ⟨bt, 0, none⟩)), (9, va), (31, .slice wa way.length wc), (32, .int .i64 (way.length : Int)), (33, .int .i64 (i : Int))] ∧ TI w x bt t s ∧ OwnPass x (bt + 1) va acc ∧ (acc = [] → va = .slice none 0 0)) way.length ⟨0, from_, [], _, by omega, by simp, HE0.out.symm, hsl.sb, hI, OwnL.nil, fun _ => rfl⟩ ?_; clear hsl hI; rintro n a x ⟨i, at_, acc, va, hin, hal, hE, hsl, hI, hO, hnil⟩; have HE := Lib.hid hE; clear hE; have HR := Lib.hid (fun r (h : alongGo t (way.take i) (way.drop i) at_ acc = r) => HE.out.symm.trans h); have HN := Lib.hid hnil; clear hnil; refine wsr ?_
    by_cases hlt : i < way.length
    ·have q1 : (i : Int) < (way.length : Int) := by omega
     obtain ⟨wb, wo, hwa, p0⟩ := (hw.below hI.below).at hlt; rw [hwa] at hsl; refine hsl.s ?_; clear hsl; intro a hsl; refine od ?_; refine wp_seq ?_; refine wp_cond_true (hsl.ev 34 rfl) ?_; refine wp_skip ?_; refine wp_seq ?_; refine wp_block ?_; refine wsr ?_; (iterate 5 refine hsl.s ?_; clear hsl; intro a hsl); refine od ?_; refine wp_seq ?_; refine wsr ?_; (iterate 3 refine hsl.s ?_; clear hsl; intro a hsl); refine og fun K hK => ?_
     have e40 := hsl.g 40; have c2 := hI.c2; unfold Oper.wp; go_simp; clear e40; refine hsl.K hK ?_; clear hsl hK; intro a hsl; refine hsl.s ?_; clear hsl; intro a hsl; refine og fun K hK => ?_
     have e42 := hsl.g 42; have hww : IntKind.i64.wrap ((t.roads.strips.length : Int) - 1) = (t.roads.strips.length : Int) - 1 := IntWalk.i64_in _ (by have := hI.tar.ls; unfold maxLen at this; omega); unfold Oper.wp; go_simp; clear e42; refine hsl.K hK ?_; clear hsl hK; intro a hsl; refine og fun K hK => ?_
     have e38 := hsl.g 38; have e43 := hsl.g 43; unfold Oper.wp; go_simp; refine (tbetween_any _ _ _ _).mono ?_; rintro e x ⟨rfl, rfl⟩; clear e38 e43; refine hsl.K hK ?_; clear hsl hK; intro a hsl; rcases Bool.eq_false_or_eq_true (btw way[i] 0 ((t.roads.strips.length : Int) - 1)) with h4 | h4
     ·rw [h4] at hsl; refine hsl.s ?_; clear hsl; intro a hsl; refine od ?_; refine wp_cond_false (hsl.ev 45 rfl) ?_; refine wp_skip ?_; refine wp_seq ?_; refine wsr ?_; (iterate 2 refine hsl.s ?_; clear hsl; intro a hsl); refine og fun K hK => ?_
      have e46 := hsl.g 46; have e47 := hsl.g 47; have hqk : (i : Int) ≤ (wc : Int) := by omega
      have hk0 : (0 : Int) ≤ (i : Int) := by omega
      unfold Oper.wp; go_simp; clear e46 e47; refine hsl.K hK ?_; clear hsl hK; intro a hsl; refine hsl.s ?_; clear hsl; intro a hsl; refine og fun K hK => ?_
      have e48 := hsl.g 48; have e49 := hsl.g 49; unfold Oper.wp; go_simp; have hta := ((hwa ▸ hw).below hI.below).take i; have htl : (way.take i).length = i := by rw [List.length_take]; omega
      have hcon := contains_any (cap := wc) (x := way[i]) hta (by omega); rw [htl] at hcon; refine hcon.mono ?_; rintro e x ⟨rfl, rfl⟩; clear hcon hta htl; clear e48 e49; refine hsl.K hK ?_; clear hsl hK; intro a hsl
      by_cases h5 : way[i] ∈ way.take i
      ·rw [decide_eq_true h5] at hsl; have hE := Lib.hid (HR.out _ (ag4 hlt h4 h5)); refine od ?_; refine wp_cond_true (hsl.ev 50 rfl) ?_; refine wsr ?_; (iterate 2 refine hsl.s ?_; clear hsl; intro a hsl); refine od ?_; refine wp_ret ?_
       try simp only [Exit.then, Exit.inBlock]
       refine bodyPost_ret (v := .tuple #[.slice none 0 0, .int .i64 (alongV t from_ way).2]) ?_ hsl.defers ⟨hI.below, _, rfl, by rw [hE.out]; exact OwnL.nil, fun _ => rfl⟩; rw [hE.out]; simp [results, Try.results65, hsl.get 6 _ rfl, hsl.get 7 _ rfl]
      ·rw [decide_eq_false h5] at hsl; have hk2 : (way[i].toNat : Int) = way[i] ∧ 0 ≤ way[i] ∧ way[i] < (t.roads.strips.length : Int) := by have := btw_true.1 h4; omega
       have hkn : way[i].toNat < t.roads.strips.length := by omega
       obtain ⟨sb, so, hsa, hst⟩ := hI.tar.strips.at hkn; rw [← getD_at hkn] at hst; obtain ⟨sx, hsx⟩ : ∃ z, z = t.roads.strips.getD way[i].toNat default := ⟨_, rfl⟩; rw [← hsx] at hst; have HX := Lib.hid hsx; clear hsx; refine od ?_; refine wp_cond_false (hsl.ev 50 rfl) ?_; refine wp_skip ?_; refine wp_seq ?_; refine wsr ?_; (iterate 2 refine hsl.s ?_; clear hsl; intro a hsl); refine og fun K hK => ?_
       have e52 := hsl.g 52; have c2 := hI.c2; rw [hsa] at c2; unfold Oper.wp; go_simp; clear e52; refine hsl.K hK ?_; clear hsl hK; intro a hsl; refine hsl.s ?_; clear hsl; intro a hsl; refine og fun K hK => ?_
       have e53 := hsl.g 53; have e54 := hsl.g 54; have q4 := hk2.2.1; have q5 := hk2.2.2; unfold Oper.wp; go_simp; clear e53 e54; refine hsl.K hK ?_; clear hsl hK; intro a hsl; refine og fun K hK => ?_
       have e55 := hsl.g 55; obtain ⟨s0, s1, s2, s3, s4, s5, s6⟩ := hst; unfold Oper.wp; go_simp; clear e55; refine hsl.K hK ?_; clear hsl hK; intro a hsl; refine hsl.s ?_; clear hsl; intro a hsl; refine og fun K hK => ?_
       have e56 := hsl.g 56; have e57 := hsl.g 57; unfold Oper.wp; go_simp; refine (far_any2 sx at_).mono ?_; rintro e x ⟨rfl, hb⟩; replace hI := hI.keep hb; replace hO := hO.below hb; clear hb; clear e56 e57; refine hsl.K hK ?_; clear hsl hK; intro a hsl; refine hsl.s ?_; clear hsl; intro a hsl; refine od ?_; refine wsr ?_; refine hsl.s ?_; clear hsl; intro a hsl
       by_cases h6 : farV sx at_ < 0
       ·have hE := Lib.hid (HR.out _ (ag12 hlt h4 h5 (by rw [← HX.out]; exact h6))); refine hsl.s ?_; clear hsl; intro a hsl; refine od ?_; refine wp_cond_true (hsl.ev 60 rfl) ?_; refine wsr ?_; (iterate 2 refine hsl.s ?_; clear hsl; intro a hsl); refine od ?_; refine wp_ret ?_
        try simp only [Exit.then, Exit.inBlock]
        refine bodyPost_ret (v := .tuple #[.slice none 0 0, .int .i64 (alongV t from_ way).2]) ?_ hsl.defers ⟨hI.below, _, rfl, by rw [hE.out]; exact OwnL.nil, fun _ => rfl⟩; rw [hE.out]; simp [results, Try.results65, hsl.get 6 _ rfl, hsl.get 7 _ rfl]
       ·have H6 := Lib.hid h6; have h6b : ¬ farV sx at_ < 0 := h6; refine hsl.s ?_; clear hsl; intro a hsl; refine od ?_; refine wp_cond_false (hsl.ev 60 rfl) ?_; refine wp_skip ?_; refine wsr ?_; refine hsl.s ?_; clear hsl; intro a hsl; refine og fun K hK => ?_
        have e61 := hsl.g 61; have c5 := hI.c5; unfold Oper.wp; go_simp; clear e61; refine hsl.K hK ?_; clear hsl hK; intro a hsl; (iterate 2 refine hsl.s ?_; clear hsl; intro a hsl); refine od ?_; refine wp_block ?_; have hnil : acc ++ passUp t way[i] 0 = [] → va = .slice none 0 0 := fun h => HN.out (by simpa [passUp] using h)
        replace hO : OwnPass x (bt + 1) va (acc ++ passUp t way[i] 0) := by simpa [passUp] using hO
        refine wp_loop_ghost (fun n2 p x => ∃ (j : Nat) (va : Value), j + n2 = t.tolls.length ∧ Sl p 98 [(1, .int .i64 (farV sx at_)), (2, .slice (some ⟨wb, wo, none⟩) way.length wc), (3, .pointer (some ⟨bt, 0, none⟩)), (9, va), (31, .slice (some ⟨wb, wo, none⟩) way.length wc), (32, .int .i64 (way.length : Int)), (33, .int .i64 (i : Int)), (11, .int .i64 way[i]), (62, .slice s.ta t.tolls.length s.tc), (63, .int .i64 (t.tolls.length : Int)), (64, .int .i64 (j : Int))] ∧ TI w x bt t s ∧ OwnPass x (bt + 1) va (acc ++ passUp t way[i] j) ∧ (acc ++ passUp t way[i] j = [] → va = .slice none 0 0)) t.tolls.length ⟨0, va, by omega, hsl.sb, hI, hO, hnil⟩ ?_; clear hsl hI hO HN hnil; rintro n2 a x ⟨j, va, hjn, hsl, hI, hO, hnil⟩; have HN := Lib.hid hnil; clear hnil; refine wsr ?_
        by_cases hj : j < t.tolls.length
        ·have q2 : (j : Int) < (t.tolls.length : Int) := by omega
         obtain ⟨tb, to_, hta, p0, p1, p2⟩ := hI.tar.tolls.at hj; rw [hta] at hsl; simp only [tollC] at p0 p1 p2; refine hsl.s ?_; clear hsl; intro a hsl; refine od ?_; refine wp_seq ?_; refine wp_cond_true (hsl.ev 65 rfl) ?_; refine wp_skip ?_; refine wp_seq ?_; refine wp_block ?_; refine wsr ?_; (iterate 3 refine hsl.s ?_; clear hsl; intro a hsl); refine og fun K hK => ?_
         obtain ⟨g, hg⟩ : ∃ b, b = x.heap.size := ⟨_, rfl⟩; unfold Oper.wp; go_simp; refine hsl.K hK ?_; clear hsl hK; intro a hsl; refine hsl.s ?_; clear hsl; intro a hsl; refine og fun K hK => ?_
         have e13 := hsl.g 13; have e68 := hsl.g 68; unfold Oper.wp; go_simp; clear e13 e68; refine hK _ _ ?_; clear hK; refine alloc_rwB (G := fun W => wpOps _ _ _ _ _ W) ?_; intro x hz G hb; replace hI := hI.keep hb; have hne : ∀ k, va.ownBlock = some k → k ≠ g := fun k hk => by have := (OwnL.at_block hO hk).2; omega
         replace hO := hO.below hb; rw [← hg] at hsl G; clear hz hb p0 p1 p2 hg; refine od ?_; refine wsr ?_; refine hsl.s ?_; clear hsl; intro a hsl; refine og fun K hK => ?_
         have e69 := hsl.g 69; have c4 := hI.c4; unfold Oper.wp; go_simp; clear e69; refine hsl.K hK ?_; clear hsl hK; intro a hsl; (iterate 2 refine hsl.s ?_; clear hsl; intro a hsl); refine od ?_; refine wp_block ?_; have hnil : acc ++ passUp t way[i] j ++ payUp t way[i] j 0 = [] → va = .slice none 0 0 := fun h => HN.out (by simpa [payUp] using h)
         replace hO : OwnPass x (bt + 1) va (acc ++ passUp t way[i] j ++ payUp t way[i] j 0) := by simpa [payUp] using hO
         refine wp_loop_ghost (fun n3 p x => ∃ (m : Nat) (va : Value), m + n3 = t.payers.length ∧ Sl p 98 [(1, .int .i64 (farV sx at_)), (2, .slice (some ⟨wb, wo, none⟩) way.length wc), (3, .pointer (some ⟨bt, 0, none⟩)), (9, va), (31, .slice (some ⟨wb, wo, none⟩) way.length wc), (32, .int .i64 (way.length : Int)), (33, .int .i64 (i : Int)), (11, .int .i64 way[i]), (62, .slice (some ⟨tb, to_, none⟩) t.tolls.length s.tc), (63, .int .i64 (t.tolls.length : Int)), (64, .int .i64 (j : Int)), (12, .int .i64 (j : Int)), (13, .pointer (some ⟨g, 0, none⟩)), (70, .slice s.pa t.payers.length s.pc), (71, .int .i64 (t.payers.length : Int)), (72, .int .i64 (m : Int))] ∧ TI w x bt t s ∧ OwnPass x (bt + 1) va (acc ++ passUp t way[i] j ++ payUp t way[i] j m) ∧ (acc ++ passUp t way[i] j ++ payUp t way[i] j m = [] → va = .slice none 0 0) ∧ Rw x g #[.int .i64 t.tolls[j].strip, .int .i64 t.tolls[j].rate, .int .i64 t.tolls[j].farmer] 57 ∧ (∀ k, va.ownBlock = some k → k ≠ g)) t.payers.length ⟨0, va, by omega, hsl.sb, hI, hO, hnil, G, hne⟩ ?_; clear hsl hI hO HN hnil G hne; rintro n3 a x ⟨m, va, hmn, hsl, hI, hO, hnil, G, hne⟩; have HN := Lib.hid hnil; clear hnil; refine wsr ?_
         by_cases hm : m < t.payers.length
         ·have q3 : (m : Int) < (t.payers.length : Int) := by omega
          obtain ⟨pb, po, hpa, p0, p1, p2⟩ := hI.tar.payers.at hm; rw [hpa] at hsl; simp only [payC] at p0 p1 p2; refine hsl.s ?_; clear hsl; intro a hsl; refine od ?_; refine wp_seq ?_; refine wp_cond_true (hsl.ev 73 rfl) ?_; refine wp_skip ?_; refine wp_seq ?_; refine wp_block ?_; refine wsr ?_; (iterate 3 refine hsl.s ?_; clear hsl; intro a hsl); refine og fun K hK => ?_
          obtain ⟨g2, hg⟩ : ∃ b, b = x.heap.size := ⟨_, rfl⟩; unfold Oper.wp; go_simp; refine hsl.K hK ?_; clear hsl hK; intro a hsl; refine hsl.s ?_; clear hsl; intro a hsl; refine og fun K hK => ?_
          have e15 := hsl.g 15; have e76 := hsl.g 76; unfold Oper.wp; go_simp; clear e15 e76; refine hK _ _ ?_; clear hK; refine alloc_rwB (G := fun W => wpOps _ _ _ _ _ W) ?_; intro x hz Y hb; replace hI := hI.keep hb; replace hO := hO.below hb; replace G := G.below hb; rw [← hg] at hsl Y; clear hz hb p0 p1 p2 hg; refine od ?_; refine wsr ?_; refine hsl.s ?_; clear hsl; intro a hsl; refine og fun K hK => ?_
          have e77 := hsl.g 77; have g0 := G.cell (o := 0) rfl; unfold Oper.wp; go_simp; clear e77; refine hsl.K hK ?_; clear hsl hK; intro a hsl; refine hsl.s ?_; clear hsl; intro a hsl
          by_cases h7 : t.tolls[j].strip = way[i]
          ·have hb := beq_trueI h7; (iterate 2 refine hsl.s ?_; clear hsl; intro a hsl); refine hsl.t ?_; clear hsl; intro a hsl; refine ow (hsl.g 81) fun K hK => ?_
           have e82 := hsl.g 82; have y0 := Y.cell (o := 0) rfl; unfold Oper.wp; go_simp; clear e82; refine hsl.K hK ?_; clear hsl hK; intro a hsl
           by_cases h8 : 0 < t.payers[m].heads
           ·have hyes := Lib.hid (show oneP t way[i] j m = [⟨j, m, t.payers[m].heads⟩] from by rw [oneP_yes ⟨by rw [getD_at hj]; exact h7, by rw [getD_at hm]; exact h8⟩, getD_at hm]); refine hsl.t ?_; clear hsl; intro a hsl; refine hsl.s ?_; clear hsl; intro a hsl; refine od ?_; refine wp_cond_true (hsl.ev 85 rfl) ?_; refine wr ?_; (iterate 4 refine hsl.s ?_; clear hsl; intro a hsl); refine og fun K hK => ?_
            have e89 := hsl.g 89; have y0 := Y.cell (o := 0) rfl; unfold Oper.wp; go_simp; clear e89; refine hsl.K hK ?_; clear hsl hK; intro a hsl; (iterate 2 refine hsl.s ?_; clear hsl; intro a hsl); refine alloc_rwB (G := fun W => wpOps _ _ _ _ _ W) ?_; obtain ⟨gs, hgs⟩ : ∃ b, b = x.heap.size := ⟨_, rfl⟩; intro x hz S hb; replace hI := hI.keep hb; replace hO := hO.below hb; replace G := G.below hb; rw [← hgs] at hsl S; clear hz hb hgs y0 Y; refine og fun K hK => ?_
            have e86 := hsl.g 86; have e92 := hsl.g 92; have hsz := hI.kb.lt; refine wp_appL 48 (.tmp 86) (.tmp 92) Try.underlying48 (z := .agg #[.int .i64 0, .int .i64 0, .int .i64 0]) (bytes := 24) (by kernel_rfl) rfl (by decide) (by decide) rfl (by simp [Act.eval, Array.getD_eq_getD_getElem?, e86]) hO gs ⟨j, m, t.payers[m].heads⟩ (by simp [Act.eval, Array.getD_eq_getD_getElem?, e92]) rfl (fun j u hu => S.cell (by simpa [passCs] using hu)) (fun u hu => by simp [passCs] at hu; rcases hu with rfl | rfl | rfl <;> rfl) (by have := passUp_len t way[i] j; have := payUp_len t way[i] j m; have : j * t.payers.length ≤ 6 * 4 := Nat.mul_le_mul (by omega) hl4; simp only [List.length_append]; omega) (Nat.succ_le_of_lt hsz) ?_; have hgx := G.lt; have hsx2 := S.lt; intro va2 x2 hO2 hb2 hgr hov hnn; have HI2 := hI.grow ht hb2; have HG2 := (hgr.block g hgx (fun e => hne g e.symm rfl)).trans G; have hne2 : ∀ k, va2.ownBlock = some k → k ≠ g := fun k hk => by rcases hov with e | e; (exact hne k (e ▸ hk)); (rw [e] at hk; simp at hk; omega)
            clear hI hO G hne S; have hI := HI2; have hO := hO2; have G := HG2; have hne := hne2; clear HI2 hO2 HG2 hne2 hgr hov hnn hb2 hsz hgx hsx2; clear e86 e92; refine hsl.K hK ?_; clear hsl hK; intro a hsl; refine hsl.s ?_; clear hsl; intro a hsl; refine od ?_; refine wr ?_; refine og fun K hK => ?_
            have e72 := hsl.g 72; have hww := add_one m (by omega); unfold Oper.wp; go_simp; clear e72; refine hsl.K hK ?_; clear hsl hK; intro a hsl; refine hsl.s ?_; clear hsl; intro a hsl; refine od ?_; show Exists _; exact ⟨n3 - 1, by omega, m + 1, _, by omega, by rw [hpa]; exact hsl.sb, hI, by rw [payUp_succ, hyes.out, ← List.append_assoc]; exact hO, fun h => by rw [payUp_succ, hyes.out] at h; simp at h, G, hne⟩
           ·have hno := Lib.hid (oneP_no (t := t) (k := way[i]) (i := j) (o := m) (fun h => h8 (by have := h.2; rwa [getD_at hm] at this))); refine hsl.t ?_; clear hsl; intro a hsl; refine hsl.s ?_; clear hsl; intro a hsl; refine od ?_; refine wp_cond_false (hsl.ev 85 rfl) ?_; refine wp_skip ?_; refine wr ?_; refine og fun K hK => ?_
            have e72 := hsl.g 72; have hww := add_one m (by omega); unfold Oper.wp; go_simp; clear e72; refine hsl.K hK ?_; clear hsl hK; intro a hsl; refine hsl.s ?_; clear hsl; intro a hsl; refine od ?_; show Exists _; exact ⟨n3 - 1, by omega, m + 1, va, by omega, by rw [hpa]; exact hsl.sb, hI, by rw [payUp_succ, hno.out, List.append_nil]; exact hO, fun h => HN.out (by rw [payUp_succ, hno.out, List.append_nil] at h; exact h), G, hne⟩
          ·have hb := beq_falseI h7; have hno := Lib.hid (oneP_no (t := t) (k := way[i]) (i := j) (o := m) (fun h => h7 (by rw [← h.1, getD_at hj]))); (iterate 2 refine hsl.s ?_; clear hsl; intro a hsl); refine hsl.z ?_; clear hsl; intro a hsl; refine hsl.z ?_; clear hsl; intro a hsl; refine hsl.z ?_; clear hsl; intro a hsl; refine hsl.s ?_; clear hsl; intro a hsl; refine od ?_; refine wp_cond_false (hsl.ev 85 rfl) ?_; refine wp_skip ?_; refine wr ?_; refine og fun K hK => ?_
           have e72 := hsl.g 72; have hww := add_one m (by omega); unfold Oper.wp; go_simp; clear e72; refine hsl.K hK ?_; clear hsl hK; intro a hsl; refine hsl.s ?_; clear hsl; intro a hsl; refine od ?_; show Exists _; exact ⟨n3 - 1, by omega, m + 1, va, by omega, by rw [hpa]; exact hsl.sb, hI, by rw [payUp_succ, hno.out, List.append_nil]; exact hO, fun h => HN.out (by rw [payUp_succ, hno.out, List.append_nil] at h; exact h), G, hne⟩
         ·obtain rfl : m = t.payers.length := by omega
          refine hsl.s ?_; clear hsl; intro a hsl; refine od ?_; refine wp_seq ?_; refine wp_cond_false (hsl.ev 73 rfl) ?_; refine wp_exit ?_; replace hO : OwnPass x (bt + 1) va (acc ++ passUp t way[i] (j + 1)) := by rw [passUp_succ, ← List.append_assoc]; exact hO
          replace HN := Lib.hid (fun (h : acc ++ passUp t way[i] (j + 1) = []) => HN.out (by rw [passUp_succ, ← List.append_assoc] at h; exact h)); refine wr ?_; refine og fun K hK => ?_
          have e64 := hsl.g 64; have hww := add_one j (by omega); unfold Oper.wp; go_simp; clear e64; refine hsl.K hK ?_; clear hsl hK; intro a hsl; refine hsl.s ?_; clear hsl; intro a hsl; refine od ?_; show Exists _; exact ⟨n2 - 1, by omega, j + 1, va, by omega, by rw [hta]; exact hsl.sb, hI, hO, HN.out⟩
        ·obtain rfl : j = t.tolls.length := by omega
         refine hsl.s ?_; clear hsl; intro a hsl; refine od ?_; refine wp_seq ?_; refine wp_cond_false (hsl.ev 65 rfl) ?_; refine wp_exit ?_; have hal3 : (acc ++ passUp t way[i] t.tolls.length).length ≤ 24 * (i + 1) := by have := passUp_len t way[i] t.tolls.length; have h9 : t.tolls.length * t.payers.length ≤ 6 * 4 := Nat.mul_le_mul hl6 hl4; rw [List.length_append]; omega
         refine wr ?_; refine og fun K hK => ?_
         have e33 := hsl.g 33; have hww := add_one i (by omega); unfold Oper.wp; go_simp; clear e33; refine hsl.K hK ?_; clear hsl hK; intro a hsl; refine hsl.s ?_; clear hsl; intro a hsl; refine od ?_; show Exists _; exact ⟨n - 1, by omega, i + 1, _, _, va, by omega, hal3, by have h := (agN hlt h4 h5 (by rw [← HX.out]; exact H6.out)).symm.trans HE.out; rw [← HX.out] at h; exact h, by rw [hwa]; exact hsl.sb, hI, hO, HN.out⟩
     ·rw [h4] at hsl; have hE := Lib.hid (HR.out _ (ag3 hlt h4)); refine hsl.s ?_; clear hsl; intro a hsl; refine od ?_; refine wp_cond_true (hsl.ev 45 rfl) ?_; refine wsr ?_; (iterate 2 refine hsl.s ?_; clear hsl; intro a hsl); refine od ?_; refine wp_ret ?_
      try simp only [Exit.then, Exit.inBlock]
      refine bodyPost_ret (v := .tuple #[.slice none 0 0, .int .i64 (alongV t from_ way).2]) ?_ hsl.defers ⟨hI.below, _, rfl, by rw [hE.out]; exact OwnL.nil, fun _ => rfl⟩; rw [hE.out]; simp [results, Try.results65, hsl.get 6 _ rfl, hsl.get 7 _ rfl]
    ·obtain rfl : i = way.length := by omega
     refine hsl.s ?_; clear hsl; intro a hsl; refine od ?_; refine wp_seq ?_; refine wp_cond_false (hsl.ev 34 rfl) ?_; refine wp_exit ?_; have hE := Lib.hid (HE.out.symm.trans (show alongGo t (way.take way.length) (way.drop way.length) at_ acc = (acc, 0) from by rw [List.drop_of_length_le (Nat.le_refl _)]; rfl)); refine wsr ?_; (iterate 3 refine hsl.s ?_; clear hsl; intro a hsl); refine od ?_; refine wp_ret ?_
     try simp only [Exit.then, Exit.inBlock]
     refine bodyPost_ret (v := .tuple #[va, .int .i64 0]) ?_ hsl.defers ⟨hI.below, va, by rw [hE.out], by rw [hE.out]; exact OwnL.lower hO (by have := hI.lb; omega), fun h => HN.out (by rw [hE.out] at h; exact h)⟩; simp [results, Try.results65, hsl.get 6 _ rfl, hsl.get 7 _ rfl]
  ·rw [h2] at hsl; have hE := Lib.hid ((along_errs (way := way)).2.1 h1 h2); refine hsl.s ?_; clear hsl; intro a hsl; refine od ?_; refine wp_cond_true (hsl.ev 27 rfl) ?_; refine wsr ?_; (iterate 2 refine hsl.s ?_; clear hsl; intro a hsl); refine od ?_; refine wp_ret ?_
   try simp only [Exit.then, Exit.inBlock]
   refine bodyPost_ret (v := .tuple #[.slice none 0 0, .int .i64 (alongV t from_ way).2]) ?_ hsl.defers ⟨hI.below, _, rfl, by rw [hE.out]; exact OwnL.nil, fun _ => rfl⟩; rw [hE.out]; simp [results, Try.results65, hsl.get 6 _ rfl, hsl.get 7 _ rfl]
 ·have hne := bne_trueI h1; have hE := Lib.hid ((along_errs (from_ := from_) (way := way)).1 h1); refine hsl.s ?_; clear hsl; intro a hsl; refine od ?_; refine wp_cond_true (hsl.ev 19 rfl) ?_; refine wsr ?_; (iterate 3 refine hsl.s ?_; clear hsl; intro a hsl); refine od ?_; refine wp_ret ?_
  try simp only [Exit.then, Exit.inBlock]
  refine bodyPost_ret (v := .tuple #[.slice none 0 0, .int .i64 (alongV t from_ way).2]) ?_ hsl.defers ⟨hI.below, _, rfl, by rw [hE.out]; exact OwnL.nil, fun _ => rfl⟩; rw [hE.out]; simp [results, Try.results65, hsl.get 6 _ rfl, hsl.get 7 _ rfl]
end
end Go.Proofs.Ytgdobbcjkiapkaa
