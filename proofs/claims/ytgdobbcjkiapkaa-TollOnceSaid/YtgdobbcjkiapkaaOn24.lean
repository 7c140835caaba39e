import Derived.Test.YtgdobbcjkiapkaaOn04
import Derived.Test.YtgdobbcjkiapkaaOn22
import Derived.Test.YtgdobbcjkiapkaaOn23
import Derived.Test.YtgdobbcjkiapkaaOn02
namespace Go.Proofs.Ytgdobbcjkiapkaa
set_option maxRecDepth 100000
set_option maxHeartbeats 4000000
set_option linter.unusedSimpArgs false
set_option linter.unusedVariables false
section
open Go.RowKit
open Go.ChangeMaps (setBlock)
def passSum : List PassV → Int × Int → Int
 | [], _ => 0
 | p :: l, k => (if (p.toll, p.owner) = k then p.heads else 0) + passSum l k
theorem passSum_append (a b : List PassV) (k : Int × Int) : passSum (a ++ b) k = passSum a k + passSum b k := by
 induction a with
 | nil => simp [passSum]
 | cons x a ih => simp only [List.cons_append, passSum, ih]; omega
def passE1 (t : TariffV) (p : PassV) : Int :=
 if !(btw p.toll 0 ((t.tolls.length : Int) - 1)) || !(btw p.owner 0 ((t.payers.length : Int) - 1)) then 3
 else if !(btw p.heads 1 40) then 1 else 0
def passErr (t : TariffV) : List PassV → Int
 | [] => 0
 | p :: l => if passE1 t p = 0 then passErr t l else passE1 t p
def openE (t : TariffV) (l : List PassV) : Int := if checkT t ≠ 0 then checkT t else if 24 < l.length then 6 else passErr t l
theorem pe3a {t : TariffV} {p : PassV} (h : btw p.toll 0 ((t.tolls.length : Int) - 1) = false) : passE1 t p = 3 := by unfold passE1; rw [if_pos (by simp [h])]
theorem pe3b {t : TariffV} {p : PassV} (h : btw p.owner 0 ((t.payers.length : Int) - 1) = false) : passE1 t p = 3 := by unfold passE1; rw [if_pos (by simp [h])]
theorem pe1 {t : TariffV} {p : PassV} (h : btw p.toll 0 ((t.tolls.length : Int) - 1) = true) (h2 : btw p.owner 0 ((t.payers.length : Int) - 1) = true) (h3 : btw p.heads 1 40 = false) : passE1 t p = 1 := by unfold passE1; rw [if_neg (by simp [h, h2]), if_pos (by simp [h3])]
theorem pe0 {t : TariffV} {p : PassV} (h : btw p.toll 0 ((t.tolls.length : Int) - 1) = true) (h2 : btw p.owner 0 ((t.payers.length : Int) - 1) = true) (h3 : btw p.heads 1 40 = true) : passE1 t p = 0 := by unfold passE1; rw [if_neg (by simp [h, h2]), if_neg (by simp [h3])]
theorem pe_fine {t : TariffV} {p : PassV} (h : passE1 t p = 0) : btw p.toll 0 ((t.tolls.length : Int) - 1) = true ∧ btw p.owner 0 ((t.payers.length : Int) - 1) = true ∧ btw p.heads 1 40 = true := by
 unfold passE1 at h
 split at h
 ·exact absurd h (by decide)
 ·split at h
  ·exact absurd h (by decide)
  ·rename_i h1 h2; simp at h1 h2; exact ⟨h1.1, h1.2, h2⟩
theorem passErr_stop {t : TariffV} {l : List PassV} {k : Nat} {e : Int} (h : k < l.length) (he : passE1 t l[k] = e) (h0 : e ≠ 0) : passErr t (l.drop k) = e := by
 rw [List.drop_eq_getElem_cons h, passErr, if_neg (by rw [he]; exact h0), he]
theorem passErr_next {t : TariffV} {l : List PassV} {k : Nat} (h : k < l.length) (he : passE1 t l[k] = 0) : passErr t (l.drop k) = passErr t (l.drop (k + 1)) := by
 rw [List.drop_eq_getElem_cons h, passErr, if_pos he]
def passFine (t : TariffV) (l : List PassV) : Prop := ∀ p ∈ l, passE1 t p = 0
theorem passFine_next {t : TariffV} {l : List PassV} {k : Nat} (hk : k < l.length) (h : passFine t (l.take k)) (h1 : passE1 t l[k] = 0) : passFine t (l.take (k + 1)) := by
 intro p hp; rw [List.take_succ_eq_append_getElem hk, List.mem_append] at hp; rcases hp with hp | hp
 ·exact h p hp
 ·simp at hp; rw [hp]; exact h1
theorem passErr_fine {t : TariffV} : ∀ {l : List PassV}, passErr t l = 0 → passFine t l
 | [], _, p, hp => by simp at hp
 | x :: l, h, p, hp => by
  rw [passErr] at h
  by_cases e : passE1 t x = 0
  ·rw [if_pos e] at h; rcases List.mem_cons.1 hp with rfl | hp
   ·exact e
   ·exact passErr_fine h p hp
  ·rw [if_neg e] at h; exact absurd h e
theorem passSum_bounds {t : TariffV} {l : List PassV} (h : passFine t l) (k : Int × Int) : 0 ≤ passSum l k ∧ passSum l k ≤ 40 * (l.length : Int) := by
 induction l with
 | nil => simp [passSum]
 | cons p l ih =>
  have h1 := ih fun x hx => h x (by simp [hx])
  have h2 := btw_true.1 (pe_fine (h p (by simp))).2.2; simp only [passSum, List.length_cons]
  push_cast
  split <;> omega
theorem passSum_next {l : List PassV} {k : Nat} (hk : k < l.length) (key : Int × Int) : passSum (l.take (k + 1)) key = passSum (l.take k) key + (if (l[k].toll, l[k].owner) = key then l[k].heads else 0) := by
 rw [List.take_succ_eq_append_getElem hk, passSum_append]; simp [passSum]
theorem upd_sum {l : List PassV} {k : Nat} (hk : k < l.length) {qs : List ((Int × Int) × Int)} (h : ∀ key, (atK qs key).getD 0 = passSum (l.take k) key) : ∀ key, (atK (updK qs (l[k].toll, l[k].owner) (passSum (l.take k) (l[k].toll, l[k].owner) + l[k].heads)) key).getD 0 = passSum (l.take (k + 1)) key := by
 intro key; rw [atK_upd, passSum_next hk]
 by_cases e : key = (l[k].toll, l[k].owner)
 ·subst e; rw [if_pos rfl, if_pos rfl]; rfl
 ·rw [if_neg e, if_neg (Ne.symm e), h]; omega
def deskCells (t : TariffV) (s : TarS) (mb : Nat) : Array Value := #[.int .i64 t.roads.days, .int .i64 t.roads.stages, .slice s.sa t.roads.strips.length s.sc, .int .i64 t.pace, .slice s.pa t.payers.length s.pc, .slice s.ta t.tolls.length s.tc, .map (some mb)]
structure DeskIs (w : World) (bd mb : Nat) (t : TariffV) (s : TarS) (l : List PassV) : Prop where
 kd : Rw w bd (deskCells t s mb) 103
 map : ∃ qs, MapIs w mb (pvG qs) ∧ ∀ key, (atK qs key).getD 0 = passSum l key
theorem DeskIs.below {w w' : World} {bd mb : Nat} {t : TariffV} {s : TarS} {l : List PassV} (h : DeskIs w bd mb t s l) (hb : Below w.heap.size w w') : DeskIs w' bd mb t s l := by
 obtain ⟨qs, h1, h2⟩ := h.map; exact ⟨h.kd.below hb, qs, h1.below hb h1.lt, h2⟩
structure OI (w x : World) (bt bd mb : Nat) (t : TariffV) (s : TarS) (qs : List ((Int × Int) × Int)) : Prop where
 below : Below w.heap.size w x
 kb : Rw x bt (tarC t s) 28
 kd : Rw x bd (deskCells t s mb) 103
 mp : MapIs x mb (pvG qs)
 n1 : w.heap.size ≤ bt ∧ w.heap.size ≤ bd ∧ w.heap.size ≤ mb ∧ mb ≠ bt ∧ mb ≠ bd
section
variable {w x : World} {bt bd mb : Nat} {t : TariffV} {s : TarS} {qs : List ((Int × Int) × Int)}
theorem OI.keep (h : OI w x bt bd mb t s qs) {x2 : World} (hb : Below x.heap.size x x2) : OI w x2 bt bd mb t s qs := ⟨h.below.trans (hb.mono h.below.size), h.kb.below hb, h.kd.below hb, h.mp.below hb h.mp.lt, h.n1⟩
theorem OI.drew (h : OI w x bt bd mb t s qs) : OI w x.drew bt bd mb t s qs := h.keep (Below.refl _ _).drew
theorem Rw.other {w : World} {b mb : Nat} {c : Array Value} {ty : TypeId} (h : Rw w b c ty) (o : Obj) (hne : mb ≠ b) : Rw (setBlock w mb o) b c ty := (setBlock_other o hne).trans h
theorem OI.put (h : OI w x bt bd mb t s qs) (q2 : List ((Int × Int) × Int)) : OI w (setBlock x mb (.map (mkEs (pvG q2)) (pvG q2).length)) bt bd mb t s q2 :=
 ⟨setBlock_below _ h.below h.n1.2.2.1, h.kb.other _ h.n1.2.2.2.1, h.kd.other _ h.n1.2.2.2.2, h.mp.set _, h.n1⟩
theorem OI.look (h : OI w x bt bd mb t s qs) (a b : Int) : (Instr.lookup 101 (.map (some mb)) (.agg #[.int .i64 a, .int .i64 b]) false).run Try.prog x = .ok (.int .i64 ((atK qs (a, b)).getD 0)) x := (lookup_gate x mb _ _ qs #[] (a, b) h.mp (ents_mk qs)).1
theorem OI.entry (h : OI w x bt bd mb t s qs) (a b : Int) : (Instr.mapEntry 101 (.map (some mb)) (.agg #[.int .i64 a, .int .i64 b])).run Try.prog x = .ok (.tuple #[.int .i64 ((atK qs (a, b)).getD 0), .int .i64 (entI qs (a, b) : Nat)]) (setBlock x mb (.map (mkEs (pvG (entQ qs (a, b)))) (pvG (entQ qs (a, b))).length)) := entry_gate x mb qs (a, b) h.mp
theorem OI.store {q0 : List ((Int × Int) × Int)} {k : Int × Int} (h : OI w x bt bd mb t s (entQ q0 k)) (v : Int) : (Instr.entryStore 101 (.map (some mb)) (.int .i64 (entI q0 k : Nat)) (.int .i64 v)).run Try.prog x = .ok () (setBlock x mb (.map (mkEs (pvG (updK q0 k v))) (pvG (updK q0 k v)).length)) := by
 obtain ⟨h1, h2, h3, _⟩ := ent_law q0 k; rw [← h3 v]; exact estore_gate x mb _ _ v k h1 h2 h.mp
theorem alloc_mapG {w : World} {G : World → Prop} (h : ∀ W, W.heap.size = w.heap.size + 1 → MapIs W w.heap.size [] → Below w.heap.size w W → G W) : G (w.alloc (.map #[] 0)) := h _ (by simp) (MapIs.made _) (alloc_below _ _)
end
theorem check_lens {t : TariffV} (h : checkT t = 0) : checkR t.roads = 0 ∧ 1 ≤ t.pace ∧ t.pace ≤ 9 ∧ 1 ≤ t.payers.length ∧ t.payers.length ≤ 4 ∧ t.payers.all payerFine = true ∧ (1 ≤ headsOf t.payers ∧ headsOf t.payers ≤ 40) ∧ t.tolls.length ≤ 6 ∧ tollsErr t.roads.strips.length [] t.tolls = 0 := by
 unfold checkT at h
 by_cases h1 : checkR t.roads = 0
 ·rw [if_neg (by simp [h1])] at h
  cases h2 : btw t.pace 1 9 with
  | false => rw [h2] at h; simp at h
  | true =>
   rw [if_neg (by simp [h2])] at h
   by_cases h3 : fewV t.payers.length 1 4 = 0
   ·rw [if_neg (by simp [h3])] at h
    cases h4 : t.payers.all payerFine with
    | false => rw [h4] at h; simp at h
    | true =>
     rw [if_neg (by simp [h4])] at h
     cases h5 : btw (headsOf t.payers) 1 40 with
     | false => rw [h5] at h; simp at h
     | true =>
      rw [if_neg (by simp [h5])] at h; unfold tollsE at h
      by_cases h6 : 6 < t.tolls.length
      ·rw [if_pos h6] at h; simp at h
      ·rw [if_neg h6] at h; have h7 := few_zero h3; have h8 := btw_true.1 h2; exact ⟨h1, h8.1, h8.2, by omega, by omega, rfl, btw_true.1 h5, by omega, h⟩
   ·rw [if_pos h3] at h; exact absurd h h3
 ·rw [if_pos h1] at h; exact absurd h h1
def OpenPost (w : World) (t : TariffV) (s : TarS) (l : List PassV) (e : Ending) (w' : World) : Prop :=
 Below w.heap.size w w' ∧ (openE t l ≠ 0 → e = .returned (.tuple #[.pointer none, .int .i64 (openE t l)])) ∧ (openE t l = 0 → ∃ bd mb, e = .returned (.tuple #[.pointer (some ⟨bd, 0, none⟩), .int .i64 0]) ∧ w.heap.size ≤ bd ∧ w.heap.size ≤ mb ∧ DeskIs w' bd mb t s l)
theorem open_errs {t : TariffV} {l : List PassV} : (checkT t ≠ 0 → openE t l = checkT t) ∧ (checkT t = 0 → 24 < l.length → openE t l = 6) ∧ (checkT t = 0 → l.length ≤ 24 → openE t l = passErr t l) := by
 unfold openE; exact ⟨fun h => if_pos h, fun h h2 => by rw [if_neg (by simp [h]), if_pos h2], fun h h2 => by rw [if_neg (by simp [h]), if_neg (by omega)]⟩
theorem towner_body : Try.f66.body = some (Code.seq (regionIn Try.f66 0) (Code.seq (regionIn Try.f66 1) Code.ret)) := by kernel_rfl
theorem owner_any {w : World} {bd : Nat} {n : Int} {pa : Option Addr} {pl pc : Nat} (hc : w.cell? ⟨bd, 4, none⟩ = some (.slice pa pl pc)) (hp : pl ≤ maxLen) : Calls Try.prog 66 #[.pointer (some ⟨bd, 0, none⟩), .int .i64 n] w (fun e w' => e = .returned (.bool (btw n 0 ((pl : Int) - 1))) ∧ w = w') := by
 have hw : IntKind.i64.wrap ((pl : Int) - 1) = (pl : Int) - 1 := IntWalk.i64_in _ (by unfold maxLen at hp; omega); refine call2 Try.func66 towner_body Try.ntmps66 ?_; intro a hsl; refine wsr ?_; refine hsl.s ?_; clear hsl; intro a hsl; refine od ?_; refine wsr ?_; (iterate 8 refine hsl.s ?_; clear hsl; intro a hsl); refine og fun K hK => ?_
 have e5 := hsl.g 5; have e12 := hsl.g 12; unfold Oper.wp; go_simp; refine (tbetween_any _ _ _ _).mono ?_; rintro e x ⟨rfl, rfl⟩; clear e5 e12; refine hsl.K hK ?_; clear hsl hK; intro a hsl; refine hsl.s ?_; clear hsl; intro a hsl; refine od ?_; refine wp_ret ?_
 try simp only [Exit.then, Exit.inBlock]
 refine bodyPost_ret (v := .bool (btw n 0 ((pl : Int) - 1))) ?_ hsl.defers ⟨rfl, rfl⟩; simp [results, Try.results66, hsl.get 4 _ rfl]
theorem topen_body : Try.f77.body = some (Code.seq (regionIn Try.f77 0) (Code.seq (Code.seq (regionIn Try.f77 1) (Code.seq (regionIn Try.f77 2) (Code.cond (Operand.tmp 13) (Code.seq (regionIn Try.f77 3) Code.ret) Code.skip))) (Code.seq (Code.seq (regionIn Try.f77 4) (Code.cond (Operand.tmp 17) (Code.seq (regionIn Try.f77 5) Code.ret) Code.skip)) (Code.seq (regionIn Try.f77 6) (Code.seq (Code.seq (regionIn Try.f77 7) (Code.block 0 (Code.loop (Code.seq (regionIn Try.f77 8) (Code.seq (Code.cond (Operand.tmp 25) Code.skip (Code.exit 0)) (Code.seq (Code.block 1 (Code.seq (regionIn Try.f77 9) (Code.seq (Code.seq (regionIn Try.f77 10) (Code.cond (Operand.tmp 42) (Code.seq (regionIn Try.f77 11) Code.ret) Code.skip)) (Code.seq (Code.seq (regionIn Try.f77 12) (Code.cond (Operand.tmp 46) (Code.seq (regionIn Try.f77 13) Code.ret) Code.skip)) (regionIn Try.f77 14))))) (regionIn Try.f77 15))))))) (Code.seq (regionIn Try.f77 16) Code.ret)))))) := by kernel_rfl
theorem open14 {w x : World} {bt bd mb g : Nat} {t : TariffV} {s : TarS} {qs : List ((Int × Int) × Int)} {p : PassV} (I0 : OI w x bt bd mb t s qs) (G0 : Rw x g #[.int .i64 p.toll, .int .i64 p.owner, .int .i64 p.heads] 53) (hg : mb ≠ g) (hq0 : 0 ≤ (atK qs (p.toll, p.owner)).getD 0) (hq1 : (atK qs (p.toll, p.owner)).getD 0 ≤ 1000000) (hh : btw p.heads 1 40 = true) (v2 v22 v23 v24 : Value) (a : Act) (hsl : Sl a 64 [(2, v2), (7, .pointer (some ⟨bd, 0, none⟩)), (9, .pointer (some ⟨g, 0, none⟩)), (22, v22), (23, v23), (24, v24)]) (Q : Exit → Act → World → Prop)
  (h : ∀ a x, Sl a 64 [(2, v2), (7, .pointer (some ⟨bd, 0, none⟩)), (9, .pointer (some ⟨g, 0, none⟩)), (22, v22), (23, v23), (24, v24)] → OI w x bt bd mb t s (updK qs (p.toll, p.owner) ((atK qs (p.toll, p.owner)).getD 0 + p.heads)) → Q .normal a x) : (regionIn Try.f77 14).wp Try.prog Q a x := by
 rw [show regionIn Try.f77 14 = Code.region 14 _ true from rfl]; refine wp_region_sll 15 (by kernel_rfl) rfl (by kernel_rfl) (by kernel_rfl) (hsl) [some 47, some 48, some 49, some 50, some 51, some 52, some 53, some 54, some 55, some 56, some 57, some 58, some 59, some 60, some 61] rfl rfl (fun j v _ => match j with | 0 => v = .pointer (some ⟨bd, 0, none⟩) | 1 => v = .pointer (some ⟨bd, 0, none⟩) | 2 => v = .pointer (some ⟨bd, 6, none⟩) | 3 => v = .map (some mb) | 4 => v = .pointer (some ⟨g, 0, none⟩) | 5 => v = .int .i64 p.toll | 6 => v = .pointer (some ⟨g, 1, none⟩) | 7 => v = .int .i64 p.owner | 8 => v = .agg #[.int .i64 p.toll, .int .i64 p.owner] | 9 => v = .int .i64 ((atK qs (p.toll, p.owner)).getD 0) | 10 => v = .pointer (some ⟨g, 2, none⟩) | 11 => v = .int .i64 p.heads | 12 => v = .int .i64 ((atK qs (p.toll, p.owner)).getD 0 + p.heads) | 13 => v = .tuple #[.int .i64 ((atK qs (p.toll, p.owner)).getD 0), .int .i64 (entI qs (p.toll, p.owner) : Nat)] | 14 => v = .int .i64 (entI qs (p.toll, p.owner) : Nat) | _ => True) (fun L x => OI w x bt bd mb t s (if L 13 then entQ qs (p.toll, p.owner) else qs) ∧ Rw x g #[.int .i64 p.toll, .int .i64 p.owner, .int .i64 p.heads] 53) ⟨I0.drew, G0.below (Below.refl _ _).drew⟩ ?_ ?_
 ·clear hsl; intro k o hkl ho L a x hI hLk hsl hs hd; have hlt : ∀ k : Nat, k < 15 → k = 0 ∨ k = 1 ∨ k = 2 ∨ k = 3 ∨ k = 4 ∨ k = 5 ∨ k = 6 ∨ k = 7 ∨ k = 8 ∨ k = 9 ∨ k = 10 ∨ k = 11 ∨ k = 12 ∨ k = 13 ∨ k = 14 := by decide
  rcases hlt k hkl with rfl | rfl | rfl | rfl | rfl | rfl | rfl | rfl | rfl | rfl | rfl | rfl | rfl | rfl | rfl
  ·obtain rfl := Option.some.inj ho; have e7 := hsl.g 7; clear hs hd; refine wg fun K hK => ?_
   unfold Oper.wp; go_simp; exact hK _ _ ⟨_, rfl, rfl, by simpa [updF] using hI, fun _ _ h => h⟩
  ·obtain rfl := Option.some.inj ho; obtain ⟨_, e47, rfl⟩ := hs 0 _ 47 rfl rfl (hd 0 wm); clear hs hd; refine wg fun K hK => ?_
   unfold Oper.wp; go_simp; exact hK _ _ ⟨_, rfl, rfl, by simpa [updF] using hI, fun _ _ h => h⟩
  ·obtain rfl := Option.some.inj ho; obtain ⟨_, e48, rfl⟩ := hs 1 _ 48 rfl rfl (hd 1 wm); clear hs hd; refine wg fun K hK => ?_
   unfold Oper.wp; go_simp; exact hK _ _ ⟨_, rfl, rfl, by simpa [updF] using hI, fun _ _ h => h⟩
  ·obtain rfl := Option.some.inj ho; obtain ⟨_, e49, rfl⟩ := hs 2 _ 49 rfl rfl (hd 2 wm); have hc := hI.1.kd.cell (o := 6) rfl; clear hs hd; refine wg fun K hK => ?_
   unfold Oper.wp; go_simp; exact hK _ _ ⟨_, rfl, rfl, by simpa [updF] using hI, fun _ _ h => h⟩
  ·obtain rfl := Option.some.inj ho; have e9 := hsl.g 9; clear hs hd; refine wg fun K hK => ?_
   unfold Oper.wp; go_simp; exact hK _ _ ⟨_, rfl, rfl, by simpa [updF] using hI, fun _ _ h => h⟩
  ·obtain rfl := Option.some.inj ho; obtain ⟨_, e51, rfl⟩ := hs 4 _ 51 rfl rfl (hd 4 wm); have hc := hI.2.cell (o := 0) rfl; clear hs hd; refine wg fun K hK => ?_
   unfold Oper.wp; go_simp; exact hK _ _ ⟨_, rfl, rfl, by simpa [updF] using hI, fun _ _ h => h⟩
  ·obtain rfl := Option.some.inj ho; have e9 := hsl.g 9; clear hs hd; refine wg fun K hK => ?_
   unfold Oper.wp; go_simp; exact hK _ _ ⟨_, rfl, rfl, by simpa [updF] using hI, fun _ _ h => h⟩
  ·obtain rfl := Option.some.inj ho; obtain ⟨_, e53, rfl⟩ := hs 6 _ 53 rfl rfl (hd 6 wm); have hc := hI.2.cell (o := 1) rfl; clear hs hd; refine wg fun K hK => ?_
   unfold Oper.wp; go_simp; exact hK _ _ ⟨_, rfl, rfl, by simpa [updF] using hI, fun _ _ h => h⟩
  ·obtain rfl := Option.some.inj ho; obtain ⟨_, e52, rfl⟩ := hs 5 _ 52 rfl rfl (hd 5 wm); obtain ⟨_, e54, rfl⟩ := hs 7 _ 54 rfl rfl (hd 7 wm); clear hs hd; refine wg fun K hK => ?_
   unfold Oper.wp; go_simp; exact hK _ _ ⟨_, rfl, rfl, by simpa [updF] using hI, fun _ _ h => h⟩
  ·obtain rfl := Option.some.inj ho; obtain ⟨_, e50, rfl⟩ := hs 3 _ 50 rfl rfl (hd 3 wm); obtain ⟨_, e55, rfl⟩ := hs 8 _ 55 rfl rfl (hd 8 wm); have hlk := hI.1.look p.toll p.owner; have hsame : (atK (if L 13 then entQ qs (p.toll, p.owner) else qs) (p.toll, p.owner)).getD 0 = (atK qs (p.toll, p.owner)).getD 0 := by by_cases c : L 13 = true; (rw [if_pos c]; exact (ent_law qs _).2.2.2); rw [if_neg c]
   rw [hsame] at hlk; clear hsame; clear hs hd; refine wg fun K hK => ?_
   unfold Oper.wp; go_simp; exact hK _ _ ⟨_, rfl, rfl, by simpa [updF] using hI, fun _ _ h => h⟩
  ·obtain rfl := Option.some.inj ho; have e9 := hsl.g 9; clear hs hd; refine wg fun K hK => ?_
   unfold Oper.wp; go_simp; exact hK _ _ ⟨_, rfl, rfl, by simpa [updF] using hI, fun _ _ h => h⟩
  ·obtain rfl := Option.some.inj ho; obtain ⟨_, e57, rfl⟩ := hs 10 _ 57 rfl rfl (hd 10 wm); have hc := hI.2.cell (o := 2) rfl; clear hs hd; refine wg fun K hK => ?_
   unfold Oper.wp; go_simp; exact hK _ _ ⟨_, rfl, rfl, by simpa [updF] using hI, fun _ _ h => h⟩
  ·obtain rfl := Option.some.inj ho; obtain ⟨_, e56, rfl⟩ := hs 9 _ 56 rfl rfl (hd 9 wm); obtain ⟨_, e58, rfl⟩ := hs 11 _ 58 rfl rfl (hd 11 wm); have hw : IntKind.i64.wrap ((atK qs (p.toll, p.owner)).getD 0 + p.heads) = (atK qs (p.toll, p.owner)).getD 0 + p.heads := IntWalk.i64_in _ (by have := btw_true.1 hh; omega); clear hs hd; refine wg fun K hK => ?_
   unfold Oper.wp; go_simp; exact hK _ _ ⟨_, rfl, rfl, by simpa [updF] using hI, fun _ _ h => h⟩
  ·obtain rfl := Option.some.inj ho; obtain ⟨_, e50, rfl⟩ := hs 3 _ 50 rfl rfl (hd 3 wm); obtain ⟨_, e55, rfl⟩ := hs 8 _ 55 rfl rfl (hd 8 wm); rw [hLk] at hI; have hme := (show OI w x bt bd mb t s qs from hI.1).entry p.toll p.owner; clear hs hd; refine wg fun K hK => ?_
   unfold Oper.wp; go_simp; refine hK _ _ ⟨_, rfl, rfl, ⟨?_, hI.2.other _ hg⟩, fun _ _ h => h⟩; have := (show OI w x bt bd mb t s qs from hI.1).put (entQ qs (p.toll, p.owner))
   simpa [updF] using this
  ·obtain rfl := Option.some.inj ho; obtain ⟨_, e60, rfl⟩ := hs 13 _ 60 rfl rfl (hd 13 wm); clear hs hd; refine wg fun K hK => ?_
   unfold Oper.wp; go_simp; exact hK _ _ ⟨_, rfl, rfl, by simpa [updF] using hI, fun _ _ h => h⟩
 ·clear hsl; intro L a x hall hI hsl hs; obtain ⟨_, e50, rfl⟩ := hs 3 _ 50 rfl rfl (hall 3 (by decide)); obtain ⟨_, e59, rfl⟩ := hs 12 _ 59 rfl rfl (hall 12 (by decide)); obtain ⟨_, e61, rfl⟩ := hs 14 _ 61 rfl rfl (hall 14 (by decide)); have I1 := hI.1; rw [hall 13 (by decide)] at I1; have hes := (show OI w x bt bd mb t s (entQ qs (p.toll, p.owner)) from I1).store ((atK qs (p.toll, p.owner)).getD 0 + p.heads); clear hs; refine wg fun K hK => ?_
  unfold Oper.wp; go_simp; refine hK _ _ (h _ _ hsl ?_); exact I1.put _
theorem topen_any {t : TariffV} {s : TarS} {l : List PassV} {la : Option Addr} {lc : Nat} {w : World} (ht : TarIn w t s) (hl : PassAt w la l) (hlm : l.length ≤ maxLen) : Calls Try.prog 77 #[.agg (tarC t s), .slice la l.length lc] w (OpenPost w t s l) := by
 refine call2 Try.func77 topen_body Try.ntmps77 ?_; intro a hsl; refine wsr ?_; refine hsl.s ?_; clear hsl; intro a hsl; refine alloc_rwB (G := fun W => wpOps _ _ _ _ _ W) ?_; intro x hz X hb; have hI := TI.made (Below.refl _ _) ht X hb; obtain ⟨bt, hbt⟩ : ∃ b, b = w.heap.size := ⟨_, rfl⟩; rw [← hbt] at hsl hI; clear hz X hb hbt; (iterate 2 refine hsl.s ?_; clear hsl; intro a hsl); refine od ?_; refine wp_seq ?_; refine wsr ?_; refine og fun K hK => ?_
 have e2 := hsl.g 2; have c0 := hI.c0; have c1 := hI.c1; have c2 := hI.c2; have c3 := hI.c3; have c4 := hI.c4; have c5 := hI.c5; unfold Oper.wp; go_simp; clear e2; refine hsl.K hK ?_; clear hsl hK; intro a hsl; refine og fun K hK => ?_
 have e10 := hsl.g 10; unfold Oper.wp; go_simp; refine (tcheck_any hI.tar).mono ?_; rintro e x ⟨rfl, hb⟩; replace hI := hI.keep hb; clear hb; clear e10; refine hsl.K hK ?_; clear hsl hK; intro a hsl; refine hsl.s ?_; clear hsl; intro a hsl; refine od ?_; refine wsr ?_; refine hsl.s ?_; clear hsl; intro a hsl
 by_cases h1 : checkT t = 0
 ·have hne := bne_falseI h1; refine hsl.s ?_; clear hsl; intro a hsl; refine od ?_; refine wp_cond_false (hsl.ev 13 rfl) ?_; refine wp_skip ?_; refine wp_seq ?_; refine wsr ?_; (iterate 2 refine hsl.s ?_; clear hsl; intro a hsl)
  by_cases h2 : 24 < l.length
  ·have q1 : (24 : Int) < (l.length : Int) := by omega
   have hE := Lib.hid (open_errs.2.1 h1 h2); refine hsl.s ?_; clear hsl; intro a hsl; refine od ?_; refine wp_cond_true (hsl.ev 17 rfl) ?_; refine wsr ?_; (iterate 2 refine hsl.s ?_; clear hsl; intro a hsl); refine od ?_; refine wp_ret ?_
   try simp only [Exit.then, Exit.inBlock]
   have hnz : openE t l ≠ 0 := by rw [hE.out]; decide
   refine bodyPost_ret (v := .tuple #[.pointer none, .int .i64 (openE t l)]) ?_ hsl.defers ⟨hI.below, fun _ => rfl, fun h => absurd h hnz⟩; rw [hE.out]; simp [results, Try.results77, hsl.get 4 _ rfl, hsl.get 5 _ rfl]
  ·have q1 : ¬ (24 : Int) < (l.length : Int) := by omega
   obtain ⟨_, _, _, hl1, hl4, hpf, _, hl6, hte⟩ := check_lens h1; have HE0 := Lib.hid (open_errs.2.2 h1 (Nat.le_of_not_lt h2)); have HTE := Lib.hid hte; clear hte; refine hsl.s ?_; clear hsl; intro a hsl; refine od ?_; refine wp_cond_false (hsl.ev 17 rfl) ?_; refine wp_skip ?_; refine wsr ?_; refine og fun K hK => ?_
   have e2 := hsl.g 2; have c0 := hI.c0; have c1 := hI.c1; have c2 := hI.c2; have c3 := hI.c3; have c4 := hI.c4; have c5 := hI.c5; unfold Oper.wp; go_simp; clear e2; refine hsl.K hK ?_; clear hsl hK; intro a hsl; refine hsl.s ?_; clear hsl; intro a hsl; clear c0 c1 c2 c3 c4 c5; refine alloc_mapG (G := fun W => wpOps _ _ _ _ _ W) ?_; have hzx := hI.below.size; have hzt := hI.kb.lt; obtain ⟨mb, hmb⟩ : ∃ b, b = x.heap.size := ⟨_, rfl⟩; intro x hz M hb; replace hI := hI.keep hb; rw [← hmb] at hsl M hz; have hmt : mb ≠ bt := by omega
   have hwm : w.heap.size ≤ mb := by omega
   have HZ := Lib.hid hz; clear hb hmb hz hzx hzt; (iterate 2 refine hsl.s ?_; clear hsl; intro a hsl); refine alloc_rwB (G := fun W => wpOps _ _ _ _ _ W) ?_; obtain ⟨bd, hbd⟩ : ∃ b, b = x.heap.size := ⟨_, rfl⟩; have hz := HZ.out; intro x hz2 D hb; rw [← hbd] at hsl D; have hO : OI w x bt bd mb t s [] := ⟨hI.below.trans (hb.mono hI.below.size), hI.kb.below hb, D, M.below hb (by omega), hI.lb, by omega, hwm, hmt, by omega⟩; clear hI D M hz hz2 HZ hb hbd hmt hwm; have hI := hO; clear hO; refine hsl.s ?_; clear hsl; intro a hsl; refine od ?_; refine wp_seq ?_; refine wsr ?_; (iterate 3 refine hsl.s ?_; clear hsl; intro a hsl); refine od ?_; refine wp_block ?_; refine wp_loop_ghost (fun n p x => ∃ (k : Nat) (qs : List ((Int × Int) × Int)), k + n = l.length ∧ passFine t (l.take k) ∧ passErr t (l.drop k) = openE t l ∧ (∀ key, (atK qs key).getD 0 = passSum (l.take k) key) ∧ Sl p 64 [(2, .pointer (some ⟨bt, 0, none⟩)), (7, .pointer (some ⟨bd, 0, none⟩)), (22, .slice la l.length lc), (23, .int .i64 (l.length : Int)), (24, .int .i64 (k : Int))] ∧ OI w x bt bd mb t s qs) l.length ⟨0, [], by omega, fun p hp => by simp at hp, HE0.out.symm, fun key => rfl, hsl.sb, hI⟩ ?_; clear hsl hI; rintro n a x ⟨k, qs, hkn, hfine, hE, hS, hsl, hI⟩; have HE := Lib.hid hE; clear hE; have HS := Lib.hid hS; clear hS; have HF := Lib.hid hfine; clear hfine; refine wsr ?_
   by_cases hlt : k < l.length
   ·have q1 : (k : Int) < (l.length : Int) := by omega
    obtain ⟨pb, po, hpa, p0, p1, p2⟩ := (hl.below hI.below).at hlt; rw [hpa] at hsl; simp only [passC] at p0 p1 p2; refine hsl.s ?_; clear hsl; intro a hsl; refine od ?_; refine wp_seq ?_; refine wp_cond_true (hsl.ev 25 rfl) ?_; refine wp_skip ?_; refine wp_seq ?_; refine wp_block ?_; refine wsr ?_; (iterate 2 refine hsl.s ?_; clear hsl; intro a hsl); refine og fun K hK => ?_
    obtain ⟨g, hg⟩ : ∃ b, b = x.heap.size := ⟨_, rfl⟩; unfold Oper.wp; go_simp; refine hsl.K hK ?_; clear hsl hK; intro a hsl; refine og fun K hK => ?_
    have e9 := hsl.g 9; have e27 := hsl.g 27; unfold Oper.wp; go_simp; clear e9 e27; refine hK _ _ ?_; clear hK; refine alloc_rwB (G := fun W => wpOps _ _ _ _ _ W) ?_; have hmg : mb ≠ g := by have := hI.mp.lt; omega
    intro x hz G hb; replace hI := hI.keep hb; rw [← hg] at hsl G; clear hz hb p0 p1 p2 hg; refine od ?_; have HR := Lib.hid (fun e (h : passE1 t l[k] = e) (h0 : e ≠ 0) => HE.out.symm.trans (passErr_stop hlt h h0)); refine wp_seq ?_; refine wsr ?_; refine hsl.s ?_; clear hsl; intro a hsl; refine og fun K hK => ?_
    have e28 := hsl.g 28; have g0 := G.cell (o := 0) rfl; unfold Oper.wp; go_simp; clear e28; refine hsl.K hK ?_; clear hsl hK; intro a hsl; refine hsl.s ?_; clear hsl; intro a hsl; refine og fun K hK => ?_
    have e30 := hsl.g 30; have c5 := hI.kb.cell (o := 5) rfl; unfold Oper.wp; go_simp; clear e30; refine hsl.K hK ?_; clear hsl hK; intro a hsl; refine hsl.s ?_; clear hsl; intro a hsl; refine og fun K hK => ?_
    have e32 := hsl.g 32; have hw : IntKind.i64.wrap ((t.tolls.length : Int) - 1) = (t.tolls.length : Int) - 1 := IntWalk.i64_in _ (by omega); unfold Oper.wp; go_simp; clear e32; refine hsl.K hK ?_; clear hsl hK; intro a hsl; refine og fun K hK => ?_
    have e29 := hsl.g 29; have e33 := hsl.g 33; unfold Oper.wp; go_simp; refine (tbetween_any _ _ _ _).mono ?_; rintro e x ⟨rfl, rfl⟩; clear e29 e33; refine hsl.K hK ?_; clear hsl hK; intro a hsl; rcases Bool.eq_false_or_eq_true (btw l[k].toll 0 ((t.tolls.length : Int) - 1)) with h3 | h3
    ·rw [h3] at hsl; (iterate 2 refine hsl.s ?_; clear hsl; intro a hsl); (iterate 2 refine hsl.t ?_; clear hsl; intro a hsl); refine ow (hsl.g 36) fun K hK => ?_
     have e38 := hsl.g 38; have g1 := G.cell (o := 1) rfl; unfold Oper.wp; go_simp; clear e38; refine hsl.K hK ?_; clear hsl hK; intro a hsl; refine ow (hsl.g 36) fun K hK => ?_
     have e37 := hsl.g 37; have e39 := hsl.g 39; unfold Oper.wp; go_simp; refine (owner_any (hI.kd.cell (o := 4) rfl) (by unfold maxLen; omega)).mono ?_; rintro e x ⟨rfl, rfl⟩; clear e37 e39; refine hsl.K hK ?_; clear hsl hK; intro a hsl; rcases Bool.eq_false_or_eq_true (btw l[k].owner 0 ((t.payers.length : Int) - 1)) with h4 | h4
     ·rw [h4] at hsl; refine hsl.t ?_; clear hsl; intro a hsl; refine hsl.s ?_; clear hsl; intro a hsl; refine od ?_; refine wp_cond_false (hsl.ev 42 rfl) ?_; refine wp_skip ?_; refine wp_seq ?_; refine wsr ?_; refine hsl.s ?_; clear hsl; intro a hsl; refine og fun K hK => ?_
      have e43 := hsl.g 43; have g2 := G.cell (o := 2) rfl; unfold Oper.wp; go_simp; clear e43; refine hsl.K hK ?_; clear hsl hK; intro a hsl; refine og fun K hK => ?_
      have e44 := hsl.g 44; unfold Oper.wp; go_simp; refine (tbetween_any _ _ _ _).mono ?_; rintro e x ⟨rfl, rfl⟩; clear e44; refine hsl.K hK ?_; clear hsl hK; intro a hsl; rcases Bool.eq_false_or_eq_true (btw l[k].heads 1 40) with h5 | h5
      ·rw [h5] at hsl; refine hsl.s ?_; clear hsl; intro a hsl; refine od ?_; refine wp_cond_false (hsl.ev 46 rfl) ?_; refine wp_skip ?_; have hs5 := HS.out (l[k].toll, l[k].owner); have hb5 := passSum_bounds HF.out (l[k].toll, l[k].owner); have hlk5 : (l.take k).length ≤ 24 := by rw [List.length_take]; omega
       refine open14 hI G hmg (by rw [hs5]; exact hb5.1) (by rw [hs5]; omega) h5 _ _ _ _ a hsl.sb _ ?_; clear hsl hI; intro a x hsl hI; rw [hs5] at hI; refine wr ?_; refine og fun K hK => ?_
       have e24 := hsl.g 24; have hw := add_one k (by omega); unfold Oper.wp; go_simp; clear e24; refine hsl.K hK ?_; clear hsl hK; intro a hsl; refine hsl.s ?_; clear hsl; intro a hsl; refine od ?_; show Exists _; exact ⟨n - 1, by omega, k + 1, _, by omega, passFine_next hlt HF.out (pe0 h3 h4 h5), (passErr_next hlt (pe0 h3 h4 h5)).symm.trans HE.out, upd_sum hlt HS.out, by rw [hpa]; exact hsl.sb, hI⟩
      ·rw [h5] at hsl; have hE := Lib.hid (HR.out _ (pe1 h3 h4 h5) (by decide)); refine hsl.s ?_; clear hsl; intro a hsl; refine od ?_; refine wp_cond_true (hsl.ev 46 rfl) ?_; refine wsr ?_; (iterate 2 refine hsl.s ?_; clear hsl; intro a hsl); refine od ?_; refine wp_ret ?_
       try simp only [Exit.then, Exit.inBlock]
       have hnz : openE t l ≠ 0 := by rw [hE.out]; decide
       refine bodyPost_ret (v := .tuple #[.pointer none, .int .i64 (openE t l)]) ?_ hsl.defers ⟨hI.below, fun _ => rfl, fun h => absurd h hnz⟩; rw [hE.out]; simp [results, Try.results77, hsl.get 4 _ rfl, hsl.get 5 _ rfl]
     ·rw [h4] at hsl; have hE := Lib.hid (HR.out _ (pe3b h4) (by decide)); refine hsl.t ?_; clear hsl; intro a hsl; refine hsl.s ?_; clear hsl; intro a hsl; refine od ?_; refine wp_cond_true (hsl.ev 42 rfl) ?_; refine wsr ?_; (iterate 2 refine hsl.s ?_; clear hsl; intro a hsl); refine od ?_; refine wp_ret ?_
      try simp only [Exit.then, Exit.inBlock]
      have hnz : openE t l ≠ 0 := by rw [hE.out]; decide
      refine bodyPost_ret (v := .tuple #[.pointer none, .int .i64 (openE t l)]) ?_ hsl.defers ⟨hI.below, fun _ => rfl, fun h => absurd h hnz⟩; rw [hE.out]; simp [results, Try.results77, hsl.get 4 _ rfl, hsl.get 5 _ rfl]
    ·rw [h3] at hsl; have hE := Lib.hid (HR.out _ (pe3a h3) (by decide)); (iterate 2 refine hsl.s ?_; clear hsl; intro a hsl); refine hsl.z ?_; clear hsl; intro a hsl; refine hsl.z ?_; clear hsl; intro a hsl; refine hsl.z ?_; clear hsl; intro a hsl; refine hsl.z ?_; clear hsl; intro a hsl; refine hsl.z ?_; clear hsl; intro a hsl; refine hsl.s ?_; clear hsl; intro a hsl; refine od ?_; refine wp_cond_true (hsl.ev 42 rfl) ?_; refine wsr ?_; (iterate 2 refine hsl.s ?_; clear hsl; intro a hsl); refine od ?_; refine wp_ret ?_
     try simp only [Exit.then, Exit.inBlock]
     have hnz : openE t l ≠ 0 := by rw [hE.out]; decide
     refine bodyPost_ret (v := .tuple #[.pointer none, .int .i64 (openE t l)]) ?_ hsl.defers ⟨hI.below, fun _ => rfl, fun h => absurd h hnz⟩; rw [hE.out]; simp [results, Try.results77, hsl.get 4 _ rfl, hsl.get 5 _ rfl]
   ·obtain rfl : k = l.length := by omega
    refine hsl.s ?_; clear hsl; intro a hsl; refine od ?_; refine wp_seq ?_; refine wp_cond_false (hsl.ev 25 rfl) ?_; refine wp_exit ?_; refine wsr ?_; (iterate 3 refine hsl.s ?_; clear hsl; intro a hsl); refine od ?_; refine wp_ret ?_
    try simp only [Exit.then, Exit.inBlock]
    have hE0 : openE t l = 0 := by rw [← HE.out, List.drop_of_length_le (Nat.le_refl _)]; rfl
    rw [List.take_length] at HS; refine bodyPost_ret (v := .tuple #[.pointer (some ⟨bd, 0, none⟩), .int .i64 0]) ?_ hsl.defers ⟨hI.below, fun h => absurd hE0 h, fun _ => ⟨bd, mb, rfl, hI.n1.2.1, hI.n1.2.2.1, hI.kd, qs, hI.mp, HS.out⟩⟩; simp [results, Try.results77, hsl.get 4 _ rfl, hsl.get 5 _ rfl]
 ·have hne := bne_trueI h1; have hE := Lib.hid (open_errs (l := l).1 h1); have HN := Lib.hid h1; clear h1; refine hsl.s ?_; clear hsl; intro a hsl; refine od ?_; refine wp_cond_true (hsl.ev 13 rfl) ?_; refine wsr ?_; (iterate 3 refine hsl.s ?_; clear hsl; intro a hsl); refine od ?_; refine wp_ret ?_
  try simp only [Exit.then, Exit.inBlock]
  have hnz : openE t l ≠ 0 := by rw [hE.out]; exact HN.out
  refine bodyPost_ret (v := .tuple #[.pointer none, .int .i64 (openE t l)]) ?_ hsl.defers ⟨hI.below, fun _ => rfl, fun h => absurd h hnz⟩; rw [hE.out]; simp [results, Try.results77, hsl.get 4 _ rfl, hsl.get 5 _ rfl]
end
end Go.Proofs.Ytgdobbcjkiapkaa
