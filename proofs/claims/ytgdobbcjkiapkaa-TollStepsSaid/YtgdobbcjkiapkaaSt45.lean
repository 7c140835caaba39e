import Derived.Test.YtgdobbcjkiapkaaSt44
import Derived.Test.YtgdobbcjkiapkaaSt36
import Derived.Test.YtgdobbcjkiapkaaSt27
import Derived.Test.YtgdobbcjkiapkaaSt16
import Derived.Deep.AppendLies
import Derived.Deep.RegionLaw
import Derived.Test.YtgdobbcjkiapkaaSt40
import Derived.Test.YtgdobbcjkiapkaaSt35
import Derived.Test.YtgdobbcjkiapkaaSt24
namespace Go.Proofs.Ytgdobbcjkiapkaa
set_option maxRecDepth 100000
set_option maxHeartbeats 4000000
set_option linter.unusedSimpArgs false
set_option linter.unusedVariables false
section
open Go.RowKit
theorem KU {t : Ad} : ∀ {l : List Ar}, JR t.Ag.length t.Ac.length l → Eh t l = 0
 | [], _ => rfl
 | p :: l, h => by
  have h1 := h p (by simp)
  have e : En t p = 0 := by
   unfold En; have b1 : btw p.toll 0 ((t.Ag.length : Int) - 1) = true := Aj.2 (by omega); have b2 : btw p.owner 0 ((t.Ac.length : Int) - 1) = true := Aj.2 (by omega); have b3 : btw p.heads 1 40 = true := Aj.2 (by omega); simp [b1, b2, b3]
  have h2 : JR t.Ag.length t.Ac.length l := fun x hx => h x (List.mem_cons_of_mem _ hx)
  have h3 := KU h2; unfold Eh; rw [if_pos e]; exact h3
theorem UB {ns nt : Nat} {t : Ad} {l : List Ar} (hT : Pv ns nt t) (hl : JR t.Ag.length t.Ac.length l) (hn : l.length ≤ 24) : BM t l = 0 := by
 unfold BM; rw [if_neg (by rw [hT.ok]; simp), if_neg (by omega)]; exact KU hl
end
section
open Go Go.Conc Go.RowKit
section
variable {P : Program} {M : Machine} {ops : Array Oper} {Q : Exit → Act → World → Prop} {i : Nat} {rest : List Nat} {o : Oper} {a : Act} {n d : Nat} {m : List (Nat × Value)} {v : Value} {w w' : World}
theorem Sl.rvX (h : Sl a n m) (ho : ops[i]? = some o) (hg : o.guard = none) (hd : o.dst = some d) (hn : d < n) (hr : (execOp a.eval o).run P w = .ok (.value v) w') (hG : ∀ a', Sl a' n ((d, v) :: m) → I9 P M ops Q rest a' w') : I9 P M ops Q (i :: rest) a w := by
 refine Bj ho hg (fun K hK => ?_); unfold Oper.wp; rw [hr, Oper.upon_value, hd]; exact h.kX hK hn hG
end
end
section
open Go.RowKit
structure RS (w0 wx : World) (hb B p : Nat) (a : Option Addr) (n c : Nat) (D S : Int) (v : Value) (l : List Strip) : Prop where
 c0 : wx.cell? ⟨p, 0, none⟩ = some (.int .i64 D)
 c1 : wx.cell? ⟨p, 1, none⟩ = some (.int .i64 S)
 c2 : wx.cell? ⟨p, 2, none⟩ = some v
 free : wx.frozen? ⟨p, 2, none⟩ = false
 own : Xy wx w0.heap.size v l
 nb : v.ownBlock ≠ some p
 hand : AP wx hb B a n c
 ext : Ext hb w0 wx
 new : w0.heap.size ≤ p
 old : hb < w0.heap.size
end
section
open Go.RowKit
set_option maxHeartbeats 2000000 in
theorem SC (w : World) (a : Option Addr) (n c : Nat) (l : List Int) (hl : AU w a l) (hn : l.length = n) (hm : n ≤ maxLen) (ha : l = [] ∨ ∀ ad, a = some ad → ad.block < w.heap.size) :
  Calls Try.prog 19 #[.slice a n c] w fun e w' => e = .returned (.pointer (some ⟨w.heap.size, 0, none⟩)) ∧ AP w' w.heap.size 0 a n c ∧ Below w.heap.size w w' ∧ w'.heap.size = w.heap.size + 1 := by
 have HL := Lib.hid hl; clear hl; have HA := Lib.hid ha; clear ha
 go_enter Try.func19, Try.ntmps19
 go_wp2_with fail
 go_ret
 refine ⟨rfl, ⟨by simp, ⟨0, Nat.le_refl _, by simp⟩, ⟨88172645463325252, by omega, by omega, by simp⟩, by simp, by simp, ⟨l, hn, HL.out.below (Below.alloc (Below.refl _ _) (Nat.le_refl _) _), HA.out⟩, hm⟩, Below.alloc (Below.refl _ _) (Nat.le_refl _) _, by simp⟩
end
section
open Go Go.Conc Go.RowKit
theorem X6 {w : World} {a : Option Addr} {n c : Nat} {l : List Int} (hl : AU w a l) (hn : l.length = n) (hm : n ≤ maxLen) (ha : l = [] ∨ ∀ ad, a = some ad → ad.block < w.heap.size) : Calls Try.prog 19 #[.slice a n c] w fun e w' => ∃ hb, e = .returned (.pointer (some ⟨hb, 0, none⟩)) ∧ w.heap.size ≤ hb ∧ AP w' hb 0 a n c ∧ Below w.heap.size w w' :=
 (SC w a n c l hl hn hm ha).mono fun _ _ ⟨h1, h2, h3, _⟩ => ⟨_, h1, Nat.le_refl _, h2, h3⟩
def Y1 (b : Nat) (t : Ad) (s : Ee) : Prop := (Value.slice s.sa t.roads.strips.length s.sc).ownBlock ≠ some b ∧ (Value.slice s.pa t.Ac.length s.pc).ownBlock ≠ some b ∧ (Value.slice s.ta t.Ag.length s.tc).ownBlock ≠ some b
theorem D9.far {x : World} {B b : Nat} {t : Ad} {s : Ee} (h : D9 x B t s) (hb : x.heap.size ≤ b) : Y1 b t s := ⟨h.os.Hw hb, h.op.Hw hb, h.ot.Hw hb⟩
theorem D9.ZV {x x' : World} {B b : Nat} {t : Ad} {s : Ee} (h : D9 x B t s) (hG : x.grownBy x' (some b)) (hF : Y1 b t s) : D9 x' B t s := ⟨h.os.grown hG hF.1, h.op.grown hG hF.2.1, h.ot.grown hG hF.2.2⟩
theorem VA {w : World} {hb B : Nat} {ha : Option Addr} {hn hc : Nat} (ns nt : Nat) (hH : AP w hb B ha hn hc) (hB : B ≤ 900000) (h8 : ns ≤ 8) (h6 : nt ≤ 6) : Calls Try.prog 20 #[.pointer (some ⟨hb, 0, none⟩), .int .i64 (ns : Int), .int .i64 (nt : Int)] w (fun e w' => ∃ t s, e = .returned (.agg (EI t s)) ∧ D9 w' (hb + 1) t s ∧ Hid (Pv ns nt t) ∧ AP w' hb (B + 200) ha hn hc ∧ Ext hb w w') :=
 (PS hH hB h8 h6).mono fun _ _ ⟨t, s, h1, h2, h3, h4, h5⟩ => ⟨t, s, h1, h2.lower (Nat.succ_le_of_lt hH.lt), Lib.hid h3, h4, h5⟩
theorem Zc {w : World} {hb B ns nt : Nat} {ha : Option Addr} {hn hc : Nat} {t : Ad} {s : Ee} (most : Nat) (hH : AP w hb B ha hn hc) (hB : B ≤ 900000) (hT : Hid (Pv ns nt t)) (h6 : nt ≤ 6) (hm : most ≤ 24) : Calls Try.prog 29 #[.pointer (some ⟨hb, 0, none⟩), .agg (EI t s), .int .i64 (most : Int)] w (fun e w' => ∃ l la lc, e = .returned (.slice la l.length lc) ∧ CV w' (hb + 1) (.slice la l.length lc) l ∧ l.length ≤ most ∧ Hid (JR t.Ag.length t.Ac.length l) ∧ AP w' hb (B + 1 + 5 * most) ha hn hc ∧ Ext hb w w') := by
 have h := hT.out; refine (Um (most := most) hH hB (by have := h.lt; omega) (by have := h.lp; omega) h.p1 (by omega)).mono ?_; rintro e w' ⟨l, v, rfl, hO, hl, hG, hH', hE⟩; obtain ⟨la, lc, rfl, _, _, _⟩ := hO.at; exact ⟨l, la, lc, rfl, hO.lower (Nat.succ_le_of_lt hH.lt), hl, Lib.hid hG, hH', hE⟩
theorem CV.pass {w : World} {B : Nat} {la : Option Addr} {lc : Nat} {l : List Ar} (h : CV w B (.slice la l.length lc) l) : DJ w la l := by
 obtain ⟨a, cap, hv, _, _, hp⟩ := h.at; simp only [Value.slice.injEq, true_and] at hv; rw [hv.1]; exact hp
end
section
open Go Go.Conc Go.RowKit
theorem Qm {t : Ad} {l : List Ar} (h : BM t l = 0) : l.length ≤ maxLen := by
 have : l.length ≤ 24 := Classical.byContradiction fun c => by
  unfold BM at h
  by_cases h1 : AB t ≠ 0
  ·rw [if_pos h1] at h; exact h1 h
  ·rw [if_neg h1, if_pos (by omega)] at h; exact absurd h (by decide)
 exact Nat.le_trans this (by decide)
theorem MF {t : Ad} {l : List Ar} (h : BM t l = 0) : DY t l := DY.of (G6 h) (Cm h).1 (Cm h).2
theorem WJ {t : Ad} {l : List Ar} (h : DY t l) {o : Nat} (ho : o < t.Ac.length) : 0 ≤ Gw t l o := by
 have := Eg (h.FN ho) t.Ag.length; unfold Gw; omega
theorem IQ {w : World} {g n : Nat} {f : Nat → Int} {t : TypeId} (h : Rw w g (FH (E8 f n)) t) {i : Nat} (hi : i < n) : w.cell? ⟨g, i, none⟩ = some (.int .i64 (f i)) := by
 refine h.cell ?_; rw [Ip (l := E8 f n) (i := i) (by rw [D7]; exact hi)]; simp [E8]
theorem AaD {α : Type} {f : α → List Value} {k : Nat} {w : World} {b : Nat} {c : Array Value} {t : TypeId} {y : α} (K : Rw w b c t) (h : c.toList = f y) : DK f k w (some ⟨b, 0, none⟩) [y] :=
 .inr ⟨b, 0, rfl, fun i hi j u _ hu => by
  have : i = 0 := by simpa using hi
  subst this; have h2 : c[j]? = some u := by rw [← Array.getElem?_toList, h]; exact hu
  simpa using K.cell h2⟩
section
variable {M : Machine} {w : World} {t : Ad} {s : Ee} {l : List Ar} {la : Option Addr} {lc : Nat}
def SE (w0 : World) (L : List Int) (n : Nat) (e : Ending) (w' : World) : Prop :=
 Below w0.heap.size w0 w' ∧ ∃ g, e = .returned (.tuple #[.slice (some ⟨g, 0, none⟩) n n, .int .i64 0]) ∧ w0.heap.size ≤ g ∧ Rw w' g (FH L) 3
theorem Ef.use {L : List Int} {err : Int} {e : Ending} {w' : World} (h : Ef w L err e w') (h0 : err = 0) {n : Nat} (hn : L.length = n) : SE w L n e w' := by
 obtain ⟨g, h1, h2, h3⟩ := h.2.2 h0; exact ⟨h.1, g, by rw [h1, hn], h2, h3⟩
theorem Aa0 (hT : CU w t s) (hP : DJ w la l) (ho : Hid (BM t l = 0)) : CW Try.prog M 30 #[.agg (EI t s), .slice la l.length lc] w (SE w (E8 (Fj t l) t.Ac.length) t.Ac.length) :=
 (Tq hT hP (Qm ho.out)).mono fun _ _ h => h.use ho.out (D7 _ _)
end
end
section
open Go.RowKit
theorem PU {f g : Nat → Int} : ∀ n : Nat, (∀ i, i < n → f i ≤ g i) → F6 f n ≤ F6 g n
 | 0, _ => Int.le_refl _
 | n + 1, h => Int.add_le_add (PU n fun i hi => h i (by omega)) (h n (by omega))
theorem JY {f g : Nat → Int} : ∀ n : Nat, (∀ i, i < n → f i = g i) → F6 f n = F6 g n
 | 0, _ => rfl
 | n + 1, h => by show F6 f n + f n = F6 g n + g n; rw [JY n fun i hi => h i (by omega), h n (by omega)]
theorem RX {a b : Int} (h : a ≤ b) : EF a ≤ EF b := by unfold EF; omega
theorem X0 {f f' q q' r r' : Int} {b b' : Bool} (hf : f' ≤ f) (hq : q ≤ q') (hr0 : 0 ≤ r) (hr : r ≤ r') (hb : b' = true → b = true) : ofV f b q r ≤ ofV f' b' q' r' := by
 have h0 : 0 ≤ (if f < q then q - f else 0) := by split <;> omega
 have h1 : (if f < q then q - f else 0) ≤ (if f' < q' then q' - f' else 0) := by split <;> split <;> omega
 have h2 := Int.mul_le_mul h1 hr hr0 (by omega); have h3 := Int.mul_nonneg h0 hr0; unfold ofV; generalize (if f < q then q - f else 0) * r = x at *; generalize (if f' < q' then q' - f' else 0) * r' = y at *
 cases b <;> cases b' <;> simp at hb ⊢ <;> omega
theorem OY {t : Ad} {l : List Ar} (h : DY t l) (k : Nat) : 0 ≤ (t.Ag.getD k default).rate := by
 rw [List.getD_eq_getElem?_getD]
 cases hk : t.Ag[k]? with
 | none => simp [show (default : BD).rate = 0 from rfl]
 | some x => exact (h.rt x (List.mem_of_getElem? hk)).1
theorem RN {t : Ad} {l l' : List Ar} (h : DY t l) (o : Nat) (hp : ∀ k : Int, AA l (k, (o : Int)) ≤ AA l' (k, (o : Int))) : Gw t l o ≤ Gw t l' o :=
 PU _ fun i _ => X0 (Int.le_refl _) (hp _) (OY h i) (Int.le_refl _) id
theorem WW {t : Ad} {l l' : List Ar} (h : DY t l) (o : Nat) (hp : ∀ k : Int, AA l (k, (o : Int)) ≤ AA l' (k, (o : Int))) : Fj t l o ≤ Fj t l' o := RX (RN h o hp)
theorem UW {t : Ad} {l l' : List Ar} (o : Nat) (hp : ∀ k : Int, AA l (k, (o : Int)) = AA l' (k, (o : Int))) : Gw t l o = Gw t l' o :=
 JY _ fun i _ => by unfold atL; rw [hp]
theorem Yp {t : Ad} {l l' : List Ar} (o : Nat) (hp : ∀ k : Int, AA l (k, (o : Int)) = AA l' (k, (o : Int))) : Fj t l o = Fj t l' o := by unfold Fj; rw [UW o hp]
theorem TY {t : Ad} {l : List Ar} {k : Nat} (hk : k < l.length) (h : ∀ p ∈ l, 1 ≤ p.heads) (key : Int × Int) : AA (l.take k) key ≤ AA (l.take (k + 1)) key := by
 rw [Ik hk]; have := h l[k] (List.getElem_mem hk)
 split <;> omega
theorem take_same {l : List Ar} {k : Nat} (hk : k < l.length) {o : Int} (h : l[k].owner ≠ o) (i : Int) : AA (l.take (k + 1)) (i, o) = AA (l.take k) (i, o) := by
 rw [Ik hk, if_neg (by intro e; simp only [Prod.mk.injEq] at e; exact h e.2)]; omega
theorem JA {t : Ad} {l : List Ar} (h : BM t l = 0) (k : Nat) : BM t (l.take k) = 0 := by
 have hc := G6 h; have hf := (Cm h).1; unfold BM at h ⊢; rw [if_neg (by rw [hc]; simp)] at h ⊢
 by_cases h24 : 24 < l.length
 ·rw [if_pos h24] at h; exact absurd h (by decide)
 ·rw [if_neg (by rw [List.length_take]; omega)]
  have key : ∀ l : List Ar, CZ t l → Eh t l = 0 := by
   intro l
   induction l with
   | nil => intro _; rfl
   | cons p l ih => intro h; unfold Eh; rw [if_pos (h p (by simp))]; exact ih fun x hx => h x (by simp [hx])
  exact key _ fun p hp => hf p (List.mem_of_mem_take hp)
end
section
open Go Go.Conc Go.RowKit
def SS (p : Dq) : List Value := [.int .i64 p.owner, .int .i64 p.coins]
theorem Ur (p : Dq) : ∀ u ∈ SS p, u.oneCell' = true := fun u hu => by simp [SS] at hu; rcases hu with rfl | rfl <;> rfl
abbrev Jp := Bg SS 81 2
theorem Jp.at {w : World} {B c : Nat} {pa : Option Addr} {ps : List Dq} (h : Jp w B (.slice pa ps.length c) ps) : JQ w pa ps := by
 obtain ⟨a, cap, hv, _, _, hC⟩ := h.cells (fun _ => rfl); simp only [Value.slice.injEq, true_and] at hv; obtain ⟨rfl, _⟩ := hv; rcases hC with h0 | ⟨b, o, ha, hc⟩
 ·exact .inl h0
 ·exact .inr ⟨b, o, ha, fun i hi => ⟨by have := hc i hi 0 (.int .i64 ps[i].owner) (by decide) rfl; simpa using this, by have := hc i hi 1 (.int .i64 ps[i].coins) (by decide) rfl; simpa [Nat.add_assoc] using this⟩⟩
def sumP (o : Nat) : List Dq → Int
 | [] => 0
 | p :: ps => (if p.owner = (o : Int) then p.coins else 0) + sumP o ps
theorem SL (o : Nat) (a b : List Dq) : sumP o (a ++ b) = sumP o a + sumP o b := by
 induction a with
 | nil => simp [sumP]
 | cons x a ih => simp only [List.cons_append, sumP, ih]; omega
theorem PV {ps : List Dq} {k : Nat} (hk : k < ps.length) (o : Nat) : sumP o (ps.take (k + 1)) = sumP o (ps.take k) + (if ps[k].owner = (o : Int) then ps[k].coins else 0) := by
 rw [List.take_succ_eq_append_getElem hk, SL]; simp [sumP]
theorem VV {o : Nat} : ∀ {ps : List Dq} {L : List Int}, (∀ p ∈ ps, 0 ≤ p.owner ∧ p.owner < (L.length : Int)) → o < L.length → (Ro L ps).getD o 0 = L.getD o 0 - sumP o ps
 | [], L, _, _ => by simp [Ro, sumP]
 | p :: ps, L, h, ho => by
  have hp := h p (by simp); have hl : (Vk L p).length = L.length := by simp [Vk]
  have ih := VV (o := o) (ps := ps) (L := Vk L p) (fun x hx => by rw [hl]; exact h x (by simp [hx])) (by rw [hl]; exact ho); show (Ro (Vk L p) ps).getD o 0 = _; rw [ih]
  have h1 : (Vk L p).getD o 0 = L.getD o 0 - (if p.owner = (o : Int) then p.coins else 0) := by
   unfold Vk; simp only [List.getD_eq_getElem?_getD]
   by_cases c : p.owner.toNat = o
   ·subst c; rw [List.getElem?_set_self (by omega), if_pos (by omega)]; rfl
   ·rw [List.getElem?_set_ne c, if_neg (by omega)]; omega
  rw [h1]; simp only [sumP]; omega
theorem TZ {o : Nat} {ps : List Dq} (h : ∀ p ∈ ps, 0 ≤ p.coins ∧ p.coins ≤ 9999) : 0 ≤ sumP o ps ∧ sumP o ps ≤ 9999 * (ps.length : Int) := by
 induction ps with
 | nil => simp [sumP]
 | cons p ps ih =>
  have h1 := h p (by simp); have h2 := ih fun x hx => h x (by simp [hx])
  simp only [sumP, List.length_cons]
  push_cast
  split <;> omega
def NW (t : Ad) (l : List Ar) (ps : List Dq) (o : Nat) : Int := (Qh t l ps).getD o 0
theorem Ut (t : Ad) (l : List Ar) (ps : List Dq) : Qh t l ps = E8 (NW t l ps) t.Ac.length := by
 have hl : (Qh t l ps).length = t.Ac.length := by unfold Qh; rw [OZ, D7]
 apply List.ext_getElem?; intro i
 by_cases hi : i < t.Ac.length
 ·rw [show (E8 (NW t l ps) t.Ac.length)[i]? = some (NW t l ps i) from by simp [E8, hi]]; unfold NW; rw [List.getD_eq_getElem?_getD, List.getElem?_eq_getElem (by omega)]; rfl
 ·rw [List.getElem?_eq_none (by omega), List.getElem?_eq_none (by rw [D7]; omega)]
structure Steps (t : Ad) (l : List Ar) (k : Nat) (ps : List Dq) : Prop where
 len : ps.length = k
 good : ∀ p ∈ ps, (0 ≤ p.owner ∧ p.owner < (t.Ac.length : Int)) ∧ 0 ≤ p.coins ∧ p.coins ≤ 9999
 sum : ∀ o, o < t.Ac.length → sumP o ps = Fj t (l.take k) o
theorem Steps.nil (t : Ad) (l : List Ar) (h : DY t []) : Steps t l 0 [] := ⟨rfl, fun p hp => by simp at hp, fun o ho => by
 show 0 = Fj t [] o
 have h0 : F6 (atL t [] o) t.Ag.length = F6 (fun _ => 0) t.Ag.length := JY _ fun i _ => by
  unfold atL; show ofV _ _ 0 _ = 0; have := (h.pf _ (getD_mem ho)).1; have hz : ∀ (f : Int) (b : Bool) (r : Int), 0 ≤ f → ofV f b 0 r = 0 := fun f b r hf => by unfold ofV; rw [if_neg (show ¬ f < 0 by omega)]; cases b <;> simp
  exact hz _ _ _ this
 have h1 : ∀ n, F6 (fun _ => (0 : Int)) n = 0 := fun n => by induction n with | zero => rfl | succ n ih => show F6 _ n + 0 = 0; omega
 unfold Fj Gw EF; rw [h0, h1]; rfl⟩
theorem V4 {t : Ad} {l : List Ar} {ps : List Dq} (h : ∀ p ∈ ps, 0 ≤ p.owner ∧ p.owner < (t.Ac.length : Int)) {o : Nat} (ho : o < t.Ac.length) : NW t l ps o = Fj t l o - sumP o ps := by
 unfold NW Qh; rw [VV (by rw [D7]; exact h) (by rw [D7]; exact ho)]; simp [E8, List.getD_eq_getElem?_getD, ho]
theorem XT {t : Ad} {l : List Ar} {ps : List Dq} (h : BM t l = 0) (hn : ps.length ≤ 8) (hp : ∀ p ∈ ps, (0 ≤ p.owner ∧ p.owner < (t.Ac.length : Int)) ∧ 0 ≤ p.coins ∧ p.coins ≤ 9999) : J9 t l ps = 0 := by
 unfold J9; rw [if_pos h, if_neg (by omega)]
 induction ps with
 | nil => rfl
 | cons p ps ih =>
  have h1 := hp p (by simp)
  have e : Jz (t.Ac.length : Int) p = 0 := by
   unfold Jz; rw [if_neg (by rw [Aj.2 (by omega)]; simp), if_neg (by rw [Aj.2 (by omega)]; simp)]
  unfold J8; rw [if_neg (by rw [e]; simp)]; exact ih (by simp at hn; omega) fun x hx => hp x (by simp [hx])
theorem Qx {ns nt : Nat} {t : Ad} {l : List Ar} (hT : Pv ns nt t) (hnt : nt ≤ 5) (h : BM t l = 0) (hl : l.length ≤ 8) {o : Nat} (ho : o < t.Ac.length) : 0 ≤ Fj t l o ∧ Fj t l o ≤ 9999 := by
 have hF := MF h; have hpos := WJ hF ho
 have hr : ∀ i, (t.Ag.getD i default).rate ≤ 500 := fun i => by
  rw [List.getD_eq_getElem?_getD]
  cases hk : t.Ag[i]? with
  | none => simp [show (default : BD).rate = 0 from rfl]
  | some x =>
   obtain ⟨_, _, _, _, _, _, _, _, h9⟩ := Bo hT.ok; have := (JW h9 x (List.mem_of_getElem? hk)).2.1; exact (Aj.1 this).2
 have hb : ∀ i, atL t l o i ≤ 320000 := fun i => by
  have hq := ER (Cm h).1 ((i : Int), (o : Int)); have hf := (hF.pf _ (getD_mem ho)).1; have hm : (if (t.Ac.getD o default).free < AA l ((i : Int), (o : Int)) then AA l ((i : Int), (o : Int)) - (t.Ac.getD o default).free else 0) ≤ 320 := by split <;> omega
  have hm0 : 0 ≤ (if (t.Ac.getD o default).free < AA l ((i : Int), (o : Int)) then AA l ((i : Int), (o : Int)) - (t.Ac.getD o default).free else 0) := by split <;> omega
  have h1 := Int.mul_le_mul hm (hr i) (OY hF i) (by omega); have h0 := Int.mul_nonneg hm0 (OY hF i); unfold atL ofV
  split <;> omega
 have hs : ∀ n, F6 (atL t l o) n ≤ 320000 * (n : Int) := fun n => by
  induction n with
  | zero => show (0 : Int) ≤ _; omega
  | succ n ih => have := hb n; show F6 (atL t l o) n + atL t l o n ≤ _; push_cast; omega
 have h5 := hs t.Ag.length; have := hT.lt; unfold Fj EF Gw at *
 omega
theorem Steps.owe {ns nt : Nat} {t : Ad} {l : List Ar} {k : Nat} {ps : List Dq} (h : Steps t l k ps) (hT : Pv ns nt t) (hnt : nt ≤ 5) (ho : BM t l = 0) (hl : l.length ≤ 8) (hk : k < l.length) (hh : ∀ p ∈ l, 1 ≤ p.heads) {o : Nat} (hop : o < t.Ac.length) :
  0 ≤ NW t (l.take (k + 1)) ps o ∧ NW t (l.take (k + 1)) ps o ≤ 9999 ∧ (l[k].owner ≠ (o : Int) → NW t (l.take (k + 1)) ps o = 0) := by
 have e := V4 (l := l.take (k + 1)) (fun p hp => (h.good p hp).1) hop; rw [e, h.sum o hop]; have o1 := JA ho k; have o2 := JA ho (k + 1); have hm := WW (MF o1) (l' := l.take (k + 1)) o fun i => TY (t := t) hk hh _
 have s1 := Qx hT hnt o1 (by rw [List.length_take]; omega) hop; have s2 := Qx hT hnt o2 (by rw [List.length_take]; omega) hop; refine ⟨by omega, by omega, fun hne => ?_⟩; rw [Yp (l := l.take (k + 1)) (l' := l.take k) o fun i => take_same hk hne i]; omega
theorem Steps.next {ns nt : Nat} {t : Ad} {l : List Ar} {k : Nat} {ps : List Dq} (h : Steps t l k ps) (hT : Pv ns nt t) (hnt : nt ≤ 5) (ho : BM t l = 0) (hl : l.length ≤ 8) (hk : k < l.length) (hh : ∀ p ∈ l, 1 ≤ p.heads) {o : Nat} (hop : o < t.Ac.length) (hok : l[k].owner = (o : Int)) :
  Steps t l (k + 1) (ps ++ [⟨l[k].owner, NW t (l.take (k + 1)) ps o⟩]) := by
 have hw := h.owe hT hnt ho hl hk hh hop; refine ⟨by simp [h.len], fun p hp => ?_, fun q hq => ?_⟩
 ·rcases List.mem_append.1 hp with hp | hp
  ·exact h.good p hp
  ·rw [List.mem_singleton.1 hp]; exact ⟨by show 0 ≤ l[k].owner ∧ l[k].owner < _; omega, hw.1, hw.2.1⟩
 ·rw [SL]; have e := V4 (l := l.take (k + 1)) (fun p hp => (h.good p hp).1) hq
  by_cases c : q = o
  ·subst c; simp only [sumP, hok, if_true]; omega
  ·have hne : l[k].owner ≠ (q : Int) := by omega
   have := (h.owe hT hnt ho hl hk hh hq).2.2 hne; simp only [sumP, if_neg hne]; omega
section
variable {M : Machine} {w : World} {t : Ad} {s : Ee} {l : List Ar} {la : Option Addr} {lc : Nat} {ps : List Dq} {pa : Option Addr} {pc : Nat}
theorem ZP (hT : CU w t s) (hP : DJ w la l) (ho : Hid (BM t l = 0)) (hp : JQ w pa ps) (hn : ps.length ≤ 8) (hg : Hid (∀ p ∈ ps, (0 ≤ p.owner ∧ p.owner < (t.Ac.length : Int)) ∧ 0 ≤ p.coins ∧ p.coins ≤ 9999)) {n : Nat} (hln : l.length = n) :
  CW Try.prog M 53 #[.agg (EI t s), .slice la n lc, .slice pa ps.length pc] w (SE w (E8 (NW t l ps) t.Ac.length) t.Ac.length) := by
 subst hln; refine (VZ hT hP (Qm ho.out) hp (Nat.le_trans hn (by decide))).mono fun e w' h => ?_
 rw [Ut] at h; exact h.use (XT ho.out hn hg.out) (D7 _ _)
theorem CV.cap {B : Nat} (h : CV w B (.slice la l.length lc) l) : l.length ≤ lc := by
 obtain ⟨a, cap, hv, hc, _, _⟩ := h.at; simp only [Value.slice.injEq, true_and] at hv
 omega
theorem DJ.take (h : DJ w la l) (k : Nat) : DJ w la (l.take k) := by
 rcases h with h | ⟨b, o, ha, hc⟩
 ·exact .inl (by rw [h]; simp)
 ·refine .inr ⟨b, o, ha, fun i hi => ?_⟩; rw [List.length_take] at hi; have := hc i (by omega); rw [List.getElem_take]; exact this
end
end
end Go.Proofs.Ytgdobbcjkiapkaa
