import Derived.Test.YtgdobbcjkiapkaaOn17
import Derived.Test.YtgdobbcjkiapkaaOn15
namespace Go.Proofs.Ytgdobbcjkiapkaa
set_option maxRecDepth 100000
set_option maxHeartbeats 4000000
set_option linter.unusedSimpArgs false
set_option linter.unusedVariables false
section
open Go Go.Conc
open Go.RowKit
open Go.ChangeMaps (setBlock)
def pvG (q : List ((Int × Int) × Int)) : List (Value × Value) := q.map fun p => (gk p.1, .int .i64 p.2)
theorem pvG_length (q : List ((Int × Int) × Int)) : (pvG q).length = q.length := by simp [pvG]
theorem ents_mk (q : List ((Int × Int) × Int)) : EntsOf (mkEs (pvG q)).toList q := by
 unfold EntsOf; apply List.ext_getElem?; intro i; rw [List.getElem?_map, Array.getElem?_toList, mkEs_getElem?]; simp only [pvG, List.getElem?_map]
 cases q[i]? <;> rfl
def findIx : List ((Int × Int) × Int) → Int × Int → Nat → Option (Nat × Int)
 | [], _, _ => none
 | p :: l, k, i => if p.1 = k then some (i, p.2) else findIx l k (i + 1)
def updK : List ((Int × Int) × Int) → Int × Int → Int → List ((Int × Int) × Int)
 | [], k, v => [(k, v)]
 | p :: l, k, v => if p.1 = k then (k, v) :: l else p :: updK l k v
theorem findIx_none : ∀ {l : List ((Int × Int) × Int)} {k : Int × Int} {i : Nat}, findIx l k i = none → atK l k = none ∧ ∀ v, updK l k v = l ++ [(k, v)]
 | [], k, i, _ => ⟨rfl, fun v => rfl⟩
 | p :: l, k, i, h => by
  rw [findIx] at h
  by_cases e : p.1 = k
  ·rw [if_pos e] at h; simp at h
  ·rw [if_neg e] at h; obtain ⟨h1, h2⟩ := findIx_none h; have e2 : (p.1 == k) = false := by simpa using e
   refine ⟨?_, fun v => ?_⟩
   ·unfold atK at h1 ⊢; rw [List.find?_cons, e2]; exact h1
   ·rw [updK, if_neg e, h2]; rfl
theorem findIx_some : ∀ {l : List ((Int × Int) × Int)} {k : Int × Int} {i j : Nat} {u : Int}, findIx l k i = some (j, u) → i ≤ j ∧ j - i < l.length ∧ l[j - i]? = some (k, u) ∧ atK l k = some u ∧ ∀ v, updK l k v = l.set (j - i) (k, v)
 | [], k, i, j, u, h => by simp [findIx] at h
 | p :: l, k, i, j, u, h => by
  rw [findIx] at h
  by_cases e : p.1 = k
  ·rw [if_pos e] at h; simp only [Option.some.injEq, Prod.mk.injEq] at h; obtain ⟨rfl, rfl⟩ := h; refine ⟨Nat.le_refl _, by simp, by simp [← e], ?_, fun v => ?_⟩
   ·unfold atK; rw [List.find?_cons, show (p.1 == k) = true by simpa using e]; rfl
   ·rw [updK, if_pos e]; simp
  ·rw [if_neg e] at h; obtain ⟨h1, h2, h3, h4, h5⟩ := findIx_some h; have hj : j - i = (j - (i + 1)) + 1 := by omega
   refine ⟨by omega, by simp only [List.length_cons]; omega, by rw [hj]; simpa using h3, ?_, fun v => ?_⟩
   ·unfold atK at h4 ⊢; rw [List.find?_cons, show (p.1 == k) = false by simpa using e]; exact h4
   ·rw [updK, if_neg e, h5, hj]; rfl
theorem atK_upd (l : List ((Int × Int) × Int)) (k k' : Int × Int) (v : Int) : atK (updK l k v) k' = if k' = k then some v else atK l k' := by
 induction l with
 | nil =>
  by_cases e : k' = k
  ·subst e; simp [updK, atK]
  ·have : (k == k') = false := by simpa using fun h => e h.symm
   simp [updK, atK, this, e]
 | cons p l ih =>
  rw [updK]
  by_cases c : p.1 = k
  ·rw [if_pos c]
   by_cases e : k' = k
   ·subst e; simp [atK]
   ·have h1 : (k == k') = false := by simpa using fun h => e h.symm
    have h2 : (p.1 == k') = false := by rw [c]; exact h1
    rw [if_neg e]; simp [atK, List.find?_cons, h1, h2]
  ·rw [if_neg c]
   by_cases e : p.1 = k'
   ·have h1 : (p.1 == k') = true := by simpa using e
    have h2 : k' ≠ k := fun h => c (e.trans h)
    rw [if_neg h2]; simp [atK, List.find?_cons, h1]
   ·have h1 : (p.1 == k') = false := by simpa using e
    unfold atK at ih ⊢; rw [List.find?_cons, List.find?_cons, h1]; exact ih
theorem findAx_gate (w : World) (k : Int × Int) : ∀ (ents : List MapEntry) (l : List ((Int × Int) × Int)) (i : Nat), EntsOf ents l →
  (Instr.findAsking 140 (gk k) ents i).run Try.prog w = .ok ((findIx l k i).map fun p => (p.1, .int .i64 p.2)) w
 | [], l, i, h => by
  have : l = [] := by cases l with | nil => rfl | cons x l => simp [EntsOf] at h
  subst this
  rfl
 | e :: ents, l, i, h => by
  cases l with
  | nil => simp [EntsOf] at h
  | cons p l =>
   obtain ⟨⟨p1, p2⟩, pv⟩ := p; obtain ⟨k1, k2⟩ := k; simp only [EntsOf, List.map_cons, List.cons.injEq, Prod.mk.injEq] at h; obtain ⟨⟨hk, hv⟩, hr⟩ := h; have ih := findAx_gate w (k1, k2) ents l (i + 1) hr; have heq := (eq_gate w #[] k1 k2 p1 p2).1; rw [Instr.findAsking, hk]; unfold gk at *
   by_cases hkk : k1 = p1 ∧ k2 = p2
   ·obtain ⟨rfl, rfl⟩ := hkk; simp [go_sem, heq, findIx, hv]
   ·have hne : (k1 == p1 && k2 == p2) = false := by
     simp only [Bool.and_eq_false_iff, beq_eq_false_iff_ne]
     by_cases h1 : k1 = p1
     ·exact .inr fun h2 => hkk ⟨h1, h2⟩
     ·exact .inl h1
    have hne2 : ¬ ((p1, p2) = (k1, k2)) := by
     simp only [Prod.mk.injEq]; exact fun h => hkk ⟨h.1.symm, h.2.symm⟩
    rw [hne] at heq; rw [findIx, if_neg hne2]; simp [go_sem, heq, ih]
theorem findKx_gate (w : World) (k : Int × Int) (ents : List MapEntry) (l : List ((Int × Int) × Int)) (h : EntsOf ents l) :
  (Instr.findKey 140 (gk k) ents).run Try.prog w = .ok ((findIx l k 0).map fun p => (p.1, .int .i64 p.2)) w := by
 have hu := Try.underlying140; have h1 := findAx_gate w k ents l 0 h
 cases ents with
 | nil =>
  have : l = [] := by cases l with | nil => rfl | cons x l => simp [EntsOf] at h
  subst this; simp [Instr.findKey, run_underlying hu, go_sem, Instr.findNow, findIx]
 | cons e ents => simp [Instr.findKey, run_underlying hu, go_sem, Instr.findNow, Instr.sameNow, h1]
theorem stays_gate (w : World) (k : Int × Int) : (Instr.keyThatStays (gk k) (gk k)).run Try.prog w = .ok (gk k) w := by
 have : Instr.sameBits 10000 (gk k) (gk k) = true := by simp [gk, Instr.sameBits]
 simp [Instr.keyThatStays, this, go_sem]
theorem findIdx_mk (ps : List (Value × Value)) (i : Nat) (h : i < ps.length) : (mkEs ps).findIdx? (fun e => (e.born : Int) == (i : Int)) = some i := by
 rw [Array.findIdx?_eq_some_iff_getElem]; refine ⟨by rw [mkEs_size]; exact h, ?_, fun j hj => ?_⟩
 ·have := mkEs_getElem? ps i; rw [List.getElem?_eq_getElem h, Array.getElem?_eq_getElem (by rw [mkEs_size]; exact h)] at this; simp only [Option.map_some, Option.some.injEq] at this; rw [this]; simp
 ·have := mkEs_getElem? ps j; rw [List.getElem?_eq_getElem (by omega), Array.getElem?_eq_getElem (by rw [mkEs_size]; omega)] at this; simp only [Option.map_some, Option.some.injEq] at this; rw [this]; simp; omega
def entQ (q : List ((Int × Int) × Int)) (k : Int × Int) : List ((Int × Int) × Int) := match findIx q k 0 with | none => q ++ [(k, 0)] | some _ => q
def entI (q : List ((Int × Int) × Int)) (k : Int × Int) : Nat := match findIx q k 0 with | none => q.length | some r => r.1
theorem ent_law (q : List ((Int × Int) × Int)) (k : Int × Int) : entI q k < (entQ q k).length ∧ ((entQ q k)[entI q k]?).map (·.1) = some k ∧ (∀ v, (entQ q k).set (entI q k) (k, v) = updK q k v) ∧ (atK (entQ q k) k).getD 0 = (atK q k).getD 0 := by
 unfold entQ entI
 cases hx : findIx q k 0 with
 | none =>
  obtain ⟨h1, h2⟩ := findIx_none hx; refine ⟨by simp, by simp, fun v => by rw [h2]; simp, ?_⟩
  dsimp only
  rw [← h2 0, atK_upd, if_pos rfl, h1]; rfl
 | some r =>
  obtain ⟨j, u⟩ := r; obtain ⟨_, h2, h3, h4, h5⟩ := findIx_some hx; simp only [Nat.sub_zero] at h2 h3 h5; exact ⟨h2, by dsimp only; rw [h3]; rfl, fun v => (h5 v).symm, rfl⟩
theorem entry_gate (w : World) (mb : Nat) (q : List ((Int × Int) × Int)) (k : Int × Int) (hm : MapIs w mb (pvG q)) :
  (Instr.mapEntry 101 (.map (some mb)) (gk k)).run Try.prog w = .ok (.tuple #[.int .i64 ((atK q k).getD 0), .int .i64 (entI q k : Nat)]) (setBlock w mb (.map (mkEs (pvG (entQ q k))) (pvG (entQ q k)).length)) := by
 have hu := Try.underlying101; have hf := findKx_gate w k (mkEs (pvG q)).toList q (ents_mk q); have hc := (check_gate false w #[] k).1; have hz : (zeroValue 3).run Try.prog w = .ok (.int .i64 0) w := by simp [go_sem]
 unfold MapIs at hm; unfold entQ entI
 cases hx : findIx q k 0 with
 | none =>
  obtain ⟨h1, h2⟩ := findIx_none hx; rw [hx] at hf
  dsimp only
  have e : pvG (q ++ [(k, 0)]) = pvG q ++ [(gk k, .int .i64 0)] := by simp [pvG]
  rw [e, ← mkEs_push]; simp [Instr.mapEntry, run_underlying hu, MapKept.run_getObj_map hm, hc, hf, hz, MapKept.run_setObj_map _ hm, Result.andThen, setBlock, h1, goInt, pvG_length]
 | some r =>
  obtain ⟨j, u⟩ := r; obtain ⟨_, h2, h3, h4, h5⟩ := findIx_some hx; rw [hx] at hf; simp only [Nat.sub_zero] at h2 h3 h5
  dsimp only
  have e1 : (mkEs (pvG q))[j]? = some ⟨gk k, .int .i64 u, j⟩ := by rw [mkEs_getElem?]; simp [pvG, h3]
  have e2 : (mkEs (pvG q)).modify j (fun e => { e with key := gk k }) = mkEs (pvG q) := by
   apply Array.ext_getElem?; intro i; rw [Array.getElem?_modify]
   by_cases c : j = i
   ·subst c; rw [if_pos rfl, e1]; rfl
   ·rw [if_neg c]
  simp [Instr.mapEntry, run_underlying hu, MapKept.run_getObj_map hm, hc, hf, e1, stays_gate, e2, MapKept.run_setObj_map _ hm, Result.andThen, setBlock, h4, goInt]
theorem estore_gate (w : World) (mb : Nat) (q1 : List ((Int × Int) × Int)) (st : Nat) (v : Int) (k : Int × Int) (hst : st < q1.length) (hk : (q1[st]?).map (·.1) = some k) (hm : MapIs w mb (pvG q1)) :
  (Instr.entryStore 101 (.map (some mb)) (.int .i64 (st : Nat)) (.int .i64 v)).run Try.prog w = .ok () (setBlock w mb (.map (mkEs (pvG (q1.set st (k, v)))) (pvG (q1.set st (k, v))).length)) := by
 unfold MapIs at hm; have h1 := findIdx_mk (pvG q1) st (by rw [pvG_length]; exact hst)
 have h2 : (mkEs (pvG q1)).modify st (fun e => { e with val := .int .i64 v }) = mkEs (pvG (q1.set st (k, v))) := by
  apply Array.ext_getElem?; intro i; rw [Array.getElem?_modify, mkEs_getElem?, mkEs_getElem?]; simp only [pvG, List.getElem?_map, List.getElem?_set]
  by_cases c : st = i
  ·subst c; rw [if_pos rfl, if_pos rfl, if_pos hst]
   cases hq : q1[st]? with
   | none => rw [hq] at hk; simp at hk
   | some p => rw [hq] at hk; simp at hk; simp [hk]
  ·rw [if_neg c, if_neg c]
 have h3 : (pvG (q1.set st (k, v))).length = (pvG q1).length := by simp [pvG_length]
 simp [Instr.entryStore, MapKept.run_getObj_map hm, asInt, asIntOf, go_sem, h1, h2, h3, MapKept.run_setObj_map _ hm, Result.andThen, setBlock]
end
end Go.Proofs.Ytgdobbcjkiapkaa
