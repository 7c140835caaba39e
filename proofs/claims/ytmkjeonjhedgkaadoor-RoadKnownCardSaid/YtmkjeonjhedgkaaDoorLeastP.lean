/- The reference's least: plain laws. -/
import Derived.Test.YtmkjeonjhedgkaaDoorMirrorP
namespace Go.Proofs.YtmkjeonjhedgkaaDoor
set_option linter.unusedSimpArgs false
set_option linter.unusedVariables false
open Go.RowKit

/-- One strip is looked at, both ways. -/
def relax (r : Roads) (f : Flock) (d : Int) (i : Nat) (o : Nat → Int) (s : Nat) : Int := match r.strips[i]? with
  | some x => if openB r f (-1) i d then
      (if s = x.A.toNat ∧ o x.B.toNat + x.L ≤ f.pace then min (o x.A.toNat) (o x.B.toNat + x.L)
       else if s = x.B.toNat ∧ o x.A.toNat + x.L ≤ f.pace then min (o x.B.toNat) (o x.A.toNat + x.L) else o s)
    else o s
  | none => o s
def relaxTo (r : Roads) (f : Flock) (d : Int) (o : Nat → Int) : Nat → Nat → Int
  | 0 => o
  | k + 1 => relax r f d k (relaxTo r f d o k)
def leastTo (r : Roads) (f : Flock) (d : Int) (n : Nat) : Nat → Nat → Int
  | 0 => fun s => if n.testBit s then 0 else 1000
  | j + 1 => relaxTo r f d (leastTo r f d n j) r.strips.length
def leastO (r : Roads) (f : Flock) (d : Int) (n : Nat) (S : Nat) : Nat → Int := leastTo r f d n S

theorem relax_le {r : Roads} {f : Flock} {d : Int} {i : Nat} {o : Nat → Int} {s : Nat} : relax r f d i o s ≤ o s := by
  unfold relax
  cases r.strips[i]? with
  | none => exact Int.le_refl _
  | some x =>
    dsimp only
    by_cases h : openB r f (-1) i d = true
    · rw [if_pos h]
      by_cases c1 : s = x.A.toNat ∧ o x.B.toNat + x.L ≤ f.pace
      · rw [if_pos c1, c1.1]; omega
      · rw [if_neg c1]
        by_cases c2 : s = x.B.toNat ∧ o x.A.toNat + x.L ≤ f.pace
        · rw [if_pos c2, c2.1]; omega
        · rw [if_neg c2]; omega
    · rw [if_neg h]; omega
theorem relaxTo_le {r : Roads} {f : Flock} {d : Int} {o : Nat → Int} {s : Nat} : ∀ (k j : Nat), j ≤ k → relaxTo r f d o k s ≤ relaxTo r f d o j s
  | 0, j, h => by obtain rfl : j = 0 := by omega
                  exact Int.le_refl _
  | k + 1, j, h => by
    by_cases e : j = k + 1
    · subst e; exact Int.le_refl _
    · exact Int.le_trans (relax_le (i := k)) (relaxTo_le k j (by omega))
/-- Leagues that can be walked. -/
structure LeastOk (r : Roads) (f : Flock) (d : Int) (n S : Nat) (o : Nat → Int) : Prop where
  lo : ∀ s, s < S → 0 ≤ o s
  hi : ∀ s, s < S → o s ≤ 1000
  sound : ∀ s, s < S → o s < 1000 → Spot r f (-1) n d ((s : Int), o s)
theorem least0_ok {r : Roads} {f : Flock} {d : Int} {n S : Nat} (hS : r.stages = (S : Int)) : LeastOk r f d n S (leastTo r f d n 0) :=
  ⟨fun s _ => by unfold leastTo; (try dsimp only); split <;> omega, fun s _ => by unfold leastTo; (try dsimp only); split <;> omega, fun s hs h => by
    unfold leastTo at h ⊢
    try dsimp only at h ⊢
    by_cases c : n.testBit s = true
    · rw [if_pos c]; exact .start s (by omega) c
    · rw [if_neg c] at h; omega⟩
theorem relax_ok {r : Roads} {f : Flock} (g : Good r f) {d : Int} {n S : Nat} (hS : r.stages = (S : Int)) {o : Nat → Int} (h : LeastOk r f d n S o) (i : Nat) : LeastOk r f d n S (relax r f d i o) := by
  have hp := g.p2
  unfold relax
  cases hx : r.strips[i]? with
  | none => exact h
  | some x =>
    obtain ⟨b1, b2, b3, b4, b5, b6, _⟩ := g.strip x (List.mem_of_getElem? hx)
    dsimp only
    by_cases hop : openB r f (-1) i d = true
    · have hA : x.A.toNat < S := by omega
      have hB : x.B.toNat < S := by omega
      have eA : ((x.A.toNat : Nat) : Int) = x.A := by omega
      have eB : ((x.B.toNat : Nat) : Int) = x.B := by omega
      have lA := h.lo _ hA
      have lB := h.lo _ hB
      have uA := h.hi _ hA
      have uB := h.hi _ hB
      refine ⟨fun s hs => ?_, fun s hs => ?_, fun s hs hlt => ?_⟩
      · have := h.lo s hs
        rw [if_pos hop]
        by_cases c1 : s = x.A.toNat ∧ o x.B.toNat + x.L ≤ f.pace
        · rw [if_pos c1]; omega
        · rw [if_neg c1]
          by_cases c2 : s = x.B.toNat ∧ o x.A.toNat + x.L ≤ f.pace
          · rw [if_pos c2]; omega
          · rw [if_neg c2]; omega
      · have := h.hi s hs
        rw [if_pos hop]
        by_cases c1 : s = x.A.toNat ∧ o x.B.toNat + x.L ≤ f.pace
        · rw [if_pos c1]; omega
        · rw [if_neg c1]
          by_cases c2 : s = x.B.toNat ∧ o x.A.toNat + x.L ≤ f.pace
          · rw [if_pos c2]; omega
          · rw [if_neg c2]; omega
      · rw [if_pos hop] at hlt ⊢
        by_cases c1 : s = x.A.toNat ∧ o x.B.toNat + x.L ≤ f.pace
        · rw [if_pos c1] at hlt ⊢
          obtain ⟨rfl, c⟩ := c1
          by_cases c3 : o x.A.toNat ≤ o x.B.toNat + x.L
          · rw [Int.min_eq_left c3] at hlt ⊢; exact h.sound _ hA hlt
          · rw [Int.min_eq_right (by omega)]
            have h1 := h.sound _ hB (by omega)
            refine .step _ _ i h1 (stepOk_some.2 ⟨x, hx, ?_, c, hop, ?_⟩)
            · dsimp only; rw [eB]; unfold endOf; rw [if_neg (by omega), if_pos rfl]
            · dsimp only; rw [eA, eB]; unfold endOf; rw [if_neg (by omega), if_pos rfl]
        · rw [if_neg c1] at hlt ⊢
          by_cases c2 : s = x.B.toNat ∧ o x.A.toNat + x.L ≤ f.pace
          · rw [if_pos c2] at hlt ⊢
            obtain ⟨rfl, c⟩ := c2
            by_cases c3 : o x.B.toNat ≤ o x.A.toNat + x.L
            · rw [Int.min_eq_left c3] at hlt ⊢; exact h.sound _ hB hlt
            · rw [Int.min_eq_right (by omega)]
              have h1 := h.sound _ hA (by omega)
              refine .step _ _ i h1 (stepOk_some.2 ⟨x, hx, ?_, c, hop, ?_⟩)
              · dsimp only; rw [eA]; unfold endOf; rw [if_pos rfl]
              · dsimp only; rw [eA, eB]; unfold endOf; rw [if_pos rfl]
          · rw [if_neg c2] at hlt ⊢; exact h.sound s hs hlt
    · rw [show (fun s => if openB r f (-1) i d = true then (if s = x.A.toNat ∧ o x.B.toNat + x.L ≤ f.pace then min (o x.A.toNat) (o x.B.toNat + x.L) else if s = x.B.toNat ∧ o x.A.toNat + x.L ≤ f.pace then min (o x.B.toNat) (o x.A.toNat + x.L) else o s) else o s) = o from funext fun s => if_neg hop]
      exact h
theorem relaxTo_ok {r : Roads} {f : Flock} (g : Good r f) {d : Int} {n S : Nat} (hS : r.stages = (S : Int)) {o : Nat → Int} (h : LeastOk r f d n S o) : ∀ k, LeastOk r f d n S (relaxTo r f d o k)
  | 0 => h
  | k + 1 => relax_ok g hS (relaxTo_ok g hS h k) k
theorem leastTo_ok {r : Roads} {f : Flock} (g : Good r f) {d : Int} {n S : Nat} (hS : r.stages = (S : Int)) : ∀ j, LeastOk r f d n S (leastTo r f d n j)
  | 0 => least0_ok hS
  | j + 1 => relaxTo_ok g hS (leastTo_ok g hS j) _
theorem leastTo_le {r : Roads} {f : Flock} {d : Int} {n s : Nat} : ∀ (k j : Nat), j ≤ k → leastTo r f d n k s ≤ leastTo r f d n j s
  | 0, j, h => by obtain rfl : j = 0 := by omega
                  exact Int.le_refl _
  | k + 1, j, h => by
    by_cases e : j = k + 1
    · subst e; exact Int.le_refl _
    · exact Int.le_trans (relaxTo_le r.strips.length 0 (by omega)) (leastTo_le k j (by omega))
/-- A strip is gone over in a round. -/
theorem round_edge {r : Roads} {f : Flock} (g : Good r f) {d : Int} {o : Nat → Int} {i : Nat} {x : Strip} (hx : r.strips[i]? = some x) (hop : openB r f (-1) i d = true) {t : Int} (he : (endOf x t).2 = true) (hl : o t.toNat + x.L ≤ f.pace) :
    relaxTo r f d o r.strips.length (endOf x t).1.toNat ≤ o t.toNat + x.L := by
  obtain ⟨b1, b2, b3, b4, b5, b6, _⟩ := g.strip x (List.mem_of_getElem? hx)
  have hi := (List.getElem?_eq_some_iff.1 hx).1
  refine Int.le_trans (relaxTo_le (s := (endOf x t).1.toNat) r.strips.length (i + 1) (by omega)) ?_
  have hm := relaxTo_le (r := r) (f := f) (d := d) (o := o) (s := t.toNat) i 0 (by omega)
  show relax r f d i (relaxTo r f d o i) (endOf x t).1.toNat ≤ _
  generalize relaxTo r f d o i = p at hm ⊢
  have hm' : p t.toNat ≤ o t.toNat := hm
  unfold relax
  rw [hx]
  dsimp only
  rw [if_pos hop]
  unfold endOf at he ⊢
  by_cases eA : t = x.A
  · rw [if_pos eA]
    dsimp only
    rw [eA] at hm' hl ⊢
    by_cases c1 : x.B.toNat = x.A.toNat ∧ p x.B.toNat + x.L ≤ f.pace
    · omega
    · rw [if_neg c1, if_pos ⟨rfl, by omega⟩]; omega
  · rw [if_neg eA] at he ⊢
    by_cases eB : t = x.B
    · rw [if_pos eB]
      dsimp only
      rw [eB] at hm' hl ⊢
      rw [if_pos ⟨rfl, by omega⟩]; omega
    · rw [if_neg eB] at he; simp at he
/-- A walk that meets no stage twice. -/
inductive Simple (r : Roads) (f : Flock) (d s : Int) : List Int → Int → Int → Prop
  | nil : Simple r f d s [s] s 0
  | cons (vs : List Int) (t l : Int) (i : Nat) (x : Strip) : Simple r f d s vs t l → r.strips[i]? = some x → (endOf x t).2 = true → openB r f (-1) i d = true → (endOf x t).1 ∉ vs → Simple r f d s ((endOf x t).1 :: vs) (endOf x t).1 (l + x.L)
theorem Simple.cut {r : Roads} {f : Flock} (g : Good r f) {d s : Int} {vs : List Int} {t l : Int} (h : Simple r f d s vs t l) : ∀ u ∈ vs, ∃ vs' l', Simple r f d s vs' u l' ∧ l' ≤ l := by
  induction h with
  | nil => intro u hu; simp at hu; subst hu; exact ⟨_, _, .nil, Int.le_refl _⟩
  | cons vs t l i x h hx he ho hn ih =>
    intro u hu
    have hL := (g.strip x (List.mem_of_getElem? hx)).2.2.2.2.2.1
    rcases List.mem_cons.1 hu with rfl | hu
    · exact ⟨_, _, .cons vs t l i x h hx he ho hn, Int.le_refl _⟩
    · obtain ⟨vs', l', h1, h2⟩ := ih u hu
      exact ⟨vs', l', h1, by omega⟩
theorem simple_of {r : Roads} {f : Flock} (g : Good r f) {d s t l : Int} (h : Leads r f d s t l) : ∃ vs l', Simple r f d s vs t l' ∧ l' ≤ l := by
  induction h with
  | refl => exact ⟨_, _, .nil, Int.le_refl _⟩
  | step t l i x _ hx he ho ih =>
    obtain ⟨vs, l', h1, h2⟩ := ih
    have hL := (g.strip x (List.mem_of_getElem? hx)).2.2.2.2.2.1
    by_cases c : (endOf x t).1 ∈ vs
    · obtain ⟨vs', l'', h3, h4⟩ := h1.cut g _ c
      exact ⟨vs', l'', h3, by omega⟩
    · exact ⟨_, _, .cons vs t l' i x h1 hx he ho c, by omega⟩
theorem Simple.nodup {r : Roads} {f : Flock} (g : Good r f) {d s : Int} {vs : List Int} {t l : Int} (h : Simple r f d s vs t l) (hs : 0 ≤ s ∧ s < r.stages) : vs.Nodup ∧ (∀ v ∈ vs, 0 ≤ v ∧ v < r.stages) ∧ 1 ≤ vs.length := by
  induction h with
  | nil => exact ⟨by simp, by intro v hv; simp at hv; subst hv; exact hs, by simp⟩
  | cons vs t l i x h hx he ho hn ih =>
    obtain ⟨i1, i2, i3⟩ := ih
    exact ⟨List.nodup_cons.2 ⟨hn, i1⟩, fun v hv => by
      rcases List.mem_cons.1 hv with rfl | hv
      · exact endOf_range g (List.mem_of_getElem? hx) he
      · exact i2 v hv, by simp⟩
theorem Simple.least {r : Roads} {f : Flock} (g : Good r f) {d : Int} {n s : Nat} (hb : n.testBit s = true) {vs : List Int} {t l : Int} (h : Simple r f d (s : Int) vs t l) (hs : (s : Int) < r.stages) (hl : l ≤ f.pace) : leastTo r f d n (vs.length - 1) t.toNat ≤ l := by
  induction h with
  | nil => show leastTo r f d n 0 _ ≤ 0; unfold leastTo; (try dsimp only); rw [show ((s : Int)).toNat = s from rfl, if_pos hb]; omega
  | cons vs t l i x h hx he ho hn ih =>
    have hL := (g.strip x (List.mem_of_getElem? hx)).2.2.2.2.2.1
    have h1 := ih (by omega)
    obtain ⟨_, _, h3⟩ := h.nodup g ⟨by omega, hs⟩
    rw [List.length_cons, show vs.length + 1 - 1 = (vs.length - 1) + 1 by omega]
    have := round_edge g (o := leastTo r f d n (vs.length - 1)) hx ho he (by omega)
    show relaxTo r f d (leastTo r f d n (vs.length - 1)) r.strips.length _ ≤ _
    omega
/-- What least tells: whether a flock can be at a stage at the end of the day. -/
theorem least_spot {r : Roads} {f : Flock} (g : Good r f) {d : Int} {n S t : Nat} (hS : r.stages = (S : Int)) (ht : t < S) : leastO r f d n S t < 1000 ↔ (afterN r f (-1) n d).testBit t = true := by
  rw [afterN_bit g]
  have hp := g.p2
  constructor
  · intro h; exact ⟨_, (leastTo_ok g hS S).sound t ht h⟩
  · rintro ⟨l, hl⟩
    obtain ⟨s, h1, h2, h3, h4⟩ := (spot_leads g).1 hl
    dsimp only at h3 h4
    obtain ⟨vs, l', h5, h6⟩ := simple_of g h3
    obtain ⟨n1, n2, n3⟩ := h5.nodup g ⟨by omega, h1⟩
    have h7 := h5.least g h2 h1 (by omega)
    have hlen : vs.length ≤ S := by
      have hn : (vs.map Int.toNat).Nodup := by
        rw [List.nodup_iff_pairwise_ne, List.pairwise_map]
        refine (List.nodup_iff_pairwise_ne.1 n1).imp_of_mem fun {p q} hp hq hne e => hne ?_
        have := n2 p hp
        have := n2 q hq
        omega
      have := nodup_lt_length S _ hn (fun v hv => by
        obtain ⟨u, hu, rfl⟩ := List.mem_map.1 hv
        have := n2 u hu
        omega)
      simpa using this
    have h8 := leastTo_le (r := r) (f := f) (d := d) (n := n) (s := t) S (vs.length - 1) (by omega)
    rw [show ((t : Int)).toNat = t from rfl] at h7
    show leastTo r f d n S t < 1000
    omega
end Go.Proofs.YtmkjeonjhedgkaaDoor
