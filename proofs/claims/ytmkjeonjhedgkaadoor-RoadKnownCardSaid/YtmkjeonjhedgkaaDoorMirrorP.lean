/- Days that are turned about: the plain law. -/
import Derived.Test.YtmkjeonjhedgkaaDoorDeal
namespace Go.Proofs.YtmkjeonjhedgkaaDoor
set_option linter.unusedSimpArgs false
set_option linter.unusedVariables false
open Go.RowKit

/-- A walk within a day, whatever the flock's pace. -/
inductive Leads (r : Roads) (f : Flock) (d : Int) (s : Int) : Int → Int → Prop
  | refl : Leads r f d s s 0
  | step (t l : Int) (i : Nat) (x : Strip) : Leads r f d s t l → r.strips[i]? = some x → (endOf x t).2 = true → openB r f (-1) i d = true → Leads r f d s (endOf x t).1 (l + x.L)

theorem Leads.pos {r : Roads} {f : Flock} (g : Good r f) {d s t l : Int} (h : Leads r f d s t l) : 0 ≤ l := by
  induction h with
  | refl => omega
  | step t l i x _ hx _ _ ih => have := (g.strip x (List.mem_of_getElem? hx)).2.2.2.2.2.1; omega
theorem Leads.front {r : Roads} {f : Flock} {d s t l : Int} {i : Nat} {x : Strip} (hx : r.strips[i]? = some x) (he : (endOf x s).2 = true) (ho : openB r f (-1) i d = true) (h : Leads r f d (endOf x s).1 t l) : Leads r f d s t (x.L + l) := by
  induction h with
  | refl => rw [Int.add_comm]; exact .step s 0 i x .refl hx he ho
  | step t l j y _ hy he' ho' ih => rw [← Int.add_assoc]; exact .step t _ j y ih hy he' ho'
theorem endOf_back {x : Strip} {t : Int} (hne : x.A ≠ x.B) (h : (endOf x t).2 = true) : (endOf x (endOf x t).1).2 = true ∧ (endOf x (endOf x t).1).1 = t := by
  unfold endOf at h ⊢
  by_cases a : t = x.A
  · subst a; simp [hne.symm]
  · by_cases b : t = x.B
    · subst b; simp [a]
    · simp [a, b] at h
theorem spot_leads {r : Roads} {f : Flock} (g : Good r f) {n : Nat} {d : Int} {p : Int × Int} : Spot r f (-1) n d p ↔ ∃ s : Nat, (s : Int) < r.stages ∧ n.testBit s = true ∧ Leads r f d s p.1 p.2 ∧ p.2 ≤ f.pace := by
  constructor
  · intro h
    induction h with
    | start s h1 h2 => exact ⟨s, h1, h2, .refl, by have := g.p1; simp; omega⟩
    | step p q i _ hi ih =>
      obtain ⟨s, h1, h2, h3, _⟩ := ih
      obtain ⟨x, hx, e1, e2, e3, rfl⟩ := stepOk_some.1 hi
      exact ⟨s, h1, h2, .step _ _ i x h3 hx e1 e3, e2⟩
  · rintro ⟨s, h1, h2, h3, h4⟩
    obtain ⟨t, l⟩ := p
    dsimp only at h3 h4
    induction h3 with
    | refl => exact .start s h1 h2
    | step t l i x _ hx he ho ih =>
      have hL := (g.strip x (List.mem_of_getElem? hx)).2.2.2.2.2.1
      exact .step _ _ i (ih (by omega)) (stepOk_some.2 ⟨x, hx, he, h4, ho, rfl⟩)

/-- Roads m whose day d' is as day d of the roads r. -/
structure Turned (r m : Roads) (f : Flock) (d d' : Int) : Prop where
  strips : ∀ (i : Nat) (x : Strip), r.strips[i]? = some x → ∃ y, m.strips[i]? = some y ∧ y.A = x.A ∧ y.B = x.B ∧ y.L = x.L
  opens : ∀ i, openB r f (-1) i d = true → openB m f (-1) i d' = true
theorem Leads.turned {r m : Roads} {f : Flock} (g : Good r f) {d d' : Int} (h : Turned r m f d d') {s t l : Int} (hl : Leads r f d s t l) : Leads m f d' t s l := by
  induction hl with
  | refl => exact .refl
  | step t l i x _ hx he ho ih =>
    obtain ⟨y, hy, hA, hB, hL⟩ := h.strips i x hx
    have hne := (g.strip x (List.mem_of_getElem? hx)).2.2.2.2.1
    have e : ∀ t, endOf y t = endOf x t := fun t => by unfold endOf; rw [hA, hB]
    obtain ⟨b1, b2⟩ := endOf_back hne he
    rw [Int.add_comm, ← hL]
    exact .front (i := i) hy (by rw [e]; exact b1) (h.opens i ho) (by rw [e, b2]; exact ih)

/-- A walk over k days, from day d on. -/
def Chain (r : Roads) (f : Flock) (d : Int) : Nat → Int → Int → Prop
  | 0, s, t => s = t
  | k + 1, s, t => ∃ u l, Chain r f d k s u ∧ Leads r f (d + k) u t l ∧ l ≤ f.pace
theorem Chain.front {r : Roads} {f : Flock} {d : Int} : ∀ {k : Nat} {s u t l : Int}, Leads r f d s u l → l ≤ f.pace → Chain r f (d + 1) k u t → Chain r f d (k + 1) s t
  | 0, s, u, t, l, h1, h2, h3 => ⟨s, l, rfl, by rw [← show u = t from h3]; simpa using h1, h2⟩
  | k + 1, s, u, t, l, h1, h2, ⟨v, m, h3, h4, h5⟩ => ⟨v, m, Chain.front h1 h2 h3, by rw [show d + ((k + 1 : Nat) : Int) = d + 1 + (k : Int) by omega]; exact h4, h5⟩
theorem Leads.range {r : Roads} {f : Flock} (g : Good r f) {d s t l : Int} (h : Leads r f d s t l) (hs : 0 ≤ s ∧ s < r.stages) : 0 ≤ t ∧ t < r.stages := by
  induction h with
  | refl => exact hs
  | step t l i x _ hx he _ _ => exact endOf_range g (List.mem_of_getElem? hx) he
theorem Chain.range {r : Roads} {f : Flock} (g : Good r f) {d : Int} : ∀ {k : Nat} {s t : Int}, Chain r f d k s t → 0 ≤ s ∧ s < r.stages → 0 ≤ t ∧ t < r.stages
  | 0, s, t, h, hs => by rw [← show s = t from h]; exact hs
  | k + 1, s, t, ⟨u, l, h1, h2, _⟩, hs => h2.range g (h1.range g hs)
theorem nights_chain {r : Roads} {f : Flock} (g : Good r f) {fr : Nat} (hf : (fr : Int) < r.stages) {d : Int} : ∀ (k t : Nat), (t : Int) < r.stages → ((nightsTo r f (-1) (0 ||| 1 <<< fr) d k).testBit t = true ↔ Chain r f d k fr t)
  | 0, t, ht => by
    rw [nightsTo, testBit_or_one]
    simp only [Nat.zero_testBit, Bool.false_or, decide_eq_true_eq]
    show _ ↔ (fr : Int) = (t : Int)
    omega
  | k + 1, t, ht => by
    rw [nightsTo, afterN_bit g]
    constructor
    · rintro ⟨l, hl⟩
      obtain ⟨s, h1, h2, h3, h4⟩ := (spot_leads g).1 hl
      exact ⟨s, l, (nights_chain g hf k s h1).1 h2, h3, h4⟩
    · rintro ⟨u, l, h1, h2, h3⟩
      have hu := h1.range g (by omega)
      obtain ⟨s, rfl⟩ := Int.eq_ofNat_of_zero_le hu.1
      exact ⟨l, (spot_leads g).2 ⟨s, hu.2, (nights_chain g hf k s hu.2).2 h1, h2, h3⟩⟩
/-- A walk over k days, turned about. -/
theorem Chain.turned {r m : Roads} {f : Flock} (g : Good r f) {last : Int} (h : ∀ d, 0 ≤ d → d ≤ last → Turned r m f d (last - d)) {d : Int} (h0 : 0 ≤ d) : ∀ {k : Nat} {s t : Int}, d + k ≤ last + 1 → Chain r f d k s t → Chain m f (last + 1 - (d + k)) k t s
  | 0, s, t, _, hc => (show s = t from hc).symm
  | k + 1, s, t, hk, ⟨u, l, h1, h2, h3⟩ => by
    have h4 := Chain.turned g h h0 (by omega) h1
    have h5 := h2.turned g (h (d + k) (by omega) (by omega))
    refine Chain.front (u := u) (l := l) (by rw [show last + 1 - (d + ((k + 1 : Nat) : Int)) = last - (d + k) by omega]; exact h5) h3 ?_
    rw [show last + 1 - (d + ((k + 1 : Nat) : Int)) + 1 = last + 1 - (d + k) by omega]; exact h4
theorem Turned.symm {r m : Roads} {f : Flock} {last : Int} (hl : m.strips.length = r.strips.length) (h : ∀ d, 0 ≤ d → d ≤ last → ∀ i, openB m f (-1) i d = openB r f (-1) i (last - d))
    (hs : ∀ (i : Nat) (x : Strip), r.strips[i]? = some x → ∃ y, m.strips[i]? = some y ∧ y.A = x.A ∧ y.B = x.B ∧ y.L = x.L) :
    (∀ d, 0 ≤ d → d ≤ last → Turned r m f d (last - d)) ∧ (∀ d, 0 ≤ d → d ≤ last → Turned m r f d (last - d)) := by
  refine ⟨fun d h0 h1 => ⟨hs, fun i hi => ?_⟩, fun d h0 h1 => ⟨fun i x hx => ?_, fun i hi => ?_⟩⟩
  · rw [h (last - d) (by omega) (by omega), show last - (last - d) = d by omega]; exact hi
  · have hi : i < r.strips.length := by rw [← hl]; exact (List.getElem?_eq_some_iff.1 hx).1
    obtain ⟨y, hy, e1, e2, e3⟩ := hs i _ (List.getElem?_eq_getElem hi)
    rw [hy] at hx
    obtain rfl : y = x := by simpa using hx
    exact ⟨_, List.getElem?_eq_getElem hi, e1.symm, e2.symm, e3.symm⟩
  · rw [← h d h0 h1]; exact hi

/-- A strip whose days are turned about. -/
def mirS (last : Int) (s : Strip) : Strip :=
  if s.K = 2 then { s with X := last - s.Y, Y := last - s.X }
  else if s.K = 3 then { s with X := s.X + s.Y * last, Y := -s.Y }
  else s
def mirR (r : Roads) : Roads := { r with strips := r.strips.map (mirS (r.days - 1)) }
/-- No ford is too deep on the last day. -/
def mirFine (r : Roads) : Prop := ∀ s ∈ r.strips, s.K = 3 → 0 ≤ s.X + s.Y * (r.days - 1) ∧ s.X + s.Y * (r.days - 1) ≤ 20

theorem mirS_bars {r : Roads} {f : Flock} (g : Good r f) {s : Strip} (hs : s ∈ r.strips) {d : Int} (h0 : 0 ≤ d) (h1 : d ≤ r.days - 1) : barsL (mirS (r.days - 1) s) f d = barsL s f (r.days - 1 - d) := by
  obtain ⟨_, _, _, _, _, _, _, _, _, hk⟩ := g.strip s hs
  have gd := g.d2
  have e : ∀ k, barTest (mirS (r.days - 1) s) f d k = barTest s f (r.days - 1 - d) k := by
    intro k
    unfold mirS
    by_cases k2 : s.K = 2
    · rw [if_pos k2]
      match k with
      | 0 => rfl
      | 1 => rfl
      | 2 => show (s.K == 4 && _) = (s.K == 4 && _); rw [k2]; rfl
      | 3 =>
        show (s.K == 2 && !(btw d (r.days - 1 - s.Y) (r.days - 1 - s.X))) = (s.K == 2 && !(btw (r.days - 1 - d) s.X s.Y))
        have : btw d (r.days - 1 - s.Y) (r.days - 1 - s.X) = btw (r.days - 1 - d) s.X s.Y := by
          rw [Bool.eq_iff_iff, btw_true, btw_true]; omega
        rw [this]
      | _ + 4 => show (s.K == 3 && _) = (s.K == 3 && _); rw [k2]; rfl
    · rw [if_neg k2]
      by_cases k3 : s.K = 3
      · rw [if_pos k3]
        match k with
        | 0 => rfl
        | 1 => rfl
        | 2 => show (s.K == 4 && _) = (s.K == 4 && _); rw [k3]; rfl
        | 3 => show (s.K == 2 && _) = (s.K == 2 && _); rw [k3]; rfl
        | _ + 4 =>
          show (s.K == 3 && decide (8 < wrap64 (s.X + s.Y * (r.days - 1) + wrap64 (-s.Y * d)))) = (s.K == 3 && decide (8 < wrap64 (s.X + wrap64 (s.Y * (r.days - 1 - d)))))
          have hY : -5 ≤ s.Y ∧ s.Y ≤ 5 ∧ 0 ≤ s.X ∧ s.X ≤ 20 := by omega
          obtain ⟨y1, y2, x1, x2⟩ := hY
          have hL : 0 ≤ r.days - 1 ∧ r.days - 1 ≤ 9 := by have := g.d1; omega
          generalize r.days - 1 = L at h1 hL ⊢
          generalize s.Y = Y at y1 y2 ⊢
          generalize s.X = X at x1 x2 ⊢
          have e1 : wrap64 (-Y * d) = -Y * d := by
            have : -(5 * 9) ≤ -Y * d ∧ -Y * d ≤ 5 * 9 := by
              obtain ⟨D, rfl⟩ := Int.eq_ofNat_of_zero_le h0
              have hD : D ≤ 9 := by omega
              have : D = 0 ∨ D = 1 ∨ D = 2 ∨ D = 3 ∨ D = 4 ∨ D = 5 ∨ D = 6 ∨ D = 7 ∨ D = 8 ∨ D = 9 := by omega
              rcases this with rfl | rfl | rfl | rfl | rfl | rfl | rfl | rfl | rfl | rfl <;> omega
            unfold wrap64; omega
          have e2 : Y * (L - d) = Y * L + -Y * d := by rw [Int.mul_sub, Int.neg_mul]; omega
          have e3 : wrap64 (Y * (L - d)) = Y * (L - d) := by
            have : -(5 * 9) ≤ Y * (L - d) ∧ Y * (L - d) ≤ 5 * 9 := by
              obtain ⟨D, hD'⟩ := Int.eq_ofNat_of_zero_le (a := L - d) (by omega)
              rw [hD']
              have hD : D ≤ 9 := by omega
              have : D = 0 ∨ D = 1 ∨ D = 2 ∨ D = 3 ∨ D = 4 ∨ D = 5 ∨ D = 6 ∨ D = 7 ∨ D = 8 ∨ D = 9 := by omega
              rcases this with rfl | rfl | rfl | rfl | rfl | rfl | rfl | rfl | rfl | rfl <;> omega
            unfold wrap64; omega
          rw [e1, e3, e2, Int.add_assoc]
      · rw [if_neg k3]
        match k with
        | 0 => rfl
        | 1 => rfl
        | 2 => rfl
        | 3 =>
          show (s.K == 2 && _) = (s.K == 2 && _)
          rw [show (s.K == 2) = false by simpa using k2]; rfl
        | _ + 4 =>
          show (s.K == 3 && _) = (s.K == 3 && _)
          rw [show (s.K == 3) = false by simpa using k3]; rfl
  have : ∀ k, barsTo (mirS (r.days - 1) s) f d k = barsTo s f (r.days - 1 - d) k := by
    intro k
    induction k with
    | zero => rfl
    | succ k ih => rw [barsTo, barsTo, ih, e]
  exact this 5
theorem mirS_same (last : Int) (s : Strip) : (mirS last s).A = s.A ∧ (mirS last s).B = s.B ∧ (mirS last s).L = s.L ∧ (mirS last s).W = s.W ∧ (mirS last s).K = s.K := by
  unfold mirS; split
  · exact ⟨rfl, rfl, rfl, rfl, rfl⟩
  · split <;> exact ⟨rfl, rfl, rfl, rfl, rfl⟩
theorem mir_good {r : Roads} {f : Flock} (g : Good r f) (hm : mirFine r) : Good (mirR r) f := by
  refine ⟨g.d1, g.d2, g.s1, g.s2, by simpa [mirR] using g.n8, fun s hs => ?_, g.h1, g.h2, g.p1, g.p2⟩
  obtain ⟨x, hx, rfl⟩ := List.mem_map.1 hs
  obtain ⟨a, b, c, d, e, i, j, k, l, o⟩ := g.strip x hx
  obtain ⟨m1, m2, m3, m4, m5⟩ := mirS_same (r.days - 1) x
  refine ⟨by rw [m1]; exact a, by rw [m1]; exact b, by rw [m2]; exact c, by rw [m2]; exact d, by rw [m1, m2]; exact e, by rw [m3]; exact i, by rw [m3]; exact j, by rw [m4]; exact k, by rw [m4]; exact l, ?_⟩
  show ((mirS (r.days - 1) x).K = 1 ∧ _) ∨ ((mirS (r.days - 1) x).K = 2 ∧ 0 ≤ _ ∧ _ ≤ _ ∧ _ < r.days) ∨ _
  rw [m5]
  unfold mirS
  by_cases k2 : x.K = 2
  · rw [if_pos k2]; dsimp only; omega
  · rw [if_neg k2]
    by_cases k3 : x.K = 3
    · rw [if_pos k3]; have := hm x hx k3; dsimp only; omega
    · rw [if_neg k3]; omega
/-- What can be done in some days can be done backwards in the days turned about. -/
theorem can_mirror {r : Roads} {f : Flock} (g : Good r f) (hm : mirFine r) {fr tt : Nat} (hf : (fr : Int) < r.stages) (ht : (tt : Int) < r.stages) {d b : Int} (h0 : 0 ≤ d) (h1 : d ≤ b) (h2 : b < r.days) :
    canB (mirR r) f (-1) tt fr (r.days - 1 - b) (r.days - 1 - d) = canB r f (-1) fr tt d b := by
  have gm := mir_good g hm
  obtain ⟨T1, T2⟩ := Turned.symm (r := r) (m := mirR r) (f := f) (last := r.days - 1) (by simp [mirR]) (fun d' h0' h1' i => by
      unfold openB
      show (match (r.strips.map (mirS (r.days - 1)))[i]? with | some s => ((i : Int) != -1) && (barsL s f d').isEmpty | none => false) = _
      rw [List.getElem?_map]
      cases hx : r.strips[i]? with
      | none => rfl
      | some x => show ((i : Int) != -1 && (barsL (mirS (r.days - 1) x) f d').isEmpty) = _; rw [mirS_bars g (List.mem_of_getElem? hx) h0' h1'])
    (fun i x hx => by
      refine ⟨mirS (r.days - 1) x, ?_, (mirS_same _ x).1, (mirS_same _ x).2.1, (mirS_same _ x).2.2.1⟩
      show (r.strips.map (mirS (r.days - 1)))[i]? = _
      rw [List.getElem?_map, hx]; rfl)
  unfold canB
  rw [decide_eq_true (show r.days - 1 - b ≤ r.days - 1 - d by omega), decide_eq_true h1, Bool.true_and, Bool.true_and, show (r.days - 1 - d - (r.days - 1 - b) + 1).toNat = (b - d + 1).toNat by omega]
  have hk : (((b - d + 1).toNat : Nat) : Int) = b - d + 1 := by omega
  rw [Bool.eq_iff_iff, nights_chain gm (by exact ht) _ fr (by exact hf), nights_chain g hf _ tt ht]
  constructor
  · intro h
    have := Chain.turned gm T2 (d := r.days - 1 - b) (by omega) (by omega) h
    rwa [show r.days - 1 + 1 - (r.days - 1 - b + (((b - d + 1).toNat : Nat) : Int)) = d by omega] at this
  · intro h
    have := Chain.turned g T1 (d := d) h0 (by omega) h
    rwa [show r.days - 1 + 1 - (d + (((b - d + 1).toNat : Nat) : Int)) = r.days - 1 - b by omega] at this
end Go.Proofs.YtmkjeonjhedgkaaDoor
