/- The passes of mestaref02.Day: plain laws. -/
import Derived.Test.YtjgkgnfhglhklaaChains
import Derived.Test.YtjgkgnfhglhklaaCan
import Derived.Test.YtjgkgnfhglhklaaBetter
/- The order of walks (betterB): plain laws. -/
namespace Go.Proofs.Ytjgkgnfhglhklaa
set_option linter.unusedSimpArgs false
set_option linter.unusedVariables false

theorem lexB_irrefl : ∀ a : List (Int × Int), lexB a a = false
  | [] => by simp [lexB]
  | x :: a => by rw [lexB, if_neg (by simp), if_neg (by simp)]; exact lexB_irrefl a
theorem lexB_total : ∀ {a b : List (Int × Int)}, lexB a b = false → lexB b a = false → a = b
  | [], [], _, _ => rfl
  | [], y :: b, h, _ => by simp [lexB] at h
  | x :: a, [], _, h => by simp [lexB] at h
  | x :: a, y :: b, h1, h2 => by
    rw [lexB] at h1 h2
    by_cases e1 : x.1 = y.1
    · rw [if_neg (by simp [e1])] at h1
      rw [if_neg (by simp [e1])] at h2
      by_cases e2 : x.2 = y.2
      · rw [if_neg (by simp [e2])] at h1
        rw [if_neg (by simp [e2])] at h2
        rw [lexB_total h1 h2, Prod.ext e1 e2]
      · rw [if_pos e2] at h1
        rw [if_pos (fun e => e2 e.symm)] at h2
        simp at h1 h2; omega
    · rw [if_pos e1] at h1
      rw [if_pos (fun e => e1 e.symm)] at h2
      simp at h1 h2; omega
theorem lexB_trans : ∀ {a b c : List (Int × Int)}, lexB a b = true → lexB b c = true → lexB a c = true
  | a, [], c, h, _ => by cases a <;> simp [lexB] at h
  | [], y :: b, [], _, h => by simp [lexB] at h
  | [], y :: b, z :: c, _, _ => by simp [lexB]
  | x :: a, y :: b, [], _, h => by simp [lexB] at h
  | x :: a, y :: b, z :: c, h1, h2 => by
    rw [lexB] at h1 h2 ⊢
    by_cases e1 : x.1 = y.1
    · rw [if_neg (by simp [e1])] at h1
      by_cases f1 : y.1 = z.1
      · rw [if_neg (by simp [f1])] at h2
        rw [if_neg (by simp [e1, f1])]
        by_cases e2 : x.2 = y.2
        · rw [if_neg (by simp [e2])] at h1
          by_cases f2 : y.2 = z.2
          · rw [if_neg (by simp [f2])] at h2
            rw [if_neg (by simp [e2, f2])]
            exact lexB_trans h1 h2
          · rw [if_pos f2] at h2
            rw [if_pos (by rw [e2]; exact f2)]
            simp at h2 ⊢; omega
        · rw [if_pos e2] at h1
          simp at h1
          by_cases f2 : y.2 = z.2
          · rw [if_pos (by omega)]; simp; omega
          · rw [if_pos f2] at h2
            simp at h2
            rw [if_pos (by omega)]; simp; omega
      · rw [if_pos f1] at h2
        rw [if_pos (by rw [e1]; exact f1)]
        simp at h2 ⊢; omega
    · rw [if_pos e1] at h1
      simp at h1
      by_cases f1 : y.1 = z.1
      · rw [if_pos (by omega)]; simp; omega
      · rw [if_pos f1] at h2
        simp at h2
        rw [if_pos (by omega)]; simp; omega
/-- Unless one plan begins the other, what is behind does not matter. -/
theorem lexB_app : ∀ {a b : List (Int × Int)} (x y : List (Int × Int)), lexB a b = true → ¬ a <+: b → lexB (a ++ x) (b ++ y) = true
  | [], b, x, y, _, hp => absurd List.nil_prefix hp
  | p :: a, [], x, y, h, _ => by simp [lexB] at h
  | p :: a, q :: b, x, y, h, hp => by
    rw [lexB] at h
    rw [List.cons_append, List.cons_append, lexB]
    by_cases e1 : p.1 = q.1
    · rw [if_neg (by simp [e1])] at h ⊢
      by_cases e2 : p.2 = q.2
      · rw [if_neg (by simp [e2])] at h ⊢
        exact lexB_app x y h (fun hh => hp (by obtain rfl : p = q := Prod.ext e1 e2; exact (List.prefix_cons_inj p).2 hh))
      · rw [if_pos e2] at h ⊢; exact h
    · rw [if_pos e1] at h ⊢; exact h
theorem betterB_irrefl (a : WalkV) : (a.is = true → betterB a a = false) := fun h => by
  unfold betterB; simp [h, lexB_irrefl]
theorem betterB_trans {a b c : WalkV} (ha : a.is = true) (hb : b.is = true) (hc : c.is = true) (h1 : betterB a b = true) (h2 : betterB b c = true) : betterB a c = true := by
  unfold betterB at *
  simp only [ha, hb, hc, Bool.not_true, Bool.or_self, Bool.false_eq_true, if_false] at *
  by_cases e1 : a.lg = b.lg
  · rw [if_neg (by simp [e1])] at h1
    by_cases e2 : b.lg = c.lg
    · rw [if_neg (by simp [e2])] at h2
      rw [if_neg (by simp [e1, e2])]
      exact lexB_trans h1 h2
    · rw [if_pos e2] at h2
      rw [if_pos (by rw [e1]; exact e2)]
      simp at h2 ⊢; omega
  · rw [if_pos e1] at h1
    simp at h1
    by_cases e2 : b.lg = c.lg
    · rw [if_pos (by omega)]; simp; omega
    · rw [if_pos e2] at h2
      simp at h2
      rw [if_pos (by omega)]; simp; omega
theorem betterB_total {a b : WalkV} (ha : a.is = true) (hb : b.is = true) (h1 : betterB a b = false) (h2 : betterB b a = false) : a = b := by
  unfold betterB at h1 h2
  simp only [ha, hb, Bool.not_true, Bool.or_self, Bool.false_eq_true, if_false] at h1 h2
  by_cases e1 : a.lg = b.lg
  · rw [if_neg (by simp [e1])] at h1
    rw [if_neg (by simp [e1])] at h2
    have e2 := lexB_total h1 h2
    obtain ⟨ai, al, ap⟩ := a
    obtain ⟨bi, bl, bp⟩ := b
    dsimp only at ha hb e1 e2
    rw [ha, hb, e1, e2]
  · rw [if_pos e1] at h1
    rw [if_pos (fun e => e1 e.symm)] at h2
    simp at h1 h2; omega
/-- The test of mestaref02.Day. -/
theorem better_same (a b : WalkV) : (betterB a b && !(!betterB a b && !betterB b a)) = betterB a b := by cases betterB a b <;> simp
end Go.Proofs.Ytjgkgnfhglhklaa

/- The best walks of a day, by the leagues walked: plain laws. -/
namespace Go.Proofs.Ytjgkgnfhglhklaa
set_option linter.unusedSimpArgs false
set_option linter.unusedVariables false

theorem stepOk_up0 {r : Roads} {f : Flock} (g : Good r f) {shut d : Int} {p q : Int × Int} {k : Nat} (h : stepOk r f shut d p k = some q) : p.2 < q.2 ∧ q.2 ≤ f.pace := by
  obtain ⟨s, hs, _, h2, _, rfl⟩ := stepOk_some.1 h
  have hL := (g.strip s (List.mem_of_getElem? hs)).2.2.2.2.2.1
  exact ⟨by dsimp only; omega, h2⟩
def noWalk : WalkV := ⟨false, 0, []⟩
def pickW (acc x : WalkV) : WalkV := if betterB x acc then x else acc
def minW (l : List WalkV) : WalkV := l.foldl pickW noWalk
theorem better_none {a b : WalkV} (ha : a.is = true) (hb : b.is = false) : betterB a b = true := by unfold betterB; simp [ha, hb]
theorem foldW_spec : ∀ (l : List WalkV) (acc : WalkV), (∀ x ∈ l, x.is = true) → (l.foldl pickW acc = acc ∨ l.foldl pickW acc ∈ l) ∧ (acc.is = true ∨ l ≠ [] → (l.foldl pickW acc).is = true) ∧ (acc.is = true → betterB acc (l.foldl pickW acc) = false) ∧ (∀ x ∈ l, betterB x (l.foldl pickW acc) = false)
  | [], acc, _ => ⟨.inl rfl, fun h => h.elim id fun h => absurd rfl h, fun h => betterB_irrefl acc h, by simp⟩
  | x :: l, acc, hl => by
    have hx := hl x (by simp)
    have hacc' : (pickW acc x).is = true := by
      unfold pickW
      cases hb : betterB x acc
      · rw [if_neg (by simp)]
        cases ha : acc.is
        · rw [better_none hx ha] at hb; simp at hb
        · rfl
      · rw [if_pos rfl]; exact hx
    obtain ⟨i1, i2, i3, i4⟩ := foldW_spec l (pickW acc x) (fun y hy => hl y (by simp [hy]))
    rw [List.foldl_cons]
    have hm := i2 (.inl hacc')
    have h3 := i3 hacc'
    generalize l.foldl pickW (pickW acc x) = m at i1 hm h3 i4
    cases hb : betterB x acc
    · have hp : pickW acc x = acc := by unfold pickW; rw [hb]; rfl
      rw [hp] at i1 h3 hacc'
      refine ⟨i1.imp id fun h => by simp [h], fun _ => hm, fun _ => h3, fun y hy => ?_⟩
      rcases List.mem_cons.1 hy with rfl | hy
      · cases hq : betterB y m
        · rfl
        · cases hr : betterB acc y
          · have := betterB_total hx hacc' hb hr
            subst this
            rw [h3] at hq; simp at hq
          · rw [betterB_trans hacc' hx hm hr hq] at h3; simp at h3
      · exact i4 y hy
    · have hp : pickW acc x = x := by unfold pickW; rw [hb]; rfl
      rw [hp] at i1 h3
      refine ⟨.inr (i1.elim (fun h => by rw [h]; simp) fun h => by simp [h]), fun _ => hm, fun ha => ?_, fun y hy => ?_⟩
      · cases hq : betterB acc m
        · rfl
        · rw [betterB_trans hx ha hm hb hq] at h3; simp at h3
      · rcases List.mem_cons.1 hy with rfl | hy
        · exact h3
        · exact i4 y hy
theorem minW_spec {l : List WalkV} (h : ∀ x ∈ l, x.is = true) : (l = [] → minW l = noWalk) ∧ (l ≠ [] → (minW l).is = true ∧ minW l ∈ l) ∧ (∀ x ∈ l, betterB x (minW l) = false) := by
  obtain ⟨i1, i2, _, i4⟩ := foldW_spec l noWalk h
  refine ⟨fun e => by subst e; rfl, fun hne => ?_, i4⟩
  have his := i2 (.inr hne)
  refine ⟨his, i1.resolve_left fun e => ?_⟩
  rw [e] at his; simp [noWalk] at his

/-- The walk behind strip i from walk A. -/
def extW (A : WalkV) (d : Int) (i : Nat) (L : Int) : WalkV := ⟨true, A.lg + L, A.pl ++ [(d, (i : Int))]⟩
/-- The walks to stage t over w leagues of the day, one stride behind others. -/
def cands (r : Roads) (f : Flock) (d : Int) (S : Nat) (prev : Nat → Nat → WalkV) (w t : Nat) : List WalkV :=
  (List.range S).flatMap fun (s : Nat) => (List.range r.strips.length).filterMap fun (i : Nat) => match r.strips[i]? with
    | some x => if (endOf x (s : Int)).2 && decide ((endOf x (s : Int)).1 = (t : Int)) && openB r f (-1) i d && decide (x.L ≤ (w : Int)) && (prev (w - x.L.toNat) s).is then some (extW (prev (w - x.L.toNat) s) d i x.L) else none
    | none => none
theorem mem_cands {r : Roads} {f : Flock} {d : Int} {S : Nat} {prev : Nat → Nat → WalkV} {w t : Nat} {A : WalkV} : A ∈ cands r f d S prev w t ↔ ∃ (s i : Nat) (x : Strip), s < S ∧ r.strips[i]? = some x ∧ (endOf x (s : Int)).2 = true ∧ (endOf x (s : Int)).1 = (t : Int) ∧ openB r f (-1) i d = true ∧ x.L ≤ (w : Int) ∧ (prev (w - x.L.toNat) s).is = true ∧ A = extW (prev (w - x.L.toNat) s) d i x.L := by
  unfold cands
  simp only [List.mem_flatMap, List.mem_filterMap, List.mem_range]
  constructor
  · rintro ⟨s, hs, i, hi, h⟩
    cases hx : r.strips[i]? with
    | none => rw [hx] at h; simp at h
    | some x =>
      rw [hx] at h
      dsimp only at h
      split at h
      · rename_i hc
        simp only [Bool.and_eq_true, decide_eq_true_eq] at hc
        exact ⟨s, i, x, hs, hx, hc.1.1.1.1, hc.1.1.1.2, hc.1.1.2, hc.1.2, hc.2, by simpa using h.symm⟩
      · simp at h
  · rintro ⟨s, i, x, hs, hx, h1, h2, h3, h4, h5, rfl⟩
    refine ⟨s, hs, i, (List.getElem?_eq_some_iff.1 hx).1, ?_⟩
    rw [hx]
    dsimp only
    rw [if_pos (by simp [h1, h2, h3, h4, h5])]
/-- The best walk over w leagues of the day to each stage, from the walks b at the day's beginning on; with fuel. -/
def dayF (r : Roads) (f : Flock) (d : Int) (S : Nat) (b : Nat → WalkV) : Nat → Nat → Nat → WalkV
  | 0, w, t => if w = 0 then b t else noWalk
  | k + 1, w, t => if w = 0 then b t else minW (cands r f d S (dayF r f d S b k) w t)
theorem flatMap_eq {α β : Type} {f g : α → List β} : ∀ {l : List α}, (∀ x ∈ l, f x = g x) → l.flatMap f = l.flatMap g
  | [], _ => rfl
  | x :: l, h => by rw [List.flatMap_cons, List.flatMap_cons, h x (by simp), flatMap_eq fun y hy => h y (by simp [hy])]
theorem filterMap_eq {α β : Type} {f g : α → Option β} : ∀ {l : List α}, (∀ x ∈ l, f x = g x) → l.filterMap f = l.filterMap g
  | [], _ => rfl
  | x :: l, h => by rw [List.filterMap_cons, List.filterMap_cons, h x (by simp), filterMap_eq fun y hy => h y (by simp [hy])]
theorem cands_congr {r : Roads} {f : Flock} (g : Good r f) {d : Int} {S : Nat} {p q : Nat → Nat → WalkV} {w t : Nat} (h : ∀ u s, u < w → s < S → p u s = q u s) : cands r f d S p w t = cands r f d S q w t := by
  unfold cands
  refine flatMap_eq fun s hs => ?_
  refine filterMap_eq fun i _ => ?_
  cases hx : r.strips[i]? with
  | none => rfl
  | some x =>
    dsimp only
    have hL := (g.strip x (List.mem_of_getElem? hx)).2.2.2.2.2.1
    by_cases c : x.L ≤ (w : Int)
    · rw [h (w - x.L.toNat) s (by omega) (List.mem_range.1 hs)]
    · rw [if_neg (by simp [c]), if_neg (by simp [c])]
theorem dayF_stable {r : Roads} {f : Flock} (g : Good r f) {d : Int} {S : Nat} {b : Nat → WalkV} : ∀ (k k' w t : Nat), w ≤ k → w ≤ k' → dayF r f d S b k w t = dayF r f d S b k' w t
  | 0, k', w, t, h1, _ => by
    obtain rfl : w = 0 := by omega
    cases k' <;> simp [dayF]
  | k + 1, 0, w, t, _, h2 => by
    obtain rfl : w = 0 := by omega
    simp [dayF]
  | k + 1, k' + 1, w, t, h1, h2 => by
    rw [dayF, dayF]
    split
    · rfl
    · rw [cands_congr g fun u s hu _ => dayF_stable g k k' u s (by omega) (by omega)]
/-- The best walk over w leagues of the day. -/
def dayV (r : Roads) (f : Flock) (d : Int) (S : Nat) (b : Nat → WalkV) (w t : Nat) : WalkV := dayF r f d S b w w t
theorem dayV_zero {r : Roads} {f : Flock} {d : Int} {S : Nat} {b : Nat → WalkV} {t : Nat} : dayV r f d S b 0 t = b t := by simp [dayV, dayF]
theorem dayV_eq {r : Roads} {f : Flock} (g : Good r f) {d : Int} {S : Nat} {b : Nat → WalkV} {w t : Nat} (hw : 0 < w) : dayV r f d S b w t = minW (cands r f d S (dayV r f d S b) w t) := by
  obtain ⟨k, rfl⟩ : ∃ k, w = k + 1 := ⟨w - 1, by omega⟩
  show dayF r f d S b (k + 1) (k + 1) t = _
  rw [dayF, if_neg (by omega)]
  rw [cands_congr g fun u s hu _ => dayF_stable g k u u s (by omega) (Nat.le_refl _)]
  rfl
theorem cands_is {r : Roads} {f : Flock} {d : Int} {S : Nat} {prev : Nat → Nat → WalkV} {w t : Nat} : ∀ x ∈ cands r f d S prev w t, x.is = true := fun x hx => by
  obtain ⟨_, _, _, _, _, _, _, _, _, _, rfl⟩ := mem_cands.1 hx
  rfl
/-- Where there is a walk: the spots of the day. -/
theorem dayV_spot {r : Roads} {f : Flock} (g : Good r f) {d : Int} {S : Nat} (hS : r.stages = (S : Int)) {b : Nat → WalkV} {n : Nat} (hb : ∀ s, s < S → (b s).is = n.testBit s) : ∀ (w t : Nat), t < S → (w : Int) ≤ f.pace → ((dayV r f d S b w t).is = true ↔ Spot r f (-1) n d ((t : Int), (w : Int)))
  | w, t, ht, hp => by
    by_cases hw : w = 0
    · subst hw
      rw [dayV_zero, hb t ht]
      constructor
      · intro h; exact .start t (by omega) h
      · intro h
        cases h with
        | start => rename_i h1 h2; exact h2
        | step p q i hp hi =>
          obtain ⟨u1, _⟩ := stepOk_up0 g hi
          have := (hp.range g).2.2.1
          dsimp only at u1; omega
    · rw [dayV_eq g (by omega)]
      have hsp := minW_spec (l := cands r f d S (dayV r f d S b) w t) cands_is
      constructor
      · intro h
        have hne : cands r f d S (dayV r f d S b) w t ≠ [] := fun e => by rw [hsp.1 e] at h; simp [noWalk] at h
        obtain ⟨A, hA⟩ := List.exists_mem_of_ne_nil _ hne
        obtain ⟨s, i, x, h1, h2, h3, h4, h5, h6, h7, _⟩ := mem_cands.1 hA
        have hL := (g.strip x (List.mem_of_getElem? h2)).2.2.2.2.2.1
        have hlt : w - x.L.toNat < w := by omega
        have ih := (dayV_spot g hS hb (w - x.L.toNat) s h1 (by omega)).1 h7
        refine .step _ _ i ih (stepOk_some.2 ⟨x, h2, h3, by show ((w - x.L.toNat : Nat) : Int) + x.L ≤ _; omega, h5, ?_⟩)
        exact Prod.ext h4.symm (by show (w : Int) = ((w - x.L.toNat : Nat) : Int) + x.L; omega)
      · intro h
        refine (hsp.2.1 fun e => ?_).1
        cases h with
        | start => exact absurd rfl hw
        | step p q i hp2 hi =>
          obtain ⟨x, h2, h3, h4, h5, h6⟩ := stepOk_some.1 hi
          obtain ⟨r1, r2, r3, r4⟩ := hp2.range g
          have hL := (g.strip x (List.mem_of_getElem? h2)).2.2.2.2.2.1
          obtain ⟨p1, p2⟩ := p
          dsimp only at r1 r2 r3 r4 h3 h4 h6
          simp only [Prod.mk.injEq] at h6
          obtain ⟨s, rfl⟩ := Int.eq_ofNat_of_zero_le r1
          obtain ⟨u, rfl⟩ := Int.eq_ofNat_of_zero_le r3
          have hu : w - x.L.toNat = u := by omega
          have hlt : u < w := by omega
          have ih := (dayV_spot g hS hb u s (by omega) (by omega)).2 hp2
          have hm : extW (dayV r f d S b (w - x.L.toNat) s) d i x.L ∈ cands r f d S (dayV r f d S b) w t := mem_cands.2 ⟨s, i, x, by omega, h2, h3, by omega, h5, by omega, by rw [hu]; exact ih, rfl⟩
          rw [e] at hm; simp at hm
termination_by w => w
theorem dayV_best {r : Roads} {f : Flock} (g : Good r f) {d : Int} {S : Nat} {b : Nat → WalkV} {w t s i : Nat} {x : Strip} (h1 : s < S) (h2 : r.strips[i]? = some x) (h3 : (endOf x (s : Int)).2 = true) (h4 : (endOf x (s : Int)).1 = (t : Int)) (h5 : openB r f (-1) i d = true) (h6 : (dayV r f d S b w s).is = true) :
    betterB (extW (dayV r f d S b w s) d i x.L) (dayV r f d S b (w + x.L.toNat) t) = false := by
  have hL := (g.strip x (List.mem_of_getElem? h2)).2.2.2.2.2.1
  rw [dayV_eq g (w := w + x.L.toNat) (by omega)]
  refine (minW_spec cands_is).2.2 _ (mem_cands.2 ⟨s, i, x, h1, h2, h3, h4, h5, by omega, ?_, ?_⟩)
  · rw [show w + x.L.toNat - x.L.toNat = w by omega]; exact h6
  · rw [show w + x.L.toNat - x.L.toNat = w by omega]
end Go.Proofs.Ytjgkgnfhglhklaa

/- Walks grow in order: one stride more keeps which is better. -/
namespace Go.Proofs.Ytjgkgnfhglhklaa
set_option linter.unusedSimpArgs false
set_option linter.unusedVariables false

def wsum (r : Roads) : List (Int × Int) → Int
  | [] => 0
  | x :: l => legOf r x.2 + wsum r l
theorem wsum_app (r : Roads) : ∀ a b : List (Int × Int), wsum r (a ++ b) = wsum r a + wsum r b
  | [], b => by simp [wsum]
  | x :: a, b => by rw [List.cons_append, wsum, wsum, wsum_app r a b]; omega
/-- A walk's leagues are its plan's; its strips are there. -/
structure WOk (r : Roads) (A : WalkV) : Prop where
  sum : A.lg = wsum r A.pl
  valid : ∀ x ∈ A.pl, 0 ≤ x.2 ∧ x.2 < r.strips.length
theorem legOf_pos {r : Roads} {f : Flock} (g : Good r f) {i : Int} (h0 : 0 ≤ i) (h : i < r.strips.length) : 1 ≤ legOf r i := by
  have hl : i.toNat < r.strips.length := by omega
  unfold legOf
  rw [List.getElem?_eq_getElem hl]
  exact (g.strip _ (List.getElem_mem hl)).2.2.2.2.2.1
theorem wsum_pos {r : Roads} {f : Flock} (g : Good r f) : ∀ {l : List (Int × Int)}, (∀ x ∈ l, 0 ≤ x.2 ∧ x.2 < r.strips.length) → (l.length : Int) ≤ wsum r l
  | [], _ => by simp [wsum]
  | x :: l, h => by
    have h1 := legOf_pos g (h x (by simp)).1 (h x (by simp)).2
    have h2 := wsum_pos g (l := l) fun y hy => h y (by simp [hy])
    rw [wsum, List.length_cons]; omega
theorem prefix_eq {r : Roads} {f : Flock} (g : Good r f) {A B : WalkV} (_hA : WOk r A) (hB : WOk r B) (he : A.lg = B.lg) (hp : A.pl <+: B.pl) : A.pl = B.pl := by
  obtain ⟨t, ht⟩ := hp
  have h1 := _hA.sum
  have h2 := hB.sum
  rw [← ht, wsum_app] at h2
  have h3 := wsum_pos g (l := t) fun x hx => hB.valid x (by rw [← ht]; simp [hx])
  have : t = [] := List.length_eq_zero_iff.1 (by omega)
  rw [← ht, this, List.append_nil]
theorem WOk.ext {r : Roads} {A : WalkV} (h : WOk r A) {d : Int} {i : Nat} {x : Strip} (hx : r.strips[i]? = some x) : WOk r (extW A d i x.L) := by
  have hl := (List.getElem?_eq_some_iff.1 hx).1
  refine ⟨?_, fun y hy => ?_⟩
  · show A.lg + x.L = wsum r (A.pl ++ [(d, (i : Int))])
    rw [wsum_app, h.sum, wsum, wsum]
    show _ = _ + (legOf r (i : Int) + 0)
    unfold legOf
    rw [show ((i : Int)).toNat = i from rfl, hx]; dsimp only; omega
  · rcases List.mem_append.1 hy with hy | hy
    · exact h.valid y hy
    · obtain rfl : y = (d, (i : Int)) := by simpa using hy
      exact ⟨by show (0 : Int) ≤ (i : Int); omega, by show (i : Int) < _; omega⟩
theorem ext_mono {r : Roads} {f : Flock} (g : Good r f) {A B : WalkV} (hA : WOk r A) (hB : WOk r B) (ha : A.is = true) (hb : B.is = true) (h : betterB A B = false) (d : Int) (i : Nat) (L : Int) : betterB (extW A d i L) (extW B d i L) = false := by
  unfold betterB extW
  unfold betterB at h
  simp only [ha, hb, Bool.not_true, Bool.or_self, Bool.false_eq_true, if_false] at h ⊢
  by_cases e : A.lg = B.lg
  · rw [if_neg (by simp [e])] at h
    rw [if_neg (by simp [e])]
    cases hq : lexB (A.pl ++ [(d, (i : Int))]) (B.pl ++ [(d, (i : Int))])
    · rfl
    · cases hr : lexB B.pl A.pl
      · have := lexB_total h hr
        rw [this, lexB_irrefl] at hq; simp at hq
      · have hnp : ¬ B.pl <+: A.pl := fun hp => by
          have := prefix_eq g hB hA e.symm hp
          rw [this, lexB_irrefl] at hr; simp at hr
        have h1 := lexB_app [(d, (i : Int))] [(d, (i : Int))] hr hnp
        have h2 := lexB_trans hq h1
        rw [lexB_irrefl] at h2; simp at h2
  · rw [if_pos e] at h
    rw [if_pos (by omega)]
    simp at h ⊢; omega
/-- The best walks are walks. -/
theorem dayV_ok {r : Roads} {f : Flock} (g : Good r f) {d : Int} {S : Nat} {b : Nat → WalkV} (hb : ∀ s, s < S → (b s).is = true → WOk r (b s)) : ∀ (w t : Nat), t < S → (dayV r f d S b w t).is = true → WOk r (dayV r f d S b w t)
  | w, t, ht, his => by
    by_cases hw : w = 0
    · subst hw; rw [dayV_zero] at his ⊢; exact hb t ht his
    · rw [dayV_eq g (by omega)] at his ⊢
      have hsp := minW_spec (l := cands r f d S (dayV r f d S b) w t) cands_is
      have hne : cands r f d S (dayV r f d S b) w t ≠ [] := fun e => by rw [hsp.1 e] at his; simp [noWalk] at his
      obtain ⟨s, i, x, h1, h2, h3, h4, h5, h6, h7, h8⟩ := mem_cands.1 (hsp.2.1 hne).2
      have hL := (g.strip x (List.mem_of_getElem? h2)).2.2.2.2.2.1
      have hlt : w - x.L.toNat < w := by omega
      rw [h8]
      exact (dayV_ok g hb (w - x.L.toNat) s h1 h7).ext h2
termination_by w => w
/-- A walk that is no better than the best one, one stride on, is no better than the best one there. -/
theorem dayV_step {r : Roads} {f : Flock} (g : Good r f) {d : Int} {S : Nat} {b : Nat → WalkV} (hb : ∀ s, s < S → (b s).is = true → WOk r (b s)) {w t s i : Nat} {x : Strip} {A : WalkV} (hA : WOk r A) (ha : A.is = true) (hle : betterB A (dayV r f d S b w s) = false) (hd : (dayV r f d S b w s).is = true)
    (h1 : s < S) (h2 : r.strips[i]? = some x) (h3 : (endOf x (s : Int)).2 = true) (h4 : (endOf x (s : Int)).1 = (t : Int)) (h5 : openB r f (-1) i d = true) :
    betterB (extW A d i x.L) (dayV r f d S b (w + x.L.toNat) t) = false := by
  have k1 := ext_mono g hA (dayV_ok g hb w s h1 hd) ha hd hle d i x.L
  have k2 := dayV_best g (b := b) (w := w) h1 h2 h3 h4 h5 hd
  have hL := (g.strip x (List.mem_of_getElem? h2)).2.2.2.2.2.1
  have his : (dayV r f d S b (w + x.L.toNat) t).is = true := by
    rw [dayV_eq g (by omega)]
    refine ((minW_spec cands_is).2.1 fun e => ?_).1
    have hm : extW (dayV r f d S b (w + x.L.toNat - x.L.toNat) s) d i x.L ∈ cands r f d S (dayV r f d S b) (w + x.L.toNat) t := mem_cands.2 ⟨s, i, x, h1, h2, h3, h4, h5, by omega, by rw [show w + x.L.toNat - x.L.toNat = w by omega]; exact hd, rfl⟩
    rw [e] at hm; simp at hm
  cases hq : betterB (extW A d i x.L) (dayV r f d S b (w + x.L.toNat) t)
  · rfl
  · cases hr : betterB (extW (dayV r f d S b w s) d i x.L) (extW A d i x.L)
    · have := betterB_total rfl rfl k1 hr
      rw [this] at hq; rw [k2] at hq; simp at hq
    · have := betterB_trans rfl rfl his hr hq
      rw [k2] at this; simp at this
end Go.Proofs.Ytjgkgnfhglhklaa
namespace Go.Proofs.Ytjgkgnfhglhklaa
set_option linter.unusedSimpArgs false
set_option linter.unusedVariables false

/-- Strip i leads from stage s to stage t on the day. -/
structure LeadsS (r : Roads) (f : Flock) (d : Int) (s i : Nat) (x : Strip) (t : Nat) : Prop where
  at' : r.strips[i]? = some x
  ok : (endOf x (s : Int)).2 = true
  dst : (endOf x (s : Int)).1 = (t : Int)
  op : openB r f (-1) i d = true
/-- What stands in the cells of a day while it is worked out. -/
structure DayOk (r : Roads) (f : Flock) (d : Int) (S P : Nat) (b : Nat → WalkV) (M : Int) (q : Nat → Nat → WalkV) : Prop where
  no : ∀ t w, t < S → w ≤ P → (q t w).is = false → q t w = noWalk
  ok : ∀ t w, t < S → w ≤ P → (q t w).is = true → WOk r (q t w) ∧ (q t w).lg ≤ M + (w : Int) ∧ betterB (q t w) (dayV r f d S b w t) = false ∧ (dayV r f d S b w t).is = true
def Fin' (r : Roads) (f : Flock) (d : Int) (S P : Nat) (b : Nat → WalkV) (k : Nat) (q : Nat → Nat → WalkV) : Prop := ∀ t w, t < S → w ≤ P → w < k → q t w = dayV r f d S b w t
def Tried (r : Roads) (f : Flock) (d : Int) (S P : Nat) (c : Bool) (k : Nat) (q : Nat → Nat → WalkV) (s w i : Nat) : Prop :=
  (w < k ∨ c = false) → ∀ x t, LeadsS r f d s i x t → w + x.L.toNat ≤ P → t < S → (q s w).is = true → betterB (extW (q s w) d i x.L) (q t (w + x.L.toNat)) = false
def setW (q : Nat → Nat → WalkV) (t w : Nat) (A : WalkV) : Nat → Nat → WalkV := fun a b => if a = t ∧ b = w then A else q a b
/-- What holds in a pass, before strip i behind the walk at stage s over w leagues is tried. -/
structure PassAt (r : Roads) (f : Flock) (d : Int) (S P : Nat) (b : Nat → WalkV) (M : Int) (k : Nat) (s w i : Nat) (c : Bool) (q : Nat → Nat → WalkV) : Prop where
  ok : DayOk r f d S P b M q
  fin : Fin' r f d S P b k q
  ch : c = true → k ≤ P
  tried : ∀ s' w' i', s' < S → w' ≤ P → i' < r.strips.length → (s' < s ∨ s' = s ∧ (w' < w ∨ w' = w ∧ i' < i)) → Tried r f d S P c k q s' w' i'

section
variable {r : Roads} {f : Flock} (g : Good r f) {d : Int} {S P : Nat} {b : Nat → WalkV} {M : Int} {k s w i : Nat} {c : Bool} {q : Nat → Nat → WalkV}
theorem PassAt.start (h : DayOk r f d S P b M q) (hf : Fin' r f d S P b k q) : PassAt r f d S P b M k 0 0 0 false q := ⟨h, hf, by simp, fun s' w' i' _ _ _ h => by omega⟩
theorem PassAt.skip (h : PassAt r f d S P b M k s w i c q) (hno : ∀ x t, LeadsS r f d s i x t → w + x.L.toNat ≤ P → t < S → betterB (extW (q s w) d i x.L) (q t (w + x.L.toNat)) = false) : PassAt r f d S P b M k s w (i + 1) c q :=
  ⟨h.ok, h.fin, h.ch, fun s' w' i' h1 h2 h3 h4 => by
    by_cases e : s' = s ∧ w' = w ∧ i' = i
    · obtain ⟨rfl, rfl, rfl⟩ := e
      exact fun _ x t l1 l2 l3 _ => hno x t l1 l2 l3
    · exact h.tried s' w' i' h1 h2 h3 (by omega)⟩
theorem PassAt.nextW (h : PassAt r f d S P b M k s w i c q) (hd : r.strips.length ≤ i ∨ (q s w).is = false) : PassAt r f d S P b M k s (w + 1) 0 c q :=
  ⟨h.ok, h.fin, h.ch, fun s' w' i' h1 h2 h3 h4 => by
    rcases hd with hd | hd
    · exact h.tried s' w' i' h1 h2 h3 (by omega)
    · by_cases e : s' = s ∧ w' = w
      · obtain ⟨rfl, rfl⟩ := e
        exact fun _ x t _ _ _ his => by rw [hd] at his; simp at his
      · exact h.tried s' w' i' h1 h2 h3 (by omega)⟩
theorem PassAt.nextS (h : PassAt r f d S P b M k s (P + 1) 0 c q) : PassAt r f d S P b M k (s + 1) 0 0 c q :=
  ⟨h.ok, h.fin, h.ch, fun s' w' i' h1 h2 h3 h4 => h.tried s' w' i' h1 h2 h3 (by omega)⟩
include g in
theorem PassAt.set (hb : ∀ s, s < S → (b s).is = true → WOk r (b s)) (h : PassAt r f d S P b M k s w i c q) {x : Strip} {t : Nat} (hl : LeadsS r f d s i x t) (hw : w + x.L.toNat ≤ P) (hs : s < S) (ht : t < S) (his : (q s w).is = true)
    (hbt : betterB (extW (q s w) d i x.L) (q t (w + x.L.toNat)) = true) : PassAt r f d S P b M k s w (i + 1) true (setW q t (w + x.L.toNat) (extW (q s w) d i x.L)) := by
  have hL := (g.strip x (List.mem_of_getElem? hl.at')).2.2.2.2.2.1
  obtain ⟨o1, o2, o3, o4⟩ := h.ok.ok s w hs (by omega) his
  have hstep := dayV_step g hb o1 his o3 o4 hs hl.at' hl.ok hl.dst hl.op
  have hdis : (dayV r f d S b (w + x.L.toNat) t).is = true := by
    rw [dayV_eq g (by omega)]
    refine ((minW_spec cands_is).2.1 fun e => ?_).1
    have hm : extW (dayV r f d S b (w + x.L.toNat - x.L.toNat) s) d i x.L ∈ cands r f d S (dayV r f d S b) (w + x.L.toNat) t := mem_cands.2 ⟨s, i, x, hs, hl.at', hl.ok, hl.dst, hl.op, by omega, by rw [show w + x.L.toNat - x.L.toNat = w by omega]; exact o4, rfl⟩
    rw [e] at hm; simp at hm
  -- a cell that is final does not turn
  have hk : k ≤ w + x.L.toNat := by
    by_cases hk : k ≤ w + x.L.toNat
    · exact hk
    · rw [h.fin t _ ht hw (by omega), hstep] at hbt; simp at hbt
  have hoth : ∀ a b', ¬ (a = t ∧ b' = w + x.L.toNat) → setW q t (w + x.L.toNat) (extW (q s w) d i x.L) a b' = q a b' := fun a b' e => if_neg e
  have hsame : setW q t (w + x.L.toNat) (extW (q s w) d i x.L) t (w + x.L.toNat) = extW (q s w) d i x.L := if_pos ⟨rfl, rfl⟩
  refine ⟨⟨fun a b' h1 h2 h3 => ?_, fun a b' h1 h2 h3 => ?_⟩, fun a b' h1 h2 h3 => ?_, fun _ => by omega, fun s' w' i' h1 h2 h3 h4 hc x' t' l1 l2 l3 l4 => ?_⟩
  · by_cases e : a = t ∧ b' = w + x.L.toNat
    · obtain ⟨rfl, rfl⟩ := e
      rw [hsame] at h3; simp [extW] at h3
    · rw [hoth a b' e] at h3 ⊢; exact h.ok.no a b' h1 h2 h3
  · by_cases e : a = t ∧ b' = w + x.L.toNat
    · obtain ⟨rfl, rfl⟩ := e
      rw [hsame]
      refine ⟨o1.ext hl.at', ?_, hstep, hdis⟩
      show (q s w).lg + x.L ≤ _
      omega
    · rw [hoth a b' e] at h3 ⊢; exact h.ok.ok a b' h1 h2 h3
  · rw [hoth a b' (by omega)]; exact h.fin a b' h1 h2 h3
  · have hwk : w' < k := by simpa using hc
    have hne : ¬ (s' = t ∧ w' = w + x.L.toNat) := by omega
    rw [hoth s' w' hne] at l4 ⊢
    have hX : betterB (extW (q s' w') d i' x'.L) (q t' (w' + x'.L.toNat)) = false ∨ s' = s ∧ w' = w ∧ i' = i := by
      by_cases e : s' = s ∧ w' = w ∧ i' = i
      · exact .inr e
      · exact .inl (h.tried s' w' i' h1 h2 h3 (by omega) (.inl hwk) x' t' l1 l2 l3 l4)
    rcases hX with hX | ⟨rfl, rfl, rfl⟩
    · by_cases e2 : t' = t ∧ w' + x'.L.toNat = w + x.L.toNat
      · obtain ⟨rfl, e3⟩ := e2
        rw [e3, hsame]
        rw [e3] at hX
        cases hq : betterB (extW (q s' w') d i' x'.L) (extW (q s w) d i x.L)
        · rfl
        · cases hz : (q t' (w + x.L.toNat)).is
          · rw [better_none rfl hz] at hX; simp at hX
          · rw [betterB_trans rfl rfl hz hq hbt] at hX; simp at hX
      · rw [hoth t' _ e2]; exact hX
    · obtain rfl : x' = x := by have := l1.at'; rw [hl.at'] at this; simpa using this.symm
      obtain rfl : t' = t := by have h1 := l1.dst; have h2 := hl.dst; omega
      rw [hsame]; exact betterB_irrefl _ rfl
include g in
theorem fin_next (h : DayOk r f d S P b M q) (hf : Fin' r f d S P b k q) (hk0 : 1 ≤ k) (ht : ∀ s w i, s < S → w ≤ P → i < r.strips.length → Tried r f d S P true k q s w i) : Fin' r f d S P b (k + 1) q := fun t w h1 h2 h3 => by
  by_cases hwk : w < k
  · exact hf t w h1 h2 hwk
  obtain rfl : w = k := by omega
  have hsp := minW_spec (l := cands r f d S (dayV r f d S b) w t) cands_is
  have hdv := dayV_eq g (d := d) (S := S) (b := b) (w := w) (t := t) (by omega)
  by_cases hne : cands r f d S (dayV r f d S b) w t = []
  · have e1 : dayV r f d S b w t = noWalk := by rw [hdv]; exact hsp.1 hne
    rw [e1]
    cases hq : (q t w).is
    · exact h.no t w h1 h2 hq
    · have := (h.ok t w h1 h2 hq).2.2.2
      rw [e1] at this; simp [noWalk] at this
  · obtain ⟨k1, k2⟩ := hsp.2.1 hne
    rw [← hdv] at k1 k2
    obtain ⟨s, i, x, j1, j2, j3, j4, j5, j6, j7, j8⟩ := mem_cands.1 k2
    have hL := (g.strip x (List.mem_of_getElem? j2)).2.2.2.2.2.1
    have e2 := hf s (w - x.L.toNat) j1 (by omega) (by omega)
    have hT := ht s (w - x.L.toNat) i j1 (by omega) (List.getElem?_eq_some_iff.1 j2).1 (.inl (by omega)) x t ⟨j2, j3, j4, j5⟩ (by omega) h1 (by rw [e2]; exact j7)
    rw [e2, ← j8, show w - x.L.toNat + x.L.toNat = w by omega] at hT
    cases hq : (q t w).is
    · rw [better_none k1 hq] at hT; simp at hT
    · exact (betterB_total k1 hq hT (h.ok t w h1 h2 hq).2.2.1).symm
include g in
theorem PassAt.done (h : PassAt r f d S P b M k S 0 0 c q) (hk0 : 1 ≤ k) : DayOk r f d S P b M q ∧ (c = true → k ≤ P ∧ Fin' r f d S P b (k + 1) q) ∧ (c = false → ∀ t w, t < S → w ≤ P → q t w = dayV r f d S b w t) := by
  have hT : ∀ s w i, s < S → w ≤ P → i < r.strips.length → Tried r f d S P c k q s w i := fun s w i h1 h2 h3 => h.tried s w i h1 h2 h3 (by omega)
  refine ⟨h.ok, fun hc => ⟨h.ch hc, fin_next g h.ok h.fin hk0 fun s w i h1 h2 h3 => by subst hc; exact hT s w i h1 h2 h3⟩, fun hc => ?_⟩
  have hT' : ∀ k' s w i, s < S → w ≤ P → i < r.strips.length → Tried r f d S P true k' q s w i := fun k' s w i h1 h2 h3 _ => hT s w i h1 h2 h3 (.inr hc)
  have hall : ∀ n, Fin' r f d S P b (k + n) q := fun n => by
    induction n with
    | zero => exact h.fin
    | succ n ih => exact fin_next (k := k + n) g h.ok ih (Nat.le_trans hk0 (Nat.le_add_right k n)) (hT' _)
  exact fun t w h1 h2 => hall (P + 1) t w h1 h2 (by omega)
/-- How a day begins. -/
theorem day_begin (hno : ∀ s, s < S → (b s).is = false → b s = noWalk) (hb : ∀ s, s < S → (b s).is = true → WOk r (b s) ∧ (b s).lg ≤ M) : DayOk r f d S P b M (fun t w => if w = 0 then b t else noWalk) ∧ Fin' r f d S P b 1 (fun t w => if w = 0 then b t else noWalk) := by
  refine ⟨⟨fun t w h1 h2 h3 => ?_, fun t w h1 h2 h3 => ?_⟩, fun t w h1 h2 h3 => ?_⟩
  · by_cases e : w = 0
    · rw [if_pos e] at h3 ⊢; exact hno t h1 h3
    · rw [if_neg e]
  · by_cases e : w = 0
    · subst e
      rw [if_pos rfl] at h3 ⊢
      rw [dayV_zero]
      exact ⟨(hb t h1 h3).1, by have := (hb t h1 h3).2; omega, betterB_irrefl _ h3, h3⟩
    · rw [if_neg e] at h3; simp [noWalk] at h3
  · obtain rfl : w = 0 := by omega
    dsimp only
    rw [if_pos rfl, dayV_zero]
end
end Go.Proofs.Ytjgkgnfhglhklaa
