/- Plans that lie in memory stay where a row of days is written; what mestaref02.first remembers: plain laws. -/
import Derived.Test.YtjgkgnfhglhklaaNightP
import Derived.Test.YtjgkgnfhglhklaaBestP
import Derived.Test.YtjgkgnfhglhklaaWGrid
/- The reference's best walk is the program's plan: plain laws. -/
namespace Go.Proofs.Ytjgkgnfhglhklaa
set_option linter.unusedSimpArgs false
set_option linter.unusedVariables false

/-- What is still to be walked to stage tt, to be there in the night of the day last: leagues and strides. -/
inductive Still (r : Roads) (f : Flock) (tt last : Int) : Int → Int × Int → Int → List (Int × Int) → Prop
  | done (p : Int × Int) : p.1 = tt → Still r f tt last (last + 1) p 0 []
  | night (d : Int) (p : Int × Int) (l : Int) (pl : List (Int × Int)) : d ≤ last → Still r f tt last (d + 1) (p.1, 0) l pl → Still r f tt last d p l pl
  | step (d : Int) (p q : Int × Int) (i : Nat) (l : Int) (pl : List (Int × Int)) : d ≤ last → stepOk r f (-1) d p i = some q → Still r f tt last d q l pl → Still r f tt last d p ((q.2 - p.2) + l) ((d, (i : Int)) :: pl)
theorem lexB_nil (a : List (Int × Int)) : lexB a [] = false := by cases a <;> simp [lexB]
theorem bestTo_at {r : Roads} {f : Flock} {shut d : Int} {V : Int × Int → Int} {p q : Int × Int} {b0 : Int} {i : Nat} (hq : stepOk r f shut d p i = some q) : ∀ {k : Nat}, i < k → bestTo r f shut V d p b0 k ≤ (q.2 - p.2) + V q
  | 0, h => by omega
  | k + 1, h => by
    rw [bestTo]
    by_cases e : i = k
    · subst e; rw [hq]; dsimp only; omega
    · have ih := bestTo_at (V := V) (b0 := b0) hq (k := k) (by omega)
      cases hs : stepOk r f shut d p k with
      | none => exact ih
      | some q' => dsimp only; omega
theorem bestTo_first {r : Roads} {f : Flock} {shut d : Int} {V : Int × Int → Int} {p : Int × Int} {b0 : Int} : ∀ {k : Nat}, bestTo r f shut V d p b0 k ≤ b0
  | 0 => Int.le_refl _
  | k + 1 => by
    have ih := bestTo_first (r := r) (f := f) (shut := shut) (d := d) (V := V) (p := p) (b0 := b0) (k := k)
    rw [bestTo]
    cases hs : stepOk r f shut d p k with
    | none => exact ih
    | some q' => dsimp only; omega
/-- The pick is the first strip that goes on along a best plan. -/
theorem pick_le {r : Roads} {f : Flock} {shut d left : Int} {V : Int × Int → Int} {p q : Int × Int} {i : Nat} (hq : stepOk r f shut d p i = some q) (hv : (q.2 - p.2) + V q = left) : ∀ {k : Nat}, i < k → ∃ j q', pickTo r f shut V d p left k = some (j, q') ∧ j ≤ i
  | 0, h => by omega
  | k + 1, h => by
    by_cases e : i = k
    · subst e
      cases h0 : pickTo r f shut V d p left i with
      | some x =>
        obtain ⟨j, q'⟩ := x
        exact ⟨j, q', pick_mono h0 (by omega), by have := (pick_spec h0).2.2; omega⟩
      | none => exact ⟨i, q, pick_this h0 hq hv, Nat.le_refl _⟩
    · obtain ⟨j, q', h1, h2⟩ := pick_le (V := V) hq hv (k := k) (by omega)
      exact ⟨j, q', pick_mono h1 (by omega), h2⟩
section
variable {r : Roads} {f : Flock} (g : Good r f) {tt last : Int}
theorem Still.le {d : Int} {p : Int × Int} {l : Int} {pl : List (Int × Int)} (h : Still r f tt last d p l pl) : d ≤ last + 1 := by
  cases h with
  | done => omega
  | night _ _ _ _ h => omega
  | step _ _ _ _ _ _ h => omega
include g in
theorem Still.nonneg {d : Int} {p : Int × Int} {l : Int} {pl : List (Int × Int)} (h : Still r f tt last d p l pl) : 0 ≤ l := by
  induction h with
  | done => omega
  | night _ _ _ _ _ _ ih => exact ih
  | step d p q i l pl _ hq _ ih => have := (stepOk_up g hq).1; omega
include g in
theorem Still.togo (h3 : last ≤ 100) {d : Int} {p : Int × Int} {l : Int} {pl : List (Int × Int)} (h : Still r f tt last d p l pl) : 0 ≤ d → 0 ≤ p.2 → p.2 ≤ f.pace → togoV r f (-1) tt last d p ≤ l := by
  have hp1 := g.p1
  induction h with
  | done p hp => intro _ _ _; rw [togoV_end (by omega), if_pos hp]; omega
  | night d p l pl hd _ ih =>
    intro h0 h4 h5
    rw [togoV_eq g h0 hd h3 h4 h5]
    exact Int.le_trans bestTo_first (ih (by omega) (Int.le_refl _) (by dsimp only; omega))
  | step d p q i l pl hd hq _ ih =>
    intro h0 h4 h5
    obtain ⟨u1, u2, _, _⟩ := stepOk_up g hq
    rw [togoV_eq g h0 hd h3 h4 h5]
    have h6 := ih h0 (by omega) u2
    have h7 := bestTo_at (V := togoV r f (-1) tt last d) (b0 := togoV r f (-1) tt last (d + 1) (p.1, 0)) hq (stepOk_lt hq)
    omega
theorem Still.day {d : Int} {p : Int × Int} {l : Int} {pl : List (Int × Int)} (h : Still r f tt last d p l pl) : ∀ x ∈ pl, d ≤ x.1 := by
  induction h with
  | done => simp
  | night d p l pl _ _ ih => intro x hx; have := ih x hx; omega
  | step d p q i l pl _ _ _ ih =>
    intro x hx
    rcases List.mem_cons.1 hx with rfl | hx
    · exact Int.le_refl _
    · exact ih x hx
theorem Still.nil {d : Int} {p : Int × Int} {l : Int} {pl : List (Int × Int)} (h : Still r f tt last d p l pl) : pl = [] → l = 0 := by
  induction h with
  | done => intro _; rfl
  | night _ _ _ _ _ _ ih => exact ih
  | step => intro e; simp at e
include g in
/-- Of the plans of fewest leagues, the program's is the first. -/
theorem Still.lex (h3 : last ≤ 100) {d : Int} {p : Int × Int} {l : Int} {pl : List (Int × Int)} (h : Still r f tt last d p l pl) : ∀ k : Nat, 0 ≤ d → 0 ≤ p.2 → p.2 ≤ f.pace → togoV r f (-1) tt last d p = l → lexB pl (planF r f (-1) (togoV r f (-1) tt last) k d p l) = false := by
  have hp1 := g.p1
  induction h with
  | done p hp => intro k _ _ _ _; rw [planF_stop (by omega)]; exact lexB_nil _
  | night d p l pl hd hst ih =>
    intro k h0 h4 h5 hv
    cases k with
    | zero => exact lexB_nil _
    | succ k =>
      by_cases hz : 0 < l
      · have h6 := hst.togo g h3 (by omega) (Int.le_refl _) (by dsimp only; omega)
        have h7 : togoV r f (-1) tt last (d + 1) (p.1, 0) = l := by
          rw [togoV_eq g h0 hd h3 h4 h5] at hv
          have := bestTo_first (r := r) (f := f) (shut := -1) (d := d) (V := togoV r f (-1) tt last d) (p := p) (b0 := togoV r f (-1) tt last (d + 1) (p.1, 0)) (k := r.strips.length)
          omega
        cases hp : pickTo r f (-1) (togoV r f (-1) tt last d) d p l r.strips.length with
        | some x =>
          obtain ⟨i, q⟩ := x
          rw [planF_step hz hp]
          cases pl with
          | nil =>
            have := hst.nil rfl
            omega
          | cons x pl =>
            have := hst.day x (by simp)
            rw [lexB, if_pos (by dsimp only; omega)]
            exact decide_eq_false (by dsimp only; omega)
        | none =>
          rw [planF_wait hz hp]
          exact ih k (by omega) (Int.le_refl _) (by dsimp only; omega) h7
      · rw [planF_stop hz]; exact lexB_nil _
  | step d p q i l pl hd hq hst ih =>
    intro k h0 h4 h5 hv
    cases k with
    | zero => exact lexB_nil _
    | succ k =>
      obtain ⟨u1, u2, _, _⟩ := stepOk_up g hq
      have h6 := hst.togo g h3 h0 (by omega) u2
      have h7 := bestTo_at (V := togoV r f (-1) tt last d) (b0 := togoV r f (-1) tt last (d + 1) (p.1, 0)) hq (stepOk_lt hq)
      have h8 : togoV r f (-1) tt last d q = l := by
        rw [togoV_eq g h0 hd h3 h4 h5] at hv
        omega
      have h9 := hst.nonneg g
      obtain ⟨j, q', h10, h11⟩ := pick_le (V := togoV r f (-1) tt last d) (left := q.2 - p.2 + l) hq (by omega) (stepOk_lt hq)
      rw [planF_step (by omega) h10]
      by_cases e : j = i
      · subst e
        obtain ⟨k1, _, _⟩ := pick_spec h10
        rw [hq] at k1
        obtain rfl := Option.some.inj k1
        rw [lexB, if_neg (by simp), if_neg (by simp), show q.2 - p.2 + l - (q.2 - p.2) = l by omega]
        exact ih k h0 (by omega) u2 h8
      · rw [lexB, if_neg (by simp), if_pos (by dsimp only; omega)]
        exact decide_eq_false (by dsimp only; omega)
theorem still_end : ∀ (k : Nat) (d : Int) (p : Int × Int), p.1 = tt → last + 1 - d = (k : Int) → Still r f tt last d p 0 []
  | 0, d, p, hp, hk => by
    obtain rfl : d = last + 1 := by omega
    exact .done p hp
  | k + 1, d, p, hp, hk => .night d p 0 [] (by omega) (still_end k (d + 1) (p.1, 0) hp (by omega))
include g in
/-- The program's plan leads there. -/
theorem plan_still (h3 : last ≤ 100) : ∀ (k : Nat) (d : Int) (p : Int × Int) (left : Int), 0 ≤ d → d ≤ last + 1 → 0 ≤ p.2 → p.2 ≤ f.pace → rank f last d p.2 < (k : Int) → togoV r f (-1) tt last d p = left → left < farI →
    Still r f tt last d p left (planF r f (-1) (togoV r f (-1) tt last) k d p left)
  | 0, d, p, left, h0, h1, h4, h5, hk, hv, hf => by have := rank_nonneg (f := f) h1 (by have := g.p1; omega) h5; omega
  | k + 1, d, p, left, h0, h1, h4, h5, hk, hv, hf => by
    have hp1 := g.p1
    have hr0 := (togoV_range g (shut := -1) (tt := tt) (last := last) (d := d) (p := p)).1
    by_cases hz : 0 < left
    · have hle : d ≤ last := by
        by_cases c : d ≤ last
        · exact c
        · rw [togoV_end (by omega)] at hv
          by_cases c2 : p.1 = tt
          · rw [if_pos c2] at hv; omega
          · rw [if_neg c2] at hv; omega
      cases hp : pickTo r f (-1) (togoV r f (-1) tt last d) d p left r.strips.length with
      | some x =>
        obtain ⟨i, q⟩ := x
        obtain ⟨s1, s2, s3⟩ := pick_spec hp
        obtain ⟨u1, u2, _, _⟩ := stepOk_up g s1
        rw [planF_step hz hp]
        have hr := rank_step (f := f) (last := last) (d := d) u1
        have ih := plan_still h3 k d q (left - (q.2 - p.2)) h0 h1 (by omega) u2 (by omega) (by omega) (by omega)
        have hs := Still.step d p q i _ _ hle s1 ih
        rwa [show q.2 - p.2 + (left - (q.2 - p.2)) = left by omega] at hs
      | none =>
        rw [planF_wait hz hp]
        have hb := pick_none (b0 := togoV r f (-1) tt last (d + 1) (p.1, 0)) hp (by rw [← togoV_eq g h0 hle h3 h4 h5]; exact hv)
        have hr := rank_day (f := f) (last := last) hle (by omega) h5
        exact .night d p _ _ hle (plan_still h3 k (d + 1) (p.1, 0) left (by omega) (by omega) (Int.le_refl _) (by dsimp only; omega) (by dsimp only; omega) hb hf)
    · rw [planF_stop hz]
      obtain rfl : left = 0 := by omega
      have hpt := togo_zero g h3 (last + 1 - d).toNat d p h0 h1 (by omega) h4 h5 hv
      exact still_end (last + 1 - d).toNat d p hpt (by omega)
include g in
theorem Going.low {day : Int} {fr : Nat} {d : Int} {p : Int × Int} {A : WalkV} (h : Going r f day fr d p A) : 0 ≤ p.2 := by
  induction h with
  | start => exact Int.le_refl _
  | night => exact Int.le_refl _
  | step d p q A i _ hq ih => have := (stepOk_up g hq).1; omega
include g in
theorem Going.still {day : Int} {fr : Nat} {d : Int} {p : Int × Int} {A : WalkV} (h : Going r f day fr d p A) : (d ≤ last ∨ p.2 = 0) → ∀ {l : Int} {pl : List (Int × Int)}, Still r f tt last d p l pl → Still r f tt last day ((fr : Int), 0) (A.lg + l) (A.pl ++ pl) := by
  induction h with
  | start => intro _ l pl h; simpa using h
  | night d p A _ ih => intro _ l pl h; exact ih (.inl (by have := h.le; omega)) (.night d p l pl (by have := h.le; omega) h)
  | step d p q A i hg hq ih =>
    intro hd l pl h
    have h0 := hg.low g
    have hd' : d ≤ last := by have := (stepOk_up g hq).1; omega
    have h1 := ih (.inl hd') (.step d p q i l pl hd' hq h)
    show Still r f tt last day ((fr : Int), 0) (A.lg + (q.2 - p.2) + l) ((A.pl ++ [(d, (i : Int))]) ++ pl)
    rw [List.append_assoc, List.singleton_append, Int.add_assoc]
    exact h1
theorem Still.going {day : Int} {fr : Nat} {d : Int} {p : Int × Int} {l : Int} {pl : List (Int × Int)} (h : Still r f tt last d p l pl) : (d ≤ last ∨ p.2 = 0) → ∀ {A : WalkV}, A.is = true → Going r f day fr d p A → Going r f day fr (last + 1) (tt, 0) ⟨true, A.lg + l, A.pl ++ pl⟩ := by
  induction h with
  | done p hp =>
    intro hd A hA h
    obtain ⟨ai, al, ap⟩ := A
    dsimp only at hA; subst hA
    obtain ⟨p1, p2⟩ := p
    dsimp only at hp hd
    subst hp
    obtain rfl : p2 = 0 := by omega
    simpa using h
  | night d p l pl _ _ ih => intro _ A hA h; exact ih (.inr rfl) hA h.night
  | step d p q i l pl hd hq _ ih =>
    intro _ A hA h
    have hu := ih (.inl hd) (A := extW A d i (q.2 - p.2)) rfl (h.step _ _ _ _ _ hq)
    have e : A.lg + (q.2 - p.2) + l = A.lg + (q.2 - p.2 + l) := by omega
    have e2 : (A.pl ++ [(d, (i : Int))]) ++ pl = A.pl ++ ((d, (i : Int)) :: pl) := by simp
    rw [← e, ← e2]; exact hu
include g in
/-- The reference's walk is the program's plan. -/
theorem plan_first {S P fr t : Nat} (hS : r.stages = (S : Int)) (hP : f.pace = (P : Int)) (hfr : fr < S) (ht : t < S) {day : Int} (k : Nat) (h0 : 0 ≤ day) (hd : day + (k : Int) ≤ 100) (his : (walksTo r f S P (beginV fr) day (k + 1) t).is = true) : (walksTo r f S P (beginV fr) day (k + 1) t).pl = planL r f (-1) (t : Int) (day + (k : Int)) day (fr : Int) := by
  have hp1 := g.p1
  have hg := walks_going g hP (day := day) (k + 1) t ht his
  rw [show day + ((k + 1 : Nat) : Int) = day + (k : Int) + 1 by omega] at hg
  have hst := hg.still g (tt := (t : Int)) (last := day + (k : Int)) (.inr rfl) (.done _ rfl)
  rw [Int.add_zero, List.append_nil] at hst
  have hto := hst.togo g (by omega) h0 (Int.le_refl _) (by dsimp only; omega)
  have hlow := hst.nonneg g
  have hfar : togoV r f (-1) (t : Int) (day + (k : Int)) day ((fr : Int), 0) < farI := by
    have h1 := ((walks_ok (P := P) (day := day) g (begin_ok r S fr) (k + 1)).ok t ht his).2
    have hP9 := g.p2
    have h2 : ((k + 1 : Nat) : Int) * (P : Int) ≤ 101 * 9 := Int.mul_le_mul (by omega) (by omega) (by omega) (by omega)
    unfold farI; omega
  have hpl := plan_still g (tt := (t : Int)) (last := day + (k : Int)) (by omega) 2000 day ((fr : Int), 0) _ h0 (by omega) (Int.le_refl _) (by dsimp only; omega) (by have := rank_lt g (f := f) (last := day + (k : Int)) (d := day) (l := 0) h0 (by omega) (by omega) (Int.le_refl _); dsimp only; omega) rfl hfar
  have hgo := hpl.going (day := day) (fr := fr) (.inl (by omega)) (A := ⟨true, 0, []⟩) rfl .start
  dsimp only at hgo
  rw [Int.zero_add, List.nil_append] at hgo
  obtain ⟨k', t', w', e1, e2, _, _, _, _, _, hbest⟩ := hgo.min g hS hP hfr
  simp only [Prod.mk.injEq] at e2
  obtain rfl : k' = k + 1 := by omega
  obtain rfl : t' = t := by omega
  obtain rfl : w' = 0 := by omega
  rw [dayV_zero] at hbest
  have hlex := hst.lex g (by omega) 2000 h0 (Int.le_refl _) (by dsimp only; omega)
  generalize walksTo r f S P (beginV fr) day (k + 1) t' = A at his hst hto hlow hbest hlex ⊢
  have hrev : betterB A ⟨true, togoV r f (-1) (t' : Int) (day + (k : Int)) day ((fr : Int), 0), planF r f (-1) (togoV r f (-1) (t' : Int) (day + (k : Int))) 2000 day ((fr : Int), 0) (togoV r f (-1) (t' : Int) (day + (k : Int)) day ((fr : Int), 0))⟩ = false := by
    unfold betterB
    simp only [his, Bool.not_true, Bool.or_self, Bool.false_eq_true, if_false]
    by_cases e : A.lg = togoV r f (-1) (t' : Int) (day + (k : Int)) day ((fr : Int), 0)
    · rw [if_neg (by simp [e])]
      have := hlex e.symm
      rwa [e] at this
    · rw [if_pos e]; exact decide_eq_false (by omega)
  have heq := betterB_total his rfl hrev hbest
  rw [heq]
  rfl
end
end Go.Proofs.Ytjgkgnfhglhklaa
namespace Go.Proofs.Ytjgkgnfhglhklaa
set_option linter.unusedSimpArgs false
set_option linter.unusedVariables false
open Go.RowKit

/-- The strides of a plan are no negative numbers. -/
def NonNeg (l : List (Int × Int)) : Prop := ∀ x ∈ l, 0 ≤ x.1 ∧ 0 ≤ x.2
theorem StridesAt.neg {w : World} {a : Option Addr} {l : List (Int × Int)} (h : StridesAt w a l) (hn : NonNeg l) {g s : Nat} {v : Int} (hc : w.cell? ⟨g, s, none⟩ = some (.int .i64 v)) (hv : v < 0) (x : Value) : StridesAt (w.setCell ⟨g, s, none⟩ x) a l := by
  rcases h with h | ⟨b, o, ha, h⟩
  · exact .inl h
  · refine .inr ⟨b, o, ha, fun i hi => ?_⟩
    obtain ⟨h1, h2⟩ := h i hi
    obtain ⟨n1, n2⟩ := hn _ (List.getElem_mem hi)
    have key : ∀ (j : Nat) (u : Int), 0 ≤ u → w.cell? ⟨b, j, none⟩ = some (.int .i64 u) → (w.setCell ⟨g, s, none⟩ x).cell? ⟨b, j, none⟩ = some (.int .i64 u) := fun j u hu hj => by
      by_cases e : b = g
      · subst e
        have hne : j ≠ s := by
          intro e; subst e
          rw [hj] at hc
          simp at hc; omega
        simp only [World.cell?, World.setCell, Array.getElem?_modify] at hj ⊢
        cases hb : w.heap[b]? with
        | none => rw [hb] at hj; simp at hj
        | some ob =>
          rw [hb] at hj
          cases ob <;> simp at hj ⊢
          rw [Array.getElem?_setIfInBounds_ne (by omega)]
          exact hj
      · exact (World.cell?_of_block (Below.heap_setCell _ ⟨g, s, none⟩ _ b e)).trans hj
    exact ⟨key _ _ n1 h1, key _ _ n2 h2⟩
theorem Going.days {r : Roads} {f : Flock} {day : Int} {fr : Nat} {d : Int} {p : Int × Int} {A : WalkV} (h : Going r f day fr d p A) (h0 : 0 ≤ day) : day ≤ d ∧ NonNeg A.pl := by
  induction h with
  | start => exact ⟨Int.le_refl _, fun x hx => by simp at hx⟩
  | night d p A _ ih => exact ⟨by have := ih.1; omega, ih.2⟩
  | step d p q A i _ _ ih =>
    refine ⟨ih.1, fun x hx => ?_⟩
    rcases List.mem_append.1 hx with hx | hx
    · exact ih.2 x hx
    · obtain rfl : x = (d, (i : Int)) := by simpa using hx
      exact ⟨by have := ih.1; show 0 ≤ d; omega, by show (0 : Int) ≤ (i : Int); omega⟩
section
variable {r : Roads} {f : Flock} (g : Good r f) {S P fr : Nat} (hP : f.pace = (P : Int)) {day : Int} (h0 : 0 ≤ day)
include g hP h0
theorem walks_nonneg (k t : Nat) (ht : t < S) : NonNeg (walksTo r f S P (beginV fr) day k t).pl := by
  cases his : (walksTo r f S P (beginV fr) day k t).is
  · rw [(walks_ok (P := P) (day := day) g (begin_ok r S fr) k).no t ht his]; intro x hx; simp [noWalk] at hx
  · exact ((walks_going g hP (day := day) k t ht his).days h0).2
end
/-- What is remembered after k days: of each stage that was reached the day and the walk. -/
def RecOk (r : Roads) (f : Flock) (S P fr : Nat) (day : Int) (dv : Nat → Int) (k s : Nat) (q : WalkV) : Prop :=
  (dv s < 0 → q = noWalk) ∧ (0 ≤ dv s → ∃ j, j < k ∧ dv s = day + (j : Int) ∧ q = walksTo r f S P (beginV fr) day (j + 1) s ∧ q.is = true)
/-- The day of a stage behind the days, and its turning. -/
def dayTo (r : Roads) (f : Flock) (fr : Nat) (day : Int) (k s : Nat) : Int := (comesTo r f (-1) (0 ||| 1 <<< fr) day k).getD s 0
theorem dayTo_zero {r : Roads} {f : Flock} {S fr : Nat} (hS : r.stages = (S : Int)) {day : Int} {s : Nat} (hs : s < S) : dayTo r f fr day 0 s = -1 := by
  unfold dayTo
  rw [comesTo, List.getD_eq_getElem?_getD, List.getElem?_replicate, if_pos (by omega)]; rfl
theorem updTo_getD' {l : List Int} {m : Nat} {d : Int} {j s : Nat} (h : s < l.length) : (updTo l m d j).getD s 0 = if s < j ∧ l.getD s 0 < 0 ∧ m.testBit s = true then d else l.getD s 0 := by
  rw [List.getD_eq_getElem?_getD, List.getD_eq_getElem?_getD]
  simp only [updTo, List.getElem?_mapIdx, List.getElem?_eq_getElem h, Option.map_some, Option.getD_some]
  by_cases c : s < j ∧ l[s] < 0 ∧ m.testBit s = true
  · rw [if_pos c, if_pos (by simp [c.1, c.2.1, c.2.2])]
  · rw [if_neg c, if_neg (by simpa [and_assoc] using c)]
section
variable {r : Roads} {f : Flock} (g : Good r f) {S P fr : Nat} (hS : r.stages = (S : Int)) (hP : f.pace = (P : Int)) {day : Int}
include hS in
theorem dayTo_next {k s : Nat} (hs : s < S) : dayTo r f fr day (k + 1) s = if dayTo r f fr day k s < 0 ∧ (nightsTo r f (-1) (0 ||| 1 <<< fr) day (k + 1)).testBit s = true then day + (k : Int) else dayTo r f fr day k s := by
  unfold dayTo
  rw [comesTo, updTo_getD' (by rw [comesTo_len]; omega)]
  by_cases c : (comesTo r f (-1) (0 ||| 1 <<< fr) day k).getD s 0 < 0 ∧ (nightsTo r f (-1) (0 ||| 1 <<< fr) day (k + 1)).testBit s = true
  · rw [if_pos c, if_pos ⟨by omega, c⟩]
  · rw [if_neg c, if_neg fun h => c h.2]
include g hS hP in
theorem rec_take (h0 : 0 ≤ day) {k s : Nat} (hs : s < S) (h : dayTo r f fr day k s < 0) (his : (walksTo r f S P (beginV fr) day (k + 1) s).is = true) : dayTo r f fr day (k + 1) s = day + (k : Int) ∧ RecOk r f S P fr day (dayTo r f fr day (k + 1)) (k + 1) s (walksTo r f S P (beginV fr) day (k + 1) s) := by
  have hb := walks_bit (P := P) g hS hP (day := day) (begin_bit S fr) (k + 1) s hs
  rw [his] at hb
  have e := dayTo_next (r := r) (f := f) (fr := fr) hS (day := day) (k := k) hs
  rw [if_pos ⟨h, hb.symm⟩] at e
  refine ⟨e, fun hn => by rw [e] at hn; omega, fun _ => ⟨k, by omega, e, rfl, his⟩⟩
include g hS hP in
theorem rec_keep {k s : Nat} {q : WalkV} (hs : s < S) (hq : RecOk r f S P fr day (dayTo r f fr day k) k s q) (h : 0 ≤ dayTo r f fr day k s ∨ (walksTo r f S P (beginV fr) day (k + 1) s).is = false) : dayTo r f fr day (k + 1) s = dayTo r f fr day k s ∧ RecOk r f S P fr day (dayTo r f fr day (k + 1)) (k + 1) s q := by
  have hb := walks_bit (P := P) g hS hP (day := day) (begin_bit S fr) (k + 1) s hs
  have e := dayTo_next (r := r) (f := f) (fr := fr) hS (day := day) (k := k) hs
  rw [if_neg (by
    rintro ⟨h1, h2⟩
    rcases h with h | h
    · omega
    · rw [h, h2] at hb; simp at hb)] at e
  refine ⟨e, ?_⟩
  unfold RecOk
  rw [e]
  exact ⟨hq.1, fun hn => by
    obtain ⟨j, j1, j2⟩ := hq.2 hn
    exact ⟨j, by omega, j2⟩⟩
end
end Go.Proofs.Ytjgkgnfhglhklaa
