/- A flock that walks a plan: what road.Play and mestaref02.Play return. -/
import Derived.Test.YtmkjeonjhedgkaaDoorBarsR
namespace Go.Proofs.YtmkjeonjhedgkaaDoor
set_option linter.unusedSimpArgs false
set_option linter.unusedVariables false
open Go.RowKit

/-- Where the flock is, on which day, over how many leagues of it, and where it is at each night. -/
structure PS where
  pos : Int
  day : Int
  walked : Int
  out : Nat → Int

def playStep (r : Roads) (f : Flock) (s : PS) (x : Int × Int) : Except Int PS :=
  if !(btw x.1 0 (r.days - 1)) || !(btw x.2 0 ((r.strips.length : Int) - 1)) then .error 3
  else if x.1 < s.day then .error 5
  else match r.strips[x.2.toNat]? with
    | none => .error 3
    | some st =>
      if (endOf st s.pos).2 = false then .error 12
      else if (barsL st f x.1).isEmpty = false then .error 9
      else if f.pace < (if s.day < x.1 then 0 else s.walked) + st.L then .error 6
      else .ok ⟨(endOf st s.pos).1, x.1, (if s.day < x.1 then 0 else s.walked) + st.L, fun k => if x.1 ≤ (k : Int) then (endOf st s.pos).1 else s.out k⟩
def playGo (r : Roads) (f : Flock) : List (Int × Int) → PS → Except Int PS
  | [], s => .ok s
  | x :: l, s => match playStep r f s x with
    | .error e => .error e
    | .ok s' => playGo r f l s'
def play0 (fr : Int) : PS := ⟨fr, 0, 0, fun _ => fr⟩
/-- What Play returns. -/
def playV (r : Roads) (f : Flock) (fr : Int) (plan : List (Int × Int)) : List Int × Int :=
  if readyErr r f [fr, r.stages] = 0 then (match playGo r f plan (play0 fr) with
    | .ok s => ((List.range r.days.toNat).map s.out, 0)
    | .error e => ([], e)) else ([], readyErr r f [fr, r.stages])

theorem playGo_append (r : Roads) (f : Flock) : ∀ (l m : List (Int × Int)) (s : PS), playGo r f (l ++ m) s = match playGo r f l s with
    | .error e => .error e
    | .ok s' => playGo r f m s'
  | [], m, s => rfl
  | x :: l, m, s => by
    rw [List.cons_append, playGo, playGo]
    cases playStep r f s x with
    | error e => rfl
    | ok s' => exact playGo_append r f l m s'
theorem playGo_next {r : Roads} {f : Flock} {plan : List (Int × Int)} {fr : Int} {i : Nat} (hi : i < plan.length) {s s' : PS} (h : playGo r f (plan.take i) (play0 fr) = .ok s) (hs : playStep r f s plan[i] = .ok s') : playGo r f (plan.take (i + 1)) (play0 fr) = .ok s' := by
  rw [List.take_succ_eq_append_getElem hi, playGo_append, h]
  show playGo r f [plan[i]] s = _
  rw [playGo, hs]; rfl
theorem playGo_err {r : Roads} {f : Flock} {plan : List (Int × Int)} {fr : Int} {i : Nat} (hi : i < plan.length) {s : PS} {e : Int} (h : playGo r f (plan.take i) (play0 fr) = .ok s) (hs : playStep r f s plan[i] = .error e) : playGo r f plan (play0 fr) = .error e := by
  have h1 : plan = plan.take i ++ plan[i] :: plan.drop (i + 1) := by
    rw [← List.drop_eq_getElem_cons hi, List.take_append_drop]
  have h2 := playGo_append r f (plan.take i) (plan[i] :: plan.drop (i + 1)) (play0 fr)
  rw [← h1, h] at h2
  rw [h2]
  show playGo r f (plan[i] :: plan.drop (i + 1)) s = _
  rw [playGo, hs]

/-- What holds of a flock on its way. -/
structure PSOk (r : Roads) (f : Flock) (s : PS) : Prop where
  p1 : 0 ≤ s.pos
  p2 : s.pos < r.stages
  d1 : 0 ≤ s.day
  d2 : s.day < r.days
  w1 : 0 ≤ s.walked
  w2 : s.walked ≤ f.pace
  tail : ∀ k : Nat, s.day ≤ (k : Int) → s.out k = s.pos
theorem play0_ok {r : Roads} {f : Flock} (g : Good r f) {fr : Int} (h1 : 0 ≤ fr) (h2 : fr < r.stages) : PSOk r f (play0 fr) :=
  ⟨h1, h2, Int.le_refl 0, by show (0 : Int) < r.days; have := g.d1; omega, Int.le_refl 0, by show (0 : Int) ≤ f.pace; have := g.p1; omega, fun _ _ => rfl⟩
theorem playEnd {x : Strip} {S t : Int} (h1 : 0 ≤ x.A ∧ x.A < S) (h2 : 0 ≤ x.B ∧ x.B < S) (h : (endOf x t).2 = true) : 0 ≤ (endOf x t).1 ∧ (endOf x t).1 < S ∧ (endOf x t).1 = x.A + x.B - t := by
  unfold endOf at h ⊢
  by_cases c1 : t = x.A
  · rw [if_pos c1]; exact ⟨h2.1, h2.2, by show x.B = _; omega⟩
  · rw [if_neg c1] at h ⊢
    by_cases c2 : t = x.B
    · rw [if_pos c2]; exact ⟨h1.1, h1.2, by show x.A = _; omega⟩
    · rw [if_neg c2] at h; simp at h
theorem playStep_ok {r : Roads} {f : Flock} (g : Good r f) {s s' : PS} {x : Int × Int} (ho : PSOk r f s) (h : playStep r f s x = .ok s') : PSOk r f s' := by
  unfold playStep at h
  by_cases c1 : (!(btw x.1 0 (r.days - 1)) || !(btw x.2 0 ((r.strips.length : Int) - 1))) = true
  · rw [if_pos c1] at h; simp at h
  · rw [if_neg c1] at h
    have hx : 0 ≤ x.1 ∧ x.1 < r.days := by
      have h1 : btw x.1 0 (r.days - 1) = true := by
        cases hb : btw x.1 0 (r.days - 1)
        · exact absurd (by simp [hb]) c1
        · rfl
      rw [btw_true] at h1; omega
    by_cases c2 : x.1 < s.day
    · rw [if_pos c2] at h; simp at h
    · rw [if_neg c2] at h
      cases hst : r.strips[x.2.toNat]? with
      | none => rw [hst] at h; simp at h
      | some st =>
        rw [hst] at h
        dsimp only at h
        obtain ⟨b1, b2, b3, b4, b5, b6, b7, _⟩ := g.strip st (List.mem_of_getElem? hst)
        by_cases c3 : (endOf st s.pos).2 = false
        · rw [if_pos c3] at h; simp at h
        · rw [if_neg c3] at h
          by_cases c4 : (barsL st f x.1).isEmpty = false
          · rw [if_pos c4] at h; simp at h
          · rw [if_neg c4] at h
            by_cases c5 : f.pace < (if s.day < x.1 then 0 else s.walked) + st.L
            · rw [if_pos c5] at h; simp at h
            · rw [if_neg c5] at h
              obtain rfl := Except.ok.inj h
              obtain ⟨e1, e2, _⟩ := playEnd ⟨b1, b2⟩ ⟨b3, b4⟩ (by simpa using c3)
              have hw := ho.w1
              exact ⟨e1, e2, hx.1, hx.2, by show 0 ≤ (if s.day < x.1 then 0 else s.walked) + st.L; split <;> omega, by show (if s.day < x.1 then 0 else s.walked) + st.L ≤ f.pace; omega, fun k hk => if_pos hk⟩
end Go.Proofs.YtmkjeonjhedgkaaDoor
