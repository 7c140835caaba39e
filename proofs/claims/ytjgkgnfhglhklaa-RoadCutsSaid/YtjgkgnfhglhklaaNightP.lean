/- The best walks night by night: plain laws. -/
import Derived.Test.YtjgkgnfhglhklaaDayQ
namespace Go.Proofs.Ytjgkgnfhglhklaa
set_option linter.unusedSimpArgs false
set_option linter.unusedVariables false

theorem betterB_ntrans {a b c : WalkV} (ha : a.is = true) (hb : b.is = true) (hc : c.is = true) (h1 : betterB a b = false) (h2 : betterB b c = false) : betterB a c = false := by
  cases hq : betterB a c
  · rfl
  · cases hr : betterB b a
    · have := betterB_total ha hb h1 hr
      subst this; rw [h2] at hq; simp at hq
    · rw [betterB_trans hb ha hc hr hq] at h2; simp at h2
theorem better_no {x a : WalkV} (h : x.is = false) : betterB x a = false := by unfold betterB; simp [h]
theorem pickW_is (a x : WalkV) : (pickW a x).is = (a.is || x.is) := by
  unfold pickW
  cases ha : a.is <;> cases hx : x.is
  · rw [better_no hx]; simp [ha]
  · rw [better_none hx ha]; simp [hx]
  · rw [better_no hx]; simp [ha]
  · split <;> simp [ha, hx]
/-- The best of the first k walks. -/
def topW (q : Nat → WalkV) : Nat → WalkV
  | 0 => noWalk
  | k + 1 => pickW (topW q k) (q k)
theorem topW_is (q : Nat → WalkV) : ∀ k, ((topW q k).is = true ↔ ∃ j, j < k ∧ (q j).is = true)
  | 0 => by simp [topW, noWalk]
  | k + 1 => by
    rw [topW, pickW_is, Bool.or_eq_true, topW_is q k]
    constructor
    · rintro (⟨j, h1, h2⟩ | h)
      · exact ⟨j, by omega, h2⟩
      · exact ⟨k, by omega, h⟩
    · rintro ⟨j, h1, h2⟩
      by_cases e : j = k
      · subst e; exact .inr h2
      · exact .inl ⟨j, by omega, h2⟩
theorem topW_mem (q : Nat → WalkV) : ∀ k, topW q k = noWalk ∨ ∃ j, j < k ∧ (q j).is = true ∧ topW q k = q j
  | 0 => .inl rfl
  | k + 1 => by
    rw [topW]; unfold pickW
    cases hb : betterB (q k) (topW q k)
    · rw [if_neg (by simp)]
      rcases topW_mem q k with h | ⟨j, h1, h2, h3⟩
      · exact .inl h
      · exact .inr ⟨j, by omega, h2, h3⟩
    · rw [if_pos rfl]
      refine .inr ⟨k, by omega, ?_, rfl⟩
      cases hx : (q k).is
      · rw [better_no hx] at hb; simp at hb
      · rfl
theorem topW_best (q : Nat → WalkV) : ∀ k j, j < k → betterB (q j) (topW q k) = false
  | 0, j, h => by omega
  | k + 1, j, h => by
    cases hj : (q j).is
    · exact better_no hj
    rw [topW]
    unfold pickW
    cases hb : betterB (q k) (topW q k)
    · rw [if_neg (by simp)]
      by_cases e : j = k
      · subst e; exact hb
      · exact topW_best q k j (by omega)
    · rw [if_pos rfl]
      by_cases e : j = k
      · subst e; exact betterB_irrefl _ hj
      · have ih := topW_best q k j (by omega)
        have ht : (topW q k).is = true := (topW_is q k).2 ⟨j, by omega, hj⟩
        have hk : (q k).is = true := by
          cases hx : (q k).is
          · rw [better_no hx] at hb; simp at hb
          · rfl
        cases hq : betterB (q j) (q k)
        · rfl
        · rw [betterB_trans hj hk ht hq hb] at ih; simp at ih
theorem topW_congr {q q' : Nat → WalkV} : ∀ {k}, (∀ j, j < k → q j = q' j) → topW q k = topW q' k
  | 0, _ => rfl
  | k + 1, h => by rw [topW, topW, topW_congr fun j hj => h j (by omega), h k (by omega)]

/-- The best walks at the beginning of the day that is k days on. -/
def walksTo (r : Roads) (f : Flock) (S P : Nat) (b : Nat → WalkV) (day : Int) : Nat → Nat → WalkV
  | 0 => b
  | k + 1 => fun t => topW (fun w => dayV r f (day + (k : Int)) S (walksTo r f S P b day k) w t) (P + 1)
/-- What stands where a day begins. -/
structure BeginOk (r : Roads) (S : Nat) (M : Int) (b : Nat → WalkV) : Prop where
  no : ∀ s, s < S → (b s).is = false → b s = noWalk
  ok : ∀ s, s < S → (b s).is = true → WOk r (b s) ∧ (b s).lg ≤ M
section
variable {r : Roads} {f : Flock} (g : Good r f) {d : Int} {S P : Nat} {b : Nat → WalkV} {M : Int}
include g in
theorem dayV_lg (hb : ∀ s, s < S → (b s).is = true → (b s).lg ≤ M) : ∀ (w t : Nat), t < S → (dayV r f d S b w t).is = true → (dayV r f d S b w t).lg ≤ M + (w : Int)
  | w, t, ht, his => by
    by_cases hw : w = 0
    · subst hw; rw [dayV_zero] at his ⊢; have := hb t ht his; omega
    · rw [dayV_eq g (by omega)] at his ⊢
      have hsp := minW_spec (l := cands r f d S (dayV r f d S b) w t) cands_is
      have hne : cands r f d S (dayV r f d S b) w t ≠ [] := fun e => by rw [hsp.1 e] at his; simp [noWalk] at his
      obtain ⟨s, i, x, h1, h2, h3, h4, h5, h6, h7, h8⟩ := mem_cands.1 (hsp.2.1 hne).2
      have hL := (g.strip x (List.mem_of_getElem? h2)).2.2.2.2.2.1
      have hlt : w - x.L.toNat < w := by omega
      rw [h8]
      have ih := dayV_lg hb (w - x.L.toNat) s h1 h7
      show (dayV r f d S b (w - x.L.toNat) s).lg + x.L ≤ _
      omega
termination_by w => w
include g in
theorem BeginOk.next (h : BeginOk r S M b) : BeginOk r S (M + (P : Int)) (fun t => topW (fun w => dayV r f d S b w t) (P + 1)) := by
  refine ⟨fun s hs hn => ?_, fun s hs hi => ?_⟩
  · rcases topW_mem (fun w => dayV r f d S b w s) (P + 1) with e | ⟨j, _, h2, h3⟩
    · exact e
    · rw [h3] at hn; rw [h2] at hn; simp at hn
  · rcases topW_mem (fun w => dayV r f d S b w s) (P + 1) with e | ⟨j, h1, h2, h3⟩
    · rw [e] at hi; simp [noWalk] at hi
    · rw [h3]
      have h4 := dayV_lg g (fun s hs hi => (h.ok s hs hi).2) j s hs h2
      exact ⟨dayV_ok g (fun s hs hi => (h.ok s hs hi).1) j s hs h2, by omega⟩
include g in
theorem walks_ok {day : Int} (h : BeginOk r S 0 b) : ∀ k : Nat, BeginOk r S ((k : Int) * (P : Int)) (walksTo r f S P b day k)
  | 0 => by rw [show ((0 : Nat) : Int) * (P : Int) = 0 by simp]; exact h
  | k + 1 => by
    have h1 := BeginOk.next (P := P) (d := day + (k : Int)) g (walks_ok (day := day) h k)
    rw [show ((k + 1 : Nat) : Int) * (P : Int) = (k : Int) * (P : Int) + (P : Int) by rw [show ((k + 1 : Nat) : Int) = (k : Int) + 1 by omega, Int.add_mul]; omega]
    exact h1
include g in
/-- Where there are walks: the nights. -/
theorem walks_bit (hS : r.stages = (S : Int)) (hP : f.pace = (P : Int)) {n : Nat} {day : Int} (hb : ∀ s, s < S → (b s).is = n.testBit s) : ∀ k t, t < S → (walksTo r f S P b day k t).is = (nightsTo r f (-1) n day k).testBit t
  | 0, t, ht => hb t ht
  | k + 1, t, ht => by
    have ih := walks_bit hS hP (day := day) hb k
    rw [nightsTo, Bool.eq_iff_iff, afterN_bit g]
    show (topW _ (P + 1)).is = true ↔ _
    rw [topW_is]
    constructor
    · rintro ⟨j, h1, h2⟩
      exact ⟨(j : Int), (dayV_spot g hS ih j t ht (by omega)).1 h2⟩
    · rintro ⟨l, hl⟩
      obtain ⟨_, _, r3, r4⟩ := hl.range g
      obtain ⟨j, hj⟩ := Int.eq_ofNat_of_zero_le r3
      dsimp only at hj r4
      subst hj
      exact ⟨j, by omega, (dayV_spot g hS ih j t ht r4).2 hl⟩
end

/-- A walk that begins at stage fr on a day, and stands on another day at a spot. -/
inductive Going (r : Roads) (f : Flock) (day : Int) (fr : Nat) : Int → Int × Int → WalkV → Prop
  | start : Going r f day fr day ((fr : Int), 0) ⟨true, 0, []⟩
  | night (d : Int) (p : Int × Int) (A : WalkV) : Going r f day fr d p A → Going r f day fr (d + 1) (p.1, 0) A
  | step (d : Int) (p q : Int × Int) (A : WalkV) (i : Nat) : Going r f day fr d p A → stepOk r f (-1) d p i = some q → Going r f day fr d q (extW A d i (q.2 - p.2))
def beginV (fr : Nat) (s : Nat) : WalkV := ⟨decide (s = fr), 0, []⟩
theorem begin_ok (r : Roads) (S fr : Nat) : BeginOk r S 0 (beginV fr) :=
  ⟨fun s _ h => by unfold beginV at h ⊢; dsimp only at h; rw [h]; rfl, fun s _ _ => ⟨⟨rfl, fun x hx => by simp [beginV] at hx⟩, Int.le_refl _⟩⟩
theorem begin_bit (S fr : Nat) : ∀ s, s < S → (beginV fr s).is = (0 ||| 1 <<< fr).testBit s := fun s _ => by
  show decide (s = fr) = _
  rw [Nat.testBit_or, Nat.zero_testBit, Bool.false_or, Nat.one_shiftLeft, Nat.testBit_two_pow]
  exact decide_eq_decide.2 ⟨fun h => h.symm, fun h => h.symm⟩
section
variable {r : Roads} {f : Flock} (g : Good r f) {S P fr : Nat} (hS : r.stages = (S : Int)) (hP : f.pace = (P : Int)) (hfr : fr < S) {day : Int}
include g hS hP hfr
/-- No walk is better than the best one. -/
theorem Going.min {d : Int} {p : Int × Int} {A : WalkV} (h : Going r f day fr d p A) : ∃ k t w : Nat, d = day + (k : Int) ∧ p = ((t : Int), (w : Int)) ∧ t < S ∧ w ≤ P ∧ A.is = true ∧ WOk r A ∧ (dayV r f d S (walksTo r f S P (beginV fr) day k) w t).is = true ∧ betterB A (dayV r f d S (walksTo r f S P (beginV fr) day k) w t) = false := by
  induction h with
  | start =>
    refine ⟨0, fr, 0, by omega, rfl, hfr, Nat.zero_le _, rfl, ⟨rfl, by simp⟩, ?_, ?_⟩
    · rw [dayV_zero]; show decide (fr = fr) = true; simp
    · rw [dayV_zero]; unfold betterB; simp [walksTo, beginV, lexB]
  | night d p A _ ih =>
    obtain ⟨k, t, w, rfl, rfl, h3, h4, h5, h6, h7, h8⟩ := ih
    have hi : (walksTo r f S P (beginV fr) day (k + 1) t).is = true := (topW_is _ _).2 ⟨w, by omega, h7⟩
    refine ⟨k + 1, t, 0, by omega, rfl, h3, Nat.zero_le _, h5, h6, ?_, ?_⟩
    · rw [dayV_zero]; exact hi
    · rw [dayV_zero]
      exact betterB_ntrans h5 h7 hi h8 (topW_best (fun w => dayV r f (day + (k : Int)) S (walksTo r f S P (beginV fr) day k) w t) (P + 1) w (by omega))
  | step d p q A i _ hq ih =>
    obtain ⟨k, t, w, rfl, rfl, h3, h4, h5, h6, h7, h8⟩ := ih
    obtain ⟨u1, u2, u3, u4⟩ := stepOk_up g hq
    obtain ⟨x, j1, j2, j3, j4, rfl⟩ := stepOk_some.1 hq
    dsimp only at u1 u2 u3 u4 j2 j3 ⊢
    have hL := (g.strip x (List.mem_of_getElem? j1)).2.2.2.2.2.1
    obtain ⟨t', ht'⟩ := Int.eq_ofNat_of_zero_le u3
    have hb := walks_ok (P := P) (day := day) g (begin_ok r S fr) k
    have hb' : ∀ s, s < S → (walksTo r f S P (beginV fr) day k s).is = true → WOk r (walksTo r f S P (beginV fr) day k s) := fun s hs hi => (hb.ok s hs hi).1
    have e1 : (w : Int) + x.L - (w : Int) = x.L := by omega
    rw [e1]
    refine ⟨k, t', w + x.L.toNat, rfl, Prod.ext ht' (by dsimp only; omega), by omega, by omega, rfl, h6.ext j1, ?_, dayV_step g hb' h6 h5 h8 h7 h3 j1 j2 ht' j4⟩
    rw [dayV_eq g (by omega)]
    refine ((minW_spec cands_is).2.1 fun e => ?_).1
    have hm : extW (dayV r f (day + (k : Int)) S (walksTo r f S P (beginV fr) day k) (w + x.L.toNat - x.L.toNat) t) (day + (k : Int)) i x.L ∈ cands r f (day + (k : Int)) S (dayV r f (day + (k : Int)) S (walksTo r f S P (beginV fr) day k)) (w + x.L.toNat) t' := mem_cands.2 ⟨t, i, x, h3, j1, j2, ht', j4, by omega, by rw [show w + x.L.toNat - x.L.toNat = w by omega]; exact h7, rfl⟩
    rw [e] at hm; simp at hm
omit hS hfr in
/-- The best walks are walks. -/
theorem dayV_going {d : Int} {b : Nat → WalkV} (hbg : ∀ s, s < S → (b s).is = true → Going r f day fr d ((s : Int), 0) (b s)) : ∀ (w t : Nat), t < S → w ≤ P → (dayV r f d S b w t).is = true → Going r f day fr d ((t : Int), (w : Int)) (dayV r f d S b w t)
  | w, t, ht, hwP, his => by
    by_cases hw : w = 0
    · subst hw; rw [dayV_zero] at his ⊢; exact hbg t ht his
    · rw [dayV_eq g (by omega)] at his ⊢
      have hsp := minW_spec (l := cands r f d S (dayV r f d S b) w t) cands_is
      have hne : cands r f d S (dayV r f d S b) w t ≠ [] := fun e => by rw [hsp.1 e] at his; simp [noWalk] at his
      obtain ⟨s, i, x, h1, h2, h3, h4, h5, h6, h7, h8⟩ := mem_cands.1 (hsp.2.1 hne).2
      have hL := (g.strip x (List.mem_of_getElem? h2)).2.2.2.2.2.1
      have hlt : w - x.L.toNat < w := by omega
      have ih := dayV_going hbg (w - x.L.toNat) s h1 (by omega) h7
      have hst := Going.step d _ ((t : Int), (w : Int)) _ i ih (stepOk_some.2 ⟨x, h2, h3, by show ((w - x.L.toNat : Nat) : Int) + x.L ≤ _; omega, h5, Prod.ext h4.symm (by show (w : Int) = ((w - x.L.toNat : Nat) : Int) + x.L; omega)⟩)
      rw [h8]
      dsimp only at hst
      rwa [show (w : Int) - ((w - x.L.toNat : Nat) : Int) = x.L by omega] at hst
termination_by w => w
omit hS hfr in
theorem walks_going : ∀ k t, t < S → (walksTo r f S P (beginV fr) day k t).is = true → Going r f day fr (day + (k : Int)) ((t : Int), 0) (walksTo r f S P (beginV fr) day k t)
  | 0, t, _, his => by
    have e : t = fr := by simpa [walksTo, beginV] using his
    subst e
    have h0 := Going.start (r := r) (f := f) (day := day) (fr := t)
    rw [show day + ((0 : Nat) : Int) = day by omega]
    have e2 : walksTo r f S P (beginV t) day 0 t = ⟨true, 0, []⟩ := by simp [walksTo, beginV]
    rw [e2]; exact h0
  | k + 1, t, ht, his => by
    rcases topW_mem (fun w => dayV r f (day + (k : Int)) S (walksTo r f S P (beginV fr) day k) w t) (P + 1) with e | ⟨j, h1, h2, h3⟩
    · change (topW _ (P + 1)).is = true at his
      rw [e] at his; simp [noWalk] at his
    · show Going r f day fr _ _ (topW _ (P + 1))
      rw [h3]
      have h4 := (dayV_going g hP (walks_going k) j t ht (by omega) h2).night
      rwa [show day + (k : Int) + 1 = day + ((k + 1 : Nat) : Int) by omega] at h4
end
end Go.Proofs.Ytjgkgnfhglhklaa
