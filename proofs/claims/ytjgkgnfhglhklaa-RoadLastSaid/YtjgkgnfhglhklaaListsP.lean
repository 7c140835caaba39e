/- The lists of so many of the numbers below n, in order: plain laws. -/
namespace Go.Proofs.Ytjgkgnfhglhklaa
set_option linter.unusedSimpArgs false
set_option linter.unusedVariables false

/-- The list behind an ascending list of numbers below n. -/
def nextR (n : Nat) : List Int → Option (List Int)
  | [] => none
  | x :: l => match nextR n l with
    | some l' => some (x :: l')
    | none => if x + (l.length : Int) + 1 < n then some ((List.range (l.length + 1)).map fun i : Nat => x + 1 + (i : Int)) else none

/-- An ascending list of m of the numbers below n, as far as the walk wants to know. -/
structure InL (n m : Nat) (l : List Int) : Prop where
  len : l.length = m
  lo : ∀ (j : Nat) (h : j < l.length), (j : Int) ≤ l[j]
  hi : ∀ (j : Nat) (h : j < l.length), l[j] ≤ (n : Int) - m + j

theorem next_none {n : Nat} : ∀ (l : List Int), (∀ (j : Nat) (h : j < l.length), l[j] = (n : Int) - l.length + j) → nextR n l = none
  | [], _ => rfl
  | x :: l, h => by
    have h1 := next_none (n := n) l (fun j hj => by
      have := h (j + 1) (by simp; omega)
      simp only [List.getElem_cons_succ, List.length_cons] at this
      omega)
    have h0 := h 0 (by simp)
    simp only [List.getElem_cons_zero, List.length_cons] at h0
    rw [nextR, h1]
    dsimp only
    rw [if_neg (by omega)]
theorem next_some {n : Nat} : ∀ (l : List Int) (k : Nat) (hk : k < l.length), l[k] < (n : Int) - l.length + k → (∀ (j : Nat) (h : j < l.length), k < j → l[j] = (n : Int) - l.length + j) →
    nextR n l = some (l.take k ++ (List.range (l.length - k)).map fun i : Nat => l[k] + 1 + (i : Int))
  | [], k, hk, _, _ => by simp at hk
  | x :: l, 0, hk, h0, h => by
    have h1 := next_none (n := n) l (fun j hj => by
      have := h (j + 1) (by simp; omega) (by omega)
      simp only [List.getElem_cons_succ, List.length_cons] at this
      omega)
    simp only [List.getElem_cons_zero, List.length_cons] at h0
    rw [nextR, h1]
    dsimp only
    rw [if_pos (by omega)]
    simp
  | x :: l, k + 1, hk, h0, h => by
    simp only [List.getElem_cons_succ, List.length_cons] at h0
    have h1 := next_some (n := n) l k (by simpa using hk) (by omega) (fun j hj hlt => by
      have := h (j + 1) (by simp; omega) (by omega)
      simp only [List.getElem_cons_succ, List.length_cons] at this
      omega)
    rw [nextR, h1]
    simp

/-- Lists one behind the other; none is behind the last. -/
inductive Enum (n : Nat) : List (List Int) → Prop
  | one (l : List Int) : nextR n l = none → Enum n [l]
  | cons (l l' : List Int) (L : List (List Int)) : nextR n l = some l' → Enum n (l' :: L) → Enum n (l :: l' :: L)

def picksF (n : Nat) : Nat → Nat → List (List Int)
  | 0, _ => [[]]
  | m + 1, first => (List.range' first (n - first)).flatMap fun i => (picksF n m (i + 1)).map ((i : Int) :: ·)

theorem picks_cons {n m first : Nat} (h : first < n) : picksF n (m + 1) first = (picksF n m (first + 1)).map ((first : Int) :: ·) ++ picksF n (m + 1) (first + 1) := by
  have e : n - first = (n - (first + 1)) + 1 := by omega
  simp only [picksF]
  rw [e, List.range'_succ, List.flatMap_cons]
theorem picks_end {n m first : Nat} (h : n ≤ first) : picksF n (m + 1) first = [] := by
  simp only [picksF]
  rw [show n - first = 0 by omega]; rfl
theorem picks_none {n : Nat} : ∀ (m first : Nat), n < first + (m + 1) → picksF n (m + 1) first = []
  | 0, first, h => picks_end (by omega)
  | m + 1, first, h => by
    rw [picksF]
    refine List.flatMap_eq_nil_iff.2 fun i hi => ?_
    rw [picks_none m (i + 1) (by have := (List.mem_range'_1.1 hi).1; omega)]
    rfl

theorem enum_block {n m : Nat} {x : Int} {R : List (List Int)} (hR : (R = [] ∧ ¬ x + (m : Int) + 1 < n) ∨ (Enum n R ∧ R.head? = some ((List.range (m + 1)).map fun i : Nat => x + 1 + (i : Int)) ∧ x + (m : Int) + 1 < n)) :
    ∀ {L : List (List Int)}, Enum n L → (∀ l ∈ L, l.length = m) → Enum n (L.map (x :: ·) ++ R) := by
  intro L hL
  induction hL with
  | one l hn =>
    intro hl
    have hlm := hl l (by simp)
    rcases hR with ⟨rfl, hx⟩ | ⟨hE, hh, hx⟩
    · exact .one _ (by rw [nextR, hn]; dsimp only; rw [hlm, if_neg hx])
    · cases R with
      | nil => simp at hh
      | cons r R =>
        simp only [List.head?_cons, Option.some.injEq] at hh
        refine .cons _ _ _ ?_ hE
        rw [nextR, hn, hh]; dsimp only; rw [hlm, if_pos hx]
  | cons l l' L hn _ ih =>
    intro hl
    refine .cons _ _ _ ?_ (ih fun y hy => hl y (by simp [List.mem_cons.1 hy]))
    rw [nextR, hn]

theorem picks_len {n : Nat} : ∀ (m first : Nat), ∀ l ∈ picksF n m first, l.length = m
  | 0, first, l, h => by simp [picksF] at h; subst h; rfl
  | m + 1, first, l, h => by
    simp only [picksF, List.mem_flatMap, List.mem_map] at h
    obtain ⟨i, _, a, ha, rfl⟩ := h
    simp [picks_len m (i + 1) a ha]

theorem picks_enum {n : Nat} : ∀ (m first : Nat), first + m ≤ n → Enum n (picksF n m first) ∧ (picksF n m first).head? = some ((List.range m).map fun i : Nat => (first : Int) + (i : Int))
  | 0, first, _ => ⟨.one [] rfl, rfl⟩
  | m + 1, first, h => by
    have key : ∀ d first, first + (m + 1) + d = n → Enum n (picksF n (m + 1) first) ∧ (picksF n (m + 1) first).head? = some ((List.range (m + 1)).map fun i : Nat => (first : Int) + (i : Int)) := by
      intro d
      induction d with
      | zero =>
        intro first hd
        obtain ⟨h1, h2⟩ := picks_enum (n := n) m (first + 1) (by omega)
        rw [picks_cons (n := n) (first := first) (by omega), picks_none (n := n) m (first + 1) (by omega)]
        refine ⟨enum_block (m := m) (.inl ⟨rfl, by omega⟩) h1 (picks_len m (first + 1)), ?_⟩
        rw [List.append_nil, List.head?_map, h2]
        simp only [Option.map_some, List.range_succ_eq_map, List.map_cons, List.map_map, Option.some.injEq, List.cons.injEq]
        refine ⟨by simp, List.map_congr_left fun i _ => ?_⟩
        simp; omega
      | succ d ih =>
        intro first hd
        obtain ⟨h1, h2⟩ := picks_enum (n := n) m (first + 1) (by omega)
        obtain ⟨h3, h4⟩ := ih (first + 1) (by omega)
        rw [picks_cons (n := n) (first := first) (by omega)]
        refine ⟨enum_block (m := m) (.inr ⟨h3, ?_, by omega⟩) h1 (picks_len m (first + 1)), ?_⟩
        · rw [h4]; simp
        · rw [List.head?_append, List.head?_map, h2]
          simp only [Option.map_some, Option.some_or, List.range_succ_eq_map, List.map_cons, List.map_map, Option.some.injEq, List.cons.injEq]
          refine ⟨by simp, List.map_congr_left fun i _ => ?_⟩
          simp; omega
    exact key (n - first - (m + 1)) first (by omega)

theorem picks_lo {n : Nat} : ∀ (m first : Nat) (l : List Int), l ∈ picksF n m first → ∀ (j : Nat) (h : j < l.length), (first : Int) + j ≤ l[j]
  | 0, first, l, hl => by simp [picksF] at hl; subst hl; simp
  | m + 1, first, l, hl => by
    simp only [picksF, List.mem_flatMap, List.mem_map] at hl
    obtain ⟨i, hi, a, ha, rfl⟩ := hl
    have hi1 := (List.mem_range'_1.1 hi).1
    intro j h
    cases j with
    | zero => simp; omega
    | succ j =>
      have := picks_lo m (i + 1) a ha j (by simpa using h)
      simp only [List.getElem_cons_succ]
      omega
theorem picks_hi {n : Nat} : ∀ (m first : Nat) (l : List Int), l ∈ picksF n m first → ∀ (j : Nat) (h : j < l.length), l[j] ≤ (n : Int) - m + j
  | 0, first, l, hl => by simp [picksF] at hl; subst hl; simp
  | m + 1, first, l, hl => by
    simp only [picksF, List.mem_flatMap, List.mem_map] at hl
    obtain ⟨i, hi, a, ha, rfl⟩ := hl
    have hi2 := (List.mem_range'_1.1 hi).2
    have hi1 := (List.mem_range'_1.1 hi).1
    intro j h
    cases j with
    | zero =>
      cases m with
      | zero => simp; omega
      | succ m =>
        have hlen := picks_len (m + 1) (i + 1) a ha
        have h1 := picks_lo (m + 1) (i + 1) a ha m (by omega)
        have h2 := picks_hi (m + 1) (i + 1) a ha m (by omega)
        simp only [List.getElem_cons_zero]
        omega
    | succ j =>
      have := picks_hi m (i + 1) a ha j (by simpa using h)
      simp only [List.getElem_cons_succ]
      omega
theorem picks_in {n m : Nat} {l : List Int} (h : l ∈ picksF n m 0) : InL n m l :=
  ⟨picks_len m 0 l h, fun j hj => by have := picks_lo m 0 l h j hj; omega, picks_hi m 0 l h⟩
end Go.Proofs.Ytjgkgnfhglhklaa
