/- A chain that is made of another, in a region that draws its order: the invariant. -/
import Derived.Test.YtjgkgnfhglhklaaApp
import Derived.Test.YtjgkgnfhglhklaaWay
import Derived.Test.YtjgkgnfhglhklaaBars
import Derived.Deep.CutBlock
import Derived.Deep.RegionHeld3
import Derived.Test.YtjgkgnfhglhklaaNext2
/- mestaref02.shorter: which of two chains comes first. -/
namespace Go.Proofs.Ytjgkgnfhglhklaa
set_option linter.unusedSimpArgs false
set_option linter.unusedVariables false
open Go.RowKit

/-- A chain of the reference: whether there is one, its leagues, its strips. -/
structure ChainV where
  is : Bool
  lg : Int
  st : List Int
def lexI : List Int → List Int → Bool
  | x :: a, y :: b => if x ≠ y then decide (x < y) else lexI a b
  | _, _ => false
def shorterR (a b : ChainV) : Bool := if !a.is || !b.is then a.is && !b.is else if a.lg ≠ b.lg then decide (a.lg < b.lg) else if a.st.length ≠ b.st.length then decide (a.st.length < b.st.length) else lexI a.st b.st
theorem lexI_drop {a b : List Int} {i : Nat} (h1 : i < a.length) (h2 : i < b.length) (h : lexI (a.drop i) (b.drop i) = lexI a b) :
    (a[i] ≠ b[i] → lexI a b = decide (a[i] < b[i])) ∧ (a[i] = b[i] → lexI (a.drop (i + 1)) (b.drop (i + 1)) = lexI a b) := by
  rw [List.drop_eq_getElem_cons h1, List.drop_eq_getElem_cons h2, lexI] at h
  exact ⟨fun e => by rw [← h, if_pos e], fun e => by rw [← h, if_neg (by simp [e])]⟩

set_option maxRecDepth 100000 in
set_option maxHeartbeats 8000000 in
theorem shorterR_any (w : World) (A B : ChainV) (aa ab : Option Addr) (ac bc : Nat) (ha : IntsAt w aa A.st) (hb : IntsAt w ab B.st) (hla : A.st.length ≤ 100000) (hlb : B.st.length ≤ 100000) :
    Calls Try.prog 105 #[.agg #[.bool A.is, .int .i64 A.lg, .slice aa A.st.length ac], .agg #[.bool B.is, .int .i64 B.lg, .slice ab B.st.length bc]] w fun e w' => e = .returned (.bool (shorterR A B)) ∧ Below w.heap.size w w' := by
  obtain ⟨ai, al, ap⟩ := A
  obtain ⟨bi, bl, bp⟩ := B
  dsimp only at ha hb hla hlb ⊢
  have hb0 : Below w.heap.size w ((w.alloc (.cells #[.bool ai, .int .i64 al, .slice aa ap.length ac] 138)).alloc (.cells #[.bool bi, .int .i64 bl, .slice ab bp.length bc] 138)) := ((Below.refl _ _).alloc (Nat.le_refl _) _).alloc (by simp) _
  have x0 : ((w.alloc (.cells #[.bool ai, .int .i64 al, .slice aa ap.length ac] 138)).alloc (.cells #[.bool bi, .int .i64 bl, .slice ab bp.length bc] 138)).cell? ⟨w.heap.size, 0, none⟩ = some (.bool ai) := by simp [go_sem]
  have x1 : ((w.alloc (.cells #[.bool ai, .int .i64 al, .slice aa ap.length ac] 138)).alloc (.cells #[.bool bi, .int .i64 bl, .slice ab bp.length bc] 138)).cell? ⟨w.heap.size, 1, none⟩ = some (.int .i64 al) := by simp [go_sem]
  have x2 : ((w.alloc (.cells #[.bool ai, .int .i64 al, .slice aa ap.length ac] 138)).alloc (.cells #[.bool bi, .int .i64 bl, .slice ab bp.length bc] 138)).cell? ⟨w.heap.size, 2, none⟩ = some (.slice aa ap.length ac) := by simp [go_sem]
  have x3 : ((w.alloc (.cells #[.bool ai, .int .i64 al, .slice aa ap.length ac] 138)).alloc (.cells #[.bool bi, .int .i64 bl, .slice ab bp.length bc] 138)).cell? ⟨w.heap.size + 1, 0, none⟩ = some (.bool bi) := by simp [go_sem]
  have x4 : ((w.alloc (.cells #[.bool ai, .int .i64 al, .slice aa ap.length ac] 138)).alloc (.cells #[.bool bi, .int .i64 bl, .slice ab bp.length bc] 138)).cell? ⟨w.heap.size + 1, 1, none⟩ = some (.int .i64 bl) := by simp [go_sem]
  have x5 : ((w.alloc (.cells #[.bool ai, .int .i64 al, .slice aa ap.length ac] 138)).alloc (.cells #[.bool bi, .int .i64 bl, .slice ab bp.length bc] 138)).cell? ⟨w.heap.size + 1, 2, none⟩ = some (.slice ab bp.length bc) := by simp [go_sem]
  have HSA := Lib.hid (ha.below hb0); clear ha
  have HSB := Lib.hid (hb.below hb0); clear hb
  go_enter Try.func105, Try.ntmps105
  go_upto_region 1 with (fail)
  generalize ((w.alloc (.cells #[.bool ai, .int .i64 al, .slice aa ap.length ac] 138)).alloc (.cells #[.bool bi, .int .i64 bl, .slice ab bp.length bc] 138)) = W0 at hb0 x0 x1 x2 x3 x4 x5 HSA HSB ⊢
  have HB0 := Lib.hid hb0; clear hb0
  cases ai
  · go_wp2_with fail
    go_ret
    exact ⟨by simp [shorterR], HB0.out⟩
  · cases bi
    · go_wp2_with fail
      go_ret
      exact ⟨by simp [shorterR], HB0.out⟩
    · by_cases hl : al = bl
      · have d1 : (al != bl) = false := by simp [hl]
        by_cases hn : ap.length = bp.length
        · have d2 : ((ap.length : Int) != (bp.length : Int)) = false := by simp [hn]
          have HBE := Lib.hid (show shorterR ⟨true, al, ap⟩ ⟨true, bl, bp⟩ = lexI ap bp by unfold shorterR; simp [hl, hn])
          have HN := Lib.hid hn
          have X2 := Lib.hid x2
          have X5 := Lib.hid x5
          clear hl hn
          go_wp2_with fail
          clear x0 x1 x2 x3 x4 x5 d1 d2
          go_loopw [5] (fun v5 wx => ∃ i : Nat, i ≤ ap.length ∧ v5 = .int .i64 (i : Int) ∧ lexI (ap.drop i) (bp.drop i) = lexI ap bp ∧ Below W0.heap.size W0 wx) (fun v _ => ap.length - (intOf v).toNat)
          case atStart => exact ⟨0, Nat.zero_le _, rfl, rfl, Below.refl _ _⟩
          case round =>
            obtain ⟨i, hi1, rfl, hlex, hbr⟩ := hrel
            have x2 := ((bcell hbr).1 _ _ (lt_of_cell X2.out)).trans X2.out
            have x5 := ((bcell hbr).1 _ _ (lt_of_cell X5.out)).trans X5.out
            have HLEX := Lib.hid hlex; clear hlex
            have HBR := Lib.hid hbr; clear hbr
            by_cases h1 : i < ap.length
            · have q1 : (i : Int) < (ap.length : Int) := by omega
              have h2 : i < bp.length := by rw [← HN.out]; exact h1
              have q2 : (i : Int) < (bp.length : Int) := by omega
              obtain ⟨l1, l3⟩ := lexI_drop h1 h2 HLEX.out
              rcases HSA.out.below HBR.out with hz | ⟨ba, oa, ea, hca⟩
              · rw [hz] at h1; simp at h1
              rcases HSB.out.below HBR.out with hz | ⟨bb, ob, eb, hcb⟩
              · rw [hz] at h2; simp at h2
              have c1 := hca i h1
              have c3 := hcb i h2
              clear hca hcb
              generalize ap[i] = x at c1 l1 l3
              generalize bp[i] = y at c3 l1 l3
              have L1 := Lib.hid l1; clear l1
              have L3 := Lib.hid l3; clear l3
              cases ea
              cases eb
              go_upto_region 10 with (fail)
              by_cases e1 : x = y
              · have d1 : (x != y) = false := by simp [e1]
                have HX := Lib.hid (L3.out e1)
                clear e1
                go_quiet (fail)
                go_wp2_with fail
                exact ⟨⟨i + 1, by omega, by go_num, HX.out, below_drewN HBR.out _⟩, by simp [intOf]; omega⟩
              · have d1 : (x != y) = true := by simp [e1]
                have HX := Lib.hid (L1.out e1)
                clear e1
                go_quiet (fail)
                have c1' : (wr.drewN nq).cell? ⟨ba, oa + i, none⟩ = some (.int .i64 x) := by rw [(bcell (below_drewN (Below.refl wr.heap.size wr) nq)).1 _ _ (lt_of_cell c1)]; exact c1
                have c3' : (wr.drewN nq).cell? ⟨bb, ob + i, none⟩ = some (.int .i64 y) := by rw [(bcell (below_drewN (Below.refl wr.heap.size wr) nq)).1 _ _ (lt_of_cell c3)]; exact c3
                have x2' : (wr.drewN nq).cell? ⟨w.heap.size, 2, none⟩ = some (.slice (some ⟨ba, oa, none⟩) ap.length ac) := by rw [(bcell (below_drewN (Below.refl wr.heap.size wr) nq)).1 _ _ (lt_of_cell x2)]; exact x2
                have x5' : (wr.drewN nq).cell? ⟨w.heap.size + 1, 2, none⟩ = some (.slice (some ⟨bb, ob, none⟩) bp.length bc) := by rw [(bcell (below_drewN (Below.refl wr.heap.size wr) nq)).1 _ _ (lt_of_cell x5)]; exact x5
                have HBR2 := Lib.hid (below_drewN HBR.out nq)
                go_upto_region 11 with (fail)
                generalize wr.drewN nq = W2 at c1' c3' x2' x5' HBR2 ⊢
                clear c1 c3 x2 x5
                go_quiet (fail)
                go_wp2_with fail
                go_ret
                exact ⟨by rw [HBE.out, HX.out]; simp, HB0.out.trans (below_drewN (HBR2.out.mono HB0.out.size) _)⟩
            · have q1 : ¬ (i : Int) < (ap.length : Int) := by omega
              obtain rfl : i = ap.length := by omega
              have HX := Lib.hid (show lexI ap bp = false by
                have := HLEX.out
                rw [List.drop_length, HN.out, List.drop_length] at this
                rw [← this]; rfl)
              go_wp2_with fail
              go_ret
              exact ⟨by rw [HBE.out, HX.out]; simp, HB0.out.trans (HBR.out.mono HB0.out.size)⟩
        · have d2 : ((ap.length : Int) != (bp.length : Int)) = true := by simp; omega
          have HBE := Lib.hid (show shorterR ⟨true, al, ap⟩ ⟨true, bl, bp⟩ = decide (ap.length < bp.length) by unfold shorterR; simp [hl, hn])
          clear hl hn
          go_wp2_with fail
          go_ret
          exact ⟨by rw [HBE.out]; simp, HB0.out⟩
      · have d1 : (al != bl) = true := by simp [hl]
        have HBE := Lib.hid (show shorterR ⟨true, al, ap⟩ ⟨true, bl, bp⟩ = decide (al < bl) by unfold shorterR; simp [hl])
        clear hl
        go_wp2_with fail
        go_ret
        exact ⟨by rw [HBE.out]; simp, HB0.out⟩
end Go.Proofs.Ytjgkgnfhglhklaa

/- The passes of mestaref02.Way: plain laws. -/
/- The shortest way: plain laws. Chains of strips in use, their order, and that the program's way is the least of all of them. -/
namespace Go.Proofs.Ytjgkgnfhglhklaa
set_option linter.unusedSimpArgs false
set_option linter.unusedVariables false

theorem legR_pos {r : Roads} {f : Flock} (g : Good r f) {i : Nat} {x : Strip} (hx : r.strips[i]? = some x) : 1 ≤ legOf r (i : Int) := by
  unfold legOf
  rw [show ((i : Int)).toNat = i from rfl, hx]
  exact (g.strip x (List.mem_of_getElem? hx)).2.2.2.2.2.1
def lsum (r : Roads) : List Int → Int
  | [] => 0
  | x :: l => legOf r x + lsum r l
theorem lsum_app (r : Roads) : ∀ a b : List Int, lsum r (a ++ b) = lsum r a + lsum r b
  | [], b => by simp [lsum]
  | x :: a, b => by rw [List.cons_append, lsum, lsum, lsum_app r a b]; omega
theorem lsum_nonneg {r : Roads} {f : Flock} (g : Good r f) : ∀ l, 0 ≤ lsum r l
  | [] => Int.le_refl _
  | x :: l => by rw [lsum]; have := (legOf_range g x).1; have := lsum_nonneg g l; omega
theorem lenTo_take (r : Roads) (way : List Int) : ∀ k, k ≤ way.length → lenTo r way k = lsum r (way.take k)
  | 0, _ => by simp [lenTo, lsum]
  | k + 1, h => by
    rw [lenTo, lenTo_take r way k (by omega), List.take_add_one, lsum_app]
    rw [List.getElem?_eq_getElem (by omega)]
    simp [lsum, List.getD_eq_getElem?_getD, List.getElem?_eq_getElem (show k < way.length by omega)]
theorem lenL_sum (r : Roads) (way : List Int) : lenL r way = lsum r way := by
  unfold lenL
  rw [lenTo_take r way _ (Nat.le_refl _), List.take_length]

theorem lexI_irrefl : ∀ a, lexI a a = false
  | [] => rfl
  | x :: a => by rw [lexI, if_neg (by simp)]; exact lexI_irrefl a
theorem lexI_total : ∀ {a b : List Int}, a.length = b.length → lexI a b = false → lexI b a = false → a = b
  | [], [], _, _, _ => rfl
  | [], _ :: _, h, _, _ => by simp at h
  | _ :: _, [], h, _, _ => by simp at h
  | x :: a, y :: b, h, h1, h2 => by
    rw [lexI] at h1 h2
    by_cases e : x = y
    · rw [if_neg (by simp [e])] at h1
      rw [if_neg (by simp [e])] at h2
      rw [e, lexI_total (by simpa using h) h1 h2]
    · rw [if_pos e] at h1
      rw [if_pos (fun e' => e e'.symm)] at h2
      simp at h1 h2; omega
theorem lexI_trans : ∀ {a b c : List Int}, lexI a b = true → lexI b c = true → lexI a c = true
  | [], b, c, h, _ => by cases b <;> simp [lexI] at h
  | _ :: _, [], c, h, _ => by simp [lexI] at h
  | _ :: _, _ :: _, [], _, h => by simp [lexI] at h
  | x :: a, y :: b, z :: c, h1, h2 => by
    rw [lexI] at h1 h2 ⊢
    by_cases e1 : x = y
    · rw [if_neg (by simp [e1])] at h1
      by_cases e2 : y = z
      · rw [if_neg (by simp [e2])] at h2
        rw [if_neg (by simp [e1, e2])]
        exact lexI_trans h1 h2
      · rw [if_pos e2] at h2
        rw [if_pos (by rw [e1]; exact e2), e1]; exact h2
    · rw [if_pos e1] at h1
      simp at h1
      by_cases e2 : y = z
      · rw [if_pos (by omega)]; simp; omega
      · rw [if_pos e2] at h2
        simp at h2
        rw [if_pos (by omega)]; simp; omega
theorem lexI_snoc : ∀ {a b : List Int} (x y : List Int), a.length = b.length → lexI a b = true → lexI (a ++ x) (b ++ y) = true
  | [], [], _, _, _, h => by simp [lexI] at h
  | [], _ :: _, _, _, h, _ => by simp at h
  | _ :: _, [], _, _, h, _ => by simp at h
  | p :: a, q :: b, x, y, h, h1 => by
    rw [lexI] at h1
    rw [List.cons_append, List.cons_append, lexI]
    by_cases e : p = q
    · rw [if_neg (by simp [e])] at h1 ⊢
      exact lexI_snoc x y (by simpa using h) h1
    · rw [if_pos e] at h1 ⊢; exact h1

/-- The order of chains: leagues, strips, lexicographic. -/
def ltC (r : Roads) (a b : List Int) : Bool := if lsum r a ≠ lsum r b then decide (lsum r a < lsum r b) else if a.length ≠ b.length then decide (a.length < b.length) else lexI a b
theorem ltC_iff {r : Roads} {a b : List Int} : ltC r a b = true ↔ lsum r a < lsum r b ∨ (lsum r a = lsum r b ∧ (a.length < b.length ∨ (a.length = b.length ∧ lexI a b = true))) := by
  unfold ltC
  by_cases e1 : lsum r a = lsum r b
  · rw [if_neg (by simp [e1])]
    by_cases e2 : a.length = b.length
    · rw [if_neg (by simp [e2])]; constructor
      · intro h; exact .inr ⟨e1, .inr ⟨e2, h⟩⟩
      · rintro (h | ⟨_, h | ⟨_, h⟩⟩)
        · omega
        · omega
        · exact h
    · rw [if_pos e2, decide_eq_true_eq]; constructor
      · intro h; exact .inr ⟨e1, .inl h⟩
      · rintro (h | ⟨_, h | ⟨h, _⟩⟩)
        · omega
        · exact h
        · omega
  · rw [if_pos e1, decide_eq_true_eq]; constructor
    · intro h; exact .inl h
    · rintro (h | ⟨h, _⟩)
      · exact h
      · exact absurd h e1
theorem ltC_irrefl (r : Roads) (a : List Int) : ltC r a a = false := by
  cases h : ltC r a a
  · rfl
  · rw [ltC_iff, lexI_irrefl] at h; simp at h
theorem ltC_trans {r : Roads} {a b c : List Int} (h1 : ltC r a b = true) (h2 : ltC r b c = true) : ltC r a c = true := by
  rw [ltC_iff] at *
  rcases h1 with h1 | ⟨h1, h3⟩
  · rcases h2 with h2 | ⟨h2, _⟩ <;> exact .inl (by omega)
  · rcases h2 with h2 | ⟨h2, h4⟩
    · exact .inl (by omega)
    · refine .inr ⟨by omega, ?_⟩
      rcases h3 with h3 | ⟨h3, h5⟩
      · rcases h4 with h4 | ⟨h4, _⟩ <;> exact .inl (by omega)
      · rcases h4 with h4 | ⟨h4, h6⟩
        · exact .inl (by omega)
        · exact .inr ⟨by omega, lexI_trans h5 h6⟩
theorem ltC_total {r : Roads} {a b : List Int} (h1 : ltC r a b = false) (h2 : ltC r b a = false) : a = b := by
  have h1' : ¬ ltC r a b = true := by simp [h1]
  have h2' : ¬ ltC r b a = true := by simp [h2]
  rw [ltC_iff] at h1' h2'
  have e1 : lsum r a = lsum r b := by
    by_cases c : lsum r a < lsum r b
    · exact absurd (.inl c) h1'
    · by_cases d : lsum r b < lsum r a
      · exact absurd (.inl d) h2'
      · omega
  have e2 : a.length = b.length := by
    by_cases c : a.length < b.length
    · exact absurd (.inr ⟨e1, .inl c⟩) h1'
    · by_cases d : b.length < a.length
      · exact absurd (.inr ⟨e1.symm, .inl d⟩) h2'
      · omega
  refine lexI_total e2 ?_ ?_
  · cases h : lexI a b
    · rfl
    · exact absurd (.inr ⟨e1, .inr ⟨e2, h⟩⟩) h1'
  · cases h : lexI b a
    · rfl
    · exact absurd (.inr ⟨e1.symm, .inr ⟨e2.symm, h⟩⟩) h2'
theorem ltC_ntrans {r : Roads} {a b c : List Int} (h1 : ltC r a b = false) (h2 : ltC r b c = false) : ltC r a c = false := by
  cases h : ltC r a c
  · rfl
  · cases h3 : ltC r b a
    · have := ltC_total h1 h3; subst this; rw [h] at h2; simp at h2
    · rw [ltC_trans h3 h] at h2; simp at h2
theorem ltC_asymm {r : Roads} {a b : List Int} (h : ltC r a b = true) : ltC r b a = false := by
  cases h1 : ltC r b a
  · rfl
  · have := ltC_trans h h1; rw [ltC_irrefl] at this; simp at this
theorem ltC_cons {r : Roads} {a b : List Int} (i : Int) (h : ltC r a b = false) : ltC r (i :: a) (i :: b) = false := by
  cases h1 : ltC r (i :: a) (i :: b)
  · rfl
  · rw [ltC_iff] at h1
    have : ltC r a b = true := by
      rw [ltC_iff]
      simp only [lsum, List.length_cons, lexI] at h1
      rcases h1 with h1 | ⟨h1, h2 | ⟨h2, h3⟩⟩
      · exact .inl (by omega)
      · exact .inr ⟨by omega, .inl (by omega)⟩
      · exact .inr ⟨by omega, .inr ⟨by omega, by simpa using h3⟩⟩
    rw [h] at this; simp at this
theorem ltC_snoc {r : Roads} {a b : List Int} (i : Int) (h : ltC r a b = false) : ltC r (a ++ [i]) (b ++ [i]) = false := by
  cases h2 : ltC r b a
  · have := ltC_total h h2; subst this; exact ltC_irrefl _ _
  · refine ltC_asymm ?_
    rw [ltC_iff] at h2 ⊢
    rw [lsum_app, lsum_app, List.length_append, List.length_append]
    rcases h2 with h2 | ⟨h2, h3 | ⟨h3, h4⟩⟩
    · exact .inl (by omega)
    · exact .inr ⟨by omega, .inl (by omega)⟩
    · exact .inr ⟨by omega, .inr ⟨by omega, lexI_snoc _ _ h3 h4⟩⟩

/-- A chain of strips in use, none of whose later stages is met. -/
inductive Route (r : Roads) (use : List Bool) (met : Nat) (t : Int) : Int → List Int → Prop
  | nil : Route r use met t t []
  | cons (p : Int) (i : Nat) (x : Strip) (l : List Int) : r.strips[i]? = some x → (endOf x p).2 = true → use.getD i false = true → met.testBit (endOf x p).1.toNat = false → Route r use met t (endOf x p).1 l → Route r use met t p ((i : Int) :: l)
theorem Route.cut {r : Roads} {f : Flock} (g : Good r f) {use : List Bool} {met : Nat} {t : Int} {q : Nat} {s : Int} {l : List Int} (h : Route r use met t s l) : Route r use (met ||| 1 <<< q) t s l ∨ ∃ l', Route r use (met ||| 1 <<< q) t (q : Int) l' ∧ ltC r l l' = false := by
  induction h with
  | nil => exact .inl .nil
  | cons p i x l h1 h2 h3 h4 _ ih =>
    have hleg := legR_pos g h1
    obtain ⟨o1, o2⟩ := endOf_range g (List.mem_of_getElem? h1) h2
    rcases ih with ih | ⟨l', k1, k2⟩
    · by_cases e : (endOf x p).1.toNat = q
      · right
        refine ⟨l, by rw [show (q : Int) = (endOf x p).1 by omega]; exact ih, ?_⟩
        cases c : ltC r ((i : Int) :: l) l
        · rfl
        · rw [ltC_iff] at c; simp only [lsum, List.length_cons] at c; omega
      · left
        refine .cons p i x l h1 h2 h3 ?_ ih
        rw [Nat.testBit_or, h4, Bool.false_or, Nat.one_shiftLeft, Nat.testBit_two_pow]
        exact decide_eq_false fun h => e h.symm
    · right
      refine ⟨l', k1, ltC_ntrans ?_ k2⟩
      cases c : ltC r ((i : Int) :: l) l
      · rfl
      · rw [ltC_iff] at c; simp only [lsum, List.length_cons] at c; omega
theorem mem_chainsTo {rec : Int → Nat → List (List Int)} {r : Roads} {use : List Bool} {met : Nat} {p q : Int} {i : Nat} {c : List Int} (hc : chainOf r use met p i = some q) (hm : c ∈ rec q (met ||| 1 <<< q.toNat)) : ∀ {k}, i < k → ((i : Int) :: c) ∈ chainsTo rec r use met p k
  | 0, h => by omega
  | k + 1, h => by
    rw [chainsTo, List.mem_append]
    by_cases e : i = k
    · subst e; right; rw [hc]; exact List.mem_map.2 ⟨c, hm, rfl⟩
    · left; exact mem_chainsTo hc hm (by omega)
theorem nil_least {r : Roads} {f : Flock} (g : Good r f) (l : List Int) : ltC r l [] = false := by
  cases h : ltC r l []
  · rfl
  · rw [ltC_iff] at h
    have := lsum_nonneg g l
    simp only [lsum, List.length_nil] at h
    rcases h with h | ⟨_, h | ⟨_, h⟩⟩
    · omega
    · omega
    · cases l <;> simp [lexI] at h
/-- No chain is less than all simple ones. -/
theorem route_chain {r : Roads} {f : Flock} (g : Good r f) {use : List Bool} {tt : Int} : ∀ (k : Nat) (p : Int) (met : Nat) (l : List Int), freeN met ≤ k → met < 64 → Route r use met tt p l → ∃ c ∈ chainsF r use tt k p met, ltC r l c = false
  | k, p, met, l, hk, hm, h => by
    by_cases e : p = tt
    · refine ⟨[], ?_, nil_least g l⟩
      cases k <;> rw [chainsF, if_pos e] <;> simp
    · cases h with
      | nil => exact absurd rfl e
      | cons p i x l h1 h2 h3 h4 h5 =>
        obtain ⟨o1, o2⟩ := endOf_range g (List.mem_of_getElem? h1) h2
        obtain ⟨q, hq⟩ := Int.eq_ofNat_of_zero_le o1
        have hs2 := g.s2
        have hq6 : q < 6 := by omega
        rw [hq] at h4 h5
        obtain ⟨f1, f2⟩ := freeN_lt met hm q hq6 h4
        have hc : chainOf r use met p i = some (q : Int) := chainOf_some.2 ⟨x, h1, h2, h3, by rw [hq]; exact h4, hq.symm⟩
        have hcut : ∃ l', Route r use (met ||| 1 <<< q) tt (q : Int) l' ∧ ltC r l l' = false := by
          rcases h5.cut g (q := q) with h6 | h6
          · exact ⟨l, h6, ltC_irrefl _ _⟩
          · exact h6
        obtain ⟨l', k1, k2⟩ := hcut
        cases k with
        | zero => omega
        | succ k =>
          obtain ⟨c, c1, c2⟩ := route_chain g k (q : Int) _ l' (by omega) f2 k1
          refine ⟨(i : Int) :: c, ?_, ltC_ntrans (ltC_cons _ k2) (ltC_cons _ c2)⟩
          rw [chainsF, if_neg e]
          exact mem_chainsTo hc c1 (List.getElem?_eq_some_iff.1 h1).1
end Go.Proofs.Ytjgkgnfhglhklaa

/- The program's way is the least of all chains: plain laws. -/
namespace Go.Proofs.Ytjgkgnfhglhklaa
set_option linter.unusedSimpArgs false
set_option linter.unusedVariables false

theorem mem_chainsTo_inv {rec : Int → Nat → List (List Int)} {r : Roads} {use : List Bool} {met : Nat} {p : Int} {l : List Int} : ∀ {k}, l ∈ chainsTo rec r use met p k → ∃ i q c, i < k ∧ chainOf r use met p i = some q ∧ c ∈ rec q (met ||| 1 <<< q.toNat) ∧ l = (i : Int) :: c
  | 0, h => by simp [chainsTo] at h
  | k + 1, h => by
    rw [chainsTo, List.mem_append] at h
    rcases h with h | h
    · obtain ⟨i, q, c, h1, h2⟩ := mem_chainsTo_inv h
      exact ⟨i, q, c, by omega, h2⟩
    · cases hc : chainOf r use met p k with
      | none => rw [hc] at h; simp at h
      | some q =>
        rw [hc] at h
        obtain ⟨c, hc1, rfl⟩ := List.mem_map.1 h
        exact ⟨k, q, c, by omega, hc, hc1, rfl⟩
theorem Route.less {r : Roads} {use : List Bool} {met m : Nat} {t s : Int} {l : List Int} (h : Route r use (met ||| m) t s l) : Route r use met t s l := by
  induction h with
  | nil => exact .nil
  | cons p i x l h1 h2 h3 h4 _ ih =>
    refine .cons p i x l h1 h2 h3 ?_ ih
    rw [Nat.testBit_or] at h4
    cases h : met.testBit (endOf x p).1.toNat
    · rfl
    · rw [h] at h4; simp at h4
theorem Route.free {r : Roads} {use : List Bool} {met : Nat} {t s : Int} {l : List Int} (h : Route r use met t s l) : Route r use 0 t s l := by
  have : met = 0 ||| met := by rw [Nat.zero_or]
  rw [this] at h
  exact h.less
theorem chains_route {r : Roads} {f : Flock} (g : Good r f) {use : List Bool} {tt : Int} : ∀ (k : Nat) (p : Int) (met : Nat) (l : List Int), l ∈ chainsF r use tt k p met → Route r use met tt p l
  | k, p, met, l, h => by
    by_cases e : p = tt
    · subst e
      have hl : l = [] := by cases k <;> (rw [chainsF, if_pos rfl] at h; simpa using h)
      subst hl; exact .nil
    · cases k with
      | zero =>
        rw [chainsF, if_neg e] at h
        obtain ⟨i, q, c, _, _, h3, _⟩ := mem_chainsTo_inv h
        simp at h3
      | succ k =>
        rw [chainsF, if_neg e] at h
        obtain ⟨i, q, c, h1, h2, h3, rfl⟩ := mem_chainsTo_inv h
        have ih := chains_route g k q _ c h3
        obtain ⟨x, x1, x2, x3, x4, rfl⟩ := chainOf_some.1 h2
        exact .cons p i x c x1 x2 x3 x4 ih.less
/-- Of chains of as many strips, the earlier one comes first. -/
def Sorted (L : List (List Int)) : Prop := L.Pairwise fun a b => a.length = b.length → lexI a b = true
theorem chainsTo_sorted {rec : Int → Nat → List (List Int)} {r : Roads} {use : List Bool} {met : Nat} {p : Int} (h : ∀ q m, Sorted (rec q m)) : ∀ k, Sorted (chainsTo rec r use met p k)
  | 0 => by unfold Sorted; rw [chainsTo]; exact List.Pairwise.nil
  | k + 1 => by
    have ih := chainsTo_sorted (r := r) (use := use) (met := met) (p := p) h k
    unfold Sorted at ih ⊢
    rw [chainsTo, List.pairwise_append]
    refine ⟨ih, ?_, fun a ha b hb => ?_⟩
    · cases hc : chainOf r use met p k with
      | none => exact List.Pairwise.nil
      | some q =>
        dsimp only
        rw [List.pairwise_map]
        refine (h q (met ||| 1 <<< q.toNat)).imp fun {a b} hab hl => ?_
        rw [lexI, if_neg (by simp)]
        exact hab (by simpa using hl)
    · obtain ⟨i, q, c, h1, _, _, rfl⟩ := mem_chainsTo_inv ha
      cases hc : chainOf r use met p k with
      | none => rw [hc] at hb; simp at hb
      | some q' =>
        rw [hc] at hb
        obtain ⟨c', _, rfl⟩ := List.mem_map.1 hb
        intro _
        rw [lexI, if_pos (by omega)]
        exact decide_eq_true (by omega)
theorem chains_sorted {r : Roads} {use : List Bool} {tt : Int} : ∀ (k : Nat) (p : Int) (met : Nat), Sorted (chainsF r use tt k p met)
  | 0, p, met => by
    rw [chainsF]
    split
    · unfold Sorted; simp
    · exact chainsTo_sorted (fun _ _ => List.Pairwise.nil) _
  | k + 1, p, met => by
    rw [chainsF]
    split
    · unfold Sorted; simp
    · exact chainsTo_sorted (fun q m => chains_sorted k q m) _
theorem shorterB_lt {r : Roads} {x y : List Int} (h : shorterB r x y = true) : ltC r x y = true := by
  unfold shorterB at h
  rw [lenL_sum, lenL_sum] at h
  rw [ltC_iff]
  simp at h
  rcases h with h | ⟨h1, h2⟩
  · exact .inl h
  · exact .inr ⟨h1, .inl h2⟩
theorem shorterB_no {r : Roads} {x y : List Int} (h : shorterB r x y = false) (hs : y.length = x.length → lexI y x = true) : ltC r x y = false := by
  unfold shorterB at h
  rw [lenL_sum, lenL_sum] at h
  simp at h
  cases c : ltC r x y
  · rfl
  · rw [ltC_iff] at c
    rcases c with c | ⟨c1, c2 | ⟨c2, c3⟩⟩
    · omega
    · have := h.2 c1; omega
    · have h1 := hs c2.symm
      have := lexI_trans c3 h1
      rw [lexI_irrefl] at this; simp at this
theorem fold_best {r : Roads} : ∀ (l : List (List Int)) (acc : List Int), Sorted (acc :: l) → (l.foldl (betterOf r) acc = acc ∨ l.foldl (betterOf r) acc ∈ l) ∧ ltC r acc (l.foldl (betterOf r) acc) = false ∧ ∀ y ∈ l, ltC r y (l.foldl (betterOf r) acc) = false
  | [], acc, _ => ⟨.inl rfl, ltC_irrefl _ _, by simp⟩
  | y :: l, acc, h => by
    unfold Sorted at h
    rw [List.pairwise_cons, List.pairwise_cons] at h
    obtain ⟨h1, h2, h3⟩ := h
    rw [List.foldl_cons]
    unfold betterOf
    cases hb : shorterB r y acc
    · rw [if_neg (by simp)]
      have hs : Sorted (acc :: l) := List.pairwise_cons.2 ⟨fun b hb => h1 b (by simp [hb]), h3⟩
      obtain ⟨i1, i2, i3⟩ := fold_best (r := r) l acc hs
      have hy := shorterB_no hb (h1 y (by simp))
      unfold betterOf at i1 i2 i3
      refine ⟨i1.imp id fun h => by simp [h], i2, fun z hz => ?_⟩
      rcases List.mem_cons.1 hz with rfl | hz
      · exact ltC_ntrans hy i2
      · exact i3 z hz
    · rw [if_pos rfl]
      have hs : Sorted (y :: l) := List.pairwise_cons.2 ⟨h2, h3⟩
      obtain ⟨i1, i2, i3⟩ := fold_best (r := r) l y hs
      unfold betterOf at i1 i2 i3
      refine ⟨.inr (i1.elim (fun h => by rw [h]; simp) fun h => by simp [h]), ltC_ntrans (ltC_asymm (shorterB_lt hb)) i2, fun z hz => ?_⟩
      rcases List.mem_cons.1 hz with rfl | hz
      · exact i2
      · exact i3 z hz
theorem best_min {r : Roads} {L : List (List Int)} (hs : Sorted L) (hne : L ≠ []) : bestL r L ∈ L ∧ ∀ y ∈ L, ltC r y (bestL r L) = false := by
  cases L with
  | nil => exact absurd rfl hne
  | cons x l =>
    obtain ⟨h1, h2, h3⟩ := fold_best (r := r) l x hs
    refine ⟨?_, fun y hy => ?_⟩
    · rcases h1 with h1 | h1
      · show l.foldl (betterOf r) x ∈ _
        rw [h1]; simp
      · exact List.mem_cons_of_mem _ h1
    · rcases List.mem_cons.1 hy with rfl | hy
      · exact h2
      · exact h3 y hy
theorem free_start : ∀ s < 6, freeN (0 ||| 1 <<< s) ≤ 5 ∧ (0 ||| 1 <<< s) < 64 := by decide +kernel
/-- The program's ways are chains, and none is less than all of them. -/
theorem way_route {r : Roads} {f : Flock} (g : Good r f) {fr : Nat} {tt : Int} {l : List Int} (h : l ∈ wayAll r f fr tt) : Route r (useL r f) 0 tt (fr : Int) l ∧ l.length ≤ 6 := by
  unfold wayAll at h
  exact ⟨(chains_route g _ _ _ _ h).free, (chains_in _ _ _ _ h).1⟩
section
variable {r : Roads} {f : Flock} (g : Good r f) {fr : Nat} (hfr : (fr : Int) < r.stages) {tt : Int}
include g hfr
theorem way_all {l : List Int} (h : Route r (useL r f) 0 tt (fr : Int) l) : ∃ c ∈ wayAll r f fr tt, ltC r l c = false := by
  have hs := g.s2
  obtain ⟨k1, k2⟩ := free_start fr (by omega)
  have hcut : ∃ l', Route r (useL r f) (0 ||| 1 <<< fr) tt (fr : Int) l' ∧ ltC r l l' = false := by
    rcases h.cut g (q := fr) with h6 | h6
    · exact ⟨l, h6, ltC_irrefl _ _⟩
    · exact h6
  obtain ⟨l', h1, h2⟩ := hcut
  obtain ⟨c, c1, c2⟩ := route_chain g 5 (fr : Int) _ l' k1 k2 h1
  exact ⟨c, c1, ltC_ntrans h2 c2⟩
/-- The program's way. -/
theorem way_min (hne : wayAll r f fr tt ≠ []) : Route r (useL r f) 0 tt (fr : Int) (bestL r (wayAll r f fr tt)) ∧ ∀ l, Route r (useL r f) 0 tt (fr : Int) l → ltC r l (bestL r (wayAll r f fr tt)) = false := by
  obtain ⟨h1, h2⟩ := best_min (r := r) (L := wayAll r f fr tt) (chains_sorted _ _ _) hne
  refine ⟨(way_route g h1).1, fun l hl => ?_⟩
  obtain ⟨c, c1, c2⟩ := way_all g hfr hl
  exact ltC_ntrans c2 (h2 c c1)
/-- Whatever is a chain, and less than no other, is the program's way. -/
theorem way_is {m : List Int} (h1 : Route r (useL r f) 0 tt (fr : Int) m) (h2 : ∀ l, Route r (useL r f) 0 tt (fr : Int) l → ltC r l m = false) : wayAll r f fr tt ≠ [] ∧ m = bestL r (wayAll r f fr tt) := by
  have hne : wayAll r f fr tt ≠ [] := fun e => by
    obtain ⟨c, hc, _⟩ := way_all g hfr h1
    rw [e] at hc; simp at hc
  obtain ⟨k1, k2⟩ := way_min g hfr hne
  exact ⟨hne, ltC_total (k2 m h1) (h2 _ k1)⟩
end
theorem Route.snoc {r : Roads} {use : List Bool} {s t : Int} {l : List Int} (h : Route r use 0 t s l) {i : Nat} {x : Strip} (h1 : r.strips[i]? = some x) (h2 : (endOf x t).2 = true) (h3 : use.getD i false = true) : Route r use 0 (endOf x t).1 s (l ++ [(i : Int)]) := by
  induction h with
  | nil => exact .cons t i x [] h1 h2 h3 (by simp) .nil
  | cons p j y l k1 k2 k3 k4 _ ih => exact .cons p j y _ k1 k2 k3 (by simp) ih
/-- A chain that is not empty has a last strip. -/
theorem Route.last {r : Roads} {use : List Bool} {s t : Int} {l : List Int} (h : Route r use 0 t s l) (hne : l ≠ []) : ∃ (u : Int) (l' : List Int) (i : Nat) (x : Strip), Route r use 0 u s l' ∧ r.strips[i]? = some x ∧ (endOf x u).2 = true ∧ use.getD i false = true ∧ (endOf x u).1 = t ∧ l = l' ++ [(i : Int)] := by
  induction h with
  | nil => exact absurd rfl hne
  | cons p j y l k1 k2 k3 k4 hr ih =>
    by_cases e : l = []
    · subst e
      cases hr
      exact ⟨p, [], j, y, .nil, k1, k2, k3, rfl, rfl⟩
    · obtain ⟨u, l', i, x, a1, a2, a3, a4, a5, rfl⟩ := ih e
      exact ⟨u, (j : Int) :: l', i, x, .cons p j y l' k1 k2 k3 k4 a1, a2, a3, a4, a5, rfl⟩
end Go.Proofs.Ytjgkgnfhglhklaa
namespace Go.Proofs.Ytjgkgnfhglhklaa
set_option linter.unusedSimpArgs false
set_option linter.unusedVariables false

def noChain : ChainV := ⟨false, 0, []⟩
def extC (A : ChainV) (i : Nat) (L : Int) : ChainV := ⟨true, A.lg + L, A.st ++ [(i : Int)]⟩
def setC (q : Nat → ChainV) (t : Nat) (A : ChainV) : Nat → ChainV := fun a => if a = t then A else q a
/-- Strip i leads from stage s to stage t, and is open some day. -/
structure LeadsC (r : Roads) (f : Flock) (s i : Nat) (x : Strip) (t : Nat) : Prop where
  at' : r.strips[i]? = some x
  ok : (endOf x (s : Int)).2 = true
  dst : (endOf x (s : Int)).1 = (t : Int)
  use : (useL r f).getD i false = true
def bdC (k s i : Nat) : Nat := k * 64 + s * 8 + i
structure WPass (r : Roads) (f : Flock) (S fr : Nat) (k s i : Nat) (c : Bool) (q : Nat → ChainV) : Prop where
  no : ∀ t, t < S → (q t).is = false → q t = noChain
  rt : ∀ t, t < S → (q t).is = true → Route r (useL r f) 0 (t : Int) (fr : Int) (q t).st ∧ (q t).lg = lsum r (q t).st ∧ (q t).st.length ≤ bdC k s i
  old : ∀ t, t < S → ∀ l, Route r (useL r f) 0 (t : Int) (fr : Int) l → l.length ≤ k → (q t).is = true ∧ ltC r l (q t).st = false
  tried : ∀ s' i' x t, (s' < s ∨ (s' = s ∧ i' < i)) → s' < S → LeadsC r f s' i' x t → t < S → ∀ l, Route r (useL r f) 0 (s' : Int) (fr : Int) l → l.length ≤ k → (q t).is = true ∧ ltC r (l ++ [(i' : Int)]) (q t).st = false
  fix : c = false → ∀ s' i' x t, (s' < s ∨ (s' = s ∧ i' < i)) → s' < S → LeadsC r f s' i' x t → t < S → (q s').is = true → shorterR (extC (q s') i' x.L) (q t) = false
  ck : c = true → k ≤ 5
section
variable {r : Roads} {f : Flock} (g : Good r f) {S fr : Nat} (hS : r.stages = (S : Int)) (hfr : fr < S) {k s i : Nat} {c : Bool} {q : Nat → ChainV}
theorem shorter_lt {a b : ChainV} (ha : a.is = true) (hb : b.is = true) (h1 : a.lg = lsum r a.st) (h2 : b.lg = lsum r b.st) : shorterR a b = ltC r a.st b.st := by
  unfold shorterR ltC
  simp [ha, hb, h1, h2]
theorem shorter_no {a b : ChainV} (ha : a.is = true) (hb : b.is = false) : shorterR a b = true := by unfold shorterR; simp [ha, hb]
theorem extC_sum {A : ChainV} {x : Strip} (hx : r.strips[i]? = some x) (h : A.lg = lsum r A.st) : (extC A i x.L).lg = lsum r (extC A i x.L).st := by
  show A.lg + x.L = lsum r (A.st ++ [(i : Int)])
  rw [lsum_app, lsum, lsum, h]
  unfold legOf
  rw [show ((i : Int)).toNat = i from rfl, hx]
  dsimp only; omega
theorem bd_i : bdC k s i ≤ bdC k s (i + 1) := by unfold bdC; omega
/-- A strip that does not count. -/
theorem WPass.skip (h : WPass r f S fr k s i c q) (hno : ∀ x t, LeadsC r f s i x t → t < S → False) : WPass r f S fr k s (i + 1) c q := by
  refine ⟨h.no, fun t ht his => ?_, h.old, fun s' i' x t hlt hs hl ht => ?_, fun hc s' i' x t hlt hs hl ht => ?_, h.ck⟩
  · obtain ⟨a1, a2, a3⟩ := h.rt t ht his
    exact ⟨a1, a2, Nat.le_trans a3 bd_i⟩
  · by_cases e : s' = s ∧ i' = i
    · obtain ⟨rfl, rfl⟩ := e; exact (hno x t hl ht).elim
    · exact h.tried s' i' x t (by omega) hs hl ht
  · by_cases e : s' = s ∧ i' = i
    · obtain ⟨rfl, rfl⟩ := e; exact (hno x t hl ht).elim
    · exact h.fix hc s' i' x t (by omega) hs hl ht
/-- A stage to which no chain leads yet, or all strips are tried. -/
theorem WPass.nextS (h : WPass r f S fr k s i c q) (hr : r.strips.length ≤ 8) (hi : i ≤ r.strips.length) (hd : r.strips.length ≤ i ∨ (q s).is = false) : WPass r f S fr k (s + 1) 0 c q := by
  refine ⟨h.no, fun t ht his => ?_, h.old, fun s' i' x t hlt hs hl ht l hl1 hl2 => ?_, fun hc s' i' x t hlt hs hl ht his => ?_, h.ck⟩
  · obtain ⟨a1, a2, a3⟩ := h.rt t ht his
    exact ⟨a1, a2, by unfold bdC at a3 ⊢; omega⟩
  · by_cases e : s' = s
    · subst e
      rcases hd with hd | hd
      · exact h.tried s' i' x t (.inr ⟨rfl, by have := (List.getElem?_eq_some_iff.1 hl.at').1; omega⟩) hs hl ht l hl1 hl2
      · have := (h.old s' hs l hl1 hl2).1; rw [hd] at this; simp at this
    · exact h.tried s' i' x t (.inl (by omega)) hs hl ht l hl1 hl2
  · by_cases e : s' = s
    · subst e
      rcases hd with hd | hd
      · exact h.fix hc s' i' x t (.inr ⟨rfl, by have := (List.getElem?_eq_some_iff.1 hl.at').1; omega⟩) hs hl ht his
      · rw [hd] at his; simp at his
    · exact h.fix hc s' i' x t (.inl (by omega)) hs hl ht his
/-- A chain that is no shorter. -/
theorem WPass.stay (h : WPass r f S fr k s i c q) {x : Strip} {t : Nat} (hl : LeadsC r f s i x t) (hs : s < S) (ht : t < S) (his : (q s).is = true) (hb : shorterR (extC (q s) i x.L) (q t) = false) : WPass r f S fr k s (i + 1) c q := by
  obtain ⟨b1, b2, b3⟩ := h.rt s hs his
  have hti : (q t).is = true := by
    cases e : (q t).is
    · rw [shorter_no rfl e] at hb; simp at hb
    · rfl
  obtain ⟨c1, c2, _⟩ := h.rt t ht hti
  have hlt := shorter_lt (r := r) (a := extC (q s) i x.L) (b := q t) rfl hti (extC_sum hl.at' b2) c2
  rw [hb] at hlt
  refine ⟨h.no, fun u hu hui => ?_, h.old, fun s' i' x' t' hlt' hs' hl' ht' l hl1 hl2 => ?_, fun hc s' i' x' t' hlt' hs' hl' ht' his' => ?_, h.ck⟩
  · obtain ⟨a1, a2, a3⟩ := h.rt u hu hui
    exact ⟨a1, a2, Nat.le_trans a3 bd_i⟩
  · by_cases e : s' = s ∧ i' = i
    · obtain ⟨rfl, rfl⟩ := e
      have e1 : x' = x := Option.some.inj (hl'.at'.symm.trans hl.at')
      subst e1
      have e2 : t' = t := by have h1 := hl'.dst; have h2 := hl.dst; omega
      subst e2
      refine ⟨hti, ltC_ntrans (ltC_snoc _ (h.old s' hs' l hl1 hl2).2) hlt.symm⟩
    · exact h.tried s' i' x' t' (by omega) hs' hl' ht' l hl1 hl2
  · by_cases e : s' = s ∧ i' = i
    · obtain ⟨rfl, rfl⟩ := e
      have e1 : x' = x := Option.some.inj (hl'.at'.symm.trans hl.at')
      subst e1
      have e2 : t' = t := by have h1 := hl'.dst; have h2 := hl.dst; omega
      subst e2
      exact hb
    · exact h.fix hc s' i' x' t' (by omega) hs' hl' ht' his'
include g hS hfr in
/-- A shorter chain. -/
theorem WPass.take (h : WPass r f S fr k s i c q) {x : Strip} {t : Nat} (hl : LeadsC r f s i x t) (hs : s < S) (ht : t < S) (his : (q s).is = true) (hb : shorterR (extC (q s) i x.L) (q t) = true) : WPass r f S fr k s (i + 1) true (setC q t (extC (q s) i x.L)) := by
  obtain ⟨b1, b2, b3⟩ := h.rt s hs his
  have hsum := extC_sum (A := q s) hl.at' b2
  have hroute : Route r (useL r f) 0 (t : Int) (fr : Int) (extC (q s) i x.L).st := by
    have := b1.snoc hl.at' hl.ok hl.use
    rw [hl.dst] at this; exact this
  -- whatever is no less than what stood there is no less than the new one
  have hup : ∀ l, (q t).is = true ∧ ltC r l (q t).st = false → ltC r l (extC (q s) i x.L).st = false := fun l hx => by
    obtain ⟨_, c2, _⟩ := h.rt t ht hx.1
    have hlt := shorter_lt (r := r) (a := extC (q s) i x.L) (b := q t) rfl hx.1 hsum c2
    rw [hb] at hlt
    exact ltC_ntrans hx.2 (ltC_asymm hlt.symm)
  have hself : ∀ u, (setC q t (extC (q s) i x.L)) u = if u = t then extC (q s) i x.L else q u := fun _ => rfl
  have hkey : ∀ u, u < S → ∀ l, ((q u).is = true ∧ ltC r l (q u).st = false) → ((setC q t (extC (q s) i x.L)) u).is = true ∧ ltC r l ((setC q t (extC (q s) i x.L)) u).st = false := fun u hu l hx => by
    rw [hself]
    by_cases e : u = t
    · subst e; rw [if_pos rfl]; exact ⟨rfl, hup l hx⟩
    · rw [if_neg e]; exact hx
  refine ⟨fun u hu hui => ?_, fun u hu hui => ?_, fun u hu l hl1 hl2 => hkey u hu l (h.old u hu l hl1 hl2), fun s' i' x' t' hlt' hs' hl' ht' l hl1 hl2 => ?_, by simp, fun _ => ?_⟩
  · rw [hself] at hui ⊢
    by_cases e : u = t
    · rw [if_pos e] at hui; simp [extC] at hui
    · rw [if_neg e] at hui ⊢; exact h.no u hu hui
  · rw [hself] at hui ⊢
    by_cases e : u = t
    · rw [if_pos e]; subst e
      refine ⟨hroute, hsum, ?_⟩
      show ((q s).st ++ [(i : Int)]).length ≤ _
      rw [List.length_append, List.length_singleton]
      unfold bdC at b3 ⊢; omega
    · rw [if_neg e] at hui ⊢
      obtain ⟨a1, a2, a3⟩ := h.rt u hu hui
      exact ⟨a1, a2, Nat.le_trans a3 bd_i⟩
  · by_cases e : s' = s ∧ i' = i
    · obtain ⟨rfl, rfl⟩ := e
      have e1 : x' = x := Option.some.inj (hl'.at'.symm.trans hl.at')
      subst e1
      have e2 : t' = t := by have h1 := hl'.dst; have h2 := hl.dst; omega
      subst e2
      rw [hself, if_pos rfl]
      exact ⟨rfl, ltC_snoc _ (h.old s' hs' l hl1 hl2).2⟩
    · exact hkey t' ht' _ (h.tried s' i' x' t' (by omega) hs' hl' ht' l hl1 hl2)
  · by_cases hk : k ≤ 5
    · exact hk
    · exfalso
      obtain ⟨c', d1, d2⟩ := way_all g (by omega) hroute
      obtain ⟨d3, d4⟩ := way_route g d1
      have d5 := hup c' (h.old t ht c' d3 (by omega))
      have hti := (h.old t ht c' d3 (by omega)).1
      obtain ⟨_, c2, _⟩ := h.rt t ht hti
      have hlt := shorter_lt (r := r) (a := extC (q s) i x.L) (b := q t) rfl hti hsum c2
      rw [hb] at hlt
      have d6 := ltC_ntrans d2 (h.old t ht c' d3 (by omega)).2
      rw [d6] at hlt; simp at hlt
/-- Between passes. -/
structure WAt (r : Roads) (f : Flock) (S fr : Nat) (k : Nat) (q : Nat → ChainV) : Prop where
  no : ∀ t, t < S → (q t).is = false → q t = noChain
  rt : ∀ t, t < S → (q t).is = true → Route r (useL r f) 0 (t : Int) (fr : Int) (q t).st ∧ (q t).lg = lsum r (q t).st ∧ (q t).st.length ≤ bdC k 0 0
  old : ∀ t, t < S → ∀ l, Route r (useL r f) 0 (t : Int) (fr : Int) l → l.length ≤ k → (q t).is = true ∧ ltC r l (q t).st = false
theorem WAt.pass (h : WAt r f S fr k q) : WPass r f S fr k 0 0 false q := ⟨h.no, h.rt, h.old, fun s' i' x t hlt => by omega, fun _ s' i' x t hlt => by omega, by simp⟩
include hfr in
theorem WAt.start : WAt r f S fr 0 (fun t => ⟨decide (t = fr), 0, []⟩) := by
  refine ⟨fun t _ h => ?_, fun t _ h => ?_, fun t _ l hl hn => ?_⟩
  · show (⟨decide (t = fr), 0, []⟩ : ChainV) = noChain
    have h' : decide (t = fr) = false := h
    rw [h']; rfl
  · have h' : t = fr := of_decide_eq_true h
    subst h'
    exact ⟨.nil, rfl, by unfold bdC; simp⟩
  · have : l = [] := List.length_eq_zero_iff.1 (by omega)
    subst this
    generalize ht : (t : Int) = tt at hl
    cases hl
    have : t = fr := by omega
    subst this
    exact ⟨by simp, ltC_irrefl _ _⟩
theorem Route.end_range {use : List Bool} {m : Nat} {t s : Int} {l : List Int} (g : Good r f) (h : Route r use m t s l) (hs : 0 ≤ s ∧ s < r.stages) : 0 ≤ t ∧ t < r.stages := by
  induction h with
  | nil => exact hs
  | cons p i x l h1 h2 _ _ _ ih => exact ih (endOf_range g (List.mem_of_getElem? h1) h2)
include g hS hfr in
theorem WPass.done (h : WPass r f S fr k S 0 c q) : WAt r f S fr (k + 1) q ∧ (c = true → k ≤ 5) ∧ (c = false → ∀ t, t < S → ∀ l, Route r (useL r f) 0 (t : Int) (fr : Int) l → (q t).is = true ∧ ltC r l (q t).st = false) := by
  have hS6 := g.s2
  refine ⟨⟨h.no, fun t ht hi => ?_, fun t ht l hl hn => ?_⟩, h.ck, fun hc => ?_⟩
  · obtain ⟨a1, a2, a3⟩ := h.rt t ht hi
    exact ⟨a1, a2, by unfold bdC at a3 ⊢; omega⟩
  · by_cases e : l = []
    · subst e; exact h.old t ht [] hl (by simp)
    · obtain ⟨u, l', i, x, a1, a2, a3, a4, a5, rfl⟩ := hl.last e
      obtain ⟨u1, u2⟩ := a1.end_range g ⟨by omega, by omega⟩
      obtain ⟨un, rfl⟩ := Int.eq_ofNat_of_zero_le u1
      exact h.tried un i x t (.inl (by omega)) (by omega) ⟨a2, a3, a5, a4⟩ ht l' a1 (by simp at hn; omega)
  · intro t ht l
    generalize hn : l.length = n
    induction n generalizing t l with
    | zero =>
      intro hl
      exact h.old t ht l hl (by omega)
    | succ n ih =>
      intro hl
      have e : l ≠ [] := by intro e; subst e; simp at hn
      obtain ⟨u, l', i, x, a1, a2, a3, a4, a5, rfl⟩ := hl.last e
      obtain ⟨u1, u2⟩ := a1.end_range g ⟨by omega, by omega⟩
      obtain ⟨un, rfl⟩ := Int.eq_ofNat_of_zero_le u1
      obtain ⟨i1, i2⟩ := ih un (by omega) l' (by simp at hn; omega) a1
      have hf := h.fix hc un i x t (.inl (by omega)) (by omega) ⟨a2, a3, a5, a4⟩ ht i1
      obtain ⟨_, b2, _⟩ := h.rt un (by omega) i1
      have hti : (q t).is = true := by
        cases e : (q t).is
        · rw [shorter_no rfl e] at hf; simp at hf
        · rfl
      obtain ⟨_, c2, _⟩ := h.rt t ht hti
      have hlt := shorter_lt (r := r) (a := extC (q un) i x.L) (b := q t) rfl hti (extC_sum a2 b2) c2
      rw [hf] at hlt
      exact ⟨hti, ltC_ntrans (ltC_snoc _ i2) hlt.symm⟩
include g hS hfr in
/-- At the end: the program's way. -/
theorem way_end {n : Nat} (h : WAt r f S fr n q) (hall : ∀ t, t < S → ∀ l, Route r (useL r f) 0 (t : Int) (fr : Int) l → (q t).is = true ∧ ltC r l (q t).st = false) {t : Nat} (ht : t < S) :
    ((q t).is = false → wayAll r f fr (t : Int) = []) ∧ ((q t).is = true → wayAll r f fr (t : Int) ≠ [] ∧ (q t).st = bestL r (wayAll r f fr (t : Int)) ∧ (q t).lg = lenL r (bestL r (wayAll r f fr (t : Int)))) := by
  have hf : (fr : Int) < r.stages := by omega
  refine ⟨fun hi => ?_, fun hi => ?_⟩
  · cases hw : wayAll r f fr (t : Int) with
    | nil => rfl
    | cons x L =>
      have hx : x ∈ wayAll r f fr (t : Int) := by rw [hw]; simp
      have := (hall t ht x (way_route g hx).1).1
      rw [hi] at this; simp at this
  · obtain ⟨a1, a2, _⟩ := h.rt t ht hi
    obtain ⟨b1, b2⟩ := way_is g hf a1 fun l hl => (hall t ht l hl).2
    refine ⟨b1, b2, ?_⟩
    rw [← b2, lenL_sum]; exact a2
end
end Go.Proofs.Ytjgkgnfhglhklaa

/- append of ints onto a slice of the call's own, and mestakit.CopyInts. -/
namespace Go.Proofs.Ytjgkgnfhglhklaa
set_option linter.unusedSimpArgs false
set_option linter.unusedVariables false
open Go.RowKit

theorem run_app_nilI (w : World) (ty : TypeId) (base : Nat) (v : Value) (l : List Int) (hown : OwnInts w base v l) (c : Nat) : (Builtin.append_ #[27, 27] ty #[v, .slice none 0 c]).run Try.prog w = .ok v w := by
  obtain ⟨i0, hi, hz0, hz1, hz2⟩ := info_parts info_int
  rcases hown.2 with ⟨rfl, h0⟩ | ⟨g, cap, cur, rfl, _, _, hc, _⟩
  · simp [Builtin.append_, run_underlying Try.underlying27, sizeOf, typeInfo, hi, Builtin.lenOf, Builtin.firstCells]
  · simp [Builtin.append_, run_underlying Try.underlying27, sizeOf, typeInfo, hi, Builtin.lenOf, Builtin.firstCells, hc, storeCells]
theorem run_app_ints (w : World) (ty : TypeId) (base : Nat) (v : Value) (l : List Int) (hown : OwnInts w base v l) (A : Option Addr) (c : Nat) (ys : List Int) (hr : IntsAt w A ys) (hlen : l.length + ys.length ≤ 100000) (hbase : base ≤ w.heap.size) :
    ∃ v' w', (Builtin.append_ #[27, 27] ty #[v, .slice A ys.length c]).run Try.prog w = .ok v' w' ∧ OwnInts w' base v' (l ++ ys) ∧ Below base w w' ∧ w.grownBy w' v.ownBlock := by
  obtain ⟨i0, hi, hz0, hz1, hz2⟩ := info_parts info_int
  have hblk : ∀ k, v.ownBlock = some k → base ≤ k := fun k hk => by
    rcases hown.2 with ⟨rfl, _⟩ | ⟨g, cap, cur, rfl, hg, _⟩
    · simp [Value.ownBlock] at hk
    · simp [Value.ownBlock] at hk; omega
  cases A with
  | none =>
    have : ys = [] := by rcases hr with h | ⟨_, _, h, _⟩; exact h; simp at h
    subst this
    exact ⟨v, w, run_app_nilI w ty base v l hown c, by simpa using hown, Below.refl _ _, ⟨rfl, rfl, rfl, Nat.le_refl _, fun _ _ _ => rfl⟩⟩
  | some ad =>
    obtain ⟨v', w', h1, h2, h3, h4, h5⟩ := run_append_own_at (P := Try.prog) w base 27 ty 3 i0 _ 1 8 Try.underlying27 hi hz0 hz1 hz2 (by simp [Value.cells]) (by decide) v l.length _ hown ad ys.length c (ys.map (Value.int .i64)) (by simp) (by
        intro j u hj
        have hjl : j < ys.length := by simpa using (List.getElem?_eq_some_iff.1 hj).1
        rcases hr with h | ⟨b, o, he, h⟩
        · subst h; simp at hjl
        · cases he
          rw [addr_add, h j hjl]
          simpa [hjl] using hj) (by
        intro u hu
        obtain ⟨s, _, rfl⟩ := List.mem_map.1 hu
        rfl) (by unfold maxLen; omega) (by omega) hbase
    refine ⟨v', w', h1, ?_, Below.grown (Below.refl _ _) h3 hbase hblk, h3⟩
    unfold OwnInts
    rw [List.length_append, List.map_append]
    exact h2
theorem wp_app_ints {o : Oper} {a : Act} {K : Act → World → Prop} {Q : Exit → Act → World → Prop} {w : World} (s x : Operand)
    (ho : o.op = .call { callee := .builtin .append, args := #[s, x], argTypes := #[27, 27] })
    (base : Nat) (v : Value) (l : List Int) (hs : a.eval s = v) (hown : OwnInts w base v l) (A : Option Addr) (c : Nat) (m : Nat) (ys : List Int) (hm : ys.length = m) (hx : a.eval x = .slice A m c) (hr : IntsAt w A ys) (hlen : l.length + ys.length ≤ 100000) (hbase : base ≤ w.heap.size)
    (h : ∀ v' w', OwnInts w' base v' (l ++ ys) → Below base w w' → w.grownBy w' v.ownBlock → K (a.put o.dst v') w') : o.wp Try.prog a w K Q := by
  subst hm
  obtain ⟨v', w', hrun, h2, h3, h4⟩ := run_app_ints w o.type base v l hown A c ys hr hlen hbase
  unfold Oper.wp execOp
  simp only [ho, resolve, invoke, builtin, Sem.run_bind, Sem.run_pure, Result.andThen_ok, List.map_toArray, List.map_cons, List.map_nil, hs, hx, hrun]
  exact h v' w' h2 h3 h4
theorem list_app_ints {ops : Array Oper} {rest : List Oper} {o : Oper} {a : Act} {Q : Exit → Act → World → Prop} {w : World} (hgd : o.guard = none) (s x : Operand)
    (ho : o.op = .call { callee := .builtin .append, args := #[s, x], argTypes := #[27, 27] })
    (base : Nat) (v : Value) (l : List Int) (hs : a.eval s = v) (hown : OwnInts w base v l) (A : Option Addr) (c : Nat) (m : Nat) (ys : List Int) (hm : ys.length = m) (hx : a.eval x = .slice A m c) (hr : IntsAt w A ys) (hlen : l.length + ys.length ≤ 100000) (hbase : base ≤ w.heap.size)
    (h : ∀ v' w', OwnInts w' base v' (l ++ ys) → Below base w w' → w.grownBy w' v.ownBlock → wpList Try.prog ops Q rest (a.put o.dst v') w') : wpList Try.prog ops Q (o :: rest) a w :=
  wpList_plain hgd fun _ hK => wp_app_ints s x ho base v l hs hown A c m ys hm hx hr hlen hbase fun v' w' h2 h3 h4 => hK _ _ (h v' w' h2 h3 h4)
theorem step_app_ints {ops : Array Oper} {o : Oper} {a : Act} {K : Act → World → Prop} {Q : Exit → Act → World → Prop} {E : Prop} {w : World} (hgd : o.guard = none) (s x : Operand)
    (ho : o.op = .call { callee := .builtin .append, args := #[s, x], argTypes := #[27, 27] })
    (base : Nat) (v : Value) (l : List Int) (hs : a.eval s = v) (hown : OwnInts w base v l) (A : Option Addr) (c : Nat) (m : Nat) (ys : List Int) (hm : ys.length = m) (hx : a.eval x = .slice A m c) (hr : IntsAt w A ys) (hlen : l.length + ys.length ≤ 100000) (hbase : base ≤ w.heap.size)
    (h : ∀ v' w', OwnInts w' base v' (l ++ ys) → Below base w w' → w.grownBy w' v.ownBlock → K (a.put o.dst v') w') :
    if Region.wanted o (yielded ops a.tmps) = true then Oper.wp Try.prog o a w K Q else E := by
  rw [if_pos (by simp [Region.wanted, hgd])]
  exact wp_app_ints s x ho base v l hs hown A c m ys hm hx hr hlen hbase h
theorem own_emptyI (w : World) (B : Nat) (hB : B ≤ w.heap.size) : OwnInts (w.alloc (.cells #[] 3)) B (.slice (some ⟨w.heap.size, 0, none⟩) 0 0) [] :=
  ⟨rfl, .inr ⟨w.heap.size, 0, #[], rfl, hB, heap_alloc_new w _, by simp, by unfold maxLen; omega, by simp, by simp⟩⟩

set_option maxRecDepth 100000 in
set_option maxHeartbeats 4000000 in
theorem CopyInts_any (w : World) (l : List Int) (a : Option Addr) (cap : Nat) (hs : IntsAt w a l) (hlen : l.length ≤ 500) :
    Calls Try.prog 97 #[.slice a l.length cap] w fun e w' => ∃ v, e = .returned v ∧ OwnInts w' w.heap.size v l ∧ Below w.heap.size w w' := by
  have hb : Below w.heap.size w (w.alloc (.cells #[] 3)) := (Below.refl _ _).alloc (Nat.le_refl _) _
  have hown := own_emptyI w w.heap.size (Nat.le_refl _)
  have hs2 := hs.below hb
  have HB := Lib.hid hb; clear hb
  go_enter Try.func97, Try.ntmps97
  go_wp2_with (at_builtin; refine list_app_ints rfl _ _ rfl w.heap.size _ [] rfl hown a cap _ l rfl rfl hs2 (by simp; omega) (by simp) ?_)
  intro v' w' hown' hb' _
  try simp only [List.nil_append] at hown'
  have HOW := Lib.hid hown'; clear hown'
  have HB2 := Lib.hid (HB.out.trans hb'); clear hb'
  go_wp2_with fail
  go_ret
  exact ⟨_, rfl, HOW.out, HB2.out⟩
end Go.Proofs.Ytjgkgnfhglhklaa
/- A chain that is made of another, in a region that draws its order: what holds when some of its operations are done. -/
namespace Go.Proofs.Ytjgkgnfhglhklaa
set_option linter.unusedSimpArgs false
set_option linter.unusedVariables false
open Go.RowKit

/-- A chain lies in its box. -/
def ChainIn (W2 w : World) (p : Nat) (a : Option Addr) (c n : Nat) (lg : Int) (l : List Int) : Prop := w.cell? ⟨p, 0, none⟩ = some (.bool true) ∧ w.cell? ⟨p, 1, none⟩ = some (.int .i64 lg) ∧ w.cell? ⟨p, 2, none⟩ = some (.slice a n c) ∧ OwnInts w W2.heap.size (.slice a n c) l ∧ W2.heap.size ≤ p ∧ Below W2.heap.size W2 w
structure CStage (W2 W : World) (own : Option (Value × List Int)) (one : Option (Nat × Int)) (box : Option Nat) : Prop where
  below : Below W2.heap.size W2 W
  own' : ∀ v l, own = some (v, l) → OwnInts W W2.heap.size v l
  one' : ∀ g i, one = some (g, i) → W2.heap.size ≤ g ∧ W.cell? ⟨g, 0, none⟩ = some (.int .i64 i)
  box' : ∀ p, box = some p → W2.heap.size ≤ p ∧ p < W.heap.size ∧ BoxAt W p
  s1 : ∀ v l g i, own = some (v, l) → one = some (g, i) → v.ownBlock ≠ some g
  s2 : ∀ v l p, own = some (v, l) → box = some p → v.ownBlock ≠ some p
theorem CStage.start (W : World) : CStage W W none none none := ⟨Below.refl _ _, by simp, by simp, by simp, by simp, by simp⟩
theorem OwnInts.blockL {w : World} {B b : Nat} {v : Value} {l : List Int} (h : OwnInts w B v l) (hb : v.ownBlock = some b) : b < w.heap.size ∧ B ≤ b := by
  obtain ⟨_, h2⟩ := h
  rcases h2 with ⟨hv, _⟩ | ⟨g, cap, cur, hv, hg, hh, r⟩
  · subst hv; simp [Value.ownBlock] at hb
  · subst hv; simp [Value.ownBlock] at hb; subst hb; exact ⟨(Array.getElem?_eq_some_iff.1 hh).1, hg⟩
theorem OwnInts.keepB {w w' : World} {B : Nat} {v : Value} {l : List Int} (h : OwnInts w B v l) (hk : ∀ b, v.ownBlock = some b → w'.heap[b]? = w.heap[b]?) : OwnInts w' B v l := by
  obtain ⟨h1, h2⟩ := h
  refine ⟨h1, ?_⟩
  rcases h2 with h2 | ⟨g, cap, cur, hv, hg, hh, r⟩
  · exact .inl h2
  · exact .inr ⟨g, cap, cur, hv, hg, (hk g (by rw [hv]; simp [Value.ownBlock])).trans hh, r⟩
section
variable {W2 w w' : World} {own : Option (Value × List Int)} {one : Option (Nat × Int)} {box : Option Nat}
theorem CStage.keep (h : CStage W2 w own one box) (hb : Below w.heap.size w w') : CStage W2 w' own one box :=
  ⟨h.below.trans (hb.mono h.below.size), fun v l e => (h.own' v l e).below hb, fun g i e => by
    obtain ⟨h1, h2⟩ := h.one' g i e
    exact ⟨h1, ((bcell hb).1 _ _ (lt_of_cell h2)).trans h2⟩, fun p e => by
    obtain ⟨h1, h2, h3⟩ := h.box' p e
    exact ⟨h1, by have := hb.size; omega, h3.keep (hb.block p h2)⟩, h.s1, h.s2⟩
theorem CStage.drew (h : CStage W2 w own one box) : CStage W2 w.drew own one box := h.keep (Below.refl _ _).drew
theorem box_newC (w : World) : BoxAt (w.alloc (.cells #[.bool false, .int .i64 0, .slice none 0 0] 138)) w.heap.size := by
  unfold BoxAt; simp [go_sem]
theorem CStage.newBox (h : CStage W2 w own one none) : CStage W2 (w.alloc (.cells #[.bool false, .int .i64 0, .slice none 0 0] 138)) own one (some w.heap.size) := by
  have hb : Below w.heap.size w (w.alloc (.cells #[.bool false, .int .i64 0, .slice none 0 0] 138)) := (Below.refl _ _).alloc (Nat.le_refl _) _
  have hk := h.keep hb
  refine ⟨hk.below, hk.own', hk.one', fun p e => ?_, hk.s1, fun v l p e1 e2 => ?_⟩
  · obtain rfl := Option.some.inj e
    exact ⟨h.below.size, by simp, box_newC w⟩
  · obtain rfl := Option.some.inj e2
    intro hv
    have := ((h.own' v l e1).blockL hv).1
    omega
theorem CStage.newOwn (h : CStage W2 w none one box) : CStage W2 (w.alloc (.cells #[] 3)) (some (.slice (some ⟨w.heap.size, 0, none⟩) 0 0, [])) one box := by
  have hb : Below w.heap.size w (w.alloc (.cells #[] 3)) := (Below.refl _ _).alloc (Nat.le_refl _) _
  have hk := h.keep hb
  refine ⟨hk.below, fun v l e => ?_, hk.one', hk.box', fun v l g i e1 e2 => ?_, fun v l p e1 e2 => ?_⟩
  · simp only [Option.some.injEq, Prod.mk.injEq] at e
    obtain ⟨rfl, rfl⟩ := e
    exact own_emptyI w W2.heap.size h.below.size
  · simp only [Option.some.injEq, Prod.mk.injEq] at e1
    obtain ⟨rfl, rfl⟩ := e1
    have := lt_of_cell (h.one' g i e2).2
    simp [Value.ownBlock]; omega
  · simp only [Option.some.injEq, Prod.mk.injEq] at e1
    obtain ⟨rfl, rfl⟩ := e1
    have := (h.box' p e2).2.1
    simp [Value.ownBlock]; omega
theorem CStage.newOne (h : CStage W2 w own none box) (i : Int) : CStage W2 (w.alloc (.cells #[.int .i64 i] 3)) own (some (w.heap.size, i)) box := by
  have hb : Below w.heap.size w (w.alloc (.cells #[.int .i64 i] 3)) := (Below.refl _ _).alloc (Nat.le_refl _) _
  have hk := h.keep hb
  refine ⟨hk.below, hk.own', fun g i' e => ?_, hk.box', fun v l g i' e1 e2 => ?_, hk.s2⟩
  · simp only [Option.some.injEq, Prod.mk.injEq] at e
    obtain ⟨rfl, rfl⟩ := e
    exact ⟨h.below.size, by simp [go_sem]⟩
  · simp only [Option.some.injEq, Prod.mk.injEq] at e2
    obtain ⟨rfl, rfl⟩ := e2
    intro hv
    have := ((h.own' v l e1).blockL hv).1
    omega
theorem run_app_intsG (w : World) (ty : TypeId) (base : Nat) (v : Value) (l : List Int) (hown : OwnInts w base v l) (A : Option Addr) (c : Nat) (ys : List Int) (hr : IntsAt w A ys) (hlen : l.length + ys.length ≤ 2000) (hbase : base ≤ w.heap.size) :
    ∃ v' w', (Builtin.append_ #[27, 27] ty #[v, .slice A ys.length c]).run Try.prog w = .ok v' w' ∧ OwnInts w' base v' (l ++ ys) ∧ Below base w w' ∧ w.grownBy w' v.ownBlock ∧ (v'.ownBlock = v.ownBlock ∨ v'.ownBlock = some w.heap.size) := by
  obtain ⟨i0, hi, hz0, hz1, hz2⟩ := info_parts info_int
  have hblk : ∀ k, v.ownBlock = some k → base ≤ k := fun k hk => (hown.blockL hk).2
  cases A with
  | none =>
    have : ys = [] := by rcases hr with h | ⟨_, _, h, _⟩; exact h; simp at h
    subst this
    exact ⟨v, w, run_app_nilI w ty base v l hown c, by simpa using hown, Below.refl _ _, ⟨rfl, rfl, rfl, Nat.le_refl _, fun _ _ _ => rfl⟩, .inl rfl⟩
  | some ad =>
    obtain ⟨v', w', h1, h2, h3, h4, h5⟩ := run_append_own_at (P := Try.prog) w base 27 ty 3 i0 _ 1 8 Try.underlying27 hi hz0 hz1 hz2 (by simp [Value.cells]) (by decide) v l.length _ hown ad ys.length c (ys.map (Value.int .i64)) (by simp) (by
        intro j u hj
        have hjl : j < ys.length := by simpa using (List.getElem?_eq_some_iff.1 hj).1
        rcases hr with h | ⟨b, o, he, h⟩
        · subst h; simp at hjl
        · cases he
          rw [addr_add, h j hjl]
          simpa [hjl] using hj) (by
        intro u hu
        obtain ⟨s, _, rfl⟩ := List.mem_map.1 hu
        rfl) (by unfold maxLen; omega) (by omega) hbase
    refine ⟨v', w', h1, ?_, Below.grown (Below.refl _ _) h3 hbase hblk, h3, h5⟩
    unfold OwnInts
    rw [List.length_append, List.map_append]
    exact h2
theorem CStage.grown {v v' : Value} {l l' : List Int} (h : CStage W2 w (some (v, l)) one box) (hown : OwnInts w' W2.heap.size v' l') (hb : Below W2.heap.size w w') (hg : w.grownBy w' v.ownBlock) (hv : v'.ownBlock = v.ownBlock ∨ v'.ownBlock = some w.heap.size) : CStage W2 w' (some (v', l')) one box := by
  refine ⟨h.below.trans hb, fun u m e => ?_, fun g i e => ?_, fun p e => ?_, fun u m g i e1 e2 => ?_, fun u m p e1 e2 => ?_⟩
  · simp only [Option.some.injEq, Prod.mk.injEq] at e
    obtain ⟨rfl, rfl⟩ := e
    exact hown
  · obtain ⟨h1, h2⟩ := h.one' g i e
    have hne : some g ≠ v.ownBlock := fun e' => h.s1 v l g i rfl e e'.symm
    exact ⟨h1, (hg.cell_far ⟨g, 0, none⟩ (lt_of_cell h2) hne).trans h2⟩
  · obtain ⟨h1, h2, h3⟩ := h.box' p e
    have hne : some p ≠ v.ownBlock := fun e' => h.s2 v l p rfl e e'.symm
    exact ⟨h1, by have := hg.size; omega, h3.keep (hg.block p h2 hne)⟩
  · simp only [Option.some.injEq, Prod.mk.injEq] at e1
    obtain ⟨rfl, rfl⟩ := e1
    have h1 := lt_of_cell (h.one' g i e2).2
    rcases hv with hv | hv
    · rw [hv]; exact h.s1 v l g i rfl e2
    · rw [hv]; simp; omega
  · simp only [Option.some.injEq, Prod.mk.injEq] at e1
    obtain ⟨rfl, rfl⟩ := e1
    have h1 := (h.box' p e2).2.1
    rcases hv with hv | hv
    · rw [hv]; exact h.s2 v l p rfl e2
    · rw [hv]; simp; omega
end
section
variable {o : Oper} {a : Act} {K : Act → World → Prop} {Q : Exit → Act → World → Prop} {W2 w : World}
theorem wp_appC1 (hgd : o.guard = none) {one : Option (Nat × Int)} {box : Option Nat} {g : Nat} (hN : CStage W2 w (some (.slice (some ⟨g, 0, none⟩) 0 0, [])) one box) (s x : Operand)
    (ho : o.op = .call { callee := .builtin .append, args := #[s, x], argTypes := #[27, 27] }) (hs : a.eval s = .slice (some ⟨g, 0, none⟩) 0 0)
    (A : Option Addr) (c : Nat) (ys : List Int) (hx : a.eval x = .slice A ys.length c) (hr : IntsAt W2 A ys) (hlen : ys.length ≤ 1010)
    (h : ∀ v' w', CStage W2 w' (some (v', ys)) one box → K (a.put o.dst v') w') : Oper.wp Try.prog o a w K Q := by
  obtain ⟨v', w', hrun, h2, h3, h4, h5⟩ := run_app_intsG w o.type W2.heap.size _ [] (hN.own' _ _ rfl) A c ys (hr.below hN.below) (by simp; omega) hN.below.size
  unfold Oper.wp execOp
  simp only [ho, resolve, invoke, builtin, Sem.run_bind, Sem.run_pure, Result.andThen_ok, List.map_toArray, List.map_cons, List.map_nil, hs, hx, hrun]
  exact h v' w' (hN.grown (by simpa using h2) h3 h4 h5)
theorem wp_appC2 (hgd : o.guard = none) {box : Option Nat} {v : Value} {l : List Int} {g : Nat} {i : Int} (hN : CStage W2 w (some (v, l)) (some (g, i)) box) (s x : Operand)
    (ho : o.op = .call { callee := .builtin .append, args := #[s, x], argTypes := #[27, 27] }) (hs : a.eval s = v)
    (hx : a.eval x = .slice (some ⟨g, 0, none⟩) 1 1) (hlen : l.length ≤ 1010)
    (h : ∀ A c w', CStage W2 w' (some (.slice A (l.length + 1) c, l ++ [i])) (some (g, i)) box → K (a.put o.dst (.slice A (l.length + 1) c)) w') : Oper.wp Try.prog o a w K Q := by
  have ho1 := hN.one' g i rfl
  obtain ⟨v', w', hrun, h2, h3, h4, h5⟩ := run_app_intsG w o.type W2.heap.size v l (hN.own' _ _ rfl) (some ⟨g, 0, none⟩) 1 [i] (.inr ⟨g, 0, rfl, fun k hk => by
    obtain rfl : k = 0 := by simpa using hk
    exact ho1.2⟩) (by simp; omega) hN.below.size
  obtain ⟨A, c, rfl, _⟩ := h2.ints
  rw [List.length_append, List.length_singleton] at hrun h2 h5
  unfold Oper.wp execOp
  simp only [ho, resolve, invoke, builtin, Sem.run_bind, Sem.run_pure, Result.andThen_ok, List.map_toArray, List.map_cons, List.map_nil, hs, hx]
  simp only [hrun, Result.andThen_ok, Sem.run_pure]
  exact h A c w' (hN.grown (v' := .slice A (l.length + 1) c) (by simpa using h2) h3 h4 (by simpa using h5))
theorem CStage.fin1 {one : Option (Nat × Int)} {A : Option Addr} {n c : Nat} {L : List Int} {p : Nat} (h : CStage W2 w (some (.slice A n c, L)) one (some p)) (lg : Int) : ChainIn W2 (((w.setCell ⟨p, 0, none⟩ (.bool true)).setCell ⟨p, 1, none⟩ (.int .i64 lg)).setCell ⟨p, 2, none⟩ (.slice A n c)) p A c n lg L := by
  obtain ⟨b1, b2, k1, k2, k3, k4, k5, k6⟩ := h.box' p rfl
  have hkk : ∀ b, b ≠ p → (((w.setCell ⟨p, 0, none⟩ (.bool true)).setCell ⟨p, 1, none⟩ (.int .i64 lg)).setCell ⟨p, 2, none⟩ (.slice A n c)).heap[b]? = w.heap[b]? := fun b hb => by
    rw [Below.heap_setCell _ ⟨p, 2, none⟩ _ b hb, Below.heap_setCell _ ⟨p, 1, none⟩ _ b hb, Below.heap_setCell _ ⟨p, 0, none⟩ _ b hb]
  have hown := (h.own' _ _ rfl).keepB (w' := (((w.setCell ⟨p, 0, none⟩ (.bool true)).setCell ⟨p, 1, none⟩ (.int .i64 lg)).setCell ⟨p, 2, none⟩ (.slice A n c))) fun b hb => hkk b (by intro e; subst e; exact h.s2 _ _ _ rfl rfl hb)
  refine ⟨?_, ?_, ?_, hown, b1, ((h.below.setCell (p := ⟨p, 0, none⟩) b1 _).setCell (p := ⟨p, 1, none⟩) b1 _).setCell (p := ⟨p, 2, none⟩) b1 _⟩ <;> simp [go_sem, k1, k2, k3]
end
end Go.Proofs.Ytjgkgnfhglhklaa
namespace Go.Proofs.Ytjgkgnfhglhklaa
set_option linter.unusedSimpArgs false
set_option linter.unusedVariables false
open Go.RowKit

theorem lt_21 : ∀ k, k < 21 → k = 0 ∨ k = 1 ∨ k = 2 ∨ k = 3 ∨ k = 4 ∨ k = 5 ∨ k = 6 ∨ k = 7 ∨ k = 8 ∨ k = 9 ∨ k = 10 ∨ k = 11 ∨ k = 12 ∨ k = 13 ∨ k = 14 ∨ k = 15 ∨ k = 16 ∨ k = 17 ∨ k = 18 ∨ k = 19 ∨ k = 20 := by decide
section
variable (W2 : World) (gR S sN bx : Nat) (lgA xL : Int) (plA : List Int) (pa : Option Addr) (pc : Nat) (i : Int)
/-- The values of the operations that read and reckon. -/
def cvalC : Nat → Option Value
  | 0 => some (.slice (some ⟨gR, 0, none⟩) S S)
  | 1 => some (.int .i64 (sN : Int))
  | 2 => some (.pointer (some ⟨gR, sN * 3, none⟩))
  | 3 => some (.pointer (some ⟨gR, sN * 3 + 1, none⟩))
  | 4 => some (.int .i64 lgA)
  | 5 => some (.pointer (some ⟨bx, 2, none⟩))
  | 6 => some (.int .i64 xL)
  | 7 => some (.int .i64 (lgA + xL))
  | 9 => some (.slice (some ⟨gR, 0, none⟩) S S)
  | 10 => some (.int .i64 (sN : Int))
  | 11 => some (.pointer (some ⟨gR, sN * 3, none⟩))
  | 12 => some (.pointer (some ⟨gR, sN * 3 + 2, none⟩))
  | 13 => some (.slice pa plA.length pc)
  | 15 => some (.int .i64 i)
  | _ => none
def ownOfC (L : Nat → Bool) (vs : Nat → Value) : Option (Value × List Int) := if L 17 then some (vs 17, plA ++ [i]) else if L 14 then some (vs 14, plA) else if L 8 then some (vs 8, []) else none
def oneOfC (L : Nat → Bool) (vs : Nat → Value) : Option (Nat × Int) := if L 16 then (match vs 16 with | .slice (some ad) _ _ => some (ad.block, i) | _ => none) else none
def boxOfC (L : Nat → Bool) (vs : Nat → Value) : Option Nat := if L 19 then (match vs 19 with | .pointer (some ad) => some ad.block | _ => none) else none
structure CInv (L : Nat → Bool) (vs : Nat → Value) (w : World) : Prop where
  c : ∀ k v, L k = true → cvalC gR S sN bx lgA xL plA pa pc i k = some v → vs k = v
  s5 : L 8 = true → ∃ g, vs 8 = .slice (some ⟨g, 0, none⟩) 0 0
  s12 : L 16 = true → ∃ g, vs 16 = .slice (some ⟨g, 0, none⟩) 1 1
  s13 : L 17 = true → ∃ a2 c2, vs 17 = .slice a2 (plA.length + 1) c2
  s14 : L 18 = true → vs 18 = .agg #[.bool true, .int .i64 (lgA + xL), vs 17]
  s15 : L 19 = true → ∃ p, vs 19 = .pointer (some ⟨p, 0, none⟩)
  d8 : L 14 = true → L 8 = true
  d13 : L 17 = true → L 14 = true ∧ L 16 = true
  d14 : L 18 = true → L 17 = true
  d16 : L 20 = true → L 18 = true ∧ L 19 = true
  st : L 20 = false → CStage W2 w (ownOfC plA i L vs) (oneOfC i L vs) (boxOfC L vs)
  fin : L 20 = true → ∃ p a2 c2, vs 19 = .pointer (some ⟨p, 0, none⟩) ∧ ChainIn W2 w p a2 c2 (plA.length + 1) (lgA + xL) (plA ++ [i])
end
section
variable {W2 : World} {gR S sN bx : Nat} {lgA xL : Int} {plA : List Int} {pa : Option Addr} {pc : Nat} {i : Int} {L : Nat → Bool} {vs : Nat → Value} {w : World}
theorem CInv.start (h : w = W2.drew) : CInv W2 gR S sN bx lgA xL plA pa pc i (fun _ => false) vs w := by
  subst h
  exact ⟨by simp, by simp, by simp, by simp, by simp, by simp, by simp, by simp, by simp, by simp, fun _ => (CStage.start W2).drew, by simp⟩
/-- Every operation keeps what is said of the others' values. -/
theorem upd_cC {k : Nat} {u : Value} (h : CInv W2 gR S sN bx lgA xL plA pa pc i L vs w) (hu : ∀ v, cvalC gR S sN bx lgA xL plA pa pc i k = some v → u = v) : ∀ j v, updF L k true j = true → cvalC gR S sN bx lgA xL plA pa pc i j = some v → updF vs k u j = v := fun j v hj hv => by
  by_cases e : j = k
  · subst e; rw [updF_same]; exact hu v hv
  · rw [updF_ne _ _ e] at hj ⊢; exact h.c j v hj hv
theorem CInv.pure {k : Nat} {v : Value} (h : CInv W2 gR S sN bx lgA xL plA pa pc i L vs w) (hk : cvalC gR S sN bx lgA xL plA pa pc i k = some v) : CInv W2 gR S sN bx lgA xL plA pa pc i (updF L k true) (updF vs k v) w := by
  have h5 : (8 : Nat) ≠ k := by rintro rfl; simp [cvalC] at hk
  have h8 : (14 : Nat) ≠ k := by rintro rfl; simp [cvalC] at hk
  have h12 : (16 : Nat) ≠ k := by rintro rfl; simp [cvalC] at hk
  have h13 : (17 : Nat) ≠ k := by rintro rfl; simp [cvalC] at hk
  have h14 : (18 : Nat) ≠ k := by rintro rfl; simp [cvalC] at hk
  have h15 : (19 : Nat) ≠ k := by rintro rfl; simp [cvalC] at hk
  have h16 : (20 : Nat) ≠ k := by rintro rfl; simp [cvalC] at hk
  refine ⟨upd_cC h fun v' hv' => by rw [hk] at hv'; exact Option.some.inj hv', ?_, ?_, ?_, ?_, ?_, ?_, ?_, ?_, ?_, ?_, ?_⟩
  · rw [updF_ne _ _ h5, updF_ne _ _ h5]; exact h.s5
  · rw [updF_ne _ _ h12, updF_ne _ _ h12]; exact h.s12
  · rw [updF_ne _ _ h13, updF_ne _ _ h13]; exact h.s13
  · rw [updF_ne _ _ h14, updF_ne _ _ h14, updF_ne _ _ h13]; exact h.s14
  · rw [updF_ne _ _ h15, updF_ne _ _ h15]; exact h.s15
  · rw [updF_ne _ _ h8, updF_ne _ _ h5]; exact h.d8
  · rw [updF_ne _ _ h13, updF_ne _ _ h8, updF_ne _ _ h12]; exact h.d13
  · rw [updF_ne _ _ h14, updF_ne _ _ h13]; exact h.d14
  · rw [updF_ne _ _ h16, updF_ne _ _ h14, updF_ne _ _ h15]; exact h.d16
  · unfold ownOfC oneOfC boxOfC
    rw [updF_ne _ _ h16, updF_ne _ _ h13, updF_ne _ _ h13, updF_ne _ _ h8, updF_ne _ _ h8, updF_ne _ _ h5, updF_ne _ _ h5, updF_ne _ _ h12, updF_ne _ _ h12, updF_ne _ _ h15, updF_ne _ _ h15]
    exact h.st
  · rw [updF_ne _ _ h16, updF_ne _ _ h15]; exact h.fin
theorem CInv.below (h : CInv W2 gR S sN bx lgA xL plA pa pc i L vs w) : Below W2.heap.size W2 w := by
  cases e : L 20
  · exact (h.st e).below
  · obtain ⟨_, _, _, _, hf⟩ := h.fin e
    exact hf.2.2.2.2.2
theorem CInv.early5 (h : CInv W2 gR S sN bx lgA xL plA pa pc i L vs w) (hl : L 8 = false) : L 14 = false ∧ L 17 = false ∧ L 18 = false ∧ L 20 = false := by
  have h8 : L 14 = false := by cases e : L 14 <;> simp; have := h.d8 e; rw [hl] at this; simp at this
  have h13 : L 17 = false := by cases e : L 17 <;> simp; have := (h.d13 e).1; rw [h8] at this; simp at this
  have h14 : L 18 = false := by cases e : L 18 <;> simp; have := h.d14 e; rw [h13] at this; simp at this
  have h16 : L 20 = false := by cases e : L 20 <;> simp; have := (h.d16 e).1; rw [h14] at this; simp at this
  exact ⟨h8, h13, h14, h16⟩
theorem CInv.early8 (h : CInv W2 gR S sN bx lgA xL plA pa pc i L vs w) (hl : L 14 = false) : L 17 = false ∧ L 18 = false ∧ L 20 = false := by
  have h13 : L 17 = false := by cases e : L 17 <;> simp; have := (h.d13 e).1; rw [hl] at this; simp at this
  have h14 : L 18 = false := by cases e : L 18 <;> simp; have := h.d14 e; rw [h13] at this; simp at this
  have h16 : L 20 = false := by cases e : L 20 <;> simp; have := (h.d16 e).1; rw [h14] at this; simp at this
  exact ⟨h13, h14, h16⟩
theorem CInv.early12 (h : CInv W2 gR S sN bx lgA xL plA pa pc i L vs w) (hl : L 16 = false) : L 17 = false ∧ L 18 = false ∧ L 20 = false := by
  have h13 : L 17 = false := by cases e : L 17 <;> simp; have := (h.d13 e).2; rw [hl] at this; simp at this
  have h14 : L 18 = false := by cases e : L 18 <;> simp; have := h.d14 e; rw [h13] at this; simp at this
  have h16 : L 20 = false := by cases e : L 20 <;> simp; have := (h.d16 e).1; rw [h14] at this; simp at this
  exact ⟨h13, h14, h16⟩
theorem CInv.early13 (h : CInv W2 gR S sN bx lgA xL plA pa pc i L vs w) (hl : L 17 = false) : L 18 = false ∧ L 20 = false := by
  have h14 : L 18 = false := by cases e : L 18 <;> simp; have := h.d14 e; rw [hl] at this; simp at this
  have h16 : L 20 = false := by cases e : L 20 <;> simp; have := (h.d16 e).1; rw [h14] at this; simp at this
  exact ⟨h14, h16⟩
theorem CInv.early14 (h : CInv W2 gR S sN bx lgA xL plA pa pc i L vs w) (hl : L 18 = false) : L 20 = false := by
  cases e : L 20 <;> simp; have := (h.d16 e).1; rw [hl] at this; simp at this
theorem CInv.early15 (h : CInv W2 gR S sN bx lgA xL plA pa pc i L vs w) (hl : L 19 = false) : L 20 = false := by
  cases e : L 20 <;> simp; have := (h.d16 e).2; rw [hl] at this; simp at this
/-- The empty slice. -/
theorem CInv.op5 (h : CInv W2 gR S sN bx lgA xL plA pa pc i L vs w) (hl : L 8 = false) : CInv W2 gR S sN bx lgA xL plA pa pc i (updF L 8 true) (updF vs 8 (.slice (some ⟨w.heap.size, 0, none⟩) 0 0)) (w.alloc (.cells #[] 3)) := by
  obtain ⟨h8, h13, h14, h16⟩ := h.early5 hl
  have hst := h.st h16
  have e : ownOfC plA i L vs = none := by simp [ownOfC, hl, h8, h13]
  rw [e] at hst
  have hn := hst.newOwn
  refine ⟨upd_cC h (by simp [cvalC]), fun _ => ⟨_, updF_same _ _ _⟩, h.s12, h.s13, h.s14, h.s15, fun _ => updF_same _ _ _, h.d13, h.d14, h.d16, fun _ => ?_, fun hf => ?_⟩
  · have e1 : ownOfC plA i (updF L 8 true) (updF vs 8 (.slice (some ⟨w.heap.size, 0, none⟩) 0 0)) = some (.slice (some ⟨w.heap.size, 0, none⟩) 0 0, []) := by simp [ownOfC, updF, h8, h13]
    rw [e1]; exact hn
  · exact absurd hf (by simp [updF, h16])
/-- The box. -/
theorem CInv.op15 (h : CInv W2 gR S sN bx lgA xL plA pa pc i L vs w) (hl : L 19 = false) : CInv W2 gR S sN bx lgA xL plA pa pc i (updF L 19 true) (updF vs 19 (.pointer (some ⟨w.heap.size, 0, none⟩))) (w.alloc (.cells #[.bool false, .int .i64 0, .slice none 0 0] 138)) := by
  have h16 := h.early15 hl
  have hst := h.st h16
  have e : boxOfC L vs = none := by simp [boxOfC, hl]
  rw [e] at hst
  have hn := hst.newBox
  refine ⟨upd_cC h (by simp [cvalC]), h.s5, h.s12, h.s13, h.s14, fun _ => ⟨_, updF_same _ _ _⟩, h.d8, h.d13, h.d14, fun hf => absurd hf (by simp [updF, h16]), fun _ => ?_, fun hf => absurd hf (by simp [updF, h16])⟩
  have e1 : boxOfC (updF L 19 true) (updF vs 19 (.pointer (some ⟨w.heap.size, 0, none⟩))) = some w.heap.size := by simp [boxOfC, updF]
  rw [e1]; exact hn
/-- The stride that is added. -/
theorem CInv.op12 (h : CInv W2 gR S sN bx lgA xL plA pa pc i L vs w) (hl : L 16 = false) : CInv W2 gR S sN bx lgA xL plA pa pc i (updF L 16 true) (updF vs 16 (.slice (some ⟨w.heap.size, 0, none⟩) 1 1)) (w.alloc (.cells #[.int .i64 i] 3)) := by
  obtain ⟨h13, h14, h16⟩ := h.early12 hl
  have hst := h.st h16
  have e : oneOfC i L vs = none := by simp [oneOfC, hl]
  rw [e] at hst
  have hn := hst.newOne i
  refine ⟨upd_cC h (by simp [cvalC]), h.s5, fun _ => ⟨_, updF_same _ _ _⟩, h.s13, h.s14, h.s15, h.d8, fun hf => absurd hf (by simp [updF, h13]), h.d14, h.d16, fun _ => ?_, fun hf => absurd hf (by simp [updF, h16])⟩
  have e1 : oneOfC i (updF L 16 true) (updF vs 16 (.slice (some ⟨w.heap.size, 0, none⟩) 1 1)) = some (w.heap.size, i) := by simp [oneOfC, updF]
  rw [e1]; exact hn
/-- The old plan is copied. -/
theorem CInv.own8 (h : CInv W2 gR S sN bx lgA xL plA pa pc i L vs w) (hl : L 14 = false) (h5 : L 8 = true) : ∃ g, vs 8 = .slice (some ⟨g, 0, none⟩) 0 0 ∧ CStage W2 w (some (.slice (some ⟨g, 0, none⟩) 0 0, [])) (oneOfC i L vs) (boxOfC L vs) := by
  obtain ⟨h13, h14, h16⟩ := h.early8 hl
  obtain ⟨g, hg⟩ := h.s5 h5
  have hst := h.st h16
  have e : ownOfC plA i L vs = some (.slice (some ⟨g, 0, none⟩) 0 0, []) := by simp [ownOfC, hl, h13, h5, hg]
  rw [e] at hst
  exact ⟨g, hg, hst⟩
theorem CInv.op8 (h : CInv W2 gR S sN bx lgA xL plA pa pc i L vs w) (hl : L 14 = false) (h5 : L 8 = true) {v' : Value} {w' : World} (hn : CStage W2 w' (some (v', plA)) (oneOfC i L vs) (boxOfC L vs)) : CInv W2 gR S sN bx lgA xL plA pa pc i (updF L 14 true) (updF vs 14 v') w' := by
  obtain ⟨h13, h14, h16⟩ := h.early8 hl
  refine ⟨upd_cC h (by simp [cvalC]), h.s5, h.s12, h.s13, h.s14, h.s15, fun _ => h5, fun hf => absurd hf (by simp [updF, h13]), h.d14, h.d16, fun _ => ?_, fun hf => absurd hf (by simp [updF, h16])⟩
  have e1 : ownOfC plA i (updF L 14 true) (updF vs 14 v') = some (v', plA) := by simp [ownOfC, updF, h13]
  rw [e1]; exact hn
/-- The stride is added. -/
theorem CInv.own13 (h : CInv W2 gR S sN bx lgA xL plA pa pc i L vs w) (hl : L 17 = false) (h8 : L 14 = true) (h12 : L 16 = true) : ∃ g, vs 16 = .slice (some ⟨g, 0, none⟩) 1 1 ∧ CStage W2 w (some (vs 14, plA)) (some (g, i)) (boxOfC L vs) := by
  obtain ⟨h14, h16⟩ := h.early13 hl
  obtain ⟨g, hg⟩ := h.s12 h12
  have hst := h.st h16
  have e : ownOfC plA i L vs = some (vs 14, plA) := by simp [ownOfC, hl, h8]
  have e2 : oneOfC i L vs = some (g, i) := by simp [oneOfC, h12, hg]
  rw [e, e2] at hst
  exact ⟨g, hg, hst⟩
theorem CInv.op13 (h : CInv W2 gR S sN bx lgA xL plA pa pc i L vs w) (hl : L 17 = false) (h8 : L 14 = true) (h12 : L 16 = true) {g c2 : Nat} {a2 : Option Addr} {w' : World} (hg : vs 16 = .slice (some ⟨g, 0, none⟩) 1 1) (hn : CStage W2 w' (some (.slice a2 (plA.length + 1) c2, plA ++ [i])) (some (g, i)) (boxOfC L vs)) :
    CInv W2 gR S sN bx lgA xL plA pa pc i (updF L 17 true) (updF vs 17 (.slice a2 (plA.length + 1) c2)) w' := by
  obtain ⟨h14, h16⟩ := h.early13 hl
  refine ⟨upd_cC h (by simp [cvalC]), h.s5, h.s12, fun _ => ⟨_, _, updF_same _ _ _⟩, fun hf => absurd hf (by simp [updF, h14]), h.s15, h.d8, fun _ => ⟨h8, h12⟩, fun _ => updF_same _ _ _, h.d16, fun _ => ?_, fun hf => absurd hf (by simp [updF, h16])⟩
  have e1 : ownOfC plA i (updF L 17 true) (updF vs 17 (.slice a2 (plA.length + 1) c2)) = some (.slice a2 (plA.length + 1) c2, plA ++ [i]) := by simp [ownOfC, updF]
  have e2 : oneOfC i (updF L 17 true) (updF vs 17 (.slice a2 (plA.length + 1) c2)) = some (g, i) := by simp [oneOfC, updF, h12, hg]
  rw [e1, e2]; exact hn
theorem CInv.op14 (h : CInv W2 gR S sN bx lgA xL plA pa pc i L vs w) (hl : L 18 = false) (h13 : L 17 = true) : CInv W2 gR S sN bx lgA xL plA pa pc i (updF L 18 true) (updF vs 18 (.agg #[.bool true, .int .i64 (lgA + xL), vs 17])) w := by
  have h16 := h.early14 hl
  refine ⟨upd_cC h (by simp [cvalC]), h.s5, h.s12, h.s13, fun _ => by rw [updF_same, updF_ne _ _ (by decide)], h.s15, h.d8, h.d13, fun _ => h13, fun hf => absurd hf (by simp [updF, h16]), fun _ => h.st h16, fun hf => absurd hf (by simp [updF, h16])⟩
/-- The walk is laid in its box. -/
theorem CInv.own16 (h : CInv W2 gR S sN bx lgA xL plA pa pc i L vs w) (hl : L 20 = false) (h14 : L 18 = true) (h15 : L 19 = true) : ∃ p a2 c2, vs 19 = .pointer (some ⟨p, 0, none⟩) ∧ vs 18 = .agg #[.bool true, .int .i64 (lgA + xL), .slice a2 (plA.length + 1) c2] ∧ BoxAt w p ∧
    CInv W2 gR S sN bx lgA xL plA pa pc i (updF L 20 true) vs (((w.setCell ⟨p, 0, none⟩ (.bool true)).setCell ⟨p, 1, none⟩ (.int .i64 (lgA + xL))).setCell ⟨p, 2, none⟩ (.slice a2 (plA.length + 1) c2)) := by
  have h13 := h.d14 h14
  obtain ⟨p, hp⟩ := h.s15 h15
  obtain ⟨a2, c2, hv⟩ := h.s13 h13
  have hst := h.st hl
  have e1 : ownOfC plA i L vs = some (.slice a2 (plA.length + 1) c2, plA ++ [i]) := by simp [ownOfC, h13, hv]
  have e2 : boxOfC L vs = some p := by simp [boxOfC, h15, hp]
  rw [e1, e2] at hst
  have hf := hst.fin1 (lgA + xL)
  have e14 := h.s14 h14
  rw [hv] at e14
  refine ⟨p, a2, c2, hp, e14, (hst.box' p rfl).2.2, ⟨fun k v hk hv' => h.c k v (by by_cases e : k = 20; subst e; simp [cvalC] at hv'; rwa [updF_ne _ _ e] at hk) hv', h.s5, h.s12, h.s13, h.s14, h.s15, h.d8, h.d13, h.d14, fun _ => ⟨h14, h15⟩, fun hx => ?_, fun _ => ⟨p, a2, c2, hp, hf⟩⟩⟩
  rw [updF_same] at hx; simp at hx
end
end Go.Proofs.Ytjgkgnfhglhklaa
