/- The contract of after: at which stages the flock can be at a day's end. -/
import Derived.Test.YtjgkgnfhglhklaaSpots
namespace Go.Proofs.Ytjgkgnfhglhklaa
set_option linter.unusedSimpArgs false
set_option linter.unusedVariables false
open Go.RowKit
open Go.ChangeMaps (setBlock)

/-- The spots, reckoned. -/
def growL (r : Roads) (f : Flock) (shut : Int) (day : Int) (S : List (Int × Int)) : List (Int × Int) :=
  S ++ ((S.flatMap fun p => (List.range r.strips.length).filterMap (stepOk r f shut day p)).filter (fun q => !S.contains q)).eraseDups
def spotsK (r : Roads) (f : Flock) (shut : Int) (n : Nat) (day : Int) : Nat → List (Int × Int)
  | 0 => startsTo n r.stages.toNat
  | k + 1 => growL r f shut day (spotsK r f shut n day k)
def orAll (l : List (Int × Int)) : Nat := l.foldl (fun acc p => acc ||| 1 <<< p.1.toNat) 0
/-- The set of stages at which the flock can be at the end of a day. -/
def afterN (r : Roads) (f : Flock) (shut : Int) (n : Nat) (day : Int) : Nat := orAll (spotsK r f shut n day 9)

theorem mem_growL {r : Roads} {f : Flock} {shut day : Int} {S : List (Int × Int)} {q : Int × Int} : q ∈ growL r f shut day S ↔ q ∈ S ∨ ∃ p ∈ S, ∃ i, stepOk r f shut day p i = some q := by
  unfold growL
  rw [List.mem_append, List.mem_eraseDups, List.mem_filter, List.mem_flatMap]
  constructor
  · rintro (h | ⟨⟨p, hp, h⟩, _⟩)
    · exact .inl h
    · obtain ⟨i, _, hi⟩ := List.mem_filterMap.1 h; exact .inr ⟨p, hp, i, hi⟩
  · rintro (h | ⟨p, hp, i, hi⟩)
    · exact .inl h
    · by_cases hq : q ∈ S
      · exact .inl hq
      · refine .inr ⟨⟨p, hp, List.mem_filterMap.2 ⟨i, ?_, hi⟩⟩, by simpa using hq⟩
        obtain ⟨s, hs, _⟩ := stepOk_some.1 hi
        exact List.mem_range.2 (List.getElem?_eq_some_iff.1 hs).1

theorem spotsK_mono {r : Roads} {f : Flock} {shut : Int} {n : Nat} {day : Int} {q : Int × Int} {k j : Nat} (h : q ∈ spotsK r f shut n day k) (hj : k ≤ j) : q ∈ spotsK r f shut n day j := by
  induction j with
  | zero => obtain rfl : k = 0 := by omega
            exact h
  | succ j ih =>
    by_cases e : k = j + 1
    · subst e; exact h
    · exact mem_growL.2 (.inl (ih (by omega)))

theorem spotsK_sound {r : Roads} {f : Flock} {shut : Int} {n : Nat} {day : Int} : ∀ {k : Nat} {q : Int × Int}, q ∈ spotsK r f shut n day k → Spot r f shut n day q
  | 0, q, h => by
    obtain ⟨s, h1, h2, rfl⟩ := mem_starts.1 h
    exact .start s (by omega) h2
  | k + 1, q, h => by
    rcases mem_growL.1 h with h | ⟨p, hp, i, hi⟩
    · exact spotsK_sound h
    · exact .step p q i (spotsK_sound hp) hi

theorem mem_spotsK {r : Roads} {f : Flock} (g : Good r f) {shut : Int} {n : Nat} {day : Int} {q : Int × Int} : q ∈ spotsK r f shut n day 9 ↔ Spot r f shut n day q := by
  refine ⟨spotsK_sound, fun h => ?_⟩
  have key : ∀ k : Nat, q.2 ≤ (k : Int) → q ∈ spotsK r f shut n day k := by
    induction h with
    | start s h1 h2 => exact fun k _ => spotsK_mono (k := 0) (mem_starts.2 ⟨s, by omega, h2, rfl⟩) (Nat.zero_le _)
    | step p q i hp hq ih =>
      intro k hk
      obtain ⟨s, hs, _, _, _, rfl⟩ := stepOk_some.1 hq
      have hL := (g.strip s (List.mem_of_getElem? hs)).2.2.2.2.2.1
      obtain ⟨_, _, h3, _⟩ := hp.range g
      dsimp only at hk
      obtain ⟨k', rfl⟩ : ∃ k', k = k' + 1 := ⟨k - 1, by omega⟩
      exact mem_growL.2 (.inr ⟨p, ih k' (by omega), i, hq⟩)
  have := (h.range g).2.2.2
  have := g.p2
  exact key 9 (by omega)

theorem testBit_or_one (a s t : Nat) : (a ||| 1 <<< s).testBit t = (a.testBit t || decide (s = t)) := by
  rw [Nat.testBit_or, Nat.one_shiftLeft, Nat.testBit_two_pow]

theorem orAll_from (l : List (Int × Int)) : ∀ (a t : Nat), (l.foldl (fun acc p => acc ||| 1 <<< p.1.toNat) a).testBit t = true ↔ a.testBit t = true ∨ ∃ p ∈ l, p.1.toNat = t := by
  induction l with
  | nil => simp
  | cons p l ih =>
    intro a t
    rw [List.foldl_cons, ih, testBit_or_one]
    simp only [Bool.or_eq_true, decide_eq_true_eq, List.mem_cons]
    constructor
    · rintro ((h | h) | ⟨q, hq, h⟩)
      · exact .inl h
      · exact .inr ⟨p, .inl rfl, h⟩
      · exact .inr ⟨q, .inr hq, h⟩
    · rintro (h | ⟨q, rfl | hq, h⟩)
      · exact .inl (.inl h)
      · exact .inl (.inr h)
      · exact .inr ⟨q, hq, h⟩
theorem orAll_bit (l : List (Int × Int)) (t : Nat) : (orAll l).testBit t = true ↔ ∃ p ∈ l, p.1.toNat = t := by
  unfold orAll; rw [orAll_from]; simp

theorem afterN_bit {r : Roads} {f : Flock} (g : Good r f) {shut : Int} {n : Nat} {day : Int} (t : Nat) : (afterN r f shut n day).testBit t = true ↔ ∃ l, Spot r f shut n day ((t : Int), l) := by
  unfold afterN
  rw [orAll_bit]
  constructor
  · rintro ⟨p, hp, rfl⟩
    have hs := spotsK_sound hp
    have := (hs.range g).1
    exact ⟨p.2, by rw [show ((p.1.toNat : Int), p.2) = p from Prod.ext (by simp; omega) rfl]; exact hs⟩
  · rintro ⟨l, hl⟩
    exact ⟨_, (mem_spotsK g).2 hl, by simp⟩

theorem lt_of_bits {a k : Nat} (h : ∀ t, a.testBit t = true → t < k) : a < 2 ^ k :=
  Nat.lt_pow_two_of_testBit a fun t ht => by
    cases hb : a.testBit t
    · rfl
    · have := h t hb; omega

theorem afterN_lt {r : Roads} {f : Flock} (g : Good r f) {shut : Int} {n : Nat} {day : Int} : afterN r f shut n day < 64 :=
  lt_of_bits (k := 6) fun t ht => by
    obtain ⟨l, hl⟩ := (afterN_bit g t).1 ht
    have := (hl.range g).2.1
    have := g.s2
    simp at *; omega

theorem eq_of_bits {a b : Nat} (h : ∀ t, a.testBit t = true ↔ b.testBit t = true) : a = b :=
  Nat.eq_of_testBit_eq fun t => by rw [Bool.eq_iff_iff]; exact h t

set_option maxRecDepth 100000 in
set_option maxHeartbeats 4000000 in
theorem after_any (w : World) (b : Nat) (r : Roads) (f : Flock) (shut : Int) (a : Option Addr) (cap : Nat) (h : WorkAt w b r f shut a cap) (g : Good r f) (n : Nat) (hn : n < 65536) (day : Int) :
    Calls Try.prog 100 #[.pointer (some ⟨b, 0, none⟩), .int .u16 n, .int .i64 day] w
      fun e w' => e = .returned (.int .u16 (afterN r f shut n day)) ∧ Below w.heap.size w w' := by
  go_enter Try.func100, Try.ntmps100
  go_wp2_with fail
  refine (spots_any w b r f shut a cap h g n hn day).mono ?_
  rintro e w1 ⟨m, S, rfl, hS, hnd, hm, hb⟩
  have hrg := @run_range Try.prog 124 _ _ Try.underlying124 w1 m _ hm
  simp only [List.length_map] at hrg
  have HS := Lib.hid hS; clear hS
  have hml := hm.lt
  go_wp2_with fail
  go_loopg [7] S.length (fun gk v7 wx => ∃ (acc : Nat) (seen : List Nat), v7 = .int .u16 acc ∧ acc < 64 ∧ (∀ t, acc.testBit t = true ↔ ∃ i ∈ seen, ∃ p, S[i]? = some p ∧ p.1.toNat = t) ∧
      seen.Nodup ∧ (∀ i ∈ seen, i < S.length) ∧ gk + seen.length = S.length ∧ IterIs wx w1.heap.size m S.length seen ∧ Below w1.heap.size w1 wx ∧ w1.heap.size < wx.heap.size)
  case atStart => exact ⟨0, [], rfl, by omega, by simp, by simp, by simp, by simp, IterIs.made, Below.alloc (Below.refl _ _) (Nat.le_refl _) _, by simp⟩
  case round =>
    clear hrg
    obtain ⟨acc, seen, rfl, hacc, hbits, hsn, hsl, hgk, hit, hbx, hlt⟩ := hrel
    have hm' : MapIs wr m (S.map pairV) := hm.below hbx hml
    have Hb := Lib.hid hbits; clear hbits
    have Hg := Lib.hid hgk; clear hgk
    have Hsl := Lib.hid hsl; clear hsl
    rcases run_next (P := Try.prog) 0 hm' (by simpa using hit) with ⟨hall, hrun⟩ | ⟨i, q, nd, hi, hni, hrun⟩
    · have Hall := Lib.hid hall; clear hall
      go_wp2
      go_ret
      refine ⟨ret_int ?_, hb.trans (hbx.mono hb.size)⟩
      congr 1
      refine eq_of_bits fun t => ?_
      rw [Hb.out, afterN_bit g]
      constructor
      · rintro ⟨i, _, p, hp, rfl⟩
        have hs := (HS.out p).1 (List.mem_of_getElem? hp)
        have := (hs.range g).1
        exact ⟨p.2, by rw [show ((p.1.toNat : Int), p.2) = p from Prod.ext (by simp; omega) rfl]; exact hs⟩
      · rintro ⟨l, hl⟩
        obtain ⟨i, hi⟩ := List.mem_iff_getElem?.1 ((HS.out _).2 hl)
        exact ⟨i, Hall.out i (by simpa using (List.getElem?_eq_some_iff.1 hi).1), _, hi, by simp⟩
    · rw [List.getElem?_map] at hi
      obtain ⟨p, hp, rfl⟩ := Option.map_eq_some_iff.1 hi
      simp only [List.length_map] at hrun
      have hs := (HS.out p).1 (List.mem_of_getElem? hp)
      obtain ⟨x1, x2, x3, x4⟩ := hs.range g
      have g2 := g.s2
      obtain ⟨t, ht⟩ := Int.eq_ofNat_of_zero_le x1
      clear hs hi
      have hm2 : MapIs (setBlock (wr.drewN nd) w1.heap.size (.mapIter (some m) S.length (seen ++ [i]).toArray S.length)) m (S.map pairV) := by
        unfold MapIs; rw [setBlock_other _ (by omega)]; exact hm'
      have hit2 : IterIs (setBlock (wr.drewN nd) w1.heap.size (.mapIter (some m) S.length (seen ++ [i]).toArray S.length)) w1.heap.size m S.length (seen ++ [i]) := by
        have h1 : w1.heap.size < (wr.drewN nd).heap.size := by simpa [World.drewN] using hlt
        show ((wr.drewN nd).heap.setIfInBounds _ _)[w1.heap.size]? = some _
        rw [Array.getElem?_setIfInBounds_self_of_lt h1]
      have hent := run_entry (P := Try.prog) (q := pairV p) (i := i) hm2 (by simpa using hit2) (by simp [hp])
      have hsz : (setBlock (wr.drewN nd) w1.heap.size (.mapIter (some m) S.length (seen ++ [i]).toArray S.length)).heap.size = wr.heap.size := by rw [setBlock_size]; rfl
      have hbw : Below w1.heap.size w1 (setBlock (wr.drewN nd) w1.heap.size (.mapIter (some m) S.length (seen ++ [i]).toArray S.length)) := setBlock_below _ (below_drewN hbx nd) (Nat.le_refl _)
      generalize setBlock (wr.drewN nd) w1.heap.size (.mapIter (some m) S.length (seen ++ [i]).toArray S.length) = W at hrun hent hsz hbw hit2
      simp only [pairV, spotV] at hrun hent
      clear hm2 hm' hit
      have Ht := Lib.hid ht
      obtain ⟨p1, p2⟩ := p
      dsimp only at ht x1 x2 x3 x4
      subst ht
      have Hsz := Lib.hid hsz; clear hsz
      go_wp2_with fail
      refine (with_any acc t (by omega) (by omega) _).mono ?_
      rintro e w' ⟨rfl, rfl⟩
      go_wp2_with fail
      have hpl := (List.getElem?_eq_some_iff.1 hp).1
      have hlen := nodup_lt_length S.length (seen ++ [i]) (List.nodup_append.2 ⟨hsn, by simp, fun a ha b hb e => by simp at hb; subst hb; exact hni (e ▸ ha)⟩)
        (fun x hx => by rcases List.mem_append.1 hx with hx | hx
                        · exact Hsl.out x hx
                        · simp at hx; omega)
      simp only [List.length_append, List.length_cons, List.length_nil] at hlen
      have hg' := Hg.out
      go_roundg (gk - 1)
      case measure => omega
      case rel =>
        refine ⟨acc ||| 1 <<< t, seen ++ [i], rfl, ?_, ?_, List.nodup_append.2 ⟨hsn, by simp, fun a ha b hb e => by simp at hb; subst hb; exact hni (e ▸ ha)⟩, ?_, ?_, hit2.below (Below.alloc (Below.refl _ _) (Nat.le_refl _) _) hit2.lt, hbw.trans (Below.alloc (Below.refl _ _) (by rw [Hsz.out]; omega) _), ?_⟩
        · refine lt_of_bits (k := 6) fun u hu => ?_
          rw [testBit_or_one] at hu
          simp only [Bool.or_eq_true, decide_eq_true_eq] at hu
          rcases hu with hu | rfl
          · obtain ⟨i', _, p, hp', rfl⟩ := (Hb.out u).1 hu
            have hs := ((HS.out p).1 (List.mem_of_getElem? hp')).range g
            omega
          · omega
        · intro u
          rw [testBit_or_one]
          simp only [Bool.or_eq_true, decide_eq_true_eq, Hb.out]
          constructor
          · rintro (⟨i', h1, h2⟩ | rfl)
            · exact ⟨i', List.mem_append_left _ h1, h2⟩
            · exact ⟨i, by simp, _, hp, by simp⟩
          · rintro ⟨i', h1, p, h2, h3⟩
            rcases List.mem_append.1 h1 with h1 | h1
            · exact .inl ⟨i', h1, p, h2, h3⟩
            · simp at h1; subst h1
              rw [hp] at h2
              obtain rfl : ((t : Int), p2) = p := by simpa using h2
              exact .inr (by simpa using h3)
        · intro x hx
          rcases List.mem_append.1 hx with hx | hx
          · exact Hsl.out x hx
          · simp at hx; omega
        · simp; omega
        · simp only [World.size_alloc]; rw [Hsz.out]; omega
end Go.Proofs.Ytjgkgnfhglhklaa
