/- The contract of comes. -/
import Derived.Test.YtjgkgnfhglhklaaLate
namespace Go.Proofs.Ytjgkgnfhglhklaa
set_option linter.unusedSimpArgs false
set_option linter.unusedVariables false
open Go.RowKit

/-- A store into a slice of the call's own. -/
theorem OwnInts.set {w : World} {B : Nat} {gb n cap : Nat} {l : List Int} (h : OwnInts w B (.slice (some ⟨gb, 0, none⟩) n cap) l) {j : Nat} (x : Int) :
    OwnInts (w.setCell ⟨gb, j, none⟩ (.int .i64 x)) B (.slice (some ⟨gb, 0, none⟩) n cap) (l.set j x) := by
  obtain ⟨h1, h2⟩ := h
  refine ⟨by simp, ?_⟩
  rcases h2 with ⟨hv, _⟩ | ⟨g, cap', cur, hv, hg, hh, hc, hm, hs, ht⟩
  · simp at hv
  · simp only [Value.slice.injEq, Option.some.injEq, Addr.mk.injEq] at hv
    obtain ⟨⟨rfl, _⟩, rfl, rfl⟩ := hv
    refine .inr ⟨gb, cap, cur.setIfInBounds j (.int .i64 x), by simp, hg, ?_, by simpa using hc, hm, by simpa using hs, ?_⟩
    · simp only [World.setCell, Array.getElem?_modify, if_true, hh]
      rfl
    · rw [Array.toList_setIfInBounds, List.length_set, Nat.mul_one, List.take_set, List.map_set]
      congr 1
      simpa using ht
theorem OwnInts.cell {w : World} {B : Nat} {gb n cap : Nat} {l : List Int} (h : OwnInts w B (.slice (some ⟨gb, 0, none⟩) n cap) l) {j : Nat} (hj : j < l.length) :
    w.cell? ⟨gb, j, none⟩ = some (.int .i64 l[j]) ∧ w.frozen? ⟨gb, j, none⟩ = false ∧ B ≤ gb := by
  obtain ⟨a, c, hv, hi, _⟩ := h.ints
  simp only [Value.slice.injEq] at hv
  obtain ⟨rfl, _, rfl⟩ := hv
  obtain ⟨h1, h2⟩ := h
  rcases h2 with ⟨hv, _⟩ | ⟨g, cap', cur, hv, hg, hh, _⟩
  · simp at hv
  · simp only [Value.slice.injEq, Option.some.injEq, Addr.mk.injEq] at hv
    obtain ⟨⟨rfl, _⟩, _⟩ := hv
    refine ⟨?_, by simp [World.frozen?, hh], hg⟩
    rcases hi with rfl | ⟨b, o, e, hi⟩
    · simp at hj
    · simp only [Option.some.injEq, Addr.mk.injEq] at e
      obtain ⟨rfl, rfl, _⟩ := e
      have := hi j hj
      simpa using this
theorem OwnInts.ptr {w : World} {B : Nat} {v : Value} {l : List Int} (h : OwnInts w B v l) (hl : 0 < l.length) : ∃ gb cap, v = .slice (some ⟨gb, 0, none⟩) l.length cap := by
  obtain ⟨h1, h2⟩ := h
  rcases h2 with ⟨_, hn⟩ | ⟨g, cap', cur, hv, _⟩
  · omega
  · exact ⟨g, cap', hv⟩

/-- The days so far, the stages below j looked at on day d. -/
def updTo (l : List Int) (m : Nat) (d : Int) (j : Nat) : List Int := l.mapIdx fun s x => if decide (s < j) && decide (x < 0) && m.testBit s then d else x
def comesTo (r : Roads) (f : Flock) (shut : Int) (n0 : Nat) (day : Int) : Nat → List Int
  | 0 => List.replicate r.stages.toNat (-1)
  | k + 1 => updTo (comesTo r f shut n0 day k) (nightsTo r f shut n0 day (k + 1)) (day + k) r.stages.toNat
def comesL (r : Roads) (f : Flock) (shut : Int) (fr : Nat) (day : Int) : List Int := comesTo r f shut (0 ||| 1 <<< fr) day (r.days - day).toNat

theorem updTo_len (l : List Int) (m : Nat) (d : Int) (j : Nat) : (updTo l m d j).length = l.length := by simp [updTo]
theorem comesTo_len (r : Roads) (f : Flock) (shut : Int) (n0 : Nat) (day : Int) : ∀ k, (comesTo r f shut n0 day k).length = r.stages.toNat
  | 0 => by simp [comesTo]
  | k + 1 => by rw [comesTo, updTo_len]; exact comesTo_len r f shut n0 day k
theorem updTo_zero (l : List Int) (m : Nat) (d : Int) : updTo l m d 0 = l := by
  apply List.ext_getElem (by simp [updTo])
  intro i h1 h2; simp [updTo]
theorem updTo_get (l : List Int) (m : Nat) (d : Int) (j : Nat) (h : j < l.length) : (updTo l m d j)[j]'(by rw [updTo_len]; exact h) = l[j] := by simp [updTo]
theorem updTo_yes (l : List Int) (m : Nat) (d : Int) (j : Nat) (h : j < l.length) (hx : l[j] < 0) (hb : m.testBit j = true) : (updTo l m d j).set j d = updTo l m d (j + 1) := by
  apply List.ext_getElem (by simp [updTo])
  intro i h1 h2
  simp only [List.length_set, updTo_len] at h1
  rw [List.getElem_set]
  by_cases e : j = i
  · subst e; simp [updTo, hx, hb]
  · rw [if_neg e]
    simp only [updTo, List.getElem_mapIdx]
    have : decide (i < j + 1) = decide (i < j) := by rw [decide_eq_decide]; omega
    rw [this]
theorem updTo_no (l : List Int) (m : Nat) (d : Int) (j : Nat) (h : j < l.length) (hx : ¬ (l[j] < 0 ∧ m.testBit j = true)) : updTo l m d j = updTo l m d (j + 1) := by
  apply List.ext_getElem (by simp [updTo])
  intro i h1 h2
  simp only [updTo_len] at h1
  simp only [updTo, List.getElem_mapIdx]
  by_cases e : i = j
  · subst e
    by_cases h3 : l[i] < 0
    · have : m.testBit i = false := by
        cases hb : m.testBit i
        · rfl
        · exact absurd ⟨h3, hb⟩ hx
      simp [this]
    · simp [h3]
  · have : decide (i < j + 1) = decide (i < j) := by rw [decide_eq_decide]; omega
    rw [this]

set_option maxRecDepth 100000 in
set_option maxHeartbeats 4000000 in
theorem comes_any (w : World) (b : Nat) (r : Roads) (f : Flock) (shut : Int) (a : Option Addr) (cap : Nat) (h : WorkAt w b r f shut a cap) (g : Good r f) (fr : Nat) (hf : fr < 6) (day : Int) (h1 : 0 ≤ day) (h2 : day ≤ 100) :
    Calls Try.prog 76 #[.pointer (some ⟨b, 0, none⟩), .int .i64 fr, .int .i64 day] w
      fun e w' => ∃ v, e = .returned v ∧ OwnInts w' w.heap.size v (comesL r f shut fr day) ∧ Below w.heap.size w w' := by
  have g1 := g.s1
  have g2 := g.s2
  have g3 := g.d2
  obtain ⟨c, hc⟩ := Int.eq_ofNat_of_zero_le (a := r.stages) (by omega)
  have H := h
  obtain ⟨c0, c1, c2, c3, c4, c5, hs⟩ := h
  have hbl := lt_of_cell c0
  rw [hc] at c1
  have Hc := Lib.hid hc; clear hc
  have hof := one_shl_lt hf
  have hc1 : 1 ≤ c := by have := Hc.out; omega
  have hc6 : c ≤ 6 := by have := Hc.out; omega
  clear hs
  go_enter Try.func76, Try.ntmps76
  go_wp2_with fail
  refine (repeat_any c hc1 hc6 w.heap.size (-1) _ (by simp)).mono ?_
  rintro e w1 ⟨v, rfl, hown, hb1⟩
  have hbw : Below w.heap.size w w1 := (Below.alloc (Below.refl _ _) (Nat.le_refl _) _).trans (hb1.mono (by simp))
  go_wp2_with fail
  refine (with_any 0 fr (by omega) hf _).mono ?_
  rintro e w' ⟨rfl, rfl⟩
  generalize hn0 : (0 ||| 1 <<< fr) = n0 at hof
  have Hn0 := Lib.hid hn0; clear hn0
  have hl0 : (List.replicate c (-1 : Int)).length = c := List.length_replicate
  obtain ⟨gb, cp, rfl⟩ := hown.ptr (by omega)
  simp only [hl0] at hown
  have hgb : w.heap.size < gb := by have := hown.cell (j := 0) (by rw [hl0]; omega); simp at this; omega
  have hown1 : OwnInts w1 (w.heap.size + 1) (.slice (some ⟨gb, 0, none⟩) c cp) (List.replicate c (-1)) := by simpa using hown
  clear hown hb1 c0 c1 c2 c3 c4 c5
  go_wp2_with fail
  go_loopw [8, 9] (fun v8 v9 wx => ∃ k : Nat, day + k ≤ max day r.days ∧ v8 = .int .u16 (nightsTo r f shut n0 day k) ∧ v9 = .int .i64 (day + k) ∧
      OwnInts wx (w.heap.size + 1) (.slice (some ⟨gb, 0, none⟩) c cp) (comesTo r f shut n0 day k) ∧ Below w.heap.size w wx) (fun _ v _ => (r.days - intOf v).toNat)
  case atStart => exact ⟨0, by simp; omega, rfl, by simp, by rw [comesTo, show r.stages.toNat = c by have := Hc.out; omega]; exact hown1, hbw⟩
  case round =>
    clear hown1 hbw hl0
    obtain ⟨k, hk, rfl, rfl, hown, hb⟩ := hrel
    have hlt := nightsTo_lt (shut := shut) (day := day) g hof k
    have hnx : nightsTo r f shut n0 day (k + 1) = afterN r f shut (nightsTo r f shut n0 day k) (day + k) := rfl
    have hlt2 := nightsTo_lt (shut := shut) (day := day) g hof (k + 1)
    have hLlen := comesTo_len r f shut n0 day k
    have hLx : comesTo r f shut n0 day (k + 1) = updTo (comesTo r f shut n0 day k) (nightsTo r f shut n0 day (k + 1)) (day + k) r.stages.toNat := rfl
    generalize hm : nightsTo r f shut n0 day k = m at hlt hnx
    generalize hm2 : nightsTo r f shut n0 day (k + 1) = m2 at hlt2 hnx hLx
    generalize hL : comesTo r f shut n0 day k = L at hown hLlen hLx
    have HL := Lib.hid hL; clear hL
    have HLx := Lib.hid hLx; clear hLx
    have HLl := Lib.hid hLlen; clear hLlen
    have Hm := Lib.hid hm; clear hm
    have Hm2 := Lib.hid hm2; clear hm2
    have Hnx := Lib.hid hnx; clear hnx
    have Hk := Lib.hid hk; clear hk
    obtain ⟨d0, d1, d2, d3, d4, d5, ds⟩ := H.below hb
    clear ds
    by_cases hd : day + k < r.days
    · go_wp2_with fail
      refine (after_any wr b r f shut a cap (H.below hb) g m (by omega) _).mono ?_
      rintro e w2 ⟨rfl, hb2⟩
      rw [← Hnx.out]
      have hb3 : Below w.heap.size w w2 := hb.trans (hb2.mono hb.size)
      have hown2 := hown.below hb2
      clear d0 d1 d2 d3 d4 d5
      go_wp2_with fail
      go_loopw [36] (fun v36 wx => ∃ j : Nat, j ≤ c ∧ v36 = .int .i64 j ∧ OwnInts wx (w.heap.size + 1) (.slice (some ⟨gb, 0, none⟩) c cp) (updTo L m2 (day + k) j) ∧ Below w.heap.size w wx) (fun v _ => c - (intOf v).toNat)
      case atStart => exact ⟨0, Nat.zero_le _, rfl, by rw [updTo_zero]; exact hown2, hb3⟩
      case round =>
        clear hown hown2 hb3 hb2
        obtain ⟨j, hj, rfl, hown, hbj⟩ := hrel
        by_cases hjc : j < c
        · have hjl : j < L.length := by have h1 := HLl.out; have h2 := Hc.out; omega
          obtain ⟨x1, x2, x3⟩ := hown.cell (j := j) (by rw [updTo_len]; exact hjl)
          rw [updTo_get L m2 (day + k) j hjl] at x1
          have Hown := Lib.hid hown; clear hown
          generalize hx : L[j] = x at x1
          have Hx := Lib.hid hx; clear hx
          by_cases hx0 : x < 0
          · go_wp2_with fail
            refine (has_any m2 j (by omega) (by omega) _).mono ?_
            rintro e w' ⟨rfl, rfl⟩
            cases hT : m2.testBit j
            · have HT := Lib.hid hT; clear hT
              go_wp2_with fail
              refine ⟨⟨j + 1, by omega, by go_num, ?_, hbj⟩, by simp [intOf]; omega⟩
              rw [← updTo_no L m2 (day + k) j hjl (by rw [HT.out]; simp)]; exact Hown.out
            · have HT := Lib.hid hT; clear hT
              go_wp2_with fail
              refine ⟨⟨j + 1, by omega, by go_num, ?_, hbj.setCell (by simp; omega) _⟩, by simp [intOf]; omega⟩
              rw [← updTo_yes L m2 (day + k) j hjl (by rw [Hx.out]; exact hx0) HT.out]; exact Hown.out.set _
          · go_wp2_with fail
            refine ⟨⟨j + 1, by omega, by go_num, ?_, hbj⟩, by simp [intOf]; omega⟩
            rw [← updTo_no L m2 (day + k) j hjl (by rw [Hx.out]; exact fun h => hx0 h.1)]; exact Hown.out
        · go_wp2_with fail
          refine ⟨⟨k + 1, by have := Hk.out; omega, by rw [Hm2.out], by rw [show (day + (k : Int) + 1) = day + ((k + 1 : Nat) : Int) by omega], ?_, hbj⟩, by simp [intOf]; omega⟩
          obtain rfl : j = c := by omega
          rw [HLx.out, show r.stages.toNat = j by have := Hc.out; omega]; exact hown
    · go_wp2_with fail
      go_ret
      refine ⟨_, rfl, ?_, hb⟩
      have hk := Hk.out
      rw [comesL, Hn0.out, show (r.days - day).toNat = k by omega, HL.out]
      exact hown.mono (by omega)
end Go.Proofs.Ytjgkgnfhglhklaa
