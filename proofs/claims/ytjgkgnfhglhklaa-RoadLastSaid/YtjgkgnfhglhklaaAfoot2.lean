/- The contract of afoot. -/
import Derived.Test.YtjgkgnfhglhklaaAfoot
namespace Go.Proofs.Ytjgkgnfhglhklaa
set_option linter.unusedSimpArgs false
set_option linter.unusedVariables false
open Go.RowKit

abbrev exV (g : Nat) : Value := .agg #[.int .i64 6, .int .i64 4, .slice (some ⟨g, 0, none⟩) 4 4]

theorem OwnStrides.strides {w : World} {B : Nat} {v : Value} {l : List (Int × Int)} (h : OwnStrides w B v l) : ∃ a cap, v = .slice a l.length cap ∧ StridesAt w a l := by
  obtain ⟨h1, h2⟩ := h
  rcases h2 with ⟨hv, hn⟩ | ⟨g, cap, cur, hv, hg, hh, hc, hm, hs, ht⟩
  · have : l = [] := List.length_eq_zero_iff.1 hn
    subst this
    exact ⟨none, 0, hv, .inl rfl⟩
  · refine ⟨_, cap, hv, .inr ⟨g, 0, rfl, fun i hi => ?_⟩⟩
    have get : ∀ (l : List (Int × Int)) (i : Nat) (h : i < l.length), (l.flatMap fun x => [Value.int .i64 x.1, Value.int .i64 x.2])[i * 2]? = some (.int .i64 l[i].1) ∧ (l.flatMap fun x => [Value.int .i64 x.1, Value.int .i64 x.2])[i * 2 + 1]? = some (.int .i64 l[i].2) := by
      intro l
      induction l with
      | nil => intro i h; simp at h
      | cons x l ih =>
        intro i h
        cases i with
        | zero => simp
        | succ i =>
          obtain ⟨h1, h2⟩ := ih i (by simpa using h)
          simp only [List.flatMap_cons, List.getElem_cons_succ]
          rw [show (i + 1) * 2 = i * 2 + 1 + 1 by omega]
          exact ⟨h1, h2⟩
    obtain ⟨g1, g2⟩ := get l i hi
    have key : ∀ j, j < l.length * 2 → cur[j]? = (l.flatMap fun x => [Value.int .i64 x.1, Value.int .i64 x.2])[j]? := by
      intro j hj
      rw [← Array.getElem?_toList]
      have : (cur.toList.take (l.length * 2))[j]? = cur.toList[j]? := by rw [List.getElem?_take, if_pos hj]
      rw [← this, ht]
    refine ⟨?_, ?_⟩
    · simp [World.cell?, hh, key (i * 2) (by omega), g1]
    · simp [World.cell?, hh, key (i * 2 + 1) (by omega), g2]

def ExInts (w : World) (l : List Int) (n : Nat) (e : Ending) (w' : World) : Prop := ∃ a c, e = .returned (.tuple #[.slice a n c, .int .i64 0]) ∧ IntsAt w' a l ∧ Below w.heap.size w w'
theorem exComes (w : World) (g : Nat) (hs : StripsAt w (some ⟨g, 0, none⟩) exRoads.strips) :
    Calls Try.prog 25 #[exV g, .agg #[.int .i64 10, .int .i64 6], .int .i64 0, .int .i64 0] w (ExInts w [0, 0, 2, 3] 4) :=
  (Comes_any w exRoads ⟨10, 6⟩ (some ⟨g, 0, none⟩) 4 hs (by show 4 ≤ maxLen; unfold maxLen; omega) 0 0).mono fun e w' h => by
    rcases h with ⟨_, v, rfl, hown, hb⟩ | ⟨hz, _⟩
    · obtain ⟨a, c, rfl, hi, _⟩ := hown.ints
      rw [show comesL exRoads ⟨10, 6⟩ (-1) (0 : Int).toNat 0 = [0, 0, 2, 3] from ex_comes] at hi ⊢
      exact ⟨a, c, rfl, hi, hb⟩
    · exact absurd ex_ready4 hz
def ExStrides (w : World) (l : List (Int × Int)) (n : Nat) (e : Ending) (w' : World) : Prop := ∃ a c, e = .returned (.tuple #[.slice a n c, .int .i64 0]) ∧ StridesAt w' a l ∧ Below w.heap.size w w'
theorem exPlan (w : World) (g : Nat) (hs : StripsAt w (some ⟨g, 0, none⟩) exRoads.strips) :
    Calls Try.prog 27 #[exV g, .agg #[.int .i64 10, .int .i64 6], .int .i64 0, .int .i64 3, .int .i64 0] w (ExStrides w [(0, 0), (2, 1), (3, 2)] 3) :=
  (Plan_any w exRoads ⟨10, 6⟩ (some ⟨g, 0, none⟩) 4 hs (by show 4 ≤ maxLen; unfold maxLen; omega) 0 3 0).mono fun e w' h => by
    obtain ⟨hb, ⟨_, hd, _⟩ | ⟨_, _, v, rfl, hown⟩ | ⟨hz, _⟩⟩ := h
    · exact absurd hd (by have := ex_planDay; show ¬ planDay exRoads ⟨10, 6⟩ 0 3 0 < 0; omega)
    · obtain ⟨a, c, rfl, hi⟩ := hown.strides
      rw [show planDay exRoads ⟨10, 6⟩ (0 : Int).toNat (3 : Int).toNat 0 = 3 from ex_planDay, show planL exRoads ⟨10, 6⟩ (-1) 3 3 0 0 = [(0, 0), (2, 1), (3, 2)] from ex_plan] at hi ⊢
      exact ⟨a, c, rfl, hi, hb⟩
    · exact absurd ex_ready6 hz
theorem exStay (w : World) (g : Nat) (hs : StripsAt w (some ⟨g, 0, none⟩) exRoads.strips) :
    Calls Try.prog 40 #[exV g, .agg #[.int .i64 10, .int .i64 6], .int .i64 0, .int .i64 2, .int .i64 0, .int .i64 5] w fun e w' => e = .returned (.tuple #[.int .i64 2, .int .i64 0]) ∧ Below w.heap.size w w' :=
  (Stay_any w exRoads ⟨10, 6⟩ (some ⟨g, 0, none⟩) 4 hs (by show 4 ≤ maxLen; unfold maxLen; omega) 0 2 0 5).mono fun e w' h => by
    have hA : stayA exRoads ⟨10, 6⟩ (0 : Int).toNat (2 : Int).toNat 0 = 2 := ex_stayA
    have hB : lateD exRoads ⟨10, 6⟩ (2 : Int).toNat (0 : Int).toNat 5 = 4 := ex_stayB
    obtain ⟨hb, ⟨_, hd, _⟩ | ⟨_, _, rfl⟩ | ⟨hz, _⟩⟩ := h
    · exact absurd hd (by rw [hA, hB]; omega)
    · exact ⟨by rw [hA, hB]; rfl, hb⟩
    · exact absurd ex_ready8 hz
theorem exWiden (w : World) (g : Nat) (hs : StripsAt w (some ⟨g, 0, none⟩) exRoads.strips) :
    Calls Try.prog 37 #[exV g, .agg #[.int .i64 30, .int .i64 6], .int .i64 0, .int .i64 3, .int .i64 0, .int .i64 5] w (ExInts w [1, 2] 2) :=
  (Widen_any w exRoads ⟨30, 6⟩ (some ⟨g, 0, none⟩) 4 hs (by show 4 ≤ maxLen; unfold maxLen; omega) 0 3 0 5).mono fun e w' h => by
    have hA : widenL exRoads ⟨30, 6⟩ (0 : Int).toNat (3 : Int).toNat 0 5 = some [1, 2] := ex_widen
    obtain ⟨hb, ⟨_, hd, _⟩ | ⟨_, L, v, hL, rfl, hown⟩ | ⟨hz, _⟩⟩ := h
    · rw [hA] at hd; simp at hd
    · rw [hA] at hL
      simp only [Option.some.injEq] at hL
      subst hL
      obtain ⟨a, c, rfl, hi, _⟩ := hown.ints
      exact ⟨a, c, rfl, hi, hb⟩
    · exact absurd ex_ready8' hz
theorem exWay (w : World) (g : Nat) (hs : StripsAt w (some ⟨g, 0, none⟩) exRoads.strips) :
    Calls Try.prog 50 #[exV g, .agg #[.int .i64 10, .int .i64 9], .int .i64 0, .int .i64 3] w fun e w' => ∃ a c, e = .returned (.tuple #[.slice a 1 c, .int .i64 9, .int .i64 0]) ∧ IntsAt w' a [3] ∧ Below w.heap.size w w' :=
  (Way_any w exRoads ⟨10, 9⟩ (some ⟨g, 0, none⟩) 4 hs (by show 4 ≤ maxLen; unfold maxLen; omega) 0 3).mono fun e w' h => by
    have hA : bestL exRoads (wayAll exRoads ⟨10, 9⟩ (0 : Int).toNat 3) = [3] := ex_way
    obtain ⟨hb, ⟨_, hd, _⟩ | ⟨_, _, a, c, rfl, hi⟩ | ⟨hz, _⟩⟩ := h
    · exact absurd hd ex_wayN
    · rw [hA] at hi ⊢
      rw [ex_len]
      exact ⟨a, c, rfl, hi, hb⟩
    · exact absurd ex_readyW hz

theorem same_ints (w : World) (a b : Option Addr) (ca cb n : Nat) (l : List Int) (hn : l.length = n) (hl : IntsAt w a l) (hm : IntsAt w b l) (hb1 : n ≤ maxLen) :
    Calls Try.prog 29 #[.slice a n ca, .slice b n cb] w fun e w' => e = .returned (.bool true) ∧ Below w.heap.size w w' := by
  subst hn
  refine (SameInts_any w a b ca cb l l hl hm hb1 hb1).mono ?_
  rintro e w' ⟨rfl, k, rfl⟩
  exact ⟨by simp, below_drewN (Below.refl _ _) k⟩
theorem same_strides (w : World) (a b : Option Addr) (ca cb n : Nat) (l : List (Int × Int)) (hn : l.length = n) (hl : StridesAt w a l) (hm : StridesAt w b l) (hb1 : n ≤ maxLen) :
    Calls Try.prog 30 #[.slice a n ca, .slice b n cb] w fun e w' => e = .returned (.bool true) ∧ Below w.heap.size w w' := by
  subst hn
  refine (SameStrides_any w a b ca cb l l hl hm hb1 hb1).mono ?_
  rintro e w' ⟨rfl, k, rfl⟩
  exact ⟨by simp, below_drewN (Below.refl _ _) k⟩
theorem max4 : 4 ≤ maxLen := by unfold maxLen; omega

set_option maxRecDepth 100000 in
set_option maxHeartbeats 4000000 in
theorem afoot_any (w : World) : Calls Try.prog 21 #[] w fun e w' => e = .returned (.bool true) ∧ Below w.heap.size w w' := by
  go_enter Try.func21, Try.ntmps21
  go_wp2_with fail
  refine (roads_any _).mono ?_
  rintro e w1 ⟨g1, rfl, hs1, hb1⟩
  have H1 := Lib.hid hs1; clear hs1
  go_wp2_with fail
  refine (slow_any _).mono ?_
  rintro e w2 ⟨rfl, hb2⟩
  have hB2 := hb1.trans (hb2.mono hb1.size)
  go_wp2_with fail
  refine (exComes w2 g1 (H1.out.below hb2)).mono ?_
  rintro e w3 ⟨a1, c1, rfl, hi1, hb3⟩
  have hB3 := hB2.trans (hb3.mono hB2.size)
  have I1 := Lib.hid hi1; clear hi1 H1 hb1 hb2 hb3
  go_wp2_with fail
  refine (roads_any _).mono ?_
  rintro e w4 ⟨g2, rfl, hs1, hb1⟩
  have H1 := Lib.hid hs1; clear hs1
  have I1 := Lib.hid (I1.out.below hb1)
  have hB4 := hB3.trans (hb1.mono hB3.size)
  go_wp2_with fail
  refine (slow_any _).mono ?_
  rintro e w5 ⟨rfl, hb2⟩
  have I1 := Lib.hid (I1.out.below hb2)
  have hB5 := hB4.trans (hb2.mono hB4.size)
  go_wp2_with fail
  refine (exPlan w5 g2 (H1.out.below hb2)).mono ?_
  rintro e w6 ⟨a2, c2, rfl, hi2, hb3⟩
  have I1 := Lib.hid (I1.out.below hb3)
  have I2 := Lib.hid hi2; clear hi2 H1
  have hB6 := hB5.trans (hb3.mono hB5.size)
  clear hb1 hb2 hb3
  go_wp2_with fail
  refine (roads_any _).mono ?_
  rintro e w7 ⟨g3, rfl, hs1, hb1⟩
  have H1 := Lib.hid hs1; clear hs1
  have I1 := Lib.hid (I1.out.below hb1)
  have I2 := Lib.hid (I2.out.below hb1)
  have hB7 := hB6.trans (hb1.mono hB6.size)
  go_wp2_with fail
  refine (slow_any _).mono ?_
  rintro e w8 ⟨rfl, hb2⟩
  have I1 := Lib.hid (I1.out.below hb2)
  have I2 := Lib.hid (I2.out.below hb2)
  have hB8 := hB7.trans (hb2.mono hB7.size)
  go_wp2_with fail
  refine (exStay w8 g3 (H1.out.below hb2)).mono ?_
  rintro e w9 ⟨rfl, hb3⟩
  have I1 := Lib.hid (I1.out.below hb3)
  have I2 := Lib.hid (I2.out.below hb3)
  have hB9 := hB8.trans (hb3.mono hB8.size)
  clear hb1 hb2 hb3 H1
  go_wp2_with fail
  refine (roads_any _).mono ?_
  rintro e w10 ⟨g4, rfl, hs1, hb1⟩
  have H1 := Lib.hid hs1; clear hs1
  have I1 := Lib.hid (I1.out.below hb1)
  have I2 := Lib.hid (I2.out.below hb1)
  have hB10 := hB9.trans (hb1.mono hB9.size)
  go_wp2_with fail
  refine (flock_any _ 30 6).mono ?_
  rintro e w11 ⟨rfl, hb2⟩
  have I1 := Lib.hid (I1.out.below hb2)
  have I2 := Lib.hid (I2.out.below hb2)
  have hB11 := hB10.trans (hb2.mono hB10.size)
  go_wp2_with fail
  refine (exWiden w11 g4 (H1.out.below hb2)).mono ?_
  rintro e w12 ⟨a3, c3, rfl, hi3, hb3⟩
  have I1 := Lib.hid (I1.out.below hb3)
  have I2 := Lib.hid (I2.out.below hb3)
  have I3 := Lib.hid hi3; clear hi3
  have hB12 := hB11.trans (hb3.mono hB11.size)
  clear hb1 hb2 hb3 H1
  go_wp2_with fail
  refine (roads_any _).mono ?_
  rintro e w13 ⟨g5, rfl, hs1, hb1⟩
  have H1 := Lib.hid hs1; clear hs1
  have I1 := Lib.hid (I1.out.below hb1)
  have I2 := Lib.hid (I2.out.below hb1)
  have I3 := Lib.hid (I3.out.below hb1)
  have hB13 := hB12.trans (hb1.mono hB12.size)
  go_wp2_with fail
  refine (fast_any _).mono ?_
  rintro e w14 ⟨rfl, hb2⟩
  have I1 := Lib.hid (I1.out.below hb2)
  have I2 := Lib.hid (I2.out.below hb2)
  have I3 := Lib.hid (I3.out.below hb2)
  have hB14 := hB13.trans (hb2.mono hB13.size)
  go_wp2_with fail
  refine (exWay w14 g5 (H1.out.below hb2)).mono ?_
  rintro e w15 ⟨a4, c4, rfl, hi4, hb3⟩
  have I1 := Lib.hid (I1.out.below hb3)
  have I2 := Lib.hid (I2.out.below hb3)
  have I3 := Lib.hid (I3.out.below hb3)
  have I4 := Lib.hid hi4; clear hi4
  have hB15 := hB14.trans (hb3.mono hB14.size)
  clear hb1 hb2 hb3 H1 hB2 hB3 hB4 hB5 hB6 hB7 hB8 hB9 hB10 hB11 hB12 hB13 hB14
  go_wp2_with fail
  have ha1 : Below w15.heap.size w15 (w15.alloc (.cells #[.int .i64 0, .int .i64 0, .int .i64 2, .int .i64 3] 3)) := Below.alloc (Below.refl _ _) (Nat.le_refl _) _
  refine (same_ints _ a1 (some ⟨w15.heap.size, 0, none⟩) c1 4 4 [0, 0, 2, 3] rfl (I1.out.below ha1) (@ints_new w15 [0, 0, 2, 3]) max4).mono ?_
  rintro e w16 ⟨rfl, hb1⟩
  have hb16 := ha1.trans (hb1.mono ha1.size)
  have I2 := Lib.hid (I2.out.below hb16)
  have I3 := Lib.hid (I3.out.below hb16)
  have I4 := Lib.hid (I4.out.below hb16)
  have hB16 := hB15.trans (hb16.mono hB15.size)
  clear I1 ha1 hb1 hb16
  go_wp2_with fail
  have ha1 : Below w16.heap.size w16 (w16.alloc (.cells #[.int .i64 0, .int .i64 0, .int .i64 2, .int .i64 1, .int .i64 3, .int .i64 2] 89)) := Below.alloc (Below.refl _ _) (Nat.le_refl _) _
  refine (same_strides _ a2 (some ⟨w16.heap.size, 0, none⟩) c2 3 3 [(0, 0), (2, 1), (3, 2)] rfl (I2.out.below ha1) (.inr ⟨w16.heap.size, 0, rfl, fun i hi => ?_⟩) (by unfold maxLen; omega)).mono ?_
  · have hi3 : i < 3 := hi
    obtain rfl | rfl | rfl : i = 0 ∨ i = 1 ∨ i = 2 := by omega
    all_goals exact ⟨by rw [World.cell?_alloc_at _ _ _ _ (by simp)]; rfl, by rw [World.cell?_alloc_at _ _ _ _ (by simp)]; rfl⟩
  rintro e w17 ⟨rfl, hb1⟩
  have hb17 := ha1.trans (hb1.mono ha1.size)
  have I3 := Lib.hid (I3.out.below hb17)
  have I4 := Lib.hid (I4.out.below hb17)
  have hB17 := hB16.trans (hb17.mono hB16.size)
  clear I2 ha1 hb1 hb17
  go_wp2_with fail
  have ha1 : Below w17.heap.size w17 (w17.alloc (.cells #[.int .i64 1, .int .i64 2] 3)) := Below.alloc (Below.refl _ _) (Nat.le_refl _) _
  refine (same_ints _ a3 (some ⟨w17.heap.size, 0, none⟩) c3 2 2 [1, 2] rfl (I3.out.below ha1) (@ints_new w17 [1, 2]) (by unfold maxLen; omega)).mono ?_
  rintro e w18 ⟨rfl, hb1⟩
  have hb18 := ha1.trans (hb1.mono ha1.size)
  have I4 := Lib.hid (I4.out.below hb18)
  have hB18 := hB17.trans (hb18.mono hB17.size)
  clear I3 ha1 hb1 hb18
  go_wp2_with fail
  have ha1 : Below w18.heap.size w18 (w18.alloc (.cells #[.int .i64 3] 3)) := Below.alloc (Below.refl _ _) (Nat.le_refl _) _
  refine (same_ints _ a4 (some ⟨w18.heap.size, 0, none⟩) c4 1 1 [3] rfl (I4.out.below ha1) (@ints_new w18 [3]) (by unfold maxLen; omega)).mono ?_
  rintro e w19 ⟨rfl, hb1⟩
  have hB19 := hB18.trans ((ha1.trans (hb1.mono ha1.size)).mono hB18.size)
  clear I4 ha1 hb1
  go_wp2_with fail
  go_ret
  exact ⟨rfl, hB19⟩
end Go.Proofs.Ytjgkgnfhglhklaa
