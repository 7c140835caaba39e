/- The contracts of road.Bars, road.Days, and mestakit.Place. -/
import Derived.Test.YtmkjeonjhedgkaaDoorReady
namespace Go.Proofs.YtmkjeonjhedgkaaDoor
set_option linter.unusedSimpArgs false
set_option linter.unusedVariables false
open Go.RowKit

theorem ints_laid {w : World} {l : List Int} : IntsAt (w.alloc (.cells (l.map (Value.int .i64)).toArray 3)) (some ⟨w.heap.size, 0, none⟩) l := by
  refine .inr ⟨_, 0, rfl, fun i h => ?_⟩
  rw [World.cell?_alloc_at _ _ _ _ (by simp)]
  simp [h]
theorem oddL {r : Roads} (hc : checkR r = 0) {l : List Int} (hl : ∀ i (h : i < l.length), i % 2 = 1 → l[i] = r.stages ∨ l[i] = r.days ∨ l[i] = r.strips.length) : ∀ i (h : i < l.length), i % 2 = 1 → 0 ≤ l[i] ∧ l[i] ≤ 1000 := by
  have := check_size hc
  intro i h hi
  have := hl i h hi
  omega

/-- What Bars returns. -/
def BarsPost (w : World) (r : Roads) (f : Flock) (strip day : Int) (e : Ending) (w' : World) : Prop :=
  (readyErr r f [strip, r.strips.length, day, r.days] = 0 ∧ ∃ v s, e = .returned (.tuple #[v, .int .i64 0]) ∧ r.strips[strip.toNat]? = some s ∧ OwnInts w' w.heap.size v (barsL s f day) ∧ Below w.heap.size w w') ∨
  (readyErr r f [strip, r.strips.length, day, r.days] ≠ 0 ∧ e = .returned (.tuple #[.slice none 0 0, .int .i64 (readyErr r f [strip, r.strips.length, day, r.days])]) ∧ Below w.heap.size w w')

set_option maxRecDepth 100000 in
set_option maxHeartbeats 4000000 in
theorem Bars_any (w : World) (r : Roads) (f : Flock) (a : Option Addr) (cap : Nat) (hs : StripsAt w a r.strips) (hm : r.strips.length ≤ maxLen) (strip day : Int) :
    Calls Tryd.prog 8 #[.agg #[.int .i64 r.days, .int .i64 r.stages, .slice a r.strips.length cap], .agg #[.int .i64 f.heads, .int .i64 f.pace], .int .i64 strip, .int .i64 day] w (BarsPost w r f strip day) := by
  have hb0 : Below w.heap.size w (((w.alloc (.cells #[.int .i64 r.days, .int .i64 r.stages, .slice a r.strips.length cap] 24)).alloc (.cells #[.int .i64 f.heads, .int .i64 f.pace] 37)).alloc (.cells #[.int .i64 strip, .int .i64 r.strips.length, .int .i64 day, .int .i64 r.days] 3)) :=
    (((Below.refl _ _).alloc (Nat.le_refl _) _).alloc (by simp) _).alloc (by simp; omega) _
  have hp : IntsAt (((w.alloc (.cells #[.int .i64 r.days, .int .i64 r.stages, .slice a r.strips.length cap] 24)).alloc (.cells #[.int .i64 f.heads, .int .i64 f.pace] 37)).alloc (.cells #[.int .i64 strip, .int .i64 r.strips.length, .int .i64 day, .int .i64 r.days] 3))
      (some ⟨w.heap.size + 1 + 1, 0, none⟩) [strip, r.strips.length, day, r.days] := by
    have := @ints_laid ((w.alloc (.cells #[.int .i64 r.days, .int .i64 r.stages, .slice a r.strips.length cap] 24)).alloc (.cells #[.int .i64 f.heads, .int .i64 f.pace] 37)) [strip, r.strips.length, day, r.days]
    simpa using this
  have HM := Lib.hid hm; clear hm
  have HO := Lib.hid (fun hc => @oddL r hc [strip, r.strips.length, day, r.days] (by
    intro i h hi
    simp only [List.length_cons, List.length_nil] at h
    obtain rfl | rfl : i = 1 ∨ i = 3 := by omega
    · exact .inr (.inr rfl)
    · exact .inr (.inl rfl)))
  go_enter Tryd.func8, Tryd.ntmps8
  go_wp2_with fail
  refine (ready_any _ r f [strip, r.strips.length, day, r.days] a cap _ 4 (hs.below hb0) HM.out hp (by simp) HO.out).mono ?_
  rintro e w1 (⟨hz, b, rfl, hW, hbb, _, hb1⟩ | ⟨hz, rfl, hb1⟩)
  · obtain ⟨g, hpz⟩ := ready_zero hz
    obtain ⟨⟨p1, p2⟩, p3, p4⟩ := pairs4.1 hpz
    obtain ⟨k, hk⟩ := Int.eq_ofNat_of_zero_le p1
    have Hz := Lib.hid hz; clear hz hpz
    subst hk
    have hkl : k < r.strips.length := by omega
    have hg : r.strips[((k : Int)).toNat]? = some r.strips[k] := by simp
    have HG := Lib.hid hg; clear hg
    go_wp2_with fail
    refine (bars_any w1 b r f (-1) a cap hW k hkl day).mono ?_
    rintro e w2 ⟨v, rfl, hown, hb2⟩
    go_wp2_with fail
    go_ret2
    have hb01 := hb0.trans (hb1.mono hb0.size)
    exact .inl ⟨Hz.out, v, _, rfl, HG.out, hown.mono hb01.size, hb01.trans (hb2.mono hb01.size)⟩
  · have hne : (readyErr r f [strip, r.strips.length, day, r.days] != 0) = true := by simpa using hz
    have Hz := Lib.hid hz; clear hz
    go_wp2_with fail
    go_ret2
    exact .inr ⟨Hz.out, rfl, hb0.trans (hb1.mono hb0.size)⟩

/-- The days below k on which strip i is open. -/
def daysTo (r : Roads) (f : Flock) (i : Nat) : Nat → List Int
  | 0 => []
  | k + 1 => daysTo r f i k ++ (if openB r f (-1) i (k : Int) then [(k : Int)] else [])
theorem daysTo_le (r : Roads) (f : Flock) (i : Nat) : ∀ k, (daysTo r f i k).length ≤ k
  | 0 => Nat.le_refl _
  | k + 1 => by have := daysTo_le r f i k; simp only [daysTo, List.length_append]; split <;> simp <;> omega
theorem daysTo_mem {r : Roads} {f : Flock} {i : Nat} {x : Int} : ∀ k, x ∈ daysTo r f i k ↔ ∃ d : Nat, d < k ∧ x = (d : Int) ∧ openB r f (-1) i (d : Int) = true
  | 0 => by simp [daysTo]
  | k + 1 => by
    rw [daysTo, List.mem_append, daysTo_mem k]
    constructor
    · rintro (⟨d, h1, h2, h3⟩ | h)
      · exact ⟨d, by omega, h2, h3⟩
      · by_cases c : openB r f (-1) i (k : Int) = true
        · rw [if_pos c] at h; exact ⟨k, by omega, by simpa using h, c⟩
        · rw [if_neg c] at h; simp at h
    · rintro ⟨d, h1, h2, h3⟩
      by_cases e : d = k
      · subst e; right; rw [if_pos h3]; simpa using h2
      · exact .inl ⟨d, by omega, h2, h3⟩
/-- What Days returns. -/
def DaysPost (w : World) (r : Roads) (f : Flock) (strip : Int) (e : Ending) (w' : World) : Prop :=
  (readyErr r f [strip, r.strips.length] = 0 ∧ ∃ v, e = .returned (.tuple #[v, .int .i64 0]) ∧ OwnInts w' w.heap.size v (daysTo r f strip.toNat r.days.toNat) ∧ Below w.heap.size w w') ∨
  (readyErr r f [strip, r.strips.length] ≠ 0 ∧ e = .returned (.tuple #[.slice none 0 0, .int .i64 (readyErr r f [strip, r.strips.length])]) ∧ Below w.heap.size w w')

set_option maxRecDepth 100000 in
set_option maxHeartbeats 4000000 in
theorem Days_any (w : World) (r : Roads) (f : Flock) (a : Option Addr) (cap : Nat) (hs : StripsAt w a r.strips) (hm : r.strips.length ≤ maxLen) (strip : Int) :
    Calls Tryd.prog 12 #[.agg #[.int .i64 r.days, .int .i64 r.stages, .slice a r.strips.length cap], .agg #[.int .i64 f.heads, .int .i64 f.pace], .int .i64 strip] w (DaysPost w r f strip) := by
  have hb0 : Below w.heap.size w (((w.alloc (.cells #[.int .i64 r.days, .int .i64 r.stages, .slice a r.strips.length cap] 24)).alloc (.cells #[.int .i64 f.heads, .int .i64 f.pace] 37)).alloc (.cells #[.int .i64 strip, .int .i64 r.strips.length] 3)) :=
    (((Below.refl _ _).alloc (Nat.le_refl _) _).alloc (by simp) _).alloc (by simp; omega) _
  have hp : IntsAt (((w.alloc (.cells #[.int .i64 r.days, .int .i64 r.stages, .slice a r.strips.length cap] 24)).alloc (.cells #[.int .i64 f.heads, .int .i64 f.pace] 37)).alloc (.cells #[.int .i64 strip, .int .i64 r.strips.length] 3))
      (some ⟨w.heap.size + 1 + 1, 0, none⟩) [strip, r.strips.length] := by
    have := @ints_laid ((w.alloc (.cells #[.int .i64 r.days, .int .i64 r.stages, .slice a r.strips.length cap] 24)).alloc (.cells #[.int .i64 f.heads, .int .i64 f.pace] 37)) [strip, r.strips.length]
    simpa using this
  have HM := Lib.hid hm; clear hm
  have HO := Lib.hid (fun hc => @oddL r hc [strip, r.strips.length] (by
    intro i h hi
    simp only [List.length_cons, List.length_nil] at h
    obtain rfl : i = 1 := by omega
    exact .inr (.inr rfl)))
  go_enter Tryd.func12, Tryd.ntmps12
  go_wp2_with fail
  refine (ready_any _ r f [strip, r.strips.length] a cap _ 2 (hs.below hb0) HM.out hp (by simp) HO.out).mono ?_
  rintro e w1 (⟨hz, b, rfl, hW, hbb, _, hb1⟩ | ⟨hz, rfl, hb1⟩)
  · obtain ⟨g, hpz⟩ := ready_zero hz
    obtain ⟨p1, p2⟩ := pairs2.1 hpz
    obtain ⟨k, hk⟩ := Int.eq_ofNat_of_zero_le p1
    have Hz := Lib.hid hz; clear hz hpz
    subst hk
    have hkl : k < r.strips.length := by omega
    have gd1 := g.d1
    have gd2 := g.d2
    have hb01 := hb0.trans (hb1.mono hb0.size)
    have HB1 := Lib.hid hb01; clear hb0 hb1 hp hs
    have HW := Lib.hid hW; clear hW
    go_wp2_with fail
    go_loopw [10, 11] (fun v10 v11 wx => ∃ d : Nat, (d : Int) ≤ r.days ∧ v11 = .int .i64 (d : Int) ∧ OwnInts wx w1.heap.size v10 (daysTo r f k d) ∧ Below w1.heap.size w1 wx) (fun _ v _ => r.days.toNat - (intOf v).toNat)
    case atStart => exact ⟨0, by omega, rfl, OwnInts.nil _ _, Below.refl _ _⟩
    case round =>
      obtain ⟨d, hd, rfl, hown, hbr⟩ := hrel
      have hle := daysTo_le r f k d
      have hW' := HW.out.below hbr
      have c0 := hW'.c0
      by_cases hlt : (d : Int) < r.days
      · go_wp2_with fail
        refine (open_any wr b r f (-1) a cap hW' k hkl (d : Int)).mono ?_
        rintro e w2 ⟨rfl, hb2⟩
        have hbr2 := hbr.trans (hb2.mono hbr.size)
        have hown2 := hown.below hb2
        cases hT : openB r f (-1) k (d : Int)
        · have he : daysTo r f k (d + 1) = daysTo r f k d := by simp [daysTo, hT]
          have HE := Lib.hid he; clear he hT
          go_wp2_with fail
          exact ⟨⟨d + 1, by omega, by go_num, by rw [HE.out]; exact hown2, hbr2⟩, by simp [intOf]; omega⟩
        · have he : daysTo r f k (d + 1) = daysTo r f k d ++ [(d : Int)] := by simp [daysTo, hT]
          have HE := Lib.hid he; clear he hT
          go_wp2_with (at_builtin; refine app_int1 rfl _ _ rfl w1.heap.size _ _ rfl hown2 _ rfl (by omega) hbr2.size ?_)
          intro v' w' hown' hbel _
          go_wp2_with fail
          exact ⟨⟨d + 1, by omega, by go_num, by rw [HE.out]; exact hown', hbr2.trans hbel⟩, by simp [intOf]; omega⟩
      · obtain rfl : d = r.days.toNat := by omega
        go_wp2_with fail
        go_ret2
        exact .inl ⟨Hz.out, _, rfl, hown.mono HB1.out.size, HB1.out.trans (hbr.mono HB1.out.size)⟩
  · have hne : (readyErr r f [strip, r.strips.length] != 0) = true := by simpa using hz
    have Hz := Lib.hid hz; clear hz
    go_wp2_with fail
    go_ret2
    exact .inr ⟨Hz.out, rfl, hb0.trans (hb1.mono hb0.size)⟩

/-- The first place of a number in a list, -1 if it has none. -/
def PlaceOf (l : List Int) (n v : Int) : Prop := (∃ k : Nat, ∃ h : k < l.length, l[k] = n ∧ v = (k : Int) ∧ ∀ j (hj : j < k), l[j] ≠ n) ∨ (v = -1 ∧ n ∉ l)
theorem PlaceOf.neg {l : List Int} {n v : Int} (h : PlaceOf l n v) : v < 0 ↔ n ∉ l := by
  rcases h with ⟨k, hk, h1, h2, _⟩ | ⟨h1, h2⟩
  · constructor
    · intro; omega
    · intro h; exact absurd (h1 ▸ List.getElem_mem hk) h
  · exact ⟨fun _ => h2, fun _ => by omega⟩
end Go.Proofs.YtmkjeonjhedgkaaDoor
