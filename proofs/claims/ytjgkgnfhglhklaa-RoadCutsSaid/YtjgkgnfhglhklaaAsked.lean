/- The contract of mestaref02.asked. -/
import Derived.Test.YtjgkgnfhglhklaaRefWhy
namespace Go.Proofs.Ytjgkgnfhglhklaa
set_option linter.unusedSimpArgs false
set_option linter.unusedVariables false
open Go.RowKit

def allIn (n : Int) (l : List Int) : Bool := l.all fun x => btw x 0 (n - 1)
def askedErr (r : Roads) (f : Flock) (ss ds : List Int) : Int := if checkR r != 0 then checkR r else if flockErr f != 0 then flockErr f else if allIn r.stages ss && allIn r.days ds then 0 else 3
theorem allIn_no {n : Int} {l : List Int} {k : Nat} (h : k < l.length) (hb : btw l[k] 0 (n - 1) = false) : allIn n l = false := by
  unfold allIn
  rw [List.all_eq_false]
  exact ⟨_, List.getElem_mem h, by rw [hb]; simp⟩
theorem allIn_yes {n : Int} {l : List Int} (h : ∀ j (hj : j < l.length), btw l[j] 0 (n - 1) = true) : allIn n l = true := by
  unfold allIn
  rw [List.all_eq_true]
  intro x hx
  obtain ⟨j, hj, rfl⟩ := List.getElem_of_mem hx
  exact h j hj

set_option maxRecDepth 100000 in
set_option maxHeartbeats 4000000 in
theorem asked_any (w : World) (r : Roads) (f : Flock) (a : Option Addr) (cap : Nat) (hs : StripsAt w a r.strips) (hm : r.strips.length ≤ maxLen) (sa da : Option Addr) (sc dc : Nat) (ss ds : List Int) (hss : IntsAt w sa ss) (hds : IntsAt w da ds) (hl1 : ss.length ≤ 100) (hl2 : ds.length ≤ 100) :
    Calls Try.prog 77 #[.agg #[.int .i64 r.days, .int .i64 r.stages, .slice a r.strips.length cap], .agg #[.int .i64 f.heads, .int .i64 f.pace], .slice sa ss.length sc, .slice da ds.length dc] w
      fun e w' => e = .returned (.int .i64 (askedErr r f ss ds)) ∧ Below w.heap.size w w' := by
  have hb0 : Below w.heap.size w ((w.alloc (.cells #[.int .i64 r.days, .int .i64 r.stages, .slice a r.strips.length cap] 24)).alloc (.cells #[.int .i64 f.heads, .int .i64 f.pace] 26)) := ((Below.refl _ _).alloc (Nat.le_refl _) _).alloc (by simp) _
  have x0 : ((w.alloc (.cells #[.int .i64 r.days, .int .i64 r.stages, .slice a r.strips.length cap] 24)).alloc (.cells #[.int .i64 f.heads, .int .i64 f.pace] 26)).cell? ⟨w.heap.size, 0, none⟩ = some (.int .i64 r.days) := by simp [go_sem]
  have x1 : ((w.alloc (.cells #[.int .i64 r.days, .int .i64 r.stages, .slice a r.strips.length cap] 24)).alloc (.cells #[.int .i64 f.heads, .int .i64 f.pace] 26)).cell? ⟨w.heap.size, 1, none⟩ = some (.int .i64 r.stages) := by simp [go_sem]
  have x2 : ((w.alloc (.cells #[.int .i64 r.days, .int .i64 r.stages, .slice a r.strips.length cap] 24)).alloc (.cells #[.int .i64 f.heads, .int .i64 f.pace] 26)).cell? ⟨w.heap.size, 2, none⟩ = some (.slice a r.strips.length cap) := by simp [go_sem]
  have y0 : ((w.alloc (.cells #[.int .i64 r.days, .int .i64 r.stages, .slice a r.strips.length cap] 24)).alloc (.cells #[.int .i64 f.heads, .int .i64 f.pace] 26)).cell? ⟨w.heap.size + 1, 0, none⟩ = some (.int .i64 f.heads) := by simp [go_sem]
  have y1 : ((w.alloc (.cells #[.int .i64 r.days, .int .i64 r.stages, .slice a r.strips.length cap] 24)).alloc (.cells #[.int .i64 f.heads, .int .i64 f.pace] 26)).cell? ⟨w.heap.size + 1, 1, none⟩ = some (.int .i64 f.pace) := by simp [go_sem]
  have HST := Lib.hid (hs.below hb0)
  have HSS := Lib.hid (hss.below hb0)
  have HDS := Lib.hid (hds.below hb0)
  have HM := Lib.hid hm; clear hm hs hss hds
  go_enter Try.func77, Try.ntmps77
  go_wp2_with fail
  generalize ((w.alloc (.cells #[.int .i64 r.days, .int .i64 r.stages, .slice a r.strips.length cap] 24)).alloc (.cells #[.int .i64 f.heads, .int .i64 f.pace] 26)) = W0 at hb0 x0 x1 x2 y0 y1 HST HSS HDS ⊢
  refine (refCheck_any r.days r.stages r.strips a cap W0 HST.out HM.out).mono ?_
  rintro e w1 ⟨rfl, hb1⟩
  have HB1 := Lib.hid (hb0.trans (hb1.mono hb0.size))
  have k0 := ((bcell hb1).1 _ _ (lt_of_cell x0)).trans x0
  have k1 := ((bcell hb1).1 _ _ (lt_of_cell x1)).trans x1
  have j0 := ((bcell hb1).1 _ _ (lt_of_cell y0)).trans y0
  have j1 := ((bcell hb1).1 _ _ (lt_of_cell y1)).trans y1
  have HS1 := Lib.hid (HSS.out.below hb1)
  have HD1 := Lib.hid (HDS.out.below hb1)
  clear x0 x1 x2 y0 y1 hb0 hb1 HSS HDS HST HM
  have hR : checkR ⟨r.days, r.stages, r.strips⟩ = checkR r := rfl
  rw [hR]
  clear hR
  by_cases hck : checkR r = 0
  · have hsz := check_size hck
    rw [hck]
    have HCK := Lib.hid hck; clear hck
    by_cases hfe : flockErr f = 0
    · have hff := hfe
      unfold flockErr at hff
      by_cases c : (!(btw f.heads 1 40) || !(btw f.pace 1 9)) = true
      · rw [if_pos c] at hff; simp at hff
      · clear hff
        have h1 : btw f.heads 1 40 = true := by
          cases hh : btw f.heads 1 40
          · exact absurd (by simp [hh]) c
          · rfl
        have h2 : btw f.pace 1 9 = true := by
          cases hh : btw f.pace 1 9
          · exact absurd (by simp [hh]) c
          · rfl
        have H1 := Lib.hid h1; clear h1
        have H2 := Lib.hid h2; clear h2 c
        have hA : askedErr r f ss ds = if allIn r.stages ss && allIn r.days ds then 0 else 3 := by simp [askedErr, HCK.out, hfe]
        have HA := Lib.hid hA; clear hA hfe
        obtain ⟨d1, d2, t1, t2, n8⟩ := hsz
        go_wp2_with fail
        refine (inside_any _ _ _ _).mono ?_
        rintro e w' ⟨rfl, rfl⟩
        rw [H1.out]
        go_wp2_with fail
        refine (inside_any _ _ _ _).mono ?_
        rintro e w' ⟨rfl, rfl⟩
        rw [H2.out]
        go_wp2_with fail
        go_loopw [10] (fun v10 wx => ∃ i : Nat, i ≤ ss.length ∧ v10 = .int .i64 (i : Int) ∧ (∀ j (h : j < ss.length), j < i → btw ss[j] 0 (r.stages - 1) = true) ∧ Below w1.heap.size w1 wx) (fun v _ => ss.length - (intOf v).toNat)
        case atStart => exact ⟨0, Nat.zero_le _, rfl, fun j _ h => absurd h (by omega), Below.refl _ _⟩
        case round =>
          obtain ⟨i, hi, rfl, hall, hbr⟩ := hrel
          have HALL := Lib.hid hall; clear hall
          have g1 := ((bcell hbr).1 _ _ (lt_of_cell k1)).trans k1
          have HBR := Lib.hid hbr
          by_cases hlt : i < ss.length
          · rcases HS1.out.below hbr with h0 | ⟨b, o, rfl, hc⟩
            · rw [h0] at hlt; simp at hlt
            have c := hc i hlt
            have hnx : btw ss[i] 0 (r.stages - 1) = true → ∀ j (h : j < ss.length), j < i + 1 → btw ss[j] 0 (r.stages - 1) = true := fun h j hj hji => by
              by_cases e : j = i
              · subst e; exact h
              · exact HALL.out j hj (by omega)
            have hno := allIn_no (n := r.stages) hlt
            clear hc hbr
            generalize ss[i] = v at c hnx hno
            have HNX := Lib.hid hnx; clear hnx
            have HNO := Lib.hid hno; clear hno
            have q1 : (i : Int) < (ss.length : Int) := by omega
            have q2 : IntKind.i64.wrap (r.stages - 1) = r.stages - 1 := IntWalk.i64_in _ (by omega)
            go_wp2_with fail
            go_quiet ((go_at_call 108; exact Calls.quiet_of_same ((inside_any _ _ _ _).mono fun e w' h => ⟨h.1, h.2.symm⟩)))
            clear q1 q2
            cases hbt : btw v 0 (r.stages - 1)
            · have HBT := Lib.hid hbt; clear hbt
              go_wp2_with fail
              go_ret
              exact ⟨ret_int (by rw [HA.out, HNO.out HBT.out]; rfl), below_drewN (HB1.out.trans (HBR.out.mono HB1.out.size)) _⟩
            · have HBT := Lib.hid hbt; clear hbt
              go_wp2_with fail
              exact ⟨⟨i + 1, by omega, by go_num, HNX.out HBT.out, below_drewN HBR.out _⟩, by simp [intOf]; omega⟩
          · have HIN := Lib.hid (allIn_yes (fun j hj => HALL.out j hj (by omega)))
            obtain ⟨w2, hw2⟩ : ∃ w2, w2 = wr := ⟨_, rfl⟩
            have g0 := ((bcell hbr).1 _ _ (lt_of_cell k0)).trans k0
            have HD2 := Lib.hid (HD1.out.below hbr)
            have HB2 := Lib.hid (HB1.out.trans (HBR.out.mono HB1.out.size))
            rw [← hw2] at g0 HD2 HB2
            clear hbr k0 k1 j0 j1
            go_wp2_with fail
            clear g1
            go_loopw [11] (fun v11 wx => ∃ i : Nat, i ≤ ds.length ∧ v11 = .int .i64 (i : Int) ∧ (∀ j (h : j < ds.length), j < i → btw ds[j] 0 (r.days - 1) = true) ∧ Below w2.heap.size w2 wx) (fun v _ => ds.length - (intOf v).toNat)
            case atStart => exact ⟨0, Nat.zero_le _, rfl, fun j _ h => absurd h (by omega), by rw [hw2]; exact Below.refl _ _⟩
            case round =>
              clear hw2
              obtain ⟨i, hi, rfl, hall, hbr⟩ := hrel
              have HALL := Lib.hid hall; clear hall
              have g1 := ((bcell hbr).1 _ _ (lt_of_cell g0)).trans g0
              have HBR := Lib.hid hbr
              by_cases hlt : i < ds.length
              · rcases HD2.out.below hbr with h0 | ⟨b, o, rfl, hc⟩
                · rw [h0] at hlt; simp at hlt
                have c := hc i hlt
                have hnx : btw ds[i] 0 (r.days - 1) = true → ∀ j (h : j < ds.length), j < i + 1 → btw ds[j] 0 (r.days - 1) = true := fun h j hj hji => by
                  by_cases e : j = i
                  · subst e; exact h
                  · exact HALL.out j hj (by omega)
                have hno := allIn_no (n := r.days) hlt
                clear hc hbr
                generalize ds[i] = v at c hnx hno
                have HNX := Lib.hid hnx; clear hnx
                have HNO := Lib.hid hno; clear hno
                have q1 : (i : Int) < (ds.length : Int) := by omega
                have q2 : IntKind.i64.wrap (r.days - 1) = r.days - 1 := IntWalk.i64_in _ (by omega)
                go_wp2_with fail
                go_quiet ((go_at_call 108; exact Calls.quiet_of_same ((inside_any _ _ _ _).mono fun e w' h => ⟨h.1, h.2.symm⟩)))
                clear q1 q2
                cases hbt : btw v 0 (r.days - 1)
                · have HBT := Lib.hid hbt; clear hbt
                  go_wp2_with fail
                  go_ret
                  exact ⟨ret_int (by rw [HA.out, HNO.out HBT.out]; simp), below_drewN (HB2.out.trans (HBR.out.mono HB2.out.size)) _⟩
                · have HBT := Lib.hid hbt; clear hbt
                  go_wp2_with fail
                  exact ⟨⟨i + 1, by omega, by go_num, HNX.out HBT.out, below_drewN HBR.out _⟩, by simp [intOf]; omega⟩
              · have HIN2 := Lib.hid (allIn_yes (fun j hj => HALL.out j hj (by omega)))
                clear hbr
                go_wp2_with fail
                go_ret
                exact ⟨ret_int (by rw [HA.out, HIN.out, HIN2.out]; rfl), HB2.out.trans (HBR.out.mono HB2.out.size)⟩
    · have hfe' := hfe
      unfold flockErr at hfe'
      have hA : askedErr r f ss ds = 1 := by
        unfold askedErr
        rw [if_neg (by simp [HCK.out]), if_pos (by simpa using hfe)]
        unfold flockErr
        by_cases c : (!(btw f.heads 1 40) || !(btw f.pace 1 9)) = true
        · rw [if_pos c]
        · rw [if_neg c] at hfe'; simp at hfe'
      have HA := Lib.hid hA; clear hA
      have hc : (!(btw f.heads 1 40) || !(btw f.pace 1 9)) = true := by
        by_cases c : (!(btw f.heads 1 40) || !(btw f.pace 1 9)) = true
        · exact c
        · rw [if_neg c] at hfe'; simp at hfe'
      clear hfe hfe'
      have HC := Lib.hid hc; clear hc
      go_wp2_with fail
      refine (inside_any _ _ _ _).mono ?_
      rintro e w' ⟨rfl, rfl⟩
      cases h1 : btw f.heads 1 40
      · have H1 := Lib.hid h1; clear h1
        go_wp2_with fail
        go_ret
        exact ⟨ret_int HA.out.symm, HB1.out⟩
      · have H1 := Lib.hid h1; clear h1
        have h2 : btw f.pace 1 9 = false := by have := HC.out; rw [H1.out] at this; simpa using this
        have H2 := Lib.hid h2; clear h2
        go_wp2_with fail
        refine (inside_any _ _ _ _).mono ?_
        rintro e w' ⟨rfl, rfl⟩
        rw [H2.out]
        go_wp2_with fail
        go_ret
        exact ⟨ret_int HA.out.symm, HB1.out⟩
  · have hA : askedErr r f ss ds = checkR r := by unfold askedErr; rw [if_pos (by simpa using hck)]
    have HA := Lib.hid hA; clear hA
    have hne : (checkR r != 0) = true := by simpa using hck
    go_wp2_with fail
    go_ret
    exact ⟨ret_int HA.out.symm, HB1.out⟩
end Go.Proofs.Ytjgkgnfhglhklaa
