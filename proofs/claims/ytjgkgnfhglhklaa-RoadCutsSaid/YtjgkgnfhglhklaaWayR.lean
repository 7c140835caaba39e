/- The contract of mestaref02.Way: what road.Way returns. -/
import Derived.Test.YtjgkgnfhglhklaaNextI2
import Derived.Test.YtjgkgnfhglhklaaBarsR
import Derived.Test.YtjgkgnfhglhklaaBeginR
import Derived.Test.YtjgkgnfhglhklaaBelowQ
import Derived.Test.YtjgkgnfhglhklaaNext2
import Derived.Deep.CutBlock
import Derived.Deep.RegionHeld3
import Derived.Deep.LoopGhost
/- Rows of chains, of a call's own; what Way returns. -/
namespace Go.Proofs.Ytjgkgnfhglhklaa
set_option linter.unusedSimpArgs false
set_option linter.unusedVariables false
open Go.RowKit

def ccell (q : Nat → ChainV) (pa : Nat → Option Addr) (pc : Nat → Nat) (j : Nat) : Value := if j % 3 = 0 then .bool (q (j / 3)).is else if j % 3 = 1 then .int .i64 (q (j / 3)).lg else .slice (pa (j / 3)) (q (j / 3)).st.length (pc (j / 3))
/-- A row of chains that a call made. -/
structure CRow (w : World) (g S : Nat) (q : Nat → ChainV) (pa : Nat → Option Addr) (pc : Nat → Nat) : Prop where
  row : w.heap[g]? = some (.cells (tab (S * 3) (ccell q pa pc)) 138 (0, 0))
  ints : ∀ s, s < S → IntsAt w (pa s) (q s).st
  far : ∀ s, s < S → ∀ ad, pa s = some ad → ad.block ≠ g
theorem IntsAt.keepF {w w' : World} {g : Nat} {a : Option Addr} {l : List Int} (h : IntsAt w a l) (hf : ∀ ad, a = some ad → ad.block ≠ g) (hk : ∀ b, b ≠ g → w'.heap[b]? = w.heap[b]?) : IntsAt w' a l := by
  rcases h with h | ⟨b, o, rfl, h⟩
  · exact .inl h
  · exact .inr ⟨b, o, rfl, fun i hi => (World.cell?_of_block (hk b (hf _ rfl))).trans (h i hi)⟩
section
variable {w w' : World} {g S : Nat} {q : Nat → ChainV} {pa : Nat → Option Addr} {pc : Nat → Nat}
theorem CRow.lt (h : CRow w g S q pa pc) : g < w.heap.size := (Array.getElem?_eq_some_iff.1 h.row).1
theorem CRow.below (h : CRow w g S q pa pc) (hb : Below w.heap.size w w') : CRow w' g S q pa pc := ⟨(hb.block g h.lt).trans h.row, fun s hs => (h.ints s hs).below hb, h.far⟩
theorem CRow.c0 (h : CRow w g S q pa pc) {s : Nat} (hs : s < S) : w.cell? ⟨g, s * 3, none⟩ = some (.bool (q s).is) := by
  rw [cell_tab h.row (show s * 3 < S * 3 by omega)]
  unfold ccell
  rw [if_pos (by omega), show s * 3 / 3 = s by omega]
theorem CRow.c1 (h : CRow w g S q pa pc) {s : Nat} (hs : s < S) : w.cell? ⟨g, s * 3 + 1, none⟩ = some (.int .i64 (q s).lg) := by
  rw [cell_tab h.row (show s * 3 + 1 < S * 3 by omega)]
  unfold ccell
  rw [if_neg (by omega), if_pos (by omega), show (s * 3 + 1) / 3 = s by omega]
theorem CRow.c2 (h : CRow w g S q pa pc) {s : Nat} (hs : s < S) : w.cell? ⟨g, s * 3 + 2, none⟩ = some (.slice (pa s) (q s).st.length (pc s)) := by
  rw [cell_tab h.row (show s * 3 + 2 < S * 3 by omega)]
  unfold ccell
  rw [if_neg (by omega), if_neg (by omega), show (s * 3 + 2) / 3 = s by omega]
theorem CRow.free (h : CRow w g S q pa pc) (j : Nat) : w.frozen? ⟨g, j, none⟩ = false := free_tab h.row j
theorem CRow.set (h : CRow w g S q pa pc) {i : Nat} (hi : i < S) (A : ChainV) (a : Option Addr) (c : Nat) (hA : IntsAt w a A.st) (hf : ∀ ad, a = some ad → ad.block ≠ g) :
    CRow (((w.setCell ⟨g, i * 3, none⟩ (.bool A.is)).setCell ⟨g, i * 3 + 1, none⟩ (.int .i64 A.lg)).setCell ⟨g, i * 3 + 2, none⟩ (.slice a A.st.length c)) g S (setC q i A) (fun x => if x = i then a else pa x) (fun x => if x = i then c else pc x) := by
  have hk : ∀ b, b ≠ g → (((w.setCell ⟨g, i * 3, none⟩ (.bool A.is)).setCell ⟨g, i * 3 + 1, none⟩ (.int .i64 A.lg)).setCell ⟨g, i * 3 + 2, none⟩ (.slice a A.st.length c)).heap[b]? = w.heap[b]? := fun b hb => by
    rw [Below.heap_setCell _ ⟨g, i * 3 + 2, none⟩ _ b hb, Below.heap_setCell _ ⟨g, i * 3 + 1, none⟩ _ b hb, Below.heap_setCell _ ⟨g, i * 3, none⟩ _ b hb]
  refine ⟨?_, fun s hs => ?_, fun s hs ad e => ?_⟩
  · have r1 := set_tab h.row (j := i * 3) (x := .bool A.is)
    have r2 := set_tab r1 (j := i * 3 + 1) (x := .int .i64 A.lg)
    have r3 := set_tab r2 (j := i * 3 + 2) (x := .slice a A.st.length c)
    rw [r3]
    congr 2
    apply tab_congr
    intro j hj
    unfold ccell setC
    dsimp only
    have h3 : j % 3 = 0 ∨ j % 3 = 1 ∨ j % 3 = 2 := by omega
    by_cases e : j / 3 = i
    · rw [if_pos e, if_pos e, if_pos e]
      rcases h3 with h3 | h3 | h3
      · rw [if_neg (by omega), if_neg (by omega), if_pos (by omega), if_pos h3]
      · rw [if_neg (by omega), if_pos (by omega), if_neg (by omega), if_pos h3]
      · rw [if_pos (by omega), if_neg (by omega), if_neg (by omega)]
    · rw [if_neg (by omega), if_neg (by omega), if_neg (by omega), if_neg e, if_neg e, if_neg e]
  · unfold setC
    by_cases e : s = i
    · rw [if_pos e, if_pos e]; exact hA.keepF hf hk
    · rw [if_neg e, if_neg e]; exact (h.ints s hs).keepF (h.far s hs) hk
  · by_cases e2 : s = i
    · simp only [if_pos e2] at e; exact hf ad e
    · simp only [if_neg e2] at e; exact h.far s hs ad e
end
theorem info_chain : (Try.prog.info? 138).map (fun i => (i.zero, i.size, i.bytes)) = some (some (.agg #[.bool false, .int .i64 0, .slice none 0 0]), 3, 40) := by kernel_rfl
theorem CRow.made (w : World) (S : Nat) : CRow (w.alloc (.cells (madeCells #[.bool false, .int .i64 0, .slice none 0 0] (S * 3)) 138)) w.heap.size S (fun _ => noChain) (fun _ => none) (fun _ => 0) := by
  refine ⟨?_, fun s _ => .inl rfl, fun s _ ad e => by simp at e⟩
  rw [heap_alloc_new]
  congr 2
  apply Array.ext_getElem?
  intro j
  rw [tab_get]
  by_cases hj : j < S * 3
  · rw [if_pos hj]
    simp only [madeCells, Array.getElem?_map, Array.getElem?_range, hj, if_true, Option.map_some]
    have h3 : j % 3 = 0 ∨ j % 3 = 1 ∨ j % 3 = 2 := by omega
    rcases h3 with h | h | h <;> simp [ccell, h, noChain]
  · rw [if_neg hj]
    simp [madeCells, hj]
/-- The flock stands at its first stage. -/
theorem CRow.begun {w : World} {g S fr : Nat} (h : CRow w g S (fun _ => noChain) (fun _ => none) (fun _ => 0)) (hf : fr < S) : CRow (w.setCell ⟨g, fr * 3, none⟩ (.bool true)) g S (fun t => ⟨decide (t = fr), 0, []⟩) (fun _ => none) (fun _ => 0) := by
  refine ⟨?_, fun s _ => .inl rfl, fun s _ ad e => by simp at e⟩
  rw [set_tab h.row]
  congr 2
  apply tab_congr
  intro j hj
  unfold ccell
  have h3 : j % 3 = 0 ∨ j % 3 = 1 ∨ j % 3 = 2 := by omega
  dsimp only [noChain]
  by_cases e : j = fr * 3
  · rw [if_pos e, if_pos (by omega), decide_eq_true (by omega)]
  · rw [if_neg e]
    rcases h3 with h3 | h3 | h3
    · rw [if_pos h3, if_pos h3, decide_eq_false (by omega)]
    · rw [if_neg (by omega), if_pos h3]
      rw [if_neg (by omega)]
    · rw [if_neg (by omega), if_neg (by omega)]
      rw [if_neg (by omega)]
def wayV (r : Roads) (f : Flock) (fr tt : Int) : List Int × Int × Int :=
  if readyErr r f [fr, r.stages, tt, r.stages] = 0 then (if wayAll r f fr.toNat tt = [] then ([], 0, 11) else (bestL r (wayAll r f fr.toNat tt), lenL r (bestL r (wayAll r f fr.toNat tt)), 0)) else ([], 0, readyErr r f [fr, r.stages, tt, r.stages])
theorem WayPost.val {w w' : World} {r : Roads} {f : Flock} {fr tt : Int} {e : Ending} (h : WayPost w r f fr tt e w') :
    ∃ ga gc, e = .returned (.tuple #[.slice ga (wayV r f fr tt).1.length gc, .int .i64 (wayV r f fr tt).2.1, .int .i64 (wayV r f fr tt).2.2]) ∧ IntsAt w' ga (wayV r f fr tt).1 ∧ Below w.heap.size w w' := by
  obtain ⟨hb, ⟨h1, h2, rfl⟩ | ⟨h1, h2, ga, gc, rfl, hi⟩ | ⟨h1, rfl⟩⟩ := h
  · have e : wayV r f fr tt = ([], 0, 11) := by rw [wayV, if_pos h1, if_pos h2]
    rw [e]
    exact ⟨none, 0, rfl, .inl rfl, hb⟩
  · have e : wayV r f fr tt = (bestL r (wayAll r f fr.toNat tt), lenL r (bestL r (wayAll r f fr.toNat tt)), 0) := by rw [wayV, if_pos h1, if_neg h2]
    rw [e]
    exact ⟨ga, gc, rfl, hi, hb⟩
  · have e : wayV r f fr tt = ([], 0, readyErr r f [fr, r.stages, tt, r.stages]) := by rw [wayV, if_neg h1]
    rw [e]
    exact ⟨none, 0, rfl, .inl rfl, hb⟩
theorem ready_asked_way (r : Roads) (f : Flock) (x y : Int) : readyErr r f [x, r.stages, y, r.stages] = askedErr r f [x, y] [] := by
  unfold readyErr askedErr
  simp only [pairsErr, allIn, List.all_cons, List.all_nil, Bool.and_true]
  by_cases h1 : btw x 0 (r.stages - 1) = true <;> by_cases h2 : btw y 0 (r.stages - 1) = true <;> simp [h1, h2]
theorem days_empty (r : Roads) (f : Flock) (i : Nat) : ∀ D, (daysTo r f i D).length = 0 ↔ openTo r f i D = false
  | 0 => by simp [daysTo, openTo]
  | D + 1 => by
    rw [daysTo, openTo]
    have ih := days_empty r f i D
    cases h : openB r f (-1) i (D : Int)
    · simp; simpa using ih
    · simp
theorem use_open {r : Roads} {f : Flock} {i : Nat} (hi : i < r.strips.length) : (useL r f).getD i false = openTo r f i r.days.toNat := by
  unfold useL
  rw [List.getD_eq_getElem?_getD, List.getElem?_map, List.getElem?_range hi]; rfl
end Go.Proofs.Ytjgkgnfhglhklaa
namespace Go.Proofs.Ytjgkgnfhglhklaa
set_option linter.unusedSimpArgs false
set_option linter.unusedVariables false
open Go.RowKit

/-- Between two passes. -/
def WayAt (r : Roads) (f : Flock) (S fr : Nat) (w1 : World) (n : Nat) (c : Bool) (wx : World) : Prop :=
  ∃ k q pa pc, WAt r f S fr k q ∧ (c = true → k ≤ 6 ∧ n + k = 7) ∧ (c = false → ∀ t, t < S → ∀ l, Route r (useL r f) 0 (t : Int) (fr : Int) l → (q t).is = true ∧ ltC r l (q t).st = false) ∧ CRow wx w1.heap.size S q pa pc ∧ Below w1.heap.size w1 wx
/-- In a pass. -/
def WayIn (r : Roads) (f : Flock) (S fr : Nat) (w1 : World) (k s i : Nat) (c : Bool) (wx : World) : Prop :=
  ∃ q pa pc, WPass r f S fr k s i c q ∧ CRow wx w1.heap.size S q pa pc ∧ Below w1.heap.size w1 wx
section
variable {r : Roads} {f : Flock} {S fr : Nat} {w1 wx w' : World} {n k s i : Nat} {c : Bool}
theorem WayIn.below (h : WayIn r f S fr w1 k s i c wx) : Below w1.heap.size w1 wx := by
  obtain ⟨_, _, _, _, _, h⟩ := h; exact h
theorem WayIn.nextS (h : WayIn r f S fr w1 k s i c wx) (hr : r.strips.length ≤ 8) (hi : i = r.strips.length) : WayIn r f S fr w1 k (s + 1) 0 c wx := by
  obtain ⟨q, pa, pc, h1, h2, h3⟩ := h
  exact ⟨q, pa, pc, h1.nextS hr (by omega) (.inl (by omega)), h2, h3⟩
theorem WayAt.pass (h : WayAt r f S fr w1 n true wx) : ∃ k, k ≤ 6 ∧ n + k = 7 ∧ WayIn r f S fr w1 k 0 0 false wx := by
  obtain ⟨k, q, pa, pc, h1, h2, _, h4, h5⟩ := h
  exact ⟨k, (h2 rfl).1, (h2 rfl).2, q, pa, pc, h1.pass, h4, h5⟩
theorem WayIn.done (h : WayIn r f S fr w1 k S 0 c wx) (g : Good r f) (hS : r.stages = (S : Int)) (hfr : fr < S) (hk : k ≤ 6) (hn : n + k = 7) : ∃ n', n' < n ∧ WayAt r f S fr w1 n' c wx := by
  obtain ⟨q, pa, pc, h1, h2, h3⟩ := h
  obtain ⟨k1, k2, k3⟩ := h1.done g hS hfr
  cases c
  · exact ⟨0, by omega, k + 1, q, pa, pc, k1, by simp, fun _ => k3 rfl, h2, h3⟩
  · have := k2 rfl
    exact ⟨6 - k, by omega, k + 1, q, pa, pc, k1, fun _ => ⟨by omega, by omega⟩, by simp, h2, h3⟩
end
theorem legOf_le {r : Roads} {f : Flock} (g : Good r f) (x : Int) : legOf r x ≤ 9 := by
  unfold legOf
  cases h : r.strips[x.toNat]? with
  | none => simp
  | some y => have := g.strip y (List.mem_of_getElem? h); dsimp only; omega
theorem lsum_le {r : Roads} {f : Flock} (g : Good r f) : ∀ l, lsum r l ≤ 9 * (l.length : Int)
  | [] => by simp [lsum]
  | x :: l => by rw [lsum, List.length_cons]; have := legOf_le g x; have := lsum_le g l; omega
theorem days_of_use {r : Roads} {f : Flock} (hz : askedErr r f [] [] = 0) {i : Nat} (hi : i < r.strips.length) : daysV r f (i : Int) = (daysTo r f i r.days.toNat, 0) := by
  unfold daysV
  have e : btw (i : Int) 0 ((r.strips.length : Int) - 1) = true := by rw [btw_true]; omega
  rw [days_ready, if_pos hz, if_pos e, if_pos rfl]; rfl
theorem asked_less {r : Roads} {f : Flock} {x y : Int} (hz : askedErr r f [x, y] [] = 0) : askedErr r f [] [] = 0 := by
  unfold askedErr at hz ⊢
  by_cases h1 : (checkR r != 0) = true
  · rw [if_pos h1] at hz ⊢; exact hz
  · rw [if_neg h1] at hz ⊢
    by_cases h2 : (flockErr f != 0) = true
    · rw [if_pos h2] at hz ⊢; exact hz
    · rw [if_neg h2]; rfl

set_option maxRecDepth 100000 in
set_option maxHeartbeats 40000000 in
theorem refWay_any (w : World) (r : Roads) (f : Flock) (a : Option Addr) (cap : Nat) (hs : StripsAt w a r.strips) (hm : r.strips.length ≤ maxLen) (fr tt : Int) :
    Calls Try.prog 55 #[.agg #[.int .i64 r.days, .int .i64 r.stages, .slice a r.strips.length cap], .agg #[.int .i64 f.heads, .int .i64 f.pace], .int .i64 fr, .int .i64 tt] w
      fun e w' => ∃ ga gc, e = .returned (.tuple #[.slice ga (wayV r f fr tt).1.length gc, .int .i64 (wayV r f fr tt).2.1, .int .i64 (wayV r f fr tt).2.2]) ∧ IntsAt w' ga (wayV r f fr tt).1 ∧ Below w.heap.size w w' := by
  have hb0 : Below w.heap.size w ((w.alloc (.cells #[.int .i64 r.days, .int .i64 r.stages, .slice a r.strips.length cap] 24)).alloc (.cells #[.int .i64 f.heads, .int .i64 f.pace] 26)) := ((Below.refl _ _).alloc (Nat.le_refl _) _).alloc (by simp) _
  have x0 : ((w.alloc (.cells #[.int .i64 r.days, .int .i64 r.stages, .slice a r.strips.length cap] 24)).alloc (.cells #[.int .i64 f.heads, .int .i64 f.pace] 26)).cell? ⟨w.heap.size, 0, none⟩ = some (.int .i64 r.days) := by simp [go_sem]
  have x1 : ((w.alloc (.cells #[.int .i64 r.days, .int .i64 r.stages, .slice a r.strips.length cap] 24)).alloc (.cells #[.int .i64 f.heads, .int .i64 f.pace] 26)).cell? ⟨w.heap.size, 1, none⟩ = some (.int .i64 r.stages) := by simp [go_sem]
  have x2 : ((w.alloc (.cells #[.int .i64 r.days, .int .i64 r.stages, .slice a r.strips.length cap] 24)).alloc (.cells #[.int .i64 f.heads, .int .i64 f.pace] 26)).cell? ⟨w.heap.size, 2, none⟩ = some (.slice a r.strips.length cap) := by simp [go_sem]
  have x3 : ((w.alloc (.cells #[.int .i64 r.days, .int .i64 r.stages, .slice a r.strips.length cap] 24)).alloc (.cells #[.int .i64 f.heads, .int .i64 f.pace] 26)).cell? ⟨w.heap.size + 1, 0, none⟩ = some (.int .i64 f.heads) := by simp [go_sem]
  have x4 : ((w.alloc (.cells #[.int .i64 r.days, .int .i64 r.stages, .slice a r.strips.length cap] 24)).alloc (.cells #[.int .i64 f.heads, .int .i64 f.pace] 26)).cell? ⟨w.heap.size + 1, 1, none⟩ = some (.int .i64 f.pace) := by simp [go_sem]
  have hst := hs.below hb0
  have HM := Lib.hid hm; clear hm hs
  have HE := Lib.hid (ready_asked_way r f fr tt)
  go_enter Try.func55, Try.ntmps55
  go_upto_region 1 with (fail)
  generalize ((w.alloc (.cells #[.int .i64 r.days, .int .i64 r.stages, .slice a r.strips.length cap] 24)).alloc (.cells #[.int .i64 f.heads, .int .i64 f.pace] 26)) = W0 at hb0 x0 x1 x2 x3 x4 hst ⊢
  have hba : Below W0.heap.size W0 (W0.alloc (.cells #[.int .i64 fr, .int .i64 tt] 3)) := (Below.refl _ _).alloc (Nat.le_refl _) _
  have hak := asked_any (W0.alloc (.cells #[.int .i64 fr, .int .i64 tt] 3)) r f a cap (hst.below hba) HM.out _ none 2 0 [fr, tt] [] (ints_new (w := W0) [fr, tt]) (.inl rfl) (by simp) (by simp)
  rw [show ([] : List Int).length = 0 from rfl, show [fr, tt].length = 2 from rfl] at hak
  have HAK := Lib.hid hak; clear hak
  have HBA := Lib.hid hba; clear hba
  have HST := Lib.hid hst; clear hst
  have HB0 := Lib.hid hb0; clear hb0
  go_wp2_with fail
  refine HAK.out.mono ?_
  clear HAK
  rintro e w1 ⟨rfl, hb1⟩
  have HB1 := Lib.hid (HBA.out.trans (hb1.mono HBA.out.size)); clear hb1 HBA
  have y0 := ((bcell HB1.out).1 _ _ (lt_of_cell x0)).trans x0
  have y1 := ((bcell HB1.out).1 _ _ (lt_of_cell x1)).trans x1
  have y2 := ((bcell HB1.out).1 _ _ (lt_of_cell x2)).trans x2
  have y3 := ((bcell HB1.out).1 _ _ (lt_of_cell x3)).trans x3
  have y4 := ((bcell HB1.out).1 _ _ (lt_of_cell x4)).trans x4
  clear x0 x1 x2 x3 x4
  have HBW := Lib.hid (HB0.out.trans (HB1.out.mono HB0.out.size))
  by_cases hz : askedErr r f [fr, tt] [] = 0
  · obtain ⟨g, hin, _⟩ := asked_zero hz
    have hft : (0 ≤ fr ∧ fr < r.stages) ∧ 0 ≤ tt ∧ tt < r.stages := by
      have h1 : btw fr 0 (r.stages - 1) = true ∧ btw tt 0 (r.stages - 1) = true := by simpa [allIn] using hin
      rw [btw_true, btw_true] at h1; omega
    clear hin
    have HV := Lib.hid (show wayV r f fr tt = (if wayAll r f fr.toNat tt = [] then ([], 0, 11) else (bestL r (wayAll r f fr.toNat tt), lenL r (bestL r (wayAll r f fr.toNat tt)), 0)) by rw [wayV, if_pos (HE.out.trans hz)])
    have HZL := Lib.hid (asked_less hz)
    rw [hz]
    have HZ := Lib.hid hz; clear hz HE
    obtain ⟨⟨p1, p2⟩, p3, p4⟩ := hft
    obtain ⟨u, rfl⟩ := Int.eq_ofNat_of_zero_le p1
    obtain ⟨v, rfl⟩ := Int.eq_ofNat_of_zero_le p3
    obtain ⟨S, hS⟩ := Int.eq_ofNat_of_zero_le (a := r.stages) (by omega)
    obtain ⟨N, hN⟩ : ∃ N, r.strips.length = N := ⟨_, rfl⟩
    have huS : u < S := by omega
    have hvS : v < S := by omega
    have hS6 : S ≤ 6 := by have := g.s2; omega
    have hN8 : N ≤ 8 := by have := g.n8; omega
    have q0 : (u : Int) < (S : Int) := by omega
    have q9 : (v : Int) < (S : Int) := by omega
    rw [hS] at y1
    rw [hN] at y2
    have HS := Lib.hid hS; clear hS
    have HN := Lib.hid hN; clear hN
    have GG := Lib.hid g; clear g p1 p2 p3 p4
    have HST1 := Lib.hid (HST.out.below HB1.out); clear HST HB1
    have Y0 := Lib.hid y0; clear y0
    have Y1 := Lib.hid y1
    have Y2 := Lib.hid y2; clear y2
    have Y3 := Lib.hid y3; clear y3
    have Y4 := Lib.hid y4; clear y4
    have hmk := run_make_wide (P := Try.prog) 136 138 (.agg #[.bool false, .int .i64 0, .slice none 0 0]) 3 40 Try.underlying136 info_chain .i64 .i64 S (by omega) (by omega)
    have hzc : (Value.agg #[.bool false, .int .i64 0, .slice none 0 0]).cells = #[.bool false, .int .i64 0, .slice none 0 0] := rfl
    rw [hzc] at hmk
    clear hzc
    go_upto_region 5 with (fail)
    clear hmk y1
    have hbm : Below w1.heap.size w1 (w1.alloc (.cells (madeCells #[.bool false, .int .i64 0, .slice none 0 0] (S * 3)) 138)) := (Below.refl _ _).alloc (Nat.le_refl _) _
    have hcr := CRow.made w1 S
    generalize (w1.alloc (.cells (madeCells #[.bool false, .int .i64 0, .slice none 0 0] (S * 3)) 138)) = WA at hbm hcr ⊢
    have c0 : WA.cell? ⟨w1.heap.size, u * 3, none⟩ = some (.bool false) := hcr.c0 huS
    have c1 := hcr.free (u * 3)
    have hbg := hcr.begun huS
    have hbm2 := hbm.setCell (p := ⟨w1.heap.size, u * 3, none⟩) (Nat.le_refl _) (.bool true)
    have hat : WayAt r f S u w1 7 true (WA.setCell ⟨w1.heap.size, u * 3, none⟩ (.bool true)) := ⟨0, _, _, _, WAt.start huS, fun _ => ⟨by omega, by omega⟩, by simp, hbg, hbm2⟩
    have HAT := Lib.hid hat; clear hat hbg hbm hbm2 hcr
    go_wp2_with fail
    clear c0 c1
    generalize (WA.setCell ⟨w1.heap.size, u * 3, none⟩ (.bool true)) = WB at HAT ⊢
    go_loopg [13] 7 (fun n v13 wx => ∃ c : Bool, v13 = .bool c ∧ WayAt r f S u w1 n c wx)
    case atStart => exact ⟨true, rfl, HAT.out⟩
    case round =>
      clear HAT
      obtain ⟨c, rfl, hda⟩ := hrel
      cases c
      · obtain ⟨k, q, pa, pc, k1, _, k2, k4, k5⟩ := hda
        have K4 := Lib.hid k4; clear k4
        have K5 := Lib.hid k5; clear k5
        obtain ⟨e1, e2⟩ := way_end GG.out HS.out huS k1 (k2 rfl) hvS
        have E1 := Lib.hid e1; clear e1
        have E2 := Lib.hid e2; clear e2 k1 k2
        have m0 := K4.out.c0 hvS
        cases his : (q v).is
        · rw [his] at m0
          have HIS := Lib.hid his; clear his
          go_wp2_with fail
          go_ret3
          have hv := HV.out
          rw [Int.toNat_natCast, if_pos (E1.out HIS.out)] at hv
          rw [hv]
          exact ⟨none, 0, rfl, .inl rfl, HBW.out.trans (K5.out.mono HBW.out.size)⟩
        · rw [his] at m0
          have HIS := Lib.hid his; clear his
          have m1 := K4.out.c1 hvS
          have m2 := K4.out.c2 hvS
          go_upto_region 24 with (fail)
          go_region
          all_goals
            go_wp2_with fail
            go_ret3
            obtain ⟨d1, d2, d3⟩ := E2.out HIS.out
            have hv := HV.out
            rw [Int.toNat_natCast, if_neg d1, ← d2] at hv
            rw [← d2] at d3
            rw [hv, ← d3]
            exact ⟨_, _, rfl, (K4.out.ints v hvS).below (Below.refl _ _).drew, (HBW.out.trans (K5.out.mono HBW.out.size)).drew⟩
      · obtain ⟨k, hk6, hnk, hst⟩ := hda.pass
        have HST2 := Lib.hid hst; clear hst hda
        have HGK := Lib.hid (And.intro hk6 hnk); clear hnk
        go_wp2_with fail
        go_loopw [13, 14] (fun v13 v14 wx => ∃ (s : Nat) (c : Bool), s ≤ S ∧ v13 = .bool c ∧ v14 = .int .i64 (s : Int) ∧ WayIn r f S u w1 k s 0 c wx) (fun _ v _ => S - (intOf v).toNat)
        case atStart => exact ⟨0, false, Nat.zero_le _, rfl, rfl, HST2.out⟩
        case round =>
          clear HST2
          obtain ⟨s, c, hs, rfl, rfl, hin⟩ := hrel
          have HIN := Lib.hid hin; clear hin
          have x1 := ((bcell HIN.out.below).1 _ _ (lt_of_cell Y1.out)).trans Y1.out
          by_cases hsS : s < S
          · have q1 : (s : Int) < (S : Int) := by omega
            go_wp2_with fail
            clear x1
            go_loopw [13, 15] (fun v13 v15 wx => ∃ (i : Nat) (c : Bool), i ≤ N ∧ v13 = .bool c ∧ v15 = .int .i64 (i : Int) ∧ WayIn r f S u w1 k s i c wx) (fun _ v _ => N - (intOf v).toNat)
            case atStart => exact ⟨0, c, Nat.zero_le _, rfl, rfl, HIN.out⟩
            case round =>
              clear HIN
              obtain ⟨i, c, hi, rfl, rfl, hin⟩ := hrel
              have HIN := Lib.hid hin; clear hin
              have x2 := ((bcell HIN.out.below).1 _ _ (lt_of_cell Y2.out)).trans Y2.out
              by_cases hiN : i < N
              · have q3 : (i : Int) < (N : Int) := by omega
                have hlt : i < r.strips.length := by rw [HN.out]; exact hiN
                rcases HST1.out.below HIN.out.below with h0 | ⟨sb, so, ea, hsc⟩
                · rw [h0] at hlt; simp at hlt
                obtain ⟨q, pa, pc, hpa, hg, hbr⟩ := HIN.out
                clear HIN
                have y1 := hg.c0 hsS
                have HG := Lib.hid hg; clear hg
                have HBR := Lib.hid hbr; clear hbr
                have HPA := Lib.hid hpa; clear hpa
                cases his : (q s).is
                · rw [his] at y1
                  have HX := Lib.hid (show WayIn r f S u w1 k (s + 1) 0 c wr from ⟨q, pa, pc, HPA.out.nextS (by rw [HN.out]; omega) (by omega) (.inr his), HG.out, HBR.out⟩); clear HPA HG HBR his hsc ea
                  go_wp2_with fail
                  exact ⟨⟨s + 1, c, by omega, rfl, by go_num, HX.out⟩, by simp [intOf]; omega⟩
                · rw [his] at y1
                  have HIS := Lib.hid his; clear his
                  cases ea
                  obtain ⟨s0, s1, s2, s3, s4, s5, s6⟩ := hsc i hlt
                  have hx : r.strips[i]? = some r.strips[i] := List.getElem?_eq_getElem hlt
                  obtain ⟨b1, b2, b3, b4, b5, b6, b7, _⟩ := GG.out.strip r.strips[i] (List.getElem_mem hlt)
                  generalize r.strips[i] = x at s0 s1 s2 s3 s4 s5 s6 b1 b2 b3 b4 b5 b6 b7 hx
                  have HX := Lib.hid hx; clear hx hsc
                  have hbX : Below wr.heap.size wr (wr.alloc (.cells #[.int .i64 x.A, .int .i64 x.B, .int .i64 x.L, .int .i64 x.W, .int .i64 x.K, .int .i64 x.X, .int .i64 x.Y] 57)) := Below.alloc (Below.refl _ _) (Nat.le_refl _) _
                  have z0 : (wr.alloc (.cells #[.int .i64 x.A, .int .i64 x.B, .int .i64 x.L, .int .i64 x.W, .int .i64 x.K, .int .i64 x.X, .int .i64 x.Y] 57)).cell? ⟨wr.heap.size, 0, none⟩ = some (.int .i64 x.A) := by simp [go_sem]
                  have z1 : (wr.alloc (.cells #[.int .i64 x.A, .int .i64 x.B, .int .i64 x.L, .int .i64 x.W, .int .i64 x.K, .int .i64 x.X, .int .i64 x.Y] 57)).cell? ⟨wr.heap.size, 1, none⟩ = some (.int .i64 x.B) := by simp [go_sem]
                  have z2 : (wr.alloc (.cells #[.int .i64 x.A, .int .i64 x.B, .int .i64 x.L, .int .i64 x.W, .int .i64 x.K, .int .i64 x.X, .int .i64 x.Y] 57)).cell? ⟨wr.heap.size, 2, none⟩ = some (.int .i64 x.L) := by simp [go_sem]
                  go_upto_region 16 with (fail)
                  clear s0 s1 s2 s3 s4 s5 s6 x2 y1
                  have HG1 := Lib.hid (HG.out.below hbX)
                  have HB1 := Lib.hid (HBR.out.trans (hbX.mono HBR.out.size))
                  clear hbX HG HBR
                  generalize (wr.alloc (.cells #[.int .i64 x.A, .int .i64 x.B, .int .i64 x.L, .int .i64 x.W, .int .i64 x.K, .int .i64 x.X, .int .i64 x.Y] 57)) = W1 at z0 z1 z2 HG1 HB1 ⊢
                  generalize wr.heap.size = bx at z0 z1 z2 ⊢
                  have x0 := ((bcell HB1.out).1 _ _ (lt_of_cell Y0.out)).trans Y0.out
                  have x1 := ((bcell HB1.out).1 _ _ (lt_of_cell Y1.out)).trans Y1.out
                  have x2 := ((bcell HB1.out).1 _ _ (lt_of_cell Y2.out)).trans Y2.out
                  have x3 := ((bcell HB1.out).1 _ _ (lt_of_cell Y3.out)).trans Y3.out
                  have x4 := ((bcell HB1.out).1 _ _ (lt_of_cell Y4.out)).trans Y4.out
                  have hdy := refDays_any W1 r f _ cap (HST1.out.below HB1.out) HM.out (i : Int)
                  rw [HN.out, HS.out] at hdy
                  have HDY := Lib.hid hdy; clear hdy
                  have hdv := days_of_use (f := f) HZL.out hlt
                  have HDV := Lib.hid hdv; clear hdv
                  go_wp2_with fail
                  refine HDY.out.mono ?_
                  clear HDY x0 x1 x2 x3 x4
                  intro e w2 hpost
                  obtain ⟨da, dc, rfl, _, hb2⟩ := hpost.val
                  clear hpost
                  rw [HDV.out]
                  have hue : (useL r f).getD i false = openTo r f i r.days.toNat := use_open hlt
                  have hde := days_empty r f i r.days.toNat
                  generalize (daysTo r f i r.days.toNat).length = dl at hde ⊢
                  have HUE := Lib.hid hue; clear hue
                  have HDE := Lib.hid hde; clear hde
                  replace z0 := ((bcell hb2).1 _ _ (lt_of_cell z0)).trans z0
                  replace z1 := ((bcell hb2).1 _ _ (lt_of_cell z1)).trans z1
                  replace z2 := ((bcell hb2).1 _ _ (lt_of_cell z2)).trans z2
                  have HG2 := Lib.hid (HG1.out.below hb2)
                  have HB2 := Lib.hid (HB1.out.trans (hb2.mono HB1.out.size))
                  clear hb2 HG1 HB1 HDV
                  go_upto_region 17 with (fail)
                  go_cut [84] (fun v84 wx => ∃ cb : Bool, v84 = .bool cb ∧ (cb = true → ∀ t, LeadsC r f s i x t → False) ∧ (cb = false → (endOf x (s : Int)).2 = true ∧ (useL r f).getD i false = true) ∧ wx = w2)
                  case first =>
                    by_cases cD : dl = 0
                    · subst cD
                      have HU := Lib.hid (show (useL r f).getD i false = false by rw [HUE.out]; exact HDE.out.1 rfl)
                      go_wp2_with fail
                      go_meet
                      exact ⟨true, rfl, fun _ t hl => by have := hl.use; rw [HU.out] at this; simp at this, by simp, rfl⟩
                    · have hne0 : ¬ (dl : Int) = 0 := by omega
                      have d1 : ((dl : Int) == 0) = false := by simpa using hne0
                      have HU := Lib.hid (show (useL r f).getD i false = true by
                        rw [HUE.out]
                        cases ho : openTo r f i r.days.toNat
                        · exact absurd (HDE.out.2 ho) cD
                        · rfl)
                      clear cD
                      by_cases cA : x.A = (s : Int)
                      · have d2 : (x.A != (s : Int)) = false := by simp [cA]
                        have HE := Lib.hid (show (endOf x (s : Int)).2 = true by unfold endOf; rw [if_pos cA.symm])
                        clear cA
                        go_wp2_with fail
                        go_meet
                        exact ⟨false, rfl, by simp, fun _ => ⟨HE.out, HU.out⟩, rfl⟩
                      · have d2 : (x.A != (s : Int)) = true := by simp [cA]
                        by_cases cB : x.B = (s : Int)
                        · have d3 : (x.B != (s : Int)) = false := by simp [cB]
                          have HE := Lib.hid (show (endOf x (s : Int)).2 = true by unfold endOf; rw [if_neg (fun e => cA e.symm), if_pos cB.symm])
                          clear cA cB
                          go_wp2_with fail
                          go_meet
                          exact ⟨false, rfl, by simp, fun _ => ⟨HE.out, HU.out⟩, rfl⟩
                        · have d3 : (x.B != (s : Int)) = true := by simp [cB]
                          have HE := Lib.hid (show (endOf x (s : Int)).2 = false by unfold endOf; rw [if_neg (fun e => cA e.symm), if_neg (fun e => cB e.symm)])
                          clear cA cB
                          go_wp2_with fail
                          go_meet
                          exact ⟨true, rfl, fun _ t hl => by have := hl.ok; rw [HE.out] at this; simp at this, by simp, rfl⟩
                  case rest =>
                    obtain ⟨cb, rfl, hcb1, hcb2, hwc⟩ := hcut
                    subst hwc
                    cases cb
                    · obtain ⟨hend, huse⟩ := hcb2 rfl
                      clear hcb1 hcb2
                      have hS1 := HS.out
                      have hrange := endOf_range GG.out (List.mem_of_getElem? HX.out) hend
                      obtain ⟨t, ht⟩ := Int.eq_ofNat_of_zero_le hrange.1
                      have htS : t < S := by omega
                      have hsum : x.A + x.B - (s : Int) = (t : Int) := by
                        have hend' := hend
                        have ht' := ht
                        unfold endOf at hend' ht'
                        by_cases h1 : (s : Int) = x.A
                        · rw [if_pos h1] at ht'; dsimp only at ht'; omega
                        · rw [if_neg h1] at ht' hend'
                          by_cases h2 : (s : Int) = x.B
                          · rw [if_pos h2] at ht'; dsimp only at ht'; omega
                          · rw [if_neg h2] at hend'; simp at hend'
                      have HLD := Lib.hid (show LeadsC r f s i x t from ⟨HX.out, hend, ht, huse⟩)
                      clear hend huse hrange ht hS1
                      obtain ⟨p1, p2, p3⟩ := HPA.out.rt s hsS HIS.out
                      have hlen : (q s).st.length ≤ 1000 := by unfold bdC at p3; omega
                      have hlg : 0 ≤ (q s).lg ∧ (q s).lg ≤ 9000 := by
                        rw [p2]
                        have h1 := lsum_nonneg GG.out (q s).st
                        have h2 := lsum_le GG.out (q s).st
                        omega
                      have hlenT : (q t).st.length ≤ 1000 := by
                        cases hq : (q t).is
                        · rw [HPA.out.no t htS hq]; simp [noChain]
                        · have h3 := (HPA.out.rt t htS hq).2.2
                          unfold bdC at h3; omega
                      clear p1 p2 p3
                      have y2 := HG2.out.c1 hsS
                      have y3 := HG2.out.c2 hsS
                      have HST3 := Lib.hid (HG2.out.ints s hsS)
                      have e1 : IntKind.i64.wrap ((q s).lg + x.L) = (q s).lg + x.L := IntWalk.i64_in _ (by omega)
                      have HLA := Lib.hid hlen
                      have HMM := Lib.hid (And.intro z0 (And.intro z1 z2))
                      have HOO := Lib.hid (And.intro y2 y3)
                      obtain ⟨A, hA⟩ : ∃ A, q s = A := ⟨_, rfl⟩
                      rw [hA] at hlen hlg e1 HST3 HLA HOO
                      clear y2 y3 z0 z1 z2
                      have HA := Lib.hid hA; clear hA
                      go_upto_region 18 with (fail)
                      go_cut [19] (fun v19 wx => ∃ p a2 c2, v19 = .pointer (some ⟨p, 0, none⟩) ∧ ChainIn wc wx p a2 c2 (A.st.length + 1) (A.lg + x.L) (A.st ++ [(i : Int)]))
                      case first =>
                        have HK := Lib.hid (show ∀ W, Below wc.heap.size wc W → W.cell? ⟨w1.heap.size, s * 3 + 1, none⟩ = some (.int .i64 A.lg) ∧ W.cell? ⟨bx, 2, none⟩ = some (.int .i64 x.L) ∧ W.cell? ⟨w1.heap.size, s * 3 + 2, none⟩ = some (.slice (pa s) A.st.length (pc s)) from fun W h => ⟨((bcell h).1 _ _ (lt_of_cell HOO.out.1)).trans HOO.out.1, ((bcell h).1 _ _ (lt_of_cell HMM.out.2.2)).trans HMM.out.2.2, ((bcell h).1 _ _ (lt_of_cell HOO.out.2)).trans HOO.out.2⟩)
                        generalize ha0 : (Act.mk _ _) = a0
                        refine wp_region_inv (by kernel_rfl) (fun L a' w' => ∃ vs : Nat → Value, a' = puts [(85, 0), (86, 1), (87, 2), (88, 3), (89, 4), (90, 5), (91, 6), (92, 7), (93, 8), (94, 9), (95, 10), (96, 11), (97, 12), (98, 13), (99, 14), (100, 15), (101, 16), (102, 17), (103, 18), (19, 19)] vs a0 ∧ CInv wc w1.heap.size S s bx A.lg x.L A.st (pa s) (pc s) (i : Int) L vs w') ?_ ?_ ?_
                        · refine ⟨fun k => a0.tmps.getD ((#[85, 86, 87, 88, 89, 90, 91, 92, 93, 94, 95, 96, 97, 98, 99, 100, 101, 102, 103, 19] : Array Nat).getD k 0) undef, (puts_self _ _ _ ?_).symm, CInv.start rfl⟩
                          intro y hy
                          simp only [List.mem_cons, List.not_mem_nil, or_false] at hy
                          rcases hy with rfl | rfl | rfl | rfl | rfl | rfl | rfl | rfl | rfl | rfl | rfl | rfl | rfl | rfl | rfl | rfl | rfl | rfl | rfl | rfl <;> rfl
                        · intro L a' w' k o ho hI hl hr
                          obtain ⟨vs, rfl, hN⟩ := hI
                          have hk : k < 21 := (Array.getElem?_eq_some_iff.1 ho).1
                          subst ha0
                          have hz := HK.out w' hN.below
                          obtain ⟨z0, z1, z2⟩ := hz
                          have hk' := lt_21 k hk
                          rcases hk' with rfl | rfl | rfl | rfl | rfl | rfl | rfl | rfl | rfl | rfl | rfl | rfl | rfl | rfl | rfl | rfl | rfl | rfl | rfl | rfl | rfl
                          · obtain rfl := Option.some.inj ho
                            refine wpOp_step rfl rfl (fun K hK => ?_)
                            simp only [puts, Act.put, List.setIfInBounds_toArray, List.set_cons_zero, List.set_cons_succ]
                            unfold Oper.wp
                            go_simp
                            refine hK _ _ ⟨updF vs 0 _, ?_, hN.pure rfl⟩
                            simp [puts, updF, Act.put]
                          · obtain rfl := Option.some.inj ho
                            refine wpOp_step rfl rfl (fun K hK => ?_)
                            simp only [puts, Act.put, List.setIfInBounds_toArray, List.set_cons_zero, List.set_cons_succ]
                            unfold Oper.wp
                            go_simp
                            refine hK _ _ ⟨updF vs 1 _, ?_, hN.pure rfl⟩
                            simp [puts, updF, Act.put]
                          · obtain rfl := Option.some.inj ho
                            simp [readyF, Region.binds] at hr
                            have e0 := hN.c 0 _ hr.1 rfl
                            have e1 := hN.c 1 _ hr.2 rfl
                            refine wpOp_step rfl rfl (fun K hK => ?_)
                            simp only [puts, Act.put, List.setIfInBounds_toArray, List.set_cons_zero, List.set_cons_succ]
                            unfold Oper.wp
                            go_simp
                            refine hK _ _ ⟨updF vs 2 _, ?_, hN.pure rfl⟩
                            simp [puts, updF, Act.put, e0, e1]
                          · obtain rfl := Option.some.inj ho
                            simp [readyF, Region.binds] at hr
                            have e2 := hN.c 2 _ hr rfl
                            refine wpOp_step rfl rfl (fun K hK => ?_)
                            simp only [puts, Act.put, List.setIfInBounds_toArray, List.set_cons_zero, List.set_cons_succ]
                            unfold Oper.wp
                            go_simp
                            refine hK _ _ ⟨updF vs 3 _, ?_, hN.pure rfl⟩
                            simp [puts, updF, Act.put, e2]
                          · obtain rfl := Option.some.inj ho
                            simp [readyF, Region.binds] at hr
                            have e3 := hN.c 3 _ hr rfl
                            refine wpOp_step rfl rfl (fun K hK => ?_)
                            simp only [puts, Act.put, List.setIfInBounds_toArray, List.set_cons_zero, List.set_cons_succ]
                            unfold Oper.wp
                            go_simp
                            refine hK _ _ ⟨updF vs 4 _, ?_, hN.pure rfl⟩
                            simp [puts, updF, Act.put, e3]
                          · obtain rfl := Option.some.inj ho
                            refine wpOp_step rfl rfl (fun K hK => ?_)
                            simp only [puts, Act.put, List.setIfInBounds_toArray, List.set_cons_zero, List.set_cons_succ]
                            unfold Oper.wp
                            go_simp
                            refine hK _ _ ⟨updF vs 5 _, ?_, hN.pure rfl⟩
                            simp [puts, updF, Act.put]
                          · obtain rfl := Option.some.inj ho
                            simp [readyF, Region.binds] at hr
                            have e5 := hN.c 5 _ hr rfl
                            refine wpOp_step rfl rfl (fun K hK => ?_)
                            simp only [puts, Act.put, List.setIfInBounds_toArray, List.set_cons_zero, List.set_cons_succ]
                            unfold Oper.wp
                            go_simp
                            refine hK _ _ ⟨updF vs 6 _, ?_, hN.pure rfl⟩
                            simp [puts, updF, Act.put, e5]
                          · obtain rfl := Option.some.inj ho
                            simp [readyF, Region.binds] at hr
                            have e4 := hN.c 4 _ hr.1 rfl
                            have e6 := hN.c 6 _ hr.2 rfl
                            refine wpOp_step rfl rfl (fun K hK => ?_)
                            simp only [puts, Act.put, List.setIfInBounds_toArray, List.set_cons_zero, List.set_cons_succ]
                            unfold Oper.wp
                            go_simp
                            refine hK _ _ ⟨updF vs 7 _, ?_, hN.pure rfl⟩
                            simp [puts, updF, Act.put, e4, e6]
                          · obtain rfl := Option.some.inj ho
                            refine wpOp_step rfl rfl (fun K hK => ?_)
                            simp only [puts, Act.put, List.setIfInBounds_toArray, List.set_cons_zero, List.set_cons_succ]
                            unfold Oper.wp
                            go_simp
                            refine hK _ _ ⟨updF vs 8 _, ?_, hN.op5 hl⟩
                            simp [puts, updF, Act.put]
                          · obtain rfl := Option.some.inj ho
                            refine wpOp_step rfl rfl (fun K hK => ?_)
                            simp only [puts, Act.put, List.setIfInBounds_toArray, List.set_cons_zero, List.set_cons_succ]
                            unfold Oper.wp
                            go_simp
                            refine hK _ _ ⟨updF vs 9 _, ?_, hN.pure rfl⟩
                            simp [puts, updF, Act.put]
                          · obtain rfl := Option.some.inj ho
                            refine wpOp_step rfl rfl (fun K hK => ?_)
                            simp only [puts, Act.put, List.setIfInBounds_toArray, List.set_cons_zero, List.set_cons_succ]
                            unfold Oper.wp
                            go_simp
                            refine hK _ _ ⟨updF vs 10 _, ?_, hN.pure rfl⟩
                            simp [puts, updF, Act.put]
                          · obtain rfl := Option.some.inj ho
                            simp [readyF, Region.binds] at hr
                            have e9 := hN.c 9 _ hr.1 rfl
                            have e10 := hN.c 10 _ hr.2 rfl
                            refine wpOp_step rfl rfl (fun K hK => ?_)
                            simp only [puts, Act.put, List.setIfInBounds_toArray, List.set_cons_zero, List.set_cons_succ]
                            unfold Oper.wp
                            go_simp
                            refine hK _ _ ⟨updF vs 11 _, ?_, hN.pure rfl⟩
                            simp [puts, updF, Act.put, e9, e10]
                          · obtain rfl := Option.some.inj ho
                            simp [readyF, Region.binds] at hr
                            have e11 := hN.c 11 _ hr rfl
                            refine wpOp_step rfl rfl (fun K hK => ?_)
                            simp only [puts, Act.put, List.setIfInBounds_toArray, List.set_cons_zero, List.set_cons_succ]
                            unfold Oper.wp
                            go_simp
                            refine hK _ _ ⟨updF vs 12 _, ?_, hN.pure rfl⟩
                            simp [puts, updF, Act.put, e11]
                          · obtain rfl := Option.some.inj ho
                            simp [readyF, Region.binds] at hr
                            have e12 := hN.c 12 _ hr rfl
                            refine wpOp_step rfl rfl (fun K hK => ?_)
                            simp only [puts, Act.put, List.setIfInBounds_toArray, List.set_cons_zero, List.set_cons_succ]
                            unfold Oper.wp
                            go_simp
                            refine hK _ _ ⟨updF vs 13 _, ?_, hN.pure rfl⟩
                            simp [puts, updF, Act.put, e12]
                          · obtain rfl := Option.some.inj ho
                            simp [readyF, Region.binds] at hr
                            have e13 := hN.c 13 _ hr.2 rfl
                            obtain ⟨g5, hg5, hst⟩ := hN.own8 hl hr.1
                            refine wpOp_want rfl rfl (wp_appC1 rfl hst (.tmp 93) (.tmp 98) rfl ?_ (pa s) (pc s) A.st ?_ HST3.out (by have := HLA.out; omega) ?_)
                            · simp only [puts, Act.put, List.setIfInBounds_toArray, List.set_cons_zero, List.set_cons_succ]
                              exact hg5
                            · simp only [puts, Act.put, List.setIfInBounds_toArray, List.set_cons_zero, List.set_cons_succ]
                              exact e13
                            · intro v' w'' hn
                              exact ⟨updF vs 14 v', by simp [puts, updF, Act.put], hN.op8 hl hr.1 hn⟩
                          · obtain rfl := Option.some.inj ho
                            refine wpOp_step rfl rfl (fun K hK => ?_)
                            simp only [puts, Act.put, List.setIfInBounds_toArray, List.set_cons_zero, List.set_cons_succ]
                            unfold Oper.wp
                            go_simp
                            refine hK _ _ ⟨updF vs 15 _, ?_, hN.pure rfl⟩
                            simp [puts, updF, Act.put]
                          · obtain rfl := Option.some.inj ho
                            simp [readyF, Region.binds] at hr
                            have e15 := hN.c 15 _ hr rfl
                            refine wpOp_step rfl rfl (fun K hK => ?_)
                            simp only [puts, Act.put, List.setIfInBounds_toArray, List.set_cons_zero, List.set_cons_succ]
                            unfold Oper.wp
                            go_simp
                            refine hK _ _ ⟨updF vs 16 _, ?_, hN.op12 hl⟩
                            simp [puts, updF, Act.put, e15]
                          · obtain rfl := Option.some.inj ho
                            simp [readyF, Region.binds] at hr
                            obtain ⟨g5, hg5, hst⟩ := hN.own13 hl hr.1 hr.2.1
                            refine wpOp_want rfl rfl (wp_appC2 rfl hst (.tmp 99) (.tmp 101) rfl ?_ ?_ (by have := HLA.out; omega) ?_)
                            · simp only [puts, Act.put, List.setIfInBounds_toArray, List.set_cons_zero, List.set_cons_succ]
                              rfl
                            · simp only [puts, Act.put, List.setIfInBounds_toArray, List.set_cons_zero, List.set_cons_succ]
                              exact hg5
                            · intro a2 c2 w'' hn
                              exact ⟨updF vs 17 (.slice a2 (A.st.length + 1) c2), by simp [puts, updF, Act.put], hN.op13 hl hr.1 hr.2.1 hg5 hn⟩
                          · obtain rfl := Option.some.inj ho
                            simp [readyF, Region.binds] at hr
                            have e7 := hN.c 7 _ hr.1 rfl
                            obtain ⟨a2, c2, e17⟩ := hN.s13 hr.2
                            refine wpOp_step rfl rfl (fun K hK => ?_)
                            simp only [puts, Act.put, List.setIfInBounds_toArray, List.set_cons_zero, List.set_cons_succ]
                            unfold Oper.wp
                            go_simp
                            refine hK _ _ ⟨updF vs 18 (.agg #[.bool true, .int .i64 (A.lg + x.L), vs 17]), ?_, hN.op14 hl hr.2⟩
                            simp [puts, updF, Act.put, e7, e17]
                          · obtain rfl := Option.some.inj ho
                            refine wpOp_step rfl rfl (fun K hK => ?_)
                            simp only [puts, Act.put, List.setIfInBounds_toArray, List.set_cons_zero, List.set_cons_succ]
                            unfold Oper.wp
                            go_simp
                            refine hK _ _ ⟨updF vs 19 _, ?_, hN.op15 hl⟩
                            simp [puts, updF, Act.put]
                          · obtain rfl := Option.some.inj ho
                            simp [readyF, Region.binds] at hr
                            have l18 : L 18 = true := by first | exact hr.1 | exact hr.2 | exact hr.2.1 | exact hr.2.2
                            have l19 : L 19 = true := by first | exact hr.1 | exact hr.2 | exact hr.2.1 | exact hr.2.2
                            obtain ⟨p, a2, c2, e19, e18, hbox, hfin⟩ := hN.own16 hl l18 l19
                            obtain ⟨k1, k2, k3, k4, k5, k6⟩ := hbox
                            refine wpOp_step rfl rfl (fun K hK => ?_)
                            simp only [puts, Act.put, List.setIfInBounds_toArray, List.set_cons_zero, List.set_cons_succ]
                            unfold Oper.wp
                            go_simp
                            refine hK _ _ ⟨vs, ?_, hfin⟩
                            simp [puts, updF, Act.put, e18, e19]
                        · intro L a' w' hall hI
                          have l0 := hall 0 _ rfl (by simp [readyF, Region.binds])
                          have l1 := hall 1 _ rfl (by simp [readyF, Region.binds])
                          have l2 := hall 2 _ rfl (by simp [readyF, Region.binds, l0, l1])
                          have l3 := hall 3 _ rfl (by simp [readyF, Region.binds, l2])
                          have l4 := hall 4 _ rfl (by simp [readyF, Region.binds, l3])
                          have l5 := hall 5 _ rfl (by simp [readyF, Region.binds])
                          have l6 := hall 6 _ rfl (by simp [readyF, Region.binds, l5])
                          have l7 := hall 7 _ rfl (by simp [readyF, Region.binds, l4, l6])
                          have l8 := hall 8 _ rfl (by simp [readyF, Region.binds])
                          have l9 := hall 9 _ rfl (by simp [readyF, Region.binds])
                          have l10 := hall 10 _ rfl (by simp [readyF, Region.binds])
                          have l11 := hall 11 _ rfl (by simp [readyF, Region.binds, l9, l10])
                          have l12 := hall 12 _ rfl (by simp [readyF, Region.binds, l11])
                          have l13 := hall 13 _ rfl (by simp [readyF, Region.binds, l12])
                          have l14 := hall 14 _ rfl (by simp [readyF, Region.binds, l8, l13])
                          have l15 := hall 15 _ rfl (by simp [readyF, Region.binds])
                          have l16 := hall 16 _ rfl (by simp [readyF, Region.binds, l15])
                          have l17 := hall 17 _ rfl (by simp [readyF, Region.binds, l14, l16])
                          have l18 := hall 18 _ rfl (by simp [readyF, Region.binds, l7, l17])
                          have l19 := hall 19 _ rfl (by simp [readyF, Region.binds])
                          have l20 := hall 20 _ rfl (by simp [readyF, Region.binds, l0, l1, l2, l3, l4, l5, l6, l7, l8, l9, l10, l11, l12, l13, l14, l15, l16, l17, l18, l19])
                          obtain ⟨vs, rfl, hN⟩ := hI
                          obtain ⟨p, a2, c2, e19, hf⟩ := hN.fin l20
                          subst ha0
                          simp only [puts, Act.put, List.setIfInBounds_toArray, List.set_cons_zero, List.set_cons_succ]
                          go_wp2_with fail
                          go_meet
                          exact ⟨p, a2, c2, e19, hf⟩
                      case rest =>
                        obtain ⟨p, a2, c2, rfl, n0, n1, n2, hown, hpb, hb2⟩ := hcut
                        clear e1
                        have m0 := ((bcell hb2).1 _ _ (lt_of_cell HMM.out.1)).trans HMM.out.1
                        have m1 := ((bcell hb2).1 _ _ (lt_of_cell HMM.out.2.1)).trans HMM.out.2.1
                        have hfar : ∀ ad, a2 = some ad → ad.block ≠ w1.heap.size := fun ad e => by
                          subst e
                          have h1 := (hown.blockL (b := ad.block) rfl).2
                          have h2 := HG2.out.lt
                          omega
                        have hpfar : w1.heap.size ≤ p := by have := HB2.out.size; omega
                        have hpne : p ≠ w1.heap.size := by have := HG2.out.lt; omega
                        obtain ⟨a3, c3, hv3, hi3, _⟩ := hown.ints
                        simp only [Value.slice.injEq] at hv3
                        obtain ⟨rfl, -, -⟩ := hv3
                        have HG4 := Lib.hid (HG2.out.below hb2)
                        have HB4 := Lib.hid (HB2.out.trans (hb2.mono HB2.out.size))
                        have HFAR := Lib.hid hfar; clear hfar
                        clear HG2 HB2 hb2 HMM HOO HST3 hown hpb
                        have e1 : IntKind.i64.wrap (x.A + x.B) = x.A + x.B := IntWalk.i64_in _ (by omega)
                        have e2 : IntKind.i64.wrap (x.A + x.B - (s : Int)) = (t : Int) := by rw [hsum]; exact IntWalk.i64_in _ (by omega)
                        have HSUM := Lib.hid hsum; clear hsum
                        go_upto_region 20 with (fail)
                        clear m0 m1 e1 e2
                        have y2 := HG4.out.c0 htS
                        have y3 := HG4.out.c1 htS
                        have y4 := HG4.out.c2 htS
                        have hstN := HG4.out.ints t htS
                        have q6 : (t : Int) < (S : Int) := by omega
                        obtain ⟨X, hXX⟩ : ∃ X, extC A i x.L = X := ⟨_, rfl⟩
                        have x1 : X.is = true := by rw [← hXX]; rfl
                        have x2 : X.lg = A.lg + x.L := by rw [← hXX]; rfl
                        have x3 : X.st = A.st ++ [(i : Int)] := by rw [← hXX]; rfl
                        have x4 : X.st.length = A.st.length + 1 := by rw [x3]; simp
                        rw [← x3] at hi3
                        rw [← x2] at n1
                        rw [← x4] at n2
                        have HXX := Lib.hid hXX; clear hXX
                        have hxl : X.st.length ≤ 100000 := by rw [x4]; have := HLA.out; omega
                        have hnl : (q t).st.length ≤ 100000 := by omega
                        have HSTX := Lib.hid hi3; clear hi3
                        have HSTN := Lib.hid hstN; clear hstN
                        have hbt0 := fun (W : World) (h : Below wc.heap.size wc W) => shorterR_any W X (q t) a2 (pa t) c2 (pc t) (HSTX.out.below h) (HSTN.out.below h) hxl hnl
                        simp only [x1] at hbt0
                        have HN4 := Lib.hid (And.intro n0 (And.intro n1 (And.intro n2 (And.intro y2 (And.intro y3 y4)))))
                        have x0' := fun (z : BW wc) => z.cell HN4.out.1
                        have x1' := fun (z : BW wc) => z.cell HN4.out.2.1
                        have x2' := fun (z : BW wc) => z.cell HN4.out.2.2.1
                        have x3' := fun (z : BW wc) => z.cell HN4.out.2.2.2.1
                        have x4' := fun (z : BW wc) => z.cell HN4.out.2.2.2.2.1
                        have x5' := fun (z : BW wc) => z.cell HN4.out.2.2.2.2.2
                        have X1' := Lib.hid x1
                        clear n0 n1 n2 y2 y3 y4 x1 x2 x3 x4
                        have HBT := Lib.hid hbt0; clear hbt0
                        cases hbt : shorterR X (q t)
                        · have HXX2 := Lib.hid (show WPass r f S u k s (i + 1) c q from HPA.out.stay HLD.out hsS htS HIS.out (by rw [HA.out, HXX.out]; exact hbt))
                          have HBT2 := Lib.hid (fun (z : BW wc) => Calls.bw (by have := HBT.out z.v z.h; rwa [hbt] at this)); clear hbt HBT
                          refine wp_region_below (by kernel_rfl) (by kernel_rfl) ?_
                          repeat (go_big_quiet_step ((go_at_call 105; exact HBT2.out _)))
                          refine wpQuiet_nil ?_
                          intro w5 hb5
                          have HB5 := Lib.hid hb5; clear hb5 x0' x1' x2' x3' x4' x5'
                          go_wp2_with fail
                          exact ⟨⟨i + 1, c, by omega, rfl, by go_num, ⟨q, pa, pc, HXX2.out, HG4.out.below HB5.out, HB4.out.trans (HB5.out.mono HB4.out.size)⟩⟩, by simp [intOf]; omega⟩
                        · have hps := WPass.take GG.out HS.out huS HPA.out HLD.out hsS htS HIS.out (by rw [HA.out, HXX.out]; exact hbt)
                          rw [HA.out, HXX.out] at hps
                          have HPS := Lib.hid hps; clear hps
                          have HBT2 := Lib.hid (fun (z : BW wc) => Calls.bw (by have := HBT.out z.v z.h; rwa [hbt] at this)); clear hbt HBT
                          refine wp_region_below (by kernel_rfl) (by kernel_rfl) ?_
                          repeat (go_big_quiet_step ((go_at_call 105; exact HBT2.out _)))
                          refine wpQuiet_nil ?_
                          intro w5 hb5
                          have n0 := ((bcell hb5).1 _ _ (lt_of_cell HN4.out.1)).trans HN4.out.1
                          have n1 := ((bcell hb5).1 _ _ (lt_of_cell HN4.out.2.1)).trans HN4.out.2.1
                          have n2 := ((bcell hb5).1 _ _ (lt_of_cell HN4.out.2.2.1)).trans HN4.out.2.2.1
                          have hg5 := HG4.out.below hb5
                          have HB5 := Lib.hid (HB4.out.trans (hb5.mono HB4.out.size))
                          have y2 := hg5.c0 htS
                          have y3 := hg5.c1 htS
                          have y4 := hg5.c2 htS
                          have z1 := hg5.free (t * 3)
                          have z2 := hg5.free (t * 3 + 1)
                          have z3 := hg5.free (t * 3 + 2)
                          have hset := hg5.set htS X a2 c2 (HSTX.out.below hb5) HFAR.out
                          rw [X1'.out] at hset
                          have HSET := Lib.hid hset; clear hset
                          have HBS := Lib.hid (((HB5.out.setCell (p := ⟨w1.heap.size, t * 3, none⟩) (Nat.le_refl _) (.bool true)).setCell (p := ⟨w1.heap.size, t * 3 + 1, none⟩) (Nat.le_refl _) (.int .i64 X.lg)).setCell (p := ⟨w1.heap.size, t * 3 + 2, none⟩) (Nat.le_refl _) (.slice a2 X.st.length c2))
                          clear hg5 hb5 x0' x1' x2' x3' x4' x5' HB5
                          go_wp2_with fail
                          exact ⟨⟨i + 1, true, by omega, rfl, by go_num, ⟨_, _, _, HPS.out, HSET.out, HBS.out⟩⟩, by simp [intOf]; omega⟩
                    · have HXX := Lib.hid (show WayIn r f S u w1 k s (i + 1) c wc from ⟨q, pa, pc, HPA.out.skip (fun x' t hl _ => by
                        have hx' := hl.at'
                        rw [HX.out] at hx'
                        obtain rfl := Option.some.inj hx'
                        exact hcb1 rfl t hl), HG2.out, HB2.out⟩)
                      clear hcb1 hcb2 HPA HG2 HB2 z0 z1 z2
                      go_wp2_with fail
                      exact ⟨⟨i + 1, c, by omega, rfl, by go_num, HXX.out⟩, by simp [intOf]; omega⟩
              · have q3 : ¬ (i : Int) < (N : Int) := by omega
                obtain rfl : i = N := by omega
                have HX := Lib.hid (HIN.out.nextS (by rw [HN.out]; omega) HN.out.symm); clear HIN
                go_wp2_with fail
                exact ⟨⟨s + 1, c, by omega, rfl, by go_num, HX.out⟩, by simp [intOf]; omega⟩
          · obtain rfl : s = S := by omega
            obtain ⟨n', hn, hx⟩ := HIN.out.done GG.out HS.out huS HGK.out.1 HGK.out.2
            have HX := Lib.hid hx; clear hx HIN
            go_wp2_with fail
            go_roundg n'
            case measure => exact hn
            case rel => exact ⟨c, rfl, HX.out⟩
  · have hne : (askedErr r f [fr, tt] [] != 0) = true := by simpa using hz
    have HV := Lib.hid (show wayV r f fr tt = ([], 0, askedErr r f [fr, tt] []) by rw [wayV, if_neg (by rw [HE.out]; exact hz), HE.out])
    have HZ := Lib.hid hz; clear hz
    clear y0 y1 y2 y3 y4
    go_wp2_with fail
    go_ret3
    rw [HV.out]
    exact ⟨none, 0, rfl, .inl rfl, HBW.out⟩
end Go.Proofs.Ytjgkgnfhglhklaa
