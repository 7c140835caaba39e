/- The contracts of slices.Clone at []int and []Strip. The contract of widened. -/
import Derived.Test.YtmkjeonjhedgkaaGreatDoorPlan
import Derived.Outline
namespace Go.Proofs.YtmkjeonjhedgkaaGreatDoor
set_option linter.unusedSimpArgs false
set_option linter.unusedVariables false
open Go.RowKit

/-- The cells of strips. -/
def Strip.cells (s : Strip) : List Value := [.int .i64 s.A, .int .i64 s.B, .int .i64 s.L, .int .i64 s.W, .int .i64 s.K, .int .i64 s.X, .int .i64 s.Y]
/-- A slice of strips of the call's own. -/
def OwnStrips (w : World) (B : Nat) (v : Value) (l : List Strip) : Prop := w.ownsRow B 63 7 v l.length (l.flatMap Strip.cells)

theorem cells_get : ∀ (l : List Strip) (i j : Nat) (hi : i < l.length), j < 7 → (l.flatMap Strip.cells)[i * 7 + j]? = (l[i].cells)[j]?
  | [], i, j, hi, _ => by simp at hi
  | s :: l, 0, j, hi, hj => by
    simp only [List.flatMap_cons, Nat.zero_mul, Nat.zero_add, List.getElem_cons_zero]
    rw [List.getElem?_append_left (by simpa [Strip.cells] using hj)]
  | s :: l, i + 1, j, hi, hj => by
    simp only [List.flatMap_cons, List.getElem_cons_succ]
    rw [List.getElem?_append_right (by simp [Strip.cells]; omega)]
    have := cells_get l i j (by simpa using hi) hj
    rw [← this]
    congr 1
    simp [Strip.cells]; omega
theorem cells_len (l : List Strip) : (l.flatMap Strip.cells).length = l.length * 7 := by
  induction l with
  | nil => rfl
  | cons s l ih => simp only [List.flatMap_cons, List.length_append, ih, List.length_cons]; simp [Strip.cells]; omega

set_option maxRecDepth 100000 in
set_option maxHeartbeats 4000000 in
theorem clone_ints_any (w : World) (b o cap : Nat) (l : List Int) (h : IntsAt w (some ⟨b, o, none⟩) l) (hlen : l.length ≤ 1000000) :
    Calls Tryz.prog 47 #[.slice (some ⟨b, o, none⟩) l.length cap] w fun e w' => ∃ v, e = .returned v ∧ OwnInts w' w.heap.size v l ∧ Below w.heap.size w w' := by
  have he : ∀ w : World, (binOp .eql 25 (.slice (some ⟨b, o, none⟩) l.length cap) (.slice none 0 0)).run Tryz.prog w = .ok (.bool false) w := fun _ => rfl
  obtain ⟨i0, hi, hz0, hz1, hz2⟩ := info_parts (P := Tryz.prog) (e := 3) (z := .int .i64 0) (size := 1) (bytes := 8) (by kernel_rfl)
  have HI := Lib.hid hi; have HZ := Lib.hid hz0; clear hi hz0
  go_enter Tryz.func47, Tryz.ntmps47
  go_wp2_with (at_builtin; refine wpList_append_own (w.alloc (.cells #[] 3)) rfl _ _ 25 rfl w.heap.size 3 i0 (.int .i64 0) 1 8 Tryz.underlying25 HI.out HZ.out hz1 hz2 rfl (by decide) (.slice (some ⟨w.heap.size, 0, none⟩) 0 0) 0 [] rfl ⟨rfl, .inr ⟨w.heap.size, 0, #[], rfl, Nat.le_refl _, heap_alloc_new w _, Nat.le_refl _, by unfold maxLen; omega, rfl, rfl⟩⟩ ⟨b, o, none⟩ l.length cap (l.map (Value.int .i64)) rfl (by simp) ?_ ?_ ?_ ?_ (by simp) ?_)
  · intro j u hj
    rw [List.getElem?_map] at hj
    cases hx : l[j]? with
    | none => simp [hx] at hj
    | some x =>
      simp [hx] at hj
      subst hj
      obtain ⟨hjl, rfl⟩ := List.getElem?_eq_some_iff.1 hx
      rcases h with h | ⟨b', o', e, h⟩
      · subst h; simp at hjl
      · simp only [Option.some.injEq, Addr.mk.injEq] at e
        obtain ⟨rfl, rfl, _⟩ := e
        have := h j hjl
        have hb := lt_of_cell this
        rw [show (⟨b, o, none⟩ : Addr).add j = ⟨b, o + j, none⟩ by simp [Addr.add]]
        rw [(bcell (Below.alloc (Below.refl _ _) (Nat.le_refl _) (.cells #[] 3))).1 _ _ hb]
        exact this
  · intro u hu; obtain ⟨x, _, rfl⟩ := List.mem_map.1 hu; rfl
  · unfold maxLen; omega
  · omega
  · intro v' w' h1 h2 _
    have hb : Below w.heap.size w w' := by
      refine Below.grown (Below.alloc (Below.refl _ _) (Nat.le_refl _) _) h2 (by simp) fun k hk => ?_
      simp [Value.ownBlock] at hk; omega
    go_wp2
    go_ret
    exact ⟨_, rfl, by unfold OwnInts; simpa using h1, hb⟩

set_option maxRecDepth 100000 in
set_option maxHeartbeats 4000000 in
theorem clone_strips_any (w : World) (ad : Addr) (cap : Nat) (l : List Strip) (h : StripsAt w (some ad) l) (hlen : l.length ≤ 1000000) :
    Calls Tryz.prog 75 #[.slice (some ad) l.length cap] w fun e w' => ∃ v, e = .returned v ∧ OwnStrips w' w.heap.size v l ∧ v ≠ .slice none 0 0 ∧ Below w.heap.size w w' := by
  have he : ∀ w : World, (binOp .eql 22 (.slice (some ad) l.length cap) (.slice none 0 0)).run Tryz.prog w = .ok (.bool false) w := fun _ => rfl
  obtain ⟨i0, hi, hz0, hz1, hz2⟩ := info_parts (P := Tryz.prog) (e := 63) (z := .agg #[.int .i64 0, .int .i64 0, .int .i64 0, .int .i64 0, .int .i64 0, .int .i64 0, .int .i64 0]) (size := 7) (bytes := 56) (by kernel_rfl)
  have HI := Lib.hid hi; have HZ := Lib.hid hz0; clear hi hz0
  go_enter Tryz.func75, Tryz.ntmps75
  go_wp2_with (at_builtin; refine wpList_append_own (w.alloc (.cells #[] 63)) rfl _ _ 22 rfl w.heap.size 63 i0 (.agg #[.int .i64 0, .int .i64 0, .int .i64 0, .int .i64 0, .int .i64 0, .int .i64 0, .int .i64 0]) 7 56 Tryz.underlying22 HI.out HZ.out hz1 hz2 (by simp [Value.cells]) (by decide) (.slice (some ⟨w.heap.size, 0, none⟩) 0 0) 0 [] rfl ⟨rfl, .inr ⟨w.heap.size, 0, #[], rfl, Nat.le_refl _, heap_alloc_new w _, Nat.le_refl _, by unfold maxLen; omega, rfl, rfl⟩⟩ ad l.length cap (l.flatMap Strip.cells) rfl (cells_len l) ?_ ?_ ?_ ?_ (by simp) ?_)
  · intro j u hj
    have hjl : j < (l.flatMap Strip.cells).length := (List.getElem?_eq_some_iff.1 hj).1
    rw [cells_len] at hjl
    have hi7 : j / 7 < l.length := by omega
    have hj7 : j % 7 < 7 := Nat.mod_lt _ (by omega)
    have e := cells_get l (j / 7) (j % 7) hi7 hj7
    rw [show j / 7 * 7 + j % 7 = j by omega, hj] at e
    rcases h with h | ⟨b', o', e', h⟩
    · subst h; simp at hi7
    · simp only [Option.some.injEq] at e'
      subst e'
      obtain ⟨s0, s1, s2, s3, s4, s5, s6⟩ := h (j / 7) hi7
      have hb := lt_of_cell s0
      rw [show (⟨b', o', none⟩ : Addr).add j = ⟨b', o' + j, none⟩ by simp [Addr.add]]
      rw [(bcell (Below.alloc (Below.refl _ _) (Nat.le_refl _) (.cells #[] 63))).1 _ _ hb]
      generalize hr : j % 7 = r at e hj7
      have hoj : o' + j = o' + j / 7 * 7 + r := by omega
      rw [hoj]
      obtain rfl | rfl | rfl | rfl | rfl | rfl | rfl : r = 0 ∨ r = 1 ∨ r = 2 ∨ r = 3 ∨ r = 4 ∨ r = 5 ∨ r = 6 := by omega
      all_goals simp only [Strip.cells, List.getElem?_cons_zero, List.getElem?_cons_succ, Option.some.injEq] at e
      all_goals subst e
      all_goals assumption
  · intro u hu
    obtain ⟨x, _, hx⟩ := List.mem_flatMap.1 hu
    simp only [Strip.cells, List.mem_cons, List.not_mem_nil, or_false] at hx
    rcases hx with rfl | rfl | rfl | rfl | rfl | rfl | rfl <;> rfl
  · unfold maxLen; omega
  · omega
  · intro v' w' h1 h2 h3
    have h3' : v' ≠ .slice none 0 0 := fun e => by simpa using h3 e
    clear h3
    have hb : Below w.heap.size w w' := by
      refine Below.grown (Below.alloc (Below.refl _ _) (Nat.le_refl _) _) h2 (by simp) fun k hk => ?_
      simp [Value.ownBlock] at hk; omega
    go_wp2
    go_ret
    exact ⟨_, rfl, by unfold OwnStrips; simpa using h1, h3', hb⟩
set_option maxRecDepth 100000 in
theorem clone_strips_none (w : World) (n cap : Nat) :
    Calls Tryz.prog 75 #[.slice none n cap] w fun e w' => e = .returned (.slice none 0 0) ∧ w = w' := by
  have he : ∀ w : World, (binOp .eql 22 (.slice none n cap) (.slice none 0 0)).run Tryz.prog w = .ok (.bool true) w := fun _ => rfl
  go_enter Tryz.func75, Tryz.ntmps75
  go_wp2_with fail
  go_ret
  exact ⟨rfl, rfl⟩
end Go.Proofs.YtmkjeonjhedgkaaGreatDoor

namespace Go.Proofs.YtmkjeonjhedgkaaGreatDoor
set_option linter.unusedSimpArgs false
set_option linter.unusedVariables false
open Go.RowKit

def wide (s : Strip) : Strip := { s with W := max s.W 90 }
/-- The strips, those of the list widened. -/
def widenS (ss : List Strip) : List Int → List Strip
  | [] => ss
  | i :: l => widenS (ss.modify i.toNat wide) l
def widenR (r : Roads) (l : List Int) : Roads := { r with strips := widenS r.strips l }
theorem widenS_len : ∀ (l : List Int) (ss : List Strip), (widenS ss l).length = ss.length
  | [], _ => rfl
  | i :: l, ss => by rw [widenS, widenS_len l, List.length_modify]
theorem widenS_append : ∀ (l m : List Int) (ss : List Strip), widenS ss (l ++ m) = widenS (widenS ss l) m
  | [], _, _ => rfl
  | i :: l, m, ss => by rw [List.cons_append, widenS, widenS, widenS_append l m]

/-- Strips in a block, cells not frozen. -/
structure StripsIn (w : World) (g : Nat) (l : List Strip) : Prop where
  at_ : ∀ (i : Nat) (h : i < l.length), StripAt w g (i * 7) l[i]
  free : ∀ o, w.frozen? ⟨g, o, none⟩ = false

theorem OwnStrips.into {w : World} {B : Nat} {v : Value} {l : List Strip} (h : OwnStrips w B v l) (hn : v ≠ .slice none 0 0) : ∃ g cap, v = .slice (some ⟨g, 0, none⟩) l.length cap ∧ B ≤ g ∧ g < w.heap.size ∧ StripsIn w g l := by
  obtain ⟨h1, h2⟩ := h
  rcases h2 with ⟨hv, _⟩ | ⟨g, cap, cur, hv, hg, hh, hc, hm, hs, ht⟩
  · exact absurd hv hn
  · refine ⟨g, cap, hv, hg, (Array.getElem?_eq_some_iff.1 hh).1, ⟨fun i hi => ?_, fun o => by simp [World.frozen?, hh]⟩⟩
    have key : ∀ j, j < 7 → cur[i * 7 + j]? = (l[i].cells)[j]? := by
      intro j hj
      rw [← cells_get l i j hi hj, ← Array.getElem?_toList]
      have : (cur.toList.take (l.length * 7))[i * 7 + j]? = cur.toList[i * 7 + j]? := by rw [List.getElem?_take, if_pos (by omega)]
      rw [← this, ht]
    exact ⟨by simpa [World.cell?, hh, Strip.cells] using key 0 (by omega), by simpa [World.cell?, hh, Strip.cells] using key 1 (by omega), by simpa [World.cell?, hh, Strip.cells] using key 2 (by omega),
      by simpa [World.cell?, hh, Strip.cells] using key 3 (by omega), by simpa [World.cell?, hh, Strip.cells] using key 4 (by omega), by simpa [World.cell?, hh, Strip.cells] using key 5 (by omega), by simpa [World.cell?, hh, Strip.cells] using key 6 (by omega)⟩

theorem StripsIn.setW {w : World} {g : Nat} {l : List Strip} (h : StripsIn w g l) {k : Nat} (hk : k < l.length) : StripsIn (w.setCell ⟨g, k * 7 + 3, none⟩ (.int .i64 (max l[k].W 90))) g (l.modify k wide) := by
  have other : ∀ o, o ≠ k * 7 + 3 → (w.setCell ⟨g, k * 7 + 3, none⟩ (.int .i64 (max l[k].W 90))).cell? ⟨g, o, none⟩ = w.cell? ⟨g, o, none⟩ := fun o ho =>
    World.cell?_setCell_other w _ _ _ (fun e => by first | (simp at e; done) | (simp at e; omega))
  refine ⟨fun i hi => ?_, fun o => by rw [World.frozen?_setCell]; exact h.free o⟩
  rw [List.length_modify] at hi
  obtain ⟨s0, s1, s2, s3, s4, s5, s6⟩ := h.at_ i hi
  by_cases e : k = i
  · subst e
    rw [List.getElem_modify_eq]
    exact ⟨(other _ (by omega)).trans s0, (other _ (by omega)).trans s1, (other _ (by omega)).trans s2, World.cell?_setCell_same w _ _ s3, (other _ (by omega)).trans s4, (other _ (by omega)).trans s5, (other _ (by omega)).trans s6⟩
  · rw [List.getElem_modify, if_neg e]
    exact ⟨(other _ (by omega)).trans s0, (other _ (by omega)).trans s1, (other _ (by omega)).trans s2, (other _ (by omega)).trans s3, (other _ (by omega)).trans s4, (other _ (by omega)).trans s5, (other _ (by omega)).trans s6⟩
theorem StripsIn.below {w w' : World} {g : Nat} {l : List Strip} (h : StripsIn w g l) (hb : Below w.heap.size w w') (hg : g < w.heap.size) : StripsIn w' g l :=
  ⟨fun i hi => (h.at_ i hi).keep fun _ => (bcell hb).1 _ _ hg, fun o => ((bcell hb).2 _ _ hg).trans (h.free o)⟩

theorem Ext.cell_ne {m : Nat} {w w' : World} (h : Ext m w w') {b o : Nat} {v : Value} (hc : w.cell? ⟨b, o, none⟩ = some v) (hb : b ≠ m) : w'.cell? ⟨b, o, none⟩ = some v :=
  (World.cell?_of_block (h.block b (lt_of_cell hc) hb)).trans hc

set_option maxRecDepth 100000 in
set_option maxHeartbeats 4000000 in
theorem widened_any (w : World) (b : Nat) (r : Roads) (f : Flock) (shut : Int) (a : Option Addr) (cap : Nat) (hW : WorkAt w b r f shut a cap) (hlen : r.strips.length ≤ 1000000)
    (sa : Option Addr) (sc : Nat) (l : List Int) (hl : IntsAt w sa l) (hx : ∀ x ∈ l, 0 ≤ x ∧ x < r.strips.length) (hll : l.length ≤ 1000000) :
    Calls Tryz.prog 45 #[.pointer (some ⟨b, 0, none⟩), .slice sa l.length sc] w
      fun e w' => ∃ b' a' cap', e = .returned (.pointer (some ⟨b', 0, none⟩)) ∧ WorkAt w' b' (widenR r l) f shut a' cap' ∧ Below w.heap.size w w' := by
  obtain ⟨c0, c1, c2, c3, c4, c5, cs⟩ := hW
  have hbl := lt_of_cell c0
  go_enter Tryz.func45, Tryz.ntmps45
  go_wp2_with fail
  have hb0 : Below w.heap.size w (w.alloc (.cells #[.int .i64 r.days, .int .i64 r.stages, .slice a r.strips.length cap, .int .i64 f.heads, .int .i64 f.pace, .int .i64 shut] 124)) := Below.alloc (Below.refl _ _) (Nat.le_refl _) _
  have hl0 := hl.below hb0
  have Hl := Lib.hid hl; clear hl
  have Hx := Lib.hid hx; clear hx
  cases a with
  | none =>
    have hr : r.strips = [] := by rcases cs with h | ⟨_, _, h, _⟩; exact h; simp at h
    have hn : l = [] := by
      cases l with
      | nil => rfl
      | cons x l => have := Hx.out x (by simp); rw [hr] at this; simp at this; omega
    refine (clone_strips_none _ _ _).mono ?_
    rintro e w' ⟨rfl, rfl⟩
    subst hn
    have Hr := Lib.hid hr; clear hr cs
    go_wp2_with fail
    go_loopw [21] (fun v21 wx => v21 = .int .i64 0 ∧ wx = _) (fun _ _ => 0)
    case atStart => exact ⟨rfl, rfl⟩
    case round =>
      obtain ⟨rfl, rfl⟩ := hrel
      go_wp2_with fail
      go_ret
      refine ⟨_, none, 0, rfl, ⟨by simp [go_sem, widenR], by simp [go_sem, widenR], by simp [go_sem, widenR, widenS, Hr.out], by simp [go_sem], by simp [go_sem], by simp [go_sem], .inl (by simp [widenR, widenS, Hr.out])⟩, ?_⟩
      exact Below.alloc (Below.refl _ _) (Nat.le_refl _) _
  | some ad =>
    refine (clone_strips_any _ ad cap r.strips (cs.below hb0) hlen).mono ?_
    rintro e w1 ⟨v, rfl, hown, hn, hb1⟩
    obtain ⟨g, cp, hv, hg1, hg2, hin⟩ := hown.into hn
    rw [hv]
    clear hown hn hv
    simp only [World.size_alloc] at hg1 hb1
    have hc1 := (bcell (W := w.alloc (.cells #[.int .i64 r.days, .int .i64 r.stages, .slice (some ad) r.strips.length cap, .int .i64 f.heads, .int .i64 f.pace, .int .i64 shut] 124)) (by simpa using hb1)).1
    have hf1 := (bcell (W := w.alloc (.cells #[.int .i64 r.days, .int .i64 r.stages, .slice (some ad) r.strips.length cap, .int .i64 f.heads, .int .i64 f.pace, .int .i64 shut] 124)) (by simpa using hb1)).2
    have e0 : w1.cell? ⟨w.heap.size, 0, none⟩ = some (.int .i64 r.days) := by rw [hc1 _ _ (by simp)]; simp [go_sem]
    have e1 : w1.cell? ⟨w.heap.size, 1, none⟩ = some (.int .i64 r.stages) := by rw [hc1 _ _ (by simp)]; simp [go_sem]
    have e2 : w1.cell? ⟨w.heap.size, 2, none⟩ = some (.slice (some ad) r.strips.length cap) := by rw [hc1 _ _ (by simp)]; simp [go_sem]
    have e3 : w1.cell? ⟨w.heap.size, 3, none⟩ = some (.int .i64 f.heads) := by rw [hc1 _ _ (by simp)]; simp [go_sem]
    have e4 : w1.cell? ⟨w.heap.size, 4, none⟩ = some (.int .i64 f.pace) := by rw [hc1 _ _ (by simp)]; simp [go_sem]
    have e5 : w1.cell? ⟨w.heap.size, 5, none⟩ = some (.int .i64 shut) := by rw [hc1 _ _ (by simp)]; simp [go_sem]
    have x2 : w1.frozen? ⟨w.heap.size, 2, none⟩ = false := by rw [hf1 _ _ (by simp)]; simp [go_sem]
    clear hc1 hf1 c0 c1 c2 c3 c4 c5 cs
    have hb01 : Below w.heap.size w w1 := hb0.trans (hb1.mono (by omega))
    have Hl1 := Lib.hid (Hl.out.below hb01)
    go_wp2_with fail
    generalize hwL : w1.setCell ⟨w.heap.size, 2, none⟩ (.slice (some ⟨g, 0, none⟩) r.strips.length cp) = wL
    have a0 : wL.cell? ⟨w.heap.size, 0, none⟩ = some (.int .i64 r.days) := by rw [← hwL, World.cell?_setCell_other _ _ _ _ (by simp)]; exact e0
    have a1 : wL.cell? ⟨w.heap.size, 1, none⟩ = some (.int .i64 r.stages) := by rw [← hwL, World.cell?_setCell_other _ _ _ _ (by simp)]; exact e1
    have a2 : wL.cell? ⟨w.heap.size, 2, none⟩ = some (.slice (some ⟨g, 0, none⟩) r.strips.length cp) := by rw [← hwL]; exact World.cell?_setCell_same _ _ _ e2
    have a3 : wL.cell? ⟨w.heap.size, 3, none⟩ = some (.int .i64 f.heads) := by rw [← hwL, World.cell?_setCell_other _ _ _ _ (by simp)]; exact e3
    have a4 : wL.cell? ⟨w.heap.size, 4, none⟩ = some (.int .i64 f.pace) := by rw [← hwL, World.cell?_setCell_other _ _ _ _ (by simp)]; exact e4
    have a5 : wL.cell? ⟨w.heap.size, 5, none⟩ = some (.int .i64 shut) := by rw [← hwL, World.cell?_setCell_other _ _ _ _ (by simp)]; exact e5
    have hsz : wL.heap.size = w1.heap.size := by rw [← hwL]; simp
    have hinL : StripsIn wL g r.strips := by
      have h1 : ∀ o, wL.cell? ⟨g, o, none⟩ = w1.cell? ⟨g, o, none⟩ := fun o => by rw [← hwL, World.cell?_setCell_other _ _ _ _ (fun e => by simp only [Addr.mk.injEq] at e; omega)]
      exact ⟨fun i hi => (hin.at_ i hi).keep fun _ => h1 _, fun o => by rw [← hwL, World.frozen?_setCell]; exact hin.free o⟩
    have hbL : Below w.heap.size w wL := by rw [← hwL]; exact hb01.setCell (p := ⟨w.heap.size, 2, none⟩) (Nat.le_refl _) _
    clear e0 e1 e2 e3 e4 e5 x2 hin hwL hb0 hb1 hl0
    have hgl : g < wL.heap.size := by omega
    have HinL := Lib.hid hinL; clear hinL
    have HbL := Lib.hid hbL; clear hbL
    have Hsz := Lib.hid hsz; clear hsz
    have HlL := Lib.hid (Hl.out.below HbL.out)
    go_loopw [21] (fun v21 wx => ∃ k : Nat, k ≤ l.length ∧ v21 = .int .i64 k ∧ StripsIn wx g (widenS r.strips (l.take k)) ∧ Ext g wL wx) (fun v _ => l.length - (intOf v).toNat)
    case atStart => exact ⟨0, Nat.zero_le _, rfl, by simpa [widenS] using HinL.out, Ext.refl _ _⟩
    case round =>
      obtain ⟨k, hk, rfl, hin, hE⟩ := hrel
      have Hin := Lib.hid hin; clear hin
      have q2 := hE.cell_ne a2 (by omega)
      have hE' := Lib.hid hE; clear hE
      by_cases hlt : k < l.length
      · rcases Hl.out with hx | ⟨sb, so, hsa, hc⟩
        · rw [hx] at hlt; simp at hlt
        have hck := hc k hlt
        have hsb := lt_of_cell hck
        have q3 := hE'.out.cell_ne (((bcell HbL.out).1 _ _ hsb).trans hck) (by omega)
        have hx := Hx.out _ (List.getElem_mem hlt)
        have htk : l.take (k + 1) = l.take k ++ [l[k]] := List.take_succ_eq_append_getElem hlt
        generalize hlk : l[k] = x at q3 hx htk
        obtain ⟨j, hj⟩ := Int.eq_ofNat_of_zero_le hx.1
        subst hj
        have hwt : widenS r.strips (l.take (k + 1)) = (widenS r.strips (l.take k)).modify j wide := by rw [htk, widenS_append]; rfl
        clear hlk hc hck htk
        have hjl : j < r.strips.length := by omega
        generalize hL : widenS r.strips (l.take k) = L at Hin hwt
        have hLl : L.length = r.strips.length := by rw [← hL]; exact widenS_len _ _
        have hjL : j < L.length := by omega
        have Hwt := Lib.hid hwt; clear hwt hL
        have HLl := Lib.hid hLl; clear hLl
        have hw3 := (Hin.out.at_ j hjL).c3
        have hfr := Hin.out.free (j * 7 + 3)
        have hset := Hin.out.setW hjL
        generalize hst : L[j] = s at hw3 hset
        have Hst := Lib.hid hst; clear hst
        have Hset := Lib.hid hset; clear hset
        subst hsa
        go_wp2_with fail
        go_region
        go_wp2_with fail
        refine ⟨⟨k + 1, by omega, by go_num, ?_, ?_⟩, by simp [intOf]; omega⟩
        · rw [Hwt.out, show (if s.W < 90 then 90 else s.W) = max s.W 90 by split <;> omega]
          exact ⟨fun i hi => (Hset.out.at_ i hi).keep fun _ => rfl, fun o => Hset.out.free o⟩
        · refine ⟨hE'.out.os, hE'.out.tape, hE'.out.output, by have := hE'.out.size; simpa using this, fun i hi hne => ?_⟩
          exact (Below.heap_setCell wr ⟨g, j * 7 + 3, none⟩ _ i hne).trans (hE'.out.block i hi hne)
      · go_wp2_with fail
        go_ret
        have hkl : k = l.length := by omega
        subst hkl
        rw [List.take_length] at Hin
        have hE := hE'.out
        refine ⟨_, _, cp, rfl, ⟨hE.cell_ne a0 (by omega), hE.cell_ne a1 (by omega), ?_, hE.cell_ne a3 (by omega), hE.cell_ne a4 (by omega), hE.cell_ne a5 (by omega), .inr ⟨g, 0, rfl, fun i hi => ?_⟩⟩, hE.below HbL.out (by omega) (by have := HbL.out.size; omega)⟩
        · show wr.cell? _ = some (.slice _ (widenS r.strips l).length cp)
          rw [widenS_len]; exact q2
        · rw [Nat.zero_add]; exact Hin.out.at_ i hi
end Go.Proofs.YtmkjeonjhedgkaaGreatDoor
