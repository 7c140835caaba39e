/- Rows of walks of the reference, and mestaref02.Begin. -/
import Derived.Test.YtjgkgnfhglhklaaBetter
import Derived.Test.YtjgkgnfhglhklaaGrid
namespace Go.Proofs.Ytjgkgnfhglhklaa
set_option linter.unusedSimpArgs false
set_option linter.unusedVariables false
open Go.RowKit

/-- make of a slice whose elements take several cells, of variable size. -/
theorem run_make_wide {P : Program} (t e : TypeId) (z : Value) (size bytes : Nat) (ht : P.underlying t = some (.slice e)) (hinfo : (P.info? e).map (fun i => (i.zero, i.size, i.bytes)) = some (some z, size, bytes))
    (kl kc : IntKind) (n : Nat) (hbytes : bytes * n ≤ 281474976710656) (h63 : n ≤ 9223372036854775807) (w : World) :
    (Instr.makeSlice t (.int kl (n : Int)) (.int kc (n : Int))).run P w = .ok (.slice (some ⟨w.heap.size, 0, none⟩) n n) (w.alloc (.cells (madeCells z.cells (n * size)) e)) := by
  obtain ⟨i, hi, hzz⟩ := Option.map_eq_some_iff.1 hinfo
  simp only [Prod.mk.injEq] at hzz
  obtain ⟨hz, hs, hb⟩ := hzz
  have hb' : (i.bytes : Int) * (n : Int) ≤ 281474976710656 := by
    have h : ((i.bytes * n : Nat) : Int) ≤ 281474976710656 := by rw [hb]; omega
    rwa [Int.natCast_mul] at h
  have hr := run_make (P := P) w t e i z ht hi hz kl kc n n (by omega) (Int.le_refl _) hb' (by omega)
  simp only [Int.toNat_natCast, hs] at hr
  exact hr
theorem info_walk : (Try.prog.info? 104).map (fun i => (i.zero, i.size, i.bytes)) = some (some (.agg #[.bool false, .int .i64 0, .slice none 0 0]), 3, 40) := by kernel_rfl

/-- Cell j of a row of walks. -/
def wcell (q : Nat → WalkV) (pa : Nat → Option Addr) (pc : Nat → Nat) (j : Nat) : Value := if j % 3 = 0 then .bool (q (j / 3)).is else if j % 3 = 1 then .int .i64 (q (j / 3)).lg else .slice (pa (j / 3)) (q (j / 3)).pl.length (pc (j / 3))
/-- A row of walks that a call made. -/
structure WRow (w : World) (g S : Nat) (q : Nat → WalkV) (pa : Nat → Option Addr) (pc : Nat → Nat) : Prop where
  row : w.heap[g]? = some (.cells (tab (S * 3) (wcell q pa pc)) 104 (0, 0))
  plans : ∀ s, s < S → StridesAt w (pa s) (q s).pl
theorem WRow.lt {w : World} {g S : Nat} {q : Nat → WalkV} {pa : Nat → Option Addr} {pc : Nat → Nat} (h : WRow w g S q pa pc) : g < w.heap.size := (Array.getElem?_eq_some_iff.1 h.row).1
theorem WRow.below {w w' : World} {g S : Nat} {q : Nat → WalkV} {pa : Nat → Option Addr} {pc : Nat → Nat} (h : WRow w g S q pa pc) (hb : Below w.heap.size w w') : WRow w' g S q pa pc :=
  ⟨(hb.block g h.lt).trans h.row, fun s hs => (h.plans s hs).below hb⟩
theorem WRow.c0 {w : World} {g S : Nat} {q : Nat → WalkV} {pa : Nat → Option Addr} {pc : Nat → Nat} (h : WRow w g S q pa pc) {s : Nat} (hs : s < S) : w.cell? ⟨g, s * 3, none⟩ = some (.bool (q s).is) := by
  rw [cell_tab h.row (show s * 3 < S * 3 by omega)]
  unfold wcell
  rw [if_pos (by omega), show s * 3 / 3 = s by omega]
theorem WRow.c1 {w : World} {g S : Nat} {q : Nat → WalkV} {pa : Nat → Option Addr} {pc : Nat → Nat} (h : WRow w g S q pa pc) {s : Nat} (hs : s < S) : w.cell? ⟨g, s * 3 + 1, none⟩ = some (.int .i64 (q s).lg) := by
  rw [cell_tab h.row (show s * 3 + 1 < S * 3 by omega)]
  unfold wcell
  rw [if_neg (by omega), if_pos (by omega), show (s * 3 + 1) / 3 = s by omega]
theorem WRow.c2 {w : World} {g S : Nat} {q : Nat → WalkV} {pa : Nat → Option Addr} {pc : Nat → Nat} (h : WRow w g S q pa pc) {s : Nat} (hs : s < S) : w.cell? ⟨g, s * 3 + 2, none⟩ = some (.slice (pa s) (q s).pl.length (pc s)) := by
  rw [cell_tab h.row (show s * 3 + 2 < S * 3 by omega)]
  unfold wcell
  rw [if_neg (by omega), if_neg (by omega), show (s * 3 + 2) / 3 = s by omega]
theorem WRow.free {w : World} {g S : Nat} {q : Nat → WalkV} {pa : Nat → Option Addr} {pc : Nat → Nat} (h : WRow w g S q pa pc) (j : Nat) : w.frozen? ⟨g, j, none⟩ = false := free_tab h.row j
/-- What make lays: no walks. -/
theorem WRow.made (w : World) (S : Nat) : WRow (w.alloc (.cells (madeCells #[.bool false, .int .i64 0, .slice none 0 0] (S * 3)) 104)) w.heap.size S (fun _ => ⟨false, 0, []⟩) (fun _ => none) (fun _ => 0) := by
  refine ⟨?_, fun s _ => .inl rfl⟩
  rw [heap_alloc_new]
  congr 2
  apply Array.ext_getElem?
  intro j
  rw [tab_get]
  by_cases hj : j < S * 3
  · rw [if_pos hj]
    simp only [madeCells, Array.getElem?_map, Array.getElem?_range, hj, if_true, Option.map_some]
    have h3 : j % 3 = 0 ∨ j % 3 = 1 ∨ j % 3 = 2 := by omega
    rcases h3 with h | h | h <;> simp [wcell, h]
  · rw [if_neg hj]
    simp [madeCells, hj]

set_option maxRecDepth 100000 in
set_option maxHeartbeats 4000000 in
theorem Begin_any (w : World) (D : Int) (a : Option Addr) (n cap S fr : Nat) (hS : S ≤ 1000) (hfr : fr < S) :
    Calls Try.prog 101 #[.agg #[.int .i64 D, .int .i64 (S : Int), .slice a n cap], .int .i64 (fr : Int)] w
      fun e w' => ∃ g pa pc, e = .returned (.slice (some ⟨g, 0, none⟩) S S) ∧ WRow w' g S (fun s => ⟨decide (s = fr), 0, []⟩) pa pc ∧ w.heap.size ≤ g ∧ Below w.heap.size w w' := by
  have hb0 : Below w.heap.size w (w.alloc (.cells #[.int .i64 D, .int .i64 (S : Int), .slice a n cap] 24)) := (Below.refl _ _).alloc (Nat.le_refl _) _
  have x1 : (w.alloc (.cells #[.int .i64 D, .int .i64 (S : Int), .slice a n cap] 24)).cell? ⟨w.heap.size, 1, none⟩ = some (.int .i64 (S : Int)) := by simp [go_sem]
  have hmk := run_make_wide (P := Try.prog) 100 104 (.agg #[.bool false, .int .i64 0, .slice none 0 0]) 3 40 Try.underlying100 info_walk .i64 .i64 S (by omega) (by omega)
  have hzc : (Value.agg #[.bool false, .int .i64 0, .slice none 0 0]).cells = #[.bool false, .int .i64 0, .slice none 0 0] := rfl
  rw [hzc] at hmk
  clear hzc
  go_enter Try.func101, Try.ntmps101
  go_upto_region 1 with (fail)
  generalize (w.alloc (.cells #[.int .i64 D, .int .i64 (S : Int), .slice a n cap] 24)) = W0 at hb0 x1 ⊢
  have HB0 := Lib.hid hb0; clear hb0
  go_upto_region 2 with (fail)
  clear hmk x1
  have hrow := WRow.made W0 S
  have hbm : Below W0.heap.size W0 (W0.alloc (.cells (madeCells #[.bool false, .int .i64 0, .slice none 0 0] (S * 3)) 104)) := (Below.refl _ _).alloc (Nat.le_refl _) _
  generalize (W0.alloc (.cells (madeCells #[.bool false, .int .i64 0, .slice none 0 0] (S * 3)) 104)) = W1 at hrow hbm ⊢
  have y0 := hrow.c0 hfr
  have y1 := hrow.free (fr * 3)
  have q1 : (fr : Int) < (S : Int) := by omega
  have HROW := Lib.hid hrow; clear hrow
  have HBM := Lib.hid hbm; clear hbm
  have HLE := Lib.hid HB0.out.size
  go_wp2_with fail
  go_ret
  refine ⟨_, rfl, ⟨fun _ => none, fun _ => 0, ?_, fun s _ => .inl rfl⟩, HLE.out, (HB0.out.trans (HBM.out.mono HLE.out)).setCell (p := ⟨W0.heap.size, fr * 3, none⟩) HLE.out _⟩
  rw [set_tab HROW.out.row]
  congr 2
  exact tab_congr fun j hj => by
    by_cases e : j = fr * 3
    · subst e
      rw [if_pos rfl]
      unfold wcell
      rw [if_pos (by omega)]
      simp
    · rw [if_neg e]
      unfold wcell
      by_cases e0 : j % 3 = 0
      · rw [if_pos e0, if_pos e0]; dsimp only; rw [decide_eq_false (by omega)]
      · rw [if_neg e0, if_neg e0]
end Go.Proofs.Ytjgkgnfhglhklaa
