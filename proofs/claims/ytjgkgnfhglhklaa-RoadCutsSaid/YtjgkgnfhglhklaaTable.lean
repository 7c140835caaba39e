/- The contract of mestalaw02.table. -/
import Derived.Test.YtjgkgnfhglhklaaGrid
import Derived.Outline
namespace Go.Proofs.Ytjgkgnfhglhklaa
set_option linter.unusedSimpArgs false
set_option linter.unusedVariables false
open Go.RowKit

/-- The table while strip i is looked at, up to the k-th of its days. -/
def tabV (r : Roads) (f : Flock) (i : Nat) (l : List Int) (k d j : Nat) : Value := .bool ((decide (j < i) && openB r f (-1) j (d : Int)) || (decide (j = i) && (l.take k).contains (d : Int)))
theorem tabV_set {r : Roads} {f : Flock} {i k : Nat} {l : List Int} (h : k < l.length) {x : Nat} (hx : l[k] = (x : Int)) (d j : Nat) : (if d = x ∧ j = i then Value.bool true else tabV r f i l k d j) = tabV r f i l (k + 1) d j := by
  unfold tabV
  rw [List.take_succ_eq_append_getElem h, hx]
  by_cases e : d = x ∧ j = i
  · rw [if_pos e]; simp [e.1, e.2]
  · rw [if_neg e]
    by_cases ej : j = i
    · have ed : ¬ d = x := fun h => e ⟨h, ej⟩
      simp [ej, ed]
      intro h; exact absurd (by omega) ed
    · simp [ej]
theorem tabV_next {r : Roads} {f : Flock} {i D : Nat} (hD : r.days.toNat = D) (d j : Nat) (hd : d < D) : tabV r f i (daysTo r f i r.days.toNat) (daysTo r f i r.days.toNat).length d j = tabV r f (i + 1) [] 0 d j := by
  unfold tabV
  rw [List.take_length]
  by_cases ej : j = i
  · subst ej
    have : decide ((d : Int) ∈ daysTo r f j r.days.toNat) = openB r f (-1) j (d : Int) := by
      rw [Bool.eq_iff_iff, decide_eq_true_eq, daysTo_mem]
      constructor
      · rintro ⟨x, _, h2, h3⟩
        obtain rfl : d = x := by omega
        exact h3
      · intro h; exact ⟨d, by omega, rfl, h⟩
    simp [this]
  · have : decide (j < i + 1) = decide (j < i) := by rw [decide_eq_decide]; omega
    simp [ej, this]

set_option maxRecDepth 100000 in
set_option maxHeartbeats 4000000 in
theorem table_any (w : World) {r : Roads} {f : Flock} (g : Good r f) (a : Option Addr) (cap D : Nat) (hD : r.days = (D : Int)) (hs : StripsAt w a r.strips) :
    Calls Try.prog 46 #[.agg #[.int .i64 (D : Int), .int .i64 r.stages, .slice a r.strips.length cap], .agg #[.int .i64 f.heads, .int .i64 f.pace]] w
      fun e w' => ∃ G gb, e = .returned (.tuple #[.slice (some ⟨G, 0, none⟩) D D, .bool true]) ∧ Grid w' w.heap.size G 70 4 D D r.strips.length gb (fun d i => .bool (openB r f (-1) i (d : Int))) ∧ Below w.heap.size w w' := by
  have hD10 : D ≤ 10 := by have := g.d2; omega
  have hn8 := g.n8
  have hb0 : Below w.heap.size w ((w.alloc (.cells #[.int .i64 (D : Int), .int .i64 r.stages, .slice a r.strips.length cap] 24)).alloc (.cells #[.int .i64 f.heads, .int .i64 f.pace] 26)) := ((Below.refl _ _).alloc (Nat.le_refl _) _).alloc (by simp) _
  have hs0 : ((w.alloc (.cells #[.int .i64 (D : Int), .int .i64 r.stages, .slice a r.strips.length cap] 24)).alloc (.cells #[.int .i64 f.heads, .int .i64 f.pace] 26)).heap.size = w.heap.size + 2 := by simp
  have x0 : ((w.alloc (.cells #[.int .i64 (D : Int), .int .i64 r.stages, .slice a r.strips.length cap] 24)).alloc (.cells #[.int .i64 f.heads, .int .i64 f.pace] 26)).cell? ⟨w.heap.size, 0, none⟩ = some (.int .i64 (D : Int)) := by simp [go_sem]
  have x1 : ((w.alloc (.cells #[.int .i64 (D : Int), .int .i64 r.stages, .slice a r.strips.length cap] 24)).alloc (.cells #[.int .i64 f.heads, .int .i64 f.pace] 26)).cell? ⟨w.heap.size, 1, none⟩ = some (.int .i64 r.stages) := by simp [go_sem]
  have x2 : ((w.alloc (.cells #[.int .i64 (D : Int), .int .i64 r.stages, .slice a r.strips.length cap] 24)).alloc (.cells #[.int .i64 f.heads, .int .i64 f.pace] 26)).cell? ⟨w.heap.size, 2, none⟩ = some (.slice a r.strips.length cap) := by simp [go_sem]
  have x3 : ((w.alloc (.cells #[.int .i64 (D : Int), .int .i64 r.stages, .slice a r.strips.length cap] 24)).alloc (.cells #[.int .i64 f.heads, .int .i64 f.pace] 26)).cell? ⟨w.heap.size + 1, 0, none⟩ = some (.int .i64 f.heads) := by simp [go_sem]
  have x4 : ((w.alloc (.cells #[.int .i64 (D : Int), .int .i64 r.stages, .slice a r.strips.length cap] 24)).alloc (.cells #[.int .i64 f.heads, .int .i64 f.pace] 26)).cell? ⟨w.heap.size + 1, 1, none⟩ = some (.int .i64 f.pace) := by simp [go_sem]
  have hmk := run_make_row' (P := Try.prog) 66 70 (.slice none 0 0) 24 Try.underlying66 info_bools rfl .i64 .i64 D (by omega) (by omega)
  have hst := hs.below hb0
  have HD := Lib.hid hD; clear hD
  have G := Lib.hid g; clear g hs
  go_enter Try.func46, Try.ntmps46
  go_wp2_with fail
  clear hmk
  generalize ((w.alloc (.cells #[.int .i64 (D : Int), .int .i64 r.stages, .slice a r.strips.length cap] 24)).alloc (.cells #[.int .i64 f.heads, .int .i64 f.pace] 26)) = W0 at hb0 hs0 x0 x1 x2 x3 x4 hst ⊢
  have hbm : Below W0.heap.size W0 (W0.alloc (.cells (madeCells #[.slice none 0 0] D) 70)) := Below.alloc (Below.refl _ _) (Nat.le_refl _) _
  have hg0 := grid_new W0 W0.heap.size (Nat.le_refl _) 70 4 D r.strips.length (fun _ => 0) (fun _ _ => .bool false)
  rw [hs0] at hbm hg0
  have HS0 := Lib.hid hs0; clear hs0
  have X0 := Lib.hid x0; clear x0
  have X1 := Lib.hid x1; clear x1
  have X2 := Lib.hid x2; clear x2
  have X3 := Lib.hid x3; clear x3
  have X4 := Lib.hid x4; clear x4
  have HST := Lib.hid hst; clear hst
  have HB0 := Lib.hid hb0; clear hb0
  have HG0 := Lib.hid hg0; clear hg0
  go_loopw [7] (fun v7 wx => ∃ m : Nat, m ≤ D ∧ v7 = .int .i64 (m : Int) ∧ (∃ gb, Grid wx (w.heap.size + 2) (w.heap.size + 2) 70 4 D m r.strips.length gb (fun _ _ => .bool false)) ∧ Below (w.heap.size + 2) W0 wx) (fun v _ => D - (intOf v).toNat)
  case atStart => exact ⟨0, Nat.zero_le _, rfl, ⟨_, HG0.out⟩, hbm⟩
  case round =>
    clear hbm HG0
    obtain ⟨m, hm, rfl, ⟨gb, hg⟩, hbr⟩ := hrel
    have back : ∀ {b o : Nat} {v : Value}, W0.cell? ⟨b, o, none⟩ = some v → wr.cell? ⟨b, o, none⟩ = some v := fun h => ((bcell (show Below W0.heap.size W0 wr by rw [HS0.out]; exact hbr)).1 _ _ (lt_of_cell h)).trans h
    have x0 := back X0.out
    have x1 := back X1.out
    have x2 := back X2.out
    have x3 := back X3.out
    have x4 := back X4.out
    clear back
    have HG := Lib.hid hg; clear hg
    have HBR := Lib.hid hbr; clear hbr
    by_cases hmD : m < D
    · have hmk := run_make_row' (P := Try.prog) 70 4 (.bool false) 1 Try.underlying70 info_bool rfl .i64 .i64 r.strips.length (by omega) (by omega)
      have hba : Below wr.heap.size wr (wr.alloc (.cells (madeCells #[.bool false] r.strips.length) 4)) := Below.alloc (Below.refl _ _) (Nat.le_refl _) _
      have k0 := ((bcell hba).1 _ _ (lt_of_cell (HG.out.blank (i := m) (by omega) hmD))).trans (HG.out.blank (i := m) (by omega) hmD)
      have k1 := ((bcell hba).2 _ m HG.out.lt).trans (HG.out.freeO m)
      have hpush := HG.out.push (.bool false)
      have HP := Lib.hid hpush; clear hpush
      have HBA := Lib.hid hba; clear hba
      have q1 : (m : Int) < (D : Int) := by omega
      go_wp2_with fail
      refine ⟨⟨m + 1, by omega, by go_num, ⟨_, HP.out.congr fun _ _ _ _ => by split <;> rfl⟩, ?_⟩, by simp [intOf]; omega⟩
      exact (HBR.out.trans (HBA.out.mono (by have := HBR.out.size; have := HS0.out; omega))).setCell (p := ⟨w.heap.size + 2, m, none⟩) (Nat.le_refl _) _
    · obtain rfl : m = D := by omega
      obtain ⟨wO, hwO⟩ : ∃ wO, wO = wr := ⟨_, rfl⟩
      go_wp2_with fail
      clear x0 x1 x2 x3 x4
      go_loopw [8] (fun v8 wx => ∃ i : Nat, i ≤ r.strips.length ∧ v8 = .int .i64 (i : Int) ∧ Grid wx (w.heap.size + 2) (w.heap.size + 2) 70 4 m m r.strips.length gb (tabV r f i [] 0) ∧ Below (w.heap.size + 2) W0 wx) (fun v _ => r.strips.length - (intOf v).toNat)
      case atStart => exact ⟨0, Nat.zero_le _, rfl, HG.out.congr fun d j _ _ => by simp [tabV], HBR.out⟩
      case round =>
        clear HG HBR hwO
        obtain ⟨i, hi, rfl, hg, hbr⟩ := hrel
        have back : ∀ {b o : Nat} {v : Value}, W0.cell? ⟨b, o, none⟩ = some v → wr.cell? ⟨b, o, none⟩ = some v := fun h => ((bcell (show Below W0.heap.size W0 wr by rw [HS0.out]; exact hbr)).1 _ _ (lt_of_cell h)).trans h
        have x0 := back X0.out
        have x1 := back X1.out
        have x2 := back X2.out
        have x3 := back X3.out
        have x4 := back X4.out
        clear back
        have HG := Lib.hid hg; clear hg
        have HBR := Lib.hid hbr; clear hbr
        by_cases hlt : i < r.strips.length
        · go_wp2_with fail
          have hDG := Days_good wr G.out a cap (HST.out.below (show Below W0.heap.size W0 wr by rw [HS0.out]; exact HBR.out)) i hlt
          rw [HD.out] at hDG
          refine hDG.mono ?_
          clear hDG
          rintro e w7 ⟨a', c', rfl, hdl, hfar, hb7⟩
          have hDt : ((m : Int)).toNat = m := rfl
          rw [hDt] at hdl hfar ⊢
          have hmem : ∀ x, x ∈ daysTo r f i m → ∃ d : Nat, d < m ∧ x = (d : Int) ∧ openB r f (-1) i (d : Int) = true := fun x hx => (daysTo_mem m).1 hx
          have hle := daysTo_le r f i m
          have hnext := fun d j hd => tabV_next (r := r) (f := f) (i := i) (D := m) (by have := HD.out; omega) d j hd
          rw [show r.days.toNat = m by have := HD.out; omega] at hnext
          generalize daysTo r f i m = l at hdl hmem hle hnext hfar ⊢
          have hltO := fun d (hd : d < m) => HG.out.ltI hd
          have HLTO := Lib.hid hltO; clear hltO
          have HFAR := Lib.hid hfar; clear hfar
          have HG7 := Lib.hid (HG.out.below hb7)
          have HB7 := Lib.hid (HBR.out.trans (hb7.mono (by have := HBR.out.size; have := HS0.out; omega)))
          have HDL := Lib.hid hdl; clear hdl
          have HMEM := Lib.hid hmem; clear hmem
          have HNEXT := Lib.hid hnext; clear hnext
          clear x0 x1 x2 x3 x4 hb7 hDt
          go_wp2_with fail
          go_loopw [11] (fun v11 wx => ∃ k : Nat, k ≤ l.length ∧ v11 = .int .i64 (k : Int) ∧ Grid wx (w.heap.size + 2) (w.heap.size + 2) 70 4 m m r.strips.length gb (tabV r f i l k) ∧ IntsAt wx a' l ∧ Below (w.heap.size + 2) W0 wx) (fun v _ => l.length - (intOf v).toNat)
          case atStart => exact ⟨0, Nat.zero_le _, rfl, HG7.out.congr fun d j _ _ => by simp [tabV], HDL.out, HB7.out⟩
          case round =>
            obtain ⟨k, hk, rfl, hg, hints, hbr⟩ := hrel
            have back : ∀ {b o : Nat} {v : Value}, W0.cell? ⟨b, o, none⟩ = some v → wr.cell? ⟨b, o, none⟩ = some v := fun h => ((bcell (show Below W0.heap.size W0 wr by rw [HS0.out]; exact hbr)).1 _ _ (lt_of_cell h)).trans h
            have x0 := back X0.out
            have x1 := back X1.out
            have x2 := back X2.out
            have x3 := back X3.out
            have x4 := back X4.out
            clear back
            have HGR := Lib.hid hg
            have HBR := Lib.hid hbr
            have HIN := Lib.hid hints
            by_cases hkl : k < l.length
            · obtain ⟨d, hd, hlk, hop⟩ := HMEM.out _ (List.getElem_mem hkl)
              have hpc := open_pace hlt hop
              rcases hints with h0 | ⟨lb, lo, rfl, hlc⟩
              · rw [h0] at hkl; simp at hkl
              have y0 := hlc k hkl
              rw [hlk] at y0
              rcases HST.out.below (show Below W0.heap.size W0 wr by rw [HS0.out]; exact hbr) with h0 | ⟨sb, so, rfl, hsc⟩
              · rw [h0] at hlt; simp at hlt
              have y1 := (hsc i hlt).c2
              have y2 := hg.row (Nat.le_refl _) hd
              have y3 := hg.cell (i := d) (j := i) hd hlt
              have y4 := hg.free (i := d) hd i
              have hset := hg.set hd i (.bool true)
              have HSET := Lib.hid hset; clear hset
              have hbi := hg.bI d hd
              have hne : d < m := hd
              have hset2 := fun d' j => tabV_set (r := r) (f := f) (i := i) (l := l) hkl hlk d' j
              have HSET2 := Lib.hid hset2; clear hset2
              have hfar2 : l = [] ∨ ∀ ad, (some (⟨lb, lo, none⟩ : Addr)) = some ad → ad.block ≠ gb d := HFAR.out.imp id fun h ad e => by have := h ad e; have := HLTO.out d hd; omega
              have HFAR2 := Lib.hid hfar2; clear hfar2
              have HLK := Lib.hid hlk; clear hlk hop hg hlc hsc hbr
              have q1 : (k : Int) < (l.length : Int) := by omega
              have q2 : (d : Int) < (m : Int) := by omega
              have q3 : (i : Int) < (r.strips.length : Int) := by omega
              have q4 : (0 : Int) ≤ (d : Int) := by omega
              generalize r.strips[i].L = N at y1 hpc
              have e1 : decide ((d : Int) < 0) = false := decide_eq_false (by omega)
              have e2 : decide ((m : Int) ≤ (d : Int)) = false := decide_eq_false (by omega)
              have e3 : decide (f.pace < N) = false := decide_eq_false (by omega)
              go_wp2_with fail
              go_quiet (fail)
              go_wp2_with fail
              refine ⟨⟨k + 1, by omega, by go_num, ?_, ?_, ?_⟩, by simp [intOf]; omega⟩
              · have hd' : Grid ((wr.drewN nq).setCell ⟨gb d, i, none⟩ (.bool true)) (w.heap.size + 2) (w.heap.size + 2) 70 4 m m r.strips.length gb _ := ((HGR.out.below (below_drewN (Below.refl _ _) nq)).set hd i (.bool true)).congr fun a b _ _ => HSET2.out a b
                exact hd'
              · exact (HIN.out.below (below_drewN (Below.refl _ _) nq)).setF HFAR2.out _ _
              · exact (below_drewN HBR.out nq).setCell (p := ⟨gb d, i, none⟩) hbi _
            · obtain rfl : k = l.length := by omega
              go_wp2_with fail
              exact ⟨⟨i + 1, by omega, by go_num, HGR.out.congr fun a b ha _ => HNEXT.out a b ha, HBR.out⟩, by simp [intOf]; omega⟩
        · obtain rfl : i = r.strips.length := by omega
          go_wp2_with fail
          go_ret2
          refine ⟨_, gb, rfl, (HG.out.congr fun d j hd hj => ?_).mono (by omega), HB0.out.trans (HBR.out.mono (by omega))⟩
          simp [tabV, hj]
end Go.Proofs.Ytjgkgnfhglhklaa
