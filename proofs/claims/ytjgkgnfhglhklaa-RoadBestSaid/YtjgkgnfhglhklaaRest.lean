/- The contract of mestalaw02.rest: a table of the leagues that are still to walk, by day, stage, and leagues walked on the day. -/
import Derived.Test.YtjgkgnfhglhklaaBestP
import Derived.Test.YtjgkgnfhglhklaaCutP
import Derived.Test.YtjgkgnfhglhklaaWalks
import Derived.Test.YtjgkgnfhglhklaaWidened
import Derived.Deep.CutBlock
import Derived.Deep.RegionHeld3
namespace Go.Proofs.Ytjgkgnfhglhklaa
set_option linter.unusedSimpArgs false
set_option linter.unusedVariables false
open Go.RowKit

theorem info_rows : (Try.prog.info? 54).map (fun i => (i.zero, i.size, i.bytes)) = some (some (.slice none 0 0), 1, 24) := by kernel_rfl

/-- A slice of grids; those from n0 on are made. -/
structure Cube (w : World) (B O n0 n S K : Nat) (og : Nat → Nat) (gb : Nat → Nat → Nat) (V : Nat → Nat → Nat → Int) : Prop where
  outer : w.heap[O]? = some (.cells (tab n fun e => if n0 ≤ e then .slice (some ⟨og e, 0, none⟩) S S else .slice none 0 0) 54 (0, 0))
  grid : ∀ e, n0 ≤ e → e < n → Grid w (O + 1) (og e) 27 3 S S K (gb e) (gInt (V e))
  bO : B ≤ O
theorem Cube.lt {w : World} {B O n0 n S K : Nat} {og : Nat → Nat} {gb : Nat → Nat → Nat} {V : Nat → Nat → Nat → Int} (h : Cube w B O n0 n S K og gb V) : O < w.heap.size := (Array.getElem?_eq_some_iff.1 h.outer).1
theorem Cube.below {w w' : World} {B O n0 n S K : Nat} {og : Nat → Nat} {gb : Nat → Nat → Nat} {V : Nat → Nat → Nat → Int} (h : Cube w B O n0 n S K og gb V) (hb : Below w.heap.size w w') : Cube w' B O n0 n S K og gb V :=
  ⟨(hb.block O h.lt).trans h.outer, fun e h1 h2 => (h.grid e h1 h2).below hb, h.bO⟩
theorem Cube.row {w : World} {B O n0 n S K : Nat} {og : Nat → Nat} {gb : Nat → Nat → Nat} {V : Nat → Nat → Nat → Int} (h : Cube w B O n0 n S K og gb V) {e : Nat} (h1 : n0 ≤ e) (h2 : e < n) : w.cell? ⟨O, e, none⟩ = some (.slice (some ⟨og e, 0, none⟩) S S) := by
  rw [cell_tab h.outer h2, if_pos h1]
/-- Where the next grid is laid. -/
theorem Cube.push {w : World} {B O d n S K : Nat} {og : Nat → Nat} {gb : Nat → Nat → Nat} {V : Nat → Nat → Nat → Int} (h : Cube w B O (d + 1) n S K og gb V) (hd : d < n) (gb0 : Nat → Nat) (V0 : Nat → Nat → Value) :
    let w5 := (w.alloc (.cells (madeCells #[.slice none 0 0] S) 27)).setCell ⟨O, d, none⟩ (.slice (some ⟨w.heap.size, 0, none⟩) S S)
    w5.heap[O]? = some (.cells (tab n fun e => if d ≤ e then .slice (some ⟨if e = d then w.heap.size else og e, 0, none⟩) S S else .slice none 0 0) 54 (0, 0)) ∧
      (∀ e, d + 1 ≤ e → e < n → Grid w5 (O + 1) (og e) 27 3 S S K (gb e) (gInt (V e))) ∧ Grid w5 w.heap.size w.heap.size 27 3 S 0 K gb0 V0 ∧ Ext O w w5 := by
  intro w5
  have hO := h.lt
  have ho1 : (w.alloc (.cells (madeCells #[.slice none 0 0] S) 27)).heap[O]? = _ := (heap_alloc_old _ _ hO).trans h.outer
  have hE : Ext O w w5 := (Ext.of_below ((Below.refl _ _).alloc (Nat.le_refl _) _)).trans ⟨rfl, rfl, rfl, by simp [w5], fun k _ hne => Below.heap_setCell _ ⟨O, d, none⟩ _ k hne⟩
  refine ⟨?_, fun e h1 h2 => (h.grid e h1 h2).keep fun b hb hl => hE.block b hl (by omega), ?_, hE⟩
  · show (World.setCell _ ⟨O, d, none⟩ _).heap[O]? = _
    rw [set_tab ho1]
    congr 2
    exact tab_congr fun e he => by
      by_cases c : e = d
      · subst c; simp
      · rw [if_neg c, if_neg c]
        by_cases c2 : d + 1 ≤ e
        · rw [if_pos c2, if_pos (by omega)]
        · rw [if_neg c2, if_neg (by omega)]
  · exact (grid_new w w.heap.size (Nat.le_refl _) 27 3 S K gb0 V0).keep fun b hb _ => Below.heap_setCell _ ⟨O, d, none⟩ _ b (by show b ≠ O; omega)
theorem Cube.close {w5 w' : World} {B B5 O d n S K : Nat} {og : Nat → Nat} {gb : Nat → Nat → Nat} {V : Nat → Nat → Nat → Int} {gbn : Nat → Nat}
    (ho : w5.heap[O]? = some (.cells (tab n fun e => if d ≤ e then .slice (some ⟨if e = d then B5 else og e, 0, none⟩) S S else .slice none 0 0) 54 (0, 0)))
    (hg : ∀ e, d + 1 ≤ e → e < n → Grid w5 (O + 1) (og e) 27 3 S S K (gb e) (gInt (V e))) (hlt : ∀ e, d + 1 ≤ e → e < n → og e < B5 ∧ ∀ s, s < S → gb e s < B5) (hO : O < B5) (hB : B ≤ O)
    (hn : Grid w' B5 B5 27 3 S S K gbn (gInt (V d))) (hb : Below B5 w5 w') : Cube w' B O d n S K (fun e => if e = d then B5 else og e) (fun e => if e = d then gbn else gb e) V := by
  refine ⟨(hb.block O hO).trans ho, fun e h1 h2 => ?_, hB⟩
  by_cases c : e = d
  · subst c; rw [if_pos rfl, if_pos rfl]; exact hn.mono (by omega)
  · rw [if_neg c, if_neg c]
    have h := hg e (by omega) h2
    obtain ⟨l1, l2⟩ := hlt e (by omega) h2
    exact ⟨(hb.block _ l1).trans h.outer, fun s hs => (hb.block _ (l2 s hs)).trans (h.inner s hs), h.inj, h.ne, h.bG, h.bI⟩

set_option maxRecDepth 100000 in
set_option maxHeartbeats 40000000 in
theorem rest_any (w : World) {r : Roads} {f : Flock} (g : Good r f) (a : Option Addr) (cap S P D N : Nat) (hS : r.stages = (S : Int)) (hP : f.pace = (P : Int)) (hD : r.days = (D : Int)) (hN : r.strips.length = N) (hs : StripsAt w a r.strips) (GT : Nat) (gbT : Nat → Nat) (BT : Nat) (hG : Grid w BT GT 70 4 D D N gbT (fun d i => .bool (openB r f (-1) i (d : Int)))) (tt last : Nat) (hl : last < D) :
    Calls Try.prog 70 #[.agg #[.int .i64 (D : Int), .int .i64 (S : Int), .slice a N cap], .agg #[.int .i64 f.heads, .int .i64 (P : Int)], .slice (some ⟨GT, 0, none⟩) D D, .int .i64 (tt : Int), .int .i64 (last : Int)] w
      fun e w' => ∃ O og gb, e = .returned (.slice (some ⟨O, 0, none⟩) (last + 1) (last + 1)) ∧ Cube w' w.heap.size O 0 (last + 1) S (P + 1) og gb (fun d s l => restR r f (tt : Int) (last : Int) (d : Int) ((s : Int), (l : Int))) ∧ Below w.heap.size w w' := by
  have hS6 : S ≤ 6 := by have := g.s2; omega
  have hP9 : P ≤ 9 := by have := g.p2; omega
  have hD10 : D ≤ 10 := by have := g.d2; omega
  have hN8 : N ≤ 8 := by have := g.n8; omega
  have hb0 : Below w.heap.size w ((w.alloc (.cells #[.int .i64 (D : Int), .int .i64 (S : Int), .slice a N cap] 24)).alloc (.cells #[.int .i64 f.heads, .int .i64 (P : Int)] 26)) := ((Below.refl _ _).alloc (Nat.le_refl _) _).alloc (by simp) _
  have x1 : ((w.alloc (.cells #[.int .i64 (D : Int), .int .i64 (S : Int), .slice a N cap] 24)).alloc (.cells #[.int .i64 f.heads, .int .i64 (P : Int)] 26)).cell? ⟨w.heap.size, 1, none⟩ = some (.int .i64 (S : Int)) := by simp [go_sem]
  have x2 : ((w.alloc (.cells #[.int .i64 (D : Int), .int .i64 (S : Int), .slice a N cap] 24)).alloc (.cells #[.int .i64 f.heads, .int .i64 (P : Int)] 26)).cell? ⟨w.heap.size, 2, none⟩ = some (.slice a N cap) := by simp [go_sem]
  have x4 : ((w.alloc (.cells #[.int .i64 (D : Int), .int .i64 (S : Int), .slice a N cap] 24)).alloc (.cells #[.int .i64 f.heads, .int .i64 (P : Int)] 26)).cell? ⟨w.heap.size + 1, 1, none⟩ = some (.int .i64 (P : Int)) := by simp [go_sem]
  have HST := Lib.hid (hs.below hb0); clear hs
  have HGT := Lib.hid (hG.below hb0); clear hG
  have HS := Lib.hid hS; clear hS
  have HPP := Lib.hid hP; clear hP
  have HD := Lib.hid hD; clear hD
  have HN := Lib.hid hN; clear hN
  have G := Lib.hid g; clear g
  have hmk := run_make_row' (P := Try.prog) 83 54 (.slice none 0 0) 24 Try.underlying83 info_rows rfl .i64 .i64 (last + 1) (by omega) (by omega)
  rw [show ((last + 1 : Nat) : Int) = (last : Int) + 1 from rfl] at hmk
  have e1 : IntKind.i64.wrap ((last : Int) + 1) = (last : Int) + 1 := IntWalk.i64_in _ (by omega)
  go_enter Try.func70, Try.ntmps70
  go_upto_region 1 with (fail)
  generalize ((w.alloc (.cells #[.int .i64 (D : Int), .int .i64 (S : Int), .slice a N cap] 24)).alloc (.cells #[.int .i64 f.heads, .int .i64 (P : Int)] 26)) = W0 at hb0 x1 x2 x4 HST HGT ⊢
  have X1 := Lib.hid x1; clear x1
  have X2 := Lib.hid x2; clear x2
  have X4 := Lib.hid x4; clear x4
  have HB0 := Lib.hid hb0; clear hb0
  go_wp2_with fail
  clear hmk e1
  have hc0 : Cube (W0.alloc (.cells (madeCells #[.slice none 0 0] (last + 1)) 54)) W0.heap.size W0.heap.size (last + 1) (last + 1) S (P + 1) (fun _ => 0) (fun _ _ => 0) (fun d s l => restR r f (tt : Int) (last : Int) (d : Int) ((s : Int), (l : Int))) :=
    ⟨by rw [heap_alloc_new, tab_made]; congr 2; exact tab_congr fun e he => by rw [if_neg (by omega)], fun e h1 h2 => by omega, Nat.le_refl _⟩
  have hbm : Below W0.heap.size W0 (W0.alloc (.cells (madeCells #[.slice none 0 0] (last + 1)) 54)) := (Below.refl _ _).alloc (Nat.le_refl _) _
  go_loopw [12] (fun v12 wx => ∃ m : Nat, m ≤ last + 1 ∧ v12 = .int .i64 ((m : Int) - 1) ∧ (∃ og gb, Cube wx W0.heap.size W0.heap.size m (last + 1) S (P + 1) og gb (fun d s l => restR r f (tt : Int) (last : Int) (d : Int) ((s : Int), (l : Int)))) ∧ Below W0.heap.size W0 wx) (fun v _ => (intOf v + 1).toNat)
  case atStart => exact ⟨last + 1, Nat.le_refl _, by rw [show ((last + 1 : Nat) : Int) - 1 = (last : Int) by omega], ⟨_, _, hc0⟩, hbm⟩
  case round =>
    clear hc0 hbm
    obtain ⟨m, hm, rfl, ⟨og, gb, hc⟩, hbr⟩ := hrel
    have x1 := ((bcell hbr).1 _ _ (lt_of_cell X1.out)).trans X1.out
    have HC := Lib.hid hc; clear hc
    have HBR := Lib.hid hbr; clear hbr
    by_cases hm0 : 0 < m
    · obtain ⟨d, rfl⟩ : ∃ d, m = d + 1 := ⟨m - 1, by omega⟩
      have ed : ((d + 1 : Nat) : Int) - 1 = (d : Int) := by omega
      rw [ed]
      have HED := Lib.hid ed; clear ed
      have hdl : d ≤ last := by omega
      clear hm hm0
      have q0 : (0 : Int) ≤ (d : Int) := by omega
      have q1 : (d : Int) < (last : Int) + 1 := by omega
      have hmk := run_make_row' (P := Try.prog) 54 27 (.slice none 0 0) 24 Try.underlying54 info_ints rfl .i64 .i64 S (by omega) (by omega)
      have hba : Below wr.heap.size wr (wr.alloc (.cells (madeCells #[.slice none 0 0] S) 27)) := Below.alloc (Below.refl _ _) (Nat.le_refl _) _
      have hbl : wr.cell? ⟨W0.heap.size, d, none⟩ = some (.slice none 0 0) := by rw [cell_tab HC.out.outer (by omega), if_neg (by omega)]
      have k0 := ((bcell hba).1 _ _ (lt_of_cell hbl)).trans hbl
      have k1 := ((bcell hba).2 _ d HC.out.lt).trans (free_tab HC.out.outer d)
      clear hbl
      obtain ⟨p1, p2, p3, p4⟩ := HC.out.push (d := d) (by omega) (fun _ => 0) (fun _ _ => .int .i64 0)
      have HLT := Lib.hid (show ∀ e, d + 1 ≤ e → e < last + 1 → og e < wr.heap.size ∧ ∀ s, s < S → gb e s < wr.heap.size from fun e h1 h2 => ⟨(HC.out.grid e h1 h2).lt, fun s hs => (HC.out.grid e h1 h2).ltI hs⟩)
      have HOB := Lib.hid (show W0.heap.size < wr.heap.size from HC.out.lt)
      have P1 := Lib.hid p1; clear p1
      have P2 := Lib.hid p2; clear p2
      have P3 := Lib.hid p3; clear p3
      have HB5 := Lib.hid (p4.below HBR.out (Nat.le_refl _) HBR.out.size); clear p4 hba HBR HC
      go_wp2_with fail
      clear hmk k0 k1 x1
      generalize ((wr.alloc (.cells (madeCells #[.slice none 0 0] S) 27)).setCell ⟨W0.heap.size, d, none⟩ (.slice (some ⟨wr.heap.size, 0, none⟩) S S)) = W5 at P1 P2 P3 HB5 ⊢
      generalize wr.heap.size = B5 at P1 P2 P3 HLT HOB ⊢
      have HBk := Lib.hid (fun (W : World) (h : Below B5 W5 W) => show Below W0.heap.size W0 W from HB5.out.trans (h.mono (Nat.le_of_lt HOB.out)))
      have C0 := Lib.hid (show W5.cell? ⟨W0.heap.size, d, none⟩ = some (.slice (some ⟨B5, 0, none⟩) S S) by rw [cell_tab P1.out (by omega), if_pos (Nat.le_refl _), if_pos rfl])
      have HBc := Lib.hid (fun (W : World) (h : Below B5 W5 W) => show W.cell? ⟨W0.heap.size, d, none⟩ = some (.slice (some ⟨B5, 0, none⟩) S S) from (h.cell (p := ⟨W0.heap.size, d, none⟩) HOB.out).trans C0.out)
      go_loopw [13] (fun v13 wx => ∃ s : Nat, s ≤ S ∧ v13 = .int .i64 (s : Int) ∧ (∃ gbn, Grid wx B5 B5 27 3 S s (P + 1) gbn (fun _ _ => .int .i64 0)) ∧ Below B5 W5 wx) (fun v _ => S - (intOf v).toNat)
      case atStart => exact ⟨0, Nat.zero_le _, rfl, ⟨_, P3.out⟩, Below.refl _ _⟩
      case round =>
        clear P3
        obtain ⟨s, hs, rfl, ⟨gbn, hg⟩, hbr⟩ := hrel
        have x1 := ((bcell (HBk.out _ hbr)).1 _ _ (lt_of_cell X1.out)).trans X1.out
        have x4 := ((bcell (HBk.out _ hbr)).1 _ _ (lt_of_cell X4.out)).trans X4.out
        have HG := Lib.hid hg; clear hg
        have HBR := Lib.hid hbr; clear hbr
        by_cases hsS : s < S
        · have hmk := run_make_row' (P := Try.prog) 27 3 (.int .i64 0) 8 Try.underlying27 info_int rfl .i64 .i64 (P + 1) (by omega) (by omega)
          rw [show ((P + 1 : Nat) : Int) = (P : Int) + 1 from rfl] at hmk
          have e1 : IntKind.i64.wrap ((P : Int) + 1) = (P : Int) + 1 := IntWalk.i64_in _ (by omega)
          have hba : Below wr.heap.size wr (wr.alloc (.cells (madeCells #[.int .i64 0] (P + 1)) 3)) := Below.alloc (Below.refl _ _) (Nat.le_refl _) _
          have k0 := ((bcell hba).1 _ _ (lt_of_cell (HG.out.blank (i := s) (by omega) hsS))).trans (HG.out.blank (i := s) (by omega) hsS)
          have k1 := ((bcell hba).2 _ s HG.out.lt).trans (HG.out.freeO s)
          have c0 := HBc.out _ HBR.out
          have c1 := ((bcell hba).1 _ _ (lt_of_cell c0)).trans c0
          have q2 : (s : Int) < (S : Int) := by omega
          have hpush := HG.out.push (.int .i64 0)
          have HP := Lib.hid hpush; clear hpush
          have HBN := Lib.hid ((HBR.out.trans (hba.mono (Nat.le_of_lt HG.out.lt))).setCell (p := ⟨B5, s, none⟩) (Nat.le_refl _) (.slice (some ⟨wr.heap.size, 0, none⟩) (P + 1) (P + 1))); clear hba
          go_wp2_with fail
          go_region
          all_goals
            go_wp2_with fail
            exact ⟨⟨s + 1, by omega, by go_num, ⟨_, (HP.out.below (Below.refl _ _).drew).congr fun i j _ _ => by split <;> rfl⟩, HBN.out.drew⟩, by simp [intOf]; omega⟩
        · obtain rfl : s = S := by omega
          have HG3 := Lib.hid (show Grid wr B5 B5 27 3 s s (P + 1) gbn (gInt (fun i l => if P + 1 ≤ l then restR r f (tt : Int) (last : Int) (d : Int) ((i : Int), (l : Int)) else 0)) from HG.out.congr fun i j _ hj => by unfold gInt; dsimp only; rw [if_neg (by omega)]); clear HG
          go_wp2_with fail
          clear x1 x4
          go_loopw [14] (fun v14 wx => ∃ u : Nat, u ≤ P + 1 ∧ v14 = .int .i64 ((u : Int) - 1) ∧ Grid wx B5 B5 27 3 s s (P + 1) gbn (gInt (fun i l => if u ≤ l then restR r f (tt : Int) (last : Int) (d : Int) ((i : Int), (l : Int)) else 0)) ∧ Below B5 W5 wx) (fun v _ => (intOf v + 1).toNat)
          case atStart => exact ⟨P + 1, Nat.le_refl _, by rw [show ((P + 1 : Nat) : Int) - 1 = (P : Int) by omega], HG3.out, HBR.out⟩
          case round =>
            clear HG3 HBR
            obtain ⟨u, hu, rfl, hg, hbr⟩ := hrel
            have HG := Lib.hid hg; clear hg
            have HBR := Lib.hid hbr; clear hbr
            by_cases hu0 : 0 < u
            · obtain ⟨q, rfl⟩ : ∃ q, u = q + 1 := ⟨u - 1, by omega⟩
              have eq : ((q + 1 : Nat) : Int) - 1 = (q : Int) := by omega
              rw [eq]
              have HEQ := Lib.hid eq; clear eq
              have hqP : q ≤ P := by omega
              have q3 : (0 : Int) ≤ (q : Int) := by omega
              clear hu0 hu
              go_wp2_with fail
              go_loopw [15] (fun v15 wx => ∃ i : Nat, i ≤ s ∧ v15 = .int .i64 (i : Int) ∧ Grid wx B5 B5 27 3 s s (P + 1) gbn (gInt (fun i' l => if q + 1 ≤ l ∨ (l = q ∧ i' < i) then restR r f (tt : Int) (last : Int) (d : Int) ((i' : Int), (l : Int)) else 0)) ∧ Below B5 W5 wx) (fun v _ => s - (intOf v).toNat)
              case atStart => exact ⟨0, Nat.zero_le _, rfl, HG.out.congr fun i l _ _ => by
                unfold gInt
                dsimp only
                by_cases c : q + 1 ≤ l
                · rw [if_pos c, if_pos (.inl c)]
                · rw [if_neg c, if_neg (by omega)], HBR.out⟩
              case round =>
                clear HG HBR
                obtain ⟨i, hi, rfl, hg, hbr⟩ := hrel
                have x1 := ((bcell (HBk.out _ hbr)).1 _ _ (lt_of_cell X1.out)).trans X1.out
                have HG := Lib.hid hg; clear hg
                have HBR := Lib.hid hbr; clear hbr
                by_cases hiS : i < s
                · have q4 : (i : Int) < (s : Int) := by omega
                  go_upto_region 17 with (fail)
                  clear x1
                  go_cut [68] (fun v68 wx => v68 = .bool (decide (d = last) && decide (i = tt)) ∧ wx = wr)
                  case first =>
                    by_cases hdL : d = last
                    · have d1 : ((d : Int) == (last : Int)) = true := by simp [hdL]
                      by_cases hit : i = tt
                      · have d3 : ((i : Int) == (tt : Int)) = true := by simp [hit]
                        have HV := Lib.hid (show (decide (d = last) && decide (i = tt)) = true by rw [decide_eq_true hdL, decide_eq_true hit]; rfl)
                        clear hdL hit
                        go_wp2_with fail
                        go_meet
                        exact ⟨by rw [HV.out], rfl⟩
                      · have d3 : ((i : Int) == (tt : Int)) = false := by simp; omega
                        have HV := Lib.hid (show (decide (d = last) && decide (i = tt)) = false by rw [decide_eq_false hit]; simp)
                        clear hdL hit
                        go_wp2_with fail
                        go_meet
                        exact ⟨by rw [HV.out], rfl⟩
                    · have d1 : ((d : Int) == (last : Int)) = false := by simp; omega
                      have HV := Lib.hid (show (decide (d = last) && decide (i = tt)) = false by rw [decide_eq_false hdL]; rfl)
                      clear hdL
                      go_wp2_with fail
                      go_meet
                      exact ⟨by rw [HV.out], rfl⟩
                  case rest =>
                  obtain ⟨hv68, hw68⟩ := hcut
                  subst hw68
                  subst hv68
                  generalize hbq : (decide (d = last) && decide (i = tt)) = bq
                  have HBQ := Lib.hid hbq; clear hbq
                  go_upto_if 68 with (fail)
                  go_cut [16] (fun v16 wx => v16 = .int .i64 (if bq = true then 0 else 100000) ∧ wx = wc)
                  case first =>
                    cases bq
                    · go_wp2_with fail
                      go_meet
                      exact ⟨rfl, rfl⟩
                    · go_wp2_with fail
                      go_meet
                      exact ⟨rfl, rfl⟩
                  case rest =>
                  obtain ⟨hv16, hw16⟩ := hcut
                  subst hw16
                  subst hv16
                  generalize hbv : (if bq = true then (0 : Int) else 100000) = bv
                  have HBV := Lib.hid hbv; clear hbv
                  go_upto_if 71 with (fail)
                  go_cut [16] (fun v16 wx => v16 = .int .i64 (restR r f (tt : Int) (last : Int) ((d : Int) + 1) ((i : Int), 0)) ∧ wx = wc)
                  case first =>
                    by_cases hdL : d = last
                    · have d2 : ¬ (d : Int) < (last : Int) := by omega
                      have HV := Lib.hid (show bv = restR r f (tt : Int) (last : Int) ((d : Int) + 1) ((i : Int), 0) by
                        rw [← HBV.out, restR_end _ _ _ (by omega), ← HBQ.out]
                        by_cases hit : i = tt
                        · simp [hdL, hit]
                        · have h2 : ¬ (i : Int) = (tt : Int) := by omega
                          simp [hdL, hit, h2])
                      clear hdL
                      go_wp2_with fail
                      go_meet
                      exact ⟨by rw [HV.out], rfl⟩
                    · have d2 : (d : Int) < (last : Int) := by omega
                      have hg1 := P2.out (d + 1) (Nat.le_refl _) (by omega)
                      obtain ⟨l1, l2⟩ := HLT.out (d + 1) (Nat.le_refl _) (by omega)
                      have e1 : IntKind.i64.wrap ((d : Int) + 1) = (d : Int) + 1 := IntWalk.i64_in _ (by omega)
                      have z0 : W5.cell? ⟨W0.heap.size, d + 1, none⟩ = some (.slice (some ⟨og (d + 1), 0, none⟩) s s) := by rw [cell_tab P1.out (by omega), if_pos (by omega), if_neg (by omega)]
                      have y0 := (HBR.out.cell (p := ⟨W0.heap.size, d + 1, none⟩) HOB.out).trans z0
                      have y1 := (HBR.out.cell (p := ⟨og (d + 1), i, none⟩) l1).trans (hg1.row (Nat.le_refl _) hiS)
                      have y2 := (HBR.out.cell (p := ⟨gb (d + 1) i, 0, none⟩) (l2 i hiS)).trans (hg1.cell hiS (show 0 < P + 1 by omega))
                      unfold gInt at y2
                      rw [show (((d + 1 : Nat) : Int)) = (d : Int) + 1 from rfl] at y2
                      clear z0 hg1 l1 l2 hdL
                      have q5 : (d : Int) + 1 < (last : Int) + 1 := by omega
                      have q6 : (0 : Int) ≤ (d : Int) + 1 := by omega
                      go_wp2_with fail
                      go_meet
                      exact ⟨rfl, rfl⟩
                  case rest =>
                    obtain ⟨hv17, hw17⟩ := hcut
                    subst hw17
                    subst hv17
                    clear HBQ HBV
                    go_wp2_with fail
                    go_loopw [16, 17] (fun v16 v17 wx => ∃ j : Nat, j ≤ N ∧ v17 = .int .i64 (j : Int) ∧ v16 = .int .i64 (restK r f (tt : Int) (last : Int) (d : Int) ((i : Int), (q : Int)) j) ∧ Grid wx B5 B5 27 3 s s (P + 1) gbn (gInt (fun i' l => if q + 1 ≤ l ∨ (l = q ∧ i' < i) then restR r f (tt : Int) (last : Int) (d : Int) ((i' : Int), (l : Int)) else 0)) ∧ Below B5 W5 wx) (fun _ v _ => N - (intOf v).toNat)
                    case atStart => exact ⟨0, Nat.zero_le _, rfl, rfl, HG.out, HBR.out⟩
                    case round =>
                      clear HG HBR
                      obtain ⟨j, hj, rfl, rfl, hg, hbr⟩ := hrel
                      have x2 := ((bcell (HBk.out _ hbr)).1 _ _ (lt_of_cell X2.out)).trans X2.out
                      have HG := Lib.hid hg; clear hg
                      have HBR := Lib.hid hbr; clear hbr
                      by_cases hjN : j < N
                      · obtain ⟨rk1, rk2⟩ := restK_range G.out (tt := (tt : Int)) (last := (last : Int)) (d := (d : Int)) (p := ((i : Int), (q : Int))) (k := j)
                        have hjl : j < r.strips.length := by rw [HN.out]; exact hjN
                        have hsk : r.strips[j]? = some r.strips[j] := List.getElem?_eq_getElem hjl
                        have hmem := List.mem_of_getElem? hsk
                        obtain ⟨a1, a2, a3, a4, a5, a6, a7, _⟩ := G.out.strip _ hmem
                        rcases (HST.out.below (HBk.out _ HBR.out)) with hst0 | ⟨sb, so, ha, hcs⟩
                        · rw [hst0] at hjl; simp at hjl
                        obtain ⟨s0, s1, s2, s3, s4, s5, s6⟩ := hcs j hjl
                        clear hcs
                        generalize r.strips[j] = xs at hsk hmem a1 a2 a3 a4 a5 a6 a7 s0 s1 s2 s3 s4 s5 s6
                        obtain ⟨aN, hA⟩ := Int.eq_ofNat_of_zero_le a1
                        obtain ⟨bN, hB⟩ := Int.eq_ofNat_of_zero_le a3
                        obtain ⟨lN, hL⟩ := Int.eq_ofNat_of_zero_le (a := xs.L) (by omega)
                        rw [hA] at s0
                        rw [hB] at s1
                        rw [hL] at s2
                        rw [ha] at x2
                        have haS : aN < s := by have := HS.out; omega
                        have hbS : bN < s := by have := HS.out; omega
                        have hl1 : 1 ≤ lN := by omega
                        have hl9 : lN ≤ 9 := by omega
                        have hab : aN ≠ bN := by intro e; apply a5; omega
                        have HSK := Lib.hid hsk; clear hsk
                        have HXA := Lib.hid hA; clear hA
                        have HXB := Lib.hid hB; clear hB
                        have HXL := Lib.hid hL; clear hL
                        have HMEM := Lib.hid hmem; clear hmem
                        clear a1 a2 a3 a4 a5 a6 a7 ha
                        generalize hRK : restK r f (tt : Int) (last : Int) (d : Int) ((i : Int), (q : Int)) j = rk at rk1 rk2 ⊢
                        have HRK := Lib.hid hRK; clear hRK
                        go_upto_region 25 with (fail)
                        have hba : Below wr.heap.size wr (wr.alloc (.cells #[.int .i64 (aN : Int), .int .i64 (bN : Int), .int .i64 (lN : Int), .int .i64 xs.W, .int .i64 xs.K, .int .i64 xs.X, .int .i64 xs.Y] 57)) := (Below.refl _ _).alloc (Nat.le_refl _) _
                        have t0 : (wr.alloc (.cells #[.int .i64 (aN : Int), .int .i64 (bN : Int), .int .i64 (lN : Int), .int .i64 xs.W, .int .i64 xs.K, .int .i64 xs.X, .int .i64 xs.Y] 57)).cell? ⟨wr.heap.size, 0, none⟩ = some (.int .i64 (aN : Int)) := by simp [go_sem]
                        have t1 : (wr.alloc (.cells #[.int .i64 (aN : Int), .int .i64 (bN : Int), .int .i64 (lN : Int), .int .i64 xs.W, .int .i64 xs.K, .int .i64 xs.X, .int .i64 xs.Y] 57)).cell? ⟨wr.heap.size, 1, none⟩ = some (.int .i64 (bN : Int)) := by simp [go_sem]
                        have t2 : (wr.alloc (.cells #[.int .i64 (aN : Int), .int .i64 (bN : Int), .int .i64 (lN : Int), .int .i64 xs.W, .int .i64 xs.K, .int .i64 xs.X, .int .i64 xs.Y] 57)).cell? ⟨wr.heap.size, 2, none⟩ = some (.int .i64 (lN : Int)) := by simp [go_sem]
                        have HBR1 := Lib.hid (HBR.out.trans (hba.mono (Nat.le_of_lt HG.out.lt))); clear HBR
                        have HG1 := Lib.hid (HG.out.below hba); clear HG hba
                        generalize (wr.alloc (.cells #[.int .i64 (aN : Int), .int .i64 (bN : Int), .int .i64 (lN : Int), .int .i64 xs.W, .int .i64 xs.K, .int .i64 xs.X, .int .i64 xs.Y] 57)) = W1 at t0 t1 t2 HG1 HBR1 ⊢
                        generalize wr.heap.size = sp at t0 t1 t2 ⊢
                        clear s0 s1 s2 s3 s4 s5 s6 x2
                        have hdD : d < D := by omega
                        have hbW := HBk.out _ HBR1.out
                        have u0 := (HGT.out.below hbW).row (Nat.le_refl _) hdD
                        have u1 := (HGT.out.below hbW).cell hdD hjN
                        have x4 := ((bcell hbW).1 _ _ (lt_of_cell X4.out)).trans X4.out
                        have c0 := HBc.out _ HBR1.out
                        clear hbW
                        have q6 : (j : Int) < (N : Int) := by omega
                        have q7 : (d : Int) < (D : Int) := by omega
                        have e3 : IntKind.i64.wrap ((q : Int) + (lN : Int)) = (q : Int) + (lN : Int) := IntWalk.i64_in _ (by omega)
                        go_cut [121] (fun v121 wx => v121 = .bool (stepOk r f (-1) (d : Int) ((i : Int), (q : Int)) j).isSome ∧ wx = W1)
                        case first =>
                          have HSO := Lib.hid (show (stepOk r f (-1) (d : Int) ((i : Int), (q : Int)) j).isSome = (((decide (aN = i) || decide (bN = i)) && decide ((q : Int) + (lN : Int) ≤ (P : Int))) && openB r f (-1) j (d : Int)) by
                            rw [stepOk_is HSK.out]
                            have h1 : (endOf xs (i : Int)).2 = (decide (aN = i) || decide (bN = i)) := by
                              unfold endOf
                              by_cases c1 : (i : Int) = xs.A
                              · rw [if_pos c1, decide_eq_true (by have := HXA.out; omega)]; rfl
                              · rw [if_neg c1, decide_eq_false (by have := HXA.out; omega)]
                                by_cases c2 : (i : Int) = xs.B
                                · rw [if_pos c2, decide_eq_true (by have := HXB.out; omega)]; rfl
                                · rw [if_neg c2, decide_eq_false (by have := HXB.out; omega)]; rfl
                            show ((endOf xs (i : Int)).2 && decide ((q : Int) + xs.L ≤ f.pace) && _) = _
                            rw [h1, HXL.out, HPP.out])
                          generalize openB r f (-1) j (d : Int) = ov at u1 HSO
                          cases ov
                          · go_wp2_with fail
                            go_meet
                            exact ⟨by rw [HSO.out]; simp, rfl⟩
                          · by_cases cA : aN = i
                            · have d1 : ((aN : Int) == (i : Int)) = true := by simp [cA]
                              by_cases cP : (q : Int) + (lN : Int) ≤ (P : Int)
                              · have HV := Lib.hid (show (((decide (aN = i) || decide (bN = i)) && decide ((q : Int) + (lN : Int) ≤ (P : Int))) && true) = true by rw [decide_eq_true cA, decide_eq_true cP]; rfl)
                                clear cA
                                go_wp2_with fail
                                go_meet
                                exact ⟨by rw [HSO.out, HV.out], rfl⟩
                              · have HV := Lib.hid (show (((decide (aN = i) || decide (bN = i)) && decide ((q : Int) + (lN : Int) ≤ (P : Int))) && true) = false by rw [decide_eq_true cA, decide_eq_false cP]; rfl)
                                clear cA
                                go_wp2_with fail
                                go_meet
                                exact ⟨by rw [HSO.out, HV.out], rfl⟩
                            · have d1 : ((aN : Int) == (i : Int)) = false := by simp; omega
                              by_cases cB : bN = i
                              · have d2 : ((bN : Int) == (i : Int)) = true := by simp [cB]
                                by_cases cP : (q : Int) + (lN : Int) ≤ (P : Int)
                                · have HV := Lib.hid (show (((decide (aN = i) || decide (bN = i)) && decide ((q : Int) + (lN : Int) ≤ (P : Int))) && true) = true by rw [decide_eq_false cA, decide_eq_true cB, decide_eq_true cP]; rfl)
                                  clear cA cB
                                  go_wp2_with fail
                                  go_meet
                                  exact ⟨by rw [HSO.out, HV.out], rfl⟩
                                · have HV := Lib.hid (show (((decide (aN = i) || decide (bN = i)) && decide ((q : Int) + (lN : Int) ≤ (P : Int))) && true) = false by rw [decide_eq_false cA, decide_eq_true cB, decide_eq_false cP]; rfl)
                                  clear cA cB
                                  go_wp2_with fail
                                  go_meet
                                  exact ⟨by rw [HSO.out, HV.out], rfl⟩
                              · have d2 : ((bN : Int) == (i : Int)) = false := by simp; omega
                                have HV := Lib.hid (show (((decide (aN = i) || decide (bN = i)) && decide ((q : Int) + (lN : Int) ≤ (P : Int))) && true) = false by rw [decide_eq_false cA, decide_eq_false cB]; rfl)
                                clear cA cB
                                go_wp2_with fail
                                go_meet
                                exact ⟨by rw [HSO.out, HV.out], rfl⟩
                        case rest =>
                          obtain ⟨rfl, hw⟩ := hcut
                          subst hw
                          clear u0 u1
                          cases hso : stepOk r f (-1) (d : Int) ((i : Int), (q : Int)) j with
                          | none =>
                            have HNO := Lib.hid (restK_no (tt := (tt : Int)) (last := (last : Int)) hso); clear hso
                            dsimp only [Option.isSome]
                            clear t0 t1 t2 x4 c0 e3
                            go_wp2_with fail
                            exact ⟨⟨j + 1, by omega, by go_num, by rw [HNO.out, HRK.out], HG1.out, HBR1.out⟩, by simp [intOf]; omega⟩
                          | some o =>
                            have hstep := restK_step G.out (tt := (tt : Int)) (last := (last : Int)) hso
                            obtain ⟨xs', hx', h1, h2, _, ho⟩ := stepOk_some.1 hso
                            rw [HSK.out] at hx'
                            obtain rfl : xs = xs' := by simpa using hx'
                            obtain ⟨o1, o2⟩ := endOf_range G.out HMEM.out h1
                            obtain ⟨oN, hoN⟩ := Int.eq_ofNat_of_zero_le o1
                            have hoS : oN < s := by have := HS.out; omega
                            have hsum : (aN : Int) + (bN : Int) - (i : Int) = (oN : Int) := by
                              have := (playEnd (S := r.stages) ⟨by rw [HXA.out]; omega, by rw [HXA.out, HS.out]; omega⟩ ⟨by rw [HXB.out]; omega, by rw [HXB.out, HS.out]; omega⟩ h1).2.2
                              rw [← hoN, HXA.out] at *
                              rw [HXB.out] at this
                              omega
                            have hlP : q + lN ≤ P := by have h3 : (q : Int) + xs.L ≤ f.pace := h2; rw [HXL.out, HPP.out] at h3; omega
                            have hRo : (o.2 - (((i : Int), (q : Int)) : Int × Int).2) + restR r f (tt : Int) (last : Int) (d : Int) o = (lN : Int) + restR r f (tt : Int) (last : Int) (d : Int) ((oN : Int), ((q + lN : Nat) : Int)) := by
                              rw [ho]
                              show ((q : Int) + xs.L - (q : Int)) + restR r f _ _ _ ((endOf xs (i : Int)).1, (q : Int) + xs.L) = _
                              have h4 : (endOf xs (i : Int)).1 = (oN : Int) := hoN
                              rw [h4, HXL.out, show (q : Int) + (lN : Int) = ((q + lN : Nat) : Int) from rfl]; omega
                            rw [hRo, HRK.out] at hstep
                            have y0 := HG1.out.row (Nat.le_refl _) hoS
                            have y1 := HG1.out.cell hoS (show q + lN < P + 1 by omega)
                            unfold gInt at y1
                            dsimp only at y1
                            rw [if_pos (Or.inl (by omega))] at y1
                            obtain ⟨r1, r2⟩ := restR_range G.out (tt := (tt : Int)) (last := (last : Int)) (d := (d : Int)) (p := ((oN : Int), ((q + lN : Nat) : Int)))
                            generalize restR r f (tt : Int) (last : Int) (d : Int) ((oN : Int), ((q + lN : Nat) : Int)) = ro at y1 hstep r1 r2
                            have HSTEP := Lib.hid hstep; clear hstep
                            clear hso hx' h1 h2 ho o1 o2 hoN hRo
                            dsimp only [Option.isSome]
                            have e1 : IntKind.i64.wrap ((aN : Int) + (bN : Int)) = (aN : Int) + (bN : Int) := IntWalk.i64_in _ (by omega)
                            have e2 : IntKind.i64.wrap ((aN : Int) + (bN : Int) - (i : Int)) = (oN : Int) := by rw [hsum]; exact IntWalk.i64_in _ (by omega)
                            have e5 : IntKind.i64.wrap ((q : Int) + (lN : Int)) = ((q + lN : Nat) : Int) := e3
                            have e4 : IntKind.i64.wrap ((lN : Int) + ro) = (lN : Int) + ro := IntWalk.i64_in _ (by omega)
                            have q8 : (oN : Int) < (s : Int) := by omega
                            have q9 : ((q + lN : Nat) : Int) < (P : Int) + 1 := by omega
                            clear e3 x4 hsum
                            go_upto_region 26 with (fail)
                            go_quiet (fail)
                            go_wp2_with fail
                            have hbq := below_drewN (Below.refl wc.heap.size wc) nq
                            exact ⟨⟨j + 1, by omega, by go_num, by rw [HSTEP.out]; congr 1; split <;> omega, HG1.out.below hbq, HBR1.out.trans (hbq.mono (Nat.le_of_lt HG1.out.lt))⟩, by simp [intOf]; omega⟩
                      · obtain rfl : j = N := by omega
                        have c0 := HBc.out _ HBR.out
                        have y0 := HG.out.row (Nat.le_refl _) hiS
                        have y1 := HG.out.cell hiS (show q < P + 1 by omega)
                        have y2 := HG.out.free hiS q
                        have hbi := HG.out.bI i hiS
                        have hRN : restK r f (tt : Int) (last : Int) (d : Int) ((i : Int), (q : Int)) j = restR r f (tt : Int) (last : Int) (d : Int) ((i : Int), (q : Int)) := by
                          rw [← HN.out]
                          exact restK_all G.out (by omega) (by omega) (by have := HD.out; have := G.out.d2; omega) (by show (0 : Int) ≤ (q : Int); omega) (by show (q : Int) ≤ f.pace; rw [HPP.out]; omega)
                        rw [hRN]
                        have HSET := Lib.hid (HG.out.set hiS q (.int .i64 (restR r f (tt : Int) (last : Int) (d : Int) ((i : Int), (q : Int))))); clear HG
                        have q6 : (q : Int) < (P : Int) + 1 := by omega
                        clear hRN
                        go_wp2_with fail
                        exact ⟨⟨i + 1, by omega, by go_num, HSET.out.congr fun i' l _ _ => by
                          unfold gInt
                          dsimp only
                          by_cases c : i' = i ∧ l = q
                          · obtain ⟨rfl, rfl⟩ := c; rw [if_pos ⟨rfl, rfl⟩, if_pos (.inr ⟨rfl, by omega⟩)]
                          · rw [if_neg c]
                            by_cases c2 : q + 1 ≤ l ∨ (l = q ∧ i' < i)
                            · rw [if_pos c2, if_pos (by omega)]
                            · rw [if_neg c2, if_neg (by omega)], HBR.out.setCell (p := ⟨gbn i, q, none⟩) hbi _⟩, by simp [intOf]; omega⟩
                · obtain rfl : i = s := by omega
                  go_wp2_with fail
                  exact ⟨⟨q, by omega, rfl, HG.out.congr fun i' l hi' _ => by
                    unfold gInt
                    dsimp only
                    by_cases c : q ≤ l
                    · rw [if_pos (by omega), if_pos c]
                    · rw [if_neg (by omega), if_neg c], HBR.out⟩, by simp [intOf] <;> omega⟩
            · obtain rfl : u = 0 := by omega
              go_wp2_with fail
              exact ⟨⟨d, by omega, rfl, ⟨_, _, Cube.close P1.out P2.out HLT.out HOB.out (Nat.le_refl _) (HG.out.congr fun i' l _ _ => by unfold gInt; dsimp only; rw [if_pos (Nat.zero_le _)]) HBR.out⟩, HBk.out _ HBR.out⟩, by simp [intOf] <;> omega⟩
    · obtain rfl : m = 0 := by omega
      go_wp2_with fail
      go_ret
      exact ⟨_, og, gb, rfl, ⟨HC.out.outer, HC.out.grid, HB0.out.size⟩, HB0.out.trans (HBR.out.mono HB0.out.size)⟩
end Go.Proofs.Ytjgkgnfhglhklaa
