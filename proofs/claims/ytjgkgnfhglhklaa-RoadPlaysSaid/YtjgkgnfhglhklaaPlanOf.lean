/- The contract of mestalaw02.planOf . -/
import Derived.Test.YtjgkgnfhglhklaaBarsR
import Derived.Test.YtjgkgnfhglhklaaDeal
import Derived.Test.YtjgkgnfhglhklaaAfoot
namespace Go.Proofs.Ytjgkgnfhglhklaa
set_option linter.unusedSimpArgs false
set_option linter.unusedVariables false
open Go.RowKit

theorem check_strips {r : Roads} (h : checkR r = 0) : ∀ s ∈ r.strips, 0 ≤ s.A ∧ s.A < 6 ∧ 0 ≤ s.B ∧ s.B < 6 := fun s hs => by
  have g : Good r ⟨1, 1⟩ := good_iff.2 ⟨h, by decide⟩
  have h2 := g.s2
  obtain ⟨b1, b2, b3, b4, _⟩ := g.strip s hs
  omega

set_option maxRecDepth 100000 in
set_option maxHeartbeats 8000000 in
theorem planOf_any (w : World) (hb B : Nat) (a : Option Addr) (n c : Nat) (hh : HandAt w hb B a n c) (hB : B ≤ 800000) (r : Roads) (f : Flock) (hc : checkR r = 0) (ra : Option Addr) (rc : Nat) (hs : ∀ S : World, Ext hb w S → StripsAt S ra r.strips) (fr : Int) :
    Calls Try.prog 66 #[.pointer (some ⟨hb, 0, none⟩), .agg #[.int .i64 r.days, .int .i64 r.stages, .slice ra r.strips.length rc], .agg #[.int .i64 f.heads, .int .i64 f.pace], .int .i64 fr] w
      fun e w' => ∃ v L, e = .returned v ∧ OwnStrides w' w.heap.size v L ∧ L.length ≤ 6 ∧ HandAt w' hb (B + 30) a n c ∧ Ext hb w w' := by
  obtain ⟨d1, d2, t1, t2, n8⟩ := check_size hc
  have hlt := hh.lt
  have hb0 : Below w.heap.size w ((w.alloc (.cells #[.int .i64 r.days, .int .i64 r.stages, .slice ra r.strips.length rc] 24)).alloc (.cells #[.int .i64 f.heads, .int .i64 f.pace] 26)) := ((Below.refl _ _).alloc (Nat.le_refl _) _).alloc (by simp) _
  have hz0 : ((w.alloc (.cells #[.int .i64 r.days, .int .i64 r.stages, .slice ra r.strips.length rc] 24)).alloc (.cells #[.int .i64 f.heads, .int .i64 f.pace] 26)).heap.size = w.heap.size + 2 := by simp
  have x0 : ((w.alloc (.cells #[.int .i64 r.days, .int .i64 r.stages, .slice ra r.strips.length rc] 24)).alloc (.cells #[.int .i64 f.heads, .int .i64 f.pace] 26)).cell? ⟨w.heap.size, 0, none⟩ = some (.int .i64 r.days) := by simp [go_sem]
  have x1 : ((w.alloc (.cells #[.int .i64 r.days, .int .i64 r.stages, .slice ra r.strips.length rc] 24)).alloc (.cells #[.int .i64 f.heads, .int .i64 f.pace] 26)).cell? ⟨w.heap.size, 1, none⟩ = some (.int .i64 r.stages) := by simp [go_sem]
  have x2 : ((w.alloc (.cells #[.int .i64 r.days, .int .i64 r.stages, .slice ra r.strips.length rc] 24)).alloc (.cells #[.int .i64 f.heads, .int .i64 f.pace] 26)).cell? ⟨w.heap.size, 2, none⟩ = some (.slice ra r.strips.length rc) := by simp [go_sem]
  have x3 : ((w.alloc (.cells #[.int .i64 r.days, .int .i64 r.stages, .slice ra r.strips.length rc] 24)).alloc (.cells #[.int .i64 f.heads, .int .i64 f.pace] 26)).cell? ⟨w.heap.size + 1, 0, none⟩ = some (.int .i64 f.heads) := by simp [go_sem]
  have x4 : ((w.alloc (.cells #[.int .i64 r.days, .int .i64 r.stages, .slice ra r.strips.length rc] 24)).alloc (.cells #[.int .i64 f.heads, .int .i64 f.pace] 26)).cell? ⟨w.heap.size + 1, 1, none⟩ = some (.int .i64 f.pace) := by simp [go_sem]
  have HH := Lib.hid (hh.below hb0); clear hh
  have HS := Lib.hid hs; clear hs
  have HC := Lib.hid hc; clear hc
  go_enter Try.func66, Try.ntmps66
  go_upto_region 1 with (fail)
  generalize ((w.alloc (.cells #[.int .i64 r.days, .int .i64 r.stages, .slice ra r.strips.length rc] 24)).alloc (.cells #[.int .i64 f.heads, .int .i64 f.pace] 26)) = W0 at hb0 hz0 x0 x1 x2 x3 x4 HH ⊢
  have HB0 := Lib.hid hb0; clear hb0
  have HZ0 := Lib.hid hz0; clear hz0
  have E0 := Lib.hid (Ext.of_below (m := hb) HB0.out)
  have X0 := Lib.hid x0; clear x0
  have X1 := Lib.hid x1; clear x1
  have X2 := Lib.hid x2; clear x2
  have X3 := Lib.hid x3; clear x3
  have X4 := Lib.hid x4; clear x4
  obtain ⟨N, hN⟩ : ∃ N, r.strips.length = N := ⟨_, rfl⟩
  have HN := Lib.hid hN
  rw [hN] at n8
  clear hN
  go_wp2_with fail
  refine (Upto_any W0 hb B a n c HH.out (by omega) 6 (by omega) (by omega)).mono ?_
  rintro e w1 ⟨_, ⟨x, hx1, hx2, rfl⟩, rfl, hh1, hE1⟩
  obtain ⟨i0, rfl⟩ := Int.eq_ofNat_of_zero_le hx1
  have HH1 := Lib.hid hh1; clear hh1 HH
  have E1 := Lib.hid hE1; clear hE1
  have hi0 : i0 ≤ 6 := by omega
  clear hx1 hx2
  go_wp2_with fail
  go_loopw [9, 10, 11, 12] (fun v9 v10 v11 v12 wx => ∃ (i day : Nat) (pos : Int) (acc : List (Int × Int)), i ≤ 6 ∧ v12 = .int .i64 (i : Int) ∧ v10 = .int .i64 (day : Int) ∧ day + 2 * i ≤ 12 ∧ v11 = .int .i64 pos ∧ OwnStrides wx W0.heap.size v9 acc ∧ acc.length + i ≤ 6 ∧ HandAt wx hb (B + 1 + 2 * (6 - i)) a n c ∧ Ext hb W0 wx) (fun _ _ _ v _ => (intOf v).toNat)
  case atStart => exact ⟨i0, 0, fr, [], hi0, rfl, rfl, by omega, rfl, OwnStrides.nil _ _, by simpa using hi0, HH1.out.more (by omega), E1.out⟩
  case round =>
    obtain ⟨i, day, pos, acc, hi, rfl, rfl, hday, rfl, hown, hacc, hhx, hE⟩ := hrel
    clear HH1 E1
    have HH := Lib.hid hhx; clear hhx
    have HOWN := Lib.hid hown; clear hown
    have hlw : hb < w.heap.size := hlt
    have c2 := hE.cell_ne X2.out (by omega)
    have EX := Lib.hid hE; clear hE
    by_cases hin : 0 < i ∧ 0 < N
    · obtain ⟨hi0', hN0⟩ := hin
      rw [HN.out] at c2
      have q1 : 0 < i := hi0'
      have q2 : decide (0 < i) = true := decide_eq_true q1
      have q3 : decide (0 < N) = true := decide_eq_true hN0
      have hbA : Below wr.heap.size wr (wr.alloc (.cells #[.int .i64 0, .int .i64 1, .int .i64 2] 3)) := (Below.refl _ _).alloc (Nat.le_refl _) _
      have hwr : hb < wr.heap.size := HH.out.lt
      have hof := Of_any (wr.alloc (.cells #[.int .i64 0, .int .i64 1, .int .i64 2] 3)) hb (B + 1 + 2 * (6 - i)) a n c (HH.out.below hbA) (by omega) 0 _ 3 [0, 1, 2] (ints_new (w := wr) [0, 1, 2]) (fun ad e => by cases e; show wr.heap.size ≠ hb; omega) (by simp)
      rw [show ([0, 1, 2] : List Int).length = 3 from rfl] at hof
      have HOF := Lib.hid hof; clear hof
      have EA := Lib.hid (EX.out.trans (Ext.of_below (m := hb) hbA)); clear hbA EX
      have HOWNA := Lib.hid (HOWN.out.alloc (.cells #[.int .i64 0, .int .i64 1, .int .i64 2] 3)); clear HOWN
      go_wp2_with fail
      refine HOF.out.mono ?_
      clear HOF HH
      rintro e w2 ⟨_, ⟨y, hy, rfl⟩, rfl, hh2, hE2⟩
      have hy2 : 0 ≤ y ∧ y ≤ 2 := by simp at hy; omega
      obtain ⟨dy, rfl⟩ := Int.eq_ofNat_of_zero_le hy2.1
      clear hy
      have HH2 := Lib.hid hh2; clear hh2
      have E2 := Lib.hid (EA.out.trans hE2)
      have HOWN2 := Lib.hid (HOWNA.out.ext hE2 (by have := HZ0.out; omega)); clear hE2 EA HOWNA
      have c2' := E2.out.cell_ne X2.out (by omega)
      rw [HN.out] at c2'
      clear c2
      have q4 : IntKind.i64.wrap ((N : Int) - 1) = (N : Int) - 1 := IntWalk.i64_in _ (by omega)
      have hdy : ((day + dy : Nat) : Int) = (day : Int) + (dy : Int) := by omega
      obtain ⟨day2, hday2⟩ : ∃ v, day + dy = v := ⟨_, rfl⟩
      rw [hday2] at hdy
      have hd2 : day2 + 2 * (i - 1) ≤ 12 := by omega
      have HDY := Lib.hid hdy; clear hdy
      have HUP := Lib.hid (Upto_any w2 hb (B + 1 + 2 * (6 - i) + 1) a n c HH2.out (by omega) ((N : Int) - 1) (by omega) (by omega))
      go_wp2_with fail
      refine HUP.out.mono ?_
      clear HUP HH2 c2'
      rintro e w3 ⟨_, ⟨k0, hk1, hk2, rfl⟩, rfl, hh3, hE3⟩
      obtain ⟨k0, rfl⟩ := Int.eq_ofNat_of_zero_le hk1
      have hk0 : k0 < N := by omega
      clear hk1 hk2 q4
      have HH3 := Lib.hid hh3; clear hh3
      have E3 := Lib.hid (E2.out.trans hE3)
      have HOWN3 := Lib.hid (HOWN2.out.ext hE3 (by have := HZ0.out; omega)); clear hE3 E2 HOWN2
      have Y0 := Lib.hid (E3.out.cell_ne X0.out (by omega))
      have Y1 := Lib.hid (E3.out.cell_ne X1.out (by omega))
      have Y2 := Lib.hid (E3.out.cell_ne X2.out (by omega))
      have Y3 := Lib.hid (E3.out.cell_ne X3.out (by omega))
      have Y4 := Lib.hid (E3.out.cell_ne X4.out (by omega))
      have HST3 := Lib.hid (HS.out w3 (E0.out.trans E3.out))
      go_wp2_with fail
      rw [← HDY.out]
      go_loopw [13, 14] (fun v13 v14 wx => ∃ k t : Nat, k < N ∧ t ≤ N ∧ v13 = .int .i64 (k : Int) ∧ v14 = .int .i64 (t : Int) ∧ Below w3.heap.size w3 wx) (fun _ v _ => N - (intOf v).toNat)
      case atStart => exact ⟨k0, 0, hk0, Nat.zero_le _, rfl, rfl, Below.refl _ _⟩
      case round =>
        obtain ⟨k, t, hk, ht, rfl, rfl, hbw⟩ := hrel
        have y2 := ((bcell hbw).1 _ _ (lt_of_cell Y2.out)).trans Y2.out
        rw [HN.out] at y2
        have hstw := HST3.out.below hbw
        by_cases htN : t < N
        · have y0 := ((bcell hbw).1 _ _ (lt_of_cell Y0.out)).trans Y0.out
          have y1 := ((bcell hbw).1 _ _ (lt_of_cell Y1.out)).trans Y1.out
          have y3 := ((bcell hbw).1 _ _ (lt_of_cell Y3.out)).trans Y3.out
          have y4 := ((bcell hbw).1 _ _ (lt_of_cell Y4.out)).trans Y4.out
          have hbr := refBars_any wr r f ra rc hstw (by unfold maxLen; have := HN.out; omega) (k : Int) (day2 : Int)
          rw [HN.out] at hbr
          have HBR := Lib.hid hbr; clear hbr
          have HBW := Lib.hid hbw; clear hbw
          have HSTW := Lib.hid hstw; clear hstw
          have q5 : (t : Int) < (N : Int) := by omega
          go_wp2_with fail
          refine HBR.out.mono ?_
          clear HBR y0 y1 y3 y4
          rintro e w5 hP
          obtain ⟨ga, gc, rfl, _, hb5⟩ := hP.val
          clear hP
          obtain ⟨L, hL⟩ : ∃ L, (barsV r f (k : Int) (day2 : Int)).1 = L := ⟨_, rfl⟩
          obtain ⟨er, her⟩ : ∃ er, (barsV r f (k : Int) (day2 : Int)).2 = er := ⟨_, rfl⟩
          rw [hL, her]
          clear hL her
          have z2 := ((bcell hb5).1 _ _ (lt_of_cell y2)).trans y2
          clear y2
          have HB5 := Lib.hid (HBW.out.trans (hb5.mono HBW.out.size))
          have hst5 := HSTW.out.below hb5
          clear hb5
          have hkl : k < r.strips.length := by rw [HN.out]; exact hk
          rcases hst5 with h0 | ⟨sb, so, rfl, hsc⟩
          · rw [h0] at hkl; simp at hkl
          obtain ⟨b0, b1, b2, b3, b4, b5, b6⟩ := hsc k hkl
          clear hsc
          generalize r.strips[k] = st at b0 b1 b2 b3 b4 b5 b6
          have q6 : (k : Int) < (N : Int) := by omega
          go_upto_region 13 with (fail)
          have hA3 : Below w5.heap.size w5 (w5.alloc (.cells #[.int .i64 st.A, .int .i64 st.B, .int .i64 st.L, .int .i64 st.W, .int .i64 st.K, .int .i64 st.X, .int .i64 st.Y] 57)) := (Below.refl _ _).alloc (Nat.le_refl _) _
          have s0 : (w5.alloc (.cells #[.int .i64 st.A, .int .i64 st.B, .int .i64 st.L, .int .i64 st.W, .int .i64 st.K, .int .i64 st.X, .int .i64 st.Y] 57)).cell? ⟨w5.heap.size, 0, none⟩ = some (.int .i64 st.A) := by simp [go_sem]
          have s1 : (w5.alloc (.cells #[.int .i64 st.A, .int .i64 st.B, .int .i64 st.L, .int .i64 st.W, .int .i64 st.K, .int .i64 st.X, .int .i64 st.Y] 57)).cell? ⟨w5.heap.size, 1, none⟩ = some (.int .i64 st.B) := by simp [go_sem]
          have z3 := ((bcell hA3).1 _ _ (lt_of_cell z2)).trans z2
          have HB6 := Lib.hid (HB5.out.trans (hA3.mono HB5.out.size))
          clear b0 b1 b2 b3 b4 b5 b6 z2 hA3
          generalize (w5.alloc (.cells #[.int .i64 st.A, .int .i64 st.B, .int .i64 st.L, .int .i64 st.W, .int .i64 st.K, .int .i64 st.X, .int .i64 st.Y] 57)) = W6 at s0 s1 z3 HB6 ⊢
          generalize w5.heap.size = sq at s0 s1 ⊢
          go_cut [77] (fun v77 wx => ∃ bb : Bool, v77 = .bool bb ∧ wx = W6)
          case first =>
            by_cases eA : st.A = pos <;> by_cases eB : st.B = pos <;> cases L <;> (go_wp2_with fail; go_meet; exact ⟨_, rfl, rfl⟩)
          case rest =>
            obtain ⟨bb, rfl, rfl⟩ := hcut
            cases bb
            · have q7 : ((N : Int) == 0) = false := by simp only [beq_eq_false_iff_ne, ne_eq]; omega
              have q8 : (N : Int) ≠ 0 := by omega
              go_wp2_with fail
              exact ⟨⟨(k + 1) % N, t + 1, Nat.mod_lt _ hN0, by omega, by simp, by go_num, HB6.out⟩, by simp [intOf]; omega⟩
            · clear s0 s1
              go_wp2_with (at_builtin; refine app_stride1 rfl _ _ rfl W0.heap.size _ _ rfl (HOWN3.out.below HB6.out) _ _ rfl (by omega) (by have := E3.out.size; have := HB6.out.size; omega) ?_)
              intro v' w' hown' hbel _ _
              have hsz3 := E3.out.size
              have hszb := HB6.out.size
              have hz := HZ0.out
              have E7 := Lib.hid (show Ext hb W0 w' from ⟨hbel.os.trans (HB6.out.os.trans E3.out.os), hbel.tape.trans (HB6.out.tape.trans E3.out.tape), hbel.output.trans (HB6.out.output.trans E3.out.output), by have := hbel.size; omega, fun k0 hk0 hne => (hbel.block k0 hk0).trans ((HB6.out.block k0 (by omega)).trans (E3.out.block k0 hk0 hne))⟩)
              have HH7 := Lib.hid ((HH3.out.below HB6.out).keep (w' := w') fun b0 hb0 hle => hbel.block b0 (by omega))
              have HOWN7 := Lib.hid hown'; clear hown'
              have x2' := (hbel.cell (p := ⟨w.heap.size, 2, none⟩) (by show w.heap.size < W0.heap.size; omega)).trans z3
              have hst7 := HS.out w' (E0.out.trans E7.out)
              have hkl2 : k < r.strips.length := by rw [HN.out]; exact hk
              clear hbel
              rcases hst7 with h0 | ⟨sb2, so2, hra, hsc2⟩
              · rw [h0] at hkl2; simp at hkl2
              cases hra
              obtain ⟨b0, b1, b2, b3, b4, b5, b6⟩ := hsc2 k hkl2
              clear hsc2
              have hgs := check_strips HC.out _ (List.getElem_mem hkl2)
              generalize r.strips[k] = st at b0 b1 b2 b3 b4 b5 b6 hgs
              have q9 : (k : Int) < (N : Int) := by omega
              go_upto_region 17 with (fail)
              have hA4 : Below w'.heap.size w' (w'.alloc (.cells #[.int .i64 st.A, .int .i64 st.B, .int .i64 st.L, .int .i64 st.W, .int .i64 st.K, .int .i64 st.X, .int .i64 st.Y] 57)) := (Below.refl _ _).alloc (Nat.le_refl _) _
              have s0 : (w'.alloc (.cells #[.int .i64 st.A, .int .i64 st.B, .int .i64 st.L, .int .i64 st.W, .int .i64 st.K, .int .i64 st.X, .int .i64 st.Y] 57)).cell? ⟨w'.heap.size, 0, none⟩ = some (.int .i64 st.A) := by simp [go_sem]
              have s1 : (w'.alloc (.cells #[.int .i64 st.A, .int .i64 st.B, .int .i64 st.L, .int .i64 st.W, .int .i64 st.K, .int .i64 st.X, .int .i64 st.Y] 57)).cell? ⟨w'.heap.size, 1, none⟩ = some (.int .i64 st.B) := by simp [go_sem]
              have HOWN8 := Lib.hid (HOWN7.out.below hA4)
              have HH8 := Lib.hid ((HH7.out.below hA4).more (B' := B + 1 + 2 * (6 - (i - 1))) (by omega))
              have E8 := Lib.hid (E7.out.trans (Ext.of_below (m := hb) hA4))
              clear b0 b1 b2 b3 b4 b5 b6 x2' hA4
              generalize (w'.alloc (.cells #[.int .i64 st.A, .int .i64 st.B, .int .i64 st.L, .int .i64 st.W, .int .i64 st.K, .int .i64 st.X, .int .i64 st.Y] 57)) = W8 at s0 s1 HOWN8 HH8 E8 ⊢
              generalize w'.heap.size = sq at s0 s1 ⊢
              obtain ⟨a1, a2, a3, a4⟩ := hgs
              by_cases eA : st.A = pos
              · have eA2 : pos ≤ 6 ∧ 0 ≤ pos := by omega
                go_wp2_with fail
                exact ⟨⟨i - 1, day2, _, acc ++ [((day2 : Int), (k : Int))], by omega, by rw [show ((i - 1 : Nat) : Int) = (i : Int) - 1 by omega], rfl, hd2, rfl, HOWN8.out, by simp; omega, HH8.out, E8.out⟩, by simp [intOf]; omega⟩
              · by_cases eB : st.B = pos
                · have eB2 : pos ≤ 6 ∧ 0 ≤ pos := by omega
                  go_wp2_with fail
                  exact ⟨⟨i - 1, day2, _, acc ++ [((day2 : Int), (k : Int))], by omega, by rw [show ((i - 1 : Nat) : Int) = (i : Int) - 1 by omega], rfl, hd2, rfl, HOWN8.out, by simp; omega, HH8.out, E8.out⟩, by simp [intOf]; omega⟩
                · have f1 : (st.A == pos) = false := by simpa using eA
                  have f2 : (st.B == pos) = false := by simpa using eB
                  have f3 : ((st.A == pos) || (st.B == pos)) = false := by rw [f1, f2]; rfl
                  go_wp2_with fail
                  exact ⟨⟨i - 1, day2, _, acc ++ [((day2 : Int), (k : Int))], by omega, by rw [show ((i - 1 : Nat) : Int) = (i : Int) - 1 by omega], rfl, hd2, rfl, HOWN8.out, by simp; omega, HH8.out, E8.out⟩, by simp [intOf]; omega⟩
        · have htn : ¬ (t : Int) < (N : Int) := by omega
          have HB6 := Lib.hid hbw; clear hbw hstw
          go_wp2_with (at_builtin; refine app_stride1 rfl _ _ rfl W0.heap.size _ _ rfl (HOWN3.out.below HB6.out) _ _ rfl (by omega) (by have := E3.out.size; have := HB6.out.size; omega) ?_)
          intro v' w' hown' hbel _ _
          have hsz3 := E3.out.size
          have hszb := HB6.out.size
          have hz := HZ0.out
          have E7 := Lib.hid (show Ext hb W0 w' from ⟨hbel.os.trans (HB6.out.os.trans E3.out.os), hbel.tape.trans (HB6.out.tape.trans E3.out.tape), hbel.output.trans (HB6.out.output.trans E3.out.output), by have := hbel.size; omega, fun k0 hk0 hne => (hbel.block k0 hk0).trans ((HB6.out.block k0 (by omega)).trans (E3.out.block k0 hk0 hne))⟩)
          have HH7 := Lib.hid ((HH3.out.below HB6.out).keep (w' := w') fun b0 hb0 hle => hbel.block b0 (by omega))
          have HOWN7 := Lib.hid hown'; clear hown'
          have x2' := (hbel.cell (p := ⟨w.heap.size, 2, none⟩) (by show w.heap.size < W0.heap.size; omega)).trans y2
          have hst7 := HS.out w' (E0.out.trans E7.out)
          have hkl2 : k < r.strips.length := by rw [HN.out]; exact hk
          clear hbel
          rcases hst7 with h0 | ⟨sb2, so2, hra, hsc2⟩
          · rw [h0] at hkl2; simp at hkl2
          cases hra
          obtain ⟨b0, b1, b2, b3, b4, b5, b6⟩ := hsc2 k hkl2
          clear hsc2
          have hgs := check_strips HC.out _ (List.getElem_mem hkl2)
          generalize r.strips[k] = st at b0 b1 b2 b3 b4 b5 b6 hgs
          have q9 : (k : Int) < (N : Int) := by omega
          go_upto_region 17 with (fail)
          have hA4 : Below w'.heap.size w' (w'.alloc (.cells #[.int .i64 st.A, .int .i64 st.B, .int .i64 st.L, .int .i64 st.W, .int .i64 st.K, .int .i64 st.X, .int .i64 st.Y] 57)) := (Below.refl _ _).alloc (Nat.le_refl _) _
          have s0 : (w'.alloc (.cells #[.int .i64 st.A, .int .i64 st.B, .int .i64 st.L, .int .i64 st.W, .int .i64 st.K, .int .i64 st.X, .int .i64 st.Y] 57)).cell? ⟨w'.heap.size, 0, none⟩ = some (.int .i64 st.A) := by simp [go_sem]
          have s1 : (w'.alloc (.cells #[.int .i64 st.A, .int .i64 st.B, .int .i64 st.L, .int .i64 st.W, .int .i64 st.K, .int .i64 st.X, .int .i64 st.Y] 57)).cell? ⟨w'.heap.size, 1, none⟩ = some (.int .i64 st.B) := by simp [go_sem]
          have HOWN8 := Lib.hid (HOWN7.out.below hA4)
          have HH8 := Lib.hid ((HH7.out.below hA4).more (B' := B + 1 + 2 * (6 - (i - 1))) (by omega))
          have E8 := Lib.hid (E7.out.trans (Ext.of_below (m := hb) hA4))
          clear b0 b1 b2 b3 b4 b5 b6 x2' hA4
          generalize (w'.alloc (.cells #[.int .i64 st.A, .int .i64 st.B, .int .i64 st.L, .int .i64 st.W, .int .i64 st.K, .int .i64 st.X, .int .i64 st.Y] 57)) = W8 at s0 s1 HOWN8 HH8 E8 ⊢
          generalize w'.heap.size = sq at s0 s1 ⊢
          obtain ⟨a1, a2, a3, a4⟩ := hgs
          by_cases eA : st.A = pos
          · have eA2 : pos ≤ 6 ∧ 0 ≤ pos := by omega
            go_wp2_with fail
            exact ⟨⟨i - 1, day2, _, acc ++ [((day2 : Int), (k : Int))], by omega, by rw [show ((i - 1 : Nat) : Int) = (i : Int) - 1 by omega], rfl, hd2, rfl, HOWN8.out, by simp; omega, HH8.out, E8.out⟩, by simp [intOf]; omega⟩
          · by_cases eB : st.B = pos
            · have eB2 : pos ≤ 6 ∧ 0 ≤ pos := by omega
              go_wp2_with fail
              exact ⟨⟨i - 1, day2, _, acc ++ [((day2 : Int), (k : Int))], by omega, by rw [show ((i - 1 : Nat) : Int) = (i : Int) - 1 by omega], rfl, hd2, rfl, HOWN8.out, by simp; omega, HH8.out, E8.out⟩, by simp [intOf]; omega⟩
            · have f1 : (st.A == pos) = false := by simpa using eA
              have f2 : (st.B == pos) = false := by simpa using eB
              have f3 : ((st.A == pos) || (st.B == pos)) = false := by rw [f1, f2]; rfl
              go_wp2_with fail
              exact ⟨⟨i - 1, day2, _, acc ++ [((day2 : Int), (k : Int))], by omega, by rw [show ((i - 1 : Nat) : Int) = (i : Int) - 1 by omega], rfl, hd2, rfl, HOWN8.out, by simp; omega, HH8.out, E8.out⟩, by simp [intOf]; omega⟩
    · rw [HN.out] at c2
      have hz := HZ0.out
      have HDONE := Lib.hid (show OwnStrides wr w.heap.size u9 acc ∧ acc.length ≤ 6 from ⟨HOWN.out.mono (by omega), by omega⟩)
      have HHF := Lib.hid (HH.out.more (B' := B + 30) (by omega))
      have EF := Lib.hid (E0.out.trans EX.out)
      clear hz HOWN HH EX
      by_cases h1 : 0 < i
      · have h2 : ¬ 0 < N := fun h => hin ⟨h1, h⟩
        have q2 : decide (0 < i) = true := decide_eq_true h1
        have q3 : decide (0 < N) = false := decide_eq_false h2
        clear hin
        go_wp2_with fail
        go_ret
        exact ⟨_, acc, rfl, HDONE.out.1, HDONE.out.2, HHF.out, EF.out⟩
      · have q2 : decide (0 < i) = false := decide_eq_false h1
        clear hin
        go_wp2_with fail
        go_ret
        exact ⟨_, acc, rfl, HDONE.out.1, HDONE.out.2, HHF.out, EF.out⟩
end Go.Proofs.Ytjgkgnfhglhklaa
