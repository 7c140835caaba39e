/- The contract of mestaref02.Day. -/
import Derived.Test.YtjgkgnfhglhklaaWGrid
import Derived.Test.YtjgkgnfhglhklaaRefWhy
import Derived.Test.YtjgkgnfhglhklaaNext2
import Derived.Test.YtjgkgnfhglhklaaBelowQ
import Derived.Deep.CutBlock
import Derived.Deep.RegionHeld3
import Derived.Deep.LoopGhost
namespace Go.Proofs.Ytjgkgnfhglhklaa
set_option linter.unusedSimpArgs false
set_option linter.unusedVariables false
open Go.RowKit

theorem begun (b : Nat → WalkV) (s : Nat) : setW (fun i j => if i = s then noWalk else (if j = 0 then b i else noWalk)) s 0 (b s) = (fun t u => if u = 0 then b t else noWalk) := by
  funext i j
  show (if i = s ∧ j = 0 then b s else if i = s then noWalk else if j = 0 then b i else noWalk) = (if j = 0 then b i else noWalk)
  by_cases e : i = s
  · subst e
    by_cases e2 : j = 0
    · rw [if_pos ⟨rfl, e2⟩, if_pos e2]
    · rw [if_neg (fun h => e2 h.2), if_pos rfl, if_neg e2]
  · rw [if_neg (fun h => e h.1), if_neg e]
theorem DayOk.congr {r : Roads} {f : Flock} {d : Int} {S P : Nat} {b : Nat → WalkV} {M : Int} {q q' : Nat → Nat → WalkV} (h : DayOk r f d S P b M q) (he : ∀ t u, t < S → u ≤ P → q t u = q' t u) : DayOk r f d S P b M q' :=
  ⟨fun t u h1 h2 h3 => by rw [← he t u h1 h2] at h3 ⊢; exact h.no t u h1 h2 h3, fun t u h1 h2 h3 => by rw [← he t u h1 h2] at h3 ⊢; exact h.ok t u h1 h2 h3⟩
/-- Between two passes. -/
def DayAt (r : Roads) (f : Flock) (d : Int) (S P : Nat) (b : Nat → WalkV) (M : Int) (W0 : World) (gb : Nat → Nat) (n : Nat) (c : Bool) (wx : World) : Prop :=
  ∃ q pa pc, DayOk r f d S P b M q ∧ (c = true → ∃ k, 1 ≤ k ∧ k ≤ P + 1 ∧ n + k = P + 2 ∧ Fin' r f d S P b k q) ∧ (c = false → ∀ t u, t < S → u ≤ P → q t u = dayV r f d S b u t) ∧ WGrid wx W0.heap.size W0.heap.size S S (P + 1) gb q pa pc ∧ Below W0.heap.size W0 wx
/-- In a pass. -/
def DayIn (r : Roads) (f : Flock) (d : Int) (S P : Nat) (b : Nat → WalkV) (M : Int) (W0 : World) (gb : Nat → Nat) (k s u i : Nat) (c : Bool) (wx : World) : Prop :=
  ∃ q pa pc, PassAt r f d S P b M k s u i c q ∧ WGrid wx W0.heap.size W0.heap.size S S (P + 1) gb q pa pc ∧ Below W0.heap.size W0 wx
section
variable {r : Roads} {f : Flock} {d : Int} {S P : Nat} {b : Nat → WalkV} {M : Int} {W0 : World} {gb : Nat → Nat} {n k s u i : Nat} {c : Bool} {wx w' : World}
theorem DayIn.below (h : DayIn r f d S P b M W0 gb k s u i c wx) : Below W0.heap.size W0 wx := by
  obtain ⟨_, _, _, _, _, h⟩ := h; exact h
theorem DayIn.keep (h : DayIn r f d S P b M W0 gb k s u i c wx) (hb : Below wx.heap.size wx w') : DayIn r f d S P b M W0 gb k s u i c w' := by
  obtain ⟨q, pa, pc, h1, h2, h3⟩ := h
  exact ⟨q, pa, pc, h1, h2.below hb, h3.trans (hb.mono h3.size)⟩
theorem DayIn.nextW (h : DayIn r f d S P b M W0 gb k s u i c wx) (hi : r.strips.length ≤ i) : DayIn r f d S P b M W0 gb k s (u + 1) 0 c wx := by
  obtain ⟨q, pa, pc, h1, h2, h3⟩ := h
  exact ⟨q, pa, pc, h1.nextW (.inl hi), h2, h3⟩
theorem DayIn.nextS (h : DayIn r f d S P b M W0 gb k s (P + 1) 0 c wx) : DayIn r f d S P b M W0 gb k (s + 1) 0 0 c wx := by
  obtain ⟨q, pa, pc, h1, h2, h3⟩ := h
  exact ⟨q, pa, pc, h1.nextS, h2, h3⟩
theorem DayAt.pass (h : DayAt r f d S P b M W0 gb n true wx) : ∃ k, 1 ≤ k ∧ k ≤ P + 1 ∧ n + k = P + 2 ∧ DayIn r f d S P b M W0 gb k 0 0 0 false wx := by
  obtain ⟨q, pa, pc, h1, h2, _, h4, h5⟩ := h
  obtain ⟨k, k1, k2, k3, k4⟩ := h2 rfl
  exact ⟨k, k1, k2, k3, q, pa, pc, .start h1 k4, h4, h5⟩
theorem DayIn.done (h : DayIn r f d S P b M W0 gb k S 0 0 c wx) (g : Good r f) (hk : 1 ≤ k) (hk2 : k ≤ P + 1) (hn : n + k = P + 2) : ∃ n', n' < n ∧ DayAt r f d S P b M W0 gb n' c wx := by
  obtain ⟨q, pa, pc, h1, h2, h3⟩ := h
  obtain ⟨k1, k2, k3⟩ := h1.done g hk
  cases c
  · exact ⟨0, by omega, q, pa, pc, k1, by simp, fun _ => k3 rfl, h2, h3⟩
  · obtain ⟨j1, j2⟩ := k2 rfl
    exact ⟨P + 1 - k, by omega, q, pa, pc, k1, fun _ => ⟨k + 1, by omega, by omega, by omega, j2⟩, by simp, h2, h3⟩
end

set_option maxRecDepth 100000 in
set_option maxHeartbeats 40000000 in
theorem Day_any (w : World) {r : Roads} {f : Flock} (g : Good r f) (a : Option Addr) (cap S P D N : Nat) (hS : r.stages = (S : Int)) (hP : f.pace = (P : Int)) (hD : r.days = (D : Int)) (hN : r.strips.length = N) (hs : StripsAt w a r.strips) (d : Int) (gq cq : Nat) (b : Nat → WalkV) (ba : Nat → Option Addr) (bc : Nat → Nat) (hB : WalksAt w gq S b ba bc) (M : Int) (hM : M ≤ 1000) (hno : ∀ s, s < S → (b s).is = false → b s = noWalk) (hbo : ∀ s, s < S → (b s).is = true → WOk r (b s) ∧ (b s).lg ≤ M) :
    Calls Try.prog 102 #[.agg #[.int .i64 (D : Int), .int .i64 (S : Int), .slice a N cap], .agg #[.int .i64 f.heads, .int .i64 (P : Int)], .int .i64 d, .slice (some ⟨gq, 0, none⟩) S cq] w
      fun e w' => ∃ G gb pa pc, e = .returned (.slice (some ⟨G, 0, none⟩) S S) ∧ WGrid w' w.heap.size G S S (P + 1) gb (fun t u => dayV r f d S b u t) pa pc ∧ DayOk r f d S P b M (fun t u => dayV r f d S b u t) ∧ Below w.heap.size w w' := by
  have hS6 : S ≤ 6 := by have := g.s2; omega
  have hP9 : P ≤ 9 := by have := g.p2; omega
  have hD10 : D ≤ 10 := by have := g.d2; omega
  have hN8 : N ≤ 8 := by have := g.n8; omega
  have hb0 : Below w.heap.size w ((w.alloc (.cells #[.int .i64 (D : Int), .int .i64 (S : Int), .slice a N cap] 24)).alloc (.cells #[.int .i64 f.heads, .int .i64 (P : Int)] 26)) := ((Below.refl _ _).alloc (Nat.le_refl _) _).alloc (by simp) _
  have x1 : ((w.alloc (.cells #[.int .i64 (D : Int), .int .i64 (S : Int), .slice a N cap] 24)).alloc (.cells #[.int .i64 f.heads, .int .i64 (P : Int)] 26)).cell? ⟨w.heap.size, 1, none⟩ = some (.int .i64 (S : Int)) := by simp [go_sem]
  have x2 : ((w.alloc (.cells #[.int .i64 (D : Int), .int .i64 (S : Int), .slice a N cap] 24)).alloc (.cells #[.int .i64 f.heads, .int .i64 (P : Int)] 26)).cell? ⟨w.heap.size, 2, none⟩ = some (.slice a N cap) := by simp [go_sem]
  have x3 : ((w.alloc (.cells #[.int .i64 (D : Int), .int .i64 (S : Int), .slice a N cap] 24)).alloc (.cells #[.int .i64 f.heads, .int .i64 (P : Int)] 26)).cell? ⟨w.heap.size + 1, 0, none⟩ = some (.int .i64 f.heads) := by simp [go_sem]
  have x4 : ((w.alloc (.cells #[.int .i64 (D : Int), .int .i64 (S : Int), .slice a N cap] 24)).alloc (.cells #[.int .i64 f.heads, .int .i64 (P : Int)] 26)).cell? ⟨w.heap.size + 1, 1, none⟩ = some (.int .i64 (P : Int)) := by simp [go_sem]
  have HST := Lib.hid (hs.below hb0); clear hs
  have HBG := Lib.hid (hB.below hb0); clear hB
  have HBEG := Lib.hid (day_begin (d := d) (P := P) (f := f) hno hbo)
  have HBOK := Lib.hid (fun s hs h => (hbo s hs h).1); clear hbo hno
  have HS := Lib.hid hS; clear hS
  have HPP := Lib.hid hP; clear hP
  have HD := Lib.hid hD; clear hD
  have HN := Lib.hid hN; clear hN
  have HM := Lib.hid hM; clear hM
  have GG := Lib.hid g; clear g
  have hmk := run_make_row' (P := Try.prog) 132 100 (.slice none 0 0) 24 Try.underlying132 info_walks rfl .i64 .i64 S (by omega) (by omega)
  go_enter Try.func102, Try.ntmps102
  go_upto_region 1 with (fail)
  generalize ((w.alloc (.cells #[.int .i64 (D : Int), .int .i64 (S : Int), .slice a N cap] 24)).alloc (.cells #[.int .i64 f.heads, .int .i64 (P : Int)] 26)) = W0 at hb0 x1 x2 x3 x4 HST HBG ⊢
  have X1 := Lib.hid x1; clear x1
  have X2 := Lib.hid x2; clear x2
  have X3 := Lib.hid x3; clear x3
  have X4 := Lib.hid x4; clear x4
  have HB0 := Lib.hid hb0; clear hb0
  have x1 := X1.out
  go_wp2_with fail
  clear hmk x1
  have hc0 := WGrid.new W0 W0.heap.size (Nat.le_refl _) S (P + 1) (fun _ => 0) (fun t u => if u = 0 then b t else noWalk) (fun _ _ => none) (fun _ _ => 0)
  have hbm : Below W0.heap.size W0 (W0.alloc (.cells (madeCells #[.slice none 0 0] S) 100)) := (Below.refl _ _).alloc (Nat.le_refl _) _
  go_loopw [10] (fun v10 wx => ∃ s : Nat, s ≤ S ∧ v10 = .int .i64 (s : Int) ∧ (∃ gb pa pc, WGrid wx W0.heap.size W0.heap.size S s (P + 1) gb (fun t u => if u = 0 then b t else noWalk) pa pc) ∧ Below W0.heap.size W0 wx) (fun v _ => S - (intOf v).toNat)
  case atStart => exact ⟨0, Nat.zero_le _, rfl, ⟨_, _, _, hc0⟩, hbm⟩
  case round =>
    clear hc0 hbm
    obtain ⟨s, hs, rfl, ⟨gb, pa, pc, hg⟩, hbr⟩ := hrel
    have HG := Lib.hid hg; clear hg
    have HBR := Lib.hid hbr; clear hbr
    have x1 := ((bcell HBR.out).1 _ _ (lt_of_cell X1.out)).trans X1.out
    have x4 := ((bcell HBR.out).1 _ _ (lt_of_cell X4.out)).trans X4.out
    by_cases hsS : s < S
    · have hmk := run_make_wide (P := Try.prog) 100 104 (.agg #[.bool false, .int .i64 0, .slice none 0 0]) 3 40 Try.underlying100 info_walk .i64 .i64 (P + 1) (by omega) (by omega)
      have hzc : (Value.agg #[.bool false, .int .i64 0, .slice none 0 0]).cells = #[.bool false, .int .i64 0, .slice none 0 0] := rfl
      rw [hzc] at hmk
      clear hzc
      rw [show ((P + 1 : Nat) : Int) = (P : Int) + 1 from rfl] at hmk
      have e1 : IntKind.i64.wrap ((P : Int) + 1) = (P : Int) + 1 := IntWalk.i64_in _ (by omega)
      have hba : Below wr.heap.size wr (wr.alloc (.cells (madeCells #[.bool false, .int .i64 0, .slice none 0 0] ((P + 1) * 3)) 104)) := Below.alloc (Below.refl _ _) (Nat.le_refl _) _
      have k0 := ((bcell hba).1 _ _ (lt_of_cell (HG.out.blank (i := s) (by omega) hsS))).trans (HG.out.blank (i := s) (by omega) hsS)
      have k1 := ((bcell hba).2 _ s HG.out.lt).trans (HG.out.freeO s)
      have q2 : (s : Int) < (S : Int) := by omega
      have HP := Lib.hid HG.out.push
      have HBN := Lib.hid ((HBR.out.trans (hba.mono (Nat.le_of_lt HG.out.lt))).setCell (p := ⟨W0.heap.size, s, none⟩) (Nat.le_refl _) (.slice (some ⟨wr.heap.size, 0, none⟩) (P + 1) (P + 1))); clear hba
      have HL := Lib.hid (show W0.heap.size < wr.heap.size from HG.out.lt)
      clear HG HBR
      go_upto_region 6 with (fail)
      clear hmk k0 k1 x1 x4 e1
      generalize ((wr.alloc (.cells (madeCells #[.bool false, .int .i64 0, .slice none 0 0] ((P + 1) * 3)) 104)).setCell ⟨W0.heap.size, s, none⟩ (.slice (some ⟨wr.heap.size, 0, none⟩) (P + 1) (P + 1))) = W5 at HP HBN ⊢
      have y0 := HP.out.row (by omega) (Nat.lt_succ_self s)
      rw [if_pos rfl] at y0
      have y1 := (HP.out.inner s (Nat.lt_succ_self s)).free 0
      have y2 := (HP.out.inner s (Nat.lt_succ_self s)).free 1
      have y3 := (HP.out.inner s (Nat.lt_succ_self s)).free 2
      have y4 := (HP.out.inner s (Nat.lt_succ_self s)).c0 (s := 0) (by omega)
      have y5 := (HP.out.inner s (Nat.lt_succ_self s)).c1 (s := 0) (by omega)
      have y6 := (HP.out.inner s (Nat.lt_succ_self s)).c2 (s := 0) (by omega)
      rw [if_pos rfl] at y1 y2 y3 y4 y5 y6
      have HW := Lib.hid (HBG.out.below HBN.out)
      have z0 := HW.out.c0 s hsS
      have z1 := HW.out.c1 s hsS
      have z2 := HW.out.c2 s hsS
      have hset := HP.out.set (i := s) (s := 0) (Nat.lt_succ_self s) (by omega) (b s) (ba s) (bc s) (HW.out.plans s hsS)
      simp only [if_true, Nat.zero_mul, Nat.zero_add] at hset
      have HSET := Lib.hid hset; clear hset
      have HBS := Lib.hid (((HBN.out.setCell (p := ⟨wr.heap.size, 0, none⟩) (Nat.le_of_lt HL.out) (.bool (b s).is)).setCell (p := ⟨wr.heap.size, 1, none⟩) (Nat.le_of_lt HL.out) (.int .i64 (b s).lg)).setCell (p := ⟨wr.heap.size, 2, none⟩) (Nat.le_of_lt HL.out) (.slice (ba s) (b s).pl.length (bc s)))
      clear HP HBN HW
      have q3 : (0 : Int) < (P : Int) + 1 := by omega
      go_region
      all_goals
        go_wp2_with fail
        exact ⟨⟨s + 1, by omega, by go_num, ⟨_, _, _, (HSET.out.below (Below.refl _ _).drew).congr fun i j _ _ => congrFun (congrFun (begun b s) i) j⟩, HBS.out.drew⟩, by simp [intOf]; omega⟩
    · obtain rfl : S = s := by omega
      clear x4
      go_wp2_with fail
      clear x1
      have hst0 : DayAt r f d S P b M W0 gb (P + 1) true wr := ⟨_, pa, pc, HBEG.out.1, fun _ => ⟨1, by omega, by omega, by omega, HBEG.out.2⟩, by simp, HG.out, HBR.out⟩
      go_loopg [11] (P + 1) (fun n v11 wx => ∃ c : Bool, v11 = .bool c ∧ DayAt r f d S P b M W0 gb n c wx)
      case atStart => exact ⟨true, rfl, hst0⟩
      case round =>
        clear hst0 HG HBR HBEG
        obtain ⟨c, rfl, hda⟩ := hrel
        cases c
        · have HDA := Lib.hid hda; clear hda
          go_wp2_with fail
          go_ret
          obtain ⟨q, pa, pc, k1, k2, k3, k4, k5⟩ := HDA.out
          have k3' := k3 rfl
          exact ⟨_, _, _, _, rfl, (k4.congr fun i j h1 h2 => k3' i j h1 (by omega)).mono (by have := HB0.out.size; omega), k1.congr k3', HB0.out.trans (k5.mono HB0.out.size)⟩
        · obtain ⟨k, hk1, hk2, hgk, hst⟩ := hda.pass
          have HST1 := Lib.hid hst; clear hst hda
          have HGK := Lib.hid (And.intro hk1 (And.intro hk2 hgk)); clear hk1 hk2 hgk
          go_wp2_with fail
          go_loopw [11, 12] (fun v11 v12 wx => ∃ (s : Nat) (c : Bool), s ≤ S ∧ v11 = .bool c ∧ v12 = .int .i64 (s : Int) ∧ DayIn r f d S P b M W0 gb k s 0 0 c wx) (fun _ v _ => S - (intOf v).toNat)
          case atStart => exact ⟨0, false, Nat.zero_le _, rfl, rfl, HST1.out⟩
          case round =>
            clear HST1
            obtain ⟨s, c, hs, rfl, rfl, hin⟩ := hrel
            have HIN := Lib.hid hin; clear hin
            have x1 := ((bcell HIN.out.below).1 _ _ (lt_of_cell X1.out)).trans X1.out
            by_cases hsS : s < S
            · have q1 : (s : Int) < (S : Int) := by omega
              go_wp2_with fail
              clear x1
              go_loopw [11, 13] (fun v11 v13 wx => ∃ (u : Nat) (c : Bool), u ≤ P + 1 ∧ v11 = .bool c ∧ v13 = .int .i64 (u : Int) ∧ DayIn r f d S P b M W0 gb k s u 0 c wx) (fun _ v _ => P + 1 - (intOf v).toNat)
              case atStart => exact ⟨0, c, Nat.zero_le _, rfl, rfl, HIN.out⟩
              case round =>
                clear HIN
                obtain ⟨u, c, hu, rfl, rfl, hin⟩ := hrel
                have HIN := Lib.hid hin; clear hin
                have x4 := ((bcell HIN.out.below).1 _ _ (lt_of_cell X4.out)).trans X4.out
                by_cases huP : u ≤ P
                · have q2 : (u : Int) ≤ (P : Int) := by omega
                  go_wp2_with fail
                  clear x4
                  go_loopw [11, 14] (fun v11 v14 wx => ∃ (i : Nat) (c : Bool), i ≤ N ∧ v11 = .bool c ∧ v14 = .int .i64 (i : Int) ∧ DayIn r f d S P b M W0 gb k s u i c wx) (fun _ v _ => N - (intOf v).toNat)
                  case atStart => exact ⟨0, c, Nat.zero_le _, rfl, rfl, HIN.out⟩
                  case round =>
                    clear HIN
                    obtain ⟨i, c, hi, rfl, rfl, hin⟩ := hrel
                    have HIN := Lib.hid hin; clear hin
                    have x2 := ((bcell HIN.out.below).1 _ _ (lt_of_cell X2.out)).trans X2.out
                    by_cases hiN : i < N
                    · have q3 : (i : Int) < (N : Int) := by omega
                      have hlt : i < r.strips.length := by rw [HN.out]; exact hiN
                      rcases HST.out.below HIN.out.below with h0 | ⟨sb, so, ea, hsc⟩
                      · rw [h0] at hlt; simp at hlt
                      obtain ⟨q, pa, pc, hpa, hg, hbr⟩ := HIN.out
                      clear HIN
                      have y0 := hg.row (Nat.le_refl _) hsS
                      have y1 := (hg.inner s hsS).c0 (s := u) (by omega)
                      have q4 : (u : Int) < (P : Int) + 1 := by omega
                      have x4 := ((bcell hbr).1 _ _ (lt_of_cell X4.out)).trans X4.out
                      have x3 := ((bcell hbr).1 _ _ (lt_of_cell X3.out)).trans X3.out
                      have HG := Lib.hid hg; clear hg
                      have HBR := Lib.hid hbr; clear hbr
                      have HPA := Lib.hid hpa; clear hpa
                      cases his : (q s u).is
                      · rw [his] at y1
                        have HX := Lib.hid (show DayIn r f d S P b M W0 gb k s (u + 1) 0 c wr from ⟨q, pa, pc, HPA.out.nextW (.inr his), HG.out, HBR.out⟩); clear HPA HG HBR his hsc x3 x4 ea
                        go_wp2_with fail
                        exact ⟨⟨u + 1, c, by omega, rfl, by go_num, HX.out⟩, by simp [intOf]; omega⟩
                      · rw [his] at y1
                        have HIS := Lib.hid his; clear his
                        cases ea
                        obtain ⟨s0, s1, s2, s3, s4, s5, s6⟩ := hsc i hlt
                        have hx : r.strips[i]? = some r.strips[i] := List.getElem?_eq_getElem hlt
                        obtain ⟨b1, b2, b3, b4, b5, b6, b7, _⟩ := GG.out.strip r.strips[i] (List.getElem_mem hlt)
                        generalize r.strips[i] = x at s0 s1 s2 s3 s4 s5 s6 b1 b2 b3 b4 b5 b6 b7 hx
                        have HX := Lib.hid hx; clear hx hsc
                        have hbX : Below wr.heap.size wr (wr.alloc (.cells #[.int .i64 x.A, .int .i64 x.B, .int .i64 x.L, .int .i64 x.W, .int .i64 x.K, .int .i64 x.X, .int .i64 x.Y] 57)) := Below.alloc (Below.refl _ _) (Nat.le_refl _) _
                        have z0 : (wr.alloc (.cells #[.int .i64 x.A, .int .i64 x.B, .int .i64 x.L, .int .i64 x.W, .int .i64 x.K, .int .i64 x.X, .int .i64 x.Y] 57)).cell? ⟨wr.heap.size, 0, none⟩ = some (.int .i64 x.A) := by simp [go_sem]
                        have z1 : (wr.alloc (.cells #[.int .i64 x.A, .int .i64 x.B, .int .i64 x.L, .int .i64 x.W, .int .i64 x.K, .int .i64 x.X, .int .i64 x.Y] 57)).cell? ⟨wr.heap.size, 1, none⟩ = some (.int .i64 x.B) := by simp [go_sem]
                        have z2 : (wr.alloc (.cells #[.int .i64 x.A, .int .i64 x.B, .int .i64 x.L, .int .i64 x.W, .int .i64 x.K, .int .i64 x.X, .int .i64 x.Y] 57)).cell? ⟨wr.heap.size, 2, none⟩ = some (.int .i64 x.L) := by simp [go_sem]
                        have z3 : (wr.alloc (.cells #[.int .i64 x.A, .int .i64 x.B, .int .i64 x.L, .int .i64 x.W, .int .i64 x.K, .int .i64 x.X, .int .i64 x.Y] 57)).cell? ⟨wr.heap.size, 3, none⟩ = some (.int .i64 x.W) := by simp [go_sem]
                        have z4 : (wr.alloc (.cells #[.int .i64 x.A, .int .i64 x.B, .int .i64 x.L, .int .i64 x.W, .int .i64 x.K, .int .i64 x.X, .int .i64 x.Y] 57)).cell? ⟨wr.heap.size, 4, none⟩ = some (.int .i64 x.K) := by simp [go_sem]
                        have z5 : (wr.alloc (.cells #[.int .i64 x.A, .int .i64 x.B, .int .i64 x.L, .int .i64 x.W, .int .i64 x.K, .int .i64 x.X, .int .i64 x.Y] 57)).cell? ⟨wr.heap.size, 5, none⟩ = some (.int .i64 x.X) := by simp [go_sem]
                        have z6 : (wr.alloc (.cells #[.int .i64 x.A, .int .i64 x.B, .int .i64 x.L, .int .i64 x.W, .int .i64 x.K, .int .i64 x.X, .int .i64 x.Y] 57)).cell? ⟨wr.heap.size, 6, none⟩ = some (.int .i64 x.Y) := by simp [go_sem]
                        go_upto_region 20 with (fail)
                        clear s0 s1 s2 s3 s4 s5 s6 x2 y0 y1
                        have k3 := ((bcell hbX).1 _ _ (lt_of_cell x3)).trans x3
                        have k4 := ((bcell hbX).1 _ _ (lt_of_cell x4)).trans x4
                        have HG1 := Lib.hid (HG.out.below hbX)
                        have HB1 := Lib.hid (HBR.out.trans (hbX.mono HBR.out.size))
                        have HLX := Lib.hid (show W0.heap.size < wr.heap.size from HG.out.lt)
                        clear x3 x4 hbX HG HBR
                        generalize (wr.alloc (.cells #[.int .i64 x.A, .int .i64 x.B, .int .i64 x.L, .int .i64 x.W, .int .i64 x.K, .int .i64 x.X, .int .i64 x.Y] 57)) = W1 at z0 z1 z2 z3 z4 z5 z6 k3 k4 HG1 HB1 ⊢
                        generalize wr.heap.size = bx at z0 z1 z2 z3 z4 z5 z6 HLX ⊢
                        have e1 : IntKind.i64.wrap ((u : Int) + x.L) = (u : Int) + x.L := IntWalk.i64_in _ (by omega)
                        go_upto_region 21 with (fail)
                        clear e1
                        go_cut [107] (fun v107 wx => ∃ cb : Bool, v107 = .bool cb ∧ (cb = true → ∀ t, LeadsS r f d s i x t → u + x.L.toNat ≤ P → False) ∧ (cb = false → (endOf x (s : Int)).2 = true ∧ openB r f (-1) i d = true ∧ u + x.L.toNat ≤ P) ∧ Below W1.heap.size W1 wx)
                        case first =>
                          have hwhy := fun W => refWhy_any x f d W
                          simp only [HPP.out] at hwhy
                          have HWHY := Lib.hid hwhy; clear hwhy
                          have hop := fun (h : (barsL x f d).isEmpty = true) => (show openB r f (-1) i d = true by unfold openB; rw [HX.out]; simp [h])
                          have hsh := fun (h : (barsL x f d).isEmpty = false) => (show openB r f (-1) i d = false by unfold openB; rw [HX.out]; simp [h])
                          have HOP := Lib.hid hop; clear hop
                          have HSH := Lib.hid hsh; clear hsh
                          by_cases cA : x.A = (s : Int)
                          · have d1 : (x.A != (s : Int)) = false := by simp [cA]
                            have HE := Lib.hid (show (endOf x (s : Int)).2 = true by unfold endOf; rw [if_pos cA.symm])
                            clear cA
                            go_wp2_with fail
                            refine (HWHY.out _).mono ?_
                            rintro e w5 ⟨v, rfl, hown, hb5⟩
                            obtain ⟨va, vc, rfl, _⟩ := hown.ints
                            clear hown
                            have y4 := ((bcell hb5).1 _ _ (lt_of_cell k4)).trans k4
                            have HB5 := Lib.hid hb5; clear hb5
                            cases hem : (barsL x f d).isEmpty
                            · have hlen' : 0 < (barsL x f d).length := by
                                cases hb : barsL x f d with
                                | nil => rw [hb] at hem; simp at hem
                                | cons u v => simp
                              have hlen : ((barsL x f d).length : Int) > 0 := by omega
                              have hdl : decide (0 < (barsL x f d).length) = true := decide_eq_true hlen'
                              have HEM := Lib.hid hem; clear hem
                              generalize hbl : (barsL x f d).length = bl at hlen hlen' hdl ⊢
                              clear hbl
                              go_wp2_with fail
                              go_meet
                              exact ⟨true, rfl, fun _ t hl _ => by have := hl.op; rw [HSH.out HEM.out] at this; simp at this, by simp, HB5.out⟩
                            · have hnil : barsL x f d = [] := List.isEmpty_iff.1 hem
                              have HEM := Lib.hid hem; clear hem
                              rw [hnil]
                              clear hnil
                              by_cases cF : (u : Int) + x.L > (P : Int)
                              · have HF := Lib.hid cF
                                go_wp2_with fail
                                go_meet
                                exact ⟨true, rfl, fun _ t hl hle => by have := HF.out; omega, by simp, HB5.out⟩
                              · have HF := Lib.hid cF
                                go_wp2_with fail
                                go_meet
                                exact ⟨false, congrArg Value.bool (decide_eq_false (by have := HF.out; omega)), by simp, fun _ => ⟨HE.out, HOP.out HEM.out, by have := HF.out; omega⟩, HB5.out⟩
                          · have d1 : (x.A != (s : Int)) = true := by simp [cA]
                            by_cases cB : x.B = (s : Int)
                            · have d2 : (x.B != (s : Int)) = false := by simp [cB]
                              have HE := Lib.hid (show (endOf x (s : Int)).2 = true by unfold endOf; rw [if_neg (fun e => cA e.symm), if_pos cB.symm])
                              clear cA cB
                              go_wp2_with fail
                              refine (HWHY.out _).mono ?_
                              rintro e w5 ⟨v, rfl, hown, hb5⟩
                              obtain ⟨va, vc, rfl, _⟩ := hown.ints
                              clear hown
                              have y4 := ((bcell hb5).1 _ _ (lt_of_cell k4)).trans k4
                              have HB5 := Lib.hid hb5; clear hb5
                              cases hem : (barsL x f d).isEmpty
                              · have hlen' : 0 < (barsL x f d).length := by
                                  cases hb : barsL x f d with
                                  | nil => rw [hb] at hem; simp at hem
                                  | cons u v => simp
                                have hlen : ((barsL x f d).length : Int) > 0 := by omega
                                have hdl : decide (0 < (barsL x f d).length) = true := decide_eq_true hlen'
                                have HEM := Lib.hid hem; clear hem
                                generalize hbl : (barsL x f d).length = bl at hlen hlen' hdl ⊢
                                clear hbl
                                go_wp2_with fail
                                go_meet
                                exact ⟨true, rfl, fun _ t hl _ => by have := hl.op; rw [HSH.out HEM.out] at this; simp at this, by simp, HB5.out⟩
                              · have hnil : barsL x f d = [] := List.isEmpty_iff.1 hem
                                have HEM := Lib.hid hem; clear hem
                                rw [hnil]
                                clear hnil
                                by_cases cF : (u : Int) + x.L > (P : Int)
                                · have HF := Lib.hid cF
                                  go_wp2_with fail
                                  go_meet
                                  exact ⟨true, rfl, fun _ t hl hle => by have := HF.out; omega, by simp, HB5.out⟩
                                · have HF := Lib.hid cF
                                  go_wp2_with fail
                                  go_meet
                                  exact ⟨false, congrArg Value.bool (decide_eq_false (by have := HF.out; omega)), by simp, fun _ => ⟨HE.out, HOP.out HEM.out, by have := HF.out; omega⟩, HB5.out⟩
                            · have d2 : (x.B != (s : Int)) = true := by simp [cB]
                              have HE := Lib.hid (show (endOf x (s : Int)).2 = false by unfold endOf; rw [if_neg (fun e => cA e.symm), if_neg (fun e => cB e.symm)])
                              clear cA cB
                              go_wp2_with fail
                              go_meet
                              exact ⟨true, rfl, fun _ t hl _ => by have := hl.ok; rw [HE.out] at this; simp at this, by simp, Below.refl _ _⟩
                        case rest =>
                          obtain ⟨cb, rfl, hcb1, hcb2, hbc⟩ := hcut
                          have HG2 := Lib.hid (HG1.out.below hbc)
                          have HB2 := Lib.hid (HB1.out.trans (hbc.mono HB1.out.size))
                          have m0 := ((bcell hbc).1 _ _ (lt_of_cell z0)).trans z0
                          have m1 := ((bcell hbc).1 _ _ (lt_of_cell z1)).trans z1
                          have m2 := ((bcell hbc).1 _ _ (lt_of_cell z2)).trans z2
                          clear z0 z1 z2 z3 z4 z5 z6 k3 k4 hbc HG1 HB1
                          cases cb
                          · obtain ⟨hend, hopen, hle⟩ := hcb2 rfl
                            clear hcb1 hcb2
                            have hS1 := HS.out
                            have hrange := endOf_range GG.out (List.mem_of_getElem? HX.out) hend
                            obtain ⟨t, ht⟩ := Int.eq_ofNat_of_zero_le hrange.1
                            have htS : t < S := by omega
                            have hsum : x.A + x.B - (s : Int) = (t : Int) := by
                              have hend' := hend
                              have ht' := ht
                              unfold endOf at hend' ht'
                              by_cases h1 : (s : Int) = x.A
                              · rw [if_pos h1] at ht'; dsimp only at ht'; omega
                              · rw [if_neg h1] at ht' hend'
                                by_cases h2 : (s : Int) = x.B
                                · rw [if_pos h2] at ht'; dsimp only at ht'; omega
                                · rw [if_neg h2] at hend'; simp at hend'
                            have HLD := Lib.hid (show LeadsS r f d s i x t from ⟨HX.out, hend, ht, hopen⟩)
                            obtain ⟨p1, p2, _, _⟩ := HPA.out.ok.ok s u hsS huP HIS.out
                            have hM := HM.out
                            have hlen0 : ((q s u).pl.length : Int) ≤ (q s u).lg := by rw [p1.sum]; exact wsum_pos GG.out p1.valid
                            have hlgM : (q s u).lg ≤ 1009 := by omega
                            have hlenN : (q t (u + x.L.toNat)).pl.length ≤ 2000 := by
                              cases hq : (q t (u + x.L.toNat)).is
                              · rw [HPA.out.ok.no t _ htS hle hq]; simp [noWalk]
                              · obtain ⟨j1, j2, _, _⟩ := HPA.out.ok.ok t _ htS hle hq
                                have := wsum_pos GG.out j1.valid
                                have := j1.sum
                                omega
                            clear p1 p2 hM hS1 hrange hend hopen ht
                            have y0 := HG2.out.row (Nat.le_refl _) hsS
                            have y1 := (HG2.out.inner s hsS).c0 (s := u) (by omega)
                            rw [HIS.out] at y1
                            have y2 := (HG2.out.inner s hsS).c1 (s := u) (by omega)
                            have y3 := (HG2.out.inner s hsS).c2 (s := u) (by omega)
                            have hst := (HG2.out.inner s hsS).plans u (by omega)
                            have eF : (u : Int) + x.L = ((u + x.L.toNat : Nat) : Int) := by omega
                            rw [eF]
                            have HLE := Lib.hid hle
                            have q5 : ((u + x.L.toNat : Nat) : Int) < (P : Int) + 1 := by omega
                            obtain ⟨fr, hfr⟩ : ∃ fr, u + x.L.toNat = fr := ⟨_, rfl⟩
                            rw [hfr] at hle hlenN q5 ⊢
                            have HFR := Lib.hid hfr; clear hfr eF
                            obtain ⟨A, hA⟩ : ∃ A, q s u = A := ⟨_, rfl⟩
                            rw [hA] at hlen0 hlgM y2 y3 hst
                            have HA := Lib.hid hA; clear hA
                            have HST1 := Lib.hid hst; clear hst
                            have hbO : Below wc.heap.size wc (wc.alloc (.cells #[.bool true, .int .i64 A.lg, .slice (pa s u) A.pl.length (pc s u)] 104)) := Below.alloc (Below.refl _ _) (Nat.le_refl _) _
                            have o0 : (wc.alloc (.cells #[.bool true, .int .i64 A.lg, .slice (pa s u) A.pl.length (pc s u)] 104)).cell? ⟨wc.heap.size, 0, none⟩ = some (.bool true) := by simp [go_sem]
                            have o1 : (wc.alloc (.cells #[.bool true, .int .i64 A.lg, .slice (pa s u) A.pl.length (pc s u)] 104)).cell? ⟨wc.heap.size, 1, none⟩ = some (.int .i64 A.lg) := by simp [go_sem]
                            have o2 : (wc.alloc (.cells #[.bool true, .int .i64 A.lg, .slice (pa s u) A.pl.length (pc s u)] 104)).cell? ⟨wc.heap.size, 2, none⟩ = some (.slice (pa s u) A.pl.length (pc s u)) := by simp [go_sem]
                            go_upto_region 23 with (fail)
                            clear y0 y1 y2 y3
                            replace m0 := ((bcell hbO).1 _ _ (lt_of_cell m0)).trans m0
                            replace m1 := ((bcell hbO).1 _ _ (lt_of_cell m1)).trans m1
                            replace m2 := ((bcell hbO).1 _ _ (lt_of_cell m2)).trans m2
                            have HG3 := Lib.hid (HG2.out.below hbO)
                            have HB3 := Lib.hid (HB2.out.trans (hbO.mono HB2.out.size))
                            have HST2 := Lib.hid (HST1.out.below hbO)
                            clear hbO HG2 HB2 HST1
                            generalize (wc.alloc (.cells #[.bool true, .int .i64 A.lg, .slice (pa s u) A.pl.length (pc s u)] 104)) = W2 at o0 o1 o2 m0 m1 m2 HG3 HB3 HST2 ⊢
                            generalize wc.heap.size = bo at o0 o1 o2 ⊢
                            have e1 : IntKind.i64.wrap (A.lg + x.L) = A.lg + x.L := IntWalk.i64_in _ (by omega)
                            have hlenA : A.pl.length ≤ 1010 := by omega
                            have HLA := Lib.hid hlenA
                            have HMM := Lib.hid (And.intro m0 (And.intro m1 m2))
                            have HOO := Lib.hid (And.intro o1 o2)
                            clear m0 m1 o0
                            go_cut [18] (fun v18 wx => ∃ p a2 c2, v18 = .pointer (some ⟨p, 0, none⟩) ∧ WalkIn W2 wx p a2 c2 (A.pl.length + 1) (A.lg + x.L) (A.pl ++ [(d, (i : Int))]))
                            case first =>
                              have HK := Lib.hid (show ∀ W, Below W2.heap.size W2 W → W.cell? ⟨bo, 1, none⟩ = some (.int .i64 A.lg) ∧ W.cell? ⟨bx, 2, none⟩ = some (.int .i64 x.L) ∧ W.cell? ⟨bo, 2, none⟩ = some (.slice (pa s u) A.pl.length (pc s u)) from fun W h => ⟨((bcell h).1 _ _ (lt_of_cell HOO.out.1)).trans HOO.out.1, ((bcell h).1 _ _ (lt_of_cell HMM.out.2.2)).trans HMM.out.2.2, ((bcell h).1 _ _ (lt_of_cell HOO.out.2)).trans HOO.out.2⟩)
                              clear o1 o2 m2
                              generalize ha0 : (Act.mk _ _) = a0
                              refine wp_region_inv (by kernel_rfl) (fun L a' w' => ∃ vs : Nat → Value, a' = puts [(115, 0), (116, 1), (117, 2), (118, 3), (119, 4), (120, 5), (121, 6), (122, 7), (123, 8), (124, 9), (125, 10), (126, 11), (127, 12), (128, 13), (129, 14), (18, 15)] vs a0 ∧ NInv W2 bo bx A.lg x.L A.pl (pa s u) (pc s u) d (i : Int) L vs w') ?_ ?_ ?_
                              · refine ⟨fun k => a0.tmps.getD ((#[115, 116, 117, 118, 119, 120, 121, 122, 123, 124, 125, 126, 127, 128, 129, 18] : Array Nat).getD k 0) undef, (puts_self _ _ _ ?_).symm, NInv.start rfl⟩
                                intro y hy
                                simp only [List.mem_cons, List.not_mem_nil, or_false] at hy
                                rcases hy with rfl | rfl | rfl | rfl | rfl | rfl | rfl | rfl | rfl | rfl | rfl | rfl | rfl | rfl | rfl | rfl <;> rfl
                              · intro L a' w' k o ho hI hl hr
                                obtain ⟨vs, rfl, hN⟩ := hI
                                have hk : k < 17 := (Array.getElem?_eq_some_iff.1 ho).1
                                subst ha0
                                have hz := HK.out w' hN.below
                                obtain ⟨z0, z1, z2⟩ := hz
                                have hk' := lt_17 k hk
                                rcases hk' with rfl | rfl | rfl | rfl | rfl | rfl | rfl | rfl | rfl | rfl | rfl | rfl | rfl | rfl | rfl | rfl | rfl
                                · obtain rfl := Option.some.inj ho
                                  refine wpOp_step rfl rfl (fun K hK => ?_)
                                  simp only [puts, Act.put, List.setIfInBounds_toArray, List.set_cons_zero, List.set_cons_succ]
                                  unfold Oper.wp
                                  go_simp
                                  refine hK _ _ ⟨updF vs 0 _, ?_, hN.pure rfl⟩
                                  simp [puts, updF, Act.put]
                                · obtain rfl := Option.some.inj ho
                                  simp [readyF, Region.binds] at hr
                                  have e0 := hN.c 0 _ hr rfl
                                  refine wpOp_step rfl rfl (fun K hK => ?_)
                                  simp only [puts, Act.put, List.setIfInBounds_toArray, List.set_cons_zero, List.set_cons_succ]
                                  unfold Oper.wp
                                  go_simp
                                  refine hK _ _ ⟨updF vs 1 _, ?_, hN.pure rfl⟩
                                  simp [puts, updF, Act.put, e0]
                                · obtain rfl := Option.some.inj ho
                                  refine wpOp_step rfl rfl (fun K hK => ?_)
                                  simp only [puts, Act.put, List.setIfInBounds_toArray, List.set_cons_zero, List.set_cons_succ]
                                  unfold Oper.wp
                                  go_simp
                                  refine hK _ _ ⟨updF vs 2 _, ?_, hN.pure rfl⟩
                                  simp [puts, updF, Act.put]
                                · obtain rfl := Option.some.inj ho
                                  simp [readyF, Region.binds] at hr
                                  have e2 := hN.c 2 _ hr rfl
                                  refine wpOp_step rfl rfl (fun K hK => ?_)
                                  simp only [puts, Act.put, List.setIfInBounds_toArray, List.set_cons_zero, List.set_cons_succ]
                                  unfold Oper.wp
                                  go_simp
                                  refine hK _ _ ⟨updF vs 3 _, ?_, hN.pure rfl⟩
                                  simp [puts, updF, Act.put, e2]
                                · obtain rfl := Option.some.inj ho
                                  simp [readyF, Region.binds] at hr
                                  have e1 := hN.c 1 _ hr.1 rfl
                                  have e3 := hN.c 3 _ hr.2 rfl
                                  refine wpOp_step rfl rfl (fun K hK => ?_)
                                  simp only [puts, Act.put, List.setIfInBounds_toArray, List.set_cons_zero, List.set_cons_succ]
                                  unfold Oper.wp
                                  go_simp
                                  refine hK _ _ ⟨updF vs 4 _, ?_, hN.pure rfl⟩
                                  simp [puts, updF, Act.put, e1, e3]
                                · obtain rfl := Option.some.inj ho
                                  refine wpOp_step rfl rfl (fun K hK => ?_)
                                  simp only [puts, Act.put, List.setIfInBounds_toArray, List.set_cons_zero, List.set_cons_succ]
                                  unfold Oper.wp
                                  go_simp
                                  refine hK _ _ ⟨updF vs 5 _, ?_, hN.op5 hl⟩
                                  simp [puts, updF, Act.put]
                                · obtain rfl := Option.some.inj ho
                                  refine wpOp_step rfl rfl (fun K hK => ?_)
                                  simp only [puts, Act.put, List.setIfInBounds_toArray, List.set_cons_zero, List.set_cons_succ]
                                  unfold Oper.wp
                                  go_simp
                                  refine hK _ _ ⟨updF vs 6 _, ?_, hN.pure rfl⟩
                                  simp [puts, updF, Act.put]
                                · obtain rfl := Option.some.inj ho
                                  simp [readyF, Region.binds] at hr
                                  have e6 := hN.c 6 _ hr rfl
                                  refine wpOp_step rfl rfl (fun K hK => ?_)
                                  simp only [puts, Act.put, List.setIfInBounds_toArray, List.set_cons_zero, List.set_cons_succ]
                                  unfold Oper.wp
                                  go_simp
                                  refine hK _ _ ⟨updF vs 7 _, ?_, hN.pure rfl⟩
                                  simp [puts, updF, Act.put, e6]
                                · obtain rfl := Option.some.inj ho
                                  simp [readyF, Region.binds] at hr
                                  have e7 := hN.c 7 _ hr.2 rfl
                                  obtain ⟨g5, hg5, hst⟩ := hN.own8 hl hr.1
                                  refine wpOp_want rfl rfl (wp_app1 rfl hst (.tmp 120) (.tmp 122) rfl ?_ (pa s u) (pc s u) A.pl ?_ HST2.out HLA.out ?_)
                                  · simp only [puts, Act.put, List.setIfInBounds_toArray, List.set_cons_zero, List.set_cons_succ]
                                    exact hg5
                                  · simp only [puts, Act.put, List.setIfInBounds_toArray, List.set_cons_zero, List.set_cons_succ]
                                    exact e7
                                  · intro v' w'' hn
                                    exact ⟨updF vs 8 v', by simp [puts, updF, Act.put], hN.op8 hl hr.1 hn⟩
                                · obtain rfl := Option.some.inj ho
                                  refine wpOp_step rfl rfl (fun K hK => ?_)
                                  simp only [puts, Act.put, List.setIfInBounds_toArray, List.set_cons_zero, List.set_cons_succ]
                                  unfold Oper.wp
                                  go_simp
                                  refine hK _ _ ⟨updF vs 9 _, ?_, hN.pure rfl⟩
                                  simp [puts, updF, Act.put]
                                · obtain rfl := Option.some.inj ho
                                  refine wpOp_step rfl rfl (fun K hK => ?_)
                                  simp only [puts, Act.put, List.setIfInBounds_toArray, List.set_cons_zero, List.set_cons_succ]
                                  unfold Oper.wp
                                  go_simp
                                  refine hK _ _ ⟨updF vs 10 _, ?_, hN.pure rfl⟩
                                  simp [puts, updF, Act.put]
                                · obtain rfl := Option.some.inj ho
                                  simp [readyF, Region.binds] at hr
                                  have e9 := hN.c 9 _ hr.1 rfl
                                  have e10 := hN.c 10 _ hr.2 rfl
                                  refine wpOp_step rfl rfl (fun K hK => ?_)
                                  simp only [puts, Act.put, List.setIfInBounds_toArray, List.set_cons_zero, List.set_cons_succ]
                                  unfold Oper.wp
                                  go_simp
                                  refine hK _ _ ⟨updF vs 11 _, ?_, hN.pure rfl⟩
                                  simp [puts, updF, Act.put, e9, e10]
                                · obtain rfl := Option.some.inj ho
                                  simp [readyF, Region.binds] at hr
                                  have e11 := hN.c 11 _ hr rfl
                                  refine wpOp_step rfl rfl (fun K hK => ?_)
                                  simp only [puts, Act.put, List.setIfInBounds_toArray, List.set_cons_zero, List.set_cons_succ]
                                  unfold Oper.wp
                                  go_simp
                                  refine hK _ _ ⟨updF vs 12 _, ?_, hN.op12 hl⟩
                                  simp [puts, updF, Act.put, e11]
                                · obtain rfl := Option.some.inj ho
                                  simp [readyF, Region.binds] at hr
                                  obtain ⟨g5, hg5, hst⟩ := hN.own13 hl hr.1 hr.2.1
                                  refine wpOp_want rfl rfl (wp_app2 rfl hst (.tmp 123) (.tmp 127) rfl ?_ ?_ HLA.out ?_)
                                  · simp only [puts, Act.put, List.setIfInBounds_toArray, List.set_cons_zero, List.set_cons_succ]
                                    rfl
                                  · simp only [puts, Act.put, List.setIfInBounds_toArray, List.set_cons_zero, List.set_cons_succ]
                                    exact hg5
                                  · intro a2 c2 w'' hn
                                    exact ⟨updF vs 13 (.slice a2 (A.pl.length + 1) c2), by simp [puts, updF, Act.put], hN.op13 hl hr.1 hr.2.1 hg5 hn⟩
                                · obtain rfl := Option.some.inj ho
                                  simp [readyF, Region.binds] at hr
                                  have e4 := hN.c 4 _ hr.1 rfl
                                  obtain ⟨a2, c2, e13⟩ := hN.s13 hr.2
                                  refine wpOp_step rfl rfl (fun K hK => ?_)
                                  simp only [puts, Act.put, List.setIfInBounds_toArray, List.set_cons_zero, List.set_cons_succ]
                                  unfold Oper.wp
                                  go_simp
                                  refine hK _ _ ⟨updF vs 14 (.agg #[.bool true, .int .i64 (A.lg + x.L), vs 13]), ?_, hN.op14 hl hr.2⟩
                                  simp [puts, updF, Act.put, e4, e13]
                                · obtain rfl := Option.some.inj ho
                                  refine wpOp_step rfl rfl (fun K hK => ?_)
                                  simp only [puts, Act.put, List.setIfInBounds_toArray, List.set_cons_zero, List.set_cons_succ]
                                  unfold Oper.wp
                                  go_simp
                                  refine hK _ _ ⟨updF vs 15 _, ?_, hN.op15 hl⟩
                                  simp [puts, updF, Act.put]
                                · obtain rfl := Option.some.inj ho
                                  simp [readyF, Region.binds] at hr
                                  have l14 : L 14 = true := by first | exact hr.1 | exact hr.2 | exact hr.2.1 | exact hr.2.2
                                  have l15 : L 15 = true := by first | exact hr.1 | exact hr.2 | exact hr.2.1 | exact hr.2.2
                                  obtain ⟨p, a2, c2, e15, e14, hbox, hfin⟩ := hN.own16 hl l14 l15
                                  obtain ⟨k1, k2, k3, k4, k5, k6⟩ := hbox
                                  refine wpOp_step rfl rfl (fun K hK => ?_)
                                  simp only [puts, Act.put, List.setIfInBounds_toArray, List.set_cons_zero, List.set_cons_succ]
                                  unfold Oper.wp
                                  go_simp
                                  refine hK _ _ ⟨vs, ?_, hfin⟩
                                  simp [puts, updF, Act.put, e14, e15]
                              · intro L a' w' hall hI
                                have l0 := hall 0 _ rfl (by simp [readyF, Region.binds])
                                have l1 := hall 1 _ rfl (by simp [readyF, Region.binds, l0])
                                have l2 := hall 2 _ rfl (by simp [readyF, Region.binds])
                                have l3 := hall 3 _ rfl (by simp [readyF, Region.binds, l2])
                                have l4 := hall 4 _ rfl (by simp [readyF, Region.binds, l1, l3])
                                have l5 := hall 5 _ rfl (by simp [readyF, Region.binds])
                                have l6 := hall 6 _ rfl (by simp [readyF, Region.binds])
                                have l7 := hall 7 _ rfl (by simp [readyF, Region.binds, l6])
                                have l8 := hall 8 _ rfl (by simp [readyF, Region.binds, l5, l7])
                                have l9 := hall 9 _ rfl (by simp [readyF, Region.binds])
                                have l10 := hall 10 _ rfl (by simp [readyF, Region.binds])
                                have l11 := hall 11 _ rfl (by simp [readyF, Region.binds, l9, l10])
                                have l12 := hall 12 _ rfl (by simp [readyF, Region.binds, l11])
                                have l13 := hall 13 _ rfl (by simp [readyF, Region.binds, l8, l12])
                                have l14 := hall 14 _ rfl (by simp [readyF, Region.binds, l4, l13])
                                have l15 := hall 15 _ rfl (by simp [readyF, Region.binds])
                                have l16 := hall 16 _ rfl (by simp [readyF, Region.binds, l0, l1, l2, l3, l4, l5, l6, l7, l8, l9, l10, l11, l12, l13, l14, l15])
                                obtain ⟨vs, rfl, hN⟩ := hI
                                obtain ⟨p, a2, c2, e15, hf⟩ := hN.fin l16
                                subst ha0
                                simp only [puts, Act.put, List.setIfInBounds_toArray, List.set_cons_zero, List.set_cons_succ]
                                go_wp2_with fail
                                go_meet
                                exact ⟨p, a2, c2, e15, hf⟩
                            case rest =>
                              obtain ⟨p, a2, c2, rfl, n0, n1, n2, hst2, hb2⟩ := hcut
                              clear o1 o2 m2 e1
                              have m0 := ((bcell hb2).1 _ _ (lt_of_cell HMM.out.1)).trans HMM.out.1
                              have m1 := ((bcell hb2).1 _ _ (lt_of_cell HMM.out.2.1)).trans HMM.out.2.1
                              have HG4 := Lib.hid (HG3.out.below hb2)
                              have HB4 := Lib.hid (HB3.out.trans (hb2.mono HB3.out.size))
                              clear HG3 HB3 hb2 HMM HOO HST2
                              have e1 : IntKind.i64.wrap (x.A + x.B) = x.A + x.B := IntWalk.i64_in _ (by omega)
                              have e2 : IntKind.i64.wrap (x.A + x.B - (s : Int)) = (t : Int) := by rw [hsum]; exact IntWalk.i64_in _ (by omega)
                              have HSUM := Lib.hid hsum; clear hsum
                              go_upto_region 25 with (fail)
                              clear m0 m1 e1 e2
                              have y0 := HG4.out.row (Nat.le_refl _) htS
                              have y1 := (HG4.out.inner t htS).c0 (s := fr) (by omega)
                              have y2 := (HG4.out.inner t htS).c1 (s := fr) (by omega)
                              have y3 := (HG4.out.inner t htS).c2 (s := fr) (by omega)
                              have hstN := (HG4.out.inner t htS).plans fr (by omega)
                              have q6 : (t : Int) < (S : Int) := by omega
                              obtain ⟨X, hXX⟩ : ∃ X, extW A d i x.L = X := ⟨_, rfl⟩
                              have x1 : X.is = true := by rw [← hXX]; rfl
                              have x2 : X.lg = A.lg + x.L := by rw [← hXX]; rfl
                              have x3 : X.pl = A.pl ++ [(d, (i : Int))] := by rw [← hXX]; rfl
                              have x4 : X.pl.length = A.pl.length + 1 := by rw [x3]; simp
                              rw [← x3] at hst2
                              rw [← x2] at n1
                              rw [← x4] at n2
                              have HXX := Lib.hid hXX; clear hXX
                              have hxl : X.pl.length ≤ 100000 := by rw [x4]; have := HLA.out; omega
                              have hnl : (q t fr).pl.length ≤ 100000 := by omega
                              have HSTX := Lib.hid hst2; clear hst2
                              have HSTN := Lib.hid hstN; clear hstN
                              have HPL := Lib.hid x4
                              have hbt0 := fun (W : World) (h : Below wc.heap.size wc W) => better_any W X (q t fr) a2 (pa t fr) c2 (pc t fr) (HSTX.out.below h) (HSTN.out.below h) hxl hnl
                              have hsm0 := fun (W : World) (h : Below wc.heap.size wc W) => same_any W X (q t fr) a2 (pa t fr) c2 (pc t fr) (HSTX.out.below h) (HSTN.out.below h) hxl hnl
                              simp only [x1] at hbt0 hsm0
                              have HN4 := Lib.hid (And.intro n0 (And.intro n1 (And.intro n2 (And.intro y0 (And.intro y1 (And.intro y2 y3))))))
                              have x0' := fun (z : BW wc) => z.cell HN4.out.1
                              have x1' := fun (z : BW wc) => z.cell HN4.out.2.1
                              have x2' := fun (z : BW wc) => z.cell HN4.out.2.2.1
                              have x3' := fun (z : BW wc) => z.cell HN4.out.2.2.2.1
                              have x4' := fun (z : BW wc) => z.cell HN4.out.2.2.2.2.1
                              have x5' := fun (z : BW wc) => z.cell HN4.out.2.2.2.2.2.1
                              have x6' := fun (z : BW wc) => z.cell HN4.out.2.2.2.2.2.2
                              have X1' := Lib.hid x1
                              clear n0 n1 n2 y0 y1 y2 y3 x1 x2 x3 x4 hlen0 hlgM
                              have HBT := Lib.hid hbt0; clear hbt0
                              have HSM := Lib.hid hsm0; clear hsm0
                              cases hbt : betterB X (q t fr)
                              · have HXX2 := Lib.hid (show PassAt r f d S P b M k s u (i + 1) c q from HPA.out.skip (fun x' t' hl hle' _ => by
                                  have hx' := hl.at'
                                  rw [HX.out] at hx'
                                  obtain rfl := Option.some.inj hx'
                                  obtain rfl : t' = t := by have h1 := hl.dst; have h2 := HLD.out.dst; omega
                                  rw [HA.out, HFR.out, HXX.out]; exact hbt))
                                have HBT2 := Lib.hid (fun (z : BW wc) => Calls.bw (by have := HBT.out z.v z.h; rwa [hbt] at this)); clear hbt HBT HSM
                                refine wp_region_below (by kernel_rfl) (by kernel_rfl) ?_
                                repeat (go_big_quiet_step ((go_at_call 128; exact HBT2.out _)))
                                refine wpQuiet_nil ?_
                                intro w5 hb5
                                have HB5 := Lib.hid hb5; clear hb5 x0' x1' x2' x3' x4' x5' x6'
                                go_wp2_with fail
                                exact ⟨⟨i + 1, c, by omega, rfl, by go_num, ⟨q, pa, pc, HXX2.out, HG4.out.below HB5.out, HB4.out.trans (HB5.out.mono HB4.out.size)⟩⟩, by simp [intOf]; omega⟩
                              · have hps := PassAt.set GG.out HBOK.out HPA.out HLD.out HLE.out hsS htS HIS.out (by rw [HA.out, HFR.out, HXX.out]; exact hbt)
                                rw [HFR.out, HA.out, HXX.out] at hps
                                have HPS := Lib.hid hps; clear hps
                                have HBT2 := Lib.hid (fun (z : BW wc) => Calls.bw (by have := HBT.out z.v z.h; rwa [hbt] at this))
                                have HSM2 := Lib.hid (fun (z : BW wc) => Calls.bw (by have := HSM.out z.v z.h; rw [hbt] at this; simpa using this)); clear hbt HBT HSM
                                refine wp_region_below (by kernel_rfl) (by kernel_rfl) ?_
                                repeat (go_big_quiet_step (first | (go_at_call 128; exact HBT2.out _) | (go_at_call 129; exact HSM2.out _)))
                                refine wpQuiet_nil ?_
                                intro w5 hb5
                                have n0 := ((bcell hb5).1 _ _ (lt_of_cell HN4.out.1)).trans HN4.out.1
                                have n1 := ((bcell hb5).1 _ _ (lt_of_cell HN4.out.2.1)).trans HN4.out.2.1
                                have n2 := ((bcell hb5).1 _ _ (lt_of_cell HN4.out.2.2.1)).trans HN4.out.2.2.1
                                have hg5 := HG4.out.below hb5
                                have HB5 := Lib.hid (HB4.out.trans (hb5.mono HB4.out.size))
                                have y0 := hg5.row (Nat.le_refl _) htS
                                have y1 := (hg5.inner t htS).c0 (s := fr) (by omega)
                                have y2 := (hg5.inner t htS).c1 (s := fr) (by omega)
                                have y3 := (hg5.inner t htS).c2 (s := fr) (by omega)
                                have z1 := (hg5.inner t htS).free (fr * 3)
                                have z2 := (hg5.inner t htS).free (fr * 3 + 1)
                                have z3 := (hg5.inner t htS).free (fr * 3 + 2)
                                have hset := hg5.set (i := t) (s := fr) htS (by omega) X a2 c2 (HSTX.out.below hb5)
                                rw [X1'.out] at hset
                                have HSET := Lib.hid hset; clear hset
                                have hbI := hg5.bI t htS
                                have HBS := Lib.hid (((HB5.out.setCell (p := ⟨gb t, fr * 3, none⟩) hbI (.bool true)).setCell (p := ⟨gb t, fr * 3 + 1, none⟩) hbI (.int .i64 X.lg)).setCell (p := ⟨gb t, fr * 3 + 2, none⟩) hbI (.slice a2 X.pl.length c2))
                                clear hg5 hb5 hbI x0' x1' x2' x3' x4' x5' x6' HB5
                                go_upto_region 26 with (fail)
                                go_region
                                all_goals
                                  go_wp2_with fail
                                  exact ⟨⟨i + 1, true, by omega, rfl, by go_num, ⟨_, _, _, HPS.out, HSET.out.below (Below.refl _ _).drew, HBS.out.drew⟩⟩, by simp [intOf]; omega⟩
                          · have HXX := Lib.hid (show DayIn r f d S P b M W0 gb k s u (i + 1) c wc from ⟨q, pa, pc, HPA.out.skip (fun x' t hl hle _ => by
                              have hx' := hl.at'
                              rw [HX.out] at hx'
                              obtain rfl := Option.some.inj hx'
                              exact (hcb1 rfl t hl hle).elim), HG2.out, HB2.out⟩)
                            clear hcb1 hcb2 HPA HG2 HB2 m0 m1 m2
                            go_wp2_with fail
                            exact ⟨⟨i + 1, c, by omega, rfl, by go_num, HXX.out⟩, by simp [intOf]; omega⟩
                    · have q3 : ¬ (i : Int) < (N : Int) := by omega
                      obtain rfl : N = i := by omega
                      have HX := Lib.hid (HIN.out.nextW (by rw [HN.out]; exact Nat.le_refl _)); clear HIN
                      go_wp2_with fail
                      exact ⟨⟨u + 1, c, by omega, rfl, by go_num, HX.out⟩, by simp [intOf]; omega⟩
                · have q2 : ¬ (u : Int) ≤ (P : Int) := by omega
                  obtain rfl : u = P + 1 := by omega
                  have HX := Lib.hid HIN.out.nextS; clear HIN
                  go_wp2_with fail
                  exact ⟨⟨s + 1, c, by omega, rfl, by go_num, HX.out⟩, by simp [intOf]; omega⟩
            · obtain rfl : S = s := by omega
              obtain ⟨n', hn, hx⟩ := HIN.out.done GG.out HGK.out.1 HGK.out.2.1 HGK.out.2.2
              have HX := Lib.hid hx; clear hx HIN
              go_wp2_with fail
              go_roundg n'
              case measure => exact hn
              case rel => exact ⟨c, rfl, HX.out⟩
end Go.Proofs.Ytjgkgnfhglhklaa
