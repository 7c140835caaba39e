/- The contract of mestalaw02.walks. -/
import Derived.Test.YtjgkgnfhglhklaaTable
import Derived.Test.YtjgkgnfhglhklaaWalksP
import Derived.Deep.CutBlock
namespace Go.Proofs.Ytjgkgnfhglhklaa
set_option linter.unusedSimpArgs false
set_option linter.unusedVariables false
open Go.RowKit

def gInt (M : Nat → Nat → Int) (s t : Nat) : Value := .int .i64 (M s t)
/-- Row m while it is made, up to column t. -/
def matR (m t : Nat) (i j : Nat) : Int := if i = m then (if j < t ∧ j ≠ m then 100000 else 0) else mat0 i j

set_option maxRecDepth 100000 in
set_option maxHeartbeats 8000000 in
theorem walks_any (w : World) {r : Roads} {f : Flock} (g : Good r f) (d : Int) (a : Option Addr) (cap S : Nat) (hS : r.stages = (S : Int)) (hs : StripsAt w a r.strips) (ob oc : Nat) (ho : ∀ j, j < r.strips.length → w.cell? ⟨ob, j, none⟩ = some (.bool (openB r f (-1) j d))) :
    Calls Try.prog 47 #[.agg #[.int .i64 r.days, .int .i64 (S : Int), .slice a r.strips.length cap], .slice (some ⟨ob, 0, none⟩) r.strips.length oc] w
      fun e w' => ∃ G gb M, e = .returned (.slice (some ⟨G, 0, none⟩) S S) ∧ Grid w' w.heap.size G 27 3 S S S gb (gInt M) ∧ Far r f d S M ∧ Below w.heap.size w w' := by
  have hS6 : S ≤ 6 := by have := g.s2; omega
  have hn8 := g.n8
  have hb0 : Below w.heap.size w (w.alloc (.cells #[.int .i64 r.days, .int .i64 (S : Int), .slice a r.strips.length cap] 24)) := (Below.refl _ _).alloc (Nat.le_refl _) _
  have hs0 : (w.alloc (.cells #[.int .i64 r.days, .int .i64 (S : Int), .slice a r.strips.length cap] 24)).heap.size = w.heap.size + 1 := by simp
  have x1 : (w.alloc (.cells #[.int .i64 r.days, .int .i64 (S : Int), .slice a r.strips.length cap] 24)).cell? ⟨w.heap.size, 1, none⟩ = some (.int .i64 (S : Int)) := by simp [go_sem]
  have x2 : (w.alloc (.cells #[.int .i64 r.days, .int .i64 (S : Int), .slice a r.strips.length cap] 24)).cell? ⟨w.heap.size, 2, none⟩ = some (.slice a r.strips.length cap) := by simp [go_sem]
  have hmk := run_make_row' (P := Try.prog) 54 27 (.slice none 0 0) 24 Try.underlying54 info_ints rfl .i64 .i64 S (by omega) (by omega)
  have hst := hs.below hb0
  have hob : ∀ j, j < r.strips.length → (w.alloc (.cells #[.int .i64 r.days, .int .i64 (S : Int), .slice a r.strips.length cap] 24)).cell? ⟨ob, j, none⟩ = some (.bool (openB r f (-1) j d)) := fun j hj => ((bcell hb0).1 _ _ (lt_of_cell (ho j hj))).trans (ho j hj)
  have HS := Lib.hid hS; clear hS
  have G := Lib.hid g; clear g hs
  have HO := Lib.hid hob; clear hob ho
  go_enter Try.func47, Try.ntmps47
  go_wp2_with fail
  clear hmk
  generalize (w.alloc (.cells #[.int .i64 r.days, .int .i64 (S : Int), .slice a r.strips.length cap] 24)) = W0 at hb0 hs0 x1 x2 hst HO ⊢
  have hbm : Below W0.heap.size W0 (W0.alloc (.cells (madeCells #[.slice none 0 0] S) 27)) := Below.alloc (Below.refl _ _) (Nat.le_refl _) _
  have hg0 := grid_new W0 W0.heap.size (Nat.le_refl _) 27 3 S S (fun _ => 0) (gInt mat0)
  rw [hs0] at hbm hg0
  have HS0 := Lib.hid hs0; clear hs0
  have X1 := Lib.hid x1; clear x1
  have X2 := Lib.hid x2; clear x2
  have HST := Lib.hid hst; clear hst
  have HB0 := Lib.hid hb0; clear hb0
  have HG0 := Lib.hid hg0; clear hg0
  have HBk := Lib.hid (fun (W : World) (h : Below (w.heap.size + 1) W0 W) => show Below W0.heap.size W0 W by rw [HS0.out]; exact h)
  go_loopw [6] (fun v6 wx => ∃ m : Nat, m ≤ S ∧ v6 = .int .i64 (m : Int) ∧ (∃ gb, Grid wx (w.heap.size + 1) (w.heap.size + 1) 27 3 S m S gb (gInt mat0)) ∧ Below (w.heap.size + 1) W0 wx) (fun v _ => S - (intOf v).toNat)
  case atStart => exact ⟨0, Nat.zero_le _, rfl, ⟨_, HG0.out⟩, hbm⟩
  case round =>
    clear hbm HG0
    obtain ⟨m, hm, rfl, ⟨gb, hg⟩, hbr⟩ := hrel
    have x1 := ((bcell (HBk.out _ hbr)).1 _ _ (lt_of_cell X1.out)).trans X1.out
    have x2 := ((bcell (HBk.out _ hbr)).1 _ _ (lt_of_cell X2.out)).trans X2.out
    have HG := Lib.hid hg; clear hg
    have HBR := Lib.hid hbr; clear hbr
    by_cases hmS : m < S
    · have hmk := run_make_row' (P := Try.prog) 27 3 (.int .i64 0) 8 Try.underlying27 info_int rfl .i64 .i64 S (by omega) (by omega)
      have hba : Below wr.heap.size wr (wr.alloc (.cells (madeCells #[.int .i64 0] S) 3)) := Below.alloc (Below.refl _ _) (Nat.le_refl _) _
      have k0 := ((bcell hba).1 _ _ (lt_of_cell (HG.out.blank (i := m) (by omega) hmS))).trans (HG.out.blank (i := m) (by omega) hmS)
      have k1 := ((bcell hba).2 _ m HG.out.lt).trans (HG.out.freeO m)
      have hpush := HG.out.push (.int .i64 0)
      have hsz := HBR.out.size
      have hbn : Below (w.heap.size + 1) W0 ((wr.alloc (.cells (madeCells #[.int .i64 0] S) 3)).setCell ⟨w.heap.size + 1, m, none⟩ (.slice (some ⟨wr.heap.size, 0, none⟩) S S)) :=
        (HBR.out.trans (hba.mono (by have := HS0.out; omega))).setCell (p := ⟨w.heap.size + 1, m, none⟩) (Nat.le_refl _) _
      have HP := Lib.hid hpush; clear hpush
      have HBN := Lib.hid hbn; clear hbn hba
      have q1 : (m : Int) < (S : Int) := by omega
      go_wp2_with fail
      clear hmk k0 k1 x1 x2
      generalize hgb : (fun i => if i = m then wr.heap.size else gb i) = gb' at HP
      generalize ((wr.alloc (.cells (madeCells #[.int .i64 0] S) 3)).setCell ⟨w.heap.size + 1, m, none⟩ (.slice (some ⟨wr.heap.size, 0, none⟩) S S)) = W1 at HP HBN ⊢
      clear hgb hsz
      go_loopw [7] (fun v7 wx => ∃ t : Nat, t ≤ S ∧ v7 = .int .i64 (t : Int) ∧ Grid wx (w.heap.size + 1) (w.heap.size + 1) 27 3 S (m + 1) S gb' (gInt (matR m t)) ∧ Below (w.heap.size + 1) W0 wx) (fun v _ => S - (intOf v).toNat)
      case atStart => exact ⟨0, Nat.zero_le _, rfl, HP.out.congr fun i j _ _ => by unfold gInt matR; split <;> simp, HBN.out⟩
      case round =>
        clear HP HBN HG HBR
        obtain ⟨t, ht, rfl, hg, hbr⟩ := hrel
        have x1 := ((bcell (HBk.out _ hbr)).1 _ _ (lt_of_cell X1.out)).trans X1.out
        have HG := Lib.hid hg
        have HBR := Lib.hid hbr; clear hbr
        by_cases htS : t < S
        · by_cases hmt : m = t
          · subst hmt
            clear hg
            go_wp2_with fail
            exact ⟨⟨m + 1, by omega, by go_num, HG.out.congr fun i j _ _ => by
              unfold gInt matR
              by_cases e : i = m
              · rw [if_pos e, if_pos e]
                by_cases c : j < m ∧ j ≠ m
                · rw [if_pos c, if_pos (by omega)]
                · rw [if_neg c, if_neg (by omega)]
              · rw [if_neg e, if_neg e], HBR.out⟩, by simp [intOf]; omega⟩
          · have y0 := hg.row (by omega) (i := m) (by omega)
            have y1 := hg.cell (i := m) (j := t) (by omega) htS
            have y2 := hg.free (i := m) (by omega) t
            have hbi := hg.bI m (by omega)
            have HSET := Lib.hid (hg.set (i := m) (by omega) t (.int .i64 100000)); clear hg
            have q2 : (t : Int) < (S : Int) := by omega
            have q3 : ¬ (m : Int) = (t : Int) := by omega
            go_wp2_with fail
            exact ⟨⟨t + 1, by omega, by go_num, HSET.out.congr fun i j _ _ => by
              unfold gInt matR
              by_cases e : i = m
              · subst e
                by_cases ej : j = t
                · subst ej; rw [if_pos ⟨rfl, rfl⟩, if_pos rfl, if_pos (by omega)]
                · rw [if_neg (fun h => ej h.2), if_pos rfl, if_pos rfl]
                  by_cases c : j < t ∧ j ≠ i
                  · rw [if_pos c, if_pos (by omega)]
                  · rw [if_neg c, if_neg (by omega)]
              · rw [if_neg (fun h => e h.1), if_neg e, if_neg e], HBR.out.setCell (p := ⟨gb' m, t, none⟩) hbi _⟩, by simp [intOf]; omega⟩
        · clear hg
          obtain rfl : t = S := by omega
          go_wp2_with fail
          exact ⟨⟨m + 1, by omega, by go_num, ⟨gb', HG.out.congr fun i j hi hj => by
            unfold gInt matR mat0
            by_cases e : i = m
            · subst e
              rw [if_pos rfl]
              by_cases c : i = j
              · subst c; rw [if_neg (by omega), if_pos rfl]
              · rw [if_pos (by omega), if_neg c]
            · rw [if_neg e]⟩, HBR.out⟩, by simp [intOf]; omega⟩
    · obtain rfl : m = S := by omega
      obtain ⟨wO, hwO⟩ : ∃ wO, wO = wr := ⟨_, rfl⟩
      go_wp2_with fail
      clear x1 x2
      go_loopw [8] (fun v8 wx => ∃ (i : Nat) (M : Nat → Nat → Int), i ≤ r.strips.length ∧ v8 = .int .i64 (i : Int) ∧ Grid wx (w.heap.size + 1) (w.heap.size + 1) 27 3 m m m gb (gInt M) ∧ MatOk r f d m M ∧ (∀ s t, s < m → t < m → M s t = M t s) ∧ Edges r f d m i M ∧ Below (w.heap.size + 1) W0 wx) (fun v _ => r.strips.length - (intOf v).toNat)
      case atStart => exact ⟨0, mat0, Nat.zero_le _, rfl, HG.out, mat0_ok _ _ _ _, fun s t _ _ => by unfold mat0; split <;> split <;> omega, ⟨fun j x h => absurd h (by omega)⟩, HBR.out⟩
      case round =>
        clear HG HBR hwO
        obtain ⟨i, M, hi, rfl, hg, hok, hsym, hed, hbr⟩ := hrel
        have x1 := ((bcell (HBk.out _ hbr)).1 _ _ (lt_of_cell X1.out)).trans X1.out
        have x2 := ((bcell (HBk.out _ hbr)).1 _ _ (lt_of_cell X2.out)).trans X2.out
        have HG := Lib.hid hg; clear hg
        have HOK := Lib.hid hok; clear hok
        have HSYM := Lib.hid hsym; clear hsym
        have HED := Lib.hid hed; clear hed
        have hbr0 := HBk.out _ hbr
        have HBR := Lib.hid hbr; clear hbr
        by_cases hlt : i < r.strips.length
        · rcases HST.out.below hbr0 with h0 | ⟨sb, so, rfl, hsc⟩
          · rw [h0] at hlt; simp at hlt
          have y5 := ((bcell hbr0).1 _ _ (lt_of_cell (HO.out i hlt))).trans (HO.out i hlt)
          obtain ⟨s0, s1, s2, s3, s4, s5, s6⟩ := hsc i hlt
          obtain ⟨b1, b2, b3, b4, b5, b6, b7, _⟩ := G.out.strip r.strips[i] (List.getElem_mem hlt)
          have hgs : r.strips[i]? = some r.strips[i] := List.getElem?_eq_getElem hlt
          generalize r.strips[i] = s at s0 s1 s2 s3 s4 s5 s6 b1 b2 b3 b4 b5 b6 b7 hgs
          obtain ⟨na, hna⟩ := Int.eq_ofNat_of_zero_le b1
          obtain ⟨nb, hnb⟩ := Int.eq_ofNat_of_zero_le b3
          have hal : na < m := by have := HS.out; omega
          have hbl : nb < m := by have := HS.out; omega
          have hab : na ≠ nb := by omega
          rw [hna] at s0
          rw [hnb] at s1
          have HNA := Lib.hid hna; clear hna
          have HNB := Lib.hid hnb; clear hnb
          have HGS := Lib.hid hgs; clear hgs hsc
          clear b1 b2 b3 b4 b5
          have hbX : Below wr.heap.size wr (wr.alloc (.cells #[.int .i64 (na : Int), .int .i64 (nb : Int), .int .i64 s.L, .int .i64 s.W, .int .i64 s.K, .int .i64 s.X, .int .i64 s.Y] 57)) := Below.alloc (Below.refl _ _) (Nat.le_refl _) _
          have z0 : (wr.alloc (.cells #[.int .i64 (na : Int), .int .i64 (nb : Int), .int .i64 s.L, .int .i64 s.W, .int .i64 s.K, .int .i64 s.X, .int .i64 s.Y] 57)).cell? ⟨wr.heap.size, 0, none⟩ = some (.int .i64 (na : Int)) := by simp [go_sem]
          have z1 : (wr.alloc (.cells #[.int .i64 (na : Int), .int .i64 (nb : Int), .int .i64 s.L, .int .i64 s.W, .int .i64 s.K, .int .i64 s.X, .int .i64 s.Y] 57)).cell? ⟨wr.heap.size, 1, none⟩ = some (.int .i64 (nb : Int)) := by simp [go_sem]
          have z2 : (wr.alloc (.cells #[.int .i64 (na : Int), .int .i64 (nb : Int), .int .i64 s.L, .int .i64 s.W, .int .i64 s.K, .int .i64 s.X, .int .i64 s.Y] 57)).cell? ⟨wr.heap.size, 2, none⟩ = some (.int .i64 s.L) := by simp [go_sem]
          have y6 := ((bcell hbX).1 _ _ (lt_of_cell y5)).trans y5
          have HGX := Lib.hid (HG.out.below hbX)
          have HBX := Lib.hid (HBR.out.trans (hbX.mono (by have := HBR.out.size; have := HS0.out; omega)))
          have hla : gb na < wr.heap.size := HG.out.ltI hal
          have hlb : gb nb < wr.heap.size := HG.out.ltI hbl
          clear hbX
          go_upto_region 15 with (fail)
          clear s0 s1 s2 s3 s4 s5 s6 x1 x2 y5 hbr0
          generalize (wr.alloc (.cells #[.int .i64 (na : Int), .int .i64 (nb : Int), .int .i64 s.L, .int .i64 s.W, .int .i64 s.K, .int .i64 s.X, .int .i64 s.Y] 57)) = wX at z0 z1 z2 y6 HGX HBX ⊢
          generalize wr.heap.size = xb at z0 z1 z2 hla hlb ⊢
          cases hop : openB r f (-1) i d
          · rw [hop] at y6
            have HOP := Lib.hid hop; clear hop
            go_wp2_with fail
            exact ⟨⟨i + 1, M, by omega, by go_num, HGX.out, HOK.out, HSYM.out, ⟨fun j x hj hx hox => by
              by_cases e : j = i
              · subst e; rw [HOP.out] at hox; simp at hox
              · exact HED.out.le j x (by omega) hx hox⟩, HBX.out⟩, by simp [intOf]; omega⟩
          · rw [hop] at y6
            have HOP := Lib.hid hop; clear hop
            have k0 := HGX.out.row (Nat.le_refl _) hal
            have k1 := HGX.out.row (Nat.le_refl _) hbl
            have k2 := HGX.out.cell (i := na) (j := nb) hal hbl
            have k3 := HGX.out.free hal nb
            have hbiA := HGX.out.bI na hal
            have hbiB := HGX.out.bI nb hbl
            have hset := HGX.out.set hal nb
            have hset' : ∀ x : Int, x = min (M na nb) s.L → Grid (wX.setCell ⟨gb na, nb, none⟩ (.int .i64 x)).drew (w.heap.size + 1) (w.heap.size + 1) 27 3 m m m gb (gInt fun u v => if u = na ∧ v = nb then min (M na nb) s.L else M u v) := by
              rintro x rfl
              exact ((hset (.int .i64 (min (M na nb) s.L))).congr fun u v _ _ => by unfold gInt; dsimp only; split <;> rfl).below (Below.refl _ _).drew
            have HSET := Lib.hid hset'; clear hset hset'
            have q1 : (na : Int) < (m : Int) := by omega
            have q2 : (nb : Int) < (m : Int) := by omega
            go_wp2_with fail
            clear y6
            go_cut [59] (fun v59 wx => Grid wx (w.heap.size + 1) (w.heap.size + 1) 27 3 m m m gb (gInt fun u v => if u = na ∧ v = nb then min (M na nb) s.L else M u v) ∧ wx.cell? ⟨xb, 0, none⟩ = some (.int .i64 (na : Int)) ∧ wx.cell? ⟨xb, 1, none⟩ = some (.int .i64 (nb : Int)) ∧ Below (w.heap.size + 1) W0 wx)
            case first =>
              unfold gInt at k2
              go_region
              all_goals go_wp2_with fail
              all_goals go_meet
              all_goals exact ⟨HSET.out _ (by first | omega | (split <;> omega)), (World.cell?_setCell_other _ _ _ _ (by intro e; injection e with e1; omega)).trans z0, (World.cell?_setCell_other _ _ _ _ (by intro e; injection e with e1; omega)).trans z1, (HBX.out.setCell (p := ⟨gb na, nb, none⟩) hbiA _).drew⟩
            case rest =>
              obtain ⟨hg2, c0, c1, hbr2⟩ := hcut
              clear k0 k1 k2 k3 z0 z1 z2 HSET
              have k0 := hg2.row (Nat.le_refl _) hal
              have k1 := hg2.row (Nat.le_refl _) hbl
              have k2 := hg2.cell (i := na) (j := nb) hal hbl
              have k3 := hg2.cell (i := nb) (j := na) hbl hal
              have k4 := hg2.free hbl na
              unfold gInt at k2
              dsimp only at k2
              rw [if_pos ⟨rfl, rfl⟩] at k2
              have hset := hg2.set hbl na (.int .i64 (min (M na nb) s.L))
              have HSET := Lib.hid hset; clear hset hg2
              have HBR2 := Lib.hid hbr2; clear hbr2
              have hld1 : Leads r f d (na : Int) (nb : Int) s.L := by
                have h := Leads.step (r := r) (f := f) (d := d) (s := (na : Int)) _ _ i s .refl HGS.out (by rw [← HNA.out]; simp [endOf]) HOP.out
                rw [← HNA.out] at h
                rw [show (endOf s s.A).1 = s.B by simp [endOf], HNA.out, HNB.out, Int.zero_add] at h
                exact h
              have hne : ¬ s.B = s.A := by have := HNA.out; have := HNB.out; omega
              have hld2 : Leads r f d (nb : Int) (na : Int) s.L := by
                have h := Leads.step (r := r) (f := f) (d := d) (s := (nb : Int)) _ _ i s .refl HGS.out (by rw [← HNB.out]; simp [endOf, hne]) HOP.out
                rw [← HNB.out] at h
                rw [show (endOf s s.B).1 = s.A by simp [endOf, hne], HNA.out, HNB.out, Int.zero_add] at h
                exact h
              obtain ⟨o1, o2, o3⟩ := matE_ok HOK.out HSYM.out hal hbl hab ⟨b6, b7⟩ hld1 hld2
              have o4 : Edges r f d m (i + 1) (matE M na nb s.L) := ⟨fun j x hj hx hox => by
                obtain ⟨p1, p2, p3, p4, _⟩ := G.out.strip x (List.mem_of_getElem? hx)
                have hS' := HS.out
                by_cases e : j = i
                · subst e
                  rw [HGS.out] at hx
                  obtain rfl : s = x := by simpa using hx
                  rw [HNA.out, HNB.out, show ((na : Int)).toNat = na from rfl, show ((nb : Int)).toNat = nb from rfl]
                  constructor
                  · unfold matE; rw [if_neg (by omega), if_pos ⟨rfl, rfl⟩]; omega
                  · unfold matE; rw [if_pos ⟨rfl, rfl⟩]; omega
                · obtain ⟨e1, e2⟩ := HED.out.le j x (by omega) hx hox
                  have h1 := o3 x.A.toNat x.B.toNat (by omega) (by omega)
                  have h2 := o3 x.B.toNat x.A.toNat (by omega) (by omega)
                  exact ⟨by omega, by omega⟩⟩
              have O1 := Lib.hid o1; clear o1
              have O2 := Lib.hid o2; clear o2
              have O4 := Lib.hid o4; clear o4 o3
              clear hld1 hld2 hne
              go_wp2_with fail
              go_region
              all_goals
                go_wp2_with fail
                refine ⟨⟨i + 1, matE M na nb s.L, by omega, by go_num, ?_, O1.out, O2.out, O4.out, (HBR2.out.setCell (p := ⟨gb nb, na, none⟩) hbiB _).drew⟩, by simp [intOf]; omega⟩
                exact (HSET.out.congr fun u v _ _ => by
                  unfold gInt matE
                  by_cases e : u = nb ∧ v = na
                  · rw [if_pos e, if_pos e]
                  · rw [if_neg e, if_neg e]).below (Below.refl _ _).drew
        · obtain rfl : i = r.strips.length := by omega
          go_wp2_with fail
          clear x1 x2 hbr0
          go_loopw [10] (fun v10 wx => ∃ (k : Nat) (M : Nat → Nat → Int), k ≤ m ∧ v10 = .int .i64 (k : Int) ∧ Grid wx (w.heap.size + 1) (w.heap.size + 1) 27 3 m m m gb (gInt M) ∧ MatOk r f d m M ∧ Tri m k M ∧ Edges r f d m r.strips.length M ∧ Below (w.heap.size + 1) W0 wx) (fun v _ => m - (intOf v).toNat)
          case atStart => exact ⟨0, M, Nat.zero_le _, rfl, HG.out, HOK.out, fun j _ _ h => absurd h (by omega), HED.out, HBR.out⟩
          case round =>
            clear HG HOK HSYM HED HBR
            obtain ⟨k, M, hk, rfl, hg, hok, htri, hed, hbr⟩ := hrel
            have x1 := ((bcell (HBk.out _ hbr)).1 _ _ (lt_of_cell X1.out)).trans X1.out
            have HG := Lib.hid hg; clear hg
            have HOK := Lib.hid hok; clear hok
            have HTRI := Lib.hid htri; clear htri
            have HED := Lib.hid hed; clear hed
            have HBR := Lib.hid hbr; clear hbr
            by_cases hkm : k < m
            · have hph := phase_ok HOK.out hkm HTRI.out HED.out (fun j x hx => by
                obtain ⟨p1, p2, p3, p4, _⟩ := G.out.strip x (List.mem_of_getElem? hx)
                have hS' := HS.out
                exact ⟨by omega, by omega⟩)
              have HPH := Lib.hid hph; clear hph
              have hz := HOK.out.zero k hkm
              have hr1 := fun s0 t0 s => matF_read (s0 := s0) (t0 := t0) (s := s) hz
              have hr2 := fun s0 t0 t => matF_read2 (s0 := s0) (t0 := t0) (t := t) hz
              have HR1 := Lib.hid hr1; clear hr1
              have HR2 := Lib.hid hr2; clear hr2 hz
              go_wp2_with fail
              clear x1
              go_loopw [11] (fun v11 wx => ∃ s : Nat, s ≤ m ∧ v11 = .int .i64 (s : Int) ∧ Grid wx (w.heap.size + 1) (w.heap.size + 1) 27 3 m m m gb (gInt (matF M k s 0)) ∧ Below (w.heap.size + 1) W0 wx) (fun v _ => m - (intOf v).toNat)
              case atStart => exact ⟨0, Nat.zero_le _, rfl, HG.out.congr fun u v _ _ => by unfold gInt matF; rw [if_neg (by omega)], HBR.out⟩
              case round =>
                clear HG HBR
                obtain ⟨s, hs, rfl, hg, hbr⟩ := hrel
                have x1 := ((bcell (HBk.out _ hbr)).1 _ _ (lt_of_cell X1.out)).trans X1.out
                have HG := Lib.hid hg; clear hg
                have HBR := Lib.hid hbr; clear hbr
                by_cases hsm : s < m
                · go_wp2_with fail
                  clear x1
                  go_loopw [12] (fun v12 wx => ∃ t : Nat, t ≤ m ∧ v12 = .int .i64 (t : Int) ∧ Grid wx (w.heap.size + 1) (w.heap.size + 1) 27 3 m m m gb (gInt (matF M k s t)) ∧ Below (w.heap.size + 1) W0 wx) (fun v _ => m - (intOf v).toNat)
                  case atStart => exact ⟨0, Nat.zero_le _, rfl, HG.out, HBR.out⟩
                  case round =>
                    clear HG HBR
                    obtain ⟨t, ht, rfl, hg, hbr⟩ := hrel
                    have x1 := ((bcell (HBk.out _ hbr)).1 _ _ (lt_of_cell X1.out)).trans X1.out
                    have HG := Lib.hid hg
                    have HBR := Lib.hid hbr; clear hbr
                    by_cases htm : t < m
                    · have k0 := hg.row (Nat.le_refl _) hsm
                      have k1 := hg.row (Nat.le_refl _) hkm
                      have k2 := hg.cell hsm htm
                      have k3 := hg.cell hsm hkm
                      have k4 := hg.cell hkm htm
                      have k5 := hg.free hsm t
                      have hbi := hg.bI s hsm
                      unfold gInt at k2 k3 k4
                      rw [show matF M k s t s t = M s t by unfold matF; rw [if_neg (by omega)]] at k2
                      rw [HR1.out] at k3
                      rw [HR2.out] at k4
                      have l1 := HOK.out.lo s k hsm hkm
                      have l2 := HOK.out.hi s k hsm hkm
                      have l3 := HOK.out.lo k t hkm htm
                      have l4 := HOK.out.hi k t hkm htm
                      have hset := hg.set hsm t
                      have hset' : ∀ x : Int, x = min (M s t) (M s k + M k t) → Grid (wr.setCell ⟨gb s, t, none⟩ (.int .i64 x)).drew (w.heap.size + 1) (w.heap.size + 1) 27 3 m m m gb (gInt (matF M k s (t + 1))) := by
                        rintro x rfl
                        exact ((hset (.int .i64 (min (M s t) (M s k + M k t)))).congr fun u v _ _ => by
                          unfold gInt
                          rw [← matF_set]
                          split <;> rfl).below (Below.refl _ _).drew
                      have HSET := Lib.hid hset'; clear hset hset' hg
                      generalize hA : M s t = ma at k2 HSET
                      generalize hB : M s k = mb at k3 l1 l2 HSET
                      generalize hC : M k t = mc at k4 l3 l4 HSET
                      clear hA hB hC
                      have e1 : IntKind.i64.wrap (mb + mc) = mb + mc := IntWalk.i64_in _ (by omega)
                      have q1 : (s : Int) < (m : Int) := by omega
                      have q2 : (k : Int) < (m : Int) := by omega
                      have q3 : (t : Int) < (m : Int) := by omega
                      go_wp2_with fail
                      go_region
                      all_goals
                        go_wp2_with fail
                        exact ⟨⟨t + 1, by omega, by go_num, HSET.out _ (by first | omega | (split <;> omega)), (HBR.out.setCell (p := ⟨gb s, t, none⟩) hbi _).drew⟩, by simp [intOf]; omega⟩
                    · clear hg
                      obtain rfl : t = m := by omega
                      go_wp2_with fail
                      exact ⟨⟨s + 1, by omega, by go_num, HG.out.congr fun u v _ hv => by unfold gInt; rw [matF_next hv], HBR.out⟩, by simp [intOf]; omega⟩
                · obtain rfl : s = m := by omega
                  go_wp2_with fail
                  exact ⟨⟨k + 1, matF M k s 0, by omega, by go_num, HG.out, HPH.out.1, HPH.out.2.1, HPH.out.2.2, HBR.out⟩, by simp [intOf]; omega⟩
            · obtain rfl : k = m := by omega
              go_wp2_with fail
              go_ret
              exact ⟨_, gb, M, rfl, HG.out.mono (by omega), far_of G.out HS.out HOK.out HTRI.out HED.out, HB0.out.trans (HBR.out.mono (by omega))⟩
end Go.Proofs.Ytjgkgnfhglhklaa
