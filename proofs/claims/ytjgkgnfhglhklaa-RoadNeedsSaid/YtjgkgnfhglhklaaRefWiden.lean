/- The contract of mestaref02.Widen. -/
import Derived.Test.YtjgkgnfhglhklaaWidenR
import Derived.Test.YtjgkgnfhglhklaaListsR
import Derived.Test.YtjgkgnfhglhklaaLateR
import Derived.Deep.RegionHeld3
import Derived.Deep.CutBlock
namespace Go.Proofs.Ytjgkgnfhglhklaa
set_option linter.unusedSimpArgs false
set_option linter.unusedVariables false
open Go.RowKit

/-- What Widen returns. -/
def widenV (r : Roads) (f : Flock) (fr tt day by' : Int) : List Int × Int :=
  if readyErr r f [fr, r.stages, tt, r.stages, day, r.days, by', r.days] = 0 then (match widenL r f fr.toNat tt.toNat day by' with | some L => (L, 0) | none => ([], 11)) else ([], readyErr r f [fr, r.stages, tt, r.stages, day, r.days, by', r.days])
theorem WidenPost.val {w w' : World} {r : Roads} {f : Flock} {fr tt day by' : Int} {e : Ending} (h : WidenPost w r f fr tt day by' e w') :
    ∃ ga gc, e = .returned (.tuple #[.slice ga (widenV r f fr tt day by').1.length gc, .int .i64 (widenV r f fr tt day by').2]) ∧ IntsAt w' ga (widenV r f fr tt day by').1 ∧ Below w.heap.size w w' := by
  obtain ⟨hb, ⟨h1, h2, rfl⟩ | ⟨h1, L, v, h2, rfl, hown⟩ | ⟨h1, rfl⟩⟩ := h
  · have e : widenV r f fr tt day by' = ([], 11) := by rw [widenV, if_pos h1, h2]
    rw [e]; exact ⟨none, 0, rfl, .inl rfl, hb⟩
  · obtain ⟨ga, gc, rfl, hi, _⟩ := hown.ints
    have e : widenV r f fr tt day by' = (L, 0) := by rw [widenV, if_pos h1, h2]
    rw [e]; exact ⟨ga, gc, rfl, hi, hb⟩
  · have e : widenV r f fr tt day by' = ([], readyErr r f [fr, r.stages, tt, r.stages, day, r.days, by', r.days]) := by rw [widenV, if_neg h1]
    rw [e]; exact ⟨none, 0, rfl, .inl rfl, hb⟩

set_option maxRecDepth 100000 in
set_option maxHeartbeats 8000000 in
theorem refWiden_any (w : World) (r : Roads) (f : Flock) (a : Option Addr) (cap : Nat) (hs : StripsAt w a r.strips) (hm : r.strips.length ≤ maxLen) (fr tt day by' : Int) :
    Calls Try.prog 64 #[.agg #[.int .i64 r.days, .int .i64 r.stages, .slice a r.strips.length cap], .agg #[.int .i64 f.heads, .int .i64 f.pace], .int .i64 fr, .int .i64 tt, .int .i64 day, .int .i64 by'] w
      fun e w' => ∃ ga gc, e = .returned (.tuple #[.slice ga (widenV r f fr tt day by').1.length gc, .int .i64 (widenV r f fr tt day by').2]) ∧ IntsAt w' ga (widenV r f fr tt day by').1 ∧ Below w.heap.size w w' := by
  have hb0 : Below w.heap.size w ((w.alloc (.cells #[.int .i64 r.days, .int .i64 r.stages, .slice a r.strips.length cap] 24)).alloc (.cells #[.int .i64 f.heads, .int .i64 f.pace] 26)) := ((Below.refl _ _).alloc (Nat.le_refl _) _).alloc (by simp) _
  have hz0 : ((w.alloc (.cells #[.int .i64 r.days, .int .i64 r.stages, .slice a r.strips.length cap] 24)).alloc (.cells #[.int .i64 f.heads, .int .i64 f.pace] 26)).heap.size = w.heap.size + 2 := by simp
  have x0 : ((w.alloc (.cells #[.int .i64 r.days, .int .i64 r.stages, .slice a r.strips.length cap] 24)).alloc (.cells #[.int .i64 f.heads, .int .i64 f.pace] 26)).cell? ⟨w.heap.size, 0, none⟩ = some (.int .i64 r.days) := by simp [go_sem]
  have x1 : ((w.alloc (.cells #[.int .i64 r.days, .int .i64 r.stages, .slice a r.strips.length cap] 24)).alloc (.cells #[.int .i64 f.heads, .int .i64 f.pace] 26)).cell? ⟨w.heap.size, 1, none⟩ = some (.int .i64 r.stages) := by simp [go_sem]
  have x2 : ((w.alloc (.cells #[.int .i64 r.days, .int .i64 r.stages, .slice a r.strips.length cap] 24)).alloc (.cells #[.int .i64 f.heads, .int .i64 f.pace] 26)).cell? ⟨w.heap.size, 2, none⟩ = some (.slice a r.strips.length cap) := by simp [go_sem]
  have x3 : ((w.alloc (.cells #[.int .i64 r.days, .int .i64 r.stages, .slice a r.strips.length cap] 24)).alloc (.cells #[.int .i64 f.heads, .int .i64 f.pace] 26)).cell? ⟨w.heap.size + 1, 0, none⟩ = some (.int .i64 f.heads) := by simp [go_sem]
  have x4 : ((w.alloc (.cells #[.int .i64 r.days, .int .i64 r.stages, .slice a r.strips.length cap] 24)).alloc (.cells #[.int .i64 f.heads, .int .i64 f.pace] 26)).cell? ⟨w.heap.size + 1, 1, none⟩ = some (.int .i64 f.pace) := by simp [go_sem]
  have hst := hs.below hb0
  have HM := Lib.hid hm; clear hm hs
  have HE := Lib.hid (ready_asked8 r f fr tt day by')
  go_enter Try.func64, Try.ntmps64
  go_upto_region 1 with (fail)
  generalize ((w.alloc (.cells #[.int .i64 r.days, .int .i64 r.stages, .slice a r.strips.length cap] 24)).alloc (.cells #[.int .i64 f.heads, .int .i64 f.pace] 26)) = W0 at hb0 hz0 x0 x1 x2 x3 x4 hst ⊢
  have hp1 := ints_new (w := W0) [fr, tt]
  have hp2 := ints_new (w := W0.alloc (.cells #[.int .i64 fr, .int .i64 tt] 3)) [day, by']
  have hba : Below W0.heap.size W0 ((W0.alloc (.cells #[.int .i64 fr, .int .i64 tt] 3)).alloc (.cells #[.int .i64 day, .int .i64 by'] 3)) := ((Below.refl _ _).alloc (Nat.le_refl _) _).alloc (by simp) _
  have hp1' := hp1.below (w' := ((W0.alloc (.cells #[.int .i64 fr, .int .i64 tt] 3)).alloc (.cells #[.int .i64 day, .int .i64 by'] 3))) ((Below.refl _ _).alloc (Nat.le_refl _) _)
  have hak := asked_any ((W0.alloc (.cells #[.int .i64 fr, .int .i64 tt] 3)).alloc (.cells #[.int .i64 day, .int .i64 by'] 3)) r f a cap (hst.below hba) HM.out _ _ 2 2 [fr, tt] [day, by'] hp1' hp2 (by simp) (by simp)
  rw [show (W0.alloc (.cells #[.int .i64 fr, .int .i64 tt] 3)).heap.size = W0.heap.size + 1 by simp] at hak
  rw [show [fr, tt].length = 2 from rfl, show [day, by'].length = 2 from rfl] at hak
  have HAK := Lib.hid hak; clear hak hp1 hp2 hp1'
  have HBA := Lib.hid hba; clear hba
  have HST := Lib.hid hst; clear hst
  have HB0 := Lib.hid hb0; clear hb0
  have HZ0 := Lib.hid hz0; clear hz0
  go_wp2_with fail
  refine HAK.out.mono ?_
  clear HAK
  rintro e w1 ⟨rfl, hb1⟩
  have HB1 := Lib.hid (HBA.out.trans (hb1.mono HBA.out.size)); clear hb1 HBA
  have x0' := ((bcell HB1.out).1 _ _ (lt_of_cell x0)).trans x0
  have x1' := ((bcell HB1.out).1 _ _ (lt_of_cell x1)).trans x1
  have x2' := ((bcell HB1.out).1 _ _ (lt_of_cell x2)).trans x2
  have x3' := ((bcell HB1.out).1 _ _ (lt_of_cell x3)).trans x3
  have x4' := ((bcell HB1.out).1 _ _ (lt_of_cell x4)).trans x4
  clear x0 x1 x2 x3 x4
  have HBW := Lib.hid (HB0.out.trans (HB1.out.mono HB0.out.size))
  by_cases hz : askedErr r f [fr, tt] [day, by'] = 0
  · obtain ⟨g, ⟨p1, p2⟩, ⟨p3, p4⟩, ⟨p5, p6⟩, p7, p8⟩ := good_of_asked4 hz
    obtain ⟨x, rfl⟩ := Int.eq_ofNat_of_zero_le p1
    obtain ⟨y, rfl⟩ := Int.eq_ofNat_of_zero_le p3
    obtain ⟨z, rfl⟩ := Int.eq_ofNat_of_zero_le p5
    obtain ⟨b, rfl⟩ := Int.eq_ofNat_of_zero_le p7
    have hl8 := g.n8
    have HV := Lib.hid (show widenV r f (x : Int) (y : Int) (z : Int) (b : Int) = (match widenL r f x y (z : Int) (b : Int) with | some L => (L, 0) | none => ([], 11)) by
      rw [widenV, if_pos (HE.out.trans hz), Int.toNat_natCast, Int.toNat_natCast])
    rw [hz]
    have HZ := Lib.hid hz; clear hz
    have G := Lib.hid g; clear g
    have P2 := Lib.hid p2
    have P4 := Lib.hid p4
    have P6 := Lib.hid p6
    have P8 := Lib.hid p8
    have X0 := Lib.hid x0'
    have X1 := Lib.hid x1'
    have X2 := Lib.hid x2'
    have X3 := Lib.hid x3'
    have X4 := Lib.hid x4'
    have HST1 := Lib.hid (HST.out.below HB1.out); clear HST
    clear p1 p2 p3 p4 p5 p6 p7 p8 x0' x1' x2' x3' x4'
    go_wp2_with fail
    go_loopw [15] (fun v15 wx => ∃ m : Nat, m ≤ r.strips.length + 1 ∧ v15 = .int .i64 (m : Int) ∧ Below w1.heap.size w1 wx ∧ ∀ k < m, ∀ l ∈ picksF r.strips.length k 0, widenT r f x y z b l = false) (fun v _ => r.strips.length + 1 - (intOf v).toNat)
    case atStart => exact ⟨0, Nat.zero_le _, rfl, Below.refl _ _, fun k hk => absurd hk (by omega)⟩
    case round =>
      obtain ⟨m, hm, rfl, hbr, hno⟩ := hrel
      have HNO := Lib.hid hno; clear hno
      have c2 := ((bcell hbr).1 _ _ (lt_of_cell X2.out)).trans X2.out
      have HBR := Lib.hid hbr; clear hbr
      by_cases hmn : m ≤ r.strips.length
      · have q0 : (m : Int) ≤ (r.strips.length : Int) := by omega
        go_wp2_with fail
        refine (ListsR_any r.strips.length hl8 m 0 wr (by omega) (by omega)).mono ?_
        rintro e wP ⟨vP, rfl, hP, hbP⟩
        have hPl := picks_len (n := r.strips.length) m 0
        have hPi := fun l (hl : l ∈ picksF r.strips.length m 0) => picks_in (n := r.strips.length) (m := m) hl
        have hfound := fun i hi hj ht => widen_found (r := r) (f := f) (fr := x) (tt := y) (m := m) (i := i) (d := (z : Int)) (b := (b : Int)) hmn HNO.out hi hj ht
        have hnext : (∀ l ∈ picksF r.strips.length m 0, widenT r f x y z b l = false) → ∀ k < m + 1, ∀ l ∈ picksF r.strips.length k 0, widenT r f x y z b l = false := fun h k hk => by
          by_cases e : k = m
          · subst e; exact h
          · exact HNO.out k (by omega)
        have hPc := picks_count (n := r.strips.length) 8 m 0 (by omega)
        generalize hPP : picksF r.strips.length m 0 = P at hP hPl hPi hfound hnext hPc
        clear hPP
        have hP256 : P.length ≤ 256 := hPc
        obtain ⟨pa, pc, hv, hpcap, hpne, hcells⟩ := hP.form
        subst hv
        have HPL := Lib.hid hPl; clear hPl
        have HPI := Lib.hid hPi; clear hPi
        have HFOUND := Lib.hid hfound; clear hfound
        have HNEXT := Lib.hid hnext; clear hnext
        have HP := Lib.hid hP; clear hP
        have HPNE := Lib.hid hpne; clear hpne
        have HCELLS := Lib.hid hcells; clear hcells
        have HBP := Lib.hid (HBR.out.trans (hbP.mono HBR.out.size))
        clear c2 hbP hPc HNO
        go_wp2_with fail
        go_loopw [17] (fun v17 wx => ∃ i : Nat, i ≤ P.length ∧ v17 = .int .i64 (i : Int) ∧ Below wP.heap.size wP wx ∧ ∀ j (h' : j < P.length), j < i → widenT r f x y z b P[j] = false) (fun v _ => P.length - (intOf v).toNat)
        case atStart => exact ⟨0, Nat.zero_le _, rfl, Below.refl _ _, fun j _ hj => absurd hj (by omega)⟩
        case round =>
          obtain ⟨i, hi, rfl, hbi, hnoi⟩ := hrel
          have HNOI := Lib.hid hnoi; clear hnoi
          have HBI := Lib.hid hbi; clear hbi
          have HBT := Lib.hid (HBP.out.trans (HBI.out.mono HBP.out.size))
          by_cases hip : i < P.length
          · obtain ⟨gP, xv, hpa, hgP, hcell, hin⟩ := HCELLS.out i hip
            subst hpa
            obtain ⟨la, lc, hxv, hints⟩ := hin.ints
            subst hxv
            have y5 := ((bcell HBI.out).1 _ _ (lt_of_cell hcell)).trans hcell
            clear hcell hin
            have hlm := HPL.out _ (List.getElem_mem hip)
            have hpi := HPI.out _ (List.getElem_mem hip)
            have hfnd := HFOUND.out i hip HNOI.out
            have hnx : widenT r f x y z b P[i] = false → ∀ j (h' : j < P.length), j < i + 1 → widenT r f x y z b P[j] = false := fun h j h' hj => by
              by_cases e : j = i
              · subst e; exact h
              · exact HNOI.out j h' (by omega)
            generalize P[i] = l at y5 hints hlm hpi hfnd hnx
            have HLI := Lib.hid (hints.below HBI.out); clear hints
            have hrange : ∀ k (h : k < l.length), 0 ≤ l[k] ∧ l[k] < r.strips.length := fun k h => by
              have h1 := hpi.lo k h
              have h2 := hpi.hi k h
              omega
            have HRG := Lib.hid hrange; clear hrange hpi
            have HLM := Lib.hid hlm; clear hlm
            have HFND := Lib.hid hfnd; clear hfnd
            have HNX := Lib.hid hnx; clear hnx
            have q1 : (i : Int) < (P.length : Int) := by omega
            have y0 := ((bcell HBT.out).1 _ _ (lt_of_cell X0.out)).trans X0.out
            have y1 := ((bcell HBT.out).1 _ _ (lt_of_cell X1.out)).trans X1.out
            have y2 := ((bcell HBT.out).1 _ _ (lt_of_cell X2.out)).trans X2.out
            have y3 := ((bcell HBT.out).1 _ _ (lt_of_cell X3.out)).trans X3.out
            have y4 := ((bcell HBT.out).1 _ _ (lt_of_cell X4.out)).trans X4.out
            have HSW := Lib.hid ((HST1.out.below HBT.out).below (Below.refl wr.heap.size wr).drew)
            have HLW := Lib.hid (HLI.out.below (Below.refl wr.heap.size wr).drew)
            go_upto_region 11 with (fail)
            go_cut [59] (fun v59 wx => v59 = .bool (widenT r f x y z b l) ∧ Below wr.heap.size wr wx)
            case first =>
              go_region_held3 (fun w' => w'.cell? ⟨w.heap.size, 0, none⟩ = some (.int .i64 r.days) ∧ w'.cell? ⟨w.heap.size, 1, none⟩ = some (.int .i64 r.stages) ∧ w'.cell? ⟨w.heap.size, 2, none⟩ = some (.slice a r.strips.length cap) ∧ w'.cell? ⟨w.heap.size + 1, 0, none⟩ = some (.int .i64 f.heads) ∧ w'.cell? ⟨w.heap.size + 1, 1, none⟩ = some (.int .i64 f.pace) ∧ w'.cell? ⟨gP, i, none⟩ = some (.slice la l.length lc))
                (first | with_reducible exact ⟨HK2.out _ _ _ y0, HK2.out _ _ _ y1, HK2.out _ _ _ y2, HK2.out _ _ _ y3, HK2.out _ _ _ y4, HK2.out _ _ _ y5⟩ | with_reducible exact ⟨HK1.out _ _ _ y0, HK1.out _ _ _ y1, HK1.out _ _ _ y2, HK1.out _ _ _ y3, HK1.out _ _ _ y4, HK1.out _ _ _ y5⟩ | exact ⟨y0, y1, y2, y3, y4, y5⟩) (first
                | (go_at_call 112; have hcn := refCan_any w5 (wide_good G.out l) (some ⟨g1, 0, none⟩) gc x y z b P2.out P4.out P6.out P8.out HS5.out; rw [show (widenR r l).days = r.days from rfl, show (widenR r l).stages = r.stages from rfl, show (widenR r l).strips.length = r.strips.length from widenS_len _ _] at hcn; (with_reducible refine hcn.mono ?_); clear hcn; rintro e w6 ⟨rfl, hb6⟩; have HB6 := Lib.hid (HB5.out.trans (hb6.mono HB5.out.size)); have HK2 := Lib.hid (show ∀ b o v, wr.cell? ⟨b, o, none⟩ = some v → w6.cell? ⟨b, o, none⟩ = some v from fun b o v h => have h' := HK1.out b o v h; ((bcell hb6).1 _ _ (lt_of_cell h')).trans h'); clear hb6)
                | (go_at_call 114; (with_reducible refine (refWidened_any wr.drew r a cap HSW.out hl8 la lc l HLW.out (by have := HLM.out; omega) HRG.out).mono ?_); rintro e w5 ⟨g1, gc, rfl, hg1, hin, hb5⟩; have HS5 := Lib.hid (show StripsAt w5 (some ⟨g1, 0, none⟩) (widenR r l).strips from .inr ⟨g1, 0, rfl, fun n hn => by rw [Nat.zero_add]; exact hin.at_ n hn⟩); have HB5 := Lib.hid ((Below.refl wr.heap.size wr).drew.trans hb5); have HK1 := Lib.hid (show ∀ b o v, wr.cell? ⟨b, o, none⟩ = some v → w5.cell? ⟨b, o, none⟩ = some v from fun b o v h => have h' : wr.drew.cell? ⟨b, o, none⟩ = some v := h; ((bcell hb5).1 _ _ (lt_of_cell h')).trans h'); clear hin hb5 hg1))
              all_goals (go_wp2_with fail; go_meet; exact ⟨rfl, HB6.out⟩)
            case rest =>
              obtain ⟨rfl, hbx⟩ := hcut
              have y5' := ((bcell hbx).1 _ _ (lt_of_cell y5)).trans y5
              have HLI2 := Lib.hid (HLI.out.below hbx)
              have HBI2 := Lib.hid (HBI.out.trans (hbx.mono HBI.out.size))
              have HBF := Lib.hid (HBW.out.trans ((HBT.out.trans (hbx.mono HBT.out.size)).mono HBW.out.size))
              clear y0 y1 y2 y3 y4 y5 hbx HSW HLW HLI
              cases hT : widenT r f x y z b l
              · have HT := Lib.hid hT; clear hT
                clear y5'
                go_wp2_with fail
                exact ⟨⟨i + 1, by omega, by go_num, HBI2.out, HNX.out HT.out⟩, by simp [intOf]; omega⟩
              · have hw := HFND.out hT
                have HR := Lib.hid (show widenV r f (x : Int) (y : Int) (z : Int) (b : Int) = (l, 0) by rw [HV.out, hw]); clear hw hT
                go_wp2_with fail
                go_ret2
                rw [HR.out]
                exact ⟨la, lc, rfl, HLI2.out, HBF.out⟩
          · obtain rfl : i = P.length := by omega
            have HALL := Lib.hid (HNEXT.out fun l hl => by
              obtain ⟨j, hj, rfl⟩ := List.getElem_of_mem hl
              exact HNOI.out j hj hj)
            have q1 : ¬ ((P.length : Nat) : Int) < (P.length : Int) := by omega
            go_wp2_with fail
            exact ⟨⟨m + 1, by omega, by go_num, HBT.out, HALL.out⟩, by simp [intOf]; omega⟩
      · have HR := Lib.hid (show widenV r f (x : Int) (y : Int) (z : Int) (b : Int) = ([], 11) by
          rw [HV.out, widen_no fun k hk => HNO.out k (by omega)])
        have q0 : ¬ (m : Int) ≤ (r.strips.length : Int) := by omega
        go_wp2_with fail
        go_ret2
        rw [HR.out]
        exact ⟨none, ⟨0, rfl⟩, .inl rfl, HBW.out.trans (HBR.out.mono HBW.out.size)⟩
  · have hne : (askedErr r f [fr, tt] [day, by'] != 0) = true := by simpa using hz
    have HR := Lib.hid (show widenV r f fr tt day by' = ([], askedErr r f [fr, tt] [day, by']) by rw [widenV, if_neg (by rw [HE.out]; exact hz), HE.out])
    have HZ := Lib.hid hz; clear hz
    clear x0' x1' x2' x3' x4'
    go_wp2_with fail
    go_ret2
    rw [HR.out]
    exact ⟨none, 0, rfl, .inl rfl, HBW.out⟩
end Go.Proofs.Ytjgkgnfhglhklaa
