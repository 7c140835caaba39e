/- The contract of mestaref02.Must. -/
import Derived.Test.YtjgkgnfhglhklaaWithout
import Derived.Test.YtjgkgnfhglhklaaLateR
import Derived.Deep.RegionHeld3
import Derived.Deep.CutBlock
namespace Go.Proofs.Ytjgkgnfhglhklaa
set_option linter.unusedSimpArgs false
set_option linter.unusedVariables false
open Go.RowKit

set_option maxRecDepth 100000 in
set_option maxHeartbeats 8000000 in
theorem refMust_any (w : World) (r : Roads) (f : Flock) (a : Option Addr) (cap : Nat) (hs : StripsAt w a r.strips) (hm : r.strips.length ≤ maxLen) (hvc : r.strips.length ≤ cap) (fr tt day by' : Int) :
    Calls Try.prog 65 #[.agg #[.int .i64 r.days, .int .i64 r.stages, .slice a r.strips.length cap], .agg #[.int .i64 f.heads, .int .i64 f.pace], .int .i64 fr, .int .i64 tt, .int .i64 day, .int .i64 by'] w (MustPost w r f fr tt day by') := by
  have hb0 : Below w.heap.size w ((w.alloc (.cells #[.int .i64 r.days, .int .i64 r.stages, .slice a r.strips.length cap] 24)).alloc (.cells #[.int .i64 f.heads, .int .i64 f.pace] 26)) := ((Below.refl _ _).alloc (Nat.le_refl _) _).alloc (by simp) _
  have hz0 : ((w.alloc (.cells #[.int .i64 r.days, .int .i64 r.stages, .slice a r.strips.length cap] 24)).alloc (.cells #[.int .i64 f.heads, .int .i64 f.pace] 26)).heap.size = w.heap.size + 2 := by simp
  have x0 : ((w.alloc (.cells #[.int .i64 r.days, .int .i64 r.stages, .slice a r.strips.length cap] 24)).alloc (.cells #[.int .i64 f.heads, .int .i64 f.pace] 26)).cell? ⟨w.heap.size, 0, none⟩ = some (.int .i64 r.days) := by simp [go_sem]
  have x1 : ((w.alloc (.cells #[.int .i64 r.days, .int .i64 r.stages, .slice a r.strips.length cap] 24)).alloc (.cells #[.int .i64 f.heads, .int .i64 f.pace] 26)).cell? ⟨w.heap.size, 1, none⟩ = some (.int .i64 r.stages) := by simp [go_sem]
  have x2 : ((w.alloc (.cells #[.int .i64 r.days, .int .i64 r.stages, .slice a r.strips.length cap] 24)).alloc (.cells #[.int .i64 f.heads, .int .i64 f.pace] 26)).cell? ⟨w.heap.size, 2, none⟩ = some (.slice a r.strips.length cap) := by simp [go_sem]
  have x3 : ((w.alloc (.cells #[.int .i64 r.days, .int .i64 r.stages, .slice a r.strips.length cap] 24)).alloc (.cells #[.int .i64 f.heads, .int .i64 f.pace] 26)).cell? ⟨w.heap.size + 1, 0, none⟩ = some (.int .i64 f.heads) := by simp [go_sem]
  have x4 : ((w.alloc (.cells #[.int .i64 r.days, .int .i64 r.stages, .slice a r.strips.length cap] 24)).alloc (.cells #[.int .i64 f.heads, .int .i64 f.pace] 26)).cell? ⟨w.heap.size + 1, 1, none⟩ = some (.int .i64 f.pace) := by simp [go_sem]
  have hst := hs.below hb0
  have HM := Lib.hid hm; clear hm hs
  have HE := Lib.hid (ready_asked8 r f fr tt day by')
  go_enter Try.func65, Try.ntmps65
  go_upto_region 1 with (fail)
  generalize ((w.alloc (.cells #[.int .i64 r.days, .int .i64 r.stages, .slice a r.strips.length cap] 24)).alloc (.cells #[.int .i64 f.heads, .int .i64 f.pace] 26)) = W0 at hb0 hz0 x0 x1 x2 x3 x4 hst ⊢
  have hp1 := ints_new (w := W0) [fr, tt]
  have hp2 := ints_new (w := W0.alloc (.cells #[.int .i64 fr, .int .i64 tt] 3)) [day, by']
  have hba : Below W0.heap.size W0 ((W0.alloc (.cells #[.int .i64 fr, .int .i64 tt] 3)).alloc (.cells #[.int .i64 day, .int .i64 by'] 3)) := ((Below.refl _ _).alloc (Nat.le_refl _) _).alloc (by simp) _
  have hp1' := hp1.below (w' := ((W0.alloc (.cells #[.int .i64 fr, .int .i64 tt] 3)).alloc (.cells #[.int .i64 day, .int .i64 by'] 3))) ((Below.refl _ _).alloc (Nat.le_refl _) _)
  have hak := asked_any ((W0.alloc (.cells #[.int .i64 fr, .int .i64 tt] 3)).alloc (.cells #[.int .i64 day, .int .i64 by'] 3)) r f a cap (hst.below hba) HM.out _ _ 2 2 [fr, tt] [day, by'] hp1' hp2 (by simp) (by simp)
  rw [show (W0.alloc (.cells #[.int .i64 fr, .int .i64 tt] 3)).heap.size = W0.heap.size + 1 by simp] at hak
  rw [show [fr, tt].length = 2 from rfl, show [day, by'].length = 2 from rfl] at hak
  have HAK := Lib.hid hak; clear hak hp1 hp2 hp1'
  have HBA := Lib.hid hba; clear hba
  have HST := Lib.hid hst; clear hst
  have HB0 := Lib.hid hb0; clear hb0
  have HZ0 := Lib.hid hz0; clear hz0
  go_wp2_with fail
  refine HAK.out.mono ?_
  clear HAK
  rintro e w1 ⟨rfl, hb1⟩
  have HB1 := Lib.hid (HBA.out.trans (hb1.mono HBA.out.size)); clear hb1 HBA
  have x0' := ((bcell HB1.out).1 _ _ (lt_of_cell x0)).trans x0
  have x1' := ((bcell HB1.out).1 _ _ (lt_of_cell x1)).trans x1
  have x2' := ((bcell HB1.out).1 _ _ (lt_of_cell x2)).trans x2
  have x3' := ((bcell HB1.out).1 _ _ (lt_of_cell x3)).trans x3
  have x4' := ((bcell HB1.out).1 _ _ (lt_of_cell x4)).trans x4
  clear x0 x1 x2 x3 x4
  have HBW := Lib.hid (HB0.out.trans (HB1.out.mono HB0.out.size))
  by_cases hz : askedErr r f [fr, tt] [day, by'] = 0
  · obtain ⟨g, ⟨p1, p2⟩, ⟨p3, p4⟩, ⟨p5, p6⟩, p7, p8⟩ := good_of_asked4 hz
    obtain ⟨k, rfl⟩ := Int.eq_ofNat_of_zero_le p1
    obtain ⟨j, rfl⟩ := Int.eq_ofNat_of_zero_le p3
    obtain ⟨z, rfl⟩ := Int.eq_ofNat_of_zero_le p5
    obtain ⟨b, rfl⟩ := Int.eq_ofNat_of_zero_le p7
    have hl8 := g.n8
    have HCN := Lib.hid (refCan_any w1 g a cap k j z b p2 p4 p6 p8 (HST.out.below HB1.out))
    rw [hz]
    have HZ := Lib.hid hz; clear hz
    have G := Lib.hid g; clear g
    have P2 := Lib.hid p2
    have P4 := Lib.hid p4
    have P6 := Lib.hid p6
    have P8 := Lib.hid p8
    clear p1 p2 p3 p4 p5 p6 p7 p8
    go_wp2_with fail
    refine HCN.out.mono ?_
    clear HCN
    rintro e w2 ⟨rfl, hb2⟩
    have X0 := Lib.hid (((bcell hb2).1 _ _ (lt_of_cell x0')).trans x0')
    have X1 := Lib.hid (((bcell hb2).1 _ _ (lt_of_cell x1')).trans x1')
    have X2 := Lib.hid (((bcell hb2).1 _ _ (lt_of_cell x2')).trans x2')
    have X3 := Lib.hid (((bcell hb2).1 _ _ (lt_of_cell x3')).trans x3')
    have X4 := Lib.hid (((bcell hb2).1 _ _ (lt_of_cell x4')).trans x4')
    clear x0' x1' x2' x3' x4'
    have HST2 := Lib.hid ((HST.out.below HB1.out).below hb2); clear HST
    have HB2 := Lib.hid (HBW.out.trans (hb2.mono HBW.out.size)); clear hb2
    cases hc : canB r f (-1) k j (z : Int) (b : Int)
    · have HC := Lib.hid hc; clear hc
      go_wp2_with fail
      go_ret2
      exact ⟨HB2.out, .inl ⟨HE.out.trans HZ.out, by rw [Int.toNat_natCast, Int.toNat_natCast]; exact HC.out, rfl⟩⟩
    · have HC := Lib.hid hc; clear hc
      go_wp2_with fail
      go_loopw [15, 16] (fun v15 v16 wx => ∃ i : Nat, i ≤ r.strips.length ∧ v16 = .int .i64 (i : Int) ∧ OwnInts wx w2.heap.size v15 (mustTo r f k j (z : Int) (b : Int) i) ∧ Below w2.heap.size w2 wx) (fun _ v _ => r.strips.length - (intOf v).toNat)
      case atStart => exact ⟨0, Nat.zero_le _, rfl, OwnInts.nil _ _, Below.refl _ _⟩
      case round =>
        obtain ⟨i, hi, rfl, hown, hbr⟩ := hrel
        have hle := mustTo_le r f k j (z : Int) (b : Int) i
        have y2 := ((bcell hbr).1 _ _ (lt_of_cell X2.out)).trans X2.out
        have HOWN := Lib.hid hown; clear hown
        by_cases hlt : i < r.strips.length
        · have y0 := ((bcell hbr).1 _ _ (lt_of_cell X0.out)).trans X0.out
          have y1 := ((bcell hbr).1 _ _ (lt_of_cell X1.out)).trans X1.out
          have y3 := ((bcell hbr).1 _ _ (lt_of_cell X3.out)).trans X3.out
          have y4 := ((bcell hbr).1 _ _ (lt_of_cell X4.out)).trans X4.out
          have HSW := Lib.hid ((HST2.out.below hbr).below (Below.refl wr.heap.size wr).drew)
          have HBR := Lib.hid hbr; clear hbr
          have q1 : (i : Int) < (r.strips.length : Int) := by omega
          go_upto_region 10 with (fail)
          go_cut [53] (fun v53 wx => v53 = .bool (!(canB (without r i) f (-1) k j (z : Int) (b : Int))) ∧ Below wr.heap.size wr wx)
          case first =>
            go_region_held3 (fun w' => w'.cell? ⟨w.heap.size, 0, none⟩ = some (.int .i64 r.days) ∧ w'.cell? ⟨w.heap.size, 1, none⟩ = some (.int .i64 r.stages) ∧ w'.cell? ⟨w.heap.size, 2, none⟩ = some (.slice a r.strips.length cap) ∧ w'.cell? ⟨w.heap.size + 1, 0, none⟩ = some (.int .i64 f.heads) ∧ w'.cell? ⟨w.heap.size + 1, 1, none⟩ = some (.int .i64 f.pace))
              (first | with_reducible exact ⟨HK2.out _ _ _ y0, HK2.out _ _ _ y1, HK2.out _ _ _ y2, HK2.out _ _ _ y3, HK2.out _ _ _ y4⟩ | with_reducible exact ⟨HK1.out _ _ _ y0, HK1.out _ _ _ y1, HK1.out _ _ _ y2, HK1.out _ _ _ y3, HK1.out _ _ _ y4⟩ | exact ⟨y0, y1, y2, y3, y4⟩) (first
              | (go_at_call 112; have hcn := refCan_any w5 (without_good G.out i) (some ⟨g1, 0, none⟩) gc k j z b P2.out P4.out P6.out P8.out HS5.out; rw [show (without r i).days = r.days from rfl, show (without r i).stages = r.stages from rfl] at hcn; (with_reducible refine hcn.mono ?_); clear hcn; rintro e w6 ⟨rfl, hb6⟩; have HB6 := Lib.hid (HB5.out.trans (hb6.mono HB5.out.size)); have HK2 := Lib.hid (show ∀ b o v, wr.cell? ⟨b, o, none⟩ = some v → w6.cell? ⟨b, o, none⟩ = some v from fun b o v h => have h' := HK1.out b o v h; ((bcell hb6).1 _ _ (lt_of_cell h')).trans h'); clear hb6)
              | (go_at_call 115; (with_reducible refine (refWithout_any wr.drew G.out a cap HSW.out hvc i hlt).mono ?_); rintro e w5 ⟨g1, gc, rfl, hg1, hin, hb5⟩; have HS5 := Lib.hid (show StripsAt w5 (some ⟨g1, 0, none⟩) (without r i).strips from .inr ⟨g1, 0, rfl, fun n hn => by rw [Nat.zero_add]; exact hin.at_ n hn⟩); have HB5 := Lib.hid ((Below.refl wr.heap.size wr).drew.trans hb5); have HK1 := Lib.hid (show ∀ b o v, wr.cell? ⟨b, o, none⟩ = some v → w5.cell? ⟨b, o, none⟩ = some v from fun b o v h => have h' : wr.drew.cell? ⟨b, o, none⟩ = some v := h; ((bcell hb5).1 _ _ (lt_of_cell h')).trans h'); clear hin hb5 hg1))
            all_goals (go_wp2_with fail; go_meet; exact ⟨rfl, HB6.out⟩)
          case rest =>
            obtain ⟨rfl, hbx⟩ := hcut
            rw [← can_without G.out]
            have hown3 := HOWN.out.below hbx
            have hbr3 := HBR.out.trans (hbx.mono HBR.out.size)
            clear y0 y1 y2 y3 y4 hbx
            cases hT : canB r f (i : Int) k j (z : Int) (b : Int)
            · have he : mustTo r f k j (z : Int) (b : Int) (i + 1) = mustTo r f k j (z : Int) (b : Int) i ++ [(i : Int)] := by simp [mustTo, hT]
              have HE2 := Lib.hid he; clear he hT
              go_wp2_with (at_builtin; refine app_int1 rfl _ _ rfl w2.heap.size _ _ rfl hown3 _ rfl (by omega) hbr3.size ?_)
              intro v' w' hown' hbel _
              go_wp2_with fail
              exact ⟨⟨i + 1, by omega, by go_num, by rw [HE2.out]; exact hown', hbr3.trans hbel⟩, by simp [intOf]; omega⟩
            · have he : mustTo r f k j (z : Int) (b : Int) (i + 1) = mustTo r f k j (z : Int) (b : Int) i := by simp [mustTo, hT]
              have HE2 := Lib.hid he; clear he hT
              go_wp2_with fail
              exact ⟨⟨i + 1, by omega, by go_num, by rw [HE2.out]; exact hown3, hbr3⟩, by simp [intOf]; omega⟩
        · obtain rfl : i = r.strips.length := by omega
          have HBR := Lib.hid hbr; clear hbr
          go_wp2_with fail
          go_ret2
          exact ⟨HB2.out.trans (HBR.out.mono HB2.out.size), .inr (.inl ⟨HE.out.trans HZ.out, by rw [Int.toNat_natCast, Int.toNat_natCast]; exact HC.out, _, rfl, by rw [Int.toNat_natCast, Int.toNat_natCast]; exact HOWN.out.mono HB2.out.size⟩)⟩
  · have hne : (askedErr r f [fr, tt] [day, by'] != 0) = true := by simpa using hz
    have HZ := Lib.hid hz; clear hz
    clear x0' x1' x2' x3' x4'
    go_wp2_with fail
    go_ret2
    exact ⟨HBW.out, .inr (.inr ⟨by rw [HE.out]; exact HZ.out, by rw [HE.out]; rfl⟩)⟩
end Go.Proofs.Ytjgkgnfhglhklaa
