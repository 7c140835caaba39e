/- The contract of mestaref02.Heads. -/
import Derived.Test.YtjgkgnfhglhklaaLateR
import Derived.Test.YtjgkgnfhglhklaaHeadsPub
namespace Go.Proofs.Ytjgkgnfhglhklaa
set_option linter.unusedSimpArgs false
set_option linter.unusedVariables false
open Go.RowKit

set_option maxRecDepth 100000 in
set_option maxHeartbeats 4000000 in
theorem refHeads_any (w : World) (r : Roads) (p : Int) (a : Option Addr) (cap : Nat) (hs : StripsAt w a r.strips) (hm : r.strips.length ≤ maxLen) (fr tt day by' : Int) :
    Calls Try.prog 63 #[.agg #[.int .i64 r.days, .int .i64 r.stages, .slice a r.strips.length cap], .int .i64 p, .int .i64 fr, .int .i64 tt, .int .i64 day, .int .i64 by'] w (HeadsPost w r p fr tt day by') := by
  have hb0 : Below w.heap.size w (w.alloc (.cells #[.int .i64 r.days, .int .i64 r.stages, .slice a r.strips.length cap] 24)) := (Below.refl _ _).alloc (Nat.le_refl _) _
  have x0 : (w.alloc (.cells #[.int .i64 r.days, .int .i64 r.stages, .slice a r.strips.length cap] 24)).cell? ⟨w.heap.size, 0, none⟩ = some (.int .i64 r.days) := by simp [go_sem]
  have x1 : (w.alloc (.cells #[.int .i64 r.days, .int .i64 r.stages, .slice a r.strips.length cap] 24)).cell? ⟨w.heap.size, 1, none⟩ = some (.int .i64 r.stages) := by simp [go_sem]
  have x2 : (w.alloc (.cells #[.int .i64 r.days, .int .i64 r.stages, .slice a r.strips.length cap] 24)).cell? ⟨w.heap.size, 2, none⟩ = some (.slice a r.strips.length cap) := by simp [go_sem]
  have hst := hs.below hb0
  have HM := Lib.hid hm; clear hm hs
  have HE := Lib.hid (ready_asked8 r ⟨1, p⟩ fr tt day by')
  go_enter Try.func63, Try.ntmps63
  go_upto_region 1 with (fail)
  generalize (w.alloc (.cells #[.int .i64 r.days, .int .i64 r.stages, .slice a r.strips.length cap] 24)) = W0 at hb0 x0 x1 x2 hst ⊢
  have hp1 := ints_new (w := W0) [fr, tt]
  have hp2 := ints_new (w := W0.alloc (.cells #[.int .i64 fr, .int .i64 tt] 3)) [day, by']
  have hba : Below W0.heap.size W0 ((W0.alloc (.cells #[.int .i64 fr, .int .i64 tt] 3)).alloc (.cells #[.int .i64 day, .int .i64 by'] 3)) := ((Below.refl _ _).alloc (Nat.le_refl _) _).alloc (by simp) _
  have hp1' := hp1.below (w' := ((W0.alloc (.cells #[.int .i64 fr, .int .i64 tt] 3)).alloc (.cells #[.int .i64 day, .int .i64 by'] 3))) ((Below.refl _ _).alloc (Nat.le_refl _) _)
  have hak := asked_any ((W0.alloc (.cells #[.int .i64 fr, .int .i64 tt] 3)).alloc (.cells #[.int .i64 day, .int .i64 by'] 3)) r ⟨1, p⟩ a cap (hst.below hba) HM.out _ _ 2 2 [fr, tt] [day, by'] hp1' hp2 (by simp) (by simp)
  rw [show (W0.alloc (.cells #[.int .i64 fr, .int .i64 tt] 3)).heap.size = W0.heap.size + 1 by simp] at hak
  rw [show [fr, tt].length = 2 from rfl, show [day, by'].length = 2 from rfl] at hak
  dsimp only at hak
  have HAK := Lib.hid hak; clear hak hp1 hp2 hp1'
  have HBA := Lib.hid hba; clear hba
  have HST := Lib.hid hst; clear hst
  have HB0 := Lib.hid hb0; clear hb0
  go_wp2_with fail
  refine HAK.out.mono ?_
  clear HAK
  rintro e w1 ⟨rfl, hb1⟩
  have HB1 := Lib.hid (HBA.out.trans (hb1.mono HBA.out.size)); clear hb1 HBA
  have X0 := Lib.hid (((bcell HB1.out).1 _ _ (lt_of_cell x0)).trans x0)
  have X1 := Lib.hid (((bcell HB1.out).1 _ _ (lt_of_cell x1)).trans x1)
  have X2 := Lib.hid (((bcell HB1.out).1 _ _ (lt_of_cell x2)).trans x2)
  clear x0 x1 x2
  have HBW := Lib.hid (HB0.out.trans (HB1.out.mono HB0.out.size))
  by_cases hz : askedErr r ⟨1, p⟩ [fr, tt] [day, by'] = 0
  · obtain ⟨g, ⟨p1, p2⟩, ⟨p3, p4⟩, ⟨p5, p6⟩, p7, p8⟩ := good_of_asked4 hz
    obtain ⟨k, rfl⟩ := Int.eq_ofNat_of_zero_le p1
    obtain ⟨j, rfl⟩ := Int.eq_ofNat_of_zero_le p3
    obtain ⟨z, rfl⟩ := Int.eq_ofNat_of_zero_le p5
    obtain ⟨b, rfl⟩ := Int.eq_ofNat_of_zero_le p7
    rw [hz]
    have HZ := Lib.hid hz; clear hz
    have G := Lib.hid g; clear g
    have P2 := Lib.hid p2
    have P4 := Lib.hid p4
    have P6 := Lib.hid p6
    have P8 := Lib.hid p8
    clear p1 p2 p3 p4 p5 p6 p7 p8
    go_wp2_with fail
    go_loopw [15] (fun v15 wx => ∃ n : Nat, n ≤ 40 ∧ v15 = .int .i64 (n : Int) ∧ headsR r p k j (z : Int) (b : Int) n = headsR r p k j (z : Int) (b : Int) 40 ∧ Below w1.heap.size w1 wx) (fun v _ => (intOf v).toNat)
    case atStart => exact ⟨40, Nat.le_refl _, rfl, rfl, Below.refl _ _⟩
    case round =>
      obtain ⟨n, hn, rfl, hE, hbw⟩ := hrel
      have HEQ := Lib.hid hE; clear hE
      cases n with
      | zero =>
        go_wp2_with fail
        go_ret2
        exact ⟨HBW.out.trans (hbw.mono HBW.out.size), .inl ⟨HE.out.trans HZ.out, by rw [Int.toNat_natCast, Int.toNat_natCast]; exact HEQ.out.symm, rfl⟩⟩
      | succ m =>
        have hstep : headsR r p k j (z : Int) (b : Int) (m + 1) = if canB r ⟨((m + 1 : Nat) : Int), p⟩ (-1) k j (z : Int) (b : Int) then m + 1 else headsR r p k j (z : Int) (b : Int) m := rfl
        have HS := Lib.hid hstep; clear hstep
        have x0 := ((bcell hbw).1 _ _ (lt_of_cell X0.out)).trans X0.out
        have x1 := ((bcell hbw).1 _ _ (lt_of_cell X1.out)).trans X1.out
        have x2 := ((bcell hbw).1 _ _ (lt_of_cell X2.out)).trans X2.out
        have hcn := refCan_any wr (G.out.heads (n := ((m + 1 : Nat) : Int)) (by omega) (by omega)) a cap k j z b P2.out P4.out P6.out P8.out ((HST.out.below HB1.out).below hbw)
        dsimp only at hcn
        have HCN := Lib.hid hcn; clear hcn
        have HBV := Lib.hid (HBW.out.trans (hbw.mono HBW.out.size))
        have HBU := Lib.hid hbw; clear hbw
        have q1 : (0 : Int) < ((m + 1 : Nat) : Int) := by omega
        generalize hM : m + 1 = M at HEQ HS HCN q1 hn
        have HMM := Lib.hid hM; clear hM
        go_wp2_with fail
        refine HCN.out.mono ?_
        clear HCN x0 x1 x2
        rintro e w2 ⟨rfl, hb2⟩
        have HB2 := Lib.hid (HBU.out.trans (hb2.mono HBU.out.size))
        have HB3 := Lib.hid (HBV.out.trans (hb2.mono HBV.out.size)); clear hb2
        cases hc : canB r ⟨(M : Int), p⟩ (-1) k j (z : Int) (b : Int)
        · have HC := Lib.hid hc; clear hc
          go_wp2_with fail
          refine ⟨⟨m, by have := HMM.out; omega, by have := HMM.out; subst this; go_num, ?_, HB2.out⟩, by have := HMM.out; simp [intOf]; omega⟩
          rw [← HEQ.out, HS.out, HC.out]; simp
        · have HC := Lib.hid hc; clear hc
          have hN : headsN r p k j (z : Int) (b : Int) = M := by
            show headsR r p k j (z : Int) (b : Int) 40 = M
            rw [← HEQ.out, HS.out, HC.out]; simp
          have HN := Lib.hid hN; clear hN
          go_wp2_with fail
          go_ret2
          exact ⟨HB3.out, .inr (.inl ⟨HE.out.trans HZ.out, by rw [Int.toNat_natCast, Int.toNat_natCast, HN.out]; have := HMM.out; omega, by rw [Int.toNat_natCast, Int.toNat_natCast, HN.out]; rfl⟩)⟩
  · have hne : (askedErr r ⟨1, p⟩ [fr, tt] [day, by'] != 0) = true := by simpa using hz
    have HZ := Lib.hid hz; clear hz
    go_wp2_with fail
    go_ret2
    exact ⟨HBW.out, .inr (.inr ⟨by rw [HE.out]; exact HZ.out, by rw [HE.out]; rfl⟩)⟩
end Go.Proofs.Ytjgkgnfhglhklaa
