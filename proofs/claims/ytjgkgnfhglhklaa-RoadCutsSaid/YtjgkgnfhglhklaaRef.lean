/- Contracts of the reference's small functions (mestaref02): inside, legal, checkStrip, Check, why, asked. -/
import Derived.Test.YtjgkgnfhglhklaaReady
import Derived.Deep.RegionHeld3
namespace Go.Proofs.Ytjgkgnfhglhklaa
set_option linter.unusedSimpArgs false
set_option linter.unusedVariables false
open Go.RowKit

theorem inside_any (n lo hi : Int) (w : World) :
    Calls Try.prog 108 #[.int .i64 n, .int .i64 lo, .int .i64 hi] w fun e w' => e = .returned (.bool (btw n lo hi)) ∧ w = w' := by
  by_cases h : lo ≤ n
  · go_enter Try.func108, Try.ntmps108
    go_wp2
    go_ret
    exact ⟨by simp [h, btw], rfl⟩
  · go_enter Try.func108, Try.ntmps108
    go_wp2
    go_ret
    exact ⟨by simp [btw]; omega, rfl⟩
theorem refLegal_any (n : Int) (w : World) :
    Calls Try.prog 109 #[.int .i64 n] w fun e w' => e = .returned (.int .i64 (legalW n)) ∧ w = w' := by
  by_cases h : n ≤ 10
  · go_enter Try.func109, Try.ntmps109
    go_wp2
    go_ret
    exact ⟨ret_int (by simp [legalW, h]), rfl⟩
  · by_cases h' : n ≤ 25
    · go_enter Try.func109, Try.ntmps109
      go_wp2
      go_ret
      exact ⟨ret_int (by rw [legalW, if_neg (by omega), if_pos h']), rfl⟩
    · go_enter Try.func109, Try.ntmps109
      go_wp2
      go_ret
      exact ⟨ret_int (by rw [legalW, if_neg (by omega), if_neg (by omega)]), rfl⟩

set_option maxRecDepth 100000 in
set_option maxHeartbeats 8000000 in
theorem refStrip_any (D S : Int) (sl : Value) (hsl : sl.oneCell' = true) (A B L W K X Y : Int) (w : World) (h1 : 1 ≤ D) (h2 : D ≤ 10) (h3 : 1 ≤ S) (h4 : S ≤ 6) :
    Calls Try.prog 111 #[.agg #[.int .i64 D, .int .i64 S, sl], .agg #[.int .i64 A, .int .i64 B, .int .i64 L, .int .i64 W, .int .i64 K, .int .i64 X, .int .i64 Y]] w
      fun e w' => e = .returned (.int .i64 (stripErr ⟨A, B, L, W, K, X, Y⟩ D S)) ∧ Below w.heap.size w w' := by
  by_cases k1 : K = 1
  · subst k1
    go_enter Try.func111, Try.ntmps111
    go_wp2_with (go_at_call 108; refine (inside_any _ _ _ _).mono ?_; rintro e w' ⟨rfl, rfl⟩)
    all_goals go_ret
    all_goals exact ⟨ret_int (by simp_all [stripErr, kindErr, kindFine]), by go_grown⟩
  · by_cases k2 : K = 2
    · subst k2
      go_enter Try.func111, Try.ntmps111
      go_wp2_with (go_at_call 108; refine (inside_any _ _ _ _).mono ?_; rintro e w' ⟨rfl, rfl⟩)
      all_goals go_ret
      all_goals exact ⟨ret_int (by simp_all [stripErr, kindErr, kindFine]), by go_grown⟩
    · by_cases k3 : K = 3
      · subst k3
        go_enter Try.func111, Try.ntmps111
        go_wp2_with (go_at_call 108; refine (inside_any _ _ _ _).mono ?_; rintro e w' ⟨rfl, rfl⟩)
        all_goals go_ret
        all_goals exact ⟨ret_int (by simp_all [stripErr, kindErr, kindFine]), by go_grown⟩
      · by_cases k4 : K = 4
        · subst k4
          go_enter Try.func111, Try.ntmps111
          go_wp2_with (go_at_call 108; refine (inside_any _ _ _ _).mono ?_; rintro e w' ⟨rfl, rfl⟩)
          all_goals go_ret
          all_goals exact ⟨ret_int (by simp_all [stripErr, kindErr, kindFine]), by go_grown⟩
        · go_enter Try.func111, Try.ntmps111
          go_wp2_with (go_at_call 108; refine (inside_any _ _ _ _).mono ?_; rintro e w' ⟨rfl, rfl⟩)
          all_goals go_ret
          all_goals exact ⟨ret_int (by simp_all [stripErr, kindErr]), by go_grown⟩

set_option maxRecDepth 100000 in
set_option maxHeartbeats 4000000 in
theorem refCheck_any (D S : Int) (l : List Strip) (a : Option Addr) (cap : Nat) (w : World) (hl : StripsAt w a l) (hm : l.length ≤ maxLen) :
    Calls Try.prog 62 #[.agg #[.int .i64 D, .int .i64 S, .slice a l.length cap]] w
      fun e w' => e = .returned (.int .i64 (checkR ⟨D, S, l⟩)) ∧ Below w.heap.size w w' := by
  unfold maxLen at hm
  by_cases hd : btw D 1 10 = true
  · by_cases hs : btw S 1 6 = true
    · by_cases h8 : 8 < l.length
      · go_enter Try.func62, Try.ntmps62
        go_wp2_with (go_at_call 108; refine (inside_any _ _ _ _).mono ?_; rintro e w' ⟨rfl, rfl⟩)
        all_goals go_ret
        all_goals exact ⟨ret_int (by simp [checkR, hd, hs, h8]), by go_grown⟩
      · obtain ⟨hs1, hs2⟩ := btw_true.1 hs
        obtain ⟨hd1, hd2⟩ := btw_true.1 hd
        have hR : checkR ⟨D, S, l⟩ = stripsErr D S l := by simp [checkR, hd, hs, h8]
        have HR := Lib.hid hR; clear hR
        have hb0 : Below w.heap.size w (w.alloc (.cells #[.int .i64 D, .int .i64 S, .slice a l.length cap] 24)) := Below.alloc (Below.refl _ _) (Nat.le_refl _) _
        have hs0 : (w.alloc (.cells #[.int .i64 D, .int .i64 S, .slice a l.length cap] 24)).heap.size = w.heap.size + 1 := by simp
        have x0 : (w.alloc (.cells #[.int .i64 D, .int .i64 S, .slice a l.length cap] 24)).cell? ⟨w.heap.size, 0, none⟩ = some (.int .i64 D) := by simp [go_sem]
        have x1 : (w.alloc (.cells #[.int .i64 D, .int .i64 S, .slice a l.length cap] 24)).cell? ⟨w.heap.size, 1, none⟩ = some (.int .i64 S) := by simp [go_sem]
        have x2 : (w.alloc (.cells #[.int .i64 D, .int .i64 S, .slice a l.length cap] 24)).cell? ⟨w.heap.size, 2, none⟩ = some (.slice a l.length cap) := by simp [go_sem]
        have HST := Lib.hid (hl.below hb0)
        go_enter Try.func62, Try.ntmps62
        go_wp2_with (go_at_call 108; refine (inside_any _ _ _ _).mono ?_; rintro e w' ⟨rfl, rfl⟩)
        generalize (w.alloc (.cells #[.int .i64 D, .int .i64 S, .slice a l.length cap] 24)) = W0 at hb0 hs0 x0 x1 x2 HST ⊢
        have X0 := Lib.hid x0; clear x0
        have X1 := Lib.hid x1; clear x1
        have X2 := Lib.hid x2; clear x2
        have HB0 := Lib.hid hb0; clear hb0
        have HS0 := Lib.hid hs0; clear hs0
        go_loopw [3] (fun v wr => ∃ k : Nat, k ≤ l.length ∧ v = .int .i64 (k : Int) ∧ stripsErr D S (l.drop k) = stripsErr D S l ∧ Below W0.heap.size W0 wr) (fun v _ => l.length - (intOf v).toNat)
        case atStart => exact ⟨0, Nat.zero_le _, rfl, rfl, Below.refl _ _⟩
        case round =>
          obtain ⟨k, hk, rfl, hE, hb⟩ := hrel
          have HE := Lib.hid hE; clear hE
          have x0 := ((bcell hb).1 _ _ (lt_of_cell X0.out)).trans X0.out
          have x1 := ((bcell hb).1 _ _ (lt_of_cell X1.out)).trans X1.out
          have x2 := ((bcell hb).1 _ _ (lt_of_cell X2.out)).trans X2.out
          have HB := Lib.hid (HB0.out.trans (hb.mono HB0.out.size))
          have HBW := Lib.hid hb
          by_cases hlt : k < l.length
          · rcases HST.out.below hb with h0 | ⟨b, o, rfl, hc⟩
            · rw [h0] at hlt; simp at hlt
            obtain ⟨s0, s1, s2, s3, s4, s5, s6⟩ := hc k hlt
            have hnx := @chk_next D S l k l[k] hlt HE.out rfl
            have hnd := fun x => @chk_end D S l k l[k] x hlt HE.out rfl
            clear hc hb
            generalize l[k] = s at s0 s1 s2 s3 s4 s5 s6 hnx hnd
            have HNX := Lib.hid hnx; clear hnx
            have HND := Lib.hid hnd; clear hnd
            have q1 : (k : Int) < (l.length : Int) := by omega
            go_wp2_with fail
            go_cut [4] (fun v4 wx => v4 = .int .i64 (stripErr s D S) ∧ Below wr.heap.size wr wx)
            case first =>
              go_region_held3 (fun w' => w'.cell? ⟨w.heap.size, 0, none⟩ = some (.int .i64 D) ∧ w'.cell? ⟨w.heap.size, 1, none⟩ = some (.int .i64 S) ∧ w'.cell? ⟨w.heap.size, 2, none⟩ = some (.slice (some ⟨b, o, none⟩) l.length cap) ∧ w'.cell? ⟨b, o + k * 7, none⟩ = some (.int .i64 s.A) ∧ w'.cell? ⟨b, o + k * 7 + 1, none⟩ = some (.int .i64 s.B) ∧ w'.cell? ⟨b, o + k * 7 + 2, none⟩ = some (.int .i64 s.L) ∧ w'.cell? ⟨b, o + k * 7 + 3, none⟩ = some (.int .i64 s.W) ∧ w'.cell? ⟨b, o + k * 7 + 4, none⟩ = some (.int .i64 s.K) ∧ w'.cell? ⟨b, o + k * 7 + 5, none⟩ = some (.int .i64 s.X) ∧ w'.cell? ⟨b, o + k * 7 + 6, none⟩ = some (.int .i64 s.Y)) (first | exact ⟨back x0, back x1, back x2, back s0, back s1, back s2, back s3, back s4, back s5, back s6⟩ | exact ⟨x0, x1, x2, s0, s1, s2, s3, s4, s5, s6⟩)
                (first | (go_at_call 111; refine (refStrip_any D S (.slice (some ⟨b, o, none⟩) l.length cap) rfl s.A s.B s.L s.W s.K s.X s.Y _ hd1 hd2 hs1 hs2).mono ?_; rintro e w5 ⟨rfl, hb5⟩; have HB5 := Lib.hid ((Below.refl wr.heap.size wr).drew.trans hb5); have back : ∀ {b o : Nat} {v : Value}, wr.cell? ⟨b, o, none⟩ = some v → w5.cell? ⟨b, o, none⟩ = some v := fun h => ((bcell hb5).1 _ _ (lt_of_cell h)).trans h))
              all_goals (go_wp2_with fail; go_meet; exact ⟨rfl, HB5.out⟩)
            case rest =>
              obtain ⟨rfl, hb5⟩ := hcut
              by_cases hz : stripErr s D S = 0
              · have HZ := Lib.hid hz
                rw [hz]
                clear hz x0 x1 x2 s0 s1 s2 s3 s4 s5 s6
                go_wp2_with fail
                exact ⟨⟨k + 1, by omega, by go_num, HNX.out HZ.out, HBW.out.trans (hb5.mono HBW.out.size)⟩, by simp [intOf]; omega⟩
              · have hne : (stripErr s D S != 0) = true := by simpa using hz
                have HX := Lib.hid (HND.out _ rfl hz)
                clear hz x0 x1 x2 s0 s1 s2 s3 s4 s5 s6
                go_wp2_with fail
                go_ret
                exact ⟨ret_int (by rw [HR.out, HX.out]), HB.out.trans (hb5.mono HB.out.size)⟩
          · go_wp2_with fail
            go_ret
            refine ⟨ret_int ?_, HB.out⟩
            rw [HR.out, ← HE.out, List.drop_of_length_le (by omega)]; rfl
    · go_enter Try.func62, Try.ntmps62
      go_wp2_with (go_at_call 108; refine (inside_any _ _ _ _).mono ?_; rintro e w' ⟨rfl, rfl⟩)
      all_goals go_ret
      all_goals exact ⟨ret_int (by simp_all [checkR]), by go_grown⟩
  · go_enter Try.func62, Try.ntmps62
    go_wp2_with (go_at_call 108; refine (inside_any _ _ _ _).mono ?_; rintro e w' ⟨rfl, rfl⟩)
    all_goals go_ret
    all_goals exact ⟨ret_int (by simp_all [checkR]), by go_grown⟩
end Go.Proofs.Ytjgkgnfhglhklaa
