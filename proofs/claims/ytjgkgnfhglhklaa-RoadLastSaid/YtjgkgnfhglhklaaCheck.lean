/- The contract of road.Check. -/
import Derived.Test.YtjgkgnfhglhklaaBase
import Derived.Test.YtjgkgnfhglhklaaMem
namespace Go.Proofs.Ytjgkgnfhglhklaa
set_option linter.unusedSimpArgs false
set_option linter.unusedVariables false
open Go.RowKit

theorem stripsErr_drop {D S : Int} {l : List Strip} {k : Nat} (h : k < l.length) :
    stripsErr D S (l.drop k) = if stripErr l[k] D S == 0 then stripsErr D S (l.drop (k + 1)) else stripErr l[k] D S := by
  rw [List.drop_eq_getElem_cons h]; rfl

theorem chk_end {D S : Int} {l : List Strip} {k : Nat} {s : Strip} {x : Int} (h : k < l.length) (hE : stripsErr D S (l.drop k) = stripsErr D S l) (hg : l[k] = s)
    (h0 : stripErr s D S = x) (h1 : x ≠ 0) : stripsErr D S l = x := by
  rw [← hE, stripsErr_drop h, hg, h0, if_neg (by simpa using h1)]
theorem chk_next {D S : Int} {l : List Strip} {k : Nat} {s : Strip} (h : k < l.length) (hE : stripsErr D S (l.drop k) = stripsErr D S l) (hg : l[k] = s)
    (h0 : stripErr s D S = 0) : stripsErr D S (l.drop (k + 1)) = stripsErr D S l := by
  rw [← hE, stripsErr_drop h, hg, h0]; rfl

set_option maxHeartbeats 2000000 in
theorem check_any (D S : Int) (l : List Strip) (a : Option Addr) (cap : Nat) (w : World) (hl : StripsAt w a l) (hm : l.length ≤ maxLen) :
    Calls Try.prog 61 #[.agg #[.int .i64 D, .int .i64 S, .slice a l.length cap]] w
      fun e w' => e = .returned (.int .i64 (checkR ⟨D, S, l⟩)) ∧ Below w.heap.size w w' := by
  unfold maxLen at hm
  by_cases hd : btw D 1 10 = true
  · by_cases hs : btw S 1 6 = true
    · by_cases h8 : 8 < l.length
      · go_enter Try.func61, Try.ntmps61
        go_wp2_with (go_at_call 106; refine (between_any _ _ _ _).mono ?_; rintro e w' ⟨rfl, rfl⟩)
        all_goals go_ret
        all_goals exact ⟨ret_int (by simp [checkR, hd, hs, h8]), by go_grown⟩
      · obtain ⟨hs1, hs2⟩ := btw_true.1 hs
        obtain ⟨hd1, hd2⟩ := btw_true.1 hd
        have hR : checkR ⟨D, S, l⟩ = stripsErr D S l := by simp [checkR, hd, hs, h8]
        have HR := Lib.hid hR; clear hR
        go_enter Try.func61, Try.ntmps61
        go_wp2_with (go_at_call 106; refine (between_any _ _ _ _).mono ?_; rintro e w' ⟨rfl, rfl⟩)
        go_loopw [23] (fun v wr => ∃ k : Nat, k ≤ l.length ∧ v = .int .i64 k ∧ stripsErr D S (l.drop k) = stripsErr D S l ∧ Below (w.heap.size + 1) (w.alloc (.cells #[.int .i64 D, .int .i64 S, .slice a l.length cap] 24)) wr) (fun v _ => l.length - (intOf v).toNat)
        case atStart => exact ⟨0, Nat.zero_le _, rfl, rfl, Below.refl _ _⟩
        case round =>
          obtain ⟨k, hk, rfl, hE, hb⟩ := hrel
          have HE := Lib.hid hE; clear hE
          have hb' := hb
          obtain ⟨hc, hf⟩ := bcell (W := w.alloc (.cells #[.int .i64 D, .int .i64 S, .slice a l.length cap] 24)) (by simpa using hb)
          have b0 : wr.cell? ⟨w.heap.size, 0, none⟩ = some (.int .i64 D) := by rw [hc _ _ (by simp)]; simp
          have b1 : wr.cell? ⟨w.heap.size, 1, none⟩ = some (.int .i64 S) := by rw [hc _ _ (by simp)]; simp
          have hz : w.heap.size < wr.heap.size := by have := hb.size; simp at this; omega
          by_cases hlt : k < l.length
          · rcases hl with rfl | ⟨b, o, rfl, hl⟩
            · simp at hlt
            · have hst := hl k hlt
              have hst' : StripAt wr b (o + k * 7) l[k] := hst.keep fun j => by rw [hc _ _ (by simp; have := lt_of_cell hst.c0; omega)]; exact World.cell?_alloc_past _ _ _ (lt_of_cell hst.c0)
              obtain ⟨s0, s1, s2, s3, s4, s5, s6⟩ := hst'
              clear hc hf hst hl hb
              generalize hg : l[k] = s at s0 s1 s2 s3 s4 s5 s6
              go_wp2_with (first | (go_at_call 106; refine (between_any _ _ _ _).mono ?_; rintro e w' ⟨rfl, rfl⟩) | (go_at_call 110; refine (kindError_any _ _ _ _ _ _ _ _ _ hd1 hd2).mono ?_; rintro e w2 ⟨rfl, hb2⟩))
              case roundEnd => exact ⟨⟨k + 1, by omega, by go_num, chk_next hlt HE.out hg (by simp_all [stripErr]), hb'.trans ((Below.alloc (Below.refl _ _) (by omega) _).trans (hb2.mono (by simp; omega)))⟩, by simp [intOf]; omega⟩
              all_goals go_ret
              all_goals refine ⟨ret_int ?_, ?_⟩
              all_goals first
                | (refine Below.trans (Below.alloc (Below.refl _ _) (Nat.le_refl _) _) ((Below.mono hb' (by omega)).trans ?_)
                   first | exact (Below.alloc (Below.refl _ _) (by omega) _) | exact (Below.alloc (Below.refl _ _) (by omega) _).trans (hb2.mono (by simp; omega)))
                | (rw [HR.out]; refine (chk_end hlt HE.out hg ?_ ?_).symm)
              all_goals clear b0 b1 s0 s1 s2 s3 s4 s5 s6
              all_goals simp_all [stripErr]
          · go_wp2
            go_ret
            refine ⟨ret_int ?_, Below.trans (Below.alloc (Below.refl _ _) (Nat.le_refl _) _) (Below.mono hb' (by omega))⟩
            rw [HR.out, ← HE.out, List.drop_of_length_le (by omega)]; rfl
    · go_enter Try.func61, Try.ntmps61
      go_wp2_with (go_at_call 106; refine (between_any _ _ _ _).mono ?_; rintro e w' ⟨rfl, rfl⟩)
      all_goals go_ret
      all_goals exact ⟨ret_int (by simp_all [checkR]), by go_grown⟩
  · go_enter Try.func61, Try.ntmps61
    go_wp2_with (go_at_call 106; refine (between_any _ _ _ _).mono ?_; rintro e w' ⟨rfl, rfl⟩)
    all_goals go_ret
    all_goals exact ⟨ret_int (by simp_all [checkR]), by go_grown⟩
end Go.Proofs.Ytjgkgnfhglhklaa
