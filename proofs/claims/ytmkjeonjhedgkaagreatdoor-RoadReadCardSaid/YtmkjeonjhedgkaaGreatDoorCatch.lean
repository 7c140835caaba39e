/- The deferred closure of road.take: its two contracts. -/
import Derived.Test.YtmkjeonjhedgkaaGreatDoorStripW
import Derived.Test.YtmkjeonjhedgkaaGreatDoorBigE
import Derived.Recover
namespace Go.Proofs.YtmkjeonjhedgkaaGreatDoor
set_option linter.unusedSimpArgs false
set_option linter.unusedVariables false
open Go.RowKit

set_option maxRecDepth 100000 in
set_option maxHeartbeats 4000000 in
theorem catch_panicking (w : World) (br bb : Nat) (k z : Int) (x0 x1 x2 : Value) (hb : Rw w br #[x0, x1, x2] 24) (hc : Rw w bb #[.int .i64 z] 3) (hne : br ≠ bb) :
    CallsD Tryz.prog 62 #[.pointer (some ⟨br, 0, none⟩), .pointer (some ⟨bb, 0, none⟩)] (.panicking (wrongP k)) w fun e u' w' =>
      e = .returned (.tuple #[]) ∧ u' = .panicking [{ v := .iface 116 (.agg #[.int .i64 k]), recovered := true }] ∧ Rw w' br #[.int .i64 0, .int .i64 0, .slice none 0 0] 24 ∧ Rw w' bb #[.int .i64 k] 3 ∧ ∀ B, B ≤ br → B ≤ bb → Below B w w' := by
  refine callsD_of_wpS Tryz.func62 rfl fun c₀ cs hu => ?_
  apply wpS_seq
  apply wpS_region
  simp [wpOpsS, go_sem, recoverD, hu, wrongP, Tryz.ntmps62, Exit.thenS]
  apply wpS_seq
  apply wpS_region
  simp [wpOpsS, go_sem, recoverD, Exit.thenS]
  refine wpS_cond (t := true) (by simp [Act.eval, Array.replicate]) ?_
  simp only [if_true]
  refine wpS_of_wp ?_
  generalize ha : (Act.mk _ _) = a0
  have hsl : Sl a0 10 [(0, .pointer (some ⟨br, 0, none⟩)), (1, .pointer (some ⟨bb, 0, none⟩)), (2, .iface 116 (.agg #[.int .i64 k]))] := by
    subst ha
    refine ⟨by simp, rfl, fun t v h => ?_⟩
    rw [List.lookup_cons] at h
    by_cases e : t = 0
    · subst e; simp at h; subst h; rfl
    · have e2 : (t == 0) = false := by simpa using e
      rw [e2, List.lookup_cons] at h
      by_cases e3 : t = 1
      · subst e3; simp at h; subst h; rfl
      · have e4 : (t == 1) = false := by simpa using e3
        rw [e4, List.lookup_cons] at h
        by_cases e5 : t = 2
        · subst e5; simp at h; subst h; rfl
        · have e6 : (t == 2) = false := by simpa using e5
          rw [e6] at h; simp at h
  clear ha
  refine (show Code.wp Tryz.prog (regionIn Tryz.f62 2) _ _ _ from ?_)
  have e : regionIn Tryz.f62 2 = Code.region 2 _ true := rfl
  rw [e]; clear e
  refine wp_region_sl (by kernel_rfl) (hsl) [some 6, some 7, some 8, some 9, none, none] rfl rfl (by kernel_rfl) (fun j v _ => match j with | 0 => v = .agg #[.int .i64 0, .int .i64 0, .slice none 0 0] | 1 => v = .iface 116 (.agg #[.int .i64 k]) | 2 => v = .agg #[.int .i64 k] | 3 => v = .int .i64 k | _ => True) (fun L x => Rw x br (if L 4 then #[.int .i64 0, .int .i64 0, .slice none 0 0] else #[x0, x1, x2]) 24 ∧ Rw x bb (if L 5 then #[.int .i64 k] else #[.int .i64 z]) 3 ∧ ∀ B, B ≤ br → B ≤ bb → Below B w x) ⟨hb.below (Below.refl _ _).drew, hc.below (Below.refl _ _).drew, fun B _ _ => (Below.refl _ _).drew⟩ ?_ ?_
  · clear hsl; intro k o hkl ho L a x hI hLk hsl hs hd
    have hlt : ∀ k : Nat, k < 6 → k = 0 ∨ k = 1 ∨ k = 2 ∨ k = 3 ∨ k = 4 ∨ k = 5 := by decide
    rcases hlt k hkl with rfl | rfl | rfl | rfl | rfl | rfl
    · obtain rfl := Option.some.inj ho
      clear hs hd
      refine wpOp_go rfl rfl (fun K hK => ?_)
      unfold Oper.wp
      go_simp
      exact hK _ _ ⟨_, rfl, rfl, by simpa [updF] using hI, fun _ _ h => h⟩
    · obtain rfl := Option.some.inj ho
      have e2 := hsl.get 2 _ rfl
      clear hs hd
      refine wpOp_go rfl rfl (fun K hK => ?_)
      unfold Oper.wp
      go_simp
      exact hK _ _ ⟨_, rfl, rfl, by simpa [updF] using hI, fun _ _ h => h⟩
    · obtain rfl := Option.some.inj ho
      obtain ⟨v7, e7, hv7⟩ := hs 1 _ 7 rfl rfl (hd 1 (waits_mem (by kernel_rfl)))
      obtain rfl := hv7
      clear hs hd
      refine wpOp_go rfl rfl (fun K hK => ?_)
      unfold Oper.wp
      go_simp
      exact hK _ _ ⟨_, rfl, rfl, by simpa [updF] using hI, fun _ _ h => h⟩
    · obtain rfl := Option.some.inj ho
      obtain ⟨v8, e8, hv8⟩ := hs 2 _ 8 rfl rfl (hd 2 (waits_mem (by kernel_rfl)))
      obtain rfl := hv8
      clear hs hd
      refine wpOp_go rfl rfl (fun K hK => ?_)
      unfold Oper.wp
      go_simp
      exact hK _ _ ⟨_, rfl, rfl, by simpa [updF] using hI, fun _ _ h => h⟩
    · obtain rfl := Option.some.inj ho
      have e0 := hsl.get 0 _ rfl
      obtain ⟨v6, e6, hv6⟩ := hs 0 _ 6 rfl rfl (hd 0 (waits_mem (by kernel_rfl)))
      obtain rfl := hv6
      obtain ⟨i1, i2, i3⟩ := hI
      rw [hLk] at i1
      have y0 := (show Rw x br _ _ from i1).cell (o := 0) rfl
      have y1 := (show Rw x br _ _ from i1).cell (o := 1) rfl
      have y2 := (show Rw x br _ _ from i1).cell (o := 2) rfl
      have f0 := (show Rw x br _ _ from i1).fz 0
      have f1 := (show Rw x br _ _ from i1).fz 1
      have f2 := (show Rw x br _ _ from i1).fz 2
      clear hs hd
      refine wpOp_go rfl rfl (fun K hK => ?_)
      unfold Oper.wp
      go_simp
      refine hK _ _ ⟨undef, rfl, trivial, ?_, fun _ _ h => h⟩
      refine ⟨?_, ?_, ?_⟩
      · have := ((i1.set 0 (.int .i64 0)).set 1 (.int .i64 0)).set 2 (.slice none 0 0)
        simpa [updF] using this
      · have := ((i2.far (g := br) (Ne.symm hne) 0 (.int .i64 0)).far (g := br) (Ne.symm hne) 1 (.int .i64 0)).far (g := br) (Ne.symm hne) 2 (.slice none 0 0)
        simpa [updF] using this
      · exact fun B h1 h2 => (((i3 B h1 h2).setCell (p := ⟨br, 0, none⟩) h1 _).setCell (p := ⟨br, 1, none⟩) h1 _).setCell (p := ⟨br, 2, none⟩) h1 _
    · obtain rfl := Option.some.inj ho
      have e1 := hsl.get 1 _ rfl
      obtain ⟨v9, e9, hv9⟩ := hs 3 _ 9 rfl rfl (hd 3 (waits_mem (by kernel_rfl)))
      obtain rfl := hv9
      obtain ⟨i1, i2, i3⟩ := hI
      rw [hLk] at i2
      have y0 := (show Rw x bb _ _ from i2).cell (o := 0) rfl
      have f0 := (show Rw x bb _ _ from i2).fz 0
      clear hs hd
      refine wpOp_go rfl rfl (fun K hK => ?_)
      unfold Oper.wp
      go_simp
      refine hK _ _ ⟨undef, rfl, trivial, ?_, fun _ _ h => h⟩
      refine ⟨?_, ?_, ?_⟩
      · have := i1.far (g := bb) hne 0 (.int .i64 k)
        simpa [updF] using this
      · have := i2.set 0 (.int .i64 k)
        simpa [updF] using this
      · exact fun B h1 h2 => (i3 B h1 h2).setCell (p := ⟨bb, 0, none⟩) h2 _
  · clear hsl; intro L a x hall hI hsl hs
    obtain ⟨i1, i2, i3⟩ := hI
    rw [hall 4 (by decide)] at i1
    rw [hall 5 (by decide)] at i2
    simp [bodyPostS, results, Tryz.results62, hsl.defers, i1, i2]
    exact ⟨i1, i2, i3⟩
set_option maxRecDepth 100000 in
theorem catch_idle (w : World) (br bb : Nat) :
    CallsD Tryz.prog 62 #[.pointer (some ⟨br, 0, none⟩), .pointer (some ⟨bb, 0, none⟩)] .returning w fun e u' w' => e = .returned (.tuple #[]) ∧ u' = .returning ∧ w' = w := by
  refine callsD_of_wpS Tryz.func62 rfl fun c₀ cs hu => ?_
  apply wpS_seq
  apply wpS_region
  simp [wpOpsS, go_sem, recoverD, hu, Tryz.ntmps62, Exit.thenS]
  apply wpS_seq
  apply wpS_region
  simp [wpOpsS, go_sem, recoverD, hu, Exit.thenS]
  refine wpS_cond (t := false) (by simp [Act.eval, Array.replicate]) ?_
  simp only [Bool.false_eq_true, if_false]
  refine wpS_of_wp (wp_skip ?_)
  cases c₀
  simp_all [bodyPostS, results, Tryz.results62]
end Go.Proofs.YtmkjeonjhedgkaaGreatDoor
