/- RoadKnown: the loop over the plans. -/
import Derived.Test.YtmkjeonjhedgkaaDoorKnG
import Derived.Test.YtmkjeonjhedgkaaDoorKnM
import Derived.Deep.LoopGhost
/- RoadKnown: the loop over the heads. -/
namespace Go.Proofs.YtmkjeonjhedgkaaDoor
set_option linter.unusedSimpArgs false
set_option linter.unusedVariables false
open Go.RowKit

theorem IntsAt.cellN {w : World} {g : Nat} {l : List Int} (h : IntsAt w (some ⟨g, 0, none⟩) l) {i : Nat} {x : Int} (hi : l[i]? = some x) : w.cell? ⟨g, i, none⟩ = some (.int .i64 x) := by
  obtain ⟨hlt, hx⟩ := List.getElem?_eq_some_iff.1 hi
  rcases h with rfl | ⟨b, o, ha, h⟩
  · simp at hlt
  · obtain ⟨rfl, rfl⟩ : g = b ∧ 0 = o := by simpa using ha
    have := h i hlt
    rw [hx] at this; simpa using this
set_option maxRecDepth 100000 in
set_option maxHeartbeats 4000000 in
theorem kr5 (w : World) (a : Act) (m : List (Nat × Value)) (hsl : Sl a 548 m) (rest : Code) (Q : Exit → Act → World → Prop) (h : ∀ (a' : Act) (w' : World) (g1 g2 : Nat), Sl a' 548 ([(6, .slice (some ⟨g2, 0, none⟩) 3 3), (5, .slice (some ⟨g1, 0, none⟩) 3 3), (79, .slice (some ⟨g2, 0, none⟩) 3 3), (78, .slice (some ⟨g1, 0, none⟩) 3 3)] ++ m) → IntsAt w' (some ⟨g1, 0, none⟩) [10, 11, 26] → IntsAt w' (some ⟨g2, 0, none⟩) [25, 45, 90] → Below w.heap.size w w' → rest.wp Tryd.prog Q a' w') : (Code.seq (regionIn Tryd.f3 5) rest).wp Tryd.prog Q a w := by
  refine wp_seq ?_
  have e : regionIn Tryd.f3 5 = Code.region 5 _ false := rfl
  rw [e]; clear e
  refine wp_region ?_
  refine ops_go rfl rfl (fun K hK => ?_)
  unfold Oper.wp
  go_simp
  refine hK _ _ ?_
  clear hK
  refine Sl.step (G := fun a => wpOps _ _ _ _ a _) hsl (by decide) ?_
  intro a1 hs1; clear hsl; have hsl := hs1; clear hs1
  have N1 := @ints_new w [10, 11, 26]
  have hb1 := alloc_below w (.cells (([10, 11, 26] : List Int).map (Value.int .i64)).toArray 3)
  simp only [List.map_cons, List.map_nil] at N1 hb1
  generalize hg1 : w.heap.size = g1 at hsl N1
  generalize (World.alloc _ _) = w1 at N1 hb1 ⊢
  refine ops_go rfl rfl (fun K hK => ?_)
  unfold Oper.wp
  go_simp
  refine hK _ _ ?_
  clear hK
  refine Sl.step (G := fun a => wpOps _ _ _ _ a _) hsl (by decide) ?_
  intro a1 hs1; clear hsl; have hsl := hs1; clear hs1
  have N2 := @ints_new w1 [25, 45, 90]
  have hb2 := alloc_below w1 (.cells (([25, 45, 90] : List Int).map (Value.int .i64)).toArray 3)
  simp only [List.map_cons, List.map_nil] at N2 hb2
  generalize hg2 : w1.heap.size = g2 at hsl N2
  generalize (World.alloc _ _) = w2 at N2 hb2 ⊢
  replace N1 := N1.below (hg2 ▸ hb2 : Below w1.heap.size w1 w2)
  refine ops_go rfl rfl (fun K hK => ?_)
  have e78 := hsl.get 78 _ rfl
  unfold Oper.wp
  go_simp
  clear e78
  refine hK _ _ ?_
  clear hK
  refine Sl.step (G := fun a => wpOps _ _ _ _ a _) hsl (by decide) ?_
  intro a1 hs1; clear hsl; have hsl := hs1; clear hs1
  refine ops_go rfl rfl (fun K hK => ?_)
  have e79 := hsl.get 79 _ rfl
  unfold Oper.wp
  go_simp
  clear e79
  refine hK _ _ ?_
  clear hK
  refine Sl.step (G := fun a => wpOps _ _ _ _ a _) hsl (by decide) ?_
  intro a1 hs1; clear hsl; have hsl := hs1; clear hs1
  refine ops_done ?_
  exact h _ _ _ _ hsl N1 N2 (hb1.trans (hb2.mono hb1.size))
set_option maxRecDepth 100000 in
set_option maxHeartbeats 4000000 in
theorem kr6 (w : World) (a : Act) (m : List (Nat × Value)) (hsl : Sl a 548 m) (rest : Code) (Q : Exit → Act → World → Prop) (h : ∀ (a' : Act), Sl a' 548 ([(7, .int .i64 0)] ++ m) → rest.wp Tryd.prog Q a' w) : (Code.seq (regionIn Tryd.f3 6) rest).wp Tryd.prog Q a w := by
  refine wp_seq ?_
  have e : regionIn Tryd.f3 6 = Code.region 6 _ false := rfl
  rw [e]; clear e
  refine wp_region ?_
  refine ops_go rfl rfl (fun K hK => ?_)
  unfold Oper.wp
  go_simp
  refine hK _ _ ?_
  clear hK
  refine Sl.step (G := fun a => wpOps _ _ _ _ a _) hsl (by decide) ?_
  intro a1 hs1; clear hsl; have hsl := hs1; clear hs1
  refine ops_done ?_
  exact h _ hsl
set_option maxRecDepth 100000 in
set_option maxHeartbeats 4000000 in
theorem rd1_0 (w : World) (g1 g2 : Nat) (N1 : IntsAt w (some ⟨g1, 0, none⟩) [10, 11, 26]) (N2 : IntsAt w (some ⟨g2, 0, none⟩) [25, 45, 90]) (a : Act) (hsl : Sl a 548 [(7, .int .i64 0), (5, .slice (some ⟨g1, 0, none⟩) 3 3), (6, .slice (some ⟨g2, 0, none⟩) 3 3)]) (Q : Exit → Act → World → Prop) (h : ∀ (a' : Act), Sl a' 548 [(7, .int .i64 1), (5, .slice (some ⟨g1, 0, none⟩) 3 3), (6, .slice (some ⟨g2, 0, none⟩) 3 3)] → Q .normal a' w) : (Code.seq (Code.seq (regionIn Tryd.f3 7) (Code.cond (Operand.tmp 83) Code.skip (Code.exit 0))) (Code.seq (Code.block 1 (Code.seq (regionIn Tryd.f3 9) (Code.seq (regionIn Tryd.f3 10) (Code.cond (Operand.tmp 103) (Code.seq (regionIn Tryd.f3 11) Code.ret) Code.skip)))) (regionIn Tryd.f3 8))).wp Tryd.prog Q a w := by
  refine wp_seq ?_
  refine wp_seq ?_
  have e : regionIn Tryd.f3 7 = Code.region 7 _ false := rfl
  rw [e]; clear e
  refine wp_region ?_
  refine ops_go rfl rfl (fun K hK => ?_)
  have e7 := hsl.get 7 _ rfl
  unfold Oper.wp
  go_simp
  clear e7
  refine hK _ _ ?_
  clear hK
  refine Sl.step (G := fun a => wpOps _ _ _ _ a _) hsl (by decide) ?_
  intro a1 hs1; clear hsl; have hsl := hs1; clear hs1
  refine ops_go rfl rfl (fun K hK => ?_)
  have e5 := hsl.get 5 _ rfl
  unfold Oper.wp
  go_simp
  clear e5
  refine hK _ _ ?_
  clear hK
  refine Sl.step (G := fun a => wpOps _ _ _ _ a _) hsl (by decide) ?_
  intro a1 hs1; clear hsl; have hsl := hs1; clear hs1
  refine ops_go rfl rfl (fun K hK => ?_)
  have e81 := hsl.get 81 _ rfl
  unfold Oper.wp
  go_simp
  clear e81
  refine hK _ _ ?_
  clear hK
  refine Sl.step (G := fun a => wpOps _ _ _ _ a _) hsl (by decide) ?_
  intro a1 hs1; clear hsl; have hsl := hs1; clear hs1
  refine ops_go rfl rfl (fun K hK => ?_)
  have e80 := hsl.get 80 _ rfl
  have e82 := hsl.get 82 _ rfl
  unfold Oper.wp
  go_simp
  clear e80 e82
  refine hK _ _ ?_
  clear hK
  refine Sl.step (G := fun a => wpOps _ _ _ _ a _) hsl (by decide) ?_
  intro a1 hs1; clear hsl; have hsl := hs1; clear hs1
  refine ops_done ?_
  refine (show Code.wp Tryd.prog _ _ _ _ from ?_)
  refine wp_cond_true (hsl.ev 83 rfl) ?_
  refine wp_skip ?_
  refine (show Code.wp Tryd.prog _ _ _ _ from ?_)
  refine wp_seq ?_
  refine wp_block ?_
  refine wp_seq ?_
  have e : regionIn Tryd.f3 9 = Code.region 9 _ false := rfl
  rw [e]; clear e
  refine wp_region ?_
  have z1 := N1.cellN (i := 0) rfl
  have z2 := N2.cellN (i := 0) rfl
  refine ops_go rfl rfl (fun K hK => ?_)
  have e5 := hsl.get 5 _ rfl
  unfold Oper.wp
  go_simp
  clear e5
  refine hK _ _ ?_
  clear hK
  refine Sl.step (G := fun a => wpOps _ _ _ _ a _) hsl (by decide) ?_
  intro a1 hs1; clear hsl; have hsl := hs1; clear hs1
  refine ops_go rfl rfl (fun K hK => ?_)
  have e7 := hsl.get 7 _ rfl
  unfold Oper.wp
  go_simp
  clear e7
  refine hK _ _ ?_
  clear hK
  refine Sl.step (G := fun a => wpOps _ _ _ _ a _) hsl (by decide) ?_
  intro a1 hs1; clear hsl; have hsl := hs1; clear hs1
  refine ops_go rfl rfl (fun K hK => ?_)
  have e87 := hsl.get 87 _ rfl
  have e88 := hsl.get 88 _ rfl
  unfold Oper.wp
  go_simp
  clear e87 e88
  refine hK _ _ ?_
  clear hK
  refine Sl.step (G := fun a => wpOps _ _ _ _ a _) hsl (by decide) ?_
  intro a1 hs1; clear hsl; have hsl := hs1; clear hs1
  refine ops_go rfl rfl (fun K hK => ?_)
  have e89 := hsl.get 89 _ rfl
  unfold Oper.wp
  go_simp
  clear e89
  refine hK _ _ ?_
  clear hK
  refine Sl.step (G := fun a => wpOps _ _ _ _ a _) hsl (by decide) ?_
  intro a1 hs1; clear hsl; have hsl := hs1; clear hs1
  refine ops_go rfl rfl (fun K hK => ?_)
  have e90 := hsl.get 90 _ rfl
  unfold Oper.wp
  go_simp
  refine (Width_any 10 _).mono ?_
  rintro e w3 ⟨rfl, rfl⟩
  rw [show widthV 10 = (25, 0) by decide +kernel]
  clear e90
  refine hK _ _ ?_
  clear hK
  refine Sl.step (G := fun a => wpOps _ _ _ _ a _) hsl (by decide) ?_
  intro a1 hs1; clear hsl; have hsl := hs1; clear hs1
  refine ops_go rfl rfl (fun K hK => ?_)
  have e91 := hsl.get 91 _ rfl
  unfold Oper.wp
  go_simp
  clear e91
  refine hK _ _ ?_
  clear hK
  refine Sl.step (G := fun a => wpOps _ _ _ _ a _) hsl (by decide) ?_
  intro a1 hs1; clear hsl; have hsl := hs1; clear hs1
  refine ops_go rfl rfl (fun K hK => ?_)
  have e86 := hsl.get 86 _ rfl
  unfold Oper.wp
  go_simp
  clear e86
  refine hK _ _ ?_
  clear hK
  refine Sl.step (G := fun a => wpOps _ _ _ _ a _) hsl (by decide) ?_
  intro a1 hs1; clear hsl; have hsl := hs1; clear hs1
  refine ops_go rfl rfl (fun K hK => ?_)
  have e86 := hsl.get 86 _ rfl
  unfold Oper.wp
  go_simp
  clear e86
  refine hK _ _ ?_
  clear hK
  refine Sl.step (G := fun a => wpOps _ _ _ _ a _) hsl (by decide) ?_
  intro a1 hs1; clear hsl; have hsl := hs1; clear hs1
  refine ops_go rfl rfl (fun K hK => ?_)
  have e92 := hsl.get 92 _ rfl
  unfold Oper.wp
  go_simp
  clear e92
  refine hK _ _ ?_
  clear hK
  refine Sl.step (G := fun a => wpOps _ _ _ _ a _) hsl (by decide) ?_
  intro a1 hs1; clear hsl; have hsl := hs1; clear hs1
  refine ops_go rfl rfl (fun K hK => ?_)
  have e93 := hsl.get 93 _ rfl
  unfold Oper.wp
  go_simp
  clear e93
  refine hK _ _ ?_
  clear hK
  refine Sl.step (G := fun a => wpOps _ _ _ _ a _) hsl (by decide) ?_
  intro a1 hs1; clear hsl; have hsl := hs1; clear hs1
  refine ops_done ?_
  refine (show Code.wp Tryd.prog _ _ _ _ from ?_)
  refine wp_seq ?_
  have e : regionIn Tryd.f3 10 = Code.region 10 _ false := rfl
  rw [e]; clear e
  refine wp_region ?_
  refine ops_go rfl rfl (fun K hK => ?_)
  have e9 := hsl.get 9 _ rfl
  unfold Oper.wp
  go_simp
  clear e9
  refine hK _ _ ?_
  clear hK
  refine Sl.step (G := fun a => wpOps _ _ _ _ a _) hsl (by decide) ?_
  intro a1 hs1; clear hsl; have hsl := hs1; clear hs1
  refine ops_go rfl rfl (fun K hK => ?_)
  have e94 := hsl.get 94 _ rfl
  unfold Oper.wp
  go_simp
  clear e94
  refine hK _ _ ?_
  clear hK
  refine Sl.step (G := fun a => wpOps _ _ _ _ a _) hsl (by decide) ?_
  intro a1 hs1; clear hsl; have hsl := hs1; clear hs1
  refine ops_go rfl rfl (fun K hK => ?_)
  have e95 := hsl.get 95 _ rfl
  unfold Oper.wp
  go_simp
  clear e95
  refine hK _ _ ?_
  clear hK
  refine Sl.step (G := fun a => wpOps _ _ _ _ a _) hsl (by decide) ?_
  intro a1 hs1; clear hsl; have hsl := hs1; clear hs1
  refine ops_want rfl rfl rfl rfl (hsl.get 96 _ rfl) (fun K hK => ?_)
  have e8 := hsl.get 8 _ rfl
  unfold Oper.wp
  go_simp
  clear e8
  refine hK _ _ ?_
  clear hK
  refine Sl.step (G := fun a => wpOps _ _ _ _ a _) hsl (by decide) ?_
  intro a1 hs1; clear hsl; have hsl := hs1; clear hs1
  refine ops_want rfl rfl rfl rfl (hsl.get 96 _ rfl) (fun K hK => ?_)
  have e6 := hsl.get 6 _ rfl
  unfold Oper.wp
  go_simp
  clear e6
  refine hK _ _ ?_
  clear hK
  refine Sl.step (G := fun a => wpOps _ _ _ _ a _) hsl (by decide) ?_
  intro a1 hs1; clear hsl; have hsl := hs1; clear hs1
  refine ops_want rfl rfl rfl rfl (hsl.get 96 _ rfl) (fun K hK => ?_)
  have e7 := hsl.get 7 _ rfl
  unfold Oper.wp
  go_simp
  clear e7
  refine hK _ _ ?_
  clear hK
  refine Sl.step (G := fun a => wpOps _ _ _ _ a _) hsl (by decide) ?_
  intro a1 hs1; clear hsl; have hsl := hs1; clear hs1
  refine ops_want rfl rfl rfl rfl (hsl.get 96 _ rfl) (fun K hK => ?_)
  have e98 := hsl.get 98 _ rfl
  have e99 := hsl.get 99 _ rfl
  unfold Oper.wp
  go_simp
  clear e98 e99
  refine hK _ _ ?_
  clear hK
  refine Sl.step (G := fun a => wpOps _ _ _ _ a _) hsl (by decide) ?_
  intro a1 hs1; clear hsl; have hsl := hs1; clear hs1
  refine ops_want rfl rfl rfl rfl (hsl.get 96 _ rfl) (fun K hK => ?_)
  have e100 := hsl.get 100 _ rfl
  unfold Oper.wp
  go_simp
  clear e100
  refine hK _ _ ?_
  clear hK
  refine Sl.step (G := fun a => wpOps _ _ _ _ a _) hsl (by decide) ?_
  intro a1 hs1; clear hsl; have hsl := hs1; clear hs1
  refine ops_want rfl rfl rfl rfl (hsl.get 96 _ rfl) (fun K hK => ?_)
  have e97 := hsl.get 97 _ rfl
  have e101 := hsl.get 101 _ rfl
  unfold Oper.wp
  go_simp
  clear e97 e101
  refine hK _ _ ?_
  clear hK
  refine Sl.step (G := fun a => wpOps _ _ _ _ a _) hsl (by decide) ?_
  intro a1 hs1; clear hsl; have hsl := hs1; clear hs1
  refine ops_go rfl rfl (fun K hK => ?_)
  have e96 := hsl.get 96 _ rfl
  have e102 := hsl.get 102 _ rfl
  unfold Oper.wp
  go_simp
  clear e96 e102
  refine hK _ _ ?_
  clear hK
  refine Sl.step (G := fun a => wpOps _ _ _ _ a _) hsl (by decide) ?_
  intro a1 hs1; clear hsl; have hsl := hs1; clear hs1
  refine ops_done ?_
  refine (show Code.wp Tryd.prog _ _ _ _ from ?_)
  refine wp_cond_false (hsl.ev 103 rfl) ?_
  refine wp_skip ?_
  refine (show Code.wp Tryd.prog _ _ _ _ from ?_)
  have e : regionIn Tryd.f3 8 = Code.region 8 _ false := rfl
  rw [e]; clear e
  refine wp_region ?_
  refine ops_go rfl rfl (fun K hK => ?_)
  have e7 := hsl.get 7 _ rfl
  unfold Oper.wp
  go_simp
  clear e7
  refine hK _ _ ?_
  clear hK
  refine Sl.step (G := fun a => wpOps _ _ _ _ a _) hsl (by decide) ?_
  intro a1 hs1; clear hsl; have hsl := hs1; clear hs1
  refine ops_go rfl rfl (fun K hK => ?_)
  have e84 := hsl.get 84 _ rfl
  unfold Oper.wp
  go_simp
  clear e84
  refine hK _ _ ?_
  clear hK
  refine Sl.step (G := fun a => wpOps _ _ _ _ a _) hsl (by decide) ?_
  intro a1 hs1; clear hsl; have hsl := hs1; clear hs1
  refine ops_go rfl rfl (fun K hK => ?_)
  have e85 := hsl.get 85 _ rfl
  unfold Oper.wp
  go_simp
  clear e85
  refine hK _ _ ?_
  clear hK
  refine Sl.step (G := fun a => wpOps _ _ _ _ a _) hsl (by decide) ?_
  intro a1 hs1; clear hsl; have hsl := hs1; clear hs1
  refine ops_done ?_
  exact h _ (((hsl.nil.cons (hsl.get 6 _ rfl)).cons (hsl.get 5 _ rfl)).cons (hsl.get 7 _ rfl))
set_option maxRecDepth 100000 in
set_option maxHeartbeats 4000000 in
theorem rd1_1 (w : World) (g1 g2 : Nat) (N1 : IntsAt w (some ⟨g1, 0, none⟩) [10, 11, 26]) (N2 : IntsAt w (some ⟨g2, 0, none⟩) [25, 45, 90]) (a : Act) (hsl : Sl a 548 [(7, .int .i64 1), (5, .slice (some ⟨g1, 0, none⟩) 3 3), (6, .slice (some ⟨g2, 0, none⟩) 3 3)]) (Q : Exit → Act → World → Prop) (h : ∀ (a' : Act), Sl a' 548 [(7, .int .i64 2), (5, .slice (some ⟨g1, 0, none⟩) 3 3), (6, .slice (some ⟨g2, 0, none⟩) 3 3)] → Q .normal a' w) : (Code.seq (Code.seq (regionIn Tryd.f3 7) (Code.cond (Operand.tmp 83) Code.skip (Code.exit 0))) (Code.seq (Code.block 1 (Code.seq (regionIn Tryd.f3 9) (Code.seq (regionIn Tryd.f3 10) (Code.cond (Operand.tmp 103) (Code.seq (regionIn Tryd.f3 11) Code.ret) Code.skip)))) (regionIn Tryd.f3 8))).wp Tryd.prog Q a w := by
  refine wp_seq ?_
  refine wp_seq ?_
  have e : regionIn Tryd.f3 7 = Code.region 7 _ false := rfl
  rw [e]; clear e
  refine wp_region ?_
  refine ops_go rfl rfl (fun K hK => ?_)
  have e7 := hsl.get 7 _ rfl
  unfold Oper.wp
  go_simp
  clear e7
  refine hK _ _ ?_
  clear hK
  refine Sl.step (G := fun a => wpOps _ _ _ _ a _) hsl (by decide) ?_
  intro a1 hs1; clear hsl; have hsl := hs1; clear hs1
  refine ops_go rfl rfl (fun K hK => ?_)
  have e5 := hsl.get 5 _ rfl
  unfold Oper.wp
  go_simp
  clear e5
  refine hK _ _ ?_
  clear hK
  refine Sl.step (G := fun a => wpOps _ _ _ _ a _) hsl (by decide) ?_
  intro a1 hs1; clear hsl; have hsl := hs1; clear hs1
  refine ops_go rfl rfl (fun K hK => ?_)
  have e81 := hsl.get 81 _ rfl
  unfold Oper.wp
  go_simp
  clear e81
  refine hK _ _ ?_
  clear hK
  refine Sl.step (G := fun a => wpOps _ _ _ _ a _) hsl (by decide) ?_
  intro a1 hs1; clear hsl; have hsl := hs1; clear hs1
  refine ops_go rfl rfl (fun K hK => ?_)
  have e80 := hsl.get 80 _ rfl
  have e82 := hsl.get 82 _ rfl
  unfold Oper.wp
  go_simp
  clear e80 e82
  refine hK _ _ ?_
  clear hK
  refine Sl.step (G := fun a => wpOps _ _ _ _ a _) hsl (by decide) ?_
  intro a1 hs1; clear hsl; have hsl := hs1; clear hs1
  refine ops_done ?_
  refine (show Code.wp Tryd.prog _ _ _ _ from ?_)
  refine wp_cond_true (hsl.ev 83 rfl) ?_
  refine wp_skip ?_
  refine (show Code.wp Tryd.prog _ _ _ _ from ?_)
  refine wp_seq ?_
  refine wp_block ?_
  refine wp_seq ?_
  have e : regionIn Tryd.f3 9 = Code.region 9 _ false := rfl
  rw [e]; clear e
  refine wp_region ?_
  have z1 := N1.cellN (i := 1) rfl
  have z2 := N2.cellN (i := 1) rfl
  refine ops_go rfl rfl (fun K hK => ?_)
  have e5 := hsl.get 5 _ rfl
  unfold Oper.wp
  go_simp
  clear e5
  refine hK _ _ ?_
  clear hK
  refine Sl.step (G := fun a => wpOps _ _ _ _ a _) hsl (by decide) ?_
  intro a1 hs1; clear hsl; have hsl := hs1; clear hs1
  refine ops_go rfl rfl (fun K hK => ?_)
  have e7 := hsl.get 7 _ rfl
  unfold Oper.wp
  go_simp
  clear e7
  refine hK _ _ ?_
  clear hK
  refine Sl.step (G := fun a => wpOps _ _ _ _ a _) hsl (by decide) ?_
  intro a1 hs1; clear hsl; have hsl := hs1; clear hs1
  refine ops_go rfl rfl (fun K hK => ?_)
  have e87 := hsl.get 87 _ rfl
  have e88 := hsl.get 88 _ rfl
  unfold Oper.wp
  go_simp
  clear e87 e88
  refine hK _ _ ?_
  clear hK
  refine Sl.step (G := fun a => wpOps _ _ _ _ a _) hsl (by decide) ?_
  intro a1 hs1; clear hsl; have hsl := hs1; clear hs1
  refine ops_go rfl rfl (fun K hK => ?_)
  have e89 := hsl.get 89 _ rfl
  unfold Oper.wp
  go_simp
  clear e89
  refine hK _ _ ?_
  clear hK
  refine Sl.step (G := fun a => wpOps _ _ _ _ a _) hsl (by decide) ?_
  intro a1 hs1; clear hsl; have hsl := hs1; clear hs1
  refine ops_go rfl rfl (fun K hK => ?_)
  have e90 := hsl.get 90 _ rfl
  unfold Oper.wp
  go_simp
  refine (Width_any 11 _).mono ?_
  rintro e w3 ⟨rfl, rfl⟩
  rw [show widthV 11 = (45, 0) by decide +kernel]
  clear e90
  refine hK _ _ ?_
  clear hK
  refine Sl.step (G := fun a => wpOps _ _ _ _ a _) hsl (by decide) ?_
  intro a1 hs1; clear hsl; have hsl := hs1; clear hs1
  refine ops_go rfl rfl (fun K hK => ?_)
  have e91 := hsl.get 91 _ rfl
  unfold Oper.wp
  go_simp
  clear e91
  refine hK _ _ ?_
  clear hK
  refine Sl.step (G := fun a => wpOps _ _ _ _ a _) hsl (by decide) ?_
  intro a1 hs1; clear hsl; have hsl := hs1; clear hs1
  refine ops_go rfl rfl (fun K hK => ?_)
  have e86 := hsl.get 86 _ rfl
  unfold Oper.wp
  go_simp
  clear e86
  refine hK _ _ ?_
  clear hK
  refine Sl.step (G := fun a => wpOps _ _ _ _ a _) hsl (by decide) ?_
  intro a1 hs1; clear hsl; have hsl := hs1; clear hs1
  refine ops_go rfl rfl (fun K hK => ?_)
  have e86 := hsl.get 86 _ rfl
  unfold Oper.wp
  go_simp
  clear e86
  refine hK _ _ ?_
  clear hK
  refine Sl.step (G := fun a => wpOps _ _ _ _ a _) hsl (by decide) ?_
  intro a1 hs1; clear hsl; have hsl := hs1; clear hs1
  refine ops_go rfl rfl (fun K hK => ?_)
  have e92 := hsl.get 92 _ rfl
  unfold Oper.wp
  go_simp
  clear e92
  refine hK _ _ ?_
  clear hK
  refine Sl.step (G := fun a => wpOps _ _ _ _ a _) hsl (by decide) ?_
  intro a1 hs1; clear hsl; have hsl := hs1; clear hs1
  refine ops_go rfl rfl (fun K hK => ?_)
  have e93 := hsl.get 93 _ rfl
  unfold Oper.wp
  go_simp
  clear e93
  refine hK _ _ ?_
  clear hK
  refine Sl.step (G := fun a => wpOps _ _ _ _ a _) hsl (by decide) ?_
  intro a1 hs1; clear hsl; have hsl := hs1; clear hs1
  refine ops_done ?_
  refine (show Code.wp Tryd.prog _ _ _ _ from ?_)
  refine wp_seq ?_
  have e : regionIn Tryd.f3 10 = Code.region 10 _ false := rfl
  rw [e]; clear e
  refine wp_region ?_
  refine ops_go rfl rfl (fun K hK => ?_)
  have e9 := hsl.get 9 _ rfl
  unfold Oper.wp
  go_simp
  clear e9
  refine hK _ _ ?_
  clear hK
  refine Sl.step (G := fun a => wpOps _ _ _ _ a _) hsl (by decide) ?_
  intro a1 hs1; clear hsl; have hsl := hs1; clear hs1
  refine ops_go rfl rfl (fun K hK => ?_)
  have e94 := hsl.get 94 _ rfl
  unfold Oper.wp
  go_simp
  clear e94
  refine hK _ _ ?_
  clear hK
  refine Sl.step (G := fun a => wpOps _ _ _ _ a _) hsl (by decide) ?_
  intro a1 hs1; clear hsl; have hsl := hs1; clear hs1
  refine ops_go rfl rfl (fun K hK => ?_)
  have e95 := hsl.get 95 _ rfl
  unfold Oper.wp
  go_simp
  clear e95
  refine hK _ _ ?_
  clear hK
  refine Sl.step (G := fun a => wpOps _ _ _ _ a _) hsl (by decide) ?_
  intro a1 hs1; clear hsl; have hsl := hs1; clear hs1
  refine ops_want rfl rfl rfl rfl (hsl.get 96 _ rfl) (fun K hK => ?_)
  have e8 := hsl.get 8 _ rfl
  unfold Oper.wp
  go_simp
  clear e8
  refine hK _ _ ?_
  clear hK
  refine Sl.step (G := fun a => wpOps _ _ _ _ a _) hsl (by decide) ?_
  intro a1 hs1; clear hsl; have hsl := hs1; clear hs1
  refine ops_want rfl rfl rfl rfl (hsl.get 96 _ rfl) (fun K hK => ?_)
  have e6 := hsl.get 6 _ rfl
  unfold Oper.wp
  go_simp
  clear e6
  refine hK _ _ ?_
  clear hK
  refine Sl.step (G := fun a => wpOps _ _ _ _ a _) hsl (by decide) ?_
  intro a1 hs1; clear hsl; have hsl := hs1; clear hs1
  refine ops_want rfl rfl rfl rfl (hsl.get 96 _ rfl) (fun K hK => ?_)
  have e7 := hsl.get 7 _ rfl
  unfold Oper.wp
  go_simp
  clear e7
  refine hK _ _ ?_
  clear hK
  refine Sl.step (G := fun a => wpOps _ _ _ _ a _) hsl (by decide) ?_
  intro a1 hs1; clear hsl; have hsl := hs1; clear hs1
  refine ops_want rfl rfl rfl rfl (hsl.get 96 _ rfl) (fun K hK => ?_)
  have e98 := hsl.get 98 _ rfl
  have e99 := hsl.get 99 _ rfl
  unfold Oper.wp
  go_simp
  clear e98 e99
  refine hK _ _ ?_
  clear hK
  refine Sl.step (G := fun a => wpOps _ _ _ _ a _) hsl (by decide) ?_
  intro a1 hs1; clear hsl; have hsl := hs1; clear hs1
  refine ops_want rfl rfl rfl rfl (hsl.get 96 _ rfl) (fun K hK => ?_)
  have e100 := hsl.get 100 _ rfl
  unfold Oper.wp
  go_simp
  clear e100
  refine hK _ _ ?_
  clear hK
  refine Sl.step (G := fun a => wpOps _ _ _ _ a _) hsl (by decide) ?_
  intro a1 hs1; clear hsl; have hsl := hs1; clear hs1
  refine ops_want rfl rfl rfl rfl (hsl.get 96 _ rfl) (fun K hK => ?_)
  have e97 := hsl.get 97 _ rfl
  have e101 := hsl.get 101 _ rfl
  unfold Oper.wp
  go_simp
  clear e97 e101
  refine hK _ _ ?_
  clear hK
  refine Sl.step (G := fun a => wpOps _ _ _ _ a _) hsl (by decide) ?_
  intro a1 hs1; clear hsl; have hsl := hs1; clear hs1
  refine ops_go rfl rfl (fun K hK => ?_)
  have e96 := hsl.get 96 _ rfl
  have e102 := hsl.get 102 _ rfl
  unfold Oper.wp
  go_simp
  clear e96 e102
  refine hK _ _ ?_
  clear hK
  refine Sl.step (G := fun a => wpOps _ _ _ _ a _) hsl (by decide) ?_
  intro a1 hs1; clear hsl; have hsl := hs1; clear hs1
  refine ops_done ?_
  refine (show Code.wp Tryd.prog _ _ _ _ from ?_)
  refine wp_cond_false (hsl.ev 103 rfl) ?_
  refine wp_skip ?_
  refine (show Code.wp Tryd.prog _ _ _ _ from ?_)
  have e : regionIn Tryd.f3 8 = Code.region 8 _ false := rfl
  rw [e]; clear e
  refine wp_region ?_
  refine ops_go rfl rfl (fun K hK => ?_)
  have e7 := hsl.get 7 _ rfl
  unfold Oper.wp
  go_simp
  clear e7
  refine hK _ _ ?_
  clear hK
  refine Sl.step (G := fun a => wpOps _ _ _ _ a _) hsl (by decide) ?_
  intro a1 hs1; clear hsl; have hsl := hs1; clear hs1
  refine ops_go rfl rfl (fun K hK => ?_)
  have e84 := hsl.get 84 _ rfl
  unfold Oper.wp
  go_simp
  clear e84
  refine hK _ _ ?_
  clear hK
  refine Sl.step (G := fun a => wpOps _ _ _ _ a _) hsl (by decide) ?_
  intro a1 hs1; clear hsl; have hsl := hs1; clear hs1
  refine ops_go rfl rfl (fun K hK => ?_)
  have e85 := hsl.get 85 _ rfl
  unfold Oper.wp
  go_simp
  clear e85
  refine hK _ _ ?_
  clear hK
  refine Sl.step (G := fun a => wpOps _ _ _ _ a _) hsl (by decide) ?_
  intro a1 hs1; clear hsl; have hsl := hs1; clear hs1
  refine ops_done ?_
  exact h _ (((hsl.nil.cons (hsl.get 6 _ rfl)).cons (hsl.get 5 _ rfl)).cons (hsl.get 7 _ rfl))
set_option maxRecDepth 100000 in
set_option maxHeartbeats 4000000 in
theorem rd1_2 (w : World) (g1 g2 : Nat) (N1 : IntsAt w (some ⟨g1, 0, none⟩) [10, 11, 26]) (N2 : IntsAt w (some ⟨g2, 0, none⟩) [25, 45, 90]) (a : Act) (hsl : Sl a 548 [(7, .int .i64 2), (5, .slice (some ⟨g1, 0, none⟩) 3 3), (6, .slice (some ⟨g2, 0, none⟩) 3 3)]) (Q : Exit → Act → World → Prop) (h : ∀ (a' : Act), Sl a' 548 [(7, .int .i64 3), (5, .slice (some ⟨g1, 0, none⟩) 3 3), (6, .slice (some ⟨g2, 0, none⟩) 3 3)] → Q .normal a' w) : (Code.seq (Code.seq (regionIn Tryd.f3 7) (Code.cond (Operand.tmp 83) Code.skip (Code.exit 0))) (Code.seq (Code.block 1 (Code.seq (regionIn Tryd.f3 9) (Code.seq (regionIn Tryd.f3 10) (Code.cond (Operand.tmp 103) (Code.seq (regionIn Tryd.f3 11) Code.ret) Code.skip)))) (regionIn Tryd.f3 8))).wp Tryd.prog Q a w := by
  refine wp_seq ?_
  refine wp_seq ?_
  have e : regionIn Tryd.f3 7 = Code.region 7 _ false := rfl
  rw [e]; clear e
  refine wp_region ?_
  refine ops_go rfl rfl (fun K hK => ?_)
  have e7 := hsl.get 7 _ rfl
  unfold Oper.wp
  go_simp
  clear e7
  refine hK _ _ ?_
  clear hK
  refine Sl.step (G := fun a => wpOps _ _ _ _ a _) hsl (by decide) ?_
  intro a1 hs1; clear hsl; have hsl := hs1; clear hs1
  refine ops_go rfl rfl (fun K hK => ?_)
  have e5 := hsl.get 5 _ rfl
  unfold Oper.wp
  go_simp
  clear e5
  refine hK _ _ ?_
  clear hK
  refine Sl.step (G := fun a => wpOps _ _ _ _ a _) hsl (by decide) ?_
  intro a1 hs1; clear hsl; have hsl := hs1; clear hs1
  refine ops_go rfl rfl (fun K hK => ?_)
  have e81 := hsl.get 81 _ rfl
  unfold Oper.wp
  go_simp
  clear e81
  refine hK _ _ ?_
  clear hK
  refine Sl.step (G := fun a => wpOps _ _ _ _ a _) hsl (by decide) ?_
  intro a1 hs1; clear hsl; have hsl := hs1; clear hs1
  refine ops_go rfl rfl (fun K hK => ?_)
  have e80 := hsl.get 80 _ rfl
  have e82 := hsl.get 82 _ rfl
  unfold Oper.wp
  go_simp
  clear e80 e82
  refine hK _ _ ?_
  clear hK
  refine Sl.step (G := fun a => wpOps _ _ _ _ a _) hsl (by decide) ?_
  intro a1 hs1; clear hsl; have hsl := hs1; clear hs1
  refine ops_done ?_
  refine (show Code.wp Tryd.prog _ _ _ _ from ?_)
  refine wp_cond_true (hsl.ev 83 rfl) ?_
  refine wp_skip ?_
  refine (show Code.wp Tryd.prog _ _ _ _ from ?_)
  refine wp_seq ?_
  refine wp_block ?_
  refine wp_seq ?_
  have e : regionIn Tryd.f3 9 = Code.region 9 _ false := rfl
  rw [e]; clear e
  refine wp_region ?_
  have z1 := N1.cellN (i := 2) rfl
  have z2 := N2.cellN (i := 2) rfl
  refine ops_go rfl rfl (fun K hK => ?_)
  have e5 := hsl.get 5 _ rfl
  unfold Oper.wp
  go_simp
  clear e5
  refine hK _ _ ?_
  clear hK
  refine Sl.step (G := fun a => wpOps _ _ _ _ a _) hsl (by decide) ?_
  intro a1 hs1; clear hsl; have hsl := hs1; clear hs1
  refine ops_go rfl rfl (fun K hK => ?_)
  have e7 := hsl.get 7 _ rfl
  unfold Oper.wp
  go_simp
  clear e7
  refine hK _ _ ?_
  clear hK
  refine Sl.step (G := fun a => wpOps _ _ _ _ a _) hsl (by decide) ?_
  intro a1 hs1; clear hsl; have hsl := hs1; clear hs1
  refine ops_go rfl rfl (fun K hK => ?_)
  have e87 := hsl.get 87 _ rfl
  have e88 := hsl.get 88 _ rfl
  unfold Oper.wp
  go_simp
  clear e87 e88
  refine hK _ _ ?_
  clear hK
  refine Sl.step (G := fun a => wpOps _ _ _ _ a _) hsl (by decide) ?_
  intro a1 hs1; clear hsl; have hsl := hs1; clear hs1
  refine ops_go rfl rfl (fun K hK => ?_)
  have e89 := hsl.get 89 _ rfl
  unfold Oper.wp
  go_simp
  clear e89
  refine hK _ _ ?_
  clear hK
  refine Sl.step (G := fun a => wpOps _ _ _ _ a _) hsl (by decide) ?_
  intro a1 hs1; clear hsl; have hsl := hs1; clear hs1
  refine ops_go rfl rfl (fun K hK => ?_)
  have e90 := hsl.get 90 _ rfl
  unfold Oper.wp
  go_simp
  refine (Width_any 26 _).mono ?_
  rintro e w3 ⟨rfl, rfl⟩
  rw [show widthV 26 = (90, 0) by decide +kernel]
  clear e90
  refine hK _ _ ?_
  clear hK
  refine Sl.step (G := fun a => wpOps _ _ _ _ a _) hsl (by decide) ?_
  intro a1 hs1; clear hsl; have hsl := hs1; clear hs1
  refine ops_go rfl rfl (fun K hK => ?_)
  have e91 := hsl.get 91 _ rfl
  unfold Oper.wp
  go_simp
  clear e91
  refine hK _ _ ?_
  clear hK
  refine Sl.step (G := fun a => wpOps _ _ _ _ a _) hsl (by decide) ?_
  intro a1 hs1; clear hsl; have hsl := hs1; clear hs1
  refine ops_go rfl rfl (fun K hK => ?_)
  have e86 := hsl.get 86 _ rfl
  unfold Oper.wp
  go_simp
  clear e86
  refine hK _ _ ?_
  clear hK
  refine Sl.step (G := fun a => wpOps _ _ _ _ a _) hsl (by decide) ?_
  intro a1 hs1; clear hsl; have hsl := hs1; clear hs1
  refine ops_go rfl rfl (fun K hK => ?_)
  have e86 := hsl.get 86 _ rfl
  unfold Oper.wp
  go_simp
  clear e86
  refine hK _ _ ?_
  clear hK
  refine Sl.step (G := fun a => wpOps _ _ _ _ a _) hsl (by decide) ?_
  intro a1 hs1; clear hsl; have hsl := hs1; clear hs1
  refine ops_go rfl rfl (fun K hK => ?_)
  have e92 := hsl.get 92 _ rfl
  unfold Oper.wp
  go_simp
  clear e92
  refine hK _ _ ?_
  clear hK
  refine Sl.step (G := fun a => wpOps _ _ _ _ a _) hsl (by decide) ?_
  intro a1 hs1; clear hsl; have hsl := hs1; clear hs1
  refine ops_go rfl rfl (fun K hK => ?_)
  have e93 := hsl.get 93 _ rfl
  unfold Oper.wp
  go_simp
  clear e93
  refine hK _ _ ?_
  clear hK
  refine Sl.step (G := fun a => wpOps _ _ _ _ a _) hsl (by decide) ?_
  intro a1 hs1; clear hsl; have hsl := hs1; clear hs1
  refine ops_done ?_
  refine (show Code.wp Tryd.prog _ _ _ _ from ?_)
  refine wp_seq ?_
  have e : regionIn Tryd.f3 10 = Code.region 10 _ false := rfl
  rw [e]; clear e
  refine wp_region ?_
  refine ops_go rfl rfl (fun K hK => ?_)
  have e9 := hsl.get 9 _ rfl
  unfold Oper.wp
  go_simp
  clear e9
  refine hK _ _ ?_
  clear hK
  refine Sl.step (G := fun a => wpOps _ _ _ _ a _) hsl (by decide) ?_
  intro a1 hs1; clear hsl; have hsl := hs1; clear hs1
  refine ops_go rfl rfl (fun K hK => ?_)
  have e94 := hsl.get 94 _ rfl
  unfold Oper.wp
  go_simp
  clear e94
  refine hK _ _ ?_
  clear hK
  refine Sl.step (G := fun a => wpOps _ _ _ _ a _) hsl (by decide) ?_
  intro a1 hs1; clear hsl; have hsl := hs1; clear hs1
  refine ops_go rfl rfl (fun K hK => ?_)
  have e95 := hsl.get 95 _ rfl
  unfold Oper.wp
  go_simp
  clear e95
  refine hK _ _ ?_
  clear hK
  refine Sl.step (G := fun a => wpOps _ _ _ _ a _) hsl (by decide) ?_
  intro a1 hs1; clear hsl; have hsl := hs1; clear hs1
  refine ops_want rfl rfl rfl rfl (hsl.get 96 _ rfl) (fun K hK => ?_)
  have e8 := hsl.get 8 _ rfl
  unfold Oper.wp
  go_simp
  clear e8
  refine hK _ _ ?_
  clear hK
  refine Sl.step (G := fun a => wpOps _ _ _ _ a _) hsl (by decide) ?_
  intro a1 hs1; clear hsl; have hsl := hs1; clear hs1
  refine ops_want rfl rfl rfl rfl (hsl.get 96 _ rfl) (fun K hK => ?_)
  have e6 := hsl.get 6 _ rfl
  unfold Oper.wp
  go_simp
  clear e6
  refine hK _ _ ?_
  clear hK
  refine Sl.step (G := fun a => wpOps _ _ _ _ a _) hsl (by decide) ?_
  intro a1 hs1; clear hsl; have hsl := hs1; clear hs1
  refine ops_want rfl rfl rfl rfl (hsl.get 96 _ rfl) (fun K hK => ?_)
  have e7 := hsl.get 7 _ rfl
  unfold Oper.wp
  go_simp
  clear e7
  refine hK _ _ ?_
  clear hK
  refine Sl.step (G := fun a => wpOps _ _ _ _ a _) hsl (by decide) ?_
  intro a1 hs1; clear hsl; have hsl := hs1; clear hs1
  refine ops_want rfl rfl rfl rfl (hsl.get 96 _ rfl) (fun K hK => ?_)
  have e98 := hsl.get 98 _ rfl
  have e99 := hsl.get 99 _ rfl
  unfold Oper.wp
  go_simp
  clear e98 e99
  refine hK _ _ ?_
  clear hK
  refine Sl.step (G := fun a => wpOps _ _ _ _ a _) hsl (by decide) ?_
  intro a1 hs1; clear hsl; have hsl := hs1; clear hs1
  refine ops_want rfl rfl rfl rfl (hsl.get 96 _ rfl) (fun K hK => ?_)
  have e100 := hsl.get 100 _ rfl
  unfold Oper.wp
  go_simp
  clear e100
  refine hK _ _ ?_
  clear hK
  refine Sl.step (G := fun a => wpOps _ _ _ _ a _) hsl (by decide) ?_
  intro a1 hs1; clear hsl; have hsl := hs1; clear hs1
  refine ops_want rfl rfl rfl rfl (hsl.get 96 _ rfl) (fun K hK => ?_)
  have e97 := hsl.get 97 _ rfl
  have e101 := hsl.get 101 _ rfl
  unfold Oper.wp
  go_simp
  clear e97 e101
  refine hK _ _ ?_
  clear hK
  refine Sl.step (G := fun a => wpOps _ _ _ _ a _) hsl (by decide) ?_
  intro a1 hs1; clear hsl; have hsl := hs1; clear hs1
  refine ops_go rfl rfl (fun K hK => ?_)
  have e96 := hsl.get 96 _ rfl
  have e102 := hsl.get 102 _ rfl
  unfold Oper.wp
  go_simp
  clear e96 e102
  refine hK _ _ ?_
  clear hK
  refine Sl.step (G := fun a => wpOps _ _ _ _ a _) hsl (by decide) ?_
  intro a1 hs1; clear hsl; have hsl := hs1; clear hs1
  refine ops_done ?_
  refine (show Code.wp Tryd.prog _ _ _ _ from ?_)
  refine wp_cond_false (hsl.ev 103 rfl) ?_
  refine wp_skip ?_
  refine (show Code.wp Tryd.prog _ _ _ _ from ?_)
  have e : regionIn Tryd.f3 8 = Code.region 8 _ false := rfl
  rw [e]; clear e
  refine wp_region ?_
  refine ops_go rfl rfl (fun K hK => ?_)
  have e7 := hsl.get 7 _ rfl
  unfold Oper.wp
  go_simp
  clear e7
  refine hK _ _ ?_
  clear hK
  refine Sl.step (G := fun a => wpOps _ _ _ _ a _) hsl (by decide) ?_
  intro a1 hs1; clear hsl; have hsl := hs1; clear hs1
  refine ops_go rfl rfl (fun K hK => ?_)
  have e84 := hsl.get 84 _ rfl
  unfold Oper.wp
  go_simp
  clear e84
  refine hK _ _ ?_
  clear hK
  refine Sl.step (G := fun a => wpOps _ _ _ _ a _) hsl (by decide) ?_
  intro a1 hs1; clear hsl; have hsl := hs1; clear hs1
  refine ops_go rfl rfl (fun K hK => ?_)
  have e85 := hsl.get 85 _ rfl
  unfold Oper.wp
  go_simp
  clear e85
  refine hK _ _ ?_
  clear hK
  refine Sl.step (G := fun a => wpOps _ _ _ _ a _) hsl (by decide) ?_
  intro a1 hs1; clear hsl; have hsl := hs1; clear hs1
  refine ops_done ?_
  exact h _ (((hsl.nil.cons (hsl.get 6 _ rfl)).cons (hsl.get 5 _ rfl)).cons (hsl.get 7 _ rfl))
set_option maxRecDepth 100000 in
set_option maxHeartbeats 4000000 in
theorem rd1_3 (w : World) (g1 g2 : Nat) (N1 : IntsAt w (some ⟨g1, 0, none⟩) [10, 11, 26]) (N2 : IntsAt w (some ⟨g2, 0, none⟩) [25, 45, 90]) (a : Act) (hsl : Sl a 548 [(7, .int .i64 3), (5, .slice (some ⟨g1, 0, none⟩) 3 3), (6, .slice (some ⟨g2, 0, none⟩) 3 3)]) (Q : Exit → Act → World → Prop) (h : ∀ (a' : Act), Sl a' 548 [] → Q (.exit 0) a' w) : (Code.seq (Code.seq (regionIn Tryd.f3 7) (Code.cond (Operand.tmp 83) Code.skip (Code.exit 0))) (Code.seq (Code.block 1 (Code.seq (regionIn Tryd.f3 9) (Code.seq (regionIn Tryd.f3 10) (Code.cond (Operand.tmp 103) (Code.seq (regionIn Tryd.f3 11) Code.ret) Code.skip)))) (regionIn Tryd.f3 8))).wp Tryd.prog Q a w := by
  refine wp_seq ?_
  refine wp_seq ?_
  have e : regionIn Tryd.f3 7 = Code.region 7 _ false := rfl
  rw [e]; clear e
  refine wp_region ?_
  refine ops_go rfl rfl (fun K hK => ?_)
  have e7 := hsl.get 7 _ rfl
  unfold Oper.wp
  go_simp
  clear e7
  refine hK _ _ ?_
  clear hK
  refine Sl.step (G := fun a => wpOps _ _ _ _ a _) hsl (by decide) ?_
  intro a1 hs1; clear hsl; have hsl := hs1; clear hs1
  refine ops_go rfl rfl (fun K hK => ?_)
  have e5 := hsl.get 5 _ rfl
  unfold Oper.wp
  go_simp
  clear e5
  refine hK _ _ ?_
  clear hK
  refine Sl.step (G := fun a => wpOps _ _ _ _ a _) hsl (by decide) ?_
  intro a1 hs1; clear hsl; have hsl := hs1; clear hs1
  refine ops_go rfl rfl (fun K hK => ?_)
  have e81 := hsl.get 81 _ rfl
  unfold Oper.wp
  go_simp
  clear e81
  refine hK _ _ ?_
  clear hK
  refine Sl.step (G := fun a => wpOps _ _ _ _ a _) hsl (by decide) ?_
  intro a1 hs1; clear hsl; have hsl := hs1; clear hs1
  refine ops_go rfl rfl (fun K hK => ?_)
  have e80 := hsl.get 80 _ rfl
  have e82 := hsl.get 82 _ rfl
  unfold Oper.wp
  go_simp
  clear e80 e82
  refine hK _ _ ?_
  clear hK
  refine Sl.step (G := fun a => wpOps _ _ _ _ a _) hsl (by decide) ?_
  intro a1 hs1; clear hsl; have hsl := hs1; clear hs1
  refine ops_done ?_
  refine (show Code.wp Tryd.prog _ _ _ _ from ?_)
  refine wp_cond_false (hsl.ev 83 rfl) ?_
  refine wp_exit ?_
  exact h _ hsl.nil
set_option maxRecDepth 100000 in
set_option maxHeartbeats 4000000 in
theorem seg11 (w : World) (a : Act) (hsl : Sl a 548 []) (rest : Code) (Q : Exit → Act → World → Prop) (h : ∀ (a' : Act) (w' : World), Sl a' 548 [] → Below w.heap.size w w' → rest.wp Tryd.prog Q a' w') : (Code.seq (regionIn Tryd.f3 5) (Code.seq (Code.seq (regionIn Tryd.f3 6) (Code.block 0 (Code.loop (Code.seq (Code.seq (regionIn Tryd.f3 7) (Code.cond (Operand.tmp 83) Code.skip (Code.exit 0))) (Code.seq (Code.block 1 (Code.seq (regionIn Tryd.f3 9) (Code.seq (regionIn Tryd.f3 10) (Code.cond (Operand.tmp 103) (Code.seq (regionIn Tryd.f3 11) Code.ret) Code.skip)))) (regionIn Tryd.f3 8)))))) rest)).wp Tryd.prog Q a w := by
  refine kr5 _ _ _ hsl _ _ ?_
  intro a1 w1 g1 g2 hs1 N1 N2 hb
  refine wp_seq ?_
  refine kr6 _ _ _ hs1 _ _ ?_
  intro a2 hs2
  refine wp_block ?_
  refine wp_loop_ghost (fun n a' w' => n ≤ 3 ∧ w' = w1 ∧ Sl a' 548 [(7, .int .i64 (3 - (n : Int))), (5, .slice (some ⟨g1, 0, none⟩) 3 3), (6, .slice (some ⟨g2, 0, none⟩) 3 3)]) 3 ⟨Nat.le_refl _, rfl, ((hs2.nil.cons (hs2.get 6 _ rfl)).cons (hs2.get 5 _ rfl)).cons (hs2.get 7 _ rfl)⟩ ?_
  rintro n a3 w3 ⟨hn, rfl, hs3⟩
  have h4 : n = 0 ∨ n = 1 ∨ n = 2 ∨ n = 3 := by omega
  rcases h4 with rfl | rfl | rfl | rfl
  · refine rd1_3 _ g1 g2 N1 N2 _ hs3 _ ?_
    intro a4 hs4
    exact h _ _ hs4 hb
  · refine rd1_2 _ g1 g2 N1 N2 _ hs3 _ ?_
    intro a4 hs4
    exact ⟨0, by omega, by omega, rfl, hs4⟩
  · refine rd1_1 _ g1 g2 N1 N2 _ hs3 _ ?_
    intro a4 hs4
    exact ⟨1, by omega, by omega, rfl, hs4⟩
  · refine rd1_0 _ g1 g2 N1 N2 _ hs3 _ ?_
    intro a4 hs4
    exact ⟨2, by omega, by omega, rfl, hs4⟩
end Go.Proofs.YtmkjeonjhedgkaaDoor
namespace Go.Proofs.YtmkjeonjhedgkaaDoor
set_option linter.unusedSimpArgs false
set_option linter.unusedVariables false
open Go.RowKit

/-- The plans lie in memory, and the errors that are due. -/
structure Plans (w : World) (g0 g1 g2 g3 g4 gq gr : Nat) : Prop where
  p0 : Rw w g0 #[.int .i64 0, .int .i64 0, .int .i64 1, .int .i64 1] 44
  p1 : Rw w g1 #[.int .i64 0, .int .i64 1] 44
  p2 : Rw w g2 #[.int .i64 0, .int .i64 0, .int .i64 0, .int .i64 0] 44
  p3 : Rw w g3 #[.int .i64 2, .int .i64 0, .int .i64 1, .int .i64 0] 44
  p4 : Rw w g4 #[.int .i64 0, .int .i64 4] 44
  q : Rw w gq #[.slice (some ⟨g0, 0, none⟩) 2 2, .slice (some ⟨g1, 0, none⟩) 1 1, .slice (some ⟨g2, 0, none⟩) 2 2, .slice (some ⟨g3, 0, none⟩) 2 2, .slice (some ⟨g4, 0, none⟩) 1 1] 45
  r : Rw w gr #[.int .i64 9, .int .i64 12, .int .i64 6, .int .i64 5, .int .i64 3] 29
theorem Plans.below {w w' : World} {g0 g1 g2 g3 g4 gq gr : Nat} (h : Plans w g0 g1 g2 g3 g4 gq gr) (hb : Below w.heap.size w w') : Plans w' g0 g1 g2 g3 g4 gq gr := ⟨h.p0.below hb, h.p1.below hb, h.p2.below hb, h.p3.below hb, h.p4.below hb, h.q.below hb, h.r.below hb⟩
theorem strides1 {w : World} {g : Nat} {a b : Int} {t : TypeId} (h : Rw w g #[.int .i64 a, .int .i64 b] t) : StridesAt w (some ⟨g, 0, none⟩) [(a, b)] := .inr ⟨g, 0, rfl, fun i hi => by
  obtain rfl : i = 0 := by simpa using hi
  exact ⟨h.cell rfl, h.cell rfl⟩⟩
theorem strides2 {w : World} {g : Nat} {a b c d : Int} {t : TypeId} (h : Rw w g #[.int .i64 a, .int .i64 b, .int .i64 c, .int .i64 d] t) : StridesAt w (some ⟨g, 0, none⟩) [(a, b), (c, d)] := .inr ⟨g, 0, rfl, fun i hi => by
  have hi2 : i < 2 := hi
  have h2 : i = 0 ∨ i = 1 := by omega
  rcases h2 with rfl | rfl <;> exact ⟨h.cell rfl, h.cell rfl⟩⟩
set_option maxRecDepth 100000 in
set_option maxHeartbeats 4000000 in
theorem kr25 (w : World) (a : Act) (m : List (Nat × Value)) (hsl : Sl a 548 m) (rest : Code) (Q : Exit → Act → World → Prop) (h : ∀ (a' : Act) (w' : World) (g0 g1 g2 g3 g4 gq gr : Nat), Sl a' 548 [(20, .slice (some ⟨gq, 0, none⟩) 5 5), (21, .slice (some ⟨gr, 0, none⟩) 5 5)] → Plans w' g0 g1 g2 g3 g4 gq gr → Below w.heap.size w w' → rest.wp Tryd.prog Q a' w') : (Code.seq (regionIn Tryd.f3 25) rest).wp Tryd.prog Q a w := by
  refine wp_seq ?_
  have e : regionIn Tryd.f3 25 = Code.region 25 _ false := rfl
  rw [e]; clear e
  refine wp_region ?_
  have HB := Below.refl w.heap.size w
  refine ops_go rfl rfl (fun K hK => ?_)
  unfold Oper.wp
  go_simp
  refine hK _ _ ?_
  clear hK
  refine Sl.step (G := fun a => wpOps _ _ _ _ a _) hsl (by decide) ?_
  intro a1 hs1; clear hsl; have hsl := hs1; clear hs1
  refine ops_go rfl rfl (fun K hK => ?_)
  unfold Oper.wp
  go_simp
  refine hK _ _ ?_
  clear hK
  refine Sl.step (G := fun a => wpOps _ _ _ _ a _) hsl (by decide) ?_
  intro a1 hs1; clear hsl; have hsl := hs1; clear hs1
  refine ops_go rfl rfl (fun K hK => ?_)
  have e239 := hsl.get 239 _ rfl
  have e240 := hsl.get 240 _ rfl
  unfold Oper.wp
  go_simp
  clear e239 e240
  refine hK _ _ ?_
  clear hK
  refine Sl.step (G := fun a => wpOps _ _ _ _ a _) hsl (by decide) ?_
  intro a1 hs1; clear hsl; have hsl := hs1; clear hs1
  refine alloc_rw (G := fun W => wpOps _ _ _ _ _ W) ?_
  intro v1 hz Xg0 hb; clear hz
  replace HB := HB.trans (hb.mono HB.size); clear hb
  generalize hg : w.heap.size = g0 at Xg0 hsl; clear hg
  refine ops_go rfl rfl (fun K hK => ?_)
  unfold Oper.wp
  go_simp
  refine hK _ _ ?_
  clear hK
  refine Sl.step (G := fun a => wpOps _ _ _ _ a _) hsl (by decide) ?_
  intro a1 hs1; clear hsl; have hsl := hs1; clear hs1
  refine ops_go rfl rfl (fun K hK => ?_)
  have e242 := hsl.get 242 _ rfl
  unfold Oper.wp
  go_simp
  clear e242
  refine hK _ _ ?_
  clear hK
  refine Sl.step (G := fun a => wpOps _ _ _ _ a _) hsl (by decide) ?_
  intro a1 hs1; clear hsl; have hsl := hs1; clear hs1
  refine alloc_rw (G := fun W => wpOps _ _ _ _ _ W) ?_
  intro v2 hz Xg1 hb; clear hz
  replace Xg0 := Xg0.below hb
  replace HB := HB.trans (hb.mono HB.size); clear hb
  generalize hg : v1.heap.size = g1 at Xg1 hsl; clear hg
  refine ops_go rfl rfl (fun K hK => ?_)
  unfold Oper.wp
  go_simp
  refine hK _ _ ?_
  clear hK
  refine Sl.step (G := fun a => wpOps _ _ _ _ a _) hsl (by decide) ?_
  intro a1 hs1; clear hsl; have hsl := hs1; clear hs1
  refine ops_go rfl rfl (fun K hK => ?_)
  unfold Oper.wp
  go_simp
  refine hK _ _ ?_
  clear hK
  refine Sl.step (G := fun a => wpOps _ _ _ _ a _) hsl (by decide) ?_
  intro a1 hs1; clear hsl; have hsl := hs1; clear hs1
  refine ops_go rfl rfl (fun K hK => ?_)
  have e244 := hsl.get 244 _ rfl
  have e245 := hsl.get 245 _ rfl
  unfold Oper.wp
  go_simp
  clear e244 e245
  refine hK _ _ ?_
  clear hK
  refine Sl.step (G := fun a => wpOps _ _ _ _ a _) hsl (by decide) ?_
  intro a1 hs1; clear hsl; have hsl := hs1; clear hs1
  refine alloc_rw (G := fun W => wpOps _ _ _ _ _ W) ?_
  intro v3 hz Xg2 hb; clear hz
  replace Xg0 := Xg0.below hb
  replace Xg1 := Xg1.below hb
  replace HB := HB.trans (hb.mono HB.size); clear hb
  generalize hg : v2.heap.size = g2 at Xg2 hsl; clear hg
  refine ops_go rfl rfl (fun K hK => ?_)
  unfold Oper.wp
  go_simp
  refine hK _ _ ?_
  clear hK
  refine Sl.step (G := fun a => wpOps _ _ _ _ a _) hsl (by decide) ?_
  intro a1 hs1; clear hsl; have hsl := hs1; clear hs1
  refine ops_go rfl rfl (fun K hK => ?_)
  unfold Oper.wp
  go_simp
  refine hK _ _ ?_
  clear hK
  refine Sl.step (G := fun a => wpOps _ _ _ _ a _) hsl (by decide) ?_
  intro a1 hs1; clear hsl; have hsl := hs1; clear hs1
  refine ops_go rfl rfl (fun K hK => ?_)
  have e247 := hsl.get 247 _ rfl
  have e248 := hsl.get 248 _ rfl
  unfold Oper.wp
  go_simp
  clear e247 e248
  refine hK _ _ ?_
  clear hK
  refine Sl.step (G := fun a => wpOps _ _ _ _ a _) hsl (by decide) ?_
  intro a1 hs1; clear hsl; have hsl := hs1; clear hs1
  refine alloc_rw (G := fun W => wpOps _ _ _ _ _ W) ?_
  intro v4 hz Xg3 hb; clear hz
  replace Xg0 := Xg0.below hb
  replace Xg1 := Xg1.below hb
  replace Xg2 := Xg2.below hb
  replace HB := HB.trans (hb.mono HB.size); clear hb
  generalize hg : v3.heap.size = g3 at Xg3 hsl; clear hg
  refine ops_go rfl rfl (fun K hK => ?_)
  unfold Oper.wp
  go_simp
  refine hK _ _ ?_
  clear hK
  refine Sl.step (G := fun a => wpOps _ _ _ _ a _) hsl (by decide) ?_
  intro a1 hs1; clear hsl; have hsl := hs1; clear hs1
  refine ops_go rfl rfl (fun K hK => ?_)
  have e250 := hsl.get 250 _ rfl
  unfold Oper.wp
  go_simp
  clear e250
  refine hK _ _ ?_
  clear hK
  refine Sl.step (G := fun a => wpOps _ _ _ _ a _) hsl (by decide) ?_
  intro a1 hs1; clear hsl; have hsl := hs1; clear hs1
  refine alloc_rw (G := fun W => wpOps _ _ _ _ _ W) ?_
  intro v5 hz Xg4 hb; clear hz
  replace Xg0 := Xg0.below hb
  replace Xg1 := Xg1.below hb
  replace Xg2 := Xg2.below hb
  replace Xg3 := Xg3.below hb
  replace HB := HB.trans (hb.mono HB.size); clear hb
  generalize hg : v4.heap.size = g4 at Xg4 hsl; clear hg
  refine ops_go rfl rfl (fun K hK => ?_)
  have e241 := hsl.get 241 _ rfl
  have e243 := hsl.get 243 _ rfl
  have e246 := hsl.get 246 _ rfl
  have e249 := hsl.get 249 _ rfl
  have e251 := hsl.get 251 _ rfl
  unfold Oper.wp
  go_simp
  clear e241 e243 e246 e249 e251
  refine hK _ _ ?_
  clear hK
  refine Sl.step (G := fun a => wpOps _ _ _ _ a _) hsl (by decide) ?_
  intro a1 hs1; clear hsl; have hsl := hs1; clear hs1
  refine alloc_rw (G := fun W => wpOps _ _ _ _ _ W) ?_
  intro v6 hz Xgq hb; clear hz
  replace Xg0 := Xg0.below hb
  replace Xg1 := Xg1.below hb
  replace Xg2 := Xg2.below hb
  replace Xg3 := Xg3.below hb
  replace Xg4 := Xg4.below hb
  replace HB := HB.trans (hb.mono HB.size); clear hb
  generalize hg : v5.heap.size = gq at Xgq hsl; clear hg
  refine ops_go rfl rfl (fun K hK => ?_)
  unfold Oper.wp
  go_simp
  refine hK _ _ ?_
  clear hK
  refine Sl.step (G := fun a => wpOps _ _ _ _ a _) hsl (by decide) ?_
  intro a1 hs1; clear hsl; have hsl := hs1; clear hs1
  refine alloc_rw (G := fun W => wpOps _ _ _ _ _ W) ?_
  intro v7 hz Xgr hb; clear hz
  replace Xg0 := Xg0.below hb
  replace Xg1 := Xg1.below hb
  replace Xg2 := Xg2.below hb
  replace Xg3 := Xg3.below hb
  replace Xg4 := Xg4.below hb
  replace Xgq := Xgq.below hb
  replace HB := HB.trans (hb.mono HB.size); clear hb
  generalize hg : v6.heap.size = gr at Xgr hsl; clear hg
  refine ops_go rfl rfl (fun K hK => ?_)
  have e252 := hsl.get 252 _ rfl
  unfold Oper.wp
  go_simp
  clear e252
  refine hK _ _ ?_
  clear hK
  refine Sl.step (G := fun a => wpOps _ _ _ _ a _) hsl (by decide) ?_
  intro a1 hs1; clear hsl; have hsl := hs1; clear hs1
  refine ops_go rfl rfl (fun K hK => ?_)
  have e253 := hsl.get 253 _ rfl
  unfold Oper.wp
  go_simp
  clear e253
  refine hK _ _ ?_
  clear hK
  refine Sl.step (G := fun a => wpOps _ _ _ _ a _) hsl (by decide) ?_
  intro a1 hs1; clear hsl; have hsl := hs1; clear hs1
  refine ops_done ?_
  exact h _ _ _ _ _ _ _ _ _ ((hsl.nil.cons (hsl.get 21 _ rfl)).cons (hsl.get 20 _ rfl)) ⟨Xg0, Xg1, Xg2, Xg3, Xg4, Xgq, Xgr⟩ HB
set_option maxRecDepth 100000 in
set_option maxHeartbeats 4000000 in
theorem kr26 (w : World) (a : Act) (m : List (Nat × Value)) (hsl : Sl a 548 m) (rest : Code) (Q : Exit → Act → World → Prop) (h : ∀ (a' : Act), Sl a' 548 ([(22, .int .i64 0)] ++ m) → rest.wp Tryd.prog Q a' w) : (Code.seq (regionIn Tryd.f3 26) rest).wp Tryd.prog Q a w := by
  refine wp_seq ?_
  have e : regionIn Tryd.f3 26 = Code.region 26 _ false := rfl
  rw [e]; clear e
  refine wp_region ?_
  refine ops_go rfl rfl (fun K hK => ?_)
  unfold Oper.wp
  go_simp
  refine hK _ _ ?_
  clear hK
  refine Sl.step (G := fun a => wpOps _ _ _ _ a _) hsl (by decide) ?_
  intro a1 hs1; clear hsl; have hsl := hs1; clear hs1
  refine ops_done ?_
  exact h _ hsl
def V29a (gq gi : Nat) (j : Nat) (v : Value) (x : World) : Prop := match j with
  | 0 => ∃ g, v = exV g ∧ StripsAt x (some ⟨g, 0, none⟩) exRoads.strips
  | 1 => v = .agg #[.int .i64 10, .int .i64 6]
  | 2 => v = .slice (some ⟨gq, 0, none⟩) 5 5
  | 3 => v = .int .i64 0
  | 4 => v = .pointer (some ⟨gq, 0, none⟩)
  | 5 => v = .slice (some ⟨gi, 0, none⟩) 2 2
  | 6 => ∃ y c, v = .tuple #[.slice y 0 c, .int .i64 9]
  | 7 => ∃ y c, v = .tuple #[.slice y 0 c, .int .i64 9]
  | 8 => ∃ y c, v = .slice y 0 c
  | 9 => v = .int .i64 9
  | 10 => ∃ y c, v = .slice y 0 c
  | 11 => v = .int .i64 9
  | _ => True
theorem V29a_mono {gq gi : Nat} {x x2 : World} (hb : Below x.heap.size x x2) : ∀ (j : Nat) (v : Value), V29a gq gi j v x → V29a gq gi j v x2
  | 0, _, ⟨g, h1, h2⟩ => ⟨g, h1, h2.below hb⟩
  | 1, _, h => h
  | 2, _, h => h
  | 3, _, h => h
  | 4, _, h => h
  | 5, _, h => h
  | 6, _, h => h
  | 7, _, h => h
  | 8, _, h => h
  | 9, _, h => h
  | 10, _, h => h
  | 11, _, h => h
  | _ + 12, _, h => h
set_option maxRecDepth 100000 in
set_option maxHeartbeats 4000000 in
theorem kr29_0 (w : World) (g0 g1 g2 g3 g4 gq gr : Nat) (P : Plans w g0 g1 g2 g3 g4 gq gr) (a : Act) (hsl : Sl a 548 [(22, .int .i64 0), (20, .slice (some ⟨gq, 0, none⟩) 5 5), (21, .slice (some ⟨gr, 0, none⟩) 5 5)]) (rest : Code) (Q : Exit → Act → World → Prop) (h : ∀ (a' : Act) (w' : World), Sl a' 548 ([(24, .int .i64 9)] ++ [(22, .int .i64 0), (20, .slice (some ⟨gq, 0, none⟩) 5 5), (21, .slice (some ⟨gr, 0, none⟩) 5 5)]) → Below w.heap.size w w' → rest.wp Tryd.prog Q a' w') : (Code.seq (regionIn Tryd.f3 29) rest).wp Tryd.prog Q a w := by
  refine wp_seq ?_
  have e : regionIn Tryd.f3 29 = Code.region 29 _ true := rfl
  rw [e]; clear e
  refine wp_region_sl (by kernel_rfl) hsl [some 261, some 262, some 263, some 264, some 265, some 266, some 267, some 260, some 268, some 269, some 23, some 24] rfl rfl (by kernel_rfl) (V29a gq g0) (fun _ x => Below w.heap.size w x) (Below.refl _ _).drew ?_ ?_
  · intro k o hkl ho L a x hI hLk hsl hs hd
    have hlt : ∀ k : Nat, k < 12 → k = 0 ∨ k = 1 ∨ k = 2 ∨ k = 3 ∨ k = 4 ∨ k = 5 ∨ k = 6 ∨ k = 7 ∨ k = 8 ∨ k = 9 ∨ k = 10 ∨ k = 11 := by decide
    rcases hlt k hkl with rfl | rfl | rfl | rfl | rfl | rfl | rfl | rfl | rfl | rfl | rfl | rfl
    · obtain rfl := Option.some.inj ho
      clear hs hd
      refine wpOp_go rfl rfl (fun K hK => ?_)
      unfold Oper.wp
      go_simp
      refine (roads_any _).mono ?_
      rintro e x1 ⟨g, rfl, hstr, hb⟩
      exact hK _ _ ⟨_, rfl, ⟨g, rfl, hstr⟩, hI.trans (hb.mono hI.size), V29a_mono hb⟩
    · obtain rfl := Option.some.inj ho
      clear hs hd
      refine wpOp_go rfl rfl (fun K hK => ?_)
      unfold Oper.wp
      go_simp
      refine (slow_any _).mono ?_
      rintro e x1 ⟨rfl, hb⟩
      exact hK _ _ ⟨_, rfl, rfl, hI.trans (hb.mono hI.size), V29a_mono hb⟩
    · obtain rfl := Option.some.inj ho
      have e20 := hsl.get 20 _ rfl
      clear hs hd
      refine wpOp_go rfl rfl (fun K hK => ?_)
      unfold Oper.wp
      go_simp
      exact hK _ _ ⟨_, rfl, rfl, hI, fun _ _ h => h⟩
    · obtain rfl := Option.some.inj ho
      have e22 := hsl.get 22 _ rfl
      clear hs hd
      refine wpOp_go rfl rfl (fun K hK => ?_)
      unfold Oper.wp
      go_simp
      exact hK _ _ ⟨_, rfl, rfl, hI, fun _ _ h => h⟩
    · obtain rfl := Option.some.inj ho
      obtain ⟨v263, e263, hv263⟩ := hs 2 _ 263 rfl rfl (hd 2 (waits_mem (by kernel_rfl)))
      obtain rfl := hv263
      obtain ⟨v264, e264, hv264⟩ := hs 3 _ 264 rfl rfl (hd 3 (waits_mem (by kernel_rfl)))
      obtain rfl := hv264
      clear hs hd
      refine wpOp_go rfl rfl (fun K hK => ?_)
      unfold Oper.wp
      go_simp
      exact hK _ _ ⟨_, rfl, rfl, hI, fun _ _ h => h⟩
    · obtain rfl := Option.some.inj ho
      obtain ⟨v265, e265, hv265⟩ := hs 4 _ 265 rfl rfl (hd 4 (waits_mem (by kernel_rfl)))
      obtain rfl := hv265
      have z := (P.q.below hI).cell (o := 0) rfl
      clear hs hd
      refine wpOp_go rfl rfl (fun K hK => ?_)
      unfold Oper.wp
      go_simp
      exact hK _ _ ⟨_, rfl, rfl, hI, fun _ _ h => h⟩
    · obtain rfl := Option.some.inj ho
      obtain ⟨v261, e261, hv261⟩ := hs 0 _ 261 rfl rfl (hd 0 (waits_mem (by kernel_rfl)))
      obtain ⟨g, rfl, hstr⟩ := hv261
      obtain ⟨v262, e262, hv262⟩ := hs 1 _ 262 rfl rfl (hd 1 (waits_mem (by kernel_rfl)))
      obtain rfl := hv262
      obtain ⟨v266, e266, hv266⟩ := hs 5 _ 266 rfl rfl (hd 5 (waits_mem (by kernel_rfl)))
      obtain rfl := hv266
      clear hs hd
      refine wpOp_go rfl rfl (fun K hK => ?_)
      unfold Oper.wp
      go_simp
      refine (PlayK _ g hstr ⟨10, 6⟩ 0 (some ⟨g0, 0, none⟩) 2 [(0, 0), (1, 1)] (strides2 (P.p0.below hI)) (by decide) _ _ kPlay1).mono ?_
      rintro e x1 ⟨y, c, rfl, _, hb⟩
      exact hK _ _ ⟨_, rfl, ⟨y, c, rfl⟩, hI.trans (hb.mono hI.size), V29a_mono hb⟩
    · obtain rfl := Option.some.inj ho
      obtain ⟨v267, e267, hv267⟩ := hs 6 _ 267 rfl rfl (hd 6 (waits_mem (by kernel_rfl)))
      obtain ⟨y, c, rfl⟩ := hv267
      clear hs hd
      refine wpOp_go rfl rfl (fun K hK => ?_)
      unfold Oper.wp
      go_simp
      exact hK _ _ ⟨_, rfl, ⟨_, _, rfl⟩, hI, fun _ _ h => h⟩
    · obtain rfl := Option.some.inj ho
      obtain ⟨v260, e260, hv260⟩ := hs 7 _ 260 rfl rfl (hd 7 (waits_mem (by kernel_rfl)))
      obtain ⟨y, c, rfl⟩ := hv260
      clear hs hd
      refine wpOp_go rfl rfl (fun K hK => ?_)
      unfold Oper.wp
      go_simp
      exact hK _ _ ⟨_, rfl, ⟨_, _, rfl⟩, hI, fun _ _ h => h⟩
    · obtain rfl := Option.some.inj ho
      obtain ⟨v260, e260, hv260⟩ := hs 7 _ 260 rfl rfl (hd 7 (waits_mem (by kernel_rfl)))
      obtain ⟨y, c, rfl⟩ := hv260
      clear hs hd
      refine wpOp_go rfl rfl (fun K hK => ?_)
      unfold Oper.wp
      go_simp
      exact hK _ _ ⟨_, rfl, rfl, hI, fun _ _ h => h⟩
    · obtain rfl := Option.some.inj ho
      obtain ⟨v268, e268, hv268⟩ := hs 8 _ 268 rfl rfl (hd 8 (waits_mem (by kernel_rfl)))
      obtain ⟨y, c, rfl⟩ := hv268
      clear hs hd
      refine wpOp_go rfl rfl (fun K hK => ?_)
      unfold Oper.wp
      go_simp
      exact hK _ _ ⟨_, rfl, ⟨_, _, rfl⟩, hI, fun _ _ h => h⟩
    · obtain rfl := Option.some.inj ho
      obtain ⟨v269, e269, hv269⟩ := hs 9 _ 269 rfl rfl (hd 9 (waits_mem (by kernel_rfl)))
      obtain rfl := hv269
      clear hs hd
      refine wpOp_go rfl rfl (fun K hK => ?_)
      unfold Oper.wp
      go_simp
      exact hK _ _ ⟨_, rfl, rfl, hI, fun _ _ h => h⟩
  · intro L a x hall hI hsl hs
    obtain ⟨v24, e24, hv24⟩ := hs 11 _ 24 rfl rfl (hall 11 (by decide))
    obtain rfl := hv24
    exact h _ _ (hsl.cons e24) hI
def V29b (gq gi : Nat) (j : Nat) (v : Value) (x : World) : Prop := match j with
  | 0 => ∃ g, v = exV g ∧ StripsAt x (some ⟨g, 0, none⟩) exRoads.strips
  | 1 => v = .agg #[.int .i64 10, .int .i64 6]
  | 2 => v = .slice (some ⟨gq, 0, none⟩) 5 5
  | 3 => v = .int .i64 1
  | 4 => v = .pointer (some ⟨gq, 1, none⟩)
  | 5 => v = .slice (some ⟨gi, 0, none⟩) 1 1
  | 6 => ∃ y c, v = .tuple #[.slice y 0 c, .int .i64 12]
  | 7 => ∃ y c, v = .tuple #[.slice y 0 c, .int .i64 12]
  | 8 => ∃ y c, v = .slice y 0 c
  | 9 => v = .int .i64 12
  | 10 => ∃ y c, v = .slice y 0 c
  | 11 => v = .int .i64 12
  | _ => True
theorem V29b_mono {gq gi : Nat} {x x2 : World} (hb : Below x.heap.size x x2) : ∀ (j : Nat) (v : Value), V29b gq gi j v x → V29b gq gi j v x2
  | 0, _, ⟨g, h1, h2⟩ => ⟨g, h1, h2.below hb⟩
  | 1, _, h => h
  | 2, _, h => h
  | 3, _, h => h
  | 4, _, h => h
  | 5, _, h => h
  | 6, _, h => h
  | 7, _, h => h
  | 8, _, h => h
  | 9, _, h => h
  | 10, _, h => h
  | 11, _, h => h
  | _ + 12, _, h => h
set_option maxRecDepth 100000 in
set_option maxHeartbeats 4000000 in
theorem kr29_1 (w : World) (g0 g1 g2 g3 g4 gq gr : Nat) (P : Plans w g0 g1 g2 g3 g4 gq gr) (a : Act) (hsl : Sl a 548 [(22, .int .i64 1), (20, .slice (some ⟨gq, 0, none⟩) 5 5), (21, .slice (some ⟨gr, 0, none⟩) 5 5)]) (rest : Code) (Q : Exit → Act → World → Prop) (h : ∀ (a' : Act) (w' : World), Sl a' 548 ([(24, .int .i64 12)] ++ [(22, .int .i64 1), (20, .slice (some ⟨gq, 0, none⟩) 5 5), (21, .slice (some ⟨gr, 0, none⟩) 5 5)]) → Below w.heap.size w w' → rest.wp Tryd.prog Q a' w') : (Code.seq (regionIn Tryd.f3 29) rest).wp Tryd.prog Q a w := by
  refine wp_seq ?_
  have e : regionIn Tryd.f3 29 = Code.region 29 _ true := rfl
  rw [e]; clear e
  refine wp_region_sl (by kernel_rfl) hsl [some 261, some 262, some 263, some 264, some 265, some 266, some 267, some 260, some 268, some 269, some 23, some 24] rfl rfl (by kernel_rfl) (V29b gq g1) (fun _ x => Below w.heap.size w x) (Below.refl _ _).drew ?_ ?_
  · intro k o hkl ho L a x hI hLk hsl hs hd
    have hlt : ∀ k : Nat, k < 12 → k = 0 ∨ k = 1 ∨ k = 2 ∨ k = 3 ∨ k = 4 ∨ k = 5 ∨ k = 6 ∨ k = 7 ∨ k = 8 ∨ k = 9 ∨ k = 10 ∨ k = 11 := by decide
    rcases hlt k hkl with rfl | rfl | rfl | rfl | rfl | rfl | rfl | rfl | rfl | rfl | rfl | rfl
    · obtain rfl := Option.some.inj ho
      clear hs hd
      refine wpOp_go rfl rfl (fun K hK => ?_)
      unfold Oper.wp
      go_simp
      refine (roads_any _).mono ?_
      rintro e x1 ⟨g, rfl, hstr, hb⟩
      exact hK _ _ ⟨_, rfl, ⟨g, rfl, hstr⟩, hI.trans (hb.mono hI.size), V29b_mono hb⟩
    · obtain rfl := Option.some.inj ho
      clear hs hd
      refine wpOp_go rfl rfl (fun K hK => ?_)
      unfold Oper.wp
      go_simp
      refine (slow_any _).mono ?_
      rintro e x1 ⟨rfl, hb⟩
      exact hK _ _ ⟨_, rfl, rfl, hI.trans (hb.mono hI.size), V29b_mono hb⟩
    · obtain rfl := Option.some.inj ho
      have e20 := hsl.get 20 _ rfl
      clear hs hd
      refine wpOp_go rfl rfl (fun K hK => ?_)
      unfold Oper.wp
      go_simp
      exact hK _ _ ⟨_, rfl, rfl, hI, fun _ _ h => h⟩
    · obtain rfl := Option.some.inj ho
      have e22 := hsl.get 22 _ rfl
      clear hs hd
      refine wpOp_go rfl rfl (fun K hK => ?_)
      unfold Oper.wp
      go_simp
      exact hK _ _ ⟨_, rfl, rfl, hI, fun _ _ h => h⟩
    · obtain rfl := Option.some.inj ho
      obtain ⟨v263, e263, hv263⟩ := hs 2 _ 263 rfl rfl (hd 2 (waits_mem (by kernel_rfl)))
      obtain rfl := hv263
      obtain ⟨v264, e264, hv264⟩ := hs 3 _ 264 rfl rfl (hd 3 (waits_mem (by kernel_rfl)))
      obtain rfl := hv264
      clear hs hd
      refine wpOp_go rfl rfl (fun K hK => ?_)
      unfold Oper.wp
      go_simp
      exact hK _ _ ⟨_, rfl, rfl, hI, fun _ _ h => h⟩
    · obtain rfl := Option.some.inj ho
      obtain ⟨v265, e265, hv265⟩ := hs 4 _ 265 rfl rfl (hd 4 (waits_mem (by kernel_rfl)))
      obtain rfl := hv265
      have z := (P.q.below hI).cell (o := 1) rfl
      clear hs hd
      refine wpOp_go rfl rfl (fun K hK => ?_)
      unfold Oper.wp
      go_simp
      exact hK _ _ ⟨_, rfl, rfl, hI, fun _ _ h => h⟩
    · obtain rfl := Option.some.inj ho
      obtain ⟨v261, e261, hv261⟩ := hs 0 _ 261 rfl rfl (hd 0 (waits_mem (by kernel_rfl)))
      obtain ⟨g, rfl, hstr⟩ := hv261
      obtain ⟨v262, e262, hv262⟩ := hs 1 _ 262 rfl rfl (hd 1 (waits_mem (by kernel_rfl)))
      obtain rfl := hv262
      obtain ⟨v266, e266, hv266⟩ := hs 5 _ 266 rfl rfl (hd 5 (waits_mem (by kernel_rfl)))
      obtain rfl := hv266
      clear hs hd
      refine wpOp_go rfl rfl (fun K hK => ?_)
      unfold Oper.wp
      go_simp
      refine (PlayK _ g hstr ⟨10, 6⟩ 0 (some ⟨g1, 0, none⟩) 1 [(0, 1)] (strides1 (P.p1.below hI)) (by decide) _ _ kPlay2).mono ?_
      rintro e x1 ⟨y, c, rfl, _, hb⟩
      exact hK _ _ ⟨_, rfl, ⟨y, c, rfl⟩, hI.trans (hb.mono hI.size), V29b_mono hb⟩
    · obtain rfl := Option.some.inj ho
      obtain ⟨v267, e267, hv267⟩ := hs 6 _ 267 rfl rfl (hd 6 (waits_mem (by kernel_rfl)))
      obtain ⟨y, c, rfl⟩ := hv267
      clear hs hd
      refine wpOp_go rfl rfl (fun K hK => ?_)
      unfold Oper.wp
      go_simp
      exact hK _ _ ⟨_, rfl, ⟨_, _, rfl⟩, hI, fun _ _ h => h⟩
    · obtain rfl := Option.some.inj ho
      obtain ⟨v260, e260, hv260⟩ := hs 7 _ 260 rfl rfl (hd 7 (waits_mem (by kernel_rfl)))
      obtain ⟨y, c, rfl⟩ := hv260
      clear hs hd
      refine wpOp_go rfl rfl (fun K hK => ?_)
      unfold Oper.wp
      go_simp
      exact hK _ _ ⟨_, rfl, ⟨_, _, rfl⟩, hI, fun _ _ h => h⟩
    · obtain rfl := Option.some.inj ho
      obtain ⟨v260, e260, hv260⟩ := hs 7 _ 260 rfl rfl (hd 7 (waits_mem (by kernel_rfl)))
      obtain ⟨y, c, rfl⟩ := hv260
      clear hs hd
      refine wpOp_go rfl rfl (fun K hK => ?_)
      unfold Oper.wp
      go_simp
      exact hK _ _ ⟨_, rfl, rfl, hI, fun _ _ h => h⟩
    · obtain rfl := Option.some.inj ho
      obtain ⟨v268, e268, hv268⟩ := hs 8 _ 268 rfl rfl (hd 8 (waits_mem (by kernel_rfl)))
      obtain ⟨y, c, rfl⟩ := hv268
      clear hs hd
      refine wpOp_go rfl rfl (fun K hK => ?_)
      unfold Oper.wp
      go_simp
      exact hK _ _ ⟨_, rfl, ⟨_, _, rfl⟩, hI, fun _ _ h => h⟩
    · obtain rfl := Option.some.inj ho
      obtain ⟨v269, e269, hv269⟩ := hs 9 _ 269 rfl rfl (hd 9 (waits_mem (by kernel_rfl)))
      obtain rfl := hv269
      clear hs hd
      refine wpOp_go rfl rfl (fun K hK => ?_)
      unfold Oper.wp
      go_simp
      exact hK _ _ ⟨_, rfl, rfl, hI, fun _ _ h => h⟩
  · intro L a x hall hI hsl hs
    obtain ⟨v24, e24, hv24⟩ := hs 11 _ 24 rfl rfl (hall 11 (by decide))
    obtain rfl := hv24
    exact h _ _ (hsl.cons e24) hI
def V29c (gq gi : Nat) (j : Nat) (v : Value) (x : World) : Prop := match j with
  | 0 => ∃ g, v = exV g ∧ StripsAt x (some ⟨g, 0, none⟩) exRoads.strips
  | 1 => v = .agg #[.int .i64 10, .int .i64 6]
  | 2 => v = .slice (some ⟨gq, 0, none⟩) 5 5
  | 3 => v = .int .i64 2
  | 4 => v = .pointer (some ⟨gq, 2, none⟩)
  | 5 => v = .slice (some ⟨gi, 0, none⟩) 2 2
  | 6 => ∃ y c, v = .tuple #[.slice y 0 c, .int .i64 6]
  | 7 => ∃ y c, v = .tuple #[.slice y 0 c, .int .i64 6]
  | 8 => ∃ y c, v = .slice y 0 c
  | 9 => v = .int .i64 6
  | 10 => ∃ y c, v = .slice y 0 c
  | 11 => v = .int .i64 6
  | _ => True
theorem V29c_mono {gq gi : Nat} {x x2 : World} (hb : Below x.heap.size x x2) : ∀ (j : Nat) (v : Value), V29c gq gi j v x → V29c gq gi j v x2
  | 0, _, ⟨g, h1, h2⟩ => ⟨g, h1, h2.below hb⟩
  | 1, _, h => h
  | 2, _, h => h
  | 3, _, h => h
  | 4, _, h => h
  | 5, _, h => h
  | 6, _, h => h
  | 7, _, h => h
  | 8, _, h => h
  | 9, _, h => h
  | 10, _, h => h
  | 11, _, h => h
  | _ + 12, _, h => h
set_option maxRecDepth 100000 in
set_option maxHeartbeats 4000000 in
theorem kr29_2 (w : World) (g0 g1 g2 g3 g4 gq gr : Nat) (P : Plans w g0 g1 g2 g3 g4 gq gr) (a : Act) (hsl : Sl a 548 [(22, .int .i64 2), (20, .slice (some ⟨gq, 0, none⟩) 5 5), (21, .slice (some ⟨gr, 0, none⟩) 5 5)]) (rest : Code) (Q : Exit → Act → World → Prop) (h : ∀ (a' : Act) (w' : World), Sl a' 548 ([(24, .int .i64 6)] ++ [(22, .int .i64 2), (20, .slice (some ⟨gq, 0, none⟩) 5 5), (21, .slice (some ⟨gr, 0, none⟩) 5 5)]) → Below w.heap.size w w' → rest.wp Tryd.prog Q a' w') : (Code.seq (regionIn Tryd.f3 29) rest).wp Tryd.prog Q a w := by
  refine wp_seq ?_
  have e : regionIn Tryd.f3 29 = Code.region 29 _ true := rfl
  rw [e]; clear e
  refine wp_region_sl (by kernel_rfl) hsl [some 261, some 262, some 263, some 264, some 265, some 266, some 267, some 260, some 268, some 269, some 23, some 24] rfl rfl (by kernel_rfl) (V29c gq g2) (fun _ x => Below w.heap.size w x) (Below.refl _ _).drew ?_ ?_
  · intro k o hkl ho L a x hI hLk hsl hs hd
    have hlt : ∀ k : Nat, k < 12 → k = 0 ∨ k = 1 ∨ k = 2 ∨ k = 3 ∨ k = 4 ∨ k = 5 ∨ k = 6 ∨ k = 7 ∨ k = 8 ∨ k = 9 ∨ k = 10 ∨ k = 11 := by decide
    rcases hlt k hkl with rfl | rfl | rfl | rfl | rfl | rfl | rfl | rfl | rfl | rfl | rfl | rfl
    · obtain rfl := Option.some.inj ho
      clear hs hd
      refine wpOp_go rfl rfl (fun K hK => ?_)
      unfold Oper.wp
      go_simp
      refine (roads_any _).mono ?_
      rintro e x1 ⟨g, rfl, hstr, hb⟩
      exact hK _ _ ⟨_, rfl, ⟨g, rfl, hstr⟩, hI.trans (hb.mono hI.size), V29c_mono hb⟩
    · obtain rfl := Option.some.inj ho
      clear hs hd
      refine wpOp_go rfl rfl (fun K hK => ?_)
      unfold Oper.wp
      go_simp
      refine (slow_any _).mono ?_
      rintro e x1 ⟨rfl, hb⟩
      exact hK _ _ ⟨_, rfl, rfl, hI.trans (hb.mono hI.size), V29c_mono hb⟩
    · obtain rfl := Option.some.inj ho
      have e20 := hsl.get 20 _ rfl
      clear hs hd
      refine wpOp_go rfl rfl (fun K hK => ?_)
      unfold Oper.wp
      go_simp
      exact hK _ _ ⟨_, rfl, rfl, hI, fun _ _ h => h⟩
    · obtain rfl := Option.some.inj ho
      have e22 := hsl.get 22 _ rfl
      clear hs hd
      refine wpOp_go rfl rfl (fun K hK => ?_)
      unfold Oper.wp
      go_simp
      exact hK _ _ ⟨_, rfl, rfl, hI, fun _ _ h => h⟩
    · obtain rfl := Option.some.inj ho
      obtain ⟨v263, e263, hv263⟩ := hs 2 _ 263 rfl rfl (hd 2 (waits_mem (by kernel_rfl)))
      obtain rfl := hv263
      obtain ⟨v264, e264, hv264⟩ := hs 3 _ 264 rfl rfl (hd 3 (waits_mem (by kernel_rfl)))
      obtain rfl := hv264
      clear hs hd
      refine wpOp_go rfl rfl (fun K hK => ?_)
      unfold Oper.wp
      go_simp
      exact hK _ _ ⟨_, rfl, rfl, hI, fun _ _ h => h⟩
    · obtain rfl := Option.some.inj ho
      obtain ⟨v265, e265, hv265⟩ := hs 4 _ 265 rfl rfl (hd 4 (waits_mem (by kernel_rfl)))
      obtain rfl := hv265
      have z := (P.q.below hI).cell (o := 2) rfl
      clear hs hd
      refine wpOp_go rfl rfl (fun K hK => ?_)
      unfold Oper.wp
      go_simp
      exact hK _ _ ⟨_, rfl, rfl, hI, fun _ _ h => h⟩
    · obtain rfl := Option.some.inj ho
      obtain ⟨v261, e261, hv261⟩ := hs 0 _ 261 rfl rfl (hd 0 (waits_mem (by kernel_rfl)))
      obtain ⟨g, rfl, hstr⟩ := hv261
      obtain ⟨v262, e262, hv262⟩ := hs 1 _ 262 rfl rfl (hd 1 (waits_mem (by kernel_rfl)))
      obtain rfl := hv262
      obtain ⟨v266, e266, hv266⟩ := hs 5 _ 266 rfl rfl (hd 5 (waits_mem (by kernel_rfl)))
      obtain rfl := hv266
      clear hs hd
      refine wpOp_go rfl rfl (fun K hK => ?_)
      unfold Oper.wp
      go_simp
      refine (PlayK _ g hstr ⟨10, 6⟩ 0 (some ⟨g2, 0, none⟩) 2 [(0, 0), (0, 0)] (strides2 (P.p2.below hI)) (by decide) _ _ kPlay3).mono ?_
      rintro e x1 ⟨y, c, rfl, _, hb⟩
      exact hK _ _ ⟨_, rfl, ⟨y, c, rfl⟩, hI.trans (hb.mono hI.size), V29c_mono hb⟩
    · obtain rfl := Option.some.inj ho
      obtain ⟨v267, e267, hv267⟩ := hs 6 _ 267 rfl rfl (hd 6 (waits_mem (by kernel_rfl)))
      obtain ⟨y, c, rfl⟩ := hv267
      clear hs hd
      refine wpOp_go rfl rfl (fun K hK => ?_)
      unfold Oper.wp
      go_simp
      exact hK _ _ ⟨_, rfl, ⟨_, _, rfl⟩, hI, fun _ _ h => h⟩
    · obtain rfl := Option.some.inj ho
      obtain ⟨v260, e260, hv260⟩ := hs 7 _ 260 rfl rfl (hd 7 (waits_mem (by kernel_rfl)))
      obtain ⟨y, c, rfl⟩ := hv260
      clear hs hd
      refine wpOp_go rfl rfl (fun K hK => ?_)
      unfold Oper.wp
      go_simp
      exact hK _ _ ⟨_, rfl, ⟨_, _, rfl⟩, hI, fun _ _ h => h⟩
    · obtain rfl := Option.some.inj ho
      obtain ⟨v260, e260, hv260⟩ := hs 7 _ 260 rfl rfl (hd 7 (waits_mem (by kernel_rfl)))
      obtain ⟨y, c, rfl⟩ := hv260
      clear hs hd
      refine wpOp_go rfl rfl (fun K hK => ?_)
      unfold Oper.wp
      go_simp
      exact hK _ _ ⟨_, rfl, rfl, hI, fun _ _ h => h⟩
    · obtain rfl := Option.some.inj ho
      obtain ⟨v268, e268, hv268⟩ := hs 8 _ 268 rfl rfl (hd 8 (waits_mem (by kernel_rfl)))
      obtain ⟨y, c, rfl⟩ := hv268
      clear hs hd
      refine wpOp_go rfl rfl (fun K hK => ?_)
      unfold Oper.wp
      go_simp
      exact hK _ _ ⟨_, rfl, ⟨_, _, rfl⟩, hI, fun _ _ h => h⟩
    · obtain rfl := Option.some.inj ho
      obtain ⟨v269, e269, hv269⟩ := hs 9 _ 269 rfl rfl (hd 9 (waits_mem (by kernel_rfl)))
      obtain rfl := hv269
      clear hs hd
      refine wpOp_go rfl rfl (fun K hK => ?_)
      unfold Oper.wp
      go_simp
      exact hK _ _ ⟨_, rfl, rfl, hI, fun _ _ h => h⟩
  · intro L a x hall hI hsl hs
    obtain ⟨v24, e24, hv24⟩ := hs 11 _ 24 rfl rfl (hall 11 (by decide))
    obtain rfl := hv24
    exact h _ _ (hsl.cons e24) hI
def V29d (gq gi : Nat) (j : Nat) (v : Value) (x : World) : Prop := match j with
  | 0 => ∃ g, v = exV g ∧ StripsAt x (some ⟨g, 0, none⟩) exRoads.strips
  | 1 => v = .agg #[.int .i64 10, .int .i64 6]
  | 2 => v = .slice (some ⟨gq, 0, none⟩) 5 5
  | 3 => v = .int .i64 3
  | 4 => v = .pointer (some ⟨gq, 3, none⟩)
  | 5 => v = .slice (some ⟨gi, 0, none⟩) 2 2
  | 6 => ∃ y c, v = .tuple #[.slice y 0 c, .int .i64 5]
  | 7 => ∃ y c, v = .tuple #[.slice y 0 c, .int .i64 5]
  | 8 => ∃ y c, v = .slice y 0 c
  | 9 => v = .int .i64 5
  | 10 => ∃ y c, v = .slice y 0 c
  | 11 => v = .int .i64 5
  | _ => True
theorem V29d_mono {gq gi : Nat} {x x2 : World} (hb : Below x.heap.size x x2) : ∀ (j : Nat) (v : Value), V29d gq gi j v x → V29d gq gi j v x2
  | 0, _, ⟨g, h1, h2⟩ => ⟨g, h1, h2.below hb⟩
  | 1, _, h => h
  | 2, _, h => h
  | 3, _, h => h
  | 4, _, h => h
  | 5, _, h => h
  | 6, _, h => h
  | 7, _, h => h
  | 8, _, h => h
  | 9, _, h => h
  | 10, _, h => h
  | 11, _, h => h
  | _ + 12, _, h => h
set_option maxRecDepth 100000 in
set_option maxHeartbeats 4000000 in
theorem kr29_3 (w : World) (g0 g1 g2 g3 g4 gq gr : Nat) (P : Plans w g0 g1 g2 g3 g4 gq gr) (a : Act) (hsl : Sl a 548 [(22, .int .i64 3), (20, .slice (some ⟨gq, 0, none⟩) 5 5), (21, .slice (some ⟨gr, 0, none⟩) 5 5)]) (rest : Code) (Q : Exit → Act → World → Prop) (h : ∀ (a' : Act) (w' : World), Sl a' 548 ([(24, .int .i64 5)] ++ [(22, .int .i64 3), (20, .slice (some ⟨gq, 0, none⟩) 5 5), (21, .slice (some ⟨gr, 0, none⟩) 5 5)]) → Below w.heap.size w w' → rest.wp Tryd.prog Q a' w') : (Code.seq (regionIn Tryd.f3 29) rest).wp Tryd.prog Q a w := by
  refine wp_seq ?_
  have e : regionIn Tryd.f3 29 = Code.region 29 _ true := rfl
  rw [e]; clear e
  refine wp_region_sl (by kernel_rfl) hsl [some 261, some 262, some 263, some 264, some 265, some 266, some 267, some 260, some 268, some 269, some 23, some 24] rfl rfl (by kernel_rfl) (V29d gq g3) (fun _ x => Below w.heap.size w x) (Below.refl _ _).drew ?_ ?_
  · intro k o hkl ho L a x hI hLk hsl hs hd
    have hlt : ∀ k : Nat, k < 12 → k = 0 ∨ k = 1 ∨ k = 2 ∨ k = 3 ∨ k = 4 ∨ k = 5 ∨ k = 6 ∨ k = 7 ∨ k = 8 ∨ k = 9 ∨ k = 10 ∨ k = 11 := by decide
    rcases hlt k hkl with rfl | rfl | rfl | rfl | rfl | rfl | rfl | rfl | rfl | rfl | rfl | rfl
    · obtain rfl := Option.some.inj ho
      clear hs hd
      refine wpOp_go rfl rfl (fun K hK => ?_)
      unfold Oper.wp
      go_simp
      refine (roads_any _).mono ?_
      rintro e x1 ⟨g, rfl, hstr, hb⟩
      exact hK _ _ ⟨_, rfl, ⟨g, rfl, hstr⟩, hI.trans (hb.mono hI.size), V29d_mono hb⟩
    · obtain rfl := Option.some.inj ho
      clear hs hd
      refine wpOp_go rfl rfl (fun K hK => ?_)
      unfold Oper.wp
      go_simp
      refine (slow_any _).mono ?_
      rintro e x1 ⟨rfl, hb⟩
      exact hK _ _ ⟨_, rfl, rfl, hI.trans (hb.mono hI.size), V29d_mono hb⟩
    · obtain rfl := Option.some.inj ho
      have e20 := hsl.get 20 _ rfl
      clear hs hd
      refine wpOp_go rfl rfl (fun K hK => ?_)
      unfold Oper.wp
      go_simp
      exact hK _ _ ⟨_, rfl, rfl, hI, fun _ _ h => h⟩
    · obtain rfl := Option.some.inj ho
      have e22 := hsl.get 22 _ rfl
      clear hs hd
      refine wpOp_go rfl rfl (fun K hK => ?_)
      unfold Oper.wp
      go_simp
      exact hK _ _ ⟨_, rfl, rfl, hI, fun _ _ h => h⟩
    · obtain rfl := Option.some.inj ho
      obtain ⟨v263, e263, hv263⟩ := hs 2 _ 263 rfl rfl (hd 2 (waits_mem (by kernel_rfl)))
      obtain rfl := hv263
      obtain ⟨v264, e264, hv264⟩ := hs 3 _ 264 rfl rfl (hd 3 (waits_mem (by kernel_rfl)))
      obtain rfl := hv264
      clear hs hd
      refine wpOp_go rfl rfl (fun K hK => ?_)
      unfold Oper.wp
      go_simp
      exact hK _ _ ⟨_, rfl, rfl, hI, fun _ _ h => h⟩
    · obtain rfl := Option.some.inj ho
      obtain ⟨v265, e265, hv265⟩ := hs 4 _ 265 rfl rfl (hd 4 (waits_mem (by kernel_rfl)))
      obtain rfl := hv265
      have z := (P.q.below hI).cell (o := 3) rfl
      clear hs hd
      refine wpOp_go rfl rfl (fun K hK => ?_)
      unfold Oper.wp
      go_simp
      exact hK _ _ ⟨_, rfl, rfl, hI, fun _ _ h => h⟩
    · obtain rfl := Option.some.inj ho
      obtain ⟨v261, e261, hv261⟩ := hs 0 _ 261 rfl rfl (hd 0 (waits_mem (by kernel_rfl)))
      obtain ⟨g, rfl, hstr⟩ := hv261
      obtain ⟨v262, e262, hv262⟩ := hs 1 _ 262 rfl rfl (hd 1 (waits_mem (by kernel_rfl)))
      obtain rfl := hv262
      obtain ⟨v266, e266, hv266⟩ := hs 5 _ 266 rfl rfl (hd 5 (waits_mem (by kernel_rfl)))
      obtain rfl := hv266
      clear hs hd
      refine wpOp_go rfl rfl (fun K hK => ?_)
      unfold Oper.wp
      go_simp
      refine (PlayK _ g hstr ⟨10, 6⟩ 0 (some ⟨g3, 0, none⟩) 2 [(2, 0), (1, 0)] (strides2 (P.p3.below hI)) (by decide) _ _ kPlay4).mono ?_
      rintro e x1 ⟨y, c, rfl, _, hb⟩
      exact hK _ _ ⟨_, rfl, ⟨y, c, rfl⟩, hI.trans (hb.mono hI.size), V29d_mono hb⟩
    · obtain rfl := Option.some.inj ho
      obtain ⟨v267, e267, hv267⟩ := hs 6 _ 267 rfl rfl (hd 6 (waits_mem (by kernel_rfl)))
      obtain ⟨y, c, rfl⟩ := hv267
      clear hs hd
      refine wpOp_go rfl rfl (fun K hK => ?_)
      unfold Oper.wp
      go_simp
      exact hK _ _ ⟨_, rfl, ⟨_, _, rfl⟩, hI, fun _ _ h => h⟩
    · obtain rfl := Option.some.inj ho
      obtain ⟨v260, e260, hv260⟩ := hs 7 _ 260 rfl rfl (hd 7 (waits_mem (by kernel_rfl)))
      obtain ⟨y, c, rfl⟩ := hv260
      clear hs hd
      refine wpOp_go rfl rfl (fun K hK => ?_)
      unfold Oper.wp
      go_simp
      exact hK _ _ ⟨_, rfl, ⟨_, _, rfl⟩, hI, fun _ _ h => h⟩
    · obtain rfl := Option.some.inj ho
      obtain ⟨v260, e260, hv260⟩ := hs 7 _ 260 rfl rfl (hd 7 (waits_mem (by kernel_rfl)))
      obtain ⟨y, c, rfl⟩ := hv260
      clear hs hd
      refine wpOp_go rfl rfl (fun K hK => ?_)
      unfold Oper.wp
      go_simp
      exact hK _ _ ⟨_, rfl, rfl, hI, fun _ _ h => h⟩
    · obtain rfl := Option.some.inj ho
      obtain ⟨v268, e268, hv268⟩ := hs 8 _ 268 rfl rfl (hd 8 (waits_mem (by kernel_rfl)))
      obtain ⟨y, c, rfl⟩ := hv268
      clear hs hd
      refine wpOp_go rfl rfl (fun K hK => ?_)
      unfold Oper.wp
      go_simp
      exact hK _ _ ⟨_, rfl, ⟨_, _, rfl⟩, hI, fun _ _ h => h⟩
    · obtain rfl := Option.some.inj ho
      obtain ⟨v269, e269, hv269⟩ := hs 9 _ 269 rfl rfl (hd 9 (waits_mem (by kernel_rfl)))
      obtain rfl := hv269
      clear hs hd
      refine wpOp_go rfl rfl (fun K hK => ?_)
      unfold Oper.wp
      go_simp
      exact hK _ _ ⟨_, rfl, rfl, hI, fun _ _ h => h⟩
  · intro L a x hall hI hsl hs
    obtain ⟨v24, e24, hv24⟩ := hs 11 _ 24 rfl rfl (hall 11 (by decide))
    obtain rfl := hv24
    exact h _ _ (hsl.cons e24) hI
def V29e (gq gi : Nat) (j : Nat) (v : Value) (x : World) : Prop := match j with
  | 0 => ∃ g, v = exV g ∧ StripsAt x (some ⟨g, 0, none⟩) exRoads.strips
  | 1 => v = .agg #[.int .i64 10, .int .i64 6]
  | 2 => v = .slice (some ⟨gq, 0, none⟩) 5 5
  | 3 => v = .int .i64 4
  | 4 => v = .pointer (some ⟨gq, 4, none⟩)
  | 5 => v = .slice (some ⟨gi, 0, none⟩) 1 1
  | 6 => ∃ y c, v = .tuple #[.slice y 0 c, .int .i64 3]
  | 7 => ∃ y c, v = .tuple #[.slice y 0 c, .int .i64 3]
  | 8 => ∃ y c, v = .slice y 0 c
  | 9 => v = .int .i64 3
  | 10 => ∃ y c, v = .slice y 0 c
  | 11 => v = .int .i64 3
  | _ => True
theorem V29e_mono {gq gi : Nat} {x x2 : World} (hb : Below x.heap.size x x2) : ∀ (j : Nat) (v : Value), V29e gq gi j v x → V29e gq gi j v x2
  | 0, _, ⟨g, h1, h2⟩ => ⟨g, h1, h2.below hb⟩
  | 1, _, h => h
  | 2, _, h => h
  | 3, _, h => h
  | 4, _, h => h
  | 5, _, h => h
  | 6, _, h => h
  | 7, _, h => h
  | 8, _, h => h
  | 9, _, h => h
  | 10, _, h => h
  | 11, _, h => h
  | _ + 12, _, h => h
set_option maxRecDepth 100000 in
set_option maxHeartbeats 4000000 in
theorem kr29_4 (w : World) (g0 g1 g2 g3 g4 gq gr : Nat) (P : Plans w g0 g1 g2 g3 g4 gq gr) (a : Act) (hsl : Sl a 548 [(22, .int .i64 4), (20, .slice (some ⟨gq, 0, none⟩) 5 5), (21, .slice (some ⟨gr, 0, none⟩) 5 5)]) (rest : Code) (Q : Exit → Act → World → Prop) (h : ∀ (a' : Act) (w' : World), Sl a' 548 ([(24, .int .i64 3)] ++ [(22, .int .i64 4), (20, .slice (some ⟨gq, 0, none⟩) 5 5), (21, .slice (some ⟨gr, 0, none⟩) 5 5)]) → Below w.heap.size w w' → rest.wp Tryd.prog Q a' w') : (Code.seq (regionIn Tryd.f3 29) rest).wp Tryd.prog Q a w := by
  refine wp_seq ?_
  have e : regionIn Tryd.f3 29 = Code.region 29 _ true := rfl
  rw [e]; clear e
  refine wp_region_sl (by kernel_rfl) hsl [some 261, some 262, some 263, some 264, some 265, some 266, some 267, some 260, some 268, some 269, some 23, some 24] rfl rfl (by kernel_rfl) (V29e gq g4) (fun _ x => Below w.heap.size w x) (Below.refl _ _).drew ?_ ?_
  · intro k o hkl ho L a x hI hLk hsl hs hd
    have hlt : ∀ k : Nat, k < 12 → k = 0 ∨ k = 1 ∨ k = 2 ∨ k = 3 ∨ k = 4 ∨ k = 5 ∨ k = 6 ∨ k = 7 ∨ k = 8 ∨ k = 9 ∨ k = 10 ∨ k = 11 := by decide
    rcases hlt k hkl with rfl | rfl | rfl | rfl | rfl | rfl | rfl | rfl | rfl | rfl | rfl | rfl
    · obtain rfl := Option.some.inj ho
      clear hs hd
      refine wpOp_go rfl rfl (fun K hK => ?_)
      unfold Oper.wp
      go_simp
      refine (roads_any _).mono ?_
      rintro e x1 ⟨g, rfl, hstr, hb⟩
      exact hK _ _ ⟨_, rfl, ⟨g, rfl, hstr⟩, hI.trans (hb.mono hI.size), V29e_mono hb⟩
    · obtain rfl := Option.some.inj ho
      clear hs hd
      refine wpOp_go rfl rfl (fun K hK => ?_)
      unfold Oper.wp
      go_simp
      refine (slow_any _).mono ?_
      rintro e x1 ⟨rfl, hb⟩
      exact hK _ _ ⟨_, rfl, rfl, hI.trans (hb.mono hI.size), V29e_mono hb⟩
    · obtain rfl := Option.some.inj ho
      have e20 := hsl.get 20 _ rfl
      clear hs hd
      refine wpOp_go rfl rfl (fun K hK => ?_)
      unfold Oper.wp
      go_simp
      exact hK _ _ ⟨_, rfl, rfl, hI, fun _ _ h => h⟩
    · obtain rfl := Option.some.inj ho
      have e22 := hsl.get 22 _ rfl
      clear hs hd
      refine wpOp_go rfl rfl (fun K hK => ?_)
      unfold Oper.wp
      go_simp
      exact hK _ _ ⟨_, rfl, rfl, hI, fun _ _ h => h⟩
    · obtain rfl := Option.some.inj ho
      obtain ⟨v263, e263, hv263⟩ := hs 2 _ 263 rfl rfl (hd 2 (waits_mem (by kernel_rfl)))
      obtain rfl := hv263
      obtain ⟨v264, e264, hv264⟩ := hs 3 _ 264 rfl rfl (hd 3 (waits_mem (by kernel_rfl)))
      obtain rfl := hv264
      clear hs hd
      refine wpOp_go rfl rfl (fun K hK => ?_)
      unfold Oper.wp
      go_simp
      exact hK _ _ ⟨_, rfl, rfl, hI, fun _ _ h => h⟩
    · obtain rfl := Option.some.inj ho
      obtain ⟨v265, e265, hv265⟩ := hs 4 _ 265 rfl rfl (hd 4 (waits_mem (by kernel_rfl)))
      obtain rfl := hv265
      have z := (P.q.below hI).cell (o := 4) rfl
      clear hs hd
      refine wpOp_go rfl rfl (fun K hK => ?_)
      unfold Oper.wp
      go_simp
      exact hK _ _ ⟨_, rfl, rfl, hI, fun _ _ h => h⟩
    · obtain rfl := Option.some.inj ho
      obtain ⟨v261, e261, hv261⟩ := hs 0 _ 261 rfl rfl (hd 0 (waits_mem (by kernel_rfl)))
      obtain ⟨g, rfl, hstr⟩ := hv261
      obtain ⟨v262, e262, hv262⟩ := hs 1 _ 262 rfl rfl (hd 1 (waits_mem (by kernel_rfl)))
      obtain rfl := hv262
      obtain ⟨v266, e266, hv266⟩ := hs 5 _ 266 rfl rfl (hd 5 (waits_mem (by kernel_rfl)))
      obtain rfl := hv266
      clear hs hd
      refine wpOp_go rfl rfl (fun K hK => ?_)
      unfold Oper.wp
      go_simp
      refine (PlayK _ g hstr ⟨10, 6⟩ 0 (some ⟨g4, 0, none⟩) 1 [(0, 4)] (strides1 (P.p4.below hI)) (by decide) _ _ kPlay5).mono ?_
      rintro e x1 ⟨y, c, rfl, _, hb⟩
      exact hK _ _ ⟨_, rfl, ⟨y, c, rfl⟩, hI.trans (hb.mono hI.size), V29e_mono hb⟩
    · obtain rfl := Option.some.inj ho
      obtain ⟨v267, e267, hv267⟩ := hs 6 _ 267 rfl rfl (hd 6 (waits_mem (by kernel_rfl)))
      obtain ⟨y, c, rfl⟩ := hv267
      clear hs hd
      refine wpOp_go rfl rfl (fun K hK => ?_)
      unfold Oper.wp
      go_simp
      exact hK _ _ ⟨_, rfl, ⟨_, _, rfl⟩, hI, fun _ _ h => h⟩
    · obtain rfl := Option.some.inj ho
      obtain ⟨v260, e260, hv260⟩ := hs 7 _ 260 rfl rfl (hd 7 (waits_mem (by kernel_rfl)))
      obtain ⟨y, c, rfl⟩ := hv260
      clear hs hd
      refine wpOp_go rfl rfl (fun K hK => ?_)
      unfold Oper.wp
      go_simp
      exact hK _ _ ⟨_, rfl, ⟨_, _, rfl⟩, hI, fun _ _ h => h⟩
    · obtain rfl := Option.some.inj ho
      obtain ⟨v260, e260, hv260⟩ := hs 7 _ 260 rfl rfl (hd 7 (waits_mem (by kernel_rfl)))
      obtain ⟨y, c, rfl⟩ := hv260
      clear hs hd
      refine wpOp_go rfl rfl (fun K hK => ?_)
      unfold Oper.wp
      go_simp
      exact hK _ _ ⟨_, rfl, rfl, hI, fun _ _ h => h⟩
    · obtain rfl := Option.some.inj ho
      obtain ⟨v268, e268, hv268⟩ := hs 8 _ 268 rfl rfl (hd 8 (waits_mem (by kernel_rfl)))
      obtain ⟨y, c, rfl⟩ := hv268
      clear hs hd
      refine wpOp_go rfl rfl (fun K hK => ?_)
      unfold Oper.wp
      go_simp
      exact hK _ _ ⟨_, rfl, ⟨_, _, rfl⟩, hI, fun _ _ h => h⟩
    · obtain rfl := Option.some.inj ho
      obtain ⟨v269, e269, hv269⟩ := hs 9 _ 269 rfl rfl (hd 9 (waits_mem (by kernel_rfl)))
      obtain rfl := hv269
      clear hs hd
      refine wpOp_go rfl rfl (fun K hK => ?_)
      unfold Oper.wp
      go_simp
      exact hK _ _ ⟨_, rfl, rfl, hI, fun _ _ h => h⟩
  · intro L a x hall hI hsl hs
    obtain ⟨v24, e24, hv24⟩ := hs 11 _ 24 rfl rfl (hall 11 (by decide))
    obtain rfl := hv24
    exact h _ _ (hsl.cons e24) hI
set_option maxRecDepth 100000 in
set_option maxHeartbeats 4000000 in
theorem rd2_0 (w : World) (g0 g1 g2 g3 g4 gq gr : Nat) (P : Plans w g0 g1 g2 g3 g4 gq gr) (a : Act) (hsl : Sl a 548 [(22, .int .i64 0), (20, .slice (some ⟨gq, 0, none⟩) 5 5), (21, .slice (some ⟨gr, 0, none⟩) 5 5)]) (Q : Exit → Act → World → Prop) (h : ∀ (a' : Act) (w' : World), Sl a' 548 [(22, .int .i64 1), (20, .slice (some ⟨gq, 0, none⟩) 5 5), (21, .slice (some ⟨gr, 0, none⟩) 5 5)] → Below w.heap.size w w' → Q .normal a' w') : (Code.seq (Code.seq (regionIn Tryd.f3 27) (Code.cond (Operand.tmp 257) Code.skip (Code.exit 2))) (Code.seq (Code.block 3 (Code.seq (regionIn Tryd.f3 29) (Code.seq (regionIn Tryd.f3 30) (Code.cond (Operand.tmp 275) (Code.seq (regionIn Tryd.f3 31) Code.ret) Code.skip)))) (regionIn Tryd.f3 28))).wp Tryd.prog Q a w := by
  refine wp_seq ?_
  refine wp_seq ?_
  have e : regionIn Tryd.f3 27 = Code.region 27 _ false := rfl
  rw [e]; clear e
  refine wp_region ?_
  refine ops_go rfl rfl (fun K hK => ?_)
  have e22 := hsl.get 22 _ rfl
  unfold Oper.wp
  go_simp
  clear e22
  refine hK _ _ ?_
  clear hK
  refine Sl.step (G := fun a => wpOps _ _ _ _ a _) hsl (by decide) ?_
  intro a1 hs1; clear hsl; have hsl := hs1; clear hs1
  refine ops_go rfl rfl (fun K hK => ?_)
  have e20 := hsl.get 20 _ rfl
  unfold Oper.wp
  go_simp
  clear e20
  refine hK _ _ ?_
  clear hK
  refine Sl.step (G := fun a => wpOps _ _ _ _ a _) hsl (by decide) ?_
  intro a1 hs1; clear hsl; have hsl := hs1; clear hs1
  refine ops_go rfl rfl (fun K hK => ?_)
  have e255 := hsl.get 255 _ rfl
  unfold Oper.wp
  go_simp
  clear e255
  refine hK _ _ ?_
  clear hK
  refine Sl.step (G := fun a => wpOps _ _ _ _ a _) hsl (by decide) ?_
  intro a1 hs1; clear hsl; have hsl := hs1; clear hs1
  refine ops_go rfl rfl (fun K hK => ?_)
  have e254 := hsl.get 254 _ rfl
  have e256 := hsl.get 256 _ rfl
  unfold Oper.wp
  go_simp
  clear e254 e256
  refine hK _ _ ?_
  clear hK
  refine Sl.step (G := fun a => wpOps _ _ _ _ a _) hsl (by decide) ?_
  intro a1 hs1; clear hsl; have hsl := hs1; clear hs1
  refine ops_done ?_
  refine (show Code.wp Tryd.prog _ _ _ _ from ?_)
  refine wp_cond_true (hsl.ev 257 rfl) ?_
  refine wp_skip ?_
  refine (show Code.wp Tryd.prog _ _ _ _ from ?_)
  refine wp_seq ?_
  refine wp_block ?_
  refine kr29_0 w g0 g1 g2 g3 g4 gq gr P _ (((hsl.nil.cons (hsl.get 21 _ rfl)).cons (hsl.get 20 _ rfl)).cons (hsl.get 22 _ rfl)) _ _ ?_
  intro a2 w2 hs2 hb; clear hsl; have hsl := hs2; clear hs2
  have z := (P.r.below hb).cell (o := 0) rfl
  refine wp_seq ?_
  have e : regionIn Tryd.f3 30 = Code.region 30 _ false := rfl
  rw [e]; clear e
  refine wp_region ?_
  refine ops_go rfl rfl (fun K hK => ?_)
  have e24 := hsl.get 24 _ rfl
  unfold Oper.wp
  go_simp
  clear e24
  refine hK _ _ ?_
  clear hK
  refine Sl.step (G := fun a => wpOps _ _ _ _ a _) hsl (by decide) ?_
  intro a1 hs1; clear hsl; have hsl := hs1; clear hs1
  refine ops_go rfl rfl (fun K hK => ?_)
  have e21 := hsl.get 21 _ rfl
  unfold Oper.wp
  go_simp
  clear e21
  refine hK _ _ ?_
  clear hK
  refine Sl.step (G := fun a => wpOps _ _ _ _ a _) hsl (by decide) ?_
  intro a1 hs1; clear hsl; have hsl := hs1; clear hs1
  refine ops_go rfl rfl (fun K hK => ?_)
  have e22 := hsl.get 22 _ rfl
  unfold Oper.wp
  go_simp
  clear e22
  refine hK _ _ ?_
  clear hK
  refine Sl.step (G := fun a => wpOps _ _ _ _ a _) hsl (by decide) ?_
  intro a1 hs1; clear hsl; have hsl := hs1; clear hs1
  refine ops_go rfl rfl (fun K hK => ?_)
  have e271 := hsl.get 271 _ rfl
  have e272 := hsl.get 272 _ rfl
  unfold Oper.wp
  go_simp
  clear e271 e272
  refine hK _ _ ?_
  clear hK
  refine Sl.step (G := fun a => wpOps _ _ _ _ a _) hsl (by decide) ?_
  intro a1 hs1; clear hsl; have hsl := hs1; clear hs1
  refine ops_go rfl rfl (fun K hK => ?_)
  have e273 := hsl.get 273 _ rfl
  unfold Oper.wp
  go_simp
  clear e273
  refine hK _ _ ?_
  clear hK
  refine Sl.step (G := fun a => wpOps _ _ _ _ a _) hsl (by decide) ?_
  intro a1 hs1; clear hsl; have hsl := hs1; clear hs1
  refine ops_go rfl rfl (fun K hK => ?_)
  have e270 := hsl.get 270 _ rfl
  have e274 := hsl.get 274 _ rfl
  unfold Oper.wp
  go_simp
  clear e270 e274
  refine hK _ _ ?_
  clear hK
  refine Sl.step (G := fun a => wpOps _ _ _ _ a _) hsl (by decide) ?_
  intro a1 hs1; clear hsl; have hsl := hs1; clear hs1
  refine ops_done ?_
  refine (show Code.wp Tryd.prog _ _ _ _ from ?_)
  refine wp_cond_false (hsl.ev 275 rfl) ?_
  refine wp_skip ?_
  refine (show Code.wp Tryd.prog _ _ _ _ from ?_)
  have e : regionIn Tryd.f3 28 = Code.region 28 _ false := rfl
  rw [e]; clear e
  refine wp_region ?_
  refine ops_go rfl rfl (fun K hK => ?_)
  have e22 := hsl.get 22 _ rfl
  unfold Oper.wp
  go_simp
  clear e22
  refine hK _ _ ?_
  clear hK
  refine Sl.step (G := fun a => wpOps _ _ _ _ a _) hsl (by decide) ?_
  intro a1 hs1; clear hsl; have hsl := hs1; clear hs1
  refine ops_go rfl rfl (fun K hK => ?_)
  have e258 := hsl.get 258 _ rfl
  unfold Oper.wp
  go_simp
  clear e258
  refine hK _ _ ?_
  clear hK
  refine Sl.step (G := fun a => wpOps _ _ _ _ a _) hsl (by decide) ?_
  intro a1 hs1; clear hsl; have hsl := hs1; clear hs1
  refine ops_go rfl rfl (fun K hK => ?_)
  have e259 := hsl.get 259 _ rfl
  unfold Oper.wp
  go_simp
  clear e259
  refine hK _ _ ?_
  clear hK
  refine Sl.step (G := fun a => wpOps _ _ _ _ a _) hsl (by decide) ?_
  intro a1 hs1; clear hsl; have hsl := hs1; clear hs1
  refine ops_done ?_
  exact h _ _ (((hsl.nil.cons (hsl.get 21 _ rfl)).cons (hsl.get 20 _ rfl)).cons (hsl.get 22 _ rfl)) hb
set_option maxRecDepth 100000 in
set_option maxHeartbeats 4000000 in
theorem rd2_1 (w : World) (g0 g1 g2 g3 g4 gq gr : Nat) (P : Plans w g0 g1 g2 g3 g4 gq gr) (a : Act) (hsl : Sl a 548 [(22, .int .i64 1), (20, .slice (some ⟨gq, 0, none⟩) 5 5), (21, .slice (some ⟨gr, 0, none⟩) 5 5)]) (Q : Exit → Act → World → Prop) (h : ∀ (a' : Act) (w' : World), Sl a' 548 [(22, .int .i64 2), (20, .slice (some ⟨gq, 0, none⟩) 5 5), (21, .slice (some ⟨gr, 0, none⟩) 5 5)] → Below w.heap.size w w' → Q .normal a' w') : (Code.seq (Code.seq (regionIn Tryd.f3 27) (Code.cond (Operand.tmp 257) Code.skip (Code.exit 2))) (Code.seq (Code.block 3 (Code.seq (regionIn Tryd.f3 29) (Code.seq (regionIn Tryd.f3 30) (Code.cond (Operand.tmp 275) (Code.seq (regionIn Tryd.f3 31) Code.ret) Code.skip)))) (regionIn Tryd.f3 28))).wp Tryd.prog Q a w := by
  refine wp_seq ?_
  refine wp_seq ?_
  have e : regionIn Tryd.f3 27 = Code.region 27 _ false := rfl
  rw [e]; clear e
  refine wp_region ?_
  refine ops_go rfl rfl (fun K hK => ?_)
  have e22 := hsl.get 22 _ rfl
  unfold Oper.wp
  go_simp
  clear e22
  refine hK _ _ ?_
  clear hK
  refine Sl.step (G := fun a => wpOps _ _ _ _ a _) hsl (by decide) ?_
  intro a1 hs1; clear hsl; have hsl := hs1; clear hs1
  refine ops_go rfl rfl (fun K hK => ?_)
  have e20 := hsl.get 20 _ rfl
  unfold Oper.wp
  go_simp
  clear e20
  refine hK _ _ ?_
  clear hK
  refine Sl.step (G := fun a => wpOps _ _ _ _ a _) hsl (by decide) ?_
  intro a1 hs1; clear hsl; have hsl := hs1; clear hs1
  refine ops_go rfl rfl (fun K hK => ?_)
  have e255 := hsl.get 255 _ rfl
  unfold Oper.wp
  go_simp
  clear e255
  refine hK _ _ ?_
  clear hK
  refine Sl.step (G := fun a => wpOps _ _ _ _ a _) hsl (by decide) ?_
  intro a1 hs1; clear hsl; have hsl := hs1; clear hs1
  refine ops_go rfl rfl (fun K hK => ?_)
  have e254 := hsl.get 254 _ rfl
  have e256 := hsl.get 256 _ rfl
  unfold Oper.wp
  go_simp
  clear e254 e256
  refine hK _ _ ?_
  clear hK
  refine Sl.step (G := fun a => wpOps _ _ _ _ a _) hsl (by decide) ?_
  intro a1 hs1; clear hsl; have hsl := hs1; clear hs1
  refine ops_done ?_
  refine (show Code.wp Tryd.prog _ _ _ _ from ?_)
  refine wp_cond_true (hsl.ev 257 rfl) ?_
  refine wp_skip ?_
  refine (show Code.wp Tryd.prog _ _ _ _ from ?_)
  refine wp_seq ?_
  refine wp_block ?_
  refine kr29_1 w g0 g1 g2 g3 g4 gq gr P _ (((hsl.nil.cons (hsl.get 21 _ rfl)).cons (hsl.get 20 _ rfl)).cons (hsl.get 22 _ rfl)) _ _ ?_
  intro a2 w2 hs2 hb; clear hsl; have hsl := hs2; clear hs2
  have z := (P.r.below hb).cell (o := 1) rfl
  refine wp_seq ?_
  have e : regionIn Tryd.f3 30 = Code.region 30 _ false := rfl
  rw [e]; clear e
  refine wp_region ?_
  refine ops_go rfl rfl (fun K hK => ?_)
  have e24 := hsl.get 24 _ rfl
  unfold Oper.wp
  go_simp
  clear e24
  refine hK _ _ ?_
  clear hK
  refine Sl.step (G := fun a => wpOps _ _ _ _ a _) hsl (by decide) ?_
  intro a1 hs1; clear hsl; have hsl := hs1; clear hs1
  refine ops_go rfl rfl (fun K hK => ?_)
  have e21 := hsl.get 21 _ rfl
  unfold Oper.wp
  go_simp
  clear e21
  refine hK _ _ ?_
  clear hK
  refine Sl.step (G := fun a => wpOps _ _ _ _ a _) hsl (by decide) ?_
  intro a1 hs1; clear hsl; have hsl := hs1; clear hs1
  refine ops_go rfl rfl (fun K hK => ?_)
  have e22 := hsl.get 22 _ rfl
  unfold Oper.wp
  go_simp
  clear e22
  refine hK _ _ ?_
  clear hK
  refine Sl.step (G := fun a => wpOps _ _ _ _ a _) hsl (by decide) ?_
  intro a1 hs1; clear hsl; have hsl := hs1; clear hs1
  refine ops_go rfl rfl (fun K hK => ?_)
  have e271 := hsl.get 271 _ rfl
  have e272 := hsl.get 272 _ rfl
  unfold Oper.wp
  go_simp
  clear e271 e272
  refine hK _ _ ?_
  clear hK
  refine Sl.step (G := fun a => wpOps _ _ _ _ a _) hsl (by decide) ?_
  intro a1 hs1; clear hsl; have hsl := hs1; clear hs1
  refine ops_go rfl rfl (fun K hK => ?_)
  have e273 := hsl.get 273 _ rfl
  unfold Oper.wp
  go_simp
  clear e273
  refine hK _ _ ?_
  clear hK
  refine Sl.step (G := fun a => wpOps _ _ _ _ a _) hsl (by decide) ?_
  intro a1 hs1; clear hsl; have hsl := hs1; clear hs1
  refine ops_go rfl rfl (fun K hK => ?_)
  have e270 := hsl.get 270 _ rfl
  have e274 := hsl.get 274 _ rfl
  unfold Oper.wp
  go_simp
  clear e270 e274
  refine hK _ _ ?_
  clear hK
  refine Sl.step (G := fun a => wpOps _ _ _ _ a _) hsl (by decide) ?_
  intro a1 hs1; clear hsl; have hsl := hs1; clear hs1
  refine ops_done ?_
  refine (show Code.wp Tryd.prog _ _ _ _ from ?_)
  refine wp_cond_false (hsl.ev 275 rfl) ?_
  refine wp_skip ?_
  refine (show Code.wp Tryd.prog _ _ _ _ from ?_)
  have e : regionIn Tryd.f3 28 = Code.region 28 _ false := rfl
  rw [e]; clear e
  refine wp_region ?_
  refine ops_go rfl rfl (fun K hK => ?_)
  have e22 := hsl.get 22 _ rfl
  unfold Oper.wp
  go_simp
  clear e22
  refine hK _ _ ?_
  clear hK
  refine Sl.step (G := fun a => wpOps _ _ _ _ a _) hsl (by decide) ?_
  intro a1 hs1; clear hsl; have hsl := hs1; clear hs1
  refine ops_go rfl rfl (fun K hK => ?_)
  have e258 := hsl.get 258 _ rfl
  unfold Oper.wp
  go_simp
  clear e258
  refine hK _ _ ?_
  clear hK
  refine Sl.step (G := fun a => wpOps _ _ _ _ a _) hsl (by decide) ?_
  intro a1 hs1; clear hsl; have hsl := hs1; clear hs1
  refine ops_go rfl rfl (fun K hK => ?_)
  have e259 := hsl.get 259 _ rfl
  unfold Oper.wp
  go_simp
  clear e259
  refine hK _ _ ?_
  clear hK
  refine Sl.step (G := fun a => wpOps _ _ _ _ a _) hsl (by decide) ?_
  intro a1 hs1; clear hsl; have hsl := hs1; clear hs1
  refine ops_done ?_
  exact h _ _ (((hsl.nil.cons (hsl.get 21 _ rfl)).cons (hsl.get 20 _ rfl)).cons (hsl.get 22 _ rfl)) hb
set_option maxRecDepth 100000 in
set_option maxHeartbeats 4000000 in
theorem rd2_2 (w : World) (g0 g1 g2 g3 g4 gq gr : Nat) (P : Plans w g0 g1 g2 g3 g4 gq gr) (a : Act) (hsl : Sl a 548 [(22, .int .i64 2), (20, .slice (some ⟨gq, 0, none⟩) 5 5), (21, .slice (some ⟨gr, 0, none⟩) 5 5)]) (Q : Exit → Act → World → Prop) (h : ∀ (a' : Act) (w' : World), Sl a' 548 [(22, .int .i64 3), (20, .slice (some ⟨gq, 0, none⟩) 5 5), (21, .slice (some ⟨gr, 0, none⟩) 5 5)] → Below w.heap.size w w' → Q .normal a' w') : (Code.seq (Code.seq (regionIn Tryd.f3 27) (Code.cond (Operand.tmp 257) Code.skip (Code.exit 2))) (Code.seq (Code.block 3 (Code.seq (regionIn Tryd.f3 29) (Code.seq (regionIn Tryd.f3 30) (Code.cond (Operand.tmp 275) (Code.seq (regionIn Tryd.f3 31) Code.ret) Code.skip)))) (regionIn Tryd.f3 28))).wp Tryd.prog Q a w := by
  refine wp_seq ?_
  refine wp_seq ?_
  have e : regionIn Tryd.f3 27 = Code.region 27 _ false := rfl
  rw [e]; clear e
  refine wp_region ?_
  refine ops_go rfl rfl (fun K hK => ?_)
  have e22 := hsl.get 22 _ rfl
  unfold Oper.wp
  go_simp
  clear e22
  refine hK _ _ ?_
  clear hK
  refine Sl.step (G := fun a => wpOps _ _ _ _ a _) hsl (by decide) ?_
  intro a1 hs1; clear hsl; have hsl := hs1; clear hs1
  refine ops_go rfl rfl (fun K hK => ?_)
  have e20 := hsl.get 20 _ rfl
  unfold Oper.wp
  go_simp
  clear e20
  refine hK _ _ ?_
  clear hK
  refine Sl.step (G := fun a => wpOps _ _ _ _ a _) hsl (by decide) ?_
  intro a1 hs1; clear hsl; have hsl := hs1; clear hs1
  refine ops_go rfl rfl (fun K hK => ?_)
  have e255 := hsl.get 255 _ rfl
  unfold Oper.wp
  go_simp
  clear e255
  refine hK _ _ ?_
  clear hK
  refine Sl.step (G := fun a => wpOps _ _ _ _ a _) hsl (by decide) ?_
  intro a1 hs1; clear hsl; have hsl := hs1; clear hs1
  refine ops_go rfl rfl (fun K hK => ?_)
  have e254 := hsl.get 254 _ rfl
  have e256 := hsl.get 256 _ rfl
  unfold Oper.wp
  go_simp
  clear e254 e256
  refine hK _ _ ?_
  clear hK
  refine Sl.step (G := fun a => wpOps _ _ _ _ a _) hsl (by decide) ?_
  intro a1 hs1; clear hsl; have hsl := hs1; clear hs1
  refine ops_done ?_
  refine (show Code.wp Tryd.prog _ _ _ _ from ?_)
  refine wp_cond_true (hsl.ev 257 rfl) ?_
  refine wp_skip ?_
  refine (show Code.wp Tryd.prog _ _ _ _ from ?_)
  refine wp_seq ?_
  refine wp_block ?_
  refine kr29_2 w g0 g1 g2 g3 g4 gq gr P _ (((hsl.nil.cons (hsl.get 21 _ rfl)).cons (hsl.get 20 _ rfl)).cons (hsl.get 22 _ rfl)) _ _ ?_
  intro a2 w2 hs2 hb; clear hsl; have hsl := hs2; clear hs2
  have z := (P.r.below hb).cell (o := 2) rfl
  refine wp_seq ?_
  have e : regionIn Tryd.f3 30 = Code.region 30 _ false := rfl
  rw [e]; clear e
  refine wp_region ?_
  refine ops_go rfl rfl (fun K hK => ?_)
  have e24 := hsl.get 24 _ rfl
  unfold Oper.wp
  go_simp
  clear e24
  refine hK _ _ ?_
  clear hK
  refine Sl.step (G := fun a => wpOps _ _ _ _ a _) hsl (by decide) ?_
  intro a1 hs1; clear hsl; have hsl := hs1; clear hs1
  refine ops_go rfl rfl (fun K hK => ?_)
  have e21 := hsl.get 21 _ rfl
  unfold Oper.wp
  go_simp
  clear e21
  refine hK _ _ ?_
  clear hK
  refine Sl.step (G := fun a => wpOps _ _ _ _ a _) hsl (by decide) ?_
  intro a1 hs1; clear hsl; have hsl := hs1; clear hs1
  refine ops_go rfl rfl (fun K hK => ?_)
  have e22 := hsl.get 22 _ rfl
  unfold Oper.wp
  go_simp
  clear e22
  refine hK _ _ ?_
  clear hK
  refine Sl.step (G := fun a => wpOps _ _ _ _ a _) hsl (by decide) ?_
  intro a1 hs1; clear hsl; have hsl := hs1; clear hs1
  refine ops_go rfl rfl (fun K hK => ?_)
  have e271 := hsl.get 271 _ rfl
  have e272 := hsl.get 272 _ rfl
  unfold Oper.wp
  go_simp
  clear e271 e272
  refine hK _ _ ?_
  clear hK
  refine Sl.step (G := fun a => wpOps _ _ _ _ a _) hsl (by decide) ?_
  intro a1 hs1; clear hsl; have hsl := hs1; clear hs1
  refine ops_go rfl rfl (fun K hK => ?_)
  have e273 := hsl.get 273 _ rfl
  unfold Oper.wp
  go_simp
  clear e273
  refine hK _ _ ?_
  clear hK
  refine Sl.step (G := fun a => wpOps _ _ _ _ a _) hsl (by decide) ?_
  intro a1 hs1; clear hsl; have hsl := hs1; clear hs1
  refine ops_go rfl rfl (fun K hK => ?_)
  have e270 := hsl.get 270 _ rfl
  have e274 := hsl.get 274 _ rfl
  unfold Oper.wp
  go_simp
  clear e270 e274
  refine hK _ _ ?_
  clear hK
  refine Sl.step (G := fun a => wpOps _ _ _ _ a _) hsl (by decide) ?_
  intro a1 hs1; clear hsl; have hsl := hs1; clear hs1
  refine ops_done ?_
  refine (show Code.wp Tryd.prog _ _ _ _ from ?_)
  refine wp_cond_false (hsl.ev 275 rfl) ?_
  refine wp_skip ?_
  refine (show Code.wp Tryd.prog _ _ _ _ from ?_)
  have e : regionIn Tryd.f3 28 = Code.region 28 _ false := rfl
  rw [e]; clear e
  refine wp_region ?_
  refine ops_go rfl rfl (fun K hK => ?_)
  have e22 := hsl.get 22 _ rfl
  unfold Oper.wp
  go_simp
  clear e22
  refine hK _ _ ?_
  clear hK
  refine Sl.step (G := fun a => wpOps _ _ _ _ a _) hsl (by decide) ?_
  intro a1 hs1; clear hsl; have hsl := hs1; clear hs1
  refine ops_go rfl rfl (fun K hK => ?_)
  have e258 := hsl.get 258 _ rfl
  unfold Oper.wp
  go_simp
  clear e258
  refine hK _ _ ?_
  clear hK
  refine Sl.step (G := fun a => wpOps _ _ _ _ a _) hsl (by decide) ?_
  intro a1 hs1; clear hsl; have hsl := hs1; clear hs1
  refine ops_go rfl rfl (fun K hK => ?_)
  have e259 := hsl.get 259 _ rfl
  unfold Oper.wp
  go_simp
  clear e259
  refine hK _ _ ?_
  clear hK
  refine Sl.step (G := fun a => wpOps _ _ _ _ a _) hsl (by decide) ?_
  intro a1 hs1; clear hsl; have hsl := hs1; clear hs1
  refine ops_done ?_
  exact h _ _ (((hsl.nil.cons (hsl.get 21 _ rfl)).cons (hsl.get 20 _ rfl)).cons (hsl.get 22 _ rfl)) hb
set_option maxRecDepth 100000 in
set_option maxHeartbeats 4000000 in
theorem rd2_3 (w : World) (g0 g1 g2 g3 g4 gq gr : Nat) (P : Plans w g0 g1 g2 g3 g4 gq gr) (a : Act) (hsl : Sl a 548 [(22, .int .i64 3), (20, .slice (some ⟨gq, 0, none⟩) 5 5), (21, .slice (some ⟨gr, 0, none⟩) 5 5)]) (Q : Exit → Act → World → Prop) (h : ∀ (a' : Act) (w' : World), Sl a' 548 [(22, .int .i64 4), (20, .slice (some ⟨gq, 0, none⟩) 5 5), (21, .slice (some ⟨gr, 0, none⟩) 5 5)] → Below w.heap.size w w' → Q .normal a' w') : (Code.seq (Code.seq (regionIn Tryd.f3 27) (Code.cond (Operand.tmp 257) Code.skip (Code.exit 2))) (Code.seq (Code.block 3 (Code.seq (regionIn Tryd.f3 29) (Code.seq (regionIn Tryd.f3 30) (Code.cond (Operand.tmp 275) (Code.seq (regionIn Tryd.f3 31) Code.ret) Code.skip)))) (regionIn Tryd.f3 28))).wp Tryd.prog Q a w := by
  refine wp_seq ?_
  refine wp_seq ?_
  have e : regionIn Tryd.f3 27 = Code.region 27 _ false := rfl
  rw [e]; clear e
  refine wp_region ?_
  refine ops_go rfl rfl (fun K hK => ?_)
  have e22 := hsl.get 22 _ rfl
  unfold Oper.wp
  go_simp
  clear e22
  refine hK _ _ ?_
  clear hK
  refine Sl.step (G := fun a => wpOps _ _ _ _ a _) hsl (by decide) ?_
  intro a1 hs1; clear hsl; have hsl := hs1; clear hs1
  refine ops_go rfl rfl (fun K hK => ?_)
  have e20 := hsl.get 20 _ rfl
  unfold Oper.wp
  go_simp
  clear e20
  refine hK _ _ ?_
  clear hK
  refine Sl.step (G := fun a => wpOps _ _ _ _ a _) hsl (by decide) ?_
  intro a1 hs1; clear hsl; have hsl := hs1; clear hs1
  refine ops_go rfl rfl (fun K hK => ?_)
  have e255 := hsl.get 255 _ rfl
  unfold Oper.wp
  go_simp
  clear e255
  refine hK _ _ ?_
  clear hK
  refine Sl.step (G := fun a => wpOps _ _ _ _ a _) hsl (by decide) ?_
  intro a1 hs1; clear hsl; have hsl := hs1; clear hs1
  refine ops_go rfl rfl (fun K hK => ?_)
  have e254 := hsl.get 254 _ rfl
  have e256 := hsl.get 256 _ rfl
  unfold Oper.wp
  go_simp
  clear e254 e256
  refine hK _ _ ?_
  clear hK
  refine Sl.step (G := fun a => wpOps _ _ _ _ a _) hsl (by decide) ?_
  intro a1 hs1; clear hsl; have hsl := hs1; clear hs1
  refine ops_done ?_
  refine (show Code.wp Tryd.prog _ _ _ _ from ?_)
  refine wp_cond_true (hsl.ev 257 rfl) ?_
  refine wp_skip ?_
  refine (show Code.wp Tryd.prog _ _ _ _ from ?_)
  refine wp_seq ?_
  refine wp_block ?_
  refine kr29_3 w g0 g1 g2 g3 g4 gq gr P _ (((hsl.nil.cons (hsl.get 21 _ rfl)).cons (hsl.get 20 _ rfl)).cons (hsl.get 22 _ rfl)) _ _ ?_
  intro a2 w2 hs2 hb; clear hsl; have hsl := hs2; clear hs2
  have z := (P.r.below hb).cell (o := 3) rfl
  refine wp_seq ?_
  have e : regionIn Tryd.f3 30 = Code.region 30 _ false := rfl
  rw [e]; clear e
  refine wp_region ?_
  refine ops_go rfl rfl (fun K hK => ?_)
  have e24 := hsl.get 24 _ rfl
  unfold Oper.wp
  go_simp
  clear e24
  refine hK _ _ ?_
  clear hK
  refine Sl.step (G := fun a => wpOps _ _ _ _ a _) hsl (by decide) ?_
  intro a1 hs1; clear hsl; have hsl := hs1; clear hs1
  refine ops_go rfl rfl (fun K hK => ?_)
  have e21 := hsl.get 21 _ rfl
  unfold Oper.wp
  go_simp
  clear e21
  refine hK _ _ ?_
  clear hK
  refine Sl.step (G := fun a => wpOps _ _ _ _ a _) hsl (by decide) ?_
  intro a1 hs1; clear hsl; have hsl := hs1; clear hs1
  refine ops_go rfl rfl (fun K hK => ?_)
  have e22 := hsl.get 22 _ rfl
  unfold Oper.wp
  go_simp
  clear e22
  refine hK _ _ ?_
  clear hK
  refine Sl.step (G := fun a => wpOps _ _ _ _ a _) hsl (by decide) ?_
  intro a1 hs1; clear hsl; have hsl := hs1; clear hs1
  refine ops_go rfl rfl (fun K hK => ?_)
  have e271 := hsl.get 271 _ rfl
  have e272 := hsl.get 272 _ rfl
  unfold Oper.wp
  go_simp
  clear e271 e272
  refine hK _ _ ?_
  clear hK
  refine Sl.step (G := fun a => wpOps _ _ _ _ a _) hsl (by decide) ?_
  intro a1 hs1; clear hsl; have hsl := hs1; clear hs1
  refine ops_go rfl rfl (fun K hK => ?_)
  have e273 := hsl.get 273 _ rfl
  unfold Oper.wp
  go_simp
  clear e273
  refine hK _ _ ?_
  clear hK
  refine Sl.step (G := fun a => wpOps _ _ _ _ a _) hsl (by decide) ?_
  intro a1 hs1; clear hsl; have hsl := hs1; clear hs1
  refine ops_go rfl rfl (fun K hK => ?_)
  have e270 := hsl.get 270 _ rfl
  have e274 := hsl.get 274 _ rfl
  unfold Oper.wp
  go_simp
  clear e270 e274
  refine hK _ _ ?_
  clear hK
  refine Sl.step (G := fun a => wpOps _ _ _ _ a _) hsl (by decide) ?_
  intro a1 hs1; clear hsl; have hsl := hs1; clear hs1
  refine ops_done ?_
  refine (show Code.wp Tryd.prog _ _ _ _ from ?_)
  refine wp_cond_false (hsl.ev 275 rfl) ?_
  refine wp_skip ?_
  refine (show Code.wp Tryd.prog _ _ _ _ from ?_)
  have e : regionIn Tryd.f3 28 = Code.region 28 _ false := rfl
  rw [e]; clear e
  refine wp_region ?_
  refine ops_go rfl rfl (fun K hK => ?_)
  have e22 := hsl.get 22 _ rfl
  unfold Oper.wp
  go_simp
  clear e22
  refine hK _ _ ?_
  clear hK
  refine Sl.step (G := fun a => wpOps _ _ _ _ a _) hsl (by decide) ?_
  intro a1 hs1; clear hsl; have hsl := hs1; clear hs1
  refine ops_go rfl rfl (fun K hK => ?_)
  have e258 := hsl.get 258 _ rfl
  unfold Oper.wp
  go_simp
  clear e258
  refine hK _ _ ?_
  clear hK
  refine Sl.step (G := fun a => wpOps _ _ _ _ a _) hsl (by decide) ?_
  intro a1 hs1; clear hsl; have hsl := hs1; clear hs1
  refine ops_go rfl rfl (fun K hK => ?_)
  have e259 := hsl.get 259 _ rfl
  unfold Oper.wp
  go_simp
  clear e259
  refine hK _ _ ?_
  clear hK
  refine Sl.step (G := fun a => wpOps _ _ _ _ a _) hsl (by decide) ?_
  intro a1 hs1; clear hsl; have hsl := hs1; clear hs1
  refine ops_done ?_
  exact h _ _ (((hsl.nil.cons (hsl.get 21 _ rfl)).cons (hsl.get 20 _ rfl)).cons (hsl.get 22 _ rfl)) hb
set_option maxRecDepth 100000 in
set_option maxHeartbeats 4000000 in
theorem rd2_4 (w : World) (g0 g1 g2 g3 g4 gq gr : Nat) (P : Plans w g0 g1 g2 g3 g4 gq gr) (a : Act) (hsl : Sl a 548 [(22, .int .i64 4), (20, .slice (some ⟨gq, 0, none⟩) 5 5), (21, .slice (some ⟨gr, 0, none⟩) 5 5)]) (Q : Exit → Act → World → Prop) (h : ∀ (a' : Act) (w' : World), Sl a' 548 [(22, .int .i64 5), (20, .slice (some ⟨gq, 0, none⟩) 5 5), (21, .slice (some ⟨gr, 0, none⟩) 5 5)] → Below w.heap.size w w' → Q .normal a' w') : (Code.seq (Code.seq (regionIn Tryd.f3 27) (Code.cond (Operand.tmp 257) Code.skip (Code.exit 2))) (Code.seq (Code.block 3 (Code.seq (regionIn Tryd.f3 29) (Code.seq (regionIn Tryd.f3 30) (Code.cond (Operand.tmp 275) (Code.seq (regionIn Tryd.f3 31) Code.ret) Code.skip)))) (regionIn Tryd.f3 28))).wp Tryd.prog Q a w := by
  refine wp_seq ?_
  refine wp_seq ?_
  have e : regionIn Tryd.f3 27 = Code.region 27 _ false := rfl
  rw [e]; clear e
  refine wp_region ?_
  refine ops_go rfl rfl (fun K hK => ?_)
  have e22 := hsl.get 22 _ rfl
  unfold Oper.wp
  go_simp
  clear e22
  refine hK _ _ ?_
  clear hK
  refine Sl.step (G := fun a => wpOps _ _ _ _ a _) hsl (by decide) ?_
  intro a1 hs1; clear hsl; have hsl := hs1; clear hs1
  refine ops_go rfl rfl (fun K hK => ?_)
  have e20 := hsl.get 20 _ rfl
  unfold Oper.wp
  go_simp
  clear e20
  refine hK _ _ ?_
  clear hK
  refine Sl.step (G := fun a => wpOps _ _ _ _ a _) hsl (by decide) ?_
  intro a1 hs1; clear hsl; have hsl := hs1; clear hs1
  refine ops_go rfl rfl (fun K hK => ?_)
  have e255 := hsl.get 255 _ rfl
  unfold Oper.wp
  go_simp
  clear e255
  refine hK _ _ ?_
  clear hK
  refine Sl.step (G := fun a => wpOps _ _ _ _ a _) hsl (by decide) ?_
  intro a1 hs1; clear hsl; have hsl := hs1; clear hs1
  refine ops_go rfl rfl (fun K hK => ?_)
  have e254 := hsl.get 254 _ rfl
  have e256 := hsl.get 256 _ rfl
  unfold Oper.wp
  go_simp
  clear e254 e256
  refine hK _ _ ?_
  clear hK
  refine Sl.step (G := fun a => wpOps _ _ _ _ a _) hsl (by decide) ?_
  intro a1 hs1; clear hsl; have hsl := hs1; clear hs1
  refine ops_done ?_
  refine (show Code.wp Tryd.prog _ _ _ _ from ?_)
  refine wp_cond_true (hsl.ev 257 rfl) ?_
  refine wp_skip ?_
  refine (show Code.wp Tryd.prog _ _ _ _ from ?_)
  refine wp_seq ?_
  refine wp_block ?_
  refine kr29_4 w g0 g1 g2 g3 g4 gq gr P _ (((hsl.nil.cons (hsl.get 21 _ rfl)).cons (hsl.get 20 _ rfl)).cons (hsl.get 22 _ rfl)) _ _ ?_
  intro a2 w2 hs2 hb; clear hsl; have hsl := hs2; clear hs2
  have z := (P.r.below hb).cell (o := 4) rfl
  refine wp_seq ?_
  have e : regionIn Tryd.f3 30 = Code.region 30 _ false := rfl
  rw [e]; clear e
  refine wp_region ?_
  refine ops_go rfl rfl (fun K hK => ?_)
  have e24 := hsl.get 24 _ rfl
  unfold Oper.wp
  go_simp
  clear e24
  refine hK _ _ ?_
  clear hK
  refine Sl.step (G := fun a => wpOps _ _ _ _ a _) hsl (by decide) ?_
  intro a1 hs1; clear hsl; have hsl := hs1; clear hs1
  refine ops_go rfl rfl (fun K hK => ?_)
  have e21 := hsl.get 21 _ rfl
  unfold Oper.wp
  go_simp
  clear e21
  refine hK _ _ ?_
  clear hK
  refine Sl.step (G := fun a => wpOps _ _ _ _ a _) hsl (by decide) ?_
  intro a1 hs1; clear hsl; have hsl := hs1; clear hs1
  refine ops_go rfl rfl (fun K hK => ?_)
  have e22 := hsl.get 22 _ rfl
  unfold Oper.wp
  go_simp
  clear e22
  refine hK _ _ ?_
  clear hK
  refine Sl.step (G := fun a => wpOps _ _ _ _ a _) hsl (by decide) ?_
  intro a1 hs1; clear hsl; have hsl := hs1; clear hs1
  refine ops_go rfl rfl (fun K hK => ?_)
  have e271 := hsl.get 271 _ rfl
  have e272 := hsl.get 272 _ rfl
  unfold Oper.wp
  go_simp
  clear e271 e272
  refine hK _ _ ?_
  clear hK
  refine Sl.step (G := fun a => wpOps _ _ _ _ a _) hsl (by decide) ?_
  intro a1 hs1; clear hsl; have hsl := hs1; clear hs1
  refine ops_go rfl rfl (fun K hK => ?_)
  have e273 := hsl.get 273 _ rfl
  unfold Oper.wp
  go_simp
  clear e273
  refine hK _ _ ?_
  clear hK
  refine Sl.step (G := fun a => wpOps _ _ _ _ a _) hsl (by decide) ?_
  intro a1 hs1; clear hsl; have hsl := hs1; clear hs1
  refine ops_go rfl rfl (fun K hK => ?_)
  have e270 := hsl.get 270 _ rfl
  have e274 := hsl.get 274 _ rfl
  unfold Oper.wp
  go_simp
  clear e270 e274
  refine hK _ _ ?_
  clear hK
  refine Sl.step (G := fun a => wpOps _ _ _ _ a _) hsl (by decide) ?_
  intro a1 hs1; clear hsl; have hsl := hs1; clear hs1
  refine ops_done ?_
  refine (show Code.wp Tryd.prog _ _ _ _ from ?_)
  refine wp_cond_false (hsl.ev 275 rfl) ?_
  refine wp_skip ?_
  refine (show Code.wp Tryd.prog _ _ _ _ from ?_)
  have e : regionIn Tryd.f3 28 = Code.region 28 _ false := rfl
  rw [e]; clear e
  refine wp_region ?_
  refine ops_go rfl rfl (fun K hK => ?_)
  have e22 := hsl.get 22 _ rfl
  unfold Oper.wp
  go_simp
  clear e22
  refine hK _ _ ?_
  clear hK
  refine Sl.step (G := fun a => wpOps _ _ _ _ a _) hsl (by decide) ?_
  intro a1 hs1; clear hsl; have hsl := hs1; clear hs1
  refine ops_go rfl rfl (fun K hK => ?_)
  have e258 := hsl.get 258 _ rfl
  unfold Oper.wp
  go_simp
  clear e258
  refine hK _ _ ?_
  clear hK
  refine Sl.step (G := fun a => wpOps _ _ _ _ a _) hsl (by decide) ?_
  intro a1 hs1; clear hsl; have hsl := hs1; clear hs1
  refine ops_go rfl rfl (fun K hK => ?_)
  have e259 := hsl.get 259 _ rfl
  unfold Oper.wp
  go_simp
  clear e259
  refine hK _ _ ?_
  clear hK
  refine Sl.step (G := fun a => wpOps _ _ _ _ a _) hsl (by decide) ?_
  intro a1 hs1; clear hsl; have hsl := hs1; clear hs1
  refine ops_done ?_
  exact h _ _ (((hsl.nil.cons (hsl.get 21 _ rfl)).cons (hsl.get 20 _ rfl)).cons (hsl.get 22 _ rfl)) hb
set_option maxRecDepth 100000 in
set_option maxHeartbeats 4000000 in
theorem rd2_5 (w : World) (g0 g1 g2 g3 g4 gq gr : Nat) (P : Plans w g0 g1 g2 g3 g4 gq gr) (a : Act) (hsl : Sl a 548 [(22, .int .i64 5), (20, .slice (some ⟨gq, 0, none⟩) 5 5), (21, .slice (some ⟨gr, 0, none⟩) 5 5)]) (Q : Exit → Act → World → Prop) (h : ∀ (a' : Act) (w' : World), Sl a' 548 [] → Below w.heap.size w w' → Q (.exit 2) a' w') : (Code.seq (Code.seq (regionIn Tryd.f3 27) (Code.cond (Operand.tmp 257) Code.skip (Code.exit 2))) (Code.seq (Code.block 3 (Code.seq (regionIn Tryd.f3 29) (Code.seq (regionIn Tryd.f3 30) (Code.cond (Operand.tmp 275) (Code.seq (regionIn Tryd.f3 31) Code.ret) Code.skip)))) (regionIn Tryd.f3 28))).wp Tryd.prog Q a w := by
  refine wp_seq ?_
  refine wp_seq ?_
  have e : regionIn Tryd.f3 27 = Code.region 27 _ false := rfl
  rw [e]; clear e
  refine wp_region ?_
  refine ops_go rfl rfl (fun K hK => ?_)
  have e22 := hsl.get 22 _ rfl
  unfold Oper.wp
  go_simp
  clear e22
  refine hK _ _ ?_
  clear hK
  refine Sl.step (G := fun a => wpOps _ _ _ _ a _) hsl (by decide) ?_
  intro a1 hs1; clear hsl; have hsl := hs1; clear hs1
  refine ops_go rfl rfl (fun K hK => ?_)
  have e20 := hsl.get 20 _ rfl
  unfold Oper.wp
  go_simp
  clear e20
  refine hK _ _ ?_
  clear hK
  refine Sl.step (G := fun a => wpOps _ _ _ _ a _) hsl (by decide) ?_
  intro a1 hs1; clear hsl; have hsl := hs1; clear hs1
  refine ops_go rfl rfl (fun K hK => ?_)
  have e255 := hsl.get 255 _ rfl
  unfold Oper.wp
  go_simp
  clear e255
  refine hK _ _ ?_
  clear hK
  refine Sl.step (G := fun a => wpOps _ _ _ _ a _) hsl (by decide) ?_
  intro a1 hs1; clear hsl; have hsl := hs1; clear hs1
  refine ops_go rfl rfl (fun K hK => ?_)
  have e254 := hsl.get 254 _ rfl
  have e256 := hsl.get 256 _ rfl
  unfold Oper.wp
  go_simp
  clear e254 e256
  refine hK _ _ ?_
  clear hK
  refine Sl.step (G := fun a => wpOps _ _ _ _ a _) hsl (by decide) ?_
  intro a1 hs1; clear hsl; have hsl := hs1; clear hs1
  refine ops_done ?_
  refine (show Code.wp Tryd.prog _ _ _ _ from ?_)
  refine wp_cond_false (hsl.ev 257 rfl) ?_
  refine wp_exit ?_
  exact h _ _ hsl.nil (Below.refl _ _)
set_option maxRecDepth 100000 in
set_option maxHeartbeats 4000000 in
theorem seg31 (w : World) (a : Act) (hsl : Sl a 548 []) (rest : Code) (Q : Exit → Act → World → Prop) (h : ∀ (a' : Act) (w' : World), Sl a' 548 [] → Below w.heap.size w w' → rest.wp Tryd.prog Q a' w') : (Code.seq (regionIn Tryd.f3 25) (Code.seq (Code.seq (regionIn Tryd.f3 26) (Code.block 2 (Code.loop (Code.seq (Code.seq (regionIn Tryd.f3 27) (Code.cond (Operand.tmp 257) Code.skip (Code.exit 2))) (Code.seq (Code.block 3 (Code.seq (regionIn Tryd.f3 29) (Code.seq (regionIn Tryd.f3 30) (Code.cond (Operand.tmp 275) (Code.seq (regionIn Tryd.f3 31) Code.ret) Code.skip)))) (regionIn Tryd.f3 28)))))) rest)).wp Tryd.prog Q a w := by
  refine kr25 _ _ _ hsl _ _ ?_
  intro a1 w1 g0 g1 g2 g3 g4 gq gr hs1 P hb
  refine wp_seq ?_
  refine kr26 _ _ _ hs1 _ _ ?_
  intro a2 hs2
  refine wp_block ?_
  refine wp_loop_ghost (fun n a' w' => n ≤ 5 ∧ Below w1.heap.size w1 w' ∧ Sl a' 548 [(22, .int .i64 (5 - (n : Int))), (20, .slice (some ⟨gq, 0, none⟩) 5 5), (21, .slice (some ⟨gr, 0, none⟩) 5 5)]) 5 ⟨Nat.le_refl _, Below.refl _ _, ((hs2.nil.cons (hs2.get 21 _ rfl)).cons (hs2.get 20 _ rfl)).cons (hs2.get 22 _ rfl)⟩ ?_
  rintro n a3 w3 ⟨hn, hb3, hs3⟩
  have P3 := P.below hb3
  have h4 : n = 0 ∨ n = 1 ∨ n = 2 ∨ n = 3 ∨ n = 4 ∨ n = 5 := by omega
  rcases h4 with rfl | rfl | rfl | rfl | rfl | rfl
  · refine rd2_5 _ g0 g1 g2 g3 g4 gq gr P3 _ hs3 _ ?_
    intro a4 w4 hs4 hb4
    exact h _ _ hs4 (hb.trans ((hb3.trans (hb4.mono hb3.size)).mono hb.size))
  · refine rd2_4 _ g0 g1 g2 g3 g4 gq gr P3 _ hs3 _ ?_
    intro a4 w4 hs4 hb4
    exact ⟨0, by omega, by omega, hb3.trans (hb4.mono hb3.size), hs4⟩
  · refine rd2_3 _ g0 g1 g2 g3 g4 gq gr P3 _ hs3 _ ?_
    intro a4 w4 hs4 hb4
    exact ⟨1, by omega, by omega, hb3.trans (hb4.mono hb3.size), hs4⟩
  · refine rd2_2 _ g0 g1 g2 g3 g4 gq gr P3 _ hs3 _ ?_
    intro a4 w4 hs4 hb4
    exact ⟨2, by omega, by omega, hb3.trans (hb4.mono hb3.size), hs4⟩
  · refine rd2_1 _ g0 g1 g2 g3 g4 gq gr P3 _ hs3 _ ?_
    intro a4 w4 hs4 hb4
    exact ⟨3, by omega, by omega, hb3.trans (hb4.mono hb3.size), hs4⟩
  · refine rd2_0 _ g0 g1 g2 g3 g4 gq gr P3 _ hs3 _ ?_
    intro a4 w4 hs4 hb4
    exact ⟨4, by omega, by omega, hb3.trans (hb4.mono hb3.size), hs4⟩
end Go.Proofs.YtmkjeonjhedgkaaDoor
