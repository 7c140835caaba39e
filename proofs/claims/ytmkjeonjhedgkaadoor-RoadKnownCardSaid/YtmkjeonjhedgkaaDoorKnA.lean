/- Regions of RoadKnown, one by one. -/
import Derived.Test.YtmkjeonjhedgkaaDoorKnownK
import Derived.Test.YtmkjeonjhedgkaaDoorBig
namespace Go.Proofs.YtmkjeonjhedgkaaDoor
set_option linter.unusedSimpArgs false
set_option linter.unusedVariables false
open Go.RowKit

set_option maxRecDepth 100000 in
set_option maxHeartbeats 4000000 in
theorem kr13 (w : World) (a : Act) (m : List (Nat × Value)) (hsl : Sl a 548 m) (rest : Code) (Q : Exit → Act → World → Prop) (h : ∀ (a' : Act) (w' : World) (x : Option Addr) (y : Nat) (u109 u110 u111 u108 u112 u113 : Value), Sl a' 548 ([(13, .int .i64 0), (12, .slice x 1 y), (113, u113), (112, u112), (108, u108), (111, u111), (110, u110), (109, u109)] ++ m) → IntsAt w' x [2] → Below w.heap.size w w' → rest.wp Tryd.prog Q a' w') : (Code.seq (regionIn Tryd.f3 13) rest).wp Tryd.prog Q a w := by
  refine wp_seq ?_
  have e : regionIn Tryd.f3 13 = Code.region 13 _ false := rfl
  rw [e]; clear e
  refine wp_region ?_
  refine ops_go rfl rfl (fun K hK => ?_)
  unfold Oper.wp
  go_simp
  refine (roads_any _).mono ?_
  rintro e w1 ⟨g, rfl, hs, hb1⟩
  refine hK _ _ ?_
  clear hK
  refine Sl.step (G := fun a => wpOps _ _ _ _ a _) hsl (by decide) ?_
  intro a1 hs1; clear hsl; have hsl := hs1; clear hs1
  refine ops_go rfl rfl (fun K hK => ?_)
  unfold Oper.wp
  go_simp
  refine (slow_any _).mono ?_
  rintro e w2 ⟨rfl, hb2⟩
  replace hs := hs.below hb2
  replace hb1 := hb1.trans (hb2.mono hb1.size); clear hb2
  refine hK _ _ ?_
  clear hK
  refine Sl.step (G := fun a => wpOps _ _ _ _ a _) hsl (by decide) ?_
  intro a1 hs1; clear hsl; have hsl := hs1; clear hs1
  refine ops_go rfl rfl (fun K hK => ?_)
  have e109 := hsl.get 109 _ rfl
  have e110 := hsl.get 110 _ rfl
  unfold Oper.wp
  go_simp
  refine (kBars1 _ g hs).mono ?_
  rintro e w3 ⟨x, y, rfl, hi, hb⟩
  replace hb1 := hb1.trans (hb.mono hb1.size); clear hb hs
  clear e109 e110
  refine hK _ _ ?_
  clear hK
  refine Sl.step (G := fun a => wpOps _ _ _ _ a _) hsl (by decide) ?_
  intro a1 hs1; clear hsl; have hsl := hs1; clear hs1
  refine ops_go rfl rfl (fun K hK => ?_)
  have e111 := hsl.get 111 _ rfl
  unfold Oper.wp
  go_simp
  clear e111
  refine hK _ _ ?_
  clear hK
  refine Sl.step (G := fun a => wpOps _ _ _ _ a _) hsl (by decide) ?_
  intro a1 hs1; clear hsl; have hsl := hs1; clear hs1
  refine ops_go rfl rfl (fun K hK => ?_)
  have e108 := hsl.get 108 _ rfl
  unfold Oper.wp
  go_simp
  clear e108
  refine hK _ _ ?_
  clear hK
  refine Sl.step (G := fun a => wpOps _ _ _ _ a _) hsl (by decide) ?_
  intro a1 hs1; clear hsl; have hsl := hs1; clear hs1
  refine ops_go rfl rfl (fun K hK => ?_)
  have e108 := hsl.get 108 _ rfl
  unfold Oper.wp
  go_simp
  clear e108
  refine hK _ _ ?_
  clear hK
  refine Sl.step (G := fun a => wpOps _ _ _ _ a _) hsl (by decide) ?_
  intro a1 hs1; clear hsl; have hsl := hs1; clear hs1
  refine ops_go rfl rfl (fun K hK => ?_)
  have e112 := hsl.get 112 _ rfl
  unfold Oper.wp
  go_simp
  clear e112
  refine hK _ _ ?_
  clear hK
  refine Sl.step (G := fun a => wpOps _ _ _ _ a _) hsl (by decide) ?_
  intro a1 hs1; clear hsl; have hsl := hs1; clear hs1
  refine ops_go rfl rfl (fun K hK => ?_)
  have e113 := hsl.get 113 _ rfl
  unfold Oper.wp
  go_simp
  clear e113
  refine hK _ _ ?_
  clear hK
  refine Sl.step (G := fun a => wpOps _ _ _ _ a _) hsl (by decide) ?_
  intro a1 hs1; clear hsl; have hsl := hs1; clear hs1
  refine ops_done ?_
  exact h _ _ x y _ _ _ _ _ _ hsl hi hb1
set_option maxRecDepth 100000 in
set_option maxHeartbeats 4000000 in
theorem kr14 (w : World) (a : Act) (m : List (Nat × Value)) (hsl : Sl a 548 m) (rest : Code) (Q : Exit → Act → World → Prop) (h : ∀ (a' : Act) (w' : World) (x : Option Addr) (y : Nat) (u115 u116 u117 u114 u118 u119 : Value), Sl a' 548 ([(15, .int .i64 0), (14, .slice x 1 y), (119, u119), (118, u118), (114, u114), (117, u117), (116, u116), (115, u115)] ++ m) → IntsAt w' x [4] → Below w.heap.size w w' → rest.wp Tryd.prog Q a' w') : (Code.seq (regionIn Tryd.f3 14) rest).wp Tryd.prog Q a w := by
  refine wp_seq ?_
  have e : regionIn Tryd.f3 14 = Code.region 14 _ false := rfl
  rw [e]; clear e
  refine wp_region ?_
  refine ops_go rfl rfl (fun K hK => ?_)
  unfold Oper.wp
  go_simp
  refine (roads_any _).mono ?_
  rintro e w1 ⟨g, rfl, hs, hb1⟩
  refine hK _ _ ?_
  clear hK
  refine Sl.step (G := fun a => wpOps _ _ _ _ a _) hsl (by decide) ?_
  intro a1 hs1; clear hsl; have hsl := hs1; clear hs1
  refine ops_go rfl rfl (fun K hK => ?_)
  unfold Oper.wp
  go_simp
  refine (slow_any _).mono ?_
  rintro e w2 ⟨rfl, hb2⟩
  replace hs := hs.below hb2
  replace hb1 := hb1.trans (hb2.mono hb1.size); clear hb2
  refine hK _ _ ?_
  clear hK
  refine Sl.step (G := fun a => wpOps _ _ _ _ a _) hsl (by decide) ?_
  intro a1 hs1; clear hsl; have hsl := hs1; clear hs1
  refine ops_go rfl rfl (fun K hK => ?_)
  have e115 := hsl.get 115 _ rfl
  have e116 := hsl.get 116 _ rfl
  unfold Oper.wp
  go_simp
  refine (kBars2 _ g hs).mono ?_
  rintro e w3 ⟨x, y, rfl, hi, hb⟩
  replace hb1 := hb1.trans (hb.mono hb1.size); clear hb hs
  clear e115 e116
  refine hK _ _ ?_
  clear hK
  refine Sl.step (G := fun a => wpOps _ _ _ _ a _) hsl (by decide) ?_
  intro a1 hs1; clear hsl; have hsl := hs1; clear hs1
  refine ops_go rfl rfl (fun K hK => ?_)
  have e117 := hsl.get 117 _ rfl
  unfold Oper.wp
  go_simp
  clear e117
  refine hK _ _ ?_
  clear hK
  refine Sl.step (G := fun a => wpOps _ _ _ _ a _) hsl (by decide) ?_
  intro a1 hs1; clear hsl; have hsl := hs1; clear hs1
  refine ops_go rfl rfl (fun K hK => ?_)
  have e114 := hsl.get 114 _ rfl
  unfold Oper.wp
  go_simp
  clear e114
  refine hK _ _ ?_
  clear hK
  refine Sl.step (G := fun a => wpOps _ _ _ _ a _) hsl (by decide) ?_
  intro a1 hs1; clear hsl; have hsl := hs1; clear hs1
  refine ops_go rfl rfl (fun K hK => ?_)
  have e114 := hsl.get 114 _ rfl
  unfold Oper.wp
  go_simp
  clear e114
  refine hK _ _ ?_
  clear hK
  refine Sl.step (G := fun a => wpOps _ _ _ _ a _) hsl (by decide) ?_
  intro a1 hs1; clear hsl; have hsl := hs1; clear hs1
  refine ops_go rfl rfl (fun K hK => ?_)
  have e118 := hsl.get 118 _ rfl
  unfold Oper.wp
  go_simp
  clear e118
  refine hK _ _ ?_
  clear hK
  refine Sl.step (G := fun a => wpOps _ _ _ _ a _) hsl (by decide) ?_
  intro a1 hs1; clear hsl; have hsl := hs1; clear hs1
  refine ops_go rfl rfl (fun K hK => ?_)
  have e119 := hsl.get 119 _ rfl
  unfold Oper.wp
  go_simp
  clear e119
  refine hK _ _ ?_
  clear hK
  refine Sl.step (G := fun a => wpOps _ _ _ _ a _) hsl (by decide) ?_
  intro a1 hs1; clear hsl; have hsl := hs1; clear hs1
  refine ops_done ?_
  exact h _ _ x y _ _ _ _ _ _ hsl hi hb1
set_option maxRecDepth 100000 in
set_option maxHeartbeats 4000000 in
theorem kr15 (w : World) (a : Act) (m : List (Nat × Value)) (hsl : Sl a 548 m) (rest : Code) (Q : Exit → Act → World → Prop) (h : ∀ (a' : Act) (w' : World) (x : Option Addr) (y : Nat) (u121 u122 u123 u120 u124 u125 : Value), Sl a' 548 ([(17, .int .i64 0), (16, .slice x 1 y), (125, u125), (124, u124), (120, u120), (123, u123), (122, u122), (121, u121)] ++ m) → IntsAt w' x [5] → Below w.heap.size w w' → rest.wp Tryd.prog Q a' w') : (Code.seq (regionIn Tryd.f3 15) rest).wp Tryd.prog Q a w := by
  refine wp_seq ?_
  have e : regionIn Tryd.f3 15 = Code.region 15 _ false := rfl
  rw [e]; clear e
  refine wp_region ?_
  refine ops_go rfl rfl (fun K hK => ?_)
  unfold Oper.wp
  go_simp
  refine (roads_any _).mono ?_
  rintro e w1 ⟨g, rfl, hs, hb1⟩
  refine hK _ _ ?_
  clear hK
  refine Sl.step (G := fun a => wpOps _ _ _ _ a _) hsl (by decide) ?_
  intro a1 hs1; clear hsl; have hsl := hs1; clear hs1
  refine ops_go rfl rfl (fun K hK => ?_)
  unfold Oper.wp
  go_simp
  refine (slow_any _).mono ?_
  rintro e w2 ⟨rfl, hb2⟩
  replace hs := hs.below hb2
  replace hb1 := hb1.trans (hb2.mono hb1.size); clear hb2
  refine hK _ _ ?_
  clear hK
  refine Sl.step (G := fun a => wpOps _ _ _ _ a _) hsl (by decide) ?_
  intro a1 hs1; clear hsl; have hsl := hs1; clear hs1
  refine ops_go rfl rfl (fun K hK => ?_)
  have e121 := hsl.get 121 _ rfl
  have e122 := hsl.get 122 _ rfl
  unfold Oper.wp
  go_simp
  refine (kBars3 _ g hs).mono ?_
  rintro e w3 ⟨x, y, rfl, hi, hb⟩
  replace hb1 := hb1.trans (hb.mono hb1.size); clear hb hs
  clear e121 e122
  refine hK _ _ ?_
  clear hK
  refine Sl.step (G := fun a => wpOps _ _ _ _ a _) hsl (by decide) ?_
  intro a1 hs1; clear hsl; have hsl := hs1; clear hs1
  refine ops_go rfl rfl (fun K hK => ?_)
  have e123 := hsl.get 123 _ rfl
  unfold Oper.wp
  go_simp
  clear e123
  refine hK _ _ ?_
  clear hK
  refine Sl.step (G := fun a => wpOps _ _ _ _ a _) hsl (by decide) ?_
  intro a1 hs1; clear hsl; have hsl := hs1; clear hs1
  refine ops_go rfl rfl (fun K hK => ?_)
  have e120 := hsl.get 120 _ rfl
  unfold Oper.wp
  go_simp
  clear e120
  refine hK _ _ ?_
  clear hK
  refine Sl.step (G := fun a => wpOps _ _ _ _ a _) hsl (by decide) ?_
  intro a1 hs1; clear hsl; have hsl := hs1; clear hs1
  refine ops_go rfl rfl (fun K hK => ?_)
  have e120 := hsl.get 120 _ rfl
  unfold Oper.wp
  go_simp
  clear e120
  refine hK _ _ ?_
  clear hK
  refine Sl.step (G := fun a => wpOps _ _ _ _ a _) hsl (by decide) ?_
  intro a1 hs1; clear hsl; have hsl := hs1; clear hs1
  refine ops_go rfl rfl (fun K hK => ?_)
  have e124 := hsl.get 124 _ rfl
  unfold Oper.wp
  go_simp
  clear e124
  refine hK _ _ ?_
  clear hK
  refine Sl.step (G := fun a => wpOps _ _ _ _ a _) hsl (by decide) ?_
  intro a1 hs1; clear hsl; have hsl := hs1; clear hs1
  refine ops_go rfl rfl (fun K hK => ?_)
  have e125 := hsl.get 125 _ rfl
  unfold Oper.wp
  go_simp
  clear e125
  refine hK _ _ ?_
  clear hK
  refine Sl.step (G := fun a => wpOps _ _ _ _ a _) hsl (by decide) ?_
  intro a1 hs1; clear hsl; have hsl := hs1; clear hs1
  refine ops_done ?_
  exact h _ _ x y _ _ _ _ _ _ hsl hi hb1
set_option maxRecDepth 100000 in
set_option maxHeartbeats 4000000 in
theorem kr16 (w : World) (a : Act) (m : List (Nat × Value)) (hsl : Sl a 548 m) (rest : Code) (Q : Exit → Act → World → Prop) (h : ∀ (a' : Act) (w' : World) (x : Option Addr) (y : Nat) (u127 u128 u129 u126 u130 u131 : Value), Sl a' 548 ([(19, .int .i64 0), (18, .slice x 2 y), (131, u131), (130, u130), (126, u126), (129, u129), (128, u128), (127, u127)] ++ m) → IntsAt w' x [1, 3] → Below w.heap.size w w' → rest.wp Tryd.prog Q a' w') : (Code.seq (regionIn Tryd.f3 16) rest).wp Tryd.prog Q a w := by
  refine wp_seq ?_
  have e : regionIn Tryd.f3 16 = Code.region 16 _ false := rfl
  rw [e]; clear e
  refine wp_region ?_
  refine ops_go rfl rfl (fun K hK => ?_)
  unfold Oper.wp
  go_simp
  refine (roads_any _).mono ?_
  rintro e w1 ⟨g, rfl, hs, hb1⟩
  refine hK _ _ ?_
  clear hK
  refine Sl.step (G := fun a => wpOps _ _ _ _ a _) hsl (by decide) ?_
  intro a1 hs1; clear hsl; have hsl := hs1; clear hs1
  refine ops_go rfl rfl (fun K hK => ?_)
  unfold Oper.wp
  go_simp
  refine (flock_any _ 30 9).mono ?_
  rintro e w2 ⟨rfl, hb2⟩
  replace hs := hs.below hb2
  replace hb1 := hb1.trans (hb2.mono hb1.size); clear hb2
  refine hK _ _ ?_
  clear hK
  refine Sl.step (G := fun a => wpOps _ _ _ _ a _) hsl (by decide) ?_
  intro a1 hs1; clear hsl; have hsl := hs1; clear hs1
  refine ops_go rfl rfl (fun K hK => ?_)
  have e127 := hsl.get 127 _ rfl
  have e128 := hsl.get 128 _ rfl
  unfold Oper.wp
  go_simp
  refine (kBars4 _ g hs).mono ?_
  rintro e w3 ⟨x, y, rfl, hi, hb⟩
  replace hb1 := hb1.trans (hb.mono hb1.size); clear hb hs
  clear e127 e128
  refine hK _ _ ?_
  clear hK
  refine Sl.step (G := fun a => wpOps _ _ _ _ a _) hsl (by decide) ?_
  intro a1 hs1; clear hsl; have hsl := hs1; clear hs1
  refine ops_go rfl rfl (fun K hK => ?_)
  have e129 := hsl.get 129 _ rfl
  unfold Oper.wp
  go_simp
  clear e129
  refine hK _ _ ?_
  clear hK
  refine Sl.step (G := fun a => wpOps _ _ _ _ a _) hsl (by decide) ?_
  intro a1 hs1; clear hsl; have hsl := hs1; clear hs1
  refine ops_go rfl rfl (fun K hK => ?_)
  have e126 := hsl.get 126 _ rfl
  unfold Oper.wp
  go_simp
  clear e126
  refine hK _ _ ?_
  clear hK
  refine Sl.step (G := fun a => wpOps _ _ _ _ a _) hsl (by decide) ?_
  intro a1 hs1; clear hsl; have hsl := hs1; clear hs1
  refine ops_go rfl rfl (fun K hK => ?_)
  have e126 := hsl.get 126 _ rfl
  unfold Oper.wp
  go_simp
  clear e126
  refine hK _ _ ?_
  clear hK
  refine Sl.step (G := fun a => wpOps _ _ _ _ a _) hsl (by decide) ?_
  intro a1 hs1; clear hsl; have hsl := hs1; clear hs1
  refine ops_go rfl rfl (fun K hK => ?_)
  have e130 := hsl.get 130 _ rfl
  unfold Oper.wp
  go_simp
  clear e130
  refine hK _ _ ?_
  clear hK
  refine Sl.step (G := fun a => wpOps _ _ _ _ a _) hsl (by decide) ?_
  intro a1 hs1; clear hsl; have hsl := hs1; clear hs1
  refine ops_go rfl rfl (fun K hK => ?_)
  have e131 := hsl.get 131 _ rfl
  unfold Oper.wp
  go_simp
  clear e131
  refine hK _ _ ?_
  clear hK
  refine Sl.step (G := fun a => wpOps _ _ _ _ a _) hsl (by decide) ?_
  intro a1 hs1; clear hsl; have hsl := hs1; clear hs1
  refine ops_done ?_
  exact h _ _ x y _ _ _ _ _ _ hsl hi hb1
set_option maxRecDepth 100000 in
set_option maxHeartbeats 4000000 in
theorem kr19 (w : World) (a : Act) (m : List (Nat × Value)) (hsl : Sl a 548 m) (rest : Code) (Q : Exit → Act → World → Prop) (h : ∀ (a' : Act) (w' : World) (x : Option Addr) (y : Nat) (u175 u176 u177 u174 u178 u179 : Value), Sl a' 548 ([(11, .int .i64 0), (12, .slice x 3 y), (179, u179), (178, u178), (174, u174), (177, u177), (176, u176), (175, u175)] ++ m) → IntsAt w' x [2, 3, 4] → Below w.heap.size w w' → rest.wp Tryd.prog Q a' w') : (Code.seq (regionIn Tryd.f3 19) rest).wp Tryd.prog Q a w := by
  refine wp_seq ?_
  have e : regionIn Tryd.f3 19 = Code.region 19 _ false := rfl
  rw [e]; clear e
  refine wp_region ?_
  refine ops_go rfl rfl (fun K hK => ?_)
  unfold Oper.wp
  go_simp
  refine (roads_any _).mono ?_
  rintro e w1 ⟨g, rfl, hs, hb1⟩
  refine hK _ _ ?_
  clear hK
  refine Sl.step (G := fun a => wpOps _ _ _ _ a _) hsl (by decide) ?_
  intro a1 hs1; clear hsl; have hsl := hs1; clear hs1
  refine ops_go rfl rfl (fun K hK => ?_)
  unfold Oper.wp
  go_simp
  refine (slow_any _).mono ?_
  rintro e w2 ⟨rfl, hb2⟩
  replace hs := hs.below hb2
  replace hb1 := hb1.trans (hb2.mono hb1.size); clear hb2
  refine hK _ _ ?_
  clear hK
  refine Sl.step (G := fun a => wpOps _ _ _ _ a _) hsl (by decide) ?_
  intro a1 hs1; clear hsl; have hsl := hs1; clear hs1
  refine ops_go rfl rfl (fun K hK => ?_)
  have e175 := hsl.get 175 _ rfl
  have e176 := hsl.get 176 _ rfl
  unfold Oper.wp
  go_simp
  refine (kDays1 _ g hs).mono ?_
  rintro e w3 ⟨x, y, rfl, hi, hb⟩
  replace hb1 := hb1.trans (hb.mono hb1.size); clear hb hs
  clear e175 e176
  refine hK _ _ ?_
  clear hK
  refine Sl.step (G := fun a => wpOps _ _ _ _ a _) hsl (by decide) ?_
  intro a1 hs1; clear hsl; have hsl := hs1; clear hs1
  refine ops_go rfl rfl (fun K hK => ?_)
  have e177 := hsl.get 177 _ rfl
  unfold Oper.wp
  go_simp
  clear e177
  refine hK _ _ ?_
  clear hK
  refine Sl.step (G := fun a => wpOps _ _ _ _ a _) hsl (by decide) ?_
  intro a1 hs1; clear hsl; have hsl := hs1; clear hs1
  refine ops_go rfl rfl (fun K hK => ?_)
  have e174 := hsl.get 174 _ rfl
  unfold Oper.wp
  go_simp
  clear e174
  refine hK _ _ ?_
  clear hK
  refine Sl.step (G := fun a => wpOps _ _ _ _ a _) hsl (by decide) ?_
  intro a1 hs1; clear hsl; have hsl := hs1; clear hs1
  refine ops_go rfl rfl (fun K hK => ?_)
  have e174 := hsl.get 174 _ rfl
  unfold Oper.wp
  go_simp
  clear e174
  refine hK _ _ ?_
  clear hK
  refine Sl.step (G := fun a => wpOps _ _ _ _ a _) hsl (by decide) ?_
  intro a1 hs1; clear hsl; have hsl := hs1; clear hs1
  refine ops_go rfl rfl (fun K hK => ?_)
  have e178 := hsl.get 178 _ rfl
  unfold Oper.wp
  go_simp
  clear e178
  refine hK _ _ ?_
  clear hK
  refine Sl.step (G := fun a => wpOps _ _ _ _ a _) hsl (by decide) ?_
  intro a1 hs1; clear hsl; have hsl := hs1; clear hs1
  refine ops_go rfl rfl (fun K hK => ?_)
  have e179 := hsl.get 179 _ rfl
  unfold Oper.wp
  go_simp
  clear e179
  refine hK _ _ ?_
  clear hK
  refine Sl.step (G := fun a => wpOps _ _ _ _ a _) hsl (by decide) ?_
  intro a1 hs1; clear hsl; have hsl := hs1; clear hs1
  refine ops_done ?_
  exact h _ _ x y _ _ _ _ _ _ hsl hi hb1
set_option maxRecDepth 100000 in
set_option maxHeartbeats 4000000 in
theorem kr20 (w : World) (a : Act) (m : List (Nat × Value)) (hsl : Sl a 548 m) (rest : Code) (Q : Exit → Act → World → Prop) (h : ∀ (a' : Act) (w' : World) (x : Option Addr) (y : Nat) (u181 u182 u183 u180 u184 u185 : Value), Sl a' 548 ([(13, .int .i64 0), (14, .slice x 4 y), (185, u185), (184, u184), (180, u180), (183, u183), (182, u182), (181, u181)] ++ m) → IntsAt w' x [2, 3, 4, 5] → Below w.heap.size w w' → rest.wp Tryd.prog Q a' w') : (Code.seq (regionIn Tryd.f3 20) rest).wp Tryd.prog Q a w := by
  refine wp_seq ?_
  have e : regionIn Tryd.f3 20 = Code.region 20 _ false := rfl
  rw [e]; clear e
  refine wp_region ?_
  refine ops_go rfl rfl (fun K hK => ?_)
  unfold Oper.wp
  go_simp
  refine (roads_any _).mono ?_
  rintro e w1 ⟨g, rfl, hs, hb1⟩
  refine hK _ _ ?_
  clear hK
  refine Sl.step (G := fun a => wpOps _ _ _ _ a _) hsl (by decide) ?_
  intro a1 hs1; clear hsl; have hsl := hs1; clear hs1
  refine ops_go rfl rfl (fun K hK => ?_)
  unfold Oper.wp
  go_simp
  refine (slow_any _).mono ?_
  rintro e w2 ⟨rfl, hb2⟩
  replace hs := hs.below hb2
  replace hb1 := hb1.trans (hb2.mono hb1.size); clear hb2
  refine hK _ _ ?_
  clear hK
  refine Sl.step (G := fun a => wpOps _ _ _ _ a _) hsl (by decide) ?_
  intro a1 hs1; clear hsl; have hsl := hs1; clear hs1
  refine ops_go rfl rfl (fun K hK => ?_)
  have e181 := hsl.get 181 _ rfl
  have e182 := hsl.get 182 _ rfl
  unfold Oper.wp
  go_simp
  refine (kDays2 _ g hs).mono ?_
  rintro e w3 ⟨x, y, rfl, hi, hb⟩
  replace hb1 := hb1.trans (hb.mono hb1.size); clear hb hs
  clear e181 e182
  refine hK _ _ ?_
  clear hK
  refine Sl.step (G := fun a => wpOps _ _ _ _ a _) hsl (by decide) ?_
  intro a1 hs1; clear hsl; have hsl := hs1; clear hs1
  refine ops_go rfl rfl (fun K hK => ?_)
  have e183 := hsl.get 183 _ rfl
  unfold Oper.wp
  go_simp
  clear e183
  refine hK _ _ ?_
  clear hK
  refine Sl.step (G := fun a => wpOps _ _ _ _ a _) hsl (by decide) ?_
  intro a1 hs1; clear hsl; have hsl := hs1; clear hs1
  refine ops_go rfl rfl (fun K hK => ?_)
  have e180 := hsl.get 180 _ rfl
  unfold Oper.wp
  go_simp
  clear e180
  refine hK _ _ ?_
  clear hK
  refine Sl.step (G := fun a => wpOps _ _ _ _ a _) hsl (by decide) ?_
  intro a1 hs1; clear hsl; have hsl := hs1; clear hs1
  refine ops_go rfl rfl (fun K hK => ?_)
  have e180 := hsl.get 180 _ rfl
  unfold Oper.wp
  go_simp
  clear e180
  refine hK _ _ ?_
  clear hK
  refine Sl.step (G := fun a => wpOps _ _ _ _ a _) hsl (by decide) ?_
  intro a1 hs1; clear hsl; have hsl := hs1; clear hs1
  refine ops_go rfl rfl (fun K hK => ?_)
  have e184 := hsl.get 184 _ rfl
  unfold Oper.wp
  go_simp
  clear e184
  refine hK _ _ ?_
  clear hK
  refine Sl.step (G := fun a => wpOps _ _ _ _ a _) hsl (by decide) ?_
  intro a1 hs1; clear hsl; have hsl := hs1; clear hs1
  refine ops_go rfl rfl (fun K hK => ?_)
  have e185 := hsl.get 185 _ rfl
  unfold Oper.wp
  go_simp
  clear e185
  refine hK _ _ ?_
  clear hK
  refine Sl.step (G := fun a => wpOps _ _ _ _ a _) hsl (by decide) ?_
  intro a1 hs1; clear hsl; have hsl := hs1; clear hs1
  refine ops_done ?_
  exact h _ _ x y _ _ _ _ _ _ hsl hi hb1
set_option maxRecDepth 100000 in
set_option maxHeartbeats 4000000 in
theorem kr21 (w : World) (a : Act) (m : List (Nat × Value)) (hsl : Sl a 548 m) (rest : Code) (Q : Exit → Act → World → Prop) (h : ∀ (a' : Act) (w' : World) (x : Option Addr) (y : Nat) (u187 u188 u189 u186 u190 u191 : Value), Sl a' 548 ([(15, .int .i64 0), (16, .slice x 0 y), (191, u191), (190, u190), (186, u186), (189, u189), (188, u188), (187, u187)] ++ m) → IntsAt w' x [] → Below w.heap.size w w' → rest.wp Tryd.prog Q a' w') : (Code.seq (regionIn Tryd.f3 21) rest).wp Tryd.prog Q a w := by
  refine wp_seq ?_
  have e : regionIn Tryd.f3 21 = Code.region 21 _ false := rfl
  rw [e]; clear e
  refine wp_region ?_
  refine ops_go rfl rfl (fun K hK => ?_)
  unfold Oper.wp
  go_simp
  refine (roads_any _).mono ?_
  rintro e w1 ⟨g, rfl, hs, hb1⟩
  refine hK _ _ ?_
  clear hK
  refine Sl.step (G := fun a => wpOps _ _ _ _ a _) hsl (by decide) ?_
  intro a1 hs1; clear hsl; have hsl := hs1; clear hs1
  refine ops_go rfl rfl (fun K hK => ?_)
  unfold Oper.wp
  go_simp
  refine (slow_any _).mono ?_
  rintro e w2 ⟨rfl, hb2⟩
  replace hs := hs.below hb2
  replace hb1 := hb1.trans (hb2.mono hb1.size); clear hb2
  refine hK _ _ ?_
  clear hK
  refine Sl.step (G := fun a => wpOps _ _ _ _ a _) hsl (by decide) ?_
  intro a1 hs1; clear hsl; have hsl := hs1; clear hs1
  refine ops_go rfl rfl (fun K hK => ?_)
  have e187 := hsl.get 187 _ rfl
  have e188 := hsl.get 188 _ rfl
  unfold Oper.wp
  go_simp
  refine (kDays3 _ g hs).mono ?_
  rintro e w3 ⟨x, y, rfl, hi, hb⟩
  replace hb1 := hb1.trans (hb.mono hb1.size); clear hb hs
  clear e187 e188
  refine hK _ _ ?_
  clear hK
  refine Sl.step (G := fun a => wpOps _ _ _ _ a _) hsl (by decide) ?_
  intro a1 hs1; clear hsl; have hsl := hs1; clear hs1
  refine ops_go rfl rfl (fun K hK => ?_)
  have e189 := hsl.get 189 _ rfl
  unfold Oper.wp
  go_simp
  clear e189
  refine hK _ _ ?_
  clear hK
  refine Sl.step (G := fun a => wpOps _ _ _ _ a _) hsl (by decide) ?_
  intro a1 hs1; clear hsl; have hsl := hs1; clear hs1
  refine ops_go rfl rfl (fun K hK => ?_)
  have e186 := hsl.get 186 _ rfl
  unfold Oper.wp
  go_simp
  clear e186
  refine hK _ _ ?_
  clear hK
  refine Sl.step (G := fun a => wpOps _ _ _ _ a _) hsl (by decide) ?_
  intro a1 hs1; clear hsl; have hsl := hs1; clear hs1
  refine ops_go rfl rfl (fun K hK => ?_)
  have e186 := hsl.get 186 _ rfl
  unfold Oper.wp
  go_simp
  clear e186
  refine hK _ _ ?_
  clear hK
  refine Sl.step (G := fun a => wpOps _ _ _ _ a _) hsl (by decide) ?_
  intro a1 hs1; clear hsl; have hsl := hs1; clear hs1
  refine ops_go rfl rfl (fun K hK => ?_)
  have e190 := hsl.get 190 _ rfl
  unfold Oper.wp
  go_simp
  clear e190
  refine hK _ _ ?_
  clear hK
  refine Sl.step (G := fun a => wpOps _ _ _ _ a _) hsl (by decide) ?_
  intro a1 hs1; clear hsl; have hsl := hs1; clear hs1
  refine ops_go rfl rfl (fun K hK => ?_)
  have e191 := hsl.get 191 _ rfl
  unfold Oper.wp
  go_simp
  clear e191
  refine hK _ _ ?_
  clear hK
  refine Sl.step (G := fun a => wpOps _ _ _ _ a _) hsl (by decide) ?_
  intro a1 hs1; clear hsl; have hsl := hs1; clear hs1
  refine ops_done ?_
  exact h _ _ x y _ _ _ _ _ _ hsl hi hb1
set_option maxRecDepth 100000 in
set_option maxHeartbeats 4000000 in
theorem kr32 (w : World) (a : Act) (m : List (Nat × Value)) (hsl : Sl a 548 m) (rest : Code) (Q : Exit → Act → World → Prop) (h : ∀ (a' : Act) (w' : World) (x : Option Addr) (y : Nat) (u277 u278 u279 u276 u280 u281 : Value), Sl a' 548 ([(11, .int .i64 0), (12, .slice x 4 y), (281, u281), (280, u280), (276, u276), (279, u279), (278, u278), (277, u277)] ++ m) → IntsAt w' x [0, 0, 2, 0] → Below w.heap.size w w' → rest.wp Tryd.prog Q a' w') : (Code.seq (regionIn Tryd.f3 32) rest).wp Tryd.prog Q a w := by
  refine wp_seq ?_
  have e : regionIn Tryd.f3 32 = Code.region 32 _ false := rfl
  rw [e]; clear e
  refine wp_region ?_
  refine ops_go rfl rfl (fun K hK => ?_)
  unfold Oper.wp
  go_simp
  refine (roads_any _).mono ?_
  rintro e w1 ⟨g, rfl, hs, hb1⟩
  refine hK _ _ ?_
  clear hK
  refine Sl.step (G := fun a => wpOps _ _ _ _ a _) hsl (by decide) ?_
  intro a1 hs1; clear hsl; have hsl := hs1; clear hs1
  refine ops_go rfl rfl (fun K hK => ?_)
  unfold Oper.wp
  go_simp
  refine (fast_any _).mono ?_
  rintro e w2 ⟨rfl, hb2⟩
  replace hs := hs.below hb2
  replace hb1 := hb1.trans (hb2.mono hb1.size); clear hb2
  refine hK _ _ ?_
  clear hK
  refine Sl.step (G := fun a => wpOps _ _ _ _ a _) hsl (by decide) ?_
  intro a1 hs1; clear hsl; have hsl := hs1; clear hs1
  refine ops_go rfl rfl (fun K hK => ?_)
  have e277 := hsl.get 277 _ rfl
  have e278 := hsl.get 278 _ rfl
  unfold Oper.wp
  go_simp
  refine (kComes _ g hs).mono ?_
  rintro e w3 ⟨x, y, rfl, hi, hb⟩
  replace hb1 := hb1.trans (hb.mono hb1.size); clear hb hs
  clear e277 e278
  refine hK _ _ ?_
  clear hK
  refine Sl.step (G := fun a => wpOps _ _ _ _ a _) hsl (by decide) ?_
  intro a1 hs1; clear hsl; have hsl := hs1; clear hs1
  refine ops_go rfl rfl (fun K hK => ?_)
  have e279 := hsl.get 279 _ rfl
  unfold Oper.wp
  go_simp
  clear e279
  refine hK _ _ ?_
  clear hK
  refine Sl.step (G := fun a => wpOps _ _ _ _ a _) hsl (by decide) ?_
  intro a1 hs1; clear hsl; have hsl := hs1; clear hs1
  refine ops_go rfl rfl (fun K hK => ?_)
  have e276 := hsl.get 276 _ rfl
  unfold Oper.wp
  go_simp
  clear e276
  refine hK _ _ ?_
  clear hK
  refine Sl.step (G := fun a => wpOps _ _ _ _ a _) hsl (by decide) ?_
  intro a1 hs1; clear hsl; have hsl := hs1; clear hs1
  refine ops_go rfl rfl (fun K hK => ?_)
  have e276 := hsl.get 276 _ rfl
  unfold Oper.wp
  go_simp
  clear e276
  refine hK _ _ ?_
  clear hK
  refine Sl.step (G := fun a => wpOps _ _ _ _ a _) hsl (by decide) ?_
  intro a1 hs1; clear hsl; have hsl := hs1; clear hs1
  refine ops_go rfl rfl (fun K hK => ?_)
  have e280 := hsl.get 280 _ rfl
  unfold Oper.wp
  go_simp
  clear e280
  refine hK _ _ ?_
  clear hK
  refine Sl.step (G := fun a => wpOps _ _ _ _ a _) hsl (by decide) ?_
  intro a1 hs1; clear hsl; have hsl := hs1; clear hs1
  refine ops_go rfl rfl (fun K hK => ?_)
  have e281 := hsl.get 281 _ rfl
  unfold Oper.wp
  go_simp
  clear e281
  refine hK _ _ ?_
  clear hK
  refine Sl.step (G := fun a => wpOps _ _ _ _ a _) hsl (by decide) ?_
  intro a1 hs1; clear hsl; have hsl := hs1; clear hs1
  refine ops_done ?_
  exact h _ _ x y _ _ _ _ _ _ hsl hi hb1
set_option maxRecDepth 100000 in
set_option maxHeartbeats 4000000 in
theorem kr33 (w : World) (a : Act) (m : List (Nat × Value)) (hsl : Sl a 548 m) (rest : Code) (Q : Exit → Act → World → Prop) (h : ∀ (a' : Act) (w' : World) (x : Option Addr) (y : Nat) (u283 u284 u285 u282 u286 u287 : Value), Sl a' 548 ([(13, .int .i64 0), (25, .slice x 1 y), (287, u287), (286, u286), (282, u282), (285, u285), (284, u284), (283, u283)] ++ m) → StridesAt w' x [(0, 3)] → Below w.heap.size w w' → rest.wp Tryd.prog Q a' w') : (Code.seq (regionIn Tryd.f3 33) rest).wp Tryd.prog Q a w := by
  refine wp_seq ?_
  have e : regionIn Tryd.f3 33 = Code.region 33 _ false := rfl
  rw [e]; clear e
  refine wp_region ?_
  refine ops_go rfl rfl (fun K hK => ?_)
  unfold Oper.wp
  go_simp
  refine (roads_any _).mono ?_
  rintro e w1 ⟨g, rfl, hs, hb1⟩
  refine hK _ _ ?_
  clear hK
  refine Sl.step (G := fun a => wpOps _ _ _ _ a _) hsl (by decide) ?_
  intro a1 hs1; clear hsl; have hsl := hs1; clear hs1
  refine ops_go rfl rfl (fun K hK => ?_)
  unfold Oper.wp
  go_simp
  refine (fast_any _).mono ?_
  rintro e w2 ⟨rfl, hb2⟩
  replace hs := hs.below hb2
  replace hb1 := hb1.trans (hb2.mono hb1.size); clear hb2
  refine hK _ _ ?_
  clear hK
  refine Sl.step (G := fun a => wpOps _ _ _ _ a _) hsl (by decide) ?_
  intro a1 hs1; clear hsl; have hsl := hs1; clear hs1
  refine ops_go rfl rfl (fun K hK => ?_)
  have e283 := hsl.get 283 _ rfl
  have e284 := hsl.get 284 _ rfl
  unfold Oper.wp
  go_simp
  refine (kPlan1 _ g hs).mono ?_
  rintro e w3 ⟨x, y, rfl, hi, hb⟩
  replace hb1 := hb1.trans (hb.mono hb1.size); clear hb hs
  clear e283 e284
  refine hK _ _ ?_
  clear hK
  refine Sl.step (G := fun a => wpOps _ _ _ _ a _) hsl (by decide) ?_
  intro a1 hs1; clear hsl; have hsl := hs1; clear hs1
  refine ops_go rfl rfl (fun K hK => ?_)
  have e285 := hsl.get 285 _ rfl
  unfold Oper.wp
  go_simp
  clear e285
  refine hK _ _ ?_
  clear hK
  refine Sl.step (G := fun a => wpOps _ _ _ _ a _) hsl (by decide) ?_
  intro a1 hs1; clear hsl; have hsl := hs1; clear hs1
  refine ops_go rfl rfl (fun K hK => ?_)
  have e282 := hsl.get 282 _ rfl
  unfold Oper.wp
  go_simp
  clear e282
  refine hK _ _ ?_
  clear hK
  refine Sl.step (G := fun a => wpOps _ _ _ _ a _) hsl (by decide) ?_
  intro a1 hs1; clear hsl; have hsl := hs1; clear hs1
  refine ops_go rfl rfl (fun K hK => ?_)
  have e282 := hsl.get 282 _ rfl
  unfold Oper.wp
  go_simp
  clear e282
  refine hK _ _ ?_
  clear hK
  refine Sl.step (G := fun a => wpOps _ _ _ _ a _) hsl (by decide) ?_
  intro a1 hs1; clear hsl; have hsl := hs1; clear hs1
  refine ops_go rfl rfl (fun K hK => ?_)
  have e286 := hsl.get 286 _ rfl
  unfold Oper.wp
  go_simp
  clear e286
  refine hK _ _ ?_
  clear hK
  refine Sl.step (G := fun a => wpOps _ _ _ _ a _) hsl (by decide) ?_
  intro a1 hs1; clear hsl; have hsl := hs1; clear hs1
  refine ops_go rfl rfl (fun K hK => ?_)
  have e287 := hsl.get 287 _ rfl
  unfold Oper.wp
  go_simp
  clear e287
  refine hK _ _ ?_
  clear hK
  refine Sl.step (G := fun a => wpOps _ _ _ _ a _) hsl (by decide) ?_
  intro a1 hs1; clear hsl; have hsl := hs1; clear hs1
  refine ops_done ?_
  exact h _ _ x y _ _ _ _ _ _ hsl hi hb1
end Go.Proofs.YtmkjeonjhedgkaaDoor
