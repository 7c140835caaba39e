/- Regions of RoadKnown, one by one. -/
import Derived.Test.YtmkjeonjhedgkaaDoorKnownK
import Derived.Test.YtmkjeonjhedgkaaDoorBig
namespace Go.Proofs.YtmkjeonjhedgkaaDoor
set_option linter.unusedSimpArgs false
set_option linter.unusedVariables false
open Go.RowKit

set_option maxRecDepth 100000 in
set_option maxHeartbeats 4000000 in
theorem kr34 (w : World) (a : Act) (m : List (Nat × Value)) (hsl : Sl a 548 m) (rest : Code) (Q : Exit → Act → World → Prop) (h : ∀ (a' : Act) (w' : World) (u289 u290 u291 u288 u292 u293 : Value), Sl a' 548 ([(15, .int .i64 11), (293, u293), (292, u292), (288, u288), (291, u291), (290, u290), (289, u289)] ++ m) → Below w.heap.size w w' → rest.wp Tryd.prog Q a' w') : (Code.seq (regionIn Tryd.f3 34) rest).wp Tryd.prog Q a w := by
  refine wp_seq ?_
  have e : regionIn Tryd.f3 34 = Code.region 34 _ false := rfl
  rw [e]; clear e
  refine wp_region ?_
  refine ops_go rfl rfl (fun K hK => ?_)
  unfold Oper.wp
  go_simp
  refine (roads_any _).mono ?_
  rintro e w1 ⟨g, rfl, hs, hb1⟩
  refine hK _ _ ?_
  clear hK
  refine Sl.step (G := fun a => wpOps _ _ _ _ a _) hsl (by decide) ?_
  intro a1 hs1; clear hsl; have hsl := hs1; clear hs1
  refine ops_go rfl rfl (fun K hK => ?_)
  unfold Oper.wp
  go_simp
  refine (slow_any _).mono ?_
  rintro e w2 ⟨rfl, hb2⟩
  replace hs := hs.below hb2
  replace hb1 := hb1.trans (hb2.mono hb1.size); clear hb2
  refine hK _ _ ?_
  clear hK
  refine Sl.step (G := fun a => wpOps _ _ _ _ a _) hsl (by decide) ?_
  intro a1 hs1; clear hsl; have hsl := hs1; clear hs1
  refine ops_go rfl rfl (fun K hK => ?_)
  have e289 := hsl.get 289 _ rfl
  have e290 := hsl.get 290 _ rfl
  unfold Oper.wp
  go_simp
  refine (kPlan2 _ g hs).mono ?_
  rintro e w3 ⟨rfl, hb⟩
  replace hb1 := hb1.trans (hb.mono hb1.size); clear hb hs
  clear e289 e290
  refine hK _ _ ?_
  clear hK
  refine Sl.step (G := fun a => wpOps _ _ _ _ a _) hsl (by decide) ?_
  intro a1 hs1; clear hsl; have hsl := hs1; clear hs1
  refine ops_go rfl rfl (fun K hK => ?_)
  have e291 := hsl.get 291 _ rfl
  unfold Oper.wp
  go_simp
  clear e291
  refine hK _ _ ?_
  clear hK
  refine Sl.step (G := fun a => wpOps _ _ _ _ a _) hsl (by decide) ?_
  intro a1 hs1; clear hsl; have hsl := hs1; clear hs1
  refine ops_go rfl rfl (fun K hK => ?_)
  have e288 := hsl.get 288 _ rfl
  unfold Oper.wp
  go_simp
  clear e288
  refine hK _ _ ?_
  clear hK
  refine Sl.step (G := fun a => wpOps _ _ _ _ a _) hsl (by decide) ?_
  intro a1 hs1; clear hsl; have hsl := hs1; clear hs1
  refine ops_go rfl rfl (fun K hK => ?_)
  have e288 := hsl.get 288 _ rfl
  unfold Oper.wp
  go_simp
  clear e288
  refine hK _ _ ?_
  clear hK
  refine Sl.step (G := fun a => wpOps _ _ _ _ a _) hsl (by decide) ?_
  intro a1 hs1; clear hsl; have hsl := hs1; clear hs1
  refine ops_go rfl rfl (fun K hK => ?_)
  have e293 := hsl.get 293 _ rfl
  unfold Oper.wp
  go_simp
  clear e293
  refine hK _ _ ?_
  clear hK
  refine Sl.step (G := fun a => wpOps _ _ _ _ a _) hsl (by decide) ?_
  intro a1 hs1; clear hsl; have hsl := hs1; clear hs1
  refine ops_done ?_
  exact h _ _ _ _ _ _ _ _ hsl hb1
set_option maxRecDepth 100000 in
set_option maxHeartbeats 4000000 in
theorem kr37 (w : World) (a : Act) (m : List (Nat × Value)) (hsl : Sl a 548 m) (rest : Code) (Q : Exit → Act → World → Prop) (h : ∀ (a' : Act) (w' : World) (u318 u319 u320 u317 u321 u322 : Value), Sl a' 548 ([(11, .int .i64 0), (26, .int .i64 3), (322, u322), (321, u321), (317, u317), (320, u320), (319, u319), (318, u318)] ++ m) → Below w.heap.size w w' → rest.wp Tryd.prog Q a' w') : (Code.seq (regionIn Tryd.f3 37) rest).wp Tryd.prog Q a w := by
  refine wp_seq ?_
  have e : regionIn Tryd.f3 37 = Code.region 37 _ false := rfl
  rw [e]; clear e
  refine wp_region ?_
  refine ops_go rfl rfl (fun K hK => ?_)
  unfold Oper.wp
  go_simp
  refine (roads_any _).mono ?_
  rintro e w1 ⟨g, rfl, hs, hb1⟩
  refine hK _ _ ?_
  clear hK
  refine Sl.step (G := fun a => wpOps _ _ _ _ a _) hsl (by decide) ?_
  intro a1 hs1; clear hsl; have hsl := hs1; clear hs1
  refine ops_go rfl rfl (fun K hK => ?_)
  unfold Oper.wp
  go_simp
  refine (slow_any _).mono ?_
  rintro e w2 ⟨rfl, hb2⟩
  replace hs := hs.below hb2
  replace hb1 := hb1.trans (hb2.mono hb1.size); clear hb2
  refine hK _ _ ?_
  clear hK
  refine Sl.step (G := fun a => wpOps _ _ _ _ a _) hsl (by decide) ?_
  intro a1 hs1; clear hsl; have hsl := hs1; clear hs1
  refine ops_go rfl rfl (fun K hK => ?_)
  have e318 := hsl.get 318 _ rfl
  have e319 := hsl.get 319 _ rfl
  unfold Oper.wp
  go_simp
  refine (kLate1 _ g hs).mono ?_
  rintro e w3 ⟨rfl, hb⟩
  replace hb1 := hb1.trans (hb.mono hb1.size); clear hb hs
  clear e318 e319
  refine hK _ _ ?_
  clear hK
  refine Sl.step (G := fun a => wpOps _ _ _ _ a _) hsl (by decide) ?_
  intro a1 hs1; clear hsl; have hsl := hs1; clear hs1
  refine ops_go rfl rfl (fun K hK => ?_)
  have e320 := hsl.get 320 _ rfl
  unfold Oper.wp
  go_simp
  clear e320
  refine hK _ _ ?_
  clear hK
  refine Sl.step (G := fun a => wpOps _ _ _ _ a _) hsl (by decide) ?_
  intro a1 hs1; clear hsl; have hsl := hs1; clear hs1
  refine ops_go rfl rfl (fun K hK => ?_)
  have e317 := hsl.get 317 _ rfl
  unfold Oper.wp
  go_simp
  clear e317
  refine hK _ _ ?_
  clear hK
  refine Sl.step (G := fun a => wpOps _ _ _ _ a _) hsl (by decide) ?_
  intro a1 hs1; clear hsl; have hsl := hs1; clear hs1
  refine ops_go rfl rfl (fun K hK => ?_)
  have e317 := hsl.get 317 _ rfl
  unfold Oper.wp
  go_simp
  clear e317
  refine hK _ _ ?_
  clear hK
  refine Sl.step (G := fun a => wpOps _ _ _ _ a _) hsl (by decide) ?_
  intro a1 hs1; clear hsl; have hsl := hs1; clear hs1
  refine ops_go rfl rfl (fun K hK => ?_)
  have e321 := hsl.get 321 _ rfl
  unfold Oper.wp
  go_simp
  clear e321
  refine hK _ _ ?_
  clear hK
  refine Sl.step (G := fun a => wpOps _ _ _ _ a _) hsl (by decide) ?_
  intro a1 hs1; clear hsl; have hsl := hs1; clear hs1
  refine ops_go rfl rfl (fun K hK => ?_)
  have e322 := hsl.get 322 _ rfl
  unfold Oper.wp
  go_simp
  clear e322
  refine hK _ _ ?_
  clear hK
  refine Sl.step (G := fun a => wpOps _ _ _ _ a _) hsl (by decide) ?_
  intro a1 hs1; clear hsl; have hsl := hs1; clear hs1
  refine ops_done ?_
  exact h _ _ _ _ _ _ _ _ hsl hb1
set_option maxRecDepth 100000 in
set_option maxHeartbeats 4000000 in
theorem kr38 (w : World) (a : Act) (m : List (Nat × Value)) (hsl : Sl a 548 m) (rest : Code) (Q : Exit → Act → World → Prop) (h : ∀ (a' : Act) (w' : World) (u324 u325 u326 u323 u327 u328 : Value), Sl a' 548 ([(13, .int .i64 0), (27, .int .i64 1), (328, u328), (327, u327), (323, u323), (326, u326), (325, u325), (324, u324)] ++ m) → Below w.heap.size w w' → rest.wp Tryd.prog Q a' w') : (Code.seq (regionIn Tryd.f3 38) rest).wp Tryd.prog Q a w := by
  refine wp_seq ?_
  have e : regionIn Tryd.f3 38 = Code.region 38 _ false := rfl
  rw [e]; clear e
  refine wp_region ?_
  refine ops_go rfl rfl (fun K hK => ?_)
  unfold Oper.wp
  go_simp
  refine (roads_any _).mono ?_
  rintro e w1 ⟨g, rfl, hs, hb1⟩
  refine hK _ _ ?_
  clear hK
  refine Sl.step (G := fun a => wpOps _ _ _ _ a _) hsl (by decide) ?_
  intro a1 hs1; clear hsl; have hsl := hs1; clear hs1
  refine ops_go rfl rfl (fun K hK => ?_)
  unfold Oper.wp
  go_simp
  refine (slow_any _).mono ?_
  rintro e w2 ⟨rfl, hb2⟩
  replace hs := hs.below hb2
  replace hb1 := hb1.trans (hb2.mono hb1.size); clear hb2
  refine hK _ _ ?_
  clear hK
  refine Sl.step (G := fun a => wpOps _ _ _ _ a _) hsl (by decide) ?_
  intro a1 hs1; clear hsl; have hsl := hs1; clear hs1
  refine ops_go rfl rfl (fun K hK => ?_)
  have e324 := hsl.get 324 _ rfl
  have e325 := hsl.get 325 _ rfl
  unfold Oper.wp
  go_simp
  refine (kLate2 _ g hs).mono ?_
  rintro e w3 ⟨rfl, hb⟩
  replace hb1 := hb1.trans (hb.mono hb1.size); clear hb hs
  clear e324 e325
  refine hK _ _ ?_
  clear hK
  refine Sl.step (G := fun a => wpOps _ _ _ _ a _) hsl (by decide) ?_
  intro a1 hs1; clear hsl; have hsl := hs1; clear hs1
  refine ops_go rfl rfl (fun K hK => ?_)
  have e326 := hsl.get 326 _ rfl
  unfold Oper.wp
  go_simp
  clear e326
  refine hK _ _ ?_
  clear hK
  refine Sl.step (G := fun a => wpOps _ _ _ _ a _) hsl (by decide) ?_
  intro a1 hs1; clear hsl; have hsl := hs1; clear hs1
  refine ops_go rfl rfl (fun K hK => ?_)
  have e323 := hsl.get 323 _ rfl
  unfold Oper.wp
  go_simp
  clear e323
  refine hK _ _ ?_
  clear hK
  refine Sl.step (G := fun a => wpOps _ _ _ _ a _) hsl (by decide) ?_
  intro a1 hs1; clear hsl; have hsl := hs1; clear hs1
  refine ops_go rfl rfl (fun K hK => ?_)
  have e323 := hsl.get 323 _ rfl
  unfold Oper.wp
  go_simp
  clear e323
  refine hK _ _ ?_
  clear hK
  refine Sl.step (G := fun a => wpOps _ _ _ _ a _) hsl (by decide) ?_
  intro a1 hs1; clear hsl; have hsl := hs1; clear hs1
  refine ops_go rfl rfl (fun K hK => ?_)
  have e327 := hsl.get 327 _ rfl
  unfold Oper.wp
  go_simp
  clear e327
  refine hK _ _ ?_
  clear hK
  refine Sl.step (G := fun a => wpOps _ _ _ _ a _) hsl (by decide) ?_
  intro a1 hs1; clear hsl; have hsl := hs1; clear hs1
  refine ops_go rfl rfl (fun K hK => ?_)
  have e328 := hsl.get 328 _ rfl
  unfold Oper.wp
  go_simp
  clear e328
  refine hK _ _ ?_
  clear hK
  refine Sl.step (G := fun a => wpOps _ _ _ _ a _) hsl (by decide) ?_
  intro a1 hs1; clear hsl; have hsl := hs1; clear hs1
  refine ops_done ?_
  exact h _ _ _ _ _ _ _ _ hsl hb1
set_option maxRecDepth 100000 in
set_option maxHeartbeats 4000000 in
theorem kr39 (w : World) (a : Act) (m : List (Nat × Value)) (hsl : Sl a 548 m) (rest : Code) (Q : Exit → Act → World → Prop) (h : ∀ (a' : Act) (w' : World) (u330 u331 u332 u329 u333 u334 : Value), Sl a' 548 ([(15, .int .i64 11), (334, u334), (333, u333), (329, u329), (332, u332), (331, u331), (330, u330)] ++ m) → Below w.heap.size w w' → rest.wp Tryd.prog Q a' w') : (Code.seq (regionIn Tryd.f3 39) rest).wp Tryd.prog Q a w := by
  refine wp_seq ?_
  have e : regionIn Tryd.f3 39 = Code.region 39 _ false := rfl
  rw [e]; clear e
  refine wp_region ?_
  refine ops_go rfl rfl (fun K hK => ?_)
  unfold Oper.wp
  go_simp
  refine (roads_any _).mono ?_
  rintro e w1 ⟨g, rfl, hs, hb1⟩
  refine hK _ _ ?_
  clear hK
  refine Sl.step (G := fun a => wpOps _ _ _ _ a _) hsl (by decide) ?_
  intro a1 hs1; clear hsl; have hsl := hs1; clear hs1
  refine ops_go rfl rfl (fun K hK => ?_)
  unfold Oper.wp
  go_simp
  refine (slow_any _).mono ?_
  rintro e w2 ⟨rfl, hb2⟩
  replace hs := hs.below hb2
  replace hb1 := hb1.trans (hb2.mono hb1.size); clear hb2
  refine hK _ _ ?_
  clear hK
  refine Sl.step (G := fun a => wpOps _ _ _ _ a _) hsl (by decide) ?_
  intro a1 hs1; clear hsl; have hsl := hs1; clear hs1
  refine ops_go rfl rfl (fun K hK => ?_)
  have e330 := hsl.get 330 _ rfl
  have e331 := hsl.get 331 _ rfl
  unfold Oper.wp
  go_simp
  refine (kLate3 _ g hs).mono ?_
  rintro e w3 ⟨rfl, hb⟩
  replace hb1 := hb1.trans (hb.mono hb1.size); clear hb hs
  clear e330 e331
  refine hK _ _ ?_
  clear hK
  refine Sl.step (G := fun a => wpOps _ _ _ _ a _) hsl (by decide) ?_
  intro a1 hs1; clear hsl; have hsl := hs1; clear hs1
  refine ops_go rfl rfl (fun K hK => ?_)
  have e332 := hsl.get 332 _ rfl
  unfold Oper.wp
  go_simp
  clear e332
  refine hK _ _ ?_
  clear hK
  refine Sl.step (G := fun a => wpOps _ _ _ _ a _) hsl (by decide) ?_
  intro a1 hs1; clear hsl; have hsl := hs1; clear hs1
  refine ops_go rfl rfl (fun K hK => ?_)
  have e329 := hsl.get 329 _ rfl
  unfold Oper.wp
  go_simp
  clear e329
  refine hK _ _ ?_
  clear hK
  refine Sl.step (G := fun a => wpOps _ _ _ _ a _) hsl (by decide) ?_
  intro a1 hs1; clear hsl; have hsl := hs1; clear hs1
  refine ops_go rfl rfl (fun K hK => ?_)
  have e329 := hsl.get 329 _ rfl
  unfold Oper.wp
  go_simp
  clear e329
  refine hK _ _ ?_
  clear hK
  refine Sl.step (G := fun a => wpOps _ _ _ _ a _) hsl (by decide) ?_
  intro a1 hs1; clear hsl; have hsl := hs1; clear hs1
  refine ops_go rfl rfl (fun K hK => ?_)
  have e334 := hsl.get 334 _ rfl
  unfold Oper.wp
  go_simp
  clear e334
  refine hK _ _ ?_
  clear hK
  refine Sl.step (G := fun a => wpOps _ _ _ _ a _) hsl (by decide) ?_
  intro a1 hs1; clear hsl; have hsl := hs1; clear hs1
  refine ops_done ?_
  exact h _ _ _ _ _ _ _ _ hsl hb1
set_option maxRecDepth 100000 in
set_option maxHeartbeats 4000000 in
theorem kr40 (w : World) (a : Act) (m : List (Nat × Value)) (hsl : Sl a 548 m) (rest : Code) (Q : Exit → Act → World → Prop) (h : ∀ (a' : Act) (w' : World) (u336 u337 u338 u335 u339 u340 : Value), Sl a' 548 ([(17, .int .i64 0), (28, .int .i64 1), (340, u340), (339, u339), (335, u335), (338, u338), (337, u337), (336, u336)] ++ m) → Below w.heap.size w w' → rest.wp Tryd.prog Q a' w') : (Code.seq (regionIn Tryd.f3 40) rest).wp Tryd.prog Q a w := by
  refine wp_seq ?_
  have e : regionIn Tryd.f3 40 = Code.region 40 _ false := rfl
  rw [e]; clear e
  refine wp_region ?_
  refine ops_go rfl rfl (fun K hK => ?_)
  unfold Oper.wp
  go_simp
  refine (roads_any _).mono ?_
  rintro e w1 ⟨g, rfl, hs, hb1⟩
  refine hK _ _ ?_
  clear hK
  refine Sl.step (G := fun a => wpOps _ _ _ _ a _) hsl (by decide) ?_
  intro a1 hs1; clear hsl; have hsl := hs1; clear hs1
  refine ops_go rfl rfl (fun K hK => ?_)
  unfold Oper.wp
  go_simp
  refine (slow_any _).mono ?_
  rintro e w2 ⟨rfl, hb2⟩
  replace hs := hs.below hb2
  replace hb1 := hb1.trans (hb2.mono hb1.size); clear hb2
  refine hK _ _ ?_
  clear hK
  refine Sl.step (G := fun a => wpOps _ _ _ _ a _) hsl (by decide) ?_
  intro a1 hs1; clear hsl; have hsl := hs1; clear hs1
  refine ops_go rfl rfl (fun K hK => ?_)
  have e336 := hsl.get 336 _ rfl
  have e337 := hsl.get 337 _ rfl
  unfold Oper.wp
  go_simp
  refine (kStay1 _ g hs).mono ?_
  rintro e w3 ⟨rfl, hb⟩
  replace hb1 := hb1.trans (hb.mono hb1.size); clear hb hs
  clear e336 e337
  refine hK _ _ ?_
  clear hK
  refine Sl.step (G := fun a => wpOps _ _ _ _ a _) hsl (by decide) ?_
  intro a1 hs1; clear hsl; have hsl := hs1; clear hs1
  refine ops_go rfl rfl (fun K hK => ?_)
  have e338 := hsl.get 338 _ rfl
  unfold Oper.wp
  go_simp
  clear e338
  refine hK _ _ ?_
  clear hK
  refine Sl.step (G := fun a => wpOps _ _ _ _ a _) hsl (by decide) ?_
  intro a1 hs1; clear hsl; have hsl := hs1; clear hs1
  refine ops_go rfl rfl (fun K hK => ?_)
  have e335 := hsl.get 335 _ rfl
  unfold Oper.wp
  go_simp
  clear e335
  refine hK _ _ ?_
  clear hK
  refine Sl.step (G := fun a => wpOps _ _ _ _ a _) hsl (by decide) ?_
  intro a1 hs1; clear hsl; have hsl := hs1; clear hs1
  refine ops_go rfl rfl (fun K hK => ?_)
  have e335 := hsl.get 335 _ rfl
  unfold Oper.wp
  go_simp
  clear e335
  refine hK _ _ ?_
  clear hK
  refine Sl.step (G := fun a => wpOps _ _ _ _ a _) hsl (by decide) ?_
  intro a1 hs1; clear hsl; have hsl := hs1; clear hs1
  refine ops_go rfl rfl (fun K hK => ?_)
  have e339 := hsl.get 339 _ rfl
  unfold Oper.wp
  go_simp
  clear e339
  refine hK _ _ ?_
  clear hK
  refine Sl.step (G := fun a => wpOps _ _ _ _ a _) hsl (by decide) ?_
  intro a1 hs1; clear hsl; have hsl := hs1; clear hs1
  refine ops_go rfl rfl (fun K hK => ?_)
  have e340 := hsl.get 340 _ rfl
  unfold Oper.wp
  go_simp
  clear e340
  refine hK _ _ ?_
  clear hK
  refine Sl.step (G := fun a => wpOps _ _ _ _ a _) hsl (by decide) ?_
  intro a1 hs1; clear hsl; have hsl := hs1; clear hs1
  refine ops_done ?_
  exact h _ _ _ _ _ _ _ _ hsl hb1
set_option maxRecDepth 100000 in
set_option maxHeartbeats 4000000 in
theorem kr41 (w : World) (a : Act) (m : List (Nat × Value)) (hsl : Sl a 548 m) (rest : Code) (Q : Exit → Act → World → Prop) (h : ∀ (a' : Act) (w' : World) (u342 u343 u344 u341 u345 u346 : Value), Sl a' 548 ([(19, .int .i64 11), (346, u346), (345, u345), (341, u341), (344, u344), (343, u343), (342, u342)] ++ m) → Below w.heap.size w w' → rest.wp Tryd.prog Q a' w') : (Code.seq (regionIn Tryd.f3 41) rest).wp Tryd.prog Q a w := by
  refine wp_seq ?_
  have e : regionIn Tryd.f3 41 = Code.region 41 _ false := rfl
  rw [e]; clear e
  refine wp_region ?_
  refine ops_go rfl rfl (fun K hK => ?_)
  unfold Oper.wp
  go_simp
  refine (roads_any _).mono ?_
  rintro e w1 ⟨g, rfl, hs, hb1⟩
  refine hK _ _ ?_
  clear hK
  refine Sl.step (G := fun a => wpOps _ _ _ _ a _) hsl (by decide) ?_
  intro a1 hs1; clear hsl; have hsl := hs1; clear hs1
  refine ops_go rfl rfl (fun K hK => ?_)
  unfold Oper.wp
  go_simp
  refine (slow_any _).mono ?_
  rintro e w2 ⟨rfl, hb2⟩
  replace hs := hs.below hb2
  replace hb1 := hb1.trans (hb2.mono hb1.size); clear hb2
  refine hK _ _ ?_
  clear hK
  refine Sl.step (G := fun a => wpOps _ _ _ _ a _) hsl (by decide) ?_
  intro a1 hs1; clear hsl; have hsl := hs1; clear hs1
  refine ops_go rfl rfl (fun K hK => ?_)
  have e342 := hsl.get 342 _ rfl
  have e343 := hsl.get 343 _ rfl
  unfold Oper.wp
  go_simp
  refine (kStay2 _ g hs).mono ?_
  rintro e w3 ⟨rfl, hb⟩
  replace hb1 := hb1.trans (hb.mono hb1.size); clear hb hs
  clear e342 e343
  refine hK _ _ ?_
  clear hK
  refine Sl.step (G := fun a => wpOps _ _ _ _ a _) hsl (by decide) ?_
  intro a1 hs1; clear hsl; have hsl := hs1; clear hs1
  refine ops_go rfl rfl (fun K hK => ?_)
  have e344 := hsl.get 344 _ rfl
  unfold Oper.wp
  go_simp
  clear e344
  refine hK _ _ ?_
  clear hK
  refine Sl.step (G := fun a => wpOps _ _ _ _ a _) hsl (by decide) ?_
  intro a1 hs1; clear hsl; have hsl := hs1; clear hs1
  refine ops_go rfl rfl (fun K hK => ?_)
  have e341 := hsl.get 341 _ rfl
  unfold Oper.wp
  go_simp
  clear e341
  refine hK _ _ ?_
  clear hK
  refine Sl.step (G := fun a => wpOps _ _ _ _ a _) hsl (by decide) ?_
  intro a1 hs1; clear hsl; have hsl := hs1; clear hs1
  refine ops_go rfl rfl (fun K hK => ?_)
  have e341 := hsl.get 341 _ rfl
  unfold Oper.wp
  go_simp
  clear e341
  refine hK _ _ ?_
  clear hK
  refine Sl.step (G := fun a => wpOps _ _ _ _ a _) hsl (by decide) ?_
  intro a1 hs1; clear hsl; have hsl := hs1; clear hs1
  refine ops_go rfl rfl (fun K hK => ?_)
  have e346 := hsl.get 346 _ rfl
  unfold Oper.wp
  go_simp
  clear e346
  refine hK _ _ ?_
  clear hK
  refine Sl.step (G := fun a => wpOps _ _ _ _ a _) hsl (by decide) ?_
  intro a1 hs1; clear hsl; have hsl := hs1; clear hs1
  refine ops_done ?_
  exact h _ _ _ _ _ _ _ _ hsl hb1
set_option maxRecDepth 100000 in
set_option maxHeartbeats 4000000 in
theorem kr44 (w : World) (a : Act) (m : List (Nat × Value)) (hsl : Sl a 548 m) (rest : Code) (Q : Exit → Act → World → Prop) (h : ∀ (a' : Act) (w' : World) (u378 u379 u377 u380 u381 : Value), Sl a' 548 ([(11, .int .i64 0), (26, .int .i64 10), (381, u381), (380, u380), (377, u377), (379, u379), (378, u378)] ++ m) → Below w.heap.size w w' → rest.wp Tryd.prog Q a' w') : (Code.seq (regionIn Tryd.f3 44) rest).wp Tryd.prog Q a w := by
  refine wp_seq ?_
  have e : regionIn Tryd.f3 44 = Code.region 44 _ false := rfl
  rw [e]; clear e
  refine wp_region ?_
  refine ops_go rfl rfl (fun K hK => ?_)
  unfold Oper.wp
  go_simp
  refine (roads_any _).mono ?_
  rintro e w1 ⟨g, rfl, hs, hb1⟩
  refine hK _ _ ?_
  clear hK
  refine Sl.step (G := fun a => wpOps _ _ _ _ a _) hsl (by decide) ?_
  intro a1 hs1; clear hsl; have hsl := hs1; clear hs1
  refine ops_go rfl rfl (fun K hK => ?_)
  have e378 := hsl.get 378 _ rfl
  unfold Oper.wp
  go_simp
  refine (kHeads1 _ g hs).mono ?_
  rintro e w3 ⟨rfl, hb⟩
  replace hb1 := hb1.trans (hb.mono hb1.size); clear hb hs
  clear e378
  refine hK _ _ ?_
  clear hK
  refine Sl.step (G := fun a => wpOps _ _ _ _ a _) hsl (by decide) ?_
  intro a1 hs1; clear hsl; have hsl := hs1; clear hs1
  refine ops_go rfl rfl (fun K hK => ?_)
  have e379 := hsl.get 379 _ rfl
  unfold Oper.wp
  go_simp
  clear e379
  refine hK _ _ ?_
  clear hK
  refine Sl.step (G := fun a => wpOps _ _ _ _ a _) hsl (by decide) ?_
  intro a1 hs1; clear hsl; have hsl := hs1; clear hs1
  refine ops_go rfl rfl (fun K hK => ?_)
  have e377 := hsl.get 377 _ rfl
  unfold Oper.wp
  go_simp
  clear e377
  refine hK _ _ ?_
  clear hK
  refine Sl.step (G := fun a => wpOps _ _ _ _ a _) hsl (by decide) ?_
  intro a1 hs1; clear hsl; have hsl := hs1; clear hs1
  refine ops_go rfl rfl (fun K hK => ?_)
  have e377 := hsl.get 377 _ rfl
  unfold Oper.wp
  go_simp
  clear e377
  refine hK _ _ ?_
  clear hK
  refine Sl.step (G := fun a => wpOps _ _ _ _ a _) hsl (by decide) ?_
  intro a1 hs1; clear hsl; have hsl := hs1; clear hs1
  refine ops_go rfl rfl (fun K hK => ?_)
  have e380 := hsl.get 380 _ rfl
  unfold Oper.wp
  go_simp
  clear e380
  refine hK _ _ ?_
  clear hK
  refine Sl.step (G := fun a => wpOps _ _ _ _ a _) hsl (by decide) ?_
  intro a1 hs1; clear hsl; have hsl := hs1; clear hs1
  refine ops_go rfl rfl (fun K hK => ?_)
  have e381 := hsl.get 381 _ rfl
  unfold Oper.wp
  go_simp
  clear e381
  refine hK _ _ ?_
  clear hK
  refine Sl.step (G := fun a => wpOps _ _ _ _ a _) hsl (by decide) ?_
  intro a1 hs1; clear hsl; have hsl := hs1; clear hs1
  refine ops_done ?_
  exact h _ _ _ _ _ _ _ hsl hb1
set_option maxRecDepth 100000 in
set_option maxHeartbeats 4000000 in
theorem kr45 (w : World) (a : Act) (m : List (Nat × Value)) (hsl : Sl a 548 m) (rest : Code) (Q : Exit → Act → World → Prop) (h : ∀ (a' : Act) (w' : World) (u383 u384 u382 u385 u386 : Value), Sl a' 548 ([(13, .int .i64 0), (27, .int .i64 20), (386, u386), (385, u385), (382, u382), (384, u384), (383, u383)] ++ m) → Below w.heap.size w w' → rest.wp Tryd.prog Q a' w') : (Code.seq (regionIn Tryd.f3 45) rest).wp Tryd.prog Q a w := by
  refine wp_seq ?_
  have e : regionIn Tryd.f3 45 = Code.region 45 _ false := rfl
  rw [e]; clear e
  refine wp_region ?_
  refine ops_go rfl rfl (fun K hK => ?_)
  unfold Oper.wp
  go_simp
  refine (roads_any _).mono ?_
  rintro e w1 ⟨g, rfl, hs, hb1⟩
  refine hK _ _ ?_
  clear hK
  refine Sl.step (G := fun a => wpOps _ _ _ _ a _) hsl (by decide) ?_
  intro a1 hs1; clear hsl; have hsl := hs1; clear hs1
  refine ops_go rfl rfl (fun K hK => ?_)
  have e383 := hsl.get 383 _ rfl
  unfold Oper.wp
  go_simp
  refine (kHeads2 _ g hs).mono ?_
  rintro e w3 ⟨rfl, hb⟩
  replace hb1 := hb1.trans (hb.mono hb1.size); clear hb hs
  clear e383
  refine hK _ _ ?_
  clear hK
  refine Sl.step (G := fun a => wpOps _ _ _ _ a _) hsl (by decide) ?_
  intro a1 hs1; clear hsl; have hsl := hs1; clear hs1
  refine ops_go rfl rfl (fun K hK => ?_)
  have e384 := hsl.get 384 _ rfl
  unfold Oper.wp
  go_simp
  clear e384
  refine hK _ _ ?_
  clear hK
  refine Sl.step (G := fun a => wpOps _ _ _ _ a _) hsl (by decide) ?_
  intro a1 hs1; clear hsl; have hsl := hs1; clear hs1
  refine ops_go rfl rfl (fun K hK => ?_)
  have e382 := hsl.get 382 _ rfl
  unfold Oper.wp
  go_simp
  clear e382
  refine hK _ _ ?_
  clear hK
  refine Sl.step (G := fun a => wpOps _ _ _ _ a _) hsl (by decide) ?_
  intro a1 hs1; clear hsl; have hsl := hs1; clear hs1
  refine ops_go rfl rfl (fun K hK => ?_)
  have e382 := hsl.get 382 _ rfl
  unfold Oper.wp
  go_simp
  clear e382
  refine hK _ _ ?_
  clear hK
  refine Sl.step (G := fun a => wpOps _ _ _ _ a _) hsl (by decide) ?_
  intro a1 hs1; clear hsl; have hsl := hs1; clear hs1
  refine ops_go rfl rfl (fun K hK => ?_)
  have e385 := hsl.get 385 _ rfl
  unfold Oper.wp
  go_simp
  clear e385
  refine hK _ _ ?_
  clear hK
  refine Sl.step (G := fun a => wpOps _ _ _ _ a _) hsl (by decide) ?_
  intro a1 hs1; clear hsl; have hsl := hs1; clear hs1
  refine ops_go rfl rfl (fun K hK => ?_)
  have e386 := hsl.get 386 _ rfl
  unfold Oper.wp
  go_simp
  clear e386
  refine hK _ _ ?_
  clear hK
  refine Sl.step (G := fun a => wpOps _ _ _ _ a _) hsl (by decide) ?_
  intro a1 hs1; clear hsl; have hsl := hs1; clear hs1
  refine ops_done ?_
  exact h _ _ _ _ _ _ _ hsl hb1
set_option maxRecDepth 100000 in
set_option maxHeartbeats 4000000 in
theorem kr46 (w : World) (a : Act) (m : List (Nat × Value)) (hsl : Sl a 548 m) (rest : Code) (Q : Exit → Act → World → Prop) (h : ∀ (a' : Act) (w' : World) (x : Option Addr) (y : Nat) (u388 u389 u390 u387 u391 u392 : Value), Sl a' 548 ([(15, .int .i64 0), (12, .slice x 1 y), (392, u392), (391, u391), (387, u387), (390, u390), (389, u389), (388, u388)] ++ m) → IntsAt w' x [2] → Below w.heap.size w w' → rest.wp Tryd.prog Q a' w') : (Code.seq (regionIn Tryd.f3 46) rest).wp Tryd.prog Q a w := by
  refine wp_seq ?_
  have e : regionIn Tryd.f3 46 = Code.region 46 _ false := rfl
  rw [e]; clear e
  refine wp_region ?_
  refine ops_go rfl rfl (fun K hK => ?_)
  unfold Oper.wp
  go_simp
  refine (roads_any _).mono ?_
  rintro e w1 ⟨g, rfl, hs, hb1⟩
  refine hK _ _ ?_
  clear hK
  refine Sl.step (G := fun a => wpOps _ _ _ _ a _) hsl (by decide) ?_
  intro a1 hs1; clear hsl; have hsl := hs1; clear hs1
  refine ops_go rfl rfl (fun K hK => ?_)
  unfold Oper.wp
  go_simp
  refine (flock_any _ 20 6).mono ?_
  rintro e w2 ⟨rfl, hb2⟩
  replace hs := hs.below hb2
  replace hb1 := hb1.trans (hb2.mono hb1.size); clear hb2
  refine hK _ _ ?_
  clear hK
  refine Sl.step (G := fun a => wpOps _ _ _ _ a _) hsl (by decide) ?_
  intro a1 hs1; clear hsl; have hsl := hs1; clear hs1
  refine ops_go rfl rfl (fun K hK => ?_)
  have e388 := hsl.get 388 _ rfl
  have e389 := hsl.get 389 _ rfl
  unfold Oper.wp
  go_simp
  refine (kWiden1 _ g hs).mono ?_
  rintro e w3 ⟨x, y, rfl, hi, hb⟩
  replace hb1 := hb1.trans (hb.mono hb1.size); clear hb hs
  clear e388 e389
  refine hK _ _ ?_
  clear hK
  refine Sl.step (G := fun a => wpOps _ _ _ _ a _) hsl (by decide) ?_
  intro a1 hs1; clear hsl; have hsl := hs1; clear hs1
  refine ops_go rfl rfl (fun K hK => ?_)
  have e390 := hsl.get 390 _ rfl
  unfold Oper.wp
  go_simp
  clear e390
  refine hK _ _ ?_
  clear hK
  refine Sl.step (G := fun a => wpOps _ _ _ _ a _) hsl (by decide) ?_
  intro a1 hs1; clear hsl; have hsl := hs1; clear hs1
  refine ops_go rfl rfl (fun K hK => ?_)
  have e387 := hsl.get 387 _ rfl
  unfold Oper.wp
  go_simp
  clear e387
  refine hK _ _ ?_
  clear hK
  refine Sl.step (G := fun a => wpOps _ _ _ _ a _) hsl (by decide) ?_
  intro a1 hs1; clear hsl; have hsl := hs1; clear hs1
  refine ops_go rfl rfl (fun K hK => ?_)
  have e387 := hsl.get 387 _ rfl
  unfold Oper.wp
  go_simp
  clear e387
  refine hK _ _ ?_
  clear hK
  refine Sl.step (G := fun a => wpOps _ _ _ _ a _) hsl (by decide) ?_
  intro a1 hs1; clear hsl; have hsl := hs1; clear hs1
  refine ops_go rfl rfl (fun K hK => ?_)
  have e391 := hsl.get 391 _ rfl
  unfold Oper.wp
  go_simp
  clear e391
  refine hK _ _ ?_
  clear hK
  refine Sl.step (G := fun a => wpOps _ _ _ _ a _) hsl (by decide) ?_
  intro a1 hs1; clear hsl; have hsl := hs1; clear hs1
  refine ops_go rfl rfl (fun K hK => ?_)
  have e392 := hsl.get 392 _ rfl
  unfold Oper.wp
  go_simp
  clear e392
  refine hK _ _ ?_
  clear hK
  refine Sl.step (G := fun a => wpOps _ _ _ _ a _) hsl (by decide) ?_
  intro a1 hs1; clear hsl; have hsl := hs1; clear hs1
  refine ops_done ?_
  exact h _ _ x y _ _ _ _ _ _ hsl hi hb1
end Go.Proofs.YtmkjeonjhedgkaaDoor
