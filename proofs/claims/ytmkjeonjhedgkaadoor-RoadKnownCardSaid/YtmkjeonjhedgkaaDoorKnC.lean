/- Regions of RoadKnown, one by one. -/
import Derived.Test.YtmkjeonjhedgkaaDoorKnownK
import Derived.Test.YtmkjeonjhedgkaaDoorBig
namespace Go.Proofs.YtmkjeonjhedgkaaDoor
set_option linter.unusedSimpArgs false
set_option linter.unusedVariables false
open Go.RowKit

set_option maxRecDepth 100000 in
set_option maxHeartbeats 4000000 in
theorem kr47 (w : World) (a : Act) (m : List (Nat × Value)) (hsl : Sl a 548 m) (rest : Code) (Q : Exit → Act → World → Prop) (h : ∀ (a' : Act) (w' : World) (x : Option Addr) (y : Nat) (u394 u395 u396 u393 u397 u398 : Value), Sl a' 548 ([(17, .int .i64 0), (14, .slice x 0 y), (398, u398), (397, u397), (393, u393), (396, u396), (395, u395), (394, u394)] ++ m) → IntsAt w' x [] → Below w.heap.size w w' → rest.wp Tryd.prog Q a' w') : (Code.seq (regionIn Tryd.f3 47) rest).wp Tryd.prog Q a w := by
  refine wp_seq ?_
  have e : regionIn Tryd.f3 47 = Code.region 47 _ false := rfl
  rw [e]; clear e
  refine wp_region ?_
  refine ops_go rfl rfl (fun K hK => ?_)
  unfold Oper.wp
  go_simp
  refine (roads_any _).mono ?_
  rintro e w1 ⟨g, rfl, hs, hb1⟩
  refine hK _ _ ?_
  clear hK
  refine Sl.step (G := fun a => wpOps _ _ _ _ a _) hsl (by decide) ?_
  intro a1 hs1; clear hsl; have hsl := hs1; clear hs1
  refine ops_go rfl rfl (fun K hK => ?_)
  unfold Oper.wp
  go_simp
  refine (slow_any _).mono ?_
  rintro e w2 ⟨rfl, hb2⟩
  replace hs := hs.below hb2
  replace hb1 := hb1.trans (hb2.mono hb1.size); clear hb2
  refine hK _ _ ?_
  clear hK
  refine Sl.step (G := fun a => wpOps _ _ _ _ a _) hsl (by decide) ?_
  intro a1 hs1; clear hsl; have hsl := hs1; clear hs1
  refine ops_go rfl rfl (fun K hK => ?_)
  have e394 := hsl.get 394 _ rfl
  have e395 := hsl.get 395 _ rfl
  unfold Oper.wp
  go_simp
  refine (kWiden2 _ g hs).mono ?_
  rintro e w3 ⟨x, y, rfl, hi, hb⟩
  replace hb1 := hb1.trans (hb.mono hb1.size); clear hb hs
  clear e394 e395
  refine hK _ _ ?_
  clear hK
  refine Sl.step (G := fun a => wpOps _ _ _ _ a _) hsl (by decide) ?_
  intro a1 hs1; clear hsl; have hsl := hs1; clear hs1
  refine ops_go rfl rfl (fun K hK => ?_)
  have e396 := hsl.get 396 _ rfl
  unfold Oper.wp
  go_simp
  clear e396
  refine hK _ _ ?_
  clear hK
  refine Sl.step (G := fun a => wpOps _ _ _ _ a _) hsl (by decide) ?_
  intro a1 hs1; clear hsl; have hsl := hs1; clear hs1
  refine ops_go rfl rfl (fun K hK => ?_)
  have e393 := hsl.get 393 _ rfl
  unfold Oper.wp
  go_simp
  clear e393
  refine hK _ _ ?_
  clear hK
  refine Sl.step (G := fun a => wpOps _ _ _ _ a _) hsl (by decide) ?_
  intro a1 hs1; clear hsl; have hsl := hs1; clear hs1
  refine ops_go rfl rfl (fun K hK => ?_)
  have e393 := hsl.get 393 _ rfl
  unfold Oper.wp
  go_simp
  clear e393
  refine hK _ _ ?_
  clear hK
  refine Sl.step (G := fun a => wpOps _ _ _ _ a _) hsl (by decide) ?_
  intro a1 hs1; clear hsl; have hsl := hs1; clear hs1
  refine ops_go rfl rfl (fun K hK => ?_)
  have e397 := hsl.get 397 _ rfl
  unfold Oper.wp
  go_simp
  clear e397
  refine hK _ _ ?_
  clear hK
  refine Sl.step (G := fun a => wpOps _ _ _ _ a _) hsl (by decide) ?_
  intro a1 hs1; clear hsl; have hsl := hs1; clear hs1
  refine ops_go rfl rfl (fun K hK => ?_)
  have e398 := hsl.get 398 _ rfl
  unfold Oper.wp
  go_simp
  clear e398
  refine hK _ _ ?_
  clear hK
  refine Sl.step (G := fun a => wpOps _ _ _ _ a _) hsl (by decide) ?_
  intro a1 hs1; clear hsl; have hsl := hs1; clear hs1
  refine ops_done ?_
  exact h _ _ x y _ _ _ _ _ _ hsl hi hb1
set_option maxRecDepth 100000 in
set_option maxHeartbeats 4000000 in
theorem kr48 (w : World) (a : Act) (m : List (Nat × Value)) (hsl : Sl a 548 m) (rest : Code) (Q : Exit → Act → World → Prop) (h : ∀ (a' : Act) (w' : World) (u400 u401 u402 u399 u403 u404 : Value), Sl a' 548 ([(19, .int .i64 11), (404, u404), (403, u403), (399, u399), (402, u402), (401, u401), (400, u400)] ++ m) → Below w.heap.size w w' → rest.wp Tryd.prog Q a' w') : (Code.seq (regionIn Tryd.f3 48) rest).wp Tryd.prog Q a w := by
  refine wp_seq ?_
  have e : regionIn Tryd.f3 48 = Code.region 48 _ false := rfl
  rw [e]; clear e
  refine wp_region ?_
  refine ops_go rfl rfl (fun K hK => ?_)
  unfold Oper.wp
  go_simp
  refine (roads_any _).mono ?_
  rintro e w1 ⟨g, rfl, hs, hb1⟩
  refine hK _ _ ?_
  clear hK
  refine Sl.step (G := fun a => wpOps _ _ _ _ a _) hsl (by decide) ?_
  intro a1 hs1; clear hsl; have hsl := hs1; clear hs1
  refine ops_go rfl rfl (fun K hK => ?_)
  unfold Oper.wp
  go_simp
  refine (slow_any _).mono ?_
  rintro e w2 ⟨rfl, hb2⟩
  replace hs := hs.below hb2
  replace hb1 := hb1.trans (hb2.mono hb1.size); clear hb2
  refine hK _ _ ?_
  clear hK
  refine Sl.step (G := fun a => wpOps _ _ _ _ a _) hsl (by decide) ?_
  intro a1 hs1; clear hsl; have hsl := hs1; clear hs1
  refine ops_go rfl rfl (fun K hK => ?_)
  have e400 := hsl.get 400 _ rfl
  have e401 := hsl.get 401 _ rfl
  unfold Oper.wp
  go_simp
  refine (kWiden3 _ g hs).mono ?_
  rintro e w3 ⟨rfl, hb⟩
  replace hb1 := hb1.trans (hb.mono hb1.size); clear hb hs
  clear e400 e401
  refine hK _ _ ?_
  clear hK
  refine Sl.step (G := fun a => wpOps _ _ _ _ a _) hsl (by decide) ?_
  intro a1 hs1; clear hsl; have hsl := hs1; clear hs1
  refine ops_go rfl rfl (fun K hK => ?_)
  have e402 := hsl.get 402 _ rfl
  unfold Oper.wp
  go_simp
  clear e402
  refine hK _ _ ?_
  clear hK
  refine Sl.step (G := fun a => wpOps _ _ _ _ a _) hsl (by decide) ?_
  intro a1 hs1; clear hsl; have hsl := hs1; clear hs1
  refine ops_go rfl rfl (fun K hK => ?_)
  have e399 := hsl.get 399 _ rfl
  unfold Oper.wp
  go_simp
  clear e399
  refine hK _ _ ?_
  clear hK
  refine Sl.step (G := fun a => wpOps _ _ _ _ a _) hsl (by decide) ?_
  intro a1 hs1; clear hsl; have hsl := hs1; clear hs1
  refine ops_go rfl rfl (fun K hK => ?_)
  have e399 := hsl.get 399 _ rfl
  unfold Oper.wp
  go_simp
  clear e399
  refine hK _ _ ?_
  clear hK
  refine Sl.step (G := fun a => wpOps _ _ _ _ a _) hsl (by decide) ?_
  intro a1 hs1; clear hsl; have hsl := hs1; clear hs1
  refine ops_go rfl rfl (fun K hK => ?_)
  have e404 := hsl.get 404 _ rfl
  unfold Oper.wp
  go_simp
  clear e404
  refine hK _ _ ?_
  clear hK
  refine Sl.step (G := fun a => wpOps _ _ _ _ a _) hsl (by decide) ?_
  intro a1 hs1; clear hsl; have hsl := hs1; clear hs1
  refine ops_done ?_
  exact h _ _ _ _ _ _ _ _ hsl hb1
set_option maxRecDepth 100000 in
set_option maxHeartbeats 4000000 in
theorem kr51 (w : World) (a : Act) (m : List (Nat × Value)) (hsl : Sl a 548 m) (rest : Code) (Q : Exit → Act → World → Prop) (h : ∀ (a' : Act) (w' : World) (x : Option Addr) (y : Nat) (u443 u444 u445 u442 u446 u447 : Value), Sl a' 548 ([(11, .int .i64 0), (12, .slice x 3 y), (447, u447), (446, u446), (442, u442), (445, u445), (444, u444), (443, u443)] ++ m) → IntsAt w' x [0, 1, 2] → Below w.heap.size w w' → rest.wp Tryd.prog Q a' w') : (Code.seq (regionIn Tryd.f3 51) rest).wp Tryd.prog Q a w := by
  refine wp_seq ?_
  have e : regionIn Tryd.f3 51 = Code.region 51 _ false := rfl
  rw [e]; clear e
  refine wp_region ?_
  refine ops_go rfl rfl (fun K hK => ?_)
  unfold Oper.wp
  go_simp
  refine (roads_any _).mono ?_
  rintro e w1 ⟨g, rfl, hs, hb1⟩
  refine hK _ _ ?_
  clear hK
  refine Sl.step (G := fun a => wpOps _ _ _ _ a _) hsl (by decide) ?_
  intro a1 hs1; clear hsl; have hsl := hs1; clear hs1
  refine ops_go rfl rfl (fun K hK => ?_)
  unfold Oper.wp
  go_simp
  refine (slow_any _).mono ?_
  rintro e w2 ⟨rfl, hb2⟩
  replace hs := hs.below hb2
  replace hb1 := hb1.trans (hb2.mono hb1.size); clear hb2
  refine hK _ _ ?_
  clear hK
  refine Sl.step (G := fun a => wpOps _ _ _ _ a _) hsl (by decide) ?_
  intro a1 hs1; clear hsl; have hsl := hs1; clear hs1
  refine ops_go rfl rfl (fun K hK => ?_)
  have e443 := hsl.get 443 _ rfl
  have e444 := hsl.get 444 _ rfl
  unfold Oper.wp
  go_simp
  refine (kMust1 _ g hs).mono ?_
  rintro e w3 ⟨x, y, rfl, hi, hb⟩
  replace hb1 := hb1.trans (hb.mono hb1.size); clear hb hs
  clear e443 e444
  refine hK _ _ ?_
  clear hK
  refine Sl.step (G := fun a => wpOps _ _ _ _ a _) hsl (by decide) ?_
  intro a1 hs1; clear hsl; have hsl := hs1; clear hs1
  refine ops_go rfl rfl (fun K hK => ?_)
  have e445 := hsl.get 445 _ rfl
  unfold Oper.wp
  go_simp
  clear e445
  refine hK _ _ ?_
  clear hK
  refine Sl.step (G := fun a => wpOps _ _ _ _ a _) hsl (by decide) ?_
  intro a1 hs1; clear hsl; have hsl := hs1; clear hs1
  refine ops_go rfl rfl (fun K hK => ?_)
  have e442 := hsl.get 442 _ rfl
  unfold Oper.wp
  go_simp
  clear e442
  refine hK _ _ ?_
  clear hK
  refine Sl.step (G := fun a => wpOps _ _ _ _ a _) hsl (by decide) ?_
  intro a1 hs1; clear hsl; have hsl := hs1; clear hs1
  refine ops_go rfl rfl (fun K hK => ?_)
  have e442 := hsl.get 442 _ rfl
  unfold Oper.wp
  go_simp
  clear e442
  refine hK _ _ ?_
  clear hK
  refine Sl.step (G := fun a => wpOps _ _ _ _ a _) hsl (by decide) ?_
  intro a1 hs1; clear hsl; have hsl := hs1; clear hs1
  refine ops_go rfl rfl (fun K hK => ?_)
  have e446 := hsl.get 446 _ rfl
  unfold Oper.wp
  go_simp
  clear e446
  refine hK _ _ ?_
  clear hK
  refine Sl.step (G := fun a => wpOps _ _ _ _ a _) hsl (by decide) ?_
  intro a1 hs1; clear hsl; have hsl := hs1; clear hs1
  refine ops_go rfl rfl (fun K hK => ?_)
  have e447 := hsl.get 447 _ rfl
  unfold Oper.wp
  go_simp
  clear e447
  refine hK _ _ ?_
  clear hK
  refine Sl.step (G := fun a => wpOps _ _ _ _ a _) hsl (by decide) ?_
  intro a1 hs1; clear hsl; have hsl := hs1; clear hs1
  refine ops_done ?_
  exact h _ _ x y _ _ _ _ _ _ hsl hi hb1
set_option maxRecDepth 100000 in
set_option maxHeartbeats 4000000 in
theorem kr52 (w : World) (a : Act) (m : List (Nat × Value)) (hsl : Sl a 548 m) (rest : Code) (Q : Exit → Act → World → Prop) (h : ∀ (a' : Act) (w' : World) (x : Option Addr) (y : Nat) (u449 u450 u451 u448 u452 u453 : Value), Sl a' 548 ([(13, .int .i64 0), (14, .slice x 0 y), (453, u453), (452, u452), (448, u448), (451, u451), (450, u450), (449, u449)] ++ m) → IntsAt w' x [] → Below w.heap.size w w' → rest.wp Tryd.prog Q a' w') : (Code.seq (regionIn Tryd.f3 52) rest).wp Tryd.prog Q a w := by
  refine wp_seq ?_
  have e : regionIn Tryd.f3 52 = Code.region 52 _ false := rfl
  rw [e]; clear e
  refine wp_region ?_
  refine ops_go rfl rfl (fun K hK => ?_)
  unfold Oper.wp
  go_simp
  refine (roads_any _).mono ?_
  rintro e w1 ⟨g, rfl, hs, hb1⟩
  refine hK _ _ ?_
  clear hK
  refine Sl.step (G := fun a => wpOps _ _ _ _ a _) hsl (by decide) ?_
  intro a1 hs1; clear hsl; have hsl := hs1; clear hs1
  refine ops_go rfl rfl (fun K hK => ?_)
  unfold Oper.wp
  go_simp
  refine (fast_any _).mono ?_
  rintro e w2 ⟨rfl, hb2⟩
  replace hs := hs.below hb2
  replace hb1 := hb1.trans (hb2.mono hb1.size); clear hb2
  refine hK _ _ ?_
  clear hK
  refine Sl.step (G := fun a => wpOps _ _ _ _ a _) hsl (by decide) ?_
  intro a1 hs1; clear hsl; have hsl := hs1; clear hs1
  refine ops_go rfl rfl (fun K hK => ?_)
  have e449 := hsl.get 449 _ rfl
  have e450 := hsl.get 450 _ rfl
  unfold Oper.wp
  go_simp
  refine (kMust2 _ g hs).mono ?_
  rintro e w3 ⟨x, y, rfl, hi, hb⟩
  replace hb1 := hb1.trans (hb.mono hb1.size); clear hb hs
  clear e449 e450
  refine hK _ _ ?_
  clear hK
  refine Sl.step (G := fun a => wpOps _ _ _ _ a _) hsl (by decide) ?_
  intro a1 hs1; clear hsl; have hsl := hs1; clear hs1
  refine ops_go rfl rfl (fun K hK => ?_)
  have e451 := hsl.get 451 _ rfl
  unfold Oper.wp
  go_simp
  clear e451
  refine hK _ _ ?_
  clear hK
  refine Sl.step (G := fun a => wpOps _ _ _ _ a _) hsl (by decide) ?_
  intro a1 hs1; clear hsl; have hsl := hs1; clear hs1
  refine ops_go rfl rfl (fun K hK => ?_)
  have e448 := hsl.get 448 _ rfl
  unfold Oper.wp
  go_simp
  clear e448
  refine hK _ _ ?_
  clear hK
  refine Sl.step (G := fun a => wpOps _ _ _ _ a _) hsl (by decide) ?_
  intro a1 hs1; clear hsl; have hsl := hs1; clear hs1
  refine ops_go rfl rfl (fun K hK => ?_)
  have e448 := hsl.get 448 _ rfl
  unfold Oper.wp
  go_simp
  clear e448
  refine hK _ _ ?_
  clear hK
  refine Sl.step (G := fun a => wpOps _ _ _ _ a _) hsl (by decide) ?_
  intro a1 hs1; clear hsl; have hsl := hs1; clear hs1
  refine ops_go rfl rfl (fun K hK => ?_)
  have e452 := hsl.get 452 _ rfl
  unfold Oper.wp
  go_simp
  clear e452
  refine hK _ _ ?_
  clear hK
  refine Sl.step (G := fun a => wpOps _ _ _ _ a _) hsl (by decide) ?_
  intro a1 hs1; clear hsl; have hsl := hs1; clear hs1
  refine ops_go rfl rfl (fun K hK => ?_)
  have e453 := hsl.get 453 _ rfl
  unfold Oper.wp
  go_simp
  clear e453
  refine hK _ _ ?_
  clear hK
  refine Sl.step (G := fun a => wpOps _ _ _ _ a _) hsl (by decide) ?_
  intro a1 hs1; clear hsl; have hsl := hs1; clear hs1
  refine ops_done ?_
  exact h _ _ x y _ _ _ _ _ _ hsl hi hb1
set_option maxRecDepth 100000 in
set_option maxHeartbeats 4000000 in
theorem kr53 (w : World) (a : Act) (m : List (Nat × Value)) (hsl : Sl a 548 m) (rest : Code) (Q : Exit → Act → World → Prop) (h : ∀ (a' : Act) (w' : World) (x : Option Addr) (y : Nat) (u455 u456 u457 u454 u458 u459 : Value), Sl a' 548 ([(15, .int .i64 0), (16, .slice x 1 y), (459, u459), (458, u458), (454, u454), (457, u457), (456, u456), (455, u455)] ++ m) → IntsAt w' x [3] → Below w.heap.size w w' → rest.wp Tryd.prog Q a' w') : (Code.seq (regionIn Tryd.f3 53) rest).wp Tryd.prog Q a w := by
  refine wp_seq ?_
  have e : regionIn Tryd.f3 53 = Code.region 53 _ false := rfl
  rw [e]; clear e
  refine wp_region ?_
  refine ops_go rfl rfl (fun K hK => ?_)
  unfold Oper.wp
  go_simp
  refine (roads_any _).mono ?_
  rintro e w1 ⟨g, rfl, hs, hb1⟩
  refine hK _ _ ?_
  clear hK
  refine Sl.step (G := fun a => wpOps _ _ _ _ a _) hsl (by decide) ?_
  intro a1 hs1; clear hsl; have hsl := hs1; clear hs1
  refine ops_go rfl rfl (fun K hK => ?_)
  unfold Oper.wp
  go_simp
  refine (fast_any _).mono ?_
  rintro e w2 ⟨rfl, hb2⟩
  replace hs := hs.below hb2
  replace hb1 := hb1.trans (hb2.mono hb1.size); clear hb2
  refine hK _ _ ?_
  clear hK
  refine Sl.step (G := fun a => wpOps _ _ _ _ a _) hsl (by decide) ?_
  intro a1 hs1; clear hsl; have hsl := hs1; clear hs1
  refine ops_go rfl rfl (fun K hK => ?_)
  have e455 := hsl.get 455 _ rfl
  have e456 := hsl.get 456 _ rfl
  unfold Oper.wp
  go_simp
  refine (kMust3 _ g hs).mono ?_
  rintro e w3 ⟨x, y, rfl, hi, hb⟩
  replace hb1 := hb1.trans (hb.mono hb1.size); clear hb hs
  clear e455 e456
  refine hK _ _ ?_
  clear hK
  refine Sl.step (G := fun a => wpOps _ _ _ _ a _) hsl (by decide) ?_
  intro a1 hs1; clear hsl; have hsl := hs1; clear hs1
  refine ops_go rfl rfl (fun K hK => ?_)
  have e457 := hsl.get 457 _ rfl
  unfold Oper.wp
  go_simp
  clear e457
  refine hK _ _ ?_
  clear hK
  refine Sl.step (G := fun a => wpOps _ _ _ _ a _) hsl (by decide) ?_
  intro a1 hs1; clear hsl; have hsl := hs1; clear hs1
  refine ops_go rfl rfl (fun K hK => ?_)
  have e454 := hsl.get 454 _ rfl
  unfold Oper.wp
  go_simp
  clear e454
  refine hK _ _ ?_
  clear hK
  refine Sl.step (G := fun a => wpOps _ _ _ _ a _) hsl (by decide) ?_
  intro a1 hs1; clear hsl; have hsl := hs1; clear hs1
  refine ops_go rfl rfl (fun K hK => ?_)
  have e454 := hsl.get 454 _ rfl
  unfold Oper.wp
  go_simp
  clear e454
  refine hK _ _ ?_
  clear hK
  refine Sl.step (G := fun a => wpOps _ _ _ _ a _) hsl (by decide) ?_
  intro a1 hs1; clear hsl; have hsl := hs1; clear hs1
  refine ops_go rfl rfl (fun K hK => ?_)
  have e458 := hsl.get 458 _ rfl
  unfold Oper.wp
  go_simp
  clear e458
  refine hK _ _ ?_
  clear hK
  refine Sl.step (G := fun a => wpOps _ _ _ _ a _) hsl (by decide) ?_
  intro a1 hs1; clear hsl; have hsl := hs1; clear hs1
  refine ops_go rfl rfl (fun K hK => ?_)
  have e459 := hsl.get 459 _ rfl
  unfold Oper.wp
  go_simp
  clear e459
  refine hK _ _ ?_
  clear hK
  refine Sl.step (G := fun a => wpOps _ _ _ _ a _) hsl (by decide) ?_
  intro a1 hs1; clear hsl; have hsl := hs1; clear hs1
  refine ops_done ?_
  exact h _ _ x y _ _ _ _ _ _ hsl hi hb1
set_option maxRecDepth 100000 in
set_option maxHeartbeats 4000000 in
theorem kr54 (w : World) (a : Act) (m : List (Nat × Value)) (hsl : Sl a 548 m) (rest : Code) (Q : Exit → Act → World → Prop) (h : ∀ (a' : Act) (w' : World) (x : Option Addr) (y : Nat) (u461 u462 u463 u460 u464 u465 : Value), Sl a' 548 ([(17, .int .i64 0), (18, .slice x 1 y), (465, u465), (464, u464), (460, u460), (463, u463), (462, u462), (461, u461)] ++ m) → IntsAt w' x [3] → Below w.heap.size w w' → rest.wp Tryd.prog Q a' w') : (Code.seq (regionIn Tryd.f3 54) rest).wp Tryd.prog Q a w := by
  refine wp_seq ?_
  have e : regionIn Tryd.f3 54 = Code.region 54 _ false := rfl
  rw [e]; clear e
  refine wp_region ?_
  refine ops_go rfl rfl (fun K hK => ?_)
  unfold Oper.wp
  go_simp
  refine (roads_any _).mono ?_
  rintro e w1 ⟨g, rfl, hs, hb1⟩
  refine hK _ _ ?_
  clear hK
  refine Sl.step (G := fun a => wpOps _ _ _ _ a _) hsl (by decide) ?_
  intro a1 hs1; clear hsl; have hsl := hs1; clear hs1
  refine ops_go rfl rfl (fun K hK => ?_)
  unfold Oper.wp
  go_simp
  refine (slow_any _).mono ?_
  rintro e w2 ⟨rfl, hb2⟩
  replace hs := hs.below hb2
  replace hb1 := hb1.trans (hb2.mono hb1.size); clear hb2
  refine hK _ _ ?_
  clear hK
  refine Sl.step (G := fun a => wpOps _ _ _ _ a _) hsl (by decide) ?_
  intro a1 hs1; clear hsl; have hsl := hs1; clear hs1
  refine ops_go rfl rfl (fun K hK => ?_)
  have e461 := hsl.get 461 _ rfl
  have e462 := hsl.get 462 _ rfl
  unfold Oper.wp
  go_simp
  refine (kCut1 _ g hs).mono ?_
  rintro e w3 ⟨x, y, rfl, hi, hb⟩
  replace hb1 := hb1.trans (hb.mono hb1.size); clear hb hs
  clear e461 e462
  refine hK _ _ ?_
  clear hK
  refine Sl.step (G := fun a => wpOps _ _ _ _ a _) hsl (by decide) ?_
  intro a1 hs1; clear hsl; have hsl := hs1; clear hs1
  refine ops_go rfl rfl (fun K hK => ?_)
  have e463 := hsl.get 463 _ rfl
  unfold Oper.wp
  go_simp
  clear e463
  refine hK _ _ ?_
  clear hK
  refine Sl.step (G := fun a => wpOps _ _ _ _ a _) hsl (by decide) ?_
  intro a1 hs1; clear hsl; have hsl := hs1; clear hs1
  refine ops_go rfl rfl (fun K hK => ?_)
  have e460 := hsl.get 460 _ rfl
  unfold Oper.wp
  go_simp
  clear e460
  refine hK _ _ ?_
  clear hK
  refine Sl.step (G := fun a => wpOps _ _ _ _ a _) hsl (by decide) ?_
  intro a1 hs1; clear hsl; have hsl := hs1; clear hs1
  refine ops_go rfl rfl (fun K hK => ?_)
  have e460 := hsl.get 460 _ rfl
  unfold Oper.wp
  go_simp
  clear e460
  refine hK _ _ ?_
  clear hK
  refine Sl.step (G := fun a => wpOps _ _ _ _ a _) hsl (by decide) ?_
  intro a1 hs1; clear hsl; have hsl := hs1; clear hs1
  refine ops_go rfl rfl (fun K hK => ?_)
  have e464 := hsl.get 464 _ rfl
  unfold Oper.wp
  go_simp
  clear e464
  refine hK _ _ ?_
  clear hK
  refine Sl.step (G := fun a => wpOps _ _ _ _ a _) hsl (by decide) ?_
  intro a1 hs1; clear hsl; have hsl := hs1; clear hs1
  refine ops_go rfl rfl (fun K hK => ?_)
  have e465 := hsl.get 465 _ rfl
  unfold Oper.wp
  go_simp
  clear e465
  refine hK _ _ ?_
  clear hK
  refine Sl.step (G := fun a => wpOps _ _ _ _ a _) hsl (by decide) ?_
  intro a1 hs1; clear hsl; have hsl := hs1; clear hs1
  refine ops_done ?_
  exact h _ _ x y _ _ _ _ _ _ hsl hi hb1
set_option maxRecDepth 100000 in
set_option maxHeartbeats 4000000 in
theorem kr55 (w : World) (a : Act) (m : List (Nat × Value)) (hsl : Sl a 548 m) (rest : Code) (Q : Exit → Act → World → Prop) (h : ∀ (a' : Act) (w' : World) (x : Option Addr) (y : Nat) (u467 u468 u469 u466 u470 u471 : Value), Sl a' 548 ([(19, .int .i64 0), (29, .slice x 3 y), (471, u471), (470, u470), (466, u466), (469, u469), (468, u468), (467, u467)] ++ m) → IntsAt w' x [1, 2, 3] → Below w.heap.size w w' → rest.wp Tryd.prog Q a' w') : (Code.seq (regionIn Tryd.f3 55) rest).wp Tryd.prog Q a w := by
  refine wp_seq ?_
  have e : regionIn Tryd.f3 55 = Code.region 55 _ false := rfl
  rw [e]; clear e
  refine wp_region ?_
  refine ops_go rfl rfl (fun K hK => ?_)
  unfold Oper.wp
  go_simp
  refine (roads_any _).mono ?_
  rintro e w1 ⟨g, rfl, hs, hb1⟩
  refine hK _ _ ?_
  clear hK
  refine Sl.step (G := fun a => wpOps _ _ _ _ a _) hsl (by decide) ?_
  intro a1 hs1; clear hsl; have hsl := hs1; clear hs1
  refine ops_go rfl rfl (fun K hK => ?_)
  unfold Oper.wp
  go_simp
  refine (slow_any _).mono ?_
  rintro e w2 ⟨rfl, hb2⟩
  replace hs := hs.below hb2
  replace hb1 := hb1.trans (hb2.mono hb1.size); clear hb2
  refine hK _ _ ?_
  clear hK
  refine Sl.step (G := fun a => wpOps _ _ _ _ a _) hsl (by decide) ?_
  intro a1 hs1; clear hsl; have hsl := hs1; clear hs1
  refine ops_go rfl rfl (fun K hK => ?_)
  have e467 := hsl.get 467 _ rfl
  have e468 := hsl.get 468 _ rfl
  unfold Oper.wp
  go_simp
  refine (kCut2 _ g hs).mono ?_
  rintro e w3 ⟨x, y, rfl, hi, hb⟩
  replace hb1 := hb1.trans (hb.mono hb1.size); clear hb hs
  clear e467 e468
  refine hK _ _ ?_
  clear hK
  refine Sl.step (G := fun a => wpOps _ _ _ _ a _) hsl (by decide) ?_
  intro a1 hs1; clear hsl; have hsl := hs1; clear hs1
  refine ops_go rfl rfl (fun K hK => ?_)
  have e469 := hsl.get 469 _ rfl
  unfold Oper.wp
  go_simp
  clear e469
  refine hK _ _ ?_
  clear hK
  refine Sl.step (G := fun a => wpOps _ _ _ _ a _) hsl (by decide) ?_
  intro a1 hs1; clear hsl; have hsl := hs1; clear hs1
  refine ops_go rfl rfl (fun K hK => ?_)
  have e466 := hsl.get 466 _ rfl
  unfold Oper.wp
  go_simp
  clear e466
  refine hK _ _ ?_
  clear hK
  refine Sl.step (G := fun a => wpOps _ _ _ _ a _) hsl (by decide) ?_
  intro a1 hs1; clear hsl; have hsl := hs1; clear hs1
  refine ops_go rfl rfl (fun K hK => ?_)
  have e466 := hsl.get 466 _ rfl
  unfold Oper.wp
  go_simp
  clear e466
  refine hK _ _ ?_
  clear hK
  refine Sl.step (G := fun a => wpOps _ _ _ _ a _) hsl (by decide) ?_
  intro a1 hs1; clear hsl; have hsl := hs1; clear hs1
  refine ops_go rfl rfl (fun K hK => ?_)
  have e470 := hsl.get 470 _ rfl
  unfold Oper.wp
  go_simp
  clear e470
  refine hK _ _ ?_
  clear hK
  refine Sl.step (G := fun a => wpOps _ _ _ _ a _) hsl (by decide) ?_
  intro a1 hs1; clear hsl; have hsl := hs1; clear hs1
  refine ops_go rfl rfl (fun K hK => ?_)
  have e471 := hsl.get 471 _ rfl
  unfold Oper.wp
  go_simp
  clear e471
  refine hK _ _ ?_
  clear hK
  refine Sl.step (G := fun a => wpOps _ _ _ _ a _) hsl (by decide) ?_
  intro a1 hs1; clear hsl; have hsl := hs1; clear hs1
  refine ops_done ?_
  exact h _ _ x y _ _ _ _ _ _ hsl hi hb1
set_option maxRecDepth 100000 in
set_option maxHeartbeats 4000000 in
theorem kr56 (w : World) (a : Act) (m : List (Nat × Value)) (hsl : Sl a 548 m) (rest : Code) (Q : Exit → Act → World → Prop) (h : ∀ (a' : Act) (w' : World) (x : Option Addr) (y : Nat) (u473 u474 u475 u472 u476 u477 u478 : Value), Sl a' 548 ([(31, .int .i64 0), (26, .int .i64 12), (30, .slice x 3 y), (478, u478), (477, u477), (476, u476), (472, u472), (475, u475), (474, u474), (473, u473)] ++ m) → IntsAt w' x [0, 1, 2] → Below w.heap.size w w' → rest.wp Tryd.prog Q a' w') : (Code.seq (regionIn Tryd.f3 56) rest).wp Tryd.prog Q a w := by
  refine wp_seq ?_
  have e : regionIn Tryd.f3 56 = Code.region 56 _ false := rfl
  rw [e]; clear e
  refine wp_region ?_
  refine ops_go rfl rfl (fun K hK => ?_)
  unfold Oper.wp
  go_simp
  refine (roads_any _).mono ?_
  rintro e w1 ⟨g, rfl, hs, hb1⟩
  refine hK _ _ ?_
  clear hK
  refine Sl.step (G := fun a => wpOps _ _ _ _ a _) hsl (by decide) ?_
  intro a1 hs1; clear hsl; have hsl := hs1; clear hs1
  refine ops_go rfl rfl (fun K hK => ?_)
  unfold Oper.wp
  go_simp
  refine (slow_any _).mono ?_
  rintro e w2 ⟨rfl, hb2⟩
  replace hs := hs.below hb2
  replace hb1 := hb1.trans (hb2.mono hb1.size); clear hb2
  refine hK _ _ ?_
  clear hK
  refine Sl.step (G := fun a => wpOps _ _ _ _ a _) hsl (by decide) ?_
  intro a1 hs1; clear hsl; have hsl := hs1; clear hs1
  refine ops_go rfl rfl (fun K hK => ?_)
  have e473 := hsl.get 473 _ rfl
  have e474 := hsl.get 474 _ rfl
  unfold Oper.wp
  go_simp
  refine (kWay _ g hs).mono ?_
  rintro e w3 ⟨x, y, rfl, hi, hb⟩
  replace hb1 := hb1.trans (hb.mono hb1.size); clear hb hs
  clear e473 e474
  refine hK _ _ ?_
  clear hK
  refine Sl.step (G := fun a => wpOps _ _ _ _ a _) hsl (by decide) ?_
  intro a1 hs1; clear hsl; have hsl := hs1; clear hs1
  refine ops_go rfl rfl (fun K hK => ?_)
  have e475 := hsl.get 475 _ rfl
  unfold Oper.wp
  go_simp
  clear e475
  refine hK _ _ ?_
  clear hK
  refine Sl.step (G := fun a => wpOps _ _ _ _ a _) hsl (by decide) ?_
  intro a1 hs1; clear hsl; have hsl := hs1; clear hs1
  refine ops_go rfl rfl (fun K hK => ?_)
  have e472 := hsl.get 472 _ rfl
  unfold Oper.wp
  go_simp
  clear e472
  refine hK _ _ ?_
  clear hK
  refine Sl.step (G := fun a => wpOps _ _ _ _ a _) hsl (by decide) ?_
  intro a1 hs1; clear hsl; have hsl := hs1; clear hs1
  refine ops_go rfl rfl (fun K hK => ?_)
  have e472 := hsl.get 472 _ rfl
  unfold Oper.wp
  go_simp
  clear e472
  refine hK _ _ ?_
  clear hK
  refine Sl.step (G := fun a => wpOps _ _ _ _ a _) hsl (by decide) ?_
  intro a1 hs1; clear hsl; have hsl := hs1; clear hs1
  refine ops_go rfl rfl (fun K hK => ?_)
  have e472 := hsl.get 472 _ rfl
  unfold Oper.wp
  go_simp
  clear e472
  refine hK _ _ ?_
  clear hK
  refine Sl.step (G := fun a => wpOps _ _ _ _ a _) hsl (by decide) ?_
  intro a1 hs1; clear hsl; have hsl := hs1; clear hs1
  refine ops_go rfl rfl (fun K hK => ?_)
  have e476 := hsl.get 476 _ rfl
  unfold Oper.wp
  go_simp
  clear e476
  refine hK _ _ ?_
  clear hK
  refine Sl.step (G := fun a => wpOps _ _ _ _ a _) hsl (by decide) ?_
  intro a1 hs1; clear hsl; have hsl := hs1; clear hs1
  refine ops_go rfl rfl (fun K hK => ?_)
  have e477 := hsl.get 477 _ rfl
  unfold Oper.wp
  go_simp
  clear e477
  refine hK _ _ ?_
  clear hK
  refine Sl.step (G := fun a => wpOps _ _ _ _ a _) hsl (by decide) ?_
  intro a1 hs1; clear hsl; have hsl := hs1; clear hs1
  refine ops_go rfl rfl (fun K hK => ?_)
  have e478 := hsl.get 478 _ rfl
  unfold Oper.wp
  go_simp
  clear e478
  refine hK _ _ ?_
  clear hK
  refine Sl.step (G := fun a => wpOps _ _ _ _ a _) hsl (by decide) ?_
  intro a1 hs1; clear hsl; have hsl := hs1; clear hs1
  refine ops_done ?_
  exact h _ _ x y _ _ _ _ _ _ _ hsl hi hb1
end Go.Proofs.YtmkjeonjhedgkaaDoor
