/- Regions of RoadKnown, one by one. -/
import Derived.Test.YtmkjeonjhedgkaaDoorKnownK
import Derived.Test.YtmkjeonjhedgkaaDoorBig
/- Regions of RoadKnown, one by one. -/
namespace Go.Proofs.YtmkjeonjhedgkaaDoor
set_option linter.unusedSimpArgs false
set_option linter.unusedVariables false
open Go.RowKit

def textK : List UInt8 := [114, 111, 97, 100, 115, 32, 52, 32, 115, 116, 97, 103, 101, 115, 32, 54, 32, 100, 97, 121, 115, 10, 48, 45, 49, 32, 53, 32, 108, 101, 97, 103, 117, 101, 115, 32, 57, 48, 32, 119, 105, 100, 101, 10, 49, 45, 50, 32, 52, 32, 108, 101, 97, 103, 117, 101, 115, 32, 52, 53, 32, 119, 105, 100, 101, 32, 112, 97, 115, 115, 32, 50, 45, 52, 10, 50, 45, 51, 32, 51, 32, 108, 101, 97, 103, 117, 101, 115, 32, 50, 53, 32, 119, 105, 100, 101, 32, 102, 111, 114, 100, 32, 49, 48, 32, 45, 49, 10, 48, 45, 51, 32, 57, 32, 108, 101, 97, 103, 117, 101, 115, 32, 52, 53, 32, 119, 105, 100, 101, 32, 98, 114, 105, 100, 103, 101, 32, 50, 48, 10, 101, 110, 100, 10]
theorem kWrite2 : writeV exRoads = (textK, 0) := kWrite
theorem textK_eq : ((⟨textK.toArray⟩ : ByteArray) == ⟨#[114, 111, 97, 100, 115, 32, 52, 32, 115, 116, 97, 103, 101, 115, 32, 54, 32, 100, 97, 121, 115, 10, 48, 45, 49, 32, 53, 32, 108, 101, 97, 103, 117, 101, 115, 32, 57, 48, 32, 119, 105, 100, 101, 10, 49, 45, 50, 32, 52, 32, 108, 101, 97, 103, 117, 101, 115, 32, 52, 53, 32, 119, 105, 100, 101, 32, 112, 97, 115, 115, 32, 50, 45, 52, 10, 50, 45, 51, 32, 51, 32, 108, 101, 97, 103, 117, 101, 115, 32, 50, 53, 32, 119, 105, 100, 101, 32, 102, 111, 114, 100, 32, 49, 48, 32, 45, 49, 10, 48, 45, 51, 32, 57, 32, 108, 101, 97, 103, 117, 101, 115, 32, 52, 53, 32, 119, 105, 100, 101, 32, 98, 114, 105, 100, 103, 101, 32, 50, 48, 10, 101, 110, 100, 10]⟩) = true := by decide +kernel
set_option maxRecDepth 100000 in
set_option maxHeartbeats 4000000 in
theorem kr57 (w : World) (a : Act) (m : List (Nat × Value)) (hsl : Sl a 548 m) (ht : TabOk w) (rest : Code) (Q : Exit → Act → World → Prop) (h : ∀ (a' : Act) (w' : World) (u480 u481 u479 u482 u483 : Value), Sl a' 548 ([(33, .int .i64 0), (32, .string ⟨textK.toArray⟩), (483, u483), (482, u482), (479, u479), (481, u481), (480, u480)] ++ m) → Below w.heap.size w w' → rest.wp Tryd.prog Q a' w') : (Code.seq (regionIn Tryd.f3 57) rest).wp Tryd.prog Q a w := by
  refine wp_seq ?_
  have e : regionIn Tryd.f3 57 = Code.region 57 _ false := rfl
  rw [e]; clear e
  refine wp_region ?_
  refine ops_go rfl rfl (fun K hK => ?_)
  unfold Oper.wp
  go_simp
  refine (roads_any _).mono ?_
  rintro e w1 ⟨g, rfl, hs, hb1⟩
  refine hK _ _ ?_
  clear hK
  refine Sl.step (G := fun a => wpOps _ _ _ _ a _) hsl (by decide) ?_
  intro a1 hs1; clear hsl; have hsl := hs1; clear hs1
  refine ops_go rfl rfl (fun K hK => ?_)
  have e480 := hsl.get 480 _ rfl
  unfold Oper.wp
  go_simp
  refine (Write_any _ exRoads (some ⟨g, 0, none⟩) 4 hs four (ht.below hb1)).mono ?_
  rintro e w3 ⟨rfl, hb⟩
  replace hb1 := hb1.trans (hb.mono hb1.size); clear hb hs
  rw [kWrite2]
  clear e480
  refine hK _ _ ?_
  clear hK
  refine Sl.step (G := fun a => wpOps _ _ _ _ a _) hsl (by decide) ?_
  intro a1 hs1; clear hsl; have hsl := hs1; clear hs1
  refine ops_go rfl rfl (fun K hK => ?_)
  have e481 := hsl.get 481 _ rfl
  unfold Oper.wp
  go_simp
  clear e481
  refine hK _ _ ?_
  clear hK
  refine Sl.step (G := fun a => wpOps _ _ _ _ a _) hsl (by decide) ?_
  intro a1 hs1; clear hsl; have hsl := hs1; clear hs1
  refine ops_go rfl rfl (fun K hK => ?_)
  have e479 := hsl.get 479 _ rfl
  unfold Oper.wp
  go_simp
  clear e479
  refine hK _ _ ?_
  clear hK
  refine Sl.step (G := fun a => wpOps _ _ _ _ a _) hsl (by decide) ?_
  intro a1 hs1; clear hsl; have hsl := hs1; clear hs1
  refine ops_go rfl rfl (fun K hK => ?_)
  have e479 := hsl.get 479 _ rfl
  unfold Oper.wp
  go_simp
  clear e479
  refine hK _ _ ?_
  clear hK
  refine Sl.step (G := fun a => wpOps _ _ _ _ a _) hsl (by decide) ?_
  intro a1 hs1; clear hsl; have hsl := hs1; clear hs1
  refine ops_go rfl rfl (fun K hK => ?_)
  have e482 := hsl.get 482 _ rfl
  unfold Oper.wp
  go_simp
  clear e482
  refine hK _ _ ?_
  clear hK
  refine Sl.step (G := fun a => wpOps _ _ _ _ a _) hsl (by decide) ?_
  intro a1 hs1; clear hsl; have hsl := hs1; clear hs1
  refine ops_go rfl rfl (fun K hK => ?_)
  have e483 := hsl.get 483 _ rfl
  unfold Oper.wp
  go_simp
  clear e483
  refine hK _ _ ?_
  clear hK
  refine Sl.step (G := fun a => wpOps _ _ _ _ a _) hsl (by decide) ?_
  intro a1 hs1; clear hsl; have hsl := hs1; clear hs1
  refine ops_done ?_
  exact h _ _ _ _ _ _ _ hsl hb1
set_option maxRecDepth 100000 in
set_option maxHeartbeats 4000000 in
theorem kr58 (w : World) (x12 : Option Addr) (y12 : Nat) (x14 : Option Addr) (y14 : Nat) (x16 : Option Addr) (y16 : Nat) (x18 : Option Addr) (y18 : Nat) (x29 : Option Addr) (y29 : Nat) (x30 : Option Addr) (y30 : Nat) (f12 : IntsAt w x12 [0, 1, 2]) (f14 : IntsAt w x14 []) (f16 : IntsAt w x16 [3]) (f18 : IntsAt w x18 [3]) (f29 : IntsAt w x29 [1, 2, 3]) (f30 : IntsAt w x30 [0, 1, 2]) (a : Act) (m : List (Nat × Value)) (hsl : Sl a 548 ([(11, .int .i64 0), (13, .int .i64 0), (15, .int .i64 0), (17, .int .i64 0), (19, .int .i64 0), (26, .int .i64 12), (31, .int .i64 0), (33, .int .i64 0), (12, .slice x12 3 y12), (14, .slice x14 0 y14), (16, .slice x16 1 y16), (18, .slice x18 1 y18), (29, .slice x29 3 y29), (30, .slice x30 3 y30), (32, .string ⟨textK.toArray⟩)] ++ m)) (rest : Code) (Q : Exit → Act → World → Prop) (h : ∀ (a' : Act) (w' : World) (u484 u485 u486 u487 u488 u489 u490 u491 u492 u493 u494 u495 u496 u497 u498 u499 u500 u501 u502 u503 u504 u505 u506 u507 u508 u509 u510 u511 u512 u513 u514 u515 u516 u517 u518 u519 u520 u521 u522 u523 u524 u525 u526 u527 u528 u529 u530 u531 u532 u533 u534 u535 u536 u537 u538 u539 u540 u541 u542 u543 u544 u545 u546 u547 : Value), Sl a' 548 ([(0, .bool true), (547, u547), (546, u546), (545, u545), (544, u544), (543, u543), (542, u542), (541, u541), (540, u540), (539, u539), (538, u538), (537, u537), (536, u536), (535, u535), (534, u534), (533, u533), (532, u532), (531, u531), (530, u530), (529, u529), (528, u528), (527, u527), (526, u526), (525, u525), (524, u524), (523, u523), (522, u522), (521, u521), (520, u520), (519, u519), (518, u518), (517, u517), (516, u516), (515, u515), (514, u514), (513, u513), (512, u512), (511, u511), (510, u510), (509, u509), (508, u508), (507, u507), (506, u506), (505, u505), (504, u504), (503, u503), (502, u502), (501, u501), (500, u500), (499, u499), (498, u498), (497, u497), (496, u496), (495, u495), (494, u494), (493, u493), (492, u492), (491, u491), (490, u490), (489, u489), (488, u488), (487, u487), (486, u486), (485, u485), (484, u484)] ++ ([(11, .int .i64 0), (13, .int .i64 0), (15, .int .i64 0), (17, .int .i64 0), (19, .int .i64 0), (26, .int .i64 12), (31, .int .i64 0), (33, .int .i64 0), (12, .slice x12 3 y12), (14, .slice x14 0 y14), (16, .slice x16 1 y16), (18, .slice x18 1 y18), (29, .slice x29 3 y29), (30, .slice x30 3 y30), (32, .string ⟨textK.toArray⟩)] ++ m)) → Below w.heap.size w w' → rest.wp Tryd.prog Q a' w') : (Code.seq (regionIn Tryd.f3 58) rest).wp Tryd.prog Q a w := by
  refine wp_seq ?_
  have e : regionIn Tryd.f3 58 = Code.region 58 _ false := rfl
  rw [e]; clear e
  refine wp_region ?_
  have HB := Below.refl w.heap.size w
  have F14 := Lib.hid f14; clear f14
  have F12 := Lib.hid f12; clear f12
  have F16 := Lib.hid f16; clear f16
  have F18 := Lib.hid f18; clear f18
  have F29 := Lib.hid f29; clear f29
  have F30 := Lib.hid f30; clear f30
  refine ops_go rfl rfl (fun K hK => ?_)
  have e11 := hsl.get 11 _ rfl
  unfold Oper.wp
  go_simp
  clear e11
  refine hK _ _ ?_
  clear hK
  refine Sl.step (G := fun a => wpOps _ _ _ _ a _) hsl (by decide) ?_
  intro a1 hs1; clear hsl; have hsl := hs1; clear hs1
  refine ops_go rfl rfl (fun K hK => ?_)
  have e484 := hsl.get 484 _ rfl
  unfold Oper.wp
  go_simp
  clear e484
  refine hK _ _ ?_
  clear hK
  refine Sl.step (G := fun a => wpOps _ _ _ _ a _) hsl (by decide) ?_
  intro a1 hs1; clear hsl; have hsl := hs1; clear hs1
  refine ops_go rfl rfl (fun K hK => ?_)
  have e485 := hsl.get 485 _ rfl
  unfold Oper.wp
  go_simp
  clear e485
  refine hK _ _ ?_
  clear hK
  refine Sl.step (G := fun a => wpOps _ _ _ _ a _) hsl (by decide) ?_
  intro a1 hs1; clear hsl; have hsl := hs1; clear hs1
  refine ops_want rfl rfl rfl rfl (hsl.get 486 _ rfl) (fun K hK => ?_)
  have e13 := hsl.get 13 _ rfl
  unfold Oper.wp
  go_simp
  clear e13
  refine hK _ _ ?_
  clear hK
  refine Sl.step (G := fun a => wpOps _ _ _ _ a _) hsl (by decide) ?_
  intro a1 hs1; clear hsl; have hsl := hs1; clear hs1
  refine ops_want rfl rfl rfl rfl (hsl.get 486 _ rfl) (fun K hK => ?_)
  have e487 := hsl.get 487 _ rfl
  unfold Oper.wp
  go_simp
  clear e487
  refine hK _ _ ?_
  clear hK
  refine Sl.step (G := fun a => wpOps _ _ _ _ a _) hsl (by decide) ?_
  intro a1 hs1; clear hsl; have hsl := hs1; clear hs1
  refine ops_go rfl rfl (fun K hK => ?_)
  have e486 := hsl.get 486 _ rfl
  have e488 := hsl.get 488 _ rfl
  unfold Oper.wp
  go_simp
  clear e486 e488
  refine hK _ _ ?_
  clear hK
  refine Sl.step (G := fun a => wpOps _ _ _ _ a _) hsl (by decide) ?_
  intro a1 hs1; clear hsl; have hsl := hs1; clear hs1
  refine ops_go rfl rfl (fun K hK => ?_)
  have e489 := hsl.get 489 _ rfl
  unfold Oper.wp
  go_simp
  clear e489
  refine hK _ _ ?_
  clear hK
  refine Sl.step (G := fun a => wpOps _ _ _ _ a _) hsl (by decide) ?_
  intro a1 hs1; clear hsl; have hsl := hs1; clear hs1
  refine ops_want rfl rfl rfl rfl (hsl.get 490 _ rfl) (fun K hK => ?_)
  have e15 := hsl.get 15 _ rfl
  unfold Oper.wp
  go_simp
  clear e15
  refine hK _ _ ?_
  clear hK
  refine Sl.step (G := fun a => wpOps _ _ _ _ a _) hsl (by decide) ?_
  intro a1 hs1; clear hsl; have hsl := hs1; clear hs1
  refine ops_want rfl rfl rfl rfl (hsl.get 490 _ rfl) (fun K hK => ?_)
  have e491 := hsl.get 491 _ rfl
  unfold Oper.wp
  go_simp
  clear e491
  refine hK _ _ ?_
  clear hK
  refine Sl.step (G := fun a => wpOps _ _ _ _ a _) hsl (by decide) ?_
  intro a1 hs1; clear hsl; have hsl := hs1; clear hs1
  refine ops_go rfl rfl (fun K hK => ?_)
  have e490 := hsl.get 490 _ rfl
  have e492 := hsl.get 492 _ rfl
  unfold Oper.wp
  go_simp
  clear e490 e492
  refine hK _ _ ?_
  clear hK
  refine Sl.step (G := fun a => wpOps _ _ _ _ a _) hsl (by decide) ?_
  intro a1 hs1; clear hsl; have hsl := hs1; clear hs1
  refine ops_go rfl rfl (fun K hK => ?_)
  have e493 := hsl.get 493 _ rfl
  unfold Oper.wp
  go_simp
  clear e493
  refine hK _ _ ?_
  clear hK
  refine Sl.step (G := fun a => wpOps _ _ _ _ a _) hsl (by decide) ?_
  intro a1 hs1; clear hsl; have hsl := hs1; clear hs1
  refine ops_want rfl rfl rfl rfl (hsl.get 494 _ rfl) (fun K hK => ?_)
  have e17 := hsl.get 17 _ rfl
  unfold Oper.wp
  go_simp
  clear e17
  refine hK _ _ ?_
  clear hK
  refine Sl.step (G := fun a => wpOps _ _ _ _ a _) hsl (by decide) ?_
  intro a1 hs1; clear hsl; have hsl := hs1; clear hs1
  refine ops_want rfl rfl rfl rfl (hsl.get 494 _ rfl) (fun K hK => ?_)
  have e495 := hsl.get 495 _ rfl
  unfold Oper.wp
  go_simp
  clear e495
  refine hK _ _ ?_
  clear hK
  refine Sl.step (G := fun a => wpOps _ _ _ _ a _) hsl (by decide) ?_
  intro a1 hs1; clear hsl; have hsl := hs1; clear hs1
  refine ops_go rfl rfl (fun K hK => ?_)
  have e494 := hsl.get 494 _ rfl
  have e496 := hsl.get 496 _ rfl
  unfold Oper.wp
  go_simp
  clear e494 e496
  refine hK _ _ ?_
  clear hK
  refine Sl.step (G := fun a => wpOps _ _ _ _ a _) hsl (by decide) ?_
  intro a1 hs1; clear hsl; have hsl := hs1; clear hs1
  refine ops_go rfl rfl (fun K hK => ?_)
  have e497 := hsl.get 497 _ rfl
  unfold Oper.wp
  go_simp
  clear e497
  refine hK _ _ ?_
  clear hK
  refine Sl.step (G := fun a => wpOps _ _ _ _ a _) hsl (by decide) ?_
  intro a1 hs1; clear hsl; have hsl := hs1; clear hs1
  refine ops_want rfl rfl rfl rfl (hsl.get 498 _ rfl) (fun K hK => ?_)
  have e19 := hsl.get 19 _ rfl
  unfold Oper.wp
  go_simp
  clear e19
  refine hK _ _ ?_
  clear hK
  refine Sl.step (G := fun a => wpOps _ _ _ _ a _) hsl (by decide) ?_
  intro a1 hs1; clear hsl; have hsl := hs1; clear hs1
  refine ops_want rfl rfl rfl rfl (hsl.get 498 _ rfl) (fun K hK => ?_)
  have e499 := hsl.get 499 _ rfl
  unfold Oper.wp
  go_simp
  clear e499
  refine hK _ _ ?_
  clear hK
  refine Sl.step (G := fun a => wpOps _ _ _ _ a _) hsl (by decide) ?_
  intro a1 hs1; clear hsl; have hsl := hs1; clear hs1
  refine ops_go rfl rfl (fun K hK => ?_)
  have e498 := hsl.get 498 _ rfl
  have e500 := hsl.get 500 _ rfl
  unfold Oper.wp
  go_simp
  clear e498 e500
  refine hK _ _ ?_
  clear hK
  refine Sl.step (G := fun a => wpOps _ _ _ _ a _) hsl (by decide) ?_
  intro a1 hs1; clear hsl; have hsl := hs1; clear hs1
  refine ops_go rfl rfl (fun K hK => ?_)
  have e501 := hsl.get 501 _ rfl
  unfold Oper.wp
  go_simp
  clear e501
  refine hK _ _ ?_
  clear hK
  refine Sl.step (G := fun a => wpOps _ _ _ _ a _) hsl (by decide) ?_
  intro a1 hs1; clear hsl; have hsl := hs1; clear hs1
  refine ops_want rfl rfl rfl rfl (hsl.get 502 _ rfl) (fun K hK => ?_)
  have e31 := hsl.get 31 _ rfl
  unfold Oper.wp
  go_simp
  clear e31
  refine hK _ _ ?_
  clear hK
  refine Sl.step (G := fun a => wpOps _ _ _ _ a _) hsl (by decide) ?_
  intro a1 hs1; clear hsl; have hsl := hs1; clear hs1
  refine ops_want rfl rfl rfl rfl (hsl.get 502 _ rfl) (fun K hK => ?_)
  have e503 := hsl.get 503 _ rfl
  unfold Oper.wp
  go_simp
  clear e503
  refine hK _ _ ?_
  clear hK
  refine Sl.step (G := fun a => wpOps _ _ _ _ a _) hsl (by decide) ?_
  intro a1 hs1; clear hsl; have hsl := hs1; clear hs1
  refine ops_go rfl rfl (fun K hK => ?_)
  have e502 := hsl.get 502 _ rfl
  have e504 := hsl.get 504 _ rfl
  unfold Oper.wp
  go_simp
  clear e502 e504
  refine hK _ _ ?_
  clear hK
  refine Sl.step (G := fun a => wpOps _ _ _ _ a _) hsl (by decide) ?_
  intro a1 hs1; clear hsl; have hsl := hs1; clear hs1
  refine ops_go rfl rfl (fun K hK => ?_)
  have e505 := hsl.get 505 _ rfl
  unfold Oper.wp
  go_simp
  clear e505
  refine hK _ _ ?_
  clear hK
  refine Sl.step (G := fun a => wpOps _ _ _ _ a _) hsl (by decide) ?_
  intro a1 hs1; clear hsl; have hsl := hs1; clear hs1
  refine ops_want rfl rfl rfl rfl (hsl.get 506 _ rfl) (fun K hK => ?_)
  have e33 := hsl.get 33 _ rfl
  unfold Oper.wp
  go_simp
  clear e33
  refine hK _ _ ?_
  clear hK
  refine Sl.step (G := fun a => wpOps _ _ _ _ a _) hsl (by decide) ?_
  intro a1 hs1; clear hsl; have hsl := hs1; clear hs1
  refine ops_want rfl rfl rfl rfl (hsl.get 506 _ rfl) (fun K hK => ?_)
  have e507 := hsl.get 507 _ rfl
  unfold Oper.wp
  go_simp
  clear e507
  refine hK _ _ ?_
  clear hK
  refine Sl.step (G := fun a => wpOps _ _ _ _ a _) hsl (by decide) ?_
  intro a1 hs1; clear hsl; have hsl := hs1; clear hs1
  refine ops_go rfl rfl (fun K hK => ?_)
  have e506 := hsl.get 506 _ rfl
  have e508 := hsl.get 508 _ rfl
  unfold Oper.wp
  go_simp
  clear e506 e508
  refine hK _ _ ?_
  clear hK
  refine Sl.step (G := fun a => wpOps _ _ _ _ a _) hsl (by decide) ?_
  intro a1 hs1; clear hsl; have hsl := hs1; clear hs1
  refine ops_go rfl rfl (fun K hK => ?_)
  have e509 := hsl.get 509 _ rfl
  unfold Oper.wp
  go_simp
  clear e509
  refine hK _ _ ?_
  clear hK
  refine Sl.step (G := fun a => wpOps _ _ _ _ a _) hsl (by decide) ?_
  intro a1 hs1; clear hsl; have hsl := hs1; clear hs1
  refine ops_want rfl rfl rfl rfl (hsl.get 510 _ rfl) (fun K hK => ?_)
  have e26 := hsl.get 26 _ rfl
  unfold Oper.wp
  go_simp
  clear e26
  refine hK _ _ ?_
  clear hK
  refine Sl.step (G := fun a => wpOps _ _ _ _ a _) hsl (by decide) ?_
  intro a1 hs1; clear hsl; have hsl := hs1; clear hs1
  refine ops_want rfl rfl rfl rfl (hsl.get 510 _ rfl) (fun K hK => ?_)
  have e511 := hsl.get 511 _ rfl
  unfold Oper.wp
  go_simp
  clear e511
  refine hK _ _ ?_
  clear hK
  refine Sl.step (G := fun a => wpOps _ _ _ _ a _) hsl (by decide) ?_
  intro a1 hs1; clear hsl; have hsl := hs1; clear hs1
  refine ops_go rfl rfl (fun K hK => ?_)
  have e510 := hsl.get 510 _ rfl
  have e512 := hsl.get 512 _ rfl
  unfold Oper.wp
  go_simp
  clear e510 e512
  refine hK _ _ ?_
  clear hK
  refine Sl.step (G := fun a => wpOps _ _ _ _ a _) hsl (by decide) ?_
  intro a1 hs1; clear hsl; have hsl := hs1; clear hs1
  refine ops_go rfl rfl (fun K hK => ?_)
  have e513 := hsl.get 513 _ rfl
  unfold Oper.wp
  go_simp
  clear e513
  refine hK _ _ ?_
  clear hK
  refine Sl.step (G := fun a => wpOps _ _ _ _ a _) hsl (by decide) ?_
  intro a1 hs1; clear hsl; have hsl := hs1; clear hs1
  refine ops_want rfl rfl rfl rfl (hsl.get 514 _ rfl) (fun K hK => ?_)
  have e14 := hsl.get 14 _ rfl
  unfold Oper.wp
  go_simp
  clear e14
  refine hK _ _ ?_
  clear hK
  refine Sl.step (G := fun a => wpOps _ _ _ _ a _) hsl (by decide) ?_
  intro a1 hs1; clear hsl; have hsl := hs1; clear hs1
  refine ops_want rfl rfl rfl rfl (hsl.get 514 _ rfl) (fun K hK => ?_)
  have e515 := hsl.get 515 _ rfl
  unfold Oper.wp
  go_simp
  clear e515
  refine hK _ _ ?_
  clear hK
  refine Sl.step (G := fun a => wpOps _ _ _ _ a _) hsl (by decide) ?_
  intro a1 hs1; clear hsl; have hsl := hs1; clear hs1
  refine ops_want rfl rfl rfl rfl (hsl.get 514 _ rfl) (fun K hK => ?_)
  have e516 := hsl.get 516 _ rfl
  unfold Oper.wp
  go_simp
  clear e516
  refine hK _ _ ?_
  clear hK
  refine Sl.step (G := fun a => wpOps _ _ _ _ a _) hsl (by decide) ?_
  intro a1 hs1; clear hsl; have hsl := hs1; clear hs1
  refine ops_go rfl rfl (fun K hK => ?_)
  have e514 := hsl.get 514 _ rfl
  have e517 := hsl.get 517 _ rfl
  unfold Oper.wp
  go_simp
  clear e514 e517
  refine hK _ _ ?_
  clear hK
  refine Sl.step (G := fun a => wpOps _ _ _ _ a _) hsl (by decide) ?_
  intro a1 hs1; clear hsl; have hsl := hs1; clear hs1
  refine ops_go rfl rfl (fun K hK => ?_)
  have e518 := hsl.get 518 _ rfl
  unfold Oper.wp
  go_simp
  clear e518
  refine hK _ _ ?_
  clear hK
  refine Sl.step (G := fun a => wpOps _ _ _ _ a _) hsl (by decide) ?_
  intro a1 hs1; clear hsl; have hsl := hs1; clear hs1
  refine ops_want rfl rfl rfl rfl (hsl.get 519 _ rfl) (fun K hK => ?_)
  have e12 := hsl.get 12 _ rfl
  unfold Oper.wp
  go_simp
  clear e12
  refine hK _ _ ?_
  clear hK
  refine Sl.step (G := fun a => wpOps _ _ _ _ a _) hsl (by decide) ?_
  intro a1 hs1; clear hsl; have hsl := hs1; clear hs1
  refine ops_want rfl rfl rfl rfl (hsl.get 519 _ rfl) (fun K hK => ?_)
  unfold Oper.wp
  go_simp
  refine hK _ _ ?_
  clear hK
  refine Sl.step (G := fun a => wpOps _ _ _ _ a _) hsl (by decide) ?_
  intro a1 hs1; clear hsl; have hsl := hs1; clear hs1
  refine ops_want rfl rfl rfl rfl (hsl.get 519 _ rfl) (fun K hK => ?_)
  have e520 := hsl.get 520 _ rfl
  have e521 := hsl.get 521 _ rfl
  unfold Oper.wp
  go_simp
  have ha := Below.alloc (Below.refl w.heap.size w) (Nat.le_refl _) (.cells #[.int .i64 0, .int .i64 1, .int .i64 2] 3)
  refine (same_ints _ x12 (some ⟨w.heap.size, 0, none⟩) y12 3 3 [0, 1, 2] rfl (F12.out.below ha) (@ints_new w [0, 1, 2]) (by unfold maxLen; omega)).mono ?_
  rintro e v1 ⟨rfl, hb⟩
  replace hb := ha.trans (hb.mono ha.size); clear ha
  replace F14 := Lib.hid (F14.out.below hb)
  replace F12 := Lib.hid (F12.out.below hb)
  replace F16 := Lib.hid (F16.out.below hb)
  replace F18 := Lib.hid (F18.out.below hb)
  replace F29 := Lib.hid (F29.out.below hb)
  replace F30 := Lib.hid (F30.out.below hb)
  replace HB := HB.trans (hb.mono HB.size); clear hb
  clear e520 e521
  refine hK _ _ ?_
  clear hK
  refine Sl.step (G := fun a => wpOps _ _ _ _ a _) hsl (by decide) ?_
  intro a1 hs1; clear hsl; have hsl := hs1; clear hs1
  refine ops_go rfl rfl (fun K hK => ?_)
  have e519 := hsl.get 519 _ rfl
  have e522 := hsl.get 522 _ rfl
  unfold Oper.wp
  go_simp
  clear e519 e522
  refine hK _ _ ?_
  clear hK
  refine Sl.step (G := fun a => wpOps _ _ _ _ a _) hsl (by decide) ?_
  intro a1 hs1; clear hsl; have hsl := hs1; clear hs1
  refine ops_go rfl rfl (fun K hK => ?_)
  have e523 := hsl.get 523 _ rfl
  unfold Oper.wp
  go_simp
  clear e523
  refine hK _ _ ?_
  clear hK
  refine Sl.step (G := fun a => wpOps _ _ _ _ a _) hsl (by decide) ?_
  intro a1 hs1; clear hsl; have hsl := hs1; clear hs1
  refine ops_want rfl rfl rfl rfl (hsl.get 524 _ rfl) (fun K hK => ?_)
  have e16 := hsl.get 16 _ rfl
  unfold Oper.wp
  go_simp
  clear e16
  refine hK _ _ ?_
  clear hK
  refine Sl.step (G := fun a => wpOps _ _ _ _ a _) hsl (by decide) ?_
  intro a1 hs1; clear hsl; have hsl := hs1; clear hs1
  refine ops_want rfl rfl rfl rfl (hsl.get 524 _ rfl) (fun K hK => ?_)
  unfold Oper.wp
  go_simp
  refine hK _ _ ?_
  clear hK
  refine Sl.step (G := fun a => wpOps _ _ _ _ a _) hsl (by decide) ?_
  intro a1 hs1; clear hsl; have hsl := hs1; clear hs1
  refine ops_want rfl rfl rfl rfl (hsl.get 524 _ rfl) (fun K hK => ?_)
  have e525 := hsl.get 525 _ rfl
  have e526 := hsl.get 526 _ rfl
  unfold Oper.wp
  go_simp
  have ha := Below.alloc (Below.refl v1.heap.size v1) (Nat.le_refl _) (.cells #[.int .i64 3] 3)
  refine (same_ints _ x16 (some ⟨v1.heap.size, 0, none⟩) y16 1 1 [3] rfl (F16.out.below ha) (@ints_new v1 [3]) (by unfold maxLen; omega)).mono ?_
  rintro e v2 ⟨rfl, hb⟩
  replace hb := ha.trans (hb.mono ha.size); clear ha
  replace F14 := Lib.hid (F14.out.below hb)
  replace F12 := Lib.hid (F12.out.below hb)
  replace F16 := Lib.hid (F16.out.below hb)
  replace F18 := Lib.hid (F18.out.below hb)
  replace F29 := Lib.hid (F29.out.below hb)
  replace F30 := Lib.hid (F30.out.below hb)
  replace HB := HB.trans (hb.mono HB.size); clear hb
  clear e525 e526
  refine hK _ _ ?_
  clear hK
  refine Sl.step (G := fun a => wpOps _ _ _ _ a _) hsl (by decide) ?_
  intro a1 hs1; clear hsl; have hsl := hs1; clear hs1
  refine ops_go rfl rfl (fun K hK => ?_)
  have e524 := hsl.get 524 _ rfl
  have e527 := hsl.get 527 _ rfl
  unfold Oper.wp
  go_simp
  clear e524 e527
  refine hK _ _ ?_
  clear hK
  refine Sl.step (G := fun a => wpOps _ _ _ _ a _) hsl (by decide) ?_
  intro a1 hs1; clear hsl; have hsl := hs1; clear hs1
  refine ops_go rfl rfl (fun K hK => ?_)
  have e528 := hsl.get 528 _ rfl
  unfold Oper.wp
  go_simp
  clear e528
  refine hK _ _ ?_
  clear hK
  refine Sl.step (G := fun a => wpOps _ _ _ _ a _) hsl (by decide) ?_
  intro a1 hs1; clear hsl; have hsl := hs1; clear hs1
  refine ops_want rfl rfl rfl rfl (hsl.get 529 _ rfl) (fun K hK => ?_)
  have e18 := hsl.get 18 _ rfl
  unfold Oper.wp
  go_simp
  clear e18
  refine hK _ _ ?_
  clear hK
  refine Sl.step (G := fun a => wpOps _ _ _ _ a _) hsl (by decide) ?_
  intro a1 hs1; clear hsl; have hsl := hs1; clear hs1
  refine ops_want rfl rfl rfl rfl (hsl.get 529 _ rfl) (fun K hK => ?_)
  unfold Oper.wp
  go_simp
  refine hK _ _ ?_
  clear hK
  refine Sl.step (G := fun a => wpOps _ _ _ _ a _) hsl (by decide) ?_
  intro a1 hs1; clear hsl; have hsl := hs1; clear hs1
  refine ops_want rfl rfl rfl rfl (hsl.get 529 _ rfl) (fun K hK => ?_)
  have e530 := hsl.get 530 _ rfl
  have e531 := hsl.get 531 _ rfl
  unfold Oper.wp
  go_simp
  have ha := Below.alloc (Below.refl v2.heap.size v2) (Nat.le_refl _) (.cells #[.int .i64 3] 3)
  refine (same_ints _ x18 (some ⟨v2.heap.size, 0, none⟩) y18 1 1 [3] rfl (F18.out.below ha) (@ints_new v2 [3]) (by unfold maxLen; omega)).mono ?_
  rintro e v3 ⟨rfl, hb⟩
  replace hb := ha.trans (hb.mono ha.size); clear ha
  replace F14 := Lib.hid (F14.out.below hb)
  replace F12 := Lib.hid (F12.out.below hb)
  replace F16 := Lib.hid (F16.out.below hb)
  replace F18 := Lib.hid (F18.out.below hb)
  replace F29 := Lib.hid (F29.out.below hb)
  replace F30 := Lib.hid (F30.out.below hb)
  replace HB := HB.trans (hb.mono HB.size); clear hb
  clear e530 e531
  refine hK _ _ ?_
  clear hK
  refine Sl.step (G := fun a => wpOps _ _ _ _ a _) hsl (by decide) ?_
  intro a1 hs1; clear hsl; have hsl := hs1; clear hs1
  refine ops_go rfl rfl (fun K hK => ?_)
  have e529 := hsl.get 529 _ rfl
  have e532 := hsl.get 532 _ rfl
  unfold Oper.wp
  go_simp
  clear e529 e532
  refine hK _ _ ?_
  clear hK
  refine Sl.step (G := fun a => wpOps _ _ _ _ a _) hsl (by decide) ?_
  intro a1 hs1; clear hsl; have hsl := hs1; clear hs1
  refine ops_go rfl rfl (fun K hK => ?_)
  have e533 := hsl.get 533 _ rfl
  unfold Oper.wp
  go_simp
  clear e533
  refine hK _ _ ?_
  clear hK
  refine Sl.step (G := fun a => wpOps _ _ _ _ a _) hsl (by decide) ?_
  intro a1 hs1; clear hsl; have hsl := hs1; clear hs1
  refine ops_want rfl rfl rfl rfl (hsl.get 534 _ rfl) (fun K hK => ?_)
  have e29 := hsl.get 29 _ rfl
  unfold Oper.wp
  go_simp
  clear e29
  refine hK _ _ ?_
  clear hK
  refine Sl.step (G := fun a => wpOps _ _ _ _ a _) hsl (by decide) ?_
  intro a1 hs1; clear hsl; have hsl := hs1; clear hs1
  refine ops_want rfl rfl rfl rfl (hsl.get 534 _ rfl) (fun K hK => ?_)
  unfold Oper.wp
  go_simp
  refine hK _ _ ?_
  clear hK
  refine Sl.step (G := fun a => wpOps _ _ _ _ a _) hsl (by decide) ?_
  intro a1 hs1; clear hsl; have hsl := hs1; clear hs1
  refine ops_want rfl rfl rfl rfl (hsl.get 534 _ rfl) (fun K hK => ?_)
  have e535 := hsl.get 535 _ rfl
  have e536 := hsl.get 536 _ rfl
  unfold Oper.wp
  go_simp
  have ha := Below.alloc (Below.refl v3.heap.size v3) (Nat.le_refl _) (.cells #[.int .i64 1, .int .i64 2, .int .i64 3] 3)
  refine (same_ints _ x29 (some ⟨v3.heap.size, 0, none⟩) y29 3 3 [1, 2, 3] rfl (F29.out.below ha) (@ints_new v3 [1, 2, 3]) (by unfold maxLen; omega)).mono ?_
  rintro e v4 ⟨rfl, hb⟩
  replace hb := ha.trans (hb.mono ha.size); clear ha
  replace F14 := Lib.hid (F14.out.below hb)
  replace F12 := Lib.hid (F12.out.below hb)
  replace F16 := Lib.hid (F16.out.below hb)
  replace F18 := Lib.hid (F18.out.below hb)
  replace F29 := Lib.hid (F29.out.below hb)
  replace F30 := Lib.hid (F30.out.below hb)
  replace HB := HB.trans (hb.mono HB.size); clear hb
  clear e535 e536
  refine hK _ _ ?_
  clear hK
  refine Sl.step (G := fun a => wpOps _ _ _ _ a _) hsl (by decide) ?_
  intro a1 hs1; clear hsl; have hsl := hs1; clear hs1
  refine ops_go rfl rfl (fun K hK => ?_)
  have e534 := hsl.get 534 _ rfl
  have e537 := hsl.get 537 _ rfl
  unfold Oper.wp
  go_simp
  clear e534 e537
  refine hK _ _ ?_
  clear hK
  refine Sl.step (G := fun a => wpOps _ _ _ _ a _) hsl (by decide) ?_
  intro a1 hs1; clear hsl; have hsl := hs1; clear hs1
  refine ops_go rfl rfl (fun K hK => ?_)
  have e538 := hsl.get 538 _ rfl
  unfold Oper.wp
  go_simp
  clear e538
  refine hK _ _ ?_
  clear hK
  refine Sl.step (G := fun a => wpOps _ _ _ _ a _) hsl (by decide) ?_
  intro a1 hs1; clear hsl; have hsl := hs1; clear hs1
  refine ops_want rfl rfl rfl rfl (hsl.get 539 _ rfl) (fun K hK => ?_)
  have e30 := hsl.get 30 _ rfl
  unfold Oper.wp
  go_simp
  clear e30
  refine hK _ _ ?_
  clear hK
  refine Sl.step (G := fun a => wpOps _ _ _ _ a _) hsl (by decide) ?_
  intro a1 hs1; clear hsl; have hsl := hs1; clear hs1
  refine ops_want rfl rfl rfl rfl (hsl.get 539 _ rfl) (fun K hK => ?_)
  unfold Oper.wp
  go_simp
  refine hK _ _ ?_
  clear hK
  refine Sl.step (G := fun a => wpOps _ _ _ _ a _) hsl (by decide) ?_
  intro a1 hs1; clear hsl; have hsl := hs1; clear hs1
  refine ops_want rfl rfl rfl rfl (hsl.get 539 _ rfl) (fun K hK => ?_)
  have e540 := hsl.get 540 _ rfl
  have e541 := hsl.get 541 _ rfl
  unfold Oper.wp
  go_simp
  have ha := Below.alloc (Below.refl v4.heap.size v4) (Nat.le_refl _) (.cells #[.int .i64 0, .int .i64 1, .int .i64 2] 3)
  refine (same_ints _ x30 (some ⟨v4.heap.size, 0, none⟩) y30 3 3 [0, 1, 2] rfl (F30.out.below ha) (@ints_new v4 [0, 1, 2]) (by unfold maxLen; omega)).mono ?_
  rintro e v5 ⟨rfl, hb⟩
  replace hb := ha.trans (hb.mono ha.size); clear ha
  replace F14 := Lib.hid (F14.out.below hb)
  replace F12 := Lib.hid (F12.out.below hb)
  replace F16 := Lib.hid (F16.out.below hb)
  replace F18 := Lib.hid (F18.out.below hb)
  replace F29 := Lib.hid (F29.out.below hb)
  replace F30 := Lib.hid (F30.out.below hb)
  replace HB := HB.trans (hb.mono HB.size); clear hb
  clear e540 e541
  refine hK _ _ ?_
  clear hK
  refine Sl.step (G := fun a => wpOps _ _ _ _ a _) hsl (by decide) ?_
  intro a1 hs1; clear hsl; have hsl := hs1; clear hs1
  refine ops_go rfl rfl (fun K hK => ?_)
  have e539 := hsl.get 539 _ rfl
  have e542 := hsl.get 542 _ rfl
  unfold Oper.wp
  go_simp
  clear e539 e542
  refine hK _ _ ?_
  clear hK
  refine Sl.step (G := fun a => wpOps _ _ _ _ a _) hsl (by decide) ?_
  intro a1 hs1; clear hsl; have hsl := hs1; clear hs1
  refine ops_go rfl rfl (fun K hK => ?_)
  have e543 := hsl.get 543 _ rfl
  unfold Oper.wp
  go_simp
  clear e543
  refine hK _ _ ?_
  clear hK
  refine Sl.step (G := fun a => wpOps _ _ _ _ a _) hsl (by decide) ?_
  intro a1 hs1; clear hsl; have hsl := hs1; clear hs1
  refine ops_want rfl rfl rfl rfl (hsl.get 544 _ rfl) (fun K hK => ?_)
  have e32 := hsl.get 32 _ rfl
  unfold Oper.wp
  go_simp
  clear e32
  refine hK _ _ ?_
  clear hK
  refine Sl.step (G := fun a => wpOps _ _ _ _ a _) hsl (by decide) ?_
  intro a1 hs1; clear hsl; have hsl := hs1; clear hs1
  refine ops_want rfl rfl rfl rfl (hsl.get 544 _ rfl) (fun K hK => ?_)
  have e545 := hsl.get 545 _ rfl
  have eq := textK_eq
  unfold Oper.wp
  go_simp
  clear e545
  refine hK _ _ ?_
  clear hK
  refine Sl.step (G := fun a => wpOps _ _ _ _ a _) hsl (by decide) ?_
  intro a1 hs1; clear hsl; have hsl := hs1; clear hs1
  refine ops_go rfl rfl (fun K hK => ?_)
  have e544 := hsl.get 544 _ rfl
  have e546 := hsl.get 546 _ rfl
  unfold Oper.wp
  go_simp
  clear e544 e546
  refine hK _ _ ?_
  clear hK
  refine Sl.step (G := fun a => wpOps _ _ _ _ a _) hsl (by decide) ?_
  intro a1 hs1; clear hsl; have hsl := hs1; clear hs1
  refine ops_go rfl rfl (fun K hK => ?_)
  have e547 := hsl.get 547 _ rfl
  unfold Oper.wp
  go_simp
  clear e547
  refine hK _ _ ?_
  clear hK
  refine Sl.step (G := fun a => wpOps _ _ _ _ a _) hsl (by decide) ?_
  intro a1 hs1; clear hsl; have hsl := hs1; clear hs1
  refine ops_done ?_
  exact h _ _ _ _ _ _ _ _ _ _ _ _ _ _ _ _ _ _ _ _ _ _ _ _ _ _ _ _ _ _ _ _ _ _ _ _ _ _ _ _ _ _ _ _ _ _ _ _ _ _ _ _ _ _ _ _ _ _ _ _ _ _ _ _ _ _ hsl HB
end Go.Proofs.YtmkjeonjhedgkaaDoor
namespace Go.Proofs.YtmkjeonjhedgkaaDoor
set_option linter.unusedSimpArgs false
set_option linter.unusedVariables false
open Go.RowKit

set_option maxRecDepth 100000 in
set_option maxHeartbeats 4000000 in
theorem kr12 (w : World) (a : Act) (m : List (Nat × Value)) (hsl : Sl a 548 m) (rest : Code) (Q : Exit → Act → World → Prop) (h : ∀ (a' : Act) (w' : World) (u105 u104 u106 u107 : Value), Sl a' 548 ([(11, .int .i64 1), (10, .int .i64 0), (107, u107), (106, u106), (104, u104), (105, u105)] ++ m) → Below w.heap.size w w' → rest.wp Tryd.prog Q a' w') : (Code.seq (regionIn Tryd.f3 12) rest).wp Tryd.prog Q a w := by
  refine wp_seq ?_
  have e : regionIn Tryd.f3 12 = Code.region 12 _ false := rfl
  rw [e]; clear e
  refine wp_region ?_
  refine ops_go rfl rfl (fun K hK => ?_)
  unfold Oper.wp
  go_simp
  refine (Width_any 41 _).mono ?_
  rintro e w3 ⟨rfl, rfl⟩
  have hb1 := Below.refl w.heap.size w
  rw [show widthV 41 = (0, 1) by decide +kernel]
  refine hK _ _ ?_
  clear hK
  refine Sl.step (G := fun a => wpOps _ _ _ _ a _) hsl (by decide) ?_
  intro a1 hs1; clear hsl; have hsl := hs1; clear hs1
  refine ops_go rfl rfl (fun K hK => ?_)
  have e105 := hsl.get 105 _ rfl
  unfold Oper.wp
  go_simp
  clear e105
  refine hK _ _ ?_
  clear hK
  refine Sl.step (G := fun a => wpOps _ _ _ _ a _) hsl (by decide) ?_
  intro a1 hs1; clear hsl; have hsl := hs1; clear hs1
  refine ops_go rfl rfl (fun K hK => ?_)
  have e104 := hsl.get 104 _ rfl
  unfold Oper.wp
  go_simp
  clear e104
  refine hK _ _ ?_
  clear hK
  refine Sl.step (G := fun a => wpOps _ _ _ _ a _) hsl (by decide) ?_
  intro a1 hs1; clear hsl; have hsl := hs1; clear hs1
  refine ops_go rfl rfl (fun K hK => ?_)
  have e104 := hsl.get 104 _ rfl
  unfold Oper.wp
  go_simp
  clear e104
  refine hK _ _ ?_
  clear hK
  refine Sl.step (G := fun a => wpOps _ _ _ _ a _) hsl (by decide) ?_
  intro a1 hs1; clear hsl; have hsl := hs1; clear hs1
  refine ops_go rfl rfl (fun K hK => ?_)
  have e106 := hsl.get 106 _ rfl
  unfold Oper.wp
  go_simp
  clear e106
  refine hK _ _ ?_
  clear hK
  refine Sl.step (G := fun a => wpOps _ _ _ _ a _) hsl (by decide) ?_
  intro a1 hs1; clear hsl; have hsl := hs1; clear hs1
  refine ops_go rfl rfl (fun K hK => ?_)
  have e107 := hsl.get 107 _ rfl
  unfold Oper.wp
  go_simp
  clear e107
  refine hK _ _ ?_
  clear hK
  refine Sl.step (G := fun a => wpOps _ _ _ _ a _) hsl (by decide) ?_
  intro a1 hs1; clear hsl; have hsl := hs1; clear hs1
  refine ops_done ?_
  exact h _ _ _ _ _ _ hsl hb1
set_option maxRecDepth 100000 in
set_option maxHeartbeats 4000000 in
theorem kr22 (w : World) (a : Act) (m : List (Nat × Value)) (hsl : Sl a 548 m) (rest : Code) (Q : Exit → Act → World → Prop) (h : ∀ (a' : Act) (w' : World) (x : Option Addr) (y : Nat) (u193 u194 u195 u196 u197 u198 u199 u192 u200 u201 : Value), Sl a' 548 ([(17, .int .i64 0), (18, .slice x 6 y), (201, u201), (200, u200), (192, u192), (199, u199), (198, u198), (197, u197), (196, u196), (195, u195), (194, u194), (193, u193)] ++ m) → IntsAt w' x [1, 1, 2, 3, 3, 3] → Below w.heap.size w w' → rest.wp Tryd.prog Q a' w') : (Code.seq (regionIn Tryd.f3 22) rest).wp Tryd.prog Q a w := by
  refine wp_seq ?_
  have e : regionIn Tryd.f3 22 = Code.region 22 _ false := rfl
  rw [e]; clear e
  refine wp_region ?_
  refine ops_go rfl rfl (fun K hK => ?_)
  unfold Oper.wp
  go_simp
  refine (roads_any _).mono ?_
  rintro e w1 ⟨g, rfl, hs, hb1⟩
  refine hK _ _ ?_
  clear hK
  refine Sl.step (G := fun a => wpOps _ _ _ _ a _) hsl (by decide) ?_
  intro a1 hs1; clear hsl; have hsl := hs1; clear hs1
  refine ops_go rfl rfl (fun K hK => ?_)
  unfold Oper.wp
  go_simp
  refine (slow_any _).mono ?_
  rintro e w2 ⟨rfl, hb2⟩
  replace hs := hs.below hb2
  replace hb1 := hb1.trans (hb2.mono hb1.size); clear hb2
  refine hK _ _ ?_
  clear hK
  refine Sl.step (G := fun a => wpOps _ _ _ _ a _) hsl (by decide) ?_
  intro a1 hs1; clear hsl; have hsl := hs1; clear hs1
  refine ops_go rfl rfl (fun K hK => ?_)
  unfold Oper.wp
  go_simp
  refine hK _ _ ?_
  clear hK
  refine Sl.step (G := fun a => wpOps _ _ _ _ a _) hsl (by decide) ?_
  intro a1 hs1; clear hsl; have hsl := hs1; clear hs1
  refine ops_go rfl rfl (fun K hK => ?_)
  unfold Oper.wp
  go_simp
  refine hK _ _ ?_
  clear hK
  refine Sl.step (G := fun a => wpOps _ _ _ _ a _) hsl (by decide) ?_
  intro a1 hs1; clear hsl; have hsl := hs1; clear hs1
  refine ops_go rfl rfl (fun K hK => ?_)
  unfold Oper.wp
  go_simp
  refine hK _ _ ?_
  clear hK
  refine Sl.step (G := fun a => wpOps _ _ _ _ a _) hsl (by decide) ?_
  intro a1 hs1; clear hsl; have hsl := hs1; clear hs1
  refine ops_go rfl rfl (fun K hK => ?_)
  have e195 := hsl.get 195 _ rfl
  have e196 := hsl.get 196 _ rfl
  have e197 := hsl.get 197 _ rfl
  unfold Oper.wp
  go_simp
  clear e195 e196 e197
  refine hK _ _ ?_
  clear hK
  refine Sl.step (G := fun a => wpOps _ _ _ _ a _) hsl (by decide) ?_
  intro a1 hs1; clear hsl; have hsl := hs1; clear hs1
  refine ops_go rfl rfl (fun K hK => ?_)
  have e193 := hsl.get 193 _ rfl
  have e194 := hsl.get 194 _ rfl
  have e198 := hsl.get 198 _ rfl
  unfold Oper.wp
  go_simp
  have hb2 := Below.alloc (Below.refl w2.heap.size w2) (Nat.le_refl _) (.cells #[.int .i64 0, .int .i64 0, .int .i64 2, .int .i64 1, .int .i64 3, .int .i64 2] 44)
  refine (PlayK _ g (hs.below hb2) ⟨10, 6⟩ 0 (some ⟨w2.heap.size, 0, none⟩) 3 [(0, 0), (2, 1), (3, 2)] (.inr ⟨w2.heap.size, 0, rfl, fun i hi => ?_⟩) (by decide) _ _ kPlay0).mono ?_
  · have hi3 : i < 3 := hi
    obtain rfl | rfl | rfl : i = 0 ∨ i = 1 ∨ i = 2 := by omega
    all_goals exact ⟨by rw [World.cell?_alloc_at _ _ _ _ (by simp)]; rfl, by rw [World.cell?_alloc_at _ _ _ _ (by simp)]; rfl⟩
  rintro e w3 ⟨x, y, rfl, hi, hb⟩
  replace hb1 := (hb1.trans (hb2.mono hb1.size)).trans (hb.mono (hb1.trans (hb2.mono hb1.size)).size); clear hb hs hb2
  clear e193 e194 e198
  refine hK _ _ ?_
  clear hK
  refine Sl.step (G := fun a => wpOps _ _ _ _ a _) hsl (by decide) ?_
  intro a1 hs1; clear hsl; have hsl := hs1; clear hs1
  refine ops_go rfl rfl (fun K hK => ?_)
  have e199 := hsl.get 199 _ rfl
  unfold Oper.wp
  go_simp
  clear e199
  refine hK _ _ ?_
  clear hK
  refine Sl.step (G := fun a => wpOps _ _ _ _ a _) hsl (by decide) ?_
  intro a1 hs1; clear hsl; have hsl := hs1; clear hs1
  refine ops_go rfl rfl (fun K hK => ?_)
  have e192 := hsl.get 192 _ rfl
  unfold Oper.wp
  go_simp
  clear e192
  refine hK _ _ ?_
  clear hK
  refine Sl.step (G := fun a => wpOps _ _ _ _ a _) hsl (by decide) ?_
  intro a1 hs1; clear hsl; have hsl := hs1; clear hs1
  refine ops_go rfl rfl (fun K hK => ?_)
  have e192 := hsl.get 192 _ rfl
  unfold Oper.wp
  go_simp
  clear e192
  refine hK _ _ ?_
  clear hK
  refine Sl.step (G := fun a => wpOps _ _ _ _ a _) hsl (by decide) ?_
  intro a1 hs1; clear hsl; have hsl := hs1; clear hs1
  refine ops_go rfl rfl (fun K hK => ?_)
  have e200 := hsl.get 200 _ rfl
  unfold Oper.wp
  go_simp
  clear e200
  refine hK _ _ ?_
  clear hK
  refine Sl.step (G := fun a => wpOps _ _ _ _ a _) hsl (by decide) ?_
  intro a1 hs1; clear hsl; have hsl := hs1; clear hs1
  refine ops_go rfl rfl (fun K hK => ?_)
  have e201 := hsl.get 201 _ rfl
  unfold Oper.wp
  go_simp
  clear e201
  refine hK _ _ ?_
  clear hK
  refine Sl.step (G := fun a => wpOps _ _ _ _ a _) hsl (by decide) ?_
  intro a1 hs1; clear hsl; have hsl := hs1; clear hs1
  refine ops_done ?_
  exact h _ _ x y _ _ _ _ _ _ _ _ _ _ hsl hi hb1
end Go.Proofs.YtmkjeonjhedgkaaDoor
