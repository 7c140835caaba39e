/- Regions of RoadKnown, one by one. -/
import Derived.Test.YtmkjeonjhedgkaaDoorKnownK
import Derived.Test.YtmkjeonjhedgkaaDoorBig
namespace Go.Proofs.YtmkjeonjhedgkaaDoor
set_option linter.unusedSimpArgs false
set_option linter.unusedVariables false
open Go.RowKit

set_option maxRecDepth 100000 in
set_option maxHeartbeats 4000000 in
theorem kr17 (w : World) (x12 : Option Addr) (y12 : Nat) (x14 : Option Addr) (y14 : Nat) (x16 : Option Addr) (y16 : Nat) (x18 : Option Addr) (y18 : Nat) (f12 : IntsAt w x12 [2]) (f14 : IntsAt w x14 [4]) (f16 : IntsAt w x16 [5]) (f18 : IntsAt w x18 [1, 3]) (a : Act) (m : List (Nat × Value)) (hsl : Sl a 548 ([(11, .int .i64 1), (13, .int .i64 0), (15, .int .i64 0), (17, .int .i64 0), (19, .int .i64 0), (12, .slice x12 1 y12), (14, .slice x14 1 y14), (16, .slice x16 1 y16), (18, .slice x18 2 y18)] ++ m)) (rest : Code) (Q : Exit → Act → World → Prop) (h : ∀ (a' : Act) (w' : World) (u132 u133 u134 u135 u136 u137 u138 u139 u140 u141 u142 u143 u144 u145 u146 u147 u148 u149 u150 u151 u152 u153 u154 u155 u156 u157 u158 u159 u160 u161 u162 u163 u164 u165 u166 u167 u168 u169 u170 u171 u172 : Value), Sl a' 548 ([(173, .bool false), (172, u172), (171, u171), (170, u170), (169, u169), (168, u168), (167, u167), (166, u166), (165, u165), (164, u164), (163, u163), (162, u162), (161, u161), (160, u160), (159, u159), (158, u158), (157, u157), (156, u156), (155, u155), (154, u154), (153, u153), (152, u152), (151, u151), (150, u150), (149, u149), (148, u148), (147, u147), (146, u146), (145, u145), (144, u144), (143, u143), (142, u142), (141, u141), (140, u140), (139, u139), (138, u138), (137, u137), (136, u136), (135, u135), (134, u134), (133, u133), (132, u132)] ++ ([(11, .int .i64 1), (13, .int .i64 0), (15, .int .i64 0), (17, .int .i64 0), (19, .int .i64 0), (12, .slice x12 1 y12), (14, .slice x14 1 y14), (16, .slice x16 1 y16), (18, .slice x18 2 y18)] ++ m)) → Below w.heap.size w w' → rest.wp Tryd.prog Q a' w') : (Code.seq (regionIn Tryd.f3 17) rest).wp Tryd.prog Q a w := by
  refine wp_seq ?_
  have e : regionIn Tryd.f3 17 = Code.region 17 _ false := rfl
  rw [e]; clear e
  refine wp_region ?_
  have HB := Below.refl w.heap.size w
  have F12 := Lib.hid f12; clear f12
  have F14 := Lib.hid f14; clear f14
  have F16 := Lib.hid f16; clear f16
  have F18 := Lib.hid f18; clear f18
  refine ops_go rfl rfl (fun K hK => ?_)
  have e11 := hsl.get 11 _ rfl
  unfold Oper.wp
  go_simp
  clear e11
  refine hK _ _ ?_
  clear hK
  refine Sl.step (G := fun a => wpOps _ _ _ _ a _) hsl (by decide) ?_
  intro a1 hs1; clear hsl; have hsl := hs1; clear hs1
  refine ops_go rfl rfl (fun K hK => ?_)
  have e132 := hsl.get 132 _ rfl
  unfold Oper.wp
  go_simp
  clear e132
  refine hK _ _ ?_
  clear hK
  refine Sl.step (G := fun a => wpOps _ _ _ _ a _) hsl (by decide) ?_
  intro a1 hs1; clear hsl; have hsl := hs1; clear hs1
  refine ops_go rfl rfl (fun K hK => ?_)
  have e133 := hsl.get 133 _ rfl
  unfold Oper.wp
  go_simp
  clear e133
  refine hK _ _ ?_
  clear hK
  refine Sl.step (G := fun a => wpOps _ _ _ _ a _) hsl (by decide) ?_
  intro a1 hs1; clear hsl; have hsl := hs1; clear hs1
  refine ops_want rfl rfl rfl rfl (hsl.get 134 _ rfl) (fun K hK => ?_)
  have e13 := hsl.get 13 _ rfl
  unfold Oper.wp
  go_simp
  clear e13
  refine hK _ _ ?_
  clear hK
  refine Sl.step (G := fun a => wpOps _ _ _ _ a _) hsl (by decide) ?_
  intro a1 hs1; clear hsl; have hsl := hs1; clear hs1
  refine ops_want rfl rfl rfl rfl (hsl.get 134 _ rfl) (fun K hK => ?_)
  have e135 := hsl.get 135 _ rfl
  unfold Oper.wp
  go_simp
  clear e135
  refine hK _ _ ?_
  clear hK
  refine Sl.step (G := fun a => wpOps _ _ _ _ a _) hsl (by decide) ?_
  intro a1 hs1; clear hsl; have hsl := hs1; clear hs1
  refine ops_go rfl rfl (fun K hK => ?_)
  have e134 := hsl.get 134 _ rfl
  have e136 := hsl.get 136 _ rfl
  unfold Oper.wp
  go_simp
  clear e134 e136
  refine hK _ _ ?_
  clear hK
  refine Sl.step (G := fun a => wpOps _ _ _ _ a _) hsl (by decide) ?_
  intro a1 hs1; clear hsl; have hsl := hs1; clear hs1
  refine ops_go rfl rfl (fun K hK => ?_)
  have e137 := hsl.get 137 _ rfl
  unfold Oper.wp
  go_simp
  clear e137
  refine hK _ _ ?_
  clear hK
  refine Sl.step (G := fun a => wpOps _ _ _ _ a _) hsl (by decide) ?_
  intro a1 hs1; clear hsl; have hsl := hs1; clear hs1
  refine ops_want rfl rfl rfl rfl (hsl.get 138 _ rfl) (fun K hK => ?_)
  have e15 := hsl.get 15 _ rfl
  unfold Oper.wp
  go_simp
  clear e15
  refine hK _ _ ?_
  clear hK
  refine Sl.step (G := fun a => wpOps _ _ _ _ a _) hsl (by decide) ?_
  intro a1 hs1; clear hsl; have hsl := hs1; clear hs1
  refine ops_want rfl rfl rfl rfl (hsl.get 138 _ rfl) (fun K hK => ?_)
  have e139 := hsl.get 139 _ rfl
  unfold Oper.wp
  go_simp
  clear e139
  refine hK _ _ ?_
  clear hK
  refine Sl.step (G := fun a => wpOps _ _ _ _ a _) hsl (by decide) ?_
  intro a1 hs1; clear hsl; have hsl := hs1; clear hs1
  refine ops_go rfl rfl (fun K hK => ?_)
  have e138 := hsl.get 138 _ rfl
  have e140 := hsl.get 140 _ rfl
  unfold Oper.wp
  go_simp
  clear e138 e140
  refine hK _ _ ?_
  clear hK
  refine Sl.step (G := fun a => wpOps _ _ _ _ a _) hsl (by decide) ?_
  intro a1 hs1; clear hsl; have hsl := hs1; clear hs1
  refine ops_go rfl rfl (fun K hK => ?_)
  have e141 := hsl.get 141 _ rfl
  unfold Oper.wp
  go_simp
  clear e141
  refine hK _ _ ?_
  clear hK
  refine Sl.step (G := fun a => wpOps _ _ _ _ a _) hsl (by decide) ?_
  intro a1 hs1; clear hsl; have hsl := hs1; clear hs1
  refine ops_want rfl rfl rfl rfl (hsl.get 142 _ rfl) (fun K hK => ?_)
  have e17 := hsl.get 17 _ rfl
  unfold Oper.wp
  go_simp
  clear e17
  refine hK _ _ ?_
  clear hK
  refine Sl.step (G := fun a => wpOps _ _ _ _ a _) hsl (by decide) ?_
  intro a1 hs1; clear hsl; have hsl := hs1; clear hs1
  refine ops_want rfl rfl rfl rfl (hsl.get 142 _ rfl) (fun K hK => ?_)
  have e143 := hsl.get 143 _ rfl
  unfold Oper.wp
  go_simp
  clear e143
  refine hK _ _ ?_
  clear hK
  refine Sl.step (G := fun a => wpOps _ _ _ _ a _) hsl (by decide) ?_
  intro a1 hs1; clear hsl; have hsl := hs1; clear hs1
  refine ops_go rfl rfl (fun K hK => ?_)
  have e142 := hsl.get 142 _ rfl
  have e144 := hsl.get 144 _ rfl
  unfold Oper.wp
  go_simp
  clear e142 e144
  refine hK _ _ ?_
  clear hK
  refine Sl.step (G := fun a => wpOps _ _ _ _ a _) hsl (by decide) ?_
  intro a1 hs1; clear hsl; have hsl := hs1; clear hs1
  refine ops_go rfl rfl (fun K hK => ?_)
  have e145 := hsl.get 145 _ rfl
  unfold Oper.wp
  go_simp
  clear e145
  refine hK _ _ ?_
  clear hK
  refine Sl.step (G := fun a => wpOps _ _ _ _ a _) hsl (by decide) ?_
  intro a1 hs1; clear hsl; have hsl := hs1; clear hs1
  refine ops_want rfl rfl rfl rfl (hsl.get 146 _ rfl) (fun K hK => ?_)
  have e19 := hsl.get 19 _ rfl
  unfold Oper.wp
  go_simp
  clear e19
  refine hK _ _ ?_
  clear hK
  refine Sl.step (G := fun a => wpOps _ _ _ _ a _) hsl (by decide) ?_
  intro a1 hs1; clear hsl; have hsl := hs1; clear hs1
  refine ops_want rfl rfl rfl rfl (hsl.get 146 _ rfl) (fun K hK => ?_)
  have e147 := hsl.get 147 _ rfl
  unfold Oper.wp
  go_simp
  clear e147
  refine hK _ _ ?_
  clear hK
  refine Sl.step (G := fun a => wpOps _ _ _ _ a _) hsl (by decide) ?_
  intro a1 hs1; clear hsl; have hsl := hs1; clear hs1
  refine ops_go rfl rfl (fun K hK => ?_)
  have e146 := hsl.get 146 _ rfl
  have e148 := hsl.get 148 _ rfl
  unfold Oper.wp
  go_simp
  clear e146 e148
  refine hK _ _ ?_
  clear hK
  refine Sl.step (G := fun a => wpOps _ _ _ _ a _) hsl (by decide) ?_
  intro a1 hs1; clear hsl; have hsl := hs1; clear hs1
  refine ops_go rfl rfl (fun K hK => ?_)
  have e149 := hsl.get 149 _ rfl
  unfold Oper.wp
  go_simp
  clear e149
  refine hK _ _ ?_
  clear hK
  refine Sl.step (G := fun a => wpOps _ _ _ _ a _) hsl (by decide) ?_
  intro a1 hs1; clear hsl; have hsl := hs1; clear hs1
  refine ops_want rfl rfl rfl rfl (hsl.get 150 _ rfl) (fun K hK => ?_)
  have e12 := hsl.get 12 _ rfl
  unfold Oper.wp
  go_simp
  clear e12
  refine hK _ _ ?_
  clear hK
  refine Sl.step (G := fun a => wpOps _ _ _ _ a _) hsl (by decide) ?_
  intro a1 hs1; clear hsl; have hsl := hs1; clear hs1
  refine ops_want rfl rfl rfl rfl (hsl.get 150 _ rfl) (fun K hK => ?_)
  unfold Oper.wp
  go_simp
  refine hK _ _ ?_
  clear hK
  refine Sl.step (G := fun a => wpOps _ _ _ _ a _) hsl (by decide) ?_
  intro a1 hs1; clear hsl; have hsl := hs1; clear hs1
  refine ops_want rfl rfl rfl rfl (hsl.get 150 _ rfl) (fun K hK => ?_)
  have e151 := hsl.get 151 _ rfl
  have e152 := hsl.get 152 _ rfl
  unfold Oper.wp
  go_simp
  have ha := Below.alloc (Below.refl w.heap.size w) (Nat.le_refl _) (.cells #[.int .i64 2] 3)
  refine (same_ints _ x12 (some ⟨w.heap.size, 0, none⟩) y12 1 1 [2] rfl (F12.out.below ha) (@ints_new w [2]) (by unfold maxLen; omega)).mono ?_
  rintro e v1 ⟨rfl, hb⟩
  replace hb := ha.trans (hb.mono ha.size); clear ha
  replace F12 := Lib.hid (F12.out.below hb)
  replace F14 := Lib.hid (F14.out.below hb)
  replace F16 := Lib.hid (F16.out.below hb)
  replace F18 := Lib.hid (F18.out.below hb)
  replace HB := HB.trans (hb.mono HB.size); clear hb
  clear e151 e152
  refine hK _ _ ?_
  clear hK
  refine Sl.step (G := fun a => wpOps _ _ _ _ a _) hsl (by decide) ?_
  intro a1 hs1; clear hsl; have hsl := hs1; clear hs1
  refine ops_want rfl rfl rfl rfl (hsl.get 150 _ rfl) (fun K hK => ?_)
  have e153 := hsl.get 153 _ rfl
  unfold Oper.wp
  go_simp
  clear e153
  refine hK _ _ ?_
  clear hK
  refine Sl.step (G := fun a => wpOps _ _ _ _ a _) hsl (by decide) ?_
  intro a1 hs1; clear hsl; have hsl := hs1; clear hs1
  refine ops_go rfl rfl (fun K hK => ?_)
  have e150 := hsl.get 150 _ rfl
  have e154 := hsl.get 154 _ rfl
  unfold Oper.wp
  go_simp
  clear e150 e154
  refine hK _ _ ?_
  clear hK
  refine Sl.step (G := fun a => wpOps _ _ _ _ a _) hsl (by decide) ?_
  intro a1 hs1; clear hsl; have hsl := hs1; clear hs1
  refine ops_go rfl rfl (fun K hK => ?_)
  have e155 := hsl.get 155 _ rfl
  unfold Oper.wp
  go_simp
  clear e155
  refine hK _ _ ?_
  clear hK
  refine Sl.step (G := fun a => wpOps _ _ _ _ a _) hsl (by decide) ?_
  intro a1 hs1; clear hsl; have hsl := hs1; clear hs1
  refine ops_want rfl rfl rfl rfl (hsl.get 156 _ rfl) (fun K hK => ?_)
  have e14 := hsl.get 14 _ rfl
  unfold Oper.wp
  go_simp
  clear e14
  refine hK _ _ ?_
  clear hK
  refine Sl.step (G := fun a => wpOps _ _ _ _ a _) hsl (by decide) ?_
  intro a1 hs1; clear hsl; have hsl := hs1; clear hs1
  refine ops_want rfl rfl rfl rfl (hsl.get 156 _ rfl) (fun K hK => ?_)
  unfold Oper.wp
  go_simp
  refine hK _ _ ?_
  clear hK
  refine Sl.step (G := fun a => wpOps _ _ _ _ a _) hsl (by decide) ?_
  intro a1 hs1; clear hsl; have hsl := hs1; clear hs1
  refine ops_want rfl rfl rfl rfl (hsl.get 156 _ rfl) (fun K hK => ?_)
  have e157 := hsl.get 157 _ rfl
  have e158 := hsl.get 158 _ rfl
  unfold Oper.wp
  go_simp
  have ha := Below.alloc (Below.refl v1.heap.size v1) (Nat.le_refl _) (.cells #[.int .i64 4] 3)
  refine (same_ints _ x14 (some ⟨v1.heap.size, 0, none⟩) y14 1 1 [4] rfl (F14.out.below ha) (@ints_new v1 [4]) (by unfold maxLen; omega)).mono ?_
  rintro e v2 ⟨rfl, hb⟩
  replace hb := ha.trans (hb.mono ha.size); clear ha
  replace F12 := Lib.hid (F12.out.below hb)
  replace F14 := Lib.hid (F14.out.below hb)
  replace F16 := Lib.hid (F16.out.below hb)
  replace F18 := Lib.hid (F18.out.below hb)
  replace HB := HB.trans (hb.mono HB.size); clear hb
  clear e157 e158
  refine hK _ _ ?_
  clear hK
  refine Sl.step (G := fun a => wpOps _ _ _ _ a _) hsl (by decide) ?_
  intro a1 hs1; clear hsl; have hsl := hs1; clear hs1
  refine ops_want rfl rfl rfl rfl (hsl.get 156 _ rfl) (fun K hK => ?_)
  have e159 := hsl.get 159 _ rfl
  unfold Oper.wp
  go_simp
  clear e159
  refine hK _ _ ?_
  clear hK
  refine Sl.step (G := fun a => wpOps _ _ _ _ a _) hsl (by decide) ?_
  intro a1 hs1; clear hsl; have hsl := hs1; clear hs1
  refine ops_go rfl rfl (fun K hK => ?_)
  have e156 := hsl.get 156 _ rfl
  have e160 := hsl.get 160 _ rfl
  unfold Oper.wp
  go_simp
  clear e156 e160
  refine hK _ _ ?_
  clear hK
  refine Sl.step (G := fun a => wpOps _ _ _ _ a _) hsl (by decide) ?_
  intro a1 hs1; clear hsl; have hsl := hs1; clear hs1
  refine ops_go rfl rfl (fun K hK => ?_)
  have e161 := hsl.get 161 _ rfl
  unfold Oper.wp
  go_simp
  clear e161
  refine hK _ _ ?_
  clear hK
  refine Sl.step (G := fun a => wpOps _ _ _ _ a _) hsl (by decide) ?_
  intro a1 hs1; clear hsl; have hsl := hs1; clear hs1
  refine ops_want rfl rfl rfl rfl (hsl.get 162 _ rfl) (fun K hK => ?_)
  have e16 := hsl.get 16 _ rfl
  unfold Oper.wp
  go_simp
  clear e16
  refine hK _ _ ?_
  clear hK
  refine Sl.step (G := fun a => wpOps _ _ _ _ a _) hsl (by decide) ?_
  intro a1 hs1; clear hsl; have hsl := hs1; clear hs1
  refine ops_want rfl rfl rfl rfl (hsl.get 162 _ rfl) (fun K hK => ?_)
  unfold Oper.wp
  go_simp
  refine hK _ _ ?_
  clear hK
  refine Sl.step (G := fun a => wpOps _ _ _ _ a _) hsl (by decide) ?_
  intro a1 hs1; clear hsl; have hsl := hs1; clear hs1
  refine ops_want rfl rfl rfl rfl (hsl.get 162 _ rfl) (fun K hK => ?_)
  have e163 := hsl.get 163 _ rfl
  have e164 := hsl.get 164 _ rfl
  unfold Oper.wp
  go_simp
  have ha := Below.alloc (Below.refl v2.heap.size v2) (Nat.le_refl _) (.cells #[.int .i64 5] 3)
  refine (same_ints _ x16 (some ⟨v2.heap.size, 0, none⟩) y16 1 1 [5] rfl (F16.out.below ha) (@ints_new v2 [5]) (by unfold maxLen; omega)).mono ?_
  rintro e v3 ⟨rfl, hb⟩
  replace hb := ha.trans (hb.mono ha.size); clear ha
  replace F12 := Lib.hid (F12.out.below hb)
  replace F14 := Lib.hid (F14.out.below hb)
  replace F16 := Lib.hid (F16.out.below hb)
  replace F18 := Lib.hid (F18.out.below hb)
  replace HB := HB.trans (hb.mono HB.size); clear hb
  clear e163 e164
  refine hK _ _ ?_
  clear hK
  refine Sl.step (G := fun a => wpOps _ _ _ _ a _) hsl (by decide) ?_
  intro a1 hs1; clear hsl; have hsl := hs1; clear hs1
  refine ops_want rfl rfl rfl rfl (hsl.get 162 _ rfl) (fun K hK => ?_)
  have e165 := hsl.get 165 _ rfl
  unfold Oper.wp
  go_simp
  clear e165
  refine hK _ _ ?_
  clear hK
  refine Sl.step (G := fun a => wpOps _ _ _ _ a _) hsl (by decide) ?_
  intro a1 hs1; clear hsl; have hsl := hs1; clear hs1
  refine ops_go rfl rfl (fun K hK => ?_)
  have e162 := hsl.get 162 _ rfl
  have e166 := hsl.get 166 _ rfl
  unfold Oper.wp
  go_simp
  clear e162 e166
  refine hK _ _ ?_
  clear hK
  refine Sl.step (G := fun a => wpOps _ _ _ _ a _) hsl (by decide) ?_
  intro a1 hs1; clear hsl; have hsl := hs1; clear hs1
  refine ops_go rfl rfl (fun K hK => ?_)
  have e167 := hsl.get 167 _ rfl
  unfold Oper.wp
  go_simp
  clear e167
  refine hK _ _ ?_
  clear hK
  refine Sl.step (G := fun a => wpOps _ _ _ _ a _) hsl (by decide) ?_
  intro a1 hs1; clear hsl; have hsl := hs1; clear hs1
  refine ops_want rfl rfl rfl rfl (hsl.get 168 _ rfl) (fun K hK => ?_)
  have e18 := hsl.get 18 _ rfl
  unfold Oper.wp
  go_simp
  clear e18
  refine hK _ _ ?_
  clear hK
  refine Sl.step (G := fun a => wpOps _ _ _ _ a _) hsl (by decide) ?_
  intro a1 hs1; clear hsl; have hsl := hs1; clear hs1
  refine ops_want rfl rfl rfl rfl (hsl.get 168 _ rfl) (fun K hK => ?_)
  unfold Oper.wp
  go_simp
  refine hK _ _ ?_
  clear hK
  refine Sl.step (G := fun a => wpOps _ _ _ _ a _) hsl (by decide) ?_
  intro a1 hs1; clear hsl; have hsl := hs1; clear hs1
  refine ops_want rfl rfl rfl rfl (hsl.get 168 _ rfl) (fun K hK => ?_)
  have e169 := hsl.get 169 _ rfl
  have e170 := hsl.get 170 _ rfl
  unfold Oper.wp
  go_simp
  have ha := Below.alloc (Below.refl v3.heap.size v3) (Nat.le_refl _) (.cells #[.int .i64 1, .int .i64 3] 3)
  refine (same_ints _ x18 (some ⟨v3.heap.size, 0, none⟩) y18 2 2 [1, 3] rfl (F18.out.below ha) (@ints_new v3 [1, 3]) (by unfold maxLen; omega)).mono ?_
  rintro e v4 ⟨rfl, hb⟩
  replace hb := ha.trans (hb.mono ha.size); clear ha
  replace F12 := Lib.hid (F12.out.below hb)
  replace F14 := Lib.hid (F14.out.below hb)
  replace F16 := Lib.hid (F16.out.below hb)
  replace F18 := Lib.hid (F18.out.below hb)
  replace HB := HB.trans (hb.mono HB.size); clear hb
  clear e169 e170
  refine hK _ _ ?_
  clear hK
  refine Sl.step (G := fun a => wpOps _ _ _ _ a _) hsl (by decide) ?_
  intro a1 hs1; clear hsl; have hsl := hs1; clear hs1
  refine ops_want rfl rfl rfl rfl (hsl.get 168 _ rfl) (fun K hK => ?_)
  have e171 := hsl.get 171 _ rfl
  unfold Oper.wp
  go_simp
  clear e171
  refine hK _ _ ?_
  clear hK
  refine Sl.step (G := fun a => wpOps _ _ _ _ a _) hsl (by decide) ?_
  intro a1 hs1; clear hsl; have hsl := hs1; clear hs1
  refine ops_go rfl rfl (fun K hK => ?_)
  have e168 := hsl.get 168 _ rfl
  have e172 := hsl.get 172 _ rfl
  unfold Oper.wp
  go_simp
  clear e168 e172
  refine hK _ _ ?_
  clear hK
  refine Sl.step (G := fun a => wpOps _ _ _ _ a _) hsl (by decide) ?_
  intro a1 hs1; clear hsl; have hsl := hs1; clear hs1
  refine ops_done ?_
  exact h _ _ _ _ _ _ _ _ _ _ _ _ _ _ _ _ _ _ _ _ _ _ _ _ _ _ _ _ _ _ _ _ _ _ _ _ _ _ _ _ _ _ _ hsl HB
set_option maxRecDepth 100000 in
set_option maxHeartbeats 4000000 in
theorem kr23 (w : World) (x12 : Option Addr) (y12 : Nat) (x14 : Option Addr) (y14 : Nat) (x16 : Option Addr) (y16 : Nat) (x18 : Option Addr) (y18 : Nat) (f12 : IntsAt w x12 [2, 3, 4]) (f14 : IntsAt w x14 [2, 3, 4, 5]) (f16 : IntsAt w x16 []) (f18 : IntsAt w x18 [1, 1, 2, 3, 3, 3]) (a : Act) (m : List (Nat × Value)) (hsl : Sl a 548 ([(11, .int .i64 0), (13, .int .i64 0), (15, .int .i64 0), (17, .int .i64 0), (12, .slice x12 3 y12), (14, .slice x14 4 y14), (16, .slice x16 0 y16), (18, .slice x18 6 y18)] ++ m)) (rest : Code) (Q : Exit → Act → World → Prop) (h : ∀ (a' : Act) (w' : World) (u202 u203 u204 u205 u206 u207 u208 u209 u210 u211 u212 u213 u214 u215 u216 u217 u218 u219 u220 u221 u222 u223 u224 u225 u226 u227 u228 u229 u230 u231 u232 u233 u234 u235 u236 u237 : Value), Sl a' 548 ([(238, .bool false), (237, u237), (236, u236), (235, u235), (234, u234), (233, u233), (232, u232), (231, u231), (230, u230), (229, u229), (228, u228), (227, u227), (226, u226), (225, u225), (224, u224), (223, u223), (222, u222), (221, u221), (220, u220), (219, u219), (218, u218), (217, u217), (216, u216), (215, u215), (214, u214), (213, u213), (212, u212), (211, u211), (210, u210), (209, u209), (208, u208), (207, u207), (206, u206), (205, u205), (204, u204), (203, u203), (202, u202)] ++ ([(11, .int .i64 0), (13, .int .i64 0), (15, .int .i64 0), (17, .int .i64 0), (12, .slice x12 3 y12), (14, .slice x14 4 y14), (16, .slice x16 0 y16), (18, .slice x18 6 y18)] ++ m)) → Below w.heap.size w w' → rest.wp Tryd.prog Q a' w') : (Code.seq (regionIn Tryd.f3 23) rest).wp Tryd.prog Q a w := by
  refine wp_seq ?_
  have e : regionIn Tryd.f3 23 = Code.region 23 _ false := rfl
  rw [e]; clear e
  refine wp_region ?_
  have HB := Below.refl w.heap.size w
  have F12 := Lib.hid f12; clear f12
  have F14 := Lib.hid f14; clear f14
  have F16 := Lib.hid f16; clear f16
  have F18 := Lib.hid f18; clear f18
  refine ops_go rfl rfl (fun K hK => ?_)
  have e11 := hsl.get 11 _ rfl
  unfold Oper.wp
  go_simp
  clear e11
  refine hK _ _ ?_
  clear hK
  refine Sl.step (G := fun a => wpOps _ _ _ _ a _) hsl (by decide) ?_
  intro a1 hs1; clear hsl; have hsl := hs1; clear hs1
  refine ops_go rfl rfl (fun K hK => ?_)
  have e202 := hsl.get 202 _ rfl
  unfold Oper.wp
  go_simp
  clear e202
  refine hK _ _ ?_
  clear hK
  refine Sl.step (G := fun a => wpOps _ _ _ _ a _) hsl (by decide) ?_
  intro a1 hs1; clear hsl; have hsl := hs1; clear hs1
  refine ops_go rfl rfl (fun K hK => ?_)
  have e203 := hsl.get 203 _ rfl
  unfold Oper.wp
  go_simp
  clear e203
  refine hK _ _ ?_
  clear hK
  refine Sl.step (G := fun a => wpOps _ _ _ _ a _) hsl (by decide) ?_
  intro a1 hs1; clear hsl; have hsl := hs1; clear hs1
  refine ops_want rfl rfl rfl rfl (hsl.get 204 _ rfl) (fun K hK => ?_)
  have e13 := hsl.get 13 _ rfl
  unfold Oper.wp
  go_simp
  clear e13
  refine hK _ _ ?_
  clear hK
  refine Sl.step (G := fun a => wpOps _ _ _ _ a _) hsl (by decide) ?_
  intro a1 hs1; clear hsl; have hsl := hs1; clear hs1
  refine ops_want rfl rfl rfl rfl (hsl.get 204 _ rfl) (fun K hK => ?_)
  have e205 := hsl.get 205 _ rfl
  unfold Oper.wp
  go_simp
  clear e205
  refine hK _ _ ?_
  clear hK
  refine Sl.step (G := fun a => wpOps _ _ _ _ a _) hsl (by decide) ?_
  intro a1 hs1; clear hsl; have hsl := hs1; clear hs1
  refine ops_go rfl rfl (fun K hK => ?_)
  have e204 := hsl.get 204 _ rfl
  have e206 := hsl.get 206 _ rfl
  unfold Oper.wp
  go_simp
  clear e204 e206
  refine hK _ _ ?_
  clear hK
  refine Sl.step (G := fun a => wpOps _ _ _ _ a _) hsl (by decide) ?_
  intro a1 hs1; clear hsl; have hsl := hs1; clear hs1
  refine ops_go rfl rfl (fun K hK => ?_)
  have e207 := hsl.get 207 _ rfl
  unfold Oper.wp
  go_simp
  clear e207
  refine hK _ _ ?_
  clear hK
  refine Sl.step (G := fun a => wpOps _ _ _ _ a _) hsl (by decide) ?_
  intro a1 hs1; clear hsl; have hsl := hs1; clear hs1
  refine ops_want rfl rfl rfl rfl (hsl.get 208 _ rfl) (fun K hK => ?_)
  have e15 := hsl.get 15 _ rfl
  unfold Oper.wp
  go_simp
  clear e15
  refine hK _ _ ?_
  clear hK
  refine Sl.step (G := fun a => wpOps _ _ _ _ a _) hsl (by decide) ?_
  intro a1 hs1; clear hsl; have hsl := hs1; clear hs1
  refine ops_want rfl rfl rfl rfl (hsl.get 208 _ rfl) (fun K hK => ?_)
  have e209 := hsl.get 209 _ rfl
  unfold Oper.wp
  go_simp
  clear e209
  refine hK _ _ ?_
  clear hK
  refine Sl.step (G := fun a => wpOps _ _ _ _ a _) hsl (by decide) ?_
  intro a1 hs1; clear hsl; have hsl := hs1; clear hs1
  refine ops_go rfl rfl (fun K hK => ?_)
  have e208 := hsl.get 208 _ rfl
  have e210 := hsl.get 210 _ rfl
  unfold Oper.wp
  go_simp
  clear e208 e210
  refine hK _ _ ?_
  clear hK
  refine Sl.step (G := fun a => wpOps _ _ _ _ a _) hsl (by decide) ?_
  intro a1 hs1; clear hsl; have hsl := hs1; clear hs1
  refine ops_go rfl rfl (fun K hK => ?_)
  have e211 := hsl.get 211 _ rfl
  unfold Oper.wp
  go_simp
  clear e211
  refine hK _ _ ?_
  clear hK
  refine Sl.step (G := fun a => wpOps _ _ _ _ a _) hsl (by decide) ?_
  intro a1 hs1; clear hsl; have hsl := hs1; clear hs1
  refine ops_want rfl rfl rfl rfl (hsl.get 212 _ rfl) (fun K hK => ?_)
  have e17 := hsl.get 17 _ rfl
  unfold Oper.wp
  go_simp
  clear e17
  refine hK _ _ ?_
  clear hK
  refine Sl.step (G := fun a => wpOps _ _ _ _ a _) hsl (by decide) ?_
  intro a1 hs1; clear hsl; have hsl := hs1; clear hs1
  refine ops_want rfl rfl rfl rfl (hsl.get 212 _ rfl) (fun K hK => ?_)
  have e213 := hsl.get 213 _ rfl
  unfold Oper.wp
  go_simp
  clear e213
  refine hK _ _ ?_
  clear hK
  refine Sl.step (G := fun a => wpOps _ _ _ _ a _) hsl (by decide) ?_
  intro a1 hs1; clear hsl; have hsl := hs1; clear hs1
  refine ops_go rfl rfl (fun K hK => ?_)
  have e212 := hsl.get 212 _ rfl
  have e214 := hsl.get 214 _ rfl
  unfold Oper.wp
  go_simp
  clear e212 e214
  refine hK _ _ ?_
  clear hK
  refine Sl.step (G := fun a => wpOps _ _ _ _ a _) hsl (by decide) ?_
  intro a1 hs1; clear hsl; have hsl := hs1; clear hs1
  refine ops_go rfl rfl (fun K hK => ?_)
  have e215 := hsl.get 215 _ rfl
  unfold Oper.wp
  go_simp
  clear e215
  refine hK _ _ ?_
  clear hK
  refine Sl.step (G := fun a => wpOps _ _ _ _ a _) hsl (by decide) ?_
  intro a1 hs1; clear hsl; have hsl := hs1; clear hs1
  refine ops_want rfl rfl rfl rfl (hsl.get 216 _ rfl) (fun K hK => ?_)
  have e16 := hsl.get 16 _ rfl
  unfold Oper.wp
  go_simp
  clear e16
  refine hK _ _ ?_
  clear hK
  refine Sl.step (G := fun a => wpOps _ _ _ _ a _) hsl (by decide) ?_
  intro a1 hs1; clear hsl; have hsl := hs1; clear hs1
  refine ops_want rfl rfl rfl rfl (hsl.get 216 _ rfl) (fun K hK => ?_)
  have e217 := hsl.get 217 _ rfl
  unfold Oper.wp
  go_simp
  clear e217
  refine hK _ _ ?_
  clear hK
  refine Sl.step (G := fun a => wpOps _ _ _ _ a _) hsl (by decide) ?_
  intro a1 hs1; clear hsl; have hsl := hs1; clear hs1
  refine ops_want rfl rfl rfl rfl (hsl.get 216 _ rfl) (fun K hK => ?_)
  have e218 := hsl.get 218 _ rfl
  unfold Oper.wp
  go_simp
  clear e218
  refine hK _ _ ?_
  clear hK
  refine Sl.step (G := fun a => wpOps _ _ _ _ a _) hsl (by decide) ?_
  intro a1 hs1; clear hsl; have hsl := hs1; clear hs1
  refine ops_go rfl rfl (fun K hK => ?_)
  have e216 := hsl.get 216 _ rfl
  have e219 := hsl.get 219 _ rfl
  unfold Oper.wp
  go_simp
  clear e216 e219
  refine hK _ _ ?_
  clear hK
  refine Sl.step (G := fun a => wpOps _ _ _ _ a _) hsl (by decide) ?_
  intro a1 hs1; clear hsl; have hsl := hs1; clear hs1
  refine ops_go rfl rfl (fun K hK => ?_)
  have e220 := hsl.get 220 _ rfl
  unfold Oper.wp
  go_simp
  clear e220
  refine hK _ _ ?_
  clear hK
  refine Sl.step (G := fun a => wpOps _ _ _ _ a _) hsl (by decide) ?_
  intro a1 hs1; clear hsl; have hsl := hs1; clear hs1
  refine ops_want rfl rfl rfl rfl (hsl.get 221 _ rfl) (fun K hK => ?_)
  have e12 := hsl.get 12 _ rfl
  unfold Oper.wp
  go_simp
  clear e12
  refine hK _ _ ?_
  clear hK
  refine Sl.step (G := fun a => wpOps _ _ _ _ a _) hsl (by decide) ?_
  intro a1 hs1; clear hsl; have hsl := hs1; clear hs1
  refine ops_want rfl rfl rfl rfl (hsl.get 221 _ rfl) (fun K hK => ?_)
  unfold Oper.wp
  go_simp
  refine hK _ _ ?_
  clear hK
  refine Sl.step (G := fun a => wpOps _ _ _ _ a _) hsl (by decide) ?_
  intro a1 hs1; clear hsl; have hsl := hs1; clear hs1
  refine ops_want rfl rfl rfl rfl (hsl.get 221 _ rfl) (fun K hK => ?_)
  have e222 := hsl.get 222 _ rfl
  have e223 := hsl.get 223 _ rfl
  unfold Oper.wp
  go_simp
  have ha := Below.alloc (Below.refl w.heap.size w) (Nat.le_refl _) (.cells #[.int .i64 2, .int .i64 3, .int .i64 4] 3)
  refine (same_ints _ x12 (some ⟨w.heap.size, 0, none⟩) y12 3 3 [2, 3, 4] rfl (F12.out.below ha) (@ints_new w [2, 3, 4]) (by unfold maxLen; omega)).mono ?_
  rintro e v1 ⟨rfl, hb⟩
  replace hb := ha.trans (hb.mono ha.size); clear ha
  replace F12 := Lib.hid (F12.out.below hb)
  replace F14 := Lib.hid (F14.out.below hb)
  replace F16 := Lib.hid (F16.out.below hb)
  replace F18 := Lib.hid (F18.out.below hb)
  replace HB := HB.trans (hb.mono HB.size); clear hb
  clear e222 e223
  refine hK _ _ ?_
  clear hK
  refine Sl.step (G := fun a => wpOps _ _ _ _ a _) hsl (by decide) ?_
  intro a1 hs1; clear hsl; have hsl := hs1; clear hs1
  refine ops_want rfl rfl rfl rfl (hsl.get 221 _ rfl) (fun K hK => ?_)
  have e224 := hsl.get 224 _ rfl
  unfold Oper.wp
  go_simp
  clear e224
  refine hK _ _ ?_
  clear hK
  refine Sl.step (G := fun a => wpOps _ _ _ _ a _) hsl (by decide) ?_
  intro a1 hs1; clear hsl; have hsl := hs1; clear hs1
  refine ops_go rfl rfl (fun K hK => ?_)
  have e221 := hsl.get 221 _ rfl
  have e225 := hsl.get 225 _ rfl
  unfold Oper.wp
  go_simp
  clear e221 e225
  refine hK _ _ ?_
  clear hK
  refine Sl.step (G := fun a => wpOps _ _ _ _ a _) hsl (by decide) ?_
  intro a1 hs1; clear hsl; have hsl := hs1; clear hs1
  refine ops_go rfl rfl (fun K hK => ?_)
  have e226 := hsl.get 226 _ rfl
  unfold Oper.wp
  go_simp
  clear e226
  refine hK _ _ ?_
  clear hK
  refine Sl.step (G := fun a => wpOps _ _ _ _ a _) hsl (by decide) ?_
  intro a1 hs1; clear hsl; have hsl := hs1; clear hs1
  refine ops_want rfl rfl rfl rfl (hsl.get 227 _ rfl) (fun K hK => ?_)
  have e14 := hsl.get 14 _ rfl
  unfold Oper.wp
  go_simp
  clear e14
  refine hK _ _ ?_
  clear hK
  refine Sl.step (G := fun a => wpOps _ _ _ _ a _) hsl (by decide) ?_
  intro a1 hs1; clear hsl; have hsl := hs1; clear hs1
  refine ops_want rfl rfl rfl rfl (hsl.get 227 _ rfl) (fun K hK => ?_)
  unfold Oper.wp
  go_simp
  refine hK _ _ ?_
  clear hK
  refine Sl.step (G := fun a => wpOps _ _ _ _ a _) hsl (by decide) ?_
  intro a1 hs1; clear hsl; have hsl := hs1; clear hs1
  refine ops_want rfl rfl rfl rfl (hsl.get 227 _ rfl) (fun K hK => ?_)
  have e228 := hsl.get 228 _ rfl
  have e229 := hsl.get 229 _ rfl
  unfold Oper.wp
  go_simp
  have ha := Below.alloc (Below.refl v1.heap.size v1) (Nat.le_refl _) (.cells #[.int .i64 2, .int .i64 3, .int .i64 4, .int .i64 5] 3)
  refine (same_ints _ x14 (some ⟨v1.heap.size, 0, none⟩) y14 4 4 [2, 3, 4, 5] rfl (F14.out.below ha) (@ints_new v1 [2, 3, 4, 5]) (by unfold maxLen; omega)).mono ?_
  rintro e v2 ⟨rfl, hb⟩
  replace hb := ha.trans (hb.mono ha.size); clear ha
  replace F12 := Lib.hid (F12.out.below hb)
  replace F14 := Lib.hid (F14.out.below hb)
  replace F16 := Lib.hid (F16.out.below hb)
  replace F18 := Lib.hid (F18.out.below hb)
  replace HB := HB.trans (hb.mono HB.size); clear hb
  clear e228 e229
  refine hK _ _ ?_
  clear hK
  refine Sl.step (G := fun a => wpOps _ _ _ _ a _) hsl (by decide) ?_
  intro a1 hs1; clear hsl; have hsl := hs1; clear hs1
  refine ops_want rfl rfl rfl rfl (hsl.get 227 _ rfl) (fun K hK => ?_)
  have e230 := hsl.get 230 _ rfl
  unfold Oper.wp
  go_simp
  clear e230
  refine hK _ _ ?_
  clear hK
  refine Sl.step (G := fun a => wpOps _ _ _ _ a _) hsl (by decide) ?_
  intro a1 hs1; clear hsl; have hsl := hs1; clear hs1
  refine ops_go rfl rfl (fun K hK => ?_)
  have e227 := hsl.get 227 _ rfl
  have e231 := hsl.get 231 _ rfl
  unfold Oper.wp
  go_simp
  clear e227 e231
  refine hK _ _ ?_
  clear hK
  refine Sl.step (G := fun a => wpOps _ _ _ _ a _) hsl (by decide) ?_
  intro a1 hs1; clear hsl; have hsl := hs1; clear hs1
  refine ops_go rfl rfl (fun K hK => ?_)
  have e232 := hsl.get 232 _ rfl
  unfold Oper.wp
  go_simp
  clear e232
  refine hK _ _ ?_
  clear hK
  refine Sl.step (G := fun a => wpOps _ _ _ _ a _) hsl (by decide) ?_
  intro a1 hs1; clear hsl; have hsl := hs1; clear hs1
  refine ops_want rfl rfl rfl rfl (hsl.get 233 _ rfl) (fun K hK => ?_)
  have e18 := hsl.get 18 _ rfl
  unfold Oper.wp
  go_simp
  clear e18
  refine hK _ _ ?_
  clear hK
  refine Sl.step (G := fun a => wpOps _ _ _ _ a _) hsl (by decide) ?_
  intro a1 hs1; clear hsl; have hsl := hs1; clear hs1
  refine ops_want rfl rfl rfl rfl (hsl.get 233 _ rfl) (fun K hK => ?_)
  unfold Oper.wp
  go_simp
  refine hK _ _ ?_
  clear hK
  refine Sl.step (G := fun a => wpOps _ _ _ _ a _) hsl (by decide) ?_
  intro a1 hs1; clear hsl; have hsl := hs1; clear hs1
  refine ops_want rfl rfl rfl rfl (hsl.get 233 _ rfl) (fun K hK => ?_)
  have e234 := hsl.get 234 _ rfl
  have e235 := hsl.get 235 _ rfl
  unfold Oper.wp
  go_simp
  have ha := Below.alloc (Below.refl v2.heap.size v2) (Nat.le_refl _) (.cells #[.int .i64 1, .int .i64 1, .int .i64 2, .int .i64 3, .int .i64 3, .int .i64 3] 3)
  refine (same_ints _ x18 (some ⟨v2.heap.size, 0, none⟩) y18 6 6 [1, 1, 2, 3, 3, 3] rfl (F18.out.below ha) (@ints_new v2 [1, 1, 2, 3, 3, 3]) (by unfold maxLen; omega)).mono ?_
  rintro e v3 ⟨rfl, hb⟩
  replace hb := ha.trans (hb.mono ha.size); clear ha
  replace F12 := Lib.hid (F12.out.below hb)
  replace F14 := Lib.hid (F14.out.below hb)
  replace F16 := Lib.hid (F16.out.below hb)
  replace F18 := Lib.hid (F18.out.below hb)
  replace HB := HB.trans (hb.mono HB.size); clear hb
  clear e234 e235
  refine hK _ _ ?_
  clear hK
  refine Sl.step (G := fun a => wpOps _ _ _ _ a _) hsl (by decide) ?_
  intro a1 hs1; clear hsl; have hsl := hs1; clear hs1
  refine ops_want rfl rfl rfl rfl (hsl.get 233 _ rfl) (fun K hK => ?_)
  have e236 := hsl.get 236 _ rfl
  unfold Oper.wp
  go_simp
  clear e236
  refine hK _ _ ?_
  clear hK
  refine Sl.step (G := fun a => wpOps _ _ _ _ a _) hsl (by decide) ?_
  intro a1 hs1; clear hsl; have hsl := hs1; clear hs1
  refine ops_go rfl rfl (fun K hK => ?_)
  have e233 := hsl.get 233 _ rfl
  have e237 := hsl.get 237 _ rfl
  unfold Oper.wp
  go_simp
  clear e233 e237
  refine hK _ _ ?_
  clear hK
  refine Sl.step (G := fun a => wpOps _ _ _ _ a _) hsl (by decide) ?_
  intro a1 hs1; clear hsl; have hsl := hs1; clear hs1
  refine ops_done ?_
  exact h _ _ _ _ _ _ _ _ _ _ _ _ _ _ _ _ _ _ _ _ _ _ _ _ _ _ _ _ _ _ _ _ _ _ _ _ _ _ hsl HB
set_option maxRecDepth 100000 in
set_option maxHeartbeats 4000000 in
theorem kr35 (w : World) (x12 : Option Addr) (y12 : Nat) (x25 : Option Addr) (y25 : Nat) (f12 : IntsAt w x12 [0, 0, 2, 0]) (f25 : StridesAt w x25 [(0, 3)]) (a : Act) (m : List (Nat × Value)) (hsl : Sl a 548 ([(11, .int .i64 0), (13, .int .i64 0), (15, .int .i64 11), (12, .slice x12 4 y12), (25, .slice x25 1 y25)] ++ m)) (rest : Code) (Q : Exit → Act → World → Prop) (h : ∀ (a' : Act) (w' : World) (u294 u295 u296 u297 u298 u299 u300 u301 u302 u303 u304 u305 u306 u307 u308 u309 u310 u311 u312 u313 u314 u315 : Value), Sl a' 548 ([(316, .bool false), (315, u315), (314, u314), (313, u313), (312, u312), (311, u311), (310, u310), (309, u309), (308, u308), (307, u307), (306, u306), (305, u305), (304, u304), (303, u303), (302, u302), (301, u301), (300, u300), (299, u299), (298, u298), (297, u297), (296, u296), (295, u295), (294, u294)] ++ ([(11, .int .i64 0), (13, .int .i64 0), (15, .int .i64 11), (12, .slice x12 4 y12), (25, .slice x25 1 y25)] ++ m)) → Below w.heap.size w w' → rest.wp Tryd.prog Q a' w') : (Code.seq (regionIn Tryd.f3 35) rest).wp Tryd.prog Q a w := by
  refine wp_seq ?_
  have e : regionIn Tryd.f3 35 = Code.region 35 _ false := rfl
  rw [e]; clear e
  refine wp_region ?_
  have HB := Below.refl w.heap.size w
  have F12 := Lib.hid f12; clear f12
  have F25 := Lib.hid f25; clear f25
  refine ops_go rfl rfl (fun K hK => ?_)
  have e11 := hsl.get 11 _ rfl
  unfold Oper.wp
  go_simp
  clear e11
  refine hK _ _ ?_
  clear hK
  refine Sl.step (G := fun a => wpOps _ _ _ _ a _) hsl (by decide) ?_
  intro a1 hs1; clear hsl; have hsl := hs1; clear hs1
  refine ops_go rfl rfl (fun K hK => ?_)
  have e294 := hsl.get 294 _ rfl
  unfold Oper.wp
  go_simp
  clear e294
  refine hK _ _ ?_
  clear hK
  refine Sl.step (G := fun a => wpOps _ _ _ _ a _) hsl (by decide) ?_
  intro a1 hs1; clear hsl; have hsl := hs1; clear hs1
  refine ops_go rfl rfl (fun K hK => ?_)
  have e295 := hsl.get 295 _ rfl
  unfold Oper.wp
  go_simp
  clear e295
  refine hK _ _ ?_
  clear hK
  refine Sl.step (G := fun a => wpOps _ _ _ _ a _) hsl (by decide) ?_
  intro a1 hs1; clear hsl; have hsl := hs1; clear hs1
  refine ops_want rfl rfl rfl rfl (hsl.get 296 _ rfl) (fun K hK => ?_)
  have e13 := hsl.get 13 _ rfl
  unfold Oper.wp
  go_simp
  clear e13
  refine hK _ _ ?_
  clear hK
  refine Sl.step (G := fun a => wpOps _ _ _ _ a _) hsl (by decide) ?_
  intro a1 hs1; clear hsl; have hsl := hs1; clear hs1
  refine ops_want rfl rfl rfl rfl (hsl.get 296 _ rfl) (fun K hK => ?_)
  have e297 := hsl.get 297 _ rfl
  unfold Oper.wp
  go_simp
  clear e297
  refine hK _ _ ?_
  clear hK
  refine Sl.step (G := fun a => wpOps _ _ _ _ a _) hsl (by decide) ?_
  intro a1 hs1; clear hsl; have hsl := hs1; clear hs1
  refine ops_go rfl rfl (fun K hK => ?_)
  have e296 := hsl.get 296 _ rfl
  have e298 := hsl.get 298 _ rfl
  unfold Oper.wp
  go_simp
  clear e296 e298
  refine hK _ _ ?_
  clear hK
  refine Sl.step (G := fun a => wpOps _ _ _ _ a _) hsl (by decide) ?_
  intro a1 hs1; clear hsl; have hsl := hs1; clear hs1
  refine ops_go rfl rfl (fun K hK => ?_)
  have e299 := hsl.get 299 _ rfl
  unfold Oper.wp
  go_simp
  clear e299
  refine hK _ _ ?_
  clear hK
  refine Sl.step (G := fun a => wpOps _ _ _ _ a _) hsl (by decide) ?_
  intro a1 hs1; clear hsl; have hsl := hs1; clear hs1
  refine ops_want rfl rfl rfl rfl (hsl.get 300 _ rfl) (fun K hK => ?_)
  have e15 := hsl.get 15 _ rfl
  unfold Oper.wp
  go_simp
  clear e15
  refine hK _ _ ?_
  clear hK
  refine Sl.step (G := fun a => wpOps _ _ _ _ a _) hsl (by decide) ?_
  intro a1 hs1; clear hsl; have hsl := hs1; clear hs1
  refine ops_want rfl rfl rfl rfl (hsl.get 300 _ rfl) (fun K hK => ?_)
  have e301 := hsl.get 301 _ rfl
  unfold Oper.wp
  go_simp
  clear e301
  refine hK _ _ ?_
  clear hK
  refine Sl.step (G := fun a => wpOps _ _ _ _ a _) hsl (by decide) ?_
  intro a1 hs1; clear hsl; have hsl := hs1; clear hs1
  refine ops_go rfl rfl (fun K hK => ?_)
  have e300 := hsl.get 300 _ rfl
  have e302 := hsl.get 302 _ rfl
  unfold Oper.wp
  go_simp
  clear e300 e302
  refine hK _ _ ?_
  clear hK
  refine Sl.step (G := fun a => wpOps _ _ _ _ a _) hsl (by decide) ?_
  intro a1 hs1; clear hsl; have hsl := hs1; clear hs1
  refine ops_go rfl rfl (fun K hK => ?_)
  have e303 := hsl.get 303 _ rfl
  unfold Oper.wp
  go_simp
  clear e303
  refine hK _ _ ?_
  clear hK
  refine Sl.step (G := fun a => wpOps _ _ _ _ a _) hsl (by decide) ?_
  intro a1 hs1; clear hsl; have hsl := hs1; clear hs1
  refine ops_want rfl rfl rfl rfl (hsl.get 304 _ rfl) (fun K hK => ?_)
  have e12 := hsl.get 12 _ rfl
  unfold Oper.wp
  go_simp
  clear e12
  refine hK _ _ ?_
  clear hK
  refine Sl.step (G := fun a => wpOps _ _ _ _ a _) hsl (by decide) ?_
  intro a1 hs1; clear hsl; have hsl := hs1; clear hs1
  refine ops_want rfl rfl rfl rfl (hsl.get 304 _ rfl) (fun K hK => ?_)
  unfold Oper.wp
  go_simp
  refine hK _ _ ?_
  clear hK
  refine Sl.step (G := fun a => wpOps _ _ _ _ a _) hsl (by decide) ?_
  intro a1 hs1; clear hsl; have hsl := hs1; clear hs1
  refine ops_want rfl rfl rfl rfl (hsl.get 304 _ rfl) (fun K hK => ?_)
  have e305 := hsl.get 305 _ rfl
  have e306 := hsl.get 306 _ rfl
  unfold Oper.wp
  go_simp
  have ha := Below.alloc (Below.refl w.heap.size w) (Nat.le_refl _) (.cells #[.int .i64 0, .int .i64 0, .int .i64 2, .int .i64 0] 3)
  refine (same_ints _ x12 (some ⟨w.heap.size, 0, none⟩) y12 4 4 [0, 0, 2, 0] rfl (F12.out.below ha) (@ints_new w [0, 0, 2, 0]) (by unfold maxLen; omega)).mono ?_
  rintro e v1 ⟨rfl, hb⟩
  replace hb := ha.trans (hb.mono ha.size); clear ha
  replace F12 := Lib.hid (F12.out.below hb)
  replace F25 := Lib.hid (F25.out.below hb)
  replace HB := HB.trans (hb.mono HB.size); clear hb
  clear e305 e306
  refine hK _ _ ?_
  clear hK
  refine Sl.step (G := fun a => wpOps _ _ _ _ a _) hsl (by decide) ?_
  intro a1 hs1; clear hsl; have hsl := hs1; clear hs1
  refine ops_want rfl rfl rfl rfl (hsl.get 304 _ rfl) (fun K hK => ?_)
  have e307 := hsl.get 307 _ rfl
  unfold Oper.wp
  go_simp
  clear e307
  refine hK _ _ ?_
  clear hK
  refine Sl.step (G := fun a => wpOps _ _ _ _ a _) hsl (by decide) ?_
  intro a1 hs1; clear hsl; have hsl := hs1; clear hs1
  refine ops_go rfl rfl (fun K hK => ?_)
  have e304 := hsl.get 304 _ rfl
  have e308 := hsl.get 308 _ rfl
  unfold Oper.wp
  go_simp
  clear e304 e308
  refine hK _ _ ?_
  clear hK
  refine Sl.step (G := fun a => wpOps _ _ _ _ a _) hsl (by decide) ?_
  intro a1 hs1; clear hsl; have hsl := hs1; clear hs1
  refine ops_go rfl rfl (fun K hK => ?_)
  have e309 := hsl.get 309 _ rfl
  unfold Oper.wp
  go_simp
  clear e309
  refine hK _ _ ?_
  clear hK
  refine Sl.step (G := fun a => wpOps _ _ _ _ a _) hsl (by decide) ?_
  intro a1 hs1; clear hsl; have hsl := hs1; clear hs1
  refine ops_want rfl rfl rfl rfl (hsl.get 310 _ rfl) (fun K hK => ?_)
  have e25 := hsl.get 25 _ rfl
  unfold Oper.wp
  go_simp
  clear e25
  refine hK _ _ ?_
  clear hK
  refine Sl.step (G := fun a => wpOps _ _ _ _ a _) hsl (by decide) ?_
  intro a1 hs1; clear hsl; have hsl := hs1; clear hs1
  refine ops_want rfl rfl rfl rfl (hsl.get 310 _ rfl) (fun K hK => ?_)
  unfold Oper.wp
  go_simp
  refine hK _ _ ?_
  clear hK
  refine Sl.step (G := fun a => wpOps _ _ _ _ a _) hsl (by decide) ?_
  intro a1 hs1; clear hsl; have hsl := hs1; clear hs1
  refine ops_want rfl rfl rfl rfl (hsl.get 310 _ rfl) (fun K hK => ?_)
  have e312 := hsl.get 312 _ rfl
  unfold Oper.wp
  go_simp
  clear e312
  refine hK _ _ ?_
  clear hK
  refine Sl.step (G := fun a => wpOps _ _ _ _ a _) hsl (by decide) ?_
  intro a1 hs1; clear hsl; have hsl := hs1; clear hs1
  refine ops_want rfl rfl rfl rfl (hsl.get 310 _ rfl) (fun K hK => ?_)
  have e311 := hsl.get 311 _ rfl
  have e313 := hsl.get 313 _ rfl
  unfold Oper.wp
  go_simp
  have ha := Below.alloc (Below.refl v1.heap.size v1) (Nat.le_refl _) (.cells #[.int .i64 0, .int .i64 3] 44)
  refine (same_strides _ x25 (some ⟨v1.heap.size, 0, none⟩) y25 1 1 [(0, 3)] rfl (F25.out.below ha) (.inr ⟨v1.heap.size, 0, rfl, fun i hi => by
    obtain rfl : i = 0 := by simpa using hi
    exact ⟨by rw [World.cell?_alloc_at _ _ _ _ (by simp)]; rfl, by rw [World.cell?_alloc_at _ _ _ _ (by simp)]; rfl⟩⟩) (by unfold maxLen; omega)).mono ?_
  rintro e v2 ⟨rfl, hb⟩
  replace hb := ha.trans (hb.mono ha.size); clear ha
  replace F12 := Lib.hid (F12.out.below hb)
  replace F25 := Lib.hid (F25.out.below hb)
  replace HB := HB.trans (hb.mono HB.size); clear hb
  clear e311 e313
  refine hK _ _ ?_
  clear hK
  refine Sl.step (G := fun a => wpOps _ _ _ _ a _) hsl (by decide) ?_
  intro a1 hs1; clear hsl; have hsl := hs1; clear hs1
  refine ops_want rfl rfl rfl rfl (hsl.get 310 _ rfl) (fun K hK => ?_)
  have e314 := hsl.get 314 _ rfl
  unfold Oper.wp
  go_simp
  clear e314
  refine hK _ _ ?_
  clear hK
  refine Sl.step (G := fun a => wpOps _ _ _ _ a _) hsl (by decide) ?_
  intro a1 hs1; clear hsl; have hsl := hs1; clear hs1
  refine ops_go rfl rfl (fun K hK => ?_)
  have e310 := hsl.get 310 _ rfl
  have e315 := hsl.get 315 _ rfl
  unfold Oper.wp
  go_simp
  clear e310 e315
  refine hK _ _ ?_
  clear hK
  refine Sl.step (G := fun a => wpOps _ _ _ _ a _) hsl (by decide) ?_
  intro a1 hs1; clear hsl; have hsl := hs1; clear hs1
  refine ops_done ?_
  exact h _ _ _ _ _ _ _ _ _ _ _ _ _ _ _ _ _ _ _ _ _ _ _ _ hsl HB
set_option maxRecDepth 100000 in
set_option maxHeartbeats 4000000 in
theorem kr42 (w : World)   (a : Act) (m : List (Nat × Value)) (hsl : Sl a 548 ([(11, .int .i64 0), (13, .int .i64 0), (15, .int .i64 11), (17, .int .i64 0), (19, .int .i64 11), (26, .int .i64 3), (27, .int .i64 1), (28, .int .i64 1)] ++ m)) (rest : Code) (Q : Exit → Act → World → Prop) (h : ∀ (a' : Act) (w' : World) (u347 u348 u349 u350 u351 u352 u353 u354 u355 u356 u357 u358 u359 u360 u361 u362 u363 u364 u365 u366 u367 u368 u369 u370 u371 u372 u373 u374 u375 : Value), Sl a' 548 ([(376, .bool false), (375, u375), (374, u374), (373, u373), (372, u372), (371, u371), (370, u370), (369, u369), (368, u368), (367, u367), (366, u366), (365, u365), (364, u364), (363, u363), (362, u362), (361, u361), (360, u360), (359, u359), (358, u358), (357, u357), (356, u356), (355, u355), (354, u354), (353, u353), (352, u352), (351, u351), (350, u350), (349, u349), (348, u348), (347, u347)] ++ ([(11, .int .i64 0), (13, .int .i64 0), (15, .int .i64 11), (17, .int .i64 0), (19, .int .i64 11), (26, .int .i64 3), (27, .int .i64 1), (28, .int .i64 1)] ++ m)) → Below w.heap.size w w' → rest.wp Tryd.prog Q a' w') : (Code.seq (regionIn Tryd.f3 42) rest).wp Tryd.prog Q a w := by
  refine wp_seq ?_
  have e : regionIn Tryd.f3 42 = Code.region 42 _ false := rfl
  rw [e]; clear e
  refine wp_region ?_
  have HB := Below.refl w.heap.size w
  refine ops_go rfl rfl (fun K hK => ?_)
  have e11 := hsl.get 11 _ rfl
  unfold Oper.wp
  go_simp
  clear e11
  refine hK _ _ ?_
  clear hK
  refine Sl.step (G := fun a => wpOps _ _ _ _ a _) hsl (by decide) ?_
  intro a1 hs1; clear hsl; have hsl := hs1; clear hs1
  refine ops_go rfl rfl (fun K hK => ?_)
  have e347 := hsl.get 347 _ rfl
  unfold Oper.wp
  go_simp
  clear e347
  refine hK _ _ ?_
  clear hK
  refine Sl.step (G := fun a => wpOps _ _ _ _ a _) hsl (by decide) ?_
  intro a1 hs1; clear hsl; have hsl := hs1; clear hs1
  refine ops_go rfl rfl (fun K hK => ?_)
  have e348 := hsl.get 348 _ rfl
  unfold Oper.wp
  go_simp
  clear e348
  refine hK _ _ ?_
  clear hK
  refine Sl.step (G := fun a => wpOps _ _ _ _ a _) hsl (by decide) ?_
  intro a1 hs1; clear hsl; have hsl := hs1; clear hs1
  refine ops_want rfl rfl rfl rfl (hsl.get 349 _ rfl) (fun K hK => ?_)
  have e13 := hsl.get 13 _ rfl
  unfold Oper.wp
  go_simp
  clear e13
  refine hK _ _ ?_
  clear hK
  refine Sl.step (G := fun a => wpOps _ _ _ _ a _) hsl (by decide) ?_
  intro a1 hs1; clear hsl; have hsl := hs1; clear hs1
  refine ops_want rfl rfl rfl rfl (hsl.get 349 _ rfl) (fun K hK => ?_)
  have e350 := hsl.get 350 _ rfl
  unfold Oper.wp
  go_simp
  clear e350
  refine hK _ _ ?_
  clear hK
  refine Sl.step (G := fun a => wpOps _ _ _ _ a _) hsl (by decide) ?_
  intro a1 hs1; clear hsl; have hsl := hs1; clear hs1
  refine ops_go rfl rfl (fun K hK => ?_)
  have e349 := hsl.get 349 _ rfl
  have e351 := hsl.get 351 _ rfl
  unfold Oper.wp
  go_simp
  clear e349 e351
  refine hK _ _ ?_
  clear hK
  refine Sl.step (G := fun a => wpOps _ _ _ _ a _) hsl (by decide) ?_
  intro a1 hs1; clear hsl; have hsl := hs1; clear hs1
  refine ops_go rfl rfl (fun K hK => ?_)
  have e352 := hsl.get 352 _ rfl
  unfold Oper.wp
  go_simp
  clear e352
  refine hK _ _ ?_
  clear hK
  refine Sl.step (G := fun a => wpOps _ _ _ _ a _) hsl (by decide) ?_
  intro a1 hs1; clear hsl; have hsl := hs1; clear hs1
  refine ops_want rfl rfl rfl rfl (hsl.get 353 _ rfl) (fun K hK => ?_)
  have e15 := hsl.get 15 _ rfl
  unfold Oper.wp
  go_simp
  clear e15
  refine hK _ _ ?_
  clear hK
  refine Sl.step (G := fun a => wpOps _ _ _ _ a _) hsl (by decide) ?_
  intro a1 hs1; clear hsl; have hsl := hs1; clear hs1
  refine ops_want rfl rfl rfl rfl (hsl.get 353 _ rfl) (fun K hK => ?_)
  have e354 := hsl.get 354 _ rfl
  unfold Oper.wp
  go_simp
  clear e354
  refine hK _ _ ?_
  clear hK
  refine Sl.step (G := fun a => wpOps _ _ _ _ a _) hsl (by decide) ?_
  intro a1 hs1; clear hsl; have hsl := hs1; clear hs1
  refine ops_go rfl rfl (fun K hK => ?_)
  have e353 := hsl.get 353 _ rfl
  have e355 := hsl.get 355 _ rfl
  unfold Oper.wp
  go_simp
  clear e353 e355
  refine hK _ _ ?_
  clear hK
  refine Sl.step (G := fun a => wpOps _ _ _ _ a _) hsl (by decide) ?_
  intro a1 hs1; clear hsl; have hsl := hs1; clear hs1
  refine ops_go rfl rfl (fun K hK => ?_)
  have e356 := hsl.get 356 _ rfl
  unfold Oper.wp
  go_simp
  clear e356
  refine hK _ _ ?_
  clear hK
  refine Sl.step (G := fun a => wpOps _ _ _ _ a _) hsl (by decide) ?_
  intro a1 hs1; clear hsl; have hsl := hs1; clear hs1
  refine ops_want rfl rfl rfl rfl (hsl.get 357 _ rfl) (fun K hK => ?_)
  have e17 := hsl.get 17 _ rfl
  unfold Oper.wp
  go_simp
  clear e17
  refine hK _ _ ?_
  clear hK
  refine Sl.step (G := fun a => wpOps _ _ _ _ a _) hsl (by decide) ?_
  intro a1 hs1; clear hsl; have hsl := hs1; clear hs1
  refine ops_want rfl rfl rfl rfl (hsl.get 357 _ rfl) (fun K hK => ?_)
  have e358 := hsl.get 358 _ rfl
  unfold Oper.wp
  go_simp
  clear e358
  refine hK _ _ ?_
  clear hK
  refine Sl.step (G := fun a => wpOps _ _ _ _ a _) hsl (by decide) ?_
  intro a1 hs1; clear hsl; have hsl := hs1; clear hs1
  refine ops_go rfl rfl (fun K hK => ?_)
  have e357 := hsl.get 357 _ rfl
  have e359 := hsl.get 359 _ rfl
  unfold Oper.wp
  go_simp
  clear e357 e359
  refine hK _ _ ?_
  clear hK
  refine Sl.step (G := fun a => wpOps _ _ _ _ a _) hsl (by decide) ?_
  intro a1 hs1; clear hsl; have hsl := hs1; clear hs1
  refine ops_go rfl rfl (fun K hK => ?_)
  have e360 := hsl.get 360 _ rfl
  unfold Oper.wp
  go_simp
  clear e360
  refine hK _ _ ?_
  clear hK
  refine Sl.step (G := fun a => wpOps _ _ _ _ a _) hsl (by decide) ?_
  intro a1 hs1; clear hsl; have hsl := hs1; clear hs1
  refine ops_want rfl rfl rfl rfl (hsl.get 361 _ rfl) (fun K hK => ?_)
  have e19 := hsl.get 19 _ rfl
  unfold Oper.wp
  go_simp
  clear e19
  refine hK _ _ ?_
  clear hK
  refine Sl.step (G := fun a => wpOps _ _ _ _ a _) hsl (by decide) ?_
  intro a1 hs1; clear hsl; have hsl := hs1; clear hs1
  refine ops_want rfl rfl rfl rfl (hsl.get 361 _ rfl) (fun K hK => ?_)
  have e362 := hsl.get 362 _ rfl
  unfold Oper.wp
  go_simp
  clear e362
  refine hK _ _ ?_
  clear hK
  refine Sl.step (G := fun a => wpOps _ _ _ _ a _) hsl (by decide) ?_
  intro a1 hs1; clear hsl; have hsl := hs1; clear hs1
  refine ops_go rfl rfl (fun K hK => ?_)
  have e361 := hsl.get 361 _ rfl
  have e363 := hsl.get 363 _ rfl
  unfold Oper.wp
  go_simp
  clear e361 e363
  refine hK _ _ ?_
  clear hK
  refine Sl.step (G := fun a => wpOps _ _ _ _ a _) hsl (by decide) ?_
  intro a1 hs1; clear hsl; have hsl := hs1; clear hs1
  refine ops_go rfl rfl (fun K hK => ?_)
  have e364 := hsl.get 364 _ rfl
  unfold Oper.wp
  go_simp
  clear e364
  refine hK _ _ ?_
  clear hK
  refine Sl.step (G := fun a => wpOps _ _ _ _ a _) hsl (by decide) ?_
  intro a1 hs1; clear hsl; have hsl := hs1; clear hs1
  refine ops_want rfl rfl rfl rfl (hsl.get 365 _ rfl) (fun K hK => ?_)
  have e26 := hsl.get 26 _ rfl
  unfold Oper.wp
  go_simp
  clear e26
  refine hK _ _ ?_
  clear hK
  refine Sl.step (G := fun a => wpOps _ _ _ _ a _) hsl (by decide) ?_
  intro a1 hs1; clear hsl; have hsl := hs1; clear hs1
  refine ops_want rfl rfl rfl rfl (hsl.get 365 _ rfl) (fun K hK => ?_)
  have e366 := hsl.get 366 _ rfl
  unfold Oper.wp
  go_simp
  clear e366
  refine hK _ _ ?_
  clear hK
  refine Sl.step (G := fun a => wpOps _ _ _ _ a _) hsl (by decide) ?_
  intro a1 hs1; clear hsl; have hsl := hs1; clear hs1
  refine ops_go rfl rfl (fun K hK => ?_)
  have e365 := hsl.get 365 _ rfl
  have e367 := hsl.get 367 _ rfl
  unfold Oper.wp
  go_simp
  clear e365 e367
  refine hK _ _ ?_
  clear hK
  refine Sl.step (G := fun a => wpOps _ _ _ _ a _) hsl (by decide) ?_
  intro a1 hs1; clear hsl; have hsl := hs1; clear hs1
  refine ops_go rfl rfl (fun K hK => ?_)
  have e368 := hsl.get 368 _ rfl
  unfold Oper.wp
  go_simp
  clear e368
  refine hK _ _ ?_
  clear hK
  refine Sl.step (G := fun a => wpOps _ _ _ _ a _) hsl (by decide) ?_
  intro a1 hs1; clear hsl; have hsl := hs1; clear hs1
  refine ops_want rfl rfl rfl rfl (hsl.get 369 _ rfl) (fun K hK => ?_)
  have e27 := hsl.get 27 _ rfl
  unfold Oper.wp
  go_simp
  clear e27
  refine hK _ _ ?_
  clear hK
  refine Sl.step (G := fun a => wpOps _ _ _ _ a _) hsl (by decide) ?_
  intro a1 hs1; clear hsl; have hsl := hs1; clear hs1
  refine ops_want rfl rfl rfl rfl (hsl.get 369 _ rfl) (fun K hK => ?_)
  have e370 := hsl.get 370 _ rfl
  unfold Oper.wp
  go_simp
  clear e370
  refine hK _ _ ?_
  clear hK
  refine Sl.step (G := fun a => wpOps _ _ _ _ a _) hsl (by decide) ?_
  intro a1 hs1; clear hsl; have hsl := hs1; clear hs1
  refine ops_go rfl rfl (fun K hK => ?_)
  have e369 := hsl.get 369 _ rfl
  have e371 := hsl.get 371 _ rfl
  unfold Oper.wp
  go_simp
  clear e369 e371
  refine hK _ _ ?_
  clear hK
  refine Sl.step (G := fun a => wpOps _ _ _ _ a _) hsl (by decide) ?_
  intro a1 hs1; clear hsl; have hsl := hs1; clear hs1
  refine ops_go rfl rfl (fun K hK => ?_)
  have e372 := hsl.get 372 _ rfl
  unfold Oper.wp
  go_simp
  clear e372
  refine hK _ _ ?_
  clear hK
  refine Sl.step (G := fun a => wpOps _ _ _ _ a _) hsl (by decide) ?_
  intro a1 hs1; clear hsl; have hsl := hs1; clear hs1
  refine ops_want rfl rfl rfl rfl (hsl.get 373 _ rfl) (fun K hK => ?_)
  have e28 := hsl.get 28 _ rfl
  unfold Oper.wp
  go_simp
  clear e28
  refine hK _ _ ?_
  clear hK
  refine Sl.step (G := fun a => wpOps _ _ _ _ a _) hsl (by decide) ?_
  intro a1 hs1; clear hsl; have hsl := hs1; clear hs1
  refine ops_want rfl rfl rfl rfl (hsl.get 373 _ rfl) (fun K hK => ?_)
  have e374 := hsl.get 374 _ rfl
  unfold Oper.wp
  go_simp
  clear e374
  refine hK _ _ ?_
  clear hK
  refine Sl.step (G := fun a => wpOps _ _ _ _ a _) hsl (by decide) ?_
  intro a1 hs1; clear hsl; have hsl := hs1; clear hs1
  refine ops_go rfl rfl (fun K hK => ?_)
  have e373 := hsl.get 373 _ rfl
  have e375 := hsl.get 375 _ rfl
  unfold Oper.wp
  go_simp
  clear e373 e375
  refine hK _ _ ?_
  clear hK
  refine Sl.step (G := fun a => wpOps _ _ _ _ a _) hsl (by decide) ?_
  intro a1 hs1; clear hsl; have hsl := hs1; clear hs1
  refine ops_done ?_
  exact h _ _ _ _ _ _ _ _ _ _ _ _ _ _ _ _ _ _ _ _ _ _ _ _ _ _ _ _ _ _ _ hsl HB
set_option maxRecDepth 100000 in
set_option maxHeartbeats 4000000 in
theorem kr49 (w : World) (x12 : Option Addr) (y12 : Nat) (x14 : Option Addr) (y14 : Nat) (f12 : IntsAt w x12 [2]) (f14 : IntsAt w x14 []) (a : Act) (m : List (Nat × Value)) (hsl : Sl a 548 ([(11, .int .i64 0), (13, .int .i64 0), (15, .int .i64 0), (17, .int .i64 0), (19, .int .i64 11), (26, .int .i64 10), (27, .int .i64 20), (12, .slice x12 1 y12), (14, .slice x14 0 y14)] ++ m)) (rest : Code) (Q : Exit → Act → World → Prop) (h : ∀ (a' : Act) (w' : World) (u405 u406 u407 u408 u409 u410 u411 u412 u413 u414 u415 u416 u417 u418 u419 u420 u421 u422 u423 u424 u425 u426 u427 u428 u429 u430 u431 u432 u433 u434 u435 u436 u437 u438 u439 u440 : Value), Sl a' 548 ([(441, .bool false), (440, u440), (439, u439), (438, u438), (437, u437), (436, u436), (435, u435), (434, u434), (433, u433), (432, u432), (431, u431), (430, u430), (429, u429), (428, u428), (427, u427), (426, u426), (425, u425), (424, u424), (423, u423), (422, u422), (421, u421), (420, u420), (419, u419), (418, u418), (417, u417), (416, u416), (415, u415), (414, u414), (413, u413), (412, u412), (411, u411), (410, u410), (409, u409), (408, u408), (407, u407), (406, u406), (405, u405)] ++ ([(11, .int .i64 0), (13, .int .i64 0), (15, .int .i64 0), (17, .int .i64 0), (19, .int .i64 11), (26, .int .i64 10), (27, .int .i64 20), (12, .slice x12 1 y12), (14, .slice x14 0 y14)] ++ m)) → Below w.heap.size w w' → rest.wp Tryd.prog Q a' w') : (Code.seq (regionIn Tryd.f3 49) rest).wp Tryd.prog Q a w := by
  refine wp_seq ?_
  have e : regionIn Tryd.f3 49 = Code.region 49 _ false := rfl
  rw [e]; clear e
  refine wp_region ?_
  have HB := Below.refl w.heap.size w
  have F12 := Lib.hid f12; clear f12
  have F14 := Lib.hid f14; clear f14
  refine ops_go rfl rfl (fun K hK => ?_)
  have e11 := hsl.get 11 _ rfl
  unfold Oper.wp
  go_simp
  clear e11
  refine hK _ _ ?_
  clear hK
  refine Sl.step (G := fun a => wpOps _ _ _ _ a _) hsl (by decide) ?_
  intro a1 hs1; clear hsl; have hsl := hs1; clear hs1
  refine ops_go rfl rfl (fun K hK => ?_)
  have e405 := hsl.get 405 _ rfl
  unfold Oper.wp
  go_simp
  clear e405
  refine hK _ _ ?_
  clear hK
  refine Sl.step (G := fun a => wpOps _ _ _ _ a _) hsl (by decide) ?_
  intro a1 hs1; clear hsl; have hsl := hs1; clear hs1
  refine ops_go rfl rfl (fun K hK => ?_)
  have e406 := hsl.get 406 _ rfl
  unfold Oper.wp
  go_simp
  clear e406
  refine hK _ _ ?_
  clear hK
  refine Sl.step (G := fun a => wpOps _ _ _ _ a _) hsl (by decide) ?_
  intro a1 hs1; clear hsl; have hsl := hs1; clear hs1
  refine ops_want rfl rfl rfl rfl (hsl.get 407 _ rfl) (fun K hK => ?_)
  have e13 := hsl.get 13 _ rfl
  unfold Oper.wp
  go_simp
  clear e13
  refine hK _ _ ?_
  clear hK
  refine Sl.step (G := fun a => wpOps _ _ _ _ a _) hsl (by decide) ?_
  intro a1 hs1; clear hsl; have hsl := hs1; clear hs1
  refine ops_want rfl rfl rfl rfl (hsl.get 407 _ rfl) (fun K hK => ?_)
  have e408 := hsl.get 408 _ rfl
  unfold Oper.wp
  go_simp
  clear e408
  refine hK _ _ ?_
  clear hK
  refine Sl.step (G := fun a => wpOps _ _ _ _ a _) hsl (by decide) ?_
  intro a1 hs1; clear hsl; have hsl := hs1; clear hs1
  refine ops_go rfl rfl (fun K hK => ?_)
  have e407 := hsl.get 407 _ rfl
  have e409 := hsl.get 409 _ rfl
  unfold Oper.wp
  go_simp
  clear e407 e409
  refine hK _ _ ?_
  clear hK
  refine Sl.step (G := fun a => wpOps _ _ _ _ a _) hsl (by decide) ?_
  intro a1 hs1; clear hsl; have hsl := hs1; clear hs1
  refine ops_go rfl rfl (fun K hK => ?_)
  have e410 := hsl.get 410 _ rfl
  unfold Oper.wp
  go_simp
  clear e410
  refine hK _ _ ?_
  clear hK
  refine Sl.step (G := fun a => wpOps _ _ _ _ a _) hsl (by decide) ?_
  intro a1 hs1; clear hsl; have hsl := hs1; clear hs1
  refine ops_want rfl rfl rfl rfl (hsl.get 411 _ rfl) (fun K hK => ?_)
  have e15 := hsl.get 15 _ rfl
  unfold Oper.wp
  go_simp
  clear e15
  refine hK _ _ ?_
  clear hK
  refine Sl.step (G := fun a => wpOps _ _ _ _ a _) hsl (by decide) ?_
  intro a1 hs1; clear hsl; have hsl := hs1; clear hs1
  refine ops_want rfl rfl rfl rfl (hsl.get 411 _ rfl) (fun K hK => ?_)
  have e412 := hsl.get 412 _ rfl
  unfold Oper.wp
  go_simp
  clear e412
  refine hK _ _ ?_
  clear hK
  refine Sl.step (G := fun a => wpOps _ _ _ _ a _) hsl (by decide) ?_
  intro a1 hs1; clear hsl; have hsl := hs1; clear hs1
  refine ops_go rfl rfl (fun K hK => ?_)
  have e411 := hsl.get 411 _ rfl
  have e413 := hsl.get 413 _ rfl
  unfold Oper.wp
  go_simp
  clear e411 e413
  refine hK _ _ ?_
  clear hK
  refine Sl.step (G := fun a => wpOps _ _ _ _ a _) hsl (by decide) ?_
  intro a1 hs1; clear hsl; have hsl := hs1; clear hs1
  refine ops_go rfl rfl (fun K hK => ?_)
  have e414 := hsl.get 414 _ rfl
  unfold Oper.wp
  go_simp
  clear e414
  refine hK _ _ ?_
  clear hK
  refine Sl.step (G := fun a => wpOps _ _ _ _ a _) hsl (by decide) ?_
  intro a1 hs1; clear hsl; have hsl := hs1; clear hs1
  refine ops_want rfl rfl rfl rfl (hsl.get 415 _ rfl) (fun K hK => ?_)
  have e17 := hsl.get 17 _ rfl
  unfold Oper.wp
  go_simp
  clear e17
  refine hK _ _ ?_
  clear hK
  refine Sl.step (G := fun a => wpOps _ _ _ _ a _) hsl (by decide) ?_
  intro a1 hs1; clear hsl; have hsl := hs1; clear hs1
  refine ops_want rfl rfl rfl rfl (hsl.get 415 _ rfl) (fun K hK => ?_)
  have e416 := hsl.get 416 _ rfl
  unfold Oper.wp
  go_simp
  clear e416
  refine hK _ _ ?_
  clear hK
  refine Sl.step (G := fun a => wpOps _ _ _ _ a _) hsl (by decide) ?_
  intro a1 hs1; clear hsl; have hsl := hs1; clear hs1
  refine ops_go rfl rfl (fun K hK => ?_)
  have e415 := hsl.get 415 _ rfl
  have e417 := hsl.get 417 _ rfl
  unfold Oper.wp
  go_simp
  clear e415 e417
  refine hK _ _ ?_
  clear hK
  refine Sl.step (G := fun a => wpOps _ _ _ _ a _) hsl (by decide) ?_
  intro a1 hs1; clear hsl; have hsl := hs1; clear hs1
  refine ops_go rfl rfl (fun K hK => ?_)
  have e418 := hsl.get 418 _ rfl
  unfold Oper.wp
  go_simp
  clear e418
  refine hK _ _ ?_
  clear hK
  refine Sl.step (G := fun a => wpOps _ _ _ _ a _) hsl (by decide) ?_
  intro a1 hs1; clear hsl; have hsl := hs1; clear hs1
  refine ops_want rfl rfl rfl rfl (hsl.get 419 _ rfl) (fun K hK => ?_)
  have e19 := hsl.get 19 _ rfl
  unfold Oper.wp
  go_simp
  clear e19
  refine hK _ _ ?_
  clear hK
  refine Sl.step (G := fun a => wpOps _ _ _ _ a _) hsl (by decide) ?_
  intro a1 hs1; clear hsl; have hsl := hs1; clear hs1
  refine ops_want rfl rfl rfl rfl (hsl.get 419 _ rfl) (fun K hK => ?_)
  have e420 := hsl.get 420 _ rfl
  unfold Oper.wp
  go_simp
  clear e420
  refine hK _ _ ?_
  clear hK
  refine Sl.step (G := fun a => wpOps _ _ _ _ a _) hsl (by decide) ?_
  intro a1 hs1; clear hsl; have hsl := hs1; clear hs1
  refine ops_go rfl rfl (fun K hK => ?_)
  have e419 := hsl.get 419 _ rfl
  have e421 := hsl.get 421 _ rfl
  unfold Oper.wp
  go_simp
  clear e419 e421
  refine hK _ _ ?_
  clear hK
  refine Sl.step (G := fun a => wpOps _ _ _ _ a _) hsl (by decide) ?_
  intro a1 hs1; clear hsl; have hsl := hs1; clear hs1
  refine ops_go rfl rfl (fun K hK => ?_)
  have e422 := hsl.get 422 _ rfl
  unfold Oper.wp
  go_simp
  clear e422
  refine hK _ _ ?_
  clear hK
  refine Sl.step (G := fun a => wpOps _ _ _ _ a _) hsl (by decide) ?_
  intro a1 hs1; clear hsl; have hsl := hs1; clear hs1
  refine ops_want rfl rfl rfl rfl (hsl.get 423 _ rfl) (fun K hK => ?_)
  have e26 := hsl.get 26 _ rfl
  unfold Oper.wp
  go_simp
  clear e26
  refine hK _ _ ?_
  clear hK
  refine Sl.step (G := fun a => wpOps _ _ _ _ a _) hsl (by decide) ?_
  intro a1 hs1; clear hsl; have hsl := hs1; clear hs1
  refine ops_want rfl rfl rfl rfl (hsl.get 423 _ rfl) (fun K hK => ?_)
  have e424 := hsl.get 424 _ rfl
  unfold Oper.wp
  go_simp
  clear e424
  refine hK _ _ ?_
  clear hK
  refine Sl.step (G := fun a => wpOps _ _ _ _ a _) hsl (by decide) ?_
  intro a1 hs1; clear hsl; have hsl := hs1; clear hs1
  refine ops_go rfl rfl (fun K hK => ?_)
  have e423 := hsl.get 423 _ rfl
  have e425 := hsl.get 425 _ rfl
  unfold Oper.wp
  go_simp
  clear e423 e425
  refine hK _ _ ?_
  clear hK
  refine Sl.step (G := fun a => wpOps _ _ _ _ a _) hsl (by decide) ?_
  intro a1 hs1; clear hsl; have hsl := hs1; clear hs1
  refine ops_go rfl rfl (fun K hK => ?_)
  have e426 := hsl.get 426 _ rfl
  unfold Oper.wp
  go_simp
  clear e426
  refine hK _ _ ?_
  clear hK
  refine Sl.step (G := fun a => wpOps _ _ _ _ a _) hsl (by decide) ?_
  intro a1 hs1; clear hsl; have hsl := hs1; clear hs1
  refine ops_want rfl rfl rfl rfl (hsl.get 427 _ rfl) (fun K hK => ?_)
  have e27 := hsl.get 27 _ rfl
  unfold Oper.wp
  go_simp
  clear e27
  refine hK _ _ ?_
  clear hK
  refine Sl.step (G := fun a => wpOps _ _ _ _ a _) hsl (by decide) ?_
  intro a1 hs1; clear hsl; have hsl := hs1; clear hs1
  refine ops_want rfl rfl rfl rfl (hsl.get 427 _ rfl) (fun K hK => ?_)
  have e428 := hsl.get 428 _ rfl
  unfold Oper.wp
  go_simp
  clear e428
  refine hK _ _ ?_
  clear hK
  refine Sl.step (G := fun a => wpOps _ _ _ _ a _) hsl (by decide) ?_
  intro a1 hs1; clear hsl; have hsl := hs1; clear hs1
  refine ops_go rfl rfl (fun K hK => ?_)
  have e427 := hsl.get 427 _ rfl
  have e429 := hsl.get 429 _ rfl
  unfold Oper.wp
  go_simp
  clear e427 e429
  refine hK _ _ ?_
  clear hK
  refine Sl.step (G := fun a => wpOps _ _ _ _ a _) hsl (by decide) ?_
  intro a1 hs1; clear hsl; have hsl := hs1; clear hs1
  refine ops_go rfl rfl (fun K hK => ?_)
  have e430 := hsl.get 430 _ rfl
  unfold Oper.wp
  go_simp
  clear e430
  refine hK _ _ ?_
  clear hK
  refine Sl.step (G := fun a => wpOps _ _ _ _ a _) hsl (by decide) ?_
  intro a1 hs1; clear hsl; have hsl := hs1; clear hs1
  refine ops_want rfl rfl rfl rfl (hsl.get 431 _ rfl) (fun K hK => ?_)
  have e14 := hsl.get 14 _ rfl
  unfold Oper.wp
  go_simp
  clear e14
  refine hK _ _ ?_
  clear hK
  refine Sl.step (G := fun a => wpOps _ _ _ _ a _) hsl (by decide) ?_
  intro a1 hs1; clear hsl; have hsl := hs1; clear hs1
  refine ops_want rfl rfl rfl rfl (hsl.get 431 _ rfl) (fun K hK => ?_)
  have e432 := hsl.get 432 _ rfl
  unfold Oper.wp
  go_simp
  clear e432
  refine hK _ _ ?_
  clear hK
  refine Sl.step (G := fun a => wpOps _ _ _ _ a _) hsl (by decide) ?_
  intro a1 hs1; clear hsl; have hsl := hs1; clear hs1
  refine ops_want rfl rfl rfl rfl (hsl.get 431 _ rfl) (fun K hK => ?_)
  have e433 := hsl.get 433 _ rfl
  unfold Oper.wp
  go_simp
  clear e433
  refine hK _ _ ?_
  clear hK
  refine Sl.step (G := fun a => wpOps _ _ _ _ a _) hsl (by decide) ?_
  intro a1 hs1; clear hsl; have hsl := hs1; clear hs1
  refine ops_go rfl rfl (fun K hK => ?_)
  have e431 := hsl.get 431 _ rfl
  have e434 := hsl.get 434 _ rfl
  unfold Oper.wp
  go_simp
  clear e431 e434
  refine hK _ _ ?_
  clear hK
  refine Sl.step (G := fun a => wpOps _ _ _ _ a _) hsl (by decide) ?_
  intro a1 hs1; clear hsl; have hsl := hs1; clear hs1
  refine ops_go rfl rfl (fun K hK => ?_)
  have e435 := hsl.get 435 _ rfl
  unfold Oper.wp
  go_simp
  clear e435
  refine hK _ _ ?_
  clear hK
  refine Sl.step (G := fun a => wpOps _ _ _ _ a _) hsl (by decide) ?_
  intro a1 hs1; clear hsl; have hsl := hs1; clear hs1
  refine ops_want rfl rfl rfl rfl (hsl.get 436 _ rfl) (fun K hK => ?_)
  have e12 := hsl.get 12 _ rfl
  unfold Oper.wp
  go_simp
  clear e12
  refine hK _ _ ?_
  clear hK
  refine Sl.step (G := fun a => wpOps _ _ _ _ a _) hsl (by decide) ?_
  intro a1 hs1; clear hsl; have hsl := hs1; clear hs1
  refine ops_want rfl rfl rfl rfl (hsl.get 436 _ rfl) (fun K hK => ?_)
  unfold Oper.wp
  go_simp
  refine hK _ _ ?_
  clear hK
  refine Sl.step (G := fun a => wpOps _ _ _ _ a _) hsl (by decide) ?_
  intro a1 hs1; clear hsl; have hsl := hs1; clear hs1
  refine ops_want rfl rfl rfl rfl (hsl.get 436 _ rfl) (fun K hK => ?_)
  have e437 := hsl.get 437 _ rfl
  have e438 := hsl.get 438 _ rfl
  unfold Oper.wp
  go_simp
  have ha := Below.alloc (Below.refl w.heap.size w) (Nat.le_refl _) (.cells #[.int .i64 2] 3)
  refine (same_ints _ x12 (some ⟨w.heap.size, 0, none⟩) y12 1 1 [2] rfl (F12.out.below ha) (@ints_new w [2]) (by unfold maxLen; omega)).mono ?_
  rintro e v1 ⟨rfl, hb⟩
  replace hb := ha.trans (hb.mono ha.size); clear ha
  replace F12 := Lib.hid (F12.out.below hb)
  replace F14 := Lib.hid (F14.out.below hb)
  replace HB := HB.trans (hb.mono HB.size); clear hb
  clear e437 e438
  refine hK _ _ ?_
  clear hK
  refine Sl.step (G := fun a => wpOps _ _ _ _ a _) hsl (by decide) ?_
  intro a1 hs1; clear hsl; have hsl := hs1; clear hs1
  refine ops_want rfl rfl rfl rfl (hsl.get 436 _ rfl) (fun K hK => ?_)
  have e439 := hsl.get 439 _ rfl
  unfold Oper.wp
  go_simp
  clear e439
  refine hK _ _ ?_
  clear hK
  refine Sl.step (G := fun a => wpOps _ _ _ _ a _) hsl (by decide) ?_
  intro a1 hs1; clear hsl; have hsl := hs1; clear hs1
  refine ops_go rfl rfl (fun K hK => ?_)
  have e436 := hsl.get 436 _ rfl
  have e440 := hsl.get 440 _ rfl
  unfold Oper.wp
  go_simp
  clear e436 e440
  refine hK _ _ ?_
  clear hK
  refine Sl.step (G := fun a => wpOps _ _ _ _ a _) hsl (by decide) ?_
  intro a1 hs1; clear hsl; have hsl := hs1; clear hs1
  refine ops_done ?_
  exact h _ _ _ _ _ _ _ _ _ _ _ _ _ _ _ _ _ _ _ _ _ _ _ _ _ _ _ _ _ _ _ _ _ _ _ _ _ _ hsl HB
end Go.Proofs.YtmkjeonjhedgkaaDoor
