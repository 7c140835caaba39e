/- The walk of RoadRead. -/
import Derived.Test.YtmkjeonjhedgkaaGreatDoorReadW
import Derived.Test.YtmkjeonjhedgkaaGreatDoorSameR
import Derived.Test.YtmkjeonjhedgkaaGreatDoorRoadsOf
import Derived.Test.YtmkjeonjhedgkaaGreatDoorAfoot
namespace Go.Proofs.YtmkjeonjhedgkaaGreatDoor
set_option linter.unusedSimpArgs false
set_option linter.unusedVariables false
open Go.RowKit

set_option maxRecDepth 100000 in
theorem roadRead_body : Tryz.f4.body = some (Code.seq (regionIn Tryz.f4 0) (Code.seq (Code.seq (regionIn Tryz.f4 1) (Code.cond (Operand.tmp 18) (Code.seq (regionIn Tryz.f4 2) Code.ret) Code.skip)) (Code.seq (regionIn Tryz.f4 3) (Code.seq (regionIn Tryz.f4 4) (Code.seq (regionIn Tryz.f4 5) (Code.seq (Code.seq (regionIn Tryz.f4 6) (Code.cond (Operand.tmp 49) (Code.seq (regionIn Tryz.f4 7) Code.ret) Code.skip)) (Code.seq (regionIn Tryz.f4 8) (Code.seq (Code.seq (regionIn Tryz.f4 9) (Code.cond (Operand.tmp 57) (Code.seq (regionIn Tryz.f4 10) Code.ret) Code.skip)) (Code.seq (regionIn Tryz.f4 11) (Code.seq (regionIn Tryz.f4 12) Code.ret)))))))))) := rfl
set_option maxRecDepth 100000 in
set_option maxHeartbeats 4000000 in
theorem roadReadL (w : World) (a : Option Addr) (n0 c : Nat) (l : List Int) (hl : IntsAt w a l) (hn : l.length = n0) (hmx : n0 ≤ maxLen) (ha : l = [] ∨ ∀ ad, a = some ad → ad.block < w.heap.size) (t : List UInt8) (ht : TabOk w) (hm : MaxOk w) (h3 : 300 < (t.length : Int)) : Calls Tryz.prog 4 #[.slice a n0 c, .string ⟨t.toArray⟩] w fun e w' => e = .returned (.bool true) ∧ Below w.heap.size w w' := by
  refine calls_of_wp Tryz.func4 roadRead_body ?_
  have hsl : Sl (⟨#[.slice a n0 c, .string ⟨t.toArray⟩] ++ Array.replicate (Tryz.f4.ntmps - (#[.slice a n0 c, .string ⟨t.toArray⟩] : Array Value).size) undef, []⟩ : Act) 74 [(0, .slice a n0 c), (1, .string ⟨t.toArray⟩)] := by rw [Tryz.ntmps4]; exact Sl.entry2 _ _ (by omega)
  revert hsl; generalize (Act.mk _ _) = a0; intro hsl
  have HB := Below.refl w.heap.size w
  refine wp_seq ?_
  have e : regionIn Tryz.f4 0 = Code.region 0 _ false := rfl
  rw [e]; clear e
  refine wp_region ?_
  refine ops_go rfl rfl (fun K hK => ?_)
  unfold Oper.wp
  go_simp
  refine hK _ _ ?_; clear hK
  refine hsl.go (by decide) ?_; clear hsl; intro a1 hsl
  refine ops_done ?_
  try simp only [Exit.then, Exit.inBlock, ↓reduceIte, Nat.reduceEqDiff]
  refine wp_seq ?_
  refine wp_seq ?_
  have e : regionIn Tryz.f4 1 = Code.region 1 _ false := rfl
  rw [e]; clear e
  refine wp_region ?_
  refine ops_go rfl rfl (fun K hK => ?_)
  have e1 := hsl.get 1 _ rfl
  unfold Oper.wp
  go_simp
  clear e1
  refine hK _ _ ?_; clear hK
  refine hsl.go (by decide) ?_; clear hsl; intro a1 hsl
  refine ops_go rfl rfl (fun K hK => ?_)
  have e16 := hsl.get 16 _ rfl
  unfold Oper.wp
  go_simp
  clear e16
  refine hK _ _ ?_; clear hK
  refine hsl.go (by decide) ?_; clear hsl; intro a1 hsl
  refine ops_go rfl rfl (fun K hK => ?_)
  have e17 := hsl.get 17 _ rfl
  unfold Oper.wp
  go_simp
  clear e17
  refine hK _ _ ?_; clear hK
  refine hsl.go (by decide) ?_; clear hsl; intro a1 hsl
  refine ops_done ?_
  try simp only [Exit.then, Exit.inBlock, ↓reduceIte, Nat.reduceEqDiff]
  refine wp_cond_true (hsl.ev 18 rfl) ?_
  refine wp_seq ?_
  have e : regionIn Tryz.f4 2 = Code.region 2 _ false := rfl
  rw [e]; clear e
  refine wp_region ?_
  refine ops_go rfl rfl (fun K hK => ?_)
  unfold Oper.wp
  go_simp
  refine (afoot_any w).mono ?_
  rintro e w1 ⟨rfl, hb⟩
  replace HB := HB.trans (hb.mono HB.size)
  clear hb
  refine hK _ _ ?_; clear hK
  refine hsl.go (by decide) ?_; clear hsl; intro a1 hsl
  refine ops_go rfl rfl (fun K hK => ?_)
  have e19 := hsl.get 19 _ rfl
  unfold Oper.wp
  go_simp
  clear e19
  refine hK _ _ ?_; clear hK
  refine hsl.go (by decide) ?_; clear hsl; intro a1 hsl
  refine ops_done ?_
  try simp only [Exit.then, Exit.inBlock, ↓reduceIte, Nat.reduceEqDiff]
  refine wp_ret ?_
  try simp only [Exit.then, Exit.inBlock, ↓reduceIte, Nat.reduceEqDiff]
  refine bodyPost_ret (v := .bool true) ?_ hsl.defers ⟨rfl, HB⟩
  simp [results, Tryz.results4, hsl.get 4 _ rfl]
set_option maxRecDepth 100000 in
set_option maxHeartbeats 4000000 in
theorem roadReadE (w : World) (a : Option Addr) (n0 c : Nat) (l : List Int) (hl : IntsAt w a l) (hn : l.length = n0) (hmx : n0 ≤ maxLen) (ha : l = [] ∨ ∀ ad, a = some ad → ad.block < w.heap.size) (t : List UInt8) (ht : TabOk w) (hm : MaxOk w) (h3 : ¬ 300 < (t.length : Int)) (y : Roads) (ny er : Int) (hrd : Hid (readV t = (y, ny, er))) (he : (er != 0) = true) : Calls Tryz.prog 4 #[.slice a n0 c, .string ⟨t.toArray⟩] w fun e w' => e = .returned (.bool true) ∧ Below w.heap.size w w' := by
  refine calls_of_wp Tryz.func4 roadRead_body ?_
  have hsl : Sl (⟨#[.slice a n0 c, .string ⟨t.toArray⟩] ++ Array.replicate (Tryz.f4.ntmps - (#[.slice a n0 c, .string ⟨t.toArray⟩] : Array Value).size) undef, []⟩ : Act) 74 [(0, .slice a n0 c), (1, .string ⟨t.toArray⟩)] := by rw [Tryz.ntmps4]; exact Sl.entry2 _ _ (by omega)
  revert hsl; generalize (Act.mk _ _) = a0; intro hsl
  refine wp_seq ?_
  have e : regionIn Tryz.f4 0 = Code.region 0 _ false := rfl
  rw [e]; clear e
  refine wp_region ?_
  refine ops_go rfl rfl (fun K hK => ?_)
  unfold Oper.wp
  go_simp
  refine hK _ _ ?_; clear hK
  refine hsl.go (by decide) ?_; clear hsl; intro a1 hsl
  refine ops_done ?_
  try simp only [Exit.then, Exit.inBlock, ↓reduceIte, Nat.reduceEqDiff]
  refine wp_seq ?_
  refine wp_seq ?_
  have e : regionIn Tryz.f4 1 = Code.region 1 _ false := rfl
  rw [e]; clear e
  refine wp_region ?_
  refine ops_go rfl rfl (fun K hK => ?_)
  have e1 := hsl.get 1 _ rfl
  unfold Oper.wp
  go_simp
  clear e1
  refine hK _ _ ?_; clear hK
  refine hsl.go (by decide) ?_; clear hsl; intro a1 hsl
  refine ops_go rfl rfl (fun K hK => ?_)
  have e16 := hsl.get 16 _ rfl
  unfold Oper.wp
  go_simp
  clear e16
  refine hK _ _ ?_; clear hK
  refine hsl.go (by decide) ?_; clear hsl; intro a1 hsl
  refine ops_go rfl rfl (fun K hK => ?_)
  have e17 := hsl.get 17 _ rfl
  unfold Oper.wp
  go_simp
  clear e17
  refine hK _ _ ?_; clear hK
  refine hsl.go (by decide) ?_; clear hsl; intro a1 hsl
  refine ops_done ?_
  try simp only [Exit.then, Exit.inBlock, ↓reduceIte, Nat.reduceEqDiff]
  refine wp_cond_false (hsl.ev 18 rfl) ?_
  refine wp_skip ?_
  try simp only [Exit.then, Exit.inBlock, ↓reduceIte, Nat.reduceEqDiff]
  refine wp_seq ?_
  have e : regionIn Tryz.f4 3 = Code.region 3 _ false := rfl
  rw [e]; clear e
  refine wp_region ?_
  refine ops_go rfl rfl (fun K hK => ?_)
  have e0 := hsl.get 0 _ rfl
  unfold Oper.wp
  go_simp
  clear e0
  refine hK _ _ ?_; clear hK
  refine hsl.go (by decide) ?_; clear hsl; intro a1 hsl
  refine ops_go rfl rfl (fun K hK => ?_)
  have e20 := hsl.get 20 _ rfl
  unfold Oper.wp
  go_simp
  refine (NewHand_any w a n0 c l hl hn hmx ha).mono ?_
  rintro e w1 ⟨rfl, hh, hb, _⟩
  have HB := hb
  have hn1 := hb.size
  clear hb
  clear e20
  refine hK _ _ ?_; clear hK
  refine hsl.go (by decide) ?_; clear hsl; intro a1 hsl
  refine ops_go rfl rfl (fun K hK => ?_)
  have e21 := hsl.get 21 _ rfl
  unfold Oper.wp
  go_simp
  refine (RoadsOf_any w1 w.heap.size 0 a n0 c hh (by omega)).mono ?_
  rintro e w2 ⟨r, v, hok, hown, rfl, _, hE⟩
  replace HB : Below w.heap.size w w2 := hE.below HB (Nat.le_refl _) hn1
  obtain ⟨sa, sc, rfl⟩ := hown.form
  have hst := hown.strips.1
  have hc : checkR r = 0 := (good_iff.1 (hok.good (f := ⟨1, 1⟩) ⟨by decide, by decide, by decide, by decide⟩)).1
  have h8 : r.strips.length ≤ 8 := (check_size hc).2.2.2.2
  clear hown hE hh
  clear e21
  refine hK _ _ ?_; clear hK
  refine hsl.go (by decide) ?_; clear hsl; intro a1 hsl
  refine ops_go rfl rfl (fun K hK => ?_)
  unfold Oper.wp
  go_simp
  refine hK _ _ ?_; clear hK
  refine hsl.go (by decide) ?_; clear hsl; intro a1 hsl
  refine alloc_rwB (G := fun W => wpOps _ _ _ _ _ W) ?_
  intro w3 hz X5 hb
  have hbz : w2.heap.size ≤ w2.heap.size := Nat.le_refl _
  generalize hgb : w2.heap.size = b5 at X5 hsl
  replace hbz : w2.heap.size ≤ b5 := by omega
  clear hz hgb
  refine ops_go rfl rfl (fun K hK => ?_)
  have e5 := hsl.get 5 _ rfl
  have e22 := hsl.get 22 _ rfl
  have y0 := X5.cell (o := 0) rfl
  have f0 := X5.fz 0
  have y1 := X5.cell (o := 1) rfl
  have f1 := X5.fz 1
  have y2 := X5.cell (o := 2) rfl
  have f2 := X5.fz 2
  unfold Oper.wp
  go_simp
  clear e5 e22
  refine hK _ _ ?_; clear hK
  clear y0 y1 y2 f0 f1 f2
  replace hb := ((hb.setCell (p := ⟨b5, 0, none⟩) hbz (.int .i64 r.days)).setCell (p := ⟨b5, 1, none⟩) hbz (.int .i64 r.stages)).setCell (p := ⟨b5, 2, none⟩) hbz (.slice sa r.strips.length sc)
  replace X5 := ((X5.set 0 (.int .i64 r.days)).set 1 (.int .i64 r.stages)).set 2 (.slice sa r.strips.length sc)
  replace X5 : Rw _ b5 #[.int .i64 r.days, .int .i64 r.stages, .slice sa r.strips.length sc] 24 := X5
  generalize (World.setCell _ _ _) = w4 at hb X5 ⊢
  replace hst := hst.below hb
  replace HB := HB.trans (hb.mono HB.size)
  clear hb hbz
  refine ops_done ?_
  try simp only [Exit.then, Exit.inBlock, ↓reduceIte, Nat.reduceEqDiff]
  refine wp_seq ?_
  have e : regionIn Tryz.f4 4 = Code.region 4 _ false := rfl
  rw [e]; clear e
  refine wp_region ?_
  refine ops_go rfl rfl (fun K hK => ?_)
  have e5 := hsl.get 5 _ rfl
  have y0 := X5.cell (o := 0) rfl
  have y1 := X5.cell (o := 1) rfl
  have y2 := X5.cell (o := 2) rfl
  unfold Oper.wp
  go_simp
  clear e5
  refine hK _ _ ?_; clear hK
  refine hsl.go (by decide) ?_; clear hsl; intro a1 hsl
  clear y0 y1 y2
  refine ops_go rfl rfl (fun K hK => ?_)
  have e24 := hsl.get 24 _ rfl
  unfold Oper.wp
  go_simp
  have hWr := Write_any w4 r sa sc hst (by unfold maxLen; omega) (ht.below HB)
  rw [show writeV r = (textT r, 0) by rw [writeV, if_pos hc]] at hWr
  refine hWr.mono ?_
  rintro e w5 ⟨rfl, hb⟩
  clear hWr
  replace hst := hst.below hb
  replace X5 := X5.below hb
  replace HB := HB.trans (hb.mono HB.size)
  clear hb
  clear e24
  refine hK _ _ ?_; clear hK
  refine hsl.go (by decide) ?_; clear hsl; intro a1 hsl
  refine ops_go rfl rfl (fun K hK => ?_)
  have e25 := hsl.get 25 _ rfl
  unfold Oper.wp
  go_simp
  clear e25
  refine hK _ _ ?_; clear hK
  refine hsl.go (by decide) ?_; clear hsl; intro a1 hsl
  refine ops_go rfl rfl (fun K hK => ?_)
  have e23 := hsl.get 23 _ rfl
  unfold Oper.wp
  go_simp
  clear e23
  refine hK _ _ ?_; clear hK
  refine hsl.go (by decide) ?_; clear hsl; intro a1 hsl
  refine ops_go rfl rfl (fun K hK => ?_)
  have e23 := hsl.get 23 _ rfl
  unfold Oper.wp
  go_simp
  clear e23
  refine hK _ _ ?_; clear hK
  refine hsl.go (by decide) ?_; clear hsl; intro a1 hsl
  refine ops_go rfl rfl (fun K hK => ?_)
  have e26 := hsl.get 26 _ rfl
  unfold Oper.wp
  go_simp
  clear e26
  refine hK _ _ ?_; clear hK
  refine hsl.go (by decide) ?_; clear hsl; intro a1 hsl
  refine ops_go rfl rfl (fun K hK => ?_)
  have e27 := hsl.get 27 _ rfl
  unfold Oper.wp
  go_simp
  clear e27
  refine hK _ _ ?_; clear hK
  refine hsl.go (by decide) ?_; clear hsl; intro a1 hsl
  refine ops_done ?_
  try simp only [Exit.then, Exit.inBlock, ↓reduceIte, Nat.reduceEqDiff]
  refine wp_seq ?_
  have e : regionIn Tryz.f4 5 = Code.region 5 _ false := rfl
  rw [e]; clear e
  refine wp_region ?_
  refine ops_go rfl rfl (fun K hK => ?_)
  have e6 := hsl.get 6 _ rfl
  unfold Oper.wp
  go_simp
  clear e6
  refine hK _ _ ?_; clear hK
  refine hsl.go (by decide) ?_; clear hsl; intro a1 hsl
  refine ops_go rfl rfl (fun K hK => ?_)
  have e29 := hsl.get 29 _ rfl
  unfold Oper.wp
  go_simp
  have hRd := Read_any w5 (textT r) (hm.below HB)
  rw [write_read hc] at hRd
  refine hRd.mono ?_
  rintro e w6 ⟨hb, xa, xc, rfl, hx⟩
  clear hRd
  replace hst := hst.below hb
  replace X5 := X5.below hb
  replace HB := HB.trans (hb.mono HB.size)
  clear hb
  clear e29
  refine hK _ _ ?_; clear hK
  refine hsl.go (by decide) ?_; clear hsl; intro a1 hsl
  refine ops_go rfl rfl (fun K hK => ?_)
  have e30 := hsl.get 30 _ rfl
  unfold Oper.wp
  go_simp
  clear e30
  refine hK _ _ ?_; clear hK
  refine hsl.go (by decide) ?_; clear hsl; intro a1 hsl
  refine ops_go rfl rfl (fun K hK => ?_)
  have e28 := hsl.get 28 _ rfl
  unfold Oper.wp
  go_simp
  clear e28
  refine hK _ _ ?_; clear hK
  refine hsl.go (by decide) ?_; clear hsl; intro a1 hsl
  refine ops_go rfl rfl (fun K hK => ?_)
  have e28 := hsl.get 28 _ rfl
  unfold Oper.wp
  go_simp
  clear e28
  refine hK _ _ ?_; clear hK
  refine hsl.go (by decide) ?_; clear hsl; intro a1 hsl
  refine ops_go rfl rfl (fun K hK => ?_)
  have e28 := hsl.get 28 _ rfl
  unfold Oper.wp
  go_simp
  clear e28
  refine hK _ _ ?_; clear hK
  refine hsl.go (by decide) ?_; clear hsl; intro a1 hsl
  refine ops_go rfl rfl (fun K hK => ?_)
  unfold Oper.wp
  go_simp
  refine hK _ _ ?_; clear hK
  refine hsl.go (by decide) ?_; clear hsl; intro a1 hsl
  refine alloc_rwB (G := fun W => wpOps _ _ _ _ _ W) ?_
  intro w7 hz X8 hb
  have hbz : w6.heap.size ≤ w6.heap.size := Nat.le_refl _
  generalize hgb : w6.heap.size = b8 at X8 hsl
  replace hbz : w6.heap.size ≤ b8 := by omega
  clear hz hgb
  refine ops_go rfl rfl (fun K hK => ?_)
  have e8 := hsl.get 8 _ rfl
  have e31 := hsl.get 31 _ rfl
  have y0 := X8.cell (o := 0) rfl
  have f0 := X8.fz 0
  have y1 := X8.cell (o := 1) rfl
  have f1 := X8.fz 1
  have y2 := X8.cell (o := 2) rfl
  have f2 := X8.fz 2
  unfold Oper.wp
  go_simp
  clear e8 e31
  refine hK _ _ ?_; clear hK
  clear y0 y1 y2 f0 f1 f2
  replace hb := ((hb.setCell (p := ⟨b8, 0, none⟩) hbz (.int .i64 r.days)).setCell (p := ⟨b8, 1, none⟩) hbz (.int .i64 r.stages)).setCell (p := ⟨b8, 2, none⟩) hbz (.slice xa r.strips.length xc)
  replace X8 := ((X8.set 0 (.int .i64 r.days)).set 1 (.int .i64 r.stages)).set 2 (.slice xa r.strips.length xc)
  replace X8 : Rw _ b8 #[.int .i64 r.days, .int .i64 r.stages, .slice xa r.strips.length xc] 24 := X8
  generalize (World.setCell _ _ _) = w8 at hb X8 ⊢
  replace hst := hst.below hb
  replace X5 := X5.below hb
  replace hx := hx.below hb
  replace HB := HB.trans (hb.mono HB.size)
  clear hb hbz
  refine ops_go rfl rfl (fun K hK => ?_)
  have e32 := hsl.get 32 _ rfl
  unfold Oper.wp
  go_simp
  clear e32
  refine hK _ _ ?_; clear hK
  refine hsl.go (by decide) ?_; clear hsl; intro a1 hsl
  refine ops_go rfl rfl (fun K hK => ?_)
  have e33 := hsl.get 33 _ rfl
  unfold Oper.wp
  go_simp
  clear e33
  refine hK _ _ ?_; clear hK
  refine hsl.go (by decide) ?_; clear hsl; intro a1 hsl
  refine ops_done ?_
  try simp only [Exit.then, Exit.inBlock, ↓reduceIte, Nat.reduceEqDiff]
  refine wp_seq ?_
  refine wp_seq ?_
  have e : regionIn Tryz.f4 6 = Code.region 6 _ false := rfl
  rw [e]; clear e
  refine wp_region ?_
  refine ops_go rfl rfl (fun K hK => ?_)
  have e7 := hsl.get 7 _ rfl
  unfold Oper.wp
  go_simp
  clear e7
  refine hK _ _ ?_; clear hK
  refine hsl.go (by decide) ?_; clear hsl; intro a1 hsl
  refine ops_go rfl rfl (fun K hK => ?_)
  have e34 := hsl.get 34 _ rfl
  unfold Oper.wp
  go_simp
  clear e34
  refine hK _ _ ?_; clear hK
  refine hsl.go (by decide) ?_; clear hsl; intro a1 hsl
  refine ops_go rfl rfl (fun K hK => ?_)
  have e35 := hsl.get 35 _ rfl
  unfold Oper.wp
  go_simp
  clear e35
  refine hK _ _ ?_; clear hK
  refine hsl.go (by decide) ?_; clear hsl; intro a1 hsl
  refine ops_want rfl rfl rfl rfl (hsl.get 36 _ rfl) (fun K hK => ?_)
  have e10 := hsl.get 10 _ rfl
  unfold Oper.wp
  go_simp
  clear e10
  refine hK _ _ ?_; clear hK
  refine hsl.go (by decide) ?_; clear hsl; intro a1 hsl
  refine ops_want rfl rfl rfl rfl (hsl.get 36 _ rfl) (fun K hK => ?_)
  have e37 := hsl.get 37 _ rfl
  unfold Oper.wp
  go_simp
  clear e37
  refine hK _ _ ?_; clear hK
  refine hsl.go (by decide) ?_; clear hsl; intro a1 hsl
  refine ops_go rfl rfl (fun K hK => ?_)
  have e36 := hsl.get 36 _ rfl
  have e38 := hsl.get 38 _ rfl
  unfold Oper.wp
  go_simp
  clear e36 e38
  refine hK _ _ ?_; clear hK
  refine hsl.go (by decide) ?_; clear hsl; intro a1 hsl
  refine ops_go rfl rfl (fun K hK => ?_)
  have e39 := hsl.get 39 _ rfl
  unfold Oper.wp
  go_simp
  clear e39
  refine hK _ _ ?_; clear hK
  refine hsl.go (by decide) ?_; clear hsl; intro a1 hsl
  refine ops_want rfl rfl rfl rfl (hsl.get 40 _ rfl) (fun K hK => ?_)
  have e9 := hsl.get 9 _ rfl
  unfold Oper.wp
  go_simp
  clear e9
  refine hK _ _ ?_; clear hK
  refine hsl.go (by decide) ?_; clear hsl; intro a1 hsl
  refine ops_want rfl rfl rfl rfl (hsl.get 40 _ rfl) (fun K hK => ?_)
  have e41 := hsl.get 41 _ rfl
  unfold Oper.wp
  go_simp
  clear e41
  refine hK _ _ ?_; clear hK
  refine hsl.go (by decide) ?_; clear hsl; intro a1 hsl
  refine ops_go rfl rfl (fun K hK => ?_)
  have e40 := hsl.get 40 _ rfl
  have e42 := hsl.get 42 _ rfl
  unfold Oper.wp
  go_simp
  clear e40 e42
  refine hK _ _ ?_; clear hK
  refine hsl.go (by decide) ?_; clear hsl; intro a1 hsl
  refine ops_go rfl rfl (fun K hK => ?_)
  have e43 := hsl.get 43 _ rfl
  unfold Oper.wp
  go_simp
  clear e43
  refine hK _ _ ?_; clear hK
  refine hsl.go (by decide) ?_; clear hsl; intro a1 hsl
  refine ops_want rfl rfl rfl rfl (hsl.get 44 _ rfl) (fun K hK => ?_)
  have e5 := hsl.get 5 _ rfl
  have y0 := X5.cell (o := 0) rfl
  have y1 := X5.cell (o := 1) rfl
  have y2 := X5.cell (o := 2) rfl
  unfold Oper.wp
  go_simp
  clear e5
  refine hK _ _ ?_; clear hK
  refine hsl.go (by decide) ?_; clear hsl; intro a1 hsl
  clear y0 y1 y2
  refine ops_want rfl rfl rfl rfl (hsl.get 44 _ rfl) (fun K hK => ?_)
  have e8 := hsl.get 8 _ rfl
  have y0 := X8.cell (o := 0) rfl
  have y1 := X8.cell (o := 1) rfl
  have y2 := X8.cell (o := 2) rfl
  unfold Oper.wp
  go_simp
  clear e8
  refine hK _ _ ?_; clear hK
  refine hsl.go (by decide) ?_; clear hsl; intro a1 hsl
  clear y0 y1 y2
  refine ops_want rfl rfl rfl rfl (hsl.get 44 _ rfl) (fun K hK => ?_)
  have e45 := hsl.get 45 _ rfl
  have e46 := hsl.get 46 _ rfl
  unfold Oper.wp
  go_simp
  refine (SameRoads_any w8 r sa xa sc xc hst hx (by unfold maxLen; omega)).mono ?_
  rintro e w9 ⟨rfl, hb⟩
  replace hst := hst.below hb
  replace X5 := X5.below hb
  replace hx := hx.below hb
  replace X8 := X8.below hb
  replace HB := HB.trans (hb.mono HB.size)
  clear hb
  clear e45 e46
  refine hK _ _ ?_; clear hK
  refine hsl.go (by decide) ?_; clear hsl; intro a1 hsl
  refine ops_want rfl rfl rfl rfl (hsl.get 44 _ rfl) (fun K hK => ?_)
  have e47 := hsl.get 47 _ rfl
  unfold Oper.wp
  go_simp
  clear e47
  refine hK _ _ ?_; clear hK
  refine hsl.go (by decide) ?_; clear hsl; intro a1 hsl
  refine ops_go rfl rfl (fun K hK => ?_)
  have e44 := hsl.get 44 _ rfl
  have e48 := hsl.get 48 _ rfl
  unfold Oper.wp
  go_simp
  clear e44 e48
  refine hK _ _ ?_; clear hK
  refine hsl.go (by decide) ?_; clear hsl; intro a1 hsl
  refine ops_done ?_
  try simp only [Exit.then, Exit.inBlock, ↓reduceIte, Nat.reduceEqDiff]
  refine wp_cond_false (hsl.ev 49 rfl) ?_
  refine wp_skip ?_
  try simp only [Exit.then, Exit.inBlock, ↓reduceIte, Nat.reduceEqDiff]
  refine wp_seq ?_
  have e : regionIn Tryz.f4 8 = Code.region 8 _ false := rfl
  rw [e]; clear e
  refine wp_region ?_
  refine ops_go rfl rfl (fun K hK => ?_)
  have e1 := hsl.get 1 _ rfl
  unfold Oper.wp
  go_simp
  clear e1
  refine hK _ _ ?_; clear hK
  refine hsl.go (by decide) ?_; clear hsl; intro a1 hsl
  refine ops_go rfl rfl (fun K hK => ?_)
  have e51 := hsl.get 51 _ rfl
  unfold Oper.wp
  go_simp
  have hRd := Read_any w9 t (hm.below HB)
  rw [hrd.out] at hRd
  refine hRd.mono ?_
  rintro e w10 ⟨hb, ya, yc, rfl, hy⟩
  clear hRd
  replace hst := hst.below hb
  replace X5 := X5.below hb
  replace hx := hx.below hb
  replace X8 := X8.below hb
  replace HB := HB.trans (hb.mono HB.size)
  clear hb
  clear e51
  refine hK _ _ ?_; clear hK
  refine hsl.go (by decide) ?_; clear hsl; intro a1 hsl
  refine ops_go rfl rfl (fun K hK => ?_)
  have e52 := hsl.get 52 _ rfl
  unfold Oper.wp
  go_simp
  clear e52
  refine hK _ _ ?_; clear hK
  refine hsl.go (by decide) ?_; clear hsl; intro a1 hsl
  refine ops_go rfl rfl (fun K hK => ?_)
  have e50 := hsl.get 50 _ rfl
  unfold Oper.wp
  go_simp
  clear e50
  refine hK _ _ ?_; clear hK
  refine hsl.go (by decide) ?_; clear hsl; intro a1 hsl
  refine ops_go rfl rfl (fun K hK => ?_)
  have e50 := hsl.get 50 _ rfl
  unfold Oper.wp
  go_simp
  clear e50
  refine hK _ _ ?_; clear hK
  refine hsl.go (by decide) ?_; clear hsl; intro a1 hsl
  refine ops_go rfl rfl (fun K hK => ?_)
  have e50 := hsl.get 50 _ rfl
  unfold Oper.wp
  go_simp
  clear e50
  refine hK _ _ ?_; clear hK
  refine hsl.go (by decide) ?_; clear hsl; intro a1 hsl
  refine ops_go rfl rfl (fun K hK => ?_)
  unfold Oper.wp
  go_simp
  refine hK _ _ ?_; clear hK
  refine hsl.go (by decide) ?_; clear hsl; intro a1 hsl
  refine alloc_rwB (G := fun W => wpOps _ _ _ _ _ W) ?_
  intro w11 hz X11 hb
  have hbz : w10.heap.size ≤ w10.heap.size := Nat.le_refl _
  generalize hgb : w10.heap.size = b11 at X11 hsl
  replace hbz : w10.heap.size ≤ b11 := by omega
  clear hz hgb
  refine ops_go rfl rfl (fun K hK => ?_)
  have e11 := hsl.get 11 _ rfl
  have e53 := hsl.get 53 _ rfl
  have y0 := X11.cell (o := 0) rfl
  have f0 := X11.fz 0
  have y1 := X11.cell (o := 1) rfl
  have f1 := X11.fz 1
  have y2 := X11.cell (o := 2) rfl
  have f2 := X11.fz 2
  unfold Oper.wp
  go_simp
  clear e11 e53
  refine hK _ _ ?_; clear hK
  clear y0 y1 y2 f0 f1 f2
  replace hb := ((hb.setCell (p := ⟨b11, 0, none⟩) hbz (.int .i64 y.days)).setCell (p := ⟨b11, 1, none⟩) hbz (.int .i64 y.stages)).setCell (p := ⟨b11, 2, none⟩) hbz (.slice ya y.strips.length yc)
  replace X11 := ((X11.set 0 (.int .i64 y.days)).set 1 (.int .i64 y.stages)).set 2 (.slice ya y.strips.length yc)
  replace X11 : Rw _ b11 #[.int .i64 y.days, .int .i64 y.stages, .slice ya y.strips.length yc] 24 := X11
  generalize (World.setCell _ _ _) = w12 at hb X11 ⊢
  replace hst := hst.below hb
  replace X5 := X5.below hb
  replace hx := hx.below hb
  replace X8 := X8.below hb
  replace hy := hy.below hb
  replace HB := HB.trans (hb.mono HB.size)
  clear hb hbz
  refine ops_go rfl rfl (fun K hK => ?_)
  have e54 := hsl.get 54 _ rfl
  unfold Oper.wp
  go_simp
  clear e54
  refine hK _ _ ?_; clear hK
  refine hsl.go (by decide) ?_; clear hsl; intro a1 hsl
  refine ops_go rfl rfl (fun K hK => ?_)
  have e55 := hsl.get 55 _ rfl
  unfold Oper.wp
  go_simp
  clear e55
  refine hK _ _ ?_; clear hK
  refine hsl.go (by decide) ?_; clear hsl; intro a1 hsl
  refine ops_done ?_
  try simp only [Exit.then, Exit.inBlock, ↓reduceIte, Nat.reduceEqDiff]
  refine wp_seq ?_
  refine wp_seq ?_
  have e : regionIn Tryz.f4 9 = Code.region 9 _ false := rfl
  rw [e]; clear e
  refine wp_region ?_
  refine ops_go rfl rfl (fun K hK => ?_)
  have e13 := hsl.get 13 _ rfl
  unfold Oper.wp
  go_simp
  clear e13
  refine hK _ _ ?_; clear hK
  refine hsl.go (by decide) ?_; clear hsl; intro a1 hsl
  refine ops_go rfl rfl (fun K hK => ?_)
  have e56 := hsl.get 56 _ rfl
  unfold Oper.wp
  go_simp
  clear e56
  refine hK _ _ ?_; clear hK
  refine hsl.go (by decide) ?_; clear hsl; intro a1 hsl
  refine ops_done ?_
  try simp only [Exit.then, Exit.inBlock, ↓reduceIte, Nat.reduceEqDiff]
  refine wp_cond_true (hsl.ev 57 rfl) ?_
  refine wp_seq ?_
  have e : regionIn Tryz.f4 10 = Code.region 10 _ false := rfl
  rw [e]; clear e
  refine wp_region ?_
  refine ops_go rfl rfl (fun K hK => ?_)
  unfold Oper.wp
  go_simp
  refine (afoot_any w12).mono ?_
  rintro e w13 ⟨rfl, hb⟩
  replace hst := hst.below hb
  replace X5 := X5.below hb
  replace hx := hx.below hb
  replace X8 := X8.below hb
  replace hy := hy.below hb
  replace X11 := X11.below hb
  replace HB := HB.trans (hb.mono HB.size)
  clear hb
  refine hK _ _ ?_; clear hK
  refine hsl.go (by decide) ?_; clear hsl; intro a1 hsl
  refine ops_go rfl rfl (fun K hK => ?_)
  have e58 := hsl.get 58 _ rfl
  unfold Oper.wp
  go_simp
  clear e58
  refine hK _ _ ?_; clear hK
  refine hsl.go (by decide) ?_; clear hsl; intro a1 hsl
  refine ops_done ?_
  try simp only [Exit.then, Exit.inBlock, ↓reduceIte, Nat.reduceEqDiff]
  refine wp_ret ?_
  try simp only [Exit.then, Exit.inBlock, ↓reduceIte, Nat.reduceEqDiff]
  refine bodyPost_ret (v := .bool true) ?_ hsl.defers ⟨rfl, HB⟩
  simp [results, Tryz.results4, hsl.get 4 _ rfl]
set_option maxRecDepth 100000 in
set_option maxHeartbeats 4000000 in
theorem roadReadK (w : World) (a : Option Addr) (n0 c : Nat) (l : List Int) (hl : IntsAt w a l) (hn : l.length = n0) (hmx : n0 ≤ maxLen) (ha : l = [] ∨ ∀ ad, a = some ad → ad.block < w.heap.size) (t : List UInt8) (ht : TabOk w) (hm : MaxOk w) (h3 : ¬ 300 < (t.length : Int)) (y : Roads) (ny : Int) (hrd : Hid (readV t = (y, ny, 0))) (hcy : checkR y = 0) (hty : textT y = t) (hy8 : y.strips.length ≤ 8) : Calls Tryz.prog 4 #[.slice a n0 c, .string ⟨t.toArray⟩] w fun e w' => e = .returned (.bool true) ∧ Below w.heap.size w w' := by
  refine calls_of_wp Tryz.func4 roadRead_body ?_
  have hsl : Sl (⟨#[.slice a n0 c, .string ⟨t.toArray⟩] ++ Array.replicate (Tryz.f4.ntmps - (#[.slice a n0 c, .string ⟨t.toArray⟩] : Array Value).size) undef, []⟩ : Act) 74 [(0, .slice a n0 c), (1, .string ⟨t.toArray⟩)] := by rw [Tryz.ntmps4]; exact Sl.entry2 _ _ (by omega)
  revert hsl; generalize (Act.mk _ _) = a0; intro hsl
  refine wp_seq ?_
  have e : regionIn Tryz.f4 0 = Code.region 0 _ false := rfl
  rw [e]; clear e
  refine wp_region ?_
  refine ops_go rfl rfl (fun K hK => ?_)
  unfold Oper.wp
  go_simp
  refine hK _ _ ?_; clear hK
  refine hsl.go (by decide) ?_; clear hsl; intro a1 hsl
  refine ops_done ?_
  try simp only [Exit.then, Exit.inBlock, ↓reduceIte, Nat.reduceEqDiff]
  refine wp_seq ?_
  refine wp_seq ?_
  have e : regionIn Tryz.f4 1 = Code.region 1 _ false := rfl
  rw [e]; clear e
  refine wp_region ?_
  refine ops_go rfl rfl (fun K hK => ?_)
  have e1 := hsl.get 1 _ rfl
  unfold Oper.wp
  go_simp
  clear e1
  refine hK _ _ ?_; clear hK
  refine hsl.go (by decide) ?_; clear hsl; intro a1 hsl
  refine ops_go rfl rfl (fun K hK => ?_)
  have e16 := hsl.get 16 _ rfl
  unfold Oper.wp
  go_simp
  clear e16
  refine hK _ _ ?_; clear hK
  refine hsl.go (by decide) ?_; clear hsl; intro a1 hsl
  refine ops_go rfl rfl (fun K hK => ?_)
  have e17 := hsl.get 17 _ rfl
  unfold Oper.wp
  go_simp
  clear e17
  refine hK _ _ ?_; clear hK
  refine hsl.go (by decide) ?_; clear hsl; intro a1 hsl
  refine ops_done ?_
  try simp only [Exit.then, Exit.inBlock, ↓reduceIte, Nat.reduceEqDiff]
  refine wp_cond_false (hsl.ev 18 rfl) ?_
  refine wp_skip ?_
  try simp only [Exit.then, Exit.inBlock, ↓reduceIte, Nat.reduceEqDiff]
  refine wp_seq ?_
  have e : regionIn Tryz.f4 3 = Code.region 3 _ false := rfl
  rw [e]; clear e
  refine wp_region ?_
  refine ops_go rfl rfl (fun K hK => ?_)
  have e0 := hsl.get 0 _ rfl
  unfold Oper.wp
  go_simp
  clear e0
  refine hK _ _ ?_; clear hK
  refine hsl.go (by decide) ?_; clear hsl; intro a1 hsl
  refine ops_go rfl rfl (fun K hK => ?_)
  have e20 := hsl.get 20 _ rfl
  unfold Oper.wp
  go_simp
  refine (NewHand_any w a n0 c l hl hn hmx ha).mono ?_
  rintro e w1 ⟨rfl, hh, hb, _⟩
  have HB := hb
  have hn1 := hb.size
  clear hb
  clear e20
  refine hK _ _ ?_; clear hK
  refine hsl.go (by decide) ?_; clear hsl; intro a1 hsl
  refine ops_go rfl rfl (fun K hK => ?_)
  have e21 := hsl.get 21 _ rfl
  unfold Oper.wp
  go_simp
  refine (RoadsOf_any w1 w.heap.size 0 a n0 c hh (by omega)).mono ?_
  rintro e w2 ⟨r, v, hok, hown, rfl, _, hE⟩
  replace HB : Below w.heap.size w w2 := hE.below HB (Nat.le_refl _) hn1
  obtain ⟨sa, sc, rfl⟩ := hown.form
  have hst := hown.strips.1
  have hc : checkR r = 0 := (good_iff.1 (hok.good (f := ⟨1, 1⟩) ⟨by decide, by decide, by decide, by decide⟩)).1
  have h8 : r.strips.length ≤ 8 := (check_size hc).2.2.2.2
  clear hown hE hh
  clear e21
  refine hK _ _ ?_; clear hK
  refine hsl.go (by decide) ?_; clear hsl; intro a1 hsl
  refine ops_go rfl rfl (fun K hK => ?_)
  unfold Oper.wp
  go_simp
  refine hK _ _ ?_; clear hK
  refine hsl.go (by decide) ?_; clear hsl; intro a1 hsl
  refine alloc_rwB (G := fun W => wpOps _ _ _ _ _ W) ?_
  intro w3 hz X5 hb
  have hbz : w2.heap.size ≤ w2.heap.size := Nat.le_refl _
  generalize hgb : w2.heap.size = b5 at X5 hsl
  replace hbz : w2.heap.size ≤ b5 := by omega
  clear hz hgb
  refine ops_go rfl rfl (fun K hK => ?_)
  have e5 := hsl.get 5 _ rfl
  have e22 := hsl.get 22 _ rfl
  have y0 := X5.cell (o := 0) rfl
  have f0 := X5.fz 0
  have y1 := X5.cell (o := 1) rfl
  have f1 := X5.fz 1
  have y2 := X5.cell (o := 2) rfl
  have f2 := X5.fz 2
  unfold Oper.wp
  go_simp
  clear e5 e22
  refine hK _ _ ?_; clear hK
  clear y0 y1 y2 f0 f1 f2
  replace hb := ((hb.setCell (p := ⟨b5, 0, none⟩) hbz (.int .i64 r.days)).setCell (p := ⟨b5, 1, none⟩) hbz (.int .i64 r.stages)).setCell (p := ⟨b5, 2, none⟩) hbz (.slice sa r.strips.length sc)
  replace X5 := ((X5.set 0 (.int .i64 r.days)).set 1 (.int .i64 r.stages)).set 2 (.slice sa r.strips.length sc)
  replace X5 : Rw _ b5 #[.int .i64 r.days, .int .i64 r.stages, .slice sa r.strips.length sc] 24 := X5
  generalize (World.setCell _ _ _) = w4 at hb X5 ⊢
  replace hst := hst.below hb
  replace HB := HB.trans (hb.mono HB.size)
  clear hb hbz
  refine ops_done ?_
  try simp only [Exit.then, Exit.inBlock, ↓reduceIte, Nat.reduceEqDiff]
  refine wp_seq ?_
  have e : regionIn Tryz.f4 4 = Code.region 4 _ false := rfl
  rw [e]; clear e
  refine wp_region ?_
  refine ops_go rfl rfl (fun K hK => ?_)
  have e5 := hsl.get 5 _ rfl
  have y0 := X5.cell (o := 0) rfl
  have y1 := X5.cell (o := 1) rfl
  have y2 := X5.cell (o := 2) rfl
  unfold Oper.wp
  go_simp
  clear e5
  refine hK _ _ ?_; clear hK
  refine hsl.go (by decide) ?_; clear hsl; intro a1 hsl
  clear y0 y1 y2
  refine ops_go rfl rfl (fun K hK => ?_)
  have e24 := hsl.get 24 _ rfl
  unfold Oper.wp
  go_simp
  have hWr := Write_any w4 r sa sc hst (by unfold maxLen; omega) (ht.below HB)
  rw [show writeV r = (textT r, 0) by rw [writeV, if_pos hc]] at hWr
  refine hWr.mono ?_
  rintro e w5 ⟨rfl, hb⟩
  clear hWr
  replace hst := hst.below hb
  replace X5 := X5.below hb
  replace HB := HB.trans (hb.mono HB.size)
  clear hb
  clear e24
  refine hK _ _ ?_; clear hK
  refine hsl.go (by decide) ?_; clear hsl; intro a1 hsl
  refine ops_go rfl rfl (fun K hK => ?_)
  have e25 := hsl.get 25 _ rfl
  unfold Oper.wp
  go_simp
  clear e25
  refine hK _ _ ?_; clear hK
  refine hsl.go (by decide) ?_; clear hsl; intro a1 hsl
  refine ops_go rfl rfl (fun K hK => ?_)
  have e23 := hsl.get 23 _ rfl
  unfold Oper.wp
  go_simp
  clear e23
  refine hK _ _ ?_; clear hK
  refine hsl.go (by decide) ?_; clear hsl; intro a1 hsl
  refine ops_go rfl rfl (fun K hK => ?_)
  have e23 := hsl.get 23 _ rfl
  unfold Oper.wp
  go_simp
  clear e23
  refine hK _ _ ?_; clear hK
  refine hsl.go (by decide) ?_; clear hsl; intro a1 hsl
  refine ops_go rfl rfl (fun K hK => ?_)
  have e26 := hsl.get 26 _ rfl
  unfold Oper.wp
  go_simp
  clear e26
  refine hK _ _ ?_; clear hK
  refine hsl.go (by decide) ?_; clear hsl; intro a1 hsl
  refine ops_go rfl rfl (fun K hK => ?_)
  have e27 := hsl.get 27 _ rfl
  unfold Oper.wp
  go_simp
  clear e27
  refine hK _ _ ?_; clear hK
  refine hsl.go (by decide) ?_; clear hsl; intro a1 hsl
  refine ops_done ?_
  try simp only [Exit.then, Exit.inBlock, ↓reduceIte, Nat.reduceEqDiff]
  refine wp_seq ?_
  have e : regionIn Tryz.f4 5 = Code.region 5 _ false := rfl
  rw [e]; clear e
  refine wp_region ?_
  refine ops_go rfl rfl (fun K hK => ?_)
  have e6 := hsl.get 6 _ rfl
  unfold Oper.wp
  go_simp
  clear e6
  refine hK _ _ ?_; clear hK
  refine hsl.go (by decide) ?_; clear hsl; intro a1 hsl
  refine ops_go rfl rfl (fun K hK => ?_)
  have e29 := hsl.get 29 _ rfl
  unfold Oper.wp
  go_simp
  have hRd := Read_any w5 (textT r) (hm.below HB)
  rw [write_read hc] at hRd
  refine hRd.mono ?_
  rintro e w6 ⟨hb, xa, xc, rfl, hx⟩
  clear hRd
  replace hst := hst.below hb
  replace X5 := X5.below hb
  replace HB := HB.trans (hb.mono HB.size)
  clear hb
  clear e29
  refine hK _ _ ?_; clear hK
  refine hsl.go (by decide) ?_; clear hsl; intro a1 hsl
  refine ops_go rfl rfl (fun K hK => ?_)
  have e30 := hsl.get 30 _ rfl
  unfold Oper.wp
  go_simp
  clear e30
  refine hK _ _ ?_; clear hK
  refine hsl.go (by decide) ?_; clear hsl; intro a1 hsl
  refine ops_go rfl rfl (fun K hK => ?_)
  have e28 := hsl.get 28 _ rfl
  unfold Oper.wp
  go_simp
  clear e28
  refine hK _ _ ?_; clear hK
  refine hsl.go (by decide) ?_; clear hsl; intro a1 hsl
  refine ops_go rfl rfl (fun K hK => ?_)
  have e28 := hsl.get 28 _ rfl
  unfold Oper.wp
  go_simp
  clear e28
  refine hK _ _ ?_; clear hK
  refine hsl.go (by decide) ?_; clear hsl; intro a1 hsl
  refine ops_go rfl rfl (fun K hK => ?_)
  have e28 := hsl.get 28 _ rfl
  unfold Oper.wp
  go_simp
  clear e28
  refine hK _ _ ?_; clear hK
  refine hsl.go (by decide) ?_; clear hsl; intro a1 hsl
  refine ops_go rfl rfl (fun K hK => ?_)
  unfold Oper.wp
  go_simp
  refine hK _ _ ?_; clear hK
  refine hsl.go (by decide) ?_; clear hsl; intro a1 hsl
  refine alloc_rwB (G := fun W => wpOps _ _ _ _ _ W) ?_
  intro w7 hz X8 hb
  have hbz : w6.heap.size ≤ w6.heap.size := Nat.le_refl _
  generalize hgb : w6.heap.size = b8 at X8 hsl
  replace hbz : w6.heap.size ≤ b8 := by omega
  clear hz hgb
  refine ops_go rfl rfl (fun K hK => ?_)
  have e8 := hsl.get 8 _ rfl
  have e31 := hsl.get 31 _ rfl
  have y0 := X8.cell (o := 0) rfl
  have f0 := X8.fz 0
  have y1 := X8.cell (o := 1) rfl
  have f1 := X8.fz 1
  have y2 := X8.cell (o := 2) rfl
  have f2 := X8.fz 2
  unfold Oper.wp
  go_simp
  clear e8 e31
  refine hK _ _ ?_; clear hK
  clear y0 y1 y2 f0 f1 f2
  replace hb := ((hb.setCell (p := ⟨b8, 0, none⟩) hbz (.int .i64 r.days)).setCell (p := ⟨b8, 1, none⟩) hbz (.int .i64 r.stages)).setCell (p := ⟨b8, 2, none⟩) hbz (.slice xa r.strips.length xc)
  replace X8 := ((X8.set 0 (.int .i64 r.days)).set 1 (.int .i64 r.stages)).set 2 (.slice xa r.strips.length xc)
  replace X8 : Rw _ b8 #[.int .i64 r.days, .int .i64 r.stages, .slice xa r.strips.length xc] 24 := X8
  generalize (World.setCell _ _ _) = w8 at hb X8 ⊢
  replace hst := hst.below hb
  replace X5 := X5.below hb
  replace hx := hx.below hb
  replace HB := HB.trans (hb.mono HB.size)
  clear hb hbz
  refine ops_go rfl rfl (fun K hK => ?_)
  have e32 := hsl.get 32 _ rfl
  unfold Oper.wp
  go_simp
  clear e32
  refine hK _ _ ?_; clear hK
  refine hsl.go (by decide) ?_; clear hsl; intro a1 hsl
  refine ops_go rfl rfl (fun K hK => ?_)
  have e33 := hsl.get 33 _ rfl
  unfold Oper.wp
  go_simp
  clear e33
  refine hK _ _ ?_; clear hK
  refine hsl.go (by decide) ?_; clear hsl; intro a1 hsl
  refine ops_done ?_
  try simp only [Exit.then, Exit.inBlock, ↓reduceIte, Nat.reduceEqDiff]
  refine wp_seq ?_
  refine wp_seq ?_
  have e : regionIn Tryz.f4 6 = Code.region 6 _ false := rfl
  rw [e]; clear e
  refine wp_region ?_
  refine ops_go rfl rfl (fun K hK => ?_)
  have e7 := hsl.get 7 _ rfl
  unfold Oper.wp
  go_simp
  clear e7
  refine hK _ _ ?_; clear hK
  refine hsl.go (by decide) ?_; clear hsl; intro a1 hsl
  refine ops_go rfl rfl (fun K hK => ?_)
  have e34 := hsl.get 34 _ rfl
  unfold Oper.wp
  go_simp
  clear e34
  refine hK _ _ ?_; clear hK
  refine hsl.go (by decide) ?_; clear hsl; intro a1 hsl
  refine ops_go rfl rfl (fun K hK => ?_)
  have e35 := hsl.get 35 _ rfl
  unfold Oper.wp
  go_simp
  clear e35
  refine hK _ _ ?_; clear hK
  refine hsl.go (by decide) ?_; clear hsl; intro a1 hsl
  refine ops_want rfl rfl rfl rfl (hsl.get 36 _ rfl) (fun K hK => ?_)
  have e10 := hsl.get 10 _ rfl
  unfold Oper.wp
  go_simp
  clear e10
  refine hK _ _ ?_; clear hK
  refine hsl.go (by decide) ?_; clear hsl; intro a1 hsl
  refine ops_want rfl rfl rfl rfl (hsl.get 36 _ rfl) (fun K hK => ?_)
  have e37 := hsl.get 37 _ rfl
  unfold Oper.wp
  go_simp
  clear e37
  refine hK _ _ ?_; clear hK
  refine hsl.go (by decide) ?_; clear hsl; intro a1 hsl
  refine ops_go rfl rfl (fun K hK => ?_)
  have e36 := hsl.get 36 _ rfl
  have e38 := hsl.get 38 _ rfl
  unfold Oper.wp
  go_simp
  clear e36 e38
  refine hK _ _ ?_; clear hK
  refine hsl.go (by decide) ?_; clear hsl; intro a1 hsl
  refine ops_go rfl rfl (fun K hK => ?_)
  have e39 := hsl.get 39 _ rfl
  unfold Oper.wp
  go_simp
  clear e39
  refine hK _ _ ?_; clear hK
  refine hsl.go (by decide) ?_; clear hsl; intro a1 hsl
  refine ops_want rfl rfl rfl rfl (hsl.get 40 _ rfl) (fun K hK => ?_)
  have e9 := hsl.get 9 _ rfl
  unfold Oper.wp
  go_simp
  clear e9
  refine hK _ _ ?_; clear hK
  refine hsl.go (by decide) ?_; clear hsl; intro a1 hsl
  refine ops_want rfl rfl rfl rfl (hsl.get 40 _ rfl) (fun K hK => ?_)
  have e41 := hsl.get 41 _ rfl
  unfold Oper.wp
  go_simp
  clear e41
  refine hK _ _ ?_; clear hK
  refine hsl.go (by decide) ?_; clear hsl; intro a1 hsl
  refine ops_go rfl rfl (fun K hK => ?_)
  have e40 := hsl.get 40 _ rfl
  have e42 := hsl.get 42 _ rfl
  unfold Oper.wp
  go_simp
  clear e40 e42
  refine hK _ _ ?_; clear hK
  refine hsl.go (by decide) ?_; clear hsl; intro a1 hsl
  refine ops_go rfl rfl (fun K hK => ?_)
  have e43 := hsl.get 43 _ rfl
  unfold Oper.wp
  go_simp
  clear e43
  refine hK _ _ ?_; clear hK
  refine hsl.go (by decide) ?_; clear hsl; intro a1 hsl
  refine ops_want rfl rfl rfl rfl (hsl.get 44 _ rfl) (fun K hK => ?_)
  have e5 := hsl.get 5 _ rfl
  have y0 := X5.cell (o := 0) rfl
  have y1 := X5.cell (o := 1) rfl
  have y2 := X5.cell (o := 2) rfl
  unfold Oper.wp
  go_simp
  clear e5
  refine hK _ _ ?_; clear hK
  refine hsl.go (by decide) ?_; clear hsl; intro a1 hsl
  clear y0 y1 y2
  refine ops_want rfl rfl rfl rfl (hsl.get 44 _ rfl) (fun K hK => ?_)
  have e8 := hsl.get 8 _ rfl
  have y0 := X8.cell (o := 0) rfl
  have y1 := X8.cell (o := 1) rfl
  have y2 := X8.cell (o := 2) rfl
  unfold Oper.wp
  go_simp
  clear e8
  refine hK _ _ ?_; clear hK
  refine hsl.go (by decide) ?_; clear hsl; intro a1 hsl
  clear y0 y1 y2
  refine ops_want rfl rfl rfl rfl (hsl.get 44 _ rfl) (fun K hK => ?_)
  have e45 := hsl.get 45 _ rfl
  have e46 := hsl.get 46 _ rfl
  unfold Oper.wp
  go_simp
  refine (SameRoads_any w8 r sa xa sc xc hst hx (by unfold maxLen; omega)).mono ?_
  rintro e w9 ⟨rfl, hb⟩
  replace hst := hst.below hb
  replace X5 := X5.below hb
  replace hx := hx.below hb
  replace X8 := X8.below hb
  replace HB := HB.trans (hb.mono HB.size)
  clear hb
  clear e45 e46
  refine hK _ _ ?_; clear hK
  refine hsl.go (by decide) ?_; clear hsl; intro a1 hsl
  refine ops_want rfl rfl rfl rfl (hsl.get 44 _ rfl) (fun K hK => ?_)
  have e47 := hsl.get 47 _ rfl
  unfold Oper.wp
  go_simp
  clear e47
  refine hK _ _ ?_; clear hK
  refine hsl.go (by decide) ?_; clear hsl; intro a1 hsl
  refine ops_go rfl rfl (fun K hK => ?_)
  have e44 := hsl.get 44 _ rfl
  have e48 := hsl.get 48 _ rfl
  unfold Oper.wp
  go_simp
  clear e44 e48
  refine hK _ _ ?_; clear hK
  refine hsl.go (by decide) ?_; clear hsl; intro a1 hsl
  refine ops_done ?_
  try simp only [Exit.then, Exit.inBlock, ↓reduceIte, Nat.reduceEqDiff]
  refine wp_cond_false (hsl.ev 49 rfl) ?_
  refine wp_skip ?_
  try simp only [Exit.then, Exit.inBlock, ↓reduceIte, Nat.reduceEqDiff]
  refine wp_seq ?_
  have e : regionIn Tryz.f4 8 = Code.region 8 _ false := rfl
  rw [e]; clear e
  refine wp_region ?_
  refine ops_go rfl rfl (fun K hK => ?_)
  have e1 := hsl.get 1 _ rfl
  unfold Oper.wp
  go_simp
  clear e1
  refine hK _ _ ?_; clear hK
  refine hsl.go (by decide) ?_; clear hsl; intro a1 hsl
  refine ops_go rfl rfl (fun K hK => ?_)
  have e51 := hsl.get 51 _ rfl
  unfold Oper.wp
  go_simp
  have hRd := Read_any w9 t (hm.below HB)
  rw [hrd.out] at hRd
  refine hRd.mono ?_
  rintro e w10 ⟨hb, ya, yc, rfl, hy⟩
  clear hRd
  replace hst := hst.below hb
  replace X5 := X5.below hb
  replace hx := hx.below hb
  replace X8 := X8.below hb
  replace HB := HB.trans (hb.mono HB.size)
  clear hb
  clear e51
  refine hK _ _ ?_; clear hK
  refine hsl.go (by decide) ?_; clear hsl; intro a1 hsl
  refine ops_go rfl rfl (fun K hK => ?_)
  have e52 := hsl.get 52 _ rfl
  unfold Oper.wp
  go_simp
  clear e52
  refine hK _ _ ?_; clear hK
  refine hsl.go (by decide) ?_; clear hsl; intro a1 hsl
  refine ops_go rfl rfl (fun K hK => ?_)
  have e50 := hsl.get 50 _ rfl
  unfold Oper.wp
  go_simp
  clear e50
  refine hK _ _ ?_; clear hK
  refine hsl.go (by decide) ?_; clear hsl; intro a1 hsl
  refine ops_go rfl rfl (fun K hK => ?_)
  have e50 := hsl.get 50 _ rfl
  unfold Oper.wp
  go_simp
  clear e50
  refine hK _ _ ?_; clear hK
  refine hsl.go (by decide) ?_; clear hsl; intro a1 hsl
  refine ops_go rfl rfl (fun K hK => ?_)
  have e50 := hsl.get 50 _ rfl
  unfold Oper.wp
  go_simp
  clear e50
  refine hK _ _ ?_; clear hK
  refine hsl.go (by decide) ?_; clear hsl; intro a1 hsl
  refine ops_go rfl rfl (fun K hK => ?_)
  unfold Oper.wp
  go_simp
  refine hK _ _ ?_; clear hK
  refine hsl.go (by decide) ?_; clear hsl; intro a1 hsl
  refine alloc_rwB (G := fun W => wpOps _ _ _ _ _ W) ?_
  intro w11 hz X11 hb
  have hbz : w10.heap.size ≤ w10.heap.size := Nat.le_refl _
  generalize hgb : w10.heap.size = b11 at X11 hsl
  replace hbz : w10.heap.size ≤ b11 := by omega
  clear hz hgb
  refine ops_go rfl rfl (fun K hK => ?_)
  have e11 := hsl.get 11 _ rfl
  have e53 := hsl.get 53 _ rfl
  have y0 := X11.cell (o := 0) rfl
  have f0 := X11.fz 0
  have y1 := X11.cell (o := 1) rfl
  have f1 := X11.fz 1
  have y2 := X11.cell (o := 2) rfl
  have f2 := X11.fz 2
  unfold Oper.wp
  go_simp
  clear e11 e53
  refine hK _ _ ?_; clear hK
  clear y0 y1 y2 f0 f1 f2
  replace hb := ((hb.setCell (p := ⟨b11, 0, none⟩) hbz (.int .i64 y.days)).setCell (p := ⟨b11, 1, none⟩) hbz (.int .i64 y.stages)).setCell (p := ⟨b11, 2, none⟩) hbz (.slice ya y.strips.length yc)
  replace X11 := ((X11.set 0 (.int .i64 y.days)).set 1 (.int .i64 y.stages)).set 2 (.slice ya y.strips.length yc)
  replace X11 : Rw _ b11 #[.int .i64 y.days, .int .i64 y.stages, .slice ya y.strips.length yc] 24 := X11
  generalize (World.setCell _ _ _) = w12 at hb X11 ⊢
  replace hst := hst.below hb
  replace X5 := X5.below hb
  replace hx := hx.below hb
  replace X8 := X8.below hb
  replace hy := hy.below hb
  replace HB := HB.trans (hb.mono HB.size)
  clear hb hbz
  refine ops_go rfl rfl (fun K hK => ?_)
  have e54 := hsl.get 54 _ rfl
  unfold Oper.wp
  go_simp
  clear e54
  refine hK _ _ ?_; clear hK
  refine hsl.go (by decide) ?_; clear hsl; intro a1 hsl
  refine ops_go rfl rfl (fun K hK => ?_)
  have e55 := hsl.get 55 _ rfl
  unfold Oper.wp
  go_simp
  clear e55
  refine hK _ _ ?_; clear hK
  refine hsl.go (by decide) ?_; clear hsl; intro a1 hsl
  refine ops_done ?_
  try simp only [Exit.then, Exit.inBlock, ↓reduceIte, Nat.reduceEqDiff]
  refine wp_seq ?_
  refine wp_seq ?_
  have e : regionIn Tryz.f4 9 = Code.region 9 _ false := rfl
  rw [e]; clear e
  refine wp_region ?_
  refine ops_go rfl rfl (fun K hK => ?_)
  have e13 := hsl.get 13 _ rfl
  unfold Oper.wp
  go_simp
  clear e13
  refine hK _ _ ?_; clear hK
  refine hsl.go (by decide) ?_; clear hsl; intro a1 hsl
  refine ops_go rfl rfl (fun K hK => ?_)
  have e56 := hsl.get 56 _ rfl
  unfold Oper.wp
  go_simp
  clear e56
  refine hK _ _ ?_; clear hK
  refine hsl.go (by decide) ?_; clear hsl; intro a1 hsl
  refine ops_done ?_
  try simp only [Exit.then, Exit.inBlock, ↓reduceIte, Nat.reduceEqDiff]
  refine wp_cond_false (hsl.ev 57 rfl) ?_
  refine wp_skip ?_
  try simp only [Exit.then, Exit.inBlock, ↓reduceIte, Nat.reduceEqDiff]
  refine wp_seq ?_
  have e : regionIn Tryz.f4 11 = Code.region 11 _ false := rfl
  rw [e]; clear e
  refine wp_region ?_
  refine ops_go rfl rfl (fun K hK => ?_)
  have e11 := hsl.get 11 _ rfl
  have y0 := X11.cell (o := 0) rfl
  have y1 := X11.cell (o := 1) rfl
  have y2 := X11.cell (o := 2) rfl
  unfold Oper.wp
  go_simp
  clear e11
  refine hK _ _ ?_; clear hK
  refine hsl.go (by decide) ?_; clear hsl; intro a1 hsl
  clear y0 y1 y2
  refine ops_go rfl rfl (fun K hK => ?_)
  have e60 := hsl.get 60 _ rfl
  unfold Oper.wp
  go_simp
  have hWr := Write_any w12 y ya yc hy (by unfold maxLen; omega) (ht.below HB)
  rw [show writeV y = (t, 0) by rw [writeV, if_pos hcy, hty]] at hWr
  refine hWr.mono ?_
  rintro e w13 ⟨rfl, hb⟩
  clear hWr
  replace hst := hst.below hb
  replace X5 := X5.below hb
  replace hx := hx.below hb
  replace X8 := X8.below hb
  replace hy := hy.below hb
  replace X11 := X11.below hb
  replace HB := HB.trans (hb.mono HB.size)
  clear hb
  clear e60
  refine hK _ _ ?_; clear hK
  refine hsl.go (by decide) ?_; clear hsl; intro a1 hsl
  refine ops_go rfl rfl (fun K hK => ?_)
  have e61 := hsl.get 61 _ rfl
  unfold Oper.wp
  go_simp
  clear e61
  refine hK _ _ ?_; clear hK
  refine hsl.go (by decide) ?_; clear hsl; intro a1 hsl
  refine ops_go rfl rfl (fun K hK => ?_)
  have e59 := hsl.get 59 _ rfl
  unfold Oper.wp
  go_simp
  clear e59
  refine hK _ _ ?_; clear hK
  refine hsl.go (by decide) ?_; clear hsl; intro a1 hsl
  refine ops_go rfl rfl (fun K hK => ?_)
  have e59 := hsl.get 59 _ rfl
  unfold Oper.wp
  go_simp
  clear e59
  refine hK _ _ ?_; clear hK
  refine hsl.go (by decide) ?_; clear hsl; intro a1 hsl
  refine ops_go rfl rfl (fun K hK => ?_)
  have e62 := hsl.get 62 _ rfl
  unfold Oper.wp
  go_simp
  clear e62
  refine hK _ _ ?_; clear hK
  refine hsl.go (by decide) ?_; clear hsl; intro a1 hsl
  refine ops_go rfl rfl (fun K hK => ?_)
  have e63 := hsl.get 63 _ rfl
  unfold Oper.wp
  go_simp
  clear e63
  refine hK _ _ ?_; clear hK
  refine hsl.go (by decide) ?_; clear hsl; intro a1 hsl
  refine ops_done ?_
  try simp only [Exit.then, Exit.inBlock, ↓reduceIte, Nat.reduceEqDiff]
  refine wp_seq ?_
  have e : regionIn Tryz.f4 12 = Code.region 12 _ false := rfl
  rw [e]; clear e
  refine wp_region ?_
  refine ops_go rfl rfl (fun K hK => ?_)
  have e15 := hsl.get 15 _ rfl
  unfold Oper.wp
  go_simp
  clear e15
  refine hK _ _ ?_; clear hK
  refine hsl.go (by decide) ?_; clear hsl; intro a1 hsl
  refine ops_go rfl rfl (fun K hK => ?_)
  have e64 := hsl.get 64 _ rfl
  unfold Oper.wp
  go_simp
  clear e64
  refine hK _ _ ?_; clear hK
  refine hsl.go (by decide) ?_; clear hsl; intro a1 hsl
  refine ops_go rfl rfl (fun K hK => ?_)
  have e65 := hsl.get 65 _ rfl
  unfold Oper.wp
  go_simp
  clear e65
  refine hK _ _ ?_; clear hK
  refine hsl.go (by decide) ?_; clear hsl; intro a1 hsl
  refine ops_want rfl rfl rfl rfl (hsl.get 66 _ rfl) (fun K hK => ?_)
  have e14 := hsl.get 14 _ rfl
  unfold Oper.wp
  go_simp
  clear e14
  refine hK _ _ ?_; clear hK
  refine hsl.go (by decide) ?_; clear hsl; intro a1 hsl
  refine ops_want rfl rfl rfl rfl (hsl.get 66 _ rfl) (fun K hK => ?_)
  have e1 := hsl.get 1 _ rfl
  unfold Oper.wp
  go_simp
  clear e1
  refine hK _ _ ?_; clear hK
  refine hsl.go (by decide) ?_; clear hsl; intro a1 hsl
  refine ops_want rfl rfl rfl rfl (hsl.get 66 _ rfl) (fun K hK => ?_)
  have e67 := hsl.get 67 _ rfl
  have e68 := hsl.get 68 _ rfl
  unfold Oper.wp
  go_simp
  clear e67 e68
  refine hK _ _ ?_; clear hK
  refine hsl.go (by decide) ?_; clear hsl; intro a1 hsl
  refine ops_go rfl rfl (fun K hK => ?_)
  have e66 := hsl.get 66 _ rfl
  have e69 := hsl.get 69 _ rfl
  unfold Oper.wp
  go_simp
  clear e66 e69
  refine hK _ _ ?_; clear hK
  refine hsl.go (by decide) ?_; clear hsl; intro a1 hsl
  refine ops_go rfl rfl (fun K hK => ?_)
  have e70 := hsl.get 70 _ rfl
  unfold Oper.wp
  go_simp
  clear e70
  refine hK _ _ ?_; clear hK
  refine hsl.go (by decide) ?_; clear hsl; intro a1 hsl
  refine ops_want rfl rfl rfl rfl (hsl.get 71 _ rfl) (fun K hK => ?_)
  unfold Oper.wp
  go_simp
  refine (afoot_any w13).mono ?_
  rintro e w14 ⟨rfl, hb⟩
  replace hst := hst.below hb
  replace X5 := X5.below hb
  replace hx := hx.below hb
  replace X8 := X8.below hb
  replace hy := hy.below hb
  replace X11 := X11.below hb
  replace HB := HB.trans (hb.mono HB.size)
  clear hb
  refine hK _ _ ?_; clear hK
  refine hsl.go (by decide) ?_; clear hsl; intro a1 hsl
  refine ops_go rfl rfl (fun K hK => ?_)
  have e71 := hsl.get 71 _ rfl
  have e72 := hsl.get 72 _ rfl
  unfold Oper.wp
  go_simp
  clear e71 e72
  refine hK _ _ ?_; clear hK
  refine hsl.go (by decide) ?_; clear hsl; intro a1 hsl
  refine ops_go rfl rfl (fun K hK => ?_)
  have e73 := hsl.get 73 _ rfl
  unfold Oper.wp
  go_simp
  clear e73
  refine hK _ _ ?_; clear hK
  refine hsl.go (by decide) ?_; clear hsl; intro a1 hsl
  refine ops_done ?_
  try simp only [Exit.then, Exit.inBlock, ↓reduceIte, Nat.reduceEqDiff]
  refine wp_ret ?_
  try simp only [Exit.then, Exit.inBlock, ↓reduceIte, Nat.reduceEqDiff]
  refine bodyPost_ret (v := .bool true) ?_ hsl.defers ⟨rfl, HB⟩
  simp [results, Tryz.results4, hsl.get 4 _ rfl]
theorem RoadReadL_any (w : World) (a : Option Addr) (n0 c : Nat) (l : List Int) (hl : IntsAt w a l) (hn : l.length = n0) (hmx : n0 ≤ maxLen) (ha : l = [] ∨ ∀ ad, a = some ad → ad.block < w.heap.size) (t : List UInt8) (ht : TabOk w) (hm : MaxOk w) : Calls Tryz.prog 4 #[.slice a n0 c, .string ⟨t.toArray⟩] w fun e w' => e = .returned (.bool true) ∧ Below w.heap.size w w' := by
  by_cases h3 : 300 < (t.length : Int)
  · exact roadReadL w a n0 c l hl hn hmx ha t ht hm h3
  · obtain ⟨y, ny, er, hrd⟩ : ∃ y ny er, readV t = (y, ny, er) := ⟨_, _, _, rfl⟩
    by_cases he : er = 0
    · subst he
      obtain ⟨hcy, hty⟩ := read_write hrd
      exact roadReadK w a n0 c l hl hn hmx ha t ht hm h3 y ny (Lib.hid hrd) hcy hty (check_size hcy).2.2.2.2
    · exact roadReadE w a n0 c l hl hn hmx ha t ht hm h3 y ny er (Lib.hid hrd) (by simpa using he)
end Go.Proofs.YtmkjeonjhedgkaaGreatDoor
