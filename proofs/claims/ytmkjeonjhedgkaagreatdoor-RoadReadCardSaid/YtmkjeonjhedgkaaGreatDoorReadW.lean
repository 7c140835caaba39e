/- The contract of road.Read. -/
import Derived.Test.YtmkjeonjhedgkaaGreatDoorTakeW
namespace Go.Proofs.YtmkjeonjhedgkaaGreatDoor
set_option linter.unusedSimpArgs false
set_option linter.unusedVariables false
open Go.RowKit

/-- What Read leaves. -/
def ReadPost (w : World) (o : Roads × Int × Int) : Ending → World → Prop := fun e w' => Below w.heap.size w w' ∧ ∃ a c, e = .returned (.tuple #[.agg #[.int .i64 o.1.days, .int .i64 o.1.stages, .slice a o.1.strips.length c], .int .i64 o.2.1, .int .i64 o.2.2]) ∧ StripsAt w' a o.1.strips
theorem goV_pos {st d : Int} : ∀ {ls : List (List UInt8)} {acc : List Strip} {i k : Nat}, goV st d acc i ls = .inl k → ls ≠ [] → 0 < k
  | [], _, _, _, _, h => absurd rfl h
  | [_], _, _, _, h, _ => by simp [goV] at h; omega
  | l :: l2 :: r, acc, i, k, h, _ => by
    unfold goV at h
    split at h
    · split at h
      · simp at h
      · simp at h; omega
    · split at h
      · simp at h; omega
      · exact goV_pos h (by simp)
theorem takeV_pos {ls : List (List UInt8)} {k : Nat} (h : takeV ls = .inl k) (hn : ls ≠ []) : 0 < k := by
  unfold takeV at h
  split at h
  · exact absurd rfl hn
  · simp at h; omega
  · split at h
    · simp at h; omega
    · exact goV_pos h (by simp)
theorem takeV_len {ls : List (List UInt8)} {r : Roads} (h : takeV ls = .inr r) : r.strips.length ≤ ls.length := by
  rw [takeV_some h]; simp; omega
theorem split_count (c : UInt8) (t : List UInt8) : (splitC c t).length ≤ t.length + 1 := by
  rw [splitC_length]; have := List.count_le_length (a := c) (l := t); omega
set_option maxRecDepth 100000 in
theorem read_body : Tryz.f11.body = some (Code.seq (regionIn Tryz.f11 0) (Code.seq (Code.seq (regionIn Tryz.f11 1) (Code.cond (Operand.tmp 10) (Code.seq (regionIn Tryz.f11 2) Code.ret) Code.skip)) (Code.seq (regionIn Tryz.f11 3) (Code.seq (Code.seq (regionIn Tryz.f11 4) (Code.cond (Operand.tmp 19) (Code.seq (regionIn Tryz.f11 5) Code.ret) Code.skip)) (Code.seq (Code.seq (regionIn Tryz.f11 6) (Code.seq (regionIn Tryz.f11 7) (Code.cond (Operand.tmp 25) (Code.seq (regionIn Tryz.f11 8) Code.ret) Code.skip))) (Code.seq (regionIn Tryz.f11 9) Code.ret)))))) := rfl
set_option maxRecDepth 100000 in
set_option maxHeartbeats 4000000 in
theorem readL (w : World) (t : List UInt8) (hm : MaxOk w) (hl : 400 < (t.length : Int)) : Calls Tryz.prog 11 #[.string ⟨t.toArray⟩] w (ReadPost w (noRoads, 0, 10)) := by
  refine calls_of_wp Tryz.func11 read_body ?_
  have hsl : Sl (⟨#[.string ⟨t.toArray⟩] ++ Array.replicate (Tryz.f11.ntmps - (#[.string ⟨t.toArray⟩] : Array Value).size) undef, []⟩ : Act) 29 [(0, .string ⟨t.toArray⟩)] := by rw [Tryz.ntmps11]; exact Sl.entry1 _ (by omega)
  revert hsl; generalize (Act.mk _ _) = a0; intro hsl
  refine wp_seq ?_
  have e : regionIn Tryz.f11 0 = Code.region 0 _ false := rfl
  rw [e]; clear e
  refine wp_region ?_
  refine ops_go rfl rfl (fun K hK => ?_)
  unfold Oper.wp
  go_simp
  refine hK _ _ ?_; clear hK
  refine hsl.go (by decide) ?_; clear hsl; intro a1 hsl
  refine alloc_rwB (G := fun W => wpOps _ _ _ _ _ W) ?_
  intro w1 hz1 X1 HB
  generalize hg1 : w.heap.size = b2 at X1 hsl
  have o1 : w.heap.size ≤ b2 ∧ b2 < w1.heap.size := by omega
  clear hg1 hz1
  refine ops_go rfl rfl (fun K hK => ?_)
  unfold Oper.wp
  go_simp
  refine hK _ _ ?_; clear hK
  refine hsl.go (by decide) ?_; clear hsl; intro a1 hsl
  refine ops_go rfl rfl (fun K hK => ?_)
  unfold Oper.wp
  go_simp
  refine hK _ _ ?_; clear hK
  refine hsl.go (by decide) ?_; clear hsl; intro a1 hsl
  refine ops_done ?_
  try simp only [Exit.then, Exit.inBlock, ↓reduceIte, Nat.reduceEqDiff]
  refine wp_seq ?_
  refine wp_seq ?_
  have e : regionIn Tryz.f11 1 = Code.region 1 _ false := rfl
  rw [e]; clear e
  refine wp_region ?_
  refine ops_go rfl rfl (fun K hK => ?_)
  have e0 := hsl.get 0 _ rfl
  unfold Oper.wp
  go_simp
  clear e0
  refine hK _ _ ?_; clear hK
  refine hsl.go (by decide) ?_; clear hsl; intro a1 hsl
  refine ops_go rfl rfl (fun K hK => ?_)
  have e8 := hsl.get 8 _ rfl
  unfold Oper.wp
  go_simp
  clear e8
  refine hK _ _ ?_; clear hK
  refine hsl.go (by decide) ?_; clear hsl; intro a1 hsl
  refine ops_go rfl rfl (fun K hK => ?_)
  have e9 := hsl.get 9 _ rfl
  unfold Oper.wp
  go_simp
  clear e9
  refine hK _ _ ?_; clear hK
  refine hsl.go (by decide) ?_; clear hsl; intro a1 hsl
  refine ops_done ?_
  try simp only [Exit.then, Exit.inBlock, ↓reduceIte, Nat.reduceEqDiff]
  refine wp_cond_true (hsl.ev 10 rfl) ?_
  refine wp_seq ?_
  have e : regionIn Tryz.f11 2 = Code.region 2 _ false := rfl
  rw [e]; clear e
  refine wp_region ?_
  refine ops_go rfl rfl (fun K hK => ?_)
  unfold Oper.wp
  go_simp
  refine hK _ _ ?_; clear hK
  refine hsl.go (by decide) ?_; clear hsl; intro a1 hsl
  refine ops_go rfl rfl (fun K hK => ?_)
  have e2 := hsl.get 2 _ rfl
  have e11 := hsl.get 11 _ rfl
  have y0 := X1.cell (o := 0) rfl
  have f0 := X1.fz 0
  have y1 := X1.cell (o := 1) rfl
  have f1 := X1.fz 1
  have y2 := X1.cell (o := 2) rfl
  have f2 := X1.fz 2
  unfold Oper.wp
  go_simp
  clear e2 e11
  refine hK _ _ ?_; clear hK
  clear y0 y1 y2 f0 f1 f2
  have hBb2 : w.heap.size ≤ b2 := by omega
  replace HB := ((HB.setCell (p := ⟨b2, 0, none⟩) hBb2 (.int .i64 0)).setCell (p := ⟨b2, 1, none⟩) hBb2 (.int .i64 0)).setCell (p := ⟨b2, 2, none⟩) hBb2 (.slice none 0 0)
  replace X1 := ((X1.set 0 (.int .i64 0)).set 1 (.int .i64 0)).set 2 (.slice none 0 0)
  replace X1 : Rw _ b2 #[.int .i64 0, .int .i64 0, .slice none 0 0] 24 := X1
  generalize (World.setCell _ _ _) = w7 at HB X1  ⊢
  refine ops_go rfl rfl (fun K hK => ?_)
  unfold Oper.wp
  go_simp
  refine hK _ _ ?_; clear hK
  refine hsl.go (by decide) ?_; clear hsl; intro a1 hsl
  refine ops_go rfl rfl (fun K hK => ?_)
  unfold Oper.wp
  go_simp
  refine hK _ _ ?_; clear hK
  refine hsl.go (by decide) ?_; clear hsl; intro a1 hsl
  refine ops_done ?_
  try simp only [Exit.then, Exit.inBlock, ↓reduceIte, Nat.reduceEqDiff]
  refine wp_ret ?_
  have z0 := X1.cell (o := 0) rfl
  have z1 := X1.cell (o := 1) rfl
  have z2 := X1.cell (o := 2) rfl
  refine bodyPost_ret (v := .tuple #[.agg #[.int .i64 0, .int .i64 0, .slice none 0 0], .int .i64 0, .int .i64 10]) ?_ hsl.defers ⟨HB, none, 0, rfl, .inl rfl⟩
  simp [results, Tryz.results11, go_sem, hsl.get 2 _ rfl, hsl.get 3 _ rfl, hsl.get 4 _ rfl, z0, z1, z2]
set_option maxRecDepth 100000 in
set_option maxHeartbeats 4000000 in
theorem readT (w : World) (t : List UInt8) (hm : MaxOk w) (hl : ¬ 400 < (t.length : Int)) (m : Nat) (hms : (splitC 10 t).length = m + 1) (hm4 : m ≤ 400) (k : Nat) (htk : takeV (splitC 10 t) = .inl k) (hk : 0 < k) : Calls Tryz.prog 11 #[.string ⟨t.toArray⟩] w (ReadPost w (noRoads, (k : Int), 2)) := by
  refine calls_of_wp Tryz.func11 read_body ?_
  have hsl : Sl (⟨#[.string ⟨t.toArray⟩] ++ Array.replicate (Tryz.f11.ntmps - (#[.string ⟨t.toArray⟩] : Array Value).size) undef, []⟩ : Act) 29 [(0, .string ⟨t.toArray⟩)] := by rw [Tryz.ntmps11]; exact Sl.entry1 _ (by omega)
  revert hsl; generalize (Act.mk _ _) = a0; intro hsl
  refine wp_seq ?_
  have e : regionIn Tryz.f11 0 = Code.region 0 _ false := rfl
  rw [e]; clear e
  refine wp_region ?_
  refine ops_go rfl rfl (fun K hK => ?_)
  unfold Oper.wp
  go_simp
  refine hK _ _ ?_; clear hK
  refine hsl.go (by decide) ?_; clear hsl; intro a1 hsl
  refine alloc_rwB (G := fun W => wpOps _ _ _ _ _ W) ?_
  intro w1 hz1 X1 HB
  generalize hg1 : w.heap.size = b2 at X1 hsl
  have o1 : w.heap.size ≤ b2 ∧ b2 < w1.heap.size := by omega
  clear hg1 hz1
  refine ops_go rfl rfl (fun K hK => ?_)
  unfold Oper.wp
  go_simp
  refine hK _ _ ?_; clear hK
  refine hsl.go (by decide) ?_; clear hsl; intro a1 hsl
  refine ops_go rfl rfl (fun K hK => ?_)
  unfold Oper.wp
  go_simp
  refine hK _ _ ?_; clear hK
  refine hsl.go (by decide) ?_; clear hsl; intro a1 hsl
  refine ops_done ?_
  try simp only [Exit.then, Exit.inBlock, ↓reduceIte, Nat.reduceEqDiff]
  refine wp_seq ?_
  refine wp_seq ?_
  have e : regionIn Tryz.f11 1 = Code.region 1 _ false := rfl
  rw [e]; clear e
  refine wp_region ?_
  refine ops_go rfl rfl (fun K hK => ?_)
  have e0 := hsl.get 0 _ rfl
  unfold Oper.wp
  go_simp
  clear e0
  refine hK _ _ ?_; clear hK
  refine hsl.go (by decide) ?_; clear hsl; intro a1 hsl
  refine ops_go rfl rfl (fun K hK => ?_)
  have e8 := hsl.get 8 _ rfl
  unfold Oper.wp
  go_simp
  clear e8
  refine hK _ _ ?_; clear hK
  refine hsl.go (by decide) ?_; clear hsl; intro a1 hsl
  refine ops_go rfl rfl (fun K hK => ?_)
  have e9 := hsl.get 9 _ rfl
  unfold Oper.wp
  go_simp
  clear e9
  refine hK _ _ ?_; clear hK
  refine hsl.go (by decide) ?_; clear hsl; intro a1 hsl
  refine ops_done ?_
  try simp only [Exit.then, Exit.inBlock, ↓reduceIte, Nat.reduceEqDiff]
  refine wp_cond_false (hsl.ev 10 rfl) ?_
  refine wp_skip ?_
  try simp only [Exit.then, Exit.inBlock, ↓reduceIte, Nat.reduceEqDiff]
  refine wp_seq ?_
  have e : regionIn Tryz.f11 3 = Code.region 3 _ false := rfl
  rw [e]; clear e
  refine wp_region ?_
  refine ops_go rfl rfl (fun K hK => ?_)
  have e0 := hsl.get 0 _ rfl
  unfold Oper.wp
  go_simp
  clear e0
  refine hK _ _ ?_; clear hK
  refine hsl.go (by decide) ?_; clear hsl; intro a1 hsl
  refine ops_go rfl rfl (fun K hK => ?_)
  have e13 := hsl.get 13 _ rfl
  unfold Oper.wp
  go_simp
  refine (split_any _ 10 t (hm.below HB) (by omega)).mono ?_
  rintro e w2 ⟨g, hg, rfl, XG, hb⟩
  rw [hms]
  have o2c := hb.size
  replace X1 := X1.below hb; replace HB := HB.trans (hb.mono HB.size); clear hb
  clear e13
  refine hK _ _ ?_; clear hK
  refine hsl.go (by decide) ?_; clear hsl; intro a1 hsl
  refine ops_go rfl rfl (fun K hK => ?_)
  have e14 := hsl.get 14 _ rfl
  unfold Oper.wp
  go_simp
  refine (take_any _ g m _ hms (by omega) XG (fun l hl => by have := splitC_le 10 t l hl; omega) (hm.below HB)).mono ?_
  rintro e w3 ⟨hb, htp⟩
  rw [htk] at htp
  obtain rfl := htp
  replace X1 := X1.below hb; replace HB := HB.trans (hb.mono HB.size)
  clear hb XG
  clear e14
  refine hK _ _ ?_; clear hK
  refine hsl.go (by decide) ?_; clear hsl; intro a1 hsl
  refine ops_go rfl rfl (fun K hK => ?_)
  have e15 := hsl.get 15 _ rfl
  unfold Oper.wp
  go_simp
  clear e15
  refine hK _ _ ?_; clear hK
  refine hsl.go (by decide) ?_; clear hsl; intro a1 hsl
  refine ops_go rfl rfl (fun K hK => ?_)
  have e12 := hsl.get 12 _ rfl
  unfold Oper.wp
  go_simp
  clear e12
  refine hK _ _ ?_; clear hK
  refine hsl.go (by decide) ?_; clear hsl; intro a1 hsl
  refine ops_go rfl rfl (fun K hK => ?_)
  have e12 := hsl.get 12 _ rfl
  unfold Oper.wp
  go_simp
  clear e12
  refine hK _ _ ?_; clear hK
  refine hsl.go (by decide) ?_; clear hsl; intro a1 hsl
  refine ops_go rfl rfl (fun K hK => ?_)
  unfold Oper.wp
  go_simp
  refine hK _ _ ?_; clear hK
  refine hsl.go (by decide) ?_; clear hsl; intro a1 hsl
  have oz := X1.lt
  refine alloc_rwB (G := fun W => wpOps _ _ _ _ _ W) ?_
  intro w4 hz4 X5 hb
  generalize hg4 : w3.heap.size = b5 at X5 hsl
  have o5 : b2 < b5 := by omega
  clear oz
  replace X1 := X1.below hb; replace HB := HB.trans (hb.mono HB.size)
  clear hg4 hz4
  clear hb
  refine ops_go rfl rfl (fun K hK => ?_)
  have e5 := hsl.get 5 _ rfl
  have e16 := hsl.get 16 _ rfl
  have y0 := X5.cell (o := 0) rfl
  have f0 := X5.fz 0
  have y1 := X5.cell (o := 1) rfl
  have f1 := X5.fz 1
  have y2 := X5.cell (o := 2) rfl
  have f2 := X5.fz 2
  unfold Oper.wp
  go_simp
  clear e5 e16
  refine hK _ _ ?_; clear hK
  clear y0 y1 y2 f0 f1 f2
  have hBb5 : w.heap.size ≤ b5 := by omega
  replace HB := ((HB.setCell (p := ⟨b5, 0, none⟩) hBb5 (.int .i64 0)).setCell (p := ⟨b5, 1, none⟩) hBb5 (.int .i64 0)).setCell (p := ⟨b5, 2, none⟩) hBb5 (.slice none 0 0)
  replace X5 := ((X5.set 0 (.int .i64 0)).set 1 (.int .i64 0)).set 2 (.slice none 0 0)
  replace X5 : Rw _ b5 #[.int .i64 0, .int .i64 0, .slice none 0 0] 24 := X5
  replace X1 := ((X1.far (g := b5) (by omega) 0 (.int .i64 0)).far (g := b5) (by omega) 1 (.int .i64 0)).far (g := b5) (by omega) 2 (.slice none 0 0)
  generalize (World.setCell _ _ _) = w5 at HB X5 X1 ⊢
  refine ops_go rfl rfl (fun K hK => ?_)
  have e17 := hsl.get 17 _ rfl
  unfold Oper.wp
  go_simp
  clear e17
  refine hK _ _ ?_; clear hK
  refine hsl.go (by decide) ?_; clear hsl; intro a1 hsl
  refine ops_done ?_
  try simp only [Exit.then, Exit.inBlock, ↓reduceIte, Nat.reduceEqDiff]
  refine wp_seq ?_
  refine wp_seq ?_
  have e : regionIn Tryz.f11 4 = Code.region 4 _ false := rfl
  rw [e]; clear e
  refine wp_region ?_
  refine ops_go rfl rfl (fun K hK => ?_)
  have e6 := hsl.get 6 _ rfl
  unfold Oper.wp
  go_simp
  clear e6
  refine hK _ _ ?_; clear hK
  refine hsl.go (by decide) ?_; clear hsl; intro a1 hsl
  refine ops_go rfl rfl (fun K hK => ?_)
  have e18 := hsl.get 18 _ rfl
  unfold Oper.wp
  go_simp
  clear e18
  refine hK _ _ ?_; clear hK
  refine hsl.go (by decide) ?_; clear hsl; intro a1 hsl
  refine ops_done ?_
  try simp only [Exit.then, Exit.inBlock, ↓reduceIte, Nat.reduceEqDiff]
  refine wp_cond_true (hsl.ev 19 rfl) ?_
  refine wp_seq ?_
  have e : regionIn Tryz.f11 5 = Code.region 5 _ false := rfl
  rw [e]; clear e
  refine wp_region ?_
  refine ops_go rfl rfl (fun K hK => ?_)
  unfold Oper.wp
  go_simp
  refine hK _ _ ?_; clear hK
  refine hsl.go (by decide) ?_; clear hsl; intro a1 hsl
  refine ops_go rfl rfl (fun K hK => ?_)
  have e6 := hsl.get 6 _ rfl
  unfold Oper.wp
  go_simp
  clear e6
  refine hK _ _ ?_; clear hK
  refine hsl.go (by decide) ?_; clear hsl; intro a1 hsl
  refine ops_go rfl rfl (fun K hK => ?_)
  have e2 := hsl.get 2 _ rfl
  have e20 := hsl.get 20 _ rfl
  have y0 := X1.cell (o := 0) rfl
  have f0 := X1.fz 0
  have y1 := X1.cell (o := 1) rfl
  have f1 := X1.fz 1
  have y2 := X1.cell (o := 2) rfl
  have f2 := X1.fz 2
  unfold Oper.wp
  go_simp
  clear e2 e20
  refine hK _ _ ?_; clear hK
  clear y0 y1 y2 f0 f1 f2
  have hBb2 : w.heap.size ≤ b2 := by omega
  replace HB := ((HB.setCell (p := ⟨b2, 0, none⟩) hBb2 (.int .i64 0)).setCell (p := ⟨b2, 1, none⟩) hBb2 (.int .i64 0)).setCell (p := ⟨b2, 2, none⟩) hBb2 (.slice none 0 0)
  replace X1 := ((X1.set 0 (.int .i64 0)).set 1 (.int .i64 0)).set 2 (.slice none 0 0)
  replace X1 : Rw _ b2 #[.int .i64 0, .int .i64 0, .slice none 0 0] 24 := X1
  replace X5 := ((X5.far (g := b2) (by omega) 0 (.int .i64 0)).far (g := b2) (by omega) 1 (.int .i64 0)).far (g := b2) (by omega) 2 (.slice none 0 0)
  generalize (World.setCell _ _ _) = w7 at HB X1 X5 ⊢
  refine ops_go rfl rfl (fun K hK => ?_)
  have e21 := hsl.get 21 _ rfl
  unfold Oper.wp
  go_simp
  clear e21
  refine hK _ _ ?_; clear hK
  refine hsl.go (by decide) ?_; clear hsl; intro a1 hsl
  refine ops_go rfl rfl (fun K hK => ?_)
  unfold Oper.wp
  go_simp
  refine hK _ _ ?_; clear hK
  refine hsl.go (by decide) ?_; clear hsl; intro a1 hsl
  refine ops_done ?_
  try simp only [Exit.then, Exit.inBlock, ↓reduceIte, Nat.reduceEqDiff]
  refine wp_ret ?_
  have z0 := X1.cell (o := 0) rfl
  have z1 := X1.cell (o := 1) rfl
  have z2 := X1.cell (o := 2) rfl
  refine bodyPost_ret (v := .tuple #[.agg #[.int .i64 0, .int .i64 0, .slice none 0 0], .int .i64 (k : Int), .int .i64 2]) ?_ hsl.defers ⟨HB, none, 0, rfl, .inl rfl⟩
  simp [results, Tryz.results11, go_sem, hsl.get 2 _ rfl, hsl.get 3 _ rfl, hsl.get 4 _ rfl, z0, z1, z2]
set_option maxRecDepth 100000 in
set_option maxHeartbeats 4000000 in
theorem readE (w : World) (t : List UInt8) (hm : MaxOk w) (hl : ¬ 400 < (t.length : Int)) (m : Nat) (hms : (splitC 10 t).length = m + 1) (hm4 : m ≤ 400) (rr : Roads) (htk : takeV (splitC 10 t) = .inr rr) (hc : (checkR rr != 0) = true) : Calls Tryz.prog 11 #[.string ⟨t.toArray⟩] w (ReadPost w (noRoads, 0, checkR rr)) := by
  refine calls_of_wp Tryz.func11 read_body ?_
  have hsl : Sl (⟨#[.string ⟨t.toArray⟩] ++ Array.replicate (Tryz.f11.ntmps - (#[.string ⟨t.toArray⟩] : Array Value).size) undef, []⟩ : Act) 29 [(0, .string ⟨t.toArray⟩)] := by rw [Tryz.ntmps11]; exact Sl.entry1 _ (by omega)
  revert hsl; generalize (Act.mk _ _) = a0; intro hsl
  have htk2 := Lib.hid htk
  refine wp_seq ?_
  have e : regionIn Tryz.f11 0 = Code.region 0 _ false := rfl
  rw [e]; clear e
  refine wp_region ?_
  refine ops_go rfl rfl (fun K hK => ?_)
  unfold Oper.wp
  go_simp
  refine hK _ _ ?_; clear hK
  refine hsl.go (by decide) ?_; clear hsl; intro a1 hsl
  refine alloc_rwB (G := fun W => wpOps _ _ _ _ _ W) ?_
  intro w1 hz1 X1 HB
  generalize hg1 : w.heap.size = b2 at X1 hsl
  have o1 : w.heap.size ≤ b2 ∧ b2 < w1.heap.size := by omega
  clear hg1 hz1
  refine ops_go rfl rfl (fun K hK => ?_)
  unfold Oper.wp
  go_simp
  refine hK _ _ ?_; clear hK
  refine hsl.go (by decide) ?_; clear hsl; intro a1 hsl
  refine ops_go rfl rfl (fun K hK => ?_)
  unfold Oper.wp
  go_simp
  refine hK _ _ ?_; clear hK
  refine hsl.go (by decide) ?_; clear hsl; intro a1 hsl
  refine ops_done ?_
  try simp only [Exit.then, Exit.inBlock, ↓reduceIte, Nat.reduceEqDiff]
  refine wp_seq ?_
  refine wp_seq ?_
  have e : regionIn Tryz.f11 1 = Code.region 1 _ false := rfl
  rw [e]; clear e
  refine wp_region ?_
  refine ops_go rfl rfl (fun K hK => ?_)
  have e0 := hsl.get 0 _ rfl
  unfold Oper.wp
  go_simp
  clear e0
  refine hK _ _ ?_; clear hK
  refine hsl.go (by decide) ?_; clear hsl; intro a1 hsl
  refine ops_go rfl rfl (fun K hK => ?_)
  have e8 := hsl.get 8 _ rfl
  unfold Oper.wp
  go_simp
  clear e8
  refine hK _ _ ?_; clear hK
  refine hsl.go (by decide) ?_; clear hsl; intro a1 hsl
  refine ops_go rfl rfl (fun K hK => ?_)
  have e9 := hsl.get 9 _ rfl
  unfold Oper.wp
  go_simp
  clear e9
  refine hK _ _ ?_; clear hK
  refine hsl.go (by decide) ?_; clear hsl; intro a1 hsl
  refine ops_done ?_
  try simp only [Exit.then, Exit.inBlock, ↓reduceIte, Nat.reduceEqDiff]
  refine wp_cond_false (hsl.ev 10 rfl) ?_
  refine wp_skip ?_
  try simp only [Exit.then, Exit.inBlock, ↓reduceIte, Nat.reduceEqDiff]
  refine wp_seq ?_
  have e : regionIn Tryz.f11 3 = Code.region 3 _ false := rfl
  rw [e]; clear e
  refine wp_region ?_
  refine ops_go rfl rfl (fun K hK => ?_)
  have e0 := hsl.get 0 _ rfl
  unfold Oper.wp
  go_simp
  clear e0
  refine hK _ _ ?_; clear hK
  refine hsl.go (by decide) ?_; clear hsl; intro a1 hsl
  refine ops_go rfl rfl (fun K hK => ?_)
  have e13 := hsl.get 13 _ rfl
  unfold Oper.wp
  go_simp
  refine (split_any _ 10 t (hm.below HB) (by omega)).mono ?_
  rintro e w2 ⟨g, hg, rfl, XG, hb⟩
  rw [hms]
  have o2c := hb.size
  replace X1 := X1.below hb; replace HB := HB.trans (hb.mono HB.size); clear hb
  clear e13
  refine hK _ _ ?_; clear hK
  refine hsl.go (by decide) ?_; clear hsl; intro a1 hsl
  refine ops_go rfl rfl (fun K hK => ?_)
  have e14 := hsl.get 14 _ rfl
  unfold Oper.wp
  go_simp
  refine (take_any _ g m _ hms (by omega) XG (fun l hl => by have := splitC_le 10 t l hl; omega) (hm.below HB)).mono ?_
  rintro e w3 ⟨hb, htp⟩
  rw [htk] at htp
  obtain ⟨sa, sc, rfl, hst⟩ := htp
  have o2b : b2 < w2.heap.size := by omega
  replace X1 := X1.below hb; replace HB := HB.trans (hb.mono HB.size)
  clear hb XG
  clear e14
  refine hK _ _ ?_; clear hK
  refine hsl.go (by decide) ?_; clear hsl; intro a1 hsl
  refine ops_go rfl rfl (fun K hK => ?_)
  have e15 := hsl.get 15 _ rfl
  unfold Oper.wp
  go_simp
  clear e15
  refine hK _ _ ?_; clear hK
  refine hsl.go (by decide) ?_; clear hsl; intro a1 hsl
  refine ops_go rfl rfl (fun K hK => ?_)
  have e12 := hsl.get 12 _ rfl
  unfold Oper.wp
  go_simp
  clear e12
  refine hK _ _ ?_; clear hK
  refine hsl.go (by decide) ?_; clear hsl; intro a1 hsl
  refine ops_go rfl rfl (fun K hK => ?_)
  have e12 := hsl.get 12 _ rfl
  unfold Oper.wp
  go_simp
  clear e12
  refine hK _ _ ?_; clear hK
  refine hsl.go (by decide) ?_; clear hsl; intro a1 hsl
  refine ops_go rfl rfl (fun K hK => ?_)
  unfold Oper.wp
  go_simp
  refine hK _ _ ?_; clear hK
  refine hsl.go (by decide) ?_; clear hsl; intro a1 hsl
  have oz := X1.lt
  refine alloc_rwB (G := fun W => wpOps _ _ _ _ _ W) ?_
  intro w4 hz4 X5 hb
  generalize hg4 : w3.heap.size = b5 at X5 hsl
  have o5 : b2 < b5 := by omega
  clear oz
  replace X1 := X1.below hb; replace HB := HB.trans (hb.mono HB.size)
  have hnb5 : ∀ b, (Value.slice sa rr.strips.length sc).ownBlock = some b → b ≠ b5 := fun b h => by have := (hst.at_block h).2; omega
  replace hst := hst.below hb
  clear hg4 hz4
  clear hb
  refine ops_go rfl rfl (fun K hK => ?_)
  have e5 := hsl.get 5 _ rfl
  have e16 := hsl.get 16 _ rfl
  have y0 := X5.cell (o := 0) rfl
  have f0 := X5.fz 0
  have y1 := X5.cell (o := 1) rfl
  have f1 := X5.fz 1
  have y2 := X5.cell (o := 2) rfl
  have f2 := X5.fz 2
  unfold Oper.wp
  go_simp
  clear e5 e16
  refine hK _ _ ?_; clear hK
  clear y0 y1 y2 f0 f1 f2
  have hBb5 : w.heap.size ≤ b5 := by omega
  replace HB := ((HB.setCell (p := ⟨b5, 0, none⟩) hBb5 (.int .i64 rr.days)).setCell (p := ⟨b5, 1, none⟩) hBb5 (.int .i64 rr.stages)).setCell (p := ⟨b5, 2, none⟩) hBb5 (.slice sa rr.strips.length sc)
  replace X5 := ((X5.set 0 (.int .i64 rr.days)).set 1 (.int .i64 rr.stages)).set 2 (.slice sa rr.strips.length sc)
  replace X5 : Rw _ b5 #[.int .i64 rr.days, .int .i64 rr.stages, .slice sa rr.strips.length sc] 24 := X5
  replace X1 := ((X1.far (g := b5) (by omega) 0 (.int .i64 rr.days)).far (g := b5) (by omega) 1 (.int .i64 rr.stages)).far (g := b5) (by omega) 2 (.slice sa rr.strips.length sc)
  replace hst := hst.keep (w' := World.setCell _ ⟨b5, 0, none⟩ (.int .i64 rr.days)) fun b hb => Below.heap_setCell _ ⟨b5, 0, none⟩ _ _ (hnb5 b hb)
  replace hst := hst.keep (w' := World.setCell _ ⟨b5, 1, none⟩ (.int .i64 rr.stages)) fun b hb => Below.heap_setCell _ ⟨b5, 1, none⟩ _ _ (hnb5 b hb)
  replace hst := hst.keep (w' := World.setCell _ ⟨b5, 2, none⟩ (.slice sa rr.strips.length sc)) fun b hb => Below.heap_setCell _ ⟨b5, 2, none⟩ _ _ (hnb5 b hb)
  generalize (World.setCell _ _ _) = w5 at HB X5 X1 hst ⊢
  clear hnb5
  refine ops_go rfl rfl (fun K hK => ?_)
  have e17 := hsl.get 17 _ rfl
  unfold Oper.wp
  go_simp
  clear e17
  refine hK _ _ ?_; clear hK
  refine hsl.go (by decide) ?_; clear hsl; intro a1 hsl
  refine ops_done ?_
  try simp only [Exit.then, Exit.inBlock, ↓reduceIte, Nat.reduceEqDiff]
  refine wp_seq ?_
  refine wp_seq ?_
  have e : regionIn Tryz.f11 4 = Code.region 4 _ false := rfl
  rw [e]; clear e
  refine wp_region ?_
  refine ops_go rfl rfl (fun K hK => ?_)
  have e6 := hsl.get 6 _ rfl
  unfold Oper.wp
  go_simp
  clear e6
  refine hK _ _ ?_; clear hK
  refine hsl.go (by decide) ?_; clear hsl; intro a1 hsl
  refine ops_go rfl rfl (fun K hK => ?_)
  have e18 := hsl.get 18 _ rfl
  unfold Oper.wp
  go_simp
  clear e18
  refine hK _ _ ?_; clear hK
  refine hsl.go (by decide) ?_; clear hsl; intro a1 hsl
  refine ops_done ?_
  try simp only [Exit.then, Exit.inBlock, ↓reduceIte, Nat.reduceEqDiff]
  refine wp_cond_false (hsl.ev 19 rfl) ?_
  refine wp_skip ?_
  try simp only [Exit.then, Exit.inBlock, ↓reduceIte, Nat.reduceEqDiff]
  refine wp_seq ?_
  refine wp_seq ?_
  have e : regionIn Tryz.f11 6 = Code.region 6 _ false := rfl
  rw [e]; clear e
  refine wp_region ?_
  refine ops_go rfl rfl (fun K hK => ?_)
  have e5 := hsl.get 5 _ rfl
  have x0 := X5.cell (o := 0) rfl
  have x1 := X5.cell (o := 1) rfl
  have x2 := X5.cell (o := 2) rfl
  unfold Oper.wp
  go_simp
  clear e5
  refine hK _ _ ?_; clear hK
  refine hsl.go (by decide) ?_; clear hsl; intro a1 hsl
  refine ops_go rfl rfl (fun K hK => ?_)
  have e22 := hsl.get 22 _ rfl
  unfold Oper.wp
  go_simp
  refine (check_any rr.days rr.stages rr.strips sa sc _ hst.strips.1 (by have := takeV_len htk2.out; have := split_count 10 t; unfold maxLen; omega)).mono ?_
  rintro e w6 ⟨rfl, hb⟩
  replace X1 := X1.below hb; replace X5 := X5.below hb; replace hst := hst.below hb; replace HB := HB.trans (hb.mono HB.size); clear hb
  rw [show checkR ⟨rr.days, rr.stages, rr.strips⟩ = checkR rr from rfl]
  clear e22
  refine hK _ _ ?_; clear hK
  refine hsl.go (by decide) ?_; clear hsl; intro a1 hsl
  refine ops_go rfl rfl (fun K hK => ?_)
  have e23 := hsl.get 23 _ rfl
  unfold Oper.wp
  go_simp
  clear e23
  refine hK _ _ ?_; clear hK
  refine hsl.go (by decide) ?_; clear hsl; intro a1 hsl
  refine ops_done ?_
  try simp only [Exit.then, Exit.inBlock, ↓reduceIte, Nat.reduceEqDiff]
  refine wp_seq ?_
  have e : regionIn Tryz.f11 7 = Code.region 7 _ false := rfl
  rw [e]; clear e
  refine wp_region ?_
  refine ops_go rfl rfl (fun K hK => ?_)
  have e7 := hsl.get 7 _ rfl
  unfold Oper.wp
  go_simp
  clear e7
  refine hK _ _ ?_; clear hK
  refine hsl.go (by decide) ?_; clear hsl; intro a1 hsl
  refine ops_go rfl rfl (fun K hK => ?_)
  have e24 := hsl.get 24 _ rfl
  unfold Oper.wp
  go_simp
  clear e24
  refine hK _ _ ?_; clear hK
  refine hsl.go (by decide) ?_; clear hsl; intro a1 hsl
  refine ops_done ?_
  try simp only [Exit.then, Exit.inBlock, ↓reduceIte, Nat.reduceEqDiff]
  refine wp_cond_true (hsl.ev 25 rfl) ?_
  refine wp_seq ?_
  have e : regionIn Tryz.f11 8 = Code.region 8 _ false := rfl
  rw [e]; clear e
  refine wp_region ?_
  refine ops_go rfl rfl (fun K hK => ?_)
  unfold Oper.wp
  go_simp
  refine hK _ _ ?_; clear hK
  refine hsl.go (by decide) ?_; clear hsl; intro a1 hsl
  refine ops_go rfl rfl (fun K hK => ?_)
  have e7 := hsl.get 7 _ rfl
  unfold Oper.wp
  go_simp
  clear e7
  refine hK _ _ ?_; clear hK
  refine hsl.go (by decide) ?_; clear hsl; intro a1 hsl
  refine ops_go rfl rfl (fun K hK => ?_)
  have e2 := hsl.get 2 _ rfl
  have e26 := hsl.get 26 _ rfl
  have y0 := X1.cell (o := 0) rfl
  have f0 := X1.fz 0
  have y1 := X1.cell (o := 1) rfl
  have f1 := X1.fz 1
  have y2 := X1.cell (o := 2) rfl
  have f2 := X1.fz 2
  unfold Oper.wp
  go_simp
  clear e2 e26
  refine hK _ _ ?_; clear hK
  clear y0 y1 y2 f0 f1 f2
  have hBb2 : w.heap.size ≤ b2 := by omega
  replace HB := ((HB.setCell (p := ⟨b2, 0, none⟩) hBb2 (.int .i64 0)).setCell (p := ⟨b2, 1, none⟩) hBb2 (.int .i64 0)).setCell (p := ⟨b2, 2, none⟩) hBb2 (.slice none 0 0)
  replace X1 := ((X1.set 0 (.int .i64 0)).set 1 (.int .i64 0)).set 2 (.slice none 0 0)
  replace X1 : Rw _ b2 #[.int .i64 0, .int .i64 0, .slice none 0 0] 24 := X1
  replace X5 := ((X5.far (g := b2) (by omega) 0 (.int .i64 0)).far (g := b2) (by omega) 1 (.int .i64 0)).far (g := b2) (by omega) 2 (.slice none 0 0)
  replace hst := ((hst.setR (br := b2) o2b 0 (.int .i64 0)).setR (br := b2) o2b 1 (.int .i64 0)).setR (br := b2) o2b 2 (.slice none 0 0)
  generalize (World.setCell _ _ _) = w7 at HB X1 X5 hst ⊢
  refine ops_go rfl rfl (fun K hK => ?_)
  unfold Oper.wp
  go_simp
  refine hK _ _ ?_; clear hK
  refine hsl.go (by decide) ?_; clear hsl; intro a1 hsl
  refine ops_go rfl rfl (fun K hK => ?_)
  have e27 := hsl.get 27 _ rfl
  unfold Oper.wp
  go_simp
  clear e27
  refine hK _ _ ?_; clear hK
  refine hsl.go (by decide) ?_; clear hsl; intro a1 hsl
  refine ops_done ?_
  try simp only [Exit.then, Exit.inBlock, ↓reduceIte, Nat.reduceEqDiff]
  refine wp_ret ?_
  have z0 := X1.cell (o := 0) rfl
  have z1 := X1.cell (o := 1) rfl
  have z2 := X1.cell (o := 2) rfl
  refine bodyPost_ret (v := .tuple #[.agg #[.int .i64 0, .int .i64 0, .slice none 0 0], .int .i64 0, .int .i64 (checkR rr)]) ?_ hsl.defers ⟨HB, none, 0, rfl, .inl rfl⟩
  simp [results, Tryz.results11, go_sem, hsl.get 2 _ rfl, hsl.get 3 _ rfl, hsl.get 4 _ rfl, z0, z1, z2]
set_option maxRecDepth 100000 in
set_option maxHeartbeats 4000000 in
theorem readK (w : World) (t : List UInt8) (hm : MaxOk w) (hl : ¬ 400 < (t.length : Int)) (m : Nat) (hms : (splitC 10 t).length = m + 1) (hm4 : m ≤ 400) (rr : Roads) (htk : takeV (splitC 10 t) = .inr rr) (hc : (checkR rr != 0) = false) : Calls Tryz.prog 11 #[.string ⟨t.toArray⟩] w (ReadPost w (rr, 0, 0)) := by
  refine calls_of_wp Tryz.func11 read_body ?_
  have hsl : Sl (⟨#[.string ⟨t.toArray⟩] ++ Array.replicate (Tryz.f11.ntmps - (#[.string ⟨t.toArray⟩] : Array Value).size) undef, []⟩ : Act) 29 [(0, .string ⟨t.toArray⟩)] := by rw [Tryz.ntmps11]; exact Sl.entry1 _ (by omega)
  revert hsl; generalize (Act.mk _ _) = a0; intro hsl
  have htk2 := Lib.hid htk
  refine wp_seq ?_
  have e : regionIn Tryz.f11 0 = Code.region 0 _ false := rfl
  rw [e]; clear e
  refine wp_region ?_
  refine ops_go rfl rfl (fun K hK => ?_)
  unfold Oper.wp
  go_simp
  refine hK _ _ ?_; clear hK
  refine hsl.go (by decide) ?_; clear hsl; intro a1 hsl
  refine alloc_rwB (G := fun W => wpOps _ _ _ _ _ W) ?_
  intro w1 hz1 X1 HB
  generalize hg1 : w.heap.size = b2 at X1 hsl
  have o1 : w.heap.size ≤ b2 ∧ b2 < w1.heap.size := by omega
  clear hg1 hz1
  refine ops_go rfl rfl (fun K hK => ?_)
  unfold Oper.wp
  go_simp
  refine hK _ _ ?_; clear hK
  refine hsl.go (by decide) ?_; clear hsl; intro a1 hsl
  refine ops_go rfl rfl (fun K hK => ?_)
  unfold Oper.wp
  go_simp
  refine hK _ _ ?_; clear hK
  refine hsl.go (by decide) ?_; clear hsl; intro a1 hsl
  refine ops_done ?_
  try simp only [Exit.then, Exit.inBlock, ↓reduceIte, Nat.reduceEqDiff]
  refine wp_seq ?_
  refine wp_seq ?_
  have e : regionIn Tryz.f11 1 = Code.region 1 _ false := rfl
  rw [e]; clear e
  refine wp_region ?_
  refine ops_go rfl rfl (fun K hK => ?_)
  have e0 := hsl.get 0 _ rfl
  unfold Oper.wp
  go_simp
  clear e0
  refine hK _ _ ?_; clear hK
  refine hsl.go (by decide) ?_; clear hsl; intro a1 hsl
  refine ops_go rfl rfl (fun K hK => ?_)
  have e8 := hsl.get 8 _ rfl
  unfold Oper.wp
  go_simp
  clear e8
  refine hK _ _ ?_; clear hK
  refine hsl.go (by decide) ?_; clear hsl; intro a1 hsl
  refine ops_go rfl rfl (fun K hK => ?_)
  have e9 := hsl.get 9 _ rfl
  unfold Oper.wp
  go_simp
  clear e9
  refine hK _ _ ?_; clear hK
  refine hsl.go (by decide) ?_; clear hsl; intro a1 hsl
  refine ops_done ?_
  try simp only [Exit.then, Exit.inBlock, ↓reduceIte, Nat.reduceEqDiff]
  refine wp_cond_false (hsl.ev 10 rfl) ?_
  refine wp_skip ?_
  try simp only [Exit.then, Exit.inBlock, ↓reduceIte, Nat.reduceEqDiff]
  refine wp_seq ?_
  have e : regionIn Tryz.f11 3 = Code.region 3 _ false := rfl
  rw [e]; clear e
  refine wp_region ?_
  refine ops_go rfl rfl (fun K hK => ?_)
  have e0 := hsl.get 0 _ rfl
  unfold Oper.wp
  go_simp
  clear e0
  refine hK _ _ ?_; clear hK
  refine hsl.go (by decide) ?_; clear hsl; intro a1 hsl
  refine ops_go rfl rfl (fun K hK => ?_)
  have e13 := hsl.get 13 _ rfl
  unfold Oper.wp
  go_simp
  refine (split_any _ 10 t (hm.below HB) (by omega)).mono ?_
  rintro e w2 ⟨g, hg, rfl, XG, hb⟩
  rw [hms]
  have o2c := hb.size
  replace X1 := X1.below hb; replace HB := HB.trans (hb.mono HB.size); clear hb
  clear e13
  refine hK _ _ ?_; clear hK
  refine hsl.go (by decide) ?_; clear hsl; intro a1 hsl
  refine ops_go rfl rfl (fun K hK => ?_)
  have e14 := hsl.get 14 _ rfl
  unfold Oper.wp
  go_simp
  refine (take_any _ g m _ hms (by omega) XG (fun l hl => by have := splitC_le 10 t l hl; omega) (hm.below HB)).mono ?_
  rintro e w3 ⟨hb, htp⟩
  rw [htk] at htp
  obtain ⟨sa, sc, rfl, hst⟩ := htp
  have o2b : b2 < w2.heap.size := by omega
  replace X1 := X1.below hb; replace HB := HB.trans (hb.mono HB.size)
  clear hb XG
  clear e14
  refine hK _ _ ?_; clear hK
  refine hsl.go (by decide) ?_; clear hsl; intro a1 hsl
  refine ops_go rfl rfl (fun K hK => ?_)
  have e15 := hsl.get 15 _ rfl
  unfold Oper.wp
  go_simp
  clear e15
  refine hK _ _ ?_; clear hK
  refine hsl.go (by decide) ?_; clear hsl; intro a1 hsl
  refine ops_go rfl rfl (fun K hK => ?_)
  have e12 := hsl.get 12 _ rfl
  unfold Oper.wp
  go_simp
  clear e12
  refine hK _ _ ?_; clear hK
  refine hsl.go (by decide) ?_; clear hsl; intro a1 hsl
  refine ops_go rfl rfl (fun K hK => ?_)
  have e12 := hsl.get 12 _ rfl
  unfold Oper.wp
  go_simp
  clear e12
  refine hK _ _ ?_; clear hK
  refine hsl.go (by decide) ?_; clear hsl; intro a1 hsl
  refine ops_go rfl rfl (fun K hK => ?_)
  unfold Oper.wp
  go_simp
  refine hK _ _ ?_; clear hK
  refine hsl.go (by decide) ?_; clear hsl; intro a1 hsl
  have oz := X1.lt
  refine alloc_rwB (G := fun W => wpOps _ _ _ _ _ W) ?_
  intro w4 hz4 X5 hb
  generalize hg4 : w3.heap.size = b5 at X5 hsl
  have o5 : b2 < b5 := by omega
  clear oz
  replace X1 := X1.below hb; replace HB := HB.trans (hb.mono HB.size)
  have hnb5 : ∀ b, (Value.slice sa rr.strips.length sc).ownBlock = some b → b ≠ b5 := fun b h => by have := (hst.at_block h).2; omega
  replace hst := hst.below hb
  clear hg4 hz4
  clear hb
  refine ops_go rfl rfl (fun K hK => ?_)
  have e5 := hsl.get 5 _ rfl
  have e16 := hsl.get 16 _ rfl
  have y0 := X5.cell (o := 0) rfl
  have f0 := X5.fz 0
  have y1 := X5.cell (o := 1) rfl
  have f1 := X5.fz 1
  have y2 := X5.cell (o := 2) rfl
  have f2 := X5.fz 2
  unfold Oper.wp
  go_simp
  clear e5 e16
  refine hK _ _ ?_; clear hK
  clear y0 y1 y2 f0 f1 f2
  have hBb5 : w.heap.size ≤ b5 := by omega
  replace HB := ((HB.setCell (p := ⟨b5, 0, none⟩) hBb5 (.int .i64 rr.days)).setCell (p := ⟨b5, 1, none⟩) hBb5 (.int .i64 rr.stages)).setCell (p := ⟨b5, 2, none⟩) hBb5 (.slice sa rr.strips.length sc)
  replace X5 := ((X5.set 0 (.int .i64 rr.days)).set 1 (.int .i64 rr.stages)).set 2 (.slice sa rr.strips.length sc)
  replace X5 : Rw _ b5 #[.int .i64 rr.days, .int .i64 rr.stages, .slice sa rr.strips.length sc] 24 := X5
  replace X1 := ((X1.far (g := b5) (by omega) 0 (.int .i64 rr.days)).far (g := b5) (by omega) 1 (.int .i64 rr.stages)).far (g := b5) (by omega) 2 (.slice sa rr.strips.length sc)
  replace hst := hst.keep (w' := World.setCell _ ⟨b5, 0, none⟩ (.int .i64 rr.days)) fun b hb => Below.heap_setCell _ ⟨b5, 0, none⟩ _ _ (hnb5 b hb)
  replace hst := hst.keep (w' := World.setCell _ ⟨b5, 1, none⟩ (.int .i64 rr.stages)) fun b hb => Below.heap_setCell _ ⟨b5, 1, none⟩ _ _ (hnb5 b hb)
  replace hst := hst.keep (w' := World.setCell _ ⟨b5, 2, none⟩ (.slice sa rr.strips.length sc)) fun b hb => Below.heap_setCell _ ⟨b5, 2, none⟩ _ _ (hnb5 b hb)
  generalize (World.setCell _ _ _) = w5 at HB X5 X1 hst ⊢
  clear hnb5
  refine ops_go rfl rfl (fun K hK => ?_)
  have e17 := hsl.get 17 _ rfl
  unfold Oper.wp
  go_simp
  clear e17
  refine hK _ _ ?_; clear hK
  refine hsl.go (by decide) ?_; clear hsl; intro a1 hsl
  refine ops_done ?_
  try simp only [Exit.then, Exit.inBlock, ↓reduceIte, Nat.reduceEqDiff]
  refine wp_seq ?_
  refine wp_seq ?_
  have e : regionIn Tryz.f11 4 = Code.region 4 _ false := rfl
  rw [e]; clear e
  refine wp_region ?_
  refine ops_go rfl rfl (fun K hK => ?_)
  have e6 := hsl.get 6 _ rfl
  unfold Oper.wp
  go_simp
  clear e6
  refine hK _ _ ?_; clear hK
  refine hsl.go (by decide) ?_; clear hsl; intro a1 hsl
  refine ops_go rfl rfl (fun K hK => ?_)
  have e18 := hsl.get 18 _ rfl
  unfold Oper.wp
  go_simp
  clear e18
  refine hK _ _ ?_; clear hK
  refine hsl.go (by decide) ?_; clear hsl; intro a1 hsl
  refine ops_done ?_
  try simp only [Exit.then, Exit.inBlock, ↓reduceIte, Nat.reduceEqDiff]
  refine wp_cond_false (hsl.ev 19 rfl) ?_
  refine wp_skip ?_
  try simp only [Exit.then, Exit.inBlock, ↓reduceIte, Nat.reduceEqDiff]
  refine wp_seq ?_
  refine wp_seq ?_
  have e : regionIn Tryz.f11 6 = Code.region 6 _ false := rfl
  rw [e]; clear e
  refine wp_region ?_
  refine ops_go rfl rfl (fun K hK => ?_)
  have e5 := hsl.get 5 _ rfl
  have x0 := X5.cell (o := 0) rfl
  have x1 := X5.cell (o := 1) rfl
  have x2 := X5.cell (o := 2) rfl
  unfold Oper.wp
  go_simp
  clear e5
  refine hK _ _ ?_; clear hK
  refine hsl.go (by decide) ?_; clear hsl; intro a1 hsl
  refine ops_go rfl rfl (fun K hK => ?_)
  have e22 := hsl.get 22 _ rfl
  unfold Oper.wp
  go_simp
  refine (check_any rr.days rr.stages rr.strips sa sc _ hst.strips.1 (by have := takeV_len htk2.out; have := split_count 10 t; unfold maxLen; omega)).mono ?_
  rintro e w6 ⟨rfl, hb⟩
  replace X1 := X1.below hb; replace X5 := X5.below hb; replace hst := hst.below hb; replace HB := HB.trans (hb.mono HB.size); clear hb
  rw [show checkR ⟨rr.days, rr.stages, rr.strips⟩ = checkR rr from rfl]
  clear e22
  refine hK _ _ ?_; clear hK
  refine hsl.go (by decide) ?_; clear hsl; intro a1 hsl
  refine ops_go rfl rfl (fun K hK => ?_)
  have e23 := hsl.get 23 _ rfl
  unfold Oper.wp
  go_simp
  clear e23
  refine hK _ _ ?_; clear hK
  refine hsl.go (by decide) ?_; clear hsl; intro a1 hsl
  refine ops_done ?_
  try simp only [Exit.then, Exit.inBlock, ↓reduceIte, Nat.reduceEqDiff]
  refine wp_seq ?_
  have e : regionIn Tryz.f11 7 = Code.region 7 _ false := rfl
  rw [e]; clear e
  refine wp_region ?_
  refine ops_go rfl rfl (fun K hK => ?_)
  have e7 := hsl.get 7 _ rfl
  unfold Oper.wp
  go_simp
  clear e7
  refine hK _ _ ?_; clear hK
  refine hsl.go (by decide) ?_; clear hsl; intro a1 hsl
  refine ops_go rfl rfl (fun K hK => ?_)
  have e24 := hsl.get 24 _ rfl
  unfold Oper.wp
  go_simp
  clear e24
  refine hK _ _ ?_; clear hK
  refine hsl.go (by decide) ?_; clear hsl; intro a1 hsl
  refine ops_done ?_
  try simp only [Exit.then, Exit.inBlock, ↓reduceIte, Nat.reduceEqDiff]
  refine wp_cond_false (hsl.ev 25 rfl) ?_
  refine wp_skip ?_
  try simp only [Exit.then, Exit.inBlock, ↓reduceIte, Nat.reduceEqDiff]
  refine wp_seq ?_
  have e : regionIn Tryz.f11 9 = Code.region 9 _ false := rfl
  rw [e]; clear e
  refine wp_region ?_
  refine ops_go rfl rfl (fun K hK => ?_)
  have e5 := hsl.get 5 _ rfl
  have x0 := X5.cell (o := 0) rfl
  have x1 := X5.cell (o := 1) rfl
  have x2 := X5.cell (o := 2) rfl
  unfold Oper.wp
  go_simp
  clear e5
  refine hK _ _ ?_; clear hK
  refine hsl.go (by decide) ?_; clear hsl; intro a1 hsl
  refine ops_go rfl rfl (fun K hK => ?_)
  have e2 := hsl.get 2 _ rfl
  have e28 := hsl.get 28 _ rfl
  have y0 := X1.cell (o := 0) rfl
  have f0 := X1.fz 0
  have y1 := X1.cell (o := 1) rfl
  have f1 := X1.fz 1
  have y2 := X1.cell (o := 2) rfl
  have f2 := X1.fz 2
  unfold Oper.wp
  go_simp
  clear e2 e28
  refine hK _ _ ?_; clear hK
  clear y0 y1 y2 f0 f1 f2
  have hBb2 : w.heap.size ≤ b2 := by omega
  replace HB := ((HB.setCell (p := ⟨b2, 0, none⟩) hBb2 (.int .i64 rr.days)).setCell (p := ⟨b2, 1, none⟩) hBb2 (.int .i64 rr.stages)).setCell (p := ⟨b2, 2, none⟩) hBb2 (.slice sa rr.strips.length sc)
  replace X1 := ((X1.set 0 (.int .i64 rr.days)).set 1 (.int .i64 rr.stages)).set 2 (.slice sa rr.strips.length sc)
  replace X1 : Rw _ b2 #[.int .i64 rr.days, .int .i64 rr.stages, .slice sa rr.strips.length sc] 24 := X1
  replace X5 := ((X5.far (g := b2) (by omega) 0 (.int .i64 rr.days)).far (g := b2) (by omega) 1 (.int .i64 rr.stages)).far (g := b2) (by omega) 2 (.slice sa rr.strips.length sc)
  replace hst := ((hst.setR (br := b2) o2b 0 (.int .i64 rr.days)).setR (br := b2) o2b 1 (.int .i64 rr.stages)).setR (br := b2) o2b 2 (.slice sa rr.strips.length sc)
  generalize (World.setCell _ _ _) = w7 at HB X1 X5 hst ⊢
  refine ops_go rfl rfl (fun K hK => ?_)
  unfold Oper.wp
  go_simp
  refine hK _ _ ?_; clear hK
  refine hsl.go (by decide) ?_; clear hsl; intro a1 hsl
  refine ops_go rfl rfl (fun K hK => ?_)
  unfold Oper.wp
  go_simp
  refine hK _ _ ?_; clear hK
  refine hsl.go (by decide) ?_; clear hsl; intro a1 hsl
  refine ops_done ?_
  try simp only [Exit.then, Exit.inBlock, ↓reduceIte, Nat.reduceEqDiff]
  refine wp_ret ?_
  have z0 := X1.cell (o := 0) rfl
  have z1 := X1.cell (o := 1) rfl
  have z2 := X1.cell (o := 2) rfl
  refine bodyPost_ret (v := .tuple #[.agg #[.int .i64 rr.days, .int .i64 rr.stages, .slice sa rr.strips.length sc], .int .i64 0, .int .i64 0]) ?_ hsl.defers ⟨HB, sa, sc, rfl, hst.strips.1⟩
  simp [results, Tryz.results11, go_sem, hsl.get 2 _ rfl, hsl.get 3 _ rfl, hsl.get 4 _ rfl, z0, z1, z2]
/-- road.Read. -/
theorem Read_any (w : World) (t : List UInt8) (hm : MaxOk w) : Calls Tryz.prog 11 #[.string ⟨t.toArray⟩] w (ReadPost w (readV t)) := by
  by_cases hl : 400 < t.length
  · have e : readV t = (noRoads, 0, 10) := by rw [readV, if_pos hl]
    rw [e]; exact readL w t hm (by omega)
  · obtain ⟨m, hms⟩ : ∃ m, (splitC 10 t).length = m + 1 := ⟨t.count 10, splitC_length 10 t⟩
    have hm4 : m ≤ 400 := by have := split_count 10 t; omega
    cases htk : takeV (splitC 10 t) with
    | inl k =>
      have hk := takeV_pos htk (splitC_ne 10 t)
      have e : readV t = (noRoads, (k : Int), 2) := by rw [readV, if_neg hl, htk]
      rw [e]; exact readT w t hm (by omega) m hms hm4 k htk (by omega)
    | inr rr =>
      by_cases hc : checkR rr = 0
      · have e : readV t = (rr, 0, 0) := by rw [readV, if_neg hl, htk]; simp [hc]
        rw [e]; exact readK w t hm (by omega) m hms hm4 rr htk (by simpa using hc)
      · have e : readV t = (noRoads, 0, checkR rr) := by rw [readV, if_neg hl, htk]; simp [hc]
        rw [e]; exact readE w t hm (by omega) m hms hm4 rr htk (by simpa using hc)
end Go.Proofs.YtmkjeonjhedgkaaGreatDoor
