/- Regions of RoadKnown: what the first ones leave; region 3. -/
import Derived.Test.YtmkjeonjhedgkaaDoorKnownK
import Derived.Test.YtmkjeonjhedgkaaDoorBig
import Derived.Deep.CutBlock
import Derived.Deep.RegionHeld3
namespace Go.Proofs.YtmkjeonjhedgkaaDoor
set_option linter.unusedSimpArgs false
set_option linter.unusedVariables false
open Go.RowKit

def exCells : Array Value := #[.int .i64 0, .int .i64 1, .int .i64 5, .int .i64 90, .int .i64 1, .int .i64 0, .int .i64 0, .int .i64 1, .int .i64 2, .int .i64 4, .int .i64 45, .int .i64 2, .int .i64 2, .int .i64 4, .int .i64 2, .int .i64 3, .int .i64 3, .int .i64 25, .int .i64 3, .int .i64 10, .int .i64 (-1), .int .i64 0, .int .i64 3, .int .i64 9, .int .i64 45, .int .i64 4, .int .i64 20, .int .i64 0]
set_option maxRecDepth 100000 in
theorem roads_exact (w : World) : Calls Tryd.prog 4 #[] w fun e w' => e = .returned (exV (w.heap.size + 1)) ∧ ∃ A, w' = (w.alloc A).alloc (.cells exCells 27) := by
  go_enter Tryd.func4, Tryd.ntmps4
  go_wp2_with fail
  exact bodyPost_ret (v := .agg #[.int .i64 6, .int .i64 4, .slice (some ⟨w.heap.size + 1, 0, none⟩) 4 4]) (by simp [results, Tryd.results4, go_sem]) rfl ⟨rfl, _, rfl⟩

def CellsAt (w : World) (g : Nat) (l : List Value) : Prop := ∀ k (h : k < l.length), w.cell? ⟨g, k, none⟩ = some l[k]
theorem CellsAt.below {w w' : World} {g : Nat} {l : List Value} (h : CellsAt w g l) (hb : Below w.heap.size w w') : CellsAt w' g l := fun k hk => ((bcell hb).1 _ _ (lt_of_cell (h k hk))).trans (h k hk)
theorem CellsAt.set {w : World} {g : Nat} {l : List Value} (h : CellsAt w g l) (o : Nat) (ho : o < l.length) (v : Value) : CellsAt (w.setCell ⟨g, o, none⟩ v) g (l.set o v) := by
  intro k hk
  have hk' : k < l.length := by simpa using hk
  by_cases e : k = o
  · subst e
    rw [World.cell?_setCell_same _ _ _ (h k hk')]; simp
  · rw [World.cell?_setCell_other _ _ _ _ (fun e2 => e (by injection e2 with _ e3; exact e3.symm)), h k hk']
    rw [List.getElem_set_ne (Ne.symm e)]
theorem CellsAt.far {w : World} {g b : Nat} {l : List Value} (h : CellsAt w g l) (hb : b ≠ g) (o : Nat) (v : Value) : CellsAt (w.setCell ⟨b, o, none⟩ v) g l := by
  intro k hk
  rw [World.cell?_setCell_far _ _ _ _ hb]; exact h k hk
theorem alloc_keepK {w : World} {b o : Nat} {v : Value} {x : Obj} (h : w.cell? ⟨b, o, none⟩ = some v) : (w.alloc x).cell? ⟨b, o, none⟩ = some v := ((bcell ((Below.refl _ _).alloc (Nat.le_refl _) _)).1 _ _ (lt_of_cell h)).trans h
theorem fz_far (w : World) {b g : Nat} (o k : Nat) (h : b ≠ g) {v : Value} : (w.setCell ⟨b, o, none⟩ v).frozen? ⟨g, k, none⟩ = w.frozen? ⟨g, k, none⟩ := by
  unfold World.frozen?
  rw [Below.heap_setCell _ _ _ _ (by simpa using Ne.symm h)]
theorem strips4 {w : World} {g : Nat} {a b c d : Strip} (h : CellsAt w g [.int .i64 a.A, .int .i64 a.B, .int .i64 a.L, .int .i64 a.W, .int .i64 a.K, .int .i64 a.X, .int .i64 a.Y, .int .i64 b.A, .int .i64 b.B, .int .i64 b.L, .int .i64 b.W, .int .i64 b.K, .int .i64 b.X, .int .i64 b.Y, .int .i64 c.A, .int .i64 c.B, .int .i64 c.L, .int .i64 c.W, .int .i64 c.K, .int .i64 c.X, .int .i64 c.Y, .int .i64 d.A, .int .i64 d.B, .int .i64 d.L, .int .i64 d.W, .int .i64 d.K, .int .i64 d.X, .int .i64 d.Y]) : StripsAt w (some ⟨g, 0, none⟩) [a, b, c, d] := .inr ⟨g, 0, rfl, fun i hi => by
  have hi4 : i < 4 := hi
  have h4 : i = 0 ∨ i = 1 ∨ i = 2 ∨ i = 3 := by omega
  rcases h4 with rfl | rfl | rfl | rfl
  · exact ⟨h 0 (by simp), h 1 (by simp), h 2 (by simp), h 3 (by simp), h 4 (by simp), h 5 (by simp), h 6 (by simp)⟩
  · exact ⟨h 7 (by simp), h 8 (by simp), h 9 (by simp), h 10 (by simp), h 11 (by simp), h 12 (by simp), h 13 (by simp)⟩
  · exact ⟨h 14 (by simp), h 15 (by simp), h 16 (by simp), h 17 (by simp), h 18 (by simp), h 19 (by simp), h 20 (by simp)⟩
  · exact ⟨h 21 (by simp), h 22 (by simp), h 23 (by simp), h 24 (by simp), h 25 (by simp), h 26 (by simp), h 27 (by simp)⟩⟩
theorem roadsF (w : World) : Calls Tryd.prog 4 #[] w fun e w' => ∃ g, e = .returned (exV g) ∧ w.heap.size ≤ g ∧ g < w'.heap.size ∧ CellsAt w' g exCells.toList ∧ (∀ k, w'.frozen? ⟨g, k, none⟩ = false) ∧ Below w.heap.size w w' := by
  refine (roads_exact w).mono ?_
  rintro e w' ⟨rfl, A, rfl⟩
  have e1 : ((w.alloc A).alloc (.cells exCells 27)).heap[w.heap.size + 1]? = some (.cells exCells 27 (0, 0)) := by have := heap_alloc_new (w.alloc A) (.cells exCells 27); simpa using this
  refine ⟨_, rfl, by omega, by simp, fun k hk => cell_at e1 ?_, fun k => ?_, ((Below.refl _ _).alloc (Nat.le_refl _) _).alloc (by simp) _⟩
  · rw [Array.length_toList] at hk
    rw [Array.getElem?_eq_getElem hk]; simp
  · unfold World.frozen?; rw [e1]; simp

def passS : List Strip := [⟨0, 1, 5, 90, 1, 0, 0⟩, ⟨1, 2, 4, 45, 2, 2, 6⟩, ⟨2, 3, 3, 25, 3, 10, -1⟩, ⟨0, 3, 9, 45, 4, 20, 0⟩]
def kindS : List Strip := [⟨0, 1, 5, 90, 1, 0, 0⟩, ⟨1, 2, 4, 45, 2, 2, 4⟩, ⟨2, 3, 3, 25, 5, 10, -1⟩, ⟨0, 3, 9, 45, 4, 20, 0⟩]
def loopS : List Strip := [⟨0, 0, 5, 90, 1, 0, 0⟩, ⟨1, 2, 4, 45, 2, 2, 4⟩, ⟨2, 3, 3, 25, 3, 10, -1⟩, ⟨0, 3, 9, 45, 4, 20, 0⟩]
theorem four' {α : Type} {l : List α} (h : l.length = 4) : l.length ≤ maxLen := by rw [h]; unfold maxLen; omega
/-- Behind the four roads have been turned. -/
structure StartAt (w : World) (b1 b2 b3 b4 t1 t2 t3 t4 : Nat) (wx : World) : Prop where
  s1 : StripsAt wx (some ⟨b1, 0, none⟩) exRoads.strips
  s2 : StripsAt wx (some ⟨b2, 0, none⟩) passS
  s3 : StripsAt wx (some ⟨b3, 0, none⟩) kindS
  s4 : StripsAt wx (some ⟨b4, 0, none⟩) loopS
  c10 : wx.cell? ⟨t1, 0, none⟩ = some (.int .i64 11)
  c11 : wx.cell? ⟨t1, 1, none⟩ = some (.int .i64 4)
  c12 : wx.cell? ⟨t1, 2, none⟩ = some (.slice (some ⟨b1, 0, none⟩) 4 4)
  c20 : wx.cell? ⟨t2, 0, none⟩ = some (.int .i64 6)
  c21 : wx.cell? ⟨t2, 1, none⟩ = some (.int .i64 4)
  c22 : wx.cell? ⟨t2, 2, none⟩ = some (.slice (some ⟨b2, 0, none⟩) 4 4)
  c30 : wx.cell? ⟨t3, 0, none⟩ = some (.int .i64 6)
  c31 : wx.cell? ⟨t3, 1, none⟩ = some (.int .i64 4)
  c32 : wx.cell? ⟨t3, 2, none⟩ = some (.slice (some ⟨b3, 0, none⟩) 4 4)
  c40 : wx.cell? ⟨t4, 0, none⟩ = some (.int .i64 6)
  c41 : wx.cell? ⟨t4, 1, none⟩ = some (.int .i64 4)
  c42 : wx.cell? ⟨t4, 2, none⟩ = some (.slice (some ⟨b4, 0, none⟩) 4 4)
  below : Below w.heap.size w wx
theorem StartAt.next {w : World} {b1 b2 b3 b4 t1 t2 t3 t4 : Nat} {wx wy : World} (h : StartAt w b1 b2 b3 b4 t1 t2 t3 t4 wx) (hb : Below wx.heap.size wx wy) : StartAt w b1 b2 b3 b4 t1 t2 t3 t4 wy where
  s1 := h.s1.below hb
  s2 := h.s2.below hb
  s3 := h.s3.below hb
  s4 := h.s4.below hb
  c10 := ((bcell hb).1 _ _ (lt_of_cell h.c10)).trans h.c10
  c11 := ((bcell hb).1 _ _ (lt_of_cell h.c11)).trans h.c11
  c12 := ((bcell hb).1 _ _ (lt_of_cell h.c12)).trans h.c12
  c20 := ((bcell hb).1 _ _ (lt_of_cell h.c20)).trans h.c20
  c21 := ((bcell hb).1 _ _ (lt_of_cell h.c21)).trans h.c21
  c22 := ((bcell hb).1 _ _ (lt_of_cell h.c22)).trans h.c22
  c30 := ((bcell hb).1 _ _ (lt_of_cell h.c30)).trans h.c30
  c31 := ((bcell hb).1 _ _ (lt_of_cell h.c31)).trans h.c31
  c32 := ((bcell hb).1 _ _ (lt_of_cell h.c32)).trans h.c32
  c40 := ((bcell hb).1 _ _ (lt_of_cell h.c40)).trans h.c40
  c41 := ((bcell hb).1 _ _ (lt_of_cell h.c41)).trans h.c41
  c42 := ((bcell hb).1 _ _ (lt_of_cell h.c42)).trans h.c42
  below := h.below.trans (hb.mono h.below.size)
theorem StartAt.drew {w : World} {b1 b2 b3 b4 t1 t2 t3 t4 : Nat} {wx : World} (h : StartAt w b1 b2 b3 b4 t1 t2 t3 t4 wx) : StartAt w b1 b2 b3 b4 t1 t2 t3 t4 wx.drew := h.next (Below.refl _ _).drew

set_option maxRecDepth 100000 in
set_option maxHeartbeats 40000000 in
theorem kr3 (w w10 : World) (b1 b2 b3 b4 t1 t2 t3 t4 : Nat) (HQ0 : StartAt w b1 b2 b3 b4 t1 t2 t3 t4 w10) (a0 : Act) (m : List (Nat × Value)) (hsl : Sl a0 548 ([(1, .pointer (some ⟨t1, 0, none⟩)), (2, .pointer (some ⟨t2, 0, none⟩)), (3, .pointer (some ⟨t3, 0, none⟩)), (4, .pointer (some ⟨t4, 0, none⟩))] ++ m)) (rest : Code) (Q : Exit → Act → World → Prop) (h : ∀ (a' : Act) (w' : World) (u51 u52 u53 u54 u55 u56 u57 u58 u59 u60 u61 u62 u63 u64 u65 u66 u67 u68 u69 u70 u71 u72 u73 u74 u75 u76 : Value), Sl a' 548 ([(77, .bool false), (76, u76), (75, u75), (74, u74), (73, u73), (72, u72), (71, u71), (70, u70), (69, u69), (68, u68), (67, u67), (66, u66), (65, u65), (64, u64), (63, u63), (62, u62), (61, u61), (60, u60), (59, u59), (58, u58), (57, u57), (56, u56), (55, u55), (54, u54), (53, u53), (52, u52), (51, u51)] ++ ([(1, .pointer (some ⟨t1, 0, none⟩)), (2, .pointer (some ⟨t2, 0, none⟩)), (3, .pointer (some ⟨t3, 0, none⟩)), (4, .pointer (some ⟨t4, 0, none⟩))] ++ m)) → Below w10.heap.size w10 w' → rest.wp Tryd.prog Q a' w') : (Code.seq (regionIn Tryd.f3 3) rest).wp Tryd.prog Q a0 w10 := by
  refine wp_seq ?_
  have HQ := Lib.hid HQ0; have HB := Lib.hid (Below.refl w10.heap.size w10); clear HQ0
  have e : regionIn Tryd.f3 3 = Code.region 3 _ false := rfl
  rw [e]; clear e
  refine wp_region ?_
  refine ops_go rfl rfl (fun K hK => ?_)
  unfold Oper.wp
  go_simp
  refine (afoot_any _).mono ?_
  rintro e w11 ⟨rfl, hb⟩
  replace HQ := Lib.hid (HQ.out.next hb)
  replace HB := Lib.hid (HB.out.trans (hb.mono HB.out.size))
  clear hb
  refine hK _ _ ?_
  clear hK
  refine Sl.step (G := fun a => wpOps _ _ _ _ a _) hsl (by decide) ?_
  intro a1 hs1; clear hsl; have hsl := hs1; clear hs1
  refine ops_go rfl rfl (fun K hK => ?_)
  have e51 := hsl.get 51 _ rfl
  unfold Oper.wp
  go_simp
  clear e51
  refine hK _ _ ?_
  clear hK
  refine Sl.step (G := fun a => wpOps _ _ _ _ a _) hsl (by decide) ?_
  intro a1 hs1; clear hsl; have hsl := hs1; clear hs1
  refine ops_go rfl rfl (fun K hK => ?_)
  have e52 := hsl.get 52 _ rfl
  unfold Oper.wp
  go_simp
  clear e52
  refine hK _ _ ?_
  clear hK
  refine Sl.step (G := fun a => wpOps _ _ _ _ a _) hsl (by decide) ?_
  intro a1 hs1; clear hsl; have hsl := hs1; clear hs1
  refine ops_want rfl rfl rfl rfl (hsl.get 53 _ rfl) (fun K hK => ?_)
  unfold Oper.wp
  go_simp
  refine (roads_any _).mono ?_
  rintro e w12 ⟨g, rfl, hs, hb⟩
  replace HQ := Lib.hid (HQ.out.next hb)
  replace HB := Lib.hid (HB.out.trans (hb.mono HB.out.size))
  clear hb
  have RS := Lib.hid hs; clear hs
  refine hK _ _ ?_
  clear hK
  refine Sl.step (G := fun a => wpOps _ _ _ _ a _) hsl (by decide) ?_
  intro a1 hs1; clear hsl; have hsl := hs1; clear hs1
  refine ops_want rfl rfl rfl rfl (hsl.get 53 _ rfl) (fun K hK => ?_)
  have e54 := hsl.get 54 _ rfl
  unfold Oper.wp
  go_simp
  refine (check_any 6 4 exRoads.strips (some ⟨g, 0, none⟩) 4 _ RS.out (four' rfl)).mono ?_
  rintro e w13 ⟨rfl, hb⟩
  replace HQ := Lib.hid (HQ.out.next hb)
  replace RS := Lib.hid (RS.out.below hb)
  replace HB := Lib.hid (HB.out.trans (hb.mono HB.out.size))
  clear hb
  clear RS
  clear e54
  refine hK _ _ ?_
  clear hK
  refine Sl.step (G := fun a => wpOps _ _ _ _ a _) hsl (by decide) ?_
  intro a1 hs1; clear hsl; have hsl := hs1; clear hs1
  refine ops_want rfl rfl rfl rfl (hsl.get 53 _ rfl) (fun K hK => ?_)
  have e55 := hsl.get 55 _ rfl
  unfold Oper.wp
  go_simp
  clear e55
  refine hK _ _ ?_
  clear hK
  refine Sl.step (G := fun a => wpOps _ _ _ _ a _) hsl (by decide) ?_
  intro a1 hs1; clear hsl; have hsl := hs1; clear hs1
  refine ops_go rfl rfl (fun K hK => ?_)
  have e53 := hsl.get 53 _ rfl
  have e56 := hsl.get 56 _ rfl
  unfold Oper.wp
  go_simp
  clear e53 e56
  refine hK _ _ ?_
  clear hK
  refine Sl.step (G := fun a => wpOps _ _ _ _ a _) hsl (by decide) ?_
  intro a1 hs1; clear hsl; have hsl := hs1; clear hs1
  refine ops_go rfl rfl (fun K hK => ?_)
  have e57 := hsl.get 57 _ rfl
  unfold Oper.wp
  go_simp
  clear e57
  refine hK _ _ ?_
  clear hK
  refine Sl.step (G := fun a => wpOps _ _ _ _ a _) hsl (by decide) ?_
  intro a1 hs1; clear hsl; have hsl := hs1; clear hs1
  refine ops_want rfl rfl rfl rfl (hsl.get 58 _ rfl) (fun K hK => ?_)
  have e1 := hsl.get 1 _ rfl
  have z0 := HQ.out.c10
  have z1 := HQ.out.c11
  have z2 := HQ.out.c12
  unfold Oper.wp
  go_simp
  clear e1
  clear z0 z1 z2
  refine hK _ _ ?_
  clear hK
  refine Sl.step (G := fun a => wpOps _ _ _ _ a _) hsl (by decide) ?_
  intro a1 hs1; clear hsl; have hsl := hs1; clear hs1
  refine ops_want rfl rfl rfl rfl (hsl.get 58 _ rfl) (fun K hK => ?_)
  have e59 := hsl.get 59 _ rfl
  unfold Oper.wp
  go_simp
  refine (check_any 11 4 exRoads.strips (some ⟨b1, 0, none⟩) 4 _ HQ.out.s1 (four' rfl)).mono ?_
  rintro e w14 ⟨rfl, hb⟩
  replace HQ := Lib.hid (HQ.out.next hb)
  replace HB := Lib.hid (HB.out.trans (hb.mono HB.out.size))
  clear hb
  clear e59
  refine hK _ _ ?_
  clear hK
  refine Sl.step (G := fun a => wpOps _ _ _ _ a _) hsl (by decide) ?_
  intro a1 hs1; clear hsl; have hsl := hs1; clear hs1
  refine ops_want rfl rfl rfl rfl (hsl.get 58 _ rfl) (fun K hK => ?_)
  have e60 := hsl.get 60 _ rfl
  unfold Oper.wp
  go_simp
  clear e60
  refine hK _ _ ?_
  clear hK
  refine Sl.step (G := fun a => wpOps _ _ _ _ a _) hsl (by decide) ?_
  intro a1 hs1; clear hsl; have hsl := hs1; clear hs1
  refine ops_go rfl rfl (fun K hK => ?_)
  have e58 := hsl.get 58 _ rfl
  have e61 := hsl.get 61 _ rfl
  unfold Oper.wp
  go_simp
  clear e58 e61
  refine hK _ _ ?_
  clear hK
  refine Sl.step (G := fun a => wpOps _ _ _ _ a _) hsl (by decide) ?_
  intro a1 hs1; clear hsl; have hsl := hs1; clear hs1
  refine ops_go rfl rfl (fun K hK => ?_)
  have e62 := hsl.get 62 _ rfl
  unfold Oper.wp
  go_simp
  clear e62
  refine hK _ _ ?_
  clear hK
  refine Sl.step (G := fun a => wpOps _ _ _ _ a _) hsl (by decide) ?_
  intro a1 hs1; clear hsl; have hsl := hs1; clear hs1
  refine ops_want rfl rfl rfl rfl (hsl.get 63 _ rfl) (fun K hK => ?_)
  have e2 := hsl.get 2 _ rfl
  have z0 := HQ.out.c20
  have z1 := HQ.out.c21
  have z2 := HQ.out.c22
  unfold Oper.wp
  go_simp
  clear e2
  clear z0 z1 z2
  refine hK _ _ ?_
  clear hK
  refine Sl.step (G := fun a => wpOps _ _ _ _ a _) hsl (by decide) ?_
  intro a1 hs1; clear hsl; have hsl := hs1; clear hs1
  refine ops_want rfl rfl rfl rfl (hsl.get 63 _ rfl) (fun K hK => ?_)
  have e64 := hsl.get 64 _ rfl
  unfold Oper.wp
  go_simp
  refine (check_any 6 4 passS (some ⟨b2, 0, none⟩) 4 _ HQ.out.s2 (four' rfl)).mono ?_
  rintro e w15 ⟨rfl, hb⟩
  replace HQ := Lib.hid (HQ.out.next hb)
  replace HB := Lib.hid (HB.out.trans (hb.mono HB.out.size))
  clear hb
  clear e64
  refine hK _ _ ?_
  clear hK
  refine Sl.step (G := fun a => wpOps _ _ _ _ a _) hsl (by decide) ?_
  intro a1 hs1; clear hsl; have hsl := hs1; clear hs1
  refine ops_want rfl rfl rfl rfl (hsl.get 63 _ rfl) (fun K hK => ?_)
  have e65 := hsl.get 65 _ rfl
  unfold Oper.wp
  go_simp
  clear e65
  refine hK _ _ ?_
  clear hK
  refine Sl.step (G := fun a => wpOps _ _ _ _ a _) hsl (by decide) ?_
  intro a1 hs1; clear hsl; have hsl := hs1; clear hs1
  refine ops_go rfl rfl (fun K hK => ?_)
  have e63 := hsl.get 63 _ rfl
  have e66 := hsl.get 66 _ rfl
  unfold Oper.wp
  go_simp
  clear e63 e66
  refine hK _ _ ?_
  clear hK
  refine Sl.step (G := fun a => wpOps _ _ _ _ a _) hsl (by decide) ?_
  intro a1 hs1; clear hsl; have hsl := hs1; clear hs1
  refine ops_go rfl rfl (fun K hK => ?_)
  have e67 := hsl.get 67 _ rfl
  unfold Oper.wp
  go_simp
  clear e67
  refine hK _ _ ?_
  clear hK
  refine Sl.step (G := fun a => wpOps _ _ _ _ a _) hsl (by decide) ?_
  intro a1 hs1; clear hsl; have hsl := hs1; clear hs1
  refine ops_want rfl rfl rfl rfl (hsl.get 68 _ rfl) (fun K hK => ?_)
  have e3 := hsl.get 3 _ rfl
  have z0 := HQ.out.c30
  have z1 := HQ.out.c31
  have z2 := HQ.out.c32
  unfold Oper.wp
  go_simp
  clear e3
  clear z0 z1 z2
  refine hK _ _ ?_
  clear hK
  refine Sl.step (G := fun a => wpOps _ _ _ _ a _) hsl (by decide) ?_
  intro a1 hs1; clear hsl; have hsl := hs1; clear hs1
  refine ops_want rfl rfl rfl rfl (hsl.get 68 _ rfl) (fun K hK => ?_)
  have e69 := hsl.get 69 _ rfl
  unfold Oper.wp
  go_simp
  refine (check_any 6 4 kindS (some ⟨b3, 0, none⟩) 4 _ HQ.out.s3 (four' rfl)).mono ?_
  rintro e w16 ⟨rfl, hb⟩
  replace HQ := Lib.hid (HQ.out.next hb)
  replace HB := Lib.hid (HB.out.trans (hb.mono HB.out.size))
  clear hb
  clear e69
  refine hK _ _ ?_
  clear hK
  refine Sl.step (G := fun a => wpOps _ _ _ _ a _) hsl (by decide) ?_
  intro a1 hs1; clear hsl; have hsl := hs1; clear hs1
  refine ops_want rfl rfl rfl rfl (hsl.get 68 _ rfl) (fun K hK => ?_)
  have e70 := hsl.get 70 _ rfl
  unfold Oper.wp
  go_simp
  clear e70
  refine hK _ _ ?_
  clear hK
  refine Sl.step (G := fun a => wpOps _ _ _ _ a _) hsl (by decide) ?_
  intro a1 hs1; clear hsl; have hsl := hs1; clear hs1
  refine ops_go rfl rfl (fun K hK => ?_)
  have e68 := hsl.get 68 _ rfl
  have e71 := hsl.get 71 _ rfl
  unfold Oper.wp
  go_simp
  clear e68 e71
  refine hK _ _ ?_
  clear hK
  refine Sl.step (G := fun a => wpOps _ _ _ _ a _) hsl (by decide) ?_
  intro a1 hs1; clear hsl; have hsl := hs1; clear hs1
  refine ops_go rfl rfl (fun K hK => ?_)
  have e72 := hsl.get 72 _ rfl
  unfold Oper.wp
  go_simp
  clear e72
  refine hK _ _ ?_
  clear hK
  refine Sl.step (G := fun a => wpOps _ _ _ _ a _) hsl (by decide) ?_
  intro a1 hs1; clear hsl; have hsl := hs1; clear hs1
  refine ops_want rfl rfl rfl rfl (hsl.get 73 _ rfl) (fun K hK => ?_)
  have e4 := hsl.get 4 _ rfl
  have z0 := HQ.out.c40
  have z1 := HQ.out.c41
  have z2 := HQ.out.c42
  unfold Oper.wp
  go_simp
  clear e4
  clear z0 z1 z2
  refine hK _ _ ?_
  clear hK
  refine Sl.step (G := fun a => wpOps _ _ _ _ a _) hsl (by decide) ?_
  intro a1 hs1; clear hsl; have hsl := hs1; clear hs1
  refine ops_want rfl rfl rfl rfl (hsl.get 73 _ rfl) (fun K hK => ?_)
  have e74 := hsl.get 74 _ rfl
  unfold Oper.wp
  go_simp
  refine (check_any 6 4 loopS (some ⟨b4, 0, none⟩) 4 _ HQ.out.s4 (four' rfl)).mono ?_
  rintro e w17 ⟨rfl, hb⟩
  replace HQ := Lib.hid (HQ.out.next hb)
  replace HB := Lib.hid (HB.out.trans (hb.mono HB.out.size))
  clear hb
  clear e74
  refine hK _ _ ?_
  clear hK
  refine Sl.step (G := fun a => wpOps _ _ _ _ a _) hsl (by decide) ?_
  intro a1 hs1; clear hsl; have hsl := hs1; clear hs1
  refine ops_want rfl rfl rfl rfl (hsl.get 73 _ rfl) (fun K hK => ?_)
  have e75 := hsl.get 75 _ rfl
  unfold Oper.wp
  go_simp
  clear e75
  refine hK _ _ ?_
  clear hK
  refine Sl.step (G := fun a => wpOps _ _ _ _ a _) hsl (by decide) ?_
  intro a1 hs1; clear hsl; have hsl := hs1; clear hs1
  refine ops_go rfl rfl (fun K hK => ?_)
  have e73 := hsl.get 73 _ rfl
  have e76 := hsl.get 76 _ rfl
  unfold Oper.wp
  go_simp
  clear e73 e76
  refine hK _ _ ?_
  clear hK
  refine Sl.step (G := fun a => wpOps _ _ _ _ a _) hsl (by decide) ?_
  intro a1 hs1; clear hsl; have hsl := hs1; clear hs1
  refine ops_done ?_
  exact h _ _ _ _ _ _ _ _ _ _ _ _ _ _ _ _ _ _ _ _ _ _ _ _ _ _ _ _ hsl HB.out
end Go.Proofs.YtmkjeonjhedgkaaDoor
