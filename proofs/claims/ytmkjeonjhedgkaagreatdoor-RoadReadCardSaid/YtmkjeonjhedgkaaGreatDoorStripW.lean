/- The contract of (road.wrong).strip. -/
import Derived.Test.YtmkjeonjhedgkaaGreatDoorStripD
namespace Go.Proofs.YtmkjeonjhedgkaaGreatDoor
set_option linter.unusedSimpArgs false
set_option linter.unusedVariables false
open Go.RowKit

set_option maxRecDepth 100000 in
set_option maxHeartbeats 4000000 in
theorem tail_5 (w0 w : World) (n : Int) (bx r4 r5 g : Nat) (C : Array Value) (p0 p1 p2 p3 p4 : List UInt8) (hC0 : C[0]? = some (.string ⟨p0.toArray⟩)) (hC1 : C[1]? = some (.string ⟨p1.toArray⟩)) (hC2 : C[2]? = some (.string ⟨p2.toArray⟩)) (hC3 : C[3]? = some (.string ⟨p3.toArray⟩)) (hC4 : C[4]? = some (.string ⟨p4.toArray⟩)) (hl0 : p0.length < 4294967281) (kK kX kY : Int) (I0 : SI w0 w n bx r4 r5 g C (#[.int .i64 0, .int .i64 0, .int .i64 0, .int .i64 0, .int .i64 kK, .int .i64 kX, .int .i64 kY])) (a0 : Act) (hsl : Sl a0 108 [(2, .pointer (some ⟨bx, 0, none⟩)), (4, .pointer (some ⟨r4, 0, none⟩)), (5, .pointer (some ⟨r5, 0, none⟩)), (6, .slice (some ⟨g, 0, none⟩) 5 5)]) (Q : Exit → Act → World → Prop) (hbad : baseV p0 p1 p2 p3 p4 kK kX kY = none → ∀ a x, Sl a 108 [] → Below w0.heap.size w0 x → Q (.panic (wrongP n)) a x) (h : ∀ s a x, baseV p0 p1 p2 p3 p4 kK kX kY = some s → Sl a 108 [(2, .pointer (some ⟨bx, 0, none⟩)), (4, .pointer (some ⟨r4, 0, none⟩)), (5, .pointer (some ⟨r5, 0, none⟩)), (6, .slice (some ⟨g, 0, none⟩) 5 5)] → SI w0 x n bx r4 r5 g C (#[.int .i64 s.A, .int .i64 s.B, .int .i64 s.L, .int .i64 s.W, .int .i64 s.K, .int .i64 s.X, .int .i64 s.Y]) → Q (.exit 0) a x) : (Code.seq (Code.seq (Code.seq (regionIn Tryz.f64 17) (Code.cond (Operand.tmp 80) (regionIn Tryz.f64 18) Code.skip)) (Code.seq (regionIn Tryz.f64 19) (regionIn Tryz.f64 20))) (Code.exit 0)).wp Tryz.prog Q a0 w := by
  have hbx := I0.kb.cell (o := 0) rfl
  have c2 := I0.kg.cell hC2
  have c4 := I0.kg.cell hC4
  by_cases g2 : p2 = wLeagues
  rotate_left
  · have e2 : (p2 == [108, 101, 97, 103, 117, 101, 115]) = false := by simpa [wLeagues] using g2
    refine wp_seq ?_
    refine wp_seq ?_
    refine wp_seq ?_
    have e : regionIn Tryz.f64 17 = Code.region 17 _ false := rfl
    rw [e]; clear e
    refine wp_region ?_
    refine ops_go rfl rfl (fun K hK => ?_)
    have e6 := hsl.get 6 _ rfl
    unfold Oper.wp
    go_simp
    clear e6
    refine hK _ _ ?_; clear hK
    refine hsl.go (by decide) ?_; clear hsl; intro a1 hsl
    refine ops_go rfl rfl (fun K hK => ?_)
    have e71 := hsl.get 71 _ rfl
    unfold Oper.wp
    go_simp
    clear e71
    refine hK _ _ ?_; clear hK
    refine hsl.go (by decide) ?_; clear hsl; intro a1 hsl
    refine ops_go rfl rfl (fun K hK => ?_)
    have e72 := hsl.get 72 _ rfl
    unfold Oper.wp
    go_simp
    clear e72
    refine hK _ _ ?_; clear hK
    refine hsl.go (by decide) ?_; clear hsl; intro a1 hsl
    refine ops_go rfl rfl (fun K hK => ?_)
    have e73 := hsl.get 73 _ rfl
    unfold Oper.wp
    go_simp
    clear e73
    refine hK _ _ ?_; clear hK
    refine hsl.go (by decide) ?_; clear hsl; intro a1 hsl
    refine ops_go rfl rfl (fun K hK => ?_)
    have e74 := hsl.get 74 _ rfl
    unfold Oper.wp
    go_simp
    clear e74
    refine hK _ _ ?_; clear hK
    refine hsl.go (by decide) ?_; clear hsl; intro a1 hsl
    refine ops_skip rfl rfl rfl rfl (hsl.get 75 _ rfl) (by decide) ?_
    refine hsl.go (by decide) ?_; clear hsl; intro a1 hsl
    refine ops_skip rfl rfl rfl rfl (hsl.get 75 _ rfl) (by decide) ?_
    refine hsl.go (by decide) ?_; clear hsl; intro a1 hsl
    refine ops_skip rfl rfl rfl rfl (hsl.get 75 _ rfl) (by decide) ?_
    refine hsl.go (by decide) ?_; clear hsl; intro a1 hsl
    refine ops_skip rfl rfl rfl rfl (hsl.get 75 _ rfl) (by decide) ?_
    refine hsl.go (by decide) ?_; clear hsl; intro a1 hsl
    refine ops_go rfl rfl (fun K hK => ?_)
    have e75 := hsl.get 75 _ rfl
    have e79 := hsl.get 79 _ rfl
    unfold Oper.wp
    go_simp
    clear e75 e79
    refine hK _ _ ?_; clear hK
    refine hsl.go (by decide) ?_; clear hsl; intro a1 hsl
    refine ops_done ?_
    try simp only [Exit.then, Exit.inBlock, ↓reduceIte, Nat.reduceEqDiff]
    refine wp_cond_true (hsl.ev 80 rfl) ?_
    have e : regionIn Tryz.f64 18 = Code.region 18 _ false := rfl
    rw [e]; clear e
    refine wp_region ?_
    refine ops_go rfl rfl (fun K hK => ?_)
    have e2 := hsl.get 2 _ rfl
    unfold Oper.wp
    go_simp
    clear e2
    refine hK _ _ ?_; clear hK
    refine hsl.go (by decide) ?_; clear hsl; intro a1 hsl
    refine ops_go rfl rfl (fun K hK => ?_)
    have e81 := hsl.get 81 _ rfl
    unfold Oper.wp
    go_simp
    clear e81
    refine hK _ _ ?_; clear hK
    refine hsl.go (by decide) ?_; clear hsl; intro a1 hsl
    refine ops_go rfl rfl (fun K hK => ?_)
    have e82 := hsl.get 82 _ rfl
    unfold Oper.wp
    go_simp
    clear e82
    try simp only [Exit.then, Exit.inBlock, ↓reduceIte, Nat.reduceEqDiff]
    exact hbad (by unfold baseV; rw [if_neg (fun h => g2 h.1)]) _ _ hsl.nil I0.below
  by_cases g4 : p4 = wWide
  rotate_left
  · have e2 : (p2 == [108, 101, 97, 103, 117, 101, 115]) = true := by simpa [wLeagues] using g2
    have e4 : (p4 == [119, 105, 100, 101]) = false := by simpa [wWide] using g4
    refine wp_seq ?_
    refine wp_seq ?_
    refine wp_seq ?_
    have e : regionIn Tryz.f64 17 = Code.region 17 _ false := rfl
    rw [e]; clear e
    refine wp_region ?_
    refine ops_go rfl rfl (fun K hK => ?_)
    have e6 := hsl.get 6 _ rfl
    unfold Oper.wp
    go_simp
    clear e6
    refine hK _ _ ?_; clear hK
    refine hsl.go (by decide) ?_; clear hsl; intro a1 hsl
    refine ops_go rfl rfl (fun K hK => ?_)
    have e71 := hsl.get 71 _ rfl
    unfold Oper.wp
    go_simp
    clear e71
    refine hK _ _ ?_; clear hK
    refine hsl.go (by decide) ?_; clear hsl; intro a1 hsl
    refine ops_go rfl rfl (fun K hK => ?_)
    have e72 := hsl.get 72 _ rfl
    unfold Oper.wp
    go_simp
    clear e72
    refine hK _ _ ?_; clear hK
    refine hsl.go (by decide) ?_; clear hsl; intro a1 hsl
    refine ops_go rfl rfl (fun K hK => ?_)
    have e73 := hsl.get 73 _ rfl
    unfold Oper.wp
    go_simp
    clear e73
    refine hK _ _ ?_; clear hK
    refine hsl.go (by decide) ?_; clear hsl; intro a1 hsl
    refine ops_go rfl rfl (fun K hK => ?_)
    have e74 := hsl.get 74 _ rfl
    unfold Oper.wp
    go_simp
    clear e74
    refine hK _ _ ?_; clear hK
    refine hsl.go (by decide) ?_; clear hsl; intro a1 hsl
    refine ops_want rfl rfl rfl rfl (hsl.get 75 _ rfl) (fun K hK => ?_)
    have e6 := hsl.get 6 _ rfl
    unfold Oper.wp
    go_simp
    clear e6
    refine hK _ _ ?_; clear hK
    refine hsl.go (by decide) ?_; clear hsl; intro a1 hsl
    refine ops_want rfl rfl rfl rfl (hsl.get 75 _ rfl) (fun K hK => ?_)
    have e76 := hsl.get 76 _ rfl
    unfold Oper.wp
    go_simp
    clear e76
    refine hK _ _ ?_; clear hK
    refine hsl.go (by decide) ?_; clear hsl; intro a1 hsl
    refine ops_want rfl rfl rfl rfl (hsl.get 75 _ rfl) (fun K hK => ?_)
    have e77 := hsl.get 77 _ rfl
    unfold Oper.wp
    go_simp
    clear e77
    refine hK _ _ ?_; clear hK
    refine hsl.go (by decide) ?_; clear hsl; intro a1 hsl
    refine ops_want rfl rfl rfl rfl (hsl.get 75 _ rfl) (fun K hK => ?_)
    have e78 := hsl.get 78 _ rfl
    unfold Oper.wp
    go_simp
    clear e78
    refine hK _ _ ?_; clear hK
    refine hsl.go (by decide) ?_; clear hsl; intro a1 hsl
    refine ops_go rfl rfl (fun K hK => ?_)
    have e75 := hsl.get 75 _ rfl
    have e79 := hsl.get 79 _ rfl
    unfold Oper.wp
    go_simp
    clear e75 e79
    refine hK _ _ ?_; clear hK
    refine hsl.go (by decide) ?_; clear hsl; intro a1 hsl
    refine ops_done ?_
    try simp only [Exit.then, Exit.inBlock, ↓reduceIte, Nat.reduceEqDiff]
    refine wp_cond_true (hsl.ev 80 rfl) ?_
    have e : regionIn Tryz.f64 18 = Code.region 18 _ false := rfl
    rw [e]; clear e
    refine wp_region ?_
    refine ops_go rfl rfl (fun K hK => ?_)
    have e2 := hsl.get 2 _ rfl
    unfold Oper.wp
    go_simp
    clear e2
    refine hK _ _ ?_; clear hK
    refine hsl.go (by decide) ?_; clear hsl; intro a1 hsl
    refine ops_go rfl rfl (fun K hK => ?_)
    have e81 := hsl.get 81 _ rfl
    unfold Oper.wp
    go_simp
    clear e81
    refine hK _ _ ?_; clear hK
    refine hsl.go (by decide) ?_; clear hsl; intro a1 hsl
    refine ops_go rfl rfl (fun K hK => ?_)
    have e82 := hsl.get 82 _ rfl
    unfold Oper.wp
    go_simp
    clear e82
    try simp only [Exit.then, Exit.inBlock, ↓reduceIte, Nat.reduceEqDiff]
    exact hbad (by unfold baseV; rw [if_neg (fun h => g4 h.2)]) _ _ hsl.nil I0.below
  have e2 : (p2 == [108, 101, 97, 103, 117, 101, 115]) = true := by simpa [wLeagues] using g2
  have e4 : (p4 == [119, 105, 100, 101]) = true := by simpa [wWide] using g4
  obtain ⟨x0, y0, hv0⟩ : ∃ x y : Int, ∀ z t, hyphV p0 = some (z, t) → x = z ∧ y = t := ⟨((hyphV p0).getD (0, 0)).1, ((hyphV p0).getD (0, 0)).2, fun z t h => by simp [h]⟩
  obtain ⟨x1, hv1⟩ : ∃ x : Int, ∀ z, numV p1 = some z → x = z := ⟨(numV p1).getD 0, fun z h => by simp [h]⟩
  obtain ⟨x3, hv3⟩ : ∃ x : Int, ∀ z, numV p3 = some z → x = z := ⟨(numV p3).getD 0, fun z h => by simp [h]⟩
  refine wp_seq ?_
  refine wp_seq ?_
  refine wp_seq ?_
  have e : regionIn Tryz.f64 17 = Code.region 17 _ false := rfl
  rw [e]; clear e
  refine wp_region ?_
  refine ops_go rfl rfl (fun K hK => ?_)
  have e6 := hsl.get 6 _ rfl
  unfold Oper.wp
  go_simp
  clear e6
  refine hK _ _ ?_; clear hK
  refine hsl.go (by decide) ?_; clear hsl; intro a1 hsl
  refine ops_go rfl rfl (fun K hK => ?_)
  have e71 := hsl.get 71 _ rfl
  unfold Oper.wp
  go_simp
  clear e71
  refine hK _ _ ?_; clear hK
  refine hsl.go (by decide) ?_; clear hsl; intro a1 hsl
  refine ops_go rfl rfl (fun K hK => ?_)
  have e72 := hsl.get 72 _ rfl
  unfold Oper.wp
  go_simp
  clear e72
  refine hK _ _ ?_; clear hK
  refine hsl.go (by decide) ?_; clear hsl; intro a1 hsl
  refine ops_go rfl rfl (fun K hK => ?_)
  have e73 := hsl.get 73 _ rfl
  unfold Oper.wp
  go_simp
  clear e73
  refine hK _ _ ?_; clear hK
  refine hsl.go (by decide) ?_; clear hsl; intro a1 hsl
  refine ops_go rfl rfl (fun K hK => ?_)
  have e74 := hsl.get 74 _ rfl
  unfold Oper.wp
  go_simp
  clear e74
  refine hK _ _ ?_; clear hK
  refine hsl.go (by decide) ?_; clear hsl; intro a1 hsl
  refine ops_want rfl rfl rfl rfl (hsl.get 75 _ rfl) (fun K hK => ?_)
  have e6 := hsl.get 6 _ rfl
  unfold Oper.wp
  go_simp
  clear e6
  refine hK _ _ ?_; clear hK
  refine hsl.go (by decide) ?_; clear hsl; intro a1 hsl
  refine ops_want rfl rfl rfl rfl (hsl.get 75 _ rfl) (fun K hK => ?_)
  have e76 := hsl.get 76 _ rfl
  unfold Oper.wp
  go_simp
  clear e76
  refine hK _ _ ?_; clear hK
  refine hsl.go (by decide) ?_; clear hsl; intro a1 hsl
  refine ops_want rfl rfl rfl rfl (hsl.get 75 _ rfl) (fun K hK => ?_)
  have e77 := hsl.get 77 _ rfl
  unfold Oper.wp
  go_simp
  clear e77
  refine hK _ _ ?_; clear hK
  refine hsl.go (by decide) ?_; clear hsl; intro a1 hsl
  refine ops_want rfl rfl rfl rfl (hsl.get 75 _ rfl) (fun K hK => ?_)
  have e78 := hsl.get 78 _ rfl
  unfold Oper.wp
  go_simp
  clear e78
  refine hK _ _ ?_; clear hK
  refine hsl.go (by decide) ?_; clear hsl; intro a1 hsl
  refine ops_go rfl rfl (fun K hK => ?_)
  have e75 := hsl.get 75 _ rfl
  have e79 := hsl.get 79 _ rfl
  unfold Oper.wp
  go_simp
  clear e75 e79
  refine hK _ _ ?_; clear hK
  refine hsl.go (by decide) ?_; clear hsl; intro a1 hsl
  refine ops_done ?_
  try simp only [Exit.then, Exit.inBlock, ↓reduceIte, Nat.reduceEqDiff]
  refine wp_cond_false (hsl.ev 80 rfl) ?_
  refine wp_skip ?_
  try simp only [Exit.then, Exit.inBlock, ↓reduceIte, Nat.reduceEqDiff]
  refine wp_seq ?_
  refine st19_5 w0 w n bx r4 r5 g C p0 hC0 hl0 kK kX kY 0 0 x0 y0 hv0 I0 _ ((((hsl.nil.cons (hsl.get 6 _ rfl)).cons (hsl.get 5 _ rfl)).cons (hsl.get 4 _ rfl)).cons (hsl.get 2 _ rfl)) _ ?_ ?_
  · intro hn a x hs hb
    try simp only [Exit.then, Exit.inBlock, ↓reduceIte, Nat.reduceEqDiff]
    exact hbad (by unfold baseV; rw [if_pos ⟨g2, g4⟩, hn]) _ _ hs.nil hb
  intro hq0 a1 w1 hs1 I1; clear hsl; have hsl := hs1; clear hs1
  try simp only [Exit.then, Exit.inBlock, ↓reduceIte, Nat.reduceEqDiff]
  refine st20_5 w0 w1 n bx r4 r5 g C p1 p3 hC1 hC3 kK kX kY x0 y0 x1 hv1 x3 hv3 I1 _ hsl _ ?_ ?_
  · intro hn a x hs hb
    try simp only [Exit.then, Exit.inBlock, ↓reduceIte, Nat.reduceEqDiff]
    refine hbad ?_ _ _ hs.nil hb
    unfold baseV; rw [if_pos ⟨g2, g4⟩, hq0]
    rcases hn with hn | hn <;> rw [hn]
    cases numV p1 <;> rfl
  intro hq1 hq3 a2 w2 hs2 I2; clear hsl; have hsl := hs2; clear hs2
  try simp only [Exit.then, Exit.inBlock, ↓reduceIte, Nat.reduceEqDiff]
  refine wp_exit ?_
  try simp only [Exit.then, Exit.inBlock, ↓reduceIte, Nat.reduceEqDiff]
  exact h ⟨x0, y0, x1, x3, kK, kX, kY⟩ _ _ (by unfold baseV; rw [if_pos ⟨g2, g4⟩, hq0, hq1, hq3]) hsl I2
set_option maxRecDepth 100000 in
set_option maxHeartbeats 4000000 in
theorem tail_7 (w0 w : World) (n : Int) (bx r4 r5 g : Nat) (C : Array Value) (p0 p1 p2 p3 p4 : List UInt8) (hC0 : C[0]? = some (.string ⟨p0.toArray⟩)) (hC1 : C[1]? = some (.string ⟨p1.toArray⟩)) (hC2 : C[2]? = some (.string ⟨p2.toArray⟩)) (hC3 : C[3]? = some (.string ⟨p3.toArray⟩)) (hC4 : C[4]? = some (.string ⟨p4.toArray⟩)) (hl0 : p0.length < 4294967281) (kK kX kY : Int) (I0 : SI w0 w n bx r4 r5 g C (#[.int .i64 0, .int .i64 0, .int .i64 0, .int .i64 0, .int .i64 kK, .int .i64 kX, .int .i64 kY])) (a0 : Act) (hsl : Sl a0 108 [(2, .pointer (some ⟨bx, 0, none⟩)), (4, .pointer (some ⟨r4, 0, none⟩)), (5, .pointer (some ⟨r5, 0, none⟩)), (6, .slice (some ⟨g, 0, none⟩) 7 7)]) (Q : Exit → Act → World → Prop) (hbad : baseV p0 p1 p2 p3 p4 kK kX kY = none → ∀ a x, Sl a 108 [] → Below w0.heap.size w0 x → Q (.panic (wrongP n)) a x) (h : ∀ s a x, baseV p0 p1 p2 p3 p4 kK kX kY = some s → Sl a 108 [(2, .pointer (some ⟨bx, 0, none⟩)), (4, .pointer (some ⟨r4, 0, none⟩)), (5, .pointer (some ⟨r5, 0, none⟩)), (6, .slice (some ⟨g, 0, none⟩) 7 7)] → SI w0 x n bx r4 r5 g C (#[.int .i64 s.A, .int .i64 s.B, .int .i64 s.L, .int .i64 s.W, .int .i64 s.K, .int .i64 s.X, .int .i64 s.Y]) → Q (.exit 0) a x) : (Code.seq (Code.seq (Code.seq (regionIn Tryz.f64 17) (Code.cond (Operand.tmp 80) (regionIn Tryz.f64 18) Code.skip)) (Code.seq (regionIn Tryz.f64 19) (regionIn Tryz.f64 20))) (Code.exit 0)).wp Tryz.prog Q a0 w := by
  have hbx := I0.kb.cell (o := 0) rfl
  have c2 := I0.kg.cell hC2
  have c4 := I0.kg.cell hC4
  by_cases g2 : p2 = wLeagues
  rotate_left
  · have e2 : (p2 == [108, 101, 97, 103, 117, 101, 115]) = false := by simpa [wLeagues] using g2
    refine wp_seq ?_
    refine wp_seq ?_
    refine wp_seq ?_
    have e : regionIn Tryz.f64 17 = Code.region 17 _ false := rfl
    rw [e]; clear e
    refine wp_region ?_
    refine ops_go rfl rfl (fun K hK => ?_)
    have e6 := hsl.get 6 _ rfl
    unfold Oper.wp
    go_simp
    clear e6
    refine hK _ _ ?_; clear hK
    refine hsl.go (by decide) ?_; clear hsl; intro a1 hsl
    refine ops_go rfl rfl (fun K hK => ?_)
    have e71 := hsl.get 71 _ rfl
    unfold Oper.wp
    go_simp
    clear e71
    refine hK _ _ ?_; clear hK
    refine hsl.go (by decide) ?_; clear hsl; intro a1 hsl
    refine ops_go rfl rfl (fun K hK => ?_)
    have e72 := hsl.get 72 _ rfl
    unfold Oper.wp
    go_simp
    clear e72
    refine hK _ _ ?_; clear hK
    refine hsl.go (by decide) ?_; clear hsl; intro a1 hsl
    refine ops_go rfl rfl (fun K hK => ?_)
    have e73 := hsl.get 73 _ rfl
    unfold Oper.wp
    go_simp
    clear e73
    refine hK _ _ ?_; clear hK
    refine hsl.go (by decide) ?_; clear hsl; intro a1 hsl
    refine ops_go rfl rfl (fun K hK => ?_)
    have e74 := hsl.get 74 _ rfl
    unfold Oper.wp
    go_simp
    clear e74
    refine hK _ _ ?_; clear hK
    refine hsl.go (by decide) ?_; clear hsl; intro a1 hsl
    refine ops_skip rfl rfl rfl rfl (hsl.get 75 _ rfl) (by decide) ?_
    refine hsl.go (by decide) ?_; clear hsl; intro a1 hsl
    refine ops_skip rfl rfl rfl rfl (hsl.get 75 _ rfl) (by decide) ?_
    refine hsl.go (by decide) ?_; clear hsl; intro a1 hsl
    refine ops_skip rfl rfl rfl rfl (hsl.get 75 _ rfl) (by decide) ?_
    refine hsl.go (by decide) ?_; clear hsl; intro a1 hsl
    refine ops_skip rfl rfl rfl rfl (hsl.get 75 _ rfl) (by decide) ?_
    refine hsl.go (by decide) ?_; clear hsl; intro a1 hsl
    refine ops_go rfl rfl (fun K hK => ?_)
    have e75 := hsl.get 75 _ rfl
    have e79 := hsl.get 79 _ rfl
    unfold Oper.wp
    go_simp
    clear e75 e79
    refine hK _ _ ?_; clear hK
    refine hsl.go (by decide) ?_; clear hsl; intro a1 hsl
    refine ops_done ?_
    try simp only [Exit.then, Exit.inBlock, ↓reduceIte, Nat.reduceEqDiff]
    refine wp_cond_true (hsl.ev 80 rfl) ?_
    have e : regionIn Tryz.f64 18 = Code.region 18 _ false := rfl
    rw [e]; clear e
    refine wp_region ?_
    refine ops_go rfl rfl (fun K hK => ?_)
    have e2 := hsl.get 2 _ rfl
    unfold Oper.wp
    go_simp
    clear e2
    refine hK _ _ ?_; clear hK
    refine hsl.go (by decide) ?_; clear hsl; intro a1 hsl
    refine ops_go rfl rfl (fun K hK => ?_)
    have e81 := hsl.get 81 _ rfl
    unfold Oper.wp
    go_simp
    clear e81
    refine hK _ _ ?_; clear hK
    refine hsl.go (by decide) ?_; clear hsl; intro a1 hsl
    refine ops_go rfl rfl (fun K hK => ?_)
    have e82 := hsl.get 82 _ rfl
    unfold Oper.wp
    go_simp
    clear e82
    try simp only [Exit.then, Exit.inBlock, ↓reduceIte, Nat.reduceEqDiff]
    exact hbad (by unfold baseV; rw [if_neg (fun h => g2 h.1)]) _ _ hsl.nil I0.below
  by_cases g4 : p4 = wWide
  rotate_left
  · have e2 : (p2 == [108, 101, 97, 103, 117, 101, 115]) = true := by simpa [wLeagues] using g2
    have e4 : (p4 == [119, 105, 100, 101]) = false := by simpa [wWide] using g4
    refine wp_seq ?_
    refine wp_seq ?_
    refine wp_seq ?_
    have e : regionIn Tryz.f64 17 = Code.region 17 _ false := rfl
    rw [e]; clear e
    refine wp_region ?_
    refine ops_go rfl rfl (fun K hK => ?_)
    have e6 := hsl.get 6 _ rfl
    unfold Oper.wp
    go_simp
    clear e6
    refine hK _ _ ?_; clear hK
    refine hsl.go (by decide) ?_; clear hsl; intro a1 hsl
    refine ops_go rfl rfl (fun K hK => ?_)
    have e71 := hsl.get 71 _ rfl
    unfold Oper.wp
    go_simp
    clear e71
    refine hK _ _ ?_; clear hK
    refine hsl.go (by decide) ?_; clear hsl; intro a1 hsl
    refine ops_go rfl rfl (fun K hK => ?_)
    have e72 := hsl.get 72 _ rfl
    unfold Oper.wp
    go_simp
    clear e72
    refine hK _ _ ?_; clear hK
    refine hsl.go (by decide) ?_; clear hsl; intro a1 hsl
    refine ops_go rfl rfl (fun K hK => ?_)
    have e73 := hsl.get 73 _ rfl
    unfold Oper.wp
    go_simp
    clear e73
    refine hK _ _ ?_; clear hK
    refine hsl.go (by decide) ?_; clear hsl; intro a1 hsl
    refine ops_go rfl rfl (fun K hK => ?_)
    have e74 := hsl.get 74 _ rfl
    unfold Oper.wp
    go_simp
    clear e74
    refine hK _ _ ?_; clear hK
    refine hsl.go (by decide) ?_; clear hsl; intro a1 hsl
    refine ops_want rfl rfl rfl rfl (hsl.get 75 _ rfl) (fun K hK => ?_)
    have e6 := hsl.get 6 _ rfl
    unfold Oper.wp
    go_simp
    clear e6
    refine hK _ _ ?_; clear hK
    refine hsl.go (by decide) ?_; clear hsl; intro a1 hsl
    refine ops_want rfl rfl rfl rfl (hsl.get 75 _ rfl) (fun K hK => ?_)
    have e76 := hsl.get 76 _ rfl
    unfold Oper.wp
    go_simp
    clear e76
    refine hK _ _ ?_; clear hK
    refine hsl.go (by decide) ?_; clear hsl; intro a1 hsl
    refine ops_want rfl rfl rfl rfl (hsl.get 75 _ rfl) (fun K hK => ?_)
    have e77 := hsl.get 77 _ rfl
    unfold Oper.wp
    go_simp
    clear e77
    refine hK _ _ ?_; clear hK
    refine hsl.go (by decide) ?_; clear hsl; intro a1 hsl
    refine ops_want rfl rfl rfl rfl (hsl.get 75 _ rfl) (fun K hK => ?_)
    have e78 := hsl.get 78 _ rfl
    unfold Oper.wp
    go_simp
    clear e78
    refine hK _ _ ?_; clear hK
    refine hsl.go (by decide) ?_; clear hsl; intro a1 hsl
    refine ops_go rfl rfl (fun K hK => ?_)
    have e75 := hsl.get 75 _ rfl
    have e79 := hsl.get 79 _ rfl
    unfold Oper.wp
    go_simp
    clear e75 e79
    refine hK _ _ ?_; clear hK
    refine hsl.go (by decide) ?_; clear hsl; intro a1 hsl
    refine ops_done ?_
    try simp only [Exit.then, Exit.inBlock, ↓reduceIte, Nat.reduceEqDiff]
    refine wp_cond_true (hsl.ev 80 rfl) ?_
    have e : regionIn Tryz.f64 18 = Code.region 18 _ false := rfl
    rw [e]; clear e
    refine wp_region ?_
    refine ops_go rfl rfl (fun K hK => ?_)
    have e2 := hsl.get 2 _ rfl
    unfold Oper.wp
    go_simp
    clear e2
    refine hK _ _ ?_; clear hK
    refine hsl.go (by decide) ?_; clear hsl; intro a1 hsl
    refine ops_go rfl rfl (fun K hK => ?_)
    have e81 := hsl.get 81 _ rfl
    unfold Oper.wp
    go_simp
    clear e81
    refine hK _ _ ?_; clear hK
    refine hsl.go (by decide) ?_; clear hsl; intro a1 hsl
    refine ops_go rfl rfl (fun K hK => ?_)
    have e82 := hsl.get 82 _ rfl
    unfold Oper.wp
    go_simp
    clear e82
    try simp only [Exit.then, Exit.inBlock, ↓reduceIte, Nat.reduceEqDiff]
    exact hbad (by unfold baseV; rw [if_neg (fun h => g4 h.2)]) _ _ hsl.nil I0.below
  have e2 : (p2 == [108, 101, 97, 103, 117, 101, 115]) = true := by simpa [wLeagues] using g2
  have e4 : (p4 == [119, 105, 100, 101]) = true := by simpa [wWide] using g4
  obtain ⟨x0, y0, hv0⟩ : ∃ x y : Int, ∀ z t, hyphV p0 = some (z, t) → x = z ∧ y = t := ⟨((hyphV p0).getD (0, 0)).1, ((hyphV p0).getD (0, 0)).2, fun z t h => by simp [h]⟩
  obtain ⟨x1, hv1⟩ : ∃ x : Int, ∀ z, numV p1 = some z → x = z := ⟨(numV p1).getD 0, fun z h => by simp [h]⟩
  obtain ⟨x3, hv3⟩ : ∃ x : Int, ∀ z, numV p3 = some z → x = z := ⟨(numV p3).getD 0, fun z h => by simp [h]⟩
  refine wp_seq ?_
  refine wp_seq ?_
  refine wp_seq ?_
  have e : regionIn Tryz.f64 17 = Code.region 17 _ false := rfl
  rw [e]; clear e
  refine wp_region ?_
  refine ops_go rfl rfl (fun K hK => ?_)
  have e6 := hsl.get 6 _ rfl
  unfold Oper.wp
  go_simp
  clear e6
  refine hK _ _ ?_; clear hK
  refine hsl.go (by decide) ?_; clear hsl; intro a1 hsl
  refine ops_go rfl rfl (fun K hK => ?_)
  have e71 := hsl.get 71 _ rfl
  unfold Oper.wp
  go_simp
  clear e71
  refine hK _ _ ?_; clear hK
  refine hsl.go (by decide) ?_; clear hsl; intro a1 hsl
  refine ops_go rfl rfl (fun K hK => ?_)
  have e72 := hsl.get 72 _ rfl
  unfold Oper.wp
  go_simp
  clear e72
  refine hK _ _ ?_; clear hK
  refine hsl.go (by decide) ?_; clear hsl; intro a1 hsl
  refine ops_go rfl rfl (fun K hK => ?_)
  have e73 := hsl.get 73 _ rfl
  unfold Oper.wp
  go_simp
  clear e73
  refine hK _ _ ?_; clear hK
  refine hsl.go (by decide) ?_; clear hsl; intro a1 hsl
  refine ops_go rfl rfl (fun K hK => ?_)
  have e74 := hsl.get 74 _ rfl
  unfold Oper.wp
  go_simp
  clear e74
  refine hK _ _ ?_; clear hK
  refine hsl.go (by decide) ?_; clear hsl; intro a1 hsl
  refine ops_want rfl rfl rfl rfl (hsl.get 75 _ rfl) (fun K hK => ?_)
  have e6 := hsl.get 6 _ rfl
  unfold Oper.wp
  go_simp
  clear e6
  refine hK _ _ ?_; clear hK
  refine hsl.go (by decide) ?_; clear hsl; intro a1 hsl
  refine ops_want rfl rfl rfl rfl (hsl.get 75 _ rfl) (fun K hK => ?_)
  have e76 := hsl.get 76 _ rfl
  unfold Oper.wp
  go_simp
  clear e76
  refine hK _ _ ?_; clear hK
  refine hsl.go (by decide) ?_; clear hsl; intro a1 hsl
  refine ops_want rfl rfl rfl rfl (hsl.get 75 _ rfl) (fun K hK => ?_)
  have e77 := hsl.get 77 _ rfl
  unfold Oper.wp
  go_simp
  clear e77
  refine hK _ _ ?_; clear hK
  refine hsl.go (by decide) ?_; clear hsl; intro a1 hsl
  refine ops_want rfl rfl rfl rfl (hsl.get 75 _ rfl) (fun K hK => ?_)
  have e78 := hsl.get 78 _ rfl
  unfold Oper.wp
  go_simp
  clear e78
  refine hK _ _ ?_; clear hK
  refine hsl.go (by decide) ?_; clear hsl; intro a1 hsl
  refine ops_go rfl rfl (fun K hK => ?_)
  have e75 := hsl.get 75 _ rfl
  have e79 := hsl.get 79 _ rfl
  unfold Oper.wp
  go_simp
  clear e75 e79
  refine hK _ _ ?_; clear hK
  refine hsl.go (by decide) ?_; clear hsl; intro a1 hsl
  refine ops_done ?_
  try simp only [Exit.then, Exit.inBlock, ↓reduceIte, Nat.reduceEqDiff]
  refine wp_cond_false (hsl.ev 80 rfl) ?_
  refine wp_skip ?_
  try simp only [Exit.then, Exit.inBlock, ↓reduceIte, Nat.reduceEqDiff]
  refine wp_seq ?_
  refine st19_7 w0 w n bx r4 r5 g C p0 hC0 hl0 kK kX kY 0 0 x0 y0 hv0 I0 _ ((((hsl.nil.cons (hsl.get 6 _ rfl)).cons (hsl.get 5 _ rfl)).cons (hsl.get 4 _ rfl)).cons (hsl.get 2 _ rfl)) _ ?_ ?_
  · intro hn a x hs hb
    try simp only [Exit.then, Exit.inBlock, ↓reduceIte, Nat.reduceEqDiff]
    exact hbad (by unfold baseV; rw [if_pos ⟨g2, g4⟩, hn]) _ _ hs.nil hb
  intro hq0 a1 w1 hs1 I1; clear hsl; have hsl := hs1; clear hs1
  try simp only [Exit.then, Exit.inBlock, ↓reduceIte, Nat.reduceEqDiff]
  refine st20_7 w0 w1 n bx r4 r5 g C p1 p3 hC1 hC3 kK kX kY x0 y0 x1 hv1 x3 hv3 I1 _ hsl _ ?_ ?_
  · intro hn a x hs hb
    try simp only [Exit.then, Exit.inBlock, ↓reduceIte, Nat.reduceEqDiff]
    refine hbad ?_ _ _ hs.nil hb
    unfold baseV; rw [if_pos ⟨g2, g4⟩, hq0]
    rcases hn with hn | hn <;> rw [hn]
    cases numV p1 <;> rfl
  intro hq1 hq3 a2 w2 hs2 I2; clear hsl; have hsl := hs2; clear hs2
  try simp only [Exit.then, Exit.inBlock, ↓reduceIte, Nat.reduceEqDiff]
  refine wp_exit ?_
  try simp only [Exit.then, Exit.inBlock, ↓reduceIte, Nat.reduceEqDiff]
  exact h ⟨x0, y0, x1, x3, kK, kX, kY⟩ _ _ (by unfold baseV; rw [if_pos ⟨g2, g4⟩, hq0, hq1, hq3]) hsl I2
set_option maxRecDepth 100000 in
set_option maxHeartbeats 4000000 in
theorem tail_8 (w0 w : World) (n : Int) (bx r4 r5 g : Nat) (C : Array Value) (p0 p1 p2 p3 p4 : List UInt8) (hC0 : C[0]? = some (.string ⟨p0.toArray⟩)) (hC1 : C[1]? = some (.string ⟨p1.toArray⟩)) (hC2 : C[2]? = some (.string ⟨p2.toArray⟩)) (hC3 : C[3]? = some (.string ⟨p3.toArray⟩)) (hC4 : C[4]? = some (.string ⟨p4.toArray⟩)) (hl0 : p0.length < 4294967281) (kK kX kY : Int) (I0 : SI w0 w n bx r4 r5 g C (#[.int .i64 0, .int .i64 0, .int .i64 0, .int .i64 0, .int .i64 kK, .int .i64 kX, .int .i64 kY])) (a0 : Act) (hsl : Sl a0 108 [(2, .pointer (some ⟨bx, 0, none⟩)), (4, .pointer (some ⟨r4, 0, none⟩)), (5, .pointer (some ⟨r5, 0, none⟩)), (6, .slice (some ⟨g, 0, none⟩) 8 8)]) (Q : Exit → Act → World → Prop) (hbad : baseV p0 p1 p2 p3 p4 kK kX kY = none → ∀ a x, Sl a 108 [] → Below w0.heap.size w0 x → Q (.panic (wrongP n)) a x) (h : ∀ s a x, baseV p0 p1 p2 p3 p4 kK kX kY = some s → Sl a 108 [(2, .pointer (some ⟨bx, 0, none⟩)), (4, .pointer (some ⟨r4, 0, none⟩)), (5, .pointer (some ⟨r5, 0, none⟩)), (6, .slice (some ⟨g, 0, none⟩) 8 8)] → SI w0 x n bx r4 r5 g C (#[.int .i64 s.A, .int .i64 s.B, .int .i64 s.L, .int .i64 s.W, .int .i64 s.K, .int .i64 s.X, .int .i64 s.Y]) → Q (.exit 0) a x) : (Code.seq (Code.seq (Code.seq (regionIn Tryz.f64 17) (Code.cond (Operand.tmp 80) (regionIn Tryz.f64 18) Code.skip)) (Code.seq (regionIn Tryz.f64 19) (regionIn Tryz.f64 20))) (Code.exit 0)).wp Tryz.prog Q a0 w := by
  have hbx := I0.kb.cell (o := 0) rfl
  have c2 := I0.kg.cell hC2
  have c4 := I0.kg.cell hC4
  by_cases g2 : p2 = wLeagues
  rotate_left
  · have e2 : (p2 == [108, 101, 97, 103, 117, 101, 115]) = false := by simpa [wLeagues] using g2
    refine wp_seq ?_
    refine wp_seq ?_
    refine wp_seq ?_
    have e : regionIn Tryz.f64 17 = Code.region 17 _ false := rfl
    rw [e]; clear e
    refine wp_region ?_
    refine ops_go rfl rfl (fun K hK => ?_)
    have e6 := hsl.get 6 _ rfl
    unfold Oper.wp
    go_simp
    clear e6
    refine hK _ _ ?_; clear hK
    refine hsl.go (by decide) ?_; clear hsl; intro a1 hsl
    refine ops_go rfl rfl (fun K hK => ?_)
    have e71 := hsl.get 71 _ rfl
    unfold Oper.wp
    go_simp
    clear e71
    refine hK _ _ ?_; clear hK
    refine hsl.go (by decide) ?_; clear hsl; intro a1 hsl
    refine ops_go rfl rfl (fun K hK => ?_)
    have e72 := hsl.get 72 _ rfl
    unfold Oper.wp
    go_simp
    clear e72
    refine hK _ _ ?_; clear hK
    refine hsl.go (by decide) ?_; clear hsl; intro a1 hsl
    refine ops_go rfl rfl (fun K hK => ?_)
    have e73 := hsl.get 73 _ rfl
    unfold Oper.wp
    go_simp
    clear e73
    refine hK _ _ ?_; clear hK
    refine hsl.go (by decide) ?_; clear hsl; intro a1 hsl
    refine ops_go rfl rfl (fun K hK => ?_)
    have e74 := hsl.get 74 _ rfl
    unfold Oper.wp
    go_simp
    clear e74
    refine hK _ _ ?_; clear hK
    refine hsl.go (by decide) ?_; clear hsl; intro a1 hsl
    refine ops_skip rfl rfl rfl rfl (hsl.get 75 _ rfl) (by decide) ?_
    refine hsl.go (by decide) ?_; clear hsl; intro a1 hsl
    refine ops_skip rfl rfl rfl rfl (hsl.get 75 _ rfl) (by decide) ?_
    refine hsl.go (by decide) ?_; clear hsl; intro a1 hsl
    refine ops_skip rfl rfl rfl rfl (hsl.get 75 _ rfl) (by decide) ?_
    refine hsl.go (by decide) ?_; clear hsl; intro a1 hsl
    refine ops_skip rfl rfl rfl rfl (hsl.get 75 _ rfl) (by decide) ?_
    refine hsl.go (by decide) ?_; clear hsl; intro a1 hsl
    refine ops_go rfl rfl (fun K hK => ?_)
    have e75 := hsl.get 75 _ rfl
    have e79 := hsl.get 79 _ rfl
    unfold Oper.wp
    go_simp
    clear e75 e79
    refine hK _ _ ?_; clear hK
    refine hsl.go (by decide) ?_; clear hsl; intro a1 hsl
    refine ops_done ?_
    try simp only [Exit.then, Exit.inBlock, ↓reduceIte, Nat.reduceEqDiff]
    refine wp_cond_true (hsl.ev 80 rfl) ?_
    have e : regionIn Tryz.f64 18 = Code.region 18 _ false := rfl
    rw [e]; clear e
    refine wp_region ?_
    refine ops_go rfl rfl (fun K hK => ?_)
    have e2 := hsl.get 2 _ rfl
    unfold Oper.wp
    go_simp
    clear e2
    refine hK _ _ ?_; clear hK
    refine hsl.go (by decide) ?_; clear hsl; intro a1 hsl
    refine ops_go rfl rfl (fun K hK => ?_)
    have e81 := hsl.get 81 _ rfl
    unfold Oper.wp
    go_simp
    clear e81
    refine hK _ _ ?_; clear hK
    refine hsl.go (by decide) ?_; clear hsl; intro a1 hsl
    refine ops_go rfl rfl (fun K hK => ?_)
    have e82 := hsl.get 82 _ rfl
    unfold Oper.wp
    go_simp
    clear e82
    try simp only [Exit.then, Exit.inBlock, ↓reduceIte, Nat.reduceEqDiff]
    exact hbad (by unfold baseV; rw [if_neg (fun h => g2 h.1)]) _ _ hsl.nil I0.below
  by_cases g4 : p4 = wWide
  rotate_left
  · have e2 : (p2 == [108, 101, 97, 103, 117, 101, 115]) = true := by simpa [wLeagues] using g2
    have e4 : (p4 == [119, 105, 100, 101]) = false := by simpa [wWide] using g4
    refine wp_seq ?_
    refine wp_seq ?_
    refine wp_seq ?_
    have e : regionIn Tryz.f64 17 = Code.region 17 _ false := rfl
    rw [e]; clear e
    refine wp_region ?_
    refine ops_go rfl rfl (fun K hK => ?_)
    have e6 := hsl.get 6 _ rfl
    unfold Oper.wp
    go_simp
    clear e6
    refine hK _ _ ?_; clear hK
    refine hsl.go (by decide) ?_; clear hsl; intro a1 hsl
    refine ops_go rfl rfl (fun K hK => ?_)
    have e71 := hsl.get 71 _ rfl
    unfold Oper.wp
    go_simp
    clear e71
    refine hK _ _ ?_; clear hK
    refine hsl.go (by decide) ?_; clear hsl; intro a1 hsl
    refine ops_go rfl rfl (fun K hK => ?_)
    have e72 := hsl.get 72 _ rfl
    unfold Oper.wp
    go_simp
    clear e72
    refine hK _ _ ?_; clear hK
    refine hsl.go (by decide) ?_; clear hsl; intro a1 hsl
    refine ops_go rfl rfl (fun K hK => ?_)
    have e73 := hsl.get 73 _ rfl
    unfold Oper.wp
    go_simp
    clear e73
    refine hK _ _ ?_; clear hK
    refine hsl.go (by decide) ?_; clear hsl; intro a1 hsl
    refine ops_go rfl rfl (fun K hK => ?_)
    have e74 := hsl.get 74 _ rfl
    unfold Oper.wp
    go_simp
    clear e74
    refine hK _ _ ?_; clear hK
    refine hsl.go (by decide) ?_; clear hsl; intro a1 hsl
    refine ops_want rfl rfl rfl rfl (hsl.get 75 _ rfl) (fun K hK => ?_)
    have e6 := hsl.get 6 _ rfl
    unfold Oper.wp
    go_simp
    clear e6
    refine hK _ _ ?_; clear hK
    refine hsl.go (by decide) ?_; clear hsl; intro a1 hsl
    refine ops_want rfl rfl rfl rfl (hsl.get 75 _ rfl) (fun K hK => ?_)
    have e76 := hsl.get 76 _ rfl
    unfold Oper.wp
    go_simp
    clear e76
    refine hK _ _ ?_; clear hK
    refine hsl.go (by decide) ?_; clear hsl; intro a1 hsl
    refine ops_want rfl rfl rfl rfl (hsl.get 75 _ rfl) (fun K hK => ?_)
    have e77 := hsl.get 77 _ rfl
    unfold Oper.wp
    go_simp
    clear e77
    refine hK _ _ ?_; clear hK
    refine hsl.go (by decide) ?_; clear hsl; intro a1 hsl
    refine ops_want rfl rfl rfl rfl (hsl.get 75 _ rfl) (fun K hK => ?_)
    have e78 := hsl.get 78 _ rfl
    unfold Oper.wp
    go_simp
    clear e78
    refine hK _ _ ?_; clear hK
    refine hsl.go (by decide) ?_; clear hsl; intro a1 hsl
    refine ops_go rfl rfl (fun K hK => ?_)
    have e75 := hsl.get 75 _ rfl
    have e79 := hsl.get 79 _ rfl
    unfold Oper.wp
    go_simp
    clear e75 e79
    refine hK _ _ ?_; clear hK
    refine hsl.go (by decide) ?_; clear hsl; intro a1 hsl
    refine ops_done ?_
    try simp only [Exit.then, Exit.inBlock, ↓reduceIte, Nat.reduceEqDiff]
    refine wp_cond_true (hsl.ev 80 rfl) ?_
    have e : regionIn Tryz.f64 18 = Code.region 18 _ false := rfl
    rw [e]; clear e
    refine wp_region ?_
    refine ops_go rfl rfl (fun K hK => ?_)
    have e2 := hsl.get 2 _ rfl
    unfold Oper.wp
    go_simp
    clear e2
    refine hK _ _ ?_; clear hK
    refine hsl.go (by decide) ?_; clear hsl; intro a1 hsl
    refine ops_go rfl rfl (fun K hK => ?_)
    have e81 := hsl.get 81 _ rfl
    unfold Oper.wp
    go_simp
    clear e81
    refine hK _ _ ?_; clear hK
    refine hsl.go (by decide) ?_; clear hsl; intro a1 hsl
    refine ops_go rfl rfl (fun K hK => ?_)
    have e82 := hsl.get 82 _ rfl
    unfold Oper.wp
    go_simp
    clear e82
    try simp only [Exit.then, Exit.inBlock, ↓reduceIte, Nat.reduceEqDiff]
    exact hbad (by unfold baseV; rw [if_neg (fun h => g4 h.2)]) _ _ hsl.nil I0.below
  have e2 : (p2 == [108, 101, 97, 103, 117, 101, 115]) = true := by simpa [wLeagues] using g2
  have e4 : (p4 == [119, 105, 100, 101]) = true := by simpa [wWide] using g4
  obtain ⟨x0, y0, hv0⟩ : ∃ x y : Int, ∀ z t, hyphV p0 = some (z, t) → x = z ∧ y = t := ⟨((hyphV p0).getD (0, 0)).1, ((hyphV p0).getD (0, 0)).2, fun z t h => by simp [h]⟩
  obtain ⟨x1, hv1⟩ : ∃ x : Int, ∀ z, numV p1 = some z → x = z := ⟨(numV p1).getD 0, fun z h => by simp [h]⟩
  obtain ⟨x3, hv3⟩ : ∃ x : Int, ∀ z, numV p3 = some z → x = z := ⟨(numV p3).getD 0, fun z h => by simp [h]⟩
  refine wp_seq ?_
  refine wp_seq ?_
  refine wp_seq ?_
  have e : regionIn Tryz.f64 17 = Code.region 17 _ false := rfl
  rw [e]; clear e
  refine wp_region ?_
  refine ops_go rfl rfl (fun K hK => ?_)
  have e6 := hsl.get 6 _ rfl
  unfold Oper.wp
  go_simp
  clear e6
  refine hK _ _ ?_; clear hK
  refine hsl.go (by decide) ?_; clear hsl; intro a1 hsl
  refine ops_go rfl rfl (fun K hK => ?_)
  have e71 := hsl.get 71 _ rfl
  unfold Oper.wp
  go_simp
  clear e71
  refine hK _ _ ?_; clear hK
  refine hsl.go (by decide) ?_; clear hsl; intro a1 hsl
  refine ops_go rfl rfl (fun K hK => ?_)
  have e72 := hsl.get 72 _ rfl
  unfold Oper.wp
  go_simp
  clear e72
  refine hK _ _ ?_; clear hK
  refine hsl.go (by decide) ?_; clear hsl; intro a1 hsl
  refine ops_go rfl rfl (fun K hK => ?_)
  have e73 := hsl.get 73 _ rfl
  unfold Oper.wp
  go_simp
  clear e73
  refine hK _ _ ?_; clear hK
  refine hsl.go (by decide) ?_; clear hsl; intro a1 hsl
  refine ops_go rfl rfl (fun K hK => ?_)
  have e74 := hsl.get 74 _ rfl
  unfold Oper.wp
  go_simp
  clear e74
  refine hK _ _ ?_; clear hK
  refine hsl.go (by decide) ?_; clear hsl; intro a1 hsl
  refine ops_want rfl rfl rfl rfl (hsl.get 75 _ rfl) (fun K hK => ?_)
  have e6 := hsl.get 6 _ rfl
  unfold Oper.wp
  go_simp
  clear e6
  refine hK _ _ ?_; clear hK
  refine hsl.go (by decide) ?_; clear hsl; intro a1 hsl
  refine ops_want rfl rfl rfl rfl (hsl.get 75 _ rfl) (fun K hK => ?_)
  have e76 := hsl.get 76 _ rfl
  unfold Oper.wp
  go_simp
  clear e76
  refine hK _ _ ?_; clear hK
  refine hsl.go (by decide) ?_; clear hsl; intro a1 hsl
  refine ops_want rfl rfl rfl rfl (hsl.get 75 _ rfl) (fun K hK => ?_)
  have e77 := hsl.get 77 _ rfl
  unfold Oper.wp
  go_simp
  clear e77
  refine hK _ _ ?_; clear hK
  refine hsl.go (by decide) ?_; clear hsl; intro a1 hsl
  refine ops_want rfl rfl rfl rfl (hsl.get 75 _ rfl) (fun K hK => ?_)
  have e78 := hsl.get 78 _ rfl
  unfold Oper.wp
  go_simp
  clear e78
  refine hK _ _ ?_; clear hK
  refine hsl.go (by decide) ?_; clear hsl; intro a1 hsl
  refine ops_go rfl rfl (fun K hK => ?_)
  have e75 := hsl.get 75 _ rfl
  have e79 := hsl.get 79 _ rfl
  unfold Oper.wp
  go_simp
  clear e75 e79
  refine hK _ _ ?_; clear hK
  refine hsl.go (by decide) ?_; clear hsl; intro a1 hsl
  refine ops_done ?_
  try simp only [Exit.then, Exit.inBlock, ↓reduceIte, Nat.reduceEqDiff]
  refine wp_cond_false (hsl.ev 80 rfl) ?_
  refine wp_skip ?_
  try simp only [Exit.then, Exit.inBlock, ↓reduceIte, Nat.reduceEqDiff]
  refine wp_seq ?_
  refine st19_8 w0 w n bx r4 r5 g C p0 hC0 hl0 kK kX kY 0 0 x0 y0 hv0 I0 _ ((((hsl.nil.cons (hsl.get 6 _ rfl)).cons (hsl.get 5 _ rfl)).cons (hsl.get 4 _ rfl)).cons (hsl.get 2 _ rfl)) _ ?_ ?_
  · intro hn a x hs hb
    try simp only [Exit.then, Exit.inBlock, ↓reduceIte, Nat.reduceEqDiff]
    exact hbad (by unfold baseV; rw [if_pos ⟨g2, g4⟩, hn]) _ _ hs.nil hb
  intro hq0 a1 w1 hs1 I1; clear hsl; have hsl := hs1; clear hs1
  try simp only [Exit.then, Exit.inBlock, ↓reduceIte, Nat.reduceEqDiff]
  refine st20_8 w0 w1 n bx r4 r5 g C p1 p3 hC1 hC3 kK kX kY x0 y0 x1 hv1 x3 hv3 I1 _ hsl _ ?_ ?_
  · intro hn a x hs hb
    try simp only [Exit.then, Exit.inBlock, ↓reduceIte, Nat.reduceEqDiff]
    refine hbad ?_ _ _ hs.nil hb
    unfold baseV; rw [if_pos ⟨g2, g4⟩, hq0]
    rcases hn with hn | hn <;> rw [hn]
    cases numV p1 <;> rfl
  intro hq1 hq3 a2 w2 hs2 I2; clear hsl; have hsl := hs2; clear hs2
  try simp only [Exit.then, Exit.inBlock, ↓reduceIte, Nat.reduceEqDiff]
  refine wp_exit ?_
  try simp only [Exit.then, Exit.inBlock, ↓reduceIte, Nat.reduceEqDiff]
  exact h ⟨x0, y0, x1, x3, kK, kX, kY⟩ _ _ (by unfold baseV; rw [if_pos ⟨g2, g4⟩, hq0, hq1, hq3]) hsl I2
set_option maxRecDepth 100000 in
theorem strip_body : Tryz.f64.body = some (Code.seq (regionIn Tryz.f64 0) (Code.seq (regionIn Tryz.f64 1) (Code.seq (regionIn Tryz.f64 2) (Code.seq (Code.seq (regionIn Tryz.f64 3) (Code.block 0 (Code.seq (Code.block 4 (Code.seq (Code.block 3 (Code.seq (Code.block 2 (Code.seq (Code.block 1 (Code.seq (Code.seq (Code.seq (regionIn Tryz.f64 4) (Code.cond (Operand.tmp 12) (Code.exit 1) Code.skip)) (Code.seq (Code.seq (regionIn Tryz.f64 5) (Code.cond (Operand.tmp 14) (Code.exit 2) Code.skip)) (Code.seq (regionIn Tryz.f64 6) (Code.cond (Operand.tmp 16) (Code.exit 3) Code.skip)))) (Code.exit 4))) (Code.seq (Code.seq (regionIn Tryz.f64 7) (Code.cond (Operand.tmp 21) (regionIn Tryz.f64 8) Code.skip)) (regionIn Tryz.f64 9)))) (Code.block 5 (Code.seq (regionIn Tryz.f64 11) (Code.cond (Operand.tmp 39) Code.skip (Code.seq (regionIn Tryz.f64 12) (Code.cond (Operand.tmp 43) (Code.seq (regionIn Tryz.f64 13) (regionIn Tryz.f64 14)) (Code.seq (regionIn Tryz.f64 15) (Code.cond (Operand.tmp 59) (regionIn Tryz.f64 16) (regionIn Tryz.f64 10)))))))))) (Code.seq (Code.seq (Code.seq (regionIn Tryz.f64 17) (Code.cond (Operand.tmp 80) (regionIn Tryz.f64 18) Code.skip)) (Code.seq (regionIn Tryz.f64 19) (regionIn Tryz.f64 20))) (Code.exit 0)))) (Code.seq (regionIn Tryz.f64 21) (Code.exit 0))))) (Code.seq (regionIn Tryz.f64 22) Code.ret))))) := rfl
def StripPost (w : World) (n : Int) (o : Option Strip) : Ending → World → Prop := fun e w' => Below w.heap.size w w' ∧ e = match o with | some s => .returned s.val | none => .panicked (wrongP n)
theorem splitC_le (c : UInt8) : ∀ (s : List UInt8), ∀ x ∈ splitC c s, x.length ≤ s.length
  | [], x, h => by simp [splitC] at h; simp [h]
  | y :: t, x, h => by
    have ih := splitC_le c t
    unfold splitC at h
    split at h
    · simp only [List.mem_cons] at h
      rcases h with rfl | h
      · simp
      · have := ih x h; simp only [List.length_cons]; omega
    · cases hs : splitC c t with
      | nil => exact absurd hs (splitC_ne c t)
      | cons k r =>
        rw [hs] at h ih
        simp only [List.mem_cons] at h
        rcases h with rfl | h
        · have := ih k (by simp); simp only [List.length_cons]; omega
        · have := ih x (by simp [h]); simp only [List.length_cons]; omega
set_option maxRecDepth 100000 in
set_option maxHeartbeats 4000000 in
theorem stripO (w : World) (n : Int) (s : List UInt8)  (hm : MaxOk w) (hs : s.length < 4294967281) (hk8 : (((splitC 32 s).length : Int) == 8) = false) (hk7 : (((splitC 32 s).length : Int) == 7) = false) (hk5 : (((splitC 32 s).length : Int) == 5) = false) : Calls Tryz.prog 64 #[.agg #[.int .i64 n], .string ⟨s.toArray⟩] w (StripPost w n none) := by
  refine calls_of_wp Tryz.func64 strip_body ?_
  have hsl : Sl (⟨#[.agg #[.int .i64 n], .string ⟨s.toArray⟩] ++ Array.replicate (Tryz.f64.ntmps - (#[.agg #[.int .i64 n], .string ⟨s.toArray⟩] : Array Value).size) undef, []⟩ : Act) 108 [(0, .agg #[.int .i64 n]), (1, .string ⟨s.toArray⟩)] := by rw [Tryz.ntmps64]; exact Sl.entry2 _ _ (by omega)
  revert hsl; generalize (Act.mk _ _) = a0; intro hsl
  refine wp_seq ?_
  have e : regionIn Tryz.f64 0 = Code.region 0 _ false := rfl
  rw [e]; clear e
  refine wp_region ?_
  refine ops_go rfl rfl (fun K hK => ?_)
  have e0 := hsl.get 0 _ rfl
  unfold Oper.wp
  go_simp
  clear e0
  refine hK _ _ ?_; clear hK
  refine hsl.go (by decide) ?_; clear hsl; intro a1 hsl
  refine alloc_rwB (G := fun W => wpOps _ _ _ _ _ W) ?_
  intro w1 hz X1 hb
  generalize hg : w.heap.size = bx at X1 hsl
  have o1 : w.heap.size ≤ bx ∧ bx < w1.heap.size := by omega
  clear hg hz
  have HB := hb; clear hb
  refine ops_go rfl rfl (fun K hK => ?_)
  unfold Oper.wp
  go_simp
  refine hK _ _ ?_; clear hK
  refine hsl.go (by decide) ?_; clear hsl; intro a1 hsl
  refine alloc_rwB (G := fun W => wpOps _ _ _ _ _ W) ?_
  intro w2 hz X4 hb
  replace X1 := X1.below hb
  generalize hg : w1.heap.size = r4 at X4 hsl
  have o2 : bx < r4 ∧ r4 < w2.heap.size := by omega
  clear hg hz
  replace HB := HB.trans (hb.mono HB.size); clear hb
  refine ops_done ?_
  try simp only [Exit.then, Exit.inBlock, ↓reduceIte, Nat.reduceEqDiff]
  refine wp_seq ?_
  have e : regionIn Tryz.f64 1 = Code.region 1 _ false := rfl
  rw [e]; clear e
  refine wp_region ?_
  refine ops_go rfl rfl (fun K hK => ?_)
  unfold Oper.wp
  go_simp
  refine hK _ _ ?_; clear hK
  refine hsl.go (by decide) ?_; clear hsl; intro a1 hsl
  refine ops_go rfl rfl (fun K hK => ?_)
  unfold Oper.wp
  go_simp
  refine hK _ _ ?_; clear hK
  refine hsl.go (by decide) ?_; clear hsl; intro a1 hsl
  refine alloc_rwB (G := fun W => wpOps _ _ _ _ _ W) ?_
  intro w3 hz X5 hb
  replace X1 := X1.below hb
  replace X4 := X4.below hb
  generalize hg : w2.heap.size = r5 at X5 hsl
  have o3 : r4 < r5 ∧ r5 < w3.heap.size := by omega
  clear hg hz
  replace HB := HB.trans (hb.mono HB.size); clear hb
  refine ops_go rfl rfl (fun K hK => ?_)
  have e5 := hsl.get 5 _ rfl
  have e7 := hsl.get 7 _ rfl
  have z0 := X5.cell (o := 0) rfl
  have f0 := X5.fz 0
  have z1 := X5.cell (o := 1) rfl
  have f1 := X5.fz 1
  have z2 := X5.cell (o := 2) rfl
  have f2 := X5.fz 2
  have z3 := X5.cell (o := 3) rfl
  have f3 := X5.fz 3
  have z4 := X5.cell (o := 4) rfl
  have f4 := X5.fz 4
  have z5 := X5.cell (o := 5) rfl
  have f5 := X5.fz 5
  have z6 := X5.cell (o := 6) rfl
  have f6 := X5.fz 6
  unfold Oper.wp
  go_simp
  clear e5 e7
  refine hK _ _ ?_; clear hK
  clear z0 f0 z1 f1 z2 f2 z3 f3 z4 f4 z5 f5 z6 f6
  replace X1 := ((((((X1.far (g := r5) (by omega) 0 (.int .i64 0)).far (g := r5) (by omega) 1 (.int .i64 0)).far (g := r5) (by omega) 2 (.int .i64 0)).far (g := r5) (by omega) 3 (.int .i64 0)).far (g := r5) (by omega) 4 (.int .i64 1)).far (g := r5) (by omega) 5 (.int .i64 0)).far (g := r5) (by omega) 6 (.int .i64 0)
  replace X4 := ((((((X4.far (g := r5) (by omega) 0 (.int .i64 0)).far (g := r5) (by omega) 1 (.int .i64 0)).far (g := r5) (by omega) 2 (.int .i64 0)).far (g := r5) (by omega) 3 (.int .i64 0)).far (g := r5) (by omega) 4 (.int .i64 1)).far (g := r5) (by omega) 5 (.int .i64 0)).far (g := r5) (by omega) 6 (.int .i64 0)
  replace X5 := ((((((X5.set 0 (.int .i64 0)).set 1 (.int .i64 0)).set 2 (.int .i64 0)).set 3 (.int .i64 0)).set 4 (.int .i64 1)).set 5 (.int .i64 0)).set 6 (.int .i64 0)
  have h5 : w.heap.size ≤ r5 := by omega
  replace HB := ((((((HB.setCell (p := ⟨r5, 0, none⟩) h5 (.int .i64 0)).setCell (p := ⟨r5, 1, none⟩) h5 (.int .i64 0)).setCell (p := ⟨r5, 2, none⟩) h5 (.int .i64 0)).setCell (p := ⟨r5, 3, none⟩) h5 (.int .i64 0)).setCell (p := ⟨r5, 4, none⟩) h5 (.int .i64 1)).setCell (p := ⟨r5, 5, none⟩) h5 (.int .i64 0)).setCell (p := ⟨r5, 6, none⟩) h5 (.int .i64 0)
  replace X5 : Rw _ r5 #[.int .i64 0, .int .i64 0, .int .i64 0, .int .i64 0, .int .i64 1, .int .i64 0, .int .i64 0] 63 := X5
  have o4 := X5.lt
  generalize (World.setCell _ _ _) = w4 at X1 X4 X5 HB o4 ⊢
  refine ops_done ?_
  try simp only [Exit.then, Exit.inBlock, ↓reduceIte, Nat.reduceEqDiff]
  refine wp_seq ?_
  have e : regionIn Tryz.f64 2 = Code.region 2 _ false := rfl
  rw [e]; clear e
  refine wp_region ?_
  refine ops_go rfl rfl (fun K hK => ?_)
  have e1 := hsl.get 1 _ rfl
  unfold Oper.wp
  go_simp
  clear e1
  refine hK _ _ ?_; clear hK
  refine hsl.go (by decide) ?_; clear hsl; intro a1 hsl
  refine ops_go rfl rfl (fun K hK => ?_)
  have e8 := hsl.get 8 _ rfl
  unfold Oper.wp
  go_simp
  refine (split_any _ 32 s (hm.below HB) hs).mono ?_
  rintro e w5 ⟨g, hg, rfl, XG, hb⟩
  generalize (splitC 32 s).length = len at hk8 hk7 hk5 ⊢
  have I0 : SI w w5 n bx r4 r5 g _ _ := ⟨HB.trans (hb.mono HB.size), hm, X1.below hb, X4.below hb, X5.below hb, XG, by omega⟩
  clear HB X1 X4 X5 XG hb
  clear e8
  refine hK _ _ ?_; clear hK
  refine hsl.go (by decide) ?_; clear hsl; intro a1 hsl
  refine ops_go rfl rfl (fun K hK => ?_)
  have e9 := hsl.get 9 _ rfl
  unfold Oper.wp
  go_simp
  clear e9
  refine hK _ _ ?_; clear hK
  refine hsl.go (by decide) ?_; clear hsl; intro a1 hsl
  refine ops_done ?_
  try simp only [Exit.then, Exit.inBlock, ↓reduceIte, Nat.reduceEqDiff]
  refine wp_seq ?_
  refine wp_seq ?_
  have e : regionIn Tryz.f64 3 = Code.region 3 _ false := rfl
  rw [e]; clear e
  refine wp_region ?_
  refine ops_go rfl rfl (fun K hK => ?_)
  have e6 := hsl.get 6 _ rfl
  unfold Oper.wp
  go_simp
  clear e6
  refine hK _ _ ?_; clear hK
  refine hsl.go (by decide) ?_; clear hsl; intro a1 hsl
  refine ops_go rfl rfl (fun K hK => ?_)
  have e10 := hsl.get 10 _ rfl
  unfold Oper.wp
  go_simp
  clear e10
  refine hK _ _ ?_; clear hK
  refine hsl.go (by decide) ?_; clear hsl; intro a1 hsl
  refine ops_done ?_
  try simp only [Exit.then, Exit.inBlock, ↓reduceIte, Nat.reduceEqDiff]
  refine wp_block ?_
  refine wp_seq ?_
  refine wp_block ?_
  refine wp_seq ?_
  refine wp_block ?_
  refine wp_seq ?_
  refine wp_block ?_
  refine wp_seq ?_
  refine wp_block ?_
  refine wp_seq ?_
  refine wp_seq ?_
  refine wp_seq ?_
  have e : regionIn Tryz.f64 4 = Code.region 4 _ false := rfl
  rw [e]; clear e
  refine wp_region ?_
  refine ops_go rfl rfl (fun K hK => ?_)
  have e11 := hsl.get 11 _ rfl
  unfold Oper.wp
  go_simp
  clear e11
  refine hK _ _ ?_; clear hK
  refine hsl.go (by decide) ?_; clear hsl; intro a1 hsl
  refine ops_go rfl rfl (fun K hK => ?_)
  have e13 := hsl.get 13 _ rfl
  unfold Oper.wp
  go_simp
  clear e13
  refine hK _ _ ?_; clear hK
  refine hsl.go (by decide) ?_; clear hsl; intro a1 hsl
  refine ops_done ?_
  try simp only [Exit.then, Exit.inBlock, ↓reduceIte, Nat.reduceEqDiff]
  refine wp_cond_false (hsl.ev 12 rfl) ?_
  refine wp_skip ?_
  try simp only [Exit.then, Exit.inBlock, ↓reduceIte, Nat.reduceEqDiff]
  refine wp_seq ?_
  refine wp_seq ?_
  have e : regionIn Tryz.f64 5 = Code.region 5 _ false := rfl
  rw [e]; clear e
  refine wp_region ?_
  refine ops_go rfl rfl (fun K hK => ?_)
  have e11 := hsl.get 11 _ rfl
  unfold Oper.wp
  go_simp
  clear e11
  refine hK _ _ ?_; clear hK
  refine hsl.go (by decide) ?_; clear hsl; intro a1 hsl
  refine ops_go rfl rfl (fun K hK => ?_)
  have e15 := hsl.get 15 _ rfl
  unfold Oper.wp
  go_simp
  clear e15
  refine hK _ _ ?_; clear hK
  refine hsl.go (by decide) ?_; clear hsl; intro a1 hsl
  refine ops_done ?_
  try simp only [Exit.then, Exit.inBlock, ↓reduceIte, Nat.reduceEqDiff]
  refine wp_cond_false (hsl.ev 14 rfl) ?_
  refine wp_skip ?_
  try simp only [Exit.then, Exit.inBlock, ↓reduceIte, Nat.reduceEqDiff]
  refine wp_seq ?_
  have e : regionIn Tryz.f64 6 = Code.region 6 _ false := rfl
  rw [e]; clear e
  refine wp_region ?_
  refine ops_go rfl rfl (fun K hK => ?_)
  have e11 := hsl.get 11 _ rfl
  unfold Oper.wp
  go_simp
  clear e11
  refine hK _ _ ?_; clear hK
  refine hsl.go (by decide) ?_; clear hsl; intro a1 hsl
  refine ops_go rfl rfl (fun K hK => ?_)
  have e17 := hsl.get 17 _ rfl
  unfold Oper.wp
  go_simp
  clear e17
  refine hK _ _ ?_; clear hK
  refine hsl.go (by decide) ?_; clear hsl; intro a1 hsl
  refine ops_done ?_
  try simp only [Exit.then, Exit.inBlock, ↓reduceIte, Nat.reduceEqDiff]
  refine wp_cond_false (hsl.ev 16 rfl) ?_
  refine wp_skip ?_
  try simp only [Exit.then, Exit.inBlock, ↓reduceIte, Nat.reduceEqDiff]
  refine wp_exit ?_
  try simp only [Exit.then, Exit.inBlock, ↓reduceIte, Nat.reduceEqDiff]
  refine wp_seq ?_
  have e : regionIn Tryz.f64 21 = Code.region 21 _ false := rfl
  rw [e]; clear e
  refine wp_region ?_
  refine ops_go rfl rfl (fun K hK => ?_)
  have e2 := hsl.get 2 _ rfl
  have hbx := I0.kb.cell (o := 0) rfl
  unfold Oper.wp
  go_simp
  clear e2
  refine hK _ _ ?_; clear hK
  refine hsl.go (by decide) ?_; clear hsl; intro a1 hsl
  refine ops_go rfl rfl (fun K hK => ?_)
  have e105 := hsl.get 105 _ rfl
  unfold Oper.wp
  go_simp
  clear e105
  refine hK _ _ ?_; clear hK
  refine hsl.go (by decide) ?_; clear hsl; intro a1 hsl
  refine ops_go rfl rfl (fun K hK => ?_)
  have e106 := hsl.get 106 _ rfl
  unfold Oper.wp
  go_simp
  clear e106
  try simp only [Exit.then, Exit.inBlock, ↓reduceIte, Nat.reduceEqDiff]
  exact ⟨hsl.defers, I0.below, rfl⟩
set_option maxRecDepth 100000 in
set_option maxHeartbeats 4000000 in
theorem strip5 (w : World) (n : Int) (s : List UInt8) (p0 p1 p2 p3 p4 : List UInt8) (hl0 : p0.length < 4294967281) (hm : MaxOk w) (hs : s.length < 4294967281) (hws : splitC 32 s = [p0, p1, p2, p3, p4]) : Calls Tryz.prog 64 #[.agg #[.int .i64 n], .string ⟨s.toArray⟩] w (StripPost w n (stripV [p0, p1, p2, p3, p4])) := by
  refine calls_of_wp Tryz.func64 strip_body ?_
  have hsl : Sl (⟨#[.agg #[.int .i64 n], .string ⟨s.toArray⟩] ++ Array.replicate (Tryz.f64.ntmps - (#[.agg #[.int .i64 n], .string ⟨s.toArray⟩] : Array Value).size) undef, []⟩ : Act) 108 [(0, .agg #[.int .i64 n]), (1, .string ⟨s.toArray⟩)] := by rw [Tryz.ntmps64]; exact Sl.entry2 _ _ (by omega)
  revert hsl; generalize (Act.mk _ _) = a0; intro hsl
  refine wp_seq ?_
  have e : regionIn Tryz.f64 0 = Code.region 0 _ false := rfl
  rw [e]; clear e
  refine wp_region ?_
  refine ops_go rfl rfl (fun K hK => ?_)
  have e0 := hsl.get 0 _ rfl
  unfold Oper.wp
  go_simp
  clear e0
  refine hK _ _ ?_; clear hK
  refine hsl.go (by decide) ?_; clear hsl; intro a1 hsl
  refine alloc_rwB (G := fun W => wpOps _ _ _ _ _ W) ?_
  intro w1 hz X1 hb
  generalize hg : w.heap.size = bx at X1 hsl
  have o1 : w.heap.size ≤ bx ∧ bx < w1.heap.size := by omega
  clear hg hz
  have HB := hb; clear hb
  refine ops_go rfl rfl (fun K hK => ?_)
  unfold Oper.wp
  go_simp
  refine hK _ _ ?_; clear hK
  refine hsl.go (by decide) ?_; clear hsl; intro a1 hsl
  refine alloc_rwB (G := fun W => wpOps _ _ _ _ _ W) ?_
  intro w2 hz X4 hb
  replace X1 := X1.below hb
  generalize hg : w1.heap.size = r4 at X4 hsl
  have o2 : bx < r4 ∧ r4 < w2.heap.size := by omega
  clear hg hz
  replace HB := HB.trans (hb.mono HB.size); clear hb
  refine ops_done ?_
  try simp only [Exit.then, Exit.inBlock, ↓reduceIte, Nat.reduceEqDiff]
  refine wp_seq ?_
  have e : regionIn Tryz.f64 1 = Code.region 1 _ false := rfl
  rw [e]; clear e
  refine wp_region ?_
  refine ops_go rfl rfl (fun K hK => ?_)
  unfold Oper.wp
  go_simp
  refine hK _ _ ?_; clear hK
  refine hsl.go (by decide) ?_; clear hsl; intro a1 hsl
  refine ops_go rfl rfl (fun K hK => ?_)
  unfold Oper.wp
  go_simp
  refine hK _ _ ?_; clear hK
  refine hsl.go (by decide) ?_; clear hsl; intro a1 hsl
  refine alloc_rwB (G := fun W => wpOps _ _ _ _ _ W) ?_
  intro w3 hz X5 hb
  replace X1 := X1.below hb
  replace X4 := X4.below hb
  generalize hg : w2.heap.size = r5 at X5 hsl
  have o3 : r4 < r5 ∧ r5 < w3.heap.size := by omega
  clear hg hz
  replace HB := HB.trans (hb.mono HB.size); clear hb
  refine ops_go rfl rfl (fun K hK => ?_)
  have e5 := hsl.get 5 _ rfl
  have e7 := hsl.get 7 _ rfl
  have z0 := X5.cell (o := 0) rfl
  have f0 := X5.fz 0
  have z1 := X5.cell (o := 1) rfl
  have f1 := X5.fz 1
  have z2 := X5.cell (o := 2) rfl
  have f2 := X5.fz 2
  have z3 := X5.cell (o := 3) rfl
  have f3 := X5.fz 3
  have z4 := X5.cell (o := 4) rfl
  have f4 := X5.fz 4
  have z5 := X5.cell (o := 5) rfl
  have f5 := X5.fz 5
  have z6 := X5.cell (o := 6) rfl
  have f6 := X5.fz 6
  unfold Oper.wp
  go_simp
  clear e5 e7
  refine hK _ _ ?_; clear hK
  clear z0 f0 z1 f1 z2 f2 z3 f3 z4 f4 z5 f5 z6 f6
  replace X1 := ((((((X1.far (g := r5) (by omega) 0 (.int .i64 0)).far (g := r5) (by omega) 1 (.int .i64 0)).far (g := r5) (by omega) 2 (.int .i64 0)).far (g := r5) (by omega) 3 (.int .i64 0)).far (g := r5) (by omega) 4 (.int .i64 1)).far (g := r5) (by omega) 5 (.int .i64 0)).far (g := r5) (by omega) 6 (.int .i64 0)
  replace X4 := ((((((X4.far (g := r5) (by omega) 0 (.int .i64 0)).far (g := r5) (by omega) 1 (.int .i64 0)).far (g := r5) (by omega) 2 (.int .i64 0)).far (g := r5) (by omega) 3 (.int .i64 0)).far (g := r5) (by omega) 4 (.int .i64 1)).far (g := r5) (by omega) 5 (.int .i64 0)).far (g := r5) (by omega) 6 (.int .i64 0)
  replace X5 := ((((((X5.set 0 (.int .i64 0)).set 1 (.int .i64 0)).set 2 (.int .i64 0)).set 3 (.int .i64 0)).set 4 (.int .i64 1)).set 5 (.int .i64 0)).set 6 (.int .i64 0)
  have h5 : w.heap.size ≤ r5 := by omega
  replace HB := ((((((HB.setCell (p := ⟨r5, 0, none⟩) h5 (.int .i64 0)).setCell (p := ⟨r5, 1, none⟩) h5 (.int .i64 0)).setCell (p := ⟨r5, 2, none⟩) h5 (.int .i64 0)).setCell (p := ⟨r5, 3, none⟩) h5 (.int .i64 0)).setCell (p := ⟨r5, 4, none⟩) h5 (.int .i64 1)).setCell (p := ⟨r5, 5, none⟩) h5 (.int .i64 0)).setCell (p := ⟨r5, 6, none⟩) h5 (.int .i64 0)
  replace X5 : Rw _ r5 #[.int .i64 0, .int .i64 0, .int .i64 0, .int .i64 0, .int .i64 1, .int .i64 0, .int .i64 0] 63 := X5
  have o4 := X5.lt
  generalize (World.setCell _ _ _) = w4 at X1 X4 X5 HB o4 ⊢
  refine ops_done ?_
  try simp only [Exit.then, Exit.inBlock, ↓reduceIte, Nat.reduceEqDiff]
  refine wp_seq ?_
  have e : regionIn Tryz.f64 2 = Code.region 2 _ false := rfl
  rw [e]; clear e
  refine wp_region ?_
  refine ops_go rfl rfl (fun K hK => ?_)
  have e1 := hsl.get 1 _ rfl
  unfold Oper.wp
  go_simp
  clear e1
  refine hK _ _ ?_; clear hK
  refine hsl.go (by decide) ?_; clear hsl; intro a1 hsl
  refine ops_go rfl rfl (fun K hK => ?_)
  have e8 := hsl.get 8 _ rfl
  unfold Oper.wp
  go_simp
  refine (split_any _ 32 s (hm.below HB) hs).mono ?_
  rintro e w5 ⟨g, hg, rfl, XG, hb⟩
  rw [hws] at XG ⊢
  simp only [List.length_cons, List.length_nil, Nat.reduceAdd, Nat.zero_add]
  have I0 : SI w w5 n bx r4 r5 g _ _ := ⟨HB.trans (hb.mono HB.size), hm, X1.below hb, X4.below hb, X5.below hb, XG, by omega⟩
  clear HB X1 X4 X5 XG hb
  clear e8
  refine hK _ _ ?_; clear hK
  refine hsl.go (by decide) ?_; clear hsl; intro a1 hsl
  refine ops_go rfl rfl (fun K hK => ?_)
  have e9 := hsl.get 9 _ rfl
  unfold Oper.wp
  go_simp
  clear e9
  refine hK _ _ ?_; clear hK
  refine hsl.go (by decide) ?_; clear hsl; intro a1 hsl
  refine ops_done ?_
  try simp only [Exit.then, Exit.inBlock, ↓reduceIte, Nat.reduceEqDiff]
  refine wp_seq ?_
  refine wp_seq ?_
  have e : regionIn Tryz.f64 3 = Code.region 3 _ false := rfl
  rw [e]; clear e
  refine wp_region ?_
  refine ops_go rfl rfl (fun K hK => ?_)
  have e6 := hsl.get 6 _ rfl
  unfold Oper.wp
  go_simp
  clear e6
  refine hK _ _ ?_; clear hK
  refine hsl.go (by decide) ?_; clear hsl; intro a1 hsl
  refine ops_go rfl rfl (fun K hK => ?_)
  have e10 := hsl.get 10 _ rfl
  unfold Oper.wp
  go_simp
  clear e10
  refine hK _ _ ?_; clear hK
  refine hsl.go (by decide) ?_; clear hsl; intro a1 hsl
  refine ops_done ?_
  try simp only [Exit.then, Exit.inBlock, ↓reduceIte, Nat.reduceEqDiff]
  refine wp_block ?_
  refine wp_seq ?_
  refine wp_block ?_
  refine wp_seq ?_
  refine wp_block ?_
  refine wp_seq ?_
  refine wp_block ?_
  refine wp_seq ?_
  refine wp_block ?_
  refine wp_seq ?_
  refine wp_seq ?_
  refine wp_seq ?_
  have e : regionIn Tryz.f64 4 = Code.region 4 _ false := rfl
  rw [e]; clear e
  refine wp_region ?_
  refine ops_go rfl rfl (fun K hK => ?_)
  have e11 := hsl.get 11 _ rfl
  unfold Oper.wp
  go_simp
  clear e11
  refine hK _ _ ?_; clear hK
  refine hsl.go (by decide) ?_; clear hsl; intro a1 hsl
  refine ops_go rfl rfl (fun K hK => ?_)
  have e13 := hsl.get 13 _ rfl
  unfold Oper.wp
  go_simp
  clear e13
  refine hK _ _ ?_; clear hK
  refine hsl.go (by decide) ?_; clear hsl; intro a1 hsl
  refine ops_done ?_
  try simp only [Exit.then, Exit.inBlock, ↓reduceIte, Nat.reduceEqDiff]
  refine wp_cond_false (hsl.ev 12 rfl) ?_
  refine wp_skip ?_
  try simp only [Exit.then, Exit.inBlock, ↓reduceIte, Nat.reduceEqDiff]
  refine wp_seq ?_
  refine wp_seq ?_
  have e : regionIn Tryz.f64 5 = Code.region 5 _ false := rfl
  rw [e]; clear e
  refine wp_region ?_
  refine ops_go rfl rfl (fun K hK => ?_)
  have e11 := hsl.get 11 _ rfl
  unfold Oper.wp
  go_simp
  clear e11
  refine hK _ _ ?_; clear hK
  refine hsl.go (by decide) ?_; clear hsl; intro a1 hsl
  refine ops_go rfl rfl (fun K hK => ?_)
  have e15 := hsl.get 15 _ rfl
  unfold Oper.wp
  go_simp
  clear e15
  refine hK _ _ ?_; clear hK
  refine hsl.go (by decide) ?_; clear hsl; intro a1 hsl
  refine ops_done ?_
  try simp only [Exit.then, Exit.inBlock, ↓reduceIte, Nat.reduceEqDiff]
  refine wp_cond_false (hsl.ev 14 rfl) ?_
  refine wp_skip ?_
  try simp only [Exit.then, Exit.inBlock, ↓reduceIte, Nat.reduceEqDiff]
  refine wp_seq ?_
  have e : regionIn Tryz.f64 6 = Code.region 6 _ false := rfl
  rw [e]; clear e
  refine wp_region ?_
  refine ops_go rfl rfl (fun K hK => ?_)
  have e11 := hsl.get 11 _ rfl
  unfold Oper.wp
  go_simp
  clear e11
  refine hK _ _ ?_; clear hK
  refine hsl.go (by decide) ?_; clear hsl; intro a1 hsl
  refine ops_go rfl rfl (fun K hK => ?_)
  have e17 := hsl.get 17 _ rfl
  unfold Oper.wp
  go_simp
  clear e17
  refine hK _ _ ?_; clear hK
  refine hsl.go (by decide) ?_; clear hsl; intro a1 hsl
  refine ops_done ?_
  try simp only [Exit.then, Exit.inBlock, ↓reduceIte, Nat.reduceEqDiff]
  refine wp_cond_true (hsl.ev 16 rfl) ?_
  refine wp_exit ?_
  try simp only [Exit.then, Exit.inBlock, ↓reduceIte, Nat.reduceEqDiff]
  refine tail_5 w w5 n bx r4 r5 g _ p0 p1 p2 p3 p4 (by rfl) (by rfl) (by rfl) (by rfl) (by rfl) hl0 1 0 0 I0 _ ((((hsl.nil.cons (hsl.get 6 _ rfl)).cons (hsl.get 5 _ rfl)).cons (hsl.get 4 _ rfl)).cons (hsl.get 2 _ rfl)) _ ?_ ?_
  · intro hn a x hs1 hb
    try simp only [Exit.then, Exit.inBlock, ↓reduceIte, Nat.reduceEqDiff]
    refine ⟨hs1.defers, hb, ?_⟩
    rw [show stripV [p0, p1, p2, p3, p4] = none from hn]
  intro st a1 w6 hst hs1 I1; clear hsl; have hsl := hs1; clear hs1
  try simp only [Exit.then, Exit.inBlock, ↓reduceIte, Nat.reduceEqDiff]
  refine wp_seq ?_
  have e : regionIn Tryz.f64 22 = Code.region 22 _ false := rfl
  rw [e]; clear e
  refine wp_region ?_
  refine ops_go rfl rfl (fun K hK => ?_)
  have e5 := hsl.get 5 _ rfl
  have z0 : w6.cell? ⟨r5, 0, none⟩ = some (.int .i64 st.A) := I1.k5.cell rfl
  have z1 : w6.cell? ⟨r5, 1, none⟩ = some (.int .i64 st.B) := I1.k5.cell rfl
  have z2 : w6.cell? ⟨r5, 2, none⟩ = some (.int .i64 st.L) := I1.k5.cell rfl
  have z3 : w6.cell? ⟨r5, 3, none⟩ = some (.int .i64 st.W) := I1.k5.cell rfl
  have z4 : w6.cell? ⟨r5, 4, none⟩ = some (.int .i64 st.K) := I1.k5.cell rfl
  have z5 : w6.cell? ⟨r5, 5, none⟩ = some (.int .i64 st.X) := I1.k5.cell rfl
  have z6 : w6.cell? ⟨r5, 6, none⟩ = some (.int .i64 st.Y) := I1.k5.cell rfl
  unfold Oper.wp
  go_simp
  clear e5
  refine hK _ _ ?_; clear hK
  refine hsl.go (by decide) ?_; clear hsl; intro a1 hsl
  clear z0 z1 z2 z3 z4 z5 z6
  refine ops_go rfl rfl (fun K hK => ?_)
  have e4 := hsl.get 4 _ rfl
  have e107 := hsl.get 107 _ rfl
  have y0 := I1.k4.cell (o := 0) rfl
  have f0 := I1.k4.fz 0
  have y1 := I1.k4.cell (o := 1) rfl
  have f1 := I1.k4.fz 1
  have y2 := I1.k4.cell (o := 2) rfl
  have f2 := I1.k4.fz 2
  have y3 := I1.k4.cell (o := 3) rfl
  have f3 := I1.k4.fz 3
  have y4 := I1.k4.cell (o := 4) rfl
  have f4 := I1.k4.fz 4
  have y5 := I1.k4.cell (o := 5) rfl
  have f5 := I1.k4.fz 5
  have y6 := I1.k4.cell (o := 6) rfl
  have f6 := I1.k4.fz 6
  unfold Oper.wp
  go_simp
  clear e4 e107
  refine hK _ _ ?_; clear hK
  clear y0 f0 y1 f1 y2 f2 y3 f3 y4 f4 y5 f5 y6 f6
  have X := ((((((I1.k4.set 0 (.int .i64 st.A)).set 1 (.int .i64 st.B)).set 2 (.int .i64 st.L)).set 3 (.int .i64 st.W)).set 4 (.int .i64 st.K)).set 5 (.int .i64 st.X)).set 6 (.int .i64 st.Y)
  have h4 : w.heap.size ≤ r4 := by have := I1.ord; omega
  have HB := ((((((I1.below.setCell (p := ⟨r4, 0, none⟩) h4 (.int .i64 st.A)).setCell (p := ⟨r4, 1, none⟩) h4 (.int .i64 st.B)).setCell (p := ⟨r4, 2, none⟩) h4 (.int .i64 st.L)).setCell (p := ⟨r4, 3, none⟩) h4 (.int .i64 st.W)).setCell (p := ⟨r4, 4, none⟩) h4 (.int .i64 st.K)).setCell (p := ⟨r4, 5, none⟩) h4 (.int .i64 st.X)).setCell (p := ⟨r4, 6, none⟩) h4 (.int .i64 st.Y)
  replace X : Rw _ r4 #[.int .i64 st.A, .int .i64 st.B, .int .i64 st.L, .int .i64 st.W, .int .i64 st.K, .int .i64 st.X, .int .i64 st.Y] 63 := X
  generalize (World.setCell _ _ _) = w7 at X HB ⊢
  refine ops_done ?_
  try simp only [Exit.then, Exit.inBlock, ↓reduceIte, Nat.reduceEqDiff]
  refine wp_ret ?_
  have z0 : w7.cell? ⟨r4, 0, none⟩ = some (.int .i64 st.A) := X.cell rfl
  have z1 : w7.cell? ⟨r4, 1, none⟩ = some (.int .i64 st.B) := X.cell rfl
  have z2 : w7.cell? ⟨r4, 2, none⟩ = some (.int .i64 st.L) := X.cell rfl
  have z3 : w7.cell? ⟨r4, 3, none⟩ = some (.int .i64 st.W) := X.cell rfl
  have z4 : w7.cell? ⟨r4, 4, none⟩ = some (.int .i64 st.K) := X.cell rfl
  have z5 : w7.cell? ⟨r4, 5, none⟩ = some (.int .i64 st.X) := X.cell rfl
  have z6 : w7.cell? ⟨r4, 6, none⟩ = some (.int .i64 st.Y) := X.cell rfl
  refine bodyPost_ret (v := st.val) ?_ hsl.defers ⟨HB, ?_⟩
  · simp [results, Tryz.results64, hsl.get 4 _ rfl, go_sem, Strip.val, z0, z1, z2, z3, z4, z5, z6]
  · rw [show stripV [p0, p1, p2, p3, p4] = some st from hst]
set_option maxRecDepth 100000 in
set_option maxHeartbeats 4000000 in
theorem strip7pass (w : World) (n : Int) (s : List UInt8) (p0 p1 p2 p3 p4 p5 p6 : List UInt8) (hl0 : p0.length < 4294967281) (hk : p5 = wPass) (hl6 : p6.length < 4294967281) (hm : MaxOk w) (hs : s.length < 4294967281) (hws : splitC 32 s = [p0, p1, p2, p3, p4, p5, p6]) : Calls Tryz.prog 64 #[.agg #[.int .i64 n], .string ⟨s.toArray⟩] w (StripPost w n (stripV [p0, p1, p2, p3, p4, p5, p6])) := by
  refine calls_of_wp Tryz.func64 strip_body ?_
  have hsl : Sl (⟨#[.agg #[.int .i64 n], .string ⟨s.toArray⟩] ++ Array.replicate (Tryz.f64.ntmps - (#[.agg #[.int .i64 n], .string ⟨s.toArray⟩] : Array Value).size) undef, []⟩ : Act) 108 [(0, .agg #[.int .i64 n]), (1, .string ⟨s.toArray⟩)] := by rw [Tryz.ntmps64]; exact Sl.entry2 _ _ (by omega)
  revert hsl; generalize (Act.mk _ _) = a0; intro hsl
  have e5 : (p5 == [112, 97, 115, 115]) = true := by simpa [wPass] using hk
  have hsv : stripV [p0, p1, p2, p3, p4, p5, p6] = match hyphV p6 with | some (p, q) => baseV p0 p1 p2 p3 p4 2 p q | none => none := by rw [stripV, if_pos hk]; rcases hyphV p6 with _ | ⟨_, _⟩ <;> rfl
  replace hsv := Lib.hid hsv
  obtain ⟨x6, y6, hv6⟩ : ∃ x y : Int, ∀ z t, hyphV p6 = some (z, t) → x = z ∧ y = t := ⟨((hyphV p6).getD (0, 0)).1, ((hyphV p6).getD (0, 0)).2, fun z t h => by simp [h]⟩
  refine wp_seq ?_
  have e : regionIn Tryz.f64 0 = Code.region 0 _ false := rfl
  rw [e]; clear e
  refine wp_region ?_
  refine ops_go rfl rfl (fun K hK => ?_)
  have e0 := hsl.get 0 _ rfl
  unfold Oper.wp
  go_simp
  clear e0
  refine hK _ _ ?_; clear hK
  refine hsl.go (by decide) ?_; clear hsl; intro a1 hsl
  refine alloc_rwB (G := fun W => wpOps _ _ _ _ _ W) ?_
  intro w1 hz X1 hb
  generalize hg : w.heap.size = bx at X1 hsl
  have o1 : w.heap.size ≤ bx ∧ bx < w1.heap.size := by omega
  clear hg hz
  have HB := hb; clear hb
  refine ops_go rfl rfl (fun K hK => ?_)
  unfold Oper.wp
  go_simp
  refine hK _ _ ?_; clear hK
  refine hsl.go (by decide) ?_; clear hsl; intro a1 hsl
  refine alloc_rwB (G := fun W => wpOps _ _ _ _ _ W) ?_
  intro w2 hz X4 hb
  replace X1 := X1.below hb
  generalize hg : w1.heap.size = r4 at X4 hsl
  have o2 : bx < r4 ∧ r4 < w2.heap.size := by omega
  clear hg hz
  replace HB := HB.trans (hb.mono HB.size); clear hb
  refine ops_done ?_
  try simp only [Exit.then, Exit.inBlock, ↓reduceIte, Nat.reduceEqDiff]
  refine wp_seq ?_
  have e : regionIn Tryz.f64 1 = Code.region 1 _ false := rfl
  rw [e]; clear e
  refine wp_region ?_
  refine ops_go rfl rfl (fun K hK => ?_)
  unfold Oper.wp
  go_simp
  refine hK _ _ ?_; clear hK
  refine hsl.go (by decide) ?_; clear hsl; intro a1 hsl
  refine ops_go rfl rfl (fun K hK => ?_)
  unfold Oper.wp
  go_simp
  refine hK _ _ ?_; clear hK
  refine hsl.go (by decide) ?_; clear hsl; intro a1 hsl
  refine alloc_rwB (G := fun W => wpOps _ _ _ _ _ W) ?_
  intro w3 hz X5 hb
  replace X1 := X1.below hb
  replace X4 := X4.below hb
  generalize hg : w2.heap.size = r5 at X5 hsl
  have o3 : r4 < r5 ∧ r5 < w3.heap.size := by omega
  clear hg hz
  replace HB := HB.trans (hb.mono HB.size); clear hb
  refine ops_go rfl rfl (fun K hK => ?_)
  have e5 := hsl.get 5 _ rfl
  have e7 := hsl.get 7 _ rfl
  have z0 := X5.cell (o := 0) rfl
  have f0 := X5.fz 0
  have z1 := X5.cell (o := 1) rfl
  have f1 := X5.fz 1
  have z2 := X5.cell (o := 2) rfl
  have f2 := X5.fz 2
  have z3 := X5.cell (o := 3) rfl
  have f3 := X5.fz 3
  have z4 := X5.cell (o := 4) rfl
  have f4 := X5.fz 4
  have z5 := X5.cell (o := 5) rfl
  have f5 := X5.fz 5
  have z6 := X5.cell (o := 6) rfl
  have f6 := X5.fz 6
  unfold Oper.wp
  go_simp
  clear e5 e7
  refine hK _ _ ?_; clear hK
  clear z0 f0 z1 f1 z2 f2 z3 f3 z4 f4 z5 f5 z6 f6
  replace X1 := ((((((X1.far (g := r5) (by omega) 0 (.int .i64 0)).far (g := r5) (by omega) 1 (.int .i64 0)).far (g := r5) (by omega) 2 (.int .i64 0)).far (g := r5) (by omega) 3 (.int .i64 0)).far (g := r5) (by omega) 4 (.int .i64 1)).far (g := r5) (by omega) 5 (.int .i64 0)).far (g := r5) (by omega) 6 (.int .i64 0)
  replace X4 := ((((((X4.far (g := r5) (by omega) 0 (.int .i64 0)).far (g := r5) (by omega) 1 (.int .i64 0)).far (g := r5) (by omega) 2 (.int .i64 0)).far (g := r5) (by omega) 3 (.int .i64 0)).far (g := r5) (by omega) 4 (.int .i64 1)).far (g := r5) (by omega) 5 (.int .i64 0)).far (g := r5) (by omega) 6 (.int .i64 0)
  replace X5 := ((((((X5.set 0 (.int .i64 0)).set 1 (.int .i64 0)).set 2 (.int .i64 0)).set 3 (.int .i64 0)).set 4 (.int .i64 1)).set 5 (.int .i64 0)).set 6 (.int .i64 0)
  have h5 : w.heap.size ≤ r5 := by omega
  replace HB := ((((((HB.setCell (p := ⟨r5, 0, none⟩) h5 (.int .i64 0)).setCell (p := ⟨r5, 1, none⟩) h5 (.int .i64 0)).setCell (p := ⟨r5, 2, none⟩) h5 (.int .i64 0)).setCell (p := ⟨r5, 3, none⟩) h5 (.int .i64 0)).setCell (p := ⟨r5, 4, none⟩) h5 (.int .i64 1)).setCell (p := ⟨r5, 5, none⟩) h5 (.int .i64 0)).setCell (p := ⟨r5, 6, none⟩) h5 (.int .i64 0)
  replace X5 : Rw _ r5 #[.int .i64 0, .int .i64 0, .int .i64 0, .int .i64 0, .int .i64 1, .int .i64 0, .int .i64 0] 63 := X5
  have o4 := X5.lt
  generalize (World.setCell _ _ _) = w4 at X1 X4 X5 HB o4 ⊢
  refine ops_done ?_
  try simp only [Exit.then, Exit.inBlock, ↓reduceIte, Nat.reduceEqDiff]
  refine wp_seq ?_
  have e : regionIn Tryz.f64 2 = Code.region 2 _ false := rfl
  rw [e]; clear e
  refine wp_region ?_
  refine ops_go rfl rfl (fun K hK => ?_)
  have e1 := hsl.get 1 _ rfl
  unfold Oper.wp
  go_simp
  clear e1
  refine hK _ _ ?_; clear hK
  refine hsl.go (by decide) ?_; clear hsl; intro a1 hsl
  refine ops_go rfl rfl (fun K hK => ?_)
  have e8 := hsl.get 8 _ rfl
  unfold Oper.wp
  go_simp
  refine (split_any _ 32 s (hm.below HB) hs).mono ?_
  rintro e w5 ⟨g, hg, rfl, XG, hb⟩
  rw [hws] at XG ⊢
  simp only [List.length_cons, List.length_nil, Nat.reduceAdd, Nat.zero_add]
  have I0 : SI w w5 n bx r4 r5 g _ _ := ⟨HB.trans (hb.mono HB.size), hm, X1.below hb, X4.below hb, X5.below hb, XG, by omega⟩
  clear HB X1 X4 X5 XG hb
  clear e8
  refine hK _ _ ?_; clear hK
  refine hsl.go (by decide) ?_; clear hsl; intro a1 hsl
  refine ops_go rfl rfl (fun K hK => ?_)
  have e9 := hsl.get 9 _ rfl
  unfold Oper.wp
  go_simp
  clear e9
  refine hK _ _ ?_; clear hK
  refine hsl.go (by decide) ?_; clear hsl; intro a1 hsl
  refine ops_done ?_
  try simp only [Exit.then, Exit.inBlock, ↓reduceIte, Nat.reduceEqDiff]
  refine wp_seq ?_
  refine wp_seq ?_
  have e : regionIn Tryz.f64 3 = Code.region 3 _ false := rfl
  rw [e]; clear e
  refine wp_region ?_
  refine ops_go rfl rfl (fun K hK => ?_)
  have e6 := hsl.get 6 _ rfl
  unfold Oper.wp
  go_simp
  clear e6
  refine hK _ _ ?_; clear hK
  refine hsl.go (by decide) ?_; clear hsl; intro a1 hsl
  refine ops_go rfl rfl (fun K hK => ?_)
  have e10 := hsl.get 10 _ rfl
  unfold Oper.wp
  go_simp
  clear e10
  refine hK _ _ ?_; clear hK
  refine hsl.go (by decide) ?_; clear hsl; intro a1 hsl
  refine ops_done ?_
  try simp only [Exit.then, Exit.inBlock, ↓reduceIte, Nat.reduceEqDiff]
  refine wp_block ?_
  refine wp_seq ?_
  refine wp_block ?_
  refine wp_seq ?_
  refine wp_block ?_
  refine wp_seq ?_
  refine wp_block ?_
  refine wp_seq ?_
  refine wp_block ?_
  refine wp_seq ?_
  refine wp_seq ?_
  refine wp_seq ?_
  have e : regionIn Tryz.f64 4 = Code.region 4 _ false := rfl
  rw [e]; clear e
  refine wp_region ?_
  refine ops_go rfl rfl (fun K hK => ?_)
  have e11 := hsl.get 11 _ rfl
  unfold Oper.wp
  go_simp
  clear e11
  refine hK _ _ ?_; clear hK
  refine hsl.go (by decide) ?_; clear hsl; intro a1 hsl
  refine ops_go rfl rfl (fun K hK => ?_)
  have e13 := hsl.get 13 _ rfl
  unfold Oper.wp
  go_simp
  clear e13
  refine hK _ _ ?_; clear hK
  refine hsl.go (by decide) ?_; clear hsl; intro a1 hsl
  refine ops_done ?_
  try simp only [Exit.then, Exit.inBlock, ↓reduceIte, Nat.reduceEqDiff]
  refine wp_cond_false (hsl.ev 12 rfl) ?_
  refine wp_skip ?_
  try simp only [Exit.then, Exit.inBlock, ↓reduceIte, Nat.reduceEqDiff]
  refine wp_seq ?_
  refine wp_seq ?_
  have e : regionIn Tryz.f64 5 = Code.region 5 _ false := rfl
  rw [e]; clear e
  refine wp_region ?_
  refine ops_go rfl rfl (fun K hK => ?_)
  have e11 := hsl.get 11 _ rfl
  unfold Oper.wp
  go_simp
  clear e11
  refine hK _ _ ?_; clear hK
  refine hsl.go (by decide) ?_; clear hsl; intro a1 hsl
  refine ops_go rfl rfl (fun K hK => ?_)
  have e15 := hsl.get 15 _ rfl
  unfold Oper.wp
  go_simp
  clear e15
  refine hK _ _ ?_; clear hK
  refine hsl.go (by decide) ?_; clear hsl; intro a1 hsl
  refine ops_done ?_
  try simp only [Exit.then, Exit.inBlock, ↓reduceIte, Nat.reduceEqDiff]
  refine wp_cond_true (hsl.ev 14 rfl) ?_
  refine wp_exit ?_
  try simp only [Exit.then, Exit.inBlock, ↓reduceIte, Nat.reduceEqDiff]
  refine wp_block ?_
  refine wp_seq ?_
  have e : regionIn Tryz.f64 11 = Code.region 11 _ false := rfl
  rw [e]; clear e
  refine wp_region ?_
  refine ops_go rfl rfl (fun K hK => ?_)
  have e5 := hsl.get 5 _ rfl
  unfold Oper.wp
  go_simp
  clear e5
  refine hK _ _ ?_; clear hK
  refine hsl.go (by decide) ?_; clear hsl; intro a1 hsl
  refine ops_go rfl rfl (fun K hK => ?_)
  have e40 := hsl.get 40 _ rfl
  have k5 := I0.k5.cell (o := 4) rfl
  unfold Oper.wp
  go_simp
  clear e40
  refine hK _ _ ?_; clear hK
  refine hsl.go (by decide) ?_; clear hsl; intro a1 hsl
  refine ops_go rfl rfl (fun K hK => ?_)
  have e41 := hsl.get 41 _ rfl
  unfold Oper.wp
  go_simp
  clear e41
  refine hK _ _ ?_; clear hK
  refine hsl.go (by decide) ?_; clear hsl; intro a1 hsl
  refine ops_go rfl rfl (fun K hK => ?_)
  have e42 := hsl.get 42 _ rfl
  unfold Oper.wp
  go_simp
  clear e42
  refine hK _ _ ?_; clear hK
  refine hsl.go (by decide) ?_; clear hsl; intro a1 hsl
  refine ops_done ?_
  try simp only [Exit.then, Exit.inBlock, ↓reduceIte, Nat.reduceEqDiff]
  refine wp_cond_false (hsl.ev 39 rfl) ?_
  refine wp_seq ?_
  have e : regionIn Tryz.f64 12 = Code.region 12 _ false := rfl
  rw [e]; clear e
  refine wp_region ?_
  refine ops_go rfl rfl (fun K hK => ?_)
  have e6 := hsl.get 6 _ rfl
  unfold Oper.wp
  go_simp
  clear e6
  refine hK _ _ ?_; clear hK
  refine hsl.go (by decide) ?_; clear hsl; intro a1 hsl
  refine ops_go rfl rfl (fun K hK => ?_)
  have e44 := hsl.get 44 _ rfl
  unfold Oper.wp
  go_simp
  clear e44
  refine hK _ _ ?_; clear hK
  refine hsl.go (by decide) ?_; clear hsl; intro a1 hsl
  refine ops_go rfl rfl (fun K hK => ?_)
  have e45 := hsl.get 45 _ rfl
  have c5 := I0.kg.cell (o := 5) (v := .string ⟨p5.toArray⟩) rfl
  unfold Oper.wp
  go_simp
  clear e45
  refine hK _ _ ?_; clear hK
  refine hsl.go (by decide) ?_; clear hsl; intro a1 hsl
  refine ops_go rfl rfl (fun K hK => ?_)
  have e46 := hsl.get 46 _ rfl
  unfold Oper.wp
  go_simp
  clear e46
  refine hK _ _ ?_; clear hK
  refine hsl.go (by decide) ?_; clear hsl; intro a1 hsl
  refine ops_go rfl rfl (fun K hK => ?_)
  have e47 := hsl.get 47 _ rfl
  unfold Oper.wp
  go_simp
  clear e47
  refine hK _ _ ?_; clear hK
  refine hsl.go (by decide) ?_; clear hsl; intro a1 hsl
  refine ops_done ?_
  try simp only [Exit.then, Exit.inBlock, ↓reduceIte, Nat.reduceEqDiff]
  refine wp_cond_true (hsl.ev 43 rfl) ?_
  refine wp_seq ?_
  have e : regionIn Tryz.f64 13 = Code.region 13 _ false := rfl
  rw [e]; clear e
  refine wp_region ?_
  refine ops_go rfl rfl (fun K hK => ?_)
  have e5 := hsl.get 5 _ rfl
  unfold Oper.wp
  go_simp
  clear e5
  refine hK _ _ ?_; clear hK
  refine hsl.go (by decide) ?_; clear hsl; intro a1 hsl
  refine ops_go rfl rfl (fun K hK => ?_)
  have e48 := hsl.get 48 _ rfl
  have k5 := I0.k5.cell (o := 4) rfl
  have k6 := I0.k5.fz 4
  unfold Oper.wp
  go_simp
  clear e48
  refine hK _ _ ?_; clear hK
  clear k5 k6
  replace I0 := I0.set 4 (.int .i64 2)
  replace I0 : SI w _ n bx r4 r5 g _ #[.int .i64 0, .int .i64 0, .int .i64 0, .int .i64 0, .int .i64 2, .int .i64 0, .int .i64 0] := I0
  generalize (World.setCell _ _ _) = w5b at I0 ⊢
  refine ops_done ?_
  try simp only [Exit.then, Exit.inBlock, ↓reduceIte, Nat.reduceEqDiff]
  refine st14 w w5b n bx r4 r5 g _ p6 (by rfl) hl6 0 0 0 0 0 x6 y6 hv6 I0 _ ((((hsl.nil.cons (hsl.get 6 _ rfl)).cons (hsl.get 5 _ rfl)).cons (hsl.get 4 _ rfl)).cons (hsl.get 2 _ rfl)) _ ?_ ?_
  · intro hn a x hs1 hb
    try simp only [Exit.then, Exit.inBlock, ↓reduceIte, Nat.reduceEqDiff]
    exact ⟨hs1.defers, hb, by rw [hsv.out, hn]⟩
  intro hq a2 w8 hs2 I2; clear hsl; have hsl := hs2; clear hs2
  try simp only [Exit.then, Exit.inBlock, ↓reduceIte, Nat.reduceEqDiff]
  refine tail_7 w w8 n bx r4 r5 g _ p0 p1 p2 p3 p4 (by rfl) (by rfl) (by rfl) (by rfl) (by rfl) hl0 2 x6 y6 I2 _ ((((hsl.nil.cons (hsl.get 6 _ rfl)).cons (hsl.get 5 _ rfl)).cons (hsl.get 4 _ rfl)).cons (hsl.get 2 _ rfl)) _ ?_ ?_
  · intro hn a x hs1 hb
    try simp only [Exit.then, Exit.inBlock, ↓reduceIte, Nat.reduceEqDiff]
    refine ⟨hs1.defers, hb, ?_⟩
    rw [hsv.out, hq]; simp only [hn]
  intro st a1 w6 hst hs1 I1; clear hsl; have hsl := hs1; clear hs1
  try simp only [Exit.then, Exit.inBlock, ↓reduceIte, Nat.reduceEqDiff]
  refine wp_seq ?_
  have e : regionIn Tryz.f64 22 = Code.region 22 _ false := rfl
  rw [e]; clear e
  refine wp_region ?_
  refine ops_go rfl rfl (fun K hK => ?_)
  have e5 := hsl.get 5 _ rfl
  have z0 : w6.cell? ⟨r5, 0, none⟩ = some (.int .i64 st.A) := I1.k5.cell rfl
  have z1 : w6.cell? ⟨r5, 1, none⟩ = some (.int .i64 st.B) := I1.k5.cell rfl
  have z2 : w6.cell? ⟨r5, 2, none⟩ = some (.int .i64 st.L) := I1.k5.cell rfl
  have z3 : w6.cell? ⟨r5, 3, none⟩ = some (.int .i64 st.W) := I1.k5.cell rfl
  have z4 : w6.cell? ⟨r5, 4, none⟩ = some (.int .i64 st.K) := I1.k5.cell rfl
  have z5 : w6.cell? ⟨r5, 5, none⟩ = some (.int .i64 st.X) := I1.k5.cell rfl
  have z6 : w6.cell? ⟨r5, 6, none⟩ = some (.int .i64 st.Y) := I1.k5.cell rfl
  unfold Oper.wp
  go_simp
  clear e5
  refine hK _ _ ?_; clear hK
  refine hsl.go (by decide) ?_; clear hsl; intro a1 hsl
  clear z0 z1 z2 z3 z4 z5 z6
  refine ops_go rfl rfl (fun K hK => ?_)
  have e4 := hsl.get 4 _ rfl
  have e107 := hsl.get 107 _ rfl
  have y0 := I1.k4.cell (o := 0) rfl
  have f0 := I1.k4.fz 0
  have y1 := I1.k4.cell (o := 1) rfl
  have f1 := I1.k4.fz 1
  have y2 := I1.k4.cell (o := 2) rfl
  have f2 := I1.k4.fz 2
  have y3 := I1.k4.cell (o := 3) rfl
  have f3 := I1.k4.fz 3
  have y4 := I1.k4.cell (o := 4) rfl
  have f4 := I1.k4.fz 4
  have y5 := I1.k4.cell (o := 5) rfl
  have f5 := I1.k4.fz 5
  have y6 := I1.k4.cell (o := 6) rfl
  have f6 := I1.k4.fz 6
  unfold Oper.wp
  go_simp
  clear e4 e107
  refine hK _ _ ?_; clear hK
  clear y0 f0 y1 f1 y2 f2 y3 f3 y4 f4 y5 f5 y6 f6
  have X := ((((((I1.k4.set 0 (.int .i64 st.A)).set 1 (.int .i64 st.B)).set 2 (.int .i64 st.L)).set 3 (.int .i64 st.W)).set 4 (.int .i64 st.K)).set 5 (.int .i64 st.X)).set 6 (.int .i64 st.Y)
  have h4 : w.heap.size ≤ r4 := by have := I1.ord; omega
  have HB := ((((((I1.below.setCell (p := ⟨r4, 0, none⟩) h4 (.int .i64 st.A)).setCell (p := ⟨r4, 1, none⟩) h4 (.int .i64 st.B)).setCell (p := ⟨r4, 2, none⟩) h4 (.int .i64 st.L)).setCell (p := ⟨r4, 3, none⟩) h4 (.int .i64 st.W)).setCell (p := ⟨r4, 4, none⟩) h4 (.int .i64 st.K)).setCell (p := ⟨r4, 5, none⟩) h4 (.int .i64 st.X)).setCell (p := ⟨r4, 6, none⟩) h4 (.int .i64 st.Y)
  replace X : Rw _ r4 #[.int .i64 st.A, .int .i64 st.B, .int .i64 st.L, .int .i64 st.W, .int .i64 st.K, .int .i64 st.X, .int .i64 st.Y] 63 := X
  generalize (World.setCell _ _ _) = w7 at X HB ⊢
  refine ops_done ?_
  try simp only [Exit.then, Exit.inBlock, ↓reduceIte, Nat.reduceEqDiff]
  refine wp_ret ?_
  have z0 : w7.cell? ⟨r4, 0, none⟩ = some (.int .i64 st.A) := X.cell rfl
  have z1 : w7.cell? ⟨r4, 1, none⟩ = some (.int .i64 st.B) := X.cell rfl
  have z2 : w7.cell? ⟨r4, 2, none⟩ = some (.int .i64 st.L) := X.cell rfl
  have z3 : w7.cell? ⟨r4, 3, none⟩ = some (.int .i64 st.W) := X.cell rfl
  have z4 : w7.cell? ⟨r4, 4, none⟩ = some (.int .i64 st.K) := X.cell rfl
  have z5 : w7.cell? ⟨r4, 5, none⟩ = some (.int .i64 st.X) := X.cell rfl
  have z6 : w7.cell? ⟨r4, 6, none⟩ = some (.int .i64 st.Y) := X.cell rfl
  refine bodyPost_ret (v := st.val) ?_ hsl.defers ⟨HB, ?_⟩
  · simp [results, Tryz.results64, hsl.get 4 _ rfl, go_sem, Strip.val, z0, z1, z2, z3, z4, z5, z6]
  · rw [hsv.out, hq]; simp only [hst]
set_option maxRecDepth 100000 in
set_option maxHeartbeats 4000000 in
theorem strip7bridge (w : World) (n : Int) (s : List UInt8) (p0 p1 p2 p3 p4 p5 p6 : List UInt8) (hl0 : p0.length < 4294967281) (hk1 : ¬ p5 = wPass) (hk : p5 = wBridge) (hm : MaxOk w) (hs : s.length < 4294967281) (hws : splitC 32 s = [p0, p1, p2, p3, p4, p5, p6]) : Calls Tryz.prog 64 #[.agg #[.int .i64 n], .string ⟨s.toArray⟩] w (StripPost w n (stripV [p0, p1, p2, p3, p4, p5, p6])) := by
  refine calls_of_wp Tryz.func64 strip_body ?_
  have hsl : Sl (⟨#[.agg #[.int .i64 n], .string ⟨s.toArray⟩] ++ Array.replicate (Tryz.f64.ntmps - (#[.agg #[.int .i64 n], .string ⟨s.toArray⟩] : Array Value).size) undef, []⟩ : Act) 108 [(0, .agg #[.int .i64 n]), (1, .string ⟨s.toArray⟩)] := by rw [Tryz.ntmps64]; exact Sl.entry2 _ _ (by omega)
  revert hsl; generalize (Act.mk _ _) = a0; intro hsl
  have e5 : (p5 == [112, 97, 115, 115]) = false := by simpa [wPass] using hk1
  have e6 : (p5 == [98, 114, 105, 100, 103, 101]) = true := by simpa [wBridge] using hk
  have hsv : stripV [p0, p1, p2, p3, p4, p5, p6] = match numV p6 with | some p => baseV p0 p1 p2 p3 p4 4 p 0 | none => none := by rw [stripV, if_neg hk1, if_pos hk]; cases numV p6 <;> rfl
  replace hsv := Lib.hid hsv
  obtain ⟨x6, hv6⟩ : ∃ x : Int, ∀ z, numV p6 = some z → x = z := ⟨(numV p6).getD 0, fun z h => by simp [h]⟩
  refine wp_seq ?_
  have e : regionIn Tryz.f64 0 = Code.region 0 _ false := rfl
  rw [e]; clear e
  refine wp_region ?_
  refine ops_go rfl rfl (fun K hK => ?_)
  have e0 := hsl.get 0 _ rfl
  unfold Oper.wp
  go_simp
  clear e0
  refine hK _ _ ?_; clear hK
  refine hsl.go (by decide) ?_; clear hsl; intro a1 hsl
  refine alloc_rwB (G := fun W => wpOps _ _ _ _ _ W) ?_
  intro w1 hz X1 hb
  generalize hg : w.heap.size = bx at X1 hsl
  have o1 : w.heap.size ≤ bx ∧ bx < w1.heap.size := by omega
  clear hg hz
  have HB := hb; clear hb
  refine ops_go rfl rfl (fun K hK => ?_)
  unfold Oper.wp
  go_simp
  refine hK _ _ ?_; clear hK
  refine hsl.go (by decide) ?_; clear hsl; intro a1 hsl
  refine alloc_rwB (G := fun W => wpOps _ _ _ _ _ W) ?_
  intro w2 hz X4 hb
  replace X1 := X1.below hb
  generalize hg : w1.heap.size = r4 at X4 hsl
  have o2 : bx < r4 ∧ r4 < w2.heap.size := by omega
  clear hg hz
  replace HB := HB.trans (hb.mono HB.size); clear hb
  refine ops_done ?_
  try simp only [Exit.then, Exit.inBlock, ↓reduceIte, Nat.reduceEqDiff]
  refine wp_seq ?_
  have e : regionIn Tryz.f64 1 = Code.region 1 _ false := rfl
  rw [e]; clear e
  refine wp_region ?_
  refine ops_go rfl rfl (fun K hK => ?_)
  unfold Oper.wp
  go_simp
  refine hK _ _ ?_; clear hK
  refine hsl.go (by decide) ?_; clear hsl; intro a1 hsl
  refine ops_go rfl rfl (fun K hK => ?_)
  unfold Oper.wp
  go_simp
  refine hK _ _ ?_; clear hK
  refine hsl.go (by decide) ?_; clear hsl; intro a1 hsl
  refine alloc_rwB (G := fun W => wpOps _ _ _ _ _ W) ?_
  intro w3 hz X5 hb
  replace X1 := X1.below hb
  replace X4 := X4.below hb
  generalize hg : w2.heap.size = r5 at X5 hsl
  have o3 : r4 < r5 ∧ r5 < w3.heap.size := by omega
  clear hg hz
  replace HB := HB.trans (hb.mono HB.size); clear hb
  refine ops_go rfl rfl (fun K hK => ?_)
  have e5 := hsl.get 5 _ rfl
  have e7 := hsl.get 7 _ rfl
  have z0 := X5.cell (o := 0) rfl
  have f0 := X5.fz 0
  have z1 := X5.cell (o := 1) rfl
  have f1 := X5.fz 1
  have z2 := X5.cell (o := 2) rfl
  have f2 := X5.fz 2
  have z3 := X5.cell (o := 3) rfl
  have f3 := X5.fz 3
  have z4 := X5.cell (o := 4) rfl
  have f4 := X5.fz 4
  have z5 := X5.cell (o := 5) rfl
  have f5 := X5.fz 5
  have z6 := X5.cell (o := 6) rfl
  have f6 := X5.fz 6
  unfold Oper.wp
  go_simp
  clear e5 e7
  refine hK _ _ ?_; clear hK
  clear z0 f0 z1 f1 z2 f2 z3 f3 z4 f4 z5 f5 z6 f6
  replace X1 := ((((((X1.far (g := r5) (by omega) 0 (.int .i64 0)).far (g := r5) (by omega) 1 (.int .i64 0)).far (g := r5) (by omega) 2 (.int .i64 0)).far (g := r5) (by omega) 3 (.int .i64 0)).far (g := r5) (by omega) 4 (.int .i64 1)).far (g := r5) (by omega) 5 (.int .i64 0)).far (g := r5) (by omega) 6 (.int .i64 0)
  replace X4 := ((((((X4.far (g := r5) (by omega) 0 (.int .i64 0)).far (g := r5) (by omega) 1 (.int .i64 0)).far (g := r5) (by omega) 2 (.int .i64 0)).far (g := r5) (by omega) 3 (.int .i64 0)).far (g := r5) (by omega) 4 (.int .i64 1)).far (g := r5) (by omega) 5 (.int .i64 0)).far (g := r5) (by omega) 6 (.int .i64 0)
  replace X5 := ((((((X5.set 0 (.int .i64 0)).set 1 (.int .i64 0)).set 2 (.int .i64 0)).set 3 (.int .i64 0)).set 4 (.int .i64 1)).set 5 (.int .i64 0)).set 6 (.int .i64 0)
  have h5 : w.heap.size ≤ r5 := by omega
  replace HB := ((((((HB.setCell (p := ⟨r5, 0, none⟩) h5 (.int .i64 0)).setCell (p := ⟨r5, 1, none⟩) h5 (.int .i64 0)).setCell (p := ⟨r5, 2, none⟩) h5 (.int .i64 0)).setCell (p := ⟨r5, 3, none⟩) h5 (.int .i64 0)).setCell (p := ⟨r5, 4, none⟩) h5 (.int .i64 1)).setCell (p := ⟨r5, 5, none⟩) h5 (.int .i64 0)).setCell (p := ⟨r5, 6, none⟩) h5 (.int .i64 0)
  replace X5 : Rw _ r5 #[.int .i64 0, .int .i64 0, .int .i64 0, .int .i64 0, .int .i64 1, .int .i64 0, .int .i64 0] 63 := X5
  have o4 := X5.lt
  generalize (World.setCell _ _ _) = w4 at X1 X4 X5 HB o4 ⊢
  refine ops_done ?_
  try simp only [Exit.then, Exit.inBlock, ↓reduceIte, Nat.reduceEqDiff]
  refine wp_seq ?_
  have e : regionIn Tryz.f64 2 = Code.region 2 _ false := rfl
  rw [e]; clear e
  refine wp_region ?_
  refine ops_go rfl rfl (fun K hK => ?_)
  have e1 := hsl.get 1 _ rfl
  unfold Oper.wp
  go_simp
  clear e1
  refine hK _ _ ?_; clear hK
  refine hsl.go (by decide) ?_; clear hsl; intro a1 hsl
  refine ops_go rfl rfl (fun K hK => ?_)
  have e8 := hsl.get 8 _ rfl
  unfold Oper.wp
  go_simp
  refine (split_any _ 32 s (hm.below HB) hs).mono ?_
  rintro e w5 ⟨g, hg, rfl, XG, hb⟩
  rw [hws] at XG ⊢
  simp only [List.length_cons, List.length_nil, Nat.reduceAdd, Nat.zero_add]
  have I0 : SI w w5 n bx r4 r5 g _ _ := ⟨HB.trans (hb.mono HB.size), hm, X1.below hb, X4.below hb, X5.below hb, XG, by omega⟩
  clear HB X1 X4 X5 XG hb
  clear e8
  refine hK _ _ ?_; clear hK
  refine hsl.go (by decide) ?_; clear hsl; intro a1 hsl
  refine ops_go rfl rfl (fun K hK => ?_)
  have e9 := hsl.get 9 _ rfl
  unfold Oper.wp
  go_simp
  clear e9
  refine hK _ _ ?_; clear hK
  refine hsl.go (by decide) ?_; clear hsl; intro a1 hsl
  refine ops_done ?_
  try simp only [Exit.then, Exit.inBlock, ↓reduceIte, Nat.reduceEqDiff]
  refine wp_seq ?_
  refine wp_seq ?_
  have e : regionIn Tryz.f64 3 = Code.region 3 _ false := rfl
  rw [e]; clear e
  refine wp_region ?_
  refine ops_go rfl rfl (fun K hK => ?_)
  have e6 := hsl.get 6 _ rfl
  unfold Oper.wp
  go_simp
  clear e6
  refine hK _ _ ?_; clear hK
  refine hsl.go (by decide) ?_; clear hsl; intro a1 hsl
  refine ops_go rfl rfl (fun K hK => ?_)
  have e10 := hsl.get 10 _ rfl
  unfold Oper.wp
  go_simp
  clear e10
  refine hK _ _ ?_; clear hK
  refine hsl.go (by decide) ?_; clear hsl; intro a1 hsl
  refine ops_done ?_
  try simp only [Exit.then, Exit.inBlock, ↓reduceIte, Nat.reduceEqDiff]
  refine wp_block ?_
  refine wp_seq ?_
  refine wp_block ?_
  refine wp_seq ?_
  refine wp_block ?_
  refine wp_seq ?_
  refine wp_block ?_
  refine wp_seq ?_
  refine wp_block ?_
  refine wp_seq ?_
  refine wp_seq ?_
  refine wp_seq ?_
  have e : regionIn Tryz.f64 4 = Code.region 4 _ false := rfl
  rw [e]; clear e
  refine wp_region ?_
  refine ops_go rfl rfl (fun K hK => ?_)
  have e11 := hsl.get 11 _ rfl
  unfold Oper.wp
  go_simp
  clear e11
  refine hK _ _ ?_; clear hK
  refine hsl.go (by decide) ?_; clear hsl; intro a1 hsl
  refine ops_go rfl rfl (fun K hK => ?_)
  have e13 := hsl.get 13 _ rfl
  unfold Oper.wp
  go_simp
  clear e13
  refine hK _ _ ?_; clear hK
  refine hsl.go (by decide) ?_; clear hsl; intro a1 hsl
  refine ops_done ?_
  try simp only [Exit.then, Exit.inBlock, ↓reduceIte, Nat.reduceEqDiff]
  refine wp_cond_false (hsl.ev 12 rfl) ?_
  refine wp_skip ?_
  try simp only [Exit.then, Exit.inBlock, ↓reduceIte, Nat.reduceEqDiff]
  refine wp_seq ?_
  refine wp_seq ?_
  have e : regionIn Tryz.f64 5 = Code.region 5 _ false := rfl
  rw [e]; clear e
  refine wp_region ?_
  refine ops_go rfl rfl (fun K hK => ?_)
  have e11 := hsl.get 11 _ rfl
  unfold Oper.wp
  go_simp
  clear e11
  refine hK _ _ ?_; clear hK
  refine hsl.go (by decide) ?_; clear hsl; intro a1 hsl
  refine ops_go rfl rfl (fun K hK => ?_)
  have e15 := hsl.get 15 _ rfl
  unfold Oper.wp
  go_simp
  clear e15
  refine hK _ _ ?_; clear hK
  refine hsl.go (by decide) ?_; clear hsl; intro a1 hsl
  refine ops_done ?_
  try simp only [Exit.then, Exit.inBlock, ↓reduceIte, Nat.reduceEqDiff]
  refine wp_cond_true (hsl.ev 14 rfl) ?_
  refine wp_exit ?_
  try simp only [Exit.then, Exit.inBlock, ↓reduceIte, Nat.reduceEqDiff]
  refine wp_block ?_
  refine wp_seq ?_
  have e : regionIn Tryz.f64 11 = Code.region 11 _ false := rfl
  rw [e]; clear e
  refine wp_region ?_
  refine ops_go rfl rfl (fun K hK => ?_)
  have e5 := hsl.get 5 _ rfl
  unfold Oper.wp
  go_simp
  clear e5
  refine hK _ _ ?_; clear hK
  refine hsl.go (by decide) ?_; clear hsl; intro a1 hsl
  refine ops_go rfl rfl (fun K hK => ?_)
  have e40 := hsl.get 40 _ rfl
  have k5 := I0.k5.cell (o := 4) rfl
  unfold Oper.wp
  go_simp
  clear e40
  refine hK _ _ ?_; clear hK
  refine hsl.go (by decide) ?_; clear hsl; intro a1 hsl
  refine ops_go rfl rfl (fun K hK => ?_)
  have e41 := hsl.get 41 _ rfl
  unfold Oper.wp
  go_simp
  clear e41
  refine hK _ _ ?_; clear hK
  refine hsl.go (by decide) ?_; clear hsl; intro a1 hsl
  refine ops_go rfl rfl (fun K hK => ?_)
  have e42 := hsl.get 42 _ rfl
  unfold Oper.wp
  go_simp
  clear e42
  refine hK _ _ ?_; clear hK
  refine hsl.go (by decide) ?_; clear hsl; intro a1 hsl
  refine ops_done ?_
  try simp only [Exit.then, Exit.inBlock, ↓reduceIte, Nat.reduceEqDiff]
  refine wp_cond_false (hsl.ev 39 rfl) ?_
  refine wp_seq ?_
  have e : regionIn Tryz.f64 12 = Code.region 12 _ false := rfl
  rw [e]; clear e
  refine wp_region ?_
  refine ops_go rfl rfl (fun K hK => ?_)
  have e6 := hsl.get 6 _ rfl
  unfold Oper.wp
  go_simp
  clear e6
  refine hK _ _ ?_; clear hK
  refine hsl.go (by decide) ?_; clear hsl; intro a1 hsl
  refine ops_go rfl rfl (fun K hK => ?_)
  have e44 := hsl.get 44 _ rfl
  unfold Oper.wp
  go_simp
  clear e44
  refine hK _ _ ?_; clear hK
  refine hsl.go (by decide) ?_; clear hsl; intro a1 hsl
  refine ops_go rfl rfl (fun K hK => ?_)
  have e45 := hsl.get 45 _ rfl
  have c5 := I0.kg.cell (o := 5) (v := .string ⟨p5.toArray⟩) rfl
  unfold Oper.wp
  go_simp
  clear e45
  refine hK _ _ ?_; clear hK
  refine hsl.go (by decide) ?_; clear hsl; intro a1 hsl
  refine ops_go rfl rfl (fun K hK => ?_)
  have e46 := hsl.get 46 _ rfl
  unfold Oper.wp
  go_simp
  clear e46
  refine hK _ _ ?_; clear hK
  refine hsl.go (by decide) ?_; clear hsl; intro a1 hsl
  refine ops_go rfl rfl (fun K hK => ?_)
  have e47 := hsl.get 47 _ rfl
  unfold Oper.wp
  go_simp
  clear e47
  refine hK _ _ ?_; clear hK
  refine hsl.go (by decide) ?_; clear hsl; intro a1 hsl
  refine ops_done ?_
  try simp only [Exit.then, Exit.inBlock, ↓reduceIte, Nat.reduceEqDiff]
  refine wp_cond_false (hsl.ev 43 rfl) ?_
  refine wp_seq ?_
  have e : regionIn Tryz.f64 15 = Code.region 15 _ false := rfl
  rw [e]; clear e
  refine wp_region ?_
  refine ops_go rfl rfl (fun K hK => ?_)
  have e6 := hsl.get 6 _ rfl
  unfold Oper.wp
  go_simp
  clear e6
  refine hK _ _ ?_; clear hK
  refine hsl.go (by decide) ?_; clear hsl; intro a1 hsl
  refine ops_go rfl rfl (fun K hK => ?_)
  have e60 := hsl.get 60 _ rfl
  unfold Oper.wp
  go_simp
  clear e60
  refine hK _ _ ?_; clear hK
  refine hsl.go (by decide) ?_; clear hsl; intro a1 hsl
  refine ops_go rfl rfl (fun K hK => ?_)
  have e61 := hsl.get 61 _ rfl
  have c5 := I0.kg.cell (o := 5) (v := .string ⟨p5.toArray⟩) rfl
  unfold Oper.wp
  go_simp
  clear e61
  refine hK _ _ ?_; clear hK
  refine hsl.go (by decide) ?_; clear hsl; intro a1 hsl
  refine ops_go rfl rfl (fun K hK => ?_)
  have e62 := hsl.get 62 _ rfl
  unfold Oper.wp
  go_simp
  clear e62
  refine hK _ _ ?_; clear hK
  refine hsl.go (by decide) ?_; clear hsl; intro a1 hsl
  refine ops_go rfl rfl (fun K hK => ?_)
  have e63 := hsl.get 63 _ rfl
  unfold Oper.wp
  go_simp
  clear e63
  refine hK _ _ ?_; clear hK
  refine hsl.go (by decide) ?_; clear hsl; intro a1 hsl
  refine ops_done ?_
  try simp only [Exit.then, Exit.inBlock, ↓reduceIte, Nat.reduceEqDiff]
  refine wp_cond_true (hsl.ev 59 rfl) ?_
  refine st16 w w5 n bx r4 r5 g _ p6 (by rfl) 0 0 0 0 0 x6 hv6 I0 _ ((((hsl.nil.cons (hsl.get 6 _ rfl)).cons (hsl.get 5 _ rfl)).cons (hsl.get 4 _ rfl)).cons (hsl.get 2 _ rfl)) _ ?_ ?_
  · intro hn a x hs1 hb
    try simp only [Exit.then, Exit.inBlock, ↓reduceIte, Nat.reduceEqDiff]
    exact ⟨hs1.defers, hb, by rw [hsv.out, hn]⟩
  intro hq a2 w8 hs2 I2; clear hsl; have hsl := hs2; clear hs2
  try simp only [Exit.then, Exit.inBlock, ↓reduceIte, Nat.reduceEqDiff]
  refine tail_7 w w8 n bx r4 r5 g _ p0 p1 p2 p3 p4 (by rfl) (by rfl) (by rfl) (by rfl) (by rfl) hl0 4 x6 0 I2 _ ((((hsl.nil.cons (hsl.get 6 _ rfl)).cons (hsl.get 5 _ rfl)).cons (hsl.get 4 _ rfl)).cons (hsl.get 2 _ rfl)) _ ?_ ?_
  · intro hn a x hs1 hb
    try simp only [Exit.then, Exit.inBlock, ↓reduceIte, Nat.reduceEqDiff]
    refine ⟨hs1.defers, hb, ?_⟩
    rw [hsv.out, hq]; simp only [hn]
  intro st a1 w6 hst hs1 I1; clear hsl; have hsl := hs1; clear hs1
  try simp only [Exit.then, Exit.inBlock, ↓reduceIte, Nat.reduceEqDiff]
  refine wp_seq ?_
  have e : regionIn Tryz.f64 22 = Code.region 22 _ false := rfl
  rw [e]; clear e
  refine wp_region ?_
  refine ops_go rfl rfl (fun K hK => ?_)
  have e5 := hsl.get 5 _ rfl
  have z0 : w6.cell? ⟨r5, 0, none⟩ = some (.int .i64 st.A) := I1.k5.cell rfl
  have z1 : w6.cell? ⟨r5, 1, none⟩ = some (.int .i64 st.B) := I1.k5.cell rfl
  have z2 : w6.cell? ⟨r5, 2, none⟩ = some (.int .i64 st.L) := I1.k5.cell rfl
  have z3 : w6.cell? ⟨r5, 3, none⟩ = some (.int .i64 st.W) := I1.k5.cell rfl
  have z4 : w6.cell? ⟨r5, 4, none⟩ = some (.int .i64 st.K) := I1.k5.cell rfl
  have z5 : w6.cell? ⟨r5, 5, none⟩ = some (.int .i64 st.X) := I1.k5.cell rfl
  have z6 : w6.cell? ⟨r5, 6, none⟩ = some (.int .i64 st.Y) := I1.k5.cell rfl
  unfold Oper.wp
  go_simp
  clear e5
  refine hK _ _ ?_; clear hK
  refine hsl.go (by decide) ?_; clear hsl; intro a1 hsl
  clear z0 z1 z2 z3 z4 z5 z6
  refine ops_go rfl rfl (fun K hK => ?_)
  have e4 := hsl.get 4 _ rfl
  have e107 := hsl.get 107 _ rfl
  have y0 := I1.k4.cell (o := 0) rfl
  have f0 := I1.k4.fz 0
  have y1 := I1.k4.cell (o := 1) rfl
  have f1 := I1.k4.fz 1
  have y2 := I1.k4.cell (o := 2) rfl
  have f2 := I1.k4.fz 2
  have y3 := I1.k4.cell (o := 3) rfl
  have f3 := I1.k4.fz 3
  have y4 := I1.k4.cell (o := 4) rfl
  have f4 := I1.k4.fz 4
  have y5 := I1.k4.cell (o := 5) rfl
  have f5 := I1.k4.fz 5
  have y6 := I1.k4.cell (o := 6) rfl
  have f6 := I1.k4.fz 6
  unfold Oper.wp
  go_simp
  clear e4 e107
  refine hK _ _ ?_; clear hK
  clear y0 f0 y1 f1 y2 f2 y3 f3 y4 f4 y5 f5 y6 f6
  have X := ((((((I1.k4.set 0 (.int .i64 st.A)).set 1 (.int .i64 st.B)).set 2 (.int .i64 st.L)).set 3 (.int .i64 st.W)).set 4 (.int .i64 st.K)).set 5 (.int .i64 st.X)).set 6 (.int .i64 st.Y)
  have h4 : w.heap.size ≤ r4 := by have := I1.ord; omega
  have HB := ((((((I1.below.setCell (p := ⟨r4, 0, none⟩) h4 (.int .i64 st.A)).setCell (p := ⟨r4, 1, none⟩) h4 (.int .i64 st.B)).setCell (p := ⟨r4, 2, none⟩) h4 (.int .i64 st.L)).setCell (p := ⟨r4, 3, none⟩) h4 (.int .i64 st.W)).setCell (p := ⟨r4, 4, none⟩) h4 (.int .i64 st.K)).setCell (p := ⟨r4, 5, none⟩) h4 (.int .i64 st.X)).setCell (p := ⟨r4, 6, none⟩) h4 (.int .i64 st.Y)
  replace X : Rw _ r4 #[.int .i64 st.A, .int .i64 st.B, .int .i64 st.L, .int .i64 st.W, .int .i64 st.K, .int .i64 st.X, .int .i64 st.Y] 63 := X
  generalize (World.setCell _ _ _) = w7 at X HB ⊢
  refine ops_done ?_
  try simp only [Exit.then, Exit.inBlock, ↓reduceIte, Nat.reduceEqDiff]
  refine wp_ret ?_
  have z0 : w7.cell? ⟨r4, 0, none⟩ = some (.int .i64 st.A) := X.cell rfl
  have z1 : w7.cell? ⟨r4, 1, none⟩ = some (.int .i64 st.B) := X.cell rfl
  have z2 : w7.cell? ⟨r4, 2, none⟩ = some (.int .i64 st.L) := X.cell rfl
  have z3 : w7.cell? ⟨r4, 3, none⟩ = some (.int .i64 st.W) := X.cell rfl
  have z4 : w7.cell? ⟨r4, 4, none⟩ = some (.int .i64 st.K) := X.cell rfl
  have z5 : w7.cell? ⟨r4, 5, none⟩ = some (.int .i64 st.X) := X.cell rfl
  have z6 : w7.cell? ⟨r4, 6, none⟩ = some (.int .i64 st.Y) := X.cell rfl
  refine bodyPost_ret (v := st.val) ?_ hsl.defers ⟨HB, ?_⟩
  · simp [results, Tryz.results64, hsl.get 4 _ rfl, go_sem, Strip.val, z0, z1, z2, z3, z4, z5, z6]
  · rw [hsv.out, hq]; simp only [hst]
set_option maxRecDepth 100000 in
set_option maxHeartbeats 4000000 in
theorem strip7other (w : World) (n : Int) (s : List UInt8) (p0 p1 p2 p3 p4 p5 p6 : List UInt8) (hl0 : p0.length < 4294967281) (hk1 : ¬ p5 = wPass) (hk : ¬ p5 = wBridge) (hm : MaxOk w) (hs : s.length < 4294967281) (hws : splitC 32 s = [p0, p1, p2, p3, p4, p5, p6]) : Calls Tryz.prog 64 #[.agg #[.int .i64 n], .string ⟨s.toArray⟩] w (StripPost w n (stripV [p0, p1, p2, p3, p4, p5, p6])) := by
  refine calls_of_wp Tryz.func64 strip_body ?_
  have hsl : Sl (⟨#[.agg #[.int .i64 n], .string ⟨s.toArray⟩] ++ Array.replicate (Tryz.f64.ntmps - (#[.agg #[.int .i64 n], .string ⟨s.toArray⟩] : Array Value).size) undef, []⟩ : Act) 108 [(0, .agg #[.int .i64 n]), (1, .string ⟨s.toArray⟩)] := by rw [Tryz.ntmps64]; exact Sl.entry2 _ _ (by omega)
  revert hsl; generalize (Act.mk _ _) = a0; intro hsl
  have e5 : (p5 == [112, 97, 115, 115]) = false := by simpa [wPass] using hk1
  have e6 : (p5 == [98, 114, 105, 100, 103, 101]) = false := by simpa [wBridge] using hk
  have hsv : stripV [p0, p1, p2, p3, p4, p5, p6] = none := by rw [stripV, if_neg hk1, if_neg hk]
  replace hsv := Lib.hid hsv
  refine wp_seq ?_
  have e : regionIn Tryz.f64 0 = Code.region 0 _ false := rfl
  rw [e]; clear e
  refine wp_region ?_
  refine ops_go rfl rfl (fun K hK => ?_)
  have e0 := hsl.get 0 _ rfl
  unfold Oper.wp
  go_simp
  clear e0
  refine hK _ _ ?_; clear hK
  refine hsl.go (by decide) ?_; clear hsl; intro a1 hsl
  refine alloc_rwB (G := fun W => wpOps _ _ _ _ _ W) ?_
  intro w1 hz X1 hb
  generalize hg : w.heap.size = bx at X1 hsl
  have o1 : w.heap.size ≤ bx ∧ bx < w1.heap.size := by omega
  clear hg hz
  have HB := hb; clear hb
  refine ops_go rfl rfl (fun K hK => ?_)
  unfold Oper.wp
  go_simp
  refine hK _ _ ?_; clear hK
  refine hsl.go (by decide) ?_; clear hsl; intro a1 hsl
  refine alloc_rwB (G := fun W => wpOps _ _ _ _ _ W) ?_
  intro w2 hz X4 hb
  replace X1 := X1.below hb
  generalize hg : w1.heap.size = r4 at X4 hsl
  have o2 : bx < r4 ∧ r4 < w2.heap.size := by omega
  clear hg hz
  replace HB := HB.trans (hb.mono HB.size); clear hb
  refine ops_done ?_
  try simp only [Exit.then, Exit.inBlock, ↓reduceIte, Nat.reduceEqDiff]
  refine wp_seq ?_
  have e : regionIn Tryz.f64 1 = Code.region 1 _ false := rfl
  rw [e]; clear e
  refine wp_region ?_
  refine ops_go rfl rfl (fun K hK => ?_)
  unfold Oper.wp
  go_simp
  refine hK _ _ ?_; clear hK
  refine hsl.go (by decide) ?_; clear hsl; intro a1 hsl
  refine ops_go rfl rfl (fun K hK => ?_)
  unfold Oper.wp
  go_simp
  refine hK _ _ ?_; clear hK
  refine hsl.go (by decide) ?_; clear hsl; intro a1 hsl
  refine alloc_rwB (G := fun W => wpOps _ _ _ _ _ W) ?_
  intro w3 hz X5 hb
  replace X1 := X1.below hb
  replace X4 := X4.below hb
  generalize hg : w2.heap.size = r5 at X5 hsl
  have o3 : r4 < r5 ∧ r5 < w3.heap.size := by omega
  clear hg hz
  replace HB := HB.trans (hb.mono HB.size); clear hb
  refine ops_go rfl rfl (fun K hK => ?_)
  have e5 := hsl.get 5 _ rfl
  have e7 := hsl.get 7 _ rfl
  have z0 := X5.cell (o := 0) rfl
  have f0 := X5.fz 0
  have z1 := X5.cell (o := 1) rfl
  have f1 := X5.fz 1
  have z2 := X5.cell (o := 2) rfl
  have f2 := X5.fz 2
  have z3 := X5.cell (o := 3) rfl
  have f3 := X5.fz 3
  have z4 := X5.cell (o := 4) rfl
  have f4 := X5.fz 4
  have z5 := X5.cell (o := 5) rfl
  have f5 := X5.fz 5
  have z6 := X5.cell (o := 6) rfl
  have f6 := X5.fz 6
  unfold Oper.wp
  go_simp
  clear e5 e7
  refine hK _ _ ?_; clear hK
  clear z0 f0 z1 f1 z2 f2 z3 f3 z4 f4 z5 f5 z6 f6
  replace X1 := ((((((X1.far (g := r5) (by omega) 0 (.int .i64 0)).far (g := r5) (by omega) 1 (.int .i64 0)).far (g := r5) (by omega) 2 (.int .i64 0)).far (g := r5) (by omega) 3 (.int .i64 0)).far (g := r5) (by omega) 4 (.int .i64 1)).far (g := r5) (by omega) 5 (.int .i64 0)).far (g := r5) (by omega) 6 (.int .i64 0)
  replace X4 := ((((((X4.far (g := r5) (by omega) 0 (.int .i64 0)).far (g := r5) (by omega) 1 (.int .i64 0)).far (g := r5) (by omega) 2 (.int .i64 0)).far (g := r5) (by omega) 3 (.int .i64 0)).far (g := r5) (by omega) 4 (.int .i64 1)).far (g := r5) (by omega) 5 (.int .i64 0)).far (g := r5) (by omega) 6 (.int .i64 0)
  replace X5 := ((((((X5.set 0 (.int .i64 0)).set 1 (.int .i64 0)).set 2 (.int .i64 0)).set 3 (.int .i64 0)).set 4 (.int .i64 1)).set 5 (.int .i64 0)).set 6 (.int .i64 0)
  have h5 : w.heap.size ≤ r5 := by omega
  replace HB := ((((((HB.setCell (p := ⟨r5, 0, none⟩) h5 (.int .i64 0)).setCell (p := ⟨r5, 1, none⟩) h5 (.int .i64 0)).setCell (p := ⟨r5, 2, none⟩) h5 (.int .i64 0)).setCell (p := ⟨r5, 3, none⟩) h5 (.int .i64 0)).setCell (p := ⟨r5, 4, none⟩) h5 (.int .i64 1)).setCell (p := ⟨r5, 5, none⟩) h5 (.int .i64 0)).setCell (p := ⟨r5, 6, none⟩) h5 (.int .i64 0)
  replace X5 : Rw _ r5 #[.int .i64 0, .int .i64 0, .int .i64 0, .int .i64 0, .int .i64 1, .int .i64 0, .int .i64 0] 63 := X5
  have o4 := X5.lt
  generalize (World.setCell _ _ _) = w4 at X1 X4 X5 HB o4 ⊢
  refine ops_done ?_
  try simp only [Exit.then, Exit.inBlock, ↓reduceIte, Nat.reduceEqDiff]
  refine wp_seq ?_
  have e : regionIn Tryz.f64 2 = Code.region 2 _ false := rfl
  rw [e]; clear e
  refine wp_region ?_
  refine ops_go rfl rfl (fun K hK => ?_)
  have e1 := hsl.get 1 _ rfl
  unfold Oper.wp
  go_simp
  clear e1
  refine hK _ _ ?_; clear hK
  refine hsl.go (by decide) ?_; clear hsl; intro a1 hsl
  refine ops_go rfl rfl (fun K hK => ?_)
  have e8 := hsl.get 8 _ rfl
  unfold Oper.wp
  go_simp
  refine (split_any _ 32 s (hm.below HB) hs).mono ?_
  rintro e w5 ⟨g, hg, rfl, XG, hb⟩
  rw [hws] at XG ⊢
  simp only [List.length_cons, List.length_nil, Nat.reduceAdd, Nat.zero_add]
  have I0 : SI w w5 n bx r4 r5 g _ _ := ⟨HB.trans (hb.mono HB.size), hm, X1.below hb, X4.below hb, X5.below hb, XG, by omega⟩
  clear HB X1 X4 X5 XG hb
  clear e8
  refine hK _ _ ?_; clear hK
  refine hsl.go (by decide) ?_; clear hsl; intro a1 hsl
  refine ops_go rfl rfl (fun K hK => ?_)
  have e9 := hsl.get 9 _ rfl
  unfold Oper.wp
  go_simp
  clear e9
  refine hK _ _ ?_; clear hK
  refine hsl.go (by decide) ?_; clear hsl; intro a1 hsl
  refine ops_done ?_
  try simp only [Exit.then, Exit.inBlock, ↓reduceIte, Nat.reduceEqDiff]
  refine wp_seq ?_
  refine wp_seq ?_
  have e : regionIn Tryz.f64 3 = Code.region 3 _ false := rfl
  rw [e]; clear e
  refine wp_region ?_
  refine ops_go rfl rfl (fun K hK => ?_)
  have e6 := hsl.get 6 _ rfl
  unfold Oper.wp
  go_simp
  clear e6
  refine hK _ _ ?_; clear hK
  refine hsl.go (by decide) ?_; clear hsl; intro a1 hsl
  refine ops_go rfl rfl (fun K hK => ?_)
  have e10 := hsl.get 10 _ rfl
  unfold Oper.wp
  go_simp
  clear e10
  refine hK _ _ ?_; clear hK
  refine hsl.go (by decide) ?_; clear hsl; intro a1 hsl
  refine ops_done ?_
  try simp only [Exit.then, Exit.inBlock, ↓reduceIte, Nat.reduceEqDiff]
  refine wp_block ?_
  refine wp_seq ?_
  refine wp_block ?_
  refine wp_seq ?_
  refine wp_block ?_
  refine wp_seq ?_
  refine wp_block ?_
  refine wp_seq ?_
  refine wp_block ?_
  refine wp_seq ?_
  refine wp_seq ?_
  refine wp_seq ?_
  have e : regionIn Tryz.f64 4 = Code.region 4 _ false := rfl
  rw [e]; clear e
  refine wp_region ?_
  refine ops_go rfl rfl (fun K hK => ?_)
  have e11 := hsl.get 11 _ rfl
  unfold Oper.wp
  go_simp
  clear e11
  refine hK _ _ ?_; clear hK
  refine hsl.go (by decide) ?_; clear hsl; intro a1 hsl
  refine ops_go rfl rfl (fun K hK => ?_)
  have e13 := hsl.get 13 _ rfl
  unfold Oper.wp
  go_simp
  clear e13
  refine hK _ _ ?_; clear hK
  refine hsl.go (by decide) ?_; clear hsl; intro a1 hsl
  refine ops_done ?_
  try simp only [Exit.then, Exit.inBlock, ↓reduceIte, Nat.reduceEqDiff]
  refine wp_cond_false (hsl.ev 12 rfl) ?_
  refine wp_skip ?_
  try simp only [Exit.then, Exit.inBlock, ↓reduceIte, Nat.reduceEqDiff]
  refine wp_seq ?_
  refine wp_seq ?_
  have e : regionIn Tryz.f64 5 = Code.region 5 _ false := rfl
  rw [e]; clear e
  refine wp_region ?_
  refine ops_go rfl rfl (fun K hK => ?_)
  have e11 := hsl.get 11 _ rfl
  unfold Oper.wp
  go_simp
  clear e11
  refine hK _ _ ?_; clear hK
  refine hsl.go (by decide) ?_; clear hsl; intro a1 hsl
  refine ops_go rfl rfl (fun K hK => ?_)
  have e15 := hsl.get 15 _ rfl
  unfold Oper.wp
  go_simp
  clear e15
  refine hK _ _ ?_; clear hK
  refine hsl.go (by decide) ?_; clear hsl; intro a1 hsl
  refine ops_done ?_
  try simp only [Exit.then, Exit.inBlock, ↓reduceIte, Nat.reduceEqDiff]
  refine wp_cond_true (hsl.ev 14 rfl) ?_
  refine wp_exit ?_
  try simp only [Exit.then, Exit.inBlock, ↓reduceIte, Nat.reduceEqDiff]
  refine wp_block ?_
  refine wp_seq ?_
  have e : regionIn Tryz.f64 11 = Code.region 11 _ false := rfl
  rw [e]; clear e
  refine wp_region ?_
  refine ops_go rfl rfl (fun K hK => ?_)
  have e5 := hsl.get 5 _ rfl
  unfold Oper.wp
  go_simp
  clear e5
  refine hK _ _ ?_; clear hK
  refine hsl.go (by decide) ?_; clear hsl; intro a1 hsl
  refine ops_go rfl rfl (fun K hK => ?_)
  have e40 := hsl.get 40 _ rfl
  have k5 := I0.k5.cell (o := 4) rfl
  unfold Oper.wp
  go_simp
  clear e40
  refine hK _ _ ?_; clear hK
  refine hsl.go (by decide) ?_; clear hsl; intro a1 hsl
  refine ops_go rfl rfl (fun K hK => ?_)
  have e41 := hsl.get 41 _ rfl
  unfold Oper.wp
  go_simp
  clear e41
  refine hK _ _ ?_; clear hK
  refine hsl.go (by decide) ?_; clear hsl; intro a1 hsl
  refine ops_go rfl rfl (fun K hK => ?_)
  have e42 := hsl.get 42 _ rfl
  unfold Oper.wp
  go_simp
  clear e42
  refine hK _ _ ?_; clear hK
  refine hsl.go (by decide) ?_; clear hsl; intro a1 hsl
  refine ops_done ?_
  try simp only [Exit.then, Exit.inBlock, ↓reduceIte, Nat.reduceEqDiff]
  refine wp_cond_false (hsl.ev 39 rfl) ?_
  refine wp_seq ?_
  have e : regionIn Tryz.f64 12 = Code.region 12 _ false := rfl
  rw [e]; clear e
  refine wp_region ?_
  refine ops_go rfl rfl (fun K hK => ?_)
  have e6 := hsl.get 6 _ rfl
  unfold Oper.wp
  go_simp
  clear e6
  refine hK _ _ ?_; clear hK
  refine hsl.go (by decide) ?_; clear hsl; intro a1 hsl
  refine ops_go rfl rfl (fun K hK => ?_)
  have e44 := hsl.get 44 _ rfl
  unfold Oper.wp
  go_simp
  clear e44
  refine hK _ _ ?_; clear hK
  refine hsl.go (by decide) ?_; clear hsl; intro a1 hsl
  refine ops_go rfl rfl (fun K hK => ?_)
  have e45 := hsl.get 45 _ rfl
  have c5 := I0.kg.cell (o := 5) (v := .string ⟨p5.toArray⟩) rfl
  unfold Oper.wp
  go_simp
  clear e45
  refine hK _ _ ?_; clear hK
  refine hsl.go (by decide) ?_; clear hsl; intro a1 hsl
  refine ops_go rfl rfl (fun K hK => ?_)
  have e46 := hsl.get 46 _ rfl
  unfold Oper.wp
  go_simp
  clear e46
  refine hK _ _ ?_; clear hK
  refine hsl.go (by decide) ?_; clear hsl; intro a1 hsl
  refine ops_go rfl rfl (fun K hK => ?_)
  have e47 := hsl.get 47 _ rfl
  unfold Oper.wp
  go_simp
  clear e47
  refine hK _ _ ?_; clear hK
  refine hsl.go (by decide) ?_; clear hsl; intro a1 hsl
  refine ops_done ?_
  try simp only [Exit.then, Exit.inBlock, ↓reduceIte, Nat.reduceEqDiff]
  refine wp_cond_false (hsl.ev 43 rfl) ?_
  refine wp_seq ?_
  have e : regionIn Tryz.f64 15 = Code.region 15 _ false := rfl
  rw [e]; clear e
  refine wp_region ?_
  refine ops_go rfl rfl (fun K hK => ?_)
  have e6 := hsl.get 6 _ rfl
  unfold Oper.wp
  go_simp
  clear e6
  refine hK _ _ ?_; clear hK
  refine hsl.go (by decide) ?_; clear hsl; intro a1 hsl
  refine ops_go rfl rfl (fun K hK => ?_)
  have e60 := hsl.get 60 _ rfl
  unfold Oper.wp
  go_simp
  clear e60
  refine hK _ _ ?_; clear hK
  refine hsl.go (by decide) ?_; clear hsl; intro a1 hsl
  refine ops_go rfl rfl (fun K hK => ?_)
  have e61 := hsl.get 61 _ rfl
  have c5 := I0.kg.cell (o := 5) (v := .string ⟨p5.toArray⟩) rfl
  unfold Oper.wp
  go_simp
  clear e61
  refine hK _ _ ?_; clear hK
  refine hsl.go (by decide) ?_; clear hsl; intro a1 hsl
  refine ops_go rfl rfl (fun K hK => ?_)
  have e62 := hsl.get 62 _ rfl
  unfold Oper.wp
  go_simp
  clear e62
  refine hK _ _ ?_; clear hK
  refine hsl.go (by decide) ?_; clear hsl; intro a1 hsl
  refine ops_go rfl rfl (fun K hK => ?_)
  have e63 := hsl.get 63 _ rfl
  unfold Oper.wp
  go_simp
  clear e63
  refine hK _ _ ?_; clear hK
  refine hsl.go (by decide) ?_; clear hsl; intro a1 hsl
  refine ops_done ?_
  try simp only [Exit.then, Exit.inBlock, ↓reduceIte, Nat.reduceEqDiff]
  refine wp_cond_false (hsl.ev 59 rfl) ?_
  have e : regionIn Tryz.f64 10 = Code.region 10 _ false := rfl
  rw [e]; clear e
  refine wp_region ?_
  refine ops_go rfl rfl (fun K hK => ?_)
  have e2 := hsl.get 2 _ rfl
  have hbx := I0.kb.cell (o := 0) rfl
  unfold Oper.wp
  go_simp
  clear e2
  refine hK _ _ ?_; clear hK
  refine hsl.go (by decide) ?_; clear hsl; intro a1 hsl
  refine ops_go rfl rfl (fun K hK => ?_)
  have e37 := hsl.get 37 _ rfl
  unfold Oper.wp
  go_simp
  clear e37
  refine hK _ _ ?_; clear hK
  refine hsl.go (by decide) ?_; clear hsl; intro a1 hsl
  refine ops_go rfl rfl (fun K hK => ?_)
  have e38 := hsl.get 38 _ rfl
  unfold Oper.wp
  go_simp
  clear e38
  try simp only [Exit.then, Exit.inBlock, ↓reduceIte, Nat.reduceEqDiff]
  exact ⟨hsl.defers, I0.below, by rw [hsv.out]; rfl⟩
set_option maxRecDepth 100000 in
set_option maxHeartbeats 4000000 in
theorem strip8ford (w : World) (n : Int) (s : List UInt8) (p0 p1 p2 p3 p4 p5 p6 p7 : List UInt8) (hl0 : p0.length < 4294967281) (hk : p5 = wFord) (hm : MaxOk w) (hs : s.length < 4294967281) (hws : splitC 32 s = [p0, p1, p2, p3, p4, p5, p6, p7]) : Calls Tryz.prog 64 #[.agg #[.int .i64 n], .string ⟨s.toArray⟩] w (StripPost w n (stripV [p0, p1, p2, p3, p4, p5, p6, p7])) := by
  refine calls_of_wp Tryz.func64 strip_body ?_
  have hsl : Sl (⟨#[.agg #[.int .i64 n], .string ⟨s.toArray⟩] ++ Array.replicate (Tryz.f64.ntmps - (#[.agg #[.int .i64 n], .string ⟨s.toArray⟩] : Array Value).size) undef, []⟩ : Act) 108 [(0, .agg #[.int .i64 n]), (1, .string ⟨s.toArray⟩)] := by rw [Tryz.ntmps64]; exact Sl.entry2 _ _ (by omega)
  revert hsl; generalize (Act.mk _ _) = a0; intro hsl
  have e5 : (p5 == [102, 111, 114, 100]) = true := by simpa [wFord] using hk
  have hsv : stripV [p0, p1, p2, p3, p4, p5, p6, p7] = match numV p6, signV p7 with | some p, some q => baseV p0 p1 p2 p3 p4 3 p q | _, _ => none := by rw [stripV, if_pos hk]; rcases numV p6 with _ | _ <;> rcases signV p7 with _ | _ <;> rfl
  replace hsv := Lib.hid hsv
  obtain ⟨x6, hv6⟩ : ∃ x : Int, ∀ z, numV p6 = some z → x = z := ⟨(numV p6).getD 0, fun z h => by simp [h]⟩
  obtain ⟨x7, hv7⟩ : ∃ x : Int, ∀ z, signV p7 = some z → x = z := ⟨(signV p7).getD 0, fun z h => by simp [h]⟩
  refine wp_seq ?_
  have e : regionIn Tryz.f64 0 = Code.region 0 _ false := rfl
  rw [e]; clear e
  refine wp_region ?_
  refine ops_go rfl rfl (fun K hK => ?_)
  have e0 := hsl.get 0 _ rfl
  unfold Oper.wp
  go_simp
  clear e0
  refine hK _ _ ?_; clear hK
  refine hsl.go (by decide) ?_; clear hsl; intro a1 hsl
  refine alloc_rwB (G := fun W => wpOps _ _ _ _ _ W) ?_
  intro w1 hz X1 hb
  generalize hg : w.heap.size = bx at X1 hsl
  have o1 : w.heap.size ≤ bx ∧ bx < w1.heap.size := by omega
  clear hg hz
  have HB := hb; clear hb
  refine ops_go rfl rfl (fun K hK => ?_)
  unfold Oper.wp
  go_simp
  refine hK _ _ ?_; clear hK
  refine hsl.go (by decide) ?_; clear hsl; intro a1 hsl
  refine alloc_rwB (G := fun W => wpOps _ _ _ _ _ W) ?_
  intro w2 hz X4 hb
  replace X1 := X1.below hb
  generalize hg : w1.heap.size = r4 at X4 hsl
  have o2 : bx < r4 ∧ r4 < w2.heap.size := by omega
  clear hg hz
  replace HB := HB.trans (hb.mono HB.size); clear hb
  refine ops_done ?_
  try simp only [Exit.then, Exit.inBlock, ↓reduceIte, Nat.reduceEqDiff]
  refine wp_seq ?_
  have e : regionIn Tryz.f64 1 = Code.region 1 _ false := rfl
  rw [e]; clear e
  refine wp_region ?_
  refine ops_go rfl rfl (fun K hK => ?_)
  unfold Oper.wp
  go_simp
  refine hK _ _ ?_; clear hK
  refine hsl.go (by decide) ?_; clear hsl; intro a1 hsl
  refine ops_go rfl rfl (fun K hK => ?_)
  unfold Oper.wp
  go_simp
  refine hK _ _ ?_; clear hK
  refine hsl.go (by decide) ?_; clear hsl; intro a1 hsl
  refine alloc_rwB (G := fun W => wpOps _ _ _ _ _ W) ?_
  intro w3 hz X5 hb
  replace X1 := X1.below hb
  replace X4 := X4.below hb
  generalize hg : w2.heap.size = r5 at X5 hsl
  have o3 : r4 < r5 ∧ r5 < w3.heap.size := by omega
  clear hg hz
  replace HB := HB.trans (hb.mono HB.size); clear hb
  refine ops_go rfl rfl (fun K hK => ?_)
  have e5 := hsl.get 5 _ rfl
  have e7 := hsl.get 7 _ rfl
  have z0 := X5.cell (o := 0) rfl
  have f0 := X5.fz 0
  have z1 := X5.cell (o := 1) rfl
  have f1 := X5.fz 1
  have z2 := X5.cell (o := 2) rfl
  have f2 := X5.fz 2
  have z3 := X5.cell (o := 3) rfl
  have f3 := X5.fz 3
  have z4 := X5.cell (o := 4) rfl
  have f4 := X5.fz 4
  have z5 := X5.cell (o := 5) rfl
  have f5 := X5.fz 5
  have z6 := X5.cell (o := 6) rfl
  have f6 := X5.fz 6
  unfold Oper.wp
  go_simp
  clear e5 e7
  refine hK _ _ ?_; clear hK
  clear z0 f0 z1 f1 z2 f2 z3 f3 z4 f4 z5 f5 z6 f6
  replace X1 := ((((((X1.far (g := r5) (by omega) 0 (.int .i64 0)).far (g := r5) (by omega) 1 (.int .i64 0)).far (g := r5) (by omega) 2 (.int .i64 0)).far (g := r5) (by omega) 3 (.int .i64 0)).far (g := r5) (by omega) 4 (.int .i64 1)).far (g := r5) (by omega) 5 (.int .i64 0)).far (g := r5) (by omega) 6 (.int .i64 0)
  replace X4 := ((((((X4.far (g := r5) (by omega) 0 (.int .i64 0)).far (g := r5) (by omega) 1 (.int .i64 0)).far (g := r5) (by omega) 2 (.int .i64 0)).far (g := r5) (by omega) 3 (.int .i64 0)).far (g := r5) (by omega) 4 (.int .i64 1)).far (g := r5) (by omega) 5 (.int .i64 0)).far (g := r5) (by omega) 6 (.int .i64 0)
  replace X5 := ((((((X5.set 0 (.int .i64 0)).set 1 (.int .i64 0)).set 2 (.int .i64 0)).set 3 (.int .i64 0)).set 4 (.int .i64 1)).set 5 (.int .i64 0)).set 6 (.int .i64 0)
  have h5 : w.heap.size ≤ r5 := by omega
  replace HB := ((((((HB.setCell (p := ⟨r5, 0, none⟩) h5 (.int .i64 0)).setCell (p := ⟨r5, 1, none⟩) h5 (.int .i64 0)).setCell (p := ⟨r5, 2, none⟩) h5 (.int .i64 0)).setCell (p := ⟨r5, 3, none⟩) h5 (.int .i64 0)).setCell (p := ⟨r5, 4, none⟩) h5 (.int .i64 1)).setCell (p := ⟨r5, 5, none⟩) h5 (.int .i64 0)).setCell (p := ⟨r5, 6, none⟩) h5 (.int .i64 0)
  replace X5 : Rw _ r5 #[.int .i64 0, .int .i64 0, .int .i64 0, .int .i64 0, .int .i64 1, .int .i64 0, .int .i64 0] 63 := X5
  have o4 := X5.lt
  generalize (World.setCell _ _ _) = w4 at X1 X4 X5 HB o4 ⊢
  refine ops_done ?_
  try simp only [Exit.then, Exit.inBlock, ↓reduceIte, Nat.reduceEqDiff]
  refine wp_seq ?_
  have e : regionIn Tryz.f64 2 = Code.region 2 _ false := rfl
  rw [e]; clear e
  refine wp_region ?_
  refine ops_go rfl rfl (fun K hK => ?_)
  have e1 := hsl.get 1 _ rfl
  unfold Oper.wp
  go_simp
  clear e1
  refine hK _ _ ?_; clear hK
  refine hsl.go (by decide) ?_; clear hsl; intro a1 hsl
  refine ops_go rfl rfl (fun K hK => ?_)
  have e8 := hsl.get 8 _ rfl
  unfold Oper.wp
  go_simp
  refine (split_any _ 32 s (hm.below HB) hs).mono ?_
  rintro e w5 ⟨g, hg, rfl, XG, hb⟩
  rw [hws] at XG ⊢
  simp only [List.length_cons, List.length_nil, Nat.reduceAdd, Nat.zero_add]
  have I0 : SI w w5 n bx r4 r5 g _ _ := ⟨HB.trans (hb.mono HB.size), hm, X1.below hb, X4.below hb, X5.below hb, XG, by omega⟩
  clear HB X1 X4 X5 XG hb
  clear e8
  refine hK _ _ ?_; clear hK
  refine hsl.go (by decide) ?_; clear hsl; intro a1 hsl
  refine ops_go rfl rfl (fun K hK => ?_)
  have e9 := hsl.get 9 _ rfl
  unfold Oper.wp
  go_simp
  clear e9
  refine hK _ _ ?_; clear hK
  refine hsl.go (by decide) ?_; clear hsl; intro a1 hsl
  refine ops_done ?_
  try simp only [Exit.then, Exit.inBlock, ↓reduceIte, Nat.reduceEqDiff]
  refine wp_seq ?_
  refine wp_seq ?_
  have e : regionIn Tryz.f64 3 = Code.region 3 _ false := rfl
  rw [e]; clear e
  refine wp_region ?_
  refine ops_go rfl rfl (fun K hK => ?_)
  have e6 := hsl.get 6 _ rfl
  unfold Oper.wp
  go_simp
  clear e6
  refine hK _ _ ?_; clear hK
  refine hsl.go (by decide) ?_; clear hsl; intro a1 hsl
  refine ops_go rfl rfl (fun K hK => ?_)
  have e10 := hsl.get 10 _ rfl
  unfold Oper.wp
  go_simp
  clear e10
  refine hK _ _ ?_; clear hK
  refine hsl.go (by decide) ?_; clear hsl; intro a1 hsl
  refine ops_done ?_
  try simp only [Exit.then, Exit.inBlock, ↓reduceIte, Nat.reduceEqDiff]
  refine wp_block ?_
  refine wp_seq ?_
  refine wp_block ?_
  refine wp_seq ?_
  refine wp_block ?_
  refine wp_seq ?_
  refine wp_block ?_
  refine wp_seq ?_
  refine wp_block ?_
  refine wp_seq ?_
  refine wp_seq ?_
  refine wp_seq ?_
  have e : regionIn Tryz.f64 4 = Code.region 4 _ false := rfl
  rw [e]; clear e
  refine wp_region ?_
  refine ops_go rfl rfl (fun K hK => ?_)
  have e11 := hsl.get 11 _ rfl
  unfold Oper.wp
  go_simp
  clear e11
  refine hK _ _ ?_; clear hK
  refine hsl.go (by decide) ?_; clear hsl; intro a1 hsl
  refine ops_go rfl rfl (fun K hK => ?_)
  have e13 := hsl.get 13 _ rfl
  unfold Oper.wp
  go_simp
  clear e13
  refine hK _ _ ?_; clear hK
  refine hsl.go (by decide) ?_; clear hsl; intro a1 hsl
  refine ops_done ?_
  try simp only [Exit.then, Exit.inBlock, ↓reduceIte, Nat.reduceEqDiff]
  refine wp_cond_true (hsl.ev 12 rfl) ?_
  refine wp_exit ?_
  try simp only [Exit.then, Exit.inBlock, ↓reduceIte, Nat.reduceEqDiff]
  refine wp_seq ?_
  refine wp_seq ?_
  have e : regionIn Tryz.f64 7 = Code.region 7 _ false := rfl
  rw [e]; clear e
  refine wp_region ?_
  refine ops_go rfl rfl (fun K hK => ?_)
  have e6 := hsl.get 6 _ rfl
  unfold Oper.wp
  go_simp
  clear e6
  refine hK _ _ ?_; clear hK
  refine hsl.go (by decide) ?_; clear hsl; intro a1 hsl
  refine ops_go rfl rfl (fun K hK => ?_)
  have e18 := hsl.get 18 _ rfl
  unfold Oper.wp
  go_simp
  clear e18
  refine hK _ _ ?_; clear hK
  refine hsl.go (by decide) ?_; clear hsl; intro a1 hsl
  refine ops_go rfl rfl (fun K hK => ?_)
  have e19 := hsl.get 19 _ rfl
  have c5 := I0.kg.cell (o := 5) (v := .string ⟨p5.toArray⟩) rfl
  unfold Oper.wp
  go_simp
  clear e19
  refine hK _ _ ?_; clear hK
  refine hsl.go (by decide) ?_; clear hsl; intro a1 hsl
  refine ops_go rfl rfl (fun K hK => ?_)
  have e20 := hsl.get 20 _ rfl
  unfold Oper.wp
  go_simp
  clear e20
  refine hK _ _ ?_; clear hK
  refine hsl.go (by decide) ?_; clear hsl; intro a1 hsl
  refine ops_done ?_
  try simp only [Exit.then, Exit.inBlock, ↓reduceIte, Nat.reduceEqDiff]
  refine wp_cond_false (hsl.ev 21 rfl) ?_
  refine wp_skip ?_
  try simp only [Exit.then, Exit.inBlock, ↓reduceIte, Nat.reduceEqDiff]
  refine st9 w w5 n bx r4 r5 g _ p6 p7 (by rfl) (by rfl) 0 0 0 0 0 x6 hv6 x7 hv7 I0 _ ((((hsl.nil.cons (hsl.get 6 _ rfl)).cons (hsl.get 5 _ rfl)).cons (hsl.get 4 _ rfl)).cons (hsl.get 2 _ rfl)) _ ?_ ?_
  · intro hn a x hs1 hb
    try simp only [Exit.then, Exit.inBlock, ↓reduceIte, Nat.reduceEqDiff]
    refine ⟨hs1.defers, hb, ?_⟩
    rw [hsv.out]
    rcases hn with hn | hn <;> rw [hn]
    cases numV p6 <;> rfl
  intro hq6 hq7 a2 w8 hs2 I2; clear hsl; have hsl := hs2; clear hs2
  try simp only [Exit.then, Exit.inBlock, ↓reduceIte, Nat.reduceEqDiff]
  refine wp_block ?_
  refine wp_seq ?_
  have e : regionIn Tryz.f64 11 = Code.region 11 _ false := rfl
  rw [e]; clear e
  refine wp_region ?_
  refine ops_go rfl rfl (fun K hK => ?_)
  have e5 := hsl.get 5 _ rfl
  unfold Oper.wp
  go_simp
  clear e5
  refine hK _ _ ?_; clear hK
  refine hsl.go (by decide) ?_; clear hsl; intro a1 hsl
  refine ops_go rfl rfl (fun K hK => ?_)
  have e40 := hsl.get 40 _ rfl
  have k5 := I2.k5.cell (o := 4) rfl
  unfold Oper.wp
  go_simp
  clear e40
  refine hK _ _ ?_; clear hK
  refine hsl.go (by decide) ?_; clear hsl; intro a1 hsl
  refine ops_go rfl rfl (fun K hK => ?_)
  have e41 := hsl.get 41 _ rfl
  unfold Oper.wp
  go_simp
  clear e41
  refine hK _ _ ?_; clear hK
  refine hsl.go (by decide) ?_; clear hsl; intro a1 hsl
  refine ops_go rfl rfl (fun K hK => ?_)
  have e42 := hsl.get 42 _ rfl
  unfold Oper.wp
  go_simp
  clear e42
  refine hK _ _ ?_; clear hK
  refine hsl.go (by decide) ?_; clear hsl; intro a1 hsl
  refine ops_done ?_
  try simp only [Exit.then, Exit.inBlock, ↓reduceIte, Nat.reduceEqDiff]
  refine wp_cond_true (hsl.ev 39 rfl) ?_
  refine wp_skip ?_
  try simp only [Exit.then, Exit.inBlock, ↓reduceIte, Nat.reduceEqDiff]
  refine tail_8 w w8 n bx r4 r5 g _ p0 p1 p2 p3 p4 (by rfl) (by rfl) (by rfl) (by rfl) (by rfl) hl0 3 x6 x7 I2 _ ((((hsl.nil.cons (hsl.get 6 _ rfl)).cons (hsl.get 5 _ rfl)).cons (hsl.get 4 _ rfl)).cons (hsl.get 2 _ rfl)) _ ?_ ?_
  · intro hn a x hs1 hb
    try simp only [Exit.then, Exit.inBlock, ↓reduceIte, Nat.reduceEqDiff]
    refine ⟨hs1.defers, hb, ?_⟩
    rw [hsv.out, hq6, hq7]; simp only [hn]
  intro st a1 w6 hst hs1 I1; clear hsl; have hsl := hs1; clear hs1
  try simp only [Exit.then, Exit.inBlock, ↓reduceIte, Nat.reduceEqDiff]
  refine wp_seq ?_
  have e : regionIn Tryz.f64 22 = Code.region 22 _ false := rfl
  rw [e]; clear e
  refine wp_region ?_
  refine ops_go rfl rfl (fun K hK => ?_)
  have e5 := hsl.get 5 _ rfl
  have z0 : w6.cell? ⟨r5, 0, none⟩ = some (.int .i64 st.A) := I1.k5.cell rfl
  have z1 : w6.cell? ⟨r5, 1, none⟩ = some (.int .i64 st.B) := I1.k5.cell rfl
  have z2 : w6.cell? ⟨r5, 2, none⟩ = some (.int .i64 st.L) := I1.k5.cell rfl
  have z3 : w6.cell? ⟨r5, 3, none⟩ = some (.int .i64 st.W) := I1.k5.cell rfl
  have z4 : w6.cell? ⟨r5, 4, none⟩ = some (.int .i64 st.K) := I1.k5.cell rfl
  have z5 : w6.cell? ⟨r5, 5, none⟩ = some (.int .i64 st.X) := I1.k5.cell rfl
  have z6 : w6.cell? ⟨r5, 6, none⟩ = some (.int .i64 st.Y) := I1.k5.cell rfl
  unfold Oper.wp
  go_simp
  clear e5
  refine hK _ _ ?_; clear hK
  refine hsl.go (by decide) ?_; clear hsl; intro a1 hsl
  clear z0 z1 z2 z3 z4 z5 z6
  refine ops_go rfl rfl (fun K hK => ?_)
  have e4 := hsl.get 4 _ rfl
  have e107 := hsl.get 107 _ rfl
  have y0 := I1.k4.cell (o := 0) rfl
  have f0 := I1.k4.fz 0
  have y1 := I1.k4.cell (o := 1) rfl
  have f1 := I1.k4.fz 1
  have y2 := I1.k4.cell (o := 2) rfl
  have f2 := I1.k4.fz 2
  have y3 := I1.k4.cell (o := 3) rfl
  have f3 := I1.k4.fz 3
  have y4 := I1.k4.cell (o := 4) rfl
  have f4 := I1.k4.fz 4
  have y5 := I1.k4.cell (o := 5) rfl
  have f5 := I1.k4.fz 5
  have y6 := I1.k4.cell (o := 6) rfl
  have f6 := I1.k4.fz 6
  unfold Oper.wp
  go_simp
  clear e4 e107
  refine hK _ _ ?_; clear hK
  clear y0 f0 y1 f1 y2 f2 y3 f3 y4 f4 y5 f5 y6 f6
  have X := ((((((I1.k4.set 0 (.int .i64 st.A)).set 1 (.int .i64 st.B)).set 2 (.int .i64 st.L)).set 3 (.int .i64 st.W)).set 4 (.int .i64 st.K)).set 5 (.int .i64 st.X)).set 6 (.int .i64 st.Y)
  have h4 : w.heap.size ≤ r4 := by have := I1.ord; omega
  have HB := ((((((I1.below.setCell (p := ⟨r4, 0, none⟩) h4 (.int .i64 st.A)).setCell (p := ⟨r4, 1, none⟩) h4 (.int .i64 st.B)).setCell (p := ⟨r4, 2, none⟩) h4 (.int .i64 st.L)).setCell (p := ⟨r4, 3, none⟩) h4 (.int .i64 st.W)).setCell (p := ⟨r4, 4, none⟩) h4 (.int .i64 st.K)).setCell (p := ⟨r4, 5, none⟩) h4 (.int .i64 st.X)).setCell (p := ⟨r4, 6, none⟩) h4 (.int .i64 st.Y)
  replace X : Rw _ r4 #[.int .i64 st.A, .int .i64 st.B, .int .i64 st.L, .int .i64 st.W, .int .i64 st.K, .int .i64 st.X, .int .i64 st.Y] 63 := X
  generalize (World.setCell _ _ _) = w7 at X HB ⊢
  refine ops_done ?_
  try simp only [Exit.then, Exit.inBlock, ↓reduceIte, Nat.reduceEqDiff]
  refine wp_ret ?_
  have z0 : w7.cell? ⟨r4, 0, none⟩ = some (.int .i64 st.A) := X.cell rfl
  have z1 : w7.cell? ⟨r4, 1, none⟩ = some (.int .i64 st.B) := X.cell rfl
  have z2 : w7.cell? ⟨r4, 2, none⟩ = some (.int .i64 st.L) := X.cell rfl
  have z3 : w7.cell? ⟨r4, 3, none⟩ = some (.int .i64 st.W) := X.cell rfl
  have z4 : w7.cell? ⟨r4, 4, none⟩ = some (.int .i64 st.K) := X.cell rfl
  have z5 : w7.cell? ⟨r4, 5, none⟩ = some (.int .i64 st.X) := X.cell rfl
  have z6 : w7.cell? ⟨r4, 6, none⟩ = some (.int .i64 st.Y) := X.cell rfl
  refine bodyPost_ret (v := st.val) ?_ hsl.defers ⟨HB, ?_⟩
  · simp [results, Tryz.results64, hsl.get 4 _ rfl, go_sem, Strip.val, z0, z1, z2, z3, z4, z5, z6]
  · rw [hsv.out, hq6, hq7]; simp only [hst]
set_option maxRecDepth 100000 in
set_option maxHeartbeats 4000000 in
theorem strip8other (w : World) (n : Int) (s : List UInt8) (p0 p1 p2 p3 p4 p5 p6 p7 : List UInt8) (hl0 : p0.length < 4294967281) (hk : ¬ p5 = wFord) (hm : MaxOk w) (hs : s.length < 4294967281) (hws : splitC 32 s = [p0, p1, p2, p3, p4, p5, p6, p7]) : Calls Tryz.prog 64 #[.agg #[.int .i64 n], .string ⟨s.toArray⟩] w (StripPost w n (stripV [p0, p1, p2, p3, p4, p5, p6, p7])) := by
  refine calls_of_wp Tryz.func64 strip_body ?_
  have hsl : Sl (⟨#[.agg #[.int .i64 n], .string ⟨s.toArray⟩] ++ Array.replicate (Tryz.f64.ntmps - (#[.agg #[.int .i64 n], .string ⟨s.toArray⟩] : Array Value).size) undef, []⟩ : Act) 108 [(0, .agg #[.int .i64 n]), (1, .string ⟨s.toArray⟩)] := by rw [Tryz.ntmps64]; exact Sl.entry2 _ _ (by omega)
  revert hsl; generalize (Act.mk _ _) = a0; intro hsl
  have e5 : (p5 == [102, 111, 114, 100]) = false := by simpa [wFord] using hk
  have hsv : stripV [p0, p1, p2, p3, p4, p5, p6, p7] = none := by rw [stripV, if_neg hk]
  replace hsv := Lib.hid hsv
  refine wp_seq ?_
  have e : regionIn Tryz.f64 0 = Code.region 0 _ false := rfl
  rw [e]; clear e
  refine wp_region ?_
  refine ops_go rfl rfl (fun K hK => ?_)
  have e0 := hsl.get 0 _ rfl
  unfold Oper.wp
  go_simp
  clear e0
  refine hK _ _ ?_; clear hK
  refine hsl.go (by decide) ?_; clear hsl; intro a1 hsl
  refine alloc_rwB (G := fun W => wpOps _ _ _ _ _ W) ?_
  intro w1 hz X1 hb
  generalize hg : w.heap.size = bx at X1 hsl
  have o1 : w.heap.size ≤ bx ∧ bx < w1.heap.size := by omega
  clear hg hz
  have HB := hb; clear hb
  refine ops_go rfl rfl (fun K hK => ?_)
  unfold Oper.wp
  go_simp
  refine hK _ _ ?_; clear hK
  refine hsl.go (by decide) ?_; clear hsl; intro a1 hsl
  refine alloc_rwB (G := fun W => wpOps _ _ _ _ _ W) ?_
  intro w2 hz X4 hb
  replace X1 := X1.below hb
  generalize hg : w1.heap.size = r4 at X4 hsl
  have o2 : bx < r4 ∧ r4 < w2.heap.size := by omega
  clear hg hz
  replace HB := HB.trans (hb.mono HB.size); clear hb
  refine ops_done ?_
  try simp only [Exit.then, Exit.inBlock, ↓reduceIte, Nat.reduceEqDiff]
  refine wp_seq ?_
  have e : regionIn Tryz.f64 1 = Code.region 1 _ false := rfl
  rw [e]; clear e
  refine wp_region ?_
  refine ops_go rfl rfl (fun K hK => ?_)
  unfold Oper.wp
  go_simp
  refine hK _ _ ?_; clear hK
  refine hsl.go (by decide) ?_; clear hsl; intro a1 hsl
  refine ops_go rfl rfl (fun K hK => ?_)
  unfold Oper.wp
  go_simp
  refine hK _ _ ?_; clear hK
  refine hsl.go (by decide) ?_; clear hsl; intro a1 hsl
  refine alloc_rwB (G := fun W => wpOps _ _ _ _ _ W) ?_
  intro w3 hz X5 hb
  replace X1 := X1.below hb
  replace X4 := X4.below hb
  generalize hg : w2.heap.size = r5 at X5 hsl
  have o3 : r4 < r5 ∧ r5 < w3.heap.size := by omega
  clear hg hz
  replace HB := HB.trans (hb.mono HB.size); clear hb
  refine ops_go rfl rfl (fun K hK => ?_)
  have e5 := hsl.get 5 _ rfl
  have e7 := hsl.get 7 _ rfl
  have z0 := X5.cell (o := 0) rfl
  have f0 := X5.fz 0
  have z1 := X5.cell (o := 1) rfl
  have f1 := X5.fz 1
  have z2 := X5.cell (o := 2) rfl
  have f2 := X5.fz 2
  have z3 := X5.cell (o := 3) rfl
  have f3 := X5.fz 3
  have z4 := X5.cell (o := 4) rfl
  have f4 := X5.fz 4
  have z5 := X5.cell (o := 5) rfl
  have f5 := X5.fz 5
  have z6 := X5.cell (o := 6) rfl
  have f6 := X5.fz 6
  unfold Oper.wp
  go_simp
  clear e5 e7
  refine hK _ _ ?_; clear hK
  clear z0 f0 z1 f1 z2 f2 z3 f3 z4 f4 z5 f5 z6 f6
  replace X1 := ((((((X1.far (g := r5) (by omega) 0 (.int .i64 0)).far (g := r5) (by omega) 1 (.int .i64 0)).far (g := r5) (by omega) 2 (.int .i64 0)).far (g := r5) (by omega) 3 (.int .i64 0)).far (g := r5) (by omega) 4 (.int .i64 1)).far (g := r5) (by omega) 5 (.int .i64 0)).far (g := r5) (by omega) 6 (.int .i64 0)
  replace X4 := ((((((X4.far (g := r5) (by omega) 0 (.int .i64 0)).far (g := r5) (by omega) 1 (.int .i64 0)).far (g := r5) (by omega) 2 (.int .i64 0)).far (g := r5) (by omega) 3 (.int .i64 0)).far (g := r5) (by omega) 4 (.int .i64 1)).far (g := r5) (by omega) 5 (.int .i64 0)).far (g := r5) (by omega) 6 (.int .i64 0)
  replace X5 := ((((((X5.set 0 (.int .i64 0)).set 1 (.int .i64 0)).set 2 (.int .i64 0)).set 3 (.int .i64 0)).set 4 (.int .i64 1)).set 5 (.int .i64 0)).set 6 (.int .i64 0)
  have h5 : w.heap.size ≤ r5 := by omega
  replace HB := ((((((HB.setCell (p := ⟨r5, 0, none⟩) h5 (.int .i64 0)).setCell (p := ⟨r5, 1, none⟩) h5 (.int .i64 0)).setCell (p := ⟨r5, 2, none⟩) h5 (.int .i64 0)).setCell (p := ⟨r5, 3, none⟩) h5 (.int .i64 0)).setCell (p := ⟨r5, 4, none⟩) h5 (.int .i64 1)).setCell (p := ⟨r5, 5, none⟩) h5 (.int .i64 0)).setCell (p := ⟨r5, 6, none⟩) h5 (.int .i64 0)
  replace X5 : Rw _ r5 #[.int .i64 0, .int .i64 0, .int .i64 0, .int .i64 0, .int .i64 1, .int .i64 0, .int .i64 0] 63 := X5
  have o4 := X5.lt
  generalize (World.setCell _ _ _) = w4 at X1 X4 X5 HB o4 ⊢
  refine ops_done ?_
  try simp only [Exit.then, Exit.inBlock, ↓reduceIte, Nat.reduceEqDiff]
  refine wp_seq ?_
  have e : regionIn Tryz.f64 2 = Code.region 2 _ false := rfl
  rw [e]; clear e
  refine wp_region ?_
  refine ops_go rfl rfl (fun K hK => ?_)
  have e1 := hsl.get 1 _ rfl
  unfold Oper.wp
  go_simp
  clear e1
  refine hK _ _ ?_; clear hK
  refine hsl.go (by decide) ?_; clear hsl; intro a1 hsl
  refine ops_go rfl rfl (fun K hK => ?_)
  have e8 := hsl.get 8 _ rfl
  unfold Oper.wp
  go_simp
  refine (split_any _ 32 s (hm.below HB) hs).mono ?_
  rintro e w5 ⟨g, hg, rfl, XG, hb⟩
  rw [hws] at XG ⊢
  simp only [List.length_cons, List.length_nil, Nat.reduceAdd, Nat.zero_add]
  have I0 : SI w w5 n bx r4 r5 g _ _ := ⟨HB.trans (hb.mono HB.size), hm, X1.below hb, X4.below hb, X5.below hb, XG, by omega⟩
  clear HB X1 X4 X5 XG hb
  clear e8
  refine hK _ _ ?_; clear hK
  refine hsl.go (by decide) ?_; clear hsl; intro a1 hsl
  refine ops_go rfl rfl (fun K hK => ?_)
  have e9 := hsl.get 9 _ rfl
  unfold Oper.wp
  go_simp
  clear e9
  refine hK _ _ ?_; clear hK
  refine hsl.go (by decide) ?_; clear hsl; intro a1 hsl
  refine ops_done ?_
  try simp only [Exit.then, Exit.inBlock, ↓reduceIte, Nat.reduceEqDiff]
  refine wp_seq ?_
  refine wp_seq ?_
  have e : regionIn Tryz.f64 3 = Code.region 3 _ false := rfl
  rw [e]; clear e
  refine wp_region ?_
  refine ops_go rfl rfl (fun K hK => ?_)
  have e6 := hsl.get 6 _ rfl
  unfold Oper.wp
  go_simp
  clear e6
  refine hK _ _ ?_; clear hK
  refine hsl.go (by decide) ?_; clear hsl; intro a1 hsl
  refine ops_go rfl rfl (fun K hK => ?_)
  have e10 := hsl.get 10 _ rfl
  unfold Oper.wp
  go_simp
  clear e10
  refine hK _ _ ?_; clear hK
  refine hsl.go (by decide) ?_; clear hsl; intro a1 hsl
  refine ops_done ?_
  try simp only [Exit.then, Exit.inBlock, ↓reduceIte, Nat.reduceEqDiff]
  refine wp_block ?_
  refine wp_seq ?_
  refine wp_block ?_
  refine wp_seq ?_
  refine wp_block ?_
  refine wp_seq ?_
  refine wp_block ?_
  refine wp_seq ?_
  refine wp_block ?_
  refine wp_seq ?_
  refine wp_seq ?_
  refine wp_seq ?_
  have e : regionIn Tryz.f64 4 = Code.region 4 _ false := rfl
  rw [e]; clear e
  refine wp_region ?_
  refine ops_go rfl rfl (fun K hK => ?_)
  have e11 := hsl.get 11 _ rfl
  unfold Oper.wp
  go_simp
  clear e11
  refine hK _ _ ?_; clear hK
  refine hsl.go (by decide) ?_; clear hsl; intro a1 hsl
  refine ops_go rfl rfl (fun K hK => ?_)
  have e13 := hsl.get 13 _ rfl
  unfold Oper.wp
  go_simp
  clear e13
  refine hK _ _ ?_; clear hK
  refine hsl.go (by decide) ?_; clear hsl; intro a1 hsl
  refine ops_done ?_
  try simp only [Exit.then, Exit.inBlock, ↓reduceIte, Nat.reduceEqDiff]
  refine wp_cond_true (hsl.ev 12 rfl) ?_
  refine wp_exit ?_
  try simp only [Exit.then, Exit.inBlock, ↓reduceIte, Nat.reduceEqDiff]
  refine wp_seq ?_
  refine wp_seq ?_
  have e : regionIn Tryz.f64 7 = Code.region 7 _ false := rfl
  rw [e]; clear e
  refine wp_region ?_
  refine ops_go rfl rfl (fun K hK => ?_)
  have e6 := hsl.get 6 _ rfl
  unfold Oper.wp
  go_simp
  clear e6
  refine hK _ _ ?_; clear hK
  refine hsl.go (by decide) ?_; clear hsl; intro a1 hsl
  refine ops_go rfl rfl (fun K hK => ?_)
  have e18 := hsl.get 18 _ rfl
  unfold Oper.wp
  go_simp
  clear e18
  refine hK _ _ ?_; clear hK
  refine hsl.go (by decide) ?_; clear hsl; intro a1 hsl
  refine ops_go rfl rfl (fun K hK => ?_)
  have e19 := hsl.get 19 _ rfl
  have c5 := I0.kg.cell (o := 5) (v := .string ⟨p5.toArray⟩) rfl
  unfold Oper.wp
  go_simp
  clear e19
  refine hK _ _ ?_; clear hK
  refine hsl.go (by decide) ?_; clear hsl; intro a1 hsl
  refine ops_go rfl rfl (fun K hK => ?_)
  have e20 := hsl.get 20 _ rfl
  unfold Oper.wp
  go_simp
  clear e20
  refine hK _ _ ?_; clear hK
  refine hsl.go (by decide) ?_; clear hsl; intro a1 hsl
  refine ops_done ?_
  try simp only [Exit.then, Exit.inBlock, ↓reduceIte, Nat.reduceEqDiff]
  refine wp_cond_true (hsl.ev 21 rfl) ?_
  have e : regionIn Tryz.f64 8 = Code.region 8 _ false := rfl
  rw [e]; clear e
  refine wp_region ?_
  refine ops_go rfl rfl (fun K hK => ?_)
  have e2 := hsl.get 2 _ rfl
  have hbx := I0.kb.cell (o := 0) rfl
  unfold Oper.wp
  go_simp
  clear e2
  refine hK _ _ ?_; clear hK
  refine hsl.go (by decide) ?_; clear hsl; intro a1 hsl
  refine ops_go rfl rfl (fun K hK => ?_)
  have e22 := hsl.get 22 _ rfl
  unfold Oper.wp
  go_simp
  clear e22
  refine hK _ _ ?_; clear hK
  refine hsl.go (by decide) ?_; clear hsl; intro a1 hsl
  refine ops_go rfl rfl (fun K hK => ?_)
  have e23 := hsl.get 23 _ rfl
  unfold Oper.wp
  go_simp
  clear e23
  try simp only [Exit.then, Exit.inBlock, ↓reduceIte, Nat.reduceEqDiff]
  exact ⟨hsl.defers, I0.below, by rw [hsv.out]; rfl⟩
theorem strip_any (w : World) (n : Int) (s : List UInt8) (hm : MaxOk w) (hs : s.length < 4294967281) : Calls Tryz.prog 64 #[.agg #[.int .i64 n], .string ⟨s.toArray⟩] w (StripPost w n (stripV (splitC 32 s))) := by
  have hle := splitC_le 32 s
  have short : ∀ l : List (List UInt8), splitC 32 s = l → l.length ≠ 5 → l.length ≠ 7 → l.length ≠ 8 → stripV l = none → Calls Tryz.prog 64 #[.agg #[.int .i64 n], .string ⟨s.toArray⟩] w (StripPost w n (stripV l)) := by
    intro l e h5 h7 h8 hv
    rw [hv]
    exact stripO w n s hm hs (beq_falseI (by rw [e]; omega)) (beq_falseI (by rw [e]; omega)) (beq_falseI (by rw [e]; omega))
  rcases hws : splitC 32 s with _ | ⟨p0, _ | ⟨p1, _ | ⟨p2, _ | ⟨p3, _ | ⟨p4, _ | ⟨p5, _ | ⟨p6, _ | ⟨p7, _ | ⟨p8, l⟩⟩⟩⟩⟩⟩⟩⟩⟩
  · exact short _ hws (by simp) (by simp) (by simp) rfl
  · exact short _ hws (by simp) (by simp) (by simp) rfl
  · exact short _ hws (by simp) (by simp) (by simp) rfl
  · exact short _ hws (by simp) (by simp) (by simp) rfl
  · exact short _ hws (by simp) (by simp) (by simp) rfl
  · have h0 := hle p0 (by rw [hws]; simp)
    exact strip5 w n s p0 p1 p2 p3 p4 (by omega) hm hs hws
  · exact short _ hws (by simp) (by simp) (by simp) rfl
  · have h0 := hle p0 (by rw [hws]; simp)
    have h6 := hle p6 (by rw [hws]; simp)
    by_cases hk : p5 = wPass
    · exact strip7pass w n s p0 p1 p2 p3 p4 p5 p6 (by omega) hk (by omega) hm hs hws
    · by_cases hk2 : p5 = wBridge
      · exact strip7bridge w n s p0 p1 p2 p3 p4 p5 p6 (by omega) hk hk2 hm hs hws
      · exact strip7other w n s p0 p1 p2 p3 p4 p5 p6 (by omega) hk hk2 hm hs hws
  · have h0 := hle p0 (by rw [hws]; simp)
    by_cases hk : p5 = wFord
    · exact strip8ford w n s p0 p1 p2 p3 p4 p5 p6 p7 (by omega) hk hm hs hws
    · exact strip8other w n s p0 p1 p2 p3 p4 p5 p6 p7 (by omega) hk hm hs hws
  · exact short _ hws (by simp) (by simp) (by simp) rfl
end Go.Proofs.YtmkjeonjhedgkaaGreatDoor
