/- RoadKnown: region 2, which draws its order and stores into four roads; the first segment. -/
import Derived.Test.YtmkjeonjhedgkaaDoorKnG
import Derived.Test.YtmkjeonjhedgkaaDoorBuild
import Derived.Test.YtmkjeonjhedgkaaDoorRegLast
import Derived.Test.YtmkjeonjhedgkaaDoorBig
/- A region that draws its order, in a frame of which the slots in use are told: one case an operation; what an operation's value is may lean on the values ahead of it; the world by what holds when some operations are done. -/
namespace Go.Proofs.YtmkjeonjhedgkaaDoor
set_option linter.unusedSimpArgs false
set_option linter.unusedVariables false
open Go.RowKit

/-- The slots are written once each, lie in the frame and are none of those told. -/
def okD (n : Nat) (ms : List Nat) : List (Option Nat) → Bool
  | [] => true
  | none :: l => okD n ms l
  | some d :: l => decide (d < n) && !ms.contains d && !l.contains (some d) && okD n ms l
theorem okD_at {n : Nat} {ms : List Nat} : ∀ {l : List (Option Nat)} {k d : Nat}, okD n ms l = true → l[k]? = some (some d) → d < n ∧ d ∉ ms
  | none :: l, 0, d, _, h => by simp at h
  | none :: l, k + 1, d, ho, h => okD_at (l := l) (k := k) (by simpa [okD] using ho) (by simpa using h)
  | some x :: l, 0, d, ho, h => by
    have e : x = d := by simpa using h
    subst e
    simp only [okD, Bool.and_eq_true, decide_eq_true_eq] at ho
    refine ⟨ho.1.1.1, fun hm => ?_⟩
    have := ho.1.1.2
    simp [hm] at this
  | some x :: l, k + 1, d, ho, h => okD_at (l := l) (k := k) (by simp only [okD, Bool.and_eq_true] at ho; exact ho.2) (by simpa using h)
theorem okD_ne {n : Nat} {ms : List Nat} : ∀ {l : List (Option Nat)} {j k d : Nat}, okD n ms l = true → l[j]? = some (some d) → l[k]? = some (some d) → j = k
  | [], _, _, _, _, h, _ => by simp at h
  | none :: l, 0, _, d, _, h, _ => by simp at h
  | none :: l, j + 1, 0, d, _, _, h => by simp at h
  | none :: l, j + 1, k + 1, d, ho, h, h2 => by
    have := okD_ne (l := l) (j := j) (k := k) (by simpa [okD] using ho) (by simpa using h) (by simpa using h2)
    omega
  | some x :: l, 0, 0, d, _, _, _ => rfl
  | some x :: l, 0, k + 1, d, ho, h, h2 => by
    have e : x = d := by simpa using h
    subst e
    simp only [okD, Bool.and_eq_true, decide_eq_true_eq] at ho
    have h3 := ho.1.2
    have h4 : some x ∈ l := List.mem_of_getElem? (by simpa using h2)
    simp [h4] at h3
  | some x :: l, j + 1, 0, d, ho, h, h2 => by
    have e : x = d := by simpa using h2
    subst e
    simp only [okD, Bool.and_eq_true, decide_eq_true_eq] at ho
    have h3 := ho.1.2
    have h4 : some x ∈ l := List.mem_of_getElem? (by simpa using h)
    simp [h4] at h3
  | some x :: l, j + 1, k + 1, d, ho, h, h2 => by
    simp only [okD, Bool.and_eq_true] at ho
    have := okD_ne (l := l) (j := j) (k := k) ho.2 (by simpa using h) (by simpa using h2)
    omega
theorem lookup_fst : ∀ {m : List (Nat × Value)} {t : Nat} {u : Value}, m.lookup t = some u → t ∈ m.map Prod.fst
  | [], _, _, h => by simp at h
  | (s, v) :: m, t, u, h => by
    rw [List.lookup_cons] at h
    by_cases e : t = s
    · simp [e]
    · have e2 : (t == s) = false := by simpa using e
      rw [e2] at h
      exact List.mem_cons_of_mem _ (lookup_fst h)
/-- What is told of the slots that are written. -/
def SlotsOk (ops : Array Oper) (V : Nat → Value → World → Prop) (L : Nat → Bool) (a : Act) (w : World) : Prop := ∀ j o d, ops[j]? = some o → o.dst = some d → L j = true → ∃ v, a.tmps[d]? = some v ∧ V j v w
theorem wp_region_sl {P : Program} {id : Nat} {Q : Exit → Act → World → Prop} {a : Act} {w : World} {ops : Array Oper} {n : Nat} {m : List (Nat × Value)} (hm : P.follows .mixedOrders = true) (hsl : Sl a n m) (ds : List (Option Nat)) (hds : ops.toList.map Oper.dst = ds) (hok : okD n (m.map Prod.fst) ds = true) (hdag : dag ops = true)
    (V : Nat → Value → World → Prop) (I : (Nat → Bool) → World → Prop) (hI : I (fun _ => false) w.drew)
    (hk : ∀ (k : Nat) (o : Oper), k < ops.size → ops[k]? = some o → ∀ L a w, I L w → L k = false → Sl a n m → SlotsOk ops V L a w → (∀ d ∈ waits o, L d = true) → wpOp P ops Q k (fun a' w' => ∃ v, a' = a.put o.dst v ∧ V k v w' ∧ I (updF L k true) w' ∧ ∀ j u, V j u w → V j u w') a w)
    (he : ∀ L a w, (∀ k, k < ops.size → L k = true) → I L w → Sl a n m → SlotsOk ops V L a w → Q .normal a w) : (Code.region id ops true).wp P Q a w := by
  have hd : ∀ (j : Nat) (o : Oper), ops[j]? = some o → ds[j]? = some o.dst := fun j o h => by
    subst hds
    rw [List.getElem?_map, Array.getElem?_toList, h]; rfl
  refine wp_region_inv hm (fun L a' w' => I L w' ∧ Sl a' n m ∧ SlotsOk ops V L a' w') ⟨hI, hsl, fun j o d _ _ h => by simp at h⟩ ?_ ?_
  · rintro L a' w' i o ho ⟨h1, h2, h3⟩ hli hri
    have hi := (Array.getElem?_eq_some_iff.1 ho).1
    refine wpOp_mono ?_ (hk i o hi ho L a' w' h1 hli h2 h3 (ready_waits hri))
    rintro a2 w2 ⟨v, rfl, hv, hI2, hmono⟩
    refine ⟨hI2, ?_, ?_⟩
    · cases e : o.dst with
      | none => exact h2
      | some d =>
        have hdd := hd i o ho
        rw [e] at hdd
        obtain ⟨hlt, hnm⟩ := okD_at hok hdd
        have hp := h2.put d v hlt
        refine ⟨hp.size, hp.defers, fun t u hu => hp.get t u ?_⟩
        rw [List.lookup_cons]
        have e2 : (t == d) = false := by
          have : t ≠ d := by rintro rfl; exact hnm (lookup_fst hu)
          simpa using this
        rw [e2]; exact hu
    · intro j o' d hj hjd hLj
      have hdj := hd j o' hj
      rw [hjd] at hdj
      cases e : o.dst with
      | none =>
        have hne : j ≠ i := by
          rintro rfl
          rw [ho] at hj
          obtain rfl := Option.some.inj hj
          rw [e] at hjd; simp at hjd
        rw [updF_ne _ _ hne] at hLj
        obtain ⟨u, hu, hvu⟩ := h3 j o' d hj hjd hLj
        exact ⟨u, hu, hmono _ _ hvu⟩
      | some x =>
        have hdi := hd i o ho
        rw [e] at hdi
        by_cases c : j = i
        · subst c
          rw [hdj] at hdi
          obtain rfl : d = x := by simpa using hdi
          obtain ⟨hlt, _⟩ := okD_at hok hdj
          exact ⟨v, by simp [Act.put, h2.size, hlt], hv⟩
        · rw [updF_ne _ _ c] at hLj
          obtain ⟨u, hu, hvu⟩ := h3 j o' d hj hjd hLj
          have hxd : x ≠ d := by
            rintro rfl
            exact c (okD_ne hok hdj hdi)
          refine ⟨u, ?_, hmono _ _ hvu⟩
          simp only [Act.put]
          rw [Array.getElem?_setIfInBounds_ne hxd]; exact hu
  · rintro L a' w' hall ⟨h1, h2, h3⟩
    exact he L a' w' (dag_all hdag hall) h1 h2 h3
end Go.Proofs.YtmkjeonjhedgkaaDoor

/- Blocks of memory as whole rows of cells: what stores and new blocks leave of them. -/
namespace Go.Proofs.YtmkjeonjhedgkaaDoor
set_option linter.unusedSimpArgs false
set_option linter.unusedVariables false
open Go.RowKit

/-- Block b holds these cells, none of them frozen. -/
def Rw (w : World) (b : Nat) (c : Array Value) (t : TypeId) : Prop := w.heap[b]? = some (.cells c t (0, 0))
theorem Rw.lt {w : World} {b : Nat} {c : Array Value} {t : TypeId} (h : Rw w b c t) : b < w.heap.size := (Array.getElem?_eq_some_iff.1 h).1
theorem Rw.cell {w : World} {b : Nat} {c : Array Value} {t : TypeId} (h : Rw w b c t) {o : Nat} {v : Value} (ho : c[o]? = some v) : w.cell? ⟨b, o, none⟩ = some v := cell_at h ho
theorem Rw.fz {w : World} {b : Nat} {c : Array Value} {t : TypeId} (h : Rw w b c t) (o : Nat) : w.frozen? ⟨b, o, none⟩ = false := by
  unfold Rw at h
  simp [World.frozen?, h]
theorem Rw.below {w w' : World} {b : Nat} {c : Array Value} {t : TypeId} (h : Rw w b c t) (hb : Below w.heap.size w w') : Rw w' b c t := heap_below hb h
theorem Rw.far {w : World} {b g : Nat} {c : Array Value} {t : TypeId} (h : Rw w b c t) (hne : b ≠ g) (o : Nat) (v : Value) : Rw (w.setCell ⟨g, o, none⟩ v) b c t := by
  unfold Rw at *
  rw [Below.heap_setCell _ _ _ _ (by simpa using hne)]; exact h
theorem Rw.set {w : World} {b : Nat} {c : Array Value} {t : TypeId} (h : Rw w b c t) (o : Nat) (v : Value) : Rw (w.setCell ⟨b, o, none⟩ v) b (c.setIfInBounds o v) t := by
  unfold Rw at *
  simp [World.setCell, Array.getElem?_modify, h]
theorem Rw.new (w : World) (c : Array Value) (t : TypeId) : Rw (w.alloc (.cells c t)) w.heap.size c t := by
  unfold Rw
  have := heap_alloc_new w (.cells c t)
  simpa using this
theorem alloc_below (w : World) (o : Obj) : Below w.heap.size w (w.alloc o) := (Below.refl _ _).alloc (Nat.le_refl _) _
end Go.Proofs.YtmkjeonjhedgkaaDoor

/- Region 1 of RoadKnown: four roads, each in a box. -/
namespace Go.Proofs.YtmkjeonjhedgkaaDoor
set_option linter.unusedSimpArgs false
set_option linter.unusedVariables false
open Go.RowKit

theorem roadsR (w : World) : Calls Tryd.prog 4 #[] w fun e w' => ∃ g, e = .returned (exV g) ∧ w.heap.size ≤ g ∧ Rw w' g exCells 27 ∧ Below w.heap.size w w' := by
  refine (roads_exact w).mono ?_
  rintro e w' ⟨rfl, A, rfl⟩
  refine ⟨_, rfl, by omega, ?_, ((Below.refl _ _).alloc (Nat.le_refl _) _).alloc (by simp) _⟩
  have := Rw.new (w.alloc A) exCells 27
  simpa using this
def boxC (d : Int) (b : Nat) : Array Value := #[.int .i64 d, .int .i64 4, .slice (some ⟨b, 0, none⟩) 4 4]
/-- Four roads, each in a box. -/
structure Eight (w W : World) (b1 b2 b3 b4 t1 t2 t3 t4 : Nat) (A2 A3 A4 X1 : Array Value) : Prop where
  below : Below w.heap.size w W
  r1 : Rw W b1 exCells 27
  r2 : Rw W b2 A2 27
  r3 : Rw W b3 A3 27
  r4 : Rw W b4 A4 27
  x1 : Rw W t1 X1 24
  x2 : Rw W t2 (boxC 6 b2) 24
  x3 : Rw W t3 (boxC 6 b3) 24
  x4 : Rw W t4 (boxC 6 b4) 24
  ord : w.heap.size ≤ b1 ∧ b1 < b2 ∧ b2 < b3 ∧ b3 < b4 ∧ b4 < t1 ∧ t1 < t2 ∧ t2 < t3 ∧ t3 < t4
theorem alloc_rw {w : World} {c : Array Value} {t : TypeId} {G : World → Prop} (h : ∀ W, W.heap.size = w.heap.size + 1 → Rw W w.heap.size c t → Below w.heap.size w W → G W) : G (w.alloc (.cells c t)) := h _ (by simp) (Rw.new _ _ _) (alloc_below _ _)
theorem Rw.box {w : World} {b : Nat} {c : Array Value} {ty : TypeId} (h : Rw w b c ty) {t g : Nat} (hne : b ≠ t) : Rw (((w.setCell ⟨t, 0, none⟩ (.int .i64 6)).setCell ⟨t, 1, none⟩ (.int .i64 4)).setCell ⟨t, 2, none⟩ (.slice (some ⟨g, 0, none⟩) 4 4)) b c ty := ((h.far hne _ _).far hne _ _).far hne _ _
theorem Rw.boxed {w : World} {t : Nat} {ty : TypeId} (h : Rw w t #[.int .i64 0, .int .i64 0, .slice none 0 0] ty) (g : Nat) : Rw (((w.setCell ⟨t, 0, none⟩ (.int .i64 6)).setCell ⟨t, 1, none⟩ (.int .i64 4)).setCell ⟨t, 2, none⟩ (.slice (some ⟨g, 0, none⟩) 4 4)) t (boxC 6 g) ty := ((h.set 0 _).set 1 _).set 2 _
theorem below_box {w0 w : World} {t g : Nat} (h : Below w0.heap.size w0 w) (ht : w0.heap.size ≤ t) : Below w0.heap.size w0 (((w.setCell ⟨t, 0, none⟩ (.int .i64 6)).setCell ⟨t, 1, none⟩ (.int .i64 4)).setCell ⟨t, 2, none⟩ (.slice (some ⟨g, 0, none⟩) 4 4)) := ((h.setCell (p := ⟨t, 0, none⟩) ht _).setCell (p := ⟨t, 1, none⟩) ht _).setCell (p := ⟨t, 2, none⟩) ht _
set_option maxRecDepth 100000 in
set_option maxHeartbeats 4000000 in
theorem kr1 (w : World) (a : Act) (m : List (Nat × Value)) (hsl : Sl a 548 m) (rest : Code) (Q : Exit → Act → World → Prop) (h : ∀ (a' : Act) (w' : World) (b1 b2 b3 b4 t1 t2 t3 t4 : Nat), Sl a' 548 ([(4, .pointer (some ⟨t4, 0, none⟩)), (3, .pointer (some ⟨t3, 0, none⟩)), (2, .pointer (some ⟨t2, 0, none⟩)), (1, .pointer (some ⟨t1, 0, none⟩)), (37, exV b4), (36, exV b3), (35, exV b2), (34, exV b1)] ++ m) → Eight w w' b1 b2 b3 b4 t1 t2 t3 t4 exCells exCells exCells (boxC 6 b1) → rest.wp Tryd.prog Q a' w') : (Code.seq (regionIn Tryd.f3 1) rest).wp Tryd.prog Q a w := by
  refine wp_seq ?_
  have e : regionIn Tryd.f3 1 = Code.region 1 _ false := rfl
  rw [e]; clear e
  refine wp_region ?_
  have HB := Below.refl w.heap.size w
  refine ops_go rfl rfl (fun K hK => ?_)
  unfold Oper.wp
  go_simp
  refine (roadsR _).mono ?_
  rintro e w1 ⟨b1, rfl, hg1, R1, hb⟩
  replace HB := HB.trans (hb.mono HB.size); have hz1 := hb.size; clear hb; have hl1 := R1.lt
  refine hK _ _ ?_
  clear hK
  refine Sl.step (G := fun a => wpOps _ _ _ _ a _) hsl (by decide) ?_
  intro a1 hs1; clear hsl; have hsl := hs1; clear hs1
  refine ops_go rfl rfl (fun K hK => ?_)
  unfold Oper.wp
  go_simp
  refine (roadsR _).mono ?_
  rintro e w2 ⟨b2, rfl, hg2, R2, hb⟩
  replace R1 := R1.below hb
  replace HB := HB.trans (hb.mono HB.size); have hz2 := hb.size; clear hb; have hl2 := R2.lt
  refine hK _ _ ?_
  clear hK
  refine Sl.step (G := fun a => wpOps _ _ _ _ a _) hsl (by decide) ?_
  intro a1 hs1; clear hsl; have hsl := hs1; clear hs1
  refine ops_go rfl rfl (fun K hK => ?_)
  unfold Oper.wp
  go_simp
  refine (roadsR _).mono ?_
  rintro e w3 ⟨b3, rfl, hg3, R3, hb⟩
  replace R1 := R1.below hb
  replace R2 := R2.below hb
  replace HB := HB.trans (hb.mono HB.size); have hz3 := hb.size; clear hb; have hl3 := R3.lt
  refine hK _ _ ?_
  clear hK
  refine Sl.step (G := fun a => wpOps _ _ _ _ a _) hsl (by decide) ?_
  intro a1 hs1; clear hsl; have hsl := hs1; clear hs1
  refine ops_go rfl rfl (fun K hK => ?_)
  unfold Oper.wp
  go_simp
  refine (roadsR _).mono ?_
  rintro e w4 ⟨b4, rfl, hg4, R4, hb⟩
  replace R1 := R1.below hb
  replace R2 := R2.below hb
  replace R3 := R3.below hb
  replace HB := HB.trans (hb.mono HB.size); have hz4 := hb.size; clear hb; have hl4 := R4.lt
  refine hK _ _ ?_
  clear hK
  refine Sl.step (G := fun a => wpOps _ _ _ _ a _) hsl (by decide) ?_
  intro a1 hs1; clear hsl; have hsl := hs1; clear hs1
  refine ops_go rfl rfl (fun K hK => ?_)
  unfold Oper.wp
  go_simp
  refine hK _ _ ?_
  clear hK
  refine Sl.step (G := fun a => wpOps _ _ _ _ a _) hsl (by decide) ?_
  intro a1 hs1; clear hsl; have hsl := hs1; clear hs1
  refine alloc_rw (G := fun W => wpOps _ _ _ _ _ W) ?_
  intro w5 hz5 X1 hb
  replace R1 := R1.below hb
  replace R2 := R2.below hb
  replace R3 := R3.below hb
  replace R4 := R4.below hb
  replace HB := HB.trans (hb.mono HB.size); clear hb
  generalize ht1 : w4.heap.size = t1 at X1 hsl
  have hp1 : b4 < t1 := by omega
  have hq1 : t1 < w5.heap.size := by omega
  clear ht1 hz5
  refine ops_go rfl rfl (fun K hK => ?_)
  unfold Oper.wp
  go_simp
  refine hK _ _ ?_
  clear hK
  refine Sl.step (G := fun a => wpOps _ _ _ _ a _) hsl (by decide) ?_
  intro a1 hs1; clear hsl; have hsl := hs1; clear hs1
  refine alloc_rw (G := fun W => wpOps _ _ _ _ _ W) ?_
  intro w6 hz6 X2 hb
  replace R1 := R1.below hb
  replace R2 := R2.below hb
  replace R3 := R3.below hb
  replace R4 := R4.below hb
  replace X1 := X1.below hb
  replace HB := HB.trans (hb.mono HB.size); clear hb
  generalize ht2 : w5.heap.size = t2 at X2 hsl
  have hp2 : t1 < t2 := by omega
  have hq2 : t2 < w6.heap.size := by omega
  clear ht2 hz6
  refine ops_go rfl rfl (fun K hK => ?_)
  unfold Oper.wp
  go_simp
  refine hK _ _ ?_
  clear hK
  refine Sl.step (G := fun a => wpOps _ _ _ _ a _) hsl (by decide) ?_
  intro a1 hs1; clear hsl; have hsl := hs1; clear hs1
  refine alloc_rw (G := fun W => wpOps _ _ _ _ _ W) ?_
  intro w7 hz7 X3 hb
  replace R1 := R1.below hb
  replace R2 := R2.below hb
  replace R3 := R3.below hb
  replace R4 := R4.below hb
  replace X1 := X1.below hb
  replace X2 := X2.below hb
  replace HB := HB.trans (hb.mono HB.size); clear hb
  generalize ht3 : w6.heap.size = t3 at X3 hsl
  have hp3 : t2 < t3 := by omega
  have hq3 : t3 < w7.heap.size := by omega
  clear ht3 hz7
  refine ops_go rfl rfl (fun K hK => ?_)
  unfold Oper.wp
  go_simp
  refine hK _ _ ?_
  clear hK
  refine Sl.step (G := fun a => wpOps _ _ _ _ a _) hsl (by decide) ?_
  intro a1 hs1; clear hsl; have hsl := hs1; clear hs1
  refine alloc_rw (G := fun W => wpOps _ _ _ _ _ W) ?_
  intro w8 hz8 X4 hb
  replace R1 := R1.below hb
  replace R2 := R2.below hb
  replace R3 := R3.below hb
  replace R4 := R4.below hb
  replace X1 := X1.below hb
  replace X2 := X2.below hb
  replace X3 := X3.below hb
  replace HB := HB.trans (hb.mono HB.size); clear hb
  generalize ht4 : w7.heap.size = t4 at X4 hsl
  have hp4 : t3 < t4 := by omega
  have hq4 : t4 < w8.heap.size := by omega
  clear ht4 hz8
  refine ops_go rfl rfl (fun K hK => ?_)
  have e1 := hsl.get 1 _ rfl
  have e34 := hsl.get 34 _ rfl
  have c0 := X1.cell (o := 0) rfl
  have f0 := X1.fz 0
  have c1 := X1.cell (o := 1) rfl
  have f1 := X1.fz 1
  have c2 := X1.cell (o := 2) rfl
  have f2 := X1.fz 2
  unfold Oper.wp
  go_simp
  clear e1 e34
  refine hK _ _ ?_
  clear hK
  clear c0 c1 c2 f0 f1 f2
  replace R1 := R1.box (t := t1) (g := b1) (by omega)
  replace R2 := R2.box (t := t1) (g := b1) (by omega)
  replace R3 := R3.box (t := t1) (g := b1) (by omega)
  replace R4 := R4.box (t := t1) (g := b1) (by omega)
  replace X1 := X1.boxed b1
  replace X2 := X2.box (t := t1) (g := b1) (by omega)
  replace X3 := X3.box (t := t1) (g := b1) (by omega)
  replace X4 := X4.box (t := t1) (g := b1) (by omega)
  replace HB := below_box (t := t1) (g := b1) HB (by omega)
  generalize (World.setCell _ _ _) = w9 at R1 R2 R3 R4 X1 X2 X3 X4 HB ⊢
  refine ops_go rfl rfl (fun K hK => ?_)
  have e2 := hsl.get 2 _ rfl
  have e35 := hsl.get 35 _ rfl
  have c0 := X2.cell (o := 0) rfl
  have f0 := X2.fz 0
  have c1 := X2.cell (o := 1) rfl
  have f1 := X2.fz 1
  have c2 := X2.cell (o := 2) rfl
  have f2 := X2.fz 2
  unfold Oper.wp
  go_simp
  clear e2 e35
  refine hK _ _ ?_
  clear hK
  clear c0 c1 c2 f0 f1 f2
  replace R1 := R1.box (t := t2) (g := b2) (by omega)
  replace R2 := R2.box (t := t2) (g := b2) (by omega)
  replace R3 := R3.box (t := t2) (g := b2) (by omega)
  replace R4 := R4.box (t := t2) (g := b2) (by omega)
  replace X1 := X1.box (t := t2) (g := b2) (by omega)
  replace X2 := X2.boxed b2
  replace X3 := X3.box (t := t2) (g := b2) (by omega)
  replace X4 := X4.box (t := t2) (g := b2) (by omega)
  replace HB := below_box (t := t2) (g := b2) HB (by omega)
  generalize (World.setCell _ _ _) = w10 at R1 R2 R3 R4 X1 X2 X3 X4 HB ⊢
  refine ops_go rfl rfl (fun K hK => ?_)
  have e3 := hsl.get 3 _ rfl
  have e36 := hsl.get 36 _ rfl
  have c0 := X3.cell (o := 0) rfl
  have f0 := X3.fz 0
  have c1 := X3.cell (o := 1) rfl
  have f1 := X3.fz 1
  have c2 := X3.cell (o := 2) rfl
  have f2 := X3.fz 2
  unfold Oper.wp
  go_simp
  clear e3 e36
  refine hK _ _ ?_
  clear hK
  clear c0 c1 c2 f0 f1 f2
  replace R1 := R1.box (t := t3) (g := b3) (by omega)
  replace R2 := R2.box (t := t3) (g := b3) (by omega)
  replace R3 := R3.box (t := t3) (g := b3) (by omega)
  replace R4 := R4.box (t := t3) (g := b3) (by omega)
  replace X1 := X1.box (t := t3) (g := b3) (by omega)
  replace X2 := X2.box (t := t3) (g := b3) (by omega)
  replace X3 := X3.boxed b3
  replace X4 := X4.box (t := t3) (g := b3) (by omega)
  replace HB := below_box (t := t3) (g := b3) HB (by omega)
  generalize (World.setCell _ _ _) = w11 at R1 R2 R3 R4 X1 X2 X3 X4 HB ⊢
  refine ops_go rfl rfl (fun K hK => ?_)
  have e4 := hsl.get 4 _ rfl
  have e37 := hsl.get 37 _ rfl
  have c0 := X4.cell (o := 0) rfl
  have f0 := X4.fz 0
  have c1 := X4.cell (o := 1) rfl
  have f1 := X4.fz 1
  have c2 := X4.cell (o := 2) rfl
  have f2 := X4.fz 2
  unfold Oper.wp
  go_simp
  clear e4 e37
  refine hK _ _ ?_
  clear hK
  clear c0 c1 c2 f0 f1 f2
  replace R1 := R1.box (t := t4) (g := b4) (by omega)
  replace R2 := R2.box (t := t4) (g := b4) (by omega)
  replace R3 := R3.box (t := t4) (g := b4) (by omega)
  replace R4 := R4.box (t := t4) (g := b4) (by omega)
  replace X1 := X1.box (t := t4) (g := b4) (by omega)
  replace X2 := X2.box (t := t4) (g := b4) (by omega)
  replace X3 := X3.box (t := t4) (g := b4) (by omega)
  replace X4 := X4.boxed b4
  replace HB := below_box (t := t4) (g := b4) HB (by omega)
  generalize (World.setCell _ _ _) = w12 at R1 R2 R3 R4 X1 X2 X3 X4 HB ⊢
  refine ops_done ?_
  exact h _ _ _ _ _ _ _ _ _ _ hsl ⟨HB, R1, R2, R3, R4, X1, X2, X3, X4, by omega⟩
end Go.Proofs.YtmkjeonjhedgkaaDoor
namespace Go.Proofs.YtmkjeonjhedgkaaDoor
set_option linter.unusedSimpArgs false
set_option linter.unusedVariables false
open Go.RowKit

theorem Rw.cells {w : World} {b : Nat} {c : Array Value} {t : TypeId} (h : Rw w b c t) : CellsAt w b c.toList := fun k hk => h.cell (by rw [Array.length_toList] at hk; rw [Array.getElem?_eq_getElem hk]; simp)
/-- Some of the four stores are done. -/
def EB (w x : World) (b1 b2 b3 b4 t1 t2 t3 t4 : Nat) (l7 l10 l13 l16 : Bool) : Prop :=
  Eight w x b1 b2 b3 b4 t1 t2 t3 t4 (if l10 then exCells.setIfInBounds 13 (.int .i64 6) else exCells) (if l13 then exCells.setIfInBounds 18 (.int .i64 5) else exCells) (if l16 then exCells.setIfInBounds 1 (.int .i64 0) else exCells) (if l7 then (boxC 6 b1).setIfInBounds 0 (.int .i64 11) else boxC 6 b1)
section
variable {w x : World} {b1 b2 b3 b4 t1 t2 t3 t4 : Nat} {l7 l10 l13 l16 : Bool}
theorem EB.s7 (h : EB w x b1 b2 b3 b4 t1 t2 t3 t4 false l10 l13 l16) : EB w (x.setCell ⟨t1, 0, none⟩ (.int .i64 11)) b1 b2 b3 b4 t1 t2 t3 t4 true l10 l13 l16 := by
  obtain ⟨hb, r1, r2, r3, r4, x1, x2, x3, x4, o⟩ := h
  exact ⟨hb.setCell (p := ⟨t1, 0, none⟩) (show w.heap.size ≤ t1 by omega) _, r1.far (by omega) _ _, r2.far (by omega) _ _, r3.far (by omega) _ _, r4.far (by omega) _ _, x1.set _ _, x2.far (by omega) _ _, x3.far (by omega) _ _, x4.far (by omega) _ _, o⟩
theorem EB.s10 (h : EB w x b1 b2 b3 b4 t1 t2 t3 t4 l7 false l13 l16) : EB w (x.setCell ⟨b2, 13, none⟩ (.int .i64 6)) b1 b2 b3 b4 t1 t2 t3 t4 l7 true l13 l16 := by
  obtain ⟨hb, r1, r2, r3, r4, x1, x2, x3, x4, o⟩ := h
  exact ⟨hb.setCell (p := ⟨b2, 13, none⟩) (show w.heap.size ≤ b2 by omega) _, r1.far (by omega) _ _, r2.set _ _, r3.far (by omega) _ _, r4.far (by omega) _ _, x1.far (by omega) _ _, x2.far (by omega) _ _, x3.far (by omega) _ _, x4.far (by omega) _ _, o⟩
theorem EB.s13 (h : EB w x b1 b2 b3 b4 t1 t2 t3 t4 l7 l10 false l16) : EB w (x.setCell ⟨b3, 18, none⟩ (.int .i64 5)) b1 b2 b3 b4 t1 t2 t3 t4 l7 l10 true l16 := by
  obtain ⟨hb, r1, r2, r3, r4, x1, x2, x3, x4, o⟩ := h
  exact ⟨hb.setCell (p := ⟨b3, 18, none⟩) (show w.heap.size ≤ b3 by omega) _, r1.far (by omega) _ _, r2.far (by omega) _ _, r3.set _ _, r4.far (by omega) _ _, x1.far (by omega) _ _, x2.far (by omega) _ _, x3.far (by omega) _ _, x4.far (by omega) _ _, o⟩
theorem EB.s16 (h : EB w x b1 b2 b3 b4 t1 t2 t3 t4 l7 l10 l13 false) : EB w (x.setCell ⟨b4, 1, none⟩ (.int .i64 0)) b1 b2 b3 b4 t1 t2 t3 t4 l7 l10 l13 true := by
  obtain ⟨hb, r1, r2, r3, r4, x1, x2, x3, x4, o⟩ := h
  exact ⟨hb.setCell (p := ⟨b4, 1, none⟩) (show w.heap.size ≤ b4 by omega) _, r1.far (by omega) _ _, r2.far (by omega) _ _, r3.far (by omega) _ _, r4.set _ _, x1.far (by omega) _ _, x2.far (by omega) _ _, x3.far (by omega) _ _, x4.far (by omega) _ _, o⟩
theorem EB.drew (h : EB w x b1 b2 b3 b4 t1 t2 t3 t4 l7 l10 l13 l16) : EB w x.drew b1 b2 b3 b4 t1 t2 t3 t4 l7 l10 l13 l16 := by
  obtain ⟨hb, r1, r2, r3, r4, x1, x2, x3, x4, o⟩ := h
  have hd : Below x.heap.size x x.drew := (Below.refl _ _).drew
  exact ⟨hb.drew, r1.below hd, r2.below hd, r3.below hd, r4.below hd, x1.below hd, x2.below hd, x3.below hd, x4.below hd, o⟩
theorem EB.start (h : EB w x b1 b2 b3 b4 t1 t2 t3 t4 true true true true) : StartAt w b1 b2 b3 b4 t1 t2 t3 t4 x := by
  obtain ⟨hb, r1, r2, r3, r4, x1, x2, x3, x4, o⟩ := h
  exact ⟨strips4 r1.cells, strips4 r2.cells, strips4 r3.cells, strips4 r4.cells, x1.cell rfl, x1.cell rfl, x1.cell rfl, x2.cell rfl, x2.cell rfl, x2.cell rfl, x3.cell rfl, x3.cell rfl, x3.cell rfl, x4.cell rfl, x4.cell rfl, x4.cell rfl, hb⟩
end
set_option maxRecDepth 100000 in
set_option maxHeartbeats 4000000 in
theorem kr2 (w w1 : World) (b1 b2 b3 b4 t1 t2 t3 t4 : Nat) (E : Eight w w1 b1 b2 b3 b4 t1 t2 t3 t4 exCells exCells exCells (boxC 6 b1)) (a : Act) (hsl : Sl a 548 [(1, .pointer (some ⟨t1, 0, none⟩)), (2, .pointer (some ⟨t2, 0, none⟩)), (3, .pointer (some ⟨t3, 0, none⟩)), (4, .pointer (some ⟨t4, 0, none⟩))]) (rest : Code) (Q : Exit → Act → World → Prop) (h : ∀ (a' : Act) (w' : World), Sl a' 548 [(1, .pointer (some ⟨t1, 0, none⟩)), (2, .pointer (some ⟨t2, 0, none⟩)), (3, .pointer (some ⟨t3, 0, none⟩)), (4, .pointer (some ⟨t4, 0, none⟩))] → StartAt w b1 b2 b3 b4 t1 t2 t3 t4 w' → rest.wp Tryd.prog Q a' w') : (Code.seq (regionIn Tryd.f3 2) rest).wp Tryd.prog Q a w1 := by
  refine wp_seq ?_
  have e : regionIn Tryd.f3 2 = Code.region 2 _ true := rfl
  rw [e]; clear e
  have h0 : EB w w1 b1 b2 b3 b4 t1 t2 t3 t4 false false false false := E
  refine wp_region_sl (by kernel_rfl) hsl [some 38, some 39, some 40, some 41, some 42, some 43, some 44, none, some 45, some 46, none, some 47, some 48, none, some 49, some 50, none] rfl rfl (by kernel_rfl) (fun j v _ => match j with | 0 => v = .pointer (some ⟨t2, 2, none⟩) | 1 => v = .slice (some ⟨b2, 0, none⟩) 4 4 | 2 => v = .pointer (some ⟨t3, 2, none⟩) | 3 => v = .slice (some ⟨b3, 0, none⟩) 4 4 | 4 => v = .pointer (some ⟨t4, 2, none⟩) | 5 => v = .slice (some ⟨b4, 0, none⟩) 4 4 | 6 => v = .pointer (some ⟨t1, 0, none⟩) | 8 => v = .pointer (some ⟨b2, 7, none⟩) | 9 => v = .pointer (some ⟨b2, 13, none⟩) | 11 => v = .pointer (some ⟨b3, 14, none⟩) | 12 => v = .pointer (some ⟨b3, 18, none⟩) | 14 => v = .pointer (some ⟨b4, 0, none⟩) | 15 => v = .pointer (some ⟨b4, 1, none⟩) | _ => True) (fun L x => EB w x b1 b2 b3 b4 t1 t2 t3 t4 (L 7) (L 10) (L 13) (L 16)) h0.drew ?_ ?_
  · intro k o hkl ho L a x hI hLk hsl hs hd
    have hlt : ∀ k : Nat, k < 17 → k = 0 ∨ k = 1 ∨ k = 2 ∨ k = 3 ∨ k = 4 ∨ k = 5 ∨ k = 6 ∨ k = 7 ∨ k = 8 ∨ k = 9 ∨ k = 10 ∨ k = 11 ∨ k = 12 ∨ k = 13 ∨ k = 14 ∨ k = 15 ∨ k = 16 := by decide
    rcases hlt k hkl with rfl | rfl | rfl | rfl | rfl | rfl | rfl | rfl | rfl | rfl | rfl | rfl | rfl | rfl | rfl | rfl | rfl
    · obtain rfl := Option.some.inj ho
      have e2 := hsl.get 2 _ rfl
      clear hs hd
      refine wpOp_go rfl rfl (fun K hK => ?_)
      unfold Oper.wp
      go_simp
      exact hK _ _ ⟨_, rfl, rfl, by simpa [updF] using hI, fun _ _ h => h⟩
    · obtain rfl := Option.some.inj ho
      obtain ⟨v38, e38, hv38⟩ := hs 0 _ 38 rfl rfl (hd 0 (waits_mem (by kernel_rfl)))
      obtain rfl := hv38
      have z := (show Rw x t2 _ _ from hI.x2).cell (o := 2) rfl
      clear hs hd
      refine wpOp_go rfl rfl (fun K hK => ?_)
      unfold Oper.wp
      go_simp
      exact hK _ _ ⟨_, rfl, rfl, by simpa [updF] using hI, fun _ _ h => h⟩
    · obtain rfl := Option.some.inj ho
      have e3 := hsl.get 3 _ rfl
      clear hs hd
      refine wpOp_go rfl rfl (fun K hK => ?_)
      unfold Oper.wp
      go_simp
      exact hK _ _ ⟨_, rfl, rfl, by simpa [updF] using hI, fun _ _ h => h⟩
    · obtain rfl := Option.some.inj ho
      obtain ⟨v40, e40, hv40⟩ := hs 2 _ 40 rfl rfl (hd 2 (waits_mem (by kernel_rfl)))
      obtain rfl := hv40
      have z := (show Rw x t3 _ _ from hI.x3).cell (o := 2) rfl
      clear hs hd
      refine wpOp_go rfl rfl (fun K hK => ?_)
      unfold Oper.wp
      go_simp
      exact hK _ _ ⟨_, rfl, rfl, by simpa [updF] using hI, fun _ _ h => h⟩
    · obtain rfl := Option.some.inj ho
      have e4 := hsl.get 4 _ rfl
      clear hs hd
      refine wpOp_go rfl rfl (fun K hK => ?_)
      unfold Oper.wp
      go_simp
      exact hK _ _ ⟨_, rfl, rfl, by simpa [updF] using hI, fun _ _ h => h⟩
    · obtain rfl := Option.some.inj ho
      obtain ⟨v42, e42, hv42⟩ := hs 4 _ 42 rfl rfl (hd 4 (waits_mem (by kernel_rfl)))
      obtain rfl := hv42
      have z := (show Rw x t4 _ _ from hI.x4).cell (o := 2) rfl
      clear hs hd
      refine wpOp_go rfl rfl (fun K hK => ?_)
      unfold Oper.wp
      go_simp
      exact hK _ _ ⟨_, rfl, rfl, by simpa [updF] using hI, fun _ _ h => h⟩
    · obtain rfl := Option.some.inj ho
      have e1 := hsl.get 1 _ rfl
      clear hs hd
      refine wpOp_go rfl rfl (fun K hK => ?_)
      unfold Oper.wp
      go_simp
      exact hK _ _ ⟨_, rfl, rfl, by simpa [updF] using hI, fun _ _ h => h⟩
    · obtain rfl := Option.some.inj ho
      obtain ⟨v44, e44, hv44⟩ := hs 6 _ 44 rfl rfl (hd 6 (waits_mem (by kernel_rfl)))
      obtain rfl := hv44
      rw [hLk] at hI
      have z := (show Rw x t1 _ _ from hI.x1).cell (o := 0) rfl
      have z2 := (show Rw x t1 _ _ from hI.x1).fz 0
      clear hs hd
      refine wpOp_go rfl rfl (fun K hK => ?_)
      unfold Oper.wp
      go_simp
      refine hK _ _ ⟨undef, rfl, trivial, ?_, fun _ _ h => h⟩
      have := hI.s7
      simpa [updF] using this
    · obtain rfl := Option.some.inj ho
      obtain ⟨v39, e39, hv39⟩ := hs 1 _ 39 rfl rfl (hd 1 (waits_mem (by kernel_rfl)))
      obtain rfl := hv39
      clear hs hd
      refine wpOp_go rfl rfl (fun K hK => ?_)
      unfold Oper.wp
      go_simp
      exact hK _ _ ⟨_, rfl, rfl, by simpa [updF] using hI, fun _ _ h => h⟩
    · obtain rfl := Option.some.inj ho
      obtain ⟨v45, e45, hv45⟩ := hs 8 _ 45 rfl rfl (hd 8 (waits_mem (by kernel_rfl)))
      obtain rfl := hv45
      clear hs hd
      refine wpOp_go rfl rfl (fun K hK => ?_)
      unfold Oper.wp
      go_simp
      exact hK _ _ ⟨_, rfl, rfl, by simpa [updF] using hI, fun _ _ h => h⟩
    · obtain rfl := Option.some.inj ho
      obtain ⟨v46, e46, hv46⟩ := hs 9 _ 46 rfl rfl (hd 9 (waits_mem (by kernel_rfl)))
      obtain rfl := hv46
      rw [hLk] at hI
      have z := (show Rw x b2 _ _ from hI.r2).cell (o := 13) rfl
      have z2 := (show Rw x b2 _ _ from hI.r2).fz 13
      clear hs hd
      refine wpOp_go rfl rfl (fun K hK => ?_)
      unfold Oper.wp
      go_simp
      refine hK _ _ ⟨undef, rfl, trivial, ?_, fun _ _ h => h⟩
      have := hI.s10
      simpa [updF] using this
    · obtain rfl := Option.some.inj ho
      obtain ⟨v41, e41, hv41⟩ := hs 3 _ 41 rfl rfl (hd 3 (waits_mem (by kernel_rfl)))
      obtain rfl := hv41
      clear hs hd
      refine wpOp_go rfl rfl (fun K hK => ?_)
      unfold Oper.wp
      go_simp
      exact hK _ _ ⟨_, rfl, rfl, by simpa [updF] using hI, fun _ _ h => h⟩
    · obtain rfl := Option.some.inj ho
      obtain ⟨v47, e47, hv47⟩ := hs 11 _ 47 rfl rfl (hd 11 (waits_mem (by kernel_rfl)))
      obtain rfl := hv47
      clear hs hd
      refine wpOp_go rfl rfl (fun K hK => ?_)
      unfold Oper.wp
      go_simp
      exact hK _ _ ⟨_, rfl, rfl, by simpa [updF] using hI, fun _ _ h => h⟩
    · obtain rfl := Option.some.inj ho
      obtain ⟨v48, e48, hv48⟩ := hs 12 _ 48 rfl rfl (hd 12 (waits_mem (by kernel_rfl)))
      obtain rfl := hv48
      rw [hLk] at hI
      have z := (show Rw x b3 _ _ from hI.r3).cell (o := 18) rfl
      have z2 := (show Rw x b3 _ _ from hI.r3).fz 18
      clear hs hd
      refine wpOp_go rfl rfl (fun K hK => ?_)
      unfold Oper.wp
      go_simp
      refine hK _ _ ⟨undef, rfl, trivial, ?_, fun _ _ h => h⟩
      have := hI.s13
      simpa [updF] using this
    · obtain rfl := Option.some.inj ho
      obtain ⟨v43, e43, hv43⟩ := hs 5 _ 43 rfl rfl (hd 5 (waits_mem (by kernel_rfl)))
      obtain rfl := hv43
      clear hs hd
      refine wpOp_go rfl rfl (fun K hK => ?_)
      unfold Oper.wp
      go_simp
      exact hK _ _ ⟨_, rfl, rfl, by simpa [updF] using hI, fun _ _ h => h⟩
    · obtain rfl := Option.some.inj ho
      obtain ⟨v49, e49, hv49⟩ := hs 14 _ 49 rfl rfl (hd 14 (waits_mem (by kernel_rfl)))
      obtain rfl := hv49
      clear hs hd
      refine wpOp_go rfl rfl (fun K hK => ?_)
      unfold Oper.wp
      go_simp
      exact hK _ _ ⟨_, rfl, rfl, by simpa [updF] using hI, fun _ _ h => h⟩
    · obtain rfl := Option.some.inj ho
      obtain ⟨v50, e50, hv50⟩ := hs 15 _ 50 rfl rfl (hd 15 (waits_mem (by kernel_rfl)))
      obtain rfl := hv50
      rw [hLk] at hI
      have z := (show Rw x b4 _ _ from hI.r4).cell (o := 1) rfl
      have z2 := (show Rw x b4 _ _ from hI.r4).fz 1
      clear hs hd
      refine wpOp_go rfl rfl (fun K hK => ?_)
      unfold Oper.wp
      go_simp
      refine hK _ _ ⟨undef, rfl, trivial, ?_, fun _ _ h => h⟩
      have := hI.s16
      simpa [updF] using this
  · intro L a x hall hI hsl hs
    rw [hall 7 (by decide), hall 10 (by decide), hall 13 (by decide), hall 16 (by decide)] at hI
    exact h _ _ hsl hI.start
set_option maxRecDepth 100000 in
set_option maxHeartbeats 4000000 in
theorem kr0 (w : World) (a : Act) (m : List (Nat × Value)) (hsl : Sl a 548 m) (rest : Code) (Q : Exit → Act → World → Prop) (h : ∀ (a' : Act), Sl a' 548 ([(0, .bool false)] ++ m) → rest.wp Tryd.prog Q a' w) : (Code.seq (regionIn Tryd.f3 0) rest).wp Tryd.prog Q a w := by
  refine wp_seq ?_
  have e : regionIn Tryd.f3 0 = Code.region 0 _ false := rfl
  rw [e]; clear e
  refine wp_region ?_
  refine ops_go rfl rfl (fun K hK => ?_)
  unfold Oper.wp
  go_simp
  refine hK _ _ ?_
  clear hK
  refine Sl.step (G := fun a => wpOps _ _ _ _ a _) hsl (by decide) ?_
  intro a1 hs1; clear hsl; have hsl := hs1; clear hs1
  refine ops_done ?_
  exact h _ hsl
set_option maxRecDepth 100000 in
set_option maxHeartbeats 4000000 in
theorem seg3 (w : World) (a : Act) (hsl : Sl a 548 []) (rest : Code) (Q : Exit → Act → World → Prop) (h : ∀ (a' : Act) (w' : World), Sl a' 548 [] → Below w.heap.size w w' → rest.wp Tryd.prog Q a' w') : (Code.seq (regionIn Tryd.f3 0) (Code.seq (regionIn Tryd.f3 1) (Code.seq (regionIn Tryd.f3 2) (Code.seq (Code.seq (regionIn Tryd.f3 3) (Code.cond (Operand.tmp 77) (Code.seq (regionIn Tryd.f3 4) Code.ret) Code.skip)) rest)))).wp Tryd.prog Q a w := by
  refine kr0 _ _ _ hsl _ _ ?_
  intro a0 hs0
  refine kr1 _ _ _ hs0.nil _ _ ?_
  intro a1 w1 b1 b2 b3 b4 t1 t2 t3 t4 hs1 E
  refine kr2 w w1 b1 b2 b3 b4 t1 t2 t3 t4 E _ ((((hs1.nil.cons (hs1.get 4 _ rfl)).cons (hs1.get 3 _ rfl)).cons (hs1.get 2 _ rfl)).cons (hs1.get 1 _ rfl)) _ _ ?_
  intro a2 w2 hs2 HQ
  refine wp_seq ?_
  refine kr3 w w2 b1 b2 b3 b4 t1 t2 t3 t4 HQ _ [] hs2 _ _ ?_
  intro a3 w3 _ _ _ _ _ _ _ _ _ _ _ _ _ _ _ _ _ _ _ _ _ _ _ _ _ _ hs3 hb
  refine wp_cond_false (hs3.ev 77 rfl) ?_
  refine wp_skip ?_
  exact h _ _ hs3.nil (HQ.next hb).below
end Go.Proofs.YtmkjeonjhedgkaaDoor
