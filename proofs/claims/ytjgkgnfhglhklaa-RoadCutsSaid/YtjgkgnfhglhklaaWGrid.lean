/- Grids of walks, of a call's own; walks that a call reads. -/
import Derived.Test.YtjgkgnfhglhklaaBeginR
import Derived.Test.YtjgkgnfhglhklaaDayQ
/- Writing a walk into a row of walks. -/
namespace Go.Proofs.Ytjgkgnfhglhklaa
set_option linter.unusedSimpArgs false
set_option linter.unusedVariables false
open Go.RowKit

/-- A plan does not lie in a row of walks. -/
theorem WRow.apart {w : World} {g S : Nat} {q : Nat → WalkV} {pa : Nat → Option Addr} {pc : Nat → Nat} (h : WRow w g S q pa pc) {b o : Nat} {x y : Int} (h1 : w.cell? ⟨b, o, none⟩ = some (.int .i64 x)) (h2 : w.cell? ⟨b, o + 1, none⟩ = some (.int .i64 y)) : b ≠ g := by
  rintro rfl
  have hlt : ∀ j : Nat, ∀ v : Value, w.cell? ⟨b, j, none⟩ = some v → j < S * 3 := fun j v hv => by
    by_cases hj : j < S * 3
    · exact hj
    · have : (tab (S * 3) (wcell q pa pc))[j]? = none := by rw [tab_get, if_neg hj]
      simp [World.cell?, h.row, this] at hv
  have k1 := cell_tab h.row (hlt _ _ h1)
  have k2 := cell_tab h.row (hlt _ _ h2)
  rw [h1] at k1
  rw [h2] at k2
  unfold wcell at k1 k2
  by_cases c1 : o % 3 = 0
  · rw [if_pos c1] at k1; simp at k1
  · rw [if_neg c1] at k1
    by_cases c2 : o % 3 = 1
    · rw [if_neg (by omega), if_neg (by omega)] at k2; simp at k2
    · rw [if_neg c2] at k1; simp at k1
/-- Plans last where only a row of walks turns. -/
theorem StridesAt.apart {w w' : World} {g S : Nat} {q : Nat → WalkV} {pa : Nat → Option Addr} {pc : Nat → Nat} (h : WRow w g S q pa pc) {a : Option Addr} {l : List (Int × Int)} (hl : StridesAt w a l) (hk : ∀ b, b ≠ g → w'.heap[b]? = w.heap[b]?) : StridesAt w' a l := by
  rcases hl with hl | ⟨b, o, ha, hc⟩
  · exact .inl hl
  · refine .inr ⟨b, o, ha, fun i hi => ?_⟩
    obtain ⟨c1, c2⟩ := hc i hi
    have hne := h.apart c1 c2
    exact ⟨(World.cell?_of_block (hk b hne)).trans c1, (World.cell?_of_block (hk b hne)).trans c2⟩
theorem WRow.set {w : World} {g S : Nat} {q : Nat → WalkV} {pa : Nat → Option Addr} {pc : Nat → Nat} (h : WRow w g S q pa pc) {s : Nat} (hs : s < S) (A : WalkV) (a : Option Addr) (c : Nat) (hA : StridesAt w a A.pl) :
    WRow (((w.setCell ⟨g, s * 3, none⟩ (.bool A.is)).setCell ⟨g, s * 3 + 1, none⟩ (.int .i64 A.lg)).setCell ⟨g, s * 3 + 2, none⟩ (.slice a A.pl.length c)) g S (fun i => if i = s then A else q i) (fun i => if i = s then a else pa i) (fun i => if i = s then c else pc i) := by
  have hk : ∀ b, b ≠ g → (((w.setCell ⟨g, s * 3, none⟩ (.bool A.is)).setCell ⟨g, s * 3 + 1, none⟩ (.int .i64 A.lg)).setCell ⟨g, s * 3 + 2, none⟩ (.slice a A.pl.length c)).heap[b]? = w.heap[b]? := fun b hb => by
    rw [Below.heap_setCell _ ⟨g, s * 3 + 2, none⟩ _ b hb, Below.heap_setCell _ ⟨g, s * 3 + 1, none⟩ _ b hb, Below.heap_setCell _ ⟨g, s * 3, none⟩ _ b hb]
  refine ⟨?_, fun i hi => ?_⟩
  · have k1 := set_tab h.row (s * 3) (.bool A.is)
    have k2 := set_tab k1 (s * 3 + 1) (.int .i64 A.lg)
    rw [set_tab k2 (s * 3 + 2)]
    congr 2
    exact tab_congr fun j hj => by
      unfold wcell
      by_cases e : j / 3 = s
      · have h3 : j = s * 3 ∨ j = s * 3 + 1 ∨ j = s * 3 + 2 := by omega
        rcases h3 with rfl | rfl | rfl
        · rw [if_neg (by omega), if_neg (by omega), if_pos rfl, if_pos (by omega)]
          show _ = Value.bool (if s * 3 / 3 = s then A else q (s * 3 / 3)).is
          rw [if_pos (by omega)]
        · rw [if_neg (by omega), if_pos rfl, if_neg (by omega), if_pos (by omega)]
          show _ = Value.int .i64 (if (s * 3 + 1) / 3 = s then A else q ((s * 3 + 1) / 3)).lg
          rw [if_pos (by omega)]
        · rw [if_pos rfl, if_neg (by omega), if_neg (by omega)]
          show _ = Value.slice (if (s * 3 + 2) / 3 = s then a else pa ((s * 3 + 2) / 3)) (if (s * 3 + 2) / 3 = s then A else q ((s * 3 + 2) / 3)).pl.length (if (s * 3 + 2) / 3 = s then c else pc ((s * 3 + 2) / 3))
          rw [if_pos (by omega), if_pos (by omega), if_pos (by omega)]
      · rw [if_neg (by omega), if_neg (by omega), if_neg (by omega)]
        show _ = if j % 3 = 0 then Value.bool (if j / 3 = s then A else q (j / 3)).is else if j % 3 = 1 then Value.int .i64 (if j / 3 = s then A else q (j / 3)).lg else Value.slice (if j / 3 = s then a else pa (j / 3)) (if j / 3 = s then A else q (j / 3)).pl.length (if j / 3 = s then c else pc (j / 3))
        rw [if_neg e, if_neg e, if_neg e]
  · by_cases e : i = s
    · simp only [e, if_true]; exact hA.apart h hk
    · simp only [e, if_false]; exact (h.plans i hi).apart h hk
end Go.Proofs.Ytjgkgnfhglhklaa
namespace Go.Proofs.Ytjgkgnfhglhklaa
set_option linter.unusedSimpArgs false
set_option linter.unusedVariables false
open Go.RowKit

/-- Walks that lie in a row, to be read. -/
structure WalksAt (w : World) (g S : Nat) (q : Nat → WalkV) (pa : Nat → Option Addr) (pc : Nat → Nat) : Prop where
  c0 : ∀ s, s < S → w.cell? ⟨g, s * 3, none⟩ = some (.bool (q s).is)
  c1 : ∀ s, s < S → w.cell? ⟨g, s * 3 + 1, none⟩ = some (.int .i64 (q s).lg)
  c2 : ∀ s, s < S → w.cell? ⟨g, s * 3 + 2, none⟩ = some (.slice (pa s) (q s).pl.length (pc s))
  plans : ∀ s, s < S → StridesAt w (pa s) (q s).pl
theorem WRow.walks {w : World} {g S : Nat} {q : Nat → WalkV} {pa : Nat → Option Addr} {pc : Nat → Nat} (h : WRow w g S q pa pc) : WalksAt w g S q pa pc := ⟨fun _ => h.c0, fun _ => h.c1, fun _ => h.c2, h.plans⟩
theorem WalksAt.below {w w' : World} {g S : Nat} {q : Nat → WalkV} {pa : Nat → Option Addr} {pc : Nat → Nat} (h : WalksAt w g S q pa pc) (hb : Below w.heap.size w w') : WalksAt w' g S q pa pc :=
  ⟨fun s hs => ((bcell hb).1 _ _ (lt_of_cell (h.c0 s hs))).trans (h.c0 s hs), fun s hs => ((bcell hb).1 _ _ (lt_of_cell (h.c1 s hs))).trans (h.c1 s hs), fun s hs => ((bcell hb).1 _ _ (lt_of_cell (h.c2 s hs))).trans (h.c2 s hs), fun s hs => (h.plans s hs).below hb⟩
theorem StridesAt.keepG {w w' : World} {g : Nat} {a : Option Addr} {l : List (Int × Int)} (hl : StridesAt w a l) (hk : ∀ b, b ≠ g → w'.heap[b]? = w.heap[b]?) (hg : ∀ o x, w.cell? ⟨g, o, none⟩ ≠ some (.int .i64 x)) : StridesAt w' a l := by
  rcases hl with hl | ⟨b, o, ha, hc⟩
  · exact .inl hl
  · refine .inr ⟨b, o, ha, fun i hi => ?_⟩
    obtain ⟨c1, c2⟩ := hc i hi
    have hne : b ≠ g := by rintro rfl; exact hg _ _ c1
    exact ⟨(World.cell?_of_block (hk b hne)).trans c1, (World.cell?_of_block (hk b hne)).trans c2⟩

/-- A slice of n rows of walks, the first m of which are laid. -/
structure WGrid (w : World) (B G n m K : Nat) (gb : Nat → Nat) (q : Nat → Nat → WalkV) (pa : Nat → Nat → Option Addr) (pc : Nat → Nat → Nat) : Prop where
  outer : w.heap[G]? = some (.cells (tab n fun i => if i < m then .slice (some ⟨gb i, 0, none⟩) K K else .slice none 0 0) 100 (0, 0))
  inner : ∀ i, i < m → WRow w (gb i) K (q i) (pa i) (pc i)
  inj : ∀ i j, i < m → j < m → gb i = gb j → i = j
  ne : ∀ i, i < m → gb i ≠ G
  bG : B ≤ G
  bI : ∀ i, i < m → B ≤ gb i
section
variable {w w' : World} {B G n m K : Nat} {gb : Nat → Nat} {q q' : Nat → Nat → WalkV} {pa : Nat → Nat → Option Addr} {pc : Nat → Nat → Nat}
theorem WGrid.lt (h : WGrid w B G n m K gb q pa pc) : G < w.heap.size := (Array.getElem?_eq_some_iff.1 h.outer).1
theorem WGrid.ltI (h : WGrid w B G n m K gb q pa pc) {i : Nat} (hi : i < m) : gb i < w.heap.size := (h.inner i hi).lt
theorem WGrid.below (h : WGrid w B G n m K gb q pa pc) (hb : Below w.heap.size w w') : WGrid w' B G n m K gb q pa pc :=
  ⟨(hb.block G h.lt).trans h.outer, fun i hi => (h.inner i hi).below hb, h.inj, h.ne, h.bG, h.bI⟩
theorem WRow.congr {g S : Nat} {q q' : Nat → WalkV} {pa : Nat → Option Addr} {pc : Nat → Nat} (h : WRow w g S q pa pc) (hq : ∀ s, s < S → q s = q' s) : WRow w g S q' pa pc := by
  refine ⟨h.row.trans ?_, fun s hs => by rw [← hq s hs]; exact h.plans s hs⟩
  congr 2
  exact tab_congr fun j hj => by unfold wcell; rw [hq (j / 3) (by omega)]
theorem WGrid.congr (h : WGrid w B G n m K gb q pa pc) (hq : ∀ i j, i < m → j < K → q i j = q' i j) : WGrid w B G n m K gb q' pa pc :=
  ⟨h.outer, fun i hi => (h.inner i hi).congr fun s hs => hq i s hi hs, h.inj, h.ne, h.bG, h.bI⟩
theorem WGrid.mono {B' : Nat} (h : WGrid w B G n m K gb q pa pc) (hB : B' ≤ B) : WGrid w B' G n m K gb q pa pc :=
  ⟨h.outer, h.inner, h.inj, h.ne, Nat.le_trans hB h.bG, fun i hi => Nat.le_trans hB (h.bI i hi)⟩
theorem WGrid.row (h : WGrid w B G n m K gb q pa pc) (hm : m ≤ n) {i : Nat} (hi : i < m) : w.cell? ⟨G, i, none⟩ = some (.slice (some ⟨gb i, 0, none⟩) K K) := by
  have := cell_tab h.outer (j := i) (by omega)
  rwa [if_pos hi] at this
theorem WGrid.blank (h : WGrid w B G n m K gb q pa pc) {i : Nat} (hi : ¬ i < m) (hn : i < n) : w.cell? ⟨G, i, none⟩ = some (.slice none 0 0) := by
  have := cell_tab h.outer (j := i) hn
  rwa [if_neg hi] at this
theorem WGrid.freeO (h : WGrid w B G n m K gb q pa pc) (i : Nat) : w.frozen? ⟨G, i, none⟩ = false := free_tab h.outer i
theorem WGrid.noInt (h : WGrid w B G n m K gb q pa pc) (o : Nat) (x : Int) : w.cell? ⟨G, o, none⟩ ≠ some (.int .i64 x) := fun hc => by
  by_cases hn : o < n
  · have := cell_tab h.outer hn
    rw [this] at hc
    split at hc <;> simp at hc
  · simp [World.cell?, h.outer, tab_get, hn] at hc
/-- One walk is stored. -/
theorem WGrid.set (h : WGrid w B G n m K gb q pa pc) {i s : Nat} (hi : i < m) (hs : s < K) (A : WalkV) (a : Option Addr) (c : Nat) (hA : StridesAt w a A.pl) :
    WGrid (((w.setCell ⟨gb i, s * 3, none⟩ (.bool A.is)).setCell ⟨gb i, s * 3 + 1, none⟩ (.int .i64 A.lg)).setCell ⟨gb i, s * 3 + 2, none⟩ (.slice a A.pl.length c)) B G n m K gb (setW q i s A) (fun x y => if x = i ∧ y = s then a else pa x y) (fun x y => if x = i ∧ y = s then c else pc x y) := by
  have hk : ∀ b, b ≠ gb i → (((w.setCell ⟨gb i, s * 3, none⟩ (.bool A.is)).setCell ⟨gb i, s * 3 + 1, none⟩ (.int .i64 A.lg)).setCell ⟨gb i, s * 3 + 2, none⟩ (.slice a A.pl.length c)).heap[b]? = w.heap[b]? := fun b hb => by
    rw [Below.heap_setCell _ ⟨gb i, s * 3 + 2, none⟩ _ b hb, Below.heap_setCell _ ⟨gb i, s * 3 + 1, none⟩ _ b hb, Below.heap_setCell _ ⟨gb i, s * 3, none⟩ _ b hb]
  refine ⟨(hk G fun e => h.ne i hi e.symm).trans h.outer, fun j hj => ?_, h.inj, h.ne, h.bG, h.bI⟩
  by_cases e : j = i
  · subst e
    have h1 := (h.inner j hj).set hs A a c hA
    have e1 : setW q j s A j = fun y => if y = s then A else q j y := funext fun y => by simp [setW]
    have e2 : (fun y => if j = j ∧ y = s then a else pa j y) = fun y => if y = s then a else pa j y := funext fun y => by simp
    have e3 : (fun y => if j = j ∧ y = s then c else pc j y) = fun y => if y = s then c else pc j y := funext fun y => by simp
    rw [e1, e2, e3]
    exact h1
  · have h1 := h.inner j hj
    have e1 : setW q i s A j = q j := funext fun y => by simp [setW, e]
    have e2 : (fun y => if j = i ∧ y = s then a else pa j y) = pa j := funext fun y => by simp [e]
    have e3 : (fun y => if j = i ∧ y = s then c else pc j y) = pc j := funext fun y => by simp [e]
    rw [e1, e2, e3]
    exact ⟨(hk _ fun e' => e (h.inj j i hj hi e')).trans h1.row, fun y hy => (h1.plans y hy).apart (h.inner i hi) hk⟩
theorem WGrid.new (w : World) (B : Nat) (hB : B ≤ w.heap.size) (n K : Nat) (gb : Nat → Nat) (q : Nat → Nat → WalkV) (pa : Nat → Nat → Option Addr) (pc : Nat → Nat → Nat) : WGrid (w.alloc (.cells (madeCells #[.slice none 0 0] n) 100)) B w.heap.size n 0 K gb q pa pc :=
  ⟨by rw [heap_alloc_new, tab_made]; simp, fun i hi => absurd hi (by omega), fun i j hi => absurd hi (by omega), fun i hi => absurd hi (by omega), hB, fun i hi => absurd hi (by omega)⟩
/-- One row more. -/
theorem WGrid.push (h : WGrid w B G n m K gb q pa pc) : WGrid ((w.alloc (.cells (madeCells #[.bool false, .int .i64 0, .slice none 0 0] (K * 3)) 104)).setCell ⟨G, m, none⟩ (.slice (some ⟨w.heap.size, 0, none⟩) K K)) B G n (m + 1) K (fun i => if i = m then w.heap.size else gb i) (fun i j => if i = m then noWalk else q i j) (fun i j => if i = m then none else pa i j) (fun i j => if i = m then 0 else pc i j) := by
  have hG := h.lt
  have hlt := fun i (hi : i < m) => h.ltI hi
  have hba : Below w.heap.size w (w.alloc (.cells (madeCells #[.bool false, .int .i64 0, .slice none 0 0] (K * 3)) 104)) := (Below.refl _ _).alloc (Nat.le_refl _) _
  have ha := h.below hba
  have hBw : B ≤ w.heap.size := Nat.le_trans h.bG (by omega)
  have hmade := WRow.made w K
  generalize w.alloc (.cells (madeCells #[.bool false, .int .i64 0, .slice none 0 0] (K * 3)) 104) = W at ha hba hmade ⊢
  have hk : ∀ b, b ≠ G → (W.setCell ⟨G, m, none⟩ (.slice (some ⟨w.heap.size, 0, none⟩) K K)).heap[b]? = W.heap[b]? := fun b hb => Below.heap_setCell _ ⟨G, m, none⟩ _ b hb
  have hrow : ∀ {g : Nat} {q : Nat → WalkV} {pa : Nat → Option Addr} {pc : Nat → Nat}, WRow W g K q pa pc → g ≠ G → WRow (W.setCell ⟨G, m, none⟩ (.slice (some ⟨w.heap.size, 0, none⟩) K K)) g K q pa pc := fun hr hne => ⟨(hk _ hne).trans hr.row, fun s hs => (hr.plans s hs).keepG hk ha.noInt⟩
  refine ⟨?_, fun i hi => ?_, fun i j hi hj e => ?_, fun i hi => ?_, h.bG, fun i hi => ?_⟩
  · rw [set_tab ha.outer]
    congr 2
    apply tab_congr
    intro j hj
    by_cases e : j = m
    · subst e; simp
    · by_cases c : j < m
      · simp [e, c, show j < m + 1 by omega]
      · simp [e, c, show ¬ j < m + 1 by omega]
  · by_cases e : i = m
    · subst e
      simp only [if_true]
      exact hrow hmade (by omega)
    · have hi' : i < m := by omega
      simp only [if_neg e]
      exact hrow (ha.inner i hi') (h.ne i hi')
  · by_cases e1 : i = m
    · by_cases e2 : j = m
      · omega
      · have := hlt j (by omega)
        simp [e1, e2] at e; omega
    · by_cases e2 : j = m
      · have := hlt i (by omega)
        simp [e1, e2] at e; omega
      · simp only [if_neg e1, if_neg e2] at e
        exact h.inj i j (by omega) (by omega) e
  · by_cases e : i = m
    · simp only [if_pos e]; omega
    · simp only [if_neg e]; exact h.ne i (by omega)
  · by_cases e : i = m
    · simp only [if_pos e]; exact hBw
    · simp only [if_neg e]; exact h.bI i (by omega)
end
theorem info_walks : (Try.prog.info? 100).map (fun i => (i.zero, i.size, i.bytes)) = some (some (.slice none 0 0), 1, 24) := by kernel_rfl
end Go.Proofs.Ytjgkgnfhglhklaa
