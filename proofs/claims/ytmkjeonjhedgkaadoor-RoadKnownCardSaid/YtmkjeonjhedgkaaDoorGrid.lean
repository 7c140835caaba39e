/- Slices of slices that a call makes for itself, cell by cell. The contract of mestalaw02.table. -/
import Derived.Test.YtmkjeonjhedgkaaDoorFewerP
import Derived.Test.YtmkjeonjhedgkaaDoorBarsPub
import Derived.Test.YtmkjeonjhedgkaaDoorWay
import Derived.Deep.OwnRows
import Derived.Laws.MakeOwn
namespace Go.Proofs.YtmkjeonjhedgkaaDoor
set_option linter.unusedSimpArgs false
set_option linter.unusedVariables false
open Go.RowKit

def tab (k : Nat) (f : Nat → Value) : Array Value := ((List.range k).map f).toArray
theorem tab_get (k : Nat) (f : Nat → Value) (j : Nat) : (tab k f)[j]? = if j < k then some (f j) else none := by
  unfold tab
  by_cases h : j < k
  · simp [h]
  · simp [h]
theorem tab_set (k : Nat) (f : Nat → Value) (j : Nat) (x : Value) : (tab k f).setIfInBounds j x = tab k (fun i => if i = j then x else f i) := by
  apply Array.ext
  · simp [tab]
  · intro i h1 h2
    simp only [tab, Array.size_setIfInBounds, List.size_toArray, List.length_map, List.length_range] at h1 h2
    simp only [tab, Array.getElem_setIfInBounds, List.getElem_toArray, List.getElem_map, List.getElem_range]
    by_cases e : i = j
    · subst e; simp
    · simp [e, show ¬ j = i from fun h => e h.symm]
theorem tab_made (z : Value) (k : Nat) : madeCells #[z] k = tab k (fun _ => z) := by
  apply Array.ext
  · simp [size_madeCells, tab]
  · intro i h1 h2
    simp [madeCells, tab, Nat.mod_one]
theorem tab_congr {k : Nat} {f g : Nat → Value} (h : ∀ j, j < k → f j = g j) : tab k f = tab k g := by
  unfold tab
  rw [List.map_congr_left fun j hj => h j (List.mem_range.1 hj)]
theorem cell_tab {w : World} {g k : Nat} {t : TypeId} {f : Nat → Value} (h : w.heap[g]? = some (.cells (tab k f) t (0, 0))) {j : Nat} (hj : j < k) : w.cell? ⟨g, j, none⟩ = some (f j) := by
  simp [World.cell?, h, tab_get, hj]
theorem free_tab {w : World} {g k : Nat} {t : TypeId} {f : Nat → Value} (h : w.heap[g]? = some (.cells (tab k f) t (0, 0))) (j : Nat) : w.frozen? ⟨g, j, none⟩ = false := by
  simp [World.frozen?, h]
theorem set_tab {w : World} {g k : Nat} {t : TypeId} {f : Nat → Value} (h : w.heap[g]? = some (.cells (tab k f) t (0, 0))) (j : Nat) (x : Value) :
    (w.setCell ⟨g, j, none⟩ x).heap[g]? = some (.cells (tab k (fun i => if i = j then x else f i)) t (0, 0)) := by
  rw [← tab_set]
  simp only [World.setCell, Array.getElem?_modify, if_true, h]
  rfl

/-- A slice of n slices, the first m of which are rows of k cells, V i j cell j of row i. -/
structure Grid (w : World) (B G : Nat) (tO tI : TypeId) (n m k : Nat) (gb : Nat → Nat) (V : Nat → Nat → Value) : Prop where
  outer : w.heap[G]? = some (.cells (tab n fun i => if i < m then .slice (some ⟨gb i, 0, none⟩) k k else .slice none 0 0) tO (0, 0))
  inner : ∀ i, i < m → w.heap[gb i]? = some (.cells (tab k (V i)) tI (0, 0))
  inj : ∀ i j, i < m → j < m → gb i = gb j → i = j
  ne : ∀ i, i < m → gb i ≠ G
  bG : B ≤ G
  bI : ∀ i, i < m → B ≤ gb i

section
variable {w w' : World} {B G : Nat} {tO tI : TypeId} {n m k : Nat} {gb : Nat → Nat} {V V' : Nat → Nat → Value}
theorem Grid.lt (h : Grid w B G tO tI n m k gb V) : G < w.heap.size := (Array.getElem?_eq_some_iff.1 h.outer).1
theorem Grid.ltI (h : Grid w B G tO tI n m k gb V) {i : Nat} (hi : i < m) : gb i < w.heap.size := (Array.getElem?_eq_some_iff.1 (h.inner i hi)).1
theorem Grid.keep (h : Grid w B G tO tI n m k gb V) (hk : ∀ b, B ≤ b → b < w.heap.size → w'.heap[b]? = w.heap[b]?) : Grid w' B G tO tI n m k gb V :=
  ⟨(hk _ h.bG h.lt).trans h.outer, fun i hi => (hk _ (h.bI i hi) (h.ltI hi)).trans (h.inner i hi), h.inj, h.ne, h.bG, h.bI⟩
theorem Grid.below (h : Grid w B G tO tI n m k gb V) (hb : Below w.heap.size w w') : Grid w' B G tO tI n m k gb V := h.keep fun b _ hl => hb.block b hl
theorem Grid.mono {B' : Nat} (h : Grid w B G tO tI n m k gb V) (hB : B' ≤ B) : Grid w B' G tO tI n m k gb V :=
  ⟨h.outer, h.inner, h.inj, h.ne, Nat.le_trans hB h.bG, fun i hi => Nat.le_trans hB (h.bI i hi)⟩
theorem Grid.congr (h : Grid w B G tO tI n m k gb V) (hV : ∀ i j, i < m → j < k → V i j = V' i j) : Grid w B G tO tI n m k gb V' :=
  ⟨h.outer, fun i hi => (h.inner i hi).trans (by rw [tab_congr fun j hj => hV i j hi hj]), h.inj, h.ne, h.bG, h.bI⟩
theorem Grid.row (h : Grid w B G tO tI n m k gb V) (hm : m ≤ n) {i : Nat} (hi : i < m) : w.cell? ⟨G, i, none⟩ = some (.slice (some ⟨gb i, 0, none⟩) k k) := by
  have := cell_tab h.outer (j := i) (by omega)
  rwa [if_pos hi] at this
theorem Grid.blank (h : Grid w B G tO tI n m k gb V) {i : Nat} (hi : ¬ i < m) (hn : i < n) : w.cell? ⟨G, i, none⟩ = some (.slice none 0 0) := by
  have := cell_tab h.outer (j := i) hn
  rwa [if_neg hi] at this
theorem Grid.freeO (h : Grid w B G tO tI n m k gb V) (i : Nat) : w.frozen? ⟨G, i, none⟩ = false := free_tab h.outer i
theorem Grid.cell (h : Grid w B G tO tI n m k gb V) {i j : Nat} (hi : i < m) (hj : j < k) : w.cell? ⟨gb i, j, none⟩ = some (V i j) := cell_tab (h.inner i hi) hj
theorem Grid.free (h : Grid w B G tO tI n m k gb V) {i : Nat} (hi : i < m) (j : Nat) : w.frozen? ⟨gb i, j, none⟩ = false := free_tab (h.inner i hi) j
/-- One cell is stored. -/
theorem Grid.set (h : Grid w B G tO tI n m k gb V) {i : Nat} (hi : i < m) (j : Nat) (x : Value) : Grid (w.setCell ⟨gb i, j, none⟩ x) B G tO tI n m k gb (fun a b => if a = i ∧ b = j then x else V a b) := by
  refine ⟨(Below.heap_setCell _ ⟨gb i, j, none⟩ _ G (fun e => h.ne i hi e.symm)).trans h.outer, fun a ha => ?_, h.inj, h.ne, h.bG, h.bI⟩
  by_cases e : a = i
  · subst e
    rw [set_tab (h.inner a ha)]
    simp
  · rw [Below.heap_setCell _ ⟨gb i, j, none⟩ _ (gb a) (fun e' => e (h.inj a i ha hi e')), h.inner a ha]
    simp [e]
theorem grid_new (w : World) (B : Nat) (hB : B ≤ w.heap.size) (tO tI : TypeId) (n k : Nat) (gb : Nat → Nat) (V : Nat → Nat → Value) : Grid (w.alloc (.cells (madeCells #[.slice none 0 0] n) tO)) B w.heap.size tO tI n 0 k gb V :=
  ⟨by rw [heap_alloc_new, tab_made]; simp, fun i hi => absurd hi (by omega), fun i j hi => absurd hi (by omega), fun i hi => absurd hi (by omega), hB, fun i hi => absurd hi (by omega)⟩
/-- One row more. -/
theorem Grid.push (h : Grid w B G tO tI n m k gb V) (z : Value) : Grid ((w.alloc (.cells (madeCells #[z] k) tI)).setCell ⟨G, m, none⟩ (.slice (some ⟨w.heap.size, 0, none⟩) k k)) B G tO tI n (m + 1) k (fun i => if i = m then w.heap.size else gb i) (fun i j => if i = m then z else V i j) := by
  have hG := h.lt
  have hlt := fun i (hi : i < m) => h.ltI hi
  have h1 : (w.alloc (.cells (madeCells #[z] k) tI)).heap[G]? = _ := (Below.heap_alloc _ _ _ hG).trans h.outer
  have hBw : B ≤ w.heap.size := Nat.le_trans h.bG (by omega)
  refine ⟨?_, fun i hi => ?_, fun i j hi hj e => ?_, fun i hi => ?_, h.bG, fun i hi => ?_⟩
  · rw [set_tab h1]
    congr 2
    apply tab_congr
    intro j hj
    by_cases e : j = m
    · subst e; simp
    · by_cases c : j < m
      · simp [e, c, show j < m + 1 by omega]
      · simp [e, c, show ¬ j < m + 1 by omega]
  · by_cases e : i = m
    · subst e
      simp only [if_true]
      rw [Below.heap_setCell _ ⟨G, i, none⟩ _ w.heap.size (by simp; omega), heap_alloc_new, tab_made]
    · have hi' : i < m := by omega
      have := hlt i hi'
      simp only [if_neg e]
      rw [Below.heap_setCell _ ⟨G, m, none⟩ _ (gb i) (h.ne i hi'), Below.heap_alloc _ _ _ this]
      exact h.inner i hi'
  · by_cases e1 : i = m
    · by_cases e2 : j = m
      · omega
      · have := hlt j (by omega)
        simp [e1, e2] at e; omega
    · by_cases e2 : j = m
      · have := hlt i (by omega)
        simp [e1, e2] at e; omega
      · simp only [if_neg e1, if_neg e2] at e
        exact h.inj i j (by omega) (by omega) e
  · by_cases e : i = m
    · simp only [if_pos e]; omega
    · simp only [if_neg e]; exact h.ne i (by omega)
  · by_cases e : i = m
    · simp only [if_pos e]; exact hBw
    · simp only [if_neg e]; exact h.bI i (by omega)
end

theorem info_bools : (Tryd.prog.info? 79).map (fun i => (i.zero, i.size, i.bytes)) = some (some (.slice none 0 0), 1, 24) := by kernel_rfl

theorem IntsAt.setF {w : World} {a : Option Addr} {l : List Int} (h : IntsAt w a l) {b : Nat} (hne : l = [] ∨ ∀ ad, a = some ad → ad.block ≠ b) (o : Nat) (v : Value) : IntsAt (w.setCell ⟨b, o, none⟩ v) a l := by
  rcases h with h | ⟨g, p, rfl, h⟩
  · exact .inl h
  · rcases hne with e | e
    · exact .inl e
    · have hgb : g ≠ b := e ⟨g, p, none⟩ rfl
      exact .inr ⟨g, p, rfl, fun i hi => (World.cell?_setCell_other _ _ _ _ (by intro e; injection e with e1; first | exact hgb e1 | exact hgb e1.symm)).trans (h i hi)⟩
/-- road.Days where its inputs are valid. -/
theorem Days_good (w : World) {r : Roads} {f : Flock} (g : Good r f) (a : Option Addr) (cap : Nat) (hs : StripsAt w a r.strips) (i : Nat) (h1 : i < r.strips.length) :
    Calls Tryd.prog 12 #[.agg #[.int .i64 r.days, .int .i64 r.stages, .slice a r.strips.length cap], .agg #[.int .i64 f.heads, .int .i64 f.pace], .int .i64 (i : Int)] w
      fun e w' => ∃ a' c', e = .returned (.tuple #[.slice a' (daysTo r f i r.days.toNat).length c', .int .i64 0]) ∧ IntsAt w' a' (daysTo r f i r.days.toNat) ∧ (daysTo r f i r.days.toNat = [] ∨ ∀ ad, a' = some ad → w.heap.size ≤ ad.block) ∧ Below w.heap.size w w' :=
  (Days_any w r f a cap hs (by have := g.n8; unfold maxLen; omega) i).mono fun e w' h => by
    rcases h with ⟨_, v, rfl, hown, hb⟩ | ⟨hz, _⟩
    · obtain ⟨a', c', rfl, hi, _⟩ := hown.ints
      refine ⟨a', c', rfl, hi, ?_, hb⟩
      rcases hown.2 with ⟨_, h0⟩ | ⟨gg, cc, cur, hv, hg, _⟩
      · exact .inl (List.length_eq_zero_iff.1 h0)
      · simp only [Value.slice.injEq] at hv
        exact .inr fun ad e => by rw [hv.1] at e; cases e; exact hg
    · refine absurd ?_ hz
      obtain ⟨k1, k2⟩ := good_iff.1 g
      unfold readyErr
      rw [if_neg (by simp [k1]), if_neg (by simp [k2])]
      exact pairs2.2 ⟨by omega, by omega⟩
theorem open_pace {r : Roads} {f : Flock} {shut : Int} {i : Nat} {d : Int} (hi : i < r.strips.length) (h : openB r f shut i d = true) : r.strips[i].L ≤ f.pace := by
  unfold openB at h
  rw [List.getElem?_eq_getElem hi] at h
  simp only [Bool.and_eq_true, List.isEmpty_iff] at h
  by_cases c : f.pace < r.strips[i].L
  · have : ((1 : Nat) : Int) + 1 ∈ barsL r.strips[i] f d := (barsTo_mem 5).2 ⟨1, by omega, by show bar2 _ _ = true; simp [bar2, c], rfl⟩
    rw [h.2] at this; simp at this
  · omega
end Go.Proofs.YtmkjeonjhedgkaaDoor
