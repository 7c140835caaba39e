/- The contract of mestaref02.least. -/
import Derived.Test.YtjgkgnfhglhklaaMirrorP
import Derived.Test.YtjgkgnfhglhklaaAsked
import Derived.Test.YtjgkgnfhglhklaaGrid
/- The reference's least: plain laws. -/
namespace Go.Proofs.Ytjgkgnfhglhklaa
set_option linter.unusedSimpArgs false
set_option linter.unusedVariables false
open Go.RowKit

/-- One strip is looked at, both ways. -/
def relax (r : Roads) (f : Flock) (d : Int) (i : Nat) (o : Nat → Int) (s : Nat) : Int := match r.strips[i]? with
  | some x => if openB r f (-1) i d then
      (if s = x.A.toNat ∧ o x.B.toNat + x.L ≤ f.pace then min (o x.A.toNat) (o x.B.toNat + x.L)
       else if s = x.B.toNat ∧ o x.A.toNat + x.L ≤ f.pace then min (o x.B.toNat) (o x.A.toNat + x.L) else o s)
    else o s
  | none => o s
def relaxTo (r : Roads) (f : Flock) (d : Int) (o : Nat → Int) : Nat → Nat → Int
  | 0 => o
  | k + 1 => relax r f d k (relaxTo r f d o k)
def leastTo (r : Roads) (f : Flock) (d : Int) (n : Nat) : Nat → Nat → Int
  | 0 => fun s => if n.testBit s then 0 else 1000
  | j + 1 => relaxTo r f d (leastTo r f d n j) r.strips.length
def leastO (r : Roads) (f : Flock) (d : Int) (n : Nat) (S : Nat) : Nat → Int := leastTo r f d n S

theorem relax_le {r : Roads} {f : Flock} {d : Int} {i : Nat} {o : Nat → Int} {s : Nat} : relax r f d i o s ≤ o s := by
  unfold relax
  cases r.strips[i]? with
  | none => exact Int.le_refl _
  | some x =>
    dsimp only
    by_cases h : openB r f (-1) i d = true
    · rw [if_pos h]
      by_cases c1 : s = x.A.toNat ∧ o x.B.toNat + x.L ≤ f.pace
      · rw [if_pos c1, c1.1]; omega
      · rw [if_neg c1]
        by_cases c2 : s = x.B.toNat ∧ o x.A.toNat + x.L ≤ f.pace
        · rw [if_pos c2, c2.1]; omega
        · rw [if_neg c2]; omega
    · rw [if_neg h]; omega
theorem relaxTo_le {r : Roads} {f : Flock} {d : Int} {o : Nat → Int} {s : Nat} : ∀ (k j : Nat), j ≤ k → relaxTo r f d o k s ≤ relaxTo r f d o j s
  | 0, j, h => by obtain rfl : j = 0 := by omega
                  exact Int.le_refl _
  | k + 1, j, h => by
    by_cases e : j = k + 1
    · subst e; exact Int.le_refl _
    · exact Int.le_trans (relax_le (i := k)) (relaxTo_le k j (by omega))
/-- Leagues that can be walked. -/
structure LeastOk (r : Roads) (f : Flock) (d : Int) (n S : Nat) (o : Nat → Int) : Prop where
  lo : ∀ s, s < S → 0 ≤ o s
  hi : ∀ s, s < S → o s ≤ 1000
  sound : ∀ s, s < S → o s < 1000 → Spot r f (-1) n d ((s : Int), o s)
theorem least0_ok {r : Roads} {f : Flock} {d : Int} {n S : Nat} (hS : r.stages = (S : Int)) : LeastOk r f d n S (leastTo r f d n 0) :=
  ⟨fun s _ => by unfold leastTo; (try dsimp only); split <;> omega, fun s _ => by unfold leastTo; (try dsimp only); split <;> omega, fun s hs h => by
    unfold leastTo at h ⊢
    try dsimp only at h ⊢
    by_cases c : n.testBit s = true
    · rw [if_pos c]; exact .start s (by omega) c
    · rw [if_neg c] at h; omega⟩
theorem relax_ok {r : Roads} {f : Flock} (g : Good r f) {d : Int} {n S : Nat} (hS : r.stages = (S : Int)) {o : Nat → Int} (h : LeastOk r f d n S o) (i : Nat) : LeastOk r f d n S (relax r f d i o) := by
  have hp := g.p2
  unfold relax
  cases hx : r.strips[i]? with
  | none => exact h
  | some x =>
    obtain ⟨b1, b2, b3, b4, b5, b6, _⟩ := g.strip x (List.mem_of_getElem? hx)
    dsimp only
    by_cases hop : openB r f (-1) i d = true
    · have hA : x.A.toNat < S := by omega
      have hB : x.B.toNat < S := by omega
      have eA : ((x.A.toNat : Nat) : Int) = x.A := by omega
      have eB : ((x.B.toNat : Nat) : Int) = x.B := by omega
      have lA := h.lo _ hA
      have lB := h.lo _ hB
      have uA := h.hi _ hA
      have uB := h.hi _ hB
      refine ⟨fun s hs => ?_, fun s hs => ?_, fun s hs hlt => ?_⟩
      · have := h.lo s hs
        rw [if_pos hop]
        by_cases c1 : s = x.A.toNat ∧ o x.B.toNat + x.L ≤ f.pace
        · rw [if_pos c1]; omega
        · rw [if_neg c1]
          by_cases c2 : s = x.B.toNat ∧ o x.A.toNat + x.L ≤ f.pace
          · rw [if_pos c2]; omega
          · rw [if_neg c2]; omega
      · have := h.hi s hs
        rw [if_pos hop]
        by_cases c1 : s = x.A.toNat ∧ o x.B.toNat + x.L ≤ f.pace
        · rw [if_pos c1]; omega
        · rw [if_neg c1]
          by_cases c2 : s = x.B.toNat ∧ o x.A.toNat + x.L ≤ f.pace
          · rw [if_pos c2]; omega
          · rw [if_neg c2]; omega
      · rw [if_pos hop] at hlt ⊢
        by_cases c1 : s = x.A.toNat ∧ o x.B.toNat + x.L ≤ f.pace
        · rw [if_pos c1] at hlt ⊢
          obtain ⟨rfl, c⟩ := c1
          by_cases c3 : o x.A.toNat ≤ o x.B.toNat + x.L
          · rw [Int.min_eq_left c3] at hlt ⊢; exact h.sound _ hA hlt
          · rw [Int.min_eq_right (by omega)]
            have h1 := h.sound _ hB (by omega)
            refine .step _ _ i h1 (stepOk_some.2 ⟨x, hx, ?_, c, hop, ?_⟩)
            · dsimp only; rw [eB]; unfold endOf; rw [if_neg (by omega), if_pos rfl]
            · dsimp only; rw [eA, eB]; unfold endOf; rw [if_neg (by omega), if_pos rfl]
        · rw [if_neg c1] at hlt ⊢
          by_cases c2 : s = x.B.toNat ∧ o x.A.toNat + x.L ≤ f.pace
          · rw [if_pos c2] at hlt ⊢
            obtain ⟨rfl, c⟩ := c2
            by_cases c3 : o x.B.toNat ≤ o x.A.toNat + x.L
            · rw [Int.min_eq_left c3] at hlt ⊢; exact h.sound _ hB hlt
            · rw [Int.min_eq_right (by omega)]
              have h1 := h.sound _ hA (by omega)
              refine .step _ _ i h1 (stepOk_some.2 ⟨x, hx, ?_, c, hop, ?_⟩)
              · dsimp only; rw [eA]; unfold endOf; rw [if_pos rfl]
              · dsimp only; rw [eA, eB]; unfold endOf; rw [if_pos rfl]
          · rw [if_neg c2] at hlt ⊢; exact h.sound s hs hlt
    · rw [show (fun s => if openB r f (-1) i d = true then (if s = x.A.toNat ∧ o x.B.toNat + x.L ≤ f.pace then min (o x.A.toNat) (o x.B.toNat + x.L) else if s = x.B.toNat ∧ o x.A.toNat + x.L ≤ f.pace then min (o x.B.toNat) (o x.A.toNat + x.L) else o s) else o s) = o from funext fun s => if_neg hop]
      exact h
theorem relaxTo_ok {r : Roads} {f : Flock} (g : Good r f) {d : Int} {n S : Nat} (hS : r.stages = (S : Int)) {o : Nat → Int} (h : LeastOk r f d n S o) : ∀ k, LeastOk r f d n S (relaxTo r f d o k)
  | 0 => h
  | k + 1 => relax_ok g hS (relaxTo_ok g hS h k) k
theorem leastTo_ok {r : Roads} {f : Flock} (g : Good r f) {d : Int} {n S : Nat} (hS : r.stages = (S : Int)) : ∀ j, LeastOk r f d n S (leastTo r f d n j)
  | 0 => least0_ok hS
  | j + 1 => relaxTo_ok g hS (leastTo_ok g hS j) _
theorem leastTo_le {r : Roads} {f : Flock} {d : Int} {n s : Nat} : ∀ (k j : Nat), j ≤ k → leastTo r f d n k s ≤ leastTo r f d n j s
  | 0, j, h => by obtain rfl : j = 0 := by omega
                  exact Int.le_refl _
  | k + 1, j, h => by
    by_cases e : j = k + 1
    · subst e; exact Int.le_refl _
    · exact Int.le_trans (relaxTo_le r.strips.length 0 (by omega)) (leastTo_le k j (by omega))
/-- A strip is gone over in a round. -/
theorem round_edge {r : Roads} {f : Flock} (g : Good r f) {d : Int} {o : Nat → Int} {i : Nat} {x : Strip} (hx : r.strips[i]? = some x) (hop : openB r f (-1) i d = true) {t : Int} (he : (endOf x t).2 = true) (hl : o t.toNat + x.L ≤ f.pace) :
    relaxTo r f d o r.strips.length (endOf x t).1.toNat ≤ o t.toNat + x.L := by
  obtain ⟨b1, b2, b3, b4, b5, b6, _⟩ := g.strip x (List.mem_of_getElem? hx)
  have hi := (List.getElem?_eq_some_iff.1 hx).1
  refine Int.le_trans (relaxTo_le (s := (endOf x t).1.toNat) r.strips.length (i + 1) (by omega)) ?_
  have hm := relaxTo_le (r := r) (f := f) (d := d) (o := o) (s := t.toNat) i 0 (by omega)
  show relax r f d i (relaxTo r f d o i) (endOf x t).1.toNat ≤ _
  generalize relaxTo r f d o i = p at hm ⊢
  have hm' : p t.toNat ≤ o t.toNat := hm
  unfold relax
  rw [hx]
  dsimp only
  rw [if_pos hop]
  unfold endOf at he ⊢
  by_cases eA : t = x.A
  · rw [if_pos eA]
    dsimp only
    rw [eA] at hm' hl ⊢
    by_cases c1 : x.B.toNat = x.A.toNat ∧ p x.B.toNat + x.L ≤ f.pace
    · omega
    · rw [if_neg c1, if_pos ⟨rfl, by omega⟩]; omega
  · rw [if_neg eA] at he ⊢
    by_cases eB : t = x.B
    · rw [if_pos eB]
      dsimp only
      rw [eB] at hm' hl ⊢
      rw [if_pos ⟨rfl, by omega⟩]; omega
    · rw [if_neg eB] at he; simp at he
/-- A walk that meets no stage twice. -/
inductive Simple (r : Roads) (f : Flock) (d s : Int) : List Int → Int → Int → Prop
  | nil : Simple r f d s [s] s 0
  | cons (vs : List Int) (t l : Int) (i : Nat) (x : Strip) : Simple r f d s vs t l → r.strips[i]? = some x → (endOf x t).2 = true → openB r f (-1) i d = true → (endOf x t).1 ∉ vs → Simple r f d s ((endOf x t).1 :: vs) (endOf x t).1 (l + x.L)
theorem Simple.cut {r : Roads} {f : Flock} (g : Good r f) {d s : Int} {vs : List Int} {t l : Int} (h : Simple r f d s vs t l) : ∀ u ∈ vs, ∃ vs' l', Simple r f d s vs' u l' ∧ l' ≤ l := by
  induction h with
  | nil => intro u hu; simp at hu; subst hu; exact ⟨_, _, .nil, Int.le_refl _⟩
  | cons vs t l i x h hx he ho hn ih =>
    intro u hu
    have hL := (g.strip x (List.mem_of_getElem? hx)).2.2.2.2.2.1
    rcases List.mem_cons.1 hu with rfl | hu
    · exact ⟨_, _, .cons vs t l i x h hx he ho hn, Int.le_refl _⟩
    · obtain ⟨vs', l', h1, h2⟩ := ih u hu
      exact ⟨vs', l', h1, by omega⟩
theorem simple_of {r : Roads} {f : Flock} (g : Good r f) {d s t l : Int} (h : Leads r f d s t l) : ∃ vs l', Simple r f d s vs t l' ∧ l' ≤ l := by
  induction h with
  | refl => exact ⟨_, _, .nil, Int.le_refl _⟩
  | step t l i x _ hx he ho ih =>
    obtain ⟨vs, l', h1, h2⟩ := ih
    have hL := (g.strip x (List.mem_of_getElem? hx)).2.2.2.2.2.1
    by_cases c : (endOf x t).1 ∈ vs
    · obtain ⟨vs', l'', h3, h4⟩ := h1.cut g _ c
      exact ⟨vs', l'', h3, by omega⟩
    · exact ⟨_, _, .cons vs t l' i x h1 hx he ho c, by omega⟩
theorem Simple.nodup {r : Roads} {f : Flock} (g : Good r f) {d s : Int} {vs : List Int} {t l : Int} (h : Simple r f d s vs t l) (hs : 0 ≤ s ∧ s < r.stages) : vs.Nodup ∧ (∀ v ∈ vs, 0 ≤ v ∧ v < r.stages) ∧ 1 ≤ vs.length := by
  induction h with
  | nil => exact ⟨by simp, by intro v hv; simp at hv; subst hv; exact hs, by simp⟩
  | cons vs t l i x h hx he ho hn ih =>
    obtain ⟨i1, i2, i3⟩ := ih
    exact ⟨List.nodup_cons.2 ⟨hn, i1⟩, fun v hv => by
      rcases List.mem_cons.1 hv with rfl | hv
      · exact endOf_range g (List.mem_of_getElem? hx) he
      · exact i2 v hv, by simp⟩
theorem Simple.least {r : Roads} {f : Flock} (g : Good r f) {d : Int} {n s : Nat} (hb : n.testBit s = true) {vs : List Int} {t l : Int} (h : Simple r f d (s : Int) vs t l) (hs : (s : Int) < r.stages) (hl : l ≤ f.pace) : leastTo r f d n (vs.length - 1) t.toNat ≤ l := by
  induction h with
  | nil => show leastTo r f d n 0 _ ≤ 0; unfold leastTo; (try dsimp only); rw [show ((s : Int)).toNat = s from rfl, if_pos hb]; omega
  | cons vs t l i x h hx he ho hn ih =>
    have hL := (g.strip x (List.mem_of_getElem? hx)).2.2.2.2.2.1
    have h1 := ih (by omega)
    obtain ⟨_, _, h3⟩ := h.nodup g ⟨by omega, hs⟩
    rw [List.length_cons, show vs.length + 1 - 1 = (vs.length - 1) + 1 by omega]
    have := round_edge g (o := leastTo r f d n (vs.length - 1)) hx ho he (by omega)
    show relaxTo r f d (leastTo r f d n (vs.length - 1)) r.strips.length _ ≤ _
    omega
/-- What least tells: whether a flock can be at a stage at the end of the day. -/
theorem least_spot {r : Roads} {f : Flock} (g : Good r f) {d : Int} {n S t : Nat} (hS : r.stages = (S : Int)) (ht : t < S) : leastO r f d n S t < 1000 ↔ (afterN r f (-1) n d).testBit t = true := by
  rw [afterN_bit g]
  have hp := g.p2
  constructor
  · intro h; exact ⟨_, (leastTo_ok g hS S).sound t ht h⟩
  · rintro ⟨l, hl⟩
    obtain ⟨s, h1, h2, h3, h4⟩ := (spot_leads g).1 hl
    dsimp only at h3 h4
    obtain ⟨vs, l', h5, h6⟩ := simple_of g h3
    obtain ⟨n1, n2, n3⟩ := h5.nodup g ⟨by omega, h1⟩
    have h7 := h5.least g h2 h1 (by omega)
    have hlen : vs.length ≤ S := by
      have hn : (vs.map Int.toNat).Nodup := by
        rw [List.nodup_iff_pairwise_ne, List.pairwise_map]
        refine (List.nodup_iff_pairwise_ne.1 n1).imp_of_mem fun {p q} hp hq hne e => hne ?_
        have := n2 p hp
        have := n2 q hq
        omega
      have := nodup_lt_length S _ hn (fun v hv => by
        obtain ⟨u, hu, rfl⟩ := List.mem_map.1 hv
        have := n2 u hu
        omega)
      simpa using this
    have h8 := leastTo_le (r := r) (f := f) (d := d) (n := n) (s := t) S (vs.length - 1) (by omega)
    rw [show ((t : Int)).toNat = t from rfl] at h7
    show leastTo r f d n S t < 1000
    omega
end Go.Proofs.Ytjgkgnfhglhklaa
namespace Go.Proofs.Ytjgkgnfhglhklaa
set_option linter.unusedSimpArgs false
set_option linter.unusedVariables false
open Go.RowKit

/-- A row of integers that a call made. -/
def IRow (w : World) (g S : Nat) (o : Nat → Int) : Prop := w.heap[g]? = some (.cells (tab S fun s => .int .i64 (o s)) 3 (0, 0))
theorem IRow.cell {w : World} {g S : Nat} {o : Nat → Int} (h : IRow w g S o) {s : Nat} (hs : s < S) : w.cell? ⟨g, s, none⟩ = some (.int .i64 (o s)) := cell_tab h hs
theorem IRow.free {w : World} {g S : Nat} {o : Nat → Int} (h : IRow w g S o) (s : Nat) : w.frozen? ⟨g, s, none⟩ = false := free_tab h s
theorem IRow.below {w w' : World} {g S : Nat} {o : Nat → Int} (h : IRow w g S o) (hb : Below w.heap.size w w') : IRow w' g S o := (hb.block g (Array.getElem?_eq_some_iff.1 h).1).trans h
theorem IRow.set {w : World} {g S : Nat} {o : Nat → Int} (h : IRow w g S o) (s : Nat) (x : Int) : IRow (w.setCell ⟨g, s, none⟩ (.int .i64 x)) g S (fun i => if i = s then x else o i) := by
  unfold IRow
  rw [set_tab h]
  congr 2
  exact tab_congr fun j _ => by dsimp only; split <;> rfl
theorem IRow.congr {w : World} {g S : Nat} {o o' : Nat → Int} (h : IRow w g S o) (he : ∀ s, s < S → o s = o' s) : IRow w g S o' := by
  unfold IRow at h ⊢
  rw [h, tab_congr fun j hj => by rw [he j hj]]

theorem relax_shut {r : Roads} {f : Flock} {d : Int} {i : Nat} {o : Nat → Int} {x : Strip} (hx : r.strips[i]? = some x) (h : (barsL x f d).isEmpty = false) (s : Nat) : relax r f d i o s = o s := by
  unfold relax
  rw [hx]
  dsimp only
  rw [if_neg]
  unfold openB
  rw [hx]
  simp [h]
theorem relax_open {r : Roads} {f : Flock} {d : Int} {i : Nat} {o : Nat → Int} {x : Strip} (hx : r.strips[i]? = some x) (h : (barsL x f d).isEmpty = true) (s : Nat) : relax r f d i o s = (if s = x.A.toNat ∧ o x.B.toNat + x.L ≤ f.pace then min (o x.A.toNat) (o x.B.toNat + x.L)
       else if s = x.B.toNat ∧ o x.A.toNat + x.L ≤ f.pace then min (o x.B.toNat) (o x.A.toNat + x.L) else o s) := by
  unfold relax
  rw [hx]
  dsimp only
  rw [if_pos]
  unfold openB
  rw [hx]
  simp [h]

set_option maxRecDepth 100000 in
set_option maxHeartbeats 8000000 in
theorem least_any (w : World) {r : Roads} {f : Flock} (g : Good r f) (d : Int) (a : Option Addr) (cap S : Nat) (hS : r.stages = (S : Int)) (hs : StripsAt w a r.strips) (n bb bc : Nat) (hbg : ∀ s, s < S → w.cell? ⟨bb, s, none⟩ = some (.bool (n.testBit s))) :
    Calls Try.prog 119 #[.agg #[.int .i64 r.days, .int .i64 (S : Int), .slice a r.strips.length cap], .agg #[.int .i64 f.heads, .int .i64 f.pace], .int .i64 d, .slice (some ⟨bb, 0, none⟩) S bc] w
      fun e w' => ∃ gb, e = .returned (.slice (some ⟨gb, 0, none⟩) S S) ∧ IRow w' gb S (leastO r f d n S) ∧ w.heap.size ≤ gb ∧ Below w.heap.size w w' := by
  have hS6 : S ≤ 6 := by have := g.s2; omega
  have hn8 := g.n8
  have hb0 : Below w.heap.size w ((w.alloc (.cells #[.int .i64 r.days, .int .i64 (S : Int), .slice a r.strips.length cap] 24)).alloc (.cells #[.int .i64 f.heads, .int .i64 f.pace] 26)) := ((Below.refl _ _).alloc (Nat.le_refl _) _).alloc (by simp) _
  have hs0 : ((w.alloc (.cells #[.int .i64 r.days, .int .i64 (S : Int), .slice a r.strips.length cap] 24)).alloc (.cells #[.int .i64 f.heads, .int .i64 f.pace] 26)).heap.size = w.heap.size + 2 := by simp
  have x1 : ((w.alloc (.cells #[.int .i64 r.days, .int .i64 (S : Int), .slice a r.strips.length cap] 24)).alloc (.cells #[.int .i64 f.heads, .int .i64 f.pace] 26)).cell? ⟨w.heap.size, 1, none⟩ = some (.int .i64 (S : Int)) := by simp [go_sem]
  have x2 : ((w.alloc (.cells #[.int .i64 r.days, .int .i64 (S : Int), .slice a r.strips.length cap] 24)).alloc (.cells #[.int .i64 f.heads, .int .i64 f.pace] 26)).cell? ⟨w.heap.size, 2, none⟩ = some (.slice a r.strips.length cap) := by simp [go_sem]
  have x3 : ((w.alloc (.cells #[.int .i64 r.days, .int .i64 (S : Int), .slice a r.strips.length cap] 24)).alloc (.cells #[.int .i64 f.heads, .int .i64 f.pace] 26)).cell? ⟨w.heap.size + 1, 0, none⟩ = some (.int .i64 f.heads) := by simp [go_sem]
  have x4 : ((w.alloc (.cells #[.int .i64 r.days, .int .i64 (S : Int), .slice a r.strips.length cap] 24)).alloc (.cells #[.int .i64 f.heads, .int .i64 f.pace] 26)).cell? ⟨w.heap.size + 1, 1, none⟩ = some (.int .i64 f.pace) := by simp [go_sem]
  have hmk := run_make_row' (P := Try.prog) 27 3 (.int .i64 0) 8 Try.underlying27 info_int rfl .i64 .i64 S (by omega) (by omega)
  have hst := hs.below hb0
  have hbg0 : ∀ s, s < S → ((w.alloc (.cells #[.int .i64 r.days, .int .i64 (S : Int), .slice a r.strips.length cap] 24)).alloc (.cells #[.int .i64 f.heads, .int .i64 f.pace] 26)).cell? ⟨bb, s, none⟩ = some (.bool (n.testBit s)) := fun s h => ((bcell hb0).1 _ _ (lt_of_cell (hbg s h))).trans (hbg s h)
  have HS := Lib.hid hS; clear hS
  have G := Lib.hid g; clear g hs
  have HBG := Lib.hid hbg0; clear hbg0 hbg
  go_enter Try.func119, Try.ntmps119
  go_wp2_with fail
  clear hmk
  generalize ((w.alloc (.cells #[.int .i64 r.days, .int .i64 (S : Int), .slice a r.strips.length cap] 24)).alloc (.cells #[.int .i64 f.heads, .int .i64 f.pace] 26)) = W0 at hb0 hs0 x1 x2 x3 x4 hst HBG ⊢
  have hbm : Below W0.heap.size W0 (W0.alloc (.cells (madeCells #[.int .i64 0] S) 3)) := Below.alloc (Below.refl _ _) (Nat.le_refl _) _
  have hr0 : IRow (W0.alloc (.cells (madeCells #[.int .i64 0] S) 3)) W0.heap.size S (fun _ => 0) := by unfold IRow; rw [heap_alloc_new, tab_made]
  rw [hs0] at hbm hr0
  have HS0 := Lib.hid hs0; clear hs0
  have X1 := Lib.hid x1; clear x1
  have X2 := Lib.hid x2; clear x2
  have X3 := Lib.hid x3; clear x3
  have X4 := Lib.hid x4; clear x4
  have HST := Lib.hid hst; clear hst
  have HB0 := Lib.hid hb0; clear hb0
  have HR0 := Lib.hid hr0; clear hr0
  have HBk := Lib.hid (fun (W : World) (h : Below (w.heap.size + 2) W0 W) => show Below W0.heap.size W0 W by rw [HS0.out]; exact h)
  go_loopw [10] (fun v10 wx => ∃ s : Nat, s ≤ S ∧ v10 = .int .i64 (s : Int) ∧ IRow wx (w.heap.size + 2) S (fun i => if i < s then (if n.testBit i then 0 else 1000) else 0) ∧ Below (w.heap.size + 2) W0 wx) (fun v _ => S - (intOf v).toNat)
  case atStart => exact ⟨0, Nat.zero_le _, rfl, HR0.out.congr fun s _ => by simp, hbm⟩
  case round =>
    clear hbm HR0
    obtain ⟨s, hs, rfl, hrow, hbr⟩ := hrel
    have x1 := ((bcell (HBk.out _ hbr)).1 _ _ (lt_of_cell X1.out)).trans X1.out
    have HROW := Lib.hid hrow
    have HBR := Lib.hid hbr
    by_cases hsS : s < S
    · have y0 := ((bcell (HBk.out _ hbr)).1 _ _ (lt_of_cell (HBG.out s hsS))).trans (HBG.out s hsS)
      have y1 := hrow.cell hsS
      have y2 := hrow.free s
      have hset := hrow.set s 1000
      have HSET := Lib.hid hset; clear hset hrow hbr
      have q1 : (s : Int) < (S : Int) := by omega
      cases hbt : n.testBit s
      · rw [hbt] at y0
        have HBT := Lib.hid hbt; clear hbt
        go_wp2_with fail
        exact ⟨⟨s + 1, by omega, by go_num, HSET.out.congr fun i _ => by
          by_cases e : i = s
          · subst e; rw [if_pos rfl, if_pos (show i < i + 1 by omega), HBT.out]; rfl
          · rw [if_neg e]
            by_cases c : i < s
            · rw [if_pos c, if_pos (show i < s + 1 by omega)]
            · rw [if_neg c, if_neg (show ¬ i < s + 1 by omega)], HBR.out.setCell (p := ⟨w.heap.size + 2, s, none⟩) (Nat.le_refl _) _⟩, by simp [intOf]; omega⟩
      · rw [hbt] at y0
        have HBT := Lib.hid hbt; clear hbt
        go_wp2_with fail
        exact ⟨⟨s + 1, by omega, by go_num, HROW.out.congr fun i _ => by
          by_cases e : i = s
          · subst e; simp [HBT.out]
          · by_cases c : i < s
            · rw [if_pos c, if_pos (show i < s + 1 by omega)]
            · rw [if_neg c, if_neg (show ¬ i < s + 1 by omega)], HBR.out⟩, by simp [intOf]; omega⟩
    · obtain rfl : s = S := by omega
      clear hrow hbr
      go_wp2_with fail
      clear x1
      go_loopw [11] (fun v11 wx => ∃ j : Nat, j ≤ s ∧ v11 = .int .i64 (j : Int) ∧ IRow wx (w.heap.size + 2) s (leastTo r f d n j) ∧ Below (w.heap.size + 2) W0 wx) (fun v _ => s - (intOf v).toNat)
      case atStart => exact ⟨0, Nat.zero_le _, rfl, HROW.out.congr fun i hi => by rw [if_pos hi]; rfl, HBR.out⟩
      case round =>
        clear HROW HBR
        obtain ⟨j, hj, rfl, hrow, hbr⟩ := hrel
        have x1 := ((bcell (HBk.out _ hbr)).1 _ _ (lt_of_cell X1.out)).trans X1.out
        have HROW := Lib.hid hrow; clear hrow
        have HBR := Lib.hid hbr; clear hbr
        by_cases hjs : j < s
        · go_wp2_with fail
          clear x1
          have hok := fun k => relaxTo_ok G.out HS.out (leastTo_ok G.out (d := d) (n := n) HS.out j) k
          have HOK := Lib.hid hok; clear hok
          go_loopw [12] (fun v12 wx => ∃ i : Nat, i ≤ r.strips.length ∧ v12 = .int .i64 (i : Int) ∧ IRow wx (w.heap.size + 2) s (relaxTo r f d (leastTo r f d n j) i) ∧ Below (w.heap.size + 2) W0 wx) (fun v _ => r.strips.length - (intOf v).toNat)
          case atStart => exact ⟨0, Nat.zero_le _, rfl, HROW.out, HBR.out⟩
          case round =>
            clear HROW HBR
            obtain ⟨i, hi, rfl, hrow, hbr⟩ := hrel
            have hbr0 := HBk.out _ hbr
            have x2 := ((bcell hbr0).1 _ _ (lt_of_cell X2.out)).trans X2.out
            have x3 := ((bcell hbr0).1 _ _ (lt_of_cell X3.out)).trans X3.out
            have x4 := ((bcell hbr0).1 _ _ (lt_of_cell X4.out)).trans X4.out
            have HROW := Lib.hid hrow; clear hrow
            have HBR := Lib.hid hbr; clear hbr
            by_cases hlt : i < r.strips.length
            · rcases HST.out.below hbr0 with h0 | ⟨sb, so, rfl, hsc⟩
              · rw [h0] at hlt; simp at hlt
              obtain ⟨s0, s1, s2, s3, s4, s5, s6⟩ := hsc i hlt
              have hx : r.strips[i]? = some r.strips[i] := List.getElem?_eq_getElem hlt
              obtain ⟨b1, b2, b3, b4, b5, b6, b7, _⟩ := G.out.strip r.strips[i] (List.getElem_mem hlt)
              generalize r.strips[i] = x at s0 s1 s2 s3 s4 s5 s6 b1 b2 b3 b4 b5 b6 b7 hx
              have HX := Lib.hid hx; clear hx hsc
              have hbX : Below wr.heap.size wr (wr.alloc (.cells #[.int .i64 x.A, .int .i64 x.B, .int .i64 x.L, .int .i64 x.W, .int .i64 x.K, .int .i64 x.X, .int .i64 x.Y] 57)) := Below.alloc (Below.refl _ _) (Nat.le_refl _) _
              have z0 : (wr.alloc (.cells #[.int .i64 x.A, .int .i64 x.B, .int .i64 x.L, .int .i64 x.W, .int .i64 x.K, .int .i64 x.X, .int .i64 x.Y] 57)).cell? ⟨wr.heap.size, 0, none⟩ = some (.int .i64 x.A) := by simp [go_sem]
              have z1 : (wr.alloc (.cells #[.int .i64 x.A, .int .i64 x.B, .int .i64 x.L, .int .i64 x.W, .int .i64 x.K, .int .i64 x.X, .int .i64 x.Y] 57)).cell? ⟨wr.heap.size, 1, none⟩ = some (.int .i64 x.B) := by simp [go_sem]
              have z2 : (wr.alloc (.cells #[.int .i64 x.A, .int .i64 x.B, .int .i64 x.L, .int .i64 x.W, .int .i64 x.K, .int .i64 x.X, .int .i64 x.Y] 57)).cell? ⟨wr.heap.size, 2, none⟩ = some (.int .i64 x.L) := by simp [go_sem]
              have k3 := ((bcell hbX).1 _ _ (lt_of_cell x3)).trans x3
              have k4 := ((bcell hbX).1 _ _ (lt_of_cell x4)).trans x4
              have hszr := HBR.out.size
              go_upto_region 14 with (fail)
              clear s0 s1 s2 s3 s4 s5 s6 x2 x3 x4 hbr0
              go_wp2_with fail
              refine (refWhy_any x f d _).mono ?_
              rintro e w5 ⟨v, rfl, hown, hb5⟩
              obtain ⟨va, vc, rfl, _⟩ := hown.ints
              clear hown
              have y0 := ((bcell hb5).1 _ _ (lt_of_cell z0)).trans z0
              have y1 := ((bcell hb5).1 _ _ (lt_of_cell z1)).trans z1
              have y2 := ((bcell hb5).1 _ _ (lt_of_cell z2)).trans z2
              have y4 := ((bcell hb5).1 _ _ (lt_of_cell k4)).trans k4
              have HR5 := Lib.hid ((HROW.out.below hbX).below hb5)
              have HB5 := Lib.hid (HBR.out.trans ((hbX.trans (hb5.mono hbX.size)).mono (by have := HS0.out; omega)))
              clear z0 z1 z2 k3 k4 hbX hb5
              have hA0 : ((x.A.toNat : Nat) : Int) = x.A := by omega
              have hB0 : ((x.B.toNat : Nat) : Int) = x.B := by omega
              have hAl : x.A.toNat < s := by have := HS.out; omega
              have hBl : x.B.toNat < s := by have := HS.out; omega
              have hAB : x.A.toNat ≠ x.B.toNat := by omega
              have hoi := HOK.out i
              have p0 := hoi.lo _ hAl
              have p1 := hoi.hi _ hAl
              have p2 := hoi.lo _ hBl
              have p3 := hoi.hi _ hBl
              have hsh := fun h u => relax_shut (r := r) (f := f) (d := d) (i := i) (o := relaxTo r f d (leastTo r f d n j) i) HX.out h u
              have hop := fun h u => relax_open (r := r) (f := f) (d := d) (i := i) (o := relaxTo r f d (leastTo r f d n j) i) HX.out h u
              have hnx : relaxTo r f d (leastTo r f d n j) (i + 1) = relax r f d i (relaxTo r f d (leastTo r f d n j) i) := rfl
              generalize relaxTo r f d (leastTo r f d n j) i = o at HR5 p0 p1 p2 p3 hsh hop hnx
              have HSH := Lib.hid hsh; clear hsh hoi
              have HOP := Lib.hid hop; clear hop
              have HNX := Lib.hid hnx; clear hnx
              rw [← hA0] at y0
              rw [← hB0] at y1
              generalize x.A.toNat = na at y0 hAl hAB p0 p1 HOP
              generalize x.B.toNat = nb at y1 hBl hAB p2 p3 HOP
              clear hA0 hB0 b1 b2 b3 b4 b5
              cases hem : (barsL x f d).isEmpty
              · have hlen : ((barsL x f d).length : Int) > 0 := by
                  cases hb : barsL x f d with
                  | nil => rw [hb] at hem; simp at hem
                  | cons u v => simp
                have hlen' : 0 < (barsL x f d).length := by omega
                have hdl : decide (0 < (barsL x f d).length) = true := decide_eq_true hlen'
                have HEM := Lib.hid hem; clear hem
                generalize (barsL x f d).length = bl at hlen hlen' hdl
                go_wp2_with fail
                exact ⟨⟨i + 1, by omega, by go_num, HR5.out.congr fun u _ => by rw [HNX.out, HSH.out HEM.out], HB5.out⟩, by simp [intOf]; omega⟩
              · have hnil : barsL x f d = [] := List.isEmpty_iff.1 hem
                have HEM := Lib.hid hem; clear hem
                rw [hnil]
                clear hnil
                have m0 := HR5.out.cell hAl
                have m1 := HR5.out.cell hBl
                have m2 := HR5.out.free na
                have m3 := HR5.out.free nb
                have q1 : (na : Int) < (s : Int) := by omega
                have q2 : (nb : Int) < (s : Int) := by omega
                have q3 : x.L ≤ 9 := b7
                have q4 : 1 ≤ x.L := b6
                have hset1 := fun v => HR5.out.set nb v
                have hset2 := fun v => HR5.out.set na v
                have hset3 := fun v u => (HR5.out.set nb v).set na u
                generalize ha : o na = oa at m0 p0 p1
                generalize hb : o nb = ob at m1 p2 p3
                have HA' := Lib.hid ha; clear ha
                have HB' := Lib.hid hb; clear hb
                have H1 := Lib.hid hset1; clear hset1
                have H2 := Lib.hid hset2; clear hset2
                have H3 := Lib.hid hset3; clear hset3
                have e1 : IntKind.i64.wrap (oa + x.L) = oa + x.L := IntWalk.i64_in _ (by omega)
                have e2 : IntKind.i64.wrap (ob + x.L) = ob + x.L := IntWalk.i64_in _ (by omega)
                by_cases c1 : oa + x.L ≤ f.pace
                · go_wp2_with fail
                  go_quiet (fail)
                  go_upto_region 18 with (fail)
                  have hrg : w.heap.size + 2 < wr.heap.size := (Array.getElem?_eq_some_iff.1 HROW.out).1
                  have hbq := below_drewN (Below.refl w5.heap.size w5) nq
                  have hbd := below_drewN HB5.out nq
                  have hrd := HR5.out.below hbq
                  have k0 := ((bcell hbq).1 _ _ (lt_of_cell y0)).trans y0
                  have k2 := ((bcell hbq).1 _ _ (lt_of_cell y2)).trans y2
                  have k4 := ((bcell hbq).1 _ _ (lt_of_cell y4)).trans y4
                  have k0' := (World.cell?_setCell_other (w5.drewN nq) ⟨w.heap.size + 2, nb, none⟩ ⟨wr.heap.size, 0, none⟩ (.int .i64 (if oa + x.L < ob then oa + x.L else ob)) (by intro e; injection e with e1; omega)).trans k0
                  have k2' := (World.cell?_setCell_other (w5.drewN nq) ⟨w.heap.size + 2, nb, none⟩ ⟨wr.heap.size, 2, none⟩ (.int .i64 (if oa + x.L < ob then oa + x.L else ob)) (by intro e; injection e with e1; omega)).trans k2
                  have k4' := (World.cell?_setCell_other (w5.drewN nq) ⟨w.heap.size + 2, nb, none⟩ ⟨w.heap.size + 1, 1, none⟩ (.int .i64 (if oa + x.L < ob then oa + x.L else ob)) (by intro e; injection e with e1; omega)).trans k4
                  have hrow1 := hrd.set nb (if oa + x.L < ob then oa + x.L else ob)
                  have hb1 := hbd.setCell (p := ⟨w.heap.size + 2, nb, none⟩) (Nat.le_refl _) (.int .i64 (if oa + x.L < ob then oa + x.L else ob))
                  clear y0 y1 y2 y4 m0 m1 m2 m3 k0 k2 k4 hbq hbd hrd
                  have t0 := hrow1.cell hAl
                  rw [if_neg hAB, HA'.out] at t0
                  have t1 := hrow1.free na
                  have hset := fun z => hrow1.set na z
                  have HSET := Lib.hid hset; clear hset
                  have HR1 := Lib.hid hrow1; clear hrow1
                  have HB1 := Lib.hid hb1; clear hb1
                  generalize (w5.drewN nq).setCell ⟨w.heap.size + 2, nb, none⟩ (.int .i64 (if oa + x.L < ob then oa + x.L else ob)) = W1 at k0' k2' k4' t0 t1 HSET HR1 HB1 ⊢
                  by_cases c2 : ob + x.L ≤ f.pace
                  · go_wp2_with fail
                    exact ⟨⟨i + 1, by omega, by go_num, (HSET.out _).congr fun u _ => by
                      have h1 := HA'.out
                      have h2 := HB'.out
                      rw [HNX.out, HOP.out HEM.out, h1, h2]
                      by_cases e1 : u = na
                      · simp only [e1, c2, and_self, if_true]; omega
                      · by_cases e2 : u = nb
                        · have hba : ¬ nb = na := fun e => hAB e.symm
                          simp only [e2, hba, c1, false_and, and_self, if_false, if_true]; omega
                        · simp only [e1, e2, false_and, if_false], HB1.out.setCell (p := ⟨w.heap.size + 2, na, none⟩) (Nat.le_refl _) _⟩, by simp [intOf]; omega⟩
                  · go_wp2_with fail
                    exact ⟨⟨i + 1, by omega, by go_num, HR1.out.congr fun u _ => by
                      have h1 := HA'.out
                      have h2 := HB'.out
                      rw [HNX.out, HOP.out HEM.out, h1, h2]
                      by_cases e2 : u = nb
                      · simp only [e2, c1, c2, and_false, and_self, if_false, if_true]; omega
                      · simp only [e2, c2, false_and, and_false, if_false], HB1.out⟩, by simp [intOf]; omega⟩
                · go_wp2_with fail
                  go_quiet (fail)
                  go_upto_region 18 with (fail)
                  have hbq := below_drewN (Below.refl w5.heap.size w5) nq
                  have hbd := below_drewN HB5.out nq
                  have hrd := HR5.out.below hbq
                  have k0 := ((bcell hbq).1 _ _ (lt_of_cell y0)).trans y0
                  have k2 := ((bcell hbq).1 _ _ (lt_of_cell y2)).trans y2
                  have k4 := ((bcell hbq).1 _ _ (lt_of_cell y4)).trans y4
                  clear y0 y1 y2 y4 m0 m1 m2 m3 hbq
                  have t0 := hrd.cell hAl
                  rw [HA'.out] at t0
                  have t1 := hrd.free na
                  have hset := fun z => hrd.set na z
                  have HSET := Lib.hid hset; clear hset
                  have HR1 := Lib.hid hrd; clear hrd
                  have HB1 := Lib.hid hbd; clear hbd
                  generalize w5.drewN nq = W1 at k0 k2 k4 t0 t1 HSET HR1 HB1 ⊢
                  by_cases c2 : ob + x.L ≤ f.pace
                  · go_wp2_with fail
                    exact ⟨⟨i + 1, by omega, by go_num, (HSET.out _).congr fun u _ => by
                      have h1 := HA'.out
                      have h2 := HB'.out
                      rw [HNX.out, HOP.out HEM.out, h1, h2]
                      by_cases e1 : u = na
                      · simp only [e1, c2, and_self, if_true]; omega
                      · rw [if_neg e1, if_neg (fun h => e1 h.1), if_neg (fun h => absurd h.2 (by omega))], HB1.out.setCell (p := ⟨w.heap.size + 2, na, none⟩) (Nat.le_refl _) _⟩, by simp [intOf]; omega⟩
                  · go_wp2_with fail
                    exact ⟨⟨i + 1, by omega, by go_num, HR1.out.congr fun u _ => by
                      have h1 := HA'.out
                      have h2 := HB'.out
                      rw [HNX.out, HOP.out HEM.out, h1, h2]
                      rw [if_neg (fun h => absurd h.2 (by omega)), if_neg (fun h => absurd h.2 (by omega))], HB1.out⟩, by simp [intOf]; omega⟩
            · obtain rfl : i = r.strips.length := by omega
              clear hbr0 x3 x4
              go_wp2_with fail
              exact ⟨⟨j + 1, by omega, by go_num, HROW.out, HBR.out⟩, by simp [intOf]; omega⟩
        · obtain rfl : j = s := by omega
          go_wp2_with fail
          go_ret
          exact ⟨_, rfl, HROW.out, by omega, HB0.out.trans (HBR.out.mono (by omega))⟩
end Go.Proofs.Ytjgkgnfhglhklaa
