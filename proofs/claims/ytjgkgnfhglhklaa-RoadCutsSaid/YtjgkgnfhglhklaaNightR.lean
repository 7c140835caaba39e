/- The contract of mestaref02.Night. -/
import Derived.Test.YtjgkgnfhglhklaaWGrid
import Derived.Test.YtjgkgnfhglhklaaNightP
import Derived.Deep.CutBlock
import Derived.Deep.RegionHeld3
/- Slices of walks that a call makes for itself by append. -/
namespace Go.Proofs.Ytjgkgnfhglhklaa
set_option linter.unusedSimpArgs false
set_option linter.unusedVariables false
open Go.RowKit

/-- A walk that lies somewhere: with its plan's address and capacity. -/
structure WalkL where
  q : WalkV
  a : Option Addr
  c : Nat
def WalkL.cells (x : WalkL) : List Value := [Value.bool x.q.is, .int .i64 x.q.lg, .slice x.a x.q.pl.length x.c]
def OwnWalks (w : World) (B : Nat) (v : Value) (L : List WalkL) : Prop := w.ownsRow B 104 3 v L.length (L.flatMap WalkL.cells)
theorem OwnWalks.nil (w : World) (B : Nat) : OwnWalks w B (.slice none 0 0) [] := World.ownsRow_nil _ _ _ _
theorem OwnWalks.below {w w' : World} {B : Nat} {v : Value} {L : List WalkL} (h : OwnWalks w B v L) (hb : Below w.heap.size w w') : OwnWalks w' B v L := by
  obtain ⟨h1, h2⟩ := h
  refine ⟨h1, ?_⟩
  rcases h2 with h2 | ⟨g, cap, cur, hv, hg, hh, r⟩
  · exact .inl h2
  · exact .inr ⟨g, cap, cur, hv, hg, by rw [hb.block g (Array.getElem?_eq_some_iff.1 hh).1]; exact hh, r⟩
theorem OwnWalks.keepB {w w' : World} {B : Nat} {v : Value} {L : List WalkL} (h : OwnWalks w B v L) (hk : ∀ b, v.ownBlock = some b → w'.heap[b]? = w.heap[b]?) : OwnWalks w' B v L := by
  obtain ⟨h1, h2⟩ := h
  refine ⟨h1, ?_⟩
  rcases h2 with h2 | ⟨g, cap, cur, hv, hg, hh, r⟩
  · exact .inl h2
  · exact .inr ⟨g, cap, cur, hv, hg, by rw [hk g (by subst hv; rfl)]; exact hh, r⟩
theorem OwnWalks.mono {w : World} {B B' : Nat} {v : Value} {L : List WalkL} (h : OwnWalks w B v L) (hB : B' ≤ B) : OwnWalks w B' v L := by
  obtain ⟨h1, h2⟩ := h
  refine ⟨h1, ?_⟩
  rcases h2 with h2 | ⟨g, cap, cur, hv, hg, r⟩
  · exact .inl h2
  · exact .inr ⟨g, cap, cur, hv, Nat.le_trans hB hg, r⟩
theorem OwnWalks.block_lt {w : World} {B b : Nat} {v : Value} {L : List WalkL} (h : OwnWalks w B v L) (hb : v.ownBlock = some b) : b < w.heap.size ∧ B ≤ b := by
  obtain ⟨_, h2⟩ := h
  rcases h2 with ⟨hv, _⟩ | ⟨g, cap, cur, hv, hg, hh, r⟩
  · subst hv; simp [Value.ownBlock] at hb
  · subst hv; simp [Value.ownBlock] at hb; subst hb; exact ⟨(Array.getElem?_eq_some_iff.1 hh).1, hg⟩
theorem walkCells_get : ∀ (L : List WalkL) (i : Nat) (h : i < L.length), (L.flatMap WalkL.cells)[i * 3]? = some (.bool L[i].q.is) ∧ (L.flatMap WalkL.cells)[i * 3 + 1]? = some (.int .i64 L[i].q.lg) ∧ (L.flatMap WalkL.cells)[i * 3 + 2]? = some (.slice L[i].a L[i].q.pl.length L[i].c)
  | [], i, h => by simp at h
  | x :: L, 0, h => by simp [WalkL.cells]
  | x :: L, i + 1, h => by
    have ih := walkCells_get L i (by simpa using h)
    have e : ∀ k, ((x :: L).flatMap WalkL.cells)[(i + 1) * 3 + k]? = (L.flatMap WalkL.cells)[i * 3 + k]? := fun k => by
      rw [List.flatMap_cons, List.getElem?_append_right (by simp [WalkL.cells]; omega)]
      congr 1
      simp [WalkL.cells]; omega
    exact ⟨(e 0).trans ih.1, (e 1).trans ih.2.1, (e 2).trans ih.2.2⟩
/-- To be read. -/
theorem OwnWalks.walks {w : World} {B : Nat} {v : Value} {L : List WalkL} (h : OwnWalks w B v L) (hne : L ≠ []) (q : Nat → WalkV) (hq : ∀ s (hs : s < L.length), L[s].q = q s) (hp : ∀ s (hs : s < L.length), StridesAt w L[s].a L[s].q.pl) :
    ∃ g c pa pc, v = .slice (some ⟨g, 0, none⟩) L.length c ∧ WalksAt w g L.length q pa pc ∧ B ≤ g := by
  obtain ⟨h1, h2⟩ := h
  rcases h2 with ⟨hv, hn⟩ | ⟨g, cap, cur, hv, hg, hh, hc, hm, hs, ht⟩
  · exact absurd (List.length_eq_zero_iff.1 hn) hne
  · have hl0 : 0 < L.length := List.length_pos_iff.2 hne
    have key : ∀ j u, (L.flatMap WalkL.cells)[j]? = some u → j < L.length * 3 → w.cell? ⟨g, j, none⟩ = some u := fun j u hj hlt => by
      have e : cur[j]? = some u := by
        rw [← Array.getElem?_toList]
        have : (cur.toList.take (L.length * 3))[j]? = cur.toList[j]? := by rw [List.getElem?_take, if_pos hlt]
        rw [← this, ht]; exact hj
      simp [World.cell?, hh, e]
    refine ⟨g, cap, fun s => if hs : s < L.length then L[s].a else none, fun s => if hs : s < L.length then L[s].c else 0, hv, ⟨fun s hs => ?_, fun s hs => ?_, fun s hs => ?_, fun s hs => ?_⟩, hg⟩
    · rw [← hq s hs]; exact key _ _ (walkCells_get L s hs).1 (by omega)
    · rw [← hq s hs]; exact key _ _ (walkCells_get L s hs).2.1 (by omega)
    · rw [← hq s hs, dif_pos hs, dif_pos hs]; exact key _ _ (walkCells_get L s hs).2.2 (by omega)
    · rw [← hq s hs, dif_pos hs]; exact hp s hs
theorem app_walk1 {ops : Array Oper} {rest : List Oper} {o : Oper} {a : Act} {Q : Exit → Act → World → Prop} {w : World} (hgd : o.guard = none) (s x : Operand)
    (ho : o.op = .call { callee := .builtin .append, args := #[s, x], argTypes := #[100, 100] })
    (B : Nat) (v : Value) (L : List WalkL) (hs : a.eval s = v) (hown : OwnWalks w B v L) (y : WalkL) (hx : a.eval x = .slice (some ⟨w.heap.size, 0, none⟩) 1 1)
    (hlen : L.length ≤ 1000000) (hB : B ≤ w.heap.size)
    (h : ∀ v' w', OwnWalks w' B v' (L ++ [y]) → Below B w w' → wpList Try.prog ops Q rest (a.put o.dst v') w') :
    wpList Try.prog ops Q (o :: rest) a (w.alloc (.cells #[.bool y.q.is, .int .i64 y.q.lg, .slice y.a y.q.pl.length y.c] 104)) := by
  obtain ⟨i0, hi, hz0, hz1, hz2⟩ := info_parts (P := Try.prog) (e := 104) (z := .agg #[.bool false, .int .i64 0, .slice none 0 0]) (size := 3) (bytes := 40) info_walk
  have hb0 : Below B w (w.alloc (.cells #[.bool y.q.is, .int .i64 y.q.lg, .slice y.a y.q.pl.length y.c] 104)) := Below.alloc (Below.refl _ _) hB _
  have hba : Below w.heap.size w (w.alloc (.cells #[.bool y.q.is, .int .i64 y.q.lg, .slice y.a y.q.pl.length y.c] 104)) := Below.alloc (Below.refl _ _) (Nat.le_refl _) _
  refine wpList_append_own_at (w.alloc _) hgd s x 100 ho B 104 i0 (.agg #[.bool false, .int .i64 0, .slice none 0 0]) 3 40 Try.underlying100 hi hz0 hz1 hz2 (by simp [Value.cells]) (by decide) v L.length _ hs (hown.below hba) ⟨w.heap.size, 0, none⟩ 1 1 y.cells hx rfl ?_ ?_ ?_ ?_ (by simp; omega) ?_
  · intro j u hj
    match j, hj with
    | 0, hj => simp [WalkL.cells] at hj; subst hj; simp [Addr.add]
    | 1, hj => simp [WalkL.cells] at hj; subst hj; simp [Addr.add]
    | 2, hj => simp [WalkL.cells] at hj; subst hj; simp [Addr.add]
    | k + 3, hj => simp [WalkL.cells] at hj
  · intro u hu; simp [WalkL.cells] at hu; rcases hu with rfl | rfl | rfl <;> rfl
  · unfold maxLen; omega
  · omega
  · intro v' w' h1 h2 _ h4
    refine h v' w' ?_ ?_
    · unfold OwnWalks
      rw [List.length_append, List.length_singleton, List.flatMap_append]
      have e : [y].flatMap WalkL.cells = y.cells := by simp
      rw [e]; exact h1
    · refine hb0.trans (Below.grown (Below.refl _ _) h2 (by simp; omega) fun k hk => ?_)
      exact (hown.block_lt hk).2
end Go.Proofs.Ytjgkgnfhglhklaa
namespace Go.Proofs.Ytjgkgnfhglhklaa
set_option linter.unusedSimpArgs false
set_option linter.unusedVariables false
open Go.RowKit

theorem setCell3_box (w : World) (p : Nat) (x0 x1 x2 : Value) (v0 v1 v2 : Value) (T : TypeId) (h : w.heap[p]? = some (.cells #[x0, x1, x2] T (0, 0))) :
    (((w.setCell ⟨p, 0, none⟩ v0).setCell ⟨p, 1, none⟩ v1).setCell ⟨p, 2, none⟩ v2).heap[p]? = some (.cells #[v0, v1, v2] T (0, 0)) := by
  simp [World.setCell, Array.getElem?_modify, h]
theorem setCell3_other (w : World) (p b : Nat) (v0 v1 v2 : Value) (h : b ≠ p) : (((w.setCell ⟨p, 0, none⟩ v0).setCell ⟨p, 1, none⟩ v1).setCell ⟨p, 2, none⟩ v2).heap[b]? = w.heap[b]? := by
  rw [Below.heap_setCell _ ⟨p, 2, none⟩ _ b h, Below.heap_setCell _ ⟨p, 1, none⟩ _ b h, Below.heap_setCell _ ⟨p, 0, none⟩ _ b h]
/-- A walk lies in a box. -/
def BoxW (w : World) (p : Nat) (x : WalkL) : Prop := w.heap[p]? = some (.cells #[.bool x.q.is, .int .i64 x.q.lg, .slice x.a x.q.pl.length x.c] 104 (0, 0))
theorem BoxW.c0 {w : World} {p : Nat} {x : WalkL} (h : BoxW w p x) : w.cell? ⟨p, 0, none⟩ = some (.bool x.q.is) := by unfold BoxW at h; simp [World.cell?, h]
theorem BoxW.c1 {w : World} {p : Nat} {x : WalkL} (h : BoxW w p x) : w.cell? ⟨p, 1, none⟩ = some (.int .i64 x.q.lg) := by unfold BoxW at h; simp [World.cell?, h]
theorem BoxW.c2 {w : World} {p : Nat} {x : WalkL} (h : BoxW w p x) : w.cell? ⟨p, 2, none⟩ = some (.slice x.a x.q.pl.length x.c) := by unfold BoxW at h; simp [World.cell?, h]
theorem BoxW.free {w : World} {p : Nat} {x : WalkL} (h : BoxW w p x) (j : Nat) : w.frozen? ⟨p, j, none⟩ = false := by unfold BoxW at h; simp [World.frozen?, h]
theorem BoxW.below {w w' : World} {p : Nat} {x : WalkL} (h : BoxW w p x) (hb : Below w.heap.size w w') : BoxW w' p x := (hb.block p (Array.getElem?_eq_some_iff.1 h).1).trans h
theorem BoxW.set {w : World} {p : Nat} {x : WalkL} (h : BoxW w p x) (y : WalkL) : BoxW (((w.setCell ⟨p, 0, none⟩ (.bool y.q.is)).setCell ⟨p, 1, none⟩ (.int .i64 y.q.lg)).setCell ⟨p, 2, none⟩ (.slice y.a y.q.pl.length y.c)) p y := setCell3_box w p _ _ _ _ _ _ _ h
theorem BoxW.new (w : World) : BoxW (w.alloc (.cells #[.bool false, .int .i64 0, .slice none 0 0] 104)) w.heap.size ⟨noWalk, none, 0⟩ := by
  unfold BoxW; rw [heap_alloc_new]; rfl

/-- The state of Night: the walks that it has chosen. -/
def NightAt (w wx : World) (q : Nat → Nat → WalkV) (K s : Nat) (v : Value) : Prop :=
  ∃ L : List WalkL, L.length = s ∧ OwnWalks wx w.heap.size v L ∧ (∀ j (hj : j < L.length), L[j].q = topW (q j) K ∧ StridesAt w L[j].a L[j].q.pl) ∧ Below w.heap.size w wx
/-- .. within a round. -/
def NightIn (w wx : World) (q : Nat → Nat → WalkV) (K s j : Nat) (v : Value) (p : Nat) (x : WalkL) : Prop :=
  NightAt w wx q K s v ∧ BoxW wx p x ∧ w.heap.size ≤ p ∧ v.ownBlock ≠ some p ∧ x.q = topW (q s) j ∧ StridesAt w x.a x.q.pl
theorem NightIn.below {w wx wy : World} {q : Nat → Nat → WalkV} {K s j : Nat} {v : Value} {p : Nat} {x : WalkL} (h : NightIn w wx q K s j v p x) (hb : Below wx.heap.size wx wy) : NightIn w wy q K s j v p x := by
  obtain ⟨⟨L, l1, l2, l3, l4⟩, h2, h3, h4, h5, h6⟩ := h
  exact ⟨⟨L, l1, l2.below hb, l3, l4.trans (hb.mono l4.size)⟩, h2.below hb, h3, h4, h5, h6⟩
theorem NightIn.same {w wx : World} {q : Nat → Nat → WalkV} {K s j : Nat} {v : Value} {p : Nat} {x : WalkL} (h : NightIn w wx q K s j v p x) (hb : betterB (q s j) x.q = false) : NightIn w wx q K s (j + 1) v p x := by
  obtain ⟨h1, h2, h3, h4, h5, h6⟩ := h
  refine ⟨h1, h2, h3, h4, ?_, h6⟩
  rw [topW]; unfold pickW; rw [← h5, hb]; simp
theorem NightIn.take {w wx : World} {q : Nat → Nat → WalkV} {K s j : Nat} {v : Value} {p : Nat} {x : WalkL} (h : NightIn w wx q K s j v p x) (hb : betterB (q s j) x.q = true) (a : Option Addr) (c : Nat) (ha : StridesAt w a (q s j).pl) :
    NightIn w (((wx.setCell ⟨p, 0, none⟩ (.bool (q s j).is)).setCell ⟨p, 1, none⟩ (.int .i64 (q s j).lg)).setCell ⟨p, 2, none⟩ (.slice a (q s j).pl.length c)) q K s (j + 1) v p ⟨q s j, a, c⟩ := by
  obtain ⟨⟨L, l1, l2, l3, l4⟩, h2, h3, h4, h5, h6⟩ := h
  refine ⟨⟨L, l1, l2.keepB fun b hb' => setCell3_other _ _ _ _ _ _ fun e => h4 (by rw [← e]; exact hb'), l3, ((l4.setCell (p := ⟨p, 0, none⟩) h3 _).setCell (p := ⟨p, 1, none⟩) h3 _).setCell (p := ⟨p, 2, none⟩) h3 _⟩, h2.set ⟨q s j, a, c⟩, h3, h4, ?_, ha⟩
  rw [topW]; unfold pickW; rw [← h5, hb]; simp
theorem NightAt.enter {w wx : World} {q : Nat → Nat → WalkV} {K s : Nat} {v : Value} (h : NightAt w wx q K s v) : NightIn w (wx.alloc (.cells #[.bool false, .int .i64 0, .slice none 0 0] 104)) q K s 0 v wx.heap.size ⟨noWalk, none, 0⟩ := by
  obtain ⟨L, l1, l2, l3, l4⟩ := h
  have hb : Below wx.heap.size wx (wx.alloc (.cells #[.bool false, .int .i64 0, .slice none 0 0] 104)) := (Below.refl _ _).alloc (Nat.le_refl _) _
  refine ⟨⟨L, l1, l2.below hb, l3, l4.trans (hb.mono l4.size)⟩, BoxW.new wx, l4.size, fun e => ?_, rfl, .inl rfl⟩
  have := (l2.block_lt e).1; omega

set_option maxRecDepth 100000 in
set_option maxHeartbeats 8000000 in
theorem Night_any (w : World) (B G S K : Nat) (gb : Nat → Nat) (q : Nat → Nat → WalkV) (pa : Nat → Nat → Option Addr) (pc : Nat → Nat → Nat) (hg : WGrid w B G S S K gb q pa pc) (hS : S ≤ 1000) (hK : K ≤ 1000) (hS0 : 0 < S) (hl : ∀ s j, s < S → j < K → (q s j).pl.length ≤ 100000) :
    Calls Try.prog 104 #[.slice (some ⟨G, 0, none⟩) S S] w
      fun e w' => ∃ g c pa' pc', e = .returned (.slice (some ⟨g, 0, none⟩) S c) ∧ WalksAt w' g S (fun s => topW (q s) K) pa' pc' ∧ w.heap.size ≤ g ∧ Below w.heap.size w w' := by
  have HG := Lib.hid hg; clear hg
  have HL := Lib.hid hl; clear hl
  go_enter Try.func104, Try.ntmps104
  go_wp2_with fail
  go_loopw [3, 4] (fun v3 v4 wx => ∃ s : Nat, s ≤ S ∧ v4 = .int .i64 (s : Int) ∧ NightAt w wx q K s v3) (fun _ v _ => S - (intOf v).toNat)
  case atStart => exact ⟨0, Nat.zero_le _, rfl, [], rfl, OwnWalks.nil _ _, fun j hj => by simp at hj, Below.refl _ _⟩
  case round =>
    obtain ⟨v3, hv3⟩ : ∃ v, v = u3 := ⟨_, rfl⟩
    subst hv3
    obtain ⟨s, hs, rfl, hst⟩ := hrel
    have HST := Lib.hid hst.enter
    have HB := Lib.hid (show Below w.heap.size w wr by obtain ⟨_, _, _, _, h⟩ := hst; exact h)
    by_cases hsS : s < S
    · have q1 : (s : Int) < (S : Int) := by omega
      clear hst
      go_upto_region 6 with (fail)
      generalize hbx : wr.heap.size = p at HST ⊢
      have HBX := Lib.hid hbx; clear hbx
      generalize wr.alloc (.cells #[.bool false, .int .i64 0, .slice none 0 0] 104) = W1 at HST ⊢
      go_wp2_with fail
      go_loopw [6] (fun v6 wx => ∃ (j : Nat) (x : WalkL), j ≤ K ∧ v6 = .int .i64 (j : Int) ∧ NightIn w wx q K s j v3 p x) (fun v _ => K - (intOf v).toNat)
      case atStart => exact ⟨0, _, Nat.zero_le _, rfl, HST.out⟩
      case round =>
        clear HST
        obtain ⟨j, x, hj, rfl, hin⟩ := hrel
        have HIN := Lib.hid hin
        obtain ⟨⟨L, l1, l2, l3, l4⟩, h2, h3, h4, h5, h6⟩ := hin
        clear l1 l2 l3 h4 h5
        have HG1 := Lib.hid (HG.out.below l4)
        have HLW := Lib.hid l4.size; clear l4
        have y0 := HG1.out.row (Nat.le_refl _) hsS
        by_cases hjK : j < K
        · have q2 : (j : Int) < (K : Int) := by omega
          have y1 := (HG1.out.inner s hsS).c0 (s := j) hjK
          have y2 := (HG1.out.inner s hsS).c1 (s := j) hjK
          have y3 := (HG1.out.inner s hsS).c2 (s := j) hjK
          have z0 := h2.c0
          have z1 := h2.c1
          have z2 := h2.c2
          have HBW := Lib.hid h2; clear h2
          have HX6 := Lib.hid (h6.below (w' := wr) (by obtain ⟨⟨_, _, _, _, h⟩, _⟩ := HIN.out; exact h))
          have HQP := Lib.hid ((HG1.out.inner s hsS).plans j hjK)
          have HQ0 := Lib.hid ((HG.out.inner s hsS).plans j hjK)
          have HX0 := Lib.hid h6; clear h6
          have hlx : x.q.pl.length ≤ 100000 := by
            obtain ⟨_, _, _, _, e, _⟩ := HIN.out
            rw [e]
            rcases topW_mem (q s) j with e2 | ⟨j', k1, k2, k3⟩
            · rw [e2]; simp [noWalk]
            · rw [k3]; exact HL.out s j' hsS (by omega)
          have HBT := Lib.hid (fun (W : World) (hb : Below wr.heap.size wr W) => better_any W (q s j) x.q (pa s j) x.a (pc s j) x.c (HQP.out.below hb) (HX6.out.below hb) (HL.out s j hsS hjK) hlx)
          go_upto_region 9 with (fail)
          go_cut [31] (fun v31 wx => v31 = .bool (betterB (q s j) x.q) ∧ Below wr.heap.size wr wx)
          case first =>
            go_region_held3 (fun w' => w'.cell? ⟨G, s, none⟩ = some (.slice (some ⟨gb s, 0, none⟩) K K) ∧ w'.cell? ⟨gb s, j * 3, none⟩ = some (.bool (q s j).is) ∧ w'.cell? ⟨gb s, j * 3 + 1, none⟩ = some (.int .i64 (q s j).lg) ∧ w'.cell? ⟨gb s, j * 3 + 2, none⟩ = some (.slice (pa s j) (q s j).pl.length (pc s j)) ∧ w'.cell? ⟨p, 0, none⟩ = some (.bool x.q.is) ∧ w'.cell? ⟨p, 1, none⟩ = some (.int .i64 x.q.lg) ∧ w'.cell? ⟨p, 2, none⟩ = some (.slice x.a x.q.pl.length x.c)) (first | with_reducible exact ⟨HK.out _ _ _ y0, HK.out _ _ _ y1, HK.out _ _ _ y2, HK.out _ _ _ y3, HK.out _ _ _ z0, HK.out _ _ _ z1, HK.out _ _ _ z2⟩ | exact ⟨y0, y1, y2, y3, z0, z1, z2⟩) (first
              | (go_at_call 128; (with_reducible refine (HBT.out _ (Below.refl _ _).drew).mono ?_); rintro e w5 ⟨rfl, hb5⟩; have HB5 := Lib.hid hb5; have HK := Lib.hid (show ∀ b o v, wr.cell? ⟨b, o, none⟩ = some v → w5.cell? ⟨b, o, none⟩ = some v from fun b o v h => have h' : wr.drew.cell? ⟨b, o, none⟩ = some v := h; ((bcell hb5).1 _ _ (lt_of_cell h')).trans h'); clear hb5))
            all_goals
              go_wp2_with fail
              go_meet
              exact ⟨rfl, (Below.refl _ _).drew.trans HB5.out⟩
          case rest =>
            obtain ⟨rfl, hbc⟩ := hcut
            have HIN2 := Lib.hid (HIN.out.below hbc)
            have HG2 := Lib.hid (HG1.out.below hbc); clear HG1
            clear y0 y1 y2 y3 z0 z1 z2 HIN HBT HX6 HQP
            cases hbt : betterB (q s j) x.q
            · have HN := Lib.hid (HIN2.out.same hbt); clear hbt HIN2 HG2
              go_wp2_with fail
              exact ⟨⟨j + 1, x, by omega, by go_num, HN.out⟩, by simp [intOf]; omega⟩
            · have HN := Lib.hid (HIN2.out.take hbt (pa s j) (pc s j) HQ0.out)
              have y0 := HG2.out.row (Nat.le_refl _) hsS
              have y1 := (HG2.out.inner s hsS).c0 (s := j) hjK
              have y2 := (HG2.out.inner s hsS).c1 (s := j) hjK
              have y3 := (HG2.out.inner s hsS).c2 (s := j) hjK
              have hbox := HIN2.out.2.1
              have z0 := hbox.c0
              have z1 := hbox.c1
              have z2 := hbox.c2
              have f0 := hbox.free 0
              have f1 := hbox.free 1
              have f2 := hbox.free 2
              clear hbox hbt HIN2 HG2
              go_wp2_with fail
              exact ⟨⟨j + 1, _, by omega, by go_num, HN.out⟩, by simp [intOf]; omega⟩
        · obtain rfl : j = K := by omega
          have q2 : ¬ (j : Int) < (j : Int) := by omega
          have z0 := h2.c0
          have z1 := h2.c1
          have z2 := h2.c2
          clear h2 h6 HG1
          obtain ⟨⟨L, l1, l2, l3, l4⟩, _, _, _, h5, h6⟩ := HIN.out
          have HL2 := Lib.hid l2; clear l2
          have HL3 := Lib.hid l3; clear l3
          have HL4 := Lib.hid l4; clear l4 HIN
          have HX5 := Lib.hid (And.intro h5 h6); clear h5 h6
          have HLL := Lib.hid l1; clear l1
          have hl6 : L.length ≤ 1000000 := by have := HLL.out; omega
          have HFIN := Lib.hid (show ∀ v' w', OwnWalks w' w.heap.size v' (L ++ [x]) → Below w.heap.size wr w' → NightAt w w' q j (s + 1) v' from fun v' w' h1 h2 => by
            refine ⟨L ++ [x], by simp [HLL.out], h1, fun i hi => ?_, HL4.out.trans h2⟩
            by_cases hil : i < L.length
            · rw [List.getElem_append_left hil]; exact HL3.out i hil
            · obtain rfl : i = L.length := by simp at hi; omega
              rw [List.getElem_append_right (Nat.le_refl _)]
              simp only [Nat.sub_self, List.getElem_cons_zero]
              have e2 := HLL.out
              rw [e2]; exact HX5.out)
          clear HL3 HX5
          go_wp2_with (at_builtin; refine app_walk1 rfl _ _ rfl w.heap.size _ _ rfl HL2.out x rfl hl6 HLW.out ?_)
          intro v' w' hown hb'
          have HN := Lib.hid (HFIN.out v' w' hown hb'); clear hown hb'
          go_wp2_with fail
          exact ⟨⟨s + 1, by omega, by go_num, HN.out⟩, by simp [intOf]; omega⟩
    · obtain rfl : s = S := by omega
      have q1 : ¬ (s : Int) < (s : Int) := by omega
      obtain ⟨L, l1, l2, l3, l4⟩ := hst
      obtain ⟨g, c, pa', pc', rfl, hw, hg⟩ := l2.walks (by intro e; subst e; simp at l1; omega) (fun s => topW (q s) K) (fun s hs => (l3 s hs).1) (fun s hs => (l3 s hs).2.below l4)
      rw [l1] at hw ⊢
      clear l2 l3 HST HB
      have HW := Lib.hid (And.intro hw (And.intro hg l4)); clear hw hg l4
      go_wp2_with fail
      go_ret
      exact ⟨g, ⟨c, rfl⟩, ⟨pa', pc', HW.out.1⟩, HW.out.2.1, HW.out.2.2⟩
end Go.Proofs.Ytjgkgnfhglhklaa
