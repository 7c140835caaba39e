/- append of strips that come in onto a slice of the call's own, and copies of roads. -/
import Derived.Test.YtjgkgnfhglhklaaFewerP
import Derived.Maps.AppendAt
import Derived.Deep.AppendLies
import Derived.RegionTactic
namespace Go.Proofs.Ytjgkgnfhglhklaa
set_option linter.unusedSimpArgs false
set_option linter.unusedVariables false
open Go.RowKit

theorem addr_add (b o j : Nat) : (⟨b, o, none⟩ : Addr).add j = ⟨b, o + j, none⟩ := by
  unfold Addr.add; split
  · rename_i h; subst h; rfl
  · rfl
theorem StripAt.nth {w : World} {b o : Nat} {s : Strip} (h : StripAt w b o s) : ∀ j, j < 7 → w.cell? ⟨b, o + j, none⟩ = s.cells[j]? := by
  intro j hj
  obtain rfl | rfl | rfl | rfl | rfl | rfl | rfl : j = 0 ∨ j = 1 ∨ j = 2 ∨ j = 3 ∨ j = 4 ∨ j = 5 ∨ j = 6 := by omega
  · exact h.c0
  · exact h.c1
  · exact h.c2
  · exact h.c3
  · exact h.c4
  · exact h.c5
  · exact h.c6
theorem StripAt.of_nth {w : World} {b o : Nat} {s : Strip} (h : ∀ j, j < 7 → w.cell? ⟨b, o + j, none⟩ = s.cells[j]?) : StripAt w b o s :=
  ⟨h 0 (by omega), h 1 (by omega), h 2 (by omega), h 3 (by omega), h 4 (by omega), h 5 (by omega), h 6 (by omega)⟩
/-- One field of one strip is stored. -/
theorem StripsIn.put {w : World} {g : Nat} {l : List Strip} (h : StripsIn w g l) {k j : Nat} (hk : k < l.length) (hj : j < 7) (s : Strip) (x : Value) (hs : s.cells = l[k].cells.set j x) :
    StripsIn (w.setCell ⟨g, k * 7 + j, none⟩ x) g (l.set k s) := by
  have other : ∀ o, o ≠ k * 7 + j → (w.setCell ⟨g, k * 7 + j, none⟩ x).cell? ⟨g, o, none⟩ = w.cell? ⟨g, o, none⟩ := fun o ho =>
    World.cell?_setCell_other w _ _ _ (fun e => by injection e with _ e2; omega)
  refine ⟨fun i hi => StripAt.of_nth fun n hn => ?_, fun o => by rw [World.frozen?_setCell]; exact h.free o⟩
  rw [List.length_set] at hi
  have h0 := (h.at_ i hi).nth n hn
  by_cases e : k = i
  · subst e
    rw [List.getElem_set_self, hs, List.getElem?_set]
    by_cases en : j = n
    · subst en
      have hl : j < l[k].cells.length := by simpa [Strip.cells] using hj
      rw [if_pos rfl, if_pos hl]
      rw [List.getElem?_eq_getElem hl] at h0
      exact World.cell?_setCell_same w _ _ h0
    · rw [if_neg en, other _ (by omega)]; exact h0
  · rw [List.getElem_set_ne e, other _ (by omega)]; exact h0

theorem run_app_nil (w : World) (ty : TypeId) (base : Nat) (v : Value) (l : List Strip) (hown : OwnStrips w base v l) (c : Nat) : (Builtin.append_ #[22, 22] ty #[v, .slice none 0 c]).run Try.prog w = .ok v w := by
  obtain ⟨i0, hi, hz0, hz1, hz2⟩ := info_parts (P := Try.prog) (e := 57) (z := .agg #[.int .i64 0, .int .i64 0, .int .i64 0, .int .i64 0, .int .i64 0, .int .i64 0, .int .i64 0]) (size := 7) (bytes := 56) (by kernel_rfl)
  rcases hown.2 with ⟨rfl, h0⟩ | ⟨g, cap, cur, rfl, _, _, hc, _⟩
  · simp [Builtin.append_, run_underlying Try.underlying22, sizeOf, typeInfo, hi, Builtin.lenOf, Builtin.firstCells]
  · simp [Builtin.append_, run_underlying Try.underlying22, sizeOf, typeInfo, hi, Builtin.lenOf, Builtin.firstCells, hc, storeCells]
theorem run_app_strips (w : World) (ty : TypeId) (base : Nat) (v : Value) (l : List Strip) (hown : OwnStrips w base v l) (A : Option Addr) (c : Nat) (ys : List Strip) (hr : StripsAt w A ys) (hlen : l.length + ys.length ≤ 1000) (hbase : base ≤ w.heap.size) :
    ∃ v' w', (Builtin.append_ #[22, 22] ty #[v, .slice A ys.length c]).run Try.prog w = .ok v' w' ∧ OwnStrips w' base v' (l ++ ys) ∧ Below base w w' ∧ (v ≠ .slice none 0 0 → v' ≠ .slice none 0 0) := by
  obtain ⟨i0, hi, hz0, hz1, hz2⟩ := info_parts (P := Try.prog) (e := 57) (z := .agg #[.int .i64 0, .int .i64 0, .int .i64 0, .int .i64 0, .int .i64 0, .int .i64 0, .int .i64 0]) (size := 7) (bytes := 56) (by kernel_rfl)
  have hblk : ∀ k, v.ownBlock = some k → base ≤ k := fun k hk => by
    rcases hown.2 with ⟨rfl, _⟩ | ⟨g, cap, cur, rfl, hg, _⟩
    · simp [Value.ownBlock] at hk
    · simp [Value.ownBlock] at hk; omega
  cases A with
  | none =>
    have : ys = [] := by rcases hr with h | ⟨_, _, h, _⟩; exact h; simp at h
    subst this
    exact ⟨v, w, run_app_nil w ty base v l hown c, by simpa using hown, Below.refl _ _, id⟩
  | some ad =>
    obtain ⟨v', w', h1, h2, h3, h4, h5⟩ := run_append_own_at (P := Try.prog) w base 22 ty 57 i0 _ 7 56 Try.underlying22 hi hz0 hz1 hz2 (by simp [Value.cells]) (by decide) v l.length _ hown ad ys.length c (ys.flatMap Strip.cells) (cells_len ys) (by
        intro j u hj
        have hjl : j < ys.length * 7 := by rw [← cells_len]; exact (List.getElem?_eq_some_iff.1 hj).1
        rcases hr with h | ⟨b, o, he, h⟩
        · subst h; simp at hjl
        · cases he
          have hi7 : j / 7 < ys.length := by omega
          have e : j = j / 7 * 7 + j % 7 := by omega
          have h7 := (h (j / 7) hi7).nth (j % 7) (by omega)
          rw [e, cells_get ys (j / 7) (j % 7) hi7 (by omega)] at hj
          rw [addr_add, show o + j = o + j / 7 * 7 + j % 7 by omega, h7, hj]) (by
        intro u hu
        obtain ⟨s, _, hu⟩ := List.mem_flatMap.1 hu
        simp only [Strip.cells, List.mem_cons, List.not_mem_nil, or_false] at hu
        rcases hu with rfl | rfl | rfl | rfl | rfl | rfl | rfl <;> rfl) (by unfold maxLen; omega) (by omega) hbase
    refine ⟨v', w', h1, ?_, Below.grown (Below.refl _ _) h3 hbase hblk, fun hv e => hv (h4.1 e).1⟩
    unfold OwnStrips
    rw [List.length_append, List.flatMap_append]
    exact h2
theorem wp_app_strips {o : Oper} {a : Act} {K : Act → World → Prop} {Q : Exit → Act → World → Prop} {w : World} (s x : Operand)
    (ho : o.op = .call { callee := .builtin .append, args := #[s, x], argTypes := #[22, 22] })
    (base : Nat) (v : Value) (l : List Strip) (hs : a.eval s = v) (hown : OwnStrips w base v l) (A : Option Addr) (c : Nat) (m : Nat) (ys : List Strip) (hm : ys.length = m) (hx : a.eval x = .slice A m c) (hr : StripsAt w A ys) (hlen : l.length + ys.length ≤ 1000) (hbase : base ≤ w.heap.size)
    (h : ∀ v' w', OwnStrips w' base v' (l ++ ys) → Below base w w' → (v ≠ .slice none 0 0 → v' ≠ .slice none 0 0) → K (a.put o.dst v') w') : o.wp Try.prog a w K Q := by
  subst hm
  obtain ⟨v', w', hrun, h2, h3, h4⟩ := run_app_strips w o.type base v l hown A c ys hr hlen hbase
  unfold Oper.wp execOp
  simp only [ho, resolve, invoke, builtin, Sem.run_bind, Sem.run_pure, Result.andThen_ok, List.map_toArray, List.map_cons, List.map_nil, hs, hx, hrun]
  exact h v' w' h2 h3 h4
/-- In a plain region. -/
theorem list_app_strips {ops : Array Oper} {rest : List Oper} {o : Oper} {a : Act} {Q : Exit → Act → World → Prop} {w : World} (hgd : o.guard = none) (s x : Operand)
    (ho : o.op = .call { callee := .builtin .append, args := #[s, x], argTypes := #[22, 22] })
    (base : Nat) (v : Value) (l : List Strip) (hs : a.eval s = v) (hown : OwnStrips w base v l) (A : Option Addr) (c : Nat) (m : Nat) (ys : List Strip) (hm : ys.length = m) (hx : a.eval x = .slice A m c) (hr : StripsAt w A ys) (hlen : l.length + ys.length ≤ 1000) (hbase : base ≤ w.heap.size)
    (h : ∀ v' w', OwnStrips w' base v' (l ++ ys) → Below base w w' → (v ≠ .slice none 0 0 → v' ≠ .slice none 0 0) → wpList Try.prog ops Q rest (a.put o.dst v') w') : wpList Try.prog ops Q (o :: rest) a w :=
  wpList_plain hgd fun _ hK => wp_app_strips s x ho base v l hs hown A c m ys hm hx hr hlen hbase fun v' w' h2 h3 h4 => hK _ _ (h v' w' h2 h3 h4)
/-- In a region that draws. -/
theorem step_app_strips {ops : Array Oper} {o : Oper} {a : Act} {K : Act → World → Prop} {Q : Exit → Act → World → Prop} {E : Prop} {w : World} (hgd : o.guard = none) (s x : Operand)
    (ho : o.op = .call { callee := .builtin .append, args := #[s, x], argTypes := #[22, 22] })
    (base : Nat) (v : Value) (l : List Strip) (hs : a.eval s = v) (hown : OwnStrips w base v l) (A : Option Addr) (c : Nat) (m : Nat) (ys : List Strip) (hm : ys.length = m) (hx : a.eval x = .slice A m c) (hr : StripsAt w A ys) (hlen : l.length + ys.length ≤ 1000) (hbase : base ≤ w.heap.size)
    (h : ∀ v' w', OwnStrips w' base v' (l ++ ys) → Below base w w' → (v ≠ .slice none 0 0 → v' ≠ .slice none 0 0) → K (a.put o.dst v') w') :
    if Region.wanted o (yielded ops a.tmps) = true then Oper.wp Try.prog o a w K Q else E := by
  rw [if_pos (by simp [Region.wanted, hgd])]
  exact wp_app_strips s x ho base v l hs hown A c m ys hm hx hr hlen hbase h

theorem own_empty (w : World) (B : Nat) (hB : B ≤ w.heap.size) : OwnStrips (w.alloc (.cells #[] 57)) B (.slice (some ⟨w.heap.size, 0, none⟩) 0 0) [] :=
  ⟨rfl, .inr ⟨w.heap.size, 0, #[], rfl, hB, heap_alloc_new w _, by simp, by unfold maxLen; omega, by simp, by simp⟩⟩

set_option maxRecDepth 100000 in
set_option maxHeartbeats 4000000 in
theorem CopyRoads_any (w : World) (r : Roads) (a : Option Addr) (cap : Nat) (hs : StripsAt w a r.strips) (hlen : r.strips.length ≤ 500) :
    Calls Try.prog 24 #[.agg #[.int .i64 r.days, .int .i64 r.stages, .slice a r.strips.length cap]] w
      fun e w' => ∃ g c, e = .returned (.agg #[.int .i64 r.days, .int .i64 r.stages, .slice (some ⟨g, 0, none⟩) r.strips.length c]) ∧ w.heap.size ≤ g ∧ StripsIn w' g r.strips ∧ g < w'.heap.size ∧ Below w.heap.size w w' := by
  have hb2 : Below w.heap.size w (((w.alloc (.cells #[.int .i64 r.days, .int .i64 r.stages, .slice a r.strips.length cap] 24)).alloc (.cells #[.int .i64 0, .int .i64 0, .slice none 0 0] 24)).alloc (.cells #[] 57)) :=
    (((Below.refl _ _).alloc (Nat.le_refl _) _).alloc (by simp) _).alloc (by simp; omega) _
  have hsz : (((w.alloc (.cells #[.int .i64 r.days, .int .i64 r.stages, .slice a r.strips.length cap] 24)).alloc (.cells #[.int .i64 0, .int .i64 0, .slice none 0 0] 24)).alloc (.cells #[] 57)).heap.size = w.heap.size + 3 := by simp
  have hown := own_empty ((w.alloc (.cells #[.int .i64 r.days, .int .i64 r.stages, .slice a r.strips.length cap] 24)).alloc (.cells #[.int .i64 0, .int .i64 0, .slice none 0 0] 24)) (w.heap.size + 2) (by simp)
  simp only [World.size_alloc] at hown
  have hs2 := hs.below hb2
  have HB := Lib.hid hb2; clear hb2
  go_enter Try.func24, Try.ntmps24
  go_wp2_with (at_builtin; refine list_app_strips rfl _ _ rfl (w.heap.size + 2) _ [] rfl hown a cap _ r.strips rfl rfl hs2 (by simp; omega) (by simp) ?_)
  intro v' w' hown' hb' hv'
  obtain ⟨g, c, rfl, hg1, hg2, hin⟩ := hown'.into (by simpa using hv')
  try simp only [List.nil_append] at hin
  have hc : ∀ b o, b < w.heap.size + 2 → w'.cell? ⟨b, o, none⟩ = _ := fun b o h => hb'.cell (p := ⟨b, o, none⟩) h
  have hf : ∀ b o, b < w.heap.size + 2 → w'.frozen? ⟨b, o, none⟩ = _ := fun b o h => hb'.frozen (p := ⟨b, o, none⟩) h
  have k0 : w'.cell? ⟨w.heap.size, 0, none⟩ = some (.int .i64 r.days) := by rw [hc _ _ (by omega)]; simp [go_sem]
  have k1 : w'.cell? ⟨w.heap.size, 1, none⟩ = some (.int .i64 r.stages) := by rw [hc _ _ (by omega)]; simp [go_sem]
  have k2 : w'.cell? ⟨w.heap.size, 2, none⟩ = some (.slice a r.strips.length cap) := by rw [hc _ _ (by omega)]; simp [go_sem]
  have j0 : w'.cell? ⟨w.heap.size + 1, 0, none⟩ = some (.int .i64 0) := by rw [hc _ _ (by omega)]; simp [go_sem]
  have j1 : w'.cell? ⟨w.heap.size + 1, 1, none⟩ = some (.int .i64 0) := by rw [hc _ _ (by omega)]; simp [go_sem]
  have j2 : w'.cell? ⟨w.heap.size + 1, 2, none⟩ = some (.slice none 0 0) := by rw [hc _ _ (by omega)]; simp [go_sem]
  have f2 : w'.frozen? ⟨w.heap.size, 2, none⟩ = false := by rw [hf _ _ (by omega)]; simp [go_sem]
  have g0 : w'.frozen? ⟨w.heap.size + 1, 0, none⟩ = false := by rw [hf _ _ (by omega)]; simp [go_sem]
  have g1 : w'.frozen? ⟨w.heap.size + 1, 1, none⟩ = false := by rw [hf _ _ (by omega)]; simp [go_sem]
  have g2 : w'.frozen? ⟨w.heap.size + 1, 2, none⟩ = false := by rw [hf _ _ (by omega)]; simp [go_sem]
  have HIN := Lib.hid hin; clear hin hown' hc hf hv'
  have HB' := Lib.hid (HB.out.trans (hb'.mono (by omega))); clear hb' HB
  go_wp2_with fail
  have e0 : ((((w'.setCell ⟨w.heap.size, 2, none⟩ (.slice (some ⟨g, 0, none⟩) r.strips.length c)).setCell ⟨w.heap.size + 1, 0, none⟩ (.int .i64 r.days)).setCell ⟨w.heap.size + 1, 1, none⟩ (.int .i64 r.stages)).setCell ⟨w.heap.size + 1, 2, none⟩ (.slice (some ⟨g, 0, none⟩) r.strips.length c)).cell? ⟨w.heap.size + 1, 0, none⟩ = some (.int .i64 r.days) := by
    rw [World.cell?_setCell_other _ _ _ _ (by simp), World.cell?_setCell_other _ _ _ _ (by simp)]
    exact World.cell?_setCell_same _ _ _ (u := .int .i64 0) (by rw [World.cell?_setCell_other _ _ _ _ (by simp)]; exact j0)
  have e1 : ((((w'.setCell ⟨w.heap.size, 2, none⟩ (.slice (some ⟨g, 0, none⟩) r.strips.length c)).setCell ⟨w.heap.size + 1, 0, none⟩ (.int .i64 r.days)).setCell ⟨w.heap.size + 1, 1, none⟩ (.int .i64 r.stages)).setCell ⟨w.heap.size + 1, 2, none⟩ (.slice (some ⟨g, 0, none⟩) r.strips.length c)).cell? ⟨w.heap.size + 1, 1, none⟩ = some (.int .i64 r.stages) := by
    rw [World.cell?_setCell_other _ _ _ _ (by simp)]
    exact World.cell?_setCell_same _ _ _ (u := .int .i64 0) (by rw [World.cell?_setCell_other _ _ _ _ (by simp), World.cell?_setCell_other _ _ _ _ (by simp)]; exact j1)
  have e2 : ((((w'.setCell ⟨w.heap.size, 2, none⟩ (.slice (some ⟨g, 0, none⟩) r.strips.length c)).setCell ⟨w.heap.size + 1, 0, none⟩ (.int .i64 r.days)).setCell ⟨w.heap.size + 1, 1, none⟩ (.int .i64 r.stages)).setCell ⟨w.heap.size + 1, 2, none⟩ (.slice (some ⟨g, 0, none⟩) r.strips.length c)).cell? ⟨w.heap.size + 1, 2, none⟩ = some (.slice (some ⟨g, 0, none⟩) r.strips.length c) :=
    World.cell?_setCell_same _ _ _ (u := .slice none 0 0) (by rw [World.cell?_setCell_other _ _ _ _ (by simp), World.cell?_setCell_other _ _ _ _ (by simp), World.cell?_setCell_other _ _ _ _ (by simp)]; exact j2)
  have hin' : StripsIn ((((w'.setCell ⟨w.heap.size, 2, none⟩ (.slice (some ⟨g, 0, none⟩) r.strips.length c)).setCell ⟨w.heap.size + 1, 0, none⟩ (.int .i64 r.days)).setCell ⟨w.heap.size + 1, 1, none⟩ (.int .i64 r.stages)).setCell ⟨w.heap.size + 1, 2, none⟩ (.slice (some ⟨g, 0, none⟩) r.strips.length c)) g r.strips := by
    have hne : ∀ (W : World) (b o k : Nat) (v : Value), b < g → (W.setCell ⟨b, o, none⟩ v).cell? ⟨g, k, none⟩ = W.cell? ⟨g, k, none⟩ := fun W b o k v hb => World.cell?_setCell_other W _ _ _ (fun e => by injection e with e1; omega)
    exact ⟨fun i hi => (HIN.out.at_ i hi).keep fun k => by rw [hne _ _ _ _ _ (by omega), hne _ _ _ _ _ (by omega), hne _ _ _ _ _ (by omega), hne _ _ _ _ _ (by omega)], fun o => by simp only [World.frozen?_setCell]; exact HIN.out.free o⟩
  have hbF := (((HB'.out.setCell (p := ⟨w.heap.size, 2, none⟩) (Nat.le_refl _) (.slice (some ⟨g, 0, none⟩) r.strips.length c)).setCell (p := ⟨w.heap.size + 1, 0, none⟩) (Nat.le_succ _) (.int .i64 r.days)).setCell (p := ⟨w.heap.size + 1, 1, none⟩) (Nat.le_succ _) (.int .i64 r.stages)).setCell (p := ⟨w.heap.size + 1, 2, none⟩) (Nat.le_succ _) (.slice (some ⟨g, 0, none⟩) r.strips.length c)
  have hgF : g < ((((w'.setCell ⟨w.heap.size, 2, none⟩ (.slice (some ⟨g, 0, none⟩) r.strips.length c)).setCell ⟨w.heap.size + 1, 0, none⟩ (.int .i64 r.days)).setCell ⟨w.heap.size + 1, 1, none⟩ (.int .i64 r.stages)).setCell ⟨w.heap.size + 1, 2, none⟩ (.slice (some ⟨g, 0, none⟩) r.strips.length c)).heap.size := by simpa using hg2
  clear HIN HB' k0 k1 k2 j0 j1 j2 f2 g0 g1 g2
  generalize ((((w'.setCell ⟨w.heap.size, 2, none⟩ (.slice (some ⟨g, 0, none⟩) r.strips.length c)).setCell ⟨w.heap.size + 1, 0, none⟩ (.int .i64 r.days)).setCell ⟨w.heap.size + 1, 1, none⟩ (.int .i64 r.stages)).setCell ⟨w.heap.size + 1, 2, none⟩ (.slice (some ⟨g, 0, none⟩) r.strips.length c)) = wF at e0 e1 e2 hin' hbF hgF ⊢
  refine bodyPost_ret (v := .agg #[.int .i64 r.days, .int .i64 r.stages, .slice (some ⟨g, 0, none⟩) r.strips.length c]) ?_ rfl ⟨g, c, rfl, by omega, hin', hgF, hbF⟩
  clear hin' hbF hgF
  simp [results, Try.results24, go_sem, e0, e1, e2]
end Go.Proofs.Ytjgkgnfhglhklaa
