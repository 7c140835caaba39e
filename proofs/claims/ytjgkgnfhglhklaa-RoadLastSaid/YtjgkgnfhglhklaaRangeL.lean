/- The law of 'for l := range lists(n, many) { .. }' with a body that goes on or breaks. -/
import Derived.Test.YtjgkgnfhglhklaaLists
namespace Go.Proofs.Ytjgkgnfhglhklaa
set_option linter.unusedSimpArgs false
set_option linter.unusedVariables false
open Go.RowKit Go.Shelf

/-- How a round may end: it goes on, nothing that was there has changed; or it breaks out to a label. -/
def RoundEnd (B id : Nat) (T : List Int → Bool) (X : List Int → World → Prop) (x : List Int) (V : World) : Exit → Act → World → Prop
  | .normal, _, V' => Below V.heap.size V V' ∧ T x = false
  | .exit i, _, V' => i = id ∧ Keeps B V V' ∧ T x = true ∧ X x V'
  | _, _, _ => False

theorem putObj_below {w V : World} (h : Below w.heap.size w V) {l : Nat} (o : Obj) (hl : w.heap.size ≤ l) : Below w.heap.size w (V.putObj l o) :=
  h.trans ⟨rfl, rfl, rfl, by simp, fun _ hk => World.putObj_heap_other (by omega)⟩

theorem wp_range_lists {g : Operand} {p : Nat} {assign body : Code} {Q : Exit → Act → World → Prop} {a : Act} {w : World} (id : Nat) (bn bm N M : Nat) (hNM : M ≤ N) (hN : N ≤ 1000)
    (hg : a.eval g = .func (.func 121) #[] #[.pointer (some ⟨bm, 0, none⟩), .pointer (some ⟨bn, 0, none⟩)])
    (hcn : w.cell? ⟨bn, 0, none⟩ = some (.int .i64 N)) (hcm : w.cell? ⟨bm, 0, none⟩ = some (.int .i64 M))
    (T : List Int → Bool) (X : List Int → World → Prop) (hX : ∀ x V l r o, w.heap.size ≤ l → V.heap[l]? = some (.loop r) → X x V → X x (V.putObj l o)) (a1 : Nat → Act)
    (hassign : ∀ (l gb : Nat) (V : World) (K : Act → World → Prop), K (a1 gb) V → assign.wpIn (Fence.wide.inRound l) 3 Try.prog (Exit.then K (fun _ _ _ => False)) { tmps := a.tmps.setIfInBounds p (.slice (some ⟨gb, 0, none⟩) M M), defers := [] } V)
    (hbody : ∀ (l gb : Nat) (x : List Int) (V : World), x ∈ picksF N M 0 → Below w.heap.size w V → w.heap.size ≤ gb → RowIs V gb x →
      body.wpIn (Fence.wide.inRound l) 3 Try.prog (RoundEnd w.heap.size id T X x V) (a1 gb) V)
    (hdone : ∀ (D : Nat) (W : World), (picksF N M 0).find? T = none → Below w.heap.size w W → w.heap.size ≤ D → W.heap[D]? = some (.deferred (some [])) → Q .normal { a with defers := { target := .collected D, args := #[] } :: a.defers } W)
    (hstop : ∀ (D : Nat) (x : List Int) (W : World), (picksF N M 0).find? T = some x → X x W → w.heap.size ≤ D → W.heap[D]? = some (.deferred (some [])) → Q (.exit id) { a with defers := { target := .collected D, args := #[] } :: a.defers } W) :
    (Code.rangeFunc g #[p] assign body).wp Try.prog Q a w := by
  refine (wpIn_wide (n := 5)).1 (wpIn_rangeFunc ?_)
  intro fn hfn
  obtain ⟨rec, hrec⟩ : ∃ rec : LoopState → Option Code → Loop, rec = fun st pe => { state := st, pending := pe, fn, tmps := a.tmps, params := #[p], assign, body, defers := w.heap.size } := ⟨_, rfl⟩
  obtain ⟨W1, hW1⟩ : ∃ W1, (w.alloc (.deferred (some []))).alloc (.loop (rec .ready none)) = W1 := ⟨_, rfl⟩
  have hL1 : W1.heap[w.heap.size + 1]? = some (.loop (rec .ready none)) := by
    rw [← hW1]; have := World.alloc_heap_new (w.alloc (.deferred (some []))) (.loop (rec .ready none)); rwa [World.size_alloc] at this
  have hK1 : W1.heap[w.heap.size]? = some (.deferred (some [])) := by
    rw [← hW1]; exact (Below.heap_alloc _ _ _ (by simp)).trans (World.alloc_heap_new w _)
  have hb1 : Below w.heap.size w W1 := by
    rw [← hW1]; exact ((Below.refl _ w).alloc (Nat.le_refl _) _).alloc (by simp) _
  have hz1 : W1.heap.size = w.heap.size + 2 := by rw [← hW1]; simp
  obtain ⟨pe1, pe2⟩ := picks_enum (n := N) M 0 (by omega)
  refine ⟨w.heap.size + 1, [{ target := .collected w.heap.size, args := #[] }], W1, { target := .fn (.func 121) #[.pointer (some ⟨bm, 0, none⟩), .pointer (some ⟨bn, 0, none⟩)], args := #[.func (.yield (w.heap.size + 1)) #[] #[]] }, W1, 121,
    #[.func (.yield (w.heap.size + 1)) #[] #[]] ++ #[.pointer (some ⟨bm, 0, none⟩), .pointer (some ⟨bn, 0, none⟩)], W1, ?_, ?_, ?_, ?_, fun _ => by omega, ?_⟩
  · rw [← hW1, hrec]; exact run_enterLoop_outer _ _ _ _ _
  · simp only [resolve, hg]
    simp [go_sem]
  · intro f' hf'; trivial
  · simp [invoke, go_sem]
  · refine (lists1_in 4 (by omega) (w.heap.size + 1) bn bm N M hNM hN
      (fun V => Below w.heap.size w V ∧ V.heap[w.heap.size + 1]? = some (.loop (rec .ready none)) ∧ V.heap[w.heap.size]? = some (.deferred (some [])))
      (fun x V => X x V ∧ V.heap[w.heap.size + 1]? = some (.loop (rec .done (some (.exit id)))) ∧ V.heap[w.heap.size]? = some (.deferred (some [])))
      T (picksF N M 0) pe1 (by rw [pe2, upTo_all]; simp) (fun x hx => picks_in hx) W1 ?_ ?_ ?_ ⟨hb1, hL1, hK1⟩).mono ?_
    · rintro V V' ⟨h1, h2, h3⟩ hb
      exact ⟨h1.trans (hb.mono (by omega)), (hb.block _ (by omega)).trans h2, (hb.block _ (by omega)).trans h3⟩
    · rintro V ⟨h1, _, _⟩
      exact ⟨((bcell h1).1 _ _ (lt_of_cell hcn)).trans hcn, ((bcell h1).1 _ _ (lt_of_cell hcm)).trans hcm⟩
    · rintro x hx gb V ⟨h1, h2, h3⟩ hgb hrow
      have hlt : w.heap.size + 1 < V.heap.size := (Array.getElem?_eq_some_iff.1 h2).1
      have hy := run_yield (P := Try.prog) (args := #[.slice (some ⟨gb, 0, none⟩) M M]) h2 (by rw [hrec]; rfl)
      rw [hrec] at hy
      have hy' : (Instr.yield (w.heap.size + 1) #[.slice (some ⟨gb, 0, none⟩) M M]).run Try.prog V = .ok (.round (w.heap.size + 1) fn (a.tmps.setIfInBounds p (.slice (some ⟨gb, 0, none⟩) M M)) assign body) V := by simpa using hy
      refine ⟨fn, _, assign, body, hy', roundIn_of_wpIn trivial ?_⟩
      refine hassign _ gb V _ ?_
      refine ⟨_, run_beginRound h2 (by rw [hrec]), ?_⟩
      obtain ⟨V2, hV2⟩ : ∃ V2, V.putObj (w.heap.size + 1) (.loop { rec .ready none with state := .busy }) = V2 := ⟨_, rfl⟩
      have hl2 : V2.heap[w.heap.size + 1]? = some (.loop { rec .ready none with state := .busy }) := by rw [← hV2]; exact World.putObj_heap_same hlt
      have hk2 : V2.heap[w.heap.size]? = some (.deferred (some [])) := by rw [← hV2]; exact (World.putObj_heap_other (by omega)).trans h3
      have hb2 : Below w.heap.size w V2 := by rw [← hV2]; exact putObj_below h1 _ (by omega)
      have ho2 : ∀ k, k ≠ w.heap.size + 1 → V2.heap[k]? = V.heap[k]? := fun k hk => by rw [← hV2]; exact World.putObj_heap_other hk
      have hs2 : V2.heap.size = V.heap.size := by rw [← hV2]; simp
      rw [hV2]
      refine wpIn_mono (hbody _ gb x V2 hx hb2 (by omega) (hrow.same (ho2 _ (by omega)))) ?_
      have fin : ∀ (jump : Option Code) (V3 : World), V3.heap[w.heap.size + 1]? = V2.heap[w.heap.size + 1]? →
          (Instr.endRound (w.heap.size + 1) jump).run Try.prog V3 = .ok (.bool jump.isNone) (V3.putObj (w.heap.size + 1) (.loop (rec (if jump.isNone then .ready else .done) jump))) := fun jump V3 h => by
        have := run_endRound (P := Try.prog) jump (h.trans hl2)
        rw [hrec] at this ⊢
        exact this
      rintro e a3 V3 hp
      have key : Keeps w.heap.size V2 V3 → ∀ r, Keeps W1.heap.size V (V3.putObj (w.heap.size + 1) (.loop r)) ∧ (V3.putObj (w.heap.size + 1) (.loop r)).heap[w.heap.size + 1]? = some (.loop r) ∧
          (V3.putObj (w.heap.size + 1) (.loop r)).heap[w.heap.size]? = some (.deferred (some [])) ∧ V3.heap[w.heap.size + 1]? = V2.heap[w.heap.size + 1]? := by
        rintro ⟨q1, q2⟩ r
        refine ⟨⟨by simp; omega, fun k hk1 hk2 => ?_⟩, World.putObj_heap_same (by omega), (World.putObj_heap_other (by omega)).trans ((q2 _ (by omega) (by omega)).trans hk2), q2 _ (by omega) (by omega)⟩
        rw [World.putObj_heap_other (by omega), q2 k (by omega) (by omega), ho2 k (by omega)]
      cases e with
      | normal =>
        obtain ⟨hb3, hT⟩ := hp
        obtain ⟨h5, h6, h7, h8⟩ := key ⟨hb3.size, fun k _ hk => hb3.block k hk⟩ (rec .ready none)
        exact ⟨_, _, fin none V3 h8, h5, .inl ⟨rfl, hT, putObj_below (hb2.trans (hb3.mono hb2.size)) _ (by omega), h6, h7⟩⟩
      | exit i =>
        obtain ⟨rfl, hk3, hT, hx3⟩ := hp
        obtain ⟨h5, h6, h7, h8⟩ := key hk3 (rec .done (some (.exit i)))
        exact ⟨_, _, fin (some (.exit i)) V3 h8, h5, .inr ⟨rfl, hT, hX x V3 _ _ _ (by omega) (h8.trans hl2) hx3, h6, h7⟩⟩
      | ret => exact hp.elim
      | goto t => exact hp.elim
      | panic ch => exact hp.elim
      | outgrown => exact hp.elim
    · rintro e W2 ⟨⟨v, rfl⟩, (⟨hf, h1, h2, h3⟩ | ⟨x, hf, h1, h2, h3⟩)⟩
      · refine ⟨none, _, by have := run_endLoop (P := Try.prog) h2 (by rw [hrec]; simp); rw [hrec] at this; exact this, hdone _ _ hf (putObj_below h1 _ (by omega)) (Nat.le_refl _) ((World.putObj_heap_other (by omega)).trans h3)⟩
      · refine ⟨some (.exit id), _, by have := run_endLoop (P := Try.prog) h2 (by rw [hrec]; simp); rw [hrec] at this; exact this, wpIn_exit (hstop _ x _ hf (hX _ _ _ _ _ (by omega) h2 h1) (Nat.le_refl _) ((World.putObj_heap_other (by omega)).trans h3))⟩
end Go.Proofs.Ytjgkgnfhglhklaa
