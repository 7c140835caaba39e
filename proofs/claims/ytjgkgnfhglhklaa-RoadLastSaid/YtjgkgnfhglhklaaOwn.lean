/- Slices of integers that a call makes for itself: the word OwnInts, and append at the operation. -/
import Derived.Test.YtjgkgnfhglhklaaProg
import Derived.Test.YtjgkgnfhglhklaaMem
namespace Go.Proofs.Ytjgkgnfhglhklaa
set_option linter.unusedSimpArgs false
set_option linter.unusedVariables false
open Go.RowKit

/-- v is a slice of integers l in a block from B on (or nil). -/
def OwnInts (w : World) (B : Nat) (v : Value) (l : List Int) : Prop := w.ownsRow B 3 1 v l.length (l.map (Value.int .i64))

theorem OwnInts.nil (w : World) (B : Nat) : OwnInts w B (.slice none 0 0) [] := World.ownsRow_nil _ _ _ _

theorem OwnInts.below {w w' : World} {B : Nat} {v : Value} {l : List Int} (h : OwnInts w B v l) (hb : Below w.heap.size w w') : OwnInts w' B v l := by
  obtain ⟨h1, h2⟩ := h
  refine ⟨h1, ?_⟩
  rcases h2 with h2 | ⟨g, cap, cur, hv, hg, hh, r⟩
  · exact .inl h2
  · exact .inr ⟨g, cap, cur, hv, hg, by rw [hb.block g (Array.getElem?_eq_some_iff.1 hh).1]; exact hh, r⟩

theorem OwnInts.alloc {w : World} {B : Nat} {v : Value} {l : List Int} (h : OwnInts w B v l) (o : Obj) : OwnInts (w.alloc o) B v l :=
  h.below (Below.alloc (Below.refl _ _) (Nat.le_refl _) o)

theorem OwnInts.mono {w : World} {B B' : Nat} {v : Value} {l : List Int} (h : OwnInts w B v l) (hB : B' ≤ B) : OwnInts w B' v l := by
  obtain ⟨h1, h2⟩ := h
  refine ⟨h1, ?_⟩
  rcases h2 with h2 | ⟨g, cap, cur, hv, hg, r⟩
  · exact .inl h2
  · exact .inr ⟨g, cap, cur, hv, Nat.le_trans hB hg, r⟩

theorem OwnInts.ints {w : World} {B : Nat} {v : Value} {l : List Int} (h : OwnInts w B v l) :
    ∃ a cap, v = .slice a l.length cap ∧ IntsAt w a l ∧ l.length ≤ cap ∧ cap ≤ maxLen := by
  obtain ⟨h1, h2⟩ := h
  rcases h2 with ⟨hv, hn⟩ | ⟨g, cap, cur, hv, hg, hh, hc, hm, hs, ht⟩
  · have : l = [] := List.length_eq_zero_iff.1 hn
    subst this
    exact ⟨none, 0, hv, .inl rfl, Nat.le_refl _, by unfold maxLen; omega⟩
  · refine ⟨_, cap, hv, .inr ⟨g, 0, rfl, fun i hi => ?_⟩, hc, hm⟩
    have e : cur[i]? = some (.int .i64 l[i]) := by
      rw [← Array.getElem?_toList]
      have : (cur.toList.take (l.length * 1))[i]? = cur.toList[i]? := by rw [List.getElem?_take, if_pos (by omega)]
      rw [← this, ht]
      simp [hi]
    simp [World.cell?, hh, e]

/-- out = append(out, n) at the operation: the new element lies in a block of one cell. -/
theorem app_int {ops : Array Oper} {rest : List Oper} {o : Oper} {a : Act} {Q : Exit → Act → World → Prop} {w : World} (hgd : o.guard = none) (s x : Operand)
    (ho : o.op = .call { callee := .builtin .append, args := #[s, x], argTypes := #[27, 27] })
    (B : Nat) (v : Value) (l : List Int) (hs : a.eval s = v) (hown : OwnInts w B v l) (n : Int) (b : Nat) (hx : a.eval x = .slice (some ⟨b, 0, none⟩) 1 1)
    (hc : w.cell? ⟨b, 0, none⟩ = some (.int .i64 n)) (hlen : l.length ≤ 1000000) (hB : B ≤ w.heap.size)
    (h : ∀ v' w', OwnInts w' B v' (l ++ [n]) → Below B w w' → w.grownBy w' v.ownBlock → wpList Try.prog ops Q rest (a.put o.dst v') w') : wpList Try.prog ops Q (o :: rest) a w := by
  obtain ⟨i0, hi, hz0, hz1, hz2⟩ := info_parts (P := Try.prog) (e := 3) (z := .int .i64 0) (size := 1) (bytes := 8) (by kernel_rfl)
  refine wpList_append_own w hgd s x 27 ho B 3 i0 (.int .i64 0) 1 8 Try.underlying27 hi hz0 hz1 hz2 rfl (by decide) v l.length _ hs hown ⟨b, 0, none⟩ 1 1 [.int .i64 n] hx rfl ?_ ?_ ?_ ?_ hB ?_
  · intro j u hj
    match j, hj with
    | 0, hj => simp at hj; subst hj; simpa [Addr.add] using hc
  · intro u hu; simp at hu; subst hu; rfl
  · unfold maxLen; omega
  · omega
  · intro v' w' h1 h2 _
    refine h v' w' ?_ ?_ h2
    · unfold OwnInts; simpa using h1
    · refine Below.grown (Below.refl _ _) h2 hB fun k hk => ?_
      obtain ⟨_, h3⟩ := hown
      rcases h3 with ⟨hv, _⟩ | ⟨g, cap, cur, hv, hg, _⟩
      · subst hv; simp [Value.ownBlock] at hk
      · subst hv; simp [Value.ownBlock] at hk; omega

/-- The same where the new element's block has just been laid. -/
theorem app_int1 {ops : Array Oper} {rest : List Oper} {o : Oper} {a : Act} {Q : Exit → Act → World → Prop} {w : World} (hgd : o.guard = none) (s x : Operand)
    (ho : o.op = .call { callee := .builtin .append, args := #[s, x], argTypes := #[27, 27] })
    (B : Nat) (v : Value) (l : List Int) (hs : a.eval s = v) (hown : OwnInts w B v l) (n : Int) (hx : a.eval x = .slice (some ⟨w.heap.size, 0, none⟩) 1 1)
    (hlen : l.length ≤ 1000000) (hB : B ≤ w.heap.size)
    (h : ∀ v' w', OwnInts w' B v' (l ++ [n]) → Below B w w' → (w.alloc (.cells #[.int .i64 n] 3)).grownBy w' v.ownBlock → wpList Try.prog ops Q rest (a.put o.dst v') w') :
    wpList Try.prog ops Q (o :: rest) a (w.alloc (.cells #[.int .i64 n] 3)) :=
  app_int hgd s x ho B v l hs (hown.alloc _) n w.heap.size hx (by simp) hlen (by simp; omega) fun v' w' h1 h2 h3 => h v' w' h1 ((Below.alloc (Below.refl _ _) hB _).trans h2) h3
end Go.Proofs.Ytjgkgnfhglhklaa
