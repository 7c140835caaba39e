/- A plan that came in, as a law's shell says it. -/
import Derived.Test.YtjgkgnfhglhklaaRawIn
import Derived.Test.YtjgkgnfhglhklaaAfoot
namespace Go.Proofs.Ytjgkgnfhglhklaa
set_option linter.unusedSimpArgs false
set_option linter.unusedVariables false
open Go.ChangeShapes Go.WideShapes Go.ChangeAt Go.RowKit Go.Joins Go.Deep

set_option maxRecDepth 100000 in
theorem under_stride : ∃ fs : Array Field, Try.prog.underlying 89 = some (.struct fs) ∧ fs.size = 2 ∧ ∀ j, j < 2 → ∃ g, fs[j]? = some g ∧ g.offset = j ∧ g.type = 3 :=
  ⟨_, Try.underlying89, rfl, fun j hj => by
    obtain rfl | rfl : j = 0 ∨ j = 1 := by omega
    all_goals exact ⟨_, rfl, rfl, rfl⟩⟩
set_option maxRecDepth 100000 in
theorem cellsOf_stride : Try.prog.cellsOf 89 = 2 := by kernel_rfl

theorem stride_in {H : Type} {enc : TypeId × Value → H} {W : World} {base : Nat} {sp : Nat → Bool} {held : Bool} {n : Nat} {cs : List Value} {x : DataW H × List MemPlace} (h : DataW.trod enc Try.prog W base sp held n 89 cs = some x) :
    ∃ s : Int × Int, cs = [.int .i64 s.1, .int .i64 s.2] := by
  obtain ⟨fs, hu, hsz, hf⟩ := under_stride
  obtain ⟨xs, m, _, _, hl, hxl, hg⟩ := DataW.trod_struct hu h
  rw [cellsOf_stride] at hl
  have key : ∀ j, j < 2 → ∃ v : Int, cs[j]? = some (.int .i64 v) := fun j hj => by
    obtain ⟨g, g1, g2, g3⟩ := hf j hj
    have h1 := hg j g g1
    rw [g2, g3, cellsOf_int] at h1
    have hjl : j < cs.length := by omega
    have e : (cs.drop j).take 1 = [cs[j]] := by rw [List.drop_eq_getElem_cons hjl]; rfl
    have hjx : j < xs.length := by omega
    rw [e, List.getElem?_eq_getElem hjx] at h1
    obtain ⟨v, hv, _⟩ := DataW.trod_int Try.underlying3 h1
    refine ⟨v, ?_⟩
    rw [List.getElem?_eq_getElem hjl]
    simp only [List.cons.injEq, and_true] at hv
    rw [hv]
  obtain ⟨a, ha⟩ := key 0 (by omega)
  obtain ⟨b, hb⟩ := key 1 (by omega)
  revert ha hb
  clear key hg h
  match cs, hl with
  | [c0, c1], _ =>
    intro ha hb
    simp only [List.getElem?_cons_zero, List.getElem?_cons_succ, Option.some.injEq] at ha hb
    exact ⟨(a, b), by rw [ha, hb]⟩

set_option maxRecDepth 100000 in
/-- A slice of strides that came in. -/
theorem strides_in {H : Type} {enc : TypeId × Value → H} {W : World} {rc : Reach} {b0 : Nat} {v : Value} {d : DataW H} {p : List MemPlace} (hv : Value.okWide Try.prog W rc b0 40 v) (h : DataW.Trod enc Try.prog W 0 (fun _ => true) true 40 v d p) :
    ∃ (l : List (Int × Int)) (a : Option Addr) (cap : Nat), v = .slice a l.length cap ∧ StridesAt W a l ∧ l.length ≤ maxLen := by
  obtain ⟨a0, len0, cap0, rfl⟩ := okWide_slice Try.underlying40 hv
  obtain ⟨fuel, hf⟩ := h
  have hf' : DataW.trod enc Try.prog W 0 (fun _ => true) true fuel 40 [.slice a0 len0 cap0] = some (d, p) := hf
  rcases open_slice Try.underlying40 hf' with ⟨h0, _⟩ | ⟨a, len, cap, m, n', D, Pl, hcs, hb, hl, hm, hmm, hx, hi⟩
  · simp only [List.cons.injEq, and_true] at h0
    exact ⟨[], none, 0, h0, .inl rfl, Nat.zero_le _⟩
  · simp only [List.cons.injEq, and_true] at hcs
    have hm' : m = cap := by simpa using hmm
    have key : ∀ i, ∃ s : Int × Int, i < len → W.cells? 0 (a.add (i * 2)) 2 = some [.int .i64 s.1, .int .i64 s.2] := fun i => by
      by_cases hil : i < len
      · obtain ⟨cs', h1, h2⟩ := hi i (by omega)
        rw [cellsOf_stride] at h1
        obtain ⟨s, rfl⟩ := stride_in h2
        exact ⟨s, fun _ => h1⟩
      · exact ⟨(0, 0), fun h => absurd h hil⟩
    obtain ⟨st, hst⟩ := Classical.axiomOfChoice key
    by_cases h0 : len = 0
    · subst h0
      exact ⟨[], some a, cap, hcs, .inl rfl, Nat.zero_le _⟩
    · obtain ⟨b, o, sp⟩ := a
      have hat : ∀ i, i < len → ∀ j, j < 2 → W.cell? ((⟨b, o, sp⟩ : Addr).add (i * 2 + j)) = ([Value.int .i64 (st i).1, .int .i64 (st i).2])[j]? := fun i hil j hj => by
        obtain ⟨_, _, h2⟩ := World.cells?_some (hst i hil)
        have := h2 j hj
        rw [← Go.Deep.add_add]
        exact this
      have hsp : sp = none := by
        have c0 : W.cell? ((⟨b, o, sp⟩ : Addr).add 0) = some (.int .i64 (st 0).1) := hat 0 (by omega) 0 (by omega)
        cases sp with
        | none => rfl
        | some y =>
          simp only [Addr.add, if_true, World.cell?] at c0
          split at c0 <;> simp at c0
      subst hsp
      refine ⟨(List.range len).map st, some ⟨b, o, none⟩, cap, by simpa using hcs, .inr ⟨b, o, rfl, fun i hil => ?_⟩, by simp; omega⟩
      have hil' : i < len := by simpa using hil
      have e : ((List.range len).map st)[i] = st i := by simp
      rw [e]
      have hk : ∀ j, j < 2 → W.cell? ⟨b, o + i * 2 + j, none⟩ = ([Value.int .i64 (st i).1, .int .i64 (st i).2])[j]? := fun j hj => by
        have := hat i hil' j hj
        rwa [show (⟨b, o, none⟩ : Addr).add (i * 2 + j) = ⟨b, o + i * 2 + j, none⟩ by
          simp only [Addr.add]
          split
          · congr 1; omega
          · rw [Nat.add_assoc]] at this
      exact ⟨hk 0 (by omega), hk 1 (by omega)⟩
end Go.Proofs.Ytjgkgnfhglhklaa
