/- Roads and a flock that came in, as a law's shell says them. -/
import Derived.Test.YtmkjeonjhedgkaaGreatDoorDeal
import Derived.Deep.Slices
import Derived.Deep.Fields
import Derived.Lib.SmallJoins
import Derived.ChangeSame
namespace Go.Proofs.YtmkjeonjhedgkaaGreatDoor
set_option linter.unusedSimpArgs false
set_option linter.unusedVariables false
open Go.ChangeShapes Go.WideShapes Go.ChangeAt Go.RowKit Go.Joins Go.Deep

set_option maxRecDepth 100000 in
theorem under_strip : ∃ fs : Array Field, Tryz.prog.underlying 63 = some (.struct fs) ∧ fs.size = 7 ∧ ∀ j, j < 7 → ∃ g, fs[j]? = some g ∧ g.offset = j ∧ g.type = 3 :=
  ⟨_, Tryz.underlying63, rfl, fun j hj => by
    obtain rfl | rfl | rfl | rfl | rfl | rfl | rfl : j = 0 ∨ j = 1 ∨ j = 2 ∨ j = 3 ∨ j = 4 ∨ j = 5 ∨ j = 6 := by omega
    all_goals exact ⟨_, rfl, rfl, rfl⟩⟩
set_option maxRecDepth 100000 in
theorem cellsOf_strip : Tryz.prog.cellsOf 63 = 7 := by kernel_rfl
set_option maxRecDepth 100000 in
theorem cellsOf_int : Tryz.prog.cellsOf 3 = 1 := by kernel_rfl

/-- Seven integers that can be read as a strip. -/
theorem strip_in {H : Type} {enc : TypeId × Value → H} {W : World} {base : Nat} {sp : Nat → Bool} {held : Bool} {n : Nat} {cs : List Value} {x : DataW H × List MemPlace} (h : DataW.trod enc Tryz.prog W base sp held n 63 cs = some x) :
    ∃ s : Strip, cs = [.int .i64 s.A, .int .i64 s.B, .int .i64 s.L, .int .i64 s.W, .int .i64 s.K, .int .i64 s.X, .int .i64 s.Y] := by
  obtain ⟨fs, hu, hsz, hf⟩ := under_strip
  obtain ⟨xs, m, _, _, hl, hxl, hg⟩ := DataW.trod_struct hu h
  rw [cellsOf_strip] at hl
  have key : ∀ j, j < 7 → ∃ v : Int, cs[j]? = some (.int .i64 v) := fun j hj => by
    obtain ⟨g, g1, g2, g3⟩ := hf j hj
    have h1 := hg j g g1
    rw [g2, g3, cellsOf_int] at h1
    have hjl : j < cs.length := by omega
    have e : (cs.drop j).take 1 = [cs[j]] := by rw [List.drop_eq_getElem_cons hjl]; rfl
    have hjx : j < xs.length := by omega
    rw [e, List.getElem?_eq_getElem hjx] at h1
    obtain ⟨v, hv, _⟩ := DataW.trod_int Tryz.underlying3 h1
    refine ⟨v, ?_⟩
    rw [List.getElem?_eq_getElem hjl]
    simp only [List.cons.injEq, and_true] at hv
    rw [hv]
  obtain ⟨a, ha⟩ := key 0 (by omega)
  obtain ⟨b, hb⟩ := key 1 (by omega)
  obtain ⟨c, hc⟩ := key 2 (by omega)
  obtain ⟨d, hd⟩ := key 3 (by omega)
  obtain ⟨e, he⟩ := key 4 (by omega)
  obtain ⟨f, hf'⟩ := key 5 (by omega)
  obtain ⟨g, hg'⟩ := key 6 (by omega)
  revert ha hb hc hd he hf' hg'
  clear key hg h
  match cs, hl with
  | [c0, c1, c2, c3, c4, c5, c6], _ =>
    intro ha hb hc hd he hf' hg'
    simp only [List.getElem?_cons_zero, List.getElem?_cons_succ, Option.some.injEq] at ha hb hc hd he hf' hg'
    exact ⟨⟨a, b, c, d, e, f, g⟩, by rw [ha, hb, hc, hd, he, hf', hg']⟩

/-- A slice of strips that came in. -/
theorem strips_in {H : Type} {enc : TypeId × Value → H} {W : World} {n : Nat} {v : Value} {x : DataW H × List MemPlace} (h : DataW.trod enc Tryz.prog W 0 (fun _ => true) true n 22 [v] = some x) :
    ∃ (l : List Strip) (a : Option Addr) (cap : Nat), v = .slice a l.length cap ∧ StripsAt W a l ∧ l.length ≤ maxLen ∧ l.length ≤ cap := by
  rcases open_slice Tryz.underlying22 h with ⟨h0, _⟩ | ⟨a, len, cap, m, n', D, Pl, hcs, hb, hl, hm, hmm, hx, hi⟩
  · simp only [List.cons.injEq, and_true] at h0
    exact ⟨[], none, 0, h0, .inl rfl, Nat.zero_le _, Nat.zero_le _⟩
  · simp only [List.cons.injEq, and_true] at hcs
    subst hcs
    have hm' : m = cap := by simpa using hmm
    have key : ∀ i, ∃ s : Strip, i < len → W.cells? 0 (a.add (i * 7)) 7 = some [.int .i64 s.A, .int .i64 s.B, .int .i64 s.L, .int .i64 s.W, .int .i64 s.K, .int .i64 s.X, .int .i64 s.Y] := fun i => by
      by_cases hil : i < len
      · obtain ⟨cs', h1, h2⟩ := hi i (by omega)
        rw [cellsOf_strip] at h1
        obtain ⟨s, rfl⟩ := strip_in h2
        exact ⟨s, fun _ => h1⟩
      · exact ⟨⟨0, 0, 0, 0, 0, 0, 0⟩, fun h => absurd h hil⟩
    obtain ⟨st, hst⟩ := Classical.axiomOfChoice key
    by_cases h0 : len = 0
    · subst h0
      exact ⟨[], some a, cap, rfl, .inl rfl, Nat.zero_le _, Nat.zero_le _⟩
    · obtain ⟨b, o, sp⟩ := a
      have hat : ∀ i, i < len → ∀ j, j < 7 → W.cell? ((⟨b, o, sp⟩ : Addr).add (i * 7 + j)) = ([Value.int .i64 (st i).A, .int .i64 (st i).B, .int .i64 (st i).L, .int .i64 (st i).W, .int .i64 (st i).K, .int .i64 (st i).X, .int .i64 (st i).Y])[j]? := fun i hil j hj => by
        obtain ⟨_, _, h2⟩ := World.cells?_some (hst i hil)
        have := h2 j hj
        rw [← Go.Deep.add_add]
        exact this
      have hsp : sp = none := by
        have c0 : W.cell? ((⟨b, o, sp⟩ : Addr).add 0) = some (.int .i64 (st 0).A) := hat 0 (by omega) 0 (by omega)
        cases sp with
        | none => rfl
        | some y =>
          simp only [Addr.add, if_true, World.cell?] at c0
          split at c0 <;> simp at c0
      subst hsp
      refine ⟨(List.range len).map st, some ⟨b, o, none⟩, cap, by simp, .inr ⟨b, o, rfl, fun i hil => ?_⟩, by simp; omega, by simpa using hl⟩
      have hil' : i < len := by simpa using hil
      have e : ((List.range len).map st)[i] = st i := by simp
      rw [e]
      have hk : ∀ j, j < 7 → W.cell? ⟨b, o + i * 7 + j, none⟩ = ([Value.int .i64 (st i).A, .int .i64 (st i).B, .int .i64 (st i).L, .int .i64 (st i).W, .int .i64 (st i).K, .int .i64 (st i).X, .int .i64 (st i).Y])[j]? := fun j hj => by
        have := hat i hil' j hj
        rwa [show (⟨b, o, none⟩ : Addr).add (i * 7 + j) = ⟨b, o + i * 7 + j, none⟩ by
          simp only [Addr.add]
          split
          · congr 1; omega
          · rw [Nat.add_assoc]] at this
      exact ⟨hk 0 (by omega), hk 1 (by omega), hk 2 (by omega), hk 3 (by omega), hk 4 (by omega), hk 5 (by omega), hk 6 (by omega)⟩

set_option maxRecDepth 100000 in
theorem roads_in {H : Type} {enc : TypeId × Value → H} {W : World} {rc : Reach} {b0 : Nat} {v : Value} {d : DataW H} {p : List MemPlace} (hv : Value.okWide Tryz.prog W rc b0 24 v) (h : DataW.Trod enc Tryz.prog W 0 (fun _ => true) true 24 v d p) :
    ∃ (r : Roads) (a : Option Addr) (cap : Nat), v = .agg #[.int .i64 r.days, .int .i64 r.stages, .slice a r.strips.length cap] ∧ StripsAt W a r.strips ∧ r.strips.length ≤ maxLen ∧ r.strips.length ≤ cap := by
  obtain ⟨v0, v1, v2, y0, y1, y2, n, rfl, _, _, h0, h1, h2⟩ := open_agg3 Tryz.underlying24 (by kernel_rfl) (by kernel_rfl) hv h
  obtain ⟨D, hD, _⟩ := DataW.trod_int Tryz.underlying3 h0
  obtain ⟨S, hS, _⟩ := DataW.trod_int Tryz.underlying3 h1
  obtain ⟨l, a, cap, rfl, hst, hm, hc⟩ := strips_in h2
  simp only [List.cons.injEq, and_true] at hD hS
  subst hD hS
  exact ⟨⟨D, S, l⟩, a, cap, rfl, hst, hm, hc⟩
set_option maxRecDepth 100000 in
theorem flock_in {H : Type} {enc : TypeId × Value → H} {W : World} {rc : Reach} {b0 : Nat} {v : Value} {d : DataW H} {p : List MemPlace} (hv : Value.okWide Tryz.prog W rc b0 45 v) (h : DataW.Trod enc Tryz.prog W 0 (fun _ => true) true 45 v d p) :
    ∃ f : Flock, v = .agg #[.int .i64 f.heads, .int .i64 f.pace] := by
  obtain ⟨v0, v1, y0, y1, n, rfl, _, _, h0, h1⟩ := open_agg2 Tryz.underlying45 (by kernel_rfl) (by kernel_rfl) hv h
  obtain ⟨D, hD, _⟩ := DataW.trod_int Tryz.underlying3 h0
  obtain ⟨S, hS, _⟩ := DataW.trod_int Tryz.underlying3 h1
  simp only [List.cons.injEq, and_true] at hD hS
  subst hD hS
  exact ⟨⟨D, S⟩, rfl⟩
set_option maxRecDepth 100000 in
/-- A slice of integers that came in. -/
theorem ints_in {H : Type} {enc : TypeId × Value → H} {W : World} {rc : Reach} {b0 : Nat} {v : Value} {d : DataW H} {p : List MemPlace} (hv : Value.okWide Tryz.prog W rc b0 25 v) (h : DataW.Trod enc Tryz.prog W 0 (fun _ => true) true 25 v d p) :
    ∃ (a : Option Addr) (len cap : Nat) (l : List Int), v = .slice a len cap ∧ IntsAt W a l ∧ l.length = len ∧ len ≤ maxLen ∧ (l = [] ∨ ∀ ad, a = some ad → ad.block < W.heap.size) := by
  obtain ⟨a, len, cap, rfl⟩ := okWide_slice Tryz.underlying25 hv
  obtain ⟨fuel, hf⟩ := h
  have hz : ∃ zs : List Int, (a = none ∧ len = 0 ∧ cap = 0 ∧ zs = []) ∨ ∃ x, a = some x ∧ len ≤ cap ∧ cap ≤ maxLen ∧ zs.length = cap ∧ (∀ i, i < zs.length → W.cell? (x.add i) = some (.int .i64 (zs.getD i 0))) ∧ ∀ n ∈ zs, (Lit.int .i64 n).wf = true := by
    rcases open_ints Tryz.underlying25 Tryz.underlying3 (by kernel_rfl) hf with ⟨hcs, _⟩ | ⟨x, l, c, zs, hcs, _, hl, hm, hz, _, hcell, hwz⟩
    · simp [Value.cells] at hcs
      obtain ⟨rfl, rfl, rfl⟩ := hcs
      exact ⟨[], .inl ⟨rfl, rfl, rfl, rfl⟩⟩
    · simp [Value.cells] at hcs
      obtain ⟨rfl, rfl, rfl⟩ := hcs
      exact ⟨zs, .inr ⟨_, rfl, hl, hm, by simpa using hz, hcell, hwz⟩⟩
  obtain ⟨zs, hz⟩ := hz
  obtain ⟨l, h1, h2, h3, h4⟩ := row_ints hz
  exact ⟨a, len, cap, l, rfl, h1, h2, h3, h4⟩
set_option maxRecDepth 100000 in
/-- An integer that came in. -/
theorem open_i64 {H : Type} {enc : TypeId × Value → H} {W : World} {rc : Reach} {b0 : Nat} {t : TypeId} {v : Value} {d : DataW H} {p : List MemPlace} (ht : Tryz.prog.underlying t = some (.int .i64)) (hv : Value.okWide Tryz.prog W rc b0 t v) (h : DataW.Trod enc Tryz.prog W 0 (fun _ => true) true t v d p) :
    ∃ n : Int, v = .int .i64 n := by
  obtain ⟨n, hn, _⟩ := open_int ht hv h
  exact ⟨n, hn⟩
end Go.Proofs.YtmkjeonjhedgkaaGreatDoor
