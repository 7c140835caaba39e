/- The contract of road.Write. -/
import Derived.Test.YtmkjeonjhedgkaaGreatDoorReady
import Derived.Test.YtmkjeonjhedgkaaGreatDoorRegLast
import Derived.Test.YtmkjeonjhedgkaaGreatDoorBuild
import Derived.BigQuiet
namespace Go.Proofs.YtmkjeonjhedgkaaGreatDoor
set_option linter.unusedSimpArgs false
set_option linter.unusedVariables false
open Go.RowKit

def headT (r : Roads) : List UInt8 := [114, 111, 97, 100, 115, 32] ++ Lib.itoa r.stages ++ [32, 115, 116, 97, 103, 101, 115, 32] ++ Lib.itoa r.days ++ [32, 100, 97, 121, 115, 10]
def kindT (s : Strip) : List UInt8 :=
  if s.K = 2 then [32, 112, 97, 115, 115, 32] ++ Lib.itoa s.X ++ [45] ++ Lib.itoa s.Y else if s.K = 3 then [32, 102, 111, 114, 100, 32] ++ Lib.itoa s.X ++ [32] ++ Lib.itoa s.Y else if s.K = 4 then [32, 98, 114, 105, 100, 103, 101, 32] ++ Lib.itoa s.X else []
def frontT (s : Strip) : List UInt8 := Lib.itoa s.A ++ [45] ++ Lib.itoa s.B ++ [32] ++ Lib.itoa s.L ++ [32, 108, 101, 97, 103, 117, 101, 115, 32] ++ Lib.itoa s.W ++ [32, 119, 105, 100, 101]
def stripT (s : Strip) : List UInt8 := frontT s ++ kindT s ++ [10]
def linesT (l : List Strip) : List UInt8 := l.flatMap stripT
def textT (r : Roads) : List UInt8 := headT r ++ linesT r.strips ++ [101, 110, 100, 10]
/-- What Write returns. -/
def writeV (r : Roads) : List UInt8 × Int := if checkR r = 0 then (textT r, 0) else ([], checkR r)

/-- The table that Itoa reads. -/
def TabOk (w : World) : Prop := Lib.TabIs Tryz.prog w "internal/strconv.uint64pow10" .u64 Lib.pow10Tab
theorem TabOk.below {w w' : World} (h : TabOk w) (hb : Below w.heap.size w w') : TabOk w' := by
  unfold TabOk Lib.TabIs World.var? at *
  cases hg : Tryz.prog.globalNamed "internal/strconv.uint64pow10" with
  | none => rw [hg] at h; simp at h
  | some g =>
    rw [hg, Option.bind_some] at h
    rw [Option.bind_some]
    cases ho : w.heap[g]? with
    | none => rw [ho] at h; simp at h
    | some o => rw [heap_below hb ho]; rw [ho] at h; exact h
theorem itoa_len (n : Int) (h0 : -5 ≤ n) (h1 : n < 100) : (Lib.itoa n).length ≤ 3 := by
  obtain ⟨k, rfl⟩ : ∃ k : Nat, n = (k : Int) - 5 := ⟨(n + 5).toNat, by omega⟩
  have hk : k < 105 := by omega
  have : ∀ k : Nat, k < 105 → (Lib.itoa ((k : Int) - 5)).length ≤ 3 := by decide +kernel
  exact this k hk
theorem itoa_any (n : Int) (h0 : -5 ≤ n) (h1 : n < 100) (w : World) (ht : TabOk w) :
    Calls Tryz.prog 30 #[.int .i64 n] w fun e w' => e = .returned (.string ⟨(Lib.itoa n).toArray⟩) ∧ Below w.heap.size w w' := by
  refine (Tryz.strconv_Itoa n (by omega) (by omega) w ht).mono ?_
  rintro e w' ⟨rfl, k, os, rfl⟩
  refine ⟨rfl, ?_⟩
  have h1 : Below w.heap.size w (w.drewN k) := below_drewN (Below.refl _ _) k
  exact ⟨h1.os, h1.tape, h1.output, by have := h1.size; simp only [Sort.grow]; simp, fun j hj => by
    have h2 := h1.block j hj
    have h3 : j < (w.drewN k).heap.size := Nat.lt_of_lt_of_le hj h1.size
    simp only [Sort.grow]
    rw [Array.getElem?_append_left h3]; exact h2⟩
structure FineS (s : Strip) : Prop where
  a : 0 ≤ s.A ∧ s.A < 100
  b : 0 ≤ s.B ∧ s.B < 100
  l : 0 ≤ s.L ∧ s.L < 100
  w : 0 ≤ s.W ∧ s.W < 100
  x : -5 ≤ s.X ∧ s.X < 100
  y : -5 ≤ s.Y ∧ s.Y < 100
  k : s.K = 1 ∨ s.K = 2 ∨ s.K = 3 ∨ s.K = 4
theorem fineS {r : Roads} {f : Flock} (g : Good r f) {x : Strip} (h : x ∈ r.strips) : FineS x := by
  have h1 := g.strip x h
  have h2 := g.d2
  have h3 := g.s2
  obtain ⟨b1, b2, b3, b4, b5, b6, b7, b8, b9, h4⟩ := h1
  refine ⟨by omega, by omega, by omega, by omega, by omega, by omega, by omega⟩
theorem len_front {x : Strip} (h : FineS x) : (frontT x).length ≤ 40 := by
  have h1 := itoa_len x.A (by have := h.a; omega) (by have := h.a; omega)
  have h2 := itoa_len x.B (by have := h.b; omega) (by have := h.b; omega)
  have h3 := itoa_len x.L (by have := h.l; omega) (by have := h.l; omega)
  have h4 := itoa_len x.W (by have := h.w; omega) (by have := h.w; omega)
  simp only [frontT, List.length_append, List.length_cons, List.length_nil]; omega
theorem len_kind {x : Strip} (h : FineS x) : (kindT x).length ≤ 20 := by
  have h1 := itoa_len x.X h.x.1 h.x.2
  have h2 := itoa_len x.Y h.y.1 h.y.2
  unfold kindT
  split
  · simp only [List.length_append, List.length_cons, List.length_nil]; omega
  · split
    · simp only [List.length_append, List.length_cons, List.length_nil]; omega
    · split
      · simp only [List.length_append, List.length_cons, List.length_nil]; omega
      · simp
theorem len_lines : ∀ (l : List Strip), (∀ x ∈ l, FineS x) → (linesT l).length ≤ 61 * l.length
  | [], _ => by simp [linesT]
  | x :: l, h => by
    have h1 := len_front (h x (by simp))
    have h2 := len_kind (h x (by simp))
    have h3 := len_lines l fun y hy => h y (by simp [hy])
    have e : linesT (x :: l) = stripT x ++ linesT l := rfl
    rw [e]
    simp only [stripT, List.length_append, List.length_cons, List.length_nil]; omega
theorem len_head {r : Roads} {f : Flock} (g : Good r f) : (headT r).length ≤ 30 := by
  have h1 := itoa_len r.stages (by have := g.s1; omega) (by have := g.s2; omega)
  have h2 := itoa_len r.days (by have := g.d1; omega) (by have := g.d2; omega)
  simp only [headT, List.length_append, List.length_cons, List.length_nil]; omega
theorem waits_mem {o : Oper} {d : Nat} (h : (waits o).contains d = true) : d ∈ waits o := by simpa using h
theorem linesT_next {l : List Strip} {i : Nat} (h : i < l.length) : linesT (l.take (i + 1)) = linesT (l.take i) ++ stripT l[i] := by
  unfold linesT
  rw [List.take_succ_eq_append_getElem h, List.flatMap_append]; simp

set_option maxRecDepth 100000 in
set_option maxHeartbeats 40000000 in
theorem Write_any (w : World) (r : Roads) (a : Option Addr) (cap : Nat) (hs : StripsAt w a r.strips) (hm : r.strips.length ≤ maxLen) (htab : TabOk w) :
    Calls Tryz.prog 8 #[.agg #[.int .i64 r.days, .int .i64 r.stages, .slice a r.strips.length cap]] w fun e w' => e = .returned (.tuple #[.string ⟨(writeV r).1.toArray⟩, .int .i64 (writeV r).2]) ∧ Below w.heap.size w w' := by
  have hb0 : Below w.heap.size w (w.alloc (.cells #[.int .i64 r.days, .int .i64 r.stages, .slice a r.strips.length cap] 24)) := (Below.refl _ _).alloc (Nat.le_refl _) _
  have HC := Lib.hid (check_any r.days r.stages r.strips a cap _ (hs.below hb0) hm); clear hm
  have HS := Lib.hid (hs.below hb0)
  have HS0 := Lib.hid hs; clear hs
  have HT := Lib.hid (htab.below hb0)
  have HT0 := Lib.hid htab; clear htab
  have hx : (w.alloc (.cells #[.int .i64 r.days, .int .i64 r.stages, .slice a r.strips.length cap] 24)).heap[w.heap.size]? = some (.cells #[.int .i64 r.days, .int .i64 r.stages, .slice a r.strips.length cap] 24 (0, 0)) := heap_alloc_new _ _
  have x0 := cell_at hx (o := 0) rfl
  have x1 := cell_at hx (o := 1) rfl
  have x2 := cell_at hx (o := 2) rfl
  have HX := Lib.hid hx; clear hx
  go_enter Tryz.func8, Tryz.ntmps8
  go_wp2_with fail
  refine HC.out.mono ?_
  clear HC x0 x1 x2
  rintro e w1 ⟨rfl, hb1⟩
  have HX1 := Lib.hid (heap_below hb1 HX.out)
  have HS1 := Lib.hid (HS.out.below hb1)
  have HT1 := Lib.hid (HT.out.below hb1)
  have HB1 := Lib.hid (hb0.trans (hb1.mono hb0.size))
  clear hb0 hb1 HX HS HT
  by_cases hz : checkR r = 0
  · have hz' : (checkR ⟨r.days, r.stages, r.strips⟩ != 0) = false := by simpa using hz
    have HZ := Lib.hid hz
    have GG := Lib.hid ((good_iff (f := ⟨1, 1⟩)).2 ⟨hz, by decide⟩); clear hz
    have hbld := bld_fresh w1 72 5 HB1.out.size
    have hb2 : Below w1.heap.size w1 (w1.alloc (.cells #[.pointer none, .slice none 0 0] 72)) := (Below.refl _ _).alloc (Nat.le_refl _) _
    have HX2 := Lib.hid (heap_below hb2 HX1.out)
    have HS2 := Lib.hid (HS1.out.below hb2)
    have HTAB := Lib.hid (HT1.out.below hb2)
    have HB2 := Lib.hid (HB1.out.trans (hb2.mono HB1.out.size))
    have HSZ := Lib.hid (show w.heap.size ≤ (w1.alloc (.cells #[.pointer none, .slice none 0 0] 72)).heap.size from HB2.out.size)
    have HBW := Lib.hid (show w.heap.size < w1.heap.size from (Array.getElem?_eq_some_iff.1 HX1.out).1)
    clear hb2 HX1 HS1 HT1 HB1
    go_upto_region 5 with (fail)
    generalize (w1.alloc (.cells #[.pointer none, .slice none 0 0] 72)) = W2 at hbld HX2 HS2 HTAB HB2 HSZ ⊢
    generalize w1.heap.size = bb at hbld HBW ⊢
    have HBLD := Lib.hid hbld; clear hbld
    have x0 := cell_at HX2.out (o := 0) rfl
    have x1 := cell_at HX2.out (o := 1) rfl
    obtain ⟨hs1, hs2, hd1, hd2⟩ : 1 ≤ r.stages ∧ r.stages ≤ 6 ∧ 1 ≤ r.days ∧ r.days ≤ 10 := ⟨GG.out.s1, GG.out.s2, GG.out.d1, GG.out.d2⟩
    have hl1 := itoa_len r.stages (by omega) (by omega)
    have hl2 := itoa_len r.days (by omega) (by omega)
    generalize ha0 : (Act.mk _ _) = a0
    refine wp_region_last 10 (by kernel_rfl) (by kernel_rfl) (by kernel_rfl) (by kernel_rfl) [(13, 0), (14, 1), (15, 2), (16, 3), (17, 4), (18, 5), (19, 6), (20, 7), (21, 8), (22, 9)] (fun k => (#[.pointer (some ⟨w.heap.size, 1, none⟩), .int .i64 r.stages, .string (⟨(Lib.itoa r.stages).toArray⟩ : ByteArray), .string ((⟨#[114, 111, 97, 100, 115, 32]⟩ : ByteArray) ++ (⟨(Lib.itoa r.stages).toArray⟩ : ByteArray)), .string (((⟨#[114, 111, 97, 100, 115, 32]⟩ : ByteArray) ++ (⟨(Lib.itoa r.stages).toArray⟩ : ByteArray)) ++ (⟨#[32, 115, 116, 97, 103, 101, 115, 32]⟩ : ByteArray)), .pointer (some ⟨w.heap.size, 0, none⟩), .int .i64 r.days, .string (⟨(Lib.itoa r.days).toArray⟩ : ByteArray), .string ((((⟨#[114, 111, 97, 100, 115, 32]⟩ : ByteArray) ++ (⟨(Lib.itoa r.stages).toArray⟩ : ByteArray)) ++ (⟨#[32, 115, 116, 97, 103, 101, 115, 32]⟩ : ByteArray)) ++ (⟨(Lib.itoa r.days).toArray⟩ : ByteArray)), .string (((((⟨#[114, 111, 97, 100, 115, 32]⟩ : ByteArray) ++ (⟨(Lib.itoa r.stages).toArray⟩ : ByteArray)) ++ (⟨#[32, 115, 116, 97, 103, 101, 115, 32]⟩ : ByteArray)) ++ (⟨(Lib.itoa r.days).toArray⟩ : ByteArray)) ++ (⟨#[32, 100, 97, 121, 115, 10]⟩ : ByteArray))] : Array Value).getD k undef) (fun k => a0.tmps.getD ((#[13, 14, 15, 16, 17, 18, 19, 20, 21, 22] : Array Nat).getD k 0) undef) (fun W => Below W2.heap.size W2 W) (Below.refl _ _).drew ?_ ?_ ?_
    · intro y hy
      simp only [List.mem_cons, List.not_mem_nil, or_false] at hy
      rcases hy with rfl | rfl | rfl | rfl | rfl | rfl | rfl | rfl | rfl | rfl <;> rfl
    · intro k o hkm ho vs WW hW hd
      have hlt : ∀ k : Nat, k < 10 → k = 0 ∨ k = 1 ∨ k = 2 ∨ k = 3 ∨ k = 4 ∨ k = 5 ∨ k = 6 ∨ k = 7 ∨ k = 8 ∨ k = 9 := by decide
      replace x0 := ((bcell hW).1 _ _ (lt_of_cell x0)).trans x0
      replace x1 := ((bcell hW).1 _ _ (lt_of_cell x1)).trans x1
      have htw := HTAB.out.below hW
      subst ha0
      rcases hlt k hkm with rfl | rfl | rfl | rfl | rfl | rfl | rfl | rfl | rfl | rfl
      · obtain rfl := Option.some.inj ho
        clear hd
        refine wpOp_go rfl rfl (fun K hK => ?_)
        simp only [putV, Act.put, List.setIfInBounds_toArray, List.set_cons_zero, List.set_cons_succ]
        unfold Oper.wp
        go_simp
        refine hK _ _ ⟨?_, hW⟩
        simp [putV, updF, Act.put]
      · obtain rfl := Option.some.inj ho
        have e0 : vs 0 = .pointer (some ⟨w.heap.size, 1, none⟩) := hd 0 (waits_mem (by kernel_rfl))
        clear hd
        refine wpOp_go rfl rfl (fun K hK => ?_)
        simp only [putV, Act.put, List.setIfInBounds_toArray, List.set_cons_zero, List.set_cons_succ]
        unfold Oper.wp
        go_simp
        refine hK _ _ ⟨?_, hW⟩
        simp [putV, updF, Act.put, e0]
      · obtain rfl := Option.some.inj ho
        have e1 : vs 1 = .int .i64 r.stages := hd 1 (waits_mem (by kernel_rfl))
        clear hd
        refine wpOp_go rfl rfl (fun K hK => ?_)
        simp only [putV, Act.put, List.setIfInBounds_toArray, List.set_cons_zero, List.set_cons_succ]
        unfold Oper.wp
        go_simp
        refine (itoa_any r.stages (by omega) (by omega) WW htw).mono ?_
        rintro e w2 ⟨rfl, hb2⟩
        refine hK _ _ ⟨?_, Below.trans hW (hb2.mono hW.size)⟩
        simp [putV, updF, Act.put, e1]
      · obtain rfl := Option.some.inj ho
        have e2 : vs 2 = .string (⟨(Lib.itoa r.stages).toArray⟩ : ByteArray) := hd 2 (waits_mem (by kernel_rfl))
        clear hd
        refine wpOp_go rfl rfl (fun K hK => ?_)
        simp only [putV, Act.put, List.setIfInBounds_toArray, List.set_cons_zero, List.set_cons_succ]
        unfold Oper.wp
        go_simp
        rw [if_neg (by first | omega | (simp; omega)), Oper.upon_value]
        refine hK _ _ ⟨?_, hW⟩
        simp [putV, updF, Act.put, e2]
      · obtain rfl := Option.some.inj ho
        have e3 : vs 3 = .string ((⟨#[114, 111, 97, 100, 115, 32]⟩ : ByteArray) ++ (⟨(Lib.itoa r.stages).toArray⟩ : ByteArray)) := hd 3 (waits_mem (by kernel_rfl))
        clear hd
        refine wpOp_go rfl rfl (fun K hK => ?_)
        simp only [putV, Act.put, List.setIfInBounds_toArray, List.set_cons_zero, List.set_cons_succ]
        unfold Oper.wp
        go_simp
        rw [if_neg (by first | omega | (simp; omega)), Oper.upon_value]
        refine hK _ _ ⟨?_, hW⟩
        simp [putV, updF, Act.put, e3]
      · obtain rfl := Option.some.inj ho
        clear hd
        refine wpOp_go rfl rfl (fun K hK => ?_)
        simp only [putV, Act.put, List.setIfInBounds_toArray, List.set_cons_zero, List.set_cons_succ]
        unfold Oper.wp
        go_simp
        refine hK _ _ ⟨?_, hW⟩
        simp [putV, updF, Act.put]
      · obtain rfl := Option.some.inj ho
        have e5 : vs 5 = .pointer (some ⟨w.heap.size, 0, none⟩) := hd 5 (waits_mem (by kernel_rfl))
        clear hd
        refine wpOp_go rfl rfl (fun K hK => ?_)
        simp only [putV, Act.put, List.setIfInBounds_toArray, List.set_cons_zero, List.set_cons_succ]
        unfold Oper.wp
        go_simp
        refine hK _ _ ⟨?_, hW⟩
        simp [putV, updF, Act.put, e5]
      · obtain rfl := Option.some.inj ho
        have e6 : vs 6 = .int .i64 r.days := hd 6 (waits_mem (by kernel_rfl))
        clear hd
        refine wpOp_go rfl rfl (fun K hK => ?_)
        simp only [putV, Act.put, List.setIfInBounds_toArray, List.set_cons_zero, List.set_cons_succ]
        unfold Oper.wp
        go_simp
        refine (itoa_any r.days (by omega) (by omega) WW htw).mono ?_
        rintro e w2 ⟨rfl, hb2⟩
        refine hK _ _ ⟨?_, Below.trans hW (hb2.mono hW.size)⟩
        simp [putV, updF, Act.put, e6]
      · obtain rfl := Option.some.inj ho
        have e4 : vs 4 = .string (((⟨#[114, 111, 97, 100, 115, 32]⟩ : ByteArray) ++ (⟨(Lib.itoa r.stages).toArray⟩ : ByteArray)) ++ (⟨#[32, 115, 116, 97, 103, 101, 115, 32]⟩ : ByteArray)) := hd 4 (waits_mem (by kernel_rfl))
        have e7 : vs 7 = .string (⟨(Lib.itoa r.days).toArray⟩ : ByteArray) := hd 7 (waits_mem (by kernel_rfl))
        clear hd
        refine wpOp_go rfl rfl (fun K hK => ?_)
        simp only [putV, Act.put, List.setIfInBounds_toArray, List.set_cons_zero, List.set_cons_succ]
        unfold Oper.wp
        go_simp
        rw [if_neg (by first | omega | (simp; omega)), Oper.upon_value]
        refine hK _ _ ⟨?_, hW⟩
        simp [putV, updF, Act.put, e4, e7]
      · obtain rfl := Option.some.inj ho
        have e8 : vs 8 = .string ((((⟨#[114, 111, 97, 100, 115, 32]⟩ : ByteArray) ++ (⟨(Lib.itoa r.stages).toArray⟩ : ByteArray)) ++ (⟨#[32, 115, 116, 97, 103, 101, 115, 32]⟩ : ByteArray)) ++ (⟨(Lib.itoa r.days).toArray⟩ : ByteArray)) := hd 8 (waits_mem (by kernel_rfl))
        clear hd
        refine wpOp_go rfl rfl (fun K hK => ?_)
        simp only [putV, Act.put, List.setIfInBounds_toArray, List.set_cons_zero, List.set_cons_succ]
        unfold Oper.wp
        go_simp
        rw [if_neg (by first | omega | (simp; omega)), Oper.upon_value]
        refine hK _ _ ⟨?_, hW⟩
        simp [putV, updF, Act.put, e8]
    · intro vs WW hW hv
      have e9 : vs 9 = .string (((((⟨#[114, 111, 97, 100, 115, 32]⟩ : ByteArray) ++ (⟨(Lib.itoa r.stages).toArray⟩ : ByteArray)) ++ (⟨#[32, 115, 116, 97, 103, 101, 115, 32]⟩ : ByteArray)) ++ (⟨(Lib.itoa r.days).toArray⟩ : ByteArray)) ++ (⟨#[32, 100, 97, 121, 115, 10]⟩ : ByteArray)) := hv 9 (by omega)
      refine wpOp_go rfl rfl (fun K hK => ?_)
      subst ha0
      simp only [putV, Act.put, List.setIfInBounds_toArray, List.set_cons_zero, List.set_cons_succ]
      unfold Oper.wp
      go_simp
      refine (WriteString_k w.heap.size bb [] (headT r) _ ?_ WW (bld_below HBLD.out hW) ?_ ?_).mono ?_
      · exact ByteArray.ext (by simp [headT])
      · have := len_head GG.out; simp; omega
      · have := hW.size; have := HSZ.out; omega
      rintro e w3 ⟨⟨nn, rfl⟩, hB3, hb3, hk3⟩
      refine hK _ _ ?_
      clear x0 x1
      have HX3 := Lib.hid (kept_heap hk3 (heap_below hW HX2.out) (by have := HBW.out; omega) (by decide))
      have HW3 := Lib.hid ((HB2.out.trans (hW.mono HB2.out.size)).trans hb3)
      have HB3 := Lib.hid (show Lib.IsBuilderF 72 5 w.heap.size bb (Lib.byteCells (headT r ++ linesT (r.strips.take 0))) w3 from by simpa [linesT] using hB3)
      have HS3 := Lib.hid (HS0.out.below HW3.out)
      have HT3 := Lib.hid (HT0.out.below HW3.out)
      clear hB3 hb3 hk3 hv e9 hW HX2 HB2 HS2 HTAB HBLD HSZ hl1 hl2
      have x2 := cell_at HX3.out (o := 2) rfl
      obtain ⟨N, hN⟩ : ∃ N, r.strips.length = N := ⟨_, rfl⟩
      rw [hN] at x2
      have hN8 : N ≤ 8 := by have := GG.out.n8; omega
      have HN := Lib.hid hN; clear hN
      go_wp2_with fail
      clear x2
      go_loopw [27] (fun v27 wx => ∃ i : Nat, i ≤ N ∧ v27 = .int .i64 (i : Int) ∧ Lib.IsBuilderF 72 5 w.heap.size bb (Lib.byteCells (headT r ++ linesT (r.strips.take i))) wx ∧ wx.heap[w.heap.size]? = some (.cells #[.int .i64 r.days, .int .i64 r.stages, .slice a r.strips.length cap] 24 (0, 0)) ∧ Below w.heap.size w wx) (fun v _ => N - (intOf v).toNat)
      case atStart => exact ⟨0, Nat.zero_le _, rfl, HB3.out, HX3.out, HW3.out⟩
      case round =>
        obtain ⟨i, hi, rfl, hbi, hxi, hwi⟩ := hrel
        clear HB3 HX3 HW3 HS3 HT3
        have HBI := Lib.hid hbi; have HXI := Lib.hid hxi; have HWI := Lib.hid hwi; clear hbi hxi hwi
        by_cases hiN : i < N
        · have q1 : (i : Int) < (N : Int) := by omega
          have q0 : (0 : Int) ≤ (i : Int) := by omega
          have hlt : i < r.strips.length := by rw [HN.out]; exact hiN
          rcases HS0.out.below HWI.out with h0 | ⟨sb, so, ea, hsc⟩
          · rw [h0] at hlt; simp at hlt
          obtain ⟨s0, s1, s2, s3, s4, s5, s6⟩ := hsc i hlt
          have HLN := Lib.hid (linesT_next hlt)
          have HFI := Lib.hid (fineS GG.out (List.getElem_mem hlt))
          have HLL := Lib.hid (len_lines (r.strips.take i) fun y hy => fineS GG.out (List.mem_of_mem_take hy))
          have HLK := Lib.hid (show (r.strips.take i).length ≤ 8 by rw [List.length_take]; omega)
          generalize r.strips[i] = x at s0 s1 s2 s3 s4 s5 s6 HLN HFI
          clear hsc
          have hx7 : (wr.alloc (.cells #[.int .i64 x.A, .int .i64 x.B, .int .i64 x.L, .int .i64 x.W, .int .i64 x.K, .int .i64 x.X, .int .i64 x.Y] 63)).heap[wr.heap.size]? = some (.cells #[.int .i64 x.A, .int .i64 x.B, .int .i64 x.L, .int .i64 x.W, .int .i64 x.K, .int .i64 x.X, .int .i64 x.Y] 63 (0, 0)) := heap_alloc_new _ _
          have hb7 : Below wr.heap.size wr (wr.alloc (.cells #[.int .i64 x.A, .int .i64 x.B, .int .i64 x.L, .int .i64 x.W, .int .i64 x.K, .int .i64 x.X, .int .i64 x.Y] 63)) := (Below.refl _ _).alloc (Nat.le_refl _) _
          have HX7 := Lib.hid hx7; clear hx7
          have HXJ := Lib.hid (heap_below hb7 HXI.out)
          have HBLD := Lib.hid (bld_below HBI.out hb7)
          have HWJ := Lib.hid (HWI.out.trans (hb7.mono HWI.out.size))
          have HTAB := Lib.hid (HT0.out.below HWJ.out)
          have HSZ := Lib.hid HWJ.out.size
          have HBX := Lib.hid (show bb < wr.heap.size from HBI.out.elim (·.lt) (·.lt))
          clear HXI HBI HWI hb7
          go_upto_region 9 with (fail)
          clear s0 s1 s2 s3 s4 s5 s6
          cases ea
          generalize (wr.alloc (.cells #[.int .i64 x.A, .int .i64 x.B, .int .i64 x.L, .int .i64 x.W, .int .i64 x.K, .int .i64 x.X, .int .i64 x.Y] 63)) = W2 at HX7 HXJ HBLD HWJ HTAB HSZ ⊢
          generalize wr.heap.size = bx at HX7 HBX ⊢
          have x0 := cell_at HX7.out (o := 0) rfl
          have x1 := cell_at HX7.out (o := 1) rfl
          have x2 := cell_at HX7.out (o := 2) rfl
          have x3 := cell_at HX7.out (o := 3) rfl
          obtain ⟨⟨ha1, ha2⟩, ⟨hb1, hb2⟩, ⟨hc1, hc2⟩, ⟨hd1, hd2⟩, hX, hY, hKK⟩ := HFI.out
          have hl1 := itoa_len x.A (by omega) (by omega)
          have hl2 := itoa_len x.B (by omega) (by omega)
          have hl3 := itoa_len x.L (by omega) (by omega)
          have hl4 := itoa_len x.W (by omega) (by omega)
          generalize ha0 : (Act.mk _ _) = a0
          refine wp_region_last 19 (by kernel_rfl) (by kernel_rfl) (by kernel_rfl) (by kernel_rfl) [(31, 0), (32, 1), (33, 2), (34, 3), (35, 4), (36, 5), (37, 6), (38, 7), (39, 8), (40, 9), (41, 10), (42, 11), (43, 12), (44, 13), (45, 14), (46, 15), (47, 16), (48, 17), (49, 18)] (fun k => (#[.pointer (some ⟨bx, 0, none⟩), .int .i64 x.A, .string (⟨(Lib.itoa x.A).toArray⟩ : ByteArray), .string ((⟨(Lib.itoa x.A).toArray⟩ : ByteArray) ++ (⟨#[45]⟩ : ByteArray)), .pointer (some ⟨bx, 1, none⟩), .int .i64 x.B, .string (⟨(Lib.itoa x.B).toArray⟩ : ByteArray), .string (((⟨(Lib.itoa x.A).toArray⟩ : ByteArray) ++ (⟨#[45]⟩ : ByteArray)) ++ (⟨(Lib.itoa x.B).toArray⟩ : ByteArray)), .string ((((⟨(Lib.itoa x.A).toArray⟩ : ByteArray) ++ (⟨#[45]⟩ : ByteArray)) ++ (⟨(Lib.itoa x.B).toArray⟩ : ByteArray)) ++ (⟨#[32]⟩ : ByteArray)), .pointer (some ⟨bx, 2, none⟩), .int .i64 x.L, .string (⟨(Lib.itoa x.L).toArray⟩ : ByteArray), .string (((((⟨(Lib.itoa x.A).toArray⟩ : ByteArray) ++ (⟨#[45]⟩ : ByteArray)) ++ (⟨(Lib.itoa x.B).toArray⟩ : ByteArray)) ++ (⟨#[32]⟩ : ByteArray)) ++ (⟨(Lib.itoa x.L).toArray⟩ : ByteArray)), .string ((((((⟨(Lib.itoa x.A).toArray⟩ : ByteArray) ++ (⟨#[45]⟩ : ByteArray)) ++ (⟨(Lib.itoa x.B).toArray⟩ : ByteArray)) ++ (⟨#[32]⟩ : ByteArray)) ++ (⟨(Lib.itoa x.L).toArray⟩ : ByteArray)) ++ (⟨#[32, 108, 101, 97, 103, 117, 101, 115, 32]⟩ : ByteArray)), .pointer (some ⟨bx, 3, none⟩), .int .i64 x.W, .string (⟨(Lib.itoa x.W).toArray⟩ : ByteArray), .string (((((((⟨(Lib.itoa x.A).toArray⟩ : ByteArray) ++ (⟨#[45]⟩ : ByteArray)) ++ (⟨(Lib.itoa x.B).toArray⟩ : ByteArray)) ++ (⟨#[32]⟩ : ByteArray)) ++ (⟨(Lib.itoa x.L).toArray⟩ : ByteArray)) ++ (⟨#[32, 108, 101, 97, 103, 117, 101, 115, 32]⟩ : ByteArray)) ++ (⟨(Lib.itoa x.W).toArray⟩ : ByteArray)), .string ((((((((⟨(Lib.itoa x.A).toArray⟩ : ByteArray) ++ (⟨#[45]⟩ : ByteArray)) ++ (⟨(Lib.itoa x.B).toArray⟩ : ByteArray)) ++ (⟨#[32]⟩ : ByteArray)) ++ (⟨(Lib.itoa x.L).toArray⟩ : ByteArray)) ++ (⟨#[32, 108, 101, 97, 103, 117, 101, 115, 32]⟩ : ByteArray)) ++ (⟨(Lib.itoa x.W).toArray⟩ : ByteArray)) ++ (⟨#[32, 119, 105, 100, 101]⟩ : ByteArray))] : Array Value).getD k undef) (fun k => a0.tmps.getD ((#[31, 32, 33, 34, 35, 36, 37, 38, 39, 40, 41, 42, 43, 44, 45, 46, 47, 48, 49] : Array Nat).getD k 0) undef) (fun W => Below W2.heap.size W2 W) (Below.refl _ _).drew ?_ ?_ ?_
          · intro y hy
            simp only [List.mem_cons, List.not_mem_nil, or_false] at hy
            rcases hy with rfl | rfl | rfl | rfl | rfl | rfl | rfl | rfl | rfl | rfl | rfl | rfl | rfl | rfl | rfl | rfl | rfl | rfl | rfl <;> rfl
          · intro k o hkm ho vs WW hW hd
            have hlt : ∀ k : Nat, k < 19 → k = 0 ∨ k = 1 ∨ k = 2 ∨ k = 3 ∨ k = 4 ∨ k = 5 ∨ k = 6 ∨ k = 7 ∨ k = 8 ∨ k = 9 ∨ k = 10 ∨ k = 11 ∨ k = 12 ∨ k = 13 ∨ k = 14 ∨ k = 15 ∨ k = 16 ∨ k = 17 ∨ k = 18 := by decide
            replace x0 := ((bcell hW).1 _ _ (lt_of_cell x0)).trans x0
            replace x1 := ((bcell hW).1 _ _ (lt_of_cell x1)).trans x1
            replace x2 := ((bcell hW).1 _ _ (lt_of_cell x2)).trans x2
            replace x3 := ((bcell hW).1 _ _ (lt_of_cell x3)).trans x3
            have htw := HTAB.out.below hW
            subst ha0
            rcases hlt k hkm with rfl | rfl | rfl | rfl | rfl | rfl | rfl | rfl | rfl | rfl | rfl | rfl | rfl | rfl | rfl | rfl | rfl | rfl | rfl
            · obtain rfl := Option.some.inj ho
              clear hd
              refine wpOp_go rfl rfl (fun K hK => ?_)
              simp only [putV, Act.put, List.setIfInBounds_toArray, List.set_cons_zero, List.set_cons_succ]
              unfold Oper.wp
              go_simp
              refine hK _ _ ⟨?_, hW⟩
              simp [putV, updF, Act.put]
            · obtain rfl := Option.some.inj ho
              have e0 : vs 0 = .pointer (some ⟨bx, 0, none⟩) := hd 0 (waits_mem (by kernel_rfl))
              clear hd
              refine wpOp_go rfl rfl (fun K hK => ?_)
              simp only [putV, Act.put, List.setIfInBounds_toArray, List.set_cons_zero, List.set_cons_succ]
              unfold Oper.wp
              go_simp
              refine hK _ _ ⟨?_, hW⟩
              simp [putV, updF, Act.put, e0]
            · obtain rfl := Option.some.inj ho
              have e1 : vs 1 = .int .i64 x.A := hd 1 (waits_mem (by kernel_rfl))
              clear hd
              refine wpOp_go rfl rfl (fun K hK => ?_)
              simp only [putV, Act.put, List.setIfInBounds_toArray, List.set_cons_zero, List.set_cons_succ]
              unfold Oper.wp
              go_simp
              refine (itoa_any x.A (by omega) (by omega) WW htw).mono ?_
              rintro e w2 ⟨rfl, hb2⟩
              refine hK _ _ ⟨?_, Below.trans hW (hb2.mono hW.size)⟩
              simp [putV, updF, Act.put, e1]
            · obtain rfl := Option.some.inj ho
              have e2 : vs 2 = .string (⟨(Lib.itoa x.A).toArray⟩ : ByteArray) := hd 2 (waits_mem (by kernel_rfl))
              clear hd
              refine wpOp_go rfl rfl (fun K hK => ?_)
              simp only [putV, Act.put, List.setIfInBounds_toArray, List.set_cons_zero, List.set_cons_succ]
              unfold Oper.wp
              go_simp
              rw [if_neg (by first | omega | (simp; omega)), Oper.upon_value]
              refine hK _ _ ⟨?_, hW⟩
              simp [putV, updF, Act.put, e2]
            · obtain rfl := Option.some.inj ho
              clear hd
              refine wpOp_go rfl rfl (fun K hK => ?_)
              simp only [putV, Act.put, List.setIfInBounds_toArray, List.set_cons_zero, List.set_cons_succ]
              unfold Oper.wp
              go_simp
              refine hK _ _ ⟨?_, hW⟩
              simp [putV, updF, Act.put]
            · obtain rfl := Option.some.inj ho
              have e4 : vs 4 = .pointer (some ⟨bx, 1, none⟩) := hd 4 (waits_mem (by kernel_rfl))
              clear hd
              refine wpOp_go rfl rfl (fun K hK => ?_)
              simp only [putV, Act.put, List.setIfInBounds_toArray, List.set_cons_zero, List.set_cons_succ]
              unfold Oper.wp
              go_simp
              refine hK _ _ ⟨?_, hW⟩
              simp [putV, updF, Act.put, e4]
            · obtain rfl := Option.some.inj ho
              have e5 : vs 5 = .int .i64 x.B := hd 5 (waits_mem (by kernel_rfl))
              clear hd
              refine wpOp_go rfl rfl (fun K hK => ?_)
              simp only [putV, Act.put, List.setIfInBounds_toArray, List.set_cons_zero, List.set_cons_succ]
              unfold Oper.wp
              go_simp
              refine (itoa_any x.B (by omega) (by omega) WW htw).mono ?_
              rintro e w2 ⟨rfl, hb2⟩
              refine hK _ _ ⟨?_, Below.trans hW (hb2.mono hW.size)⟩
              simp [putV, updF, Act.put, e5]
            · obtain rfl := Option.some.inj ho
              have e3 : vs 3 = .string ((⟨(Lib.itoa x.A).toArray⟩ : ByteArray) ++ (⟨#[45]⟩ : ByteArray)) := hd 3 (waits_mem (by kernel_rfl))
              have e6 : vs 6 = .string (⟨(Lib.itoa x.B).toArray⟩ : ByteArray) := hd 6 (waits_mem (by kernel_rfl))
              clear hd
              refine wpOp_go rfl rfl (fun K hK => ?_)
              simp only [putV, Act.put, List.setIfInBounds_toArray, List.set_cons_zero, List.set_cons_succ]
              unfold Oper.wp
              go_simp
              rw [if_neg (by first | omega | (simp; omega)), Oper.upon_value]
              refine hK _ _ ⟨?_, hW⟩
              simp [putV, updF, Act.put, e3, e6]
            · obtain rfl := Option.some.inj ho
              have e7 : vs 7 = .string (((⟨(Lib.itoa x.A).toArray⟩ : ByteArray) ++ (⟨#[45]⟩ : ByteArray)) ++ (⟨(Lib.itoa x.B).toArray⟩ : ByteArray)) := hd 7 (waits_mem (by kernel_rfl))
              clear hd
              refine wpOp_go rfl rfl (fun K hK => ?_)
              simp only [putV, Act.put, List.setIfInBounds_toArray, List.set_cons_zero, List.set_cons_succ]
              unfold Oper.wp
              go_simp
              rw [if_neg (by first | omega | (simp; omega)), Oper.upon_value]
              refine hK _ _ ⟨?_, hW⟩
              simp [putV, updF, Act.put, e7]
            · obtain rfl := Option.some.inj ho
              clear hd
              refine wpOp_go rfl rfl (fun K hK => ?_)
              simp only [putV, Act.put, List.setIfInBounds_toArray, List.set_cons_zero, List.set_cons_succ]
              unfold Oper.wp
              go_simp
              refine hK _ _ ⟨?_, hW⟩
              simp [putV, updF, Act.put]
            · obtain rfl := Option.some.inj ho
              have e9 : vs 9 = .pointer (some ⟨bx, 2, none⟩) := hd 9 (waits_mem (by kernel_rfl))
              clear hd
              refine wpOp_go rfl rfl (fun K hK => ?_)
              simp only [putV, Act.put, List.setIfInBounds_toArray, List.set_cons_zero, List.set_cons_succ]
              unfold Oper.wp
              go_simp
              refine hK _ _ ⟨?_, hW⟩
              simp [putV, updF, Act.put, e9]
            · obtain rfl := Option.some.inj ho
              have e10 : vs 10 = .int .i64 x.L := hd 10 (waits_mem (by kernel_rfl))
              clear hd
              refine wpOp_go rfl rfl (fun K hK => ?_)
              simp only [putV, Act.put, List.setIfInBounds_toArray, List.set_cons_zero, List.set_cons_succ]
              unfold Oper.wp
              go_simp
              refine (itoa_any x.L (by omega) (by omega) WW htw).mono ?_
              rintro e w2 ⟨rfl, hb2⟩
              refine hK _ _ ⟨?_, Below.trans hW (hb2.mono hW.size)⟩
              simp [putV, updF, Act.put, e10]
            · obtain rfl := Option.some.inj ho
              have e8 : vs 8 = .string ((((⟨(Lib.itoa x.A).toArray⟩ : ByteArray) ++ (⟨#[45]⟩ : ByteArray)) ++ (⟨(Lib.itoa x.B).toArray⟩ : ByteArray)) ++ (⟨#[32]⟩ : ByteArray)) := hd 8 (waits_mem (by kernel_rfl))
              have e11 : vs 11 = .string (⟨(Lib.itoa x.L).toArray⟩ : ByteArray) := hd 11 (waits_mem (by kernel_rfl))
              clear hd
              refine wpOp_go rfl rfl (fun K hK => ?_)
              simp only [putV, Act.put, List.setIfInBounds_toArray, List.set_cons_zero, List.set_cons_succ]
              unfold Oper.wp
              go_simp
              rw [if_neg (by first | omega | (simp; omega)), Oper.upon_value]
              refine hK _ _ ⟨?_, hW⟩
              simp [putV, updF, Act.put, e8, e11]
            · obtain rfl := Option.some.inj ho
              have e12 : vs 12 = .string (((((⟨(Lib.itoa x.A).toArray⟩ : ByteArray) ++ (⟨#[45]⟩ : ByteArray)) ++ (⟨(Lib.itoa x.B).toArray⟩ : ByteArray)) ++ (⟨#[32]⟩ : ByteArray)) ++ (⟨(Lib.itoa x.L).toArray⟩ : ByteArray)) := hd 12 (waits_mem (by kernel_rfl))
              clear hd
              refine wpOp_go rfl rfl (fun K hK => ?_)
              simp only [putV, Act.put, List.setIfInBounds_toArray, List.set_cons_zero, List.set_cons_succ]
              unfold Oper.wp
              go_simp
              rw [if_neg (by first | omega | (simp; omega)), Oper.upon_value]
              refine hK _ _ ⟨?_, hW⟩
              simp [putV, updF, Act.put, e12]
            · obtain rfl := Option.some.inj ho
              clear hd
              refine wpOp_go rfl rfl (fun K hK => ?_)
              simp only [putV, Act.put, List.setIfInBounds_toArray, List.set_cons_zero, List.set_cons_succ]
              unfold Oper.wp
              go_simp
              refine hK _ _ ⟨?_, hW⟩
              simp [putV, updF, Act.put]
            · obtain rfl := Option.some.inj ho
              have e14 : vs 14 = .pointer (some ⟨bx, 3, none⟩) := hd 14 (waits_mem (by kernel_rfl))
              clear hd
              refine wpOp_go rfl rfl (fun K hK => ?_)
              simp only [putV, Act.put, List.setIfInBounds_toArray, List.set_cons_zero, List.set_cons_succ]
              unfold Oper.wp
              go_simp
              refine hK _ _ ⟨?_, hW⟩
              simp [putV, updF, Act.put, e14]
            · obtain rfl := Option.some.inj ho
              have e15 : vs 15 = .int .i64 x.W := hd 15 (waits_mem (by kernel_rfl))
              clear hd
              refine wpOp_go rfl rfl (fun K hK => ?_)
              simp only [putV, Act.put, List.setIfInBounds_toArray, List.set_cons_zero, List.set_cons_succ]
              unfold Oper.wp
              go_simp
              refine (itoa_any x.W (by omega) (by omega) WW htw).mono ?_
              rintro e w2 ⟨rfl, hb2⟩
              refine hK _ _ ⟨?_, Below.trans hW (hb2.mono hW.size)⟩
              simp [putV, updF, Act.put, e15]
            · obtain rfl := Option.some.inj ho
              have e13 : vs 13 = .string ((((((⟨(Lib.itoa x.A).toArray⟩ : ByteArray) ++ (⟨#[45]⟩ : ByteArray)) ++ (⟨(Lib.itoa x.B).toArray⟩ : ByteArray)) ++ (⟨#[32]⟩ : ByteArray)) ++ (⟨(Lib.itoa x.L).toArray⟩ : ByteArray)) ++ (⟨#[32, 108, 101, 97, 103, 117, 101, 115, 32]⟩ : ByteArray)) := hd 13 (waits_mem (by kernel_rfl))
              have e16 : vs 16 = .string (⟨(Lib.itoa x.W).toArray⟩ : ByteArray) := hd 16 (waits_mem (by kernel_rfl))
              clear hd
              refine wpOp_go rfl rfl (fun K hK => ?_)
              simp only [putV, Act.put, List.setIfInBounds_toArray, List.set_cons_zero, List.set_cons_succ]
              unfold Oper.wp
              go_simp
              rw [if_neg (by first | omega | (simp; omega)), Oper.upon_value]
              refine hK _ _ ⟨?_, hW⟩
              simp [putV, updF, Act.put, e13, e16]
            · obtain rfl := Option.some.inj ho
              have e17 : vs 17 = .string (((((((⟨(Lib.itoa x.A).toArray⟩ : ByteArray) ++ (⟨#[45]⟩ : ByteArray)) ++ (⟨(Lib.itoa x.B).toArray⟩ : ByteArray)) ++ (⟨#[32]⟩ : ByteArray)) ++ (⟨(Lib.itoa x.L).toArray⟩ : ByteArray)) ++ (⟨#[32, 108, 101, 97, 103, 117, 101, 115, 32]⟩ : ByteArray)) ++ (⟨(Lib.itoa x.W).toArray⟩ : ByteArray)) := hd 17 (waits_mem (by kernel_rfl))
              clear hd
              refine wpOp_go rfl rfl (fun K hK => ?_)
              simp only [putV, Act.put, List.setIfInBounds_toArray, List.set_cons_zero, List.set_cons_succ]
              unfold Oper.wp
              go_simp
              rw [if_neg (by first | omega | (simp; omega)), Oper.upon_value]
              refine hK _ _ ⟨?_, hW⟩
              simp [putV, updF, Act.put, e17]
          · intro vs WW hW hv
            have e18 : vs 18 = .string ((((((((⟨(Lib.itoa x.A).toArray⟩ : ByteArray) ++ (⟨#[45]⟩ : ByteArray)) ++ (⟨(Lib.itoa x.B).toArray⟩ : ByteArray)) ++ (⟨#[32]⟩ : ByteArray)) ++ (⟨(Lib.itoa x.L).toArray⟩ : ByteArray)) ++ (⟨#[32, 108, 101, 97, 103, 117, 101, 115, 32]⟩ : ByteArray)) ++ (⟨(Lib.itoa x.W).toArray⟩ : ByteArray)) ++ (⟨#[32, 119, 105, 100, 101]⟩ : ByteArray)) := hv 18 (by omega)
            refine wpOp_go rfl rfl (fun K hK => ?_)
            subst ha0
            simp only [putV, Act.put, List.setIfInBounds_toArray, List.set_cons_zero, List.set_cons_succ]
            unfold Oper.wp
            go_simp
            refine (WriteString_k w.heap.size bb (headT r ++ linesT (r.strips.take i)) (frontT x) _ ?_ WW (bld_below HBLD.out hW) ?_ ?_).mono ?_
            · exact ByteArray.ext (by simp [frontT])
            · have h1 := len_head GG.out; have h2 := HLL.out; have h3 := HLK.out; have h4 := len_front HFI.out; rw [List.length_append]; omega
            · have := hW.size; have := HSZ.out; omega
            rintro e w3 ⟨⟨nn, rfl⟩, hB3, hb3, hk3⟩
            refine hK _ _ ?_
            have HX7a := Lib.hid (kept_heap hk3 (heap_below hW HX7.out) (by have := HBX.out; omega) (by decide))
            have HXJa := Lib.hid (kept_heap hk3 (heap_below hW HXJ.out) (by have := HBW.out; omega) (by decide))
            have HWJa := Lib.hid ((HWJ.out.trans (hW.mono HWJ.out.size)).trans hb3)
            have HBDa := Lib.hid hB3
            clear hB3 hb3 hk3 hv e18 hW HX7 HXJ HWJ HTAB HSZ HBLD
            clear x0 x1 x2 x3 hl1 hl2 hl3 hl4
            have y4 := cell_at HX7a.out (o := 4) rfl
            rcases hKK with hKK | hKK | hKK | hKK <;> rw [hKK] at y4 <;> have HKK := Lib.hid hKK <;> clear hKK
            · clear ha1 ha2 hb1 hb2 hc1 hc2 hd1 hd2 hX hY
              go_wp2_with fail
              refine (WriteString_k w.heap.size bb (headT r ++ linesT (r.strips.take i) ++ frontT x) [10] _ rfl _ HBDa.out ?_ ?_).mono ?_
              · have h1 := len_head GG.out; have h2 := HLL.out; have h3 := HLK.out; have h4 := len_front HFI.out; have h5 := len_kind HFI.out; simp only [List.length_append, List.length_cons, List.length_nil]; omega
              · exact HWJa.out.size
              rintro e w5 ⟨⟨nn, rfl⟩, hB5, hb5, hk5⟩
              have HB5 := Lib.hid (show Lib.IsBuilderF 72 5 w.heap.size bb (Lib.byteCells (headT r ++ linesT (r.strips.take (i + 1)))) w5 by
                rw [HLN.out, show headT r ++ (linesT (r.strips.take i) ++ stripT x) = (headT r ++ linesT (r.strips.take i) ++ frontT x) ++ [10] by simp [stripT, kindT, HKK.out]]
                exact hB5)
              have HX5 := Lib.hid (kept_heap hk5 HXJa.out (by have := HBW.out; omega) (by decide))
              have HW5 := Lib.hid (HWJa.out.trans hb5)
              clear hB5 hb5 hk5 HX7a HXJa HWJa HBDa
              go_wp2_with fail
              exact ⟨⟨i + 1, by omega, by go_num, HB5.out, HX5.out, HW5.out⟩, by simp [intOf]; omega⟩
            · have HTAB := Lib.hid (HT0.out.below HWJa.out)
              have HSZ := Lib.hid HWJa.out.size
              have HBLD := HBDa
              obtain ⟨hx1, hx2⟩ := hX; obtain ⟨hy1, hy2⟩ := hY
              clear ha1 ha2 hb1 hb2 hc1 hc2 hd1 hd2
              have x5 := cell_at HX7a.out (o := 5) rfl
              have x6 := cell_at HX7a.out (o := 6) rfl
              have hl5 := itoa_len x.X hx1 hx2
              have hl6 := itoa_len x.Y hy1 hy2
              go_upto_region 12 with (fail)
              clear y4
              generalize ha0 : (Act.mk _ _) = a0
              refine wp_region_last 9 (by kernel_rfl) (by kernel_rfl) (by kernel_rfl) (by kernel_rfl) [(55, 0), (56, 1), (57, 2), (58, 3), (59, 4), (60, 5), (61, 6), (62, 7), (63, 8)] (fun k => (#[.pointer (some ⟨bx, 5, none⟩), .int .i64 x.X, .string (⟨(Lib.itoa x.X).toArray⟩ : ByteArray), .string ((⟨#[32, 112, 97, 115, 115, 32]⟩ : ByteArray) ++ (⟨(Lib.itoa x.X).toArray⟩ : ByteArray)), .string (((⟨#[32, 112, 97, 115, 115, 32]⟩ : ByteArray) ++ (⟨(Lib.itoa x.X).toArray⟩ : ByteArray)) ++ (⟨#[45]⟩ : ByteArray)), .pointer (some ⟨bx, 6, none⟩), .int .i64 x.Y, .string (⟨(Lib.itoa x.Y).toArray⟩ : ByteArray), .string ((((⟨#[32, 112, 97, 115, 115, 32]⟩ : ByteArray) ++ (⟨(Lib.itoa x.X).toArray⟩ : ByteArray)) ++ (⟨#[45]⟩ : ByteArray)) ++ (⟨(Lib.itoa x.Y).toArray⟩ : ByteArray))] : Array Value).getD k undef) (fun k => a0.tmps.getD ((#[55, 56, 57, 58, 59, 60, 61, 62, 63] : Array Nat).getD k 0) undef) (fun W => Below w3.heap.size w3 W) (Below.refl _ _).drew ?_ ?_ ?_
              · intro y hy
                simp only [List.mem_cons, List.not_mem_nil, or_false] at hy
                rcases hy with rfl | rfl | rfl | rfl | rfl | rfl | rfl | rfl | rfl <;> rfl
              · intro k o hkm ho vs WW hW hd
                have hlt : ∀ k : Nat, k < 9 → k = 0 ∨ k = 1 ∨ k = 2 ∨ k = 3 ∨ k = 4 ∨ k = 5 ∨ k = 6 ∨ k = 7 ∨ k = 8 := by decide
                replace x5 := ((bcell hW).1 _ _ (lt_of_cell x5)).trans x5
                replace x6 := ((bcell hW).1 _ _ (lt_of_cell x6)).trans x6
                have htw := HTAB.out.below hW
                subst ha0
                rcases hlt k hkm with rfl | rfl | rfl | rfl | rfl | rfl | rfl | rfl | rfl
                · obtain rfl := Option.some.inj ho
                  clear hd
                  refine wpOp_go rfl rfl (fun K hK => ?_)
                  simp only [putV, Act.put, List.setIfInBounds_toArray, List.set_cons_zero, List.set_cons_succ]
                  unfold Oper.wp
                  go_simp
                  refine hK _ _ ⟨?_, hW⟩
                  simp [putV, updF, Act.put]
                · obtain rfl := Option.some.inj ho
                  have e0 : vs 0 = .pointer (some ⟨bx, 5, none⟩) := hd 0 (waits_mem (by kernel_rfl))
                  clear hd
                  refine wpOp_go rfl rfl (fun K hK => ?_)
                  simp only [putV, Act.put, List.setIfInBounds_toArray, List.set_cons_zero, List.set_cons_succ]
                  unfold Oper.wp
                  go_simp
                  refine hK _ _ ⟨?_, hW⟩
                  simp [putV, updF, Act.put, e0]
                · obtain rfl := Option.some.inj ho
                  have e1 : vs 1 = .int .i64 x.X := hd 1 (waits_mem (by kernel_rfl))
                  clear hd
                  refine wpOp_go rfl rfl (fun K hK => ?_)
                  simp only [putV, Act.put, List.setIfInBounds_toArray, List.set_cons_zero, List.set_cons_succ]
                  unfold Oper.wp
                  go_simp
                  refine (itoa_any x.X (by omega) (by omega) WW htw).mono ?_
                  rintro e w2 ⟨rfl, hb2⟩
                  refine hK _ _ ⟨?_, Below.trans hW (hb2.mono hW.size)⟩
                  simp [putV, updF, Act.put, e1]
                · obtain rfl := Option.some.inj ho
                  have e2 : vs 2 = .string (⟨(Lib.itoa x.X).toArray⟩ : ByteArray) := hd 2 (waits_mem (by kernel_rfl))
                  clear hd
                  refine wpOp_go rfl rfl (fun K hK => ?_)
                  simp only [putV, Act.put, List.setIfInBounds_toArray, List.set_cons_zero, List.set_cons_succ]
                  unfold Oper.wp
                  go_simp
                  rw [if_neg (by first | omega | (simp; omega)), Oper.upon_value]
                  refine hK _ _ ⟨?_, hW⟩
                  simp [putV, updF, Act.put, e2]
                · obtain rfl := Option.some.inj ho
                  have e3 : vs 3 = .string ((⟨#[32, 112, 97, 115, 115, 32]⟩ : ByteArray) ++ (⟨(Lib.itoa x.X).toArray⟩ : ByteArray)) := hd 3 (waits_mem (by kernel_rfl))
                  clear hd
                  refine wpOp_go rfl rfl (fun K hK => ?_)
                  simp only [putV, Act.put, List.setIfInBounds_toArray, List.set_cons_zero, List.set_cons_succ]
                  unfold Oper.wp
                  go_simp
                  rw [if_neg (by first | omega | (simp; omega)), Oper.upon_value]
                  refine hK _ _ ⟨?_, hW⟩
                  simp [putV, updF, Act.put, e3]
                · obtain rfl := Option.some.inj ho
                  clear hd
                  refine wpOp_go rfl rfl (fun K hK => ?_)
                  simp only [putV, Act.put, List.setIfInBounds_toArray, List.set_cons_zero, List.set_cons_succ]
                  unfold Oper.wp
                  go_simp
                  refine hK _ _ ⟨?_, hW⟩
                  simp [putV, updF, Act.put]
                · obtain rfl := Option.some.inj ho
                  have e5 : vs 5 = .pointer (some ⟨bx, 6, none⟩) := hd 5 (waits_mem (by kernel_rfl))
                  clear hd
                  refine wpOp_go rfl rfl (fun K hK => ?_)
                  simp only [putV, Act.put, List.setIfInBounds_toArray, List.set_cons_zero, List.set_cons_succ]
                  unfold Oper.wp
                  go_simp
                  refine hK _ _ ⟨?_, hW⟩
                  simp [putV, updF, Act.put, e5]
                · obtain rfl := Option.some.inj ho
                  have e6 : vs 6 = .int .i64 x.Y := hd 6 (waits_mem (by kernel_rfl))
                  clear hd
                  refine wpOp_go rfl rfl (fun K hK => ?_)
                  simp only [putV, Act.put, List.setIfInBounds_toArray, List.set_cons_zero, List.set_cons_succ]
                  unfold Oper.wp
                  go_simp
                  refine (itoa_any x.Y (by omega) (by omega) WW htw).mono ?_
                  rintro e w2 ⟨rfl, hb2⟩
                  refine hK _ _ ⟨?_, Below.trans hW (hb2.mono hW.size)⟩
                  simp [putV, updF, Act.put, e6]
                · obtain rfl := Option.some.inj ho
                  have e4 : vs 4 = .string (((⟨#[32, 112, 97, 115, 115, 32]⟩ : ByteArray) ++ (⟨(Lib.itoa x.X).toArray⟩ : ByteArray)) ++ (⟨#[45]⟩ : ByteArray)) := hd 4 (waits_mem (by kernel_rfl))
                  have e7 : vs 7 = .string (⟨(Lib.itoa x.Y).toArray⟩ : ByteArray) := hd 7 (waits_mem (by kernel_rfl))
                  clear hd
                  refine wpOp_go rfl rfl (fun K hK => ?_)
                  simp only [putV, Act.put, List.setIfInBounds_toArray, List.set_cons_zero, List.set_cons_succ]
                  unfold Oper.wp
                  go_simp
                  rw [if_neg (by first | omega | (simp; omega)), Oper.upon_value]
                  refine hK _ _ ⟨?_, hW⟩
                  simp [putV, updF, Act.put, e4, e7]
              · intro vs WW hW hv
                have e8 : vs 8 = .string ((((⟨#[32, 112, 97, 115, 115, 32]⟩ : ByteArray) ++ (⟨(Lib.itoa x.X).toArray⟩ : ByteArray)) ++ (⟨#[45]⟩ : ByteArray)) ++ (⟨(Lib.itoa x.Y).toArray⟩ : ByteArray)) := hv 8 (by omega)
                refine wpOp_go rfl rfl (fun K hK => ?_)
                subst ha0
                simp only [putV, Act.put, List.setIfInBounds_toArray, List.set_cons_zero, List.set_cons_succ]
                unfold Oper.wp
                go_simp
                refine (WriteString_k w.heap.size bb (headT r ++ linesT (r.strips.take i) ++ frontT x) (kindT x) _ ?_ WW (bld_below HBLD.out hW) ?_ ?_).mono ?_
                · exact ByteArray.ext (by simp [kindT, HKK.out])
                · have h1 := len_head GG.out; have h2 := HLL.out; have h3 := HLK.out; have h4 := len_front HFI.out; have h5 := len_kind HFI.out; rw [List.length_append, List.length_append]; omega
                · have := hW.size; have := HSZ.out; omega
                rintro e w3 ⟨⟨nn, rfl⟩, hB3, hb3, hk3⟩
                refine hK _ _ ?_
                have HX7ab := Lib.hid (kept_heap hk3 (heap_below hW HX7a.out) (by have := HBX.out; omega) (by decide))
                have HXJab := Lib.hid (kept_heap hk3 (heap_below hW HXJa.out) (by have := HBW.out; omega) (by decide))
                have HWJab := Lib.hid ((HWJa.out.trans (hW.mono HWJa.out.size)).trans hb3)
                have HBDab := Lib.hid hB3
                clear hB3 hb3 hk3 hv e8 hW HX7a HXJa HWJa HTAB HSZ HBLD
                clear x5 x6 hl5 hl6 HBDa
                go_wp2_with fail
                refine (WriteString_k w.heap.size bb ((headT r ++ linesT (r.strips.take i) ++ frontT x) ++ kindT x) [10] _ rfl _ HBDab.out ?_ ?_).mono ?_
                · have h1 := len_head GG.out; have h2 := HLL.out; have h3 := HLK.out; have h4 := len_front HFI.out; have h5 := len_kind HFI.out; simp only [List.length_append, List.length_cons, List.length_nil]; omega
                · exact HWJab.out.size
                rintro e w5 ⟨⟨nn, rfl⟩, hB5, hb5, hk5⟩
                have HB5 := Lib.hid (show Lib.IsBuilderF 72 5 w.heap.size bb (Lib.byteCells (headT r ++ linesT (r.strips.take (i + 1)))) w5 by
                  rw [HLN.out, show headT r ++ (linesT (r.strips.take i) ++ stripT x) = ((headT r ++ linesT (r.strips.take i) ++ frontT x) ++ kindT x) ++ [10] by simp [stripT]]
                  exact hB5)
                have HX5 := Lib.hid (kept_heap hk5 HXJab.out (by have := HBW.out; omega) (by decide))
                have HW5 := Lib.hid (HWJab.out.trans hb5)
                clear hB5 hb5 hk5 HX7ab HXJab HWJab HBDab
                go_wp2_with fail
                exact ⟨⟨i + 1, by omega, by go_num, HB5.out, HX5.out, HW5.out⟩, by simp [intOf]; omega⟩
            · have HTAB := Lib.hid (HT0.out.below HWJa.out)
              have HSZ := Lib.hid HWJa.out.size
              have HBLD := HBDa
              obtain ⟨hx1, hx2⟩ := hX; obtain ⟨hy1, hy2⟩ := hY
              clear ha1 ha2 hb1 hb2 hc1 hc2 hd1 hd2
              have x5 := cell_at HX7a.out (o := 5) rfl
              have x6 := cell_at HX7a.out (o := 6) rfl
              have hl5 := itoa_len x.X hx1 hx2
              have hl6 := itoa_len x.Y hy1 hy2
              go_upto_region 14 with (fail)
              clear y4
              generalize ha0 : (Act.mk _ _) = a0
              refine wp_region_last 9 (by kernel_rfl) (by kernel_rfl) (by kernel_rfl) (by kernel_rfl) [(67, 0), (68, 1), (69, 2), (70, 3), (71, 4), (72, 5), (73, 6), (74, 7), (75, 8)] (fun k => (#[.pointer (some ⟨bx, 5, none⟩), .int .i64 x.X, .string (⟨(Lib.itoa x.X).toArray⟩ : ByteArray), .string ((⟨#[32, 102, 111, 114, 100, 32]⟩ : ByteArray) ++ (⟨(Lib.itoa x.X).toArray⟩ : ByteArray)), .string (((⟨#[32, 102, 111, 114, 100, 32]⟩ : ByteArray) ++ (⟨(Lib.itoa x.X).toArray⟩ : ByteArray)) ++ (⟨#[32]⟩ : ByteArray)), .pointer (some ⟨bx, 6, none⟩), .int .i64 x.Y, .string (⟨(Lib.itoa x.Y).toArray⟩ : ByteArray), .string ((((⟨#[32, 102, 111, 114, 100, 32]⟩ : ByteArray) ++ (⟨(Lib.itoa x.X).toArray⟩ : ByteArray)) ++ (⟨#[32]⟩ : ByteArray)) ++ (⟨(Lib.itoa x.Y).toArray⟩ : ByteArray))] : Array Value).getD k undef) (fun k => a0.tmps.getD ((#[67, 68, 69, 70, 71, 72, 73, 74, 75] : Array Nat).getD k 0) undef) (fun W => Below w3.heap.size w3 W) (Below.refl _ _).drew ?_ ?_ ?_
              · intro y hy
                simp only [List.mem_cons, List.not_mem_nil, or_false] at hy
                rcases hy with rfl | rfl | rfl | rfl | rfl | rfl | rfl | rfl | rfl <;> rfl
              · intro k o hkm ho vs WW hW hd
                have hlt : ∀ k : Nat, k < 9 → k = 0 ∨ k = 1 ∨ k = 2 ∨ k = 3 ∨ k = 4 ∨ k = 5 ∨ k = 6 ∨ k = 7 ∨ k = 8 := by decide
                replace x5 := ((bcell hW).1 _ _ (lt_of_cell x5)).trans x5
                replace x6 := ((bcell hW).1 _ _ (lt_of_cell x6)).trans x6
                have htw := HTAB.out.below hW
                subst ha0
                rcases hlt k hkm with rfl | rfl | rfl | rfl | rfl | rfl | rfl | rfl | rfl
                · obtain rfl := Option.some.inj ho
                  clear hd
                  refine wpOp_go rfl rfl (fun K hK => ?_)
                  simp only [putV, Act.put, List.setIfInBounds_toArray, List.set_cons_zero, List.set_cons_succ]
                  unfold Oper.wp
                  go_simp
                  refine hK _ _ ⟨?_, hW⟩
                  simp [putV, updF, Act.put]
                · obtain rfl := Option.some.inj ho
                  have e0 : vs 0 = .pointer (some ⟨bx, 5, none⟩) := hd 0 (waits_mem (by kernel_rfl))
                  clear hd
                  refine wpOp_go rfl rfl (fun K hK => ?_)
                  simp only [putV, Act.put, List.setIfInBounds_toArray, List.set_cons_zero, List.set_cons_succ]
                  unfold Oper.wp
                  go_simp
                  refine hK _ _ ⟨?_, hW⟩
                  simp [putV, updF, Act.put, e0]
                · obtain rfl := Option.some.inj ho
                  have e1 : vs 1 = .int .i64 x.X := hd 1 (waits_mem (by kernel_rfl))
                  clear hd
                  refine wpOp_go rfl rfl (fun K hK => ?_)
                  simp only [putV, Act.put, List.setIfInBounds_toArray, List.set_cons_zero, List.set_cons_succ]
                  unfold Oper.wp
                  go_simp
                  refine (itoa_any x.X (by omega) (by omega) WW htw).mono ?_
                  rintro e w2 ⟨rfl, hb2⟩
                  refine hK _ _ ⟨?_, Below.trans hW (hb2.mono hW.size)⟩
                  simp [putV, updF, Act.put, e1]
                · obtain rfl := Option.some.inj ho
                  have e2 : vs 2 = .string (⟨(Lib.itoa x.X).toArray⟩ : ByteArray) := hd 2 (waits_mem (by kernel_rfl))
                  clear hd
                  refine wpOp_go rfl rfl (fun K hK => ?_)
                  simp only [putV, Act.put, List.setIfInBounds_toArray, List.set_cons_zero, List.set_cons_succ]
                  unfold Oper.wp
                  go_simp
                  rw [if_neg (by first | omega | (simp; omega)), Oper.upon_value]
                  refine hK _ _ ⟨?_, hW⟩
                  simp [putV, updF, Act.put, e2]
                · obtain rfl := Option.some.inj ho
                  have e3 : vs 3 = .string ((⟨#[32, 102, 111, 114, 100, 32]⟩ : ByteArray) ++ (⟨(Lib.itoa x.X).toArray⟩ : ByteArray)) := hd 3 (waits_mem (by kernel_rfl))
                  clear hd
                  refine wpOp_go rfl rfl (fun K hK => ?_)
                  simp only [putV, Act.put, List.setIfInBounds_toArray, List.set_cons_zero, List.set_cons_succ]
                  unfold Oper.wp
                  go_simp
                  rw [if_neg (by first | omega | (simp; omega)), Oper.upon_value]
                  refine hK _ _ ⟨?_, hW⟩
                  simp [putV, updF, Act.put, e3]
                · obtain rfl := Option.some.inj ho
                  clear hd
                  refine wpOp_go rfl rfl (fun K hK => ?_)
                  simp only [putV, Act.put, List.setIfInBounds_toArray, List.set_cons_zero, List.set_cons_succ]
                  unfold Oper.wp
                  go_simp
                  refine hK _ _ ⟨?_, hW⟩
                  simp [putV, updF, Act.put]
                · obtain rfl := Option.some.inj ho
                  have e5 : vs 5 = .pointer (some ⟨bx, 6, none⟩) := hd 5 (waits_mem (by kernel_rfl))
                  clear hd
                  refine wpOp_go rfl rfl (fun K hK => ?_)
                  simp only [putV, Act.put, List.setIfInBounds_toArray, List.set_cons_zero, List.set_cons_succ]
                  unfold Oper.wp
                  go_simp
                  refine hK _ _ ⟨?_, hW⟩
                  simp [putV, updF, Act.put, e5]
                · obtain rfl := Option.some.inj ho
                  have e6 : vs 6 = .int .i64 x.Y := hd 6 (waits_mem (by kernel_rfl))
                  clear hd
                  refine wpOp_go rfl rfl (fun K hK => ?_)
                  simp only [putV, Act.put, List.setIfInBounds_toArray, List.set_cons_zero, List.set_cons_succ]
                  unfold Oper.wp
                  go_simp
                  refine (itoa_any x.Y (by omega) (by omega) WW htw).mono ?_
                  rintro e w2 ⟨rfl, hb2⟩
                  refine hK _ _ ⟨?_, Below.trans hW (hb2.mono hW.size)⟩
                  simp [putV, updF, Act.put, e6]
                · obtain rfl := Option.some.inj ho
                  have e4 : vs 4 = .string (((⟨#[32, 102, 111, 114, 100, 32]⟩ : ByteArray) ++ (⟨(Lib.itoa x.X).toArray⟩ : ByteArray)) ++ (⟨#[32]⟩ : ByteArray)) := hd 4 (waits_mem (by kernel_rfl))
                  have e7 : vs 7 = .string (⟨(Lib.itoa x.Y).toArray⟩ : ByteArray) := hd 7 (waits_mem (by kernel_rfl))
                  clear hd
                  refine wpOp_go rfl rfl (fun K hK => ?_)
                  simp only [putV, Act.put, List.setIfInBounds_toArray, List.set_cons_zero, List.set_cons_succ]
                  unfold Oper.wp
                  go_simp
                  rw [if_neg (by first | omega | (simp; omega)), Oper.upon_value]
                  refine hK _ _ ⟨?_, hW⟩
                  simp [putV, updF, Act.put, e4, e7]
              · intro vs WW hW hv
                have e8 : vs 8 = .string ((((⟨#[32, 102, 111, 114, 100, 32]⟩ : ByteArray) ++ (⟨(Lib.itoa x.X).toArray⟩ : ByteArray)) ++ (⟨#[32]⟩ : ByteArray)) ++ (⟨(Lib.itoa x.Y).toArray⟩ : ByteArray)) := hv 8 (by omega)
                refine wpOp_go rfl rfl (fun K hK => ?_)
                subst ha0
                simp only [putV, Act.put, List.setIfInBounds_toArray, List.set_cons_zero, List.set_cons_succ]
                unfold Oper.wp
                go_simp
                refine (WriteString_k w.heap.size bb (headT r ++ linesT (r.strips.take i) ++ frontT x) (kindT x) _ ?_ WW (bld_below HBLD.out hW) ?_ ?_).mono ?_
                · exact ByteArray.ext (by simp [kindT, HKK.out])
                · have h1 := len_head GG.out; have h2 := HLL.out; have h3 := HLK.out; have h4 := len_front HFI.out; have h5 := len_kind HFI.out; rw [List.length_append, List.length_append]; omega
                · have := hW.size; have := HSZ.out; omega
                rintro e w3 ⟨⟨nn, rfl⟩, hB3, hb3, hk3⟩
                refine hK _ _ ?_
                have HX7ab := Lib.hid (kept_heap hk3 (heap_below hW HX7a.out) (by have := HBX.out; omega) (by decide))
                have HXJab := Lib.hid (kept_heap hk3 (heap_below hW HXJa.out) (by have := HBW.out; omega) (by decide))
                have HWJab := Lib.hid ((HWJa.out.trans (hW.mono HWJa.out.size)).trans hb3)
                have HBDab := Lib.hid hB3
                clear hB3 hb3 hk3 hv e8 hW HX7a HXJa HWJa HTAB HSZ HBLD
                clear x5 x6 hl5 hl6 HBDa
                go_wp2_with fail
                refine (WriteString_k w.heap.size bb ((headT r ++ linesT (r.strips.take i) ++ frontT x) ++ kindT x) [10] _ rfl _ HBDab.out ?_ ?_).mono ?_
                · have h1 := len_head GG.out; have h2 := HLL.out; have h3 := HLK.out; have h4 := len_front HFI.out; have h5 := len_kind HFI.out; simp only [List.length_append, List.length_cons, List.length_nil]; omega
                · exact HWJab.out.size
                rintro e w5 ⟨⟨nn, rfl⟩, hB5, hb5, hk5⟩
                have HB5 := Lib.hid (show Lib.IsBuilderF 72 5 w.heap.size bb (Lib.byteCells (headT r ++ linesT (r.strips.take (i + 1)))) w5 by
                  rw [HLN.out, show headT r ++ (linesT (r.strips.take i) ++ stripT x) = ((headT r ++ linesT (r.strips.take i) ++ frontT x) ++ kindT x) ++ [10] by simp [stripT]]
                  exact hB5)
                have HX5 := Lib.hid (kept_heap hk5 HXJab.out (by have := HBW.out; omega) (by decide))
                have HW5 := Lib.hid (HWJab.out.trans hb5)
                clear hB5 hb5 hk5 HX7ab HXJab HWJab HBDab
                go_wp2_with fail
                exact ⟨⟨i + 1, by omega, by go_num, HB5.out, HX5.out, HW5.out⟩, by simp [intOf]; omega⟩
            · obtain ⟨hx1, hx2⟩ := hX
              clear ha1 ha2 hb1 hb2 hc1 hc2 hd1 hd2 hY
              have x5 := cell_at HX7a.out (o := 5) rfl
              have hl5 := itoa_len x.X hx1 hx2
              go_wp2_with fail
              refine (itoa_any x.X hx1 hx2 _ (HT0.out.below HWJa.out)).mono ?_
              clear x5 y4
              rintro e w4 ⟨rfl, hb4⟩
              have HX7ab := Lib.hid (heap_below hb4 HX7a.out); have HXJab := Lib.hid (heap_below hb4 HXJa.out); have HWJab := Lib.hid (HWJa.out.trans (hb4.mono HWJa.out.size)); have HBDab := Lib.hid (bld_below HBDa.out hb4); clear hb4
              have q5 : ¬ 9223372036854775807 < 8 + (Lib.itoa x.X).length := by omega
              go_wp2_with fail
              refine (WriteString_k w.heap.size bb (headT r ++ linesT (r.strips.take i) ++ frontT x) (kindT x) _ ?_ _ HBDab.out ?_ ?_).mono ?_
              · exact ByteArray.ext (by simp [kindT, HKK.out])
              · have h1 := len_head GG.out; have h2 := HLL.out; have h3 := HLK.out; have h4 := len_front HFI.out; have h5 := len_kind HFI.out; rw [List.length_append, List.length_append]; omega
              · exact HWJab.out.size
              clear q5 hl5
              rintro e w3 ⟨⟨nn, rfl⟩, hB3, hb3, hk3⟩
              have HX7abc := Lib.hid (kept_heap hk3 HX7ab.out (by have := HBX.out; omega) (by decide))
              have HXJabc := Lib.hid (kept_heap hk3 HXJab.out (by have := HBW.out; omega) (by decide))
              have HWJabc := Lib.hid (HWJab.out.trans hb3)
              have HBDabc := Lib.hid hB3
              clear hB3 hb3 hk3
              go_wp2_with fail
              refine (WriteString_k w.heap.size bb ((headT r ++ linesT (r.strips.take i) ++ frontT x) ++ kindT x) [10] _ rfl _ HBDabc.out ?_ ?_).mono ?_
              · have h1 := len_head GG.out; have h2 := HLL.out; have h3 := HLK.out; have h4 := len_front HFI.out; have h5 := len_kind HFI.out; simp only [List.length_append, List.length_cons, List.length_nil]; omega
              · exact HWJabc.out.size
              rintro e w5 ⟨⟨nn, rfl⟩, hB5, hb5, hk5⟩
              have HB5 := Lib.hid (show Lib.IsBuilderF 72 5 w.heap.size bb (Lib.byteCells (headT r ++ linesT (r.strips.take (i + 1)))) w5 by
                rw [HLN.out, show headT r ++ (linesT (r.strips.take i) ++ stripT x) = ((headT r ++ linesT (r.strips.take i) ++ frontT x) ++ kindT x) ++ [10] by simp [stripT]]
                exact hB5)
              have HX5 := Lib.hid (kept_heap hk5 HXJabc.out (by have := HBW.out; omega) (by decide))
              have HW5 := Lib.hid (HWJabc.out.trans hb5)
              clear hB5 hb5 hk5 HX7abc HXJabc HWJabc HBDabc
              go_wp2_with fail
              exact ⟨⟨i + 1, by omega, by go_num, HB5.out, HX5.out, HW5.out⟩, by simp [intOf]; omega⟩
        · have q1 : ¬ (i : Int) < (N : Int) := by omega
          obtain rfl : i = N := by omega
          go_wp2_with fail
          refine (WriteString_k w.heap.size bb (headT r ++ linesT (r.strips.take i)) [101, 110, 100, 10] _ rfl _ HBI.out ?_ ?_).mono ?_
          · have h1 := len_head GG.out; have h2 := len_lines (r.strips.take i) fun y hy => fineS GG.out (List.mem_of_mem_take hy); have h3 : (r.strips.take i).length ≤ 8 := by rw [List.length_take]; omega
            simp only [List.length_append, List.length_cons, List.length_nil]; omega
          · exact HWI.out.size
          rintro e w5 ⟨⟨nn, rfl⟩, hB5, hb5, hk5⟩
          have HW5 := Lib.hid (HWI.out.trans hb5)
          have hB6 : Lib.IsBuilderF 72 5 w.heap.size bb (Lib.byteCells (textT r)) w5 := by
            have e : r.strips.take i = r.strips := by rw [← HN.out]; exact List.take_length
            rw [e] at hB5; exact hB5
          have HB6 := Lib.hid hB6; clear hB6 hB5 hb5 hk5 HBI HXI HWI
          go_wp2_with fail
          refine (String_k w.heap.size bb (textT r) _ HB6.out HW5.out.size).mono ?_
          rintro e w6 ⟨rfl, hb6⟩
          go_wp2_with fail
          go_ret2
          have e : writeV r = (textT r, 0) := by rw [writeV, if_pos HZ.out]
          rw [e]
          exact ⟨rfl, HW5.out.trans hb6⟩
  · have hz' : (checkR ⟨r.days, r.stages, r.strips⟩ != 0) = true := by simpa using hz
    have HZ := Lib.hid hz; clear hz
    go_wp2_with fail
    go_ret2
    have e : writeV r = ([], checkR r) := by rw [writeV, if_neg HZ.out]
    rw [e]
    exact ⟨rfl, HB1.out⟩
end Go.Proofs.YtmkjeonjhedgkaaGreatDoor
