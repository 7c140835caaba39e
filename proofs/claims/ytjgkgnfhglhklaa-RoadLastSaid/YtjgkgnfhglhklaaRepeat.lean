/- The contracts of math/bits.Mul at small numbers, and of slices.Repeat of one number. -/
import Derived.Test.YtjgkgnfhglhklaaCan
import Derived.Laws.CopyOwn
import Derived.Deep.RegionLaw
namespace Go.Proofs.Ytjgkgnfhglhklaa
set_option linter.unusedSimpArgs false
set_option linter.unusedVariables false
open Go.RowKit

set_option maxRecDepth 100000 in
theorem mul_any (c : Int) (h1 : 1 ≤ c) (h2 : c ≤ 6) (w : World) :
    Calls Try.prog 130 #[.int .u64 1, .int .u64 c] w fun e w' => e = .returned (.tuple #[.int .u64 0, .int .u64 c]) ∧ w = w' := by
  have m1 : bits BinOp.and IntKind.u64 1 4294967295 = 1 := by decide +kernel
  have m2 : bits BinOp.and IntKind.u64 2 4294967295 = 2 := by decide +kernel
  have m3 : bits BinOp.and IntKind.u64 3 4294967295 = 3 := by decide +kernel
  have m4 : bits BinOp.and IntKind.u64 4 4294967295 = 4 := by decide +kernel
  have m5 : bits BinOp.and IntKind.u64 5 4294967295 = 5 := by decide +kernel
  have m6 : bits BinOp.and IntKind.u64 6 4294967295 = 6 := by decide +kernel
  have m0 : bits BinOp.and IntKind.u64 0 4294967295 = 0 := by decide +kernel
  obtain rfl | rfl | rfl | rfl | rfl | rfl : c = 1 ∨ c = 2 ∨ c = 3 ∨ c = 4 ∨ c = 5 ∨ c = 6 := by omega
  all_goals go_enter Try.func130, Try.ntmps130
  all_goals go_wp2
  all_goals go_ret2
  all_goals exact ⟨by simp, rfl⟩

theorem info_int : (Try.prog.info? 3).map (fun i => (i.zero, i.size, i.bytes)) = some (some (.int .i64 0), 1, 8) := by kernel_rfl
theorem size_int : (Try.prog.info? 3).map (·.size) = some 1 := by kernel_rfl

set_option maxRecDepth 100000 in
set_option maxHeartbeats 4000000 in
theorem repeat_any (c : Nat) (h1 : 1 ≤ c) (h2 : c ≤ 6) (b : Nat) (x : Int) (w : World) (hx : w.cell? ⟨b, 0, none⟩ = some (.int .i64 x)) :
    Calls Try.prog 117 #[.slice (some ⟨b, 0, none⟩) 1 1, .int .i64 c] w
      fun e w' => ∃ v, e = .returned v ∧ OwnInts w' w.heap.size v (List.replicate c x) ∧ Below w.heap.size w w' := by
  obtain ⟨i0, hi, hz0, hz1, hz2⟩ := info_parts info_int
  have hbl := lt_of_cell hx
  go_enter Try.func117, Try.ntmps117
  go_wp2_with fail
  refine (mul_any c (by omega) (by omega) _).mono ?_
  rintro e w' ⟨rfl, rfl⟩
  go_upto_region 6 with (fail)
  go_wp2_with (first | (at_make; refine wpList_make_full w rfl _ _ 27 rfl w.heap.size 3 i0 (.int .i64 0) 1 Try.underlying27 hi hz0 hz1 _ _ _ _ c rfl rfl rfl rfl (by rw [hz2]; omega) (by unfold maxLen; omega) (Nat.le_refl _) ?_))
  intro w1 hown hgrow
  have hb1 : Below w.heap.size w w1 := Below.grown (Below.refl _ _) hgrow (Nat.le_refl _) (fun k hk => by simp at hk)
  go_upto_region 7 with (fail)
  obtain ⟨_, hv⟩ := hown
  rcases hv with ⟨hv, _⟩ | ⟨gb, cap, cur0, hv, _, hh, hc1, _, hcs, _⟩
  · simp at hv
  simp only [Value.slice.injEq, Option.some.injEq, Addr.mk.injEq] at hv
  obtain ⟨⟨rfl, _⟩, _, rfl⟩ := hv
  obtain ⟨cur, hcur, hcl⟩ : ∃ cur : List Value, w1.heap[w.heap.size]? = some (.cells cur.toArray 3 (0, 0)) ∧ cur.length = c := ⟨cur0.toList, by simpa using hh, by simpa using hcs⟩
  clear hh hcs hgrow
  have Hcl := Lib.hid hcl; clear hcl
  have Hcur := Lib.hid hcur; clear hcur
  have hn1 : [Value.int .i64 x].length = Nat.min 1 c := by simp [Nat.min_def]; omega
  have hfit : 0 + [Value.int .i64 x].length ≤ cur.length := by have := Hcl.out; simp; omega
  have h1c : ∀ v ∈ [Value.int .i64 x], v.oneCell' = true := by intro v hv; simp at hv; subst hv; rfl
  have hpos : 0 < [Value.int .i64 x].length → (some (⟨w.heap.size, 0, none⟩ : Addr)) = some ⟨w.heap.size, 0, none⟩ ∧ ∃ ad, (some (⟨b, 0, none⟩ : Addr)) = some ad ∧ ∀ j v, [Value.int .i64 x][j]? = some v → w1.cell? (ad.add j) = some v := by
    refine fun _ => ⟨rfl, _, rfl, fun j v hj => ?_⟩
    match j, hj with
    | 0, hj => simp at hj; subst hj; rw [show (Addr.add ⟨b, 0, none⟩ 0) = ⟨b, 0, none⟩ from rfl, (bcell hb1).1 _ _ hbl]; exact hx
  have Hn1 := Lib.hid hn1; clear hn1
  have Hfit := Lib.hid hfit; clear hfit
  have H1c := Lib.hid h1c; clear h1c
  have Hpos := Lib.hid hpos; clear hpos
  go_wp2_with (with_reducible refine wpList_copy_splice rfl (.tmp 31) (.tmp 32) 27 27 rfl 3 Try.underlying27 size_int _ _ _ _ _ _ rfl rfl w.heap.size 0 cur 3 Hcur.out [.int .i64 x] Hn1.out Hpos.out Hfit.out H1c.out w.heap.size w hb1 (Nat.le_refl _) ?_)
  intro w2 hcur2 hb2
  go_wp2_with fail
  go_loopg [8] c (fun gk v8 wx => ∃ (k : Nat) (cur : List Value), 1 ≤ k ∧ k ≤ c ∧ gk + k = c + 1 ∧ v8 = .int .i64 k ∧ cur.length = c ∧ wx.heap[w.heap.size]? = some (.cells cur.toArray 3 (0, 0)) ∧ cur.take k = List.replicate k (.int .i64 x) ∧ Below w.heap.size w wx)
  case atStart =>
    refine ⟨1, _, Nat.le_refl _, h1, by omega, rfl, ?_, hcur2.out, ?_, hb2⟩
    · have := Hcl.out; simp [splice]; omega
    · simp [splice]
  case round =>
    clear Hcl Hcur hcur2 hb1 hb2 Hn1 Hfit H1c Hpos
    obtain ⟨k, cur, hk1, hk2, hgk, rfl, hcl, hcur, htk, hbr⟩ := hrel
    have Hg := Lib.hid hgk; clear hgk
    have Hcl := Lib.hid hcl; clear hcl
    have Hcur := Lib.hid hcur; clear hcur
    have Htk := Lib.hid htk; clear htk
    by_cases hlt : k < c
    · have hne : ¬ c = k := by omega
      have hne' : ¬ k = c := by omega
      have hcW : wr.drew.heap[w.heap.size]? = some (.cells cur.toArray 3 (0, 0)) := Hcur.out
      have HcW := Lib.hid hcW; clear hcW
      have hbW : Below w.heap.size w wr.drew := hbr.drew
      have hM : (List.replicate (min k (c - k)) (Value.int .i64 x)).length = Nat.min k (c - k) := List.length_replicate
      have hfit : k + (List.replicate (min k (c - k)) (Value.int .i64 x)).length ≤ cur.length := by have := Hcl.out; simp; omega
      have h1c : ∀ v ∈ List.replicate (min k (c - k)) (Value.int .i64 x), v.oneCell' = true := by intro v hv; rw [(List.mem_replicate.1 hv).2]; rfl
      have hpos : 0 < (List.replicate (min k (c - k)) (Value.int .i64 x)).length → (some (⟨w.heap.size, k, none⟩ : Addr)) = some ⟨w.heap.size, k, none⟩ ∧
          ∃ ad, (some (⟨w.heap.size, 0, none⟩ : Addr)) = some ad ∧ ∀ j v, (List.replicate (min k (c - k)) (Value.int .i64 x))[j]? = some v → wr.drew.cell? (ad.add j) = some v := by
        refine fun _ => ⟨rfl, _, rfl, fun j v hj => ?_⟩
        obtain ⟨hj1, rfl⟩ := List.getElem?_eq_some_iff.1 hj
        simp only [List.length_replicate] at hj1
        have e : cur[j]? = some (.int .i64 x) := by
          have : (cur.take k)[j]? = cur[j]? := by rw [List.getElem?_take, if_pos (by omega)]
          rw [← this, Htk.out, List.getElem?_replicate, if_pos (by omega)]
        have ea : (Addr.add ⟨w.heap.size, 0, none⟩ j) = ⟨w.heap.size, j, none⟩ := by unfold Addr.add; split <;> simp_all
        rw [ea]
        show World.cell? wr ⟨w.heap.size, j, none⟩ = _
        simp [World.cell?, Hcur.out, e]
      have HM := Lib.hid hM; clear hM
      have Hfit := Lib.hid hfit; clear hfit
      have H1c := Lib.hid h1c; clear h1c
      have Hpos := Lib.hid hpos; clear hpos
      go_upto_region 9 with (fail)
      go_region_law ((refine step_copy_splice rfl (.tmp 41) (.tmp 44) 27 27 rfl 3 Try.underlying27 size_int (some ⟨w.heap.size, k, none⟩) (some ⟨w.heap.size, 0, none⟩) (c - k) (c - k) k c (by simp [Act.eval, Act.put]) (by simp [Act.eval, Act.put]) w.heap.size k cur 3 HcW.out (List.replicate (min k (c - k)) (.int .i64 x)) HM.out Hpos.out Hfit.out H1c.out w.heap.size w hbW (Nat.le_refl _) ?_; intro w4 hg4 hb4))
      go_wp2_with fail
      go_roundg (gk - min k (c - k))
      case measure => have := Hg.out; omega
      case rel =>
        refine ⟨k + min k (c - k), _, by omega, by omega, by have := Hg.out; omega, ?_, ?_, hg4.out, ?_, hb4⟩
        · simp
          exact IntWalk.i64_in _ (by omega)
        · have := Hcl.out; rw [length_splice _ _ _ (by simp; omega)]; exact this
        · have hk : cur.length = c := Hcl.out
          unfold splice
          rw [Htk.out, List.take_append, List.take_append, List.length_replicate, List.length_replicate, ← List.append_assoc]
          rw [List.take_of_length_le (by simp), List.take_of_length_le (by simp), show k + min k (c - k) - k - min k (c - k) = 0 by omega, List.take_zero, List.append_nil, List.replicate_append_replicate]
    · go_wp2_with fail
      go_ret
      obtain rfl : k = c := by omega
      refine ⟨_, rfl, ⟨by simp, .inr ⟨w.heap.size, k, cur.toArray, by simp, Nat.le_refl _, Hcur.out, by simp, by unfold maxLen; omega, by simpa using Hcl.out, ?_⟩⟩, hbr⟩
      simpa using Htk.out
end Go.Proofs.Ytjgkgnfhglhklaa
