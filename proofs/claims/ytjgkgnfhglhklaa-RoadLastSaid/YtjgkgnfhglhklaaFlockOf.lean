/- The contracts of NewHand and FlockOf. -/
import Derived.Test.YtjgkgnfhglhklaaStripOf
namespace Go.Proofs.Ytjgkgnfhglhklaa
set_option linter.unusedSimpArgs false
set_option linter.unusedVariables false
open Go.RowKit

set_option maxHeartbeats 2000000 in
theorem NewHand_any (w : World) (a : Option Addr) (n c : Nat) (l : List Int) (hl : IntsAt w a l) (hn : l.length = n) (hm : n ≤ maxLen) (ha : l = [] ∨ ∀ ad, a = some ad → ad.block < w.heap.size) :
    Calls Try.prog 23 #[.slice a n c] w fun e w' => e = .returned (.pointer (some ⟨w.heap.size, 0, none⟩)) ∧ HandAt w' w.heap.size 0 a n c ∧ Below w.heap.size w w' ∧ w'.heap.size = w.heap.size + 1 := by
  have HL := Lib.hid hl; clear hl
  have HA := Lib.hid ha; clear ha
  go_enter Try.func23, Try.ntmps23
  go_wp2_with fail
  go_ret
  refine ⟨rfl, ⟨by simp, ⟨0, Nat.le_refl _, by simp⟩, ⟨88172645463325252, by omega, by omega, by simp⟩, by simp, by simp, ⟨l, hn, HL.out.below (Below.alloc (Below.refl _ _) (Nat.le_refl _) _), HA.out⟩, hm⟩, Below.alloc (Below.refl _ _) (Nat.le_refl _) _, by simp⟩

/-- A flock that is dealt. -/
def FlockOK (f : Flock) : Prop := 1 ≤ f.heads ∧ f.heads ≤ 40 ∧ 1 ≤ f.pace ∧ f.pace ≤ 9

set_option maxRecDepth 100000 in
set_option maxHeartbeats 4000000 in
theorem FlockOf_any (w : World) (hb B : Nat) (a : Option Addr) (n c : Nat) (h : HandAt w hb B a n c) (hB : B ≤ 900000) :
    Calls Try.prog 33 #[.pointer (some ⟨hb, 0, none⟩)] w (Dealt w hb (B + 6) a n c fun v => ∃ f : Flock, FlockOK f ∧ v = .agg #[.int .i64 f.heads, .int .i64 f.pace]) := by
  have hlt := h.lt
  have hb0 : Below w.heap.size w (w.alloc (.cells #[.int .i64 0, .int .i64 0] 26)) := Below.alloc (Below.refl _ _) (Nat.le_refl _) _
  have H0 := Lib.hid (h.below hb0); clear h
  go_enter Try.func33, Try.ntmps33
  go_wp2_with fail
  refine (Among_any _ hb B a n c H0.out (by omega) 1 10 (by omega) (by omega) (by omega) (by omega)).mono ?_
  rintro e w1 ⟨_, ⟨x1, x11, x12, rfl⟩, rfl, hh1, hE1⟩
  have H1 := Lib.hid hh1; clear hh1 H0
  have E1 := Lib.hid hE1; clear hE1
  go_wp2_with fail
  refine (Among_any _ hb (B + 1) a n c H1.out (by omega) 11 25 (by omega) (by omega) (by omega) (by omega)).mono ?_
  rintro e w2 ⟨_, ⟨x2, x21, x22, rfl⟩, rfl, hh2, hE2⟩
  have H2 := Lib.hid hh2; clear hh2 H1
  have E2 := Lib.hid (E1.out.trans hE2); clear E1 hE2
  go_wp2_with fail
  refine (Among_any _ hb (B + 1 + 1) a n c H2.out (by omega) 26 40 (by omega) (by omega) (by omega) (by omega)).mono ?_
  rintro e w3 ⟨_, ⟨x3, x31, x32, rfl⟩, rfl, hh3, hE3⟩
  have E3 := Lib.hid (E2.out.trans hE3); clear E2 hE3
  have hlt3 := hh3.lt
  have hb3 : Below w3.heap.size w3 (w3.alloc (.cells #[.int .i64 x2, .int .i64 x3] 3)) := Below.alloc (Below.refl _ _) (Nat.le_refl _) _
  have H3 := Lib.hid (hh3.below hb3); clear hh3 H2
  go_wp2_with fail
  refine (Of_any _ hb (B + 1 + 1 + 1) a n c H3.out (by omega) x1 (some ⟨w3.heap.size, 0, none⟩) 2 [x2, x3] (@ints_new w3 [x2, x3]) (fun ad e => by cases e; simp; omega) (by simp)).mono ?_
  rintro e w4 ⟨_, ⟨hd, hhd, rfl⟩, rfl, hh4, hE4⟩
  have hd1 : 1 ≤ hd ∧ hd ≤ 40 := by simp at hhd; omega
  have E4 := Lib.hid (E3.out.trans ((Ext.of_below hb3).trans hE4)); clear E3 hE4 hb3 H3 hlt3 hhd x11 x12 x21 x22 x31 x32
  have H4 := Lib.hid hh4; clear hh4
  go_wp2_with fail
  refine (Among_any _ hb (B + 1 + 1 + 1 + 1) a n c H4.out (by omega) 1 9 (by omega) (by omega) (by omega) (by omega)).mono ?_
  rintro e w5 ⟨_, ⟨y, y1, y2, rfl⟩, rfl, hh5, hE5⟩
  have E5 := Lib.hid (E4.out.trans hE5); clear E4 hE5
  have hlt5 := hh5.lt
  have hb5 : Below w5.heap.size w5 (w5.alloc (.cells #[.int .i64 7, .int .i64 y] 3)) := Below.alloc (Below.refl _ _) (Nat.le_refl _) _
  have H5 := Lib.hid (hh5.below hb5); clear hh5 H4
  go_wp2_with fail
  refine (Of_any _ hb (B + 1 + 1 + 1 + 1 + 1) a n c H5.out (by omega) 6 (some ⟨w5.heap.size, 0, none⟩) 2 [7, y] (@ints_new w5 [7, y]) (fun ad e => by cases e; simp; omega) (by simp)).mono ?_
  rintro e w6 ⟨_, ⟨p, hp, rfl⟩, rfl, hh6, hE6⟩
  have hp1 : 1 ≤ p ∧ p ≤ 9 := by simp at hp; omega
  have hE7 := E5.out.trans ((Ext.of_below hb5).trans hE6)
  clear hE6 hb5 H5 hlt5 hp y1 y2 E5
  have hne : w.heap.size ≠ hb := by omega
  have r0 := hE7.cell_ne (b := w.heap.size) (o := 0) (v := .int .i64 0) (by simp) hne
  have r1 := hE7.cell_ne (b := w.heap.size) (o := 1) (v := .int .i64 0) (by simp) hne
  have z0 := hE7.frozen_ne (b := w.heap.size) (o := 0) (by simp) hne
  have z1 := hE7.frozen_ne (b := w.heap.size) (o := 1) (by simp) hne
  rw [World.frozen?_alloc_at _ _ _ _ rfl] at z0 z1
  have H6 := Lib.hid hh6; clear hh6
  have E7 := Lib.hid hE7; clear hE7
  go_wp2_with fail
  have e0 : ((w6.setCell ⟨w.heap.size, 0, none⟩ (.int .i64 hd)).setCell ⟨w.heap.size, 1, none⟩ (.int .i64 p)).cell? ⟨w.heap.size, 0, none⟩ = some (.int .i64 hd) := by
    rw [World.cell?_setCell_other _ _ _ _ (by simp)]; exact World.cell?_setCell_same _ _ _ r0
  have e1 : ((w6.setCell ⟨w.heap.size, 0, none⟩ (.int .i64 hd)).setCell ⟨w.heap.size, 1, none⟩ (.int .i64 p)).cell? ⟨w.heap.size, 1, none⟩ = some (.int .i64 p) :=
    World.cell?_setCell_same _ _ _ (u := .int .i64 0) (by rw [World.cell?_setCell_other _ _ _ _ (by simp)]; exact r1)
  have hB7 : Below 0 w6 ((w6.setCell ⟨w.heap.size, 0, none⟩ (.int .i64 hd)).setCell ⟨w.heap.size, 1, none⟩ (.int .i64 p)) := ((Below.refl 0 w6).setCell (p := ⟨w.heap.size, 0, none⟩) (Nat.zero_le _) _).setCell (p := ⟨w.heap.size, 1, none⟩) (Nat.zero_le _) _
  have hall : ∀ b, b ≠ w.heap.size → ((w6.setCell ⟨w.heap.size, 0, none⟩ (.int .i64 hd)).setCell ⟨w.heap.size, 1, none⟩ (.int .i64 p)).heap[b]? = w6.heap[b]? := fun b hb => by
    rw [Below.heap_setCell _ ⟨w.heap.size, 1, none⟩ _ b hb, Below.heap_setCell _ ⟨w.heap.size, 0, none⟩ _ b hb]
  have hE0 : Ext hb w w6 := (Ext.of_below hb0).trans E7.out
  have hEF : Ext hb w ((w6.setCell ⟨w.heap.size, 0, none⟩ (.int .i64 hd)).setCell ⟨w.heap.size, 1, none⟩ (.int .i64 p)) :=
    ⟨hB7.os.trans hE0.os, hB7.tape.trans hE0.tape, hB7.output.trans hE0.output, by have := hE0.size; simpa using this, fun b h1 h2 => (hall b (by omega)).trans (hE0.block b h1 h2)⟩
  have hHF := H6.out.keep (fun b _ h2 => hall b (by omega))
  clear hall hE0 hB7 r0 r1 z0 z1 E7 H6
  generalize ((w6.setCell ⟨w.heap.size, 0, none⟩ (.int .i64 hd)).setCell ⟨w.heap.size, 1, none⟩ (.int .i64 p)) = wF at e0 e1 hEF hHF ⊢
  refine bodyPost_ret (v := .agg #[.int .i64 hd, .int .i64 p]) ?_ rfl ⟨_, ⟨⟨hd, p⟩, ⟨hd1.1, hd1.2, hp1.1, hp1.2⟩, rfl⟩, rfl, hHF.more (by omega), hEF⟩
  clear hEF hHF
  simp [results, Try.results33, go_sem, e0, e1]
end Go.Proofs.Ytjgkgnfhglhklaa
