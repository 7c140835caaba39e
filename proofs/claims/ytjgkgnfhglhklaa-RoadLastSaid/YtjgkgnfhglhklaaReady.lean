/- The contract of ready. -/
import Derived.Test.YtjgkgnfhglhklaaComes
namespace Go.Proofs.Ytjgkgnfhglhklaa
set_option linter.unusedSimpArgs false
set_option linter.unusedVariables false
open Go.RowKit

def pairsErr : List Int → Int
  | a :: b :: l => if btw a 0 (b - 1) then pairsErr l else 3
  | _ => 0
def readyErr (r : Roads) (f : Flock) (l : List Int) : Int := if checkR r != 0 then checkR r else if flockErr f != 0 then flockErr f else pairsErr l

theorem pairs_step {l : List Int} {i : Nat} (h : i + 1 < l.length) : pairsErr (l.drop i) = if btw l[i] 0 (l[i + 1] - 1) then pairsErr (l.drop (i + 2)) else 3 := by
  rw [List.drop_eq_getElem_cons (show i < l.length by omega), List.drop_eq_getElem_cons h]; rfl
theorem pairs_end {l : List Int} {i : Nat} (h : ¬ i + 1 < l.length) : pairsErr (l.drop i) = 0 := by
  by_cases e : i < l.length
  · rw [List.drop_eq_getElem_cons e, List.drop_of_length_le (by omega)]; rfl
  · rw [List.drop_of_length_le (by omega)]; rfl

/-- What ready returns. -/
def ReadyPost (w : World) (r : Roads) (f : Flock) (l : List Int) (a : Option Addr) (cap : Nat) (e : Ending) (w' : World) : Prop :=
  (readyErr r f l = 0 ∧ ∃ b, e = .returned (.tuple #[.pointer (some ⟨b, 0, none⟩), .int .i64 0]) ∧ WorkAt w' b r f (-1) a cap ∧ w.heap.size ≤ b ∧ (∀ k, w'.frozen? ⟨b, k, none⟩ = false) ∧ Below w.heap.size w w') ∨
  (readyErr r f l ≠ 0 ∧ e = .returned (.tuple #[.pointer none, .int .i64 (readyErr r f l)]) ∧ Below w.heap.size w w')

set_option maxRecDepth 100000 in
set_option maxHeartbeats 4000000 in
theorem ready_any (w : World) (r : Roads) (f : Flock) (l : List Int) (a : Option Addr) (cap : Nat) (pa : Option Addr) (pc : Nat) (hs : StripsAt w a r.strips) (hm : r.strips.length ≤ maxLen) (hp : IntsAt w pa l) (hl : l.length ≤ 100)
    (hr : checkR r = 0 → ∀ i (h : i < l.length), i % 2 = 1 → 0 ≤ l[i] ∧ l[i] ≤ 1000) :
    Calls Try.prog 75 #[.agg #[.int .i64 r.days, .int .i64 r.stages, .slice a r.strips.length cap], .agg #[.int .i64 f.heads, .int .i64 f.pace], .slice pa l.length pc] w (ReadyPost w r f l a cap) := by
  have hb0 : Below w.heap.size w ((w.alloc (.cells #[.int .i64 r.days, .int .i64 r.stages, .slice a r.strips.length cap] 24)).alloc (.cells #[.int .i64 f.heads, .int .i64 f.pace] 26)) := ((Below.refl _ _).alloc (Nat.le_refl _) _).alloc (by simp) _
  obtain ⟨r1, r2, rs⟩ := r
  obtain ⟨f1, f2⟩ := f
  dsimp only at hs hm hr hb0 ⊢
  have HM := Lib.hid hm; clear hm
  go_enter Try.func75, Try.ntmps75
  go_wp2_with fail
  refine (check_any r1 r2 rs a cap _ (hs.below hb0) HM.out).mono ?_
  rintro e w1 ⟨rfl, hb1⟩
  obtain ⟨hc1, _⟩ := bcell hb1
  have e0 : w1.cell? ⟨w.heap.size, 0, none⟩ = some (.int .i64 r1) := by rw [hc1 _ _ (by simp; omega)]; simp [go_sem]
  have e1 : w1.cell? ⟨w.heap.size, 1, none⟩ = some (.int .i64 r2) := by rw [hc1 _ _ (by simp; omega)]; simp [go_sem]
  have e2 : w1.cell? ⟨w.heap.size, 2, none⟩ = some (.slice a rs.length cap) := by rw [hc1 _ _ (by simp; omega)]; simp [go_sem]
  have e3 : w1.cell? ⟨w.heap.size + 1, 0, none⟩ = some (.int .i64 f1) := by rw [hc1 _ _ (by simp)]; simp [go_sem]
  have e4 : w1.cell? ⟨w.heap.size + 1, 1, none⟩ = some (.int .i64 f2) := by rw [hc1 _ _ (by simp)]; simp [go_sem]
  have hb01 : Below w.heap.size w w1 := hb0.trans (hb1.mono (by simp; omega))
  have hz1 : w.heap.size + 1 < w1.heap.size := lt_of_cell e3
  clear hc1 hb1 hb0
  by_cases hck : checkR ⟨r1, r2, rs⟩ = 0
  · have hck' : (checkR ⟨r1, r2, rs⟩ != 0) = false := by simp [hck]
    rw [hck]
    have Hck := Lib.hid hck; clear hck hck'
    go_wp2_with fail
    refine (flockError_any f1 f2 _).mono ?_
    rintro e w2 ⟨rfl, hb2⟩
    obtain ⟨hc2, _⟩ := bcell hb2
    have e0' : w2.cell? ⟨w.heap.size, 0, none⟩ = some (.int .i64 r1) := by rw [hc2 _ _ (by omega)]; exact e0
    have e1' : w2.cell? ⟨w.heap.size, 1, none⟩ = some (.int .i64 r2) := by rw [hc2 _ _ (by omega)]; exact e1
    have e2' : w2.cell? ⟨w.heap.size, 2, none⟩ = some (.slice a rs.length cap) := by rw [hc2 _ _ (by omega)]; exact e2
    have e3' : w2.cell? ⟨w.heap.size + 1, 0, none⟩ = some (.int .i64 f1) := by rw [hc2 _ _ (by omega)]; exact e3
    have e4' : w2.cell? ⟨w.heap.size + 1, 1, none⟩ = some (.int .i64 f2) := by rw [hc2 _ _ (by omega)]; exact e4
    have hb02 : Below w.heap.size w w2 := hb01.trans (hb2.mono hb01.size)
    clear e0 e1 e2 e3 e4 hc2 hb2 hb01
    by_cases hfk : flockErr ⟨f1, f2⟩ = 0
    · rw [hfk]
      have Hfk := Lib.hid hfk; clear hfk
      have He : readyErr ⟨r1, r2, rs⟩ ⟨f1, f2⟩ l = pairsErr l := by simp [readyErr, Hck.out, Hfk.out]
      have HE := Lib.hid He; clear He
      have Hr := Lib.hid (hr Hck.out); clear hr
      have hp2 := hp.below hb02
      clear hp
      have Hp2 := Lib.hid hp2; clear hp2
      have e : True := trivial
      go_wp2_with fail
      go_loopw [10] (fun v10 wx => ∃ i : Nat, i ≤ l.length + 1 ∧ v10 = .int .i64 i ∧ pairsErr (l.drop i) = pairsErr l ∧ i % 2 = 0 ∧ Below w2.heap.size w2 wx) (fun v _ => l.length + 2 - (intOf v).toNat)
      case atStart => exact ⟨0, by omega, rfl, rfl, rfl, Below.refl _ _⟩
      case round =>
        obtain ⟨i, hi, rfl, hE, hpar, hbr⟩ := hrel
        obtain ⟨hcr, _⟩ := bcell hbr
        have e0 : wr.cell? ⟨w.heap.size, 0, none⟩ = some (.int .i64 r1) := by rw [hcr _ _ (lt_of_cell e0')]; exact e0'
        have e1 : wr.cell? ⟨w.heap.size, 1, none⟩ = some (.int .i64 r2) := by rw [hcr _ _ (lt_of_cell e0')]; exact e1'
        have e2 : wr.cell? ⟨w.heap.size, 2, none⟩ = some (.slice a rs.length cap) := by rw [hcr _ _ (lt_of_cell e0')]; exact e2'
        have e3 : wr.cell? ⟨w.heap.size + 1, 0, none⟩ = some (.int .i64 f1) := by rw [hcr _ _ (lt_of_cell e3')]; exact e3'
        have e4 : wr.cell? ⟨w.heap.size + 1, 1, none⟩ = some (.int .i64 f2) := by rw [hcr _ _ (lt_of_cell e3')]; exact e4'
        have hb0r : Below w.heap.size w wr := hb02.trans (hbr.mono hb02.size)
        clear e0' e1' e2' e3' e4' hcr
        have HEi := Lib.hid hE; clear hE
        have Hpar := Lib.hid hpar; clear hpar
        by_cases hlt : i + 1 < l.length
        · rcases Hp2.out with hx | ⟨pb, po, rfl, hpc⟩
          · rw [hx] at hlt; simp at hlt
          have x0 := (bcell hbr).1 _ _ (lt_of_cell (hpc i (by omega))) |>.trans (hpc i (by omega))
          have x1 := (bcell hbr).1 _ _ (lt_of_cell (hpc (i + 1) hlt)) |>.trans (hpc (i + 1) hlt)
          obtain ⟨y1, y2⟩ := Hr.out (i + 1) hlt (by have := Hpar.out; omega)
          have hst := pairs_step hlt
          generalize hg1 : l[i] = p1 at x0 hst
          generalize hg2 : l[i + 1] = p2 at x1 y1 y2 hst
          have Hst := Lib.hid hst; clear hst
          have Hg1 := Lib.hid hg1; clear hg1
          have Hg2 := Lib.hid hg2; clear hg2
          clear hpc
          have q1 : (i : Int) < (l.length : Int) := by omega
          have q2 : (i : Int) + 1 < (l.length : Int) := by omega
          have q3 : 0 ≤ (i : Int) + 1 := by omega
          have s1 : IntKind.i64.wrap ((i : Int) + 1) = (i : Int) + 1 := IntWalk.i64_in _ (by omega)
          have s2 : ((i : Int) + 1).toNat = i + 1 := by omega
          have s3 : IntKind.i64.wrap (p2 - 1) = p2 - 1 := IntWalk.i64_in _ (by omega)
          go_wp2_with fail
          go_quiet ((go_at_call 106; exact Calls.quiet_of_same ((between_any _ _ _ _).mono fun e w' h => ⟨h.1, h.2.symm⟩)))
          clear q1 q2 q3 s1 s2 s3
          cases hbt : btw p1 0 (p2 - 1)
          · have Hbt := Lib.hid hbt; clear hbt
            go_wp2_with fail
            go_ret2
            have h3 : pairsErr l = 3 := by rw [← HEi.out, Hst.out, Hbt.out]; rfl
            exact .inr ⟨by rw [HE.out, h3]; decide, by rw [HE.out, h3]; rfl, below_drewN hb0r _⟩
          · have Hbt := Lib.hid hbt; clear hbt
            go_wp2_with fail
            exact ⟨⟨i + 2, by omega, by go_num, by rw [← HEi.out, Hst.out, Hbt.out]; rfl, by have := Hpar.out; omega, below_drewN hbr _⟩, by simp [intOf]; omega⟩
        · have h0 : pairsErr l = 0 := by rw [← HEi.out]; exact pairs_end hlt
          have H0 := Lib.hid h0; clear h0
          go_wp2_with fail
          go_ret2
          refine .inl ⟨by rw [HE.out, H0.out], _, rfl, ⟨by simp, by simp, by simp, by simp, by simp, by simp, ?_⟩, hb0r.size, fun k => by simp, ?_⟩
          · exact hs.below (hb0r.trans (Below.alloc (Below.refl _ _) hb0r.size _))
          · exact hb0r.trans (Below.alloc (Below.refl _ _) hb0r.size _)
    · have He : readyErr ⟨r1, r2, rs⟩ ⟨f1, f2⟩ l = flockErr ⟨f1, f2⟩ := by simp [readyErr, Hck.out, hfk]
      have hne : (flockErr ⟨f1, f2⟩ != 0) = true := by simpa using hfk
      go_wp2_with fail
      go_ret2
      exact .inr ⟨by rw [He]; exact hfk, by rw [He]; rfl, hb02⟩
  · have He : readyErr ⟨r1, r2, rs⟩ ⟨f1, f2⟩ l = checkR ⟨r1, r2, rs⟩ := by simp [readyErr, hck]
    have hne : (checkR ⟨r1, r2, rs⟩ != 0) = true := by simpa using hck
    go_wp2_with fail
    go_ret2
    exact .inr ⟨by rw [He]; exact hck, by rw [He]; rfl, hb01⟩
end Go.Proofs.Ytjgkgnfhglhklaa
