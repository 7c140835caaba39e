/- The contract of ready. The contracts of road.Comes, Late, Stay. The contracts of road.Late, Stay. The contract of road.Stay. -/
import Derived.Test.YtmkjeonjhedgkaaGreatDoorCan
namespace Go.Proofs.YtmkjeonjhedgkaaGreatDoor
set_option linter.unusedSimpArgs false
set_option linter.unusedVariables false
open Go.RowKit

def pairsErr : List Int → Int
  | a :: b :: l => if btw a 0 (b - 1) then pairsErr l else 3
  | _ => 0
def readyErr (r : Roads) (f : Flock) (l : List Int) : Int := if checkR r != 0 then checkR r else if flockErr f != 0 then flockErr f else pairsErr l

theorem pairs_step {l : List Int} {i : Nat} (h : i + 1 < l.length) : pairsErr (l.drop i) = if btw l[i] 0 (l[i + 1] - 1) then pairsErr (l.drop (i + 2)) else 3 := by
  rw [List.drop_eq_getElem_cons (show i < l.length by omega), List.drop_eq_getElem_cons h]; rfl
theorem pairs_end {l : List Int} {i : Nat} (h : ¬ i + 1 < l.length) : pairsErr (l.drop i) = 0 := by
  by_cases e : i < l.length
  · rw [List.drop_eq_getElem_cons e, List.drop_of_length_le (by omega)]; rfl
  · rw [List.drop_of_length_le (by omega)]; rfl

/-- What ready returns. -/
def ReadyPost (w : World) (r : Roads) (f : Flock) (l : List Int) (a : Option Addr) (cap : Nat) (e : Ending) (w' : World) : Prop :=
  (readyErr r f l = 0 ∧ ∃ b, e = .returned (.tuple #[.pointer (some ⟨b, 0, none⟩), .int .i64 0]) ∧ WorkAt w' b r f (-1) a cap ∧ w.heap.size ≤ b ∧ (∀ k, w'.frozen? ⟨b, k, none⟩ = false) ∧ Below w.heap.size w w') ∨
  (readyErr r f l ≠ 0 ∧ e = .returned (.tuple #[.pointer none, .int .i64 (readyErr r f l)]) ∧ Below w.heap.size w w')

set_option maxRecDepth 100000 in
set_option maxHeartbeats 4000000 in
theorem ready_any (w : World) (r : Roads) (f : Flock) (l : List Int) (a : Option Addr) (cap : Nat) (pa : Option Addr) (pc : Nat) (hs : StripsAt w a r.strips) (hm : r.strips.length ≤ maxLen) (hp : IntsAt w pa l) (hl : l.length ≤ 100)
    (hr : checkR r = 0 → ∀ i (h : i < l.length), i % 2 = 1 → 0 ≤ l[i] ∧ l[i] ≤ 1000) :
    Calls Tryz.prog 40 #[.agg #[.int .i64 r.days, .int .i64 r.stages, .slice a r.strips.length cap], .agg #[.int .i64 f.heads, .int .i64 f.pace], .slice pa l.length pc] w (ReadyPost w r f l a cap) := by
  have hb0 : Below w.heap.size w ((w.alloc (.cells #[.int .i64 r.days, .int .i64 r.stages, .slice a r.strips.length cap] 24)).alloc (.cells #[.int .i64 f.heads, .int .i64 f.pace] 45)) := ((Below.refl _ _).alloc (Nat.le_refl _) _).alloc (by simp) _
  obtain ⟨r1, r2, rs⟩ := r
  obtain ⟨f1, f2⟩ := f
  dsimp only at hs hm hr hb0 ⊢
  have HM := Lib.hid hm; clear hm
  go_enter Tryz.func40, Tryz.ntmps40
  go_wp2_with fail
  refine (check_any r1 r2 rs a cap _ (hs.below hb0) HM.out).mono ?_
  rintro e w1 ⟨rfl, hb1⟩
  obtain ⟨hc1, _⟩ := bcell hb1
  have e0 : w1.cell? ⟨w.heap.size, 0, none⟩ = some (.int .i64 r1) := by rw [hc1 _ _ (by simp; omega)]; simp [go_sem]
  have e1 : w1.cell? ⟨w.heap.size, 1, none⟩ = some (.int .i64 r2) := by rw [hc1 _ _ (by simp; omega)]; simp [go_sem]
  have e2 : w1.cell? ⟨w.heap.size, 2, none⟩ = some (.slice a rs.length cap) := by rw [hc1 _ _ (by simp; omega)]; simp [go_sem]
  have e3 : w1.cell? ⟨w.heap.size + 1, 0, none⟩ = some (.int .i64 f1) := by rw [hc1 _ _ (by simp)]; simp [go_sem]
  have e4 : w1.cell? ⟨w.heap.size + 1, 1, none⟩ = some (.int .i64 f2) := by rw [hc1 _ _ (by simp)]; simp [go_sem]
  have hb01 : Below w.heap.size w w1 := hb0.trans (hb1.mono (by simp; omega))
  have hz1 : w.heap.size + 1 < w1.heap.size := lt_of_cell e3
  clear hc1 hb1 hb0
  by_cases hck : checkR ⟨r1, r2, rs⟩ = 0
  · have hck' : (checkR ⟨r1, r2, rs⟩ != 0) = false := by simp [hck]
    rw [hck]
    have Hck := Lib.hid hck; clear hck hck'
    go_wp2_with fail
    refine (flockError_any f1 f2 _).mono ?_
    rintro e w2 ⟨rfl, hb2⟩
    obtain ⟨hc2, _⟩ := bcell hb2
    have e0' : w2.cell? ⟨w.heap.size, 0, none⟩ = some (.int .i64 r1) := by rw [hc2 _ _ (by omega)]; exact e0
    have e1' : w2.cell? ⟨w.heap.size, 1, none⟩ = some (.int .i64 r2) := by rw [hc2 _ _ (by omega)]; exact e1
    have e2' : w2.cell? ⟨w.heap.size, 2, none⟩ = some (.slice a rs.length cap) := by rw [hc2 _ _ (by omega)]; exact e2
    have e3' : w2.cell? ⟨w.heap.size + 1, 0, none⟩ = some (.int .i64 f1) := by rw [hc2 _ _ (by omega)]; exact e3
    have e4' : w2.cell? ⟨w.heap.size + 1, 1, none⟩ = some (.int .i64 f2) := by rw [hc2 _ _ (by omega)]; exact e4
    have hb02 : Below w.heap.size w w2 := hb01.trans (hb2.mono hb01.size)
    clear e0 e1 e2 e3 e4 hc2 hb2 hb01
    by_cases hfk : flockErr ⟨f1, f2⟩ = 0
    · rw [hfk]
      have Hfk := Lib.hid hfk; clear hfk
      have He : readyErr ⟨r1, r2, rs⟩ ⟨f1, f2⟩ l = pairsErr l := by simp [readyErr, Hck.out, Hfk.out]
      have HE := Lib.hid He; clear He
      have Hr := Lib.hid (hr Hck.out); clear hr
      have hp2 := hp.below hb02
      clear hp
      have Hp2 := Lib.hid hp2; clear hp2
      have e : True := trivial
      go_wp2_with fail
      go_loopw [10] (fun v10 wx => ∃ i : Nat, i ≤ l.length + 1 ∧ v10 = .int .i64 i ∧ pairsErr (l.drop i) = pairsErr l ∧ i % 2 = 0 ∧ Below w2.heap.size w2 wx) (fun v _ => l.length + 2 - (intOf v).toNat)
      case atStart => exact ⟨0, by omega, rfl, rfl, rfl, Below.refl _ _⟩
      case round =>
        obtain ⟨i, hi, rfl, hE, hpar, hbr⟩ := hrel
        obtain ⟨hcr, _⟩ := bcell hbr
        have e0 : wr.cell? ⟨w.heap.size, 0, none⟩ = some (.int .i64 r1) := by rw [hcr _ _ (lt_of_cell e0')]; exact e0'
        have e1 : wr.cell? ⟨w.heap.size, 1, none⟩ = some (.int .i64 r2) := by rw [hcr _ _ (lt_of_cell e0')]; exact e1'
        have e2 : wr.cell? ⟨w.heap.size, 2, none⟩ = some (.slice a rs.length cap) := by rw [hcr _ _ (lt_of_cell e0')]; exact e2'
        have e3 : wr.cell? ⟨w.heap.size + 1, 0, none⟩ = some (.int .i64 f1) := by rw [hcr _ _ (lt_of_cell e3')]; exact e3'
        have e4 : wr.cell? ⟨w.heap.size + 1, 1, none⟩ = some (.int .i64 f2) := by rw [hcr _ _ (lt_of_cell e3')]; exact e4'
        have hb0r : Below w.heap.size w wr := hb02.trans (hbr.mono hb02.size)
        clear e0' e1' e2' e3' e4' hcr
        have HEi := Lib.hid hE; clear hE
        have Hpar := Lib.hid hpar; clear hpar
        by_cases hlt : i + 1 < l.length
        · rcases Hp2.out with hx | ⟨pb, po, rfl, hpc⟩
          · rw [hx] at hlt; simp at hlt
          have x0 := (bcell hbr).1 _ _ (lt_of_cell (hpc i (by omega))) |>.trans (hpc i (by omega))
          have x1 := (bcell hbr).1 _ _ (lt_of_cell (hpc (i + 1) hlt)) |>.trans (hpc (i + 1) hlt)
          obtain ⟨y1, y2⟩ := Hr.out (i + 1) hlt (by have := Hpar.out; omega)
          have hst := pairs_step hlt
          generalize hg1 : l[i] = p1 at x0 hst
          generalize hg2 : l[i + 1] = p2 at x1 y1 y2 hst
          have Hst := Lib.hid hst; clear hst
          have Hg1 := Lib.hid hg1; clear hg1
          have Hg2 := Lib.hid hg2; clear hg2
          clear hpc
          have q1 : (i : Int) < (l.length : Int) := by omega
          have q2 : (i : Int) + 1 < (l.length : Int) := by omega
          have q3 : 0 ≤ (i : Int) + 1 := by omega
          have s1 : IntKind.i64.wrap ((i : Int) + 1) = (i : Int) + 1 := IntWalk.i64_in _ (by omega)
          have s2 : ((i : Int) + 1).toNat = i + 1 := by omega
          have s3 : IntKind.i64.wrap (p2 - 1) = p2 - 1 := IntWalk.i64_in _ (by omega)
          go_wp2_with fail
          go_quiet ((go_at_call 56; exact Calls.quiet_of_same ((between_any _ _ _ _).mono fun e w' h => ⟨h.1, h.2.symm⟩)))
          clear q1 q2 q3 s1 s2 s3
          cases hbt : btw p1 0 (p2 - 1)
          · have Hbt := Lib.hid hbt; clear hbt
            go_wp2_with fail
            go_ret2
            have h3 : pairsErr l = 3 := by rw [← HEi.out, Hst.out, Hbt.out]; rfl
            exact .inr ⟨by rw [HE.out, h3]; decide, by rw [HE.out, h3]; rfl, below_drewN hb0r _⟩
          · have Hbt := Lib.hid hbt; clear hbt
            go_wp2_with fail
            exact ⟨⟨i + 2, by omega, by go_num, by rw [← HEi.out, Hst.out, Hbt.out]; rfl, by have := Hpar.out; omega, below_drewN hbr _⟩, by simp [intOf]; omega⟩
        · have h0 : pairsErr l = 0 := by rw [← HEi.out]; exact pairs_end hlt
          have H0 := Lib.hid h0; clear h0
          go_wp2_with fail
          go_ret2
          refine .inl ⟨by rw [HE.out, H0.out], _, rfl, ⟨by simp, by simp, by simp, by simp, by simp, by simp, ?_⟩, hb0r.size, fun k => by simp, ?_⟩
          · exact hs.below (hb0r.trans (Below.alloc (Below.refl _ _) hb0r.size _))
          · exact hb0r.trans (Below.alloc (Below.refl _ _) hb0r.size _)
    · have He : readyErr ⟨r1, r2, rs⟩ ⟨f1, f2⟩ l = flockErr ⟨f1, f2⟩ := by simp [readyErr, Hck.out, hfk]
      have hne : (flockErr ⟨f1, f2⟩ != 0) = true := by simpa using hfk
      go_wp2_with fail
      go_ret2
      exact .inr ⟨by rw [He]; exact hfk, by rw [He]; rfl, hb02⟩
  · have He : readyErr ⟨r1, r2, rs⟩ ⟨f1, f2⟩ l = checkR ⟨r1, r2, rs⟩ := by simp [readyErr, hck]
    have hne : (checkR ⟨r1, r2, rs⟩ != 0) = true := by simpa using hck
    go_wp2_with fail
    go_ret2
    exact .inr ⟨by rw [He]; exact hck, by rw [He]; rfl, hb01⟩
end Go.Proofs.YtmkjeonjhedgkaaGreatDoor

namespace Go.Proofs.YtmkjeonjhedgkaaGreatDoor
set_option linter.unusedSimpArgs false
set_option linter.unusedVariables false
open Go.RowKit

theorem check_size {r : Roads} (h : checkR r = 0) : 1 ≤ r.days ∧ r.days ≤ 10 ∧ 1 ≤ r.stages ∧ r.stages ≤ 6 ∧ r.strips.length ≤ 8 := by
  unfold checkR at h
  by_cases c1 : (!(btw r.days 1 10) || !(btw r.stages 1 6)) = true
  · rw [if_pos c1] at h; omega
  · rw [if_neg c1] at h
    simp [btw] at c1
    by_cases c2 : 8 < r.strips.length
    · rw [if_pos c2] at h; omega
    · omega
theorem ready_zero {r : Roads} {f : Flock} {l : List Int} (h : readyErr r f l = 0) : Good r f ∧ pairsErr l = 0 := by
  unfold readyErr at h
  by_cases c1 : (checkR r != 0) = true
  · rw [if_pos c1] at h; simp [h] at c1
  · rw [if_neg c1] at h
    by_cases c2 : (flockErr f != 0) = true
    · rw [if_pos c2] at h; simp [h] at c2
    · rw [if_neg c2] at h
      exact ⟨good_iff.2 ⟨by simpa using c1, by simpa using c2⟩, h⟩
theorem pairs2 {a b : Int} : pairsErr [a, b] = 0 ↔ 0 ≤ a ∧ a < b := by
  rw [pairsErr]
  by_cases h : btw a 0 (b - 1) = true
  · rw [if_pos h]; rw [btw_true] at h; simp [pairsErr]; omega
  · rw [if_neg h]; rw [btw_true] at h; omega
theorem pairs4 {a b c d : Int} : pairsErr [a, b, c, d] = 0 ↔ (0 ≤ a ∧ a < b) ∧ 0 ≤ c ∧ c < d := by
  rw [pairsErr]
  by_cases h : btw a 0 (b - 1) = true
  · rw [if_pos h, pairs2]; rw [btw_true] at h; omega
  · rw [if_neg h]; rw [btw_true] at h; omega
theorem pairs6 {a b c d x y : Int} : pairsErr [a, b, c, d, x, y] = 0 ↔ (0 ≤ a ∧ a < b) ∧ (0 ≤ c ∧ c < d) ∧ 0 ≤ x ∧ x < y := by
  rw [pairsErr]
  by_cases h : btw a 0 (b - 1) = true
  · rw [if_pos h, pairs4]; rw [btw_true] at h; omega
  · rw [if_neg h]; rw [btw_true] at h; omega
theorem pairs8 {a b c d x y z t : Int} : pairsErr [a, b, c, d, x, y, z, t] = 0 ↔ (0 ≤ a ∧ a < b) ∧ (0 ≤ c ∧ c < d) ∧ (0 ≤ x ∧ x < y) ∧ 0 ≤ z ∧ z < t := by
  rw [pairsErr]
  by_cases h : btw a 0 (b - 1) = true
  · rw [if_pos h, pairs6]; rw [btw_true] at h; omega
  · rw [if_neg h]; rw [btw_true] at h; omega

/-- What Comes returns. -/
def ComesPost (w : World) (r : Roads) (f : Flock) (fr day : Int) (e : Ending) (w' : World) : Prop :=
  (readyErr r f [fr, r.stages, day, r.days] = 0 ∧ ∃ v, e = .returned (.tuple #[v, .int .i64 0]) ∧ OwnInts w' w.heap.size v (comesL r f (-1) fr.toNat day) ∧ Below w.heap.size w w') ∨
  (readyErr r f [fr, r.stages, day, r.days] ≠ 0 ∧ e = .returned (.tuple #[.slice none 0 0, .int .i64 (readyErr r f [fr, r.stages, day, r.days])]) ∧ Below w.heap.size w w')

theorem odd4 {r : Roads} (hc : checkR r = 0) (x y : Int) : ∀ i (h : i < [x, r.stages, y, r.days].length), i % 2 = 1 → 0 ≤ [x, r.stages, y, r.days][i] ∧ [x, r.stages, y, r.days][i] ≤ 1000 := by
  have := check_size hc
  intro i h hi
  simp only [List.length_cons, List.length_nil] at h
  obtain rfl | rfl : i = 1 ∨ i = 3 := by omega
  · show 0 ≤ r.stages ∧ r.stages ≤ 1000; omega
  · show 0 ≤ r.days ∧ r.days ≤ 1000; omega

set_option maxRecDepth 100000 in
set_option maxHeartbeats 4000000 in
theorem Comes_any (w : World) (r : Roads) (f : Flock) (a : Option Addr) (cap : Nat) (hs : StripsAt w a r.strips) (hm : r.strips.length ≤ maxLen) (fr day : Int) :
    Calls Tryz.prog 14 #[.agg #[.int .i64 r.days, .int .i64 r.stages, .slice a r.strips.length cap], .agg #[.int .i64 f.heads, .int .i64 f.pace], .int .i64 fr, .int .i64 day] w (ComesPost w r f fr day) := by
  have hb0 : Below w.heap.size w (((w.alloc (.cells #[.int .i64 r.days, .int .i64 r.stages, .slice a r.strips.length cap] 24)).alloc (.cells #[.int .i64 f.heads, .int .i64 f.pace] 45)).alloc (.cells #[.int .i64 fr, .int .i64 r.stages, .int .i64 day, .int .i64 r.days] 3)) :=
    (((Below.refl _ _).alloc (Nat.le_refl _) _).alloc (by simp) _).alloc (by simp; omega) _
  have hp : IntsAt (((w.alloc (.cells #[.int .i64 r.days, .int .i64 r.stages, .slice a r.strips.length cap] 24)).alloc (.cells #[.int .i64 f.heads, .int .i64 f.pace] 45)).alloc (.cells #[.int .i64 fr, .int .i64 r.stages, .int .i64 day, .int .i64 r.days] 3))
      (some ⟨w.heap.size + 1 + 1, 0, none⟩) [fr, r.stages, day, r.days] := by
    refine .inr ⟨_, 0, rfl, fun i h => ?_⟩
    simp only [List.length_cons, List.length_nil] at h
    obtain rfl | rfl | rfl | rfl : i = 0 ∨ i = 1 ∨ i = 2 ∨ i = 3 := by omega
    all_goals (rw [World.cell?_alloc_at _ _ _ _ (by simp)]; rfl)
  have HM := Lib.hid hm; clear hm
  have HO := Lib.hid (fun hc => @odd4 r hc fr day)
  go_enter Tryz.func14, Tryz.ntmps14
  go_wp2_with fail
  refine (ready_any _ r f [fr, r.stages, day, r.days] a cap _ 4 (hs.below hb0) HM.out hp (by simp) HO.out).mono ?_
  rintro e w1 (⟨hz, b, rfl, hW, hbb, _, hb1⟩ | ⟨hz, rfl, hb1⟩)
  · obtain ⟨g, hpz⟩ := ready_zero hz
    obtain ⟨⟨p1, p2⟩, p3, p4⟩ := pairs4.1 hpz
    have hg := g.s2
    have hd := g.d2
    obtain ⟨k, hk⟩ := Int.eq_ofNat_of_zero_le p1
    have Hz := Lib.hid hz; clear hz hpz
    subst hk
    go_wp2_with fail
    refine (comes_any w1 b r f (-1) a cap hW g k (by omega) day p3 (by omega)).mono ?_
    rintro e w2 ⟨v, rfl, hown, hb2⟩
    go_wp2_with fail
    go_ret2
    have hb01 := hb0.trans (hb1.mono hb0.size)
    exact .inl ⟨Hz.out, v, rfl, hown.mono hb01.size, hb01.trans (hb2.mono hb01.size)⟩
  · have hne : (readyErr r f [fr, r.stages, day, r.days] != 0) = true := by simpa using hz
    have Hz := Lib.hid hz; clear hz
    go_wp2_with fail
    go_ret2
    exact .inr ⟨Hz.out, rfl, hb0.trans (hb1.mono hb0.size)⟩
end Go.Proofs.YtmkjeonjhedgkaaGreatDoor

namespace Go.Proofs.YtmkjeonjhedgkaaGreatDoor
set_option linter.unusedSimpArgs false
set_option linter.unusedVariables false
open Go.RowKit

def lateD (r : Roads) (f : Flock) (fr tt : Nat) (by' : Int) : Int := lateR r f (-1) fr tt by' (by' + 1).toNat
/-- What Stay returns: the night of coming, and the last day of setting out. -/
def stayA (r : Roads) (f : Flock) (home tt : Nat) (day : Int) : Int := (comesL r f (-1) home day).getD tt 0

def LatePost (w : World) (r : Roads) (f : Flock) (fr tt by' : Int) (e : Ending) (w' : World) : Prop :=
  Below w.heap.size w w' ∧ (
  (readyErr r f [fr, r.stages, tt, r.stages, by', r.days] = 0 ∧ lateD r f fr.toNat tt.toNat by' < 0 ∧ e = .returned (.tuple #[.int .i64 0, .int .i64 11])) ∨
  (readyErr r f [fr, r.stages, tt, r.stages, by', r.days] = 0 ∧ 0 ≤ lateD r f fr.toNat tt.toNat by' ∧ e = .returned (.tuple #[.int .i64 (lateD r f fr.toNat tt.toNat by'), .int .i64 0])) ∨
  (readyErr r f [fr, r.stages, tt, r.stages, by', r.days] ≠ 0 ∧ e = .returned (.tuple #[.int .i64 0, .int .i64 (readyErr r f [fr, r.stages, tt, r.stages, by', r.days])])))

theorem odd6 {r : Roads} (hc : checkR r = 0) (x y z : Int) : ∀ i (h : i < [x, r.stages, y, r.stages, z, r.days].length), i % 2 = 1 → 0 ≤ [x, r.stages, y, r.stages, z, r.days][i] ∧ [x, r.stages, y, r.stages, z, r.days][i] ≤ 1000 := by
  have := check_size hc
  intro i h hi
  simp only [List.length_cons, List.length_nil] at h
  obtain rfl | rfl | rfl : i = 1 ∨ i = 3 ∨ i = 5 := by omega
  · show 0 ≤ r.stages ∧ r.stages ≤ 1000; omega
  · show 0 ≤ r.stages ∧ r.stages ≤ 1000; omega
  · show 0 ≤ r.days ∧ r.days ≤ 1000; omega
theorem odd8 {r : Roads} (hc : checkR r = 0) (x y z t : Int) : ∀ i (h : i < [x, r.stages, y, r.stages, z, r.days, t, r.days].length), i % 2 = 1 → 0 ≤ [x, r.stages, y, r.stages, z, r.days, t, r.days][i] ∧ [x, r.stages, y, r.stages, z, r.days, t, r.days][i] ≤ 1000 := by
  have := check_size hc
  intro i h hi
  simp only [List.length_cons, List.length_nil] at h
  obtain rfl | rfl | rfl | rfl : i = 1 ∨ i = 3 ∨ i = 5 ∨ i = 7 := by omega
  · show 0 ≤ r.stages ∧ r.stages ≤ 1000; omega
  · show 0 ≤ r.stages ∧ r.stages ≤ 1000; omega
  · show 0 ≤ r.days ∧ r.days ≤ 1000; omega
  · show 0 ≤ r.days ∧ r.days ≤ 1000; omega

/-- Integers written into a new block, behind two others. -/
theorem ints_new {w : World} (l : List Int) : IntsAt (w.alloc (.cells (l.map (Value.int .i64)).toArray 3)) (some ⟨w.heap.size, 0, none⟩) l := by
  refine .inr ⟨_, 0, rfl, fun i h => ?_⟩
  rw [World.cell?_alloc_at _ _ _ _ rfl]
  simp [h]

def StayPost (w : World) (r : Roads) (f : Flock) (home tt day by' : Int) (e : Ending) (w' : World) : Prop :=
  Below w.heap.size w w' ∧ (
  (readyErr r f [home, r.stages, tt, r.stages, day, r.days, by', r.days] = 0 ∧ (stayA r f home.toNat tt.toNat day < 0 ∨ lateD r f tt.toNat home.toNat by' ≤ stayA r f home.toNat tt.toNat day) ∧ e = .returned (.tuple #[.int .i64 0, .int .i64 11])) ∨
  (readyErr r f [home, r.stages, tt, r.stages, day, r.days, by', r.days] = 0 ∧ ¬ (stayA r f home.toNat tt.toNat day < 0 ∨ lateD r f tt.toNat home.toNat by' ≤ stayA r f home.toNat tt.toNat day) ∧
    e = .returned (.tuple #[.int .i64 (lateD r f tt.toNat home.toNat by' - stayA r f home.toNat tt.toNat day), .int .i64 0])) ∨
  (readyErr r f [home, r.stages, tt, r.stages, day, r.days, by', r.days] ≠ 0 ∧ e = .returned (.tuple #[.int .i64 0, .int .i64 (readyErr r f [home, r.stages, tt, r.stages, day, r.days, by', r.days])])))
end Go.Proofs.YtmkjeonjhedgkaaGreatDoor

namespace Go.Proofs.YtmkjeonjhedgkaaGreatDoor
set_option linter.unusedSimpArgs false
set_option linter.unusedVariables false
open Go.RowKit

theorem lateR_range (r : Roads) (f : Flock) (shut : Int) (fr tt : Nat) (by' : Int) : ∀ k, -1 ≤ lateR r f shut fr tt by' k ∧ lateR r f shut fr tt by' k < (k : Int) ∨ lateR r f shut fr tt by' k = -1
  | 0 => .inr rfl
  | k + 1 => by
    unfold lateR
    split
    · exact .inl (by omega)
    · rcases lateR_range r f shut fr tt by' k with h | h
      · exact .inl (by omega)
      · exact .inr h
theorem comesTo_range (r : Roads) (f : Flock) (shut : Int) (n0 : Nat) (day : Int) (h0 : 0 ≤ day) : ∀ k, ∀ x ∈ comesTo r f shut n0 day k, -1 ≤ x ∧ x < day + k ∨ x = -1
  | 0 => by
    intro x hx
    rw [comesTo] at hx
    exact .inr (List.mem_replicate.1 hx).2
  | k + 1 => by
    intro x hx
    rw [comesTo, updTo] at hx
    obtain ⟨i, hi, rfl⟩ := List.mem_mapIdx.1 hx
    have := comesTo_range r f shut n0 day h0 k _ (List.getElem_mem hi)
    split <;> omega

set_option maxRecDepth 100000 in
set_option maxHeartbeats 4000000 in
theorem Stay_any (w : World) (r : Roads) (f : Flock) (a : Option Addr) (cap : Nat) (hs : StripsAt w a r.strips) (hm : r.strips.length ≤ maxLen) (home tt day by' : Int) :
    Calls Tryz.prog 18 #[.agg #[.int .i64 r.days, .int .i64 r.stages, .slice a r.strips.length cap], .agg #[.int .i64 f.heads, .int .i64 f.pace], .int .i64 home, .int .i64 tt, .int .i64 day, .int .i64 by'] w (StayPost w r f home tt day by') := by
  have hb0 : Below w.heap.size w (((w.alloc (.cells #[.int .i64 r.days, .int .i64 r.stages, .slice a r.strips.length cap] 24)).alloc (.cells #[.int .i64 f.heads, .int .i64 f.pace] 45)).alloc (.cells #[.int .i64 home, .int .i64 r.stages, .int .i64 tt, .int .i64 r.stages, .int .i64 day, .int .i64 r.days, .int .i64 by', .int .i64 r.days] 3)) :=
    (((Below.refl _ _).alloc (Nat.le_refl _) _).alloc (by simp) _).alloc (by simp; omega) _
  have hp := @ints_new ((w.alloc (.cells #[.int .i64 r.days, .int .i64 r.stages, .slice a r.strips.length cap] 24)).alloc (.cells #[.int .i64 f.heads, .int .i64 f.pace] 45)) [home, r.stages, tt, r.stages, day, r.days, by', r.days]
  simp only [World.size_alloc] at hp
  have HM := Lib.hid hm; clear hm
  have HO := Lib.hid (fun hc => @odd8 r hc home tt day by')
  go_enter Tryz.func18, Tryz.ntmps18
  go_wp2_with fail
  refine (ready_any _ r f [home, r.stages, tt, r.stages, day, r.days, by', r.days] a cap _ 8 (hs.below hb0) HM.out hp (by simp) HO.out).mono ?_
  rintro e w1 (⟨hz, b, rfl, hW, hbb, _, hb1⟩ | ⟨hz, rfl, hb1⟩)
  · obtain ⟨g, hpz⟩ := ready_zero hz
    obtain ⟨⟨p1, p2⟩, ⟨p3, p4⟩, ⟨p5, p6⟩, p7, p8⟩ := pairs8.1 hpz
    have hg := g.s2
    have hd := g.d2
    obtain ⟨k, hk⟩ := Int.eq_ofNat_of_zero_le p1
    obtain ⟨j, hj⟩ := Int.eq_ofNat_of_zero_le p3
    have Hz := Lib.hid hz; clear hz hpz
    subst hk hj
    have hb01 := hb0.trans (hb1.mono hb0.size)
    have hlen : (comesL r f (-1) k day).length = r.stages.toNat := comesTo_len _ _ _ _ _ _
    have hjl : j < (comesL r f (-1) k day).length := by rw [hlen]; omega
    have hx := comesTo_range r f (-1) (0 ||| 1 <<< k) day p5 (r.days - day).toNat _ (List.getElem_mem (l := comesL r f (-1) k day) hjl)
    have hA : stayA r f k j day = (comesL r f (-1) k day)[j] := by unfold stayA; rw [List.getD_eq_getElem?_getD, List.getElem?_eq_getElem hjl]; rfl
    have hB := lateR_range r f (-1) j k by' (by' + 1).toNat
    have hB' : lateD r f j k by' = lateR r f (-1) j k by' (by' + 1).toNat := rfl
    obtain ⟨c, hc⟩ : ∃ c : Nat, (comesL r f (-1) k day).length = c := ⟨_, rfl⟩
    obtain ⟨L, hL⟩ : ∃ L, comesL r f (-1) k day = L := ⟨_, rfl⟩
    have hcst : (c : Int) = r.stages := by rw [hlen] at hc; omega
    generalize hx0 : (comesL r f (-1) k day)[j] = x0 at hx hA
    generalize hy0 : lateR r f (-1) j k by' (by' + 1).toNat = y0 at hB hB'
    have x1 : -1 ≤ x0 := by omega
    have x2 : x0 < 100 := by omega
    have y1 : -1 ≤ y0 := by omega
    have y2 : y0 < 100 := by omega
    have HA := Lib.hid hA; clear hA hx hlen
    have HB := Lib.hid hB'; clear hB' hB
    have Hx0 := Lib.hid hx0; clear hx0
    have Hy0 := Lib.hid hy0; clear hy0
    have Hc := Lib.hid hc; clear hc
    have Hcst := Lib.hid hcst; clear hcst
    clear hL
    have hj6 : (j : Int) < (c : Int) := by rw [Hcst.out]; exact p4
    have hjc : j < c := by omega
    have hWd : WorkAt w1.drew b r f (-1) a cap := hW.below (Below.refl _ _).drew
    have HWd := Lib.hid hWd; clear hWd
    go_upto_region 4 with (fail)
    go_cut [16, 17] (fun v16 v17 wx => v16 = .int .i64 x0 ∧ v17 = .int .i64 y0 ∧ Below w.heap.size w wx)
    case first =>
      go_region_with (first
        | (go_at_call 41; refine (comes_any _ b r f (-1) a cap HWd.out g k (by omega) day p5 (by omega)).mono ?_; rintro e w2 ⟨v, rfl, hown, hb2⟩; obtain ⟨gb, cp, rfl⟩ := hown.ptr (by omega); have hcell := (hown.cell hjl).1; rw [Hx0.out] at hcell; rw [Hc.out]; clear hown)
        | (go_at_call 41; refine (comes_any _ b r f (-1) a cap (HWd.out.below (by assumption)) g k (by omega) day p5 (by omega)).mono ?_; rintro e w2 ⟨v, rfl, hown, hb2⟩; obtain ⟨gb, cp, rfl⟩ := hown.ptr (by omega); have hcell := (hown.cell hjl).1; rw [Hx0.out] at hcell; rw [Hc.out]; clear hown)
        | (go_at_call 43; refine (late_any _ b r f (-1) a cap HWd.out g j k (by omega) (by omega) by' p7 (by omega)).mono ?_; rintro e w3 ⟨rfl, hb3⟩; rw [Hy0.out])
        | (go_at_call 43; refine (late_any _ b r f (-1) a cap (HWd.out.below (by assumption)) g j k (by omega) (by omega) by' p7 (by omega)).mono ?_; rintro e w3 ⟨rfl, hb3⟩; rw [Hy0.out]; have hcell' := ((bcell hb3).1 _ _ (lt_of_cell hcell)).trans hcell))
      all_goals (go_wp2_with fail; go_meet)
      case rel => exact ⟨rfl, rfl, hb01.trans (((Below.refl _ _).drew.trans (hb2.trans (hb3.mono hb2.size))).mono hb01.size)⟩
      case rel => exact ⟨rfl, rfl, hb01.trans (((Below.refl _ _).drew.trans (hb2.trans (hb3.mono hb2.size))).mono hb01.size)⟩
    case rest =>
      obtain ⟨rfl, rfl, hb⟩ := hcut
      by_cases hx0 : x0 < 0
      · go_wp2_with fail
        go_ret2
        exact ⟨hb, .inl ⟨Hz.out, .inl (by simp; rw [HA.out]; exact hx0), rfl⟩⟩
      · by_cases hxy : y0 ≤ x0
        · go_wp2_with fail
          go_ret2
          exact ⟨hb, .inl ⟨Hz.out, .inr (by simp; rw [HA.out, HB.out]; exact hxy), rfl⟩⟩
        · go_wp2_with fail
          go_ret2
          exact ⟨hb, .inr (.inl ⟨Hz.out, by simp; rw [HA.out, HB.out]; omega, by simp; rw [HA.out, HB.out]⟩)⟩
  · have hne : (readyErr r f [home, r.stages, tt, r.stages, day, r.days, by', r.days] != 0) = true := by simpa using hz
    have Hz := Lib.hid hz; clear hz
    go_wp2_with fail
    go_ret2
    exact ⟨hb0.trans (hb1.mono hb0.size), .inr (.inr ⟨Hz.out, rfl⟩)⟩
end Go.Proofs.YtmkjeonjhedgkaaGreatDoor
