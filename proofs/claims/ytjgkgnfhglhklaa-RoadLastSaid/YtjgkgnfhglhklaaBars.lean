/- Contracts of bars and its closures, open, end, has, with. -/
import Derived.Test.YtjgkgnfhglhklaaCheck
import Derived.Test.YtjgkgnfhglhklaaOwn
namespace Go.Proofs.Ytjgkgnfhglhklaa
set_option linter.unusedSimpArgs false
set_option linter.unusedVariables false
open Go.RowKit

/-- Roads at work: a pointer's block b holds days, stages, strips, heads, pace, shut. -/
structure WorkAt (w : World) (b : Nat) (r : Roads) (f : Flock) (shut : Int) (a : Option Addr) (cap : Nat) : Prop where
  c0 : w.cell? ⟨b, 0, none⟩ = some (.int .i64 r.days)
  c1 : w.cell? ⟨b, 1, none⟩ = some (.int .i64 r.stages)
  c2 : w.cell? ⟨b, 2, none⟩ = some (.slice a r.strips.length cap)
  c3 : w.cell? ⟨b, 3, none⟩ = some (.int .i64 f.heads)
  c4 : w.cell? ⟨b, 4, none⟩ = some (.int .i64 f.pace)
  c5 : w.cell? ⟨b, 5, none⟩ = some (.int .i64 shut)
  strips : StripsAt w a r.strips

theorem WorkAt.below {w w' : World} {b : Nat} {r : Roads} {f : Flock} {shut : Int} {a : Option Addr} {cap : Nat} (h : WorkAt w b r f shut a cap) (hb : Below w.heap.size w w') : WorkAt w' b r f shut a cap := by
  have hc := (bcell hb).1
  have hl := lt_of_cell h.c0
  exact ⟨(hc _ _ hl).trans h.c0, (hc _ _ hl).trans h.c1, (hc _ _ hl).trans h.c2, (hc _ _ hl).trans h.c3, (hc _ _ hl).trans h.c4, (hc _ _ hl).trans h.c5, h.strips.below hb⟩

def bar1 (s : Strip) (f : Flock) : Bool := decide (s.W < legalW f.heads)
def bar2 (s : Strip) (f : Flock) : Bool := decide (f.pace < s.L)
def bar3 (s : Strip) (f : Flock) : Bool := s.K == 4 && decide (s.X < f.heads)
def bar4 (s : Strip) (day : Int) : Bool := s.K == 2 && !(btw day s.X s.Y)
def bar5 (s : Strip) (day : Int) : Bool := s.K == 3 && decide (8 < wrap64 (s.X + wrap64 (s.Y * day)))

theorem bars1_any (w : World) (p q : Nat) (s : Strip) (f : Flock) (hp : StripAt w p 0 s) (hq : w.cell? ⟨q, 0, none⟩ = some (.int .i64 f.heads)) :
    Calls Try.prog 123 #[.pointer (some ⟨p, 0, none⟩), .pointer (some ⟨q, 0, none⟩)] w fun e w' => e = .returned (.bool (bar1 s f)) ∧ Below w.heap.size w w' := by
  obtain ⟨s0, s1, s2, s3, s4, s5, s6⟩ := hp
  simp only [Nat.zero_add] at s1 s2 s3 s4 s5 s6
  go_enter Try.func123, Try.ntmps123
  go_wp2_with fail
  go_quiet ((go_at_call 107; exact Calls.quiet_of_same ((legal_any _ _).mono fun e w' h => ⟨h.1, h.2.symm⟩)))
  go_wp2
  go_ret
  exact ⟨ret_bool (by simp [bar1]), below_drewN (Below.refl _ _) _⟩

theorem bars2_any (w : World) (p q : Nat) (s : Strip) (f : Flock) (hp : StripAt w p 0 s) (hq : w.cell? ⟨q, 1, none⟩ = some (.int .i64 f.pace)) :
    Calls Try.prog 124 #[.pointer (some ⟨p, 0, none⟩), .pointer (some ⟨q, 0, none⟩)] w fun e w' => e = .returned (.bool (bar2 s f)) ∧ Below w.heap.size w w' := by
  obtain ⟨s0, s1, s2, s3, s4, s5, s6⟩ := hp
  simp only [Nat.zero_add] at s1 s2 s3 s4 s5 s6
  go_enter Try.func124, Try.ntmps124
  go_wp2
  go_ret
  exact ⟨ret_bool (by simp [bar2]), Below.refl _ _⟩
theorem bars3_any (w : World) (p q : Nat) (s : Strip) (f : Flock) (hp : StripAt w p 0 s) (hq : w.cell? ⟨q, 0, none⟩ = some (.int .i64 f.heads)) :
    Calls Try.prog 125 #[.pointer (some ⟨p, 0, none⟩), .pointer (some ⟨q, 0, none⟩)] w fun e w' => e = .returned (.bool (bar3 s f)) ∧ Below w.heap.size w w' := by
  obtain ⟨s0, s1, s2, s3, s4, s5, s6⟩ := hp
  simp only [Nat.zero_add] at s1 s2 s3 s4 s5 s6
  go_enter Try.func125, Try.ntmps125
  go_wp2
  all_goals go_ret
  all_goals exact ⟨ret_bool (by simp [bar3, *]), Below.refl _ _⟩
theorem bars4_any (w : World) (p q : Nat) (s : Strip) (day : Int) (hp : StripAt w p 0 s) (hq : w.cell? ⟨q, 0, none⟩ = some (.int .i64 day)) :
    Calls Try.prog 126 #[.pointer (some ⟨p, 0, none⟩), .pointer (some ⟨q, 0, none⟩)] w fun e w' => e = .returned (.bool (bar4 s day)) ∧ Below w.heap.size w w' := by
  obtain ⟨s0, s1, s2, s3, s4, s5, s6⟩ := hp
  simp only [Nat.zero_add] at s1 s2 s3 s4 s5 s6
  go_enter Try.func126, Try.ntmps126
  go_wp2_with (go_at_call 106; refine (between_any _ _ _ _).mono ?_; rintro e w' ⟨rfl, rfl⟩)
  all_goals go_ret
  all_goals exact ⟨ret_bool (by simp [bar4, *]), Below.refl _ _⟩
theorem bars5_any (w : World) (p q : Nat) (s : Strip) (day : Int) (hp : StripAt w p 0 s) (hq : w.cell? ⟨q, 0, none⟩ = some (.int .i64 day)) :
    Calls Try.prog 127 #[.pointer (some ⟨p, 0, none⟩), .pointer (some ⟨q, 0, none⟩)] w fun e w' => e = .returned (.bool (bar5 s day)) ∧ Below w.heap.size w w' := by
  obtain ⟨s0, s1, s2, s3, s4, s5, s6⟩ := hp
  simp only [Nat.zero_add] at s1 s2 s3 s4 s5 s6
  go_enter Try.func127, Try.ntmps127
  go_wp2
  all_goals go_ret
  all_goals exact ⟨ret_bool (by simp [bar5, *]), Below.refl _ _⟩

/-- The k-th test of a strip (from 0). -/
def barTest (s : Strip) (f : Flock) (day : Int) : Nat → Bool
  | 0 => bar1 s f
  | 1 => bar2 s f
  | 2 => bar3 s f
  | 3 => bar4 s day
  | _ => bar5 s day
/-- The reasons among the first k. -/
def barsTo (s : Strip) (f : Flock) (day : Int) : Nat → List Int
  | 0 => []
  | k + 1 => barsTo s f day k ++ (if barTest s f day k then [(k : Int) + 1] else [])
def barsL (s : Strip) (f : Flock) (day : Int) : List Int := barsTo s f day 5
theorem barsTo_le (s : Strip) (f : Flock) (day : Int) (k : Nat) : (barsTo s f day k).length ≤ k := by
  induction k with
  | zero => simp [barsTo]
  | succ k ih => simp only [barsTo, List.length_append]; split <;> simp <;> omega
theorem barsTo_yes {s : Strip} {f : Flock} {day : Int} {k : Nat} (h : barTest s f day k = true) : barsTo s f day (k + 1) = barsTo s f day k ++ [(k : Int) + 1] := by simp [barsTo, h]
theorem barsTo_no {s : Strip} {f : Flock} {day : Int} {k : Nat} (h : barTest s f day k = false) : barsTo s f day (k + 1) = barsTo s f day k := by simp [barsTo, h]

theorem bars_ix0 (x0 x1 x2 x3 x4 : Value) (w : World) : (Instr.index 156 (.agg #[x0, x1, x2, x3, x4]) (.int .i64 0)).run Try.prog w = .ok x0 w := by kernel_rfl
theorem bars_ix1 (x0 x1 x2 x3 x4 : Value) (w : World) : (Instr.index 156 (.agg #[x0, x1, x2, x3, x4]) (.int .i64 1)).run Try.prog w = .ok x1 w := by kernel_rfl
theorem bars_ix2 (x0 x1 x2 x3 x4 : Value) (w : World) : (Instr.index 156 (.agg #[x0, x1, x2, x3, x4]) (.int .i64 2)).run Try.prog w = .ok x2 w := by kernel_rfl
theorem bars_ix3 (x0 x1 x2 x3 x4 : Value) (w : World) : (Instr.index 156 (.agg #[x0, x1, x2, x3, x4]) (.int .i64 3)).run Try.prog w = .ok x3 w := by kernel_rfl
theorem bars_ix4 (x0 x1 x2 x3 x4 : Value) (w : World) : (Instr.index 156 (.agg #[x0, x1, x2, x3, x4]) (.int .i64 4)).run Try.prog w = .ok x4 w := by kernel_rfl

set_option maxRecDepth 100000 in
set_option maxHeartbeats 4000000 in
theorem bars_any (w : World) (b : Nat) (r : Roads) (f : Flock) (shut : Int) (a : Option Addr) (cap : Nat) (h : WorkAt w b r f shut a cap) (i : Nat) (hi : i < r.strips.length) (day : Int) :
    Calls Try.prog 89 #[.pointer (some ⟨b, 0, none⟩), .int .i64 i, .int .i64 day] w
      fun e w' => ∃ v, e = .returned v ∧ OwnInts w' w.heap.size v (barsL r.strips[i] f day) ∧ Below w.heap.size w w' := by
  obtain ⟨c0, c1, c2, c3, c4, c5, hs⟩ := h
  rcases hs with hs | ⟨sb, so, rfl, hs⟩
  · simp [hs] at hi
  have hst := hs i hi
  obtain ⟨s0, s1, s2, s3, s4, s5, s6⟩ := hst
  clear hs
  generalize hg : r.strips[i] = s at s0 s1 s2 s3 s4 s5 s6
  have hmf : ∀ (fn : Fn) (first cap : Array Value) (w : World), (Instr.makeFunc fn first cap).run Try.prog w = .ok (.func fn first cap) w := fun _ _ _ _ => rfl
  have hbl := lt_of_cell c0
  have hsl := lt_of_cell s0
  have hbl1 : b < w.heap.size + 1 := by omega
  have hbl2 : b < w.heap.size + 1 + 1 := by omega
  have hsl1 : sb < w.heap.size + 1 := by omega
  have hsl2 : sb < w.heap.size + 1 + 1 := by omega
  go_enter Try.func89, Try.ntmps89
  go_upto_region 1 with (fail)
  go_cut [7, 8] (fun v7 v8 wx => ∃ p q : Nat, v7 = .pointer (some ⟨p, 0, none⟩) ∧ v8 = .pointer (some ⟨q, 0, none⟩) ∧ w.heap.size < p ∧ w.heap.size < q ∧
      StripAt wx p 0 s ∧ wx.cell? ⟨q, 0, none⟩ = some (.int .i64 f.heads) ∧ wx.cell? ⟨q, 1, none⟩ = some (.int .i64 f.pace) ∧ wx.cell? ⟨w.heap.size, 0, none⟩ = some (.int .i64 day) ∧ Below w.heap.size w wx)
  case first =>
    go_region
    all_goals (go_wp2_with fail; go_meet)
    case rel => exact ⟨_, _, rfl, rfl, by omega, by omega, ⟨by simp [go_sem], by simp [go_sem], by simp [go_sem], by simp [go_sem], by simp [go_sem], by simp [go_sem], by simp [go_sem]⟩, by simp [go_sem], by simp [go_sem], by simp [go_sem], by go_grown⟩
    case rel => exact ⟨_, _, rfl, rfl, by omega, by omega, ⟨by simp [go_sem], by simp [go_sem], by simp [go_sem], by simp [go_sem], by simp [go_sem], by simp [go_sem], by simp [go_sem]⟩, by simp [go_sem], by simp [go_sem], by simp [go_sem], by go_grown⟩
  case rest =>
    obtain ⟨p, q, rfl, rfl, hp, hq, hst, hq0, hq1, hd0, hb⟩ := hcut
    clear c0 c1 c2 c3 c4 c5 s0 s1 s2 s3 s4 s5 s6 hbl1 hbl2 hsl1 hsl2 hbl hsl
    have hpl := lt_of_cell hst.c0
    have hql := lt_of_cell hq0
    have hwl := lt_of_cell hd0
    have Hst := Lib.hid hst; clear hst
    have Hq0 := Lib.hid hq0; clear hq0
    have Hq1 := Lib.hid hq1; clear hq1
    have Hd0 := Lib.hid hd0; clear hd0
    go_wp2
    go_loopw [10, 32] (fun v10 v32 wr => ∃ k : Nat, k ≤ 5 ∧ v32 = .int .i64 k ∧ OwnInts wr wc.heap.size v10 (barsTo s f day k) ∧ Below wc.heap.size wc wr) (fun _ v _ => 5 - (intOf v).toNat)
    case atStart => exact ⟨0, Nat.zero_le _, rfl, OwnInts.nil _ _, Below.alloc (Below.refl _ _) (Nat.le_refl _) _⟩
    case round =>
      obtain ⟨k, hk, rfl, hown, hbr⟩ := hrel
      have hle := barsTo_le s f day k
      by_cases hk5 : k = 5
      · subst hk5
        go_wp2
        go_ret
        exact ⟨_, rfl, hown.mono (by omega), hb.trans (hbr.mono (by omega))⟩
      · obtain ⟨hc, _⟩ := bcell (W := wc) hbr
        have hst : StripAt wr p 0 s := Hst.out.keep fun j => hc _ _ hpl
        have hq0 : wr.cell? ⟨q, 0, none⟩ = some (.int .i64 f.heads) := by rw [hc _ _ hql]; exact Hq0.out
        have hq1 : wr.cell? ⟨q, 1, none⟩ = some (.int .i64 f.pace) := by rw [hc _ _ hql]; exact Hq1.out
        have hd0 : wr.cell? ⟨w.heap.size, 0, none⟩ = some (.int .i64 day) := by rw [hc _ _ hwl]; exact Hd0.out
        have hst' := Lib.hid hst; clear hst
        clear hc
        have hsz := hbr.size
        obtain rfl | rfl | rfl | rfl | rfl : k = 0 ∨ k = 1 ∨ k = 2 ∨ k = 3 ∨ k = 4 := by omega
        all_goals have ix0 := bars_ix0
        all_goals have ix1 := bars_ix1
        all_goals have ix2 := bars_ix2
        all_goals have ix3 := bars_ix3
        all_goals have ix4 := bars_ix4
        all_goals go_wp2_with fail
        all_goals clear ix0 ix1 ix2 ix3 ix4
        · refine (bars1_any wr p q s f hst'.out hq0).mono ?_
          rintro e w2 ⟨rfl, hb2⟩
          cases hT : bar1 s f
          all_goals go_wp2_with (at_builtin; refine app_int1 rfl _ _ rfl wc.heap.size _ _ rfl (hown.below hb2) _ rfl (by omega) (by have := hb2.size; omega) ?_)
          · exact ⟨⟨1, by omega, rfl, by rw [barsTo_no (k := 0) hT]; exact hown.below hb2, hbr.trans (hb2.mono hsz)⟩, by simp [intOf]⟩
          · intro v' w' hown' hbel _
            go_wp2
            exact ⟨⟨1, by omega, rfl, by rw [barsTo_yes (k := 0) hT]; exact hown', hbr.trans ((hb2.mono hsz).trans hbel)⟩, by simp [intOf]⟩
        · refine (bars2_any wr p q s f hst'.out hq1).mono ?_
          rintro e w2 ⟨rfl, hb2⟩
          cases hT : bar2 s f
          all_goals go_wp2_with (at_builtin; refine app_int1 rfl _ _ rfl wc.heap.size _ _ rfl (hown.below hb2) _ rfl (by omega) (by have := hb2.size; omega) ?_)
          · exact ⟨⟨2, by omega, rfl, by rw [barsTo_no (k := 1) hT]; exact hown.below hb2, hbr.trans (hb2.mono hsz)⟩, by simp [intOf]⟩
          · intro v' w' hown' hbel _
            go_wp2
            exact ⟨⟨2, by omega, rfl, by rw [barsTo_yes (k := 1) hT]; exact hown', hbr.trans ((hb2.mono hsz).trans hbel)⟩, by simp [intOf]⟩
        · refine (bars3_any wr p q s f hst'.out hq0).mono ?_
          rintro e w2 ⟨rfl, hb2⟩
          cases hT : bar3 s f
          all_goals go_wp2_with (at_builtin; refine app_int1 rfl _ _ rfl wc.heap.size _ _ rfl (hown.below hb2) _ rfl (by omega) (by have := hb2.size; omega) ?_)
          · exact ⟨⟨3, by omega, rfl, by rw [barsTo_no (k := 2) hT]; exact hown.below hb2, hbr.trans (hb2.mono hsz)⟩, by simp [intOf]⟩
          · intro v' w' hown' hbel _
            go_wp2
            exact ⟨⟨3, by omega, rfl, by rw [barsTo_yes (k := 2) hT]; exact hown', hbr.trans ((hb2.mono hsz).trans hbel)⟩, by simp [intOf]⟩
        · refine (bars4_any wr p w.heap.size s day hst'.out hd0).mono ?_
          rintro e w2 ⟨rfl, hb2⟩
          cases hT : bar4 s day
          all_goals go_wp2_with (at_builtin; refine app_int1 rfl _ _ rfl wc.heap.size _ _ rfl (hown.below hb2) _ rfl (by omega) (by have := hb2.size; omega) ?_)
          · exact ⟨⟨4, by omega, rfl, by rw [barsTo_no (k := 3) hT]; exact hown.below hb2, hbr.trans (hb2.mono hsz)⟩, by simp [intOf]⟩
          · intro v' w' hown' hbel _
            go_wp2
            exact ⟨⟨4, by omega, rfl, by rw [barsTo_yes (k := 3) hT]; exact hown', hbr.trans ((hb2.mono hsz).trans hbel)⟩, by simp [intOf]⟩
        · refine (bars5_any wr p w.heap.size s day hst'.out hd0).mono ?_
          rintro e w2 ⟨rfl, hb2⟩
          cases hT : bar5 s day
          all_goals go_wp2_with (at_builtin; refine app_int1 rfl _ _ rfl wc.heap.size _ _ rfl (hown.below hb2) _ rfl (by omega) (by have := hb2.size; omega) ?_)
          · exact ⟨⟨5, by omega, rfl, by rw [barsTo_no (k := 4) hT]; exact hown.below hb2, hbr.trans (hb2.mono hsz)⟩, by simp [intOf]⟩
          · intro v' w' hown' hbel _
            go_wp2
            exact ⟨⟨5, by omega, rfl, by rw [barsTo_yes (k := 4) hT]; exact hown', hbr.trans ((hb2.mono hsz).trans hbel)⟩, by simp [intOf]⟩
end Go.Proofs.Ytjgkgnfhglhklaa
