/- Contracts of bars and its closures, open, end, has, with. Contracts of has, with, end, open. Where a flock can be within a day: plain laws. -/
import Derived.Test.YtmkjeonjhedgkaaGreatDoorSpec
namespace Go.Proofs.YtmkjeonjhedgkaaGreatDoor
set_option linter.unusedSimpArgs false
set_option linter.unusedVariables false
open Go.RowKit

/-- Roads at work: a pointer's block b holds days, stages, strips, heads, pace, shut. -/
structure WorkAt (w : World) (b : Nat) (r : Roads) (f : Flock) (shut : Int) (a : Option Addr) (cap : Nat) : Prop where
  c0 : w.cell? ⟨b, 0, none⟩ = some (.int .i64 r.days)
  c1 : w.cell? ⟨b, 1, none⟩ = some (.int .i64 r.stages)
  c2 : w.cell? ⟨b, 2, none⟩ = some (.slice a r.strips.length cap)
  c3 : w.cell? ⟨b, 3, none⟩ = some (.int .i64 f.heads)
  c4 : w.cell? ⟨b, 4, none⟩ = some (.int .i64 f.pace)
  c5 : w.cell? ⟨b, 5, none⟩ = some (.int .i64 shut)
  strips : StripsAt w a r.strips

theorem WorkAt.below {w w' : World} {b : Nat} {r : Roads} {f : Flock} {shut : Int} {a : Option Addr} {cap : Nat} (h : WorkAt w b r f shut a cap) (hb : Below w.heap.size w w') : WorkAt w' b r f shut a cap := by
  have hc := (bcell hb).1
  have hl := lt_of_cell h.c0
  exact ⟨(hc _ _ hl).trans h.c0, (hc _ _ hl).trans h.c1, (hc _ _ hl).trans h.c2, (hc _ _ hl).trans h.c3, (hc _ _ hl).trans h.c4, (hc _ _ hl).trans h.c5, h.strips.below hb⟩

def bar1 (s : Strip) (f : Flock) : Bool := decide (s.W < legalW f.heads)
def bar2 (s : Strip) (f : Flock) : Bool := decide (f.pace < s.L)
def bar3 (s : Strip) (f : Flock) : Bool := s.K == 4 && decide (s.X < f.heads)
def bar4 (s : Strip) (day : Int) : Bool := s.K == 2 && !(btw day s.X s.Y)
def bar5 (s : Strip) (day : Int) : Bool := s.K == 3 && decide (8 < wrap64 (s.X + wrap64 (s.Y * day)))

theorem bars1_any (w : World) (p q : Nat) (s : Strip) (f : Flock) (hp : StripAt w p 0 s) (hq : w.cell? ⟨q, 0, none⟩ = some (.int .i64 f.heads)) :
    Calls Tryz.prog 86 #[.pointer (some ⟨p, 0, none⟩), .pointer (some ⟨q, 0, none⟩)] w fun e w' => e = .returned (.bool (bar1 s f)) ∧ Below w.heap.size w w' := by
  obtain ⟨s0, s1, s2, s3, s4, s5, s6⟩ := hp
  simp only [Nat.zero_add] at s1 s2 s3 s4 s5 s6
  go_enter Tryz.func86, Tryz.ntmps86
  go_wp2_with fail
  go_quiet ((go_at_call 87; exact Calls.quiet_of_same ((legal_any _ _).mono fun e w' h => ⟨h.1, h.2.symm⟩)))
  go_wp2
  go_ret
  exact ⟨ret_bool (by simp [bar1]), below_drewN (Below.refl _ _) _⟩

theorem bars2_any (w : World) (p q : Nat) (s : Strip) (f : Flock) (hp : StripAt w p 0 s) (hq : w.cell? ⟨q, 1, none⟩ = some (.int .i64 f.pace)) :
    Calls Tryz.prog 88 #[.pointer (some ⟨p, 0, none⟩), .pointer (some ⟨q, 0, none⟩)] w fun e w' => e = .returned (.bool (bar2 s f)) ∧ Below w.heap.size w w' := by
  obtain ⟨s0, s1, s2, s3, s4, s5, s6⟩ := hp
  simp only [Nat.zero_add] at s1 s2 s3 s4 s5 s6
  go_enter Tryz.func88, Tryz.ntmps88
  go_wp2
  go_ret
  exact ⟨ret_bool (by simp [bar2]), Below.refl _ _⟩
theorem bars3_any (w : World) (p q : Nat) (s : Strip) (f : Flock) (hp : StripAt w p 0 s) (hq : w.cell? ⟨q, 0, none⟩ = some (.int .i64 f.heads)) :
    Calls Tryz.prog 89 #[.pointer (some ⟨p, 0, none⟩), .pointer (some ⟨q, 0, none⟩)] w fun e w' => e = .returned (.bool (bar3 s f)) ∧ Below w.heap.size w w' := by
  obtain ⟨s0, s1, s2, s3, s4, s5, s6⟩ := hp
  simp only [Nat.zero_add] at s1 s2 s3 s4 s5 s6
  go_enter Tryz.func89, Tryz.ntmps89
  go_wp2
  all_goals go_ret
  all_goals exact ⟨ret_bool (by simp [bar3, *]), Below.refl _ _⟩
theorem bars4_any (w : World) (p q : Nat) (s : Strip) (day : Int) (hp : StripAt w p 0 s) (hq : w.cell? ⟨q, 0, none⟩ = some (.int .i64 day)) :
    Calls Tryz.prog 90 #[.pointer (some ⟨p, 0, none⟩), .pointer (some ⟨q, 0, none⟩)] w fun e w' => e = .returned (.bool (bar4 s day)) ∧ Below w.heap.size w w' := by
  obtain ⟨s0, s1, s2, s3, s4, s5, s6⟩ := hp
  simp only [Nat.zero_add] at s1 s2 s3 s4 s5 s6
  go_enter Tryz.func90, Tryz.ntmps90
  go_wp2_with (go_at_call 56; refine (between_any _ _ _ _).mono ?_; rintro e w' ⟨rfl, rfl⟩)
  all_goals go_ret
  all_goals exact ⟨ret_bool (by simp [bar4, *]), Below.refl _ _⟩
theorem bars5_any (w : World) (p q : Nat) (s : Strip) (day : Int) (hp : StripAt w p 0 s) (hq : w.cell? ⟨q, 0, none⟩ = some (.int .i64 day)) :
    Calls Tryz.prog 91 #[.pointer (some ⟨p, 0, none⟩), .pointer (some ⟨q, 0, none⟩)] w fun e w' => e = .returned (.bool (bar5 s day)) ∧ Below w.heap.size w w' := by
  obtain ⟨s0, s1, s2, s3, s4, s5, s6⟩ := hp
  simp only [Nat.zero_add] at s1 s2 s3 s4 s5 s6
  go_enter Tryz.func91, Tryz.ntmps91
  go_wp2
  all_goals go_ret
  all_goals exact ⟨ret_bool (by simp [bar5, *]), Below.refl _ _⟩

/-- The k-th test of a strip (from 0). -/
def barTest (s : Strip) (f : Flock) (day : Int) : Nat → Bool
  | 0 => bar1 s f
  | 1 => bar2 s f
  | 2 => bar3 s f
  | 3 => bar4 s day
  | _ => bar5 s day
/-- The reasons among the first k. -/
def barsTo (s : Strip) (f : Flock) (day : Int) : Nat → List Int
  | 0 => []
  | k + 1 => barsTo s f day k ++ (if barTest s f day k then [(k : Int) + 1] else [])
def barsL (s : Strip) (f : Flock) (day : Int) : List Int := barsTo s f day 5
theorem barsTo_le (s : Strip) (f : Flock) (day : Int) (k : Nat) : (barsTo s f day k).length ≤ k := by
  induction k with
  | zero => simp [barsTo]
  | succ k ih => simp only [barsTo, List.length_append]; split <;> simp <;> omega
theorem barsTo_yes {s : Strip} {f : Flock} {day : Int} {k : Nat} (h : barTest s f day k = true) : barsTo s f day (k + 1) = barsTo s f day k ++ [(k : Int) + 1] := by simp [barsTo, h]
theorem barsTo_no {s : Strip} {f : Flock} {day : Int} {k : Nat} (h : barTest s f day k = false) : barsTo s f day (k + 1) = barsTo s f day k := by simp [barsTo, h]

theorem bars_ix0 (x0 x1 x2 x3 x4 : Value) (w : World) : (Instr.index 149 (.agg #[x0, x1, x2, x3, x4]) (.int .i64 0)).run Tryz.prog w = .ok x0 w := by kernel_rfl
theorem bars_ix1 (x0 x1 x2 x3 x4 : Value) (w : World) : (Instr.index 149 (.agg #[x0, x1, x2, x3, x4]) (.int .i64 1)).run Tryz.prog w = .ok x1 w := by kernel_rfl
theorem bars_ix2 (x0 x1 x2 x3 x4 : Value) (w : World) : (Instr.index 149 (.agg #[x0, x1, x2, x3, x4]) (.int .i64 2)).run Tryz.prog w = .ok x2 w := by kernel_rfl
theorem bars_ix3 (x0 x1 x2 x3 x4 : Value) (w : World) : (Instr.index 149 (.agg #[x0, x1, x2, x3, x4]) (.int .i64 3)).run Tryz.prog w = .ok x3 w := by kernel_rfl
theorem bars_ix4 (x0 x1 x2 x3 x4 : Value) (w : World) : (Instr.index 149 (.agg #[x0, x1, x2, x3, x4]) (.int .i64 4)).run Tryz.prog w = .ok x4 w := by kernel_rfl

set_option maxRecDepth 100000 in
set_option maxHeartbeats 4000000 in
theorem bars_any (w : World) (b : Nat) (r : Roads) (f : Flock) (shut : Int) (a : Option Addr) (cap : Nat) (h : WorkAt w b r f shut a cap) (i : Nat) (hi : i < r.strips.length) (day : Int) :
    Calls Tryz.prog 76 #[.pointer (some ⟨b, 0, none⟩), .int .i64 i, .int .i64 day] w
      fun e w' => ∃ v, e = .returned v ∧ OwnInts w' w.heap.size v (barsL r.strips[i] f day) ∧ Below w.heap.size w w' := by
  obtain ⟨c0, c1, c2, c3, c4, c5, hs⟩ := h
  rcases hs with hs | ⟨sb, so, rfl, hs⟩
  · simp [hs] at hi
  have hst := hs i hi
  obtain ⟨s0, s1, s2, s3, s4, s5, s6⟩ := hst
  clear hs
  generalize hg : r.strips[i] = s at s0 s1 s2 s3 s4 s5 s6
  have hmf : ∀ (fn : Fn) (first cap : Array Value) (w : World), (Instr.makeFunc fn first cap).run Tryz.prog w = .ok (.func fn first cap) w := fun _ _ _ _ => rfl
  have hbl := lt_of_cell c0
  have hsl := lt_of_cell s0
  have hbl1 : b < w.heap.size + 1 := by omega
  have hbl2 : b < w.heap.size + 1 + 1 := by omega
  have hsl1 : sb < w.heap.size + 1 := by omega
  have hsl2 : sb < w.heap.size + 1 + 1 := by omega
  go_enter Tryz.func76, Tryz.ntmps76
  go_upto_region 1 with (fail)
  go_cut [7, 8] (fun v7 v8 wx => ∃ p q : Nat, v7 = .pointer (some ⟨p, 0, none⟩) ∧ v8 = .pointer (some ⟨q, 0, none⟩) ∧ w.heap.size < p ∧ w.heap.size < q ∧
      StripAt wx p 0 s ∧ wx.cell? ⟨q, 0, none⟩ = some (.int .i64 f.heads) ∧ wx.cell? ⟨q, 1, none⟩ = some (.int .i64 f.pace) ∧ wx.cell? ⟨w.heap.size, 0, none⟩ = some (.int .i64 day) ∧ Below w.heap.size w wx)
  case first =>
    go_region
    all_goals (go_wp2_with fail; go_meet)
    case rel => exact ⟨_, _, rfl, rfl, by omega, by omega, ⟨by simp [go_sem], by simp [go_sem], by simp [go_sem], by simp [go_sem], by simp [go_sem], by simp [go_sem], by simp [go_sem]⟩, by simp [go_sem], by simp [go_sem], by simp [go_sem], by go_grown⟩
    case rel => exact ⟨_, _, rfl, rfl, by omega, by omega, ⟨by simp [go_sem], by simp [go_sem], by simp [go_sem], by simp [go_sem], by simp [go_sem], by simp [go_sem], by simp [go_sem]⟩, by simp [go_sem], by simp [go_sem], by simp [go_sem], by go_grown⟩
  case rest =>
    obtain ⟨p, q, rfl, rfl, hp, hq, hst, hq0, hq1, hd0, hb⟩ := hcut
    clear c0 c1 c2 c3 c4 c5 s0 s1 s2 s3 s4 s5 s6 hbl1 hbl2 hsl1 hsl2 hbl hsl
    have hpl := lt_of_cell hst.c0
    have hql := lt_of_cell hq0
    have hwl := lt_of_cell hd0
    have Hst := Lib.hid hst; clear hst
    have Hq0 := Lib.hid hq0; clear hq0
    have Hq1 := Lib.hid hq1; clear hq1
    have Hd0 := Lib.hid hd0; clear hd0
    go_wp2
    go_loopw [10, 32] (fun v10 v32 wr => ∃ k : Nat, k ≤ 5 ∧ v32 = .int .i64 k ∧ OwnInts wr wc.heap.size v10 (barsTo s f day k) ∧ Below wc.heap.size wc wr) (fun _ v _ => 5 - (intOf v).toNat)
    case atStart => exact ⟨0, Nat.zero_le _, rfl, OwnInts.nil _ _, Below.alloc (Below.refl _ _) (Nat.le_refl _) _⟩
    case round =>
      obtain ⟨k, hk, rfl, hown, hbr⟩ := hrel
      have hle := barsTo_le s f day k
      by_cases hk5 : k = 5
      · subst hk5
        go_wp2
        go_ret
        exact ⟨_, rfl, hown.mono (by omega), hb.trans (hbr.mono (by omega))⟩
      · obtain ⟨hc, _⟩ := bcell (W := wc) hbr
        have hst : StripAt wr p 0 s := Hst.out.keep fun j => hc _ _ hpl
        have hq0 : wr.cell? ⟨q, 0, none⟩ = some (.int .i64 f.heads) := by rw [hc _ _ hql]; exact Hq0.out
        have hq1 : wr.cell? ⟨q, 1, none⟩ = some (.int .i64 f.pace) := by rw [hc _ _ hql]; exact Hq1.out
        have hd0 : wr.cell? ⟨w.heap.size, 0, none⟩ = some (.int .i64 day) := by rw [hc _ _ hwl]; exact Hd0.out
        have hst' := Lib.hid hst; clear hst
        clear hc
        have hsz := hbr.size
        obtain rfl | rfl | rfl | rfl | rfl : k = 0 ∨ k = 1 ∨ k = 2 ∨ k = 3 ∨ k = 4 := by omega
        all_goals have ix0 := bars_ix0
        all_goals have ix1 := bars_ix1
        all_goals have ix2 := bars_ix2
        all_goals have ix3 := bars_ix3
        all_goals have ix4 := bars_ix4
        all_goals go_wp2_with fail
        all_goals clear ix0 ix1 ix2 ix3 ix4
        · refine (bars1_any wr p q s f hst'.out hq0).mono ?_
          rintro e w2 ⟨rfl, hb2⟩
          cases hT : bar1 s f
          all_goals go_wp2_with (at_builtin; refine app_int1 rfl _ _ rfl wc.heap.size _ _ rfl (hown.below hb2) _ rfl (by omega) (by have := hb2.size; omega) ?_)
          · exact ⟨⟨1, by omega, rfl, by rw [barsTo_no (k := 0) hT]; exact hown.below hb2, hbr.trans (hb2.mono hsz)⟩, by simp [intOf]⟩
          · intro v' w' hown' hbel _
            go_wp2
            exact ⟨⟨1, by omega, rfl, by rw [barsTo_yes (k := 0) hT]; exact hown', hbr.trans ((hb2.mono hsz).trans hbel)⟩, by simp [intOf]⟩
        · refine (bars2_any wr p q s f hst'.out hq1).mono ?_
          rintro e w2 ⟨rfl, hb2⟩
          cases hT : bar2 s f
          all_goals go_wp2_with (at_builtin; refine app_int1 rfl _ _ rfl wc.heap.size _ _ rfl (hown.below hb2) _ rfl (by omega) (by have := hb2.size; omega) ?_)
          · exact ⟨⟨2, by omega, rfl, by rw [barsTo_no (k := 1) hT]; exact hown.below hb2, hbr.trans (hb2.mono hsz)⟩, by simp [intOf]⟩
          · intro v' w' hown' hbel _
            go_wp2
            exact ⟨⟨2, by omega, rfl, by rw [barsTo_yes (k := 1) hT]; exact hown', hbr.trans ((hb2.mono hsz).trans hbel)⟩, by simp [intOf]⟩
        · refine (bars3_any wr p q s f hst'.out hq0).mono ?_
          rintro e w2 ⟨rfl, hb2⟩
          cases hT : bar3 s f
          all_goals go_wp2_with (at_builtin; refine app_int1 rfl _ _ rfl wc.heap.size _ _ rfl (hown.below hb2) _ rfl (by omega) (by have := hb2.size; omega) ?_)
          · exact ⟨⟨3, by omega, rfl, by rw [barsTo_no (k := 2) hT]; exact hown.below hb2, hbr.trans (hb2.mono hsz)⟩, by simp [intOf]⟩
          · intro v' w' hown' hbel _
            go_wp2
            exact ⟨⟨3, by omega, rfl, by rw [barsTo_yes (k := 2) hT]; exact hown', hbr.trans ((hb2.mono hsz).trans hbel)⟩, by simp [intOf]⟩
        · refine (bars4_any wr p w.heap.size s day hst'.out hd0).mono ?_
          rintro e w2 ⟨rfl, hb2⟩
          cases hT : bar4 s day
          all_goals go_wp2_with (at_builtin; refine app_int1 rfl _ _ rfl wc.heap.size _ _ rfl (hown.below hb2) _ rfl (by omega) (by have := hb2.size; omega) ?_)
          · exact ⟨⟨4, by omega, rfl, by rw [barsTo_no (k := 3) hT]; exact hown.below hb2, hbr.trans (hb2.mono hsz)⟩, by simp [intOf]⟩
          · intro v' w' hown' hbel _
            go_wp2
            exact ⟨⟨4, by omega, rfl, by rw [barsTo_yes (k := 3) hT]; exact hown', hbr.trans ((hb2.mono hsz).trans hbel)⟩, by simp [intOf]⟩
        · refine (bars5_any wr p w.heap.size s day hst'.out hd0).mono ?_
          rintro e w2 ⟨rfl, hb2⟩
          cases hT : bar5 s day
          all_goals go_wp2_with (at_builtin; refine app_int1 rfl _ _ rfl wc.heap.size _ _ rfl (hown.below hb2) _ rfl (by omega) (by have := hb2.size; omega) ?_)
          · exact ⟨⟨5, by omega, rfl, by rw [barsTo_no (k := 4) hT]; exact hown.below hb2, hbr.trans (hb2.mono hsz)⟩, by simp [intOf]⟩
          · intro v' w' hown' hbel _
            go_wp2
            exact ⟨⟨5, by omega, rfl, by rw [barsTo_yes (k := 4) hT]; exact hown', hbr.trans ((hb2.mono hsz).trans hbel)⟩, by simp [intOf]⟩
end Go.Proofs.YtmkjeonjhedgkaaGreatDoor

namespace Go.Proofs.YtmkjeonjhedgkaaGreatDoor
set_option linter.unusedSimpArgs false
set_option linter.unusedVariables false
open Go.RowKit

theorem has_bit (m k s : Nat) (hm : m < 65536) (hk : 2 ^ s = k) : (bits .and .u16 ((m : Int) / (k : Int)) 1 == 1) = m.testBit s := by
  have e : ((m : Int) / (k : Int)) = ((m / k : Nat) : Int) := by simp
  have h1 : m / k < 65536 := Nat.lt_of_le_of_lt (Nat.div_le_self _ _) hm
  have h2 := u16_and_nat (m / k) 1 h1 (by omega)
  have h3 : bits .and .u16 ((m / k : Nat) : Int) 1 = ((m / k &&& 1 : Nat) : Int) := h2
  rw [e, h3, Nat.testBit_eq_decide_div_mod_eq, hk, Nat.and_one_is_mod]
  have : m / k % 2 = 0 ∨ m / k % 2 = 1 := by omega
  rcases this with h | h <;> simp [h]

theorem has_any (m s : Nat) (hm : m < 65536) (hs : s < 6) (w : World) :
    Calls Tryz.prog 71 #[.int .u16 m, .int .i64 s] w fun e w' => e = .returned (.bool (m.testBit s)) ∧ w = w' := by
  obtain rfl | rfl | rfl | rfl | rfl | rfl : s = 0 ∨ s = 1 ∨ s = 2 ∨ s = 3 ∨ s = 4 ∨ s = 5 := by omega
  all_goals go_enter Tryz.func71, Tryz.ntmps71
  all_goals go_wp2
  all_goals go_ret
  all_goals refine ⟨ret_bool ?_, rfl⟩
  · have := has_bit m 1 0 hm rfl; simpa using this
  · exact has_bit m 2 1 hm rfl
  · exact has_bit m 4 2 hm rfl
  · exact has_bit m 8 3 hm rfl
  · exact has_bit m 16 4 hm rfl
  · exact has_bit m 32 5 hm rfl
theorem with_bit (m k : Nat) (hm : m < 65536) (hk : k < 65536) : bits .or .u16 (m : Int) (k : Int) = ((m ||| k : Nat) : Int) := u16_or_nat m k hm hk
theorem with_any (m s : Nat) (hm : m < 65536) (hs : s < 6) (w : World) :
    Calls Tryz.prog 50 #[.int .u16 m, .int .i64 s] w fun e w' => e = .returned (.int .u16 ((m ||| (1 <<< s) : Nat) : Int)) ∧ w = w' := by
  obtain rfl | rfl | rfl | rfl | rfl | rfl : s = 0 ∨ s = 1 ∨ s = 2 ∨ s = 3 ∨ s = 4 ∨ s = 5 := by omega
  all_goals go_enter Tryz.func50, Tryz.ntmps50
  all_goals go_wp2
  all_goals go_ret
  all_goals refine ⟨ret_int ?_, rfl⟩
  · exact with_bit m 1 hm (by decide)
  · exact with_bit m 2 hm (by decide)
  · exact with_bit m 4 hm (by decide)
  · exact with_bit m 8 hm (by decide)
  · exact with_bit m 16 hm (by decide)
  · exact with_bit m 32 hm (by decide)

/-- The other end of a strip, and whether it has the stage at an end. -/
def endOf (s : Strip) (t : Int) : Int × Bool := if t = s.A then (s.B, true) else if t = s.B then (s.A, true) else (0, false)

set_option maxHeartbeats 1000000 in
theorem end_any (w : World) (b : Nat) (r : Roads) (f : Flock) (shut : Int) (a : Option Addr) (cap : Nat) (h : WorkAt w b r f shut a cap) (i : Nat) (hi : i < r.strips.length) (t : Int) :
    Calls Tryz.prog 73 #[.pointer (some ⟨b, 0, none⟩), .int .i64 i, .int .i64 t] w
      fun e w' => e = .returned (.tuple #[.int .i64 (endOf r.strips[i] t).1, .bool (endOf r.strips[i] t).2]) ∧ Below w.heap.size w w' := by
  obtain ⟨c0, c1, c2, c3, c4, c5, hs⟩ := h
  rcases hs with hs | ⟨sb, so, rfl, hs⟩
  · simp [hs] at hi
  obtain ⟨s0, s1, s2, s3, s4, s5, s6⟩ := hs i hi
  clear hs
  generalize hg : r.strips[i] = s at s0 s1 s2 s3 s4 s5 s6
  by_cases hA : t = s.A
  · go_enter Tryz.func73, Tryz.ntmps73
    go_wp2
    all_goals go_ret2
    all_goals exact ⟨by simp [endOf, hA], by go_grown⟩
  · by_cases hB : t = s.B
    · go_enter Tryz.func73, Tryz.ntmps73
      go_wp2
      all_goals go_ret2
      all_goals exact ⟨by simp_all [endOf], by go_grown⟩
    · go_enter Tryz.func73, Tryz.ntmps73
      go_wp2
      all_goals go_ret2
      all_goals exact ⟨by simp [endOf, hA, hB], by go_grown⟩

theorem len_zero (l : List Int) : ((l.length : Int) == 0) = l.isEmpty := by
  cases l with
  | nil => rfl
  | cons x l => simp only [List.length_cons, List.isEmpty_cons, beq_eq_false_iff_ne]; omega

/-- The flock can walk strip i on a day. -/
def openB (r : Roads) (f : Flock) (shut : Int) (i : Nat) (day : Int) : Bool := match r.strips[i]? with
  | some s => ((i : Int) != shut) && (barsL s f day).isEmpty
  | none => false

set_option maxHeartbeats 1000000 in
theorem open_any (w : World) (b : Nat) (r : Roads) (f : Flock) (shut : Int) (a : Option Addr) (cap : Nat) (h : WorkAt w b r f shut a cap) (i : Nat) (hi : i < r.strips.length) (day : Int) :
    Calls Tryz.prog 48 #[.pointer (some ⟨b, 0, none⟩), .int .i64 i, .int .i64 day] w
      fun e w' => e = .returned (.bool (openB r f shut i day)) ∧ Below w.heap.size w w' := by
  have hO : openB r f shut i day = (((i : Int) != shut) && (barsL r.strips[i] f day).isEmpty) := by simp [openB, hi]
  have HO := Lib.hid hO; clear hO
  have H := h
  obtain ⟨c0, c1, c2, c3, c4, c5, hs⟩ := h
  by_cases hs' : (i : Int) = shut
  · subst hs'
    go_enter Tryz.func48, Tryz.ntmps48
    go_wp2_with fail
    go_ret
    exact ⟨ret_bool (by rw [HO.out]; simp), Below.refl _ _⟩
  · go_enter Tryz.func48, Tryz.ntmps48
    go_wp2_with fail
    refine (bars_any w b r f shut a cap H i hi day).mono ?_
    rintro e w1 ⟨v, rfl, hown, hb⟩
    obtain ⟨a1, cap1, rfl, _, _⟩ := hown.ints
    clear hown
    go_wp2
    go_ret
    exact ⟨ret_bool (by rw [HO.out, len_zero]), hb⟩
end Go.Proofs.YtmkjeonjhedgkaaGreatDoor

namespace Go.Proofs.YtmkjeonjhedgkaaGreatDoor
set_option linter.unusedSimpArgs false
set_option linter.unusedVariables false
open Go.RowKit

/-- Valid roads and a valid flock, said field by field. -/
structure Good (r : Roads) (f : Flock) : Prop where
  d1 : 1 ≤ r.days
  d2 : r.days ≤ 10
  s1 : 1 ≤ r.stages
  s2 : r.stages ≤ 6
  n8 : r.strips.length ≤ 8
  strip : ∀ s ∈ r.strips, 0 ≤ s.A ∧ s.A < r.stages ∧ 0 ≤ s.B ∧ s.B < r.stages ∧ s.A ≠ s.B ∧ 1 ≤ s.L ∧ s.L ≤ 9 ∧ 1 ≤ s.W ∧ s.W ≤ 99 ∧
    ((s.K = 1 ∧ s.X = 0 ∧ s.Y = 0) ∨ (s.K = 2 ∧ 0 ≤ s.X ∧ s.X ≤ s.Y ∧ s.Y < r.days) ∨ (s.K = 3 ∧ 0 ≤ s.X ∧ s.X ≤ 20 ∧ -5 ≤ s.Y ∧ s.Y ≤ 5) ∨ (s.K = 4 ∧ 1 ≤ s.X ∧ s.X ≤ 40 ∧ s.Y = 0))
  h1 : 1 ≤ f.heads
  h2 : f.heads ≤ 40
  p1 : 1 ≤ f.pace
  p2 : f.pace ≤ 9

theorem stripsErr_ok {D S : Int} : ∀ {l : List Strip}, stripsErr D S l = 0 ↔ ∀ s ∈ l, stripErr s D S = 0
  | [] => by simp [stripsErr]
  | s :: l => by
    simp only [stripsErr, List.forall_mem_cons]
    by_cases h : stripErr s D S = 0
    · simp [h, stripsErr_ok]
    · simp [h]

theorem stripErr_ok {D S : Int} {s : Strip} : stripErr s D S = 0 ↔ 0 ≤ s.A ∧ s.A < S ∧ 0 ≤ s.B ∧ s.B < S ∧ s.A ≠ s.B ∧ 1 ≤ s.L ∧ s.L ≤ 9 ∧ 1 ≤ s.W ∧ s.W ≤ 99 ∧
    ((s.K = 1 ∧ s.X = 0 ∧ s.Y = 0) ∨ (s.K = 2 ∧ 0 ≤ s.X ∧ s.X ≤ s.Y ∧ s.Y < D) ∨ (s.K = 3 ∧ 0 ≤ s.X ∧ s.X ≤ 20 ∧ -5 ≤ s.Y ∧ s.Y ≤ 5) ∨ (s.K = 4 ∧ 1 ≤ s.X ∧ s.X ≤ 40 ∧ s.Y = 0)) := by
  unfold stripErr kindErr kindFine btw
  obtain ⟨A, B, L, W, K, X, Y⟩ := s
  dsimp only
  by_cases h1 : K = 1
  · subst h1; simp; constructor
    · intro h; repeat' split at h
      all_goals simp_all; try omega
    · intro h; simp_all; omega
  · by_cases h2 : K = 2
    · subst h2; simp; constructor
      · intro h; repeat' split at h
        all_goals simp_all; try omega
      · intro h; simp_all; omega
    · by_cases h3 : K = 3
      · subst h3; simp; constructor
        · intro h; repeat' split at h
          all_goals simp_all; try omega
        · intro h; simp_all; omega
      · by_cases h4 : K = 4
        · subst h4; simp; constructor
          · intro h; repeat' split at h
            all_goals simp_all; try omega
          · intro h; simp_all; omega
        · simp [h1, h2, h3, h4]
          intro h; repeat' split at h
          all_goals simp_all

theorem good_iff {r : Roads} {f : Flock} : Good r f ↔ checkR r = 0 ∧ flockErr f = 0 := by
  constructor
  · intro g
    refine ⟨?_, ?_⟩
    · unfold checkR
      rw [if_neg (by simp [btw]; have := g.d1; have := g.d2; have := g.s1; have := g.s2; omega), if_neg (by have := g.n8; omega)]
      exact stripsErr_ok.2 fun s hs => stripErr_ok.2 (g.strip s hs)
    · unfold flockErr
      rw [if_neg (by simp [btw]; have := g.h1; have := g.h2; have := g.p1; have := g.p2; omega)]
  · rintro ⟨hc, hf⟩
    unfold checkR at hc
    unfold flockErr at hf
    by_cases c1 : (!(btw r.days 1 10) || !(btw r.stages 1 6)) = true
    · rw [if_pos c1] at hc; omega
    · rw [if_neg c1] at hc
      by_cases c2 : 8 < r.strips.length
      · rw [if_pos c2] at hc; omega
      · rw [if_neg c2] at hc
        by_cases c3 : (!(btw f.heads 1 40) || !(btw f.pace 1 9)) = true
        · rw [if_pos c3] at hf; omega
        · simp [btw] at c1 c3
          have hs := stripsErr_ok.1 hc
          exact ⟨by omega, by omega, by omega, by omega, by omega, fun s h => stripErr_ok.1 (hs s h), by omega, by omega, by omega, by omega⟩

/-- What strip i makes of a spot (a stage, and the leagues walked on the day), if the flock can walk it. -/
def stepOk (r : Roads) (f : Flock) (shut : Int) (day : Int) (p : Int × Int) (i : Nat) : Option (Int × Int) := match r.strips[i]? with
  | some s => if (endOf s p.1).2 && decide (p.2 + s.L ≤ f.pace) && openB r f shut i day then some ((endOf s p.1).1, p.2 + s.L) else none
  | none => none

/-- The spots that the flock can be at on a day, from the set n of stages on. -/
inductive Spot (r : Roads) (f : Flock) (shut : Int) (n : Nat) (day : Int) : Int × Int → Prop
  | start (s : Nat) : (s : Int) < r.stages → n.testBit s = true → Spot r f shut n day ((s : Int), 0)
  | step (p q : Int × Int) (i : Nat) : Spot r f shut n day p → stepOk r f shut day p i = some q → Spot r f shut n day q

theorem endOf_range {r : Roads} {f : Flock} (g : Good r f) {s : Strip} (hs : s ∈ r.strips) {t : Int} (h : (endOf s t).2 = true) : 0 ≤ (endOf s t).1 ∧ (endOf s t).1 < r.stages := by
  obtain ⟨a1, a2, b1, b2, _⟩ := g.strip s hs
  unfold endOf at h ⊢
  split
  · exact ⟨b1, b2⟩
  · split
    · exact ⟨a1, a2⟩
    · simp_all

theorem stepOk_some {r : Roads} {f : Flock} {shut day : Int} {p q : Int × Int} {i : Nat} : stepOk r f shut day p i = some q ↔
    ∃ s, r.strips[i]? = some s ∧ (endOf s p.1).2 = true ∧ p.2 + s.L ≤ f.pace ∧ openB r f shut i day = true ∧ q = ((endOf s p.1).1, p.2 + s.L) := by
  unfold stepOk
  cases h : r.strips[i]? with
  | none => simp
  | some s =>
    simp only [Option.some.injEq, exists_eq_left', Option.ite_none_right_eq_some, Bool.and_eq_true, decide_eq_true_eq]
    constructor
    · rintro ⟨⟨⟨h1, h2⟩, h3⟩, h4⟩; exact ⟨h1, h2, h3, h4.symm⟩
    · rintro ⟨h1, h2, h3, h4⟩; exact ⟨⟨⟨h1, h2⟩, h3⟩, h4.symm⟩

theorem Spot.range {r : Roads} {f : Flock} (g : Good r f) {shut : Int} {n : Nat} {day : Int} {p : Int × Int} (h : Spot r f shut n day p) : 0 ≤ p.1 ∧ p.1 < r.stages ∧ 0 ≤ p.2 ∧ p.2 ≤ f.pace := by
  induction h with
  | start s h1 h2 => exact ⟨by simp, h1, by simp, by have := g.p1; simp; omega⟩
  | step p q i hp hq ih =>
    obtain ⟨s, hs, h1, h2, h3, rfl⟩ := stepOk_some.1 hq
    have hm := List.mem_of_getElem? hs
    obtain ⟨r1, r2⟩ := endOf_range g hm h1
    have := (g.strip s hm).2.2.2.2.2.1
    exact ⟨r1, r2, by simp; omega, h2⟩

/-- A list of different numbers below n has at most n of them. -/
theorem nodup_lt_length : ∀ (n : Nat) (l : List Nat), l.Nodup → (∀ x ∈ l, x < n) → l.length ≤ n
  | 0, l, _, h => by
    cases l with
    | nil => simp
    | cons x l => exact absurd (h x (by simp)) (by omega)
  | n + 1, l, hn, h => by
    have h1 := nodup_lt_length n (l.filter (· ≠ n)) (hn.filter _) (fun x hx => by
      simp at hx; have := h x hx.1; omega)
    have h2 : l.length ≤ (l.filter (· ≠ n)).length + 1 := by
      clear h h1
      induction l with
      | nil => simp
      | cons x l ih =>
        obtain ⟨hx, hn'⟩ := List.nodup_cons.1 hn
        by_cases e : x = n
        · subst e
          have : l.filter (· ≠ x) = l := List.filter_eq_self.2 fun y hy => by simp; exact fun e => hx (e ▸ hy)
          simp only [List.length_cons, ne_eq, not_true_eq_false, decide_false, Bool.false_eq_true, not_false_eq_true, List.filter_cons_of_neg]
          rw [this]
          omega
        · have := ih hn'
          rw [List.filter_cons_of_pos (by simpa using e)]
          simp only [List.length_cons]; omega
    omega

theorem grid_length {m k : Int} (hm : 0 ≤ m) (hk : 0 ≤ k) (l : List (Int × Int)) (hn : l.Nodup) (h : ∀ p ∈ l, 0 ≤ p.1 ∧ p.1 < m ∧ 0 ≤ p.2 ∧ p.2 ≤ k) : (l.length : Int) ≤ m * (k + 1) := by
  obtain ⟨M, rfl⟩ := Int.eq_ofNat_of_zero_le hm
  obtain ⟨K, rfl⟩ := Int.eq_ofNat_of_zero_le hk
  have h1 : (l.map fun p => p.1.toNat * (K + 1) + p.2.toNat).Nodup := by
    rw [List.nodup_iff_pairwise_ne, List.pairwise_map]
    refine (List.nodup_iff_pairwise_ne.1 hn).imp_of_mem fun {p q} hp hq hne e => hne ?_
    obtain ⟨p1, p2, p3, p4⟩ := h p hp
    obtain ⟨q1, q2, q3, q4⟩ := h q hq
    have e1 : p.2.toNat < K + 1 := by omega
    have e2 : q.2.toNat < K + 1 := by omega
    have d1 := congrArg (· / (K + 1)) e
    have d2 := congrArg (· % (K + 1)) e
    simp only [Nat.mul_comm _ (K + 1)] at d1 d2
    rw [Nat.mul_add_div (by omega), Nat.mul_add_div (by omega), Nat.div_eq_of_lt e1, Nat.div_eq_of_lt e2] at d1
    rw [Nat.mul_add_mod, Nat.mul_add_mod, Nat.mod_eq_of_lt e1, Nat.mod_eq_of_lt e2] at d2
    exact Prod.ext (by omega) (by omega)
  have h2 := nodup_lt_length (M * (K + 1)) _ h1 (fun x hx => by
    obtain ⟨p, hp, rfl⟩ := List.mem_map.1 hx
    obtain ⟨p1, p2, p3, p4⟩ := h p hp
    have : p.1.toNat + 1 ≤ M := by omega
    have := Nat.mul_le_mul_right (K + 1) this
    rw [Nat.add_mul] at this
    omega)
  rw [List.length_map] at h2
  have : ((M * (K + 1) : Nat) : Int) = (M : Int) * ((K : Int) + 1) := by simp
  omega
end Go.Proofs.YtmkjeonjhedgkaaGreatDoor
