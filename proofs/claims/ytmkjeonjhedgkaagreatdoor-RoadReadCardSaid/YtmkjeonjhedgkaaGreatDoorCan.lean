/- The contract of after: at which stages the flock can be at a day's end. The contracts of can and late. The contracts of math/bits.Mul at small numbers, and of slices.Repeat of one number. The contracts of late, comes. The contract of comes. -/
import Derived.Test.YtmkjeonjhedgkaaGreatDoorSpots
import Derived.Laws.CopyOwn
import Derived.Deep.RegionLaw
namespace Go.Proofs.YtmkjeonjhedgkaaGreatDoor
set_option linter.unusedSimpArgs false
set_option linter.unusedVariables false
open Go.RowKit
open Go.ChangeMaps (setBlock)

/-- The spots, reckoned. -/
def growL (r : Roads) (f : Flock) (shut : Int) (day : Int) (S : List (Int × Int)) : List (Int × Int) :=
  S ++ ((S.flatMap fun p => (List.range r.strips.length).filterMap (stepOk r f shut day p)).filter (fun q => !S.contains q)).eraseDups
def spotsK (r : Roads) (f : Flock) (shut : Int) (n : Nat) (day : Int) : Nat → List (Int × Int)
  | 0 => startsTo n r.stages.toNat
  | k + 1 => growL r f shut day (spotsK r f shut n day k)
def orAll (l : List (Int × Int)) : Nat := l.foldl (fun acc p => acc ||| 1 <<< p.1.toNat) 0
/-- The set of stages at which the flock can be at the end of a day. -/
def afterN (r : Roads) (f : Flock) (shut : Int) (n : Nat) (day : Int) : Nat := orAll (spotsK r f shut n day 9)

theorem mem_growL {r : Roads} {f : Flock} {shut day : Int} {S : List (Int × Int)} {q : Int × Int} : q ∈ growL r f shut day S ↔ q ∈ S ∨ ∃ p ∈ S, ∃ i, stepOk r f shut day p i = some q := by
  unfold growL
  rw [List.mem_append, List.mem_eraseDups, List.mem_filter, List.mem_flatMap]
  constructor
  · rintro (h | ⟨⟨p, hp, h⟩, _⟩)
    · exact .inl h
    · obtain ⟨i, _, hi⟩ := List.mem_filterMap.1 h; exact .inr ⟨p, hp, i, hi⟩
  · rintro (h | ⟨p, hp, i, hi⟩)
    · exact .inl h
    · by_cases hq : q ∈ S
      · exact .inl hq
      · refine .inr ⟨⟨p, hp, List.mem_filterMap.2 ⟨i, ?_, hi⟩⟩, by simpa using hq⟩
        obtain ⟨s, hs, _⟩ := stepOk_some.1 hi
        exact List.mem_range.2 (List.getElem?_eq_some_iff.1 hs).1

theorem spotsK_mono {r : Roads} {f : Flock} {shut : Int} {n : Nat} {day : Int} {q : Int × Int} {k j : Nat} (h : q ∈ spotsK r f shut n day k) (hj : k ≤ j) : q ∈ spotsK r f shut n day j := by
  induction j with
  | zero => obtain rfl : k = 0 := by omega
            exact h
  | succ j ih =>
    by_cases e : k = j + 1
    · subst e; exact h
    · exact mem_growL.2 (.inl (ih (by omega)))

theorem spotsK_sound {r : Roads} {f : Flock} {shut : Int} {n : Nat} {day : Int} : ∀ {k : Nat} {q : Int × Int}, q ∈ spotsK r f shut n day k → Spot r f shut n day q
  | 0, q, h => by
    obtain ⟨s, h1, h2, rfl⟩ := mem_starts.1 h
    exact .start s (by omega) h2
  | k + 1, q, h => by
    rcases mem_growL.1 h with h | ⟨p, hp, i, hi⟩
    · exact spotsK_sound h
    · exact .step p q i (spotsK_sound hp) hi

theorem mem_spotsK {r : Roads} {f : Flock} (g : Good r f) {shut : Int} {n : Nat} {day : Int} {q : Int × Int} : q ∈ spotsK r f shut n day 9 ↔ Spot r f shut n day q := by
  refine ⟨spotsK_sound, fun h => ?_⟩
  have key : ∀ k : Nat, q.2 ≤ (k : Int) → q ∈ spotsK r f shut n day k := by
    induction h with
    | start s h1 h2 => exact fun k _ => spotsK_mono (k := 0) (mem_starts.2 ⟨s, by omega, h2, rfl⟩) (Nat.zero_le _)
    | step p q i hp hq ih =>
      intro k hk
      obtain ⟨s, hs, _, _, _, rfl⟩ := stepOk_some.1 hq
      have hL := (g.strip s (List.mem_of_getElem? hs)).2.2.2.2.2.1
      obtain ⟨_, _, h3, _⟩ := hp.range g
      dsimp only at hk
      obtain ⟨k', rfl⟩ : ∃ k', k = k' + 1 := ⟨k - 1, by omega⟩
      exact mem_growL.2 (.inr ⟨p, ih k' (by omega), i, hq⟩)
  have := (h.range g).2.2.2
  have := g.p2
  exact key 9 (by omega)

theorem testBit_or_one (a s t : Nat) : (a ||| 1 <<< s).testBit t = (a.testBit t || decide (s = t)) := by
  rw [Nat.testBit_or, Nat.one_shiftLeft, Nat.testBit_two_pow]

theorem orAll_from (l : List (Int × Int)) : ∀ (a t : Nat), (l.foldl (fun acc p => acc ||| 1 <<< p.1.toNat) a).testBit t = true ↔ a.testBit t = true ∨ ∃ p ∈ l, p.1.toNat = t := by
  induction l with
  | nil => simp
  | cons p l ih =>
    intro a t
    rw [List.foldl_cons, ih, testBit_or_one]
    simp only [Bool.or_eq_true, decide_eq_true_eq, List.mem_cons]
    constructor
    · rintro ((h | h) | ⟨q, hq, h⟩)
      · exact .inl h
      · exact .inr ⟨p, .inl rfl, h⟩
      · exact .inr ⟨q, .inr hq, h⟩
    · rintro (h | ⟨q, rfl | hq, h⟩)
      · exact .inl (.inl h)
      · exact .inl (.inr h)
      · exact .inr ⟨q, hq, h⟩
theorem orAll_bit (l : List (Int × Int)) (t : Nat) : (orAll l).testBit t = true ↔ ∃ p ∈ l, p.1.toNat = t := by
  unfold orAll; rw [orAll_from]; simp

theorem afterN_bit {r : Roads} {f : Flock} (g : Good r f) {shut : Int} {n : Nat} {day : Int} (t : Nat) : (afterN r f shut n day).testBit t = true ↔ ∃ l, Spot r f shut n day ((t : Int), l) := by
  unfold afterN
  rw [orAll_bit]
  constructor
  · rintro ⟨p, hp, rfl⟩
    have hs := spotsK_sound hp
    have := (hs.range g).1
    exact ⟨p.2, by rw [show ((p.1.toNat : Int), p.2) = p from Prod.ext (by simp; omega) rfl]; exact hs⟩
  · rintro ⟨l, hl⟩
    exact ⟨_, (mem_spotsK g).2 hl, by simp⟩

theorem lt_of_bits {a k : Nat} (h : ∀ t, a.testBit t = true → t < k) : a < 2 ^ k :=
  Nat.lt_pow_two_of_testBit a fun t ht => by
    cases hb : a.testBit t
    · rfl
    · have := h t hb; omega

theorem afterN_lt {r : Roads} {f : Flock} (g : Good r f) {shut : Int} {n : Nat} {day : Int} : afterN r f shut n day < 64 :=
  lt_of_bits (k := 6) fun t ht => by
    obtain ⟨l, hl⟩ := (afterN_bit g t).1 ht
    have := (hl.range g).2.1
    have := g.s2
    simp at *; omega

theorem eq_of_bits {a b : Nat} (h : ∀ t, a.testBit t = true ↔ b.testBit t = true) : a = b :=
  Nat.eq_of_testBit_eq fun t => by rw [Bool.eq_iff_iff]; exact h t

set_option maxRecDepth 100000 in
set_option maxHeartbeats 4000000 in
theorem after_any (w : World) (b : Nat) (r : Roads) (f : Flock) (shut : Int) (a : Option Addr) (cap : Nat) (h : WorkAt w b r f shut a cap) (g : Good r f) (n : Nat) (hn : n < 65536) (day : Int) :
    Calls Tryz.prog 70 #[.pointer (some ⟨b, 0, none⟩), .int .u16 n, .int .i64 day] w
      fun e w' => e = .returned (.int .u16 (afterN r f shut n day)) ∧ Below w.heap.size w w' := by
  go_enter Tryz.func70, Tryz.ntmps70
  go_wp2_with fail
  refine (spots_any w b r f shut a cap h g n hn day).mono ?_
  rintro e w1 ⟨m, S, rfl, hS, hnd, hm, hb⟩
  have hrg := @run_range Tryz.prog 147 _ _ Tryz.underlying147 w1 m _ hm
  simp only [List.length_map] at hrg
  have HS := Lib.hid hS; clear hS
  have hml := hm.lt
  go_wp2_with fail
  go_loopg [7] S.length (fun gk v7 wx => ∃ (acc : Nat) (seen : List Nat), v7 = .int .u16 acc ∧ acc < 64 ∧ (∀ t, acc.testBit t = true ↔ ∃ i ∈ seen, ∃ p, S[i]? = some p ∧ p.1.toNat = t) ∧
      seen.Nodup ∧ (∀ i ∈ seen, i < S.length) ∧ gk + seen.length = S.length ∧ IterIs wx w1.heap.size m S.length seen ∧ Below w1.heap.size w1 wx ∧ w1.heap.size < wx.heap.size)
  case atStart => exact ⟨0, [], rfl, by omega, by simp, by simp, by simp, by simp, IterIs.made, Below.alloc (Below.refl _ _) (Nat.le_refl _) _, by simp⟩
  case round =>
    clear hrg
    obtain ⟨acc, seen, rfl, hacc, hbits, hsn, hsl, hgk, hit, hbx, hlt⟩ := hrel
    have hm' : MapIs wr m (S.map pairV) := hm.below hbx hml
    have Hb := Lib.hid hbits; clear hbits
    have Hg := Lib.hid hgk; clear hgk
    have Hsl := Lib.hid hsl; clear hsl
    rcases run_next (P := Tryz.prog) 0 hm' (by simpa using hit) with ⟨hall, hrun⟩ | ⟨i, q, nd, hi, hni, hrun⟩
    · have Hall := Lib.hid hall; clear hall
      go_wp2
      go_ret
      refine ⟨ret_int ?_, hb.trans (hbx.mono hb.size)⟩
      congr 1
      refine eq_of_bits fun t => ?_
      rw [Hb.out, afterN_bit g]
      constructor
      · rintro ⟨i, _, p, hp, rfl⟩
        have hs := (HS.out p).1 (List.mem_of_getElem? hp)
        have := (hs.range g).1
        exact ⟨p.2, by rw [show ((p.1.toNat : Int), p.2) = p from Prod.ext (by simp; omega) rfl]; exact hs⟩
      · rintro ⟨l, hl⟩
        obtain ⟨i, hi⟩ := List.mem_iff_getElem?.1 ((HS.out _).2 hl)
        exact ⟨i, Hall.out i (by simpa using (List.getElem?_eq_some_iff.1 hi).1), _, hi, by simp⟩
    · rw [List.getElem?_map] at hi
      obtain ⟨p, hp, rfl⟩ := Option.map_eq_some_iff.1 hi
      simp only [List.length_map] at hrun
      have hs := (HS.out p).1 (List.mem_of_getElem? hp)
      obtain ⟨x1, x2, x3, x4⟩ := hs.range g
      have g2 := g.s2
      obtain ⟨t, ht⟩ := Int.eq_ofNat_of_zero_le x1
      clear hs hi
      have hm2 : MapIs (setBlock (wr.drewN nd) w1.heap.size (.mapIter (some m) S.length (seen ++ [i]).toArray S.length)) m (S.map pairV) := by
        unfold MapIs; rw [setBlock_other _ (by omega)]; exact hm'
      have hit2 : IterIs (setBlock (wr.drewN nd) w1.heap.size (.mapIter (some m) S.length (seen ++ [i]).toArray S.length)) w1.heap.size m S.length (seen ++ [i]) := by
        have h1 : w1.heap.size < (wr.drewN nd).heap.size := by simpa [World.drewN] using hlt
        show ((wr.drewN nd).heap.setIfInBounds _ _)[w1.heap.size]? = some _
        rw [Array.getElem?_setIfInBounds_self_of_lt h1]
      have hent := run_entry (P := Tryz.prog) (q := pairV p) (i := i) hm2 (by simpa using hit2) (by simp [hp])
      have hsz : (setBlock (wr.drewN nd) w1.heap.size (.mapIter (some m) S.length (seen ++ [i]).toArray S.length)).heap.size = wr.heap.size := by rw [setBlock_size]; rfl
      have hbw : Below w1.heap.size w1 (setBlock (wr.drewN nd) w1.heap.size (.mapIter (some m) S.length (seen ++ [i]).toArray S.length)) := setBlock_below _ (below_drewN hbx nd) (Nat.le_refl _)
      generalize setBlock (wr.drewN nd) w1.heap.size (.mapIter (some m) S.length (seen ++ [i]).toArray S.length) = W at hrun hent hsz hbw hit2
      simp only [pairV, spotV] at hrun hent
      clear hm2 hm' hit
      have Ht := Lib.hid ht
      obtain ⟨p1, p2⟩ := p
      dsimp only at ht x1 x2 x3 x4
      subst ht
      have Hsz := Lib.hid hsz; clear hsz
      go_wp2_with fail
      refine (with_any acc t (by omega) (by omega) _).mono ?_
      rintro e w' ⟨rfl, rfl⟩
      go_wp2_with fail
      have hpl := (List.getElem?_eq_some_iff.1 hp).1
      have hlen := nodup_lt_length S.length (seen ++ [i]) (List.nodup_append.2 ⟨hsn, by simp, fun a ha b hb e => by simp at hb; subst hb; exact hni (e ▸ ha)⟩)
        (fun x hx => by rcases List.mem_append.1 hx with hx | hx
                        · exact Hsl.out x hx
                        · simp at hx; omega)
      simp only [List.length_append, List.length_cons, List.length_nil] at hlen
      have hg' := Hg.out
      go_roundg (gk - 1)
      case measure => omega
      case rel =>
        refine ⟨acc ||| 1 <<< t, seen ++ [i], rfl, ?_, ?_, List.nodup_append.2 ⟨hsn, by simp, fun a ha b hb e => by simp at hb; subst hb; exact hni (e ▸ ha)⟩, ?_, ?_, hit2.below (Below.alloc (Below.refl _ _) (Nat.le_refl _) _) hit2.lt, hbw.trans (Below.alloc (Below.refl _ _) (by rw [Hsz.out]; omega) _), ?_⟩
        · refine lt_of_bits (k := 6) fun u hu => ?_
          rw [testBit_or_one] at hu
          simp only [Bool.or_eq_true, decide_eq_true_eq] at hu
          rcases hu with hu | rfl
          · obtain ⟨i', _, p, hp', rfl⟩ := (Hb.out u).1 hu
            have hs := ((HS.out p).1 (List.mem_of_getElem? hp')).range g
            omega
          · omega
        · intro u
          rw [testBit_or_one]
          simp only [Bool.or_eq_true, decide_eq_true_eq, Hb.out]
          constructor
          · rintro (⟨i', h1, h2⟩ | rfl)
            · exact ⟨i', List.mem_append_left _ h1, h2⟩
            · exact ⟨i, by simp, _, hp, by simp⟩
          · rintro ⟨i', h1, p, h2, h3⟩
            rcases List.mem_append.1 h1 with h1 | h1
            · exact .inl ⟨i', h1, p, h2, h3⟩
            · simp at h1; subst h1
              rw [hp] at h2
              obtain rfl : ((t : Int), p2) = p := by simpa using h2
              exact .inr (by simpa using h3)
        · intro x hx
          rcases List.mem_append.1 hx with hx | hx
          · exact Hsl.out x hx
          · simp at hx; omega
        · simp; omega
        · simp only [World.size_alloc]; rw [Hsz.out]; omega
end Go.Proofs.YtmkjeonjhedgkaaGreatDoor

namespace Go.Proofs.YtmkjeonjhedgkaaGreatDoor
set_option linter.unusedSimpArgs false
set_option linter.unusedVariables false
open Go.RowKit

/-- The nights after k days, from the nights n at the beginning of a day on. -/
def nightsTo (r : Roads) (f : Flock) (shut : Int) (n : Nat) (day : Int) : Nat → Nat
  | 0 => n
  | k + 1 => afterN r f shut (nightsTo r f shut n day k) (day + k)
theorem nightsTo_lt {r : Roads} {f : Flock} (g : Good r f) {shut : Int} {n : Nat} {day : Int} (hn : n < 64) : ∀ k, nightsTo r f shut n day k < 64
  | 0 => hn
  | _ + 1 => afterN_lt g

def canB (r : Roads) (f : Flock) (shut : Int) (fr tt : Nat) (day by' : Int) : Bool :=
  decide (day ≤ by') && (nightsTo r f shut (0 ||| 1 <<< fr) day (by' - day + 1).toNat).testBit tt

theorem one_shl_lt {s : Nat} (h : s < 6) : (0 ||| 1 <<< s) < 64 := by
  obtain rfl | rfl | rfl | rfl | rfl | rfl : s = 0 ∨ s = 1 ∨ s = 2 ∨ s = 3 ∨ s = 4 ∨ s = 5 := by omega
  all_goals decide

set_option maxRecDepth 100000 in
set_option maxHeartbeats 4000000 in
theorem can_any (w : World) (b : Nat) (r : Roads) (f : Flock) (shut : Int) (a : Option Addr) (cap : Nat) (h : WorkAt w b r f shut a cap) (g : Good r f) (fr tt : Nat) (hf : fr < 6) (ht : tt < 6) (day by' : Int)
    (h1 : 0 ≤ day) (h2 : day ≤ 100) (h3 : 0 ≤ by') (h4 : by' ≤ 100) :
    Calls Tryz.prog 46 #[.pointer (some ⟨b, 0, none⟩), .int .i64 fr, .int .i64 tt, .int .i64 day, .int .i64 by'] w
      fun e w' => e = .returned (.bool (canB r f shut fr tt day by')) ∧ Below w.heap.size w w' := by
  have hof := one_shl_lt hf
  have hwith := fun w => with_any 0 fr (by omega) hf w
  go_enter Tryz.func46, Tryz.ntmps46
  go_wp2_with fail
  refine (with_any 0 fr (by omega) hf _).mono ?_
  rintro e w' ⟨rfl, rfl⟩
  clear hwith
  generalize hn0 : (0 ||| 1 <<< fr) = n0 at hof
  have Hn0 := Lib.hid hn0; clear hn0
  go_wp2_with fail
  go_loopw [11, 12] (fun v11 v12 wx => ∃ k : Nat, day + k ≤ max day (by' + 1) ∧ v11 = .int .u16 (nightsTo r f shut n0 day k) ∧ v12 = .int .i64 (day + k) ∧ Below w.heap.size w wx) (fun _ v _ => (by' + 1 - intOf v).toNat)
  case atStart => exact ⟨0, by simp; omega, rfl, by simp, Below.refl _ _⟩
  case round =>
    obtain ⟨k, hk, rfl, rfl, hb⟩ := hrel
    have hlt := nightsTo_lt (shut := shut) (day := day) g hof k
    generalize hm : nightsTo r f shut n0 day k = m at hlt
    have Hm := Lib.hid hm; clear hm
    have Hk := Lib.hid hk; clear hk
    by_cases hd : day + k ≤ by'
    · go_wp2_with fail
      refine (after_any wr b r f shut a cap (h.below hb) g m (by omega) _).mono ?_
      rintro e w2 ⟨rfl, hb2⟩
      go_wp2_with fail
      exact ⟨⟨k + 1, by have := Hk.out; omega, by rw [nightsTo, Hm.out], by rw [show (day + (k : Int) + 1) = day + ((k + 1 : Nat) : Int) by omega], hb.trans (hb2.mono hb.size)⟩, by simp [intOf]; omega⟩
    · have hk := Hk.out
      by_cases hdb : day ≤ by'
      · have hkk : k = (by' - day + 1).toNat := by omega
        go_wp2_with fail
        refine (has_any m tt (by omega) ht _).mono ?_
        rintro e w' ⟨rfl, rfl⟩
        go_wp2_with fail
        go_ret
        refine ⟨ret_bool ?_, hb⟩
        rw [canB, Hn0.out, ← hkk, Hm.out]
        simp [hdb]
      · have hdb' : decide (day ≤ by') = false := decide_eq_false hdb
        go_wp2_with fail
        go_ret
        refine ⟨ret_bool ?_, hb⟩
        rw [canB, hdb']
        simp
end Go.Proofs.YtmkjeonjhedgkaaGreatDoor

namespace Go.Proofs.YtmkjeonjhedgkaaGreatDoor
set_option linter.unusedSimpArgs false
set_option linter.unusedVariables false
open Go.RowKit

set_option maxRecDepth 100000 in
theorem mul_any (c : Int) (h1 : 1 ≤ c) (h2 : c ≤ 6) (w : World) :
    Calls Tryz.prog 84 #[.int .u64 1, .int .u64 c] w fun e w' => e = .returned (.tuple #[.int .u64 0, .int .u64 c]) ∧ w = w' := by
  have m1 : bits BinOp.and IntKind.u64 1 4294967295 = 1 := by decide +kernel
  have m2 : bits BinOp.and IntKind.u64 2 4294967295 = 2 := by decide +kernel
  have m3 : bits BinOp.and IntKind.u64 3 4294967295 = 3 := by decide +kernel
  have m4 : bits BinOp.and IntKind.u64 4 4294967295 = 4 := by decide +kernel
  have m5 : bits BinOp.and IntKind.u64 5 4294967295 = 5 := by decide +kernel
  have m6 : bits BinOp.and IntKind.u64 6 4294967295 = 6 := by decide +kernel
  have m0 : bits BinOp.and IntKind.u64 0 4294967295 = 0 := by decide +kernel
  obtain rfl | rfl | rfl | rfl | rfl | rfl : c = 1 ∨ c = 2 ∨ c = 3 ∨ c = 4 ∨ c = 5 ∨ c = 6 := by omega
  all_goals go_enter Tryz.func84, Tryz.ntmps84
  all_goals go_wp2
  all_goals go_ret2
  all_goals exact ⟨by simp, rfl⟩

theorem info_int : (Tryz.prog.info? 3).map (fun i => (i.zero, i.size, i.bytes)) = some (some (.int .i64 0), 1, 8) := by kernel_rfl
theorem size_int : (Tryz.prog.info? 3).map (·.size) = some 1 := by kernel_rfl

set_option maxRecDepth 100000 in
set_option maxHeartbeats 4000000 in
theorem repeat_any (c : Nat) (h1 : 1 ≤ c) (h2 : c ≤ 6) (b : Nat) (x : Int) (w : World) (hx : w.cell? ⟨b, 0, none⟩ = some (.int .i64 x)) :
    Calls Tryz.prog 69 #[.slice (some ⟨b, 0, none⟩) 1 1, .int .i64 c] w
      fun e w' => ∃ v, e = .returned v ∧ OwnInts w' w.heap.size v (List.replicate c x) ∧ Below w.heap.size w w' := by
  obtain ⟨i0, hi, hz0, hz1, hz2⟩ := info_parts info_int
  have hbl := lt_of_cell hx
  go_enter Tryz.func69, Tryz.ntmps69
  go_wp2_with fail
  refine (mul_any c (by omega) (by omega) _).mono ?_
  rintro e w' ⟨rfl, rfl⟩
  go_upto_region 6 with (fail)
  go_wp2_with (first | (at_make; refine wpList_make_full w rfl _ _ 25 rfl w.heap.size 3 i0 (.int .i64 0) 1 Tryz.underlying25 hi hz0 hz1 _ _ _ _ c rfl rfl rfl rfl (by rw [hz2]; omega) (by unfold maxLen; omega) (Nat.le_refl _) ?_))
  intro w1 hown hgrow
  have hb1 : Below w.heap.size w w1 := Below.grown (Below.refl _ _) hgrow (Nat.le_refl _) (fun k hk => by simp at hk)
  go_upto_region 7 with (fail)
  obtain ⟨_, hv⟩ := hown
  rcases hv with ⟨hv, _⟩ | ⟨gb, cap, cur0, hv, _, hh, hc1, _, hcs, _⟩
  · simp at hv
  simp only [Value.slice.injEq, Option.some.injEq, Addr.mk.injEq] at hv
  obtain ⟨⟨rfl, _⟩, _, rfl⟩ := hv
  obtain ⟨cur, hcur, hcl⟩ : ∃ cur : List Value, w1.heap[w.heap.size]? = some (.cells cur.toArray 3 (0, 0)) ∧ cur.length = c := ⟨cur0.toList, by simpa using hh, by simpa using hcs⟩
  clear hh hcs hgrow
  have Hcl := Lib.hid hcl; clear hcl
  have Hcur := Lib.hid hcur; clear hcur
  have hn1 : [Value.int .i64 x].length = Nat.min 1 c := by simp [Nat.min_def]; omega
  have hfit : 0 + [Value.int .i64 x].length ≤ cur.length := by have := Hcl.out; simp; omega
  have h1c : ∀ v ∈ [Value.int .i64 x], v.oneCell' = true := by intro v hv; simp at hv; subst hv; rfl
  have hpos : 0 < [Value.int .i64 x].length → (some (⟨w.heap.size, 0, none⟩ : Addr)) = some ⟨w.heap.size, 0, none⟩ ∧ ∃ ad, (some (⟨b, 0, none⟩ : Addr)) = some ad ∧ ∀ j v, [Value.int .i64 x][j]? = some v → w1.cell? (ad.add j) = some v := by
    refine fun _ => ⟨rfl, _, rfl, fun j v hj => ?_⟩
    match j, hj with
    | 0, hj => simp at hj; subst hj; rw [show (Addr.add ⟨b, 0, none⟩ 0) = ⟨b, 0, none⟩ from rfl, (bcell hb1).1 _ _ hbl]; exact hx
  have Hn1 := Lib.hid hn1; clear hn1
  have Hfit := Lib.hid hfit; clear hfit
  have H1c := Lib.hid h1c; clear h1c
  have Hpos := Lib.hid hpos; clear hpos
  go_wp2_with (with_reducible refine wpList_copy_splice rfl (.tmp 31) (.tmp 32) 25 25 rfl 3 Tryz.underlying25 size_int _ _ _ _ _ _ rfl rfl w.heap.size 0 cur 3 Hcur.out [.int .i64 x] Hn1.out Hpos.out Hfit.out H1c.out w.heap.size w hb1 (Nat.le_refl _) ?_)
  intro w2 hcur2 hb2
  go_wp2_with fail
  go_loopg [8] c (fun gk v8 wx => ∃ (k : Nat) (cur : List Value), 1 ≤ k ∧ k ≤ c ∧ gk + k = c + 1 ∧ v8 = .int .i64 k ∧ cur.length = c ∧ wx.heap[w.heap.size]? = some (.cells cur.toArray 3 (0, 0)) ∧ cur.take k = List.replicate k (.int .i64 x) ∧ Below w.heap.size w wx)
  case atStart =>
    refine ⟨1, _, Nat.le_refl _, h1, by omega, rfl, ?_, hcur2.out, ?_, hb2⟩
    · have := Hcl.out; simp [splice]; omega
    · simp [splice]
  case round =>
    clear Hcl Hcur hcur2 hb1 hb2 Hn1 Hfit H1c Hpos
    obtain ⟨k, cur, hk1, hk2, hgk, rfl, hcl, hcur, htk, hbr⟩ := hrel
    have Hg := Lib.hid hgk; clear hgk
    have Hcl := Lib.hid hcl; clear hcl
    have Hcur := Lib.hid hcur; clear hcur
    have Htk := Lib.hid htk; clear htk
    by_cases hlt : k < c
    · have hne : ¬ c = k := by omega
      have hne' : ¬ k = c := by omega
      have hcW : wr.drew.heap[w.heap.size]? = some (.cells cur.toArray 3 (0, 0)) := Hcur.out
      have HcW := Lib.hid hcW; clear hcW
      have hbW : Below w.heap.size w wr.drew := hbr.drew
      have hM : (List.replicate (min k (c - k)) (Value.int .i64 x)).length = Nat.min k (c - k) := List.length_replicate
      have hfit : k + (List.replicate (min k (c - k)) (Value.int .i64 x)).length ≤ cur.length := by have := Hcl.out; simp; omega
      have h1c : ∀ v ∈ List.replicate (min k (c - k)) (Value.int .i64 x), v.oneCell' = true := by intro v hv; rw [(List.mem_replicate.1 hv).2]; rfl
      have hpos : 0 < (List.replicate (min k (c - k)) (Value.int .i64 x)).length → (some (⟨w.heap.size, k, none⟩ : Addr)) = some ⟨w.heap.size, k, none⟩ ∧
          ∃ ad, (some (⟨w.heap.size, 0, none⟩ : Addr)) = some ad ∧ ∀ j v, (List.replicate (min k (c - k)) (Value.int .i64 x))[j]? = some v → wr.drew.cell? (ad.add j) = some v := by
        refine fun _ => ⟨rfl, _, rfl, fun j v hj => ?_⟩
        obtain ⟨hj1, rfl⟩ := List.getElem?_eq_some_iff.1 hj
        simp only [List.length_replicate] at hj1
        have e : cur[j]? = some (.int .i64 x) := by
          have : (cur.take k)[j]? = cur[j]? := by rw [List.getElem?_take, if_pos (by omega)]
          rw [← this, Htk.out, List.getElem?_replicate, if_pos (by omega)]
        have ea : (Addr.add ⟨w.heap.size, 0, none⟩ j) = ⟨w.heap.size, j, none⟩ := by unfold Addr.add; split <;> simp_all
        rw [ea]
        show World.cell? wr ⟨w.heap.size, j, none⟩ = _
        simp [World.cell?, Hcur.out, e]
      have HM := Lib.hid hM; clear hM
      have Hfit := Lib.hid hfit; clear hfit
      have H1c := Lib.hid h1c; clear h1c
      have Hpos := Lib.hid hpos; clear hpos
      go_upto_region 9 with (fail)
      go_region_law ((refine step_copy_splice rfl (.tmp 41) (.tmp 44) 25 25 rfl 3 Tryz.underlying25 size_int (some ⟨w.heap.size, k, none⟩) (some ⟨w.heap.size, 0, none⟩) (c - k) (c - k) k c (by simp [Act.eval, Act.put]) (by simp [Act.eval, Act.put]) w.heap.size k cur 3 HcW.out (List.replicate (min k (c - k)) (.int .i64 x)) HM.out Hpos.out Hfit.out H1c.out w.heap.size w hbW (Nat.le_refl _) ?_; intro w4 hg4 hb4))
      go_wp2_with fail
      go_roundg (gk - min k (c - k))
      case measure => have := Hg.out; omega
      case rel =>
        refine ⟨k + min k (c - k), _, by omega, by omega, by have := Hg.out; omega, ?_, ?_, hg4.out, ?_, hb4⟩
        · simp
          exact IntWalk.i64_in _ (by omega)
        · have := Hcl.out; rw [length_splice _ _ _ (by simp; omega)]; exact this
        · have hk : cur.length = c := Hcl.out
          unfold splice
          rw [Htk.out, List.take_append, List.take_append, List.length_replicate, List.length_replicate, ← List.append_assoc]
          rw [List.take_of_length_le (by simp), List.take_of_length_le (by simp), show k + min k (c - k) - k - min k (c - k) = 0 by omega, List.take_zero, List.append_nil, List.replicate_append_replicate]
    · go_wp2_with fail
      go_ret
      obtain rfl : k = c := by omega
      refine ⟨_, rfl, ⟨by simp, .inr ⟨w.heap.size, k, cur.toArray, by simp, Nat.le_refl _, Hcur.out, by simp, by unfold maxLen; omega, by simpa using Hcl.out, ?_⟩⟩, hbr⟩
      simpa using Htk.out
end Go.Proofs.YtmkjeonjhedgkaaGreatDoor

namespace Go.Proofs.YtmkjeonjhedgkaaGreatDoor
set_option linter.unusedSimpArgs false
set_option linter.unusedVariables false
open Go.RowKit

def lateR (r : Roads) (f : Flock) (shut : Int) (fr tt : Nat) (by' : Int) : Nat → Int
  | 0 => -1
  | d + 1 => if canB r f shut fr tt d by' then (d : Int) else lateR r f shut fr tt by' d

set_option maxRecDepth 100000 in
set_option maxHeartbeats 4000000 in
theorem late_any (w : World) (b : Nat) (r : Roads) (f : Flock) (shut : Int) (a : Option Addr) (cap : Nat) (h : WorkAt w b r f shut a cap) (g : Good r f) (fr tt : Nat) (hf : fr < 6) (ht : tt < 6) (by' : Int)
    (h3 : 0 ≤ by') (h4 : by' ≤ 100) :
    Calls Tryz.prog 43 #[.pointer (some ⟨b, 0, none⟩), .int .i64 fr, .int .i64 tt, .int .i64 by'] w
      fun e w' => e = .returned (.int .i64 (lateR r f shut fr tt by' (by' + 1).toNat)) ∧ Below w.heap.size w w' := by
  go_enter Tryz.func43, Tryz.ntmps43
  go_wp2_with fail
  go_loopw [9] (fun v9 wx => ∃ d : Int, -1 ≤ d ∧ d ≤ by' ∧ v9 = .int .i64 d ∧ lateR r f shut fr tt by' (d + 1).toNat = lateR r f shut fr tt by' (by' + 1).toNat ∧ Below w.heap.size w wx) (fun v _ => (intOf v + 1).toNat)
  case atStart => exact ⟨by', by omega, by omega, rfl, rfl, Below.refl _ _⟩
  case round =>
    obtain ⟨d, hd1, hd2, rfl, hE, hb⟩ := hrel
    have HE := Lib.hid hE; clear hE
    by_cases hd : 0 ≤ d
    · obtain ⟨k, hk⟩ := Int.eq_ofNat_of_zero_le hd
      have hstep : lateR r f shut fr tt by' (d + 1).toNat = if canB r f shut fr tt d by' then d else lateR r f shut fr tt by' d.toNat := by
        subst hk; rw [show ((k : Int) + 1).toNat = k + 1 by omega]; rfl
      have Hs := Lib.hid hstep; clear hstep hk
      go_wp2_with fail
      refine (can_any wr b r f shut a cap (h.below hb) g fr tt hf ht d by' hd (by omega) h3 h4).mono ?_
      rintro e w2 ⟨rfl, hb2⟩
      cases hc : canB r f shut fr tt d by'
      · have Hc := Lib.hid hc; clear hc
        go_wp2_with fail
        refine ⟨⟨d - 1, by omega, by omega, rfl, ?_, hb.trans (hb2.mono hb.size)⟩, by simp [intOf]; omega⟩
        rw [← HE.out, Hs.out, Hc.out]
        simp
      · have Hc := Lib.hid hc; clear hc
        go_wp2_with fail
        go_ret
        refine ⟨ret_int ?_, hb.trans (hb2.mono hb.size)⟩
        rw [← HE.out, Hs.out, Hc.out]
        simp
    · go_wp2_with fail
      go_ret
      refine ⟨ret_int ?_, hb⟩
      rw [← HE.out, show (d + 1).toNat = 0 by omega]
      rfl
end Go.Proofs.YtmkjeonjhedgkaaGreatDoor

namespace Go.Proofs.YtmkjeonjhedgkaaGreatDoor
set_option linter.unusedSimpArgs false
set_option linter.unusedVariables false
open Go.RowKit

/-- A store into a slice of the call's own. -/
theorem OwnInts.set {w : World} {B : Nat} {gb n cap : Nat} {l : List Int} (h : OwnInts w B (.slice (some ⟨gb, 0, none⟩) n cap) l) {j : Nat} (x : Int) :
    OwnInts (w.setCell ⟨gb, j, none⟩ (.int .i64 x)) B (.slice (some ⟨gb, 0, none⟩) n cap) (l.set j x) := by
  obtain ⟨h1, h2⟩ := h
  refine ⟨by simp, ?_⟩
  rcases h2 with ⟨hv, _⟩ | ⟨g, cap', cur, hv, hg, hh, hc, hm, hs, ht⟩
  · simp at hv
  · simp only [Value.slice.injEq, Option.some.injEq, Addr.mk.injEq] at hv
    obtain ⟨⟨rfl, _⟩, rfl, rfl⟩ := hv
    refine .inr ⟨gb, cap, cur.setIfInBounds j (.int .i64 x), by simp, hg, ?_, by simpa using hc, hm, by simpa using hs, ?_⟩
    · simp only [World.setCell, Array.getElem?_modify, if_true, hh]
      rfl
    · rw [Array.toList_setIfInBounds, List.length_set, Nat.mul_one, List.take_set, List.map_set]
      congr 1
      simpa using ht
theorem OwnInts.cell {w : World} {B : Nat} {gb n cap : Nat} {l : List Int} (h : OwnInts w B (.slice (some ⟨gb, 0, none⟩) n cap) l) {j : Nat} (hj : j < l.length) :
    w.cell? ⟨gb, j, none⟩ = some (.int .i64 l[j]) ∧ w.frozen? ⟨gb, j, none⟩ = false ∧ B ≤ gb := by
  obtain ⟨a, c, hv, hi, _⟩ := h.ints
  simp only [Value.slice.injEq] at hv
  obtain ⟨rfl, _, rfl⟩ := hv
  obtain ⟨h1, h2⟩ := h
  rcases h2 with ⟨hv, _⟩ | ⟨g, cap', cur, hv, hg, hh, _⟩
  · simp at hv
  · simp only [Value.slice.injEq, Option.some.injEq, Addr.mk.injEq] at hv
    obtain ⟨⟨rfl, _⟩, _⟩ := hv
    refine ⟨?_, by simp [World.frozen?, hh], hg⟩
    rcases hi with rfl | ⟨b, o, e, hi⟩
    · simp at hj
    · simp only [Option.some.injEq, Addr.mk.injEq] at e
      obtain ⟨rfl, rfl, _⟩ := e
      have := hi j hj
      simpa using this
theorem OwnInts.ptr {w : World} {B : Nat} {v : Value} {l : List Int} (h : OwnInts w B v l) (hl : 0 < l.length) : ∃ gb cap, v = .slice (some ⟨gb, 0, none⟩) l.length cap := by
  obtain ⟨h1, h2⟩ := h
  rcases h2 with ⟨_, hn⟩ | ⟨g, cap', cur, hv, _⟩
  · omega
  · exact ⟨g, cap', hv⟩

/-- The days so far, the stages below j looked at on day d. -/
def updTo (l : List Int) (m : Nat) (d : Int) (j : Nat) : List Int := l.mapIdx fun s x => if decide (s < j) && decide (x < 0) && m.testBit s then d else x
def comesTo (r : Roads) (f : Flock) (shut : Int) (n0 : Nat) (day : Int) : Nat → List Int
  | 0 => List.replicate r.stages.toNat (-1)
  | k + 1 => updTo (comesTo r f shut n0 day k) (nightsTo r f shut n0 day (k + 1)) (day + k) r.stages.toNat
def comesL (r : Roads) (f : Flock) (shut : Int) (fr : Nat) (day : Int) : List Int := comesTo r f shut (0 ||| 1 <<< fr) day (r.days - day).toNat

theorem updTo_len (l : List Int) (m : Nat) (d : Int) (j : Nat) : (updTo l m d j).length = l.length := by simp [updTo]
theorem comesTo_len (r : Roads) (f : Flock) (shut : Int) (n0 : Nat) (day : Int) : ∀ k, (comesTo r f shut n0 day k).length = r.stages.toNat
  | 0 => by simp [comesTo]
  | k + 1 => by rw [comesTo, updTo_len]; exact comesTo_len r f shut n0 day k
theorem updTo_zero (l : List Int) (m : Nat) (d : Int) : updTo l m d 0 = l := by
  apply List.ext_getElem (by simp [updTo])
  intro i h1 h2; simp [updTo]
theorem updTo_get (l : List Int) (m : Nat) (d : Int) (j : Nat) (h : j < l.length) : (updTo l m d j)[j]'(by rw [updTo_len]; exact h) = l[j] := by simp [updTo]
theorem updTo_yes (l : List Int) (m : Nat) (d : Int) (j : Nat) (h : j < l.length) (hx : l[j] < 0) (hb : m.testBit j = true) : (updTo l m d j).set j d = updTo l m d (j + 1) := by
  apply List.ext_getElem (by simp [updTo])
  intro i h1 h2
  simp only [List.length_set, updTo_len] at h1
  rw [List.getElem_set]
  by_cases e : j = i
  · subst e; simp [updTo, hx, hb]
  · rw [if_neg e]
    simp only [updTo, List.getElem_mapIdx]
    have : decide (i < j + 1) = decide (i < j) := by rw [decide_eq_decide]; omega
    rw [this]
theorem updTo_no (l : List Int) (m : Nat) (d : Int) (j : Nat) (h : j < l.length) (hx : ¬ (l[j] < 0 ∧ m.testBit j = true)) : updTo l m d j = updTo l m d (j + 1) := by
  apply List.ext_getElem (by simp [updTo])
  intro i h1 h2
  simp only [updTo_len] at h1
  simp only [updTo, List.getElem_mapIdx]
  by_cases e : i = j
  · subst e
    by_cases h3 : l[i] < 0
    · have : m.testBit i = false := by
        cases hb : m.testBit i
        · rfl
        · exact absurd ⟨h3, hb⟩ hx
      simp [this]
    · simp [h3]
  · have : decide (i < j + 1) = decide (i < j) := by rw [decide_eq_decide]; omega
    rw [this]

set_option maxRecDepth 100000 in
set_option maxHeartbeats 4000000 in
theorem comes_any (w : World) (b : Nat) (r : Roads) (f : Flock) (shut : Int) (a : Option Addr) (cap : Nat) (h : WorkAt w b r f shut a cap) (g : Good r f) (fr : Nat) (hf : fr < 6) (day : Int) (h1 : 0 ≤ day) (h2 : day ≤ 100) :
    Calls Tryz.prog 41 #[.pointer (some ⟨b, 0, none⟩), .int .i64 fr, .int .i64 day] w
      fun e w' => ∃ v, e = .returned v ∧ OwnInts w' w.heap.size v (comesL r f shut fr day) ∧ Below w.heap.size w w' := by
  have g1 := g.s1
  have g2 := g.s2
  have g3 := g.d2
  obtain ⟨c, hc⟩ := Int.eq_ofNat_of_zero_le (a := r.stages) (by omega)
  have H := h
  obtain ⟨c0, c1, c2, c3, c4, c5, hs⟩ := h
  have hbl := lt_of_cell c0
  rw [hc] at c1
  have Hc := Lib.hid hc; clear hc
  have hof := one_shl_lt hf
  have hc1 : 1 ≤ c := by have := Hc.out; omega
  have hc6 : c ≤ 6 := by have := Hc.out; omega
  clear hs
  go_enter Tryz.func41, Tryz.ntmps41
  go_wp2_with fail
  refine (repeat_any c hc1 hc6 w.heap.size (-1) _ (by simp)).mono ?_
  rintro e w1 ⟨v, rfl, hown, hb1⟩
  have hbw : Below w.heap.size w w1 := (Below.alloc (Below.refl _ _) (Nat.le_refl _) _).trans (hb1.mono (by simp))
  go_wp2_with fail
  refine (with_any 0 fr (by omega) hf _).mono ?_
  rintro e w' ⟨rfl, rfl⟩
  generalize hn0 : (0 ||| 1 <<< fr) = n0 at hof
  have Hn0 := Lib.hid hn0; clear hn0
  have hl0 : (List.replicate c (-1 : Int)).length = c := List.length_replicate
  obtain ⟨gb, cp, rfl⟩ := hown.ptr (by omega)
  simp only [hl0] at hown
  have hgb : w.heap.size < gb := by have := hown.cell (j := 0) (by rw [hl0]; omega); simp at this; omega
  have hown1 : OwnInts w1 (w.heap.size + 1) (.slice (some ⟨gb, 0, none⟩) c cp) (List.replicate c (-1)) := by simpa using hown
  clear hown hb1 c0 c1 c2 c3 c4 c5
  go_wp2_with fail
  go_loopw [8, 9] (fun v8 v9 wx => ∃ k : Nat, day + k ≤ max day r.days ∧ v8 = .int .u16 (nightsTo r f shut n0 day k) ∧ v9 = .int .i64 (day + k) ∧
      OwnInts wx (w.heap.size + 1) (.slice (some ⟨gb, 0, none⟩) c cp) (comesTo r f shut n0 day k) ∧ Below w.heap.size w wx) (fun _ v _ => (r.days - intOf v).toNat)
  case atStart => exact ⟨0, by simp; omega, rfl, by simp, by rw [comesTo, show r.stages.toNat = c by have := Hc.out; omega]; exact hown1, hbw⟩
  case round =>
    clear hown1 hbw hl0
    obtain ⟨k, hk, rfl, rfl, hown, hb⟩ := hrel
    have hlt := nightsTo_lt (shut := shut) (day := day) g hof k
    have hnx : nightsTo r f shut n0 day (k + 1) = afterN r f shut (nightsTo r f shut n0 day k) (day + k) := rfl
    have hlt2 := nightsTo_lt (shut := shut) (day := day) g hof (k + 1)
    have hLlen := comesTo_len r f shut n0 day k
    have hLx : comesTo r f shut n0 day (k + 1) = updTo (comesTo r f shut n0 day k) (nightsTo r f shut n0 day (k + 1)) (day + k) r.stages.toNat := rfl
    generalize hm : nightsTo r f shut n0 day k = m at hlt hnx
    generalize hm2 : nightsTo r f shut n0 day (k + 1) = m2 at hlt2 hnx hLx
    generalize hL : comesTo r f shut n0 day k = L at hown hLlen hLx
    have HL := Lib.hid hL; clear hL
    have HLx := Lib.hid hLx; clear hLx
    have HLl := Lib.hid hLlen; clear hLlen
    have Hm := Lib.hid hm; clear hm
    have Hm2 := Lib.hid hm2; clear hm2
    have Hnx := Lib.hid hnx; clear hnx
    have Hk := Lib.hid hk; clear hk
    obtain ⟨d0, d1, d2, d3, d4, d5, ds⟩ := H.below hb
    clear ds
    by_cases hd : day + k < r.days
    · go_wp2_with fail
      refine (after_any wr b r f shut a cap (H.below hb) g m (by omega) _).mono ?_
      rintro e w2 ⟨rfl, hb2⟩
      rw [← Hnx.out]
      have hb3 : Below w.heap.size w w2 := hb.trans (hb2.mono hb.size)
      have hown2 := hown.below hb2
      clear d0 d1 d2 d3 d4 d5
      go_wp2_with fail
      go_loopw [36] (fun v36 wx => ∃ j : Nat, j ≤ c ∧ v36 = .int .i64 j ∧ OwnInts wx (w.heap.size + 1) (.slice (some ⟨gb, 0, none⟩) c cp) (updTo L m2 (day + k) j) ∧ Below w.heap.size w wx) (fun v _ => c - (intOf v).toNat)
      case atStart => exact ⟨0, Nat.zero_le _, rfl, by rw [updTo_zero]; exact hown2, hb3⟩
      case round =>
        clear hown hown2 hb3 hb2
        obtain ⟨j, hj, rfl, hown, hbj⟩ := hrel
        by_cases hjc : j < c
        · have hjl : j < L.length := by have h1 := HLl.out; have h2 := Hc.out; omega
          obtain ⟨x1, x2, x3⟩ := hown.cell (j := j) (by rw [updTo_len]; exact hjl)
          rw [updTo_get L m2 (day + k) j hjl] at x1
          have Hown := Lib.hid hown; clear hown
          generalize hx : L[j] = x at x1
          have Hx := Lib.hid hx; clear hx
          by_cases hx0 : x < 0
          · go_wp2_with fail
            refine (has_any m2 j (by omega) (by omega) _).mono ?_
            rintro e w' ⟨rfl, rfl⟩
            cases hT : m2.testBit j
            · have HT := Lib.hid hT; clear hT
              go_wp2_with fail
              refine ⟨⟨j + 1, by omega, by go_num, ?_, hbj⟩, by simp [intOf]; omega⟩
              rw [← updTo_no L m2 (day + k) j hjl (by rw [HT.out]; simp)]; exact Hown.out
            · have HT := Lib.hid hT; clear hT
              go_wp2_with fail
              refine ⟨⟨j + 1, by omega, by go_num, ?_, hbj.setCell (by simp; omega) _⟩, by simp [intOf]; omega⟩
              rw [← updTo_yes L m2 (day + k) j hjl (by rw [Hx.out]; exact hx0) HT.out]; exact Hown.out.set _
          · go_wp2_with fail
            refine ⟨⟨j + 1, by omega, by go_num, ?_, hbj⟩, by simp [intOf]; omega⟩
            rw [← updTo_no L m2 (day + k) j hjl (by rw [Hx.out]; exact fun h => hx0 h.1)]; exact Hown.out
        · go_wp2_with fail
          refine ⟨⟨k + 1, by have := Hk.out; omega, by rw [Hm2.out], by rw [show (day + (k : Int) + 1) = day + ((k + 1 : Nat) : Int) by omega], ?_, hbj⟩, by simp [intOf]; omega⟩
          obtain rfl : j = c := by omega
          rw [HLx.out, show r.stages.toNat = j by have := Hc.out; omega]; exact hown
    · go_wp2_with fail
      go_ret
      refine ⟨_, rfl, ?_, hb⟩
      have hk := Hk.out
      rw [comesL, Hn0.out, show (r.days - day).toNat = k by omega, HL.out]
      exact hown.mono (by omega)
end Go.Proofs.YtmkjeonjhedgkaaGreatDoor
