/- What reading roads from a text makes of it, and that it undoes writing, and writing it: plain laws. -/
import Derived.Test.YtmkjeonjhedgkaaGreatDoorWrite
import Derived.Test.YtmkjeonjhedgkaaGreatDoorSplitP
namespace Go.Proofs.YtmkjeonjhedgkaaGreatDoor
set_option linter.unusedSimpArgs false
set_option linter.unusedVariables false
open Go.RowKit

/-- The number that a word of at most two digits is. -/
def numV : List UInt8 → Option Int
  | [a] => if 48 ≤ a.toNat ∧ a.toNat ≤ 57 then some ((a.toNat : Int) - 48) else none
  | [a, b] => if a.toNat = 48 then none else if (48 ≤ a.toNat ∧ a.toNat ≤ 57) ∧ 48 ≤ b.toNat ∧ b.toNat ≤ 57 then some (10 * ((a.toNat : Int) - 48) + ((b.toNat : Int) - 48)) else none
  | _ => none
def hyphV (s : List UInt8) : Option (Int × Int) :=
  match cutC 45 s with
  | none => none
  | some (a, b) => match numV a, numV b with | some x, some y => some (x, y) | _, _ => none
def signV : List UInt8 → Option Int
  | 45 :: r => if r = [48] then none else (numV r).map fun n => -n
  | s => numV s
def wRoads : List UInt8 := [114, 111, 97, 100, 115]
def wStages : List UInt8 := [115, 116, 97, 103, 101, 115]
def wDays : List UInt8 := [100, 97, 121, 115]
def wLeagues : List UInt8 := [108, 101, 97, 103, 117, 101, 115]
def wWide : List UInt8 := [119, 105, 100, 101]
def wPass : List UInt8 := [112, 97, 115, 115]
def wFord : List UInt8 := [102, 111, 114, 100]
def wBridge : List UInt8 := [98, 114, 105, 100, 103, 101]
def wEnd : List UInt8 := [101, 110, 100]
/-- The five first words of a line. -/
def baseV (a l le w wi : List UInt8) (k x y : Int) : Option Strip :=
  if le = wLeagues ∧ wi = wWide then match hyphV a, numV l, numV w with | some (p, q), some n, some m => some ⟨p, q, n, m, k, x, y⟩ | _, _, _ => none else none
def stripV : List (List UInt8) → Option Strip
  | [a, l, le, w, wi] => baseV a l le w wi 1 0 0
  | [a, l, le, w, wi, k, x] =>
    if k = wPass then match hyphV x with | some (p, q) => baseV a l le w wi 2 p q | none => none
    else if k = wBridge then match numV x with | some p => baseV a l le w wi 4 p 0 | none => none
    else none
  | [a, l, le, w, wi, k, x, y] => if k = wFord then match numV x, signV y with | some p, some q => baseV a l le w wi 3 p q | _, _ => none else none
  | _ => none
def headV : List (List UInt8) → Option (Int × Int)
  | [a, n, b, m, c] => if a = wRoads ∧ b = wStages ∧ c = wDays then match numV n, numV m with | some x, some y => some (x, y) | _, _ => none else none
  | _ => none
/-- The lines from number i on: the number of the line that is wrong, or the roads. -/
def goV (st days : Int) (acc : List Strip) (i : Nat) : List (List UInt8) → Nat ⊕ Roads
  | [] => .inl 0
  | [_] => .inl (i + 1)
  | l :: l2 :: r =>
    if l = wEnd then (if r = [] ∧ l2 = [] then .inr ⟨days, st, acc⟩ else .inl (i + 2))
    else match stripV (splitC 32 l) with | none => .inl (i + 1) | some s => goV st days (acc ++ [s]) (i + 1) (l2 :: r)
def takeV : List (List UInt8) → Nat ⊕ Roads
  | [] => .inl 0
  | [_] => .inl 1
  | h :: l2 :: r => match headV (splitC 32 h) with | none => .inl 1 | some (st, d) => goV st d [] 1 (l2 :: r)
def noRoads : Roads := ⟨0, 0, []⟩
/-- What Read returns. -/
def readV (t : List UInt8) : Roads × Int × Int :=
  if 400 < t.length then (noRoads, 0, 10) else
  match takeV (splitC 10 t) with
  | .inl n => (noRoads, n, 2)
  | .inr r => if checkR r = 0 then (r, 0, 0) else (noRoads, 0, checkR r)

/- Numbers. -/
theorem numV_itoaN : ∀ k : Nat, k < 100 → numV (Lib.itoa (k : Int)) = some (k : Int) := by decide +kernel
theorem numV_itoa {n : Int} (h0 : 0 ≤ n) (h1 : n < 100) : numV (Lib.itoa n) = some n := by
  obtain ⟨k, rfl⟩ : ∃ k : Nat, n = (k : Int) := ⟨n.toNat, by omega⟩
  exact numV_itoaN k (by omega)
theorem itoa_freeN : ∀ k : Nat, k < 100 → ∀ c ∈ [10, 32, 45], (c : UInt8) ∉ Lib.itoa (k : Int) := by decide +kernel
theorem itoa_free {n : Int} (h0 : 0 ≤ n) (h1 : n < 100) {c : UInt8} (hc : c ∈ ([10, 32, 45] : List UInt8)) : c ∉ Lib.itoa n := by
  obtain ⟨k, rfl⟩ : ∃ k : Nat, n = (k : Int) := ⟨n.toNat, by omega⟩
  exact itoa_freeN k (by omega) c hc
theorem itoa_freeS : ∀ k : Nat, k < 11 → ∀ c ∈ [10, 32], (c : UInt8) ∉ Lib.itoa ((k : Int) - 5) := by decide +kernel
theorem signV_itoaN : ∀ k : Nat, k < 11 → signV (Lib.itoa ((k : Int) - 5)) = some ((k : Int) - 5) := by decide +kernel
theorem itoa_one : ∀ i : Nat, i < 10 → Lib.itoa (i : Int) = [UInt8.ofNat (48 + i)] := by decide +kernel
theorem itoa_two : ∀ i : Nat, i < 10 → ∀ j : Nat, j < 10 → i ≠ 0 → Lib.itoa (((10 * i + j : Nat) : Int)) = [UInt8.ofNat (48 + i), UInt8.ofNat (48 + j)] := by decide +kernel
theorem byte_dig {a : UInt8} (h : 48 ≤ a.toNat ∧ a.toNat ≤ 57) : ∃ i : Nat, i < 10 ∧ a.toNat = 48 + i ∧ a = UInt8.ofNat (48 + i) := by
  refine ⟨a.toNat - 48, by omega, by omega, ?_⟩
  have e : 48 + (a.toNat - 48) = a.toNat := by omega
  rw [e]; simp
theorem numV_some {s : List UInt8} {n : Int} (h : numV s = some n) : 0 ≤ n ∧ n < 100 ∧ s = Lib.itoa n := by
  unfold numV at h
  split at h
  · split at h
    · rename_i hd
      obtain ⟨i, hi, e1, rfl⟩ := byte_dig hd
      simp only [Option.some.injEq] at h
      rw [e1] at h
      obtain rfl : (i : Int) = n := by omega
      exact ⟨by omega, by omega, (itoa_one i hi).symm⟩
    · simp at h
  · split at h
    · simp at h
    · split at h
      · rename_i h0 hd
        obtain ⟨i, hi, e1, rfl⟩ := byte_dig hd.1
        obtain ⟨j, hj, e2, rfl⟩ := byte_dig hd.2
        simp only [Option.some.injEq] at h
        rw [e1, e2] at h
        have hi0 : i ≠ 0 := by rintro rfl; simp at h0
        obtain rfl : ((10 * i + j : Nat) : Int) = n := by omega
        exact ⟨by omega, by omega, (itoa_two i hi j hj hi0).symm⟩
      · simp at h
  · simp at h
theorem hyphV_some {s : List UInt8} {p q : Int} (h : hyphV s = some (p, q)) : (0 ≤ p ∧ p < 100) ∧ (0 ≤ q ∧ q < 100) ∧ s = Lib.itoa p ++ 45 :: Lib.itoa q := by
  unfold hyphV at h
  split at h
  · simp at h
  · rename_i a b hc
    split at h
    · rename_i x y hx hy
      simp only [Option.some.injEq, Prod.mk.injEq] at h
      obtain ⟨rfl, rfl⟩ := h
      obtain ⟨h1, h2, rfl⟩ := numV_some hx
      obtain ⟨h3, h4, rfl⟩ := numV_some hy
      exact ⟨⟨h1, h2⟩, ⟨h3, h4⟩, (cutC_some 45 hc).1⟩
    · simp at h
theorem hyphV_itoa {p q : Int} (hp : 0 ≤ p ∧ p < 100) (hq : 0 ≤ q ∧ q < 100) : hyphV (Lib.itoa p ++ 45 :: Lib.itoa q) = some (p, q) := by
  unfold hyphV
  rw [cutC_at 45 _ _ (itoa_free hp.1 hp.2 (by simp))]
  simp only [numV_itoa hp.1 hp.2, numV_itoa hq.1 hq.2]
theorem signV_some {s : List UInt8} {n : Int} (h : signV s = some n) : s = Lib.itoa n := by
  unfold signV at h
  split at h
  · rename_i r
    split at h
    · simp at h
    · rename_i h0
      obtain ⟨m, hm, rfl⟩ := Option.map_eq_some_iff.1 h
      obtain ⟨h1, h2, rfl⟩ := numV_some hm
      have hm0 : m ≠ 0 := by rintro rfl; exact h0 (by decide +kernel)
      unfold Lib.itoa
      rw [if_neg (by omega), if_pos (by omega)]
      congr 2
      omega
  · exact (numV_some h).2.2
theorem signV_itoa {n : Int} (h0 : -5 ≤ n) (h1 : n ≤ 5) : signV (Lib.itoa n) = some n := by
  obtain ⟨k, rfl⟩ : ∃ k : Nat, n = (k : Int) - 5 := ⟨(n + 5).toNat, by omega⟩
  exact signV_itoaN k (by omega)

/- Lines. -/
def lineT (s : Strip) : List UInt8 := frontT s ++ kindT s
def headLine (r : Roads) : List UInt8 := wRoads ++ 32 :: (Lib.itoa r.stages ++ 32 :: (wStages ++ 32 :: (Lib.itoa r.days ++ 32 :: wDays)))
theorem text_join (r : Roads) : textT r = joinC 10 (headLine r :: (r.strips.map lineT ++ [wEnd, []])) := by
  have h : ∀ l : List Strip, joinC 10 (l.map lineT ++ [wEnd, []]) = linesT l ++ [101, 110, 100, 10] := fun l => by
    induction l with
    | nil => rfl
    | cons s l ih =>
      have e : linesT (s :: l) = stripT s ++ linesT l := rfl
      rw [e, List.map_cons, List.cons_append]
      cases hl : l.map lineT ++ [wEnd, []] with
      | nil => simp at hl
      | cons y z =>
        rw [hl] at ih
        rw [joinC, ih, stripT, lineT]
        simp
  cases hl : r.strips.map lineT ++ [wEnd, []] with
  | nil => simp at hl
  | cons y z =>
    rw [joinC, ← hl, h]
    simp [textT, headT, headLine, wRoads, wStages, wDays]
def baseW (s : Strip) : List UInt8 × List UInt8 × List UInt8 := (Lib.itoa s.A ++ 45 :: Lib.itoa s.B, Lib.itoa s.L, Lib.itoa s.W)
theorem line_front (s : Strip) (rest : List UInt8) : frontT s ++ rest = (Lib.itoa s.A ++ 45 :: Lib.itoa s.B) ++ 32 :: (Lib.itoa s.L ++ 32 :: (wLeagues ++ 32 :: (Lib.itoa s.W ++ 32 :: (wWide ++ rest)))) := by
  simp [frontT, wLeagues, wWide]
theorem baseV_some {a l le w wi : List UInt8} {k x y : Int} {s : Strip} (h : baseV a l le w wi k x y = some s) : le = wLeagues ∧ wi = wWide ∧ a = Lib.itoa s.A ++ 45 :: Lib.itoa s.B ∧ l = Lib.itoa s.L ∧ w = Lib.itoa s.W ∧ s.K = k ∧ s.X = x ∧ s.Y = y := by
  unfold baseV at h
  split at h
  · rename_i hw
    split at h
    · rename_i p q n m h1 h2 h3
      simp only [Option.some.injEq] at h
      subst h
      exact ⟨hw.1, hw.2, (hyphV_some h1).2.2, (numV_some h2).2.2, (numV_some h3).2.2, rfl, rfl, rfl⟩
    · simp at h
  · simp at h
/-- What is read of the words of a line was written so. -/
theorem stripV_some {ws : List (List UInt8)} {s : Strip} (h : stripV ws = some s) : joinC 32 ws = lineT s := by
  unfold stripV at h
  split at h
  · obtain ⟨rfl, rfl, rfl, rfl, rfl, hk, _, _⟩ := baseV_some h
    have e : kindT s = [] := by simp [kindT, hk]
    simp only [joinC]
    rw [lineT, e, line_front]; simp
  · split at h
    · rename_i hkw
      subst hkw
      split at h
      · rename_i p q hp
        obtain ⟨rfl, rfl, rfl, rfl, rfl, hk, hx, hy⟩ := baseV_some h
        obtain ⟨_, _, rfl⟩ := hyphV_some hp
        have e : kindT s = 32 :: (wPass ++ 32 :: (Lib.itoa p ++ 45 :: Lib.itoa q)) := by simp [kindT, hk, hx, hy, wPass]
        simp only [joinC]
        rw [lineT, e, line_front]
      · simp at h
    · split at h
      · rename_i _ hkw
        subst hkw
        split at h
        · rename_i p hp
          obtain ⟨rfl, rfl, rfl, rfl, rfl, hk, hx, hy⟩ := baseV_some h
          obtain ⟨_, _, rfl⟩ := numV_some hp
          have e : kindT s = 32 :: (wBridge ++ 32 :: Lib.itoa p) := by simp [kindT, hk, hx, wBridge]
          simp only [joinC]
          rw [lineT, e, line_front]
        · simp at h
      · simp at h
  · split at h
    · rename_i hkw
      subst hkw
      split at h
      · rename_i p q hp hq
        obtain ⟨rfl, rfl, rfl, rfl, rfl, hk, hx, hy⟩ := baseV_some h
        obtain ⟨_, _, rfl⟩ := numV_some hp
        obtain rfl := signV_some hq
        have e : kindT s = 32 :: (wFord ++ 32 :: (Lib.itoa p ++ 32 :: Lib.itoa q)) := by simp [kindT, hk, hx, hy, wFord]
        simp only [joinC]
        rw [lineT, e, line_front]
      · simp at h
    · simp at h
  · simp at h
theorem headV_some {ws : List (List UInt8)} {st d : Int} (h : headV ws = some (st, d)) : ∀ l, joinC 32 ws = headLine ⟨d, st, l⟩ := by
  intro l
  unfold headV at h
  split at h
  · split at h
    · rename_i hw
      obtain ⟨rfl, rfl, rfl⟩ := hw
      split at h
      · rename_i x y hx hy
        simp only [Option.some.injEq, Prod.mk.injEq] at h
        obtain ⟨rfl, rfl⟩ := h
        obtain ⟨_, _, rfl⟩ := numV_some hx
        obtain ⟨_, _, rfl⟩ := numV_some hy
        simp [joinC, headLine]
      · simp at h
    · simp at h
  · simp at h
theorem goV_some {st d : Int} : ∀ {ls : List (List UInt8)} {acc : List Strip} {i : Nat} {r : Roads}, goV st d acc i ls = .inr r → ∃ l, r = ⟨d, st, acc ++ l⟩ ∧ ls = l.map lineT ++ [wEnd, []]
  | [], _, _, _, h => by simp [goV] at h
  | [_], _, _, _, h => by simp [goV] at h
  | l :: l2 :: rs, acc, i, r, h => by
    unfold goV at h
    split at h
    · rename_i he
      split at h
      · rename_i h2
        obtain ⟨rfl, rfl⟩ := h2
        simp only [Sum.inr.injEq] at h
        exact ⟨[], by simp [h], by simp [he]⟩
      · simp at h
    · split at h
      · simp at h
      · rename_i s hs
        obtain ⟨l', rfl, hl⟩ := goV_some h
        refine ⟨s :: l', by simp, ?_⟩
        rw [hl, List.map_cons, List.cons_append, ← stripV_some hs, joinC_splitC]
theorem takeV_some {ls : List (List UInt8)} {r : Roads} (h : takeV ls = .inr r) : ls = headLine r :: (r.strips.map lineT ++ [wEnd, []]) := by
  unfold takeV at h
  split at h
  · simp at h
  · simp at h
  · rename_i hd l2 rs
    split at h
    · simp at h
    · rename_i st d hh
      obtain ⟨l, rfl, hl⟩ := goV_some h
      rw [hl]
      have := headV_some hh l
      rw [joinC_splitC] at this
      simp [this]
/-- READING UNDOES NOTHING BUT WHAT WRITING DOES. -/
theorem read_write {t : List UInt8} {y : Roads} {n : Int} (h : readV t = (y, n, 0)) : checkR y = 0 ∧ textT y = t := by
  unfold readV at h
  split at h
  · simp at h
  · split at h
    · simp at h
    · rename_i r hr
      split at h
      · rename_i hc
        simp only [Prod.mk.injEq] at h
        obtain ⟨rfl, _, _⟩ := h
        refine ⟨hc, ?_⟩
        rw [text_join, ← takeV_some hr, joinC_splitC]
      · rename_i hc
        simp only [Prod.mk.injEq] at h
        exact absurd h.2.2 hc

/- Writing, then reading. -/
theorem split5 {a b c d e : List UInt8} (ha : (32 : UInt8) ∉ a) (hb : (32 : UInt8) ∉ b) (hc : (32 : UInt8) ∉ c) (hd : (32 : UInt8) ∉ d) (he : (32 : UInt8) ∉ e) : splitC 32 (a ++ 32 :: (b ++ 32 :: (c ++ 32 :: (d ++ 32 :: e)))) = [a, b, c, d, e] := by
  rw [splitC_cut 32 _ a ha, splitC_cut 32 _ b hb, splitC_cut 32 _ c hc, splitC_cut 32 _ d hd, splitC_free 32 e he]
theorem splitF {a b c d e : List UInt8} (ha : (32 : UInt8) ∉ a) (hb : (32 : UInt8) ∉ b) (hc : (32 : UInt8) ∉ c) (hd : (32 : UInt8) ∉ d) (he : (32 : UInt8) ∉ e) (r : List UInt8) : splitC 32 (a ++ 32 :: (b ++ 32 :: (c ++ 32 :: (d ++ 32 :: (e ++ 32 :: r))))) = a :: b :: c :: d :: e :: splitC 32 r := by
  rw [splitC_cut 32 _ a ha, splitC_cut 32 _ b hb, splitC_cut 32 _ c hc, splitC_cut 32 _ d hd, splitC_cut 32 _ e he]
theorem free_hyph {p q : Int} (hp : 0 ≤ p ∧ p < 100) (hq : 0 ≤ q ∧ q < 100) {c : UInt8} (hc : c ∈ ([10, 32] : List UInt8)) : c ∉ Lib.itoa p ++ 45 :: Lib.itoa q := by
  have h1 := itoa_free (c := c) hp.1 hp.2 (by simp at hc ⊢; rcases hc with rfl | rfl <;> simp)
  have h2 := itoa_free (c := c) hq.1 hq.2 (by simp at hc ⊢; rcases hc with rfl | rfl <;> simp)
  intro h
  simp only [List.mem_append, List.mem_cons] at h
  rcases h with h | h | h
  · exact h1 h
  · subst h; simp at hc
  · exact h2 h
theorem free_sign {n : Int} (h0 : -5 ≤ n) (h1 : n ≤ 5) {c : UInt8} (hc : c ∈ ([10, 32] : List UInt8)) : c ∉ Lib.itoa n := by
  obtain ⟨k, rfl⟩ : ∃ k : Nat, n = (k : Int) - 5 := ⟨(n + 5).toNat, by omega⟩
  exact itoa_freeS k (by omega) c hc
/-- A strip that a check lets pass, as far as its line goes. -/
structure LineOk (s : Strip) : Prop where
  a : 0 ≤ s.A ∧ s.A < 100
  b : 0 ≤ s.B ∧ s.B < 100
  l : 0 ≤ s.L ∧ s.L < 100
  w : 0 ≤ s.W ∧ s.W < 100
  k : (s.K = 1 ∧ s.X = 0 ∧ s.Y = 0) ∨ (s.K = 2 ∧ (0 ≤ s.X ∧ s.X < 100) ∧ 0 ≤ s.Y ∧ s.Y < 100) ∨ (s.K = 3 ∧ (0 ≤ s.X ∧ s.X < 100) ∧ -5 ≤ s.Y ∧ s.Y ≤ 5) ∨ (s.K = 4 ∧ (0 ≤ s.X ∧ s.X < 100) ∧ s.Y = 0)
theorem base_itoa {s : Strip} (h : LineOk s) : baseV (Lib.itoa s.A ++ 45 :: Lib.itoa s.B) (Lib.itoa s.L) wLeagues (Lib.itoa s.W) wWide s.K s.X s.Y = some s := by
  unfold baseV
  rw [if_pos ⟨rfl, rfl⟩, hyphV_itoa h.a h.b, numV_itoa h.l.1 h.l.2, numV_itoa h.w.1 h.w.2]
theorem strip_line {s : Strip} (h : LineOk s) : stripV (splitC 32 (lineT s)) = some s := by
  have f1 := free_hyph h.a h.b (c := 32) (by simp)
  have f2 := itoa_free (c := 32) h.l.1 h.l.2 (by simp)
  have f3 : (32 : UInt8) ∉ wLeagues := by decide
  have f4 := itoa_free (c := 32) h.w.1 h.w.2 (by simp)
  have f5 : (32 : UInt8) ∉ wWide := by decide
  have hb := base_itoa h
  rcases h.k with ⟨hk, hx, hy⟩ | ⟨hk, hx, hy⟩ | ⟨hk, hx, hy⟩ | ⟨hk, hx, hy⟩
  · have e : kindT s = [] := by simp [kindT, hk]
    rw [lineT, e, line_front, List.append_nil, split5 f1 f2 f3 f4 f5]
    rw [hk, hx, hy] at hb
    exact hb
  · have e : kindT s = 32 :: (wPass ++ 32 :: (Lib.itoa s.X ++ 45 :: Lib.itoa s.Y)) := by simp [kindT, hk, wPass]
    have g1 : (32 : UInt8) ∉ wPass := by decide
    rw [lineT, e, line_front, splitF f1 f2 f3 f4 f5, splitC_cut 32 _ _ g1, splitC_free 32 _ (free_hyph hx hy (by simp))]
    rw [hk] at hb
    simp only [stripV, if_true, hyphV_itoa hx hy]
    exact hb
  · have e : kindT s = 32 :: (wFord ++ 32 :: (Lib.itoa s.X ++ 32 :: Lib.itoa s.Y)) := by simp [kindT, hk, wFord]
    have g1 : (32 : UInt8) ∉ wFord := by decide
    rw [lineT, e, line_front, splitF f1 f2 f3 f4 f5, splitC_cut 32 _ _ g1, splitC_cut 32 _ _ (itoa_free hx.1 hx.2 (by simp)), splitC_free 32 _ (free_sign hy.1 hy.2 (by simp))]
    rw [hk] at hb
    simp only [stripV, if_true, numV_itoa hx.1 hx.2, signV_itoa hy.1 hy.2]
    exact hb
  · have e : kindT s = 32 :: (wBridge ++ 32 :: Lib.itoa s.X) := by simp [kindT, hk, wBridge]
    have g1 : (32 : UInt8) ∉ wBridge := by decide
    rw [lineT, e, line_front, splitF f1 f2 f3 f4 f5, splitC_cut 32 _ _ g1, splitC_free 32 _ (itoa_free hx.1 hx.2 (by simp))]
    rw [hk, hy] at hb
    have g2 : ¬ wBridge = wPass := by decide
    simp only [stripV, if_neg g2, if_true, numV_itoa hx.1 hx.2]
    exact hb
theorem free10_line {s : Strip} (h : LineOk s) : (10 : UInt8) ∉ lineT s := by
  have f1 := free_hyph h.a h.b (c := 10) (by simp)
  have f2 := itoa_free (c := 10) h.l.1 h.l.2 (by simp)
  have f4 := itoa_free (c := 10) h.w.1 h.w.2 (by simp)
  have key : (10 : UInt8) ∉ kindT s := by
    rcases h.k with ⟨hk, _, _⟩ | ⟨hk, hx, hy⟩ | ⟨hk, hx, hy⟩ | ⟨hk, hx, hy⟩
    · simp [kindT, hk]
    · have g := free_hyph hx hy (c := 10) (by simp)
      have e : kindT s = 32 :: (wPass ++ 32 :: (Lib.itoa s.X ++ 45 :: Lib.itoa s.Y)) := by simp [kindT, hk, wPass]
      rw [e]; simp only [List.mem_cons, List.mem_append] at g ⊢; simp only [wPass, List.mem_cons]
      simp_all
    · have g := itoa_free (c := 10) hx.1 hx.2 (by simp)
      have g2 := free_sign (c := 10) hy.1 hy.2 (by simp)
      have e : kindT s = 32 :: (wFord ++ 32 :: (Lib.itoa s.X ++ 32 :: Lib.itoa s.Y)) := by simp [kindT, hk, wFord]
      rw [e]; simp [wFord, g, g2]
    · have g := itoa_free (c := 10) hx.1 hx.2 (by simp)
      have e : kindT s = 32 :: (wBridge ++ 32 :: Lib.itoa s.X) := by simp [kindT, hk, wBridge]
      rw [e]; simp [wBridge, g]
  rw [lineT, line_front]
  simp only [List.mem_append, List.mem_cons, not_or] at f1 ⊢
  exact ⟨f1, by decide, f2, by decide, by decide, by decide, f4, by decide, by decide, key⟩
theorem go_lines {st d : Int} : ∀ (l : List Strip) (acc : List Strip) (i : Nat), (∀ s ∈ l, LineOk s) → goV st d acc i (l.map lineT ++ [wEnd, []]) = .inr ⟨d, st, acc ++ l⟩
  | [], acc, i, _ => by simp [goV]
  | s :: l, acc, i, h => by
    have hs := h s (by simp)
    have ih := go_lines (st := st) (d := d) l (acc ++ [s]) (i + 1) fun x hx => h x (by simp [hx])
    rw [List.map_cons, List.cons_append]
    cases hl : l.map lineT ++ [wEnd, []] with
    | nil => simp at hl
    | cons y z =>
      rw [hl] at ih
      unfold goV
      have hne : lineT s ≠ wEnd := by
        intro e
        have := strip_line hs
        rw [e] at this
        have e2 : stripV (splitC 32 wEnd) = none := by decide
        rw [e2] at this; simp at this
      rw [if_neg hne, strip_line hs]
      simp only [ih, List.append_assoc, List.singleton_append]
theorem split_lines (c : UInt8) : ∀ (ls : List (List UInt8)), ls ≠ [] → (∀ x ∈ ls, c ∉ x) → splitC c (joinC c ls) = ls
  | [], h, _ => absurd rfl h
  | [x], _, h => splitC_free c x (h x (by simp))
  | x :: y :: r, _, h => by
    rw [joinC, splitC_cut c _ x (h x (by simp)), split_lines c (y :: r) (by simp) fun z hz => h z (by simp [hz])]
theorem line_ok {D S : Int} (hD : D ≤ 10) (hS : S ≤ 6) {s : Strip} (h : stripErr s D S = 0) : LineOk s := by
  obtain ⟨b1, b2, b3, b4, b5, b6, b7, b8, b9, h4⟩ := stripErr_ok.1 h
  refine ⟨by omega, by omega, by omega, by omega, ?_⟩
  rcases h4 with ⟨a, b, c⟩ | ⟨a, b, c, d⟩ | ⟨a, b, c, d, e⟩ | ⟨a, b, c, d⟩
  · exact .inl ⟨a, b, c⟩
  · exact .inr (.inl ⟨a, by omega, by omega, by omega⟩)
  · exact .inr (.inr (.inl ⟨a, by omega, by omega, by omega⟩))
  · exact .inr (.inr (.inr ⟨a, by omega, d⟩))
theorem len_one : ∀ k : Nat, k < 10 → (Lib.itoa (k : Int)).length ≤ 1 := by decide +kernel
theorem len_two : ∀ k : Nat, k < 105 → (Lib.itoa ((k : Int) - 5)).length ≤ 2 := by decide +kernel
theorem len1 {n : Int} (h0 : 0 ≤ n) (h1 : n < 10) : (Lib.itoa n).length ≤ 1 := by
  obtain ⟨k, rfl⟩ : ∃ k : Nat, n = (k : Int) := ⟨n.toNat, by omega⟩
  exact len_one k (by omega)
theorem len2 {n : Int} (h0 : -5 ≤ n) (h1 : n < 100) : (Lib.itoa n).length ≤ 2 := by
  obtain ⟨k, rfl⟩ : ∃ k : Nat, n = (k : Int) - 5 := ⟨(n + 5).toNat, by omega⟩
  exact len_two k (by omega)
theorem len_strip {D S : Int} (hD : D ≤ 10) (hS : S ≤ 6) {s : Strip} (h : stripErr s D S = 0) : (stripT s).length ≤ 33 := by
  obtain ⟨b1, b2, b3, b4, b5, b6, b7, b8, b9, h4⟩ := stripErr_ok.1 h
  have e1 := len1 b1 (by omega)
  have e2 := len1 b3 (by omega)
  have e3 := len1 (n := s.L) (by omega) (by omega)
  have e4 := len2 (n := s.W) (by omega) (by omega)
  have key : (kindT s).length ≤ 11 := by
    unfold kindT
    rcases h4 with ⟨a, b, c⟩ | ⟨a, b, c, d⟩ | ⟨a, b, c, d, e⟩ | ⟨a, b, c, d⟩
    · simp [a]
    · have := len1 (n := s.X) (by omega) (by omega)
      have := len1 (n := s.Y) (by omega) (by omega)
      rw [if_pos a]; simp only [List.length_append, List.length_cons, List.length_nil]; omega
    · have := len2 (n := s.X) (by omega) (by omega)
      have := len2 (n := s.Y) (by omega) (by omega)
      rw [if_neg (by omega), if_pos a]; simp only [List.length_append, List.length_cons, List.length_nil]; omega
    · have := len2 (n := s.X) (by omega) (by omega)
      rw [if_neg (by omega), if_neg (by omega), if_pos a]; simp only [List.length_append, List.length_cons, List.length_nil]; omega
  simp only [stripT, frontT, List.length_append, List.length_cons, List.length_nil]; omega
/-- WRITING, THEN READING, GIVES THE SAME ROADS. -/
theorem write_read {r : Roads} (hc : checkR r = 0) : readV (textT r) = (r, 0, 0) := by
  obtain ⟨d1, d2, s1, s2, n8⟩ := check_size hc
  have hs : ∀ s ∈ r.strips, stripErr s r.days r.stages = 0 := by
    have h := hc
    unfold checkR at h
    rw [if_neg (by simp [btw]; omega), if_neg (by omega)] at h
    exact stripsErr_ok.1 h
  have hok : ∀ s ∈ r.strips, LineOk s := fun s h => line_ok d2 s2 (hs s h)
  have hlen : (textT r).length ≤ 400 := by
    have e1 := len1 (n := r.stages) (by omega) (by omega)
    have e2 := len2 (n := r.days) (by omega) (by omega)
    have e3 : ∀ l : List Strip, (∀ s ∈ l, stripErr s r.days r.stages = 0) → (linesT l).length ≤ 33 * l.length := fun l => by
      induction l with
      | nil => intro _; simp [linesT]
      | cons s l ih =>
        intro h
        have h1 := len_strip d2 s2 (h s (by simp))
        have h2 := ih fun x hx => h x (by simp [hx])
        have e : linesT (s :: l) = stripT s ++ linesT l := rfl
        rw [e]; simp only [List.length_append, List.length_cons]; omega
    have e4 := e3 r.strips hs
    simp only [textT, headT, List.length_append, List.length_cons, List.length_nil]; omega
  have hh : (10 : UInt8) ∉ headLine r := by
    have f1 := itoa_free (c := 10) (n := r.stages) (by omega) (by omega) (by simp)
    have f2 := itoa_free (c := 10) (n := r.days) (by omega) (by omega) (by simp)
    simp [headLine, wRoads, wStages, wDays, f1, f2]
  have hsp : splitC 10 (textT r) = headLine r :: (r.strips.map lineT ++ [wEnd, []]) := by
    rw [text_join]
    refine split_lines 10 _ (by simp) fun x hx => ?_
    simp only [List.mem_cons, List.mem_append, List.mem_map, List.not_mem_nil, or_false] at hx
    rcases hx with rfl | ⟨s, h, rfl⟩ | rfl | rfl
    · exact hh
    · exact free10_line (hok s h)
    · decide
    · simp
  have hhead : headV (splitC 32 (headLine r)) = some (r.stages, r.days) := by
    rw [headLine, split5 (by decide) (itoa_free (by omega) (by omega) (by simp)) (by decide) (itoa_free (by omega) (by omega) (by simp)) (by decide)]
    simp only [headV, and_self, if_true]
    rw [numV_itoa (by omega) (by omega), numV_itoa (by omega) (by omega)]
  unfold readV
  rw [if_neg (by omega), hsp]
  have htk : takeV (headLine r :: (r.strips.map lineT ++ [wEnd, []])) = .inr r := by
    have hg := go_lines (st := r.stages) (d := r.days) r.strips [] 1 hok
    cases hl : r.strips.map lineT ++ [wEnd, []] with
    | nil => simp at hl
    | cons y z =>
      rw [hl] at hg
      unfold takeV
      dsimp only
      rw [hhead]
      simp only [hg, List.nil_append]
  rw [htk]
  simp [hc]
end Go.Proofs.YtmkjeonjhedgkaaGreatDoor
