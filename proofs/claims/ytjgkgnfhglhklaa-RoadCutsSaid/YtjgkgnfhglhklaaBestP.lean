/- RoadBest: plain laws. The table of leagues still to walk is the program's, cut off at 'never'; a plan that togo finds can be walked; the first last day that leads there is the one of comes. -/
import Derived.Test.YtjgkgnfhglhklaaPlan
import Derived.Test.YtjgkgnfhglhklaaPlayP
import Derived.Test.YtjgkgnfhglhklaaEarly
namespace Go.Proofs.Ytjgkgnfhglhklaa
set_option linter.unusedSimpArgs false
set_option linter.unusedVariables false
open Go.RowKit

/-- What rest reckons. -/
def restR (r : Roads) (f : Flock) (tt last : Int) (d : Int) (p : Int × Int) : Int := min (togoV r f (-1) tt last d p) 100000
theorem restR_range {r : Roads} {f : Flock} (g : Good r f) {tt last d : Int} {p : Int × Int} : 0 ≤ restR r f tt last d p ∧ restR r f tt last d p ≤ 100000 := by
  have := togoV_range g (shut := -1) (tt := tt) (last := last) (d := d) (p := p)
  unfold restR; omega
/-- The best of the first k strips. -/
def restK (r : Roads) (f : Flock) (tt last d : Int) (p : Int × Int) (k : Nat) : Int := min (bestTo r f (-1) (togoV r f (-1) tt last d) d p (togoV r f (-1) tt last (d + 1) (p.1, 0)) k) 100000
theorem restK_zero (r : Roads) (f : Flock) (tt last d : Int) (p : Int × Int) : restK r f tt last d p 0 = restR r f tt last (d + 1) (p.1, 0) := rfl
theorem restR_end (r : Roads) (f : Flock) {tt last d : Int} (p : Int × Int) (h : last < d) : restR r f tt last d p = if p.1 = tt then 0 else 100000 := by
  unfold restR; rw [togoV_end h]
  by_cases c : p.1 = tt
  · rw [if_pos c, if_pos c]; omega
  · rw [if_neg c, if_neg c]; unfold farI; omega
theorem restK_all {r : Roads} {f : Flock} (g : Good r f) {tt last d : Int} {p : Int × Int} (h0 : 0 ≤ d) (h : d ≤ last) (h3 : last ≤ 100) (h4 : 0 ≤ p.2) (h5 : p.2 ≤ f.pace) : restK r f tt last d p r.strips.length = restR r f tt last d p := by
  unfold restK restR; rw [togoV_eq g h0 h h3 h4 h5]
theorem restK_step {r : Roads} {f : Flock} (g : Good r f) {tt last d : Int} {p q : Int × Int} {k : Nat} (h : stepOk r f (-1) d p k = some q) : restK r f tt last d p (k + 1) = min (restK r f tt last d p k) ((q.2 - p.2) + restR r f tt last d q) := by
  obtain ⟨u, _⟩ := stepOk_up g h
  unfold restK restR
  rw [bestTo, h]
  dsimp only
  omega
theorem restK_no {r : Roads} {f : Flock} {tt last d : Int} {p : Int × Int} {k : Nat} (h : stepOk r f (-1) d p k = none) : restK r f tt last d p (k + 1) = restK r f tt last d p k := by
  unfold restK; rw [bestTo, h]
theorem restK_range {r : Roads} {f : Flock} (g : Good r f) {tt last d : Int} {p : Int × Int} {k : Nat} : 0 ≤ restK r f tt last d p k ∧ restK r f tt last d p k ≤ 100000 := by
  have h1 := bestTo_range (b0 := togoV r f (-1) tt last (d + 1) (p.1, 0)) (V := togoV r f (-1) tt last d) (shut := -1) (d := d) (p := p) g (togoV_range g).1 (fun _ q _ => (togoV_range g).1) k
  unfold restK; omega

theorem best_cases {r : Roads} {f : Flock} {shut d b0 : Int} {V : Int × Int → Int} {p : Int × Int} : ∀ k, bestTo r f shut V d p b0 k = b0 ∨ ∃ i q, stepOk r f shut d p i = some q ∧ bestTo r f shut V d p b0 k = (q.2 - p.2) + V q
  | 0 => .inl rfl
  | k + 1 => by
    rw [bestTo]
    cases hs : stepOk r f shut d p k with
    | none => exact best_cases k
    | some q =>
      dsimp only
      by_cases c : bestTo r f shut V d p b0 k ≤ (q.2 - p.2) + V q
      · rw [Int.min_eq_left c]; exact best_cases k
      · rw [Int.min_eq_right (by omega)]; exact .inr ⟨k, q, hs, rfl⟩
theorem nightsTo_front {r : Roads} {f : Flock} {shut : Int} {n : Nat} {d : Int} : ∀ k, nightsTo r f shut n d (k + 1) = nightsTo r f shut (afterN r f shut n d) (d + 1) k
  | 0 => by rw [nightsTo, nightsTo, nightsTo]; simp
  | k + 1 => by
    rw [nightsTo, nightsTo_front k, nightsTo, show d + 1 + (k : Int) = d + ((k + 1 : Nat) : Int) by omega]
/-- Where anything leads there, it is not many leagues, and the nights say so. -/
theorem togo_near {r : Roads} {f : Flock} (g : Good r f) {tt last : Int} (ht0 : 0 ≤ tt) (h3 : last ≤ 100) : ∀ (k : Nat) (d : Int) (p : Int × Int), 0 ≤ d → d ≤ last + 1 → 0 ≤ p.2 → p.2 ≤ f.pace → rank f last d p.2 < (k : Int) → togoV r f (-1) tt last d p < farI →
    togoV r f (-1) tt last d p ≤ bd f last d p.2 + f.pace ∧ ∀ n, (d ≤ last → Spot r f (-1) n d p) → (d = last + 1 → ∃ t : Nat, p.1 = (t : Int) ∧ n.testBit t = true) → (nightsTo r f (-1) n d (last + 1 - d).toNat).testBit tt.toNat = true
  | 0, d, p, h0, h1, h4, h5, hk, hf => by have := rank_nonneg (f := f) h1 (by have := g.p1; omega) h5; omega
  | k + 1, d, p, h0, h1, h4, h5, hk, hf => by
    have hp1 := g.p1
    by_cases hd : last < d
    · have hdl : d = last + 1 := by omega
      rw [togoV_end hd] at hf ⊢
      by_cases c : p.1 = tt
      · rw [if_pos c]
        refine ⟨by unfold bd; rw [hdl]; have : last + 1 - (last + 1) = (0 : Int) := by omega
                   rw [this]; omega, fun n _ h2 => ?_⟩
        obtain ⟨t, e, hb⟩ := h2 hdl
        rw [show (last + 1 - d).toNat = 0 by omega, nightsTo, show tt.toNat = t by omega]; exact hb
      · rw [if_neg c] at hf; omega
    · have hle : d ≤ last := by omega
      rw [togoV_eq g h0 hle h3 h4 h5] at hf ⊢
      have hone : (last + 1 - d).toNat = (last + 1 - (d + 1)).toNat + 1 := by omega
      rcases best_cases (r := r) (f := f) (shut := -1) (d := d) (b0 := togoV r f (-1) tt last (d + 1) (p.1, 0)) (V := togoV r f (-1) tt last d) (p := p) r.strips.length with hb | ⟨i, q, hs, hb⟩
      · rw [hb] at hf ⊢
        have hr := rank_day (f := f) (last := last) hle (by omega) h5
        obtain ⟨i1, i2⟩ := togo_near g ht0 h3 k (d + 1) (p.1, 0) (by omega) (by omega) (Int.le_refl _) (by dsimp only; omega) (by dsimp only; omega) hf
        refine ⟨by have := bd_day (last := last) (d := d) h5; dsimp only at i1; omega, fun n hsp _ => ?_⟩
        have hS := hsp hle
        obtain ⟨r1, r2, _, _⟩ := hS.range g
        obtain ⟨t, ht⟩ := Int.eq_ofNat_of_zero_le r1
        have hbit : (afterN r f (-1) n d).testBit t = true := (afterN_bit g t).2 ⟨p.2, by rw [← ht]; exact hS⟩
        have := i2 (afterN r f (-1) n d) (fun _ => by show Spot r f (-1) _ (d + 1) (p.1, 0); rw [ht]; exact .start t (by omega) hbit) (fun _ => ⟨t, ht, hbit⟩)
        rw [hone, nightsTo_front]; exact this
      · rw [hb] at hf ⊢
        obtain ⟨u1, u2, _, _⟩ := stepOk_up g hs
        have hr := rank_step (f := f) (last := last) (d := d) u1
        obtain ⟨i1, i2⟩ := togo_near g ht0 h3 k d q h0 h1 (by omega) u2 (by omega) (by omega)
        refine ⟨by unfold bd at *; omega, fun n hsp h2 => i2 n (fun hl => .step p q i (hsp hl) hs) (fun e => by omega)⟩
theorem togo_lt {r : Roads} {f : Flock} (g : Good r f) {tt last d : Int} {p : Int × Int} (ht0 : 0 ≤ tt) (h3 : last ≤ 100) (h0 : 0 ≤ d) (h1 : d ≤ last + 1) (h4 : 0 ≤ p.2) (h5 : p.2 ≤ f.pace) (hf : togoV r f (-1) tt last d p < farI) : togoV r f (-1) tt last d p < 1000 := by
  have h := (togo_near g ht0 h3 2000 d p h0 h1 h4 h5 (by have := rank_lt g h0 h1 h3 h4; omega) hf).1
  have hp := g.p2
  have hp1 := g.p1
  unfold bd at h
  have : (last + 1 - d) * f.pace ≤ 101 * f.pace := Int.mul_le_mul_of_nonneg_right (by omega) (by omega)
  omega
/-- What rest says is never, or what togo says. -/
theorem rest_is {r : Roads} {f : Flock} (g : Good r f) {tt last d : Int} {p : Int × Int} (ht0 : 0 ≤ tt) (h3 : last ≤ 100) (h0 : 0 ≤ d) (h1 : d ≤ last + 1) (h4 : 0 ≤ p.2) (h5 : p.2 ≤ f.pace) :
    (restR r f tt last d p < 100000 → restR r f tt last d p = togoV r f (-1) tt last d p ∧ togoV r f (-1) tt last d p < farI) ∧ (togoV r f (-1) tt last d p < farI → restR r f tt last d p < 1000) := by
  unfold restR
  constructor
  · intro h; unfold farI; omega
  · intro h; have := togo_lt g ht0 h3 h0 h1 h4 h5 h; omega
theorem togo_zero {r : Roads} {f : Flock} (g : Good r f) {tt last : Int} (h3 : last ≤ 100) : ∀ (k : Nat) (d : Int) (p : Int × Int), 0 ≤ d → d ≤ last + 1 → last + 1 - d = (k : Int) → 0 ≤ p.2 → p.2 ≤ f.pace → togoV r f (-1) tt last d p = 0 → p.1 = tt
  | 0, d, p, h0, h1, hk, h4, h5, hz => by
    rw [togoV_end (by omega)] at hz
    by_cases c : p.1 = tt
    · exact c
    · rw [if_neg c] at hz; unfold farI at hz; omega
  | k + 1, d, p, h0, h1, hk, h4, h5, hz => by
    rw [togoV_eq g h0 (by omega) h3 h4 h5] at hz
    rcases best_cases (r := r) (f := f) (shut := -1) (d := d) (b0 := togoV r f (-1) tt last (d + 1) (p.1, 0)) (V := togoV r f (-1) tt last d) (p := p) r.strips.length with hb | ⟨i, q, hs, hb⟩
    · rw [hb] at hz
      exact togo_zero g h3 k (d + 1) (p.1, 0) (by omega) (by omega) (by omega) (Int.le_refl _) (by have := g.p1; dsimp only; omega) hz
    · rw [hb] at hz
      obtain ⟨u1, _⟩ := stepOk_up g hs
      have := (togoV_range g (shut := -1) (tt := tt) (last := last) (d := d) (p := q)).1
      omega

theorem playStep_of {r : Roads} {f : Flock} {s : PS} {d : Int} {p q : Int × Int} {i : Nat} (h0 : 0 ≤ d) (hd : d < r.days) (hs : stepOk r f (-1) d p i = some q) (hpos : s.pos = p.1) (hw : s.day < d ∧ p.2 = 0 ∨ s.day = d ∧ s.walked = p.2) :
    playStep r f s (d, (i : Int)) = .ok ⟨q.1, d, q.2, fun k => if d ≤ (k : Int) then q.1 else s.out k⟩ := by
  obtain ⟨x, hx, e1, e2, e3, rfl⟩ := stepOk_some.1 hs
  have hil := (List.getElem?_eq_some_iff.1 hx).1
  have hwk : (if s.day < d then 0 else s.walked) = p.2 := by
    rcases hw with ⟨a, b⟩ | ⟨a, b⟩
    · rw [if_pos a, b]
    · rw [if_neg (by omega), b]
  have b1 : btw d 0 (r.days - 1) = true := btw_true.2 ⟨h0, by omega⟩
  have b2 : btw ((i : Nat) : Int) 0 ((r.strips.length : Int) - 1) = true := btw_true.2 ⟨by omega, by omega⟩
  have hop : (barsL x f d).isEmpty = true := by
    unfold openB at e3; rw [hx] at e3; simp at e3; rw [e3]; rfl
  unfold playStep
  dsimp only
  rw [b1, b2, if_neg (by simp), if_neg (by rcases hw with h | h <;> omega), show ((i : Nat) : Int).toNat = i from rfl, hx]
  dsimp only
  rw [hpos, if_neg (by rw [e1]; simp), if_neg (by rw [hop]; simp), hwk, if_neg (by omega)]
/-- The plan that togo finds can be walked. -/
theorem play_planF {r : Roads} {f : Flock} (g : Good r f) {tt last : Int} (h3 : last ≤ 100) (hl : last < r.days) : ∀ (k : Nat) (d : Int) (p : Int × Int) (left : Int) (s : PS), 0 ≤ d → d ≤ last + 1 → 0 ≤ p.2 → p.2 ≤ f.pace → rank f last d p.2 < (k : Int) → togoV r f (-1) tt last d p = left → left < farI →
    PSOk r f s → s.day ≤ last → s.pos = p.1 → (s.day < d ∧ p.2 = 0 ∨ s.day = d ∧ s.walked = p.2) →
    ∃ s', playGo r f (planF r f (-1) (togoV r f (-1) tt last) k d p left) s = .ok s' ∧ PSOk r f s' ∧ s'.day ≤ last ∧ s'.pos = tt
  | 0, d, p, left, s, h0, h1, h4, h5, hk, hv, hf, ho, hd, hpos, hw => by have := rank_nonneg (f := f) h1 (by have := g.p1; omega) h5; omega
  | k + 1, d, p, left, s, h0, h1, h4, h5, hk, hv, hf, ho, hd, hpos, hw => by
    have hp1 := g.p1
    have hr0 := (togoV_range g (shut := -1) (tt := tt) (last := last) (d := d) (p := p)).1
    by_cases hz : 0 < left
    · have hle : d ≤ last := by
        by_cases c : d ≤ last
        · exact c
        · rw [togoV_end (by omega)] at hv
          by_cases c2 : p.1 = tt
          · rw [if_pos c2] at hv; omega
          · rw [if_neg c2] at hv; omega
      cases hp : pickTo r f (-1) (togoV r f (-1) tt last d) d p left r.strips.length with
      | some x =>
        obtain ⟨i, q⟩ := x
        obtain ⟨s1, s2, s3⟩ := pick_spec hp
        obtain ⟨u1, u2, _, _⟩ := stepOk_up g s1
        rw [planF_step hz hp]
        have hst := playStep_of h0 (by omega) s1 hpos hw
        rw [playGo, hst]
        dsimp only
        have hr := rank_step (f := f) (last := last) (d := d) u1
        exact play_planF g h3 hl k d q (left - (q.2 - p.2)) _ h0 h1 (by omega) u2 (by omega) (by omega) (by omega) (playStep_ok g ho hst) hle rfl (.inr ⟨rfl, rfl⟩)
      | none =>
        rw [planF_wait hz hp]
        have hb := pick_none (b0 := togoV r f (-1) tt last (d + 1) (p.1, 0)) hp (by rw [← togoV_eq g h0 hle h3 h4 h5]; exact hv)
        have hr := rank_day (f := f) (last := last) hle (by omega) h5
        exact play_planF g h3 hl k (d + 1) (p.1, 0) left s (by omega) (by omega) (Int.le_refl _) (by dsimp only; omega) (by dsimp only; omega) hb hf ho hd hpos (.inl ⟨by rcases hw with h | h <;> omega, rfl⟩)
    · rw [planF_stop hz]
      refine ⟨s, rfl, ho, hd, ?_⟩
      rw [hpos]
      exact togo_zero g h3 (last + 1 - d).toNat d p h0 h1 (by omega) h4 h5 (by omega)
theorem ready2 {r : Roads} {f : Flock} (g : Good r f) {x : Int} (h1 : 0 ≤ x) (h2 : x < r.stages) : readyErr r f [x, r.stages] = 0 := by
  obtain ⟨k1, k2⟩ := good_iff.1 g
  unfold readyErr
  rw [if_neg (by simp [k1]), if_neg (by simp [k2])]
  exact pairs2.2 ⟨h1, h2⟩
theorem play_planL {r : Roads} {f : Flock} (g : Good r f) {tt last day : Int} {fr : Nat} (hfr : (fr : Int) < r.stages) (h0 : 0 ≤ day) (hdl : day ≤ last) (hl : last < r.days) (hf : togoV r f (-1) tt last day ((fr : Int), 0) < farI) :
    ∃ L : List Int, playV r f (fr : Int) (planL r f (-1) tt last day (fr : Int)) = (L, 0) ∧ L.length = r.days.toNat ∧ L.getD last.toNat 0 = tt := by
  have hd2 := g.d2
  have hp1 := g.p1
  have h3 : last ≤ 100 := by omega
  obtain ⟨s, h1, h2, h4, h5⟩ := play_planF g h3 hl 2000 day ((fr : Int), 0) _ (play0 (fr : Int)) h0 (by omega) (Int.le_refl _) (by dsimp only; omega) (by have := rank_lt g (last := last) (l := 0) h0 (by omega) h3 (Int.le_refl _); dsimp only; omega) rfl hf (play0_ok g (by omega) hfr) (by show (0 : Int) ≤ last; omega) rfl (by
      by_cases c : day = 0
      · exact .inr ⟨c.symm, rfl⟩
      · exact .inl ⟨by show (0 : Int) < day; omega, rfl⟩)
  have hz : readyErr r f [(fr : Int), r.stages] = 0 := ready2 g (by omega) hfr
  refine ⟨(List.range r.days.toNat).map s.out, ?_, by simp, ?_⟩
  · unfold playV
    rw [if_pos hz]
    unfold planL
    rw [h1]
  · rw [List.getD_eq_getElem?_getD, List.getElem?_map, List.getElem?_range (by omega)]
    simp only [Option.map_some, Option.getD_some]
    rw [h2.tail last.toNat (by omega), h5]
/-- A last day that leads there is not earlier than the day of comes; and that day leads there. -/
theorem last_is {r : Roads} {f : Flock} (g : Good r f) {fr tt : Nat} (hfr : (fr : Int) < r.stages) (htt : (tt : Int) < r.stages) {z last : Int} (h0 : 0 ≤ z) (hz : z ≤ last) (hl : last < r.days) (h : restR r f (tt : Int) last z ((fr : Int), 0) < 100000) :
    0 ≤ (comesL r f (-1) fr z).getD tt 0 ∧ (comesL r f (-1) fr z).getD tt 0 ≤ last := by
  have hd2 := g.d2
  have hp1 := g.p1
  have h3 : last ≤ 100 := by omega
  have hf := ((rest_is g (p := ((fr : Int), 0)) (by omega) h3 h0 (by omega) (Int.le_refl _) (by dsimp only; omega)).1 h).2
  have hn := (togo_near g (tt := (tt : Int)) (by omega) h3 2000 z ((fr : Int), 0) h0 (by omega) (Int.le_refl _) (by dsimp only; omega) (by have := rank_lt g (last := last) (l := 0) h0 (by omega) h3 (Int.le_refl _); dsimp only; omega) hf).2 (0 ||| 1 <<< fr) (fun _ => .start fr hfr (by rw [testBit_or_one]; simp)) (fun e => by omega)
  have hlen : tt < (comesTo r f (-1) (0 ||| 1 <<< fr) z (r.days - z).toNat).length := by rw [comesTo_len]; omega
  have := comesTo_le (shut := -1) h0 (r.days - z).toNat tt hlen (last - z).toNat (by omega) (by rw [show (last - z).toNat + 1 = (last + 1 - z).toNat by omega]; simpa using hn)
  unfold comesL
  rw [List.getD_eq_getElem?_getD, List.getElem?_eq_getElem hlen, Option.getD_some]
  omega
theorem last_rev {r : Roads} {f : Flock} (g : Good r f) {fr tt : Nat} (hfr : (fr : Int) < r.stages) (htt : (tt : Int) < r.stages) {z : Int} (h0 : 0 ≤ z) (hz : z < r.days) (hc : 0 ≤ (comesL r f (-1) fr z).getD tt 0) :
    z ≤ (comesL r f (-1) fr z).getD tt 0 ∧ (comesL r f (-1) fr z).getD tt 0 < r.days ∧ restR r f (tt : Int) ((comesL r f (-1) fr z).getD tt 0) z ((fr : Int), 0) < 1000 := by
  have hd2 := g.d2
  have hp1 := g.p1
  obtain ⟨a, b, c⟩ := comes_near g (shut := -1) (s0 := fr) (t := tt) h0 hz htt rfl hc
  exact ⟨a, b, (rest_is g (p := ((fr : Int), 0)) (by omega) (by omega) h0 (by omega) (Int.le_refl _) (by dsimp only; omega)).2 c⟩
theorem comes_low {r : Roads} {f : Flock} {fr tt : Nat} (htt : (tt : Int) < r.stages) {z : Int} (h0 : 0 ≤ z) (h : ¬ 0 ≤ (comesL r f (-1) fr z).getD tt 0) : (comesL r f (-1) fr z).getD tt 0 = -1 := by
  have hlen : tt < (comesTo r f (-1) (0 ||| 1 <<< fr) z (r.days - z).toNat).length := by rw [comesTo_len]; omega
  have hx := comesTo_range r f (-1) (0 ||| 1 <<< fr) z h0 (r.days - z).toNat _ (List.getElem_mem hlen)
  unfold comesL at h ⊢
  rw [List.getD_eq_getElem?_getD, List.getElem?_eq_getElem hlen, Option.getD_some] at h ⊢
  omega
end Go.Proofs.Ytjgkgnfhglhklaa
