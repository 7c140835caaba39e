/- The contract of mestalaw02.firstPlan. -/
import Derived.Test.YtjgkgnfhglhklaaRest
namespace Go.Proofs.Ytjgkgnfhglhklaa
set_option linter.unusedSimpArgs false
set_option linter.unusedVariables false
open Go.RowKit

/-- On the way through the first plan: the flock at stage x on day d, q leagues walked, the strides PL behind it. -/
structure FP (r : Roads) (f : Flock) (tt last : Nat) (day fr : Int) (S P : Nat) (PL : List (Int × Int)) (x d q : Nat) : Prop where
  x_lt : x < S
  d_le : d ≤ last
  q_le : q ≤ P
  near : togoV r f (-1) (tt : Int) (last : Int) (d : Int) ((x : Int), (q : Int)) < farI
  rest : ∃ kk : Nat, rank f (last : Int) (d : Int) (q : Int) < (kk : Int) ∧ PL ++ planF r f (-1) (togoV r f (-1) (tt : Int) (last : Int)) kk (d : Int) ((x : Int), (q : Int)) (togoV r f (-1) (tt : Int) (last : Int) (d : Int) ((x : Int), (q : Int))) = planL r f (-1) (tt : Int) (last : Int) day fr
/-- .. while the next stride is looked for. -/
structure FW (r : Roads) (f : Flock) (tt last : Nat) (day fr : Int) (S P : Nat) (PL : List (Int × Int)) (x e q : Nat) (need : Int) : Prop where
  x_lt : x < S
  e_le : e ≤ last + 1
  q_le : q ≤ P
  pos : 0 < need
  near : need < farI
  val : togoV r f (-1) (tt : Int) (last : Int) (e : Int) ((x : Int), (q : Int)) = need
  rest : ∃ kk : Nat, rank f (last : Int) (e : Int) (q : Int) < (kk : Int) ∧ PL ++ planF r f (-1) (togoV r f (-1) (tt : Int) (last : Int)) kk (e : Int) ((x : Int), (q : Int)) need = planL r f (-1) (tt : Int) (last : Int) day fr
section
variable {r : Roads} {f : Flock} {tt last : Nat} {day fr : Int} {S P : Nat} {PL : List (Int × Int)} {x d e q : Nat} {need : Int}
theorem FP.stop (h : FP r f tt last day fr S P PL x d q) (hz : ¬ 0 < togoV r f (-1) (tt : Int) (last : Int) (d : Int) ((x : Int), (q : Int))) : PL = planL r f (-1) (tt : Int) (last : Int) day fr := by
  obtain ⟨kk, _, h2⟩ := h.rest
  rw [planF_stop hz, List.append_nil] at h2
  exact h2
theorem FP.look (h : FP r f tt last day fr S P PL x d q) (hz : 0 < togoV r f (-1) (tt : Int) (last : Int) (d : Int) ((x : Int), (q : Int))) : FW r f tt last day fr S P PL x d q (togoV r f (-1) (tt : Int) (last : Int) (d : Int) ((x : Int), (q : Int))) :=
  ⟨h.x_lt, Nat.le_succ_of_le h.d_le, h.q_le, hz, h.near, rfl, h.rest⟩
theorem FW.le (h : FW r f tt last day fr S P PL x e q need) : e ≤ last := by
  by_cases c : e ≤ last
  · exact c
  · have hv := h.val
    have h1 := h.pos
    have h2 := h.near
    rw [togoV_end (by omega)] at hv
    split at hv <;> omega
theorem FW.next (g : Good r f) (hP : f.pace = (P : Int)) (hl : last ≤ 100) (h : FW r f tt last day fr S P PL x e q need) (hp : pickTo r f (-1) (togoV r f (-1) (tt : Int) (last : Int) (e : Int)) (e : Int) ((x : Int), (q : Int)) need r.strips.length = none) : FW r f tt last day fr S P PL x (e + 1) 0 need := by
  have hle := h.le
  have hq := h.q_le
  obtain ⟨kk, h1, h2⟩ := h.rest
  have hv := h.val
  rw [togoV_eq g (by omega) (by omega) (by omega) (by show (0 : Int) ≤ (q : Int); omega) (by show (q : Int) ≤ f.pace; omega)] at hv
  have hb := pick_none hp hv
  have hr := rank_day (f := f) (last := (last : Int)) (d := (e : Int)) (l := (q : Int)) (by omega) (by omega) (by omega)
  have h0 := rank_nonneg (f := f) (last := (last : Int)) (d := (e : Int) + 1) (l := 0) (by omega) (by omega) (by omega)
  obtain ⟨k, rfl⟩ : ∃ k, kk = k + 1 := ⟨kk - 1, by omega⟩
  rw [planF_wait h.pos hp] at h2
  have e0 : ((0 : Nat) : Int) = 0 := rfl
  have e1 : ((e + 1 : Nat) : Int) = (e : Int) + 1 := rfl
  exact ⟨h.x_lt, by omega, Nat.zero_le _, h.pos, h.near, by rw [e0, e1]; exact hb, k, by rw [e0, e1]; omega, by rw [e0, e1]; exact h2⟩
theorem FW.take (g : Good r f) (hS : r.stages = (S : Int)) (hP : f.pace = (P : Int)) (h : FW r f tt last day fr S P PL x e q need) {i o s : Nat} (hp : pickTo r f (-1) (togoV r f (-1) (tt : Int) (last : Int) (e : Int)) (e : Int) ((x : Int), (q : Int)) need r.strips.length = some (i, ((o : Int), (s : Int)))) :
    FP r f tt last day fr S P (PL ++ [((e : Int), (i : Int))]) o e s ∧ togoV r f (-1) (tt : Int) (last : Int) (e : Int) ((o : Int), (s : Int)) < need := by
  obtain ⟨kk, h1, h2⟩ := h.rest
  obtain ⟨p1, p2, _⟩ := pick_spec hp
  obtain ⟨u1, u2, u3, u4⟩ := stepOk_up g p1
  dsimp only at p2 u1 u2 u3 u4
  have h3 := h.near
  have h0 := rank_nonneg (f := f) (last := (last : Int)) (d := (e : Int)) (l := (q : Int)) (by have := h.e_le; omega) (by omega) (by have := h.q_le; omega)
  have hr := rank_step (f := f) (last := (last : Int)) (d := (e : Int)) u1
  obtain ⟨k, rfl⟩ : ∃ k, kk = k + 1 := ⟨kk - 1, by omega⟩
  rw [planF_step h.pos hp] at h2
  have hn : need - ((s : Int) - (q : Int)) = togoV r f (-1) (tt : Int) (last : Int) (e : Int) ((o : Int), (s : Int)) := by omega
  dsimp only at h2
  rw [hn] at h2
  exact ⟨⟨by omega, h.le, by omega, by omega, k, by omega, by rw [List.append_assoc]; exact h2⟩, by omega⟩
end
theorem FP.start {r : Roads} {f : Flock} (g : Good r f) {tt last fr day : Nat} {S P : Nat} (hf : fr < S) (hd : day ≤ last) (hl : last ≤ 100) (hn : togoV r f (-1) (tt : Int) (last : Int) (day : Int) ((fr : Int), 0) < farI) : FP r f tt last (day : Int) (fr : Int) S P [] fr day 0 := by
  have e0 : ((0 : Nat) : Int) = 0 := rfl
  have hr := rank_lt g (last := (last : Int)) (d := (day : Int)) (l := 0) (by omega) (by omega) (by omega) (Int.le_refl _)
  refine ⟨hf, hd, Nat.zero_le _, by rw [e0]; exact hn, 2000, by rw [e0]; omega, ?_⟩
  rw [e0, List.nil_append, planL]
theorem planF_len {r : Roads} {f : Flock} {shut : Int} {V : Int → Int × Int → Int} : ∀ (k : Nat) (d : Int) (p : Int × Int) (left : Int), (planF r f shut V k d p left).length ≤ k
  | 0, _, _, _ => Nat.le_refl _
  | k + 1, d, p, left => by
    rw [planF]
    split
    · split
      · rename_i i q _
        have := planF_len (r := r) (f := f) (shut := shut) (V := V) k d q (left - (q.2 - p.2))
        rw [List.length_cons]; omega
      · have := planF_len (r := r) (f := f) (shut := shut) (V := V) k (d + 1) (p.1, 0) left
        omega
    · simp
theorem FP.len {r : Roads} {f : Flock} {tt last : Nat} {day fr : Int} {S P : Nat} {PL : List (Int × Int)} {x d q : Nat} (h : FP r f tt last day fr S P PL x d q) : PL.length ≤ 2000 := by
  obtain ⟨kk, _, h2⟩ := h.rest
  have h3 := planF_len (r := r) (f := f) (shut := -1) (V := togoV r f (-1) (tt : Int) (last : Int)) 2000 day (fr, 0) (togoV r f (-1) (tt : Int) (last : Int) day (fr, 0))
  have h4 := congrArg List.length h2
  rw [List.length_append] at h4
  unfold planL at h4
  omega
theorem FW.len {r : Roads} {f : Flock} {tt last : Nat} {day fr : Int} {S P : Nat} {PL : List (Int × Int)} {x e q : Nat} {need : Int} (h : FW r f tt last day fr S P PL x e q need) : PL.length ≤ 2000 := by
  obtain ⟨kk, _, h2⟩ := h.rest
  have h3 := planF_len (r := r) (f := f) (shut := -1) (V := togoV r f (-1) (tt : Int) (last : Int)) 2000 day (fr, 0) (togoV r f (-1) (tt : Int) (last : Int) day (fr, 0))
  have h4 := congrArg List.length h2
  rw [List.length_append] at h4
  unfold planL at h4
  omega
/-- Whether a strip is the first plan's next. -/
def hitP (r : Roads) (f : Flock) (tt last : Nat) (e : Int) (p : Int × Int) (need : Int) (i : Nat) : Bool := match stepOk r f (-1) e p i with
  | some o => decide ((o.2 - p.2) + togoV r f (-1) (tt : Int) (last : Int) e o = need)
  | none => false
theorem hit_none {r : Roads} {f : Flock} {tt last : Nat} {e : Int} {p : Int × Int} {need : Int} {i : Nat} (h : (stepOk r f (-1) e p i).isSome = false) : hitP r f tt last e p need i = false := by
  unfold hitP
  cases hs : stepOk r f (-1) e p i with
  | none => rfl
  | some o => rw [hs] at h; simp at h
theorem hit_some {r : Roads} {f : Flock} {tt last : Nat} {e : Int} {p o : Int × Int} {need : Int} {i : Nat} (h : stepOk r f (-1) e p i = some o) : hitP r f tt last e p need i = decide ((o.2 - p.2) + togoV r f (-1) (tt : Int) (last : Int) e o = need) := by
  unfold hitP; rw [h]
theorem pick_hit_no {r : Roads} {f : Flock} {tt last : Nat} {e : Int} {p : Int × Int} {need : Int} {i : Nat} (h0 : pickTo r f (-1) (togoV r f (-1) (tt : Int) (last : Int) e) e p need i = none) (h : hitP r f tt last e p need i = false) : pickTo r f (-1) (togoV r f (-1) (tt : Int) (last : Int) e) e p need (i + 1) = none := by
  cases hs : stepOk r f (-1) e p i with
  | none => exact pick_no h0 fun q hq => by rw [hs] at hq; simp at hq
  | some o => rw [hit_some hs] at h; exact pick_other h0 hs (by simpa using h)
theorem pick_hit_yes {r : Roads} {f : Flock} {tt last : Nat} {e : Int} {p : Int × Int} {need : Int} {i : Nat} (h0 : pickTo r f (-1) (togoV r f (-1) (tt : Int) (last : Int) e) e p need i = none) (h : hitP r f tt last e p need i = true) : ∃ o, stepOk r f (-1) e p i = some o ∧ pickTo r f (-1) (togoV r f (-1) (tt : Int) (last : Int) e) e p need (i + 1) = some (i, o) := by
  cases hs : stepOk r f (-1) e p i with
  | none => rw [hit_none (by rw [hs]; rfl)] at h; simp at h
  | some o => rw [hit_some hs] at h; exact ⟨o, rfl, pick_this h0 hs (by simpa using h)⟩
/-- The other end of a strip, and the leagues behind it, as numbers. -/
theorem step_nat {r : Roads} {f : Flock} (g : Good r f) {e : Int} {x q i aN bN lN S P : Nat} {xs : Strip} {o : Int × Int} (hS : r.stages = (S : Int)) (hP : f.pace = (P : Int)) (hsk : r.strips[i]? = some xs) (hA : xs.A = (aN : Int)) (hB : xs.B = (bN : Int)) (hL : xs.L = (lN : Int)) (haS : aN < S) (hbS : bN < S)
    (hs : stepOk r f (-1) e ((x : Int), (q : Int)) i = some o) : ∃ oN : Nat, o = ((oN : Int), ((q + lN : Nat) : Int)) ∧ oN < S ∧ q + lN ≤ P ∧ (aN : Int) + (bN : Int) - (x : Int) = (oN : Int) := by
  obtain ⟨xs', hx', h1, h2, _, ho⟩ := stepOk_some.1 hs
  rw [hsk] at hx'
  obtain rfl : xs = xs' := by simpa using hx'
  obtain ⟨o1, o2⟩ := endOf_range g (List.mem_of_getElem? hsk) h1
  obtain ⟨oN, hoN⟩ := Int.eq_ofNat_of_zero_le o1
  have h3 := (playEnd (S := r.stages) ⟨by rw [hA]; omega, by rw [hA, hS]; omega⟩ ⟨by rw [hB]; omega, by rw [hB, hS]; omega⟩ h1).2.2
  dsimp only at o1 o2 hoN h1 h2 h3 ho
  refine ⟨oN, by rw [ho, hoN, hL]; rfl, by omega, by omega, by omega⟩
/-- What is found. -/
def FoundP (r : Roads) (f : Flock) (tt last : Nat) (day fr : Int) (S P B : Nat) (need : Int) (wx : World) (v15 v16 v17 v18 : Value) : Prop :=
  ∃ (PL : List (Int × Int)) (x d q : Nat), FP r f tt last day fr S P PL x d q ∧ togoV r f (-1) (tt : Int) (last : Int) (d : Int) ((x : Int), (q : Int)) < need ∧ OwnStrides wx B v15 PL ∧ v16 = .int .i64 (x : Int) ∧ v17 = .int .i64 (d : Int) ∧ v18 = .int .i64 (q : Int)

set_option maxRecDepth 100000 in
set_option maxHeartbeats 40000000 in
theorem firstPlan_any (w : World) {r : Roads} {f : Flock} (g : Good r f) (a : Option Addr) (cap S P D N : Nat) (hS : r.stages = (S : Int)) (hP : f.pace = (P : Int)) (hD : r.days = (D : Int)) (hN : r.strips.length = N) (hs : StripsAt w a r.strips) (GT : Nat) (gbT : Nat → Nat) (BT : Nat) (hG : Grid w BT GT 70 4 D D N gbT (fun d i => .bool (openB r f (-1) i (d : Int)))) (tt fr day last : Nat) (hl : last < D) (hdl : day ≤ last) (hfr : fr < S) (BO O : Nat) (og : Nat → Nat) (gb : Nat → Nat → Nat) (hC : Cube w BO O 0 (last + 1) S (P + 1) og gb (fun d s l => restR r f (tt : Int) (last : Int) (d : Int) ((s : Int), (l : Int)))) (hn : togoV r f (-1) (tt : Int) (last : Int) (day : Int) ((fr : Int), 0) < farI) :
    Calls Try.prog 71 #[.agg #[.int .i64 (D : Int), .int .i64 (S : Int), .slice a N cap], .agg #[.int .i64 f.heads, .int .i64 (P : Int)], .slice (some ⟨GT, 0, none⟩) D D, .int .i64 (fr : Int), .int .i64 (day : Int), .int .i64 (last : Int), .slice (some ⟨O, 0, none⟩) (last + 1) (last + 1)] w
      fun e w' => ∃ v, e = .returned v ∧ OwnStrides w' w.heap.size v (planL r f (-1) (tt : Int) (last : Int) (day : Int) (fr : Int)) ∧ Below w.heap.size w w' := by
  have hS6 : S ≤ 6 := by have := g.s2; omega
  have hP9 : P ≤ 9 := by have := g.p2; omega
  have hD10 : D ≤ 10 := by have := g.d2; omega
  have hN8 : N ≤ 8 := by have := g.n8; omega
  have hb0 : Below w.heap.size w ((w.alloc (.cells #[.int .i64 (D : Int), .int .i64 (S : Int), .slice a N cap] 24)).alloc (.cells #[.int .i64 f.heads, .int .i64 (P : Int)] 26)) := ((Below.refl _ _).alloc (Nat.le_refl _) _).alloc (by simp) _
  have x2 : ((w.alloc (.cells #[.int .i64 (D : Int), .int .i64 (S : Int), .slice a N cap] 24)).alloc (.cells #[.int .i64 f.heads, .int .i64 (P : Int)] 26)).cell? ⟨w.heap.size, 2, none⟩ = some (.slice a N cap) := by simp [go_sem]
  have x4 : ((w.alloc (.cells #[.int .i64 (D : Int), .int .i64 (S : Int), .slice a N cap] 24)).alloc (.cells #[.int .i64 f.heads, .int .i64 (P : Int)] 26)).cell? ⟨w.heap.size + 1, 1, none⟩ = some (.int .i64 (P : Int)) := by simp [go_sem]
  have HST := Lib.hid (hs.below hb0); clear hs
  have HGT := Lib.hid (hG.below hb0); clear hG
  have HC := Lib.hid (hC.below hb0); clear hC
  have HS := Lib.hid hS; clear hS
  have HPP := Lib.hid hP; clear hP
  have HD := Lib.hid hD; clear hD
  have HN := Lib.hid hN; clear hN
  have HFP := Lib.hid (FP.start (P := P) g hfr hdl (by omega) hn); clear hn
  have G := Lib.hid g; clear g
  have HRE := Lib.hid (fun (x d q : Nat) (h : d ≤ last) (hq : q ≤ P) (hf : togoV r f (-1) (tt : Int) (last : Int) (d : Int) ((x : Int), (q : Int)) < farI) => show restR r f (tt : Int) (last : Int) (d : Int) ((x : Int), (q : Int)) = togoV r f (-1) (tt : Int) (last : Int) (d : Int) ((x : Int), (q : Int)) ∧ togoV r f (-1) (tt : Int) (last : Int) (d : Int) ((x : Int), (q : Int)) < 1000 from by
    have h1 := togo_lt G.out (tt := (tt : Int)) (last := (last : Int)) (d := (d : Int)) (p := ((x : Int), (q : Int))) (by omega) (by omega) (by omega) (by omega) (by show (0 : Int) ≤ (q : Int); omega) (by show (q : Int) ≤ f.pace; rw [HPP.out]; omega) hf
    exact ⟨by unfold restR; omega, h1⟩)
  go_enter Try.func71, Try.ntmps71
  go_upto_region 1 with (fail)
  generalize ((w.alloc (.cells #[.int .i64 (D : Int), .int .i64 (S : Int), .slice a N cap] 24)).alloc (.cells #[.int .i64 f.heads, .int .i64 (P : Int)] 26)) = W0 at hb0 x2 x4 HST HGT HC ⊢
  have X2 := Lib.hid x2; clear x2
  have X4 := Lib.hid x4; clear x4
  have HB0 := Lib.hid hb0; clear hb0
  go_wp2_with fail
  go_loopw [15, 16, 17, 18] (fun v15 v16 v17 v18 wx => ∃ (PL : List (Int × Int)) (x d q : Nat), FP r f tt last (day : Int) (fr : Int) S P PL x d q ∧ OwnStrides wx W0.heap.size v15 PL ∧ v16 = .int .i64 (x : Int) ∧ v17 = .int .i64 (d : Int) ∧ v18 = .int .i64 (q : Int) ∧ Below W0.heap.size W0 wx) (fun _ v16 v17 v18 _ => (togoV r f (-1) (tt : Int) (last : Int) (intOf v17) (intOf v16, intOf v18)).toNat)
  case atStart => exact ⟨[], fr, day, 0, HFP.out, OwnStrides.nil _ _, rfl, rfl, rfl, Below.refl _ _⟩
  case round =>
    clear HFP
    obtain ⟨PL, x, d, q, hfp, hown, rfl, rfl, rfl, hbr⟩ := hrel
    have hx := hfp.x_lt
    have hd := hfp.d_le
    have hq := hfp.q_le
    obtain ⟨re1, re2⟩ := HRE.out x d q hd hq hfp.near
    have y0 := (HC.out.below hbr).row (Nat.zero_le d) (by omega)
    have hg := (HC.out.below hbr).grid d (Nat.zero_le _) (by omega)
    have y1 := hg.row (Nat.le_refl _) hx
    have y2 := hg.cell hx (show q < P + 1 by omega)
    unfold gInt at y2
    dsimp only at y2
    rw [re1] at y2
    clear re1 hg
    have hr0 := (togoV_range G.out (shut := -1) (tt := (tt : Int)) (last := (last : Int)) (d := (d : Int)) (p := ((x : Int), (q : Int)))).1
    have q1 : (d : Int) < (last : Int) + 1 := by omega
    have q2 : (x : Int) < (S : Int) := by omega
    have q3 : (q : Int) < (P : Int) + 1 := by omega
    have HOWN := Lib.hid hown; clear hown
    have HBR := Lib.hid hbr; clear hbr
    have HFP := Lib.hid hfp; clear hfp
    by_cases hz : 0 < togoV r f (-1) (tt : Int) (last : Int) (d : Int) ((x : Int), (q : Int))
    · have HFW := Lib.hid (HFP.out.look hz)
      clear HFP
      have hmeas : (togoV r f (-1) (tt : Int) (last : Int) (intOf (.int .i64 (d : Int))) (intOf (.int .i64 (x : Int)), intOf (.int .i64 (q : Int)))) = togoV r f (-1) (tt : Int) (last : Int) (d : Int) ((x : Int), (q : Int)) := rfl
      generalize hneed : togoV r f (-1) (tt : Int) (last : Int) (d : Int) ((x : Int), (q : Int)) = need at y2 hr0 re2 hz HFW hmeas
      have HNEED := Lib.hid hneed; clear hneed
      have HMEAS := Lib.hid hmeas; clear hmeas
      go_wp2_with fail
      clear y0 y1 y2
      go_loopw [15, 16, 17, 18, 20, 21] (fun v15 v16 v17 v18 v20 v21 wx => Below W0.heap.size W0 wx ∧ ∃ e : Nat, v21 = .int .i64 (e : Int) ∧ e ≤ last + 1 ∧
        ((v20 = .bool false ∧ OwnStrides wx W0.heap.size v15 PL ∧ v16 = .int .i64 (x : Int) ∧ v17 = .int .i64 (d : Int) ∧ d ≤ e ∧ (∃ q1 : Nat, v18 = .int .i64 (q1 : Int) ∧ (e = d → q1 = q)) ∧ FW r f tt last (day : Int) (fr : Int) S P PL x e (if e = d then q else 0) need) ∨
         (v20 = .bool true ∧ FoundP r f tt last (day : Int) (fr : Int) S P W0.heap.size need wx v15 v16 v17 v18))) (fun _ _ _ _ _ v21 _ => last + 1 - (intOf v21).toNat)
      case atStart => exact ⟨HBR.out, d, rfl, by omega, .inl ⟨rfl, HOWN.out, rfl, rfl, Nat.le_refl _, ⟨q, rfl, fun _ => rfl⟩, by rw [if_pos rfl]; exact HFW.out⟩⟩
      case round =>
        clear HFW HOWN HBR
        obtain ⟨hbr, e, rfl, he, hst⟩ := hrel
        have HBR := Lib.hid hbr; clear hbr
        rcases hst with ⟨rfl, hown, rfl, rfl, hde, ⟨q1', rfl, hq1⟩, hfw⟩ | ⟨rfl, hfo⟩
        · have hel := hfw.le
          have qe : (e : Int) ≤ (last : Int) := by omega
          have HOWN := Lib.hid hown; clear hown
          have HFW := Lib.hid hfw; clear hfw
          go_upto_if 59 with (fail)
          generalize hqq : (if e = d then q else 0) = qq at HFW
          have HQQ := Lib.hid hqq; clear hqq
          go_cut [18] (fun v18 wx => v18 = .int .i64 (qq : Int) ∧ wx = wr)
          case first =>
            by_cases hed : e = d
            · have d1 : ¬ (d : Int) < (e : Int) := by omega
              have HV := Lib.hid (show q1' = qq by rw [← HQQ.out, if_pos hed]; exact hq1 hed)
              clear hed hq1
              go_wp2_with fail
              go_meet
              exact ⟨by rw [HV.out], rfl⟩
            · have d1 : (d : Int) < (e : Int) := by omega
              have HV := Lib.hid (show qq = 0 by rw [← HQQ.out, if_neg hed])
              clear hed hq1
              go_wp2_with fail
              go_meet
              exact ⟨by rw [HV.out]; rfl, rfl⟩
          case rest =>
          obtain ⟨hv18, hw18⟩ := hcut
          subst hw18
          subst hv18
          clear HQQ hq1
          have hqP := HFW.out.q_le
          have hxS := HFW.out.x_lt
          have hnp := HFW.out.pos
          have hPL := HFW.out.len
          go_wp2_with fail
          go_loopw [15, 16, 17, 18, 20, 22] (fun v15 v16 v17 v18 v20 v22 wx => Below W0.heap.size W0 wx ∧ ∃ i : Nat, v22 = .int .i64 (i : Int) ∧ i ≤ N ∧
            ((v20 = .bool false ∧ OwnStrides wx W0.heap.size v15 PL ∧ v16 = .int .i64 (x : Int) ∧ v17 = .int .i64 (d : Int) ∧ v18 = .int .i64 (qq : Int) ∧ pickTo r f (-1) (togoV r f (-1) (tt : Int) (last : Int) (e : Int)) (e : Int) ((x : Int), (qq : Int)) need i = none) ∨
             (v20 = .bool true ∧ FoundP r f tt last (day : Int) (fr : Int) S P W0.heap.size need wx v15 v16 v17 v18))) (fun _ _ _ _ _ v22 _ => N - (intOf v22).toNat)
          case atStart => exact ⟨HBR.out, 0, rfl, Nat.zero_le _, .inl ⟨rfl, HOWN.out, rfl, rfl, rfl, rfl⟩⟩
          case round =>
            clear HOWN HBR
            obtain ⟨hbr, i, rfl, hi, hst⟩ := hrel
            have x2 := ((bcell hbr).1 _ _ (lt_of_cell X2.out)).trans X2.out
            have HBR := Lib.hid hbr; clear hbr
            rcases hst with ⟨rfl, hown, rfl, rfl, rfl, hpk⟩ | ⟨rfl, hfo⟩
            · have HOWN := Lib.hid hown; clear hown
              have HPK := Lib.hid hpk; clear hpk
              by_cases hiN : i < N
              · have hil : i < r.strips.length := by rw [HN.out]; exact hiN
                have hsk : r.strips[i]? = some r.strips[i] := List.getElem?_eq_getElem hil
                obtain ⟨a1, a2, a3, a4, a5, a6, a7, _⟩ := G.out.strip _ (List.mem_of_getElem? hsk)
                rcases (HST.out.below HBR.out) with hst0 | ⟨sb, so, ha, hcs⟩
                · rw [hst0] at hil; simp at hil
                obtain ⟨s0, s1, s2, s3, s4, s5, s6⟩ := hcs i hil
                clear hcs
                generalize r.strips[i] = xs at hsk a1 a2 a3 a4 a5 a6 a7 s0 s1 s2 s3 s4 s5 s6
                obtain ⟨aN, hA⟩ := Int.eq_ofNat_of_zero_le a1
                obtain ⟨bN, hB⟩ := Int.eq_ofNat_of_zero_le a3
                obtain ⟨lN, hL⟩ := Int.eq_ofNat_of_zero_le (a := xs.L) (by omega)
                rw [hA] at s0
                rw [hB] at s1
                rw [hL] at s2
                rw [ha] at x2
                have haS : aN < S := by have := HS.out; omega
                have hbS : bN < S := by have := HS.out; omega
                have hl1 : 1 ≤ lN := by omega
                have hl9 : lN ≤ 9 := by omega
                have HSK := Lib.hid hsk; clear hsk
                have HXA := Lib.hid hA; clear hA
                have HXB := Lib.hid hB; clear hB
                have HXL := Lib.hid hL; clear hL
                clear a1 a2 a3 a4 a5 a6 a7 ha
                go_upto_region 15 with (fail)
                have hba : Below wr.heap.size wr (wr.alloc (.cells #[.int .i64 (aN : Int), .int .i64 (bN : Int), .int .i64 (lN : Int), .int .i64 xs.W, .int .i64 xs.K, .int .i64 xs.X, .int .i64 xs.Y] 57)) := (Below.refl _ _).alloc (Nat.le_refl _) _
                have t0 : (wr.alloc (.cells #[.int .i64 (aN : Int), .int .i64 (bN : Int), .int .i64 (lN : Int), .int .i64 xs.W, .int .i64 xs.K, .int .i64 xs.X, .int .i64 xs.Y] 57)).cell? ⟨wr.heap.size, 0, none⟩ = some (.int .i64 (aN : Int)) := by simp [go_sem]
                have t1 : (wr.alloc (.cells #[.int .i64 (aN : Int), .int .i64 (bN : Int), .int .i64 (lN : Int), .int .i64 xs.W, .int .i64 xs.K, .int .i64 xs.X, .int .i64 xs.Y] 57)).cell? ⟨wr.heap.size, 1, none⟩ = some (.int .i64 (bN : Int)) := by simp [go_sem]
                have t2 : (wr.alloc (.cells #[.int .i64 (aN : Int), .int .i64 (bN : Int), .int .i64 (lN : Int), .int .i64 xs.W, .int .i64 xs.K, .int .i64 xs.X, .int .i64 xs.Y] 57)).cell? ⟨wr.heap.size, 2, none⟩ = some (.int .i64 (lN : Int)) := by simp [go_sem]
                have HNB := Lib.hid (fun k (h : u15.ownBlock = some k) => show k < wr.heap.size from (HOWN.out.block_lt h).1)
                have HBR1 := Lib.hid (HBR.out.trans (hba.mono HBR.out.size)); clear HBR
                have HOWN1 := Lib.hid (HOWN.out.below hba); clear HOWN hba
                generalize (wr.alloc (.cells #[.int .i64 (aN : Int), .int .i64 (bN : Int), .int .i64 (lN : Int), .int .i64 xs.W, .int .i64 xs.K, .int .i64 xs.X, .int .i64 xs.Y] 57)) = W1 at t0 t1 t2 HOWN1 HBR1 ⊢
                generalize wr.heap.size = sp at t0 t1 t2 HNB ⊢
                clear s0 s1 s2 s3 s4 s5 s6 x2
                have heD : e < D := by omega
                have u0 := (HGT.out.below HBR1.out).row (Nat.le_refl _) heD
                have u1 := (HGT.out.below HBR1.out).cell heD hiN
                have x4 := ((bcell HBR1.out).1 _ _ (lt_of_cell X4.out)).trans X4.out
                have c0 := (HC.out.below HBR1.out).row (Nat.zero_le e) (by omega)
                have q6 : (i : Int) < (N : Int) := by omega
                have q7 : (e : Int) < (D : Int) := by omega
                have q5 : (e : Int) < (last : Int) + 1 := by omega
                have e3 : IntKind.i64.wrap ((qq : Int) + (lN : Int)) = (qq : Int) + (lN : Int) := IntWalk.i64_in _ (by omega)
                go_cut [129] (fun v129 wx => v129 = .bool (hitP r f tt last (e : Int) ((x : Int), (qq : Int)) need i) ∧ Below W1.heap.size W1 wx)
                case first =>
                  as_aux_lemma =>
                  have HSO := Lib.hid (show (stepOk r f (-1) (e : Int) ((x : Int), (qq : Int)) i).isSome = (((decide (aN = x) || decide (bN = x)) && decide ((qq : Int) + (lN : Int) ≤ (P : Int))) && openB r f (-1) i (e : Int)) by
                    rw [stepOk_is HSK.out]
                    have h1 : (endOf xs (x : Int)).2 = (decide (aN = x) || decide (bN = x)) := by
                      unfold endOf
                      by_cases c1 : (x : Int) = xs.A
                      · rw [if_pos c1, decide_eq_true (by have := HXA.out; omega)]; rfl
                      · rw [if_neg c1, decide_eq_false (by have := HXA.out; omega)]
                        by_cases c2 : (x : Int) = xs.B
                        · rw [if_pos c2, decide_eq_true (by have := HXB.out; omega)]; rfl
                        · rw [if_neg c2, decide_eq_false (by have := HXB.out; omega)]; rfl
                    show ((endOf xs (x : Int)).2 && decide ((qq : Int) + xs.L ≤ f.pace) && _) = _
                    rw [h1, HXL.out, HPP.out])
                  generalize openB r f (-1) i (e : Int) = ov at u1 HSO
                  cases ov
                  · have HV := Lib.hid (show hitP r f tt last (e : Int) ((x : Int), (qq : Int)) need i = false from hit_none (by rw [HSO.out]; simp))
                    clear HSO
                    go_quiet (fail)
                    go_wp2_with fail
                    go_meet
                    exact ⟨by rw [HV.out], below_drewN (Below.refl _ _) nq⟩
                  · by_cases cA : aN = x
                    · have d1 : ((aN : Int) == (x : Int)) = true := by simp [cA]
                      by_cases cP : (qq : Int) + (lN : Int) ≤ (P : Int)
                      · have d3 : decide ((qq : Int) + (lN : Int) ≤ (P : Int)) = true := decide_eq_true cP
                        have hso : (stepOk r f (-1) (e : Int) ((x : Int), (qq : Int)) i).isSome = true := by rw [HSO.out, decide_eq_true cA, decide_eq_true cP]; rfl
                        obtain ⟨o, ho⟩ := Option.isSome_iff_exists.1 hso
                        obtain ⟨oN, rfl, hoS, hlP, hsum⟩ := step_nat G.out HS.out HPP.out HSK.out HXA.out HXB.out HXL.out haS hbS ho
                        have hhit := hit_some (tt := tt) (last := last) (need := need) ho
                        dsimp only at hhit
                        have hg := (HC.out.below (HBR1.out)).grid e (Nat.zero_le _) (by omega)
                        have y1 := hg.row (Nat.le_refl _) hoS
                        have y2 := hg.cell hoS (show qq + lN < P + 1 by omega)
                        unfold gInt at y2
                        dsimp only at y2
                        obtain ⟨r1, r2⟩ := restR_range G.out (tt := (tt : Int)) (last := (last : Int)) (d := (e : Int)) (p := ((oN : Int), ((qq + lN : Nat) : Int)))
                        have hro : restR r f (tt : Int) (last : Int) (e : Int) ((oN : Int), ((qq + lN : Nat) : Int)) = min (togoV r f (-1) (tt : Int) (last : Int) (e : Int) ((oN : Int), ((qq + lN : Nat) : Int))) 100000 := rfl
                        generalize restR r f (tt : Int) (last : Int) (e : Int) ((oN : Int), ((qq + lN : Nat) : Int)) = ro at y2 r1 r2 hro
                        generalize togoV r f (-1) (tt : Int) (last : Int) (e : Int) ((oN : Int), ((qq + lN : Nat) : Int)) = tg at hro hhit
                        have e1 : IntKind.i64.wrap ((aN : Int) + (bN : Int)) = (aN : Int) + (bN : Int) := IntWalk.i64_in _ (by omega)
                        have e2 : IntKind.i64.wrap ((aN : Int) + (bN : Int) - (x : Int)) = (oN : Int) := by rw [hsum]; exact IntWalk.i64_in _ (by omega)
                        have e4 : IntKind.i64.wrap ((lN : Int) + ro) = (lN : Int) + ro := IntWalk.i64_in _ (by omega)
                        have e5 : IntKind.i64.wrap ((qq : Int) + (lN : Int)) = ((qq + lN : Nat) : Int) := e3
                        have q8 : (oN : Int) < (S : Int) := by omega
                        have q9 : ((qq + lN : Nat) : Int) < (P : Int) + 1 := by omega
                        have cP' : ((qq + lN : Nat) : Int) ≤ (P : Int) := by omega
                        by_cases cE : (lN : Int) + ro = need
                        · have d9 : (((lN : Int) + ro) == need) = true := by simp [cE]
                          have HV := Lib.hid (show hitP r f tt last (e : Int) ((x : Int), (qq : Int)) need i = true by rw [hhit]; exact decide_eq_true (by omega))
                          clear cE hhit hro hso ho hg hsum HSO e3 cA cP
                          go_quiet (fail)
                          go_wp2_with fail
                          go_meet
                          exact ⟨by rw [HV.out], below_drewN (Below.refl _ _) nq⟩
                        · have d9 : (((lN : Int) + ro) == need) = false := by simp [cE]
                          have HV := Lib.hid (show hitP r f tt last (e : Int) ((x : Int), (qq : Int)) need i = false by rw [hhit]; exact decide_eq_false (by omega))
                          clear cE hhit hro hso ho hg hsum HSO e3 cA cP
                          go_quiet (fail)
                          go_wp2_with fail
                          go_meet
                          exact ⟨by rw [HV.out], below_drewN (Below.refl _ _) nq⟩
                      · have d3 : decide ((qq : Int) + (lN : Int) ≤ (P : Int)) = false := decide_eq_false cP
                        have HV := Lib.hid (show hitP r f tt last (e : Int) ((x : Int), (qq : Int)) need i = false from hit_none (by rw [HSO.out, decide_eq_true cA, decide_eq_false cP]; rfl))
                        clear HSO
                        go_quiet (fail)
                        go_wp2_with fail
                        go_meet
                        exact ⟨by rw [HV.out], below_drewN (Below.refl _ _) nq⟩
                    · have d1 : ((aN : Int) == (x : Int)) = false := by simp; omega
                      by_cases cB : bN = x
                      · have d2 : ((bN : Int) == (x : Int)) = true := by simp [cB]
                        by_cases cP : (qq : Int) + (lN : Int) ≤ (P : Int)
                        · have d3 : decide ((qq : Int) + (lN : Int) ≤ (P : Int)) = true := decide_eq_true cP
                          have hso : (stepOk r f (-1) (e : Int) ((x : Int), (qq : Int)) i).isSome = true := by rw [HSO.out, decide_eq_false cA, decide_eq_true cB, decide_eq_true cP]; rfl
                          obtain ⟨o, ho⟩ := Option.isSome_iff_exists.1 hso
                          obtain ⟨oN, rfl, hoS, hlP, hsum⟩ := step_nat G.out HS.out HPP.out HSK.out HXA.out HXB.out HXL.out haS hbS ho
                          have hhit := hit_some (tt := tt) (last := last) (need := need) ho
                          dsimp only at hhit
                          have hg := (HC.out.below (HBR1.out)).grid e (Nat.zero_le _) (by omega)
                          have y1 := hg.row (Nat.le_refl _) hoS
                          have y2 := hg.cell hoS (show qq + lN < P + 1 by omega)
                          unfold gInt at y2
                          dsimp only at y2
                          obtain ⟨r1, r2⟩ := restR_range G.out (tt := (tt : Int)) (last := (last : Int)) (d := (e : Int)) (p := ((oN : Int), ((qq + lN : Nat) : Int)))
                          have hro : restR r f (tt : Int) (last : Int) (e : Int) ((oN : Int), ((qq + lN : Nat) : Int)) = min (togoV r f (-1) (tt : Int) (last : Int) (e : Int) ((oN : Int), ((qq + lN : Nat) : Int))) 100000 := rfl
                          generalize restR r f (tt : Int) (last : Int) (e : Int) ((oN : Int), ((qq + lN : Nat) : Int)) = ro at y2 r1 r2 hro
                          generalize togoV r f (-1) (tt : Int) (last : Int) (e : Int) ((oN : Int), ((qq + lN : Nat) : Int)) = tg at hro hhit
                          have e1 : IntKind.i64.wrap ((aN : Int) + (bN : Int)) = (aN : Int) + (bN : Int) := IntWalk.i64_in _ (by omega)
                          have e2 : IntKind.i64.wrap ((aN : Int) + (bN : Int) - (x : Int)) = (oN : Int) := by rw [hsum]; exact IntWalk.i64_in _ (by omega)
                          have e4 : IntKind.i64.wrap ((lN : Int) + ro) = (lN : Int) + ro := IntWalk.i64_in _ (by omega)
                          have e5 : IntKind.i64.wrap ((qq : Int) + (lN : Int)) = ((qq + lN : Nat) : Int) := e3
                          have q8 : (oN : Int) < (S : Int) := by omega
                          have q9 : ((qq + lN : Nat) : Int) < (P : Int) + 1 := by omega
                          have cP' : ((qq + lN : Nat) : Int) ≤ (P : Int) := by omega
                          by_cases cE : (lN : Int) + ro = need
                          · have d9 : (((lN : Int) + ro) == need) = true := by simp [cE]
                            have HV := Lib.hid (show hitP r f tt last (e : Int) ((x : Int), (qq : Int)) need i = true by rw [hhit]; exact decide_eq_true (by omega))
                            clear cE hhit hro hso ho hg hsum HSO e3 cA cB cP
                            go_quiet (fail)
                            go_wp2_with fail
                            go_meet
                            exact ⟨by rw [HV.out], below_drewN (Below.refl _ _) nq⟩
                          · have d9 : (((lN : Int) + ro) == need) = false := by simp [cE]
                            have HV := Lib.hid (show hitP r f tt last (e : Int) ((x : Int), (qq : Int)) need i = false by rw [hhit]; exact decide_eq_false (by omega))
                            clear cE hhit hro hso ho hg hsum HSO e3 cA cB cP
                            go_quiet (fail)
                            go_wp2_with fail
                            go_meet
                            exact ⟨by rw [HV.out], below_drewN (Below.refl _ _) nq⟩
                        · have d3 : decide ((qq : Int) + (lN : Int) ≤ (P : Int)) = false := decide_eq_false cP
                          have HV := Lib.hid (show hitP r f tt last (e : Int) ((x : Int), (qq : Int)) need i = false from hit_none (by rw [HSO.out, decide_eq_false cA, decide_eq_true cB, decide_eq_false cP]; rfl))
                          clear HSO
                          go_quiet (fail)
                          go_wp2_with fail
                          go_meet
                          exact ⟨by rw [HV.out], below_drewN (Below.refl _ _) nq⟩
                      · have d2 : ((bN : Int) == (x : Int)) = false := by simp; omega
                        have HV := Lib.hid (show hitP r f tt last (e : Int) ((x : Int), (qq : Int)) need i = false from hit_none (by rw [HSO.out, decide_eq_false cA, decide_eq_false cB]; rfl))
                        clear HSO
                        go_quiet (fail)
                        go_wp2_with fail
                        go_meet
                        exact ⟨by rw [HV.out], below_drewN (Below.refl _ _) nq⟩
                case rest =>
                  obtain ⟨rfl, hb2⟩ := hcut
                  have k0 := ((bcell hb2).1 _ _ (lt_of_cell t0)).trans t0
                  have k1 := ((bcell hb2).1 _ _ (lt_of_cell t1)).trans t1
                  have k2 := ((bcell hb2).1 _ _ (lt_of_cell t2)).trans t2
                  have HBR2 := Lib.hid (HBR1.out.trans (hb2.mono HBR1.out.size)); clear HBR1
                  have HOWN2 := Lib.hid (HOWN1.out.below hb2); clear HOWN1
                  clear t0 t1 t2 u0 u1 x4 c0 hb2 q5 q6 q7
                  cases hh : hitP r f tt last (e : Int) ((x : Int), (qq : Int)) need i
                  · have HP := Lib.hid (pick_hit_no HPK.out hh); clear hh
                    clear e3
                    go_wp2_with fail
                    exact ⟨⟨HBR2.out, i + 1, by go_num, by omega, .inl ⟨rfl, HOWN2.out, rfl, rfl, rfl, HP.out⟩⟩, by simp [intOf]; omega⟩
                  · obtain ⟨o, ho, hp⟩ := pick_hit_yes HPK.out hh
                    obtain ⟨oN, rfl, hoS, hlP, hsum⟩ := step_nat G.out HS.out HPP.out HSK.out HXA.out HXB.out HXL.out haS hbS ho
                    obtain ⟨hf1, hf2⟩ := HFW.out.take G.out HS.out HPP.out (pick_mono hp (by rw [HN.out]; omega))
                    have HF1 := Lib.hid hf1; clear hf1
                    have HF2 := Lib.hid hf2; clear hf2
                    have e1 : IntKind.i64.wrap ((aN : Int) + (bN : Int)) = (aN : Int) + (bN : Int) := IntWalk.i64_in _ (by omega)
                    have e2 : IntKind.i64.wrap ((aN : Int) + (bN : Int) - (x : Int)) = (oN : Int) := by rw [hsum]; exact IntWalk.i64_in _ (by omega)
                    have e5 : IntKind.i64.wrap ((qq : Int) + (lN : Int)) = ((qq + lN : Nat) : Int) := e3
                    clear hh ho hp hsum e3
                    have hsz := HBR2.out.size
                    go_wp2_with (at_builtin; refine app_stride1 rfl _ _ rfl W0.heap.size _ _ rfl HOWN2.out (e : Int) (i : Int) rfl (by omega) hsz ?_)
                    intro v' w5 hown5 hb5 hg5 _
                    have hob : u15.ownBlock ≠ some sp := fun h => by have := HNB.out _ h; omega
                    have z0 : w5.cell? ⟨sp, 0, none⟩ = some (.int .i64 (aN : Int)) := (World.cell?_of_block (grown_at hg5 (lt_of_cell k0) hob)).trans k0
                    have z1 : w5.cell? ⟨sp, 1, none⟩ = some (.int .i64 (bN : Int)) := (World.cell?_of_block (grown_at hg5 (lt_of_cell k1) hob)).trans k1
                    have z2 : w5.cell? ⟨sp, 2, none⟩ = some (.int .i64 (lN : Int)) := (World.cell?_of_block (grown_at hg5 (lt_of_cell k2) hob)).trans k2
                    have HOWN5 := Lib.hid hown5; clear hown5
                    have HBR5 := Lib.hid (HBR2.out.trans hb5); clear hb5 hg5 hob k0 k1 k2 HBR2 HOWN2
                    go_upto_region 17 with (fail)
                    go_quiet (fail)
                    go_wp2_with fail
                    have hbq := below_drewN (Below.refl w5.heap.size w5) nq
                    exact ⟨⟨HBR5.out.trans (hbq.mono HBR5.out.size), i + 1, by go_num, by omega, .inr ⟨rfl, PL ++ [((e : Int), (i : Int))], oN, e, qq + lN, HF1.out, HF2.out, HOWN5.out.below hbq, rfl, rfl, rfl⟩⟩, by simp [intOf]; omega⟩
              · obtain rfl : i = N := by omega
                have HNX := Lib.hid (HFW.out.next G.out HPP.out (by omega) (by rw [HN.out]; exact HPK.out))
                go_wp2_with fail
                exact ⟨⟨HBR.out, e + 1, by go_num, by omega, .inl ⟨rfl, HOWN.out, rfl, rfl, by omega, ⟨qq, rfl, fun h => by omega⟩, by rw [if_neg (by omega)]; exact HNX.out⟩⟩, by simp [intOf]; omega⟩
            · have HFO := Lib.hid hfo; clear hfo
              by_cases hiN : i < N
              · have q6 : (i : Int) < (N : Int) := by omega
                go_wp2_with fail
                exact ⟨⟨HBR.out, e + 1, by go_num, by omega, .inr ⟨rfl, HFO.out⟩⟩, by simp [intOf]; omega⟩
              · have q6 : ¬ (i : Int) < (N : Int) := by omega
                go_wp2_with fail
                exact ⟨⟨HBR.out, e + 1, by go_num, by omega, .inr ⟨rfl, HFO.out⟩⟩, by simp [intOf]; omega⟩
        · obtain ⟨PL2, x3, d3, q3', hf3, hlt3, hown3, rfl, rfl, rfl⟩ := hfo
          have HF3 := Lib.hid hf3; clear hf3
          have HOWN3 := Lib.hid hown3; clear hown3
          have hge := (togoV_range G.out (shut := -1) (tt := (tt : Int)) (last := (last : Int)) (d := (d3 : Int)) (p := ((x3 : Int), (q3' : Int)))).1
          have HLT := Lib.hid (show (togoV r f (-1) (tt : Int) (last : Int) (d3 : Int) ((x3 : Int), (q3' : Int))).toNat < (togoV r f (-1) (tt : Int) (last : Int) (d : Int) ((x : Int), (q : Int))).toNat by rw [HNEED.out]; omega); clear hlt3 hge
          by_cases hel : e ≤ last
          · have qe : (e : Int) ≤ (last : Int) := by omega
            go_wp2_with fail
            exact ⟨⟨PL2, x3, d3, q3', HF3.out, HOWN3.out, rfl, rfl, rfl, HBR.out⟩, HLT.out⟩
          · have qe : ¬ (e : Int) ≤ (last : Int) := by omega
            go_wp2_with fail
            exact ⟨⟨PL2, x3, d3, q3', HF3.out, HOWN3.out, rfl, rfl, rfl, HBR.out⟩, HLT.out⟩
    · have HPL := Lib.hid (HFP.out.stop hz)
      go_wp2_with fail
      go_ret
      exact ⟨_, rfl, by rw [← HPL.out]; exact HOWN.out.mono HB0.out.size, HB0.out.trans (HBR.out.mono HB0.out.size)⟩
end Go.Proofs.Ytjgkgnfhglhklaa
