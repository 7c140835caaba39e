/- The contract of mestalaw02.chains. -/
import Derived.Test.YtjgkgnfhglhklaaListsI
import Derived.Test.YtjgkgnfhglhklaaTable
import Derived.Test.YtjgkgnfhglhklaaCutP
import Derived.Test.YtjgkgnfhglhklaaPlayP
import Derived.Deep.CutBlock
import Derived.Deep.RegionHeld3
import Derived.Deep.AppendLies
namespace Go.Proofs.Ytjgkgnfhglhklaa
set_option linter.unusedSimpArgs false
set_option linter.unusedVariables false
open Go.RowKit

/-- The stages met, as a list and as bits. -/
def MetIs (ml : List Int) (met S : Nat) : Prop := ∀ q : Nat, q < S → (met.testBit q = true ↔ (q : Int) ∈ ml)
def LPost (w : World) (B0 : Nat) (L : List (List Int)) (e : Ending) (w' : World) : Prop := ∃ v, e = .returned v ∧ ListsI w' w.heap.size B0 v L ∧ Below w.heap.size w w'
theorem alloc_keepC {w : World} {b o : Nat} {v : Value} {x : Obj} (h : w.cell? ⟨b, o, none⟩ = some v) : (w.alloc x).cell? ⟨b, o, none⟩ = some v := ((bcell ((Below.refl _ _).alloc (Nat.le_refl _) _)).1 _ _ (lt_of_cell h)).trans h
theorem OwnInts.block_lt {w : World} {B : Nat} {v : Value} {l : List Int} (h : OwnInts w B v l) {b : Nat} (hb : v.ownBlock = some b) : b < w.heap.size ∧ B ≤ b := by
  rcases h.2 with ⟨hv, _⟩ | ⟨g, cap, cur, hv, hg, hh, r⟩
  · subst hv; simp [Value.ownBlock] at hb
  · subst hv; simp [Value.ownBlock] at hb; subst hb; exact ⟨(Array.getElem?_eq_some_iff.1 hh).1, hg⟩
theorem OwnInts.hold {w w' : World} {B : Nat} {v : Value} {l : List Int} (h : OwnInts w B v l) (hk : ∀ k, v.ownBlock = some k → w'.heap[k]? = w.heap[k]?) : OwnInts w' B v l := by
  obtain ⟨h1, h2⟩ := h
  refine ⟨h1, ?_⟩
  rcases h2 with h2 | ⟨g, cap, cur, hv, hg, hh, r⟩
  · exact .inl h2
  · exact .inr ⟨g, cap, cur, hv, hg, (hk g (by rw [hv]; simp [Value.ownBlock])).trans hh, r⟩
theorem OwnInts.atI {w : World} {B : Nat} {a : Option Addr} {n c : Nat} {l : List Int} (h : OwnInts w B (.slice a n c) l) : IntsAt w a l := by
  obtain ⟨a', c', e, h1, _⟩ := h.ints
  simp only [Value.slice.injEq] at e
  rw [e.1]; exact h1
theorem OwnInts.base {w : World} {B : Nat} {a : Option Addr} {n c : Nat} {l : List Int} (h : OwnInts w B (.slice a n c) l) : l = [] ∨ ∀ ad, a = some ad → B ≤ ad.block := by
  rcases h.2 with ⟨hv, hn⟩ | ⟨g, cap, cur, hv, hg, hh, r⟩
  · exact .inl (List.length_eq_zero_iff.1 hn)
  · simp only [Value.slice.injEq] at hv
    exact .inr fun ad e => by rw [hv.1] at e; simp at e; subst e; exact hg
theorem step_app_one {ops : Array Oper} {o : Oper} {a : Act} {K : Act → World → Prop} {Q : Exit → Act → World → Prop} {E : Prop} {w : World} (hgd : o.guard = none) (s x : Operand)
    (ho : o.op = .call { callee := .builtin .append, args := #[s, x], argTypes := #[27, 27] })
    (base : Nat) (v : Value) (l : List Int) (hs : a.eval s = v) (hown : OwnInts w base v l) (n : Int) (hx : ∃ g, a.eval x = .slice (some ⟨g, 0, none⟩) 1 1 ∧ w.cell? ⟨g, 0, none⟩ = some (.int .i64 n)) (hlen : l.length ≤ 1000) (hbase : base ≤ w.heap.size)
    (h : ∀ v' w', OwnInts w' base v' (l ++ [n]) → Below base w w' → w.grownBy w' v.ownBlock → K (a.put o.dst v') w') :
    if Region.wanted o (yielded ops a.tmps) = true then Oper.wp Try.prog o a w K Q else E := by
  obtain ⟨g, hx1, hx2⟩ := hx
  exact step_app_ints hgd s x ho base v l hs hown (some ⟨g, 0, none⟩) 1 1 [n] rfl hx1 (.inr ⟨g, 0, rfl, fun i hi => by
    obtain rfl : i = 0 := by simpa using hi
    exact hx2⟩) (by simp; omega) hbase h
theorem step_app_lists {ops : Array Oper} {o : Oper} {a : Act} {K : Act → World → Prop} {Q : Exit → Act → World → Prop} {E : Prop} {w : World} (hgd : o.guard = none) (s x : Operand)
    (ho : o.op = .call { callee := .builtin .append, args := #[s, x], argTypes := #[54, 54] })
    (B B0 : Nat) (v : Value) (L : List (List Int)) (hs : a.eval s = v) (hown : ListsI w B B0 v L) (M : List (List Int)) (hx : ∃ A c B1 B2, a.eval x = .slice A M.length c ∧ ListsI w B1 B2 (.slice A M.length c) M ∧ (∀ b, v.ownBlock = some b → b < B2) ∧ B0 ≤ B2) (hlen : L.length + M.length ≤ 10000000) (hbase : B ≤ w.heap.size)
    (h : ∀ v' w', ListsI w' B B0 v' (L ++ M) → Below B w w' → K (a.put o.dst v') w') :
    if Region.wanted o (yielded ops a.tmps) = true then Oper.wp Try.prog o a w K Q else E := by
  rw [if_pos (by simp [Region.wanted, hgd])]
  obtain ⟨A, c, B1, B2, hx1, hM, hsep, hB0⟩ := hx
  obtain ⟨v', w', hrun, h2, h3, _⟩ := run_app_lists w o.type B B0 v L hown B1 B2 A c M hM hsep hB0 hlen hbase
  unfold Oper.wp execOp
  simp only [ho, resolve, invoke, builtin, Sem.run_bind, Sem.run_pure, Result.andThen_ok, List.map_toArray, List.map_cons, List.map_nil, hs, hx1, hrun]
  exact h v' w' h2 h3

set_option maxRecDepth 100000 in
set_option maxHeartbeats 20000000 in
theorem lchains_step {r : Roads} {f : Flock} (g : Good r f) (S N : Nat) (hS : r.stages = (S : Int)) (hN : r.strips.length = N) (a : Option Addr) (cap : Nat) (ua : Option Addr) (uc : Nat) (use : List Bool) (hul : use.length = N) (tt : Nat) (rec : Int → Nat → List (List Int)) (p met : Nat) (hp : p < S) (hm : met < 64)
    (hrl : ∀ q m, (rec q m).length ≤ 1000000)
    (w : World) (bl ml : List Int) (ba : Option Addr) (bc : Nat) (ma : Option Addr) (mc B0 : Nat)
    (ih : ∀ (q : Nat) (w : World) (bl' ml' : List Int) (ba : Option Addr) (bc : Nat) (ma : Option Addr) (mc B0 : Nat), q < S → met.testBit q = false → StripsAt w a r.strips → BoolsAt w ua use → IntsAt w ba bl' → IntsAt w ma ml' → bl'.length = bl.length + 1 → ml'.length = ml.length + 1 → MetIs ml' (met ||| 1 <<< q) S → (bl' = [] ∨ ∀ ad, ba = some ad → B0 ≤ ad.block) → B0 ≤ w.heap.size →
      Calls Try.prog 51 #[.agg #[.int .i64 r.days, .int .i64 r.stages, .slice a N cap], .slice ua N uc, .int .i64 (q : Int), .int .i64 (tt : Int), .slice ba bl'.length bc, .slice ma ml'.length mc] w (LPost w B0 ((rec (q : Int) (met ||| 1 <<< q)).map (bl' ++ ·))))
    (hs : StripsAt w a r.strips) (hu : BoolsAt w ua use) (hb : IntsAt w ba bl) (hml : IntsAt w ma ml) (hb20 : bl.length ≤ 20) (hm20 : ml.length ≤ 20) (hmet0 : MetIs ml met S) (hbg : bl = [] ∨ ∀ ad, ba = some ad → B0 ≤ ad.block) (hB0 : B0 ≤ w.heap.size) :
    Calls Try.prog 51 #[.agg #[.int .i64 r.days, .int .i64 r.stages, .slice a N cap], .slice ua N uc, .int .i64 (p : Int), .int .i64 (tt : Int), .slice ba bl.length bc, .slice ma ml.length mc] w (LPost w B0 ((if (p : Int) = (tt : Int) then [[]] else chainsTo rec r use met (p : Int) N).map (bl ++ ·))) := by
  have hN8 : N ≤ 8 := by have := g.n8; omega
  have hS6 : S ≤ 6 := by have := g.s2; omega
  by_cases hpt : (p : Int) = (tt : Int)
  · have d1 : ((p : Int) == (tt : Int)) = true := by simpa using hpt
    rw [if_pos hpt]
    have HBI := Lib.hid hb; clear hb
    have HBGG := Lib.hid hbg; clear hbg hpt hS hN hul hm20 hb20
    go_enter Try.func51, Try.ntmps51
    go_wp2_with fail
    go_ret
    have hbel : Below w.heap.size w ((w.alloc (.cells #[.int .i64 r.days, .int .i64 r.stages, .slice a N cap] 24)).alloc (.cells #[.slice ba bl.length bc] 27)) := ((Below.refl _ _).alloc (Nat.le_refl _) _).alloc (by simp) _
    have hrow : (((w.alloc (.cells #[.int .i64 r.days, .int .i64 r.stages, .slice a N cap] 24)).alloc (.cells #[.slice ba bl.length bc] 27))).heap[w.heap.size + 1]? = some (.cells #[.slice ba bl.length bc] 27 (0, 0)) := by
      rw [show w.heap.size + 1 = (w.alloc (.cells #[.int .i64 r.days, .int .i64 r.stages, .slice a N cap] 24)).heap.size by simp]
      exact heap_alloc_new _ _
    refine ⟨_, rfl, ⟨[.slice ba bl.length bc], ⟨rfl, .inr ⟨w.heap.size + 1, 1, _, rfl, Nat.le_succ _, hrow, Nat.le_refl _, by unfold maxLen; omega, rfl, rfl⟩⟩, fun i hi => ?_⟩, hbel⟩
    obtain rfl : i = 0 := by simpa using hi
    refine ⟨_, rfl, ba, bc, by simp, ?_⟩
    rcases HBI.out with hz | ⟨b, o, hba, hbc⟩
    · left; simp [hz]
    · by_cases hz : bl = []
      · left; simp [hz]
      · right
        have hpos := List.length_pos_iff.2 hz
        have hlt := lt_of_cell (hbc 0 hpos)
        refine ⟨b, o, hba, ?_, ?_, fun i hi => ?_⟩
        · rcases HBGG.out with h | h
          · exact absurd h hz
          · exact h _ hba
        · simp [Value.ownBlock]; omega
        · have hi' : i < bl.length := by simpa using hi
          rw [(bcell hbel).1 _ _ (lt_of_cell (hbc i hi')), hbc i hi']
          simp
  · have d1 : ((p : Int) == (tt : Int)) = false := by simpa using hpt
    rw [if_neg hpt]
    have hb0 : Below w.heap.size w (w.alloc (.cells #[.int .i64 r.days, .int .i64 r.stages, .slice a N cap] 24)) := (Below.refl _ _).alloc (Nat.le_refl _) _
    have x0 : (w.alloc (.cells #[.int .i64 r.days, .int .i64 r.stages, .slice a N cap] 24)).cell? ⟨w.heap.size, 0, none⟩ = some (.int .i64 r.days) := by simp [go_sem]
    have x1 : (w.alloc (.cells #[.int .i64 r.days, .int .i64 r.stages, .slice a N cap] 24)).cell? ⟨w.heap.size, 1, none⟩ = some (.int .i64 r.stages) := by simp [go_sem]
    have x2 : (w.alloc (.cells #[.int .i64 r.days, .int .i64 r.stages, .slice a N cap] 24)).cell? ⟨w.heap.size, 2, none⟩ = some (.slice a N cap) := by simp [go_sem]
    have HS0 := Lib.hid (hs.below hb0); clear hs
    have HU0 := Lib.hid (hu.below hb0); clear hu
    have HB_ := Lib.hid (hb.below hb0); clear hb
    have HM_ := Lib.hid (hml.below hb0); clear hml
    have HB0W := Lib.hid (Nat.le_trans hB0 hb0.size); clear hB0
    have HS := Lib.hid hS; clear hS
    have HN := Lib.hid hN; clear hN
    have HUL := Lib.hid hul; clear hul
    have G := Lib.hid g; clear g
    have HMET0 := Lib.hid hmet0; clear hmet0 hbg hpt
    have HRL := Lib.hid hrl; clear hrl
    go_enter Try.func51, Try.ntmps51
    go_upto_region 1 with (fail)
    generalize (w.alloc (.cells #[.int .i64 r.days, .int .i64 r.stages, .slice a N cap] 24)) = W0 at hb0 x0 x1 x2 HS0 HU0 HB_ HM_ HB0W ⊢
    have HB0 := Lib.hid hb0; clear hb0
    have X0 := Lib.hid x0; clear x0
    have X1 := Lib.hid x1; clear x1
    have X2 := Lib.hid x2; clear x2
    go_wp2_with fail
    go_loopw [13, 14] (fun v13 v14 wx => ∃ j : Nat, j ≤ N ∧ v14 = .int .i64 (j : Int) ∧ ListsI wx W0.heap.size B0 v13 ((chainsTo rec r use met (p : Int) j).map (bl ++ ·)) ∧ Below W0.heap.size W0 wx) (fun _ v _ => N - (intOf v).toNat)
    case atStart => exact ⟨0, Nat.zero_le _, rfl, ListsI.nil _ _ _, Below.refl _ _⟩
    case round =>
      obtain ⟨j, hj, rfl, hout, hbr⟩ := hrel
      have x2 := ((bcell hbr).1 _ _ (lt_of_cell X2.out)).trans X2.out
      have HOU := Lib.hid hout; clear hout
      have HBR := Lib.hid hbr; clear hbr
      by_cases hjN : j < N
      · have hjl : j < r.strips.length := by rw [HN.out]; exact hjN
        have hsk : r.strips[j]? = some r.strips[j] := List.getElem?_eq_getElem hjl
        have hmem := List.mem_of_getElem? hsk
        obtain ⟨a1, a2, a3, a4, a5, a6, a7, _⟩ := G.out.strip _ hmem
        rcases (HS0.out.below HBR.out) with hst0 | ⟨sb, so, ha, hcs⟩
        · rw [hst0] at hjl; simp at hjl
        obtain ⟨s0, s1, s2, s3, s4, s5, s6⟩ := hcs j hjl
        rcases (HU0.out.below HBR.out) with hu0 | ⟨ub, uo, hua, hus⟩
        · have := HUL.out; rw [hu0] at this; simp at this; omega
        have hju : j < use.length := by rw [HUL.out]; exact hjN
        have y1 := hus j hju
        have hug : use.getD j false = use[j] := by rw [List.getD_eq_getElem?_getD, List.getElem?_eq_getElem hju]; rfl
        clear hcs hus
        generalize r.strips[j] = xs at hsk hmem a1 a2 a3 a4 a5 a6 a7 s0 s1 s2 s3 s4 s5 s6
        generalize use[j] = ub' at y1 hug
        obtain ⟨aN, hA⟩ := Int.eq_ofNat_of_zero_le a1
        obtain ⟨bN, hB⟩ := Int.eq_ofNat_of_zero_le a3
        rw [hA] at s0
        rw [hB] at s1
        rw [ha] at x2
        have haS : aN < S := by have := HS.out; omega
        have hbS : bN < S := by have := HS.out; omega
        have hab : aN ≠ bN := by intro e; apply a5; omega
        have HSK := Lib.hid hsk; clear hsk
        have HXA := Lib.hid hA; clear hA
        have HXB := Lib.hid hB; clear hB
        have HMEM := Lib.hid hmem; clear hmem
        have HUG := Lib.hid hug; clear hug
        have HHA := Lib.hid ha; clear ha
        clear a1 a2 a3 a4 a5 a6 a7
        go_upto_region 8 with (fail)
        have hba : Below wr.heap.size wr (wr.alloc (.cells #[.int .i64 (aN : Int), .int .i64 (bN : Int), .int .i64 xs.L, .int .i64 xs.W, .int .i64 xs.K, .int .i64 xs.X, .int .i64 xs.Y] 57)) := (Below.refl _ _).alloc (Nat.le_refl _) _
        have t0 : (wr.alloc (.cells #[.int .i64 (aN : Int), .int .i64 (bN : Int), .int .i64 xs.L, .int .i64 xs.W, .int .i64 xs.K, .int .i64 xs.X, .int .i64 xs.Y] 57)).cell? ⟨wr.heap.size, 0, none⟩ = some (.int .i64 (aN : Int)) := by simp [go_sem]
        have t1 : (wr.alloc (.cells #[.int .i64 (aN : Int), .int .i64 (bN : Int), .int .i64 xs.L, .int .i64 xs.W, .int .i64 xs.K, .int .i64 xs.X, .int .i64 xs.Y] 57)).cell? ⟨wr.heap.size, 1, none⟩ = some (.int .i64 (bN : Int)) := by simp [go_sem]
        replace y1 := ((bcell hba).1 _ _ (lt_of_cell y1)).trans y1
        have HBR1 := Lib.hid (HBR.out.trans (hba.mono HBR.out.size)); clear HBR
        have HOU1 := Lib.hid (HOU.out.below hba); clear HOU hba
        generalize (wr.alloc (.cells #[.int .i64 (aN : Int), .int .i64 (bN : Int), .int .i64 xs.L, .int .i64 xs.W, .int .i64 xs.K, .int .i64 xs.X, .int .i64 xs.Y] 57)) = W1 at t0 t1 y1 HBR1 HOU1 ⊢
        generalize wr.heap.size = sp at t0 t1 ⊢
        clear s0 s1 s2 s3 s4 s5 s6 x2
        have HMW := Lib.hid (HM_.out.below HBR1.out)
        cases hua
        have q2 : (j : Int) < (N : Int) := by omega
        go_cut [62] (fun v62 wx => v62 = .bool (chainOf r use met (p : Int) j).isNone ∧ wx = W1)
        case first =>
          cases ub'
          · have HCH := Lib.hid (show (chainOf r use met (p : Int) j).isNone = true by unfold chainOf; rw [HSK.out]; dsimp only; rw [HUG.out]; simp)
            go_wp2_with fail
            go_meet
            exact ⟨by rw [HCH.out], rfl⟩
          · by_cases cA : aN = p
            · have d2 : ((aN : Int) != (p : Int)) = false := by simp [cA]
              have e1 : IntKind.i64.wrap ((aN : Int) + (bN : Int)) = (aN : Int) + (bN : Int) := IntWalk.i64_in _ (by omega)
              have e2 : IntKind.i64.wrap ((aN : Int) + (bN : Int) - (p : Int)) = (bN : Int) := by rw [show (aN : Int) + (bN : Int) - (p : Int) = (bN : Int) by omega]; exact IntWalk.i64_in _ (by omega)
              have HCH := Lib.hid (show (chainOf r use met (p : Int) j).isNone = met.testBit bN by
                unfold chainOf
                rw [HSK.out]
                dsimp only
                have hE : endOf xs (p : Int) = ((bN : Int), true) := by unfold endOf; rw [if_pos (by have := HXA.out; omega), HXB.out]
                rw [hE, HUG.out]
                dsimp only
                rw [Int.toNat_natCast]
                cases met.testBit bN <;> rfl)
              clear cA hab
              go_wp2_with fail
              refine (Place_any W1 ma mc ml HMW.out (by unfold maxLen; omega) (bN : Int)).mono ?_
              rintro e w5 ⟨v, rfl, hpl, rfl⟩
              have hng := hpl.neg
              have HMQ := Lib.hid (HMET0.out bN (by omega))
              by_cases hv : v < 0
              · have hv2 : ¬ 0 ≤ v := by omega
                have HF := Lib.hid (show met.testBit bN = false by
                  cases hq : met.testBit bN
                  · rfl
                  · exact absurd (HMQ.out.1 hq) (hng.1 hv))
                clear hng hpl
                go_wp2_with fail
                go_meet
                exact ⟨by (rw [HCH.out, HF.out] <;> (simp <;> omega)), rfl⟩
              · have hv2 : 0 ≤ v := by omega
                have HF := Lib.hid (show met.testBit bN = true by
                  refine HMQ.out.2 ?_
                  by_cases hq : (bN : Int) ∈ ml
                  · exact hq
                  · exact absurd (hng.2 hq) hv)
                clear hng hpl
                go_wp2_with fail
                go_meet
                exact ⟨by (rw [HCH.out, HF.out] <;> (simp <;> omega)), rfl⟩
            · have d2 : ((aN : Int) != (p : Int)) = true := by simp; omega
              by_cases cB : bN = p
              · have d3 : ((bN : Int) != (p : Int)) = false := by simp [cB]
                have e1 : IntKind.i64.wrap ((aN : Int) + (bN : Int)) = (aN : Int) + (bN : Int) := IntWalk.i64_in _ (by omega)
                have e2 : IntKind.i64.wrap ((aN : Int) + (bN : Int) - (p : Int)) = (aN : Int) := by rw [show (aN : Int) + (bN : Int) - (p : Int) = (aN : Int) by omega]; exact IntWalk.i64_in _ (by omega)
                have HCH := Lib.hid (show (chainOf r use met (p : Int) j).isNone = met.testBit aN by
                  unfold chainOf
                  rw [HSK.out]
                  dsimp only
                  have hE : endOf xs (p : Int) = ((aN : Int), true) := by unfold endOf; rw [if_neg (by have := HXA.out; omega), if_pos (by have := HXB.out; omega), HXA.out]
                  rw [hE, HUG.out]
                  dsimp only
                  rw [Int.toNat_natCast]
                  cases met.testBit aN <;> rfl)
                clear cA cB hab
                go_wp2_with fail
                refine (Place_any W1 ma mc ml HMW.out (by unfold maxLen; omega) (aN : Int)).mono ?_
                rintro e w5 ⟨v, rfl, hpl, rfl⟩
                have hng := hpl.neg
                have HMQ := Lib.hid (HMET0.out aN (by omega))
                by_cases hv : v < 0
                · have hv2 : ¬ 0 ≤ v := by omega
                  have HF := Lib.hid (show met.testBit aN = false by
                    cases hq : met.testBit aN
                    · rfl
                    · exact absurd (HMQ.out.1 hq) (hng.1 hv))
                  clear hng hpl
                  go_wp2_with fail
                  go_meet
                  exact ⟨by (rw [HCH.out, HF.out] <;> (simp <;> omega)), rfl⟩
                · have hv2 : 0 ≤ v := by omega
                  have HF := Lib.hid (show met.testBit aN = true by
                    refine HMQ.out.2 ?_
                    by_cases hq : (aN : Int) ∈ ml
                    · exact hq
                    · exact absurd (hng.2 hq) hv)
                  clear hng hpl
                  go_wp2_with fail
                  go_meet
                  exact ⟨by (rw [HCH.out, HF.out] <;> (simp <;> omega)), rfl⟩
              · have d3 : ((bN : Int) != (p : Int)) = true := by simp; omega
                have HCH := Lib.hid (show (chainOf r use met (p : Int) j).isNone = true by
                  unfold chainOf
                  rw [HSK.out]
                  dsimp only
                  have hE : endOf xs (p : Int) = (0, false) := by unfold endOf; rw [if_neg (by have := HXA.out; omega), if_neg (by have := HXB.out; omega)]
                  rw [hE]; rfl)
                clear cA cB hab
                go_wp2_with fail
                go_meet
                exact ⟨by rw [HCH.out], rfl⟩
        case rest =>
          obtain ⟨hv62, hw62⟩ := hcut
          subst hw62
          subst hv62
          clear y1
          cases hc : chainOf r use met (p : Int) j with
          | none =>
            have HNX := Lib.hid (show (chainsTo rec r use met (p : Int) (j + 1)) = chainsTo rec r use met (p : Int) j by rw [chainsTo, hc, List.append_nil]); clear hc
            dsimp only [Option.isNone]
            go_wp2_with fail
            exact ⟨⟨j + 1, by omega, by go_num, by rw [HNX.out]; exact HOU1.out, HBR1.out⟩, by simp [intOf]; omega⟩
          | some o =>
            obtain ⟨xs', hx', h1, h2, h3, h4⟩ := chainOf_some.1 hc
            rw [HSK.out] at hx'
            obtain rfl : xs = xs' := by simpa using hx'
            obtain ⟨o1, o2⟩ := endOf_range G.out HMEM.out h1
            obtain ⟨oN, hoN⟩ := Int.eq_ofNat_of_zero_le o1
            have hoS : oN < S := by have := HS.out; omega
            have hsum := (playEnd (S := r.stages) ⟨by rw [HXA.out]; omega, by rw [HXA.out, HS.out]; omega⟩ ⟨by rw [HXB.out]; omega, by rw [HXB.out, HS.out]; omega⟩ h1).2.2
            rw [hoN, HXA.out, HXB.out] at hsum
            rw [hoN, Int.toNat_natCast] at h3
            have hoo : o = (oN : Int) := by rw [h4, hoN]
            subst hoo
            have HMB := Lib.hid h3
            have HNX := Lib.hid (show (chainsTo rec r use met (p : Int) (j + 1)).map (bl ++ ·) = (chainsTo rec r use met (p : Int) j).map (bl ++ ·) ++ (rec (oN : Int) (met ||| 1 <<< oN)).map ((bl ++ [(j : Int)]) ++ ·) by
              rw [chainsTo, hc]
              dsimp only
              rw [List.map_append, List.map_map, Int.toNat_natCast]
              congr 1
              refine List.map_congr_left fun z _ => ?_
              simp); clear hc hx' h1 h2 h3 h4 o1 o2 hoN
            have e1 : IntKind.i64.wrap ((aN : Int) + (bN : Int)) = (aN : Int) + (bN : Int) := IntWalk.i64_in _ (by omega)
            have e2 : IntKind.i64.wrap ((aN : Int) + (bN : Int) - (p : Int)) = (oN : Int) := by rw [show (aN : Int) + (bN : Int) - (p : Int) = (oN : Int) by omega]; exact IntWalk.i64_in _ (by omega)
            clear hsum
            dsimp only [Option.isNone]
            go_upto_region 10 with (fail)
            clear e1 e2 t0 t1
            have hlL : ((chainsTo rec r use met (p : Int) j).map (bl ++ ·)).length ≤ 8000000 := by
              rw [List.length_map]
              have h1 := chainsTo_len (r := r) (use := use) (met := met) (p := (p : Int)) HRL.out j
              omega
            have hlM : ((rec (oN : Int) (met ||| 1 <<< oN)).map ((bl ++ [(j : Int)]) ++ ·)).length ≤ 1000000 := by rw [List.length_map]; exact HRL.out _ _
            have HBX := Lib.hid (Below.refl wc.heap.size wc)
            have HBL := Lib.hid (show ∀ W, Below wc.heap.size wc W → IntsAt W ba bl from fun W h => (HB_.out.below HBR1.out).below h)
            have HML := Lib.hid (show ∀ W, Below wc.heap.size wc W → IntsAt W ma ml from fun W h => HMW.out.below h)
            have HST := Lib.hid (show ∀ W, Below wc.heap.size wc W → StripsAt W a r.strips from fun W h => (HS0.out.below HBR1.out).below h)
            have HUS := Lib.hid (show ∀ W, Below wc.heap.size wc W → BoolsAt W (some ⟨ub, uo, none⟩) use from fun W h => (HU0.out.below HBR1.out).below h)
            have HXC := Lib.hid (show ∀ W, Below wc.heap.size wc W → W.cell? ⟨w.heap.size, 0, none⟩ = some (.int .i64 r.days) ∧ W.cell? ⟨w.heap.size, 1, none⟩ = some (.int .i64 r.stages) ∧ W.cell? ⟨w.heap.size, 2, none⟩ = some (.slice a N cap) from fun W h => by
              have hh := HBR1.out.trans (h.mono HBR1.out.size)
              exact ⟨((bcell hh).1 _ _ (lt_of_cell X0.out)).trans X0.out, ((bcell hh).1 _ _ (lt_of_cell X1.out)).trans X1.out, ((bcell hh).1 _ _ (lt_of_cell X2.out)).trans X2.out⟩)
            have HSEP := Lib.hid (show ∀ b, u13.ownBlock = some b → b < wc.heap.size from fun b h => (HOU1.out.block_lt h).1)
            have HW0C := Lib.hid HBR1.out.size
            have HB0C := Lib.hid (Nat.le_trans HB0W.out HBR1.out.size)
            generalize (chainsTo rec r use met (p : Int) j).map (bl ++ ·) = Lout at HOU1 HNX hlL
            have HOUT := Lib.hid (show ∀ W, Below wc.heap.size wc W → ListsI W W0.heap.size B0 u13 Lout from fun W h => HOU1.out.below h)
            obtain ⟨BL, hBL⟩ : ∃ BL, bl ++ [(j : Int)] = BL := ⟨_, rfl⟩
            obtain ⟨ML, hML⟩ : ∃ ML, ml ++ [(oN : Int)] = ML := ⟨_, rfl⟩
            have hBLl : BL.length = bl.length + 1 := by rw [← hBL]; simp
            have hMLl : ML.length = ml.length + 1 := by rw [← hML]; simp
            have HMET := Lib.hid (show MetIs ML (met ||| 1 <<< oN) S from fun q hq => by
              rw [testBit_or_one, ← hML, List.mem_append, Bool.or_eq_true, HMET0.out q hq]
              simp only [decide_eq_true_eq, List.mem_singleton]
              constructor
              · rintro (h | h)
                · exact .inl h
                · exact .inr (by omega)
              · rintro (h | h)
                · exact .inl h
                · exact .inr (by omega))
            rw [hBL] at HNX hlM
            have HIH := Lib.hid (fun W b2 c2 a4 c4 hS1 hU1 h2 h4 hb hz => ih oN W BL ML b2 c2 a4 c4 wc.heap.size hoS HMB.out hS1 hU1 h2 h4 hBLl hMLl HMET.out hb hz)
            generalize (rec (oN : Int) (met ||| 1 <<< oN)).map (BL ++ ·) = MM at HNX hlM HIH
            have hlMM : Lout.length + MM.length ≤ 10000000 := by omega
            have HBLQ := Lib.hid hBL; clear hBL
            have HMLQ := Lib.hid hML; clear hML
            have HBLl := Lib.hid hBLl; clear hBLl
            have HMLl := Lib.hid hMLl; clear hMLl
            have hb1000 : bl.length ≤ 1000 := by omega
            have hm1000 : ml.length ≤ 1000 := by omega
            have hb500 : bl.length ≤ 500 := by omega
            have hm500 : ml.length ≤ 500 := by omega
            clear hlL hlM
            go_region_held3 (fun w' => w'.cell? ⟨w.heap.size, 0, none⟩ = some (.int .i64 r.days) ∧ w'.cell? ⟨w.heap.size, 1, none⟩ = some (.int .i64 r.stages) ∧ w'.cell? ⟨w.heap.size, 2, none⟩ = some (.slice a N cap)) (first | exact HX10.out | exact HXC.out _ (by first | exact HBX.out | exact HBX.out.drew | exact HBX.out.alloc HBX.out.size _ | exact (HBX.out.alloc HBX.out.size _).drew | exact (HBX.out.alloc HBX.out.size _).alloc (by have := HBX.out.size; simp <;> omega) _ | exact ((HBX.out.alloc HBX.out.size _).alloc (by have := HBX.out.size; simp <;> omega) _).drew)) (first
                | (go_at_call 97; (with_reducible refine (CopyInts_any _ bl ba bc (HBL.out _ (by first | exact HBX.out | exact HBX.out.drew | exact HBX.out.alloc HBX.out.size _ | exact (HBX.out.alloc HBX.out.size _).drew | exact (HBX.out.alloc HBX.out.size _).alloc (by have := HBX.out.size; simp <;> omega) _ | exact ((HBX.out.alloc HBX.out.size _).alloc (by have := HBX.out.size; simp <;> omega) _).drew)) hb500).mono ?_); rintro e w5 ⟨v1, rfl, hv1, hb5⟩; have HN1 := Lib.hid (fun k (h : v1.ownBlock = some k) => hv1.block_lt h); have KEEP5 := Lib.hid (fun b o v h => ((bcell hb5).1 b o (lt_of_cell (v := v) h)).trans h); have hx := fun (h : Below wc.heap.size wc _) => And.intro (hv1.mono h.size) (h.trans (hb5.mono h.size)); have HX := Lib.hid (hx (by first | exact HBX.out | exact HBX.out.drew | exact HBX.out.alloc HBX.out.size _ | exact (HBX.out.alloc HBX.out.size _).drew | exact (HBX.out.alloc HBX.out.size _).alloc (by have := HBX.out.size; simp <;> omega) _ | exact ((HBX.out.alloc HBX.out.size _).alloc (by have := HBX.out.size; simp <;> omega) _).drew)); have HV1 := Lib.hid HX.out.1; have HBX := Lib.hid HX.out.2; clear HX hx hv1 hb5)
                | ((refine step_app_one ?_ (.tmp 76) (.tmp 78) ?_ wc.heap.size v1 bl ?_ ?_ (j : Int) ?_ ?_ ?_ ?_); (iterate 7 (first | rfl | exact HV1.out | exact HV1.out.alloc _ | exact (HV1.out.alloc _).alloc _ | exact ⟨_, rfl, (by simp [go_sem])⟩ | exact ⟨_, rfl, KEEP5.out _ _ _ (by simp [go_sem])⟩ | exact ⟨_, rfl, alloc_keepC (KEEP5.out _ _ _ (by simp [go_sem]))⟩ | exact hb1000 | exact (by have := HBX.out.size; first | omega | (simp; omega)))); intro v2 w6 hv2 hb6 hg6; rw [HBLQ.out] at hv2; obtain ⟨a2, c2, ev2, h2i, _⟩ := hv2.ints; subst ev2; have HN2 := Lib.hid (fun k (h : (Value.slice a2 BL.length c2).ownBlock = some k) => hv2.block_lt h); have HV2 := Lib.hid hv2; have KEEP6 := Lib.hid (fun b o v (hne : v1.ownBlock ≠ some b) h => (hg6.cell_far ⟨b, o, none⟩ (lt_of_cell (v := v) h) (fun e => hne e.symm)).trans h); have hx := fun (h : Below wc.heap.size wc _) => h.trans hb6; have HBX := Lib.hid (hx (by first | exact HBX.out | exact HBX.out.drew | exact HBX.out.alloc HBX.out.size _ | exact (HBX.out.alloc HBX.out.size _).drew | exact (HBX.out.alloc HBX.out.size _).alloc (by have := HBX.out.size; simp <;> omega) _ | exact ((HBX.out.alloc HBX.out.size _).alloc (by have := HBX.out.size; simp <;> omega) _).drew)); have HZ6 := Lib.hid (show wc.heap.size ≤ w6.heap.size from HBX.out.size); clear hx hv2 hb6 hg6 h2i)
                | (go_at_call 97; (with_reducible refine (CopyInts_any _ ml ma mc (HML.out _ (by first | exact HBX.out | exact HBX.out.drew | exact HBX.out.alloc HBX.out.size _ | exact (HBX.out.alloc HBX.out.size _).drew | exact (HBX.out.alloc HBX.out.size _).alloc (by have := HBX.out.size; simp <;> omega) _ | exact ((HBX.out.alloc HBX.out.size _).alloc (by have := HBX.out.size; simp <;> omega) _).drew)) hm500).mono ?_); rintro e w7 ⟨v3, rfl, hv3, hb7⟩; have KEEP7 := Lib.hid (fun b o v h => ((bcell hb7).1 b o (lt_of_cell (v := v) h)).trans h); have HV2 := Lib.hid (OwnInts.below (by first | exact HV2.out | exact HV2.out.alloc _) hb7); have hx := fun (h : Below wc.heap.size wc _) => h.trans (hb7.mono h.size); have HBY := Lib.hid (hx (by first | exact HBX.out | exact HBX.out.drew | exact HBX.out.alloc HBX.out.size _ | exact (HBX.out.alloc HBX.out.size _).drew | exact (HBX.out.alloc HBX.out.size _).alloc (by have := HBX.out.size; simp <;> omega) _ | exact ((HBX.out.alloc HBX.out.size _).alloc (by have := HBX.out.size; simp <;> omega) _).drew)); have HV3 := Lib.hid (show OwnInts w7 w6.heap.size v3 ml from hv3.mono (by first | exact Nat.le_refl _ | simp)); have HS7 := Lib.hid (show w6.heap.size ≤ w7.heap.size from Nat.le_trans (by first | exact Nat.le_refl _ | simp) hb7.size); have HBX := Lib.hid HBY.out; clear HBY hx hv3 hb7)
                | ((refine step_app_one ?_ (.tmp 81) (.tmp 83) ?_ w6.heap.size v3 ml ?_ ?_ (oN : Int) ?_ ?_ ?_ ?_); (iterate 7 (first | rfl | exact HV3.out | exact HV3.out.alloc _ | exact ⟨_, rfl, (by simp [go_sem])⟩ | exact ⟨_, rfl, KEEP7.out _ _ _ (by simp [go_sem])⟩ | exact ⟨_, rfl, KEEP7.out _ _ _ (KEEP6.out _ _ _ (fun e => by have := HN1.out _ e; first | omega | (simp at this; omega)) (by simp [go_sem]))⟩ | exact ⟨_, rfl, KEEP7.out _ _ _ (KEEP6.out _ _ _ (fun e => by have := HN1.out _ e; first | omega | (simp at this; omega)) (KEEP5.out _ _ _ (by simp [go_sem])))⟩ | exact ⟨_, rfl, KEEP7.out _ _ _ (KEEP6.out _ _ _ (fun e => by have := HN1.out _ e; first | omega | (simp at this; omega)) (alloc_keepC (KEEP5.out _ _ _ (by simp [go_sem]))))⟩ | exact hm1000 | exact (by have := HS7.out; first | omega | (simp; omega)))); intro v4 w8 hv4 hb8 _; rw [HMLQ.out] at hv4; obtain ⟨a4, c4, ev4, h4i, _⟩ := hv4.ints; subst ev4; have HI4 := Lib.hid h4i; have HV2 := Lib.hid (OwnInts.hold (by first | exact HV2.out | exact HV2.out.alloc _) fun k hk => hb8.block k (HN2.out k hk).1); have hx := fun (h : Below wc.heap.size wc _) => h.trans (hb8.mono (HZ6.out)); have HBX := Lib.hid (hx (by first | exact HBX.out | exact HBX.out.drew | exact HBX.out.alloc HBX.out.size _ | exact (HBX.out.alloc HBX.out.size _).drew | exact (HBX.out.alloc HBX.out.size _).alloc (by have := HBX.out.size; simp <;> omega) _ | exact ((HBX.out.alloc HBX.out.size _).alloc (by have := HBX.out.size; simp <;> omega) _).drew)); clear hx hv4 hb8 h4i)
                | (go_at_call 51; (with_reducible refine (HIH.out _ a2 c2 a4 c4 (HST.out _ (by first | exact HBX.out | exact HBX.out.drew | exact HBX.out.alloc HBX.out.size _ | exact (HBX.out.alloc HBX.out.size _).drew | exact (HBX.out.alloc HBX.out.size _).alloc (by have := HBX.out.size; simp <;> omega) _ | exact ((HBX.out.alloc HBX.out.size _).alloc (by have := HBX.out.size; simp <;> omega) _).drew)) (HUS.out _ (by first | exact HBX.out | exact HBX.out.drew | exact HBX.out.alloc HBX.out.size _ | exact (HBX.out.alloc HBX.out.size _).drew | exact (HBX.out.alloc HBX.out.size _).alloc (by have := HBX.out.size; simp <;> omega) _ | exact ((HBX.out.alloc HBX.out.size _).alloc (by have := HBX.out.size; simp <;> omega) _).drew)) (OwnInts.atI HV2.out) HI4.out (OwnInts.base HV2.out) HBX.out.size).mono ?_); rintro e w9 ⟨vr, rfl, hls, hb9⟩; obtain ⟨ar, cr, evr, _⟩ := hls.form; subst evr; have HLS := Lib.hid hls; have hx := fun (h : Below wc.heap.size wc _) => h.trans (hb9.mono h.size); have HBX := Lib.hid (hx (by first | exact HBX.out | exact HBX.out.drew | exact HBX.out.alloc HBX.out.size _ | exact (HBX.out.alloc HBX.out.size _).drew | exact (HBX.out.alloc HBX.out.size _).alloc (by have := HBX.out.size; simp <;> omega) _ | exact ((HBX.out.alloc HBX.out.size _).alloc (by have := HBX.out.size; simp <;> omega) _).drew)); clear hx hls hb9)
                | ((refine step_app_lists ?_ (.tmp 70) (.tmp 85) ?_ W0.heap.size B0 u13 Lout ?_ ?_ MM ?_ ?_ ?_ ?_); (iterate 7 (first | rfl | exact HOUT.out _ HBX.out | exact ⟨_, _, _, _, rfl, HLS.out, HSEP.out, HB0C.out⟩ | exact hlMM | exact (Nat.le_trans HW0C.out HBX.out.size))); intro v5 w10 hv5 hb10; have HX9 := HXC.out _ HBX.out; have HX10 := Lib.hid (And.intro ((hb10.cell (p := ⟨w.heap.size, 0, none⟩) (lt_of_cell X0.out)).trans HX9.1) (And.intro ((hb10.cell (p := ⟨w.heap.size, 1, none⟩) (lt_of_cell X0.out)).trans HX9.2.1) ((hb10.cell (p := ⟨w.heap.size, 2, none⟩) (lt_of_cell X0.out)).trans HX9.2.2))); clear HX9; have HV5 := Lib.hid hv5; have HB10 := Lib.hid (HBR1.out.trans ((HBX.out.mono HW0C.out).trans hb10)); clear hv5 hb10))
            all_goals
              go_wp2_with fail
              exact ⟨⟨j + 1, by omega, by go_num, by rw [HNX.out]; exact HV5.out, HB10.out⟩, by simp [intOf]; omega⟩
      · obtain rfl : j = N := by omega
        go_wp2_with fail
        go_ret
        exact ⟨_, rfl, HOU.out.mono HB0.out.size (Nat.le_refl _), HB0.out.trans (HBR.out.mono HB0.out.size)⟩

theorem lchains_any {r : Roads} {f : Flock} (g : Good r f) (S N : Nat) (hS : r.stages = (S : Int)) (hN : r.strips.length = N) (a : Option Addr) (cap : Nat) (ua : Option Addr) (uc : Nat) (use : List Bool) (hul : use.length = N) (tt : Nat) (htt : tt < S) : ∀ (k : Nat) (p : Nat) (met : Nat) (w : World) (bl ml : List Int) (ba : Option Addr) (bc : Nat) (ma : Option Addr) (mc B0 : Nat),
    met < 64 → p < S → freeN met ≤ k → k ≤ 5 → StripsAt w a r.strips → BoolsAt w ua use → IntsAt w ba bl → IntsAt w ma ml → bl.length + k ≤ 20 → ml.length + k ≤ 20 → MetIs ml met S → (bl = [] ∨ ∀ ad, ba = some ad → B0 ≤ ad.block) → B0 ≤ w.heap.size →
    Calls Try.prog 51 #[.agg #[.int .i64 r.days, .int .i64 r.stages, .slice a N cap], .slice ua N uc, .int .i64 (p : Int), .int .i64 (tt : Int), .slice ba bl.length bc, .slice ma ml.length mc] w (LPost w B0 ((chainsF r use (tt : Int) k (p : Int) met).map (bl ++ ·)))
  | 0, p, met, w, bl, ml, ba, bc, ma, mc, B0, hm, hp, hfr, _, hs, hu, hb, hml, hbk, hmk, hmet, hbg, hB0 => by
    rw [chainsF_eq, hN]
    refine lchains_step g S N hS hN a cap ua uc use hul tt _ p met hp hm (by simp [prevF]) w bl ml ba bc ma mc B0 (fun q w bl' ml' ba bc ma mc B0 hq hmq _ _ _ _ _ _ _ _ _ => ?_) hs hu hb hml (by omega) (by omega) hmet hbg hB0
    have := (freeN_lt met hm q (by have := g.s2; omega) hmq).1
    omega
  | k + 1, p, met, w, bl, ml, ba, bc, ma, mc, B0, hm, hp, hfr, hk, hs, hu, hb, hml, hbk, hmk, hmet, hbg, hB0 => by
    rw [chainsF_eq, hN]
    refine lchains_step g S N hS hN a cap ua uc use hul tt _ p met hp hm (fun q m => ?_) w bl ml ba bc ma mc B0 (fun q w bl' ml' ba bc ma mc B0 hq hmq hs hu hb hml hl1 hl2 hmet hbg hB0 => ?_) hs hu hb hml (by omega) (by omega) hmet hbg hB0
    · refine Nat.le_trans (chains_len g.n8 k q m) (Nat.le_trans (Nat.pow_le_pow_right (n := 8) (by omega) (show k + 1 ≤ 6 by omega)) (by decide))
    · obtain ⟨h1, h2⟩ := freeN_lt met hm q (by have := g.s2; omega) hmq
      exact lchains_any g S N hS hN a cap ua uc use hul tt htt k q _ w bl' ml' ba bc ma mc B0 h2 hq (by omega) (by omega) hs hu hb hml (by omega) (by omega) hmet hbg hB0
end Go.Proofs.Ytjgkgnfhglhklaa
