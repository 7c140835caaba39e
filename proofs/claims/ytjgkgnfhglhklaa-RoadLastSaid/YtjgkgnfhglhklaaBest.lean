/- The contract of best at chains. -/
import Derived.Test.YtjgkgnfhglhklaaChainsW
namespace Go.Proofs.Ytjgkgnfhglhklaa
set_option linter.unusedSimpArgs false
set_option linter.unusedVariables false
open Go.RowKit

def betterOf (r : Roads) (o y : List Int) : List Int := if shorterB r y o then y else o
def bestL (r : Roads) : List (List Int) → List Int
  | [] => []
  | x :: l => l.foldl (betterOf r) x

def BestPost (w : World) (x : List Int) (e : Ending) (w' : World) : Prop := w = w' ∧ ∃ a c, e = .returned (.slice a x.length c) ∧ IntsAt w a x

set_option maxRecDepth 100000 in
set_option maxHeartbeats 4000000 in
theorem best_any (w : World) (b : Nat) (r : Roads) (f : Flock) (shut : Int) (a : Option Addr) (cap : Nat) (hW : WorkAt w b r f shut a cap) (g : Good r f) (ra : Option Addr) (rc : Nat) (L : List (List Int)) (hL : L ≠ []) (hl : L.length ≤ rc) (hl2 : L.length ≤ 10000000)
    (hc : ∀ (i : Nat) (h : i < L.length), ∃ gR x la lc, ra = some ⟨gR, 0, none⟩ ∧ w.cell? ⟨gR, i, none⟩ = some x ∧ x = .slice la L[i].length lc ∧ IntsAt w la L[i])
    (hin : ∀ l ∈ L, l.length ≤ 100 ∧ ∀ x ∈ l, 0 ≤ x ∧ x < r.strips.length) :
    Calls Try.prog 94 #[.slice ra L.length rc, .func (.func 95) #[.pointer (some ⟨b, 0, none⟩)] #[]] w (BestPost w (bestL r L)) := by
  have h0 : 0 < L.length := List.length_pos_iff.2 hL
  obtain ⟨gR, x0, la0, lc0, hra, hc0, hx0, hi0⟩ := hc 0 h0
  subst hra hx0
  have hbest : bestL r L = (L.tail.drop 0).foldl (betterOf r) L[0] := by
    cases L with
    | nil => exact absurd rfl hL
    | cons x l => rfl
  have hmem0 : L[0] ∈ L := List.getElem_mem h0
  have HC := Lib.hid hc; clear hc
  have HIN := Lib.hid hin; clear hin
  have HW := Lib.hid hW; clear hW
  have G := Lib.hid g; clear g
  have HBest := Lib.hid hbest; clear hbest
  generalize hL0 : L[0] = o0 at hc0 hi0 hmem0 HBest
  clear hL0 hL
  have HI0 := Lib.hid hi0; clear hi0
  have Hm0 := Lib.hid hmem0; clear hmem0
  by_cases hcap : rc = 1
  · subst hcap
    have hn : L.length = 1 := by omega
    have hone : L.tail.drop 0 = [] := by
      have : L.tail.length = 0 := by simp [hn]
      simpa using List.length_eq_zero_iff.1 this
    rw [hone] at HBest
    rw [hn]
    clear hn hone h0 hl
    go_enter Try.func94, Try.ntmps94
    go_wp2_with fail
    go_loop [5, 14] (fun v5 v14 => v5 = .slice la0 o0.length lc0 ∧ v14 = .int .i64 0) (fun _ _ => 0)
    case atStart => exact ⟨rfl, rfl⟩
    case round =>
      obtain ⟨rfl, rfl⟩ := hrel
      go_wp2_with fail
      go_ret
      refine ⟨rfl, la0, lc0, ?_, ?_⟩
      · rw [HBest.out]; rfl
      · rw [HBest.out]; exact HI0.out
  · have h1 : 1 < rc := by omega
    obtain ⟨N, hN⟩ : ∃ N, L.length = N + 1 := ⟨L.length - 1, by omega⟩
    rw [hN]
    have hNrc : N + 1 ≤ rc := by omega
    have hNb : N ≤ 10000000 := by omega
    have HN := Lib.hid hN; clear hN
    have htl : L.tail.length = N := by have := HN.out; simp; omega
    have HTL := Lib.hid htl; clear htl
    clear hl hl2 h0
    go_enter Try.func94, Try.ntmps94
    go_wp2_with fail
    go_loop [5, 14] (fun v5 v14 => ∃ (j : Nat) (oa : Option Addr) (oc : Nat) (o : List Int), j ≤ N ∧ v14 = .int .i64 j ∧ v5 = .slice oa o.length oc ∧ IntsAt w oa o ∧ o ∈ L ∧ (L.tail.drop j).foldl (betterOf r) o = bestL r L) (fun _ v => N - (intOf v).toNat)
    case atStart => exact ⟨0, la0, lc0, o0, Nat.zero_le _, rfl, rfl, HI0.out, Hm0.out, HBest.out.symm⟩
    case round =>
      clear hc0
      obtain ⟨j, oa, oc, o, hj, rfl, rfl, hio, hmo, hbo⟩ := hrel
      have HIO := Lib.hid hio; clear hio
      have HMO := Lib.hid hmo; clear hmo
      have HBO := Lib.hid hbo; clear hbo
      by_cases hlt : j < N
      · have hj1 : j + 1 < L.length := by have := HN.out; omega
        obtain ⟨gR', x, la, lc, hra, hcx, hx, hi⟩ := HC.out (j + 1) hj1
        simp only [Option.some.injEq, Addr.mk.injEq] at hra
        obtain ⟨rfl, _⟩ := hra
        subst hx
        have htd : L.tail.drop j = L[j + 1] :: L.tail.drop (j + 1) := by
          rw [List.drop_eq_getElem_cons (by have := HTL.out; omega), List.getElem_tail]
        have hmx : L[j + 1] ∈ L := List.getElem_mem hj1
        generalize hxl : L[j + 1] = xl at hcx hi htd hmx
        clear hxl
        rw [show j + 1 = 1 + j by omega] at hcx
        have HI := Lib.hid hi; clear hi
        have HTD := Lib.hid htd; clear htd
        have HMX := Lib.hid hmx; clear hmx
        obtain ⟨b1, b2⟩ := HIN.out _ HMX.out
        obtain ⟨b3, b4⟩ := HIN.out _ HMO.out
        have B2 := Lib.hid b2; clear b2
        have B4 := Lib.hid b4; clear b4
        go_wp2_with fail
        refine (shorter_any w b r f shut a cap HW.out G.out la oa lc oc xl o HI.out HIO.out B2.out B4.out (by omega) (by omega)).mono ?_
        rintro e w' ⟨rfl, rfl⟩
        have hstep : (L.tail.drop (j + 1)).foldl (betterOf r) (betterOf r o xl) = bestL r L := by rw [← HBO.out, HTD.out]; rfl
        have HST := Lib.hid hstep; clear hstep
        cases hsh : shorterB r xl o
        · have hbo : betterOf r o xl = o := by simp [betterOf, hsh]
          have HB := Lib.hid hbo; clear hbo
          have HS := Lib.hid hsh; clear hsh
          go_wp2_with fail
          exact ⟨⟨j + 1, oa, oc, o, by omega, by go_num, rfl, HIO.out, HMO.out, by rw [← HST.out, HB.out]⟩, by simp [intOf]; omega⟩
        · have hbo : betterOf r o xl = xl := by simp [betterOf, hsh]
          have HB := Lib.hid hbo; clear hbo
          have HS := Lib.hid hsh; clear hsh
          go_wp2_with fail
          exact ⟨⟨j + 1, la, lc, xl, by omega, by go_num, rfl, HI.out, HMX.out, by rw [← HST.out, HB.out]⟩, by simp [intOf]; omega⟩
      · go_wp2_with fail
        go_ret
        have hd : L.tail.drop j = [] := List.drop_of_length_le (by have := HTL.out; omega)
        have hbo := HBO.out
        rw [hd] at hbo
        exact ⟨rfl, oa, oc, by rw [← hbo]; rfl, by rw [← hbo]; exact HIO.out⟩
end Go.Proofs.Ytjgkgnfhglhklaa
