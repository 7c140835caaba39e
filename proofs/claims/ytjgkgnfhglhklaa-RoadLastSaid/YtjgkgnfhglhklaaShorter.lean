/- The contracts of length and shorter. -/
import Derived.Test.YtjgkgnfhglhklaaClone
namespace Go.Proofs.Ytjgkgnfhglhklaa
set_option linter.unusedSimpArgs false
set_option linter.unusedVariables false
open Go.RowKit

def legOf (r : Roads) (i : Int) : Int := match r.strips[i.toNat]? with | some s => s.L | none => 0
def lenTo (r : Roads) (way : List Int) : Nat → Int
  | 0 => 0
  | k + 1 => lenTo r way k + legOf r (way.getD k 0)
def lenL (r : Roads) (way : List Int) : Int := lenTo r way way.length
theorem legOf_range {r : Roads} {f : Flock} (g : Good r f) (i : Int) : 0 ≤ legOf r i ∧ legOf r i ≤ 9 := by
  unfold legOf
  cases h : r.strips[i.toNat]? with
  | none => simp
  | some s => have := g.strip s (List.mem_of_getElem? h); dsimp only; omega
theorem lenTo_range {r : Roads} {f : Flock} (g : Good r f) (way : List Int) : ∀ k, 0 ≤ lenTo r way k ∧ lenTo r way k ≤ 9 * k
  | 0 => by simp [lenTo]
  | k + 1 => by have := lenTo_range g way k; have := legOf_range g (way.getD k 0); simp only [lenTo]; omega

set_option maxRecDepth 100000 in
set_option maxHeartbeats 2000000 in
theorem length_any (w : World) (b : Nat) (r : Roads) (f : Flock) (shut : Int) (a : Option Addr) (cap : Nat) (h : WorkAt w b r f shut a cap) (g : Good r f) (wa : Option Addr) (wc : Nat) (way : List Int) (hw : IntsAt w wa way)
    (hx : ∀ x ∈ way, 0 ≤ x ∧ x < r.strips.length) (hl : way.length ≤ 1000) :
    Calls Try.prog 96 #[.pointer (some ⟨b, 0, none⟩), .slice wa way.length wc] w fun e w' => e = .returned (.int .i64 (lenL r way)) ∧ w = w' := by
  obtain ⟨c0, c1, c2, c3, c4, c5, hs⟩ := h
  have HS := Lib.hid hs; clear hs
  have HW := Lib.hid hw; clear hw
  have HX := Lib.hid hx; clear hx
  have hn8 := g.n8
  have G := Lib.hid g; clear g
  go_enter Try.func96, Try.ntmps96
  go_wp2_with fail
  go_loop [5, 10] (fun v5 v10 => ∃ k : Nat, k ≤ way.length ∧ v10 = .int .i64 k ∧ v5 = .int .i64 (lenTo r way k)) (fun _ v => way.length - (intOf v).toNat)
  case atStart => exact ⟨0, Nat.zero_le _, rfl, rfl⟩
  case round =>
    obtain ⟨k, hk, rfl, rfl⟩ := hrel
    obtain ⟨n1, n2⟩ := lenTo_range G.out way k
    have hst : k < way.length → lenTo r way (k + 1) = lenTo r way k + legOf r (way.getD k 0) := fun _ => rfl
    have Hst := Lib.hid hst; clear hst
    generalize hN : lenTo r way k = N at n1 n2 Hst
    have HN := Lib.hid hN; clear hN
    by_cases hlt : k < way.length
    · rcases HW.out with hz | ⟨wb, wo, hwa, hc⟩
      · rw [hz] at hlt; simp at hlt
      have hck := hc k hlt
      have hxr := HX.out _ (List.getElem_mem hlt)
      have hgd : way.getD k 0 = way[k] := by rw [List.getD_eq_getElem?_getD, List.getElem?_eq_getElem hlt]; rfl
      generalize hy : way[k] = y at hck hxr hgd
      obtain ⟨j, hj⟩ := Int.eq_ofNat_of_zero_le hxr.1
      subst hj
      have hjl : j < r.strips.length := by omega
      rcases HS.out with hz | ⟨sb, so, ha, hs⟩
      · rw [hz] at hjl; simp at hjl
      have hL := (hs j hjl).c2
      have hleg : legOf r j = r.strips[j].L := by simp [legOf, hjl]
      obtain ⟨l1, l2⟩ := legOf_range G.out j
      rw [hleg] at l1 l2
      generalize hLL : r.strips[j].L = L at hL hleg l1 l2
      have Hgd := Lib.hid hgd; clear hgd hy hc hs hLL
      have Hleg := Lib.hid hleg; clear hleg
      subst hwa ha
      go_wp2_with fail
      exact ⟨⟨k + 1, by omega, by go_num, by rw [Hst.out hlt, Hgd.out, Hleg.out]⟩, by simp [intOf]; omega⟩
    · go_wp2_with fail
      go_ret
      obtain rfl : k = way.length := by omega
      exact ⟨ret_int (by rw [← HN.out]; rfl), rfl⟩

def shorterB (r : Roads) (x y : List Int) : Bool := decide (lenL r x < lenL r y) || (decide (lenL r x = lenL r y) && decide (x.length < y.length))

set_option maxRecDepth 100000 in
set_option maxHeartbeats 2000000 in
theorem shorter_any (w : World) (b : Nat) (r : Roads) (f : Flock) (shut : Int) (a : Option Addr) (cap : Nat) (h : WorkAt w b r f shut a cap) (g : Good r f) (xa ya : Option Addr) (xc yc : Nat) (x y : List Int) (hx : IntsAt w xa x) (hy : IntsAt w ya y)
    (hxr : ∀ i ∈ x, 0 ≤ i ∧ i < r.strips.length) (hyr : ∀ i ∈ y, 0 ≤ i ∧ i < r.strips.length) (hxl : x.length ≤ 1000) (hyl : y.length ≤ 1000) :
    Calls Try.prog 95 #[.pointer (some ⟨b, 0, none⟩), .slice xa x.length xc, .slice ya y.length yc] w fun e w' => e = .returned (.bool (shorterB r x y)) ∧ w = w' := by
  have H := Lib.hid h; clear h
  have HX := Lib.hid hx; clear hx
  have HY := Lib.hid hy; clear hy
  have HXR := Lib.hid hxr; clear hxr
  have HYR := Lib.hid hyr; clear hyr
  have HS : Hid (shorterB r x y = (decide (lenL r x < lenL r y) || (decide (lenL r x = lenL r y) && decide (x.length < y.length)))) := Lib.hid rfl
  have n1 := lenTo_range g x x.length
  have n2 := lenTo_range g y y.length
  have G := Lib.hid g; clear g
  by_cases c1 : lenL r x < lenL r y
  · go_enter Try.func95, Try.ntmps95
    go_wp2_with fail
    refine (length_any w b r f shut a cap H.out G.out xa xc x HX.out HXR.out hxl).mono ?_
    rintro e w' ⟨rfl, rfl⟩
    go_wp2_with fail
    refine (length_any w b r f shut a cap H.out G.out ya yc y HY.out HYR.out hyl).mono ?_
    rintro e w' ⟨rfl, rfl⟩
    go_wp2_with fail
    go_ret
    exact ⟨ret_bool (by rw [HS.out]; simp [c1]), rfl⟩
  · have c1' : decide (lenL r x < lenL r y) = false := decide_eq_false c1
    by_cases c2 : lenL r x = lenL r y
    · have c2' : (lenL r x == lenL r y) = true := by simpa using c2
      have C2 := Lib.hid c2; clear c2
      go_enter Try.func95, Try.ntmps95
      go_wp2_with fail
      refine (length_any w b r f shut a cap H.out G.out xa xc x HX.out HXR.out hxl).mono ?_
      rintro e w' ⟨rfl, rfl⟩
      go_wp2_with fail
      refine (length_any w b r f shut a cap H.out G.out ya yc y HY.out HYR.out hyl).mono ?_
      rintro e w' ⟨rfl, rfl⟩
      go_wp2_with fail
      go_ret
      exact ⟨ret_bool (by rw [HS.out, C2.out]; simp), rfl⟩
    · have c2' : (lenL r x == lenL r y) = false := by simpa using c2
      go_enter Try.func95, Try.ntmps95
      go_wp2_with fail
      refine (length_any w b r f shut a cap H.out G.out xa xc x HX.out HXR.out hxl).mono ?_
      rintro e w' ⟨rfl, rfl⟩
      go_wp2_with fail
      refine (length_any w b r f shut a cap H.out G.out ya yc y HY.out HYR.out hyl).mono ?_
      rintro e w' ⟨rfl, rfl⟩
      go_wp2_with fail
      go_ret
      exact ⟨ret_bool (by rw [HS.out]; simp [c1, c2]), rfl⟩
end Go.Proofs.Ytjgkgnfhglhklaa
