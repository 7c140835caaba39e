/- The contract of Way. -/
import Derived.Test.YtmkjeonjhedgkaaGreatDoorChains
import Derived.Test.YtmkjeonjhedgkaaGreatDoorReady
import Derived.Deep.OwnRows
namespace Go.Proofs.YtmkjeonjhedgkaaGreatDoor
set_option linter.unusedSimpArgs false
set_option linter.unusedVariables false
open Go.RowKit

/-- Block g is a row of booleans. -/
def BoolRow (w : World) (g : Nat) (l : List Bool) : Prop := w.heap[g]? = some (.cells (l.map Value.bool).toArray 4 (0, 0))
theorem BoolRow.cell {w : World} {g : Nat} {l : List Bool} (h : BoolRow w g l) {j : Nat} (hj : j < l.length) : w.cell? ⟨g, j, none⟩ = some (.bool l[j]) := by
  unfold BoolRow at h
  simp [World.cell?, h, hj]
theorem BoolRow.free {w : World} {g : Nat} {l : List Bool} (h : BoolRow w g l) (j : Nat) : w.frozen? ⟨g, j, none⟩ = false := by
  unfold BoolRow at h
  simp [World.frozen?, h]
theorem BoolRow.set {w : World} {g : Nat} {l : List Bool} (h : BoolRow w g l) (j : Nat) (x : Bool) : BoolRow (w.setCell ⟨g, j, none⟩ (.bool x)) g (l.set j x) := by
  unfold BoolRow at *
  simp only [World.setCell, Array.getElem?_modify, if_true, h]
  simp [List.map_set]
theorem BoolRow.below {w w' : World} {g : Nat} {l : List Bool} (h : BoolRow w g l) (hb : Below w.heap.size w w') : BoolRow w' g l := by
  unfold BoolRow at *; rw [hb.block g (Array.getElem?_eq_some_iff.1 h).1]; exact h
theorem BoolRow.made (w : World) (m : Nat) : BoolRow (w.alloc (.cells (madeCells #[.bool false] m) 4)) w.heap.size (List.replicate m false) := by
  unfold BoolRow
  rw [heap_alloc_new]
  congr 2
  apply Array.ext
  · simp [size_madeCells]
  · intro i h1 h2
    simp [madeCells, Nat.mod_one]
theorem BoolRow.bools {w : World} {g : Nat} {l : List Bool} (h : BoolRow w g l) : BoolsAt w (some ⟨g, 0, none⟩) l := .inr ⟨g, 0, rfl, fun i hi => by rw [Nat.zero_add]; exact h.cell hi⟩
theorem info_bool : (Tryz.prog.info? 4).map (fun i => (i.zero, i.size, i.bytes)) = some (some (.bool false), 1, 1) := by kernel_rfl

/-- Whether strip j is open on one of the first d days. -/
def openTo (r : Roads) (f : Flock) (j : Nat) : Nat → Bool
  | 0 => false
  | d + 1 => openTo r f j d || openB r f (-1) j d
def useAt (r : Roads) (f : Flock) (i d : Nat) : List Bool := (List.range r.strips.length).map fun j => if j < i then openTo r f j r.days.toNat else if j = i then openTo r f j d else false
def useL (r : Roads) (f : Flock) : List Bool := (List.range r.strips.length).map fun j => openTo r f j r.days.toNat
theorem useAt_len (r : Roads) (f : Flock) (i d : Nat) : (useAt r f i d).length = r.strips.length := by simp [useAt]
theorem useAt_get {r : Roads} {f : Flock} {i d : Nat} (h : i < r.strips.length) : (useAt r f i d)[i]'(by rw [useAt_len]; exact h) = openTo r f i d := by simp [useAt]
theorem useAt_set {r : Roads} {f : Flock} {i d : Nat} : (useAt r f i d).set i (openTo r f i (d + 1)) = useAt r f i (d + 1) := by
  apply List.ext_getElem (by simp [useAt])
  intro j h1 h2
  rw [List.getElem_set]
  by_cases e : i = j
  · subst e; simp [useAt]
  · rw [if_neg e]; simp [useAt, show ¬ j = i from fun h => e h.symm]
theorem useAt_zero (r : Roads) (f : Flock) : useAt r f 0 0 = List.replicate r.strips.length false := by
  apply List.ext_getElem (by simp [useAt])
  intro j h1 h2
  simp [useAt]
  intro h; subst h; rfl
theorem useAt_next (r : Roads) (f : Flock) (i : Nat) : useAt r f i r.days.toNat = useAt r f (i + 1) 0 := by
  unfold useAt
  refine List.map_congr_left fun j _ => ?_
  by_cases h1 : j < i
  · rw [if_pos h1, if_pos (by omega)]
  · rw [if_neg h1]
    by_cases h2 : j = i
    · rw [if_pos h2, if_pos (by omega)]
    · rw [if_neg h2, if_neg (by omega)]; split <;> simp [openTo]
theorem useAt_all (r : Roads) (f : Flock) : useAt r f r.strips.length 0 = useL r f := by
  unfold useAt useL
  exact List.map_congr_left fun j hj => if_pos (List.mem_range.1 hj)

def wayAll (r : Roads) (f : Flock) (fr : Nat) (tt : Int) : List (List Int) := chainsF r (useL r f) tt 5 fr (0 ||| 1 <<< fr)
def WayPost (w : World) (r : Roads) (f : Flock) (fr tt : Int) (e : Ending) (w' : World) : Prop :=
  Below w.heap.size w w' ∧ (
  (readyErr r f [fr, r.stages, tt, r.stages] = 0 ∧ wayAll r f fr.toNat tt = [] ∧ e = .returned (.tuple #[.slice none 0 0, .int .i64 0, .int .i64 11])) ∨
  (readyErr r f [fr, r.stages, tt, r.stages] = 0 ∧ wayAll r f fr.toNat tt ≠ [] ∧ ∃ a c, e = .returned (.tuple #[.slice a (bestL r (wayAll r f fr.toNat tt)).length c, .int .i64 (lenL r (bestL r (wayAll r f fr.toNat tt))), .int .i64 0]) ∧ IntsAt w' a (bestL r (wayAll r f fr.toNat tt))) ∨
  (readyErr r f [fr, r.stages, tt, r.stages] ≠ 0 ∧ e = .returned (.tuple #[.slice none 0 0, .int .i64 0, .int .i64 (readyErr r f [fr, r.stages, tt, r.stages])])))

theorem free_one : ∀ s < 6, freeN (0 ||| 1 <<< s) ≤ 5 := by decide +kernel

set_option maxRecDepth 100000 in
set_option maxHeartbeats 8000000 in
theorem Way_any (w : World) (r : Roads) (f : Flock) (a : Option Addr) (cap : Nat) (hs : StripsAt w a r.strips) (hm : r.strips.length ≤ maxLen) (fr tt : Int) :
    Calls Tryz.prog 21 #[.agg #[.int .i64 r.days, .int .i64 r.stages, .slice a r.strips.length cap], .agg #[.int .i64 f.heads, .int .i64 f.pace], .int .i64 fr, .int .i64 tt] w (WayPost w r f fr tt) := by
  have hb0 : Below w.heap.size w (((w.alloc (.cells #[.int .i64 r.days, .int .i64 r.stages, .slice a r.strips.length cap] 24)).alloc (.cells #[.int .i64 f.heads, .int .i64 f.pace] 45)).alloc (.cells #[.int .i64 fr, .int .i64 r.stages, .int .i64 tt, .int .i64 r.stages] 3)) :=
    (((Below.refl _ _).alloc (Nat.le_refl _) _).alloc (by simp) _).alloc (by simp; omega) _
  have hp := @ints_new ((w.alloc (.cells #[.int .i64 r.days, .int .i64 r.stages, .slice a r.strips.length cap] 24)).alloc (.cells #[.int .i64 f.heads, .int .i64 f.pace] 45)) [fr, r.stages, tt, r.stages]
  simp only [World.size_alloc] at hp
  have HM := Lib.hid hm; clear hm
  have HO := Lib.hid (fun (hc : checkR r = 0) => (show ∀ i (h : i < [fr, r.stages, tt, r.stages].length), i % 2 = 1 → 0 ≤ [fr, r.stages, tt, r.stages][i] ∧ [fr, r.stages, tt, r.stages][i] ≤ 1000 by
    have := check_size hc
    intro i h hi
    simp only [List.length_cons, List.length_nil] at h
    obtain rfl | rfl : i = 1 ∨ i = 3 := by omega
    · show 0 ≤ r.stages ∧ r.stages ≤ 1000; omega
    · show 0 ≤ r.stages ∧ r.stages ≤ 1000; omega))
  go_enter Tryz.func21, Tryz.ntmps21
  go_wp2_with fail
  refine (ready_any _ r f [fr, r.stages, tt, r.stages] a cap _ 4 (hs.below hb0) HM.out hp (by simp) HO.out).mono ?_
  rintro e w1 (⟨hz, b, rfl, hW, hbb, _, hb1⟩ | ⟨hz, rfl, hb1⟩)
  · obtain ⟨g, hpz⟩ := ready_zero hz
    obtain ⟨⟨p1, p2⟩, p3, p4⟩ := pairs4.1 hpz
    have hg := g.s2
    have hd1 := g.d1
    have hd := g.d2
    have hn8 := g.n8
    obtain ⟨k, hk⟩ := Int.eq_ofNat_of_zero_le p1
    have Hz := Lib.hid hz; clear hz hpz
    subst hk
    have hb01 := hb0.trans (hb1.mono hb0.size)
    have hmk := run_make_row' (P := Tryz.prog) 100 4 (.bool false) 1 Tryz.underlying100 info_bool rfl .i64 .i64 r.strips.length (by omega) (by omega)
    have back : ∀ bb oo v, (((w.alloc (.cells #[.int .i64 r.days, .int .i64 r.stages, .slice a r.strips.length cap] 24)).alloc (.cells #[.int .i64 f.heads, .int .i64 f.pace] 45)).alloc (.cells #[.int .i64 k, .int .i64 r.stages, .int .i64 tt, .int .i64 r.stages] 3)).cell? ⟨bb, oo, none⟩ = some v → w1.cell? ⟨bb, oo, none⟩ = some v := by
      intro bb oo v hv
      exact ((bcell hb1).1 _ _ (lt_of_cell hv)).trans hv
    have z0 : w1.cell? ⟨w.heap.size, 0, none⟩ = some (.int .i64 r.days) := back _ _ _ (by simp [go_sem])
    have z2 : w1.cell? ⟨w.heap.size, 2, none⟩ = some (.slice a r.strips.length cap) := back _ _ _ (by simp [go_sem])
    have hwl := lt_of_cell z2
    clear back hb0 hb1 hp hs
    have HW1 := Lib.hid hW; clear hW
    have hr0 := BoolRow.made w1 r.strips.length
    rw [← useAt_zero r f] at hr0
    have hbm : Below w1.heap.size w1 (w1.alloc (.cells (madeCells #[.bool false] r.strips.length) 4)) := Below.alloc (Below.refl _ _) (Nat.le_refl _) _
    have Hr0 := Lib.hid hr0; clear hr0
    go_wp2_with fail
    clear hmk
    generalize hU : w1.alloc (.cells (madeCells #[.bool false] r.strips.length) 4) = wU at Hr0 hbm
    have hzU : wU.heap.size = w1.heap.size + 1 := by rw [← hU]; simp
    clear hU
    go_loopw [38] (fun v38 wx => ∃ i : Nat, i ≤ r.strips.length ∧ v38 = .int .i64 i ∧ BoolRow wx w1.heap.size (useAt r f i 0) ∧ Below w1.heap.size w1 wx) (fun v _ => r.strips.length - (intOf v).toNat)
    case atStart => exact ⟨0, Nat.zero_le _, rfl, Hr0.out, hbm⟩
    case round =>
      clear hbm hzU
      obtain ⟨i, hi, rfl, hrow, hbx⟩ := hrel
      have Hrow := Lib.hid hrow; clear hrow
      by_cases hlt : i < r.strips.length
      · go_wp2_with fail
        go_loopw [14] (fun v14 wx => ∃ d : Nat, (d : Int) ≤ r.days ∧ v14 = .int .i64 d ∧ BoolRow wx w1.heap.size (useAt r f i d) ∧ Below w1.heap.size w1 wx) (fun v _ => (r.days - intOf v).toNat)
        case atStart => exact ⟨0, by omega, rfl, Hrow.out, hbx⟩
        case round =>
          clear Hrow hbx
          obtain ⟨d, hdd, rfl, hrow, hbx⟩ := hrel
          have e0 := ((bcell hbx).1 _ _ hwl).trans z0
          have hul : i < (useAt r f i d).length := by rw [useAt_len]; exact hlt
          have hc := hrow.cell hul
          have hf := hrow.free i
          rw [useAt_get hlt] at hc
          have hset := useAt_set (r := r) (f := f) (i := i) (d := d)
          have hnx : openTo r f i (d + 1) = (openTo r f i d || openB r f (-1) i d) := rfl
          have Hset := Lib.hid hset; clear hset
          have Hnx := Lib.hid hnx; clear hnx
          have Hrow := Lib.hid hrow; clear hrow
          by_cases hld : (d : Int) < r.days
          · cases hop : openTo r f i d
            · rw [hop] at hc
              have Hop := Lib.hid hop; clear hop
              go_wp2_with fail
              refine (open_any _ b r f (-1) a cap (HW1.out.below hbx) i hlt d).mono ?_
              rintro e w2 ⟨rfl, hb2⟩
              have hrow2 := Hrow.out.below hb2
              have hc2 := hrow2.cell (j := i) (by rw [useAt_len]; exact hlt)
              have hf2 := hrow2.free i
              rw [useAt_get hlt, Hop.out] at hc2
              have Hrow2 := Lib.hid hrow2; clear hrow2
              have hbx2 := hbx.trans (hb2.mono hbx.size)
              clear hc hf e0
              generalize hob : openB r f (-1) i d = ob at Hnx
              have Hob := Lib.hid hob; clear hob
              go_wp2_with fail
              refine ⟨⟨d + 1, by omega, by go_num, ?_, hbx2.setCell (p := ⟨w1.heap.size, i, none⟩) (Nat.le_refl _) _⟩, by simp [intOf]; omega⟩
              rw [← Hset.out, Hnx.out, Hop.out]
              exact Hrow2.out.set i _
            · rw [hop] at hc
              have Hop := Lib.hid hop; clear hop
              go_wp2_with fail
              refine ⟨⟨d + 1, by omega, by go_num, ?_, hbx.setCell (p := ⟨w1.heap.size, i, none⟩) (Nat.le_refl _) _⟩, by simp [intOf]; omega⟩
              rw [← Hset.out, Hnx.out, Hop.out]
              exact Hrow.out.set i _
          · go_wp2_with fail
            refine ⟨⟨i + 1, by omega, by go_num, ?_, hbx⟩, by simp [intOf]; omega⟩
            rw [← useAt_next, show r.days.toNat = d by omega]
            exact Hrow.out
      · obtain rfl : i = r.strips.length := by omega
        have HU : Hid (BoolRow wr w1.heap.size (useL r f)) := Lib.hid (by rw [← useAt_all]; exact Hrow.out)
        have HWr := Lib.hid (HW1.out.below hbx)
        clear Hrow
        go_wp2_with fail
        refine (with_any 0 k (by omega) (by omega) _).mono ?_
        rintro e w' ⟨rfl, rfl⟩
        have hn1 := one_shl_lt (s := k) (by omega)
        have hn2 := free_one k (by omega)
        generalize hn0 : (0 ||| 1 <<< k) = n0 at hn1 hn2
        have Hn0 := Lib.hid hn0; clear hn0
        have Hn2 := Lib.hid hn2; clear hn2
        go_wp2_with fail
        refine (chains_any b r f (-1) a cap g (some ⟨w1.heap.size, 0, none⟩) r.strips.length (useL r f) (by simp [useL]) tt 5 k n0 wr hn1 p2 Hn2.out (Nat.le_refl _) HWr.out HU.out.bools).mono ?_
        rintro e w2 ⟨v, rfl, hown, hb2⟩
        have hall : wayAll r f k tt = chainsF r (useL r f) tt 5 k n0 := by unfold wayAll; rw [Hn0.out]
        have hci : ∀ l ∈ chainsF r (useL r f) tt 5 k n0, l.length ≤ 100 ∧ ∀ x ∈ l, 0 ≤ x ∧ x < r.strips.length := fun l hl => by
          obtain ⟨h1, h2⟩ := chains_in 5 k n0 l hl
          exact ⟨by omega, h2⟩
        have hcl : (chainsF r (useL r f) tt 5 k n0).length ≤ 10000000 := Nat.le_trans (chains_len hn8 5 k n0) (by decide)
        generalize hLg : chainsF r (useL r f) tt 5 k n0 = L at hown hall hci hcl
        clear hLg
        have Hall := Lib.hid hall; clear hall
        have Hci := Lib.hid hci; clear hci
        obtain ⟨ra, rc, hv, hcap, hne, hcells⟩ := hown.form
        subst hv
        clear hown
        have Hcells := Lib.hid hcells; clear hcells hne
        have hb2w : Below w.heap.size w w2 := hb01.trans ((hbx.trans (hb2.mono hbx.size)).mono hb01.size)
        have HW2 := Lib.hid (HWr.out.below hb2)
        have G := Lib.hid g; clear g
        by_cases hL : L.length = 0
        · have hL' : ((L.length : Int) == 0) = true := by simp [hL]
          have HL := Lib.hid hL; clear hL
          go_wp2_with fail
          go_ret3
          exact ⟨hb2w, .inl ⟨Hz.out, by simpa [Hall.out] using HL.out, rfl⟩⟩
        · have hL' : ((L.length : Int) == 0) = false := by simpa using hL
          have HL := Lib.hid hL; clear hL
          have hLn : L ≠ [] := fun e => HL.out (by rw [e]; rfl)
          have HLn := Lib.hid hLn; clear hLn
          go_wp2_with fail
          refine (best_any w2 b r f (-1) a cap HW2.out G.out ra rc L HLn.out hcap hcl (fun i hi => by
            obtain ⟨gR, x, h1, _, h3, h4⟩ := Hcells.out i hi
            obtain ⟨la, lc, h5, h6⟩ := h4.ints
            exact ⟨gR, x, la, lc, h1, h3, h5, h6⟩) Hci.out).mono ?_
          rintro e w3 ⟨rfl, wa, wc, rfl, hib⟩
          have hbm : bestL r L ∈ L := by
            have key : ∀ (l : List (List Int)) (o : List Int), l.foldl (betterOf r) o ∈ o :: l := by
              intro l
              induction l with
              | nil => intro o; simp
              | cons y l ih =>
                intro o
                rw [List.foldl_cons]
                rcases List.mem_cons.1 (ih (betterOf r o y)) with h | h
                · rw [h]; unfold betterOf; split <;> simp
                · simp [h]
            cases hLL : L with
            | nil => exact absurd hLL HLn.out
            | cons x l => exact key l x
          obtain ⟨m1, m2⟩ := Hci.out _ hbm
          generalize hbl : bestL r L = bl at hib m1 m2
          have Hbl := Lib.hid hbl; clear hbl hbm
          have HIB := Lib.hid hib; clear hib
          have HM2 := Lib.hid m2; clear m2
          go_wp2_with fail
          refine (length_any w2 b r f (-1) a cap HW2.out G.out wa wc bl HIB.out HM2.out (by omega)).mono ?_
          rintro e w' ⟨rfl, rfl⟩
          go_wp2_with fail
          go_ret3
          refine ⟨hb2w, .inr (.inl ⟨Hz.out, by simpa [Hall.out] using HLn.out, wa, wc, ?_, ?_⟩)⟩
          · simp only [Int.toNat_natCast, Hall.out, Hbl.out]; rfl
          · simp only [Int.toNat_natCast, Hall.out, Hbl.out]; exact HIB.out
  · have hne : (readyErr r f [fr, r.stages, tt, r.stages] != 0) = true := by simpa using hz
    have Hz := Lib.hid hz; clear hz
    go_wp2_with fail
    go_ret3
    exact ⟨hb0.trans (hb1.mono hb0.size), .inr (.inr ⟨Hz.out, rfl⟩)⟩
end Go.Proofs.YtmkjeonjhedgkaaGreatDoor
