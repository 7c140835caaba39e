/- The contracts of road.Heads and road.Must. -/
import Derived.Test.YtmkjeonjhedgkaaDoorBarsPub
namespace Go.Proofs.YtmkjeonjhedgkaaDoor
set_option linter.unusedSimpArgs false
set_option linter.unusedVariables false
open Go.RowKit

theorem StripsAt.lt {w : World} {a : Option Addr} {l : List Strip} (h : StripsAt w a l) : l = [] ∨ ∀ ad, a = some ad → ad.block < w.heap.size := by
  rcases h with h | ⟨b, o, rfl, h⟩
  · exact .inl h
  · by_cases e : l = []
    · exact .inl e
    · exact .inr fun ad he => by cases he; exact lt_of_cell (h 0 (List.length_pos_iff.2 e)).c0
theorem StripsAt.set {w : World} {a : Option Addr} {l : List Strip} {b o : Nat} {v : Value} (h : StripsAt w a l) (hne : l = [] ∨ ∀ ad, a = some ad → ad.block ≠ b) : StripsAt (w.setCell ⟨b, o, none⟩ v) a l := by
  rcases h with h | ⟨g, p, rfl, h⟩
  · exact .inl h
  · rcases hne with e | e
    · exact .inl e
    · have hgb : g ≠ b := e ⟨g, p, none⟩ rfl
      exact .inr ⟨g, p, rfl, fun i hi => (h i hi).keep fun k => World.cell?_setCell_other _ _ _ _ (by intro e; injection e with e1; first | exact hgb e1 | exact hgb e1.symm)⟩
theorem WorkAt.heads {w : World} {b : Nat} {r : Roads} {f : Flock} {shut : Int} {a : Option Addr} {cap : Nat} (h : WorkAt w b r f shut a cap) (hne : r.strips = [] ∨ ∀ ad, a = some ad → ad.block ≠ b) (n : Int) :
    WorkAt (w.setCell ⟨b, 3, none⟩ (.int .i64 n)) b r ⟨n, f.pace⟩ shut a cap :=
  ⟨(World.cell?_setCell_other _ _ _ _ (by simp)).trans h.c0, (World.cell?_setCell_other _ _ _ _ (by simp)).trans h.c1, (World.cell?_setCell_other _ _ _ _ (by simp)).trans h.c2, World.cell?_setCell_same _ _ _ h.c3,
    (World.cell?_setCell_other _ _ _ _ (by simp)).trans h.c4, (World.cell?_setCell_other _ _ _ _ (by simp)).trans h.c5, h.strips.set hne⟩
theorem WorkAt.shut {w : World} {b : Nat} {r : Roads} {f : Flock} {shut : Int} {a : Option Addr} {cap : Nat} (h : WorkAt w b r f shut a cap) (hne : r.strips = [] ∨ ∀ ad, a = some ad → ad.block ≠ b) (n : Int) :
    WorkAt (w.setCell ⟨b, 5, none⟩ (.int .i64 n)) b r f n a cap :=
  ⟨(World.cell?_setCell_other _ _ _ _ (by simp)).trans h.c0, (World.cell?_setCell_other _ _ _ _ (by simp)).trans h.c1, (World.cell?_setCell_other _ _ _ _ (by simp)).trans h.c2, (World.cell?_setCell_other _ _ _ _ (by simp)).trans h.c3,
    (World.cell?_setCell_other _ _ _ _ (by simp)).trans h.c4, World.cell?_setCell_same _ _ _ h.c5, h.strips.set hne⟩

theorem OwnInts.kept {w w' : World} {B : Nat} {v : Value} {l : List Int} (h : OwnInts w B v l) (hk : ∀ g, B ≤ g → w'.heap[g]? = w.heap[g]?) : OwnInts w' B v l := by
  obtain ⟨h1, h2⟩ := h
  refine ⟨h1, ?_⟩
  rcases h2 with h2 | ⟨g, cap, cur, hv, hg, hh, r⟩
  · exact .inl h2
  · exact .inr ⟨g, cap, cur, hv, hg, by rw [hk g hg]; exact hh, r⟩
theorem WorkAt.keepB {w w' : World} {b B : Nat} {r : Roads} {f : Flock} {shut : Int} {a : Option Addr} {cap : Nat} (h : WorkAt w b r f shut a cap) (hb : Below B w w') (hB : b < B) (hne : r.strips = [] ∨ ∀ ad, a = some ad → ad.block < B) : WorkAt w' b r f shut a cap := by
  have e : ∀ k, w'.cell? ⟨b, k, none⟩ = w.cell? ⟨b, k, none⟩ := fun k => hb.cell (p := ⟨b, k, none⟩) hB
  refine ⟨(e _).trans h.c0, (e _).trans h.c1, (e _).trans h.c2, (e _).trans h.c3, (e _).trans h.c4, (e _).trans h.c5, ?_⟩
  rcases h.strips with hs | ⟨g, o, rfl, hs⟩
  · exact .inl hs
  · rcases hne with hn | hn
    · exact .inl hn
    · exact .inr ⟨g, o, rfl, fun i hi => (hs i hi).keep fun k => hb.cell (p := ⟨g, k, none⟩) (hn ⟨g, o, none⟩ rfl)⟩

/-- The greatest number of heads, of those up to n, that can come. -/
def headsR (r : Roads) (p : Int) (fr tt : Nat) (d b : Int) : Nat → Nat
  | 0 => 0
  | n + 1 => if canB r ⟨((n + 1 : Nat) : Int), p⟩ (-1) fr tt d b then n + 1 else headsR r p fr tt d b n
def headsN (r : Roads) (p : Int) (fr tt : Nat) (d b : Int) : Nat := headsR r p fr tt d b 40
theorem headsR_le (r : Roads) (p : Int) (fr tt : Nat) (d b : Int) : ∀ n, headsR r p fr tt d b n ≤ n
  | 0 => Nat.le_refl _
  | n + 1 => by have := headsR_le r p fr tt d b n; rw [headsR]; split <;> omega
/-- What Heads returns. -/
def HeadsPost (w : World) (r : Roads) (p : Int) (fr tt day by' : Int) (e : Ending) (w' : World) : Prop :=
  Below w.heap.size w w' ∧
  ((readyErr r ⟨1, p⟩ [fr, r.stages, tt, r.stages, day, r.days, by', r.days] = 0 ∧ headsN r p fr.toNat tt.toNat day by' = 0 ∧ e = .returned (.tuple #[.int .i64 0, .int .i64 11])) ∨
  (readyErr r ⟨1, p⟩ [fr, r.stages, tt, r.stages, day, r.days, by', r.days] = 0 ∧ headsN r p fr.toNat tt.toNat day by' ≠ 0 ∧ e = .returned (.tuple #[.int .i64 ((headsN r p fr.toNat tt.toNat day by' : Nat) : Int), .int .i64 0])) ∨
  (readyErr r ⟨1, p⟩ [fr, r.stages, tt, r.stages, day, r.days, by', r.days] ≠ 0 ∧ e = .returned (.tuple #[.int .i64 0, .int .i64 (readyErr r ⟨1, p⟩ [fr, r.stages, tt, r.stages, day, r.days, by', r.days])])))

theorem Good.heads {r : Roads} {f : Flock} (g : Good r f) {n : Int} (h1 : 1 ≤ n) (h2 : n ≤ 40) : Good r ⟨n, f.pace⟩ := ⟨g.d1, g.d2, g.s1, g.s2, g.n8, g.strip, h1, h2, g.p1, g.p2⟩
theorem oddL8 {r : Roads} (x y z t : Int) : ∀ i (h : i < [x, r.stages, y, r.stages, z, r.days, t, r.days].length), i % 2 = 1 → [x, r.stages, y, r.stages, z, r.days, t, r.days][i] = r.stages ∨ [x, r.stages, y, r.stages, z, r.days, t, r.days][i] = r.days ∨ [x, r.stages, y, r.stages, z, r.days, t, r.days][i] = r.strips.length := by
  intro i h hi
  simp only [List.length_cons, List.length_nil] at h
  obtain rfl | rfl | rfl | rfl : i = 1 ∨ i = 3 ∨ i = 5 ∨ i = 7 := by omega
  · exact .inl rfl
  · exact .inl rfl
  · exact .inr (.inl rfl)
  · exact .inr (.inl rfl)

set_option maxRecDepth 100000 in
set_option maxHeartbeats 4000000 in
theorem Heads_any (w : World) (r : Roads) (p : Int) (a : Option Addr) (cap : Nat) (hs : StripsAt w a r.strips) (hm : r.strips.length ≤ maxLen) (fr tt day by' : Int) :
    Calls Tryd.prog 20 #[.agg #[.int .i64 r.days, .int .i64 r.stages, .slice a r.strips.length cap], .int .i64 p, .int .i64 fr, .int .i64 tt, .int .i64 day, .int .i64 by'] w (HeadsPost w r p fr tt day by') := by
  have hb0 : Below w.heap.size w ((w.alloc (.cells #[.int .i64 r.days, .int .i64 r.stages, .slice a r.strips.length cap] 24)).alloc (.cells #[.int .i64 fr, .int .i64 r.stages, .int .i64 tt, .int .i64 r.stages, .int .i64 day, .int .i64 r.days, .int .i64 by', .int .i64 r.days] 3)) :=
    ((Below.refl _ _).alloc (Nat.le_refl _) _).alloc (by simp) _
  have hp : IntsAt ((w.alloc (.cells #[.int .i64 r.days, .int .i64 r.stages, .slice a r.strips.length cap] 24)).alloc (.cells #[.int .i64 fr, .int .i64 r.stages, .int .i64 tt, .int .i64 r.stages, .int .i64 day, .int .i64 r.days, .int .i64 by', .int .i64 r.days] 3))
      (some ⟨w.heap.size + 1, 0, none⟩) [fr, r.stages, tt, r.stages, day, r.days, by', r.days] := by
    have := @ints_laid (w.alloc (.cells #[.int .i64 r.days, .int .i64 r.stages, .slice a r.strips.length cap] 24)) [fr, r.stages, tt, r.stages, day, r.days, by', r.days]
    simpa using this
  have HM := Lib.hid hm; clear hm
  have HO := Lib.hid (fun hc => @oddL r hc _ (oddL8 fr tt day by'))
  have hlt := hs.lt
  go_enter Tryd.func20, Tryd.ntmps20
  go_wp2_with fail
  refine (ready_any _ r ⟨1, p⟩ [fr, r.stages, tt, r.stages, day, r.days, by', r.days] a cap _ 8 (hs.below hb0) HM.out hp (by simp) HO.out).mono ?_
  rintro e w1 (⟨hz, b, rfl, hW, hbb, hfz, hb1⟩ | ⟨hz, rfl, hb1⟩)
  · obtain ⟨g, hpz⟩ := ready_zero hz
    obtain ⟨⟨p1, p2⟩, ⟨p3, p4⟩, ⟨p5, p6⟩, p7, p8⟩ := pairs8.1 hpz
    obtain ⟨x, hx⟩ := Int.eq_ofNat_of_zero_le p1
    obtain ⟨y, hy⟩ := Int.eq_ofNat_of_zero_le p3
    have Hz := Lib.hid hz; clear hz hpz
    subst hx hy
    have gs := g.s2
    have gd := g.d2
    have hb01 := hb0.trans (hb1.mono hb0.size)
    have hwb : w.heap.size ≤ b := by have := hb0.size; omega
    have hne : r.strips = [] ∨ ∀ ad, a = some ad → ad.block ≠ b := hlt.imp id fun h ad e => by have := h ad e; omega
    have HNE := Lib.hid hne; clear hne hlt
    have HB1 := Lib.hid hb01; clear hb0 hb1 hp hs hb01 hbb
    have HW := Lib.hid hW; clear hW
    have HF := Lib.hid hfz; clear hfz
    go_wp2_with fail
    go_loopw [16] (fun v16 wx => ∃ k : Nat, k ≤ 40 ∧ v16 = .int .i64 (k : Int) ∧ headsN r p x y day by' = headsR r p x y day by' k ∧ (∃ h : Int, WorkAt wx b r ⟨h, p⟩ (-1) a cap) ∧ (∀ k, wx.frozen? ⟨b, k, none⟩ = false) ∧ Below w.heap.size w wx) (fun v _ => (intOf v).toNat)
    case atStart => exact ⟨40, Nat.le_refl _, rfl, rfl, ⟨1, HW.out⟩, HF.out, HB1.out⟩
    case round =>
      obtain ⟨k, hk, rfl, hN, ⟨h, hW⟩, hf, hbr⟩ := hrel
      have c3 := hW.c3
      have f3 := hf 3
      have HW := Lib.hid hW; clear hW
      have HF := Lib.hid hf; clear hf
      have HN := Lib.hid hN; clear hN
      by_cases hk0 : k = 0
      · subst hk0
        go_wp2_with fail
        go_ret2
        exact ⟨hbr, .inl ⟨Hz.out, HN.out, rfl⟩⟩
      · obtain ⟨j, rfl⟩ : ∃ j, k = j + 1 := ⟨k - 1, by omega⟩
        have q : (0 : Int) < ((j + 1 : Nat) : Int) := by omega
        have qq : ((j + 1 : Nat) : Int) ≤ 40 := by omega
        have hrec : headsR r p x y day by' (j + 1) = if canB r ⟨((j + 1 : Nat) : Int), p⟩ (-1) x y day by' then j + 1 else headsR r p x y day by' j := rfl
        generalize hkk : ((j + 1 : Nat) : Int) = K at q qq hrec ⊢
        have HK := Lib.hid hkk; clear hkk
        have HR := Lib.hid hrec; clear hrec
        go_wp2_with fail
        have hbs : Below w.heap.size w (wr.setCell ⟨b, 3, none⟩ (.int .i64 K)) := hbr.setCell (by simpa using hwb) _
        refine (can_any _ b r ⟨K, p⟩ (-1) a cap (HW.out.heads HNE.out K) (g.heads (by omega) (by have := HK.out; omega)) x y (by omega) (by omega) day by' p5 (by omega) p7 (by omega)).mono ?_
        rintro e w2 ⟨rfl, hb2⟩
        have hb3 : Below w.heap.size w w2 := hbs.trans (hb2.mono (by simpa using hbr.size))
        cases hT : canB r ⟨K, p⟩ (-1) x y day by'
        · have HT := Lib.hid hT; clear hT
          go_wp2_with fail
          refine ⟨⟨j, by omega, by rw [← HK.out]; go_num, by rw [HN.out, HR.out, HT.out]; rfl, ⟨K, (HW.out.heads HNE.out K).below hb2⟩, fun k => ?_, hb3⟩, by simp [intOf]; have := HK.out; omega⟩
          rw [(bcell hb2).2 _ _ (by simp; exact lt_of_cell c3), World.frozen?_setCell]
          exact HF.out k
        · have HT := Lib.hid hT; clear hT
          go_wp2_with fail
          go_ret2
          have e1 : headsN r p x y day by' = j + 1 := by rw [HN.out, HR.out, HT.out]; rfl
          refine ⟨hb3, .inr (.inl ⟨Hz.out, ?_, ?_⟩)⟩
          · show headsN r p x y day by' ≠ 0; omega
          · show _ = Ending.returned (.tuple #[.int .i64 ((headsN r p x y day by' : Nat) : Int), .int .i64 0])
            rw [e1, HK.out]; rfl
  · have hne : (readyErr r ⟨1, p⟩ [fr, r.stages, tt, r.stages, day, r.days, by', r.days] != 0) = true := by simpa using hz
    have Hz := Lib.hid hz; clear hz
    go_wp2_with fail
    go_ret2
    exact ⟨hb0.trans (hb1.mono hb0.size), .inr (.inr ⟨Hz.out, rfl⟩)⟩

/-- The strips below k that a flock cannot do without. -/
def mustTo (r : Roads) (f : Flock) (fr tt : Nat) (d b : Int) : Nat → List Int
  | 0 => []
  | k + 1 => mustTo r f fr tt d b k ++ (if canB r f (k : Int) fr tt d b then [] else [(k : Int)])
theorem mustTo_le (r : Roads) (f : Flock) (fr tt : Nat) (d b : Int) : ∀ k, (mustTo r f fr tt d b k).length ≤ k
  | 0 => Nat.le_refl _
  | k + 1 => by have := mustTo_le r f fr tt d b k; simp only [mustTo, List.length_append]; split <;> simp <;> omega
/-- What Must returns. -/
def MustPost (w : World) (r : Roads) (f : Flock) (fr tt day by' : Int) (e : Ending) (w' : World) : Prop :=
  Below w.heap.size w w' ∧
  ((readyErr r f [fr, r.stages, tt, r.stages, day, r.days, by', r.days] = 0 ∧ canB r f (-1) fr.toNat tt.toNat day by' = false ∧ e = .returned (.tuple #[.slice none 0 0, .int .i64 11])) ∨
  (readyErr r f [fr, r.stages, tt, r.stages, day, r.days, by', r.days] = 0 ∧ canB r f (-1) fr.toNat tt.toNat day by' = true ∧ ∃ v, e = .returned (.tuple #[v, .int .i64 0]) ∧ OwnInts w' w.heap.size v (mustTo r f fr.toNat tt.toNat day by' r.strips.length)) ∨
  (readyErr r f [fr, r.stages, tt, r.stages, day, r.days, by', r.days] ≠ 0 ∧ e = .returned (.tuple #[.slice none 0 0, .int .i64 (readyErr r f [fr, r.stages, tt, r.stages, day, r.days, by', r.days])])))

set_option maxRecDepth 100000 in
set_option maxHeartbeats 4000000 in
theorem Must_any (w : World) (r : Roads) (f : Flock) (a : Option Addr) (cap : Nat) (hs : StripsAt w a r.strips) (hm : r.strips.length ≤ maxLen) (fr tt day by' : Int) :
    Calls Tryd.prog 22 #[.agg #[.int .i64 r.days, .int .i64 r.stages, .slice a r.strips.length cap], .agg #[.int .i64 f.heads, .int .i64 f.pace], .int .i64 fr, .int .i64 tt, .int .i64 day, .int .i64 by'] w (MustPost w r f fr tt day by') := by
  have hb0 : Below w.heap.size w (((w.alloc (.cells #[.int .i64 r.days, .int .i64 r.stages, .slice a r.strips.length cap] 24)).alloc (.cells #[.int .i64 f.heads, .int .i64 f.pace] 37)).alloc (.cells #[.int .i64 fr, .int .i64 r.stages, .int .i64 tt, .int .i64 r.stages, .int .i64 day, .int .i64 r.days, .int .i64 by', .int .i64 r.days] 3)) :=
    (((Below.refl _ _).alloc (Nat.le_refl _) _).alloc (by simp) _).alloc (by simp; omega) _
  have hp : IntsAt (((w.alloc (.cells #[.int .i64 r.days, .int .i64 r.stages, .slice a r.strips.length cap] 24)).alloc (.cells #[.int .i64 f.heads, .int .i64 f.pace] 37)).alloc (.cells #[.int .i64 fr, .int .i64 r.stages, .int .i64 tt, .int .i64 r.stages, .int .i64 day, .int .i64 r.days, .int .i64 by', .int .i64 r.days] 3))
      (some ⟨w.heap.size + 1 + 1, 0, none⟩) [fr, r.stages, tt, r.stages, day, r.days, by', r.days] := by
    have := @ints_laid ((w.alloc (.cells #[.int .i64 r.days, .int .i64 r.stages, .slice a r.strips.length cap] 24)).alloc (.cells #[.int .i64 f.heads, .int .i64 f.pace] 37)) [fr, r.stages, tt, r.stages, day, r.days, by', r.days]
    simpa using this
  have HM := Lib.hid hm; clear hm
  have HO := Lib.hid (fun hc => @oddL r hc _ (oddL8 fr tt day by'))
  have hlt := hs.lt
  have hc2 : (((w.alloc (.cells #[.int .i64 r.days, .int .i64 r.stages, .slice a r.strips.length cap] 24)).alloc (.cells #[.int .i64 f.heads, .int .i64 f.pace] 37)).alloc (.cells #[.int .i64 fr, .int .i64 r.stages, .int .i64 tt, .int .i64 r.stages, .int .i64 day, .int .i64 r.days, .int .i64 by', .int .i64 r.days] 3)).cell? ⟨w.heap.size, 2, none⟩ = some (.slice a r.strips.length cap) := by simp [go_sem]
  have HC2 := Lib.hid hc2; clear hc2
  go_enter Tryd.func22, Tryd.ntmps22
  go_wp2_with fail
  refine (ready_any _ r f [fr, r.stages, tt, r.stages, day, r.days, by', r.days] a cap _ 8 (hs.below hb0) HM.out hp (by simp) HO.out).mono ?_
  rintro e w1 (⟨hz, b, rfl, hW, hbb, hfz, hb1⟩ | ⟨hz, rfl, hb1⟩)
  · obtain ⟨g, hpz⟩ := ready_zero hz
    obtain ⟨⟨p1, p2⟩, ⟨p3, p4⟩, ⟨p5, p6⟩, p7, p8⟩ := pairs8.1 hpz
    obtain ⟨x, hx⟩ := Int.eq_ofNat_of_zero_le p1
    obtain ⟨y, hy⟩ := Int.eq_ofNat_of_zero_le p3
    have Hz := Lib.hid hz; clear hz hpz
    subst hx hy
    have gs := g.s2
    have gd := g.d2
    have g8 := g.n8
    have hb01 := hb0.trans (hb1.mono hb0.size)
    have hwb : w.heap.size ≤ b := by have := hb0.size; omega
    have hwc : w.heap.size < b := by simp at hbb; omega
    have hne : r.strips = [] ∨ ∀ ad, a = some ad → ad.block ≠ b := hlt.imp id fun h ad e => by have := h ad e; omega
    have HNE := Lib.hid hne; clear hne
    have HLT := Lib.hid hlt; clear hlt
    have hk2 : w1.cell? ⟨w.heap.size, 2, none⟩ = some (.slice a r.strips.length cap) := ((bcell hb1).1 _ _ (by simp; omega)).trans HC2.out
    have HB1 := Lib.hid hb01; clear hb0 hb1 hp hs hb01 hbb HC2
    have HF := Lib.hid hfz; clear hfz
    have HW := Lib.hid hW; clear hW
    go_wp2_with fail
    refine (can_any _ b r f (-1) a cap HW.out g x y (by omega) (by omega) day by' p5 (by omega) p7 (by omega)).mono ?_
    rintro e w2 ⟨rfl, hb2⟩
    have HB2 := Lib.hid (HB1.out.trans (hb2.mono HB1.out.size))
    have HW2 := Lib.hid (HW.out.below hb2)
    have k2 : w2.cell? ⟨w.heap.size, 2, none⟩ = some (.slice a r.strips.length cap) := ((bcell hb2).1 _ _ (lt_of_cell hk2)).trans hk2
    have hf2 : ∀ k, w2.frozen? ⟨b, k, none⟩ = false := fun k => ((bcell hb2).2 _ _ (lt_of_cell HW.out.c0)).trans (HF.out k)
    have HF2 := Lib.hid hf2; clear hf2 hk2 HB1 HF HW hb2
    cases hT : canB r f (-1) x y day by'
    · have HT := Lib.hid hT; clear hT
      go_wp2_with fail
      go_ret2
      exact ⟨HB2.out, .inl ⟨Hz.out, HT.out, rfl⟩⟩
    · have HT := Lib.hid hT; clear hT
      go_wp2_with fail
      go_loopw [16, 50] (fun v16 v50 wx => ∃ k : Nat, k ≤ r.strips.length ∧ v50 = .int .i64 (k : Int) ∧ OwnInts wx w2.heap.size v16 (mustTo r f x y day by' k) ∧ (∃ sh : Int, WorkAt wx b r f sh a cap) ∧ (∀ k, wx.frozen? ⟨b, k, none⟩ = false) ∧ b < w2.heap.size ∧ w2.heap.size ≤ wx.heap.size ∧ Below w.heap.size w wx) (fun _ v _ => r.strips.length - (intOf v).toNat)
      case atStart => exact ⟨0, Nat.zero_le _, rfl, OwnInts.nil _ _, ⟨-1, HW2.out⟩, HF2.out, lt_of_cell HW2.out.c0, Nat.le_refl _, HB2.out⟩
      case round =>
        clear k2
        obtain ⟨k, hk, rfl, hown, ⟨sh, hW⟩, hf, hbs, hsz, hbr⟩ := hrel
        have hle := mustTo_le r f x y day by' k
        have c5 := hW.c5
        have f5 := hf 5
        have HW := Lib.hid hW; clear hW
        have HF := Lib.hid hf; clear hf
        have HOW := Lib.hid hown; clear hown
        by_cases hlt : k < r.strips.length
        · go_wp2_with fail
          have hbs1 : Below w.heap.size w (wr.setCell ⟨b, 5, none⟩ (.int .i64 (k : Int))) := hbr.setCell (by simpa using hwb) _
          refine (can_any _ b r f (k : Int) a cap (HW.out.shut HNE.out (k : Int)) g x y (by omega) (by omega) day by' p5 (by omega) p7 (by omega)).mono ?_
          rintro e w3 ⟨rfl, hb3⟩
          have hb4 : Below w.heap.size w w3 := hbs1.trans (hb3.mono (by simpa using hbr.size))
          have hsz3 : w2.heap.size ≤ w3.heap.size := by have := hb3.size; simp at this; omega
          have hown3 : OwnInts w3 w2.heap.size _ (mustTo r f x y day by' k) := (HOW.out.kept (w' := wr.setCell ⟨b, 5, none⟩ (.int .i64 (k : Int))) fun g hg => Below.heap_setCell _ ⟨b, 5, none⟩ _ g (by simp; omega)).below hb3
          have hf3 : ∀ j, w3.frozen? ⟨b, j, none⟩ = false := fun j => by
            rw [(bcell hb3).2 _ _ (by simp; omega), World.frozen?_setCell]
            exact HF.out j
          have HF3 := Lib.hid hf3; clear hf3
          have HW3 := Lib.hid ((HW.out.shut HNE.out (k : Int)).below hb3)
          clear HOW HF HW hb3 hbs1
          cases hT : canB r f (k : Int) x y day by'
          · have he : mustTo r f x y day by' (k + 1) = mustTo r f x y day by' k ++ [(k : Int)] := by simp [mustTo, hT]
            have HE := Lib.hid he; clear he hT
            go_wp2_with (at_builtin; refine app_int1 rfl _ _ rfl w2.heap.size _ _ rfl hown3 _ rfl (by omega) hsz3 ?_)
            intro v' w' hown' hbel _
            go_wp2_with fail
            refine ⟨⟨k + 1, by omega, by go_num, by rw [HE.out]; exact hown', ⟨_, HW3.out.keepB hbel hbs (HLT.out.imp id fun h ad e => by have := h ad e; have := HB2.out.size; omega)⟩, fun j => (hbel.frozen (p := ⟨b, j, none⟩) hbs).trans (HF3.out j), hbs, by have := hbel.size; omega, hb4.trans (hbel.mono (by have := HB2.out.size; omega))⟩, by simp [intOf]; omega⟩
          · have he : mustTo r f x y day by' (k + 1) = mustTo r f x y day by' k := by simp [mustTo, hT]
            have HE := Lib.hid he; clear he hT
            go_wp2_with fail
            exact ⟨⟨k + 1, by omega, by go_num, by rw [HE.out]; exact hown3, ⟨_, HW3.out⟩, HF3.out, hbs, hsz3, hb4⟩, by simp [intOf]; omega⟩
        · obtain rfl : k = r.strips.length := by omega
          go_wp2_with fail
          go_ret2
          exact ⟨hbr, .inr (.inl ⟨Hz.out, HT.out, _, rfl, HOW.out.mono HB2.out.size⟩)⟩
  · have hne : (readyErr r f [fr, r.stages, tt, r.stages, day, r.days, by', r.days] != 0) = true := by simpa using hz
    have Hz := Lib.hid hz; clear hz
    go_wp2_with fail
    go_ret2
    exact ⟨hb0.trans (hb1.mono hb0.size), .inr (.inr ⟨Hz.out, rfl⟩)⟩
end Go.Proofs.YtmkjeonjhedgkaaDoor
