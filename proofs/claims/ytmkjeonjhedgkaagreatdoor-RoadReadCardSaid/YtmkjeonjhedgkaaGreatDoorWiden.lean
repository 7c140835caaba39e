/- The contract of Widen. -/
import Derived.Test.YtmkjeonjhedgkaaGreatDoorLists
namespace Go.Proofs.YtmkjeonjhedgkaaGreatDoor
set_option linter.unusedSimpArgs false
set_option linter.unusedVariables false
open Go.RowKit Go.Shelf
attribute [local go_sem] Oper.semAt_some

def widenT (r : Roads) (f : Flock) (fr tt : Nat) (day by' : Int) (l : List Int) : Bool := canB (widenR r l) f (-1) fr tt day by'
def widenL (r : Roads) (f : Flock) (fr tt : Nat) (day by' : Int) : Option (List Int) :=
  (List.range (r.strips.length + 1)).findSome? fun m => (picksF r.strips.length m 0).find? (widenT r f fr tt day by')

def WidenPost (w : World) (r : Roads) (f : Flock) (fr tt day by' : Int) (e : Ending) (w' : World) : Prop :=
  Below w.heap.size w w' ∧ (
  (readyErr r f [fr, r.stages, tt, r.stages, day, r.days, by', r.days] = 0 ∧ widenL r f fr.toNat tt.toNat day by' = none ∧ e = .returned (.tuple #[.slice none 0 0, .int .i64 11])) ∨
  (readyErr r f [fr, r.stages, tt, r.stages, day, r.days, by', r.days] = 0 ∧ ∃ L v, widenL r f fr.toNat tt.toNat day by' = some L ∧ e = .returned (.tuple #[v, .int .i64 0]) ∧ OwnInts w' w.heap.size v L) ∨
  (readyErr r f [fr, r.stages, tt, r.stages, day, r.days, by', r.days] ≠ 0 ∧ e = .returned (.tuple #[.slice none 0 0, .int .i64 (readyErr r f [fr, r.stages, tt, r.stages, day, r.days, by', r.days])])))

theorem widenS_all {P : Strip → Prop} (hw : ∀ s, P s → P (wide s)) : ∀ (l : List Int) (ss : List Strip), (∀ s ∈ ss, P s) → ∀ s ∈ widenS ss l, P s
  | [], _, h => h
  | i :: l, ss, h => by
    refine widenS_all hw l _ fun s hs => ?_
    obtain ⟨j, hj, rfl⟩ := List.mem_iff_getElem.1 hs
    rw [List.length_modify] at hj
    rw [List.getElem_modify]
    split
    · exact hw _ (h _ (List.getElem_mem hj))
    · exact h _ (List.getElem_mem hj)
theorem good_widen {r : Roads} {f : Flock} (g : Good r f) (l : List Int) : Good (widenR r l) f :=
  ⟨g.d1, g.d2, g.s1, g.s2, by show (widenS r.strips l).length ≤ 8; rw [widenS_len]; exact g.n8, widenS_all (fun s hs => by
    obtain ⟨a1, a2, a3, a4, a5, a6, a7, a8, a9, a10⟩ := hs
    exact ⟨a1, a2, a3, a4, a5, a6, a7, by show 1 ≤ max s.W 90; omega, by show max s.W 90 ≤ 99; omega, a10⟩) l r.strips g.strip, g.h1, g.h2, g.p1, g.p2⟩

/-- The marks of the loops that were entered: each names an open block with no calls. -/
def Marks (B C : Nat) (W : World) (ds : List Deferred) : Prop :=
  ∃ rs : List Nat, ds = rs.map (fun r => { target := .collected r, args := #[] }) ∧ rs.Nodup ∧ ∀ r ∈ rs, B ≤ r ∧ r < C ∧ W.heap[r]? = some (.deferred (some []))
theorem Marks.nil (B C : Nat) (W : World) : Marks B C W [] := ⟨[], rfl, by simp, by simp⟩
theorem Marks.keep {B C C' : Nat} {W W' : World} {ds : List Deferred} (h : Marks B C W ds) (hC : C ≤ C') (hk : ∀ r, B ≤ r → r < C → W.heap[r]? = some (.deferred (some [])) → W'.heap[r]? = W.heap[r]?) : Marks B C' W' ds := by
  obtain ⟨rs, h1, h2, h3⟩ := h
  exact ⟨rs, h1, h2, fun r hr => ⟨(h3 r hr).1, Nat.lt_of_lt_of_le (h3 r hr).2.1 hC, (hk r (h3 r hr).1 (h3 r hr).2.1 (h3 r hr).2.2).trans (h3 r hr).2.2⟩⟩
theorem Marks.cons {B C C' : Nat} {W : World} {ds : List Deferred} (h : Marks B C W ds) {D : Nat} (hD : C ≤ D) (hD' : D < C') (hB : B ≤ D)
    (hd : W.heap[D]? = some (.deferred (some []))) : Marks B C' W ({ target := .collected D, args := #[] } :: ds) := by
  obtain ⟨rs, h1, h2, h3⟩ := h
  refine ⟨D :: rs, by rw [h1]; rfl, List.nodup_cons.2 ⟨fun hm => ?_, h2⟩, ?_⟩
  · have := (h3 D hm).2.1; omega
  · intro r hr
    rcases List.mem_cons.1 hr with rfl | hr
    · exact ⟨hB, hD', hd⟩
    · exact ⟨(h3 r hr).1, by have := (h3 r hr).2.1; omega, (h3 r hr).2.2⟩

/-- A list has been found. -/
def Found (w : World) (po pf B C : Nat) (ds : List Deferred) (x : List Int) (W : World) : Prop :=
  ∃ v, W.cell? ⟨po, 0, none⟩ = some v ∧ OwnInts W B v x ∧ W.cell? ⟨pf, 0, none⟩ = some (.bool true) ∧ Below w.heap.size w W ∧ Marks B C W ds

theorem OwnInts.same {w w' : World} {B : Nat} {v : Value} {l : List Int} (h : OwnInts w B v l) (hk : ∀ g, B ≤ g → g < w.heap.size → w'.heap[g]? = w.heap[g]?) : OwnInts w' B v l := by
  obtain ⟨h1, h2⟩ := h
  refine ⟨h1, ?_⟩
  rcases h2 with h2 | ⟨g, cap, cur, hv, hg, hh, r⟩
  · exact .inl h2
  · exact .inr ⟨g, cap, cur, hv, hg, (hk g hg (Array.getElem?_eq_some_iff.1 hh).1).trans hh, r⟩
theorem Found.keep {w : World} {po pf B C : Nat} {ds : List Deferred} {x : List Int} {W W' : World} (h : Found w po pf B C ds x W) (hb : Below w.heap.size W W')
    (hk : ∀ (k : Nat) (o : Obj), W.heap[k]? = some o → (∀ r, o ≠ .loop r) → W'.heap[k]? = some o) : Found w po pf B C ds x W' := by
  obtain ⟨v, h1, ⟨g1, g2⟩, h3, h4, h5⟩ := h
  have cell : ∀ b v, W.cell? ⟨b, 0, none⟩ = some v → W'.cell? ⟨b, 0, none⟩ = some v := by
    intro b v hc
    unfold World.cell? at hc
    cases hh : W.heap[b]? with
    | none => simp [hh] at hc
    | some o =>
      have := hk b o hh (fun r e => by subst e; simp [hh] at hc)
      rw [World.cell?_of_block (this.trans hh.symm)]
      unfold World.cell?; exact hc
  refine ⟨v, cell _ _ h1, ⟨g1, ?_⟩, cell _ _ h3, h4.trans hb, h5.keep (Nat.le_refl _) fun r _ _ hr => ?_⟩
  · rcases g2 with g2 | ⟨g, cap, cur, hv, hg, hh, r⟩
    · exact .inl g2
    · exact .inr ⟨g, cap, cur, hv, hg, hk _ _ hh (by simp), r⟩
  · rw [hr]; exact hk _ _ hr (by simp)
theorem Found.putObj {w : World} {po pf B C : Nat} {ds : List Deferred} {x : List Int} {W : World} (h : Found w po pf B C ds x W) {l : Nat} {r : Loop} (o : Obj) (hl : w.heap.size ≤ l) (hr : W.heap[l]? = some (.loop r)) : Found w po pf B C ds x (W.putObj l o) :=
  h.keep ⟨rfl, rfl, rfl, by simp, fun _ hk => World.putObj_heap_other (by omega)⟩ fun k o' hk hne => by
    rw [World.putObj_heap_other (fun e => by subst e; rw [hr] at hk; simp at hk; exact hne r hk.symm)]; exact hk

theorem leave_marks {n : Nat} {fn : Func} {tmps : Array Value} {R : Ending → World → Prop} {B C : Nat} {v : Value} (hv : ∀ W : World, (results fn tmps).run Tryz.prog W = .ok v W) : ∀ (ds : List Deferred) (W : World), Marks B C W ds →
    (∀ W', Below B W W' → (∀ (k : Nat) (c : Array Value) (t : TypeId) (m : Nat × Nat), W.heap[k]? = some (Obj.cells c t m) → W'.heap[k]? = W.heap[k]?) → R (.returned v) W') → LeavesInM Fence.wide n Tryz.prog fn tmps R ds .returning W
  | [], W, _, h => ⟨v, hv W, h W (Below.refl _ _) fun _ _ _ _ _ => rfl⟩
  | d :: ds, W, hm, h => by
    obtain ⟨rs, h1, h2, h3⟩ := hm
    cases rs with
    | nil => simp at h1
    | cons r rs =>
      simp only [List.map_cons, List.cons.injEq] at h1
      obtain ⟨rfl, rfl⟩ := h1
      obtain ⟨hn, h2⟩ := List.nodup_cons.1 h2
      obtain ⟨hBr, _, hr⟩ := h3 r (by simp)
      have hlt := (Array.getElem?_eq_some_iff.1 hr).1
      refine ⟨by simp, .inl ⟨r, _, rfl, run_takeDeferred hr, leave_marks hv _ _ ⟨rs, rfl, h2, fun r' hr' => ⟨(h3 r' (by simp [hr'])).1, (h3 r' (by simp [hr'])).2.1, ?_⟩⟩ fun W' hb hc => h W' ?_ ?_⟩⟩
      · rw [World.putObj_heap_other (fun e => hn (by rw [← e]; exact hr'))]; exact (h3 r' (by simp [hr'])).2.2
      · have h0 : Below B W (W.putObj r (.deferred none)) := ⟨rfl, rfl, rfl, by simp, fun k hk => World.putObj_heap_other (by omega)⟩
        exact h0.trans hb
      · intro k c t m hk
        have hne : k ≠ r := fun e => by subst e; rw [hr] at hk; simp at hk
        have := World.putObj_heap_other (w := W) (o := .deferred none) hne
        rw [hc k c t m (this.trans hk), this]

set_option maxRecDepth 100000 in
set_option maxHeartbeats 4000000 in
theorem Widen_any (w : World) (r : Roads) (f : Flock) (a : Option Addr) (cap : Nat) (hs : StripsAt w a r.strips) (hm : r.strips.length ≤ maxLen) (fr tt day by' : Int) :
    Calls Tryz.prog 19 #[.agg #[.int .i64 r.days, .int .i64 r.stages, .slice a r.strips.length cap], .agg #[.int .i64 f.heads, .int .i64 f.pace], .int .i64 fr, .int .i64 tt, .int .i64 day, .int .i64 by'] w (WidenPost w r f fr tt day by') := by
  have hb0 : Below w.heap.size w (((((((w.alloc (.cells #[.int .i64 r.days, .int .i64 r.stages, .slice a r.strips.length cap] 24)).alloc (.cells #[.int .i64 f.heads, .int .i64 f.pace] 45)).alloc (.cells #[.int .i64 fr] 3)).alloc (.cells #[.int .i64 tt] 3)).alloc (.cells #[.int .i64 day] 3)).alloc (.cells #[.int .i64 by'] 3)).alloc (.cells #[.int .i64 fr, .int .i64 r.stages, .int .i64 tt, .int .i64 r.stages, .int .i64 day, .int .i64 r.days, .int .i64 by', .int .i64 r.days] 3)) :=
    (((((((Below.refl _ _).alloc (Nat.le_refl _) _).alloc (by simp) _).alloc (by simp; omega) _).alloc (by simp; omega) _).alloc (by simp; omega) _).alloc (by simp; omega) _).alloc (by simp; omega) _
  have hp := @ints_new ((((((w.alloc (.cells #[.int .i64 r.days, .int .i64 r.stages, .slice a r.strips.length cap] 24)).alloc (.cells #[.int .i64 f.heads, .int .i64 f.pace] 45)).alloc (.cells #[.int .i64 fr] 3)).alloc (.cells #[.int .i64 tt] 3)).alloc (.cells #[.int .i64 day] 3)).alloc (.cells #[.int .i64 by'] 3)) [fr, r.stages, tt, r.stages, day, r.days, by', r.days]
  simp only [World.size_alloc] at hp
  have HM := Lib.hid hm; clear hm
  have HO := Lib.hid (fun hc => @odd8 r hc fr tt day by')
  refine callsIn_wide.1 (callsIn_of_wp_marks (n := 5) Tryz.func19 rfl trivial (wpIn_wide.2 ?_) rfl)
  simp only [Tryz.ntmps19, List.size_toArray, List.length_cons, List.length_nil, Nat.reduceAdd, Nat.reduceSub, Array.replicate_succ, Array.replicate_zero, List.push_toArray, List.append_toArray, List.nil_append, List.cons_append]
  go_wp2_with fail
  go_step3
  go_wp2_with fail
  refine (ready_any _ r f [fr, r.stages, tt, r.stages, day, r.days, by', r.days] a cap _ 8 (hs.below hb0) HM.out hp (by simp) HO.out).mono ?_
  rintro e w1 (⟨hz, b, rfl, hW, hbb, _, hb1⟩ | ⟨hz, rfl, hb1⟩)
  · obtain ⟨g, hpz⟩ := ready_zero hz
    obtain ⟨⟨p1, p2⟩, ⟨p3, p4⟩, ⟨p5, p6⟩, p7, p8⟩ := pairs8.1 hpz
    have hg := g.s2
    have hd := g.d2
    have hn8 := g.n8
    obtain ⟨k, hk⟩ := Int.eq_ofNat_of_zero_le p1
    obtain ⟨j, hj⟩ := Int.eq_ofNat_of_zero_le p3
    have Hz := Lib.hid hz; clear hz hpz
    subst hk hj
    have hb01 := hb0.trans (hb1.mono hb0.size)
    go_wp2_with fail
    generalize hW0 : ((w1.alloc (.cells #[.pointer (some ⟨b, 0, none⟩)] 88)).alloc (.cells #[.slice none 0 0] 25)).alloc (.cells #[.bool false] 4) = W0
    have hb23 : Below w1.heap.size w1 W0 := by rw [← hW0]; exact (((Below.refl _ _).alloc (Nat.le_refl _) _).alloc (by simp) _).alloc (by simp; omega) _
    have hz0 : W0.heap.size = w1.heap.size + 1 + 1 + 1 := by rw [← hW0]; simp
    have zw : W0.cell? ⟨w1.heap.size, 0, none⟩ = some (.pointer (some ⟨b, 0, none⟩)) := by rw [← hW0]; simp [go_sem]
    have zo : W0.cell? ⟨w1.heap.size + 1, 0, none⟩ = some (.slice none 0 0) := by rw [← hW0]; simp [go_sem]
    have zi : W0.cell? ⟨w1.heap.size + 1 + 1, 0, none⟩ = some (.bool false) := by rw [← hW0]; simp [go_sem]
    have xo : W0.frozen? ⟨w1.heap.size + 1, 0, none⟩ = false := by rw [← hW0]; simp [go_sem]
    have xi : W0.frozen? ⟨w1.heap.size + 1 + 1, 0, none⟩ = false := by rw [← hW0]; simp [go_sem]
    have back : ∀ bb oo v, (((((((w.alloc (.cells #[.int .i64 r.days, .int .i64 r.stages, .slice a r.strips.length cap] 24)).alloc (.cells #[.int .i64 f.heads, .int .i64 f.pace] 45)).alloc (.cells #[.int .i64 k] 3)).alloc (.cells #[.int .i64 j] 3)).alloc (.cells #[.int .i64 day] 3)).alloc (.cells #[.int .i64 by'] 3)).alloc (.cells #[.int .i64 k, .int .i64 r.stages, .int .i64 j, .int .i64 r.stages, .int .i64 day, .int .i64 r.days, .int .i64 by', .int .i64 r.days] 3)).cell? ⟨bb, oo, none⟩ = some v → W0.cell? ⟨bb, oo, none⟩ = some v := by
      intro bb oo v hv
      have h1 := ((bcell hb1).1 _ _ (lt_of_cell hv)).trans hv
      exact ((bcell hb23).1 _ _ (lt_of_cell h1)).trans h1
    have z2 : W0.cell? ⟨w.heap.size, 2, none⟩ = some (.slice a r.strips.length cap) := back _ _ _ (by simp [go_sem])
    have zf : W0.cell? ⟨w.heap.size + 1 + 1, 0, none⟩ = some (.int .i64 k) := back _ _ _ (by simp [go_sem])
    have zt : W0.cell? ⟨w.heap.size + 1 + 1 + 1, 0, none⟩ = some (.int .i64 j) := back _ _ _ (by simp [go_sem])
    have zd : W0.cell? ⟨w.heap.size + 1 + 1 + 1 + 1, 0, none⟩ = some (.int .i64 day) := back _ _ _ (by simp [go_sem])
    have zb : W0.cell? ⟨w.heap.size + 1 + 1 + 1 + 1 + 1, 0, none⟩ = some (.int .i64 by') := back _ _ _ (by simp [go_sem])
    have hW0' : WorkAt W0 b r f (-1) a cap := hW.below hb23
    have hB0 : Below w.heap.size w W0 := hb01.trans (hb23.mono hb01.size)
    clear back hW0 hW hb23 hb1 hb0 hp hs
    have HW0 := Lib.hid hW0'; clear hW0'
    go_step3
    go_wp2_with fail
    refine wp_loop_ghost_k (fun gk a' W' => ∃ (m : Nat) (ds : List Deferred) (u42 u43 u44 u45 u46 u47 u48 u49 u50 u51 u52 u53 : Value), gk + m = r.strips.length + 1 ∧ (∀ m', m' < m → (picksF r.strips.length m' 0).find? (widenT r f k j day by') = none) ∧ Below W0.heap.size W0 W' ∧ Marks W0.heap.size W'.heap.size W' ds ∧
      a' = { tmps := #[Value.agg #[.int .i64 r.days, .int .i64 r.stages, .slice a r.strips.length cap], Value.agg #[.int .i64 f.heads, .int .i64 f.pace], Value.int .i64 k, Value.int .i64 j, Value.int .i64 day, Value.int .i64 by', Value.pointer (some ⟨w.heap.size, 0, none⟩), Value.pointer (some ⟨w.heap.size + 1, 0, none⟩), Value.pointer (some ⟨w.heap.size + 1 + 1, 0, none⟩), Value.pointer (some ⟨w.heap.size + 1 + 1 + 1, 0, none⟩), Value.pointer (some ⟨w.heap.size + 1 + 1 + 1 + 1, 0, none⟩), Value.pointer (some ⟨w.heap.size + 1 + 1 + 1 + 1 + 1, 0, none⟩), Value.slice none 0 0, Value.int .i64 0, Value.pointer (some ⟨w1.heap.size, 0, none⟩), Value.int .i64 0, Value.pointer (some ⟨w1.heap.size + 1, 0, none⟩), Value.pointer (some ⟨w1.heap.size + 1 + 1, 0, none⟩), Value.int .i64 m, undef, Value.tuple #[.pointer (some ⟨b, 0, none⟩), .int .i64 0], Value.agg #[.int .i64 r.days, .int .i64 r.stages, .slice a r.strips.length cap], Value.agg #[.int .i64 f.heads, .int .i64 f.pace], Value.int .i64 k, Value.pointer (some ⟨w.heap.size, 1, none⟩), Value.int .i64 r.stages, Value.int .i64 j, Value.pointer (some ⟨w.heap.size, 1, none⟩), Value.int .i64 r.stages, Value.int .i64 day, Value.pointer (some ⟨w.heap.size, 0, none⟩), Value.int .i64 r.days, Value.int .i64 by', Value.pointer (some ⟨w.heap.size, 0, none⟩), Value.int .i64 r.days, Value.slice (some ⟨w.heap.size + 1 + 1 + 1 + 1 + 1 + 1, 0, none⟩) 8 8, Value.tuple #[.pointer (some ⟨b, 0, none⟩), .int .i64 0], Value.pointer (some ⟨b, 0, none⟩), Value.int .i64 0, Value.int .i64 0, Value.bool false, undef, u42, u43, u44, u45, u46, u47, u48, u49, u50, u51, u52, u53, undef, undef, undef, undef, undef, undef, undef, undef, undef, undef, undef, undef, undef, undef], defers := ds }) (r.strips.length + 1) ?_ ?_
    · exact ⟨0, [], _, _, _, _, _, _, _, _, _, _, _, _, rfl, fun m' h => by omega, Below.refl _ _, Marks.nil _ _ _, rfl⟩
    · rintro gk _ wr ⟨m, ds, u42, u43, u44, u45, u46, u47, u48, u49, u50, u51, u52, u53, hgm, hnone, hbr, hmk, rfl⟩ J K hJ hK
      dsimp only
      have Hnone := Lib.hid hnone; clear hnone
      have Hgm := Lib.hid hgm; clear hgm
      have Hmk := Lib.hid hmk; clear hmk
      have c2 := ((bcell hbr).1 _ _ (lt_of_cell z2)).trans z2
      have q1 := ((bcell hbr).1 _ _ (lt_of_cell zf)).trans zf
      have q2 := ((bcell hbr).1 _ _ (lt_of_cell zt)).trans zt
      have q3 := ((bcell hbr).1 _ _ (lt_of_cell zd)).trans zd
      have q4 := ((bcell hbr).1 _ _ (lt_of_cell zb)).trans zb
      have q5 := ((bcell hbr).1 _ _ (lt_of_cell zw)).trans zw
      have q6 := ((bcell hbr).1 _ _ (lt_of_cell zo)).trans zo
      have q7 := ((bcell hbr).1 _ _ (lt_of_cell zi)).trans zi
      by_cases hlt : m ≤ r.strips.length
      · go_wp2_with fail
        refine (lists_any _ r.strips.length m).mono ?_
        rintro e w2 ⟨rfl, rfl⟩
        go_wp2_with fail
        have hbq : Below wr.heap.size wr ((wr.alloc (.cells #[.int .i64 r.strips.length] 3)).alloc (.cells #[.int .i64 m] 3)) := ((Below.refl _ _).alloc (Nat.le_refl _) _).alloc (by simp) _
        refine wp_range_lists 0 wr.heap.size (wr.heap.size + 1) r.strips.length m hlt (by omega) rfl ?hcn ?hcm (widenT r f k j day by') (Found w (w1.heap.size + 1) (w1.heap.size + 1 + 1) W0.heap.size wr.heap.size ds) ?hX
          (fun gb => { tmps := ((#[Value.agg #[.int .i64 r.days, .int .i64 r.stages, .slice a r.strips.length cap], Value.agg #[.int .i64 f.heads, .int .i64 f.pace], Value.int .i64 k, Value.int .i64 j, Value.int .i64 day, Value.int .i64 by', Value.pointer (some ⟨w.heap.size, 0, none⟩), Value.pointer (some ⟨w.heap.size + 1, 0, none⟩), Value.pointer (some ⟨w.heap.size + 1 + 1, 0, none⟩), Value.pointer (some ⟨w.heap.size + 1 + 1 + 1, 0, none⟩), Value.pointer (some ⟨w.heap.size + 1 + 1 + 1 + 1, 0, none⟩), Value.pointer (some ⟨w.heap.size + 1 + 1 + 1 + 1 + 1, 0, none⟩), Value.slice none 0 0, Value.int .i64 0, Value.pointer (some ⟨w1.heap.size, 0, none⟩), Value.int .i64 0, Value.pointer (some ⟨w1.heap.size + 1, 0, none⟩), Value.pointer (some ⟨w1.heap.size + 1 + 1, 0, none⟩), Value.int .i64 m, undef, Value.tuple #[.pointer (some ⟨b, 0, none⟩), .int .i64 0], Value.agg #[.int .i64 r.days, .int .i64 r.stages, .slice a r.strips.length cap], Value.agg #[.int .i64 f.heads, .int .i64 f.pace], Value.int .i64 k, Value.pointer (some ⟨w.heap.size, 1, none⟩), Value.int .i64 r.stages, Value.int .i64 j, Value.pointer (some ⟨w.heap.size, 1, none⟩), Value.int .i64 r.stages, Value.int .i64 day, Value.pointer (some ⟨w.heap.size, 0, none⟩), Value.int .i64 r.days, Value.int .i64 by', Value.pointer (some ⟨w.heap.size, 0, none⟩), Value.int .i64 r.days, Value.slice (some ⟨w.heap.size + 1 + 1 + 1 + 1 + 1 + 1, 0, none⟩) 8 8, Value.tuple #[.pointer (some ⟨b, 0, none⟩), .int .i64 0], Value.pointer (some ⟨b, 0, none⟩), Value.int .i64 0, Value.int .i64 0, Value.bool false, undef, Value.int .i64 m, Value.pointer (some ⟨w.heap.size, 2, none⟩), Value.slice a r.strips.length cap, Value.int .i64 r.strips.length, Value.bool true, u47, u48, Value.pointer (some ⟨w.heap.size, 2, none⟩), Value.slice a r.strips.length cap, Value.int .i64 r.strips.length, Value.int .i64 m, Value.func (.func 74) #[] #[.pointer (some ⟨wr.heap.size + 1, 0, none⟩), .pointer (some ⟨wr.heap.size, 0, none⟩)], undef, undef, undef, undef, undef, undef, undef, undef, undef, undef, undef, undef, undef, undef] : Array Value).setIfInBounds 54 (.slice (some ⟨gb, 0, none⟩) m m)).setIfInBounds 19 (.slice (some ⟨gb, 0, none⟩) m m), defers := [] }) ?hassign ?hbody ?hdone ?hstop
        case hcn => simp [go_sem]
        case hcm => simp [go_sem]
        case hX => exact fun x V l r' o hl hr h => h.putObj o (by have := hB0.size; have := hbr.size; simp at hl; omega) hr
        case hassign =>
          intro l gb V K hK
          gi_wp2
          exact hK
        case hbody =>
          intro l gb x V hx hbV hgb hrow
          simp only [List.setIfInBounds_toArray, List.set_cons_succ, List.set_cons_zero]
          have hV := hbq.trans (hbV.mono hbq.size)
          have hVc := (bcell hV).1
          have hVf := (bcell hV).2
          have v1 := (hVc _ _ (lt_of_cell q1)).trans q1
          have v2 := (hVc _ _ (lt_of_cell q2)).trans q2
          have v3 := (hVc _ _ (lt_of_cell q3)).trans q3
          have v4 := (hVc _ _ (lt_of_cell q4)).trans q4
          have v5 := (hVc _ _ (lt_of_cell q5)).trans q5
          have v6 := (hVc _ _ (lt_of_cell q6)).trans q6
          have v7 := (hVc _ _ (lt_of_cell q7)).trans q7
          have HWV := Lib.hid (((HW0.out.below hbr).below hV).below (Below.refl _ _).drew)
          have hin := picks_in hx
          obtain ⟨hxl, hxlo, hxhi⟩ := hin
          subst hxl
          have HX : Hid (∀ y ∈ x, 0 ≤ y ∧ y < r.strips.length) := Lib.hid fun y hy => by
            obtain ⟨i, hi, rfl⟩ := List.mem_iff_getElem.1 hy
            have := hxlo i hi
            have := hxhi i hi
            omega
          have HI0 := Lib.hid hrow.ints
          have HI := Lib.hid (hrow.ints.below (Below.refl _ _).drew)
          have hT : widenT r f k j day by' x = canB (widenR r x) f (-1) k j day by' := rfl
          have HT := Lib.hid hT; clear hT
          have HbV := Lib.hid hV
          have hb0V : Below W0.heap.size W0 V := hbr.trans (hV.mono hbr.size)
          clear hxlo hxhi hx hVc hVf c2 q1 q2 q3 q4 q5 q6 q7 z2 zf zt zd zb zw zo zi hbV hbq hrow hV
          have hmx : Tryz.prog.follows .mixedOrders = true := by kernel_rfl
          gi_wp2
          refine wpIn_region_held (S := fun W => W.cell? ⟨w1.heap.size, 0, none⟩ = some (.pointer (some ⟨b, 0, none⟩)) ∧ W.cell? ⟨w.heap.size + 1 + 1, 0, none⟩ = some (.int .i64 k) ∧ W.cell? ⟨w.heap.size + 1 + 1 + 1, 0, none⟩ = some (.int .i64 j) ∧
            W.cell? ⟨w.heap.size + 1 + 1 + 1 + 1, 0, none⟩ = some (.int .i64 day) ∧ W.cell? ⟨w.heap.size + 1 + 1 + 1 + 1 + 1, 0, none⟩ = some (.int .i64 by')) hmx (by kernel_rfl) ?_ ?_
          · rintro ⟨_, _, h⟩; exact h
          have hS : V.drew.cell? ⟨w1.heap.size, 0, none⟩ = some (.pointer (some ⟨b, 0, none⟩)) ∧ V.drew.cell? ⟨w.heap.size + 1 + 1, 0, none⟩ = some (.int .i64 k) ∧ V.drew.cell? ⟨w.heap.size + 1 + 1 + 1, 0, none⟩ = some (.int .i64 j) ∧
            V.drew.cell? ⟨w.heap.size + 1 + 1 + 1 + 1, 0, none⟩ = some (.int .i64 day) ∧ V.drew.cell? ⟨w.heap.size + 1 + 1 + 1 + 1 + 1, 0, none⟩ = some (.int .i64 by') := ⟨v5, v1, v2, v3, v4⟩
          refine take_held 0 55 (.pointer (some ⟨b, 0, none⟩)) rfl rfl (by kernel_rfl) (by kernel_rfl) (by kernel_rfl) (fun _ _ _ h => h) (Or.inl ⟨by rfl, fun W ⟨s1, s2, s3, s4, s5⟩ => by go_simp⟩) hS ?_
          simp only [Act.put, List.setIfInBounds_toArray, List.set_cons_zero, List.set_cons_succ]
          refine take_held 1 56 (.slice (some ⟨gb, 0, none⟩) x.length x.length) rfl rfl (by kernel_rfl) (by kernel_rfl) (by kernel_rfl) (fun _ _ _ h => h) (Or.inl ⟨by rfl, fun W ⟨s1, s2, s3, s4, s5⟩ => by go_simp⟩) hS ?_
          simp only [Act.put, List.setIfInBounds_toArray, List.set_cons_zero, List.set_cons_succ]
          refine take_held 3 58 (.int .i64 k) rfl rfl (by kernel_rfl) (by kernel_rfl) (by kernel_rfl) (fun _ _ _ h => h) (Or.inl ⟨by rfl, fun W ⟨s1, s2, s3, s4, s5⟩ => by go_simp⟩) hS ?_
          simp only [Act.put, List.setIfInBounds_toArray, List.set_cons_zero, List.set_cons_succ]
          refine take_held 4 59 (.int .i64 j) rfl rfl (by kernel_rfl) (by kernel_rfl) (by kernel_rfl) (fun _ _ _ h => h) (Or.inl ⟨by rfl, fun W ⟨s1, s2, s3, s4, s5⟩ => by go_simp⟩) hS ?_
          simp only [Act.put, List.setIfInBounds_toArray, List.set_cons_zero, List.set_cons_succ]
          refine take_held 5 60 (.int .i64 day) rfl rfl (by kernel_rfl) (by kernel_rfl) (by kernel_rfl) (fun _ _ _ h => h) (Or.inl ⟨by rfl, fun W ⟨s1, s2, s3, s4, s5⟩ => by go_simp⟩) hS ?_
          simp only [Act.put, List.setIfInBounds_toArray, List.set_cons_zero, List.set_cons_succ]
          refine take_held 6 61 (.int .i64 by') rfl rfl (by kernel_rfl) (by kernel_rfl) (by kernel_rfl) (fun _ _ _ h => h) (Or.inl ⟨by rfl, fun W ⟨s1, s2, s3, s4, s5⟩ => by go_simp⟩) hS ?_
          simp only [Act.put, List.setIfInBounds_toArray, List.set_cons_zero, List.set_cons_succ]
          refine call_held 2 57 (f := 45) (args := #[.pointer (some ⟨b, 0, none⟩), .slice (some ⟨gb, 0, none⟩) x.length x.length]) (w' := V.drew) (by kernel_rfl) rfl rfl (by rfl) (by go_simp) _ (widened_any _ b r f (-1) a cap HWV.out (by omega) _ _ x HI.out HX.out (by omega)) ?_
          rintro e w2 ⟨b', a', cap', rfl, hW2, hb2⟩
          refine ⟨_, rfl, ⟨((bcell hb2).1 _ _ (lt_of_cell hS.1)).trans hS.1, ((bcell hb2).1 _ _ (lt_of_cell hS.2.1)).trans hS.2.1, ((bcell hb2).1 _ _ (lt_of_cell hS.2.2.1)).trans hS.2.2.1, ((bcell hb2).1 _ _ (lt_of_cell hS.2.2.2.1)).trans hS.2.2.2.1, ((bcell hb2).1 _ _ (lt_of_cell hS.2.2.2.2)).trans hS.2.2.2.2⟩, ?_⟩
          simp only [Act.put, List.setIfInBounds_toArray, List.set_cons_zero, List.set_cons_succ]
          refine call_held 7 62 (f := 46) (args := #[.pointer (some ⟨b', 0, none⟩), .int .i64 k, .int .i64 j, .int .i64 day, .int .i64 by']) (w' := w2) (by kernel_rfl) rfl rfl (by rfl) (by go_simp) _ (can_any _ _ _ f (-1) _ _ hW2 (good_widen g x) k j (by omega) (by omega) day by' p5 (by omega) p7 (by omega)) ?_
          rintro e w3 ⟨rfl, hb3⟩
          have hb23 := hb2.trans (hb3.mono hb2.size)
          refine ⟨_, rfl, ⟨((bcell hb23).1 _ _ (lt_of_cell hS.1)).trans hS.1, ((bcell hb23).1 _ _ (lt_of_cell hS.2.1)).trans hS.2.1, ((bcell hb23).1 _ _ (lt_of_cell hS.2.2.1)).trans hS.2.2.1, ((bcell hb23).1 _ _ (lt_of_cell hS.2.2.2.1)).trans hS.2.2.2.1, ((bcell hb23).1 _ _ (lt_of_cell hS.2.2.2.2)).trans hS.2.2.2.2⟩, ?_⟩
          simp only [Act.put, List.setIfInBounds_toArray, List.set_cons_zero, List.set_cons_succ]
          refine wpAnyH_done (by kernel_rfl) ?_ _
          rw [← HT.out]
          clear hS hb2 hb3
          have hbV3 : Below V.heap.size V w3 := (Below.refl _ _).drew.trans (hb23.mono (Nat.le_refl _))
          clear hb23
          have v6' := ((bcell hbV3).1 _ _ (lt_of_cell v6)).trans v6
          have v7' := ((bcell hbV3).1 _ _ (lt_of_cell v7)).trans v7
          cases hTx : widenT r f k j day by' x
          · have HTx := Lib.hid hTx; clear hTx
            gi_wp2_with fail
            exact ⟨hbV3, HTx.out⟩
          · have HTx := Lib.hid hTx; clear hTx
            gi_wp2_with fail
            refine ⟨trivial, CallsIn.inRound l (callsIn_wide.2 ((clone_ints_any w3 gb 0 x.length x (HI0.out.below hbV3) (by omega)).mono ?_))⟩
            rintro e w4 ⟨v, rfl, hown, hb4⟩
            have hbV4 : Below V.heap.size V w4 := hbV3.trans (hb4.mono hbV3.size)
            have hb04 : Below W0.heap.size W0 w4 := hbr.trans ((HbV.out.trans (hbV4.mono HbV.out.size)).mono hbr.size)
            have y6 := ((bcell hbV4).1 _ _ (lt_of_cell v6)).trans v6
            have y7 := ((bcell hbV4).1 _ _ (lt_of_cell v7)).trans v7
            have f6 := ((bcell hb04).2 (w1.heap.size + 1) 0 (by omega)).trans xo
            have f7 := ((bcell hb04).2 (w1.heap.size + 1 + 1) 0 (by omega)).trans xi
            obtain ⟨sa, sc, rfl, _, _⟩ := hown.ints
            have Hown := Lib.hid hown; clear hown
            have s0 := hb0V.size
            have s1 := hbV3.size
            have s4 := hb4.size
            clear v6' v7' v6 v7 v1 v2 v3 v4 v5
            gi_wp2_with fail
            have hw5 : ∀ q, q ≠ w1.heap.size + 1 → q ≠ w1.heap.size + 1 + 1 → ((w4.setCell ⟨w1.heap.size + 1, 0, none⟩ (.slice sa x.length sc)).setCell ⟨w1.heap.size + 1 + 1, 0, none⟩ (.bool true)).heap[q]? = w4.heap[q]? := fun q h1 h2 =>
              (Below.heap_setCell _ ⟨w1.heap.size + 1 + 1, 0, none⟩ _ q h2).trans (Below.heap_setCell _ ⟨w1.heap.size + 1, 0, none⟩ _ q h1)
            have hsr := hbr.size
            refine ⟨rfl, ⟨by simp; omega, fun q hq1 hq2 => ?_⟩, HTx.out, ⟨.slice sa x.length sc, ?_, ?_, ?_, ?_, ?_⟩⟩
            · simp at hq1
              rw [hw5 q (by omega) (by omega)]; exact hbV4.block q hq2
            · rw [World.cell?_setCell_other _ _ _ _ (by simp)]; exact World.cell?_setCell_same _ _ _ y6
            · exact (Hown.out.mono (by omega)).same fun q hq1 _ => hw5 q (by omega) (by omega)
            · exact World.cell?_setCell_same _ _ _ (by rw [World.cell?_setCell_other _ _ _ _ (by simp)]; exact y7)
            · refine ((hB0.trans (hb04.mono hB0.size)).setCell (p := ⟨w1.heap.size + 1, 0, none⟩) ?_ _).setCell (p := ⟨w1.heap.size + 1 + 1, 0, none⟩) ?_ _
              · show w.heap.size ≤ w1.heap.size + 1; have := hb01.size; omega
              · show w.heap.size ≤ w1.heap.size + 1 + 1; have := hb01.size; omega
            · refine Hmk.out.keep (Nat.le_refl _) fun q hq1 hq2 _ => ?_
              rw [hw5 q (by omega) (by omega), hbV4.block q (by have := HbV.out.size; omega)]; exact HbV.out.block q hq2
        case hdone =>
          intro D W hf hbW hD hd
          have hbW' : Below wr.heap.size wr W := hbq.trans (hbW.mono hbq.size)
          simp at hD
          have hlt' := (Array.getElem?_eq_some_iff.1 hd).1
          have Hd := Lib.hid hd; clear hd
          have Hf := Lib.hid hf; clear hf
          have hsr := hbr.size
          go_wp2_with fail
          refine (Handed.intro (gk - 1) (by have := Hgm.out; omega) (hJ _ _ _ ⟨m + 1, { target := .collected D, args := #[] } :: ds, _, _, _, _, _, _, _, _, _, _, _, _, by have := Hgm.out; omega, ?_, hbr.trans (hbW'.mono hbr.size), ?_, rfl⟩))
          · intro m' hm'
            by_cases e : m' = m
            · subst e; exact Hf.out
            · exact Hnone.out m' (by omega)
          · exact (Hmk.out.keep (Nat.le_refl _) fun q _ hq2 _ => hbW'.block q hq2).cons (by omega) hlt' (by omega) Hd.out
        case hstop =>
          intro D x W hf hF hD hd
          obtain ⟨v, y6, hown, y7, hbW, hmW⟩ := hF
          obtain ⟨sa, sc, rfl, _, _⟩ := hown.ints
          simp at hD
          have hlt' := (Array.getElem?_eq_some_iff.1 hd).1
          have Hd := Lib.hid hd; clear hd
          have Hf := Lib.hid hf; clear hf
          have Hown := Lib.hid hown; clear hown
          have HmW := Lib.hid hmW; clear hmW
          have hsr := hbr.size
          have hsB := hB0.size
          clear c2 q1 q2 q3 q4 q5 q6 q7 z2 zf zt zd zb zw zo zi
          go_wp2_with fail
          refine leave_marks (fun W => results_tmp2 rfl _ _ W) _ W (HmW.out.cons (D := D) (by omega) hlt' (by omega) Hd.out) fun W' hbW' hcW' => ?_
          have hw : widenL r f k j day by' = some x := by
            unfold widenL
            rw [List.findSome?_eq_some_iff]
            refine ⟨List.range m, m, (List.range' (m + 1) (r.strips.length - m)), ?_, Hf.out, fun m' hm' => Hnone.out m' (by simpa using hm')⟩
            rw [List.range_eq_range', List.range_eq_range', show m :: List.range' (m + 1) (r.strips.length - m) = List.range' m (r.strips.length - m + 1) from (List.range'_succ ..).symm]
            have := List.range'_append_1 (s := 0) (m := m) (n := r.strips.length - m + 1)
            rw [Nat.zero_add] at this
            rw [this]; congr 1; omega
          refine ⟨hbW.trans (hbW'.mono (by omega)), .inr (.inl ⟨Hz.out, x, _, hw, rfl, ?_⟩)⟩
          obtain ⟨g1, g2⟩ := Hown.out
          refine ⟨g1, ?_⟩
          rcases g2 with g2 | ⟨g, cap, cur, hv, hg, hh, r⟩
          · exact .inl g2
          · exact .inr ⟨g, cap, cur, hv, by omega, (hcW' _ _ _ _ hh).trans hh, r⟩
      · go_wp2_with fail
        refine leave_marks (fun W => results_tmp2 rfl _ _ W) ds wr Hmk.out fun W' hbW _ => ?_
        have hw : widenL r f k j day by' = none := by
          unfold widenL
          rw [List.findSome?_eq_none_iff]
          exact fun m' hm' => Hnone.out m' (by have := List.mem_range.1 hm'; omega)
        exact ⟨hB0.trans ((hbr.trans (hbW.mono (Nat.le_refl _))).mono hB0.size), .inl ⟨Hz.out, hw, rfl⟩⟩
  · have hne : (readyErr r f [fr, r.stages, tt, r.stages, day, r.days, by', r.days] != 0) = true := by simpa using hz
    have Hz := Lib.hid hz; clear hz
    go_wp2_with fail
    rw [Exit.noGoto_ret]
    exact leave_marks (fun W => results_tmp2 rfl _ _ W) [] _ (Marks.nil w.heap.size 0 _) fun W' hbW _ => ⟨(hb0.trans ((hb1.trans (Below.alloc (Below.refl _ _) hb1.size _)).mono hb0.size)).trans hbW, .inr (.inr ⟨Hz.out, rfl⟩)⟩
end Go.Proofs.YtmkjeonjhedgkaaGreatDoor
