/- The contracts of (road.wrong).pair and (road.wrong).signed. -/
import Derived.Test.YtmkjeonjhedgkaaGreatDoorNum
import Derived.Test.YtmkjeonjhedgkaaGreatDoorSplitK
namespace Go.Proofs.YtmkjeonjhedgkaaGreatDoor
set_option linter.unusedSimpArgs false
set_option linter.unusedVariables false
open Go.RowKit

def PairPost (w : World) (n : Int) (o : Option (Int × Int)) : Ending → World → Prop := fun e w' => Below w.heap.size w w' ∧ e = match o with | some (x, y) => .returned (.tuple #[.int .i64 x, .int .i64 y]) | none => .panicked (wrongP n)
theorem NumPost.get {w w' : World} {n : Int} {o : Option Int} {e : Ending} (h : NumPost w n o e w') : Below w.heap.size w w' ∧ ((∃ v, o = some v ∧ e = .returned (.int .i64 v)) ∨ (o = none ∧ e = .panicked (wrongP n))) := by
  obtain ⟨h1, h2⟩ := h
  cases o with
  | none => exact ⟨h1, .inr ⟨rfl, h2⟩⟩
  | some v => exact ⟨h1, .inl ⟨v, rfl, h2⟩⟩
set_option maxRecDepth 100000 in
set_option maxHeartbeats 4000000 in
theorem pair_body : Tryz.f80.body = some (Code.seq (regionIn Tryz.f80 0) (Code.seq (regionIn Tryz.f80 1) (Code.seq (Code.seq (regionIn Tryz.f80 2) (Code.cond (Operand.tmp 16) (regionIn Tryz.f80 3) Code.skip)) (Code.seq (regionIn Tryz.f80 4) Code.ret)))) := rfl
set_option maxRecDepth 100000 in
set_option maxHeartbeats 4000000 in
theorem pairN (w : World) (n : Int) (s : List UInt8) (hm : MaxOk w) (hs : s.length < 4294967281) (hc : cutC 45 s = none) : Calls Tryz.prog 80 #[.agg #[.int .i64 n], .string ⟨s.toArray⟩] w (PairPost w n none) := by
  refine calls_of_wp Tryz.func80 pair_body ?_
  have hsl : Sl (⟨#[.agg #[.int .i64 n], .string ⟨s.toArray⟩] ++ Array.replicate (Tryz.f80.ntmps - (#[.agg #[.int .i64 n], .string ⟨s.toArray⟩] : Array Value).size) undef, []⟩ : Act) 25 [(0, .agg #[.int .i64 n]), (1, .string ⟨s.toArray⟩)] := by rw [Tryz.ntmps80]; exact Sl.entry2 _ _ (by omega)
  revert hsl; generalize (Act.mk _ _) = a0; intro hsl
  refine wp_seq ?_
  have e : regionIn Tryz.f80 0 = Code.region 0 _ false := rfl
  rw [e]; clear e
  refine wp_region ?_
  refine ops_go rfl rfl (fun K hK => ?_)
  have e0 := hsl.get 0 _ rfl
  unfold Oper.wp
  go_simp
  clear e0
  refine hK _ _ ?_; clear hK
  refine hsl.go (by decide) ?_; clear hsl; intro a1 hsl
  refine alloc_rwB (G := fun W => wpOps _ _ _ _ _ W) ?_
  intro w1 hz1 X1 hb1
  generalize hg1 : w.heap.size = bx at X1 hsl; clear hg1
  have hbx := X1.cell (o := 0) rfl
  refine ops_go rfl rfl (fun K hK => ?_)
  unfold Oper.wp
  go_simp
  refine hK _ _ ?_; clear hK
  refine hsl.go (by decide) ?_; clear hsl; intro a1 hsl
  refine ops_go rfl rfl (fun K hK => ?_)
  unfold Oper.wp
  go_simp
  refine hK _ _ ?_; clear hK
  refine hsl.go (by decide) ?_; clear hsl; intro a1 hsl
  refine ops_done ?_
  try simp only [Exit.then, Exit.inBlock, ↓reduceIte, Nat.reduceEqDiff]
  refine wp_seq ?_
  have e : regionIn Tryz.f80 1 = Code.region 1 _ false := rfl
  rw [e]; clear e
  refine wp_region ?_
  refine ops_go rfl rfl (fun K hK => ?_)
  have e1 := hsl.get 1 _ rfl
  unfold Oper.wp
  go_simp
  clear e1
  refine hK _ _ ?_; clear hK
  refine hsl.go (by decide) ?_; clear hsl; intro a1 hsl
  refine ops_go rfl rfl (fun K hK => ?_)
  have e10 := hsl.get 10 _ rfl
  unfold Oper.wp
  go_simp
  refine (cut_any _ 45 s (hm.below hb1) hs).mono ?_
  rintro e w2 ⟨hb2, rfl⟩
  rw [show cutR 45 s = _ by rw [cutR, hc]]
  clear hbx; replace X1 := X1.below hb2; have hbx := X1.cell (o := 0) rfl; replace hb2 := hb1.trans (hb2.mono hb1.size)
  clear e10
  refine hK _ _ ?_; clear hK
  refine hsl.go (by decide) ?_; clear hsl; intro a1 hsl
  refine ops_go rfl rfl (fun K hK => ?_)
  have e11 := hsl.get 11 _ rfl
  unfold Oper.wp
  go_simp
  clear e11
  refine hK _ _ ?_; clear hK
  refine hsl.go (by decide) ?_; clear hsl; intro a1 hsl
  refine ops_go rfl rfl (fun K hK => ?_)
  have e9 := hsl.get 9 _ rfl
  unfold Oper.wp
  go_simp
  clear e9
  refine hK _ _ ?_; clear hK
  refine hsl.go (by decide) ?_; clear hsl; intro a1 hsl
  refine ops_go rfl rfl (fun K hK => ?_)
  have e9 := hsl.get 9 _ rfl
  unfold Oper.wp
  go_simp
  clear e9
  refine hK _ _ ?_; clear hK
  refine hsl.go (by decide) ?_; clear hsl; intro a1 hsl
  refine ops_go rfl rfl (fun K hK => ?_)
  have e9 := hsl.get 9 _ rfl
  unfold Oper.wp
  go_simp
  clear e9
  refine hK _ _ ?_; clear hK
  refine hsl.go (by decide) ?_; clear hsl; intro a1 hsl
  refine ops_go rfl rfl (fun K hK => ?_)
  have e12 := hsl.get 12 _ rfl
  unfold Oper.wp
  go_simp
  clear e12
  refine hK _ _ ?_; clear hK
  refine hsl.go (by decide) ?_; clear hsl; intro a1 hsl
  refine ops_go rfl rfl (fun K hK => ?_)
  have e13 := hsl.get 13 _ rfl
  unfold Oper.wp
  go_simp
  clear e13
  refine hK _ _ ?_; clear hK
  refine hsl.go (by decide) ?_; clear hsl; intro a1 hsl
  refine ops_go rfl rfl (fun K hK => ?_)
  have e14 := hsl.get 14 _ rfl
  unfold Oper.wp
  go_simp
  clear e14
  refine hK _ _ ?_; clear hK
  refine hsl.go (by decide) ?_; clear hsl; intro a1 hsl
  refine ops_done ?_
  try simp only [Exit.then, Exit.inBlock, ↓reduceIte, Nat.reduceEqDiff]
  refine wp_seq ?_
  refine wp_seq ?_
  have e : regionIn Tryz.f80 2 = Code.region 2 _ false := rfl
  rw [e]; clear e
  refine wp_region ?_
  refine ops_go rfl rfl (fun K hK => ?_)
  have e8 := hsl.get 8 _ rfl
  unfold Oper.wp
  go_simp
  clear e8
  refine hK _ _ ?_; clear hK
  refine hsl.go (by decide) ?_; clear hsl; intro a1 hsl
  refine ops_go rfl rfl (fun K hK => ?_)
  have e15 := hsl.get 15 _ rfl
  unfold Oper.wp
  go_simp
  clear e15
  refine hK _ _ ?_; clear hK
  refine hsl.go (by decide) ?_; clear hsl; intro a1 hsl
  refine ops_done ?_
  try simp only [Exit.then, Exit.inBlock, ↓reduceIte, Nat.reduceEqDiff]
  refine wp_cond_true (hsl.ev 16 rfl) ?_
  have e : regionIn Tryz.f80 3 = Code.region 3 _ false := rfl
  rw [e]; clear e
  refine wp_region ?_
  refine ops_go rfl rfl (fun K hK => ?_)
  have e2 := hsl.get 2 _ rfl
  unfold Oper.wp
  go_simp
  clear e2
  refine hK _ _ ?_; clear hK
  refine hsl.go (by decide) ?_; clear hsl; intro a1 hsl
  refine ops_go rfl rfl (fun K hK => ?_)
  have e17 := hsl.get 17 _ rfl
  unfold Oper.wp
  go_simp
  clear e17
  refine hK _ _ ?_; clear hK
  refine hsl.go (by decide) ?_; clear hsl; intro a1 hsl
  refine ops_go rfl rfl (fun K hK => ?_)
  have e18 := hsl.get 18 _ rfl
  unfold Oper.wp
  go_simp
  clear e18
  try simp only [Exit.then, Exit.inBlock, ↓reduceIte, Nat.reduceEqDiff]
  exact ⟨hsl.defers, hb2, rfl⟩
set_option maxRecDepth 100000 in
set_option maxHeartbeats 4000000 in
theorem pairS (w : World) (n : Int) (s la lb : List UInt8) (hm : MaxOk w) (hs : s.length < 4294967281) (hc : cutC 45 s = some (la, lb)) : Calls Tryz.prog 80 #[.agg #[.int .i64 n], .string ⟨s.toArray⟩] w (PairPost w n (match numV la, numV lb with | some x, some y => some (x, y) | _, _ => none)) := by
  refine calls_of_wp Tryz.func80 pair_body ?_
  have hsl : Sl (⟨#[.agg #[.int .i64 n], .string ⟨s.toArray⟩] ++ Array.replicate (Tryz.f80.ntmps - (#[.agg #[.int .i64 n], .string ⟨s.toArray⟩] : Array Value).size) undef, []⟩ : Act) 25 [(0, .agg #[.int .i64 n]), (1, .string ⟨s.toArray⟩)] := by rw [Tryz.ntmps80]; exact Sl.entry2 _ _ (by omega)
  revert hsl; generalize (Act.mk _ _) = a0; intro hsl
  refine wp_seq ?_
  have e : regionIn Tryz.f80 0 = Code.region 0 _ false := rfl
  rw [e]; clear e
  refine wp_region ?_
  refine ops_go rfl rfl (fun K hK => ?_)
  have e0 := hsl.get 0 _ rfl
  unfold Oper.wp
  go_simp
  clear e0
  refine hK _ _ ?_; clear hK
  refine hsl.go (by decide) ?_; clear hsl; intro a1 hsl
  refine alloc_rwB (G := fun W => wpOps _ _ _ _ _ W) ?_
  intro w1 hz1 X1 hb1
  generalize hg1 : w.heap.size = bx at X1 hsl; clear hg1
  have hbx := X1.cell (o := 0) rfl
  refine ops_go rfl rfl (fun K hK => ?_)
  unfold Oper.wp
  go_simp
  refine hK _ _ ?_; clear hK
  refine hsl.go (by decide) ?_; clear hsl; intro a1 hsl
  refine ops_go rfl rfl (fun K hK => ?_)
  unfold Oper.wp
  go_simp
  refine hK _ _ ?_; clear hK
  refine hsl.go (by decide) ?_; clear hsl; intro a1 hsl
  refine ops_done ?_
  try simp only [Exit.then, Exit.inBlock, ↓reduceIte, Nat.reduceEqDiff]
  refine wp_seq ?_
  have e : regionIn Tryz.f80 1 = Code.region 1 _ false := rfl
  rw [e]; clear e
  refine wp_region ?_
  refine ops_go rfl rfl (fun K hK => ?_)
  have e1 := hsl.get 1 _ rfl
  unfold Oper.wp
  go_simp
  clear e1
  refine hK _ _ ?_; clear hK
  refine hsl.go (by decide) ?_; clear hsl; intro a1 hsl
  refine ops_go rfl rfl (fun K hK => ?_)
  have e10 := hsl.get 10 _ rfl
  unfold Oper.wp
  go_simp
  refine (cut_any _ 45 s (hm.below hb1) hs).mono ?_
  rintro e w2 ⟨hb2, rfl⟩
  rw [show cutR 45 s = _ by rw [cutR, hc]]
  clear hbx; replace X1 := X1.below hb2; have hbx := X1.cell (o := 0) rfl; replace hb2 := hb1.trans (hb2.mono hb1.size)
  clear e10
  refine hK _ _ ?_; clear hK
  refine hsl.go (by decide) ?_; clear hsl; intro a1 hsl
  refine ops_go rfl rfl (fun K hK => ?_)
  have e11 := hsl.get 11 _ rfl
  unfold Oper.wp
  go_simp
  clear e11
  refine hK _ _ ?_; clear hK
  refine hsl.go (by decide) ?_; clear hsl; intro a1 hsl
  refine ops_go rfl rfl (fun K hK => ?_)
  have e9 := hsl.get 9 _ rfl
  unfold Oper.wp
  go_simp
  clear e9
  refine hK _ _ ?_; clear hK
  refine hsl.go (by decide) ?_; clear hsl; intro a1 hsl
  refine ops_go rfl rfl (fun K hK => ?_)
  have e9 := hsl.get 9 _ rfl
  unfold Oper.wp
  go_simp
  clear e9
  refine hK _ _ ?_; clear hK
  refine hsl.go (by decide) ?_; clear hsl; intro a1 hsl
  refine ops_go rfl rfl (fun K hK => ?_)
  have e9 := hsl.get 9 _ rfl
  unfold Oper.wp
  go_simp
  clear e9
  refine hK _ _ ?_; clear hK
  refine hsl.go (by decide) ?_; clear hsl; intro a1 hsl
  refine ops_go rfl rfl (fun K hK => ?_)
  have e12 := hsl.get 12 _ rfl
  unfold Oper.wp
  go_simp
  clear e12
  refine hK _ _ ?_; clear hK
  refine hsl.go (by decide) ?_; clear hsl; intro a1 hsl
  refine ops_go rfl rfl (fun K hK => ?_)
  have e13 := hsl.get 13 _ rfl
  unfold Oper.wp
  go_simp
  clear e13
  refine hK _ _ ?_; clear hK
  refine hsl.go (by decide) ?_; clear hsl; intro a1 hsl
  refine ops_go rfl rfl (fun K hK => ?_)
  have e14 := hsl.get 14 _ rfl
  unfold Oper.wp
  go_simp
  clear e14
  refine hK _ _ ?_; clear hK
  refine hsl.go (by decide) ?_; clear hsl; intro a1 hsl
  refine ops_done ?_
  try simp only [Exit.then, Exit.inBlock, ↓reduceIte, Nat.reduceEqDiff]
  refine wp_seq ?_
  refine wp_seq ?_
  have e : regionIn Tryz.f80 2 = Code.region 2 _ false := rfl
  rw [e]; clear e
  refine wp_region ?_
  refine ops_go rfl rfl (fun K hK => ?_)
  have e8 := hsl.get 8 _ rfl
  unfold Oper.wp
  go_simp
  clear e8
  refine hK _ _ ?_; clear hK
  refine hsl.go (by decide) ?_; clear hsl; intro a1 hsl
  refine ops_go rfl rfl (fun K hK => ?_)
  have e15 := hsl.get 15 _ rfl
  unfold Oper.wp
  go_simp
  clear e15
  refine hK _ _ ?_; clear hK
  refine hsl.go (by decide) ?_; clear hsl; intro a1 hsl
  refine ops_done ?_
  try simp only [Exit.then, Exit.inBlock, ↓reduceIte, Nat.reduceEqDiff]
  refine wp_cond_false (hsl.ev 16 rfl) ?_
  refine wp_skip ?_
  try simp only [Exit.then, Exit.inBlock, ↓reduceIte, Nat.reduceEqDiff]
  refine wp_seq ?_
  have e : regionIn Tryz.f80 4 = Code.region 4 _ true := rfl
  rw [e]; clear e
  refine wp_region_sl (by kernel_rfl) (((hsl.nil.cons (hsl.get 7 _ rfl)).cons (hsl.get 6 _ rfl)).cons (hsl.get 2 _ rfl)) [some 19, some 20, some 21, some 22, some 23, some 24, some 4, some 5] rfl rfl (by kernel_rfl) (fun j v _ => match j with | 0 => v = .agg #[.int .i64 n] | 1 => v = .string ⟨la.toArray⟩ | 2 => (∃ z, numV la = some z ∧ v = .int .i64 z) | 3 => v = .agg #[.int .i64 n] | 4 => v = .string ⟨lb.toArray⟩ | 5 => (∃ z, numV lb = some z ∧ v = .int .i64 z) | 6 => (∃ z, numV la = some z ∧ v = .int .i64 z) | 7 => (∃ z, numV lb = some z ∧ v = .int .i64 z) | _ => True) (fun _ x => Below w2.heap.size w2 x) (Below.refl _ _).drew ?_ ?_
  · clear hsl; intro k o hkl ho L a x hI hLk hsl hs hd
    have hlt : ∀ k : Nat, k < 8 → k = 0 ∨ k = 1 ∨ k = 2 ∨ k = 3 ∨ k = 4 ∨ k = 5 ∨ k = 6 ∨ k = 7 := by decide
    rcases hlt k hkl with rfl | rfl | rfl | rfl | rfl | rfl | rfl | rfl
    · obtain rfl := Option.some.inj ho
      have e2 := hsl.get 2 _ rfl
      have hbx := (X1.below hI).cell (o := 0) rfl
      clear hs hd
      refine wpOp_go rfl rfl (fun K hK => ?_)
      unfold Oper.wp
      go_simp
      exact hK _ _ ⟨_, rfl, rfl, hI, fun _ _ h => h⟩
    · obtain rfl := Option.some.inj ho
      have e6 := hsl.get 6 _ rfl
      clear hs hd
      refine wpOp_go rfl rfl (fun K hK => ?_)
      unfold Oper.wp
      go_simp
      exact hK _ _ ⟨_, rfl, rfl, hI, fun _ _ h => h⟩
    · obtain rfl := Option.some.inj ho
      obtain ⟨v19, e19, hv19⟩ := hs 0 _ 19 rfl rfl (hd 0 (waits_mem (by kernel_rfl)))
      obtain rfl := hv19
      obtain ⟨v20, e20, hv20⟩ := hs 1 _ 20 rfl rfl (hd 1 (waits_mem (by kernel_rfl)))
      obtain rfl := hv20
      clear hs hd
      refine wpOp_go rfl rfl (fun K hK => ?_)
      unfold Oper.wp
      go_simp
      refine (number_any _ n la).mono ?_
      rintro e x2 hp
      obtain ⟨hb, ⟨z, hz, rfl⟩ | ⟨hz, rfl⟩⟩ := hp.get
      · exact hK _ _ ⟨_, rfl, ⟨z, hz, rfl⟩, hI.trans (hb.mono hI.size), fun _ _ h => h⟩
      · try simp only [Exit.then, Exit.inBlock, ↓reduceIte, Nat.reduceEqDiff]
        refine ⟨hsl.defers, hb2.trans ((hI.trans (hb.mono hI.size)).mono hb2.size), ?_⟩
        rw [hz]
    · obtain rfl := Option.some.inj ho
      have e2 := hsl.get 2 _ rfl
      have hbx := (X1.below hI).cell (o := 0) rfl
      clear hs hd
      refine wpOp_go rfl rfl (fun K hK => ?_)
      unfold Oper.wp
      go_simp
      exact hK _ _ ⟨_, rfl, rfl, hI, fun _ _ h => h⟩
    · obtain rfl := Option.some.inj ho
      have e7 := hsl.get 7 _ rfl
      clear hs hd
      refine wpOp_go rfl rfl (fun K hK => ?_)
      unfold Oper.wp
      go_simp
      exact hK _ _ ⟨_, rfl, rfl, hI, fun _ _ h => h⟩
    · obtain rfl := Option.some.inj ho
      obtain ⟨v22, e22, hv22⟩ := hs 3 _ 22 rfl rfl (hd 3 (waits_mem (by kernel_rfl)))
      obtain rfl := hv22
      obtain ⟨v23, e23, hv23⟩ := hs 4 _ 23 rfl rfl (hd 4 (waits_mem (by kernel_rfl)))
      obtain rfl := hv23
      clear hs hd
      refine wpOp_go rfl rfl (fun K hK => ?_)
      unfold Oper.wp
      go_simp
      refine (number_any _ n lb).mono ?_
      rintro e x2 hp
      obtain ⟨hb, ⟨z, hz, rfl⟩ | ⟨hz, rfl⟩⟩ := hp.get
      · exact hK _ _ ⟨_, rfl, ⟨z, hz, rfl⟩, hI.trans (hb.mono hI.size), fun _ _ h => h⟩
      · try simp only [Exit.then, Exit.inBlock, ↓reduceIte, Nat.reduceEqDiff]
        refine ⟨hsl.defers, hb2.trans ((hI.trans (hb.mono hI.size)).mono hb2.size), ?_⟩
        rw [hz]
        cases numV la <;> rfl
    · obtain rfl := Option.some.inj ho
      obtain ⟨v21, e21, hv21⟩ := hs 2 _ 21 rfl rfl (hd 2 (waits_mem (by kernel_rfl)))
      obtain ⟨z, hz, rfl⟩ := hv21
      clear hs hd
      refine wpOp_go rfl rfl (fun K hK => ?_)
      unfold Oper.wp
      go_simp
      exact hK _ _ ⟨_, rfl, ⟨z, hz, rfl⟩, hI, fun _ _ h => h⟩
    · obtain rfl := Option.some.inj ho
      obtain ⟨v24, e24, hv24⟩ := hs 5 _ 24 rfl rfl (hd 5 (waits_mem (by kernel_rfl)))
      obtain ⟨z, hz, rfl⟩ := hv24
      clear hs hd
      refine wpOp_go rfl rfl (fun K hK => ?_)
      unfold Oper.wp
      go_simp
      exact hK _ _ ⟨_, rfl, ⟨z, hz, rfl⟩, hI, fun _ _ h => h⟩
  · clear hsl; intro L a x hall hI hsl hs
    obtain ⟨v4, e4, hv4⟩ := hs 6 _ 4 rfl rfl (hall 6 (by decide))
    obtain ⟨z, hz, rfl⟩ := hv4
    obtain ⟨v5, e5, hv5⟩ := hs 7 _ 5 rfl rfl (hall 7 (by decide))
    obtain ⟨y, hy, rfl⟩ := hv5
    refine (show Code.wp Tryz.prog _ _ _ _ from ?_)
    refine wp_ret ?_
    refine bodyPost_ret (v := .tuple #[.int .i64 z, .int .i64 y]) ?_ hsl.defers ⟨hb2.trans (hI.mono hb2.size), ?_⟩
    · simp [results, Tryz.results80, e4, e5]
    · rw [hz, hy]
theorem pair_any (w : World) (n : Int) (s : List UInt8) (hm : MaxOk w) (hs : s.length < 4294967281) : Calls Tryz.prog 80 #[.agg #[.int .i64 n], .string ⟨s.toArray⟩] w (PairPost w n (hyphV s)) := by
  unfold hyphV
  cases hc : cutC 45 s with
  | none => exact pairN w n s hm hs hc
  | some p => obtain ⟨a, b⟩ := p; exact pairS w n s a b hm hs hc
set_option maxRecDepth 100000 in
set_option maxHeartbeats 4000000 in
theorem signed_body : Tryz.f79.body = some (Code.seq (regionIn Tryz.f79 0) (Code.seq (Code.seq (regionIn Tryz.f79 1) (Code.seq (regionIn Tryz.f79 2) (Code.cond (Operand.tmp 16) (Code.seq (regionIn Tryz.f79 3) Code.ret) Code.skip))) (Code.seq (regionIn Tryz.f79 4) Code.ret))) := rfl
theorem neg_wrapN : ∀ k : Nat, k < 100 → IntKind.i64.wrap (-(k : Int)) = -(k : Int) := by decide
theorem neg_wrap {z : Int} (h0 : 0 ≤ z) (h1 : z < 100) : IntKind.i64.wrap (-z) = -z := by
  obtain ⟨k, rfl⟩ : ∃ k : Nat, z = (k : Int) := ⟨z.toNat, by omega⟩
  exact neg_wrapN k (by omega)
set_option maxRecDepth 100000 in
set_option maxHeartbeats 4000000 in
theorem signedM (w : World) (n : Int) (r : List UInt8) (hr : ¬ r = [48]) : Calls Tryz.prog 79 #[.agg #[.int .i64 n], .string ⟨(45 :: r).toArray⟩] w (NumPost w n ((numV r).map fun z => -z)) := by
  refine calls_of_wp Tryz.func79 signed_body ?_
  have hsl : Sl (⟨#[.agg #[.int .i64 n], .string ⟨(45 :: r).toArray⟩] ++ Array.replicate (Tryz.f79.ntmps - (#[.agg #[.int .i64 n], .string ⟨(45 :: r).toArray⟩] : Array Value).size) undef, []⟩ : Act) 24 [(0, .agg #[.int .i64 n]), (1, .string ⟨(45 :: r).toArray⟩)] := by rw [Tryz.ntmps79]; exact Sl.entry2 _ _ (by omega)
  revert hsl; generalize (Act.mk _ _) = a0; intro hsl
  refine wp_seq ?_
  have e : regionIn Tryz.f79 0 = Code.region 0 _ false := rfl
  rw [e]; clear e
  refine wp_region ?_
  refine ops_go rfl rfl (fun K hK => ?_)
  have e0 := hsl.get 0 _ rfl
  unfold Oper.wp
  go_simp
  clear e0
  refine hK _ _ ?_; clear hK
  refine hsl.go (by decide) ?_; clear hsl; intro a1 hsl
  refine alloc_rwB (G := fun W => wpOps _ _ _ _ _ W) ?_
  intro w1 hz1 X1 hb1
  generalize hg1 : w.heap.size = bx at X1 hsl; clear hg1
  have hbx := X1.cell (o := 0) rfl
  refine ops_go rfl rfl (fun K hK => ?_)
  unfold Oper.wp
  go_simp
  refine hK _ _ ?_; clear hK
  refine hsl.go (by decide) ?_; clear hsl; intro a1 hsl
  refine ops_done ?_
  try simp only [Exit.then, Exit.inBlock, ↓reduceIte, Nat.reduceEqDiff]
  refine wp_seq ?_
  refine wp_seq ?_
  have e : regionIn Tryz.f79 1 = Code.region 1 _ false := rfl
  rw [e]; clear e
  refine wp_region ?_
  refine ops_go rfl rfl (fun K hK => ?_)
  have e1 := hsl.get 1 _ rfl
  unfold Oper.wp
  go_simp
  clear e1
  refine hK _ _ ?_; clear hK
  refine hsl.go (by decide) ?_; clear hsl; intro a1 hsl
  refine ops_go rfl rfl (fun K hK => ?_)
  have e8 := hsl.get 8 _ rfl
  unfold Oper.wp
  go_simp
  refine (cutPrefix_any _ (45 :: r)).mono ?_
  rintro e w2 ⟨rfl, rfl⟩
  rw [show prefR (45 :: r) = .tuple #[.string ⟨r.toArray⟩, .bool true] by simp [prefR]]
  clear e8
  refine hK _ _ ?_; clear hK
  refine hsl.go (by decide) ?_; clear hsl; intro a1 hsl
  refine ops_go rfl rfl (fun K hK => ?_)
  have e9 := hsl.get 9 _ rfl
  unfold Oper.wp
  go_simp
  clear e9
  refine hK _ _ ?_; clear hK
  refine hsl.go (by decide) ?_; clear hsl; intro a1 hsl
  refine ops_go rfl rfl (fun K hK => ?_)
  have e7 := hsl.get 7 _ rfl
  unfold Oper.wp
  go_simp
  clear e7
  refine hK _ _ ?_; clear hK
  refine hsl.go (by decide) ?_; clear hsl; intro a1 hsl
  refine ops_go rfl rfl (fun K hK => ?_)
  have e7 := hsl.get 7 _ rfl
  unfold Oper.wp
  go_simp
  clear e7
  refine hK _ _ ?_; clear hK
  refine hsl.go (by decide) ?_; clear hsl; intro a1 hsl
  refine ops_go rfl rfl (fun K hK => ?_)
  have e10 := hsl.get 10 _ rfl
  unfold Oper.wp
  go_simp
  clear e10
  refine hK _ _ ?_; clear hK
  refine hsl.go (by decide) ?_; clear hsl; intro a1 hsl
  refine ops_go rfl rfl (fun K hK => ?_)
  have e11 := hsl.get 11 _ rfl
  unfold Oper.wp
  go_simp
  clear e11
  refine hK _ _ ?_; clear hK
  refine hsl.go (by decide) ?_; clear hsl; intro a1 hsl
  refine ops_done ?_
  try simp only [Exit.then, Exit.inBlock, ↓reduceIte, Nat.reduceEqDiff]
  refine wp_seq ?_
  have e : regionIn Tryz.f79 2 = Code.region 2 _ false := rfl
  rw [e]; clear e
  refine wp_region ?_
  refine ops_go rfl rfl (fun K hK => ?_)
  have e6 := hsl.get 6 _ rfl
  unfold Oper.wp
  go_simp
  clear e6
  refine hK _ _ ?_; clear hK
  refine hsl.go (by decide) ?_; clear hsl; intro a1 hsl
  refine ops_go rfl rfl (fun K hK => ?_)
  have e12 := hsl.get 12 _ rfl
  unfold Oper.wp
  go_simp
  clear e12
  refine hK _ _ ?_; clear hK
  refine hsl.go (by decide) ?_; clear hsl; intro a1 hsl
  refine ops_want rfl rfl rfl rfl (hsl.get 13 _ rfl) (fun K hK => ?_)
  have e5 := hsl.get 5 _ rfl
  unfold Oper.wp
  go_simp
  clear e5
  refine hK _ _ ?_; clear hK
  refine hsl.go (by decide) ?_; clear hsl; intro a1 hsl
  refine ops_want rfl rfl rfl rfl (hsl.get 13 _ rfl) (fun K hK => ?_)
  have e14 := hsl.get 14 _ rfl
  have hne : (r == [48]) = false := by simpa using hr
  unfold Oper.wp
  go_simp
  clear e14
  refine hK _ _ ?_; clear hK
  refine hsl.go (by decide) ?_; clear hsl; intro a1 hsl
  refine ops_go rfl rfl (fun K hK => ?_)
  have e13 := hsl.get 13 _ rfl
  have e15 := hsl.get 15 _ rfl
  unfold Oper.wp
  go_simp
  clear e13 e15
  refine hK _ _ ?_; clear hK
  refine hsl.go (by decide) ?_; clear hsl; intro a1 hsl
  refine ops_done ?_
  try simp only [Exit.then, Exit.inBlock, ↓reduceIte, Nat.reduceEqDiff]
  refine wp_cond_true (hsl.ev 16 rfl) ?_
  refine wp_seq ?_
  have e : regionIn Tryz.f79 3 = Code.region 3 _ false := rfl
  rw [e]; clear e
  refine wp_region ?_
  refine ops_go rfl rfl (fun K hK => ?_)
  have e2 := hsl.get 2 _ rfl
  unfold Oper.wp
  go_simp
  clear e2
  refine hK _ _ ?_; clear hK
  refine hsl.go (by decide) ?_; clear hsl; intro a1 hsl
  refine ops_go rfl rfl (fun K hK => ?_)
  have e5 := hsl.get 5 _ rfl
  unfold Oper.wp
  go_simp
  clear e5
  refine hK _ _ ?_; clear hK
  refine hsl.go (by decide) ?_; clear hsl; intro a1 hsl
  refine ops_go rfl rfl (fun K hK => ?_)
  have e17 := hsl.get 17 _ rfl
  have e18 := hsl.get 18 _ rfl
  unfold Oper.wp
  go_simp
  refine (number_any _ n r).mono ?_
  rintro e w3 hp
  obtain ⟨hb3, ⟨z, hz, rfl⟩ | ⟨hz, rfl⟩⟩ := hp.get
  rotate_left
  · try simp only [Exit.then, Exit.inBlock, ↓reduceIte, Nat.reduceEqDiff]
    exact ⟨hsl.defers, hb1.trans (hb3.mono hb1.size), by rw [hz]; rfl⟩
  have hw := neg_wrap (numV_some hz).1 (numV_some hz).2.1
  clear e17 e18
  refine hK _ _ ?_; clear hK
  refine hsl.go (by decide) ?_; clear hsl; intro a1 hsl
  refine ops_go rfl rfl (fun K hK => ?_)
  have e19 := hsl.get 19 _ rfl
  unfold Oper.wp
  go_simp
  clear e19
  refine hK _ _ ?_; clear hK
  refine hsl.go (by decide) ?_; clear hsl; intro a1 hsl
  refine ops_go rfl rfl (fun K hK => ?_)
  have e20 := hsl.get 20 _ rfl
  unfold Oper.wp
  go_simp
  clear e20
  refine hK _ _ ?_; clear hK
  refine hsl.go (by decide) ?_; clear hsl; intro a1 hsl
  refine ops_done ?_
  try simp only [Exit.then, Exit.inBlock, ↓reduceIte, Nat.reduceEqDiff]
  refine wp_ret ?_
  refine bodyPost_ret (v := .int .i64 (-z)) ?_ hsl.defers ⟨hb1.trans (hb3.mono hb1.size), by rw [hz]; rfl⟩
  simp [results, Tryz.results79, hsl.get 4 _ rfl]
set_option maxRecDepth 100000 in
set_option maxHeartbeats 4000000 in
theorem signed0 (w : World) (n : Int)   : Calls Tryz.prog 79 #[.agg #[.int .i64 n], .string ⟨[45, 48].toArray⟩] w (NumPost w n (numV [45, 48])) := by
  refine calls_of_wp Tryz.func79 signed_body ?_
  have hsl : Sl (⟨#[.agg #[.int .i64 n], .string ⟨[45, 48].toArray⟩] ++ Array.replicate (Tryz.f79.ntmps - (#[.agg #[.int .i64 n], .string ⟨[45, 48].toArray⟩] : Array Value).size) undef, []⟩ : Act) 24 [(0, .agg #[.int .i64 n]), (1, .string ⟨[45, 48].toArray⟩)] := by rw [Tryz.ntmps79]; exact Sl.entry2 _ _ (by omega)
  revert hsl; generalize (Act.mk _ _) = a0; intro hsl
  refine wp_seq ?_
  have e : regionIn Tryz.f79 0 = Code.region 0 _ false := rfl
  rw [e]; clear e
  refine wp_region ?_
  refine ops_go rfl rfl (fun K hK => ?_)
  have e0 := hsl.get 0 _ rfl
  unfold Oper.wp
  go_simp
  clear e0
  refine hK _ _ ?_; clear hK
  refine hsl.go (by decide) ?_; clear hsl; intro a1 hsl
  refine alloc_rwB (G := fun W => wpOps _ _ _ _ _ W) ?_
  intro w1 hz1 X1 hb1
  generalize hg1 : w.heap.size = bx at X1 hsl; clear hg1
  have hbx := X1.cell (o := 0) rfl
  refine ops_go rfl rfl (fun K hK => ?_)
  unfold Oper.wp
  go_simp
  refine hK _ _ ?_; clear hK
  refine hsl.go (by decide) ?_; clear hsl; intro a1 hsl
  refine ops_done ?_
  try simp only [Exit.then, Exit.inBlock, ↓reduceIte, Nat.reduceEqDiff]
  refine wp_seq ?_
  refine wp_seq ?_
  have e : regionIn Tryz.f79 1 = Code.region 1 _ false := rfl
  rw [e]; clear e
  refine wp_region ?_
  refine ops_go rfl rfl (fun K hK => ?_)
  have e1 := hsl.get 1 _ rfl
  unfold Oper.wp
  go_simp
  clear e1
  refine hK _ _ ?_; clear hK
  refine hsl.go (by decide) ?_; clear hsl; intro a1 hsl
  refine ops_go rfl rfl (fun K hK => ?_)
  have e8 := hsl.get 8 _ rfl
  unfold Oper.wp
  go_simp
  refine (cutPrefix_any _ [45, 48]).mono ?_
  rintro e w2 ⟨rfl, rfl⟩
  rw [show prefR [45, 48] = .tuple #[.string ⟨#[48]⟩, .bool true] by simp [prefR]]
  clear e8
  refine hK _ _ ?_; clear hK
  refine hsl.go (by decide) ?_; clear hsl; intro a1 hsl
  refine ops_go rfl rfl (fun K hK => ?_)
  have e9 := hsl.get 9 _ rfl
  unfold Oper.wp
  go_simp
  clear e9
  refine hK _ _ ?_; clear hK
  refine hsl.go (by decide) ?_; clear hsl; intro a1 hsl
  refine ops_go rfl rfl (fun K hK => ?_)
  have e7 := hsl.get 7 _ rfl
  unfold Oper.wp
  go_simp
  clear e7
  refine hK _ _ ?_; clear hK
  refine hsl.go (by decide) ?_; clear hsl; intro a1 hsl
  refine ops_go rfl rfl (fun K hK => ?_)
  have e7 := hsl.get 7 _ rfl
  unfold Oper.wp
  go_simp
  clear e7
  refine hK _ _ ?_; clear hK
  refine hsl.go (by decide) ?_; clear hsl; intro a1 hsl
  refine ops_go rfl rfl (fun K hK => ?_)
  have e10 := hsl.get 10 _ rfl
  unfold Oper.wp
  go_simp
  clear e10
  refine hK _ _ ?_; clear hK
  refine hsl.go (by decide) ?_; clear hsl; intro a1 hsl
  refine ops_go rfl rfl (fun K hK => ?_)
  have e11 := hsl.get 11 _ rfl
  unfold Oper.wp
  go_simp
  clear e11
  refine hK _ _ ?_; clear hK
  refine hsl.go (by decide) ?_; clear hsl; intro a1 hsl
  refine ops_done ?_
  try simp only [Exit.then, Exit.inBlock, ↓reduceIte, Nat.reduceEqDiff]
  refine wp_seq ?_
  have e : regionIn Tryz.f79 2 = Code.region 2 _ false := rfl
  rw [e]; clear e
  refine wp_region ?_
  refine ops_go rfl rfl (fun K hK => ?_)
  have e6 := hsl.get 6 _ rfl
  unfold Oper.wp
  go_simp
  clear e6
  refine hK _ _ ?_; clear hK
  refine hsl.go (by decide) ?_; clear hsl; intro a1 hsl
  refine ops_go rfl rfl (fun K hK => ?_)
  have e12 := hsl.get 12 _ rfl
  unfold Oper.wp
  go_simp
  clear e12
  refine hK _ _ ?_; clear hK
  refine hsl.go (by decide) ?_; clear hsl; intro a1 hsl
  refine ops_want rfl rfl rfl rfl (hsl.get 13 _ rfl) (fun K hK => ?_)
  have e5 := hsl.get 5 _ rfl
  unfold Oper.wp
  go_simp
  clear e5
  refine hK _ _ ?_; clear hK
  refine hsl.go (by decide) ?_; clear hsl; intro a1 hsl
  refine ops_want rfl rfl rfl rfl (hsl.get 13 _ rfl) (fun K hK => ?_)
  have e14 := hsl.get 14 _ rfl
  unfold Oper.wp
  go_simp
  clear e14
  refine hK _ _ ?_; clear hK
  refine hsl.go (by decide) ?_; clear hsl; intro a1 hsl
  refine ops_go rfl rfl (fun K hK => ?_)
  have e13 := hsl.get 13 _ rfl
  have e15 := hsl.get 15 _ rfl
  unfold Oper.wp
  go_simp
  clear e13 e15
  refine hK _ _ ?_; clear hK
  refine hsl.go (by decide) ?_; clear hsl; intro a1 hsl
  refine ops_done ?_
  try simp only [Exit.then, Exit.inBlock, ↓reduceIte, Nat.reduceEqDiff]
  refine wp_cond_false (hsl.ev 16 rfl) ?_
  refine wp_skip ?_
  try simp only [Exit.then, Exit.inBlock, ↓reduceIte, Nat.reduceEqDiff]
  refine wp_seq ?_
  have e : regionIn Tryz.f79 4 = Code.region 4 _ false := rfl
  rw [e]; clear e
  refine wp_region ?_
  refine ops_go rfl rfl (fun K hK => ?_)
  have e2 := hsl.get 2 _ rfl
  unfold Oper.wp
  go_simp
  clear e2
  refine hK _ _ ?_; clear hK
  refine hsl.go (by decide) ?_; clear hsl; intro a1 hsl
  refine ops_go rfl rfl (fun K hK => ?_)
  have e1 := hsl.get 1 _ rfl
  unfold Oper.wp
  go_simp
  clear e1
  refine hK _ _ ?_; clear hK
  refine hsl.go (by decide) ?_; clear hsl; intro a1 hsl
  refine ops_go rfl rfl (fun K hK => ?_)
  have e21 := hsl.get 21 _ rfl
  have e22 := hsl.get 22 _ rfl
  unfold Oper.wp
  go_simp
  refine (number_any _ n [45, 48]).mono ?_
  rintro e w3 hp
  obtain ⟨hb3, ⟨z, hz, rfl⟩ | ⟨hz, rfl⟩⟩ := hp.get
  rotate_left
  · try simp only [Exit.then, Exit.inBlock, ↓reduceIte, Nat.reduceEqDiff]
    exact ⟨hsl.defers, hb1.trans (hb3.mono hb1.size), by rw [hz]⟩
  clear e21 e22
  refine hK _ _ ?_; clear hK
  refine hsl.go (by decide) ?_; clear hsl; intro a1 hsl
  refine ops_go rfl rfl (fun K hK => ?_)
  have e23 := hsl.get 23 _ rfl
  unfold Oper.wp
  go_simp
  clear e23
  refine hK _ _ ?_; clear hK
  refine hsl.go (by decide) ?_; clear hsl; intro a1 hsl
  refine ops_done ?_
  try simp only [Exit.then, Exit.inBlock, ↓reduceIte, Nat.reduceEqDiff]
  refine wp_ret ?_
  refine bodyPost_ret (v := .int .i64 z) ?_ hsl.defers ⟨hb1.trans (hb3.mono hb1.size), by rw [hz]⟩
  simp [results, Tryz.results79, hsl.get 4 _ rfl]
set_option maxRecDepth 100000 in
set_option maxHeartbeats 4000000 in
theorem signedP (w : World) (n : Int) (s : List UInt8) (hr : prefR s = .tuple #[.string ⟨s.toArray⟩, .bool false]) : Calls Tryz.prog 79 #[.agg #[.int .i64 n], .string ⟨s.toArray⟩] w (NumPost w n (numV s)) := by
  refine calls_of_wp Tryz.func79 signed_body ?_
  have hsl : Sl (⟨#[.agg #[.int .i64 n], .string ⟨s.toArray⟩] ++ Array.replicate (Tryz.f79.ntmps - (#[.agg #[.int .i64 n], .string ⟨s.toArray⟩] : Array Value).size) undef, []⟩ : Act) 24 [(0, .agg #[.int .i64 n]), (1, .string ⟨s.toArray⟩)] := by rw [Tryz.ntmps79]; exact Sl.entry2 _ _ (by omega)
  revert hsl; generalize (Act.mk _ _) = a0; intro hsl
  refine wp_seq ?_
  have e : regionIn Tryz.f79 0 = Code.region 0 _ false := rfl
  rw [e]; clear e
  refine wp_region ?_
  refine ops_go rfl rfl (fun K hK => ?_)
  have e0 := hsl.get 0 _ rfl
  unfold Oper.wp
  go_simp
  clear e0
  refine hK _ _ ?_; clear hK
  refine hsl.go (by decide) ?_; clear hsl; intro a1 hsl
  refine alloc_rwB (G := fun W => wpOps _ _ _ _ _ W) ?_
  intro w1 hz1 X1 hb1
  generalize hg1 : w.heap.size = bx at X1 hsl; clear hg1
  have hbx := X1.cell (o := 0) rfl
  refine ops_go rfl rfl (fun K hK => ?_)
  unfold Oper.wp
  go_simp
  refine hK _ _ ?_; clear hK
  refine hsl.go (by decide) ?_; clear hsl; intro a1 hsl
  refine ops_done ?_
  try simp only [Exit.then, Exit.inBlock, ↓reduceIte, Nat.reduceEqDiff]
  refine wp_seq ?_
  refine wp_seq ?_
  have e : regionIn Tryz.f79 1 = Code.region 1 _ false := rfl
  rw [e]; clear e
  refine wp_region ?_
  refine ops_go rfl rfl (fun K hK => ?_)
  have e1 := hsl.get 1 _ rfl
  unfold Oper.wp
  go_simp
  clear e1
  refine hK _ _ ?_; clear hK
  refine hsl.go (by decide) ?_; clear hsl; intro a1 hsl
  refine ops_go rfl rfl (fun K hK => ?_)
  have e8 := hsl.get 8 _ rfl
  unfold Oper.wp
  go_simp
  refine (cutPrefix_any _ s).mono ?_
  rintro e w2 ⟨rfl, rfl⟩
  rw [hr]
  clear e8
  refine hK _ _ ?_; clear hK
  refine hsl.go (by decide) ?_; clear hsl; intro a1 hsl
  refine ops_go rfl rfl (fun K hK => ?_)
  have e9 := hsl.get 9 _ rfl
  unfold Oper.wp
  go_simp
  clear e9
  refine hK _ _ ?_; clear hK
  refine hsl.go (by decide) ?_; clear hsl; intro a1 hsl
  refine ops_go rfl rfl (fun K hK => ?_)
  have e7 := hsl.get 7 _ rfl
  unfold Oper.wp
  go_simp
  clear e7
  refine hK _ _ ?_; clear hK
  refine hsl.go (by decide) ?_; clear hsl; intro a1 hsl
  refine ops_go rfl rfl (fun K hK => ?_)
  have e7 := hsl.get 7 _ rfl
  unfold Oper.wp
  go_simp
  clear e7
  refine hK _ _ ?_; clear hK
  refine hsl.go (by decide) ?_; clear hsl; intro a1 hsl
  refine ops_go rfl rfl (fun K hK => ?_)
  have e10 := hsl.get 10 _ rfl
  unfold Oper.wp
  go_simp
  clear e10
  refine hK _ _ ?_; clear hK
  refine hsl.go (by decide) ?_; clear hsl; intro a1 hsl
  refine ops_go rfl rfl (fun K hK => ?_)
  have e11 := hsl.get 11 _ rfl
  unfold Oper.wp
  go_simp
  clear e11
  refine hK _ _ ?_; clear hK
  refine hsl.go (by decide) ?_; clear hsl; intro a1 hsl
  refine ops_done ?_
  try simp only [Exit.then, Exit.inBlock, ↓reduceIte, Nat.reduceEqDiff]
  refine wp_seq ?_
  have e : regionIn Tryz.f79 2 = Code.region 2 _ false := rfl
  rw [e]; clear e
  refine wp_region ?_
  refine ops_go rfl rfl (fun K hK => ?_)
  have e6 := hsl.get 6 _ rfl
  unfold Oper.wp
  go_simp
  clear e6
  refine hK _ _ ?_; clear hK
  refine hsl.go (by decide) ?_; clear hsl; intro a1 hsl
  refine ops_go rfl rfl (fun K hK => ?_)
  have e12 := hsl.get 12 _ rfl
  unfold Oper.wp
  go_simp
  clear e12
  refine hK _ _ ?_; clear hK
  refine hsl.go (by decide) ?_; clear hsl; intro a1 hsl
  refine ops_skip rfl rfl rfl rfl (hsl.get 13 _ rfl) (by decide) ?_
  refine hsl.go (by decide) ?_; clear hsl; intro a1 hsl
  refine ops_skip rfl rfl rfl rfl (hsl.get 13 _ rfl) (by decide) ?_
  refine hsl.go (by decide) ?_; clear hsl; intro a1 hsl
  refine ops_go rfl rfl (fun K hK => ?_)
  have e13 := hsl.get 13 _ rfl
  have e15 := hsl.get 15 _ rfl
  unfold Oper.wp
  go_simp
  clear e13 e15
  refine hK _ _ ?_; clear hK
  refine hsl.go (by decide) ?_; clear hsl; intro a1 hsl
  refine ops_done ?_
  try simp only [Exit.then, Exit.inBlock, ↓reduceIte, Nat.reduceEqDiff]
  refine wp_cond_false (hsl.ev 16 rfl) ?_
  refine wp_skip ?_
  try simp only [Exit.then, Exit.inBlock, ↓reduceIte, Nat.reduceEqDiff]
  refine wp_seq ?_
  have e : regionIn Tryz.f79 4 = Code.region 4 _ false := rfl
  rw [e]; clear e
  refine wp_region ?_
  refine ops_go rfl rfl (fun K hK => ?_)
  have e2 := hsl.get 2 _ rfl
  unfold Oper.wp
  go_simp
  clear e2
  refine hK _ _ ?_; clear hK
  refine hsl.go (by decide) ?_; clear hsl; intro a1 hsl
  refine ops_go rfl rfl (fun K hK => ?_)
  have e1 := hsl.get 1 _ rfl
  unfold Oper.wp
  go_simp
  clear e1
  refine hK _ _ ?_; clear hK
  refine hsl.go (by decide) ?_; clear hsl; intro a1 hsl
  refine ops_go rfl rfl (fun K hK => ?_)
  have e21 := hsl.get 21 _ rfl
  have e22 := hsl.get 22 _ rfl
  unfold Oper.wp
  go_simp
  refine (number_any _ n s).mono ?_
  rintro e w3 hp
  obtain ⟨hb3, ⟨z, hz, rfl⟩ | ⟨hz, rfl⟩⟩ := hp.get
  rotate_left
  · try simp only [Exit.then, Exit.inBlock, ↓reduceIte, Nat.reduceEqDiff]
    exact ⟨hsl.defers, hb1.trans (hb3.mono hb1.size), by rw [hz]⟩
  clear e21 e22
  refine hK _ _ ?_; clear hK
  refine hsl.go (by decide) ?_; clear hsl; intro a1 hsl
  refine ops_go rfl rfl (fun K hK => ?_)
  have e23 := hsl.get 23 _ rfl
  unfold Oper.wp
  go_simp
  clear e23
  refine hK _ _ ?_; clear hK
  refine hsl.go (by decide) ?_; clear hsl; intro a1 hsl
  refine ops_done ?_
  try simp only [Exit.then, Exit.inBlock, ↓reduceIte, Nat.reduceEqDiff]
  refine wp_ret ?_
  refine bodyPost_ret (v := .int .i64 z) ?_ hsl.defers ⟨hb1.trans (hb3.mono hb1.size), by rw [hz]⟩
  simp [results, Tryz.results79, hsl.get 4 _ rfl]
theorem signed_any (w : World) (n : Int) (s : List UInt8) : Calls Tryz.prog 79 #[.agg #[.int .i64 n], .string ⟨s.toArray⟩] w (NumPost w n (signV s)) := by
  match s with
  | [] => exact signedP w n [] rfl
  | x :: r =>
    by_cases h : x = 45
    · subst h
      by_cases h0 : r = [48]
      · subst h0; exact signed0 w n
      · have e : signV (45 :: r) = (numV r).map fun z => -z := by simp [signV, h0]
        rw [e]; exact signedM w n r h0
    · have e : signV (x :: r) = numV (x :: r) := by
        unfold signV
        split
        · rename_i heq; simp at heq; exact absurd heq.1 h
        · rfl
      rw [e]; exact signedP w n (x :: r) (by simp [prefR, h])
end Go.Proofs.YtmkjeonjhedgkaaGreatDoor
