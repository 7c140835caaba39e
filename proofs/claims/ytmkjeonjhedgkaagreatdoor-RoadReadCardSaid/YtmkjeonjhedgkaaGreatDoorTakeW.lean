/- The contract of road.take. -/
import Derived.Test.YtmkjeonjhedgkaaGreatDoorTakeS
import Derived.Test.YtmkjeonjhedgkaaGreatDoorEarly
namespace Go.Proofs.YtmkjeonjhedgkaaGreatDoor
set_option linter.unusedSimpArgs false
set_option linter.unusedVariables false
open Go.RowKit

def cellsL (ls : List (List UInt8)) : Array Value := (ls.map fun x => Value.string ⟨x.toArray⟩).toArray
theorem cellsL_at {ls : List (List UInt8)} {j : Nat} {l : List UInt8} (h : ls[j]? = some l) : (cellsL ls)[j]? = some (.string ⟨l.toArray⟩) := by
  simp [cellsL, h]
/-- What take leaves: the number of the line that is wrong, or the roads. -/
def TakePost (w : World) (o : Nat ⊕ Roads) : Ending → World → Prop := fun e w' => Below w.heap.size w w' ∧ match o with
  | .inl k => e = .returned (.tuple #[.agg #[.int .i64 0, .int .i64 0, .slice none 0 0], .int .i64 (k : Int)])
  | .inr r => ∃ a c, e = .returned (.tuple #[.agg #[.int .i64 r.days, .int .i64 r.stages, .slice a r.strips.length c], .int .i64 0]) ∧ OwnStrips w' w.heap.size (.slice a r.strips.length c) r.strips
set_option maxRecDepth 100000 in
set_option maxHeartbeats 4000000 in
theorem take_pan (w x : World) (B br bb g : Nat) (C : Array Value) (o : Nat ⊕ Roads) (k : Nat) (a : Act) (c0 c1 c2 : Value) (ho : o = .inl k) (hs : SlD a 97 [{ target := .fn (.func 62) #[.pointer (some ⟨br, 0, none⟩), .pointer (some ⟨bb, 0, none⟩)], args := #[] }] [(2, .pointer (some ⟨br, 0, none⟩)), (3, .pointer (some ⟨bb, 0, none⟩))]) (h : TJ w x B br bb g C #[c0, c1, c2]) : bodyPostD Tryz.prog Tryz.f35 (TakePost w o) (.panic (wrongP (k : Int))) a x := by
  have e2 := hs.get 2 _ rfl
  have e3 := hs.get 3 _ rfl
  have od := h.ord
  show Leaves _ _ a.tmps _ a.defers _ _
  rw [hs.defers]
  refine leaves_cons (f := 62) (args := #[.pointer (some ⟨br, 0, none⟩), .pointer (some ⟨bb, 0, none⟩)]) (by simp) (by simp [go_sem]) ?_
  refine (catch_panicking x br bb k 0 c0 c1 c2 h.kr h.kb (by omega)).mono ?_
  rintro e u' x2 ⟨rfl, rfl, hr, hb, hB⟩
  have z0 := hr.cell (o := 0) rfl
  have z1 := hr.cell (o := 1) rfl
  have z2 := hr.cell (o := 2) rfl
  have z3 := hb.cell (o := 0) rfl
  have hbe : Below w.heap.size w x2 := h.below.trans (hB w.heap.size (by omega) (by omega))
  subst ho
  simp [Leaves, settle, results, Tryz.results35, go_sem, e2, e3, z0, z1, z2, z3, TakePost, hbe]
set_option maxRecDepth 100000 in
set_option maxHeartbeats 4000000 in
theorem take_ret (w x : World) (B br bb g : Nat) (C : Array Value) (D S : Int) (v : Value) (acc : List Strip) (a : Act) (hs : SlD a 97 [{ target := .fn (.func 62) #[.pointer (some ⟨br, 0, none⟩), .pointer (some ⟨bb, 0, none⟩)], args := #[] }] [(2, .pointer (some ⟨br, 0, none⟩)), (3, .pointer (some ⟨bb, 0, none⟩))]) (h : TJ w x B br bb g C #[.int .i64 D, .int .i64 S, v]) (hown : OwnStrips x B v acc) : bodyPostD Tryz.prog Tryz.f35 (TakePost w (.inr ⟨D, S, acc⟩)) .ret a x := by
  obtain ⟨va, vc, rfl⟩ := hown.form
  have e2 := hs.get 2 _ rfl
  have e3 := hs.get 3 _ rfl
  have od := h.ord
  show Leaves _ _ a.tmps _ a.defers _ _
  rw [hs.defers]
  refine leaves_cons (f := 62) (args := #[.pointer (some ⟨br, 0, none⟩), .pointer (some ⟨bb, 0, none⟩)]) (by simp) (by simp [go_sem]) ?_
  refine (catch_idle x br bb).mono ?_
  rintro e u' x2 ⟨rfl, rfl, rfl⟩
  have z0 := h.kr.cell (o := 0) rfl
  have z1 := h.kr.cell (o := 1) rfl
  have z2 := h.kr.cell (o := 2) rfl
  have z3 := h.kb.cell (o := 0) rfl
  have hbe := h.below
  have hst := hown.lower (B' := w.heap.size) (by omega)
  refine (show Leaves _ _ _ _ [] .returning _ from ?_)
  refine ⟨.tuple #[.agg #[.int .i64 D, .int .i64 S, .slice va acc.length vc], .int .i64 0], ?_, hbe, va, vc, rfl, hst⟩
  simp [results, Tryz.results35, go_sem, e2, e3, z0, z1, z2, z3]
set_option maxRecDepth 100000 in
theorem take_body : Tryz.f35.body = some (Code.seq (regionIn Tryz.f35 0) (Code.seq (regionIn Tryz.f35 1) (Code.seq (regionIn Tryz.f35 2) (Code.seq (Code.seq (regionIn Tryz.f35 3) (Code.block 0 (Code.loop (Code.seq (regionIn Tryz.f35 4) (Code.seq (Code.cond (Operand.tmp 18) Code.skip (Code.exit 0)) (Code.seq (Code.block 1 (Code.seq (regionIn Tryz.f35 5) (Code.seq (regionIn Tryz.f35 6) (Code.seq (regionIn Tryz.f35 7) (Code.block 2 (Code.seq (regionIn Tryz.f35 9) (Code.cond (Operand.tmp 35) (Code.seq (Code.seq (regionIn Tryz.f35 10) (Code.cond (Operand.tmp 58) (regionIn Tryz.f35 11) Code.skip)) (regionIn Tryz.f35 12)) (Code.seq (regionIn Tryz.f35 13) (Code.cond (Operand.tmp 73) (Code.seq (Code.seq (regionIn Tryz.f35 14) (Code.cond (Operand.tmp 86) (regionIn Tryz.f35 15) Code.skip)) (Code.seq (regionIn Tryz.f35 16) Code.ret)) (regionIn Tryz.f35 8)))))))))) (regionIn Tryz.f35 17))))))) (regionIn Tryz.f35 18))))) := rfl
set_option maxRecDepth 100000 in
set_option maxHeartbeats 4000000 in
theorem tkX (w : World) ( br bb g m : Nat) (dq : List Deferred) (a0 : Act) (hsl : SlD a0 97 dq [(0, .slice (some ⟨g, 0, none⟩) (m + 1) (m + 1)), (2, .pointer (some ⟨br, 0, none⟩)), (3, .pointer (some ⟨bb, 0, none⟩)), (4, .int .i64 (m : Int)), (15, .slice (some ⟨g, 0, none⟩) m (m + 1)), (16, .int .i64 (m : Int)), (17, .int .i64 (m : Int))]) (Q : Exit → Act → World → Prop) (h : ∀ a, SlD a 97 dq [(4, .int .i64 (m : Int)), (2, .pointer (some ⟨br, 0, none⟩)), (3, .pointer (some ⟨bb, 0, none⟩))] → Q (.exit 0) a w) : (Code.seq (regionIn Tryz.f35 4) (Code.seq (Code.cond (Operand.tmp 18) Code.skip (Code.exit 0)) (Code.seq (Code.block 1 (Code.seq (regionIn Tryz.f35 5) (Code.seq (regionIn Tryz.f35 6) (Code.seq (regionIn Tryz.f35 7) (Code.block 2 (Code.seq (regionIn Tryz.f35 9) (Code.cond (Operand.tmp 35) (Code.seq (Code.seq (regionIn Tryz.f35 10) (Code.cond (Operand.tmp 58) (regionIn Tryz.f35 11) Code.skip)) (regionIn Tryz.f35 12)) (Code.seq (regionIn Tryz.f35 13) (Code.cond (Operand.tmp 73) (Code.seq (Code.seq (regionIn Tryz.f35 14) (Code.cond (Operand.tmp 86) (regionIn Tryz.f35 15) Code.skip)) (Code.seq (regionIn Tryz.f35 16) Code.ret)) (regionIn Tryz.f35 8)))))))))) (regionIn Tryz.f35 17)))).wp Tryz.prog Q a0 w := by
  refine wp_seq ?_
  have e : regionIn Tryz.f35 4 = Code.region 4 _ false := rfl
  rw [e]; clear e
  refine wp_region ?_
  refine ops_go rfl rfl (fun K hK => ?_)
  have e16 := hsl.get 16 _ rfl
  have e17 := hsl.get 17 _ rfl
  unfold Oper.wp
  go_simp
  clear e16 e17
  refine hK _ _ ?_; clear hK
  refine hsl.go (by decide) ?_; clear hsl; intro a1 hsl
  refine ops_done ?_
  try simp only [Exit.then, Exit.inBlock, ↓reduceIte, Nat.reduceEqDiff]
  refine wp_seq ?_
  refine wp_cond_false (hsl.ev 18 rfl) ?_
  refine wp_exit ?_
  try simp only [Exit.then, Exit.inBlock, ↓reduceIte, Nat.reduceEqDiff]
  exact h _ (((hsl.nil.cons (hsl.get 3 _ rfl)).cons (hsl.get 2 _ rfl)).cons (hsl.get 4 _ rfl))
set_option maxRecDepth 100000 in
set_option maxHeartbeats 4000000 in
theorem take_any (w : World) (g m : Nat) (ls : List (List UInt8)) (hm : ls.length = m + 1) (hm9 : m < 900) (hg : Rw w g (cellsL ls) 9) (hl : ∀ l ∈ ls, l.length < 4294967281) (hmx : MaxOk w) : Calls Tryz.prog 35 #[.slice (some ⟨g, 0, none⟩) (m + 1) (m + 1)] w (TakePost w (takeV ls)) := by
  refine calls_of_wp_defers Tryz.func35 take_body ?_
  have hsl : Sl (⟨#[.slice (some ⟨g, 0, none⟩) (m + 1) (m + 1)] ++ Array.replicate (Tryz.f35.ntmps - (#[.slice (some ⟨g, 0, none⟩) (m + 1) (m + 1)] : Array Value).size) undef, []⟩ : Act) 97 [(0, .slice (some ⟨g, 0, none⟩) (m + 1) (m + 1))] := by rw [Tryz.ntmps35]; exact Sl.entry1 _ (by omega)
  revert hsl; generalize (Act.mk _ _) = a0; intro hsl
  have hmf : ∀ (fn : Fn) (first cap : Array Value) (w : World), (Instr.makeFunc fn first cap).run Tryz.prog w = .ok (.func fn first cap) w := fun _ _ _ _ => rfl
  have hgl := hg.lt
  refine wp_seq ?_
  have e : regionIn Tryz.f35 0 = Code.region 0 _ false := rfl
  rw [e]; clear e
  refine wp_region ?_
  refine ops_go rfl rfl (fun K hK => ?_)
  unfold Oper.wp
  go_simp
  refine hK _ _ ?_; clear hK
  refine hsl.go (by decide) ?_; clear hsl; intro a1 hsl
  refine alloc_rwB (G := fun W => wpOps _ _ _ _ _ W) ?_
  intro w1 hz1 X1 hb1
  generalize hg1 : w.heap.size = br at X1 hsl
  have o1 : w.heap.size ≤ br ∧ br < w1.heap.size := by omega
  clear hg1 hz1
  refine ops_go rfl rfl (fun K hK => ?_)
  unfold Oper.wp
  go_simp
  refine hK _ _ ?_; clear hK
  refine hsl.go (by decide) ?_; clear hsl; intro a1 hsl
  refine alloc_rwB (G := fun W => wpOps _ _ _ _ _ W) ?_
  intro w2 hz2 X2 hb2
  generalize hg2 : w1.heap.size = bb at X2 hsl
  have o2 : br < bb ∧ bb < w2.heap.size := by omega
  replace X1 := X1.below hb2
  have HB := hb1.trans (hb2.mono hb1.size)
  clear hg2 hz2 hb1 hb2
  have T0 : TJ w w2 w2.heap.size br bb g (cellsL ls) #[.int .i64 0, .int .i64 0, .slice none 0 0] := ⟨HB, hmx, X1, X2, hg.below HB, by omega⟩
  refine ops_done ?_
  try simp only [Exit.then, Exit.inBlock, ↓reduceIte, Nat.reduceEqDiff]
  refine wp_seq ?_
  have e : regionIn Tryz.f35 1 = Code.region 1 _ false := rfl
  rw [e]; clear e
  refine wp_region ?_
  refine ops_go rfl rfl (fun K hK => ?_)
  have e2 := hsl.get 2 _ rfl
  have e3 := hsl.get 3 _ rfl
  unfold Oper.wp
  go_simp
  clear e2 e3
  refine hK _ _ ?_; clear hK
  refine hsl.go (by decide) ?_; clear hsl; intro a1 hsl
  refine ops_go rfl rfl (fun K hK => ?_)
  have e9 := hsl.get 9 _ rfl
  unfold Oper.wp
  go_simp
  clear e9
  refine hK _ _ ?_; clear hK
  refine ops_done ?_
  try simp only [Exit.then, Exit.inBlock, ↓reduceIte, Nat.reduceEqDiff]
  have hsd := hsl.later { target := .fn (.func 62) #[.pointer (some ⟨br, 0, none⟩), .pointer (some ⟨bb, 0, none⟩)], args := #[] }
  revert hsd; clear hsl; generalize (Act.mk _ _) = a2; intro hsl; clear hmf
  have hs2 : IntKind.i64.wrap (m : Int) = (m : Int) := wrap_small (by omega) (by omega)
  have hcap : (m : Int) ≤ (m : Int) + 1 := by omega
  generalize hdq : ([{ target := .fn (.func 62) #[.pointer (some ⟨br, 0, none⟩), .pointer (some ⟨bb, 0, none⟩)], args := #[] }] : List Deferred) = dq at hsl
  refine wp_seq ?_
  have e : regionIn Tryz.f35 2 = Code.region 2 _ false := rfl
  rw [e]; clear e
  refine wp_region ?_
  refine ops_go rfl rfl (fun K hK => ?_)
  have e0 := hsl.get 0 _ rfl
  unfold Oper.wp
  go_simp
  clear e0
  refine hK _ _ ?_; clear hK
  refine hsl.go (by decide) ?_; clear hsl; intro a1 hsl
  refine ops_go rfl rfl (fun K hK => ?_)
  have e10 := hsl.get 10 _ rfl
  unfold Oper.wp
  go_simp
  clear e10
  refine hK _ _ ?_; clear hK
  refine hsl.go (by decide) ?_; clear hsl; intro a1 hsl
  refine ops_go rfl rfl (fun K hK => ?_)
  have e11 := hsl.get 11 _ rfl
  unfold Oper.wp
  go_simp
  clear e11
  refine hK _ _ ?_; clear hK
  refine hsl.go (by decide) ?_; clear hsl; intro a1 hsl
  refine ops_go rfl rfl (fun K hK => ?_)
  have e12 := hsl.get 12 _ rfl
  unfold Oper.wp
  go_simp
  clear e12
  refine hK _ _ ?_; clear hK
  refine hsl.go (by decide) ?_; clear hsl; intro a1 hsl
  refine ops_done ?_
  try simp only [Exit.then, Exit.inBlock, ↓reduceIte, Nat.reduceEqDiff]
  refine wp_seq ?_
  refine wp_seq ?_
  have e : regionIn Tryz.f35 3 = Code.region 3 _ false := rfl
  rw [e]; clear e
  refine wp_region ?_
  refine ops_go rfl rfl (fun K hK => ?_)
  have e0 := hsl.get 0 _ rfl
  unfold Oper.wp
  go_simp
  clear e0
  refine hK _ _ ?_; clear hK
  refine hsl.go (by decide) ?_; clear hsl; intro a1 hsl
  refine ops_go rfl rfl (fun K hK => ?_)
  have e4 := hsl.get 4 _ rfl
  unfold Oper.wp
  go_simp
  clear e4
  refine hK _ _ ?_; clear hK
  refine hsl.go (by decide) ?_; clear hsl; intro a1 hsl
  refine ops_go rfl rfl (fun K hK => ?_)
  have e13 := hsl.get 13 _ rfl
  have e14 := hsl.get 14 _ rfl
  unfold Oper.wp
  go_simp
  clear e13 e14
  refine hK _ _ ?_; clear hK
  refine hsl.go (by decide) ?_; clear hsl; intro a1 hsl
  refine ops_go rfl rfl (fun K hK => ?_)
  have e15 := hsl.get 15 _ rfl
  unfold Oper.wp
  go_simp
  clear e15
  refine hK _ _ ?_; clear hK
  refine hsl.go (by decide) ?_; clear hsl; intro a1 hsl
  refine ops_go rfl rfl (fun K hK => ?_)
  unfold Oper.wp
  go_simp
  refine hK _ _ ?_; clear hK
  refine hsl.go (by decide) ?_; clear hsl; intro a1 hsl
  refine ops_done ?_
  try simp only [Exit.then, Exit.inBlock, ↓reduceIte, Nat.reduceEqDiff]
  refine wp_block ?_
  have hpan : ∀ (k : Nat) a x c0 c1 c2, takeV ls = .inl k → SlD a 97 dq [(2, .pointer (some ⟨br, 0, none⟩)), (3, .pointer (some ⟨bb, 0, none⟩))] → TJ w x w2.heap.size br bb g (cellsL ls) #[c0, c1, c2] → bodyPostD Tryz.prog Tryz.f35 (TakePost w (takeV ls)) (.panic (wrongP (k : Int))) a x := fun k a x c0 c1 c2 h1 h2 h3 => by
    subst hdq; exact take_pan w x _ br bb g _ _ k a c0 c1 c2 h1 h2 h3
  have hret : ∀ D S v acc a x, takeV ls = .inr ⟨D, S, acc⟩ → SlD a 97 dq [(2, .pointer (some ⟨br, 0, none⟩)), (3, .pointer (some ⟨bb, 0, none⟩))] → TJ w x w2.heap.size br bb g (cellsL ls) #[.int .i64 D, .int .i64 S, v] → OwnStrips x w2.heap.size v acc → bodyPostD Tryz.prog Tryz.f35 (TakePost w (takeV ls)) .ret a x := fun D S v acc a x h1 h2 h3 h4 => by
    subst hdq; rw [h1]; exact take_ret w x _ br bb g _ D S v acc a h2 h3 h4
  have hnil : ∀ x : World, OwnStrips x w2.heap.size (.slice none 0 0) [] := fun x => ⟨rfl, .inl ⟨rfl, rfl⟩⟩
  refine wp_loop_ghost (fun k a' x => ∃ (i : Nat) (D S : Int) (v : Value) (acc : List Strip), i + k = m ∧ acc.length ≤ i ∧ ((i = 0 ∧ D = 0 ∧ S = 0 ∧ v = .slice none 0 0 ∧ acc = []) ∨ (1 ≤ i ∧ takeV ls = goV S D acc i (ls.drop i))) ∧ SlD a' 97 dq [(0, .slice (some ⟨g, 0, none⟩) (m + 1) (m + 1)), (2, .pointer (some ⟨br, 0, none⟩)), (3, .pointer (some ⟨bb, 0, none⟩)), (4, .int .i64 (m : Int)), (15, .slice (some ⟨g, 0, none⟩) m (m + 1)), (16, .int .i64 (m : Int)), (17, .int .i64 (i : Int))] ∧ TJ w x w2.heap.size br bb g (cellsL ls) #[.int .i64 D, .int .i64 S, v] ∧ OwnStrips x w2.heap.size v acc) m ⟨0, 0, 0, .slice none 0 0, [], by omega, by simp, .inl ⟨rfl, rfl, rfl, rfl, rfl⟩, ((((((hsl.nil.cons (hsl.get 17 _ rfl)).cons (hsl.get 16 _ rfl)).cons (hsl.get 15 _ rfl)).cons (hsl.get 4 _ rfl)).cons (hsl.get 3 _ rfl)).cons (hsl.get 2 _ rfl)).cons (hsl.get 0 _ rfl), T0, hnil _⟩ ?_
  clear hsl
  rintro k a' x ⟨i, D, S, v, acc, hik, hacc, hst, hs, hT, ho⟩
  cases k with
  | zero =>
    obtain rfl : i = m := by omega
    have htk : takeV ls = .inl (i + 1) := by
      rcases hst with ⟨rfl, rfl, rfl, rfl, rfl⟩ | ⟨hi1, hst⟩
      · match ls, hm with
        | [l0], _ => rfl
      · have hlen : (ls.drop i).length = 1 := by rw [List.length_drop]; omega
        rw [hst]
        match ls.drop i, hlen with
        | [l0], _ => rfl
    replace htk := Lib.hid htk
    refine tkX x br bb g i dq _ hs _ ?_
    intro a3 hsl
    try simp only [Exit.then, Exit.inBlock, ↓reduceIte, Nat.reduceEqDiff]
    have hw1 : IntKind.i64.wrap ((i : Int) + 1) = (i : Int) + 1 := wrap_small (by omega) (by omega)
    have e : regionIn Tryz.f35 18 = Code.region 18 _ false := rfl
    rw [e]; clear e
    refine wp_region ?_
    refine ops_go rfl rfl (fun K hK => ?_)
    have e4 := hsl.get 4 _ rfl
    unfold Oper.wp
    go_simp
    clear e4
    refine hK _ _ ?_; clear hK
    refine hsl.go (by decide) ?_; clear hsl; intro a1 hsl
    refine ops_go rfl rfl (fun K hK => ?_)
    have e93 := hsl.get 93 _ rfl
    unfold Oper.wp
    go_simp
    clear e93
    refine hK _ _ ?_; clear hK
    refine hsl.go (by decide) ?_; clear hsl; intro a1 hsl
    refine ops_go rfl rfl (fun K hK => ?_)
    have e94 := hsl.get 94 _ rfl
    unfold Oper.wp
    go_simp
    clear e94
    refine hK _ _ ?_; clear hK
    refine hsl.go (by decide) ?_; clear hsl; intro a1 hsl
    refine ops_go rfl rfl (fun K hK => ?_)
    have e95 := hsl.get 95 _ rfl
    unfold Oper.wp
    go_simp
    clear e95
    refine hK _ _ ?_; clear hK
    refine hsl.go (by decide) ?_; clear hsl; intro a1 hsl
    refine ops_go rfl rfl (fun K hK => ?_)
    have e96 := hsl.get 96 _ rfl
    unfold Oper.wp
    go_simp
    clear e96
    have ec : (((i + 1 : Nat)) : Int) = (i : Int) + 1 := by omega
    refine (show bodyPostD Tryz.prog Tryz.f35 (TakePost w (takeV ls)) (.panic (wrongP ((i : Int) + 1))) _ _ from ?_)
    rw [← ec]
    exact hpan (i + 1) _ _ _ _ _ htk.out ((hsl.nil.cons (hsl.get 3 _ rfl)).cons (hsl.get 2 _ rfl)) hT
  | succ k =>
    rcases hst with ⟨rfl, rfl, rfl, rfl, rfl⟩ | ⟨hi1, hst⟩
    · obtain ⟨l0, l1, rest, hls⟩ : ∃ l0 l1 rest, ls = l0 :: l1 :: rest := by
        match ls, hm with
        | [_], h => simp at h; omega
        | l0 :: l1 :: rest, _ => exact ⟨l0, l1, rest, rfl⟩
      have hl0 := hl l0 (by rw [hls]; simp)
      have hC : (cellsL ls)[0]? = some (.string ⟨l0.toArray⟩) := cellsL_at (by rw [hls]; rfl)
      have htk : takeV ls = match headV (splitC 32 l0) with | none => .inl 1 | some (st, d) => goV st d [] 1 (l1 :: rest) := by rw [hls]; rfl
      by_cases hk5 : (splitC 32 l0).length = 5
      · obtain ⟨p0, p1, p2, p3, p4, hws⟩ : ∃ p0 p1 p2 p3 p4, splitC 32 l0 = [p0, p1, p2, p3, p4] := by
          match splitC 32 l0, hk5 with
          | [p0, p1, p2, p3, p4], _ => exact ⟨p0, p1, p2, p3, p4, rfl⟩
        rw [hws] at htk
        by_cases ha : p0 = wRoads
        · by_cases hb2 : p2 = wStages
          · by_cases hc : p4 = wDays
            · have hoo : takeV ls = match numV p1, numV p3 with | some x, some y => goV x y [] 1 (l1 :: rest) | _, _ => .inl 1 := by
                rw [htk, headV, if_pos ⟨ha, hb2, hc⟩]
                rcases numV p1 with _ | _ <;> rcases numV p3 with _ | _ <;> rfl
              refine tk0ok w x _ br bb g m _ dq (takeV ls) l0 (l1 :: rest) p0 p1 p2 p3 p4 hws ha hb2 hc hoo (by omega) hm9 hl0 hC hT a' hs _ ?_ ?_
              · intro st d a y h1 h2 h3
                exact ⟨k, by omega, 1, d, st, .slice none 0 0, [], by omega, by simp, .inr ⟨by omega, by rw [h1, hls]; rfl⟩, h2, h3, hnil _⟩
              · exact fun k a y c0 c1 c2 h1 h2 h3 => hpan k a y c0 c1 c2 h1 h2 h3
            · refine tk0c w x _ br bb g m _ dq (takeV ls) l0 p0 p1 p2 p3 p4 hws ha hb2 hc (by rw [htk, headV, if_neg (fun h => hc h.2.2)]) (by omega) hm9 hl0 hC hT a' hs _ ?_
              exact fun k a y c0 c1 c2 h1 h2 h3 => hpan k a y c0 c1 c2 h1 h2 h3
          · refine tk0b w x _ br bb g m _ dq (takeV ls) l0 p0 p1 p2 p3 p4 hws ha hb2 (by rw [htk, headV, if_neg (fun h => hb2 h.2.1)]) (by omega) hm9 hl0 hC hT a' hs _ ?_
            exact fun k a y c0 c1 c2 h1 h2 h3 => hpan k a y c0 c1 c2 h1 h2 h3
        · refine tk0a w x _ br bb g m _ dq (takeV ls) l0 p0 p1 p2 p3 p4 hws ha (by rw [htk, headV, if_neg (fun h => ha h.1)]) (by omega) hm9 hl0 hC hT a' hs _ ?_
          exact fun k a y c0 c1 c2 h1 h2 h3 => hpan k a y c0 c1 c2 h1 h2 h3
      · have hh : headV (splitC 32 l0) = none := by
          unfold headV
          split
          · rename_i h; rw [h] at hk5; simp at hk5
          · rfl
        refine tk0N w x _ br bb g m _ dq (takeV ls) l0 (by simp; omega) (by rw [htk, hh]) (by omega) hm9 hl0 hC hT a' hs _ ?_
        exact fun k a y c0 c1 c2 h1 h2 h3 => hpan k a y c0 c1 c2 h1 h2 h3
    · have hlen : (ls.drop i).length = k + 2 := by rw [List.length_drop]; omega
      obtain ⟨l, l2, r, hd⟩ : ∃ l l2 r, ls.drop i = l :: l2 :: r := by
        match ls.drop i, hlen with
        | l :: l2 :: r, _ => exact ⟨l, l2, r, rfl⟩
      have hli : ls[i]? = some l := by
        have := congrArg (·[0]?) hd
        simpa using this
      have hmem : l ∈ ls := List.mem_of_getElem? hli
      have hr : r.length = k := by rw [hd] at hlen; simpa using hlen
      have hnx : ls.drop (i + 1) = l2 :: r := by rw [← List.drop_drop, hd]; rfl
      rw [hd] at hst
      have hC := cellsL_at hli
      have hl0 := hl l hmem
      by_cases he : l = wEnd
      · by_cases hrn : r = []
        · have hlm : ls[m]? = some l2 := by
            have : k = 0 := by rw [hrn] at hr; simpa using hr.symm
            have h2 := congrArg (·[0]?) hnx
            have e : i + 1 = m := by omega
            rw [e] at h2
            simpa using h2
          have hCm := cellsL_at hlm
          have hkk : k = 0 := by rw [hrn] at hr; simpa using hr.symm
          by_cases h2 : l2 = []
          · have htk : takeV ls = .inr ⟨D, S, acc⟩ := by rw [hst, goV, if_pos he, if_pos ⟨hrn, h2⟩]
            subst h2
            refine tkEC w x _ br bb g m _ dq (takeV ls) i hi1 (by omega) hm9 D S v acc (by omega) l he (by omega) hCm hl0 hC hT ho a' hs _ ?_
            exact fun a y h1 h2 h3 => hret D S v acc a y htk h1 h2 h3
          · have htk : takeV ls = .inl (i + 2) := by rw [hst, goV, if_pos he, if_neg (fun h => h2 h.2)]
            refine tkEB w x _ br bb g m _ dq (takeV ls) i hi1 (by omega) hm9 D S v acc (by omega) l he (by omega) l2 hCm h2 htk hl0 hC hT ho a' hs _ ?_
            exact fun k a y c0 c1 c2 h1 h2 h3 => hpan k a y c0 c1 c2 h1 h2 h3
        · have htk : takeV ls = .inl (i + 2) := by rw [hst, goV, if_pos he, if_neg (fun h => hrn h.1)]
          have hk0 : 0 < r.length := by cases r; exact absurd rfl hrn; simp
          refine tkEA w x _ br bb g m _ dq (takeV ls) i hi1 (by omega) hm9 D S v acc (by omega) l he (by omega) htk hl0 hC hT ho a' hs _ ?_
          exact fun k a y c0 c1 c2 h1 h2 h3 => hpan k a y c0 c1 c2 h1 h2 h3
      · cases hsv : stripV (splitC 32 l) with
        | none =>
          have htk : takeV ls = .inl (i + 1) := by rw [hst, goV, if_neg he, hsv]
          refine tkN w x _ br bb g m _ dq (takeV ls) i hi1 (by omega) hm9 D S v acc (by omega) l he hsv htk hl0 hC hT ho a' hs _ ?_
          exact fun k a y c0 c1 c2 h1 h2 h3 => hpan k a y c0 c1 c2 h1 h2 h3
        | some st =>
          have htk : takeV ls = goV S D (acc ++ [st]) (i + 1) (ls.drop (i + 1)) := by rw [hst, goV, if_neg he, hsv, hnx]
          refine tkS w x _ br bb g m _ dq (takeV ls) i hi1 (by omega) hm9 D S v acc (by omega) l he st hsv hl0 hC hT ho a' hs _ ?_
          intro v2 a y h1 h2 h3
          exact ⟨k, by omega, i + 1, D, S, v2, acc ++ [st], by omega, by simp; omega, .inr ⟨by omega, htk⟩, by simpa using h1, h2, h3⟩
end Go.Proofs.YtmkjeonjhedgkaaGreatDoor
