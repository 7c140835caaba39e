/- The contract of (road.wrong).number. -/
import Derived.Test.YtmkjeonjhedgkaaGreatDoorReadP
import Derived.Test.YtmkjeonjhedgkaaGreatDoorBigD
import Derived.Test.YtmkjeonjhedgkaaGreatDoorBlk
import Derived.Deep.LoopGhost
import Derived.Lib.ConvBytes
import Derived.WalkLawsBesides
namespace Go.Proofs.YtmkjeonjhedgkaaGreatDoor
set_option linter.unusedSimpArgs false
set_option linter.unusedVariables false
open Go.RowKit

/-- The panic that tells of a wrong line. -/
def wrongP (n : Int) : List PanicEntry := [{ v := .iface 116 (.agg #[.int .i64 n]), recovered := false }]
theorem ops_skipU {P : Program} {ops : Array Oper} {Q : Exit → Act → World → Prop} {i : Nat} {rest : List Nat} {o : Oper} {a : Act} {w : World} {k : Nat} {b : Bool} {ok : Oper} {t : Nat} (ho : ops[i]? = some o) (hg : o.guard = some (k, b)) (hk : ops[k]? = some ok) (ht : ok.dst = some t) (hv : a.tmps[t]? = some undef)
    (h : wpOps P ops Q rest (a.put o.dst undef) w) : wpOps P ops Q (i :: rest) a w := by
  rw [wpOps, ho]
  simp only [Region.wanted, hg, yielded, hk, Option.bind_some, ht, hv]
  exact h
theorem num_wrapN : ∀ k : Nat, k < 10 → ∀ d : Nat, d < 10 → IntKind.i64.wrap (IntKind.i64.wrap (10 * (k : Int)) + IntKind.i64.wrap (IntKind.u8.wrap ((48 + d : Nat) - 48 : Int))) = 10 * (k : Int) + d := by decide
theorem num_wrap {acc c : Int} (h1 : ¬ c < 48) (h2 : ¬ 57 < c) (h3 : 0 ≤ acc) (h4 : acc ≤ 9) : IntKind.i64.wrap (IntKind.i64.wrap (10 * acc) + IntKind.i64.wrap (IntKind.u8.wrap (c - 48))) = 10 * acc + (c - 48) := by
  obtain ⟨k, rfl⟩ : ∃ k : Nat, acc = (k : Int) := ⟨acc.toNat, by omega⟩
  obtain ⟨d, rfl⟩ : ∃ d : Nat, c = ((48 + d : Nat) : Int) := ⟨(c - 48).toNat, by omega⟩
  rw [num_wrapN k (by omega) d (by omega)]; omega
theorem bytes_below (w : World) (e : TypeId) (s : ByteArray) : Below w.heap.size w (Lib.bytesWorld w e s) := by
  have h1 : Below w.heap.size w (w.drew.alloc (.cells (Lib.bytesCells w e s) e)) := (Below.refl _ _).drew.alloc (Nat.le_refl _) _
  exact ⟨h1.os, h1.tape, h1.output, by rw [Lib.bytesWorld_size]; omega, fun j hj => Lib.bytesWorld_at_old w e s j hj⟩
set_option maxRecDepth 100000 in
theorem numOk10 (w : World) (n : Int) (bx g cap : Nat) (c : Int) (hbx : w.cell? ⟨bx, 0, none⟩ = some (.int .i64 n)) (hc : w.cell? ⟨g, 0, none⟩ = some (.int .u8 c)) (hn1 : ¬ c < 48) (hn2 : ¬ 57 < c) (x : Act) (hsl : Sl x 51 [(2, .pointer (some ⟨bx, 0, none⟩)), (5, .int .i64 0), (29, .slice (some ⟨g, 0, none⟩) 1 cap), (30, .int .i64 1), (31, .int .i64 0)]) (Q : Exit → Act → World → Prop) (h : ∀ a, Sl a 51 [(2, .pointer (some ⟨bx, 0, none⟩)), (5, .int .i64 (c - 48)), (29, .slice (some ⟨g, 0, none⟩) 1 cap), (30, .int .i64 1), (31, .int .i64 1)] → Q .normal a w) : (Code.seq (regionIn Tryz.f63 5) (Code.seq (Code.cond (Operand.tmp 32) Code.skip (Code.exit 0)) (Code.seq (Code.block 1 (Code.seq (regionIn Tryz.f63 6) (Code.seq (Code.seq (regionIn Tryz.f63 7) (Code.cond (Operand.tmp 40) (regionIn Tryz.f63 8) Code.skip)) (regionIn Tryz.f63 9)))) (regionIn Tryz.f63 10)))).wp Tryz.prog Q x w := by
  refine wp_seq ?_
  have e : regionIn Tryz.f63 5 = Code.region 5 _ false := rfl
  rw [e]; clear e
  refine wp_region ?_
  refine ops_go rfl rfl (fun K hK => ?_)
  have e30 := hsl.get 30 _ rfl
  have e31 := hsl.get 31 _ rfl
  unfold Oper.wp
  go_simp
  clear e30 e31
  refine hK _ _ ?_; clear hK
  refine hsl.go (by decide) ?_; clear hsl; intro a1 hsl
  refine ops_done ?_
  try simp only [Exit.then, Exit.inBlock, ↓reduceIte, Nat.reduceEqDiff]
  refine wp_seq ?_
  refine wp_cond_true (hsl.ev 32 rfl) ?_
  refine wp_skip ?_
  try simp only [Exit.then, Exit.inBlock, ↓reduceIte, Nat.reduceEqDiff]
  refine wp_seq ?_
  refine wp_block ?_
  refine wp_seq ?_
  have e : regionIn Tryz.f63 6 = Code.region 6 _ false := rfl
  rw [e]; clear e
  refine wp_region ?_
  refine ops_go rfl rfl (fun K hK => ?_)
  have e29 := hsl.get 29 _ rfl
  have e31 := hsl.get 31 _ rfl
  unfold Oper.wp
  go_simp
  clear e29 e31
  refine hK _ _ ?_; clear hK
  refine hsl.go (by decide) ?_; clear hsl; intro a1 hsl
  refine ops_go rfl rfl (fun K hK => ?_)
  have e33 := hsl.get 33 _ rfl
  unfold Oper.wp
  go_simp
  clear e33
  refine hK _ _ ?_; clear hK
  refine hsl.go (by decide) ?_; clear hsl; intro a1 hsl
  refine ops_go rfl rfl (fun K hK => ?_)
  have e34 := hsl.get 34 _ rfl
  unfold Oper.wp
  go_simp
  clear e34
  refine hK _ _ ?_; clear hK
  refine hsl.go (by decide) ?_; clear hsl; intro a1 hsl
  refine ops_done ?_
  try simp only [Exit.then, Exit.inBlock, ↓reduceIte, Nat.reduceEqDiff]
  refine wp_seq ?_
  refine wp_seq ?_
  have e : regionIn Tryz.f63 7 = Code.region 7 _ false := rfl
  rw [e]; clear e
  refine wp_region ?_
  refine ops_go rfl rfl (fun K hK => ?_)
  have e7 := hsl.get 7 _ rfl
  unfold Oper.wp
  go_simp
  clear e7
  refine hK _ _ ?_; clear hK
  refine hsl.go (by decide) ?_; clear hsl; intro a1 hsl
  refine ops_go rfl rfl (fun K hK => ?_)
  have e35 := hsl.get 35 _ rfl
  unfold Oper.wp
  go_simp
  clear e35
  refine hK _ _ ?_; clear hK
  refine hsl.go (by decide) ?_; clear hsl; intro a1 hsl
  refine ops_go rfl rfl (fun K hK => ?_)
  have e36 := hsl.get 36 _ rfl
  unfold Oper.wp
  go_simp
  clear e36
  refine hK _ _ ?_; clear hK
  refine hsl.go (by decide) ?_; clear hsl; intro a1 hsl
  refine ops_want rfl rfl rfl rfl (hsl.get 37 _ rfl) (fun K hK => ?_)
  have e7 := hsl.get 7 _ rfl
  unfold Oper.wp
  go_simp
  clear e7
  refine hK _ _ ?_; clear hK
  refine hsl.go (by decide) ?_; clear hsl; intro a1 hsl
  refine ops_want rfl rfl rfl rfl (hsl.get 37 _ rfl) (fun K hK => ?_)
  have e38 := hsl.get 38 _ rfl
  unfold Oper.wp
  go_simp
  clear e38
  refine hK _ _ ?_; clear hK
  refine hsl.go (by decide) ?_; clear hsl; intro a1 hsl
  refine ops_go rfl rfl (fun K hK => ?_)
  have e37 := hsl.get 37 _ rfl
  have e39 := hsl.get 39 _ rfl
  unfold Oper.wp
  go_simp
  clear e37 e39
  refine hK _ _ ?_; clear hK
  refine hsl.go (by decide) ?_; clear hsl; intro a1 hsl
  refine ops_done ?_
  try simp only [Exit.then, Exit.inBlock, ↓reduceIte, Nat.reduceEqDiff]
  refine wp_cond_false (hsl.ev 40 rfl) ?_
  refine wp_skip ?_
  try simp only [Exit.then, Exit.inBlock, ↓reduceIte, Nat.reduceEqDiff]
  have e : regionIn Tryz.f63 9 = Code.region 9 _ false := rfl
  rw [e]; clear e
  refine wp_region ?_
  refine ops_go rfl rfl (fun K hK => ?_)
  have e5 := hsl.get 5 _ rfl
  unfold Oper.wp
  go_simp
  clear e5
  refine hK _ _ ?_; clear hK
  refine hsl.go (by decide) ?_; clear hsl; intro a1 hsl
  refine ops_go rfl rfl (fun K hK => ?_)
  have e43 := hsl.get 43 _ rfl
  unfold Oper.wp
  go_simp
  clear e43
  refine hK _ _ ?_; clear hK
  refine hsl.go (by decide) ?_; clear hsl; intro a1 hsl
  refine ops_go rfl rfl (fun K hK => ?_)
  have e7 := hsl.get 7 _ rfl
  unfold Oper.wp
  go_simp
  clear e7
  refine hK _ _ ?_; clear hK
  refine hsl.go (by decide) ?_; clear hsl; intro a1 hsl
  refine ops_go rfl rfl (fun K hK => ?_)
  have e45 := hsl.get 45 _ rfl
  unfold Oper.wp
  go_simp
  clear e45
  refine hK _ _ ?_; clear hK
  refine hsl.go (by decide) ?_; clear hsl; intro a1 hsl
  refine ops_go rfl rfl (fun K hK => ?_)
  have e46 := hsl.get 46 _ rfl
  unfold Oper.wp
  go_simp
  clear e46
  refine hK _ _ ?_; clear hK
  refine hsl.go (by decide) ?_; clear hsl; intro a1 hsl
  refine ops_go rfl rfl (fun K hK => ?_)
  have e44 := hsl.get 44 _ rfl
  have e47 := hsl.get 47 _ rfl
  unfold Oper.wp
  go_simp
  clear e44 e47
  refine hK _ _ ?_; clear hK
  refine hsl.go (by decide) ?_; clear hsl; intro a1 hsl
  refine ops_go rfl rfl (fun K hK => ?_)
  have e48 := hsl.get 48 _ rfl
  unfold Oper.wp
  go_simp
  clear e48
  refine hK _ _ ?_; clear hK
  refine hsl.go (by decide) ?_; clear hsl; intro a1 hsl
  refine ops_done ?_
  try simp only [Exit.then, Exit.inBlock, ↓reduceIte, Nat.reduceEqDiff]
  have e : regionIn Tryz.f63 10 = Code.region 10 _ false := rfl
  rw [e]; clear e
  refine wp_region ?_
  refine ops_go rfl rfl (fun K hK => ?_)
  have e31 := hsl.get 31 _ rfl
  unfold Oper.wp
  go_simp
  clear e31
  refine hK _ _ ?_; clear hK
  refine hsl.go (by decide) ?_; clear hsl; intro a1 hsl
  refine ops_go rfl rfl (fun K hK => ?_)
  have e49 := hsl.get 49 _ rfl
  unfold Oper.wp
  go_simp
  clear e49
  refine hK _ _ ?_; clear hK
  refine hsl.go (by decide) ?_; clear hsl; intro a1 hsl
  refine ops_done ?_
  have e5 := hsl.get 5 _ rfl
  have w5 := num_wrap (acc := 0) hn1 hn2 (by omega) (by omega)
  rw [show (10 * 0 + (c - 48) : Int) = c - 48 by omega] at w5
  refine h _ ((((hsl.nil.cons (hsl.get 31 _ rfl)).cons (hsl.get 30 _ rfl)).cons (hsl.get 29 _ rfl)).cons ?_ |>.cons (hsl.get 2 _ rfl))
  exact e5.trans (congrArg (fun z => some (Value.int .i64 z)) w5)
set_option maxRecDepth 100000 in
theorem numLo10 (w : World) (n : Int) (bx g cap : Nat) (c : Int) (hbx : w.cell? ⟨bx, 0, none⟩ = some (.int .i64 n)) (hc : w.cell? ⟨g, 0, none⟩ = some (.int .u8 c)) (hn1 : c < 48) (x : Act) (hsl : Sl x 51 [(2, .pointer (some ⟨bx, 0, none⟩)), (5, .int .i64 0), (29, .slice (some ⟨g, 0, none⟩) 1 cap), (30, .int .i64 1), (31, .int .i64 0)]) (Q : Exit → Act → World → Prop) (h : ∀ a, Sl a 51 [] → Q (.panic (wrongP n)) a w) : (Code.seq (regionIn Tryz.f63 5) (Code.seq (Code.cond (Operand.tmp 32) Code.skip (Code.exit 0)) (Code.seq (Code.block 1 (Code.seq (regionIn Tryz.f63 6) (Code.seq (Code.seq (regionIn Tryz.f63 7) (Code.cond (Operand.tmp 40) (regionIn Tryz.f63 8) Code.skip)) (regionIn Tryz.f63 9)))) (regionIn Tryz.f63 10)))).wp Tryz.prog Q x w := by
  refine wp_seq ?_
  have e : regionIn Tryz.f63 5 = Code.region 5 _ false := rfl
  rw [e]; clear e
  refine wp_region ?_
  refine ops_go rfl rfl (fun K hK => ?_)
  have e30 := hsl.get 30 _ rfl
  have e31 := hsl.get 31 _ rfl
  unfold Oper.wp
  go_simp
  clear e30 e31
  refine hK _ _ ?_; clear hK
  refine hsl.go (by decide) ?_; clear hsl; intro a1 hsl
  refine ops_done ?_
  try simp only [Exit.then, Exit.inBlock, ↓reduceIte, Nat.reduceEqDiff]
  refine wp_seq ?_
  refine wp_cond_true (hsl.ev 32 rfl) ?_
  refine wp_skip ?_
  try simp only [Exit.then, Exit.inBlock, ↓reduceIte, Nat.reduceEqDiff]
  refine wp_seq ?_
  refine wp_block ?_
  refine wp_seq ?_
  have e : regionIn Tryz.f63 6 = Code.region 6 _ false := rfl
  rw [e]; clear e
  refine wp_region ?_
  refine ops_go rfl rfl (fun K hK => ?_)
  have e29 := hsl.get 29 _ rfl
  have e31 := hsl.get 31 _ rfl
  unfold Oper.wp
  go_simp
  clear e29 e31
  refine hK _ _ ?_; clear hK
  refine hsl.go (by decide) ?_; clear hsl; intro a1 hsl
  refine ops_go rfl rfl (fun K hK => ?_)
  have e33 := hsl.get 33 _ rfl
  unfold Oper.wp
  go_simp
  clear e33
  refine hK _ _ ?_; clear hK
  refine hsl.go (by decide) ?_; clear hsl; intro a1 hsl
  refine ops_go rfl rfl (fun K hK => ?_)
  have e34 := hsl.get 34 _ rfl
  unfold Oper.wp
  go_simp
  clear e34
  refine hK _ _ ?_; clear hK
  refine hsl.go (by decide) ?_; clear hsl; intro a1 hsl
  refine ops_done ?_
  try simp only [Exit.then, Exit.inBlock, ↓reduceIte, Nat.reduceEqDiff]
  refine wp_seq ?_
  refine wp_seq ?_
  have e : regionIn Tryz.f63 7 = Code.region 7 _ false := rfl
  rw [e]; clear e
  refine wp_region ?_
  refine ops_go rfl rfl (fun K hK => ?_)
  have e7 := hsl.get 7 _ rfl
  unfold Oper.wp
  go_simp
  clear e7
  refine hK _ _ ?_; clear hK
  refine hsl.go (by decide) ?_; clear hsl; intro a1 hsl
  refine ops_go rfl rfl (fun K hK => ?_)
  have e35 := hsl.get 35 _ rfl
  unfold Oper.wp
  go_simp
  clear e35
  refine hK _ _ ?_; clear hK
  refine hsl.go (by decide) ?_; clear hsl; intro a1 hsl
  refine ops_go rfl rfl (fun K hK => ?_)
  have e36 := hsl.get 36 _ rfl
  unfold Oper.wp
  go_simp
  clear e36
  refine hK _ _ ?_; clear hK
  refine hsl.go (by decide) ?_; clear hsl; intro a1 hsl
  refine ops_skip rfl rfl rfl rfl (hsl.get 37 _ rfl) (by decide) ?_
  refine hsl.go (by decide) ?_; clear hsl; intro a1 hsl
  refine ops_skip rfl rfl rfl rfl (hsl.get 37 _ rfl) (by decide) ?_
  refine hsl.go (by decide) ?_; clear hsl; intro a1 hsl
  refine ops_go rfl rfl (fun K hK => ?_)
  have e37 := hsl.get 37 _ rfl
  have e39 := hsl.get 39 _ rfl
  unfold Oper.wp
  go_simp
  clear e37 e39
  refine hK _ _ ?_; clear hK
  refine hsl.go (by decide) ?_; clear hsl; intro a1 hsl
  refine ops_done ?_
  try simp only [Exit.then, Exit.inBlock, ↓reduceIte, Nat.reduceEqDiff]
  refine wp_cond_true (hsl.ev 40 rfl) ?_
  have e : regionIn Tryz.f63 8 = Code.region 8 _ false := rfl
  rw [e]; clear e
  refine wp_region ?_
  refine ops_go rfl rfl (fun K hK => ?_)
  have e2 := hsl.get 2 _ rfl
  unfold Oper.wp
  go_simp
  clear e2
  refine hK _ _ ?_; clear hK
  refine hsl.go (by decide) ?_; clear hsl; intro a1 hsl
  refine ops_go rfl rfl (fun K hK => ?_)
  have e41 := hsl.get 41 _ rfl
  unfold Oper.wp
  go_simp
  clear e41
  refine hK _ _ ?_; clear hK
  refine hsl.go (by decide) ?_; clear hsl; intro a1 hsl
  refine ops_go rfl rfl (fun K hK => ?_)
  have e42 := hsl.get 42 _ rfl
  unfold Oper.wp
  go_simp
  clear e42
  try simp only [Exit.then, Exit.inBlock, ↓reduceIte, Nat.reduceEqDiff]
  exact h _ hsl.nil
set_option maxRecDepth 100000 in
theorem numHi10 (w : World) (n : Int) (bx g cap : Nat) (c : Int) (hbx : w.cell? ⟨bx, 0, none⟩ = some (.int .i64 n)) (hc : w.cell? ⟨g, 0, none⟩ = some (.int .u8 c)) (hn1 : ¬ c < 48) (hn2 : 57 < c) (x : Act) (hsl : Sl x 51 [(2, .pointer (some ⟨bx, 0, none⟩)), (5, .int .i64 0), (29, .slice (some ⟨g, 0, none⟩) 1 cap), (30, .int .i64 1), (31, .int .i64 0)]) (Q : Exit → Act → World → Prop) (h : ∀ a, Sl a 51 [] → Q (.panic (wrongP n)) a w) : (Code.seq (regionIn Tryz.f63 5) (Code.seq (Code.cond (Operand.tmp 32) Code.skip (Code.exit 0)) (Code.seq (Code.block 1 (Code.seq (regionIn Tryz.f63 6) (Code.seq (Code.seq (regionIn Tryz.f63 7) (Code.cond (Operand.tmp 40) (regionIn Tryz.f63 8) Code.skip)) (regionIn Tryz.f63 9)))) (regionIn Tryz.f63 10)))).wp Tryz.prog Q x w := by
  refine wp_seq ?_
  have e : regionIn Tryz.f63 5 = Code.region 5 _ false := rfl
  rw [e]; clear e
  refine wp_region ?_
  refine ops_go rfl rfl (fun K hK => ?_)
  have e30 := hsl.get 30 _ rfl
  have e31 := hsl.get 31 _ rfl
  unfold Oper.wp
  go_simp
  clear e30 e31
  refine hK _ _ ?_; clear hK
  refine hsl.go (by decide) ?_; clear hsl; intro a1 hsl
  refine ops_done ?_
  try simp only [Exit.then, Exit.inBlock, ↓reduceIte, Nat.reduceEqDiff]
  refine wp_seq ?_
  refine wp_cond_true (hsl.ev 32 rfl) ?_
  refine wp_skip ?_
  try simp only [Exit.then, Exit.inBlock, ↓reduceIte, Nat.reduceEqDiff]
  refine wp_seq ?_
  refine wp_block ?_
  refine wp_seq ?_
  have e : regionIn Tryz.f63 6 = Code.region 6 _ false := rfl
  rw [e]; clear e
  refine wp_region ?_
  refine ops_go rfl rfl (fun K hK => ?_)
  have e29 := hsl.get 29 _ rfl
  have e31 := hsl.get 31 _ rfl
  unfold Oper.wp
  go_simp
  clear e29 e31
  refine hK _ _ ?_; clear hK
  refine hsl.go (by decide) ?_; clear hsl; intro a1 hsl
  refine ops_go rfl rfl (fun K hK => ?_)
  have e33 := hsl.get 33 _ rfl
  unfold Oper.wp
  go_simp
  clear e33
  refine hK _ _ ?_; clear hK
  refine hsl.go (by decide) ?_; clear hsl; intro a1 hsl
  refine ops_go rfl rfl (fun K hK => ?_)
  have e34 := hsl.get 34 _ rfl
  unfold Oper.wp
  go_simp
  clear e34
  refine hK _ _ ?_; clear hK
  refine hsl.go (by decide) ?_; clear hsl; intro a1 hsl
  refine ops_done ?_
  try simp only [Exit.then, Exit.inBlock, ↓reduceIte, Nat.reduceEqDiff]
  refine wp_seq ?_
  refine wp_seq ?_
  have e : regionIn Tryz.f63 7 = Code.region 7 _ false := rfl
  rw [e]; clear e
  refine wp_region ?_
  refine ops_go rfl rfl (fun K hK => ?_)
  have e7 := hsl.get 7 _ rfl
  unfold Oper.wp
  go_simp
  clear e7
  refine hK _ _ ?_; clear hK
  refine hsl.go (by decide) ?_; clear hsl; intro a1 hsl
  refine ops_go rfl rfl (fun K hK => ?_)
  have e35 := hsl.get 35 _ rfl
  unfold Oper.wp
  go_simp
  clear e35
  refine hK _ _ ?_; clear hK
  refine hsl.go (by decide) ?_; clear hsl; intro a1 hsl
  refine ops_go rfl rfl (fun K hK => ?_)
  have e36 := hsl.get 36 _ rfl
  unfold Oper.wp
  go_simp
  clear e36
  refine hK _ _ ?_; clear hK
  refine hsl.go (by decide) ?_; clear hsl; intro a1 hsl
  refine ops_want rfl rfl rfl rfl (hsl.get 37 _ rfl) (fun K hK => ?_)
  have e7 := hsl.get 7 _ rfl
  unfold Oper.wp
  go_simp
  clear e7
  refine hK _ _ ?_; clear hK
  refine hsl.go (by decide) ?_; clear hsl; intro a1 hsl
  refine ops_want rfl rfl rfl rfl (hsl.get 37 _ rfl) (fun K hK => ?_)
  have e38 := hsl.get 38 _ rfl
  unfold Oper.wp
  go_simp
  clear e38
  refine hK _ _ ?_; clear hK
  refine hsl.go (by decide) ?_; clear hsl; intro a1 hsl
  refine ops_go rfl rfl (fun K hK => ?_)
  have e37 := hsl.get 37 _ rfl
  have e39 := hsl.get 39 _ rfl
  unfold Oper.wp
  go_simp
  clear e37 e39
  refine hK _ _ ?_; clear hK
  refine hsl.go (by decide) ?_; clear hsl; intro a1 hsl
  refine ops_done ?_
  try simp only [Exit.then, Exit.inBlock, ↓reduceIte, Nat.reduceEqDiff]
  refine wp_cond_true (hsl.ev 40 rfl) ?_
  have e : regionIn Tryz.f63 8 = Code.region 8 _ false := rfl
  rw [e]; clear e
  refine wp_region ?_
  refine ops_go rfl rfl (fun K hK => ?_)
  have e2 := hsl.get 2 _ rfl
  unfold Oper.wp
  go_simp
  clear e2
  refine hK _ _ ?_; clear hK
  refine hsl.go (by decide) ?_; clear hsl; intro a1 hsl
  refine ops_go rfl rfl (fun K hK => ?_)
  have e41 := hsl.get 41 _ rfl
  unfold Oper.wp
  go_simp
  clear e41
  refine hK _ _ ?_; clear hK
  refine hsl.go (by decide) ?_; clear hsl; intro a1 hsl
  refine ops_go rfl rfl (fun K hK => ?_)
  have e42 := hsl.get 42 _ rfl
  unfold Oper.wp
  go_simp
  clear e42
  try simp only [Exit.then, Exit.inBlock, ↓reduceIte, Nat.reduceEqDiff]
  exact h _ hsl.nil
set_option maxRecDepth 100000 in
theorem numEnd1 (w : World) (bx g cap : Nat) (v : Int) (x : Act) (hsl : Sl x 51 [(2, .pointer (some ⟨bx, 0, none⟩)), (5, .int .i64 v), (29, .slice (some ⟨g, 0, none⟩) 1 cap), (30, .int .i64 1), (31, .int .i64 1)]) (Q : Exit → Act → World → Prop) (h : ∀ a, Sl a 51 [(5, .int .i64 v)] → Q (.exit 0) a w) : (Code.seq (regionIn Tryz.f63 5) (Code.seq (Code.cond (Operand.tmp 32) Code.skip (Code.exit 0)) (Code.seq (Code.block 1 (Code.seq (regionIn Tryz.f63 6) (Code.seq (Code.seq (regionIn Tryz.f63 7) (Code.cond (Operand.tmp 40) (regionIn Tryz.f63 8) Code.skip)) (regionIn Tryz.f63 9)))) (regionIn Tryz.f63 10)))).wp Tryz.prog Q x w := by
  refine wp_seq ?_
  have e : regionIn Tryz.f63 5 = Code.region 5 _ false := rfl
  rw [e]; clear e
  refine wp_region ?_
  refine ops_go rfl rfl (fun K hK => ?_)
  have e30 := hsl.get 30 _ rfl
  have e31 := hsl.get 31 _ rfl
  unfold Oper.wp
  go_simp
  clear e30 e31
  refine hK _ _ ?_; clear hK
  refine hsl.go (by decide) ?_; clear hsl; intro a1 hsl
  refine ops_done ?_
  try simp only [Exit.then, Exit.inBlock, ↓reduceIte, Nat.reduceEqDiff]
  refine wp_seq ?_
  refine wp_cond_false (hsl.ev 32 rfl) ?_
  refine wp_exit ?_
  try simp only [Exit.then, Exit.inBlock, ↓reduceIte, Nat.reduceEqDiff]
  exact h _ (hsl.nil.cons (hsl.get 5 _ rfl))
set_option maxRecDepth 100000 in
theorem numOk20 (w : World) (n : Int) (bx g cap : Nat) (c : Int) (hbx : w.cell? ⟨bx, 0, none⟩ = some (.int .i64 n)) (hc : w.cell? ⟨g, 0, none⟩ = some (.int .u8 c)) (hn1 : ¬ c < 48) (hn2 : ¬ 57 < c) (x : Act) (hsl : Sl x 51 [(2, .pointer (some ⟨bx, 0, none⟩)), (5, .int .i64 0), (29, .slice (some ⟨g, 0, none⟩) 2 cap), (30, .int .i64 2), (31, .int .i64 0)]) (Q : Exit → Act → World → Prop) (h : ∀ a, Sl a 51 [(2, .pointer (some ⟨bx, 0, none⟩)), (5, .int .i64 (c - 48)), (29, .slice (some ⟨g, 0, none⟩) 2 cap), (30, .int .i64 2), (31, .int .i64 1)] → Q .normal a w) : (Code.seq (regionIn Tryz.f63 5) (Code.seq (Code.cond (Operand.tmp 32) Code.skip (Code.exit 0)) (Code.seq (Code.block 1 (Code.seq (regionIn Tryz.f63 6) (Code.seq (Code.seq (regionIn Tryz.f63 7) (Code.cond (Operand.tmp 40) (regionIn Tryz.f63 8) Code.skip)) (regionIn Tryz.f63 9)))) (regionIn Tryz.f63 10)))).wp Tryz.prog Q x w := by
  refine wp_seq ?_
  have e : regionIn Tryz.f63 5 = Code.region 5 _ false := rfl
  rw [e]; clear e
  refine wp_region ?_
  refine ops_go rfl rfl (fun K hK => ?_)
  have e30 := hsl.get 30 _ rfl
  have e31 := hsl.get 31 _ rfl
  unfold Oper.wp
  go_simp
  clear e30 e31
  refine hK _ _ ?_; clear hK
  refine hsl.go (by decide) ?_; clear hsl; intro a1 hsl
  refine ops_done ?_
  try simp only [Exit.then, Exit.inBlock, ↓reduceIte, Nat.reduceEqDiff]
  refine wp_seq ?_
  refine wp_cond_true (hsl.ev 32 rfl) ?_
  refine wp_skip ?_
  try simp only [Exit.then, Exit.inBlock, ↓reduceIte, Nat.reduceEqDiff]
  refine wp_seq ?_
  refine wp_block ?_
  refine wp_seq ?_
  have e : regionIn Tryz.f63 6 = Code.region 6 _ false := rfl
  rw [e]; clear e
  refine wp_region ?_
  refine ops_go rfl rfl (fun K hK => ?_)
  have e29 := hsl.get 29 _ rfl
  have e31 := hsl.get 31 _ rfl
  unfold Oper.wp
  go_simp
  clear e29 e31
  refine hK _ _ ?_; clear hK
  refine hsl.go (by decide) ?_; clear hsl; intro a1 hsl
  refine ops_go rfl rfl (fun K hK => ?_)
  have e33 := hsl.get 33 _ rfl
  unfold Oper.wp
  go_simp
  clear e33
  refine hK _ _ ?_; clear hK
  refine hsl.go (by decide) ?_; clear hsl; intro a1 hsl
  refine ops_go rfl rfl (fun K hK => ?_)
  have e34 := hsl.get 34 _ rfl
  unfold Oper.wp
  go_simp
  clear e34
  refine hK _ _ ?_; clear hK
  refine hsl.go (by decide) ?_; clear hsl; intro a1 hsl
  refine ops_done ?_
  try simp only [Exit.then, Exit.inBlock, ↓reduceIte, Nat.reduceEqDiff]
  refine wp_seq ?_
  refine wp_seq ?_
  have e : regionIn Tryz.f63 7 = Code.region 7 _ false := rfl
  rw [e]; clear e
  refine wp_region ?_
  refine ops_go rfl rfl (fun K hK => ?_)
  have e7 := hsl.get 7 _ rfl
  unfold Oper.wp
  go_simp
  clear e7
  refine hK _ _ ?_; clear hK
  refine hsl.go (by decide) ?_; clear hsl; intro a1 hsl
  refine ops_go rfl rfl (fun K hK => ?_)
  have e35 := hsl.get 35 _ rfl
  unfold Oper.wp
  go_simp
  clear e35
  refine hK _ _ ?_; clear hK
  refine hsl.go (by decide) ?_; clear hsl; intro a1 hsl
  refine ops_go rfl rfl (fun K hK => ?_)
  have e36 := hsl.get 36 _ rfl
  unfold Oper.wp
  go_simp
  clear e36
  refine hK _ _ ?_; clear hK
  refine hsl.go (by decide) ?_; clear hsl; intro a1 hsl
  refine ops_want rfl rfl rfl rfl (hsl.get 37 _ rfl) (fun K hK => ?_)
  have e7 := hsl.get 7 _ rfl
  unfold Oper.wp
  go_simp
  clear e7
  refine hK _ _ ?_; clear hK
  refine hsl.go (by decide) ?_; clear hsl; intro a1 hsl
  refine ops_want rfl rfl rfl rfl (hsl.get 37 _ rfl) (fun K hK => ?_)
  have e38 := hsl.get 38 _ rfl
  unfold Oper.wp
  go_simp
  clear e38
  refine hK _ _ ?_; clear hK
  refine hsl.go (by decide) ?_; clear hsl; intro a1 hsl
  refine ops_go rfl rfl (fun K hK => ?_)
  have e37 := hsl.get 37 _ rfl
  have e39 := hsl.get 39 _ rfl
  unfold Oper.wp
  go_simp
  clear e37 e39
  refine hK _ _ ?_; clear hK
  refine hsl.go (by decide) ?_; clear hsl; intro a1 hsl
  refine ops_done ?_
  try simp only [Exit.then, Exit.inBlock, ↓reduceIte, Nat.reduceEqDiff]
  refine wp_cond_false (hsl.ev 40 rfl) ?_
  refine wp_skip ?_
  try simp only [Exit.then, Exit.inBlock, ↓reduceIte, Nat.reduceEqDiff]
  have e : regionIn Tryz.f63 9 = Code.region 9 _ false := rfl
  rw [e]; clear e
  refine wp_region ?_
  refine ops_go rfl rfl (fun K hK => ?_)
  have e5 := hsl.get 5 _ rfl
  unfold Oper.wp
  go_simp
  clear e5
  refine hK _ _ ?_; clear hK
  refine hsl.go (by decide) ?_; clear hsl; intro a1 hsl
  refine ops_go rfl rfl (fun K hK => ?_)
  have e43 := hsl.get 43 _ rfl
  unfold Oper.wp
  go_simp
  clear e43
  refine hK _ _ ?_; clear hK
  refine hsl.go (by decide) ?_; clear hsl; intro a1 hsl
  refine ops_go rfl rfl (fun K hK => ?_)
  have e7 := hsl.get 7 _ rfl
  unfold Oper.wp
  go_simp
  clear e7
  refine hK _ _ ?_; clear hK
  refine hsl.go (by decide) ?_; clear hsl; intro a1 hsl
  refine ops_go rfl rfl (fun K hK => ?_)
  have e45 := hsl.get 45 _ rfl
  unfold Oper.wp
  go_simp
  clear e45
  refine hK _ _ ?_; clear hK
  refine hsl.go (by decide) ?_; clear hsl; intro a1 hsl
  refine ops_go rfl rfl (fun K hK => ?_)
  have e46 := hsl.get 46 _ rfl
  unfold Oper.wp
  go_simp
  clear e46
  refine hK _ _ ?_; clear hK
  refine hsl.go (by decide) ?_; clear hsl; intro a1 hsl
  refine ops_go rfl rfl (fun K hK => ?_)
  have e44 := hsl.get 44 _ rfl
  have e47 := hsl.get 47 _ rfl
  unfold Oper.wp
  go_simp
  clear e44 e47
  refine hK _ _ ?_; clear hK
  refine hsl.go (by decide) ?_; clear hsl; intro a1 hsl
  refine ops_go rfl rfl (fun K hK => ?_)
  have e48 := hsl.get 48 _ rfl
  unfold Oper.wp
  go_simp
  clear e48
  refine hK _ _ ?_; clear hK
  refine hsl.go (by decide) ?_; clear hsl; intro a1 hsl
  refine ops_done ?_
  try simp only [Exit.then, Exit.inBlock, ↓reduceIte, Nat.reduceEqDiff]
  have e : regionIn Tryz.f63 10 = Code.region 10 _ false := rfl
  rw [e]; clear e
  refine wp_region ?_
  refine ops_go rfl rfl (fun K hK => ?_)
  have e31 := hsl.get 31 _ rfl
  unfold Oper.wp
  go_simp
  clear e31
  refine hK _ _ ?_; clear hK
  refine hsl.go (by decide) ?_; clear hsl; intro a1 hsl
  refine ops_go rfl rfl (fun K hK => ?_)
  have e49 := hsl.get 49 _ rfl
  unfold Oper.wp
  go_simp
  clear e49
  refine hK _ _ ?_; clear hK
  refine hsl.go (by decide) ?_; clear hsl; intro a1 hsl
  refine ops_done ?_
  have e5 := hsl.get 5 _ rfl
  have w5 := num_wrap (acc := 0) hn1 hn2 (by omega) (by omega)
  rw [show (10 * 0 + (c - 48) : Int) = c - 48 by omega] at w5
  refine h _ ((((hsl.nil.cons (hsl.get 31 _ rfl)).cons (hsl.get 30 _ rfl)).cons (hsl.get 29 _ rfl)).cons ?_ |>.cons (hsl.get 2 _ rfl))
  exact e5.trans (congrArg (fun z => some (Value.int .i64 z)) w5)
set_option maxRecDepth 100000 in
theorem numLo20 (w : World) (n : Int) (bx g cap : Nat) (c : Int) (hbx : w.cell? ⟨bx, 0, none⟩ = some (.int .i64 n)) (hc : w.cell? ⟨g, 0, none⟩ = some (.int .u8 c)) (hn1 : c < 48) (x : Act) (hsl : Sl x 51 [(2, .pointer (some ⟨bx, 0, none⟩)), (5, .int .i64 0), (29, .slice (some ⟨g, 0, none⟩) 2 cap), (30, .int .i64 2), (31, .int .i64 0)]) (Q : Exit → Act → World → Prop) (h : ∀ a, Sl a 51 [] → Q (.panic (wrongP n)) a w) : (Code.seq (regionIn Tryz.f63 5) (Code.seq (Code.cond (Operand.tmp 32) Code.skip (Code.exit 0)) (Code.seq (Code.block 1 (Code.seq (regionIn Tryz.f63 6) (Code.seq (Code.seq (regionIn Tryz.f63 7) (Code.cond (Operand.tmp 40) (regionIn Tryz.f63 8) Code.skip)) (regionIn Tryz.f63 9)))) (regionIn Tryz.f63 10)))).wp Tryz.prog Q x w := by
  refine wp_seq ?_
  have e : regionIn Tryz.f63 5 = Code.region 5 _ false := rfl
  rw [e]; clear e
  refine wp_region ?_
  refine ops_go rfl rfl (fun K hK => ?_)
  have e30 := hsl.get 30 _ rfl
  have e31 := hsl.get 31 _ rfl
  unfold Oper.wp
  go_simp
  clear e30 e31
  refine hK _ _ ?_; clear hK
  refine hsl.go (by decide) ?_; clear hsl; intro a1 hsl
  refine ops_done ?_
  try simp only [Exit.then, Exit.inBlock, ↓reduceIte, Nat.reduceEqDiff]
  refine wp_seq ?_
  refine wp_cond_true (hsl.ev 32 rfl) ?_
  refine wp_skip ?_
  try simp only [Exit.then, Exit.inBlock, ↓reduceIte, Nat.reduceEqDiff]
  refine wp_seq ?_
  refine wp_block ?_
  refine wp_seq ?_
  have e : regionIn Tryz.f63 6 = Code.region 6 _ false := rfl
  rw [e]; clear e
  refine wp_region ?_
  refine ops_go rfl rfl (fun K hK => ?_)
  have e29 := hsl.get 29 _ rfl
  have e31 := hsl.get 31 _ rfl
  unfold Oper.wp
  go_simp
  clear e29 e31
  refine hK _ _ ?_; clear hK
  refine hsl.go (by decide) ?_; clear hsl; intro a1 hsl
  refine ops_go rfl rfl (fun K hK => ?_)
  have e33 := hsl.get 33 _ rfl
  unfold Oper.wp
  go_simp
  clear e33
  refine hK _ _ ?_; clear hK
  refine hsl.go (by decide) ?_; clear hsl; intro a1 hsl
  refine ops_go rfl rfl (fun K hK => ?_)
  have e34 := hsl.get 34 _ rfl
  unfold Oper.wp
  go_simp
  clear e34
  refine hK _ _ ?_; clear hK
  refine hsl.go (by decide) ?_; clear hsl; intro a1 hsl
  refine ops_done ?_
  try simp only [Exit.then, Exit.inBlock, ↓reduceIte, Nat.reduceEqDiff]
  refine wp_seq ?_
  refine wp_seq ?_
  have e : regionIn Tryz.f63 7 = Code.region 7 _ false := rfl
  rw [e]; clear e
  refine wp_region ?_
  refine ops_go rfl rfl (fun K hK => ?_)
  have e7 := hsl.get 7 _ rfl
  unfold Oper.wp
  go_simp
  clear e7
  refine hK _ _ ?_; clear hK
  refine hsl.go (by decide) ?_; clear hsl; intro a1 hsl
  refine ops_go rfl rfl (fun K hK => ?_)
  have e35 := hsl.get 35 _ rfl
  unfold Oper.wp
  go_simp
  clear e35
  refine hK _ _ ?_; clear hK
  refine hsl.go (by decide) ?_; clear hsl; intro a1 hsl
  refine ops_go rfl rfl (fun K hK => ?_)
  have e36 := hsl.get 36 _ rfl
  unfold Oper.wp
  go_simp
  clear e36
  refine hK _ _ ?_; clear hK
  refine hsl.go (by decide) ?_; clear hsl; intro a1 hsl
  refine ops_skip rfl rfl rfl rfl (hsl.get 37 _ rfl) (by decide) ?_
  refine hsl.go (by decide) ?_; clear hsl; intro a1 hsl
  refine ops_skip rfl rfl rfl rfl (hsl.get 37 _ rfl) (by decide) ?_
  refine hsl.go (by decide) ?_; clear hsl; intro a1 hsl
  refine ops_go rfl rfl (fun K hK => ?_)
  have e37 := hsl.get 37 _ rfl
  have e39 := hsl.get 39 _ rfl
  unfold Oper.wp
  go_simp
  clear e37 e39
  refine hK _ _ ?_; clear hK
  refine hsl.go (by decide) ?_; clear hsl; intro a1 hsl
  refine ops_done ?_
  try simp only [Exit.then, Exit.inBlock, ↓reduceIte, Nat.reduceEqDiff]
  refine wp_cond_true (hsl.ev 40 rfl) ?_
  have e : regionIn Tryz.f63 8 = Code.region 8 _ false := rfl
  rw [e]; clear e
  refine wp_region ?_
  refine ops_go rfl rfl (fun K hK => ?_)
  have e2 := hsl.get 2 _ rfl
  unfold Oper.wp
  go_simp
  clear e2
  refine hK _ _ ?_; clear hK
  refine hsl.go (by decide) ?_; clear hsl; intro a1 hsl
  refine ops_go rfl rfl (fun K hK => ?_)
  have e41 := hsl.get 41 _ rfl
  unfold Oper.wp
  go_simp
  clear e41
  refine hK _ _ ?_; clear hK
  refine hsl.go (by decide) ?_; clear hsl; intro a1 hsl
  refine ops_go rfl rfl (fun K hK => ?_)
  have e42 := hsl.get 42 _ rfl
  unfold Oper.wp
  go_simp
  clear e42
  try simp only [Exit.then, Exit.inBlock, ↓reduceIte, Nat.reduceEqDiff]
  exact h _ hsl.nil
set_option maxRecDepth 100000 in
theorem numHi20 (w : World) (n : Int) (bx g cap : Nat) (c : Int) (hbx : w.cell? ⟨bx, 0, none⟩ = some (.int .i64 n)) (hc : w.cell? ⟨g, 0, none⟩ = some (.int .u8 c)) (hn1 : ¬ c < 48) (hn2 : 57 < c) (x : Act) (hsl : Sl x 51 [(2, .pointer (some ⟨bx, 0, none⟩)), (5, .int .i64 0), (29, .slice (some ⟨g, 0, none⟩) 2 cap), (30, .int .i64 2), (31, .int .i64 0)]) (Q : Exit → Act → World → Prop) (h : ∀ a, Sl a 51 [] → Q (.panic (wrongP n)) a w) : (Code.seq (regionIn Tryz.f63 5) (Code.seq (Code.cond (Operand.tmp 32) Code.skip (Code.exit 0)) (Code.seq (Code.block 1 (Code.seq (regionIn Tryz.f63 6) (Code.seq (Code.seq (regionIn Tryz.f63 7) (Code.cond (Operand.tmp 40) (regionIn Tryz.f63 8) Code.skip)) (regionIn Tryz.f63 9)))) (regionIn Tryz.f63 10)))).wp Tryz.prog Q x w := by
  refine wp_seq ?_
  have e : regionIn Tryz.f63 5 = Code.region 5 _ false := rfl
  rw [e]; clear e
  refine wp_region ?_
  refine ops_go rfl rfl (fun K hK => ?_)
  have e30 := hsl.get 30 _ rfl
  have e31 := hsl.get 31 _ rfl
  unfold Oper.wp
  go_simp
  clear e30 e31
  refine hK _ _ ?_; clear hK
  refine hsl.go (by decide) ?_; clear hsl; intro a1 hsl
  refine ops_done ?_
  try simp only [Exit.then, Exit.inBlock, ↓reduceIte, Nat.reduceEqDiff]
  refine wp_seq ?_
  refine wp_cond_true (hsl.ev 32 rfl) ?_
  refine wp_skip ?_
  try simp only [Exit.then, Exit.inBlock, ↓reduceIte, Nat.reduceEqDiff]
  refine wp_seq ?_
  refine wp_block ?_
  refine wp_seq ?_
  have e : regionIn Tryz.f63 6 = Code.region 6 _ false := rfl
  rw [e]; clear e
  refine wp_region ?_
  refine ops_go rfl rfl (fun K hK => ?_)
  have e29 := hsl.get 29 _ rfl
  have e31 := hsl.get 31 _ rfl
  unfold Oper.wp
  go_simp
  clear e29 e31
  refine hK _ _ ?_; clear hK
  refine hsl.go (by decide) ?_; clear hsl; intro a1 hsl
  refine ops_go rfl rfl (fun K hK => ?_)
  have e33 := hsl.get 33 _ rfl
  unfold Oper.wp
  go_simp
  clear e33
  refine hK _ _ ?_; clear hK
  refine hsl.go (by decide) ?_; clear hsl; intro a1 hsl
  refine ops_go rfl rfl (fun K hK => ?_)
  have e34 := hsl.get 34 _ rfl
  unfold Oper.wp
  go_simp
  clear e34
  refine hK _ _ ?_; clear hK
  refine hsl.go (by decide) ?_; clear hsl; intro a1 hsl
  refine ops_done ?_
  try simp only [Exit.then, Exit.inBlock, ↓reduceIte, Nat.reduceEqDiff]
  refine wp_seq ?_
  refine wp_seq ?_
  have e : regionIn Tryz.f63 7 = Code.region 7 _ false := rfl
  rw [e]; clear e
  refine wp_region ?_
  refine ops_go rfl rfl (fun K hK => ?_)
  have e7 := hsl.get 7 _ rfl
  unfold Oper.wp
  go_simp
  clear e7
  refine hK _ _ ?_; clear hK
  refine hsl.go (by decide) ?_; clear hsl; intro a1 hsl
  refine ops_go rfl rfl (fun K hK => ?_)
  have e35 := hsl.get 35 _ rfl
  unfold Oper.wp
  go_simp
  clear e35
  refine hK _ _ ?_; clear hK
  refine hsl.go (by decide) ?_; clear hsl; intro a1 hsl
  refine ops_go rfl rfl (fun K hK => ?_)
  have e36 := hsl.get 36 _ rfl
  unfold Oper.wp
  go_simp
  clear e36
  refine hK _ _ ?_; clear hK
  refine hsl.go (by decide) ?_; clear hsl; intro a1 hsl
  refine ops_want rfl rfl rfl rfl (hsl.get 37 _ rfl) (fun K hK => ?_)
  have e7 := hsl.get 7 _ rfl
  unfold Oper.wp
  go_simp
  clear e7
  refine hK _ _ ?_; clear hK
  refine hsl.go (by decide) ?_; clear hsl; intro a1 hsl
  refine ops_want rfl rfl rfl rfl (hsl.get 37 _ rfl) (fun K hK => ?_)
  have e38 := hsl.get 38 _ rfl
  unfold Oper.wp
  go_simp
  clear e38
  refine hK _ _ ?_; clear hK
  refine hsl.go (by decide) ?_; clear hsl; intro a1 hsl
  refine ops_go rfl rfl (fun K hK => ?_)
  have e37 := hsl.get 37 _ rfl
  have e39 := hsl.get 39 _ rfl
  unfold Oper.wp
  go_simp
  clear e37 e39
  refine hK _ _ ?_; clear hK
  refine hsl.go (by decide) ?_; clear hsl; intro a1 hsl
  refine ops_done ?_
  try simp only [Exit.then, Exit.inBlock, ↓reduceIte, Nat.reduceEqDiff]
  refine wp_cond_true (hsl.ev 40 rfl) ?_
  have e : regionIn Tryz.f63 8 = Code.region 8 _ false := rfl
  rw [e]; clear e
  refine wp_region ?_
  refine ops_go rfl rfl (fun K hK => ?_)
  have e2 := hsl.get 2 _ rfl
  unfold Oper.wp
  go_simp
  clear e2
  refine hK _ _ ?_; clear hK
  refine hsl.go (by decide) ?_; clear hsl; intro a1 hsl
  refine ops_go rfl rfl (fun K hK => ?_)
  have e41 := hsl.get 41 _ rfl
  unfold Oper.wp
  go_simp
  clear e41
  refine hK _ _ ?_; clear hK
  refine hsl.go (by decide) ?_; clear hsl; intro a1 hsl
  refine ops_go rfl rfl (fun K hK => ?_)
  have e42 := hsl.get 42 _ rfl
  unfold Oper.wp
  go_simp
  clear e42
  try simp only [Exit.then, Exit.inBlock, ↓reduceIte, Nat.reduceEqDiff]
  exact h _ hsl.nil
set_option maxRecDepth 100000 in
theorem numOk21 (w : World) (n : Int) (bx g cap : Nat) (c : Int) (hbx : w.cell? ⟨bx, 0, none⟩ = some (.int .i64 n)) (hc : w.cell? ⟨g, 1, none⟩ = some (.int .u8 c)) (hn1 : ¬ c < 48) (hn2 : ¬ 57 < c) (acc : Int) (h3 : 0 ≤ acc) (h4 : acc ≤ 9) (x : Act) (hsl : Sl x 51 [(2, .pointer (some ⟨bx, 0, none⟩)), (5, .int .i64 acc), (29, .slice (some ⟨g, 0, none⟩) 2 cap), (30, .int .i64 2), (31, .int .i64 1)]) (Q : Exit → Act → World → Prop) (h : ∀ a, Sl a 51 [(2, .pointer (some ⟨bx, 0, none⟩)), (5, .int .i64 (10 * acc + (c - 48))), (29, .slice (some ⟨g, 0, none⟩) 2 cap), (30, .int .i64 2), (31, .int .i64 2)] → Q .normal a w) : (Code.seq (regionIn Tryz.f63 5) (Code.seq (Code.cond (Operand.tmp 32) Code.skip (Code.exit 0)) (Code.seq (Code.block 1 (Code.seq (regionIn Tryz.f63 6) (Code.seq (Code.seq (regionIn Tryz.f63 7) (Code.cond (Operand.tmp 40) (regionIn Tryz.f63 8) Code.skip)) (regionIn Tryz.f63 9)))) (regionIn Tryz.f63 10)))).wp Tryz.prog Q x w := by
  refine wp_seq ?_
  have e : regionIn Tryz.f63 5 = Code.region 5 _ false := rfl
  rw [e]; clear e
  refine wp_region ?_
  refine ops_go rfl rfl (fun K hK => ?_)
  have e30 := hsl.get 30 _ rfl
  have e31 := hsl.get 31 _ rfl
  unfold Oper.wp
  go_simp
  clear e30 e31
  refine hK _ _ ?_; clear hK
  refine hsl.go (by decide) ?_; clear hsl; intro a1 hsl
  refine ops_done ?_
  try simp only [Exit.then, Exit.inBlock, ↓reduceIte, Nat.reduceEqDiff]
  refine wp_seq ?_
  refine wp_cond_true (hsl.ev 32 rfl) ?_
  refine wp_skip ?_
  try simp only [Exit.then, Exit.inBlock, ↓reduceIte, Nat.reduceEqDiff]
  refine wp_seq ?_
  refine wp_block ?_
  refine wp_seq ?_
  have e : regionIn Tryz.f63 6 = Code.region 6 _ false := rfl
  rw [e]; clear e
  refine wp_region ?_
  refine ops_go rfl rfl (fun K hK => ?_)
  have e29 := hsl.get 29 _ rfl
  have e31 := hsl.get 31 _ rfl
  unfold Oper.wp
  go_simp
  clear e29 e31
  refine hK _ _ ?_; clear hK
  refine hsl.go (by decide) ?_; clear hsl; intro a1 hsl
  refine ops_go rfl rfl (fun K hK => ?_)
  have e33 := hsl.get 33 _ rfl
  unfold Oper.wp
  go_simp
  clear e33
  refine hK _ _ ?_; clear hK
  refine hsl.go (by decide) ?_; clear hsl; intro a1 hsl
  refine ops_go rfl rfl (fun K hK => ?_)
  have e34 := hsl.get 34 _ rfl
  unfold Oper.wp
  go_simp
  clear e34
  refine hK _ _ ?_; clear hK
  refine hsl.go (by decide) ?_; clear hsl; intro a1 hsl
  refine ops_done ?_
  try simp only [Exit.then, Exit.inBlock, ↓reduceIte, Nat.reduceEqDiff]
  refine wp_seq ?_
  refine wp_seq ?_
  have e : regionIn Tryz.f63 7 = Code.region 7 _ false := rfl
  rw [e]; clear e
  refine wp_region ?_
  refine ops_go rfl rfl (fun K hK => ?_)
  have e7 := hsl.get 7 _ rfl
  unfold Oper.wp
  go_simp
  clear e7
  refine hK _ _ ?_; clear hK
  refine hsl.go (by decide) ?_; clear hsl; intro a1 hsl
  refine ops_go rfl rfl (fun K hK => ?_)
  have e35 := hsl.get 35 _ rfl
  unfold Oper.wp
  go_simp
  clear e35
  refine hK _ _ ?_; clear hK
  refine hsl.go (by decide) ?_; clear hsl; intro a1 hsl
  refine ops_go rfl rfl (fun K hK => ?_)
  have e36 := hsl.get 36 _ rfl
  unfold Oper.wp
  go_simp
  clear e36
  refine hK _ _ ?_; clear hK
  refine hsl.go (by decide) ?_; clear hsl; intro a1 hsl
  refine ops_want rfl rfl rfl rfl (hsl.get 37 _ rfl) (fun K hK => ?_)
  have e7 := hsl.get 7 _ rfl
  unfold Oper.wp
  go_simp
  clear e7
  refine hK _ _ ?_; clear hK
  refine hsl.go (by decide) ?_; clear hsl; intro a1 hsl
  refine ops_want rfl rfl rfl rfl (hsl.get 37 _ rfl) (fun K hK => ?_)
  have e38 := hsl.get 38 _ rfl
  unfold Oper.wp
  go_simp
  clear e38
  refine hK _ _ ?_; clear hK
  refine hsl.go (by decide) ?_; clear hsl; intro a1 hsl
  refine ops_go rfl rfl (fun K hK => ?_)
  have e37 := hsl.get 37 _ rfl
  have e39 := hsl.get 39 _ rfl
  unfold Oper.wp
  go_simp
  clear e37 e39
  refine hK _ _ ?_; clear hK
  refine hsl.go (by decide) ?_; clear hsl; intro a1 hsl
  refine ops_done ?_
  try simp only [Exit.then, Exit.inBlock, ↓reduceIte, Nat.reduceEqDiff]
  refine wp_cond_false (hsl.ev 40 rfl) ?_
  refine wp_skip ?_
  try simp only [Exit.then, Exit.inBlock, ↓reduceIte, Nat.reduceEqDiff]
  have e : regionIn Tryz.f63 9 = Code.region 9 _ false := rfl
  rw [e]; clear e
  refine wp_region ?_
  refine ops_go rfl rfl (fun K hK => ?_)
  have e5 := hsl.get 5 _ rfl
  unfold Oper.wp
  go_simp
  clear e5
  refine hK _ _ ?_; clear hK
  refine hsl.go (by decide) ?_; clear hsl; intro a1 hsl
  refine ops_go rfl rfl (fun K hK => ?_)
  have e43 := hsl.get 43 _ rfl
  unfold Oper.wp
  go_simp
  clear e43
  refine hK _ _ ?_; clear hK
  refine hsl.go (by decide) ?_; clear hsl; intro a1 hsl
  refine ops_go rfl rfl (fun K hK => ?_)
  have e7 := hsl.get 7 _ rfl
  unfold Oper.wp
  go_simp
  clear e7
  refine hK _ _ ?_; clear hK
  refine hsl.go (by decide) ?_; clear hsl; intro a1 hsl
  refine ops_go rfl rfl (fun K hK => ?_)
  have e45 := hsl.get 45 _ rfl
  unfold Oper.wp
  go_simp
  clear e45
  refine hK _ _ ?_; clear hK
  refine hsl.go (by decide) ?_; clear hsl; intro a1 hsl
  refine ops_go rfl rfl (fun K hK => ?_)
  have e46 := hsl.get 46 _ rfl
  unfold Oper.wp
  go_simp
  clear e46
  refine hK _ _ ?_; clear hK
  refine hsl.go (by decide) ?_; clear hsl; intro a1 hsl
  refine ops_go rfl rfl (fun K hK => ?_)
  have e44 := hsl.get 44 _ rfl
  have e47 := hsl.get 47 _ rfl
  unfold Oper.wp
  go_simp
  clear e44 e47
  refine hK _ _ ?_; clear hK
  refine hsl.go (by decide) ?_; clear hsl; intro a1 hsl
  refine ops_go rfl rfl (fun K hK => ?_)
  have e48 := hsl.get 48 _ rfl
  unfold Oper.wp
  go_simp
  clear e48
  refine hK _ _ ?_; clear hK
  refine hsl.go (by decide) ?_; clear hsl; intro a1 hsl
  refine ops_done ?_
  try simp only [Exit.then, Exit.inBlock, ↓reduceIte, Nat.reduceEqDiff]
  have e : regionIn Tryz.f63 10 = Code.region 10 _ false := rfl
  rw [e]; clear e
  refine wp_region ?_
  refine ops_go rfl rfl (fun K hK => ?_)
  have e31 := hsl.get 31 _ rfl
  unfold Oper.wp
  go_simp
  clear e31
  refine hK _ _ ?_; clear hK
  refine hsl.go (by decide) ?_; clear hsl; intro a1 hsl
  refine ops_go rfl rfl (fun K hK => ?_)
  have e49 := hsl.get 49 _ rfl
  unfold Oper.wp
  go_simp
  clear e49
  refine hK _ _ ?_; clear hK
  refine hsl.go (by decide) ?_; clear hsl; intro a1 hsl
  refine ops_done ?_
  have e5 := hsl.get 5 _ rfl
  have w5 := num_wrap hn1 hn2 h3 h4
  refine h _ ((((hsl.nil.cons (hsl.get 31 _ rfl)).cons (hsl.get 30 _ rfl)).cons (hsl.get 29 _ rfl)).cons ?_ |>.cons (hsl.get 2 _ rfl))
  exact e5.trans (congrArg (fun z => some (Value.int .i64 z)) w5)
set_option maxRecDepth 100000 in
theorem numLo21 (w : World) (n : Int) (bx g cap : Nat) (c : Int) (hbx : w.cell? ⟨bx, 0, none⟩ = some (.int .i64 n)) (hc : w.cell? ⟨g, 1, none⟩ = some (.int .u8 c)) (hn1 : c < 48) (acc : Int) (h3 : 0 ≤ acc) (h4 : acc ≤ 9) (x : Act) (hsl : Sl x 51 [(2, .pointer (some ⟨bx, 0, none⟩)), (5, .int .i64 acc), (29, .slice (some ⟨g, 0, none⟩) 2 cap), (30, .int .i64 2), (31, .int .i64 1)]) (Q : Exit → Act → World → Prop) (h : ∀ a, Sl a 51 [] → Q (.panic (wrongP n)) a w) : (Code.seq (regionIn Tryz.f63 5) (Code.seq (Code.cond (Operand.tmp 32) Code.skip (Code.exit 0)) (Code.seq (Code.block 1 (Code.seq (regionIn Tryz.f63 6) (Code.seq (Code.seq (regionIn Tryz.f63 7) (Code.cond (Operand.tmp 40) (regionIn Tryz.f63 8) Code.skip)) (regionIn Tryz.f63 9)))) (regionIn Tryz.f63 10)))).wp Tryz.prog Q x w := by
  refine wp_seq ?_
  have e : regionIn Tryz.f63 5 = Code.region 5 _ false := rfl
  rw [e]; clear e
  refine wp_region ?_
  refine ops_go rfl rfl (fun K hK => ?_)
  have e30 := hsl.get 30 _ rfl
  have e31 := hsl.get 31 _ rfl
  unfold Oper.wp
  go_simp
  clear e30 e31
  refine hK _ _ ?_; clear hK
  refine hsl.go (by decide) ?_; clear hsl; intro a1 hsl
  refine ops_done ?_
  try simp only [Exit.then, Exit.inBlock, ↓reduceIte, Nat.reduceEqDiff]
  refine wp_seq ?_
  refine wp_cond_true (hsl.ev 32 rfl) ?_
  refine wp_skip ?_
  try simp only [Exit.then, Exit.inBlock, ↓reduceIte, Nat.reduceEqDiff]
  refine wp_seq ?_
  refine wp_block ?_
  refine wp_seq ?_
  have e : regionIn Tryz.f63 6 = Code.region 6 _ false := rfl
  rw [e]; clear e
  refine wp_region ?_
  refine ops_go rfl rfl (fun K hK => ?_)
  have e29 := hsl.get 29 _ rfl
  have e31 := hsl.get 31 _ rfl
  unfold Oper.wp
  go_simp
  clear e29 e31
  refine hK _ _ ?_; clear hK
  refine hsl.go (by decide) ?_; clear hsl; intro a1 hsl
  refine ops_go rfl rfl (fun K hK => ?_)
  have e33 := hsl.get 33 _ rfl
  unfold Oper.wp
  go_simp
  clear e33
  refine hK _ _ ?_; clear hK
  refine hsl.go (by decide) ?_; clear hsl; intro a1 hsl
  refine ops_go rfl rfl (fun K hK => ?_)
  have e34 := hsl.get 34 _ rfl
  unfold Oper.wp
  go_simp
  clear e34
  refine hK _ _ ?_; clear hK
  refine hsl.go (by decide) ?_; clear hsl; intro a1 hsl
  refine ops_done ?_
  try simp only [Exit.then, Exit.inBlock, ↓reduceIte, Nat.reduceEqDiff]
  refine wp_seq ?_
  refine wp_seq ?_
  have e : regionIn Tryz.f63 7 = Code.region 7 _ false := rfl
  rw [e]; clear e
  refine wp_region ?_
  refine ops_go rfl rfl (fun K hK => ?_)
  have e7 := hsl.get 7 _ rfl
  unfold Oper.wp
  go_simp
  clear e7
  refine hK _ _ ?_; clear hK
  refine hsl.go (by decide) ?_; clear hsl; intro a1 hsl
  refine ops_go rfl rfl (fun K hK => ?_)
  have e35 := hsl.get 35 _ rfl
  unfold Oper.wp
  go_simp
  clear e35
  refine hK _ _ ?_; clear hK
  refine hsl.go (by decide) ?_; clear hsl; intro a1 hsl
  refine ops_go rfl rfl (fun K hK => ?_)
  have e36 := hsl.get 36 _ rfl
  unfold Oper.wp
  go_simp
  clear e36
  refine hK _ _ ?_; clear hK
  refine hsl.go (by decide) ?_; clear hsl; intro a1 hsl
  refine ops_skip rfl rfl rfl rfl (hsl.get 37 _ rfl) (by decide) ?_
  refine hsl.go (by decide) ?_; clear hsl; intro a1 hsl
  refine ops_skip rfl rfl rfl rfl (hsl.get 37 _ rfl) (by decide) ?_
  refine hsl.go (by decide) ?_; clear hsl; intro a1 hsl
  refine ops_go rfl rfl (fun K hK => ?_)
  have e37 := hsl.get 37 _ rfl
  have e39 := hsl.get 39 _ rfl
  unfold Oper.wp
  go_simp
  clear e37 e39
  refine hK _ _ ?_; clear hK
  refine hsl.go (by decide) ?_; clear hsl; intro a1 hsl
  refine ops_done ?_
  try simp only [Exit.then, Exit.inBlock, ↓reduceIte, Nat.reduceEqDiff]
  refine wp_cond_true (hsl.ev 40 rfl) ?_
  have e : regionIn Tryz.f63 8 = Code.region 8 _ false := rfl
  rw [e]; clear e
  refine wp_region ?_
  refine ops_go rfl rfl (fun K hK => ?_)
  have e2 := hsl.get 2 _ rfl
  unfold Oper.wp
  go_simp
  clear e2
  refine hK _ _ ?_; clear hK
  refine hsl.go (by decide) ?_; clear hsl; intro a1 hsl
  refine ops_go rfl rfl (fun K hK => ?_)
  have e41 := hsl.get 41 _ rfl
  unfold Oper.wp
  go_simp
  clear e41
  refine hK _ _ ?_; clear hK
  refine hsl.go (by decide) ?_; clear hsl; intro a1 hsl
  refine ops_go rfl rfl (fun K hK => ?_)
  have e42 := hsl.get 42 _ rfl
  unfold Oper.wp
  go_simp
  clear e42
  try simp only [Exit.then, Exit.inBlock, ↓reduceIte, Nat.reduceEqDiff]
  exact h _ hsl.nil
set_option maxRecDepth 100000 in
theorem numHi21 (w : World) (n : Int) (bx g cap : Nat) (c : Int) (hbx : w.cell? ⟨bx, 0, none⟩ = some (.int .i64 n)) (hc : w.cell? ⟨g, 1, none⟩ = some (.int .u8 c)) (hn1 : ¬ c < 48) (hn2 : 57 < c) (acc : Int) (h3 : 0 ≤ acc) (h4 : acc ≤ 9) (x : Act) (hsl : Sl x 51 [(2, .pointer (some ⟨bx, 0, none⟩)), (5, .int .i64 acc), (29, .slice (some ⟨g, 0, none⟩) 2 cap), (30, .int .i64 2), (31, .int .i64 1)]) (Q : Exit → Act → World → Prop) (h : ∀ a, Sl a 51 [] → Q (.panic (wrongP n)) a w) : (Code.seq (regionIn Tryz.f63 5) (Code.seq (Code.cond (Operand.tmp 32) Code.skip (Code.exit 0)) (Code.seq (Code.block 1 (Code.seq (regionIn Tryz.f63 6) (Code.seq (Code.seq (regionIn Tryz.f63 7) (Code.cond (Operand.tmp 40) (regionIn Tryz.f63 8) Code.skip)) (regionIn Tryz.f63 9)))) (regionIn Tryz.f63 10)))).wp Tryz.prog Q x w := by
  refine wp_seq ?_
  have e : regionIn Tryz.f63 5 = Code.region 5 _ false := rfl
  rw [e]; clear e
  refine wp_region ?_
  refine ops_go rfl rfl (fun K hK => ?_)
  have e30 := hsl.get 30 _ rfl
  have e31 := hsl.get 31 _ rfl
  unfold Oper.wp
  go_simp
  clear e30 e31
  refine hK _ _ ?_; clear hK
  refine hsl.go (by decide) ?_; clear hsl; intro a1 hsl
  refine ops_done ?_
  try simp only [Exit.then, Exit.inBlock, ↓reduceIte, Nat.reduceEqDiff]
  refine wp_seq ?_
  refine wp_cond_true (hsl.ev 32 rfl) ?_
  refine wp_skip ?_
  try simp only [Exit.then, Exit.inBlock, ↓reduceIte, Nat.reduceEqDiff]
  refine wp_seq ?_
  refine wp_block ?_
  refine wp_seq ?_
  have e : regionIn Tryz.f63 6 = Code.region 6 _ false := rfl
  rw [e]; clear e
  refine wp_region ?_
  refine ops_go rfl rfl (fun K hK => ?_)
  have e29 := hsl.get 29 _ rfl
  have e31 := hsl.get 31 _ rfl
  unfold Oper.wp
  go_simp
  clear e29 e31
  refine hK _ _ ?_; clear hK
  refine hsl.go (by decide) ?_; clear hsl; intro a1 hsl
  refine ops_go rfl rfl (fun K hK => ?_)
  have e33 := hsl.get 33 _ rfl
  unfold Oper.wp
  go_simp
  clear e33
  refine hK _ _ ?_; clear hK
  refine hsl.go (by decide) ?_; clear hsl; intro a1 hsl
  refine ops_go rfl rfl (fun K hK => ?_)
  have e34 := hsl.get 34 _ rfl
  unfold Oper.wp
  go_simp
  clear e34
  refine hK _ _ ?_; clear hK
  refine hsl.go (by decide) ?_; clear hsl; intro a1 hsl
  refine ops_done ?_
  try simp only [Exit.then, Exit.inBlock, ↓reduceIte, Nat.reduceEqDiff]
  refine wp_seq ?_
  refine wp_seq ?_
  have e : regionIn Tryz.f63 7 = Code.region 7 _ false := rfl
  rw [e]; clear e
  refine wp_region ?_
  refine ops_go rfl rfl (fun K hK => ?_)
  have e7 := hsl.get 7 _ rfl
  unfold Oper.wp
  go_simp
  clear e7
  refine hK _ _ ?_; clear hK
  refine hsl.go (by decide) ?_; clear hsl; intro a1 hsl
  refine ops_go rfl rfl (fun K hK => ?_)
  have e35 := hsl.get 35 _ rfl
  unfold Oper.wp
  go_simp
  clear e35
  refine hK _ _ ?_; clear hK
  refine hsl.go (by decide) ?_; clear hsl; intro a1 hsl
  refine ops_go rfl rfl (fun K hK => ?_)
  have e36 := hsl.get 36 _ rfl
  unfold Oper.wp
  go_simp
  clear e36
  refine hK _ _ ?_; clear hK
  refine hsl.go (by decide) ?_; clear hsl; intro a1 hsl
  refine ops_want rfl rfl rfl rfl (hsl.get 37 _ rfl) (fun K hK => ?_)
  have e7 := hsl.get 7 _ rfl
  unfold Oper.wp
  go_simp
  clear e7
  refine hK _ _ ?_; clear hK
  refine hsl.go (by decide) ?_; clear hsl; intro a1 hsl
  refine ops_want rfl rfl rfl rfl (hsl.get 37 _ rfl) (fun K hK => ?_)
  have e38 := hsl.get 38 _ rfl
  unfold Oper.wp
  go_simp
  clear e38
  refine hK _ _ ?_; clear hK
  refine hsl.go (by decide) ?_; clear hsl; intro a1 hsl
  refine ops_go rfl rfl (fun K hK => ?_)
  have e37 := hsl.get 37 _ rfl
  have e39 := hsl.get 39 _ rfl
  unfold Oper.wp
  go_simp
  clear e37 e39
  refine hK _ _ ?_; clear hK
  refine hsl.go (by decide) ?_; clear hsl; intro a1 hsl
  refine ops_done ?_
  try simp only [Exit.then, Exit.inBlock, ↓reduceIte, Nat.reduceEqDiff]
  refine wp_cond_true (hsl.ev 40 rfl) ?_
  have e : regionIn Tryz.f63 8 = Code.region 8 _ false := rfl
  rw [e]; clear e
  refine wp_region ?_
  refine ops_go rfl rfl (fun K hK => ?_)
  have e2 := hsl.get 2 _ rfl
  unfold Oper.wp
  go_simp
  clear e2
  refine hK _ _ ?_; clear hK
  refine hsl.go (by decide) ?_; clear hsl; intro a1 hsl
  refine ops_go rfl rfl (fun K hK => ?_)
  have e41 := hsl.get 41 _ rfl
  unfold Oper.wp
  go_simp
  clear e41
  refine hK _ _ ?_; clear hK
  refine hsl.go (by decide) ?_; clear hsl; intro a1 hsl
  refine ops_go rfl rfl (fun K hK => ?_)
  have e42 := hsl.get 42 _ rfl
  unfold Oper.wp
  go_simp
  clear e42
  try simp only [Exit.then, Exit.inBlock, ↓reduceIte, Nat.reduceEqDiff]
  exact h _ hsl.nil
set_option maxRecDepth 100000 in
theorem numEnd2 (w : World) (bx g cap : Nat) (v : Int) (x : Act) (hsl : Sl x 51 [(2, .pointer (some ⟨bx, 0, none⟩)), (5, .int .i64 v), (29, .slice (some ⟨g, 0, none⟩) 2 cap), (30, .int .i64 2), (31, .int .i64 2)]) (Q : Exit → Act → World → Prop) (h : ∀ a, Sl a 51 [(5, .int .i64 v)] → Q (.exit 0) a w) : (Code.seq (regionIn Tryz.f63 5) (Code.seq (Code.cond (Operand.tmp 32) Code.skip (Code.exit 0)) (Code.seq (Code.block 1 (Code.seq (regionIn Tryz.f63 6) (Code.seq (Code.seq (regionIn Tryz.f63 7) (Code.cond (Operand.tmp 40) (regionIn Tryz.f63 8) Code.skip)) (regionIn Tryz.f63 9)))) (regionIn Tryz.f63 10)))).wp Tryz.prog Q x w := by
  refine wp_seq ?_
  have e : regionIn Tryz.f63 5 = Code.region 5 _ false := rfl
  rw [e]; clear e
  refine wp_region ?_
  refine ops_go rfl rfl (fun K hK => ?_)
  have e30 := hsl.get 30 _ rfl
  have e31 := hsl.get 31 _ rfl
  unfold Oper.wp
  go_simp
  clear e30 e31
  refine hK _ _ ?_; clear hK
  refine hsl.go (by decide) ?_; clear hsl; intro a1 hsl
  refine ops_done ?_
  try simp only [Exit.then, Exit.inBlock, ↓reduceIte, Nat.reduceEqDiff]
  refine wp_seq ?_
  refine wp_cond_false (hsl.ev 32 rfl) ?_
  refine wp_exit ?_
  try simp only [Exit.then, Exit.inBlock, ↓reduceIte, Nat.reduceEqDiff]
  exact h _ (hsl.nil.cons (hsl.get 5 _ rfl))
/-- What number leaves: the number, or the panic that tells of the line. -/
def NumPost (w : World) (n : Int) (o : Option Int) : Ending → World → Prop := fun e w' => Below w.heap.size w w' ∧ e = match o with | some v => .returned (.int .i64 v) | none => .panicked (wrongP n)
theorem Sl.entry2 {n : Nat} (x y : Value) (hn : 2 ≤ n) : Sl (⟨#[x, y] ++ Array.replicate (n - 2) undef, []⟩ : Act) n [(0, x), (1, y)] := by
  refine ⟨by simp; omega, rfl, fun t v h => ?_⟩
  rw [List.lookup_cons] at h
  by_cases e : t = 0
  · subst e; simp at h; rw [h, Array.getElem?_append_left (by simp)]; rfl
  · have e2 : (t == 0) = false := by simpa using e
    rw [e2, List.lookup_cons] at h
    by_cases e3 : t = 1
    · subst e3; simp at h; rw [h, Array.getElem?_append_left (by simp)]; rfl
    · have e4 : (t == 1) = false := by simpa using e3
      rw [e4] at h; simp at h
theorem Sl.entry1 {n : Nat} (x : Value) (hn : 1 ≤ n) : Sl (⟨#[x] ++ Array.replicate (n - 1) undef, []⟩ : Act) n [(0, x)] := by
  refine ⟨by simp; omega, rfl, fun t v h => ?_⟩
  rw [List.lookup_cons] at h
  by_cases e : t = 0
  · subst e; simp at h; rw [h, Array.getElem?_append_left (by simp)]; rfl
  · have e2 : (t == 0) = false := by simpa using e
    rw [e2] at h; simp at h
theorem alloc_rwB {w : World} {c : Array Value} {t : TypeId} {G : World → Prop} (h : ∀ W, w.heap.size < W.heap.size → Rw W w.heap.size c t → Below w.heap.size w W → G W) : G (w.alloc (.cells c t)) := h _ (by simp) (Rw.new _ _ _) (alloc_below _ _)
set_option maxRecDepth 100000 in
theorem num_body : Tryz.f63.body = some (Code.seq (regionIn Tryz.f63 0) (Code.seq (Code.seq (regionIn Tryz.f63 1) (Code.cond (Operand.tmp 25) (regionIn Tryz.f63 2) Code.skip)) (Code.seq (regionIn Tryz.f63 3) (Code.seq (Code.seq (regionIn Tryz.f63 4) (Code.block 0 (Code.loop (Code.seq (regionIn Tryz.f63 5) (Code.seq (Code.cond (Operand.tmp 32) Code.skip (Code.exit 0)) (Code.seq (Code.block 1 (Code.seq (regionIn Tryz.f63 6) (Code.seq (Code.seq (regionIn Tryz.f63 7) (Code.cond (Operand.tmp 40) (regionIn Tryz.f63 8) Code.skip)) (regionIn Tryz.f63 9)))) (regionIn Tryz.f63 10))))))) (Code.seq (regionIn Tryz.f63 11) Code.ret))))) := rfl
set_option maxRecDepth 100000 in
theorem numberE (w : World) (n : Int) (S : ByteArray) (hz : S.size = 0) : Calls Tryz.prog 63 #[.agg #[.int .i64 n], .string S] w (NumPost w n none) := by
  refine calls_of_wp Tryz.func63 num_body ?_
  have hsl : Sl (⟨#[.agg #[.int .i64 n], .string S] ++ Array.replicate (Tryz.f63.ntmps - (#[.agg #[.int .i64 n], .string S] : Array Value).size) undef, []⟩ : Act) 51 [(0, .agg #[.int .i64 n]), (1, .string S)] := by rw [Tryz.ntmps63]; exact Sl.entry2 _ _ (by omega)
  revert hsl; generalize (Act.mk _ _) = a0; intro hsl
  refine wp_seq ?_
  have e : regionIn Tryz.f63 0 = Code.region 0 _ false := rfl
  rw [e]; clear e
  refine wp_region ?_
  refine ops_go rfl rfl (fun K hK => ?_)
  have e0 := hsl.get 0 _ rfl
  unfold Oper.wp
  go_simp
  clear e0
  refine hK _ _ ?_; clear hK
  refine hsl.go (by decide) ?_; clear hsl; intro a1 hsl
  refine alloc_rwB (G := fun W => wpOps _ _ _ _ _ W) ?_
  intro w1 hz1 X1 hb1
  generalize hg1 : w.heap.size = bx at X1 hsl; clear hg1
  have hbx := X1.cell (o := 0) rfl
  refine ops_go rfl rfl (fun K hK => ?_)
  unfold Oper.wp
  go_simp
  refine hK _ _ ?_; clear hK
  refine hsl.go (by decide) ?_; clear hsl; intro a1 hsl
  refine ops_done ?_
  try simp only [Exit.then, Exit.inBlock, ↓reduceIte, Nat.reduceEqDiff]
  refine wp_seq ?_
  refine wp_seq ?_
  have e : regionIn Tryz.f63 1 = Code.region 1 _ false := rfl
  rw [e]; clear e
  refine wp_region ?_
  refine ops_go rfl rfl (fun K hK => ?_)
  have e1 := hsl.get 1 _ rfl
  unfold Oper.wp
  go_simp
  clear e1
  refine hK _ _ ?_; clear hK
  refine hsl.go (by decide) ?_; clear hsl; intro a1 hsl
  refine ops_go rfl rfl (fun K hK => ?_)
  have e8 := hsl.get 8 _ rfl
  unfold Oper.wp
  go_simp
  clear e8
  refine hK _ _ ?_; clear hK
  refine hsl.go (by decide) ?_; clear hsl; intro a1 hsl
  refine ops_go rfl rfl (fun K hK => ?_)
  have e9 := hsl.get 9 _ rfl
  unfold Oper.wp
  go_simp
  clear e9
  refine hK _ _ ?_; clear hK
  refine hsl.go (by decide) ?_; clear hsl; intro a1 hsl
  refine ops_go rfl rfl (fun K hK => ?_)
  have e10 := hsl.get 10 _ rfl
  unfold Oper.wp
  go_simp
  clear e10
  refine hK _ _ ?_; clear hK
  refine hsl.go (by decide) ?_; clear hsl; intro a1 hsl
  refine ops_skip rfl rfl rfl rfl (hsl.get 11 _ rfl) (by decide) ?_
  refine hsl.go (by decide) ?_; clear hsl; intro a1 hsl
  refine ops_skip rfl rfl rfl rfl (hsl.get 11 _ rfl) (by decide) ?_
  refine hsl.go (by decide) ?_; clear hsl; intro a1 hsl
  refine ops_skip rfl rfl rfl rfl (hsl.get 11 _ rfl) (by decide) ?_
  refine hsl.go (by decide) ?_; clear hsl; intro a1 hsl
  refine ops_go rfl rfl (fun K hK => ?_)
  have e11 := hsl.get 11 _ rfl
  have e14 := hsl.get 14 _ rfl
  unfold Oper.wp
  go_simp
  clear e11 e14
  refine hK _ _ ?_; clear hK
  refine hsl.go (by decide) ?_; clear hsl; intro a1 hsl
  refine ops_go rfl rfl (fun K hK => ?_)
  have e15 := hsl.get 15 _ rfl
  unfold Oper.wp
  go_simp
  clear e15
  refine hK _ _ ?_; clear hK
  refine hsl.go (by decide) ?_; clear hsl; intro a1 hsl
  refine ops_skip rfl rfl rfl rfl (hsl.get 16 _ rfl) (by decide) ?_
  refine hsl.go (by decide) ?_; clear hsl; intro a1 hsl
  refine ops_skip rfl rfl rfl rfl (hsl.get 16 _ rfl) (by decide) ?_
  refine hsl.go (by decide) ?_; clear hsl; intro a1 hsl
  refine ops_skip rfl rfl rfl rfl (hsl.get 16 _ rfl) (by decide) ?_
  refine hsl.go (by decide) ?_; clear hsl; intro a1 hsl
  refine ops_skip rfl rfl rfl rfl (hsl.get 16 _ rfl) (by decide) ?_
  refine hsl.go (by decide) ?_; clear hsl; intro a1 hsl
  refine ops_skipU rfl rfl rfl rfl (hsl.get 20 _ rfl) ?_
  refine hsl.go (by decide) ?_; clear hsl; intro a1 hsl
  refine ops_skipU rfl rfl rfl rfl (hsl.get 20 _ rfl) ?_
  refine hsl.go (by decide) ?_; clear hsl; intro a1 hsl
  refine ops_skipU rfl rfl rfl rfl (hsl.get 20 _ rfl) ?_
  refine hsl.go (by decide) ?_; clear hsl; intro a1 hsl
  refine ops_skip rfl rfl rfl rfl (hsl.get 16 _ rfl) (by decide) ?_
  refine hsl.go (by decide) ?_; clear hsl; intro a1 hsl
  refine ops_go rfl rfl (fun K hK => ?_)
  have e16 := hsl.get 16 _ rfl
  have e24 := hsl.get 24 _ rfl
  unfold Oper.wp
  go_simp
  clear e16 e24
  refine hK _ _ ?_; clear hK
  refine hsl.go (by decide) ?_; clear hsl; intro a1 hsl
  refine ops_done ?_
  try simp only [Exit.then, Exit.inBlock, ↓reduceIte, Nat.reduceEqDiff]
  refine wp_cond_true (hsl.ev 25 rfl) ?_
  have e : regionIn Tryz.f63 2 = Code.region 2 _ false := rfl
  rw [e]; clear e
  refine wp_region ?_
  refine ops_go rfl rfl (fun K hK => ?_)
  have e2 := hsl.get 2 _ rfl
  unfold Oper.wp
  go_simp
  clear e2
  refine hK _ _ ?_; clear hK
  refine hsl.go (by decide) ?_; clear hsl; intro a1 hsl
  refine ops_go rfl rfl (fun K hK => ?_)
  have e26 := hsl.get 26 _ rfl
  unfold Oper.wp
  go_simp
  clear e26
  refine hK _ _ ?_; clear hK
  refine hsl.go (by decide) ?_; clear hsl; intro a1 hsl
  refine ops_go rfl rfl (fun K hK => ?_)
  have e27 := hsl.get 27 _ rfl
  unfold Oper.wp
  go_simp
  clear e27
  try simp only [Exit.then, Exit.inBlock, ↓reduceIte, Nat.reduceEqDiff]
  exact ⟨hsl.defers, hb1, rfl⟩
set_option maxRecDepth 100000 in
theorem numberG (w : World) (n : Int) (S : ByteArray) (hz : ((S.size : Int) == 0) = false) (hz2 : 2 < (S.size : Int)) : Calls Tryz.prog 63 #[.agg #[.int .i64 n], .string S] w (NumPost w n none) := by
  refine calls_of_wp Tryz.func63 num_body ?_
  have hsl : Sl (⟨#[.agg #[.int .i64 n], .string S] ++ Array.replicate (Tryz.f63.ntmps - (#[.agg #[.int .i64 n], .string S] : Array Value).size) undef, []⟩ : Act) 51 [(0, .agg #[.int .i64 n]), (1, .string S)] := by rw [Tryz.ntmps63]; exact Sl.entry2 _ _ (by omega)
  revert hsl; generalize (Act.mk _ _) = a0; intro hsl
  refine wp_seq ?_
  have e : regionIn Tryz.f63 0 = Code.region 0 _ false := rfl
  rw [e]; clear e
  refine wp_region ?_
  refine ops_go rfl rfl (fun K hK => ?_)
  have e0 := hsl.get 0 _ rfl
  unfold Oper.wp
  go_simp
  clear e0
  refine hK _ _ ?_; clear hK
  refine hsl.go (by decide) ?_; clear hsl; intro a1 hsl
  refine alloc_rwB (G := fun W => wpOps _ _ _ _ _ W) ?_
  intro w1 hz1 X1 hb1
  generalize hg1 : w.heap.size = bx at X1 hsl; clear hg1
  have hbx := X1.cell (o := 0) rfl
  refine ops_go rfl rfl (fun K hK => ?_)
  unfold Oper.wp
  go_simp
  refine hK _ _ ?_; clear hK
  refine hsl.go (by decide) ?_; clear hsl; intro a1 hsl
  refine ops_done ?_
  try simp only [Exit.then, Exit.inBlock, ↓reduceIte, Nat.reduceEqDiff]
  refine wp_seq ?_
  refine wp_seq ?_
  have e : regionIn Tryz.f63 1 = Code.region 1 _ false := rfl
  rw [e]; clear e
  refine wp_region ?_
  refine ops_go rfl rfl (fun K hK => ?_)
  have e1 := hsl.get 1 _ rfl
  unfold Oper.wp
  go_simp
  clear e1
  refine hK _ _ ?_; clear hK
  refine hsl.go (by decide) ?_; clear hsl; intro a1 hsl
  refine ops_go rfl rfl (fun K hK => ?_)
  have e8 := hsl.get 8 _ rfl
  unfold Oper.wp
  go_simp
  clear e8
  refine hK _ _ ?_; clear hK
  refine hsl.go (by decide) ?_; clear hsl; intro a1 hsl
  refine ops_go rfl rfl (fun K hK => ?_)
  have e9 := hsl.get 9 _ rfl
  unfold Oper.wp
  go_simp
  clear e9
  refine hK _ _ ?_; clear hK
  refine hsl.go (by decide) ?_; clear hsl; intro a1 hsl
  refine ops_go rfl rfl (fun K hK => ?_)
  have e10 := hsl.get 10 _ rfl
  unfold Oper.wp
  go_simp
  clear e10
  refine hK _ _ ?_; clear hK
  refine hsl.go (by decide) ?_; clear hsl; intro a1 hsl
  refine ops_want rfl rfl rfl rfl (hsl.get 11 _ rfl) (fun K hK => ?_)
  have e1 := hsl.get 1 _ rfl
  unfold Oper.wp
  go_simp
  clear e1
  refine hK _ _ ?_; clear hK
  refine hsl.go (by decide) ?_; clear hsl; intro a1 hsl
  refine ops_want rfl rfl rfl rfl (hsl.get 11 _ rfl) (fun K hK => ?_)
  have e12 := hsl.get 12 _ rfl
  unfold Oper.wp
  go_simp
  clear e12
  refine hK _ _ ?_; clear hK
  refine hsl.go (by decide) ?_; clear hsl; intro a1 hsl
  refine ops_want rfl rfl rfl rfl (hsl.get 11 _ rfl) (fun K hK => ?_)
  have e13 := hsl.get 13 _ rfl
  unfold Oper.wp
  go_simp
  clear e13
  refine hK _ _ ?_; clear hK
  refine hsl.go (by decide) ?_; clear hsl; intro a1 hsl
  refine ops_go rfl rfl (fun K hK => ?_)
  have e11 := hsl.get 11 _ rfl
  have e14 := hsl.get 14 _ rfl
  unfold Oper.wp
  go_simp
  clear e11 e14
  refine hK _ _ ?_; clear hK
  refine hsl.go (by decide) ?_; clear hsl; intro a1 hsl
  refine ops_go rfl rfl (fun K hK => ?_)
  have e15 := hsl.get 15 _ rfl
  unfold Oper.wp
  go_simp
  clear e15
  refine hK _ _ ?_; clear hK
  refine hsl.go (by decide) ?_; clear hsl; intro a1 hsl
  refine ops_skip rfl rfl rfl rfl (hsl.get 16 _ rfl) (by decide) ?_
  refine hsl.go (by decide) ?_; clear hsl; intro a1 hsl
  refine ops_skip rfl rfl rfl rfl (hsl.get 16 _ rfl) (by decide) ?_
  refine hsl.go (by decide) ?_; clear hsl; intro a1 hsl
  refine ops_skip rfl rfl rfl rfl (hsl.get 16 _ rfl) (by decide) ?_
  refine hsl.go (by decide) ?_; clear hsl; intro a1 hsl
  refine ops_skip rfl rfl rfl rfl (hsl.get 16 _ rfl) (by decide) ?_
  refine hsl.go (by decide) ?_; clear hsl; intro a1 hsl
  refine ops_skipU rfl rfl rfl rfl (hsl.get 20 _ rfl) ?_
  refine hsl.go (by decide) ?_; clear hsl; intro a1 hsl
  refine ops_skipU rfl rfl rfl rfl (hsl.get 20 _ rfl) ?_
  refine hsl.go (by decide) ?_; clear hsl; intro a1 hsl
  refine ops_skipU rfl rfl rfl rfl (hsl.get 20 _ rfl) ?_
  refine hsl.go (by decide) ?_; clear hsl; intro a1 hsl
  refine ops_skip rfl rfl rfl rfl (hsl.get 16 _ rfl) (by decide) ?_
  refine hsl.go (by decide) ?_; clear hsl; intro a1 hsl
  refine ops_go rfl rfl (fun K hK => ?_)
  have e16 := hsl.get 16 _ rfl
  have e24 := hsl.get 24 _ rfl
  unfold Oper.wp
  go_simp
  clear e16 e24
  refine hK _ _ ?_; clear hK
  refine hsl.go (by decide) ?_; clear hsl; intro a1 hsl
  refine ops_done ?_
  try simp only [Exit.then, Exit.inBlock, ↓reduceIte, Nat.reduceEqDiff]
  refine wp_cond_true (hsl.ev 25 rfl) ?_
  have e : regionIn Tryz.f63 2 = Code.region 2 _ false := rfl
  rw [e]; clear e
  refine wp_region ?_
  refine ops_go rfl rfl (fun K hK => ?_)
  have e2 := hsl.get 2 _ rfl
  unfold Oper.wp
  go_simp
  clear e2
  refine hK _ _ ?_; clear hK
  refine hsl.go (by decide) ?_; clear hsl; intro a1 hsl
  refine ops_go rfl rfl (fun K hK => ?_)
  have e26 := hsl.get 26 _ rfl
  unfold Oper.wp
  go_simp
  clear e26
  refine hK _ _ ?_; clear hK
  refine hsl.go (by decide) ?_; clear hsl; intro a1 hsl
  refine ops_go rfl rfl (fun K hK => ?_)
  have e27 := hsl.get 27 _ rfl
  unfold Oper.wp
  go_simp
  clear e27
  try simp only [Exit.then, Exit.inBlock, ↓reduceIte, Nat.reduceEqDiff]
  exact ⟨hsl.defers, hb1, rfl⟩
set_option maxRecDepth 100000 in
theorem numberZ (w : World) (n : Int) (a b : UInt8) (ha : ((a.toNat : Int) == 48) = true) (hix : (⟨#[a, b]⟩ : ByteArray)[0]'(by show 0 < 2; omega) = a) : Calls Tryz.prog 63 #[.agg #[.int .i64 n], .string ⟨#[a, b]⟩] w (NumPost w n none) := by
  refine calls_of_wp Tryz.func63 num_body ?_
  have hsl : Sl (⟨#[.agg #[.int .i64 n], .string ⟨#[a, b]⟩] ++ Array.replicate (Tryz.f63.ntmps - (#[.agg #[.int .i64 n], .string ⟨#[a, b]⟩] : Array Value).size) undef, []⟩ : Act) 51 [(0, .agg #[.int .i64 n]), (1, .string ⟨#[a, b]⟩)] := by rw [Tryz.ntmps63]; exact Sl.entry2 _ _ (by omega)
  revert hsl; generalize (Act.mk _ _) = a0; intro hsl
  refine wp_seq ?_
  have e : regionIn Tryz.f63 0 = Code.region 0 _ false := rfl
  rw [e]; clear e
  refine wp_region ?_
  refine ops_go rfl rfl (fun K hK => ?_)
  have e0 := hsl.get 0 _ rfl
  unfold Oper.wp
  go_simp
  clear e0
  refine hK _ _ ?_; clear hK
  refine hsl.go (by decide) ?_; clear hsl; intro a1 hsl
  refine alloc_rwB (G := fun W => wpOps _ _ _ _ _ W) ?_
  intro w1 hz1 X1 hb1
  generalize hg1 : w.heap.size = bx at X1 hsl; clear hg1
  have hbx := X1.cell (o := 0) rfl
  refine ops_go rfl rfl (fun K hK => ?_)
  unfold Oper.wp
  go_simp
  refine hK _ _ ?_; clear hK
  refine hsl.go (by decide) ?_; clear hsl; intro a1 hsl
  refine ops_done ?_
  try simp only [Exit.then, Exit.inBlock, ↓reduceIte, Nat.reduceEqDiff]
  refine wp_seq ?_
  refine wp_seq ?_
  have e : regionIn Tryz.f63 1 = Code.region 1 _ false := rfl
  rw [e]; clear e
  refine wp_region ?_
  refine ops_go rfl rfl (fun K hK => ?_)
  have e1 := hsl.get 1 _ rfl
  unfold Oper.wp
  go_simp
  clear e1
  refine hK _ _ ?_; clear hK
  refine hsl.go (by decide) ?_; clear hsl; intro a1 hsl
  refine ops_go rfl rfl (fun K hK => ?_)
  have e8 := hsl.get 8 _ rfl
  unfold Oper.wp
  go_simp
  clear e8
  refine hK _ _ ?_; clear hK
  refine hsl.go (by decide) ?_; clear hsl; intro a1 hsl
  refine ops_go rfl rfl (fun K hK => ?_)
  have e9 := hsl.get 9 _ rfl
  unfold Oper.wp
  go_simp
  clear e9
  refine hK _ _ ?_; clear hK
  refine hsl.go (by decide) ?_; clear hsl; intro a1 hsl
  refine ops_go rfl rfl (fun K hK => ?_)
  have e10 := hsl.get 10 _ rfl
  unfold Oper.wp
  go_simp
  clear e10
  refine hK _ _ ?_; clear hK
  refine hsl.go (by decide) ?_; clear hsl; intro a1 hsl
  refine ops_want rfl rfl rfl rfl (hsl.get 11 _ rfl) (fun K hK => ?_)
  have e1 := hsl.get 1 _ rfl
  unfold Oper.wp
  go_simp
  clear e1
  refine hK _ _ ?_; clear hK
  refine hsl.go (by decide) ?_; clear hsl; intro a1 hsl
  refine ops_want rfl rfl rfl rfl (hsl.get 11 _ rfl) (fun K hK => ?_)
  have e12 := hsl.get 12 _ rfl
  unfold Oper.wp
  go_simp
  clear e12
  refine hK _ _ ?_; clear hK
  refine hsl.go (by decide) ?_; clear hsl; intro a1 hsl
  refine ops_want rfl rfl rfl rfl (hsl.get 11 _ rfl) (fun K hK => ?_)
  have e13 := hsl.get 13 _ rfl
  unfold Oper.wp
  go_simp
  clear e13
  refine hK _ _ ?_; clear hK
  refine hsl.go (by decide) ?_; clear hsl; intro a1 hsl
  refine ops_go rfl rfl (fun K hK => ?_)
  have e11 := hsl.get 11 _ rfl
  have e14 := hsl.get 14 _ rfl
  unfold Oper.wp
  go_simp
  clear e11 e14
  refine hK _ _ ?_; clear hK
  refine hsl.go (by decide) ?_; clear hsl; intro a1 hsl
  refine ops_go rfl rfl (fun K hK => ?_)
  have e15 := hsl.get 15 _ rfl
  unfold Oper.wp
  go_simp
  clear e15
  refine hK _ _ ?_; clear hK
  refine hsl.go (by decide) ?_; clear hsl; intro a1 hsl
  refine ops_want rfl rfl rfl rfl (hsl.get 16 _ rfl) (fun K hK => ?_)
  have e1 := hsl.get 1 _ rfl
  unfold Oper.wp
  go_simp
  clear e1
  refine hK _ _ ?_; clear hK
  refine hsl.go (by decide) ?_; clear hsl; intro a1 hsl
  refine ops_want rfl rfl rfl rfl (hsl.get 16 _ rfl) (fun K hK => ?_)
  have e17 := hsl.get 17 _ rfl
  unfold Oper.wp
  go_simp
  clear e17
  refine hK _ _ ?_; clear hK
  refine hsl.go (by decide) ?_; clear hsl; intro a1 hsl
  refine ops_want rfl rfl rfl rfl (hsl.get 16 _ rfl) (fun K hK => ?_)
  have e18 := hsl.get 18 _ rfl
  unfold Oper.wp
  go_simp
  clear e18
  refine hK _ _ ?_; clear hK
  refine hsl.go (by decide) ?_; clear hsl; intro a1 hsl
  refine ops_want rfl rfl rfl rfl (hsl.get 16 _ rfl) (fun K hK => ?_)
  have e19 := hsl.get 19 _ rfl
  unfold Oper.wp
  go_simp
  clear e19
  refine hK _ _ ?_; clear hK
  refine hsl.go (by decide) ?_; clear hsl; intro a1 hsl
  refine ops_want rfl rfl rfl rfl (hsl.get 20 _ rfl) (fun K hK => ?_)
  have e1 := hsl.get 1 _ rfl
  unfold Oper.wp
  go_simp
  clear e1
  refine hK _ _ ?_; clear hK
  refine hsl.go (by decide) ?_; clear hsl; intro a1 hsl
  refine ops_want rfl rfl rfl rfl (hsl.get 20 _ rfl) (fun K hK => ?_)
  have e21 := hsl.get 21 _ rfl
  unfold Oper.wp
  go_simp
  clear e21
  refine hK _ _ ?_; clear hK
  refine hsl.go (by decide) ?_; clear hsl; intro a1 hsl
  refine ops_want rfl rfl rfl rfl (hsl.get 20 _ rfl) (fun K hK => ?_)
  have e22 := hsl.get 22 _ rfl
  unfold Oper.wp
  go_simp
  clear e22
  refine hK _ _ ?_; clear hK
  refine hsl.go (by decide) ?_; clear hsl; intro a1 hsl
  refine ops_want rfl rfl rfl rfl (hsl.get 16 _ rfl) (fun K hK => ?_)
  have e20 := hsl.get 20 _ rfl
  have e23 := hsl.get 23 _ rfl
  unfold Oper.wp
  go_simp
  clear e20 e23
  refine hK _ _ ?_; clear hK
  refine hsl.go (by decide) ?_; clear hsl; intro a1 hsl
  refine ops_go rfl rfl (fun K hK => ?_)
  have e16 := hsl.get 16 _ rfl
  have e24 := hsl.get 24 _ rfl
  unfold Oper.wp
  go_simp
  clear e16 e24
  refine hK _ _ ?_; clear hK
  refine hsl.go (by decide) ?_; clear hsl; intro a1 hsl
  refine ops_done ?_
  try simp only [Exit.then, Exit.inBlock, ↓reduceIte, Nat.reduceEqDiff]
  refine wp_cond_true (hsl.ev 25 rfl) ?_
  have e : regionIn Tryz.f63 2 = Code.region 2 _ false := rfl
  rw [e]; clear e
  refine wp_region ?_
  refine ops_go rfl rfl (fun K hK => ?_)
  have e2 := hsl.get 2 _ rfl
  unfold Oper.wp
  go_simp
  clear e2
  refine hK _ _ ?_; clear hK
  refine hsl.go (by decide) ?_; clear hsl; intro a1 hsl
  refine ops_go rfl rfl (fun K hK => ?_)
  have e26 := hsl.get 26 _ rfl
  unfold Oper.wp
  go_simp
  clear e26
  refine hK _ _ ?_; clear hK
  refine hsl.go (by decide) ?_; clear hsl; intro a1 hsl
  refine ops_go rfl rfl (fun K hK => ?_)
  have e27 := hsl.get 27 _ rfl
  unfold Oper.wp
  go_simp
  clear e27
  try simp only [Exit.then, Exit.inBlock, ↓reduceIte, Nat.reduceEqDiff]
  exact ⟨hsl.defers, hb1, rfl⟩
set_option maxRecDepth 100000 in
theorem numberAOk (w : World) (n : Int) (a : UInt8) (h01 : ¬ (a.toNat : Int) < 48) (h02 : ¬ 57 < (a.toNat : Int)) : Calls Tryz.prog 63 #[.agg #[.int .i64 n], .string ⟨#[a]⟩] w (NumPost w n (some ((a.toNat : Int) - 48))) := by
  refine calls_of_wp Tryz.func63 num_body ?_
  have hsl : Sl (⟨#[.agg #[.int .i64 n], .string ⟨#[a]⟩] ++ Array.replicate (Tryz.f63.ntmps - (#[.agg #[.int .i64 n], .string ⟨#[a]⟩] : Array Value).size) undef, []⟩ : Act) 51 [(0, .agg #[.int .i64 n]), (1, .string ⟨#[a]⟩)] := by rw [Tryz.ntmps63]; exact Sl.entry2 _ _ (by omega)
  revert hsl; generalize (Act.mk _ _) = a0; intro hsl
  refine wp_seq ?_
  have e : regionIn Tryz.f63 0 = Code.region 0 _ false := rfl
  rw [e]; clear e
  refine wp_region ?_
  refine ops_go rfl rfl (fun K hK => ?_)
  have e0 := hsl.get 0 _ rfl
  unfold Oper.wp
  go_simp
  clear e0
  refine hK _ _ ?_; clear hK
  refine hsl.go (by decide) ?_; clear hsl; intro a1 hsl
  refine alloc_rwB (G := fun W => wpOps _ _ _ _ _ W) ?_
  intro w1 hz1 X1 hb1
  generalize hg1 : w.heap.size = bx at X1 hsl; clear hg1
  have hbx := X1.cell (o := 0) rfl
  refine ops_go rfl rfl (fun K hK => ?_)
  unfold Oper.wp
  go_simp
  refine hK _ _ ?_; clear hK
  refine hsl.go (by decide) ?_; clear hsl; intro a1 hsl
  refine ops_done ?_
  try simp only [Exit.then, Exit.inBlock, ↓reduceIte, Nat.reduceEqDiff]
  refine wp_seq ?_
  refine wp_seq ?_
  have e : regionIn Tryz.f63 1 = Code.region 1 _ false := rfl
  rw [e]; clear e
  refine wp_region ?_
  refine ops_go rfl rfl (fun K hK => ?_)
  have e1 := hsl.get 1 _ rfl
  unfold Oper.wp
  go_simp
  clear e1
  refine hK _ _ ?_; clear hK
  refine hsl.go (by decide) ?_; clear hsl; intro a1 hsl
  refine ops_go rfl rfl (fun K hK => ?_)
  have e8 := hsl.get 8 _ rfl
  unfold Oper.wp
  go_simp
  clear e8
  refine hK _ _ ?_; clear hK
  refine hsl.go (by decide) ?_; clear hsl; intro a1 hsl
  refine ops_go rfl rfl (fun K hK => ?_)
  have e9 := hsl.get 9 _ rfl
  unfold Oper.wp
  go_simp
  clear e9
  refine hK _ _ ?_; clear hK
  refine hsl.go (by decide) ?_; clear hsl; intro a1 hsl
  refine ops_go rfl rfl (fun K hK => ?_)
  have e10 := hsl.get 10 _ rfl
  unfold Oper.wp
  go_simp
  clear e10
  refine hK _ _ ?_; clear hK
  refine hsl.go (by decide) ?_; clear hsl; intro a1 hsl
  refine ops_want rfl rfl rfl rfl (hsl.get 11 _ rfl) (fun K hK => ?_)
  have e1 := hsl.get 1 _ rfl
  unfold Oper.wp
  go_simp
  clear e1
  refine hK _ _ ?_; clear hK
  refine hsl.go (by decide) ?_; clear hsl; intro a1 hsl
  refine ops_want rfl rfl rfl rfl (hsl.get 11 _ rfl) (fun K hK => ?_)
  have e12 := hsl.get 12 _ rfl
  unfold Oper.wp
  go_simp
  clear e12
  refine hK _ _ ?_; clear hK
  refine hsl.go (by decide) ?_; clear hsl; intro a1 hsl
  refine ops_want rfl rfl rfl rfl (hsl.get 11 _ rfl) (fun K hK => ?_)
  have e13 := hsl.get 13 _ rfl
  unfold Oper.wp
  go_simp
  clear e13
  refine hK _ _ ?_; clear hK
  refine hsl.go (by decide) ?_; clear hsl; intro a1 hsl
  refine ops_go rfl rfl (fun K hK => ?_)
  have e11 := hsl.get 11 _ rfl
  have e14 := hsl.get 14 _ rfl
  unfold Oper.wp
  go_simp
  clear e11 e14
  refine hK _ _ ?_; clear hK
  refine hsl.go (by decide) ?_; clear hsl; intro a1 hsl
  refine ops_go rfl rfl (fun K hK => ?_)
  have e15 := hsl.get 15 _ rfl
  unfold Oper.wp
  go_simp
  clear e15
  refine hK _ _ ?_; clear hK
  refine hsl.go (by decide) ?_; clear hsl; intro a1 hsl
  refine ops_want rfl rfl rfl rfl (hsl.get 16 _ rfl) (fun K hK => ?_)
  have e1 := hsl.get 1 _ rfl
  unfold Oper.wp
  go_simp
  clear e1
  refine hK _ _ ?_; clear hK
  refine hsl.go (by decide) ?_; clear hsl; intro a1 hsl
  refine ops_want rfl rfl rfl rfl (hsl.get 16 _ rfl) (fun K hK => ?_)
  have e17 := hsl.get 17 _ rfl
  unfold Oper.wp
  go_simp
  clear e17
  refine hK _ _ ?_; clear hK
  refine hsl.go (by decide) ?_; clear hsl; intro a1 hsl
  refine ops_want rfl rfl rfl rfl (hsl.get 16 _ rfl) (fun K hK => ?_)
  have e18 := hsl.get 18 _ rfl
  unfold Oper.wp
  go_simp
  clear e18
  refine hK _ _ ?_; clear hK
  refine hsl.go (by decide) ?_; clear hsl; intro a1 hsl
  refine ops_want rfl rfl rfl rfl (hsl.get 16 _ rfl) (fun K hK => ?_)
  have e19 := hsl.get 19 _ rfl
  unfold Oper.wp
  go_simp
  clear e19
  refine hK _ _ ?_; clear hK
  refine hsl.go (by decide) ?_; clear hsl; intro a1 hsl
  refine ops_skip rfl rfl rfl rfl (hsl.get 20 _ rfl) (by decide) ?_
  refine hsl.go (by decide) ?_; clear hsl; intro a1 hsl
  refine ops_skip rfl rfl rfl rfl (hsl.get 20 _ rfl) (by decide) ?_
  refine hsl.go (by decide) ?_; clear hsl; intro a1 hsl
  refine ops_skip rfl rfl rfl rfl (hsl.get 20 _ rfl) (by decide) ?_
  refine hsl.go (by decide) ?_; clear hsl; intro a1 hsl
  refine ops_want rfl rfl rfl rfl (hsl.get 16 _ rfl) (fun K hK => ?_)
  have e20 := hsl.get 20 _ rfl
  have e23 := hsl.get 23 _ rfl
  unfold Oper.wp
  go_simp
  clear e20 e23
  refine hK _ _ ?_; clear hK
  refine hsl.go (by decide) ?_; clear hsl; intro a1 hsl
  refine ops_go rfl rfl (fun K hK => ?_)
  have e16 := hsl.get 16 _ rfl
  have e24 := hsl.get 24 _ rfl
  unfold Oper.wp
  go_simp
  clear e16 e24
  refine hK _ _ ?_; clear hK
  refine hsl.go (by decide) ?_; clear hsl; intro a1 hsl
  refine ops_done ?_
  try simp only [Exit.then, Exit.inBlock, ↓reduceIte, Nat.reduceEqDiff]
  refine wp_cond_false (hsl.ev 25 rfl) ?_
  refine wp_skip ?_
  try simp only [Exit.then, Exit.inBlock, ↓reduceIte, Nat.reduceEqDiff]
  refine wp_seq ?_
  have e : regionIn Tryz.f63 3 = Code.region 3 _ false := rfl
  rw [e]; clear e
  refine wp_region ?_
  refine ops_go rfl rfl (fun K hK => ?_)
  unfold Oper.wp
  go_simp
  refine hK _ _ ?_; clear hK
  refine hsl.go (by decide) ?_; clear hsl; intro a1 hsl
  refine ops_done ?_
  try simp only [Exit.then, Exit.inBlock, ↓reduceIte, Nat.reduceEqDiff]
  refine wp_seq ?_
  refine wp_seq ?_
  have e : regionIn Tryz.f63 4 = Code.region 4 _ false := rfl
  rw [e]; clear e
  refine wp_region ?_
  refine ops_go rfl rfl (fun K hK => ?_)
  have e1 := hsl.get 1 _ rfl
  unfold Oper.wp
  go_simp
  clear e1
  refine hK _ _ ?_; clear hK
  refine hsl.go (by decide) ?_; clear hsl; intro a1 hsl
  refine ops_go rfl rfl (fun K hK => ?_)
  have e28 := hsl.get 28 _ rfl
  have hcv := Lib.run_convert_string_bytes (P := Tryz.prog) w1 9 70 5 ⟨#[a]⟩ Tryz.underlying9 Tryz.underlying70 Tryz.underlying5
  unfold Oper.wp
  go_simp
  clear e28
  refine hK _ _ ?_; clear hK
  refine hsl.go (by decide) ?_; clear hsl; intro a1 hsl
  clear hcv
  have hb2 := bytes_below w1 5 ⟨#[a]⟩
  have hbx2 := (X1.below hb2).cell (o := 0) rfl
  have c0 : (Lib.bytesWorld w1 5 ⟨#[a]⟩).cell? ⟨w1.heap.size, 0, none⟩ = some (.int .u8 (a.toNat : Int)) := Lib.bytesWorld_cell w1 5 ⟨#[a]⟩ 0 (by show 0 < 1; omega)
  replace hb2 := hb1.trans (hb2.mono hb1.size)
  generalize Lib.bytesWorld w1 5 ⟨#[a]⟩ = w2 at hb2 hbx2 c0 ⊢
  generalize grownCap w1 _ 0 5 = cap at hsl
  generalize w1.heap.size = g at hsl c0
  refine ops_go rfl rfl (fun K hK => ?_)
  have e29 := hsl.get 29 _ rfl
  unfold Oper.wp
  go_simp
  clear e29
  refine hK _ _ ?_; clear hK
  refine hsl.go (by decide) ?_; clear hsl; intro a1 hsl
  refine ops_go rfl rfl (fun K hK => ?_)
  unfold Oper.wp
  go_simp
  refine hK _ _ ?_; clear hK
  refine hsl.go (by decide) ?_; clear hsl; intro a1 hsl
  refine ops_done ?_
  try simp only [Exit.then, Exit.inBlock, ↓reduceIte, Nat.reduceEqDiff]
  refine wp_block ?_
  refine wp_loop_ghost (fun k a' w' => w' = w2 ∧ ((k = 1 ∧ Sl a' 51 [(2, .pointer (some ⟨bx, 0, none⟩)), (5, .int .i64 0), (29, .slice (some ⟨g, 0, none⟩) 1 cap), (30, .int .i64 1), (31, .int .i64 0)]) ∨ (k = 0 ∧ Sl a' 51 [(2, .pointer (some ⟨bx, 0, none⟩)), (5, .int .i64 ((a.toNat : Int) - 48)), (29, .slice (some ⟨g, 0, none⟩) 1 cap), (30, .int .i64 1), (31, .int .i64 1)]))) 1 ⟨rfl, .inl ⟨rfl, ((((hsl.nil.cons (hsl.get 31 _ rfl)).cons (hsl.get 30 _ rfl)).cons (hsl.get 29 _ rfl)).cons (hsl.get 5 _ rfl)).cons (hsl.get 2 _ rfl)⟩⟩ ?_
  clear hsl
  rintro k a' w' ⟨rfl, ⟨rfl, hs⟩ | ⟨rfl, hs⟩⟩
  · refine numOk10 _ n bx g cap _ hbx2 c0 h01 h02 _ hs _ ?_
    intro a4 hs4
    exact ⟨0, by omega, rfl, .inr (⟨rfl, hs4⟩)⟩
  refine numEnd1 _ bx g cap _ _ hs _ ?_
  intro a4 hsl
  try simp only [Exit.then, Exit.inBlock, ↓reduceIte, Nat.reduceEqDiff]
  try simp only [Exit.then, Exit.inBlock, ↓reduceIte, Nat.reduceEqDiff]
  refine wp_seq ?_
  have e : regionIn Tryz.f63 11 = Code.region 11 _ false := rfl
  rw [e]; clear e
  refine wp_region ?_
  refine ops_go rfl rfl (fun K hK => ?_)
  have e5 := hsl.get 5 _ rfl
  unfold Oper.wp
  go_simp
  clear e5
  refine hK _ _ ?_; clear hK
  refine hsl.go (by decide) ?_; clear hsl; intro a1 hsl
  refine ops_go rfl rfl (fun K hK => ?_)
  have e50 := hsl.get 50 _ rfl
  unfold Oper.wp
  go_simp
  clear e50
  refine hK _ _ ?_; clear hK
  refine hsl.go (by decide) ?_; clear hsl; intro a1 hsl
  refine ops_done ?_
  try simp only [Exit.then, Exit.inBlock, ↓reduceIte, Nat.reduceEqDiff]
  refine wp_ret ?_
  try simp only [Exit.then, Exit.inBlock, ↓reduceIte, Nat.reduceEqDiff]
  refine bodyPost_ret (v := .int .i64 ((a.toNat : Int) - 48)) ?_ hsl.defers ⟨hb2, rfl⟩
  simp [results, Tryz.results63, hsl.get 4 _ rfl]
set_option maxRecDepth 100000 in
theorem numberALo (w : World) (n : Int) (a : UInt8) (h01 : (a.toNat : Int) < 48) : Calls Tryz.prog 63 #[.agg #[.int .i64 n], .string ⟨#[a]⟩] w (NumPost w n none) := by
  refine calls_of_wp Tryz.func63 num_body ?_
  have hsl : Sl (⟨#[.agg #[.int .i64 n], .string ⟨#[a]⟩] ++ Array.replicate (Tryz.f63.ntmps - (#[.agg #[.int .i64 n], .string ⟨#[a]⟩] : Array Value).size) undef, []⟩ : Act) 51 [(0, .agg #[.int .i64 n]), (1, .string ⟨#[a]⟩)] := by rw [Tryz.ntmps63]; exact Sl.entry2 _ _ (by omega)
  revert hsl; generalize (Act.mk _ _) = a0; intro hsl
  refine wp_seq ?_
  have e : regionIn Tryz.f63 0 = Code.region 0 _ false := rfl
  rw [e]; clear e
  refine wp_region ?_
  refine ops_go rfl rfl (fun K hK => ?_)
  have e0 := hsl.get 0 _ rfl
  unfold Oper.wp
  go_simp
  clear e0
  refine hK _ _ ?_; clear hK
  refine hsl.go (by decide) ?_; clear hsl; intro a1 hsl
  refine alloc_rwB (G := fun W => wpOps _ _ _ _ _ W) ?_
  intro w1 hz1 X1 hb1
  generalize hg1 : w.heap.size = bx at X1 hsl; clear hg1
  have hbx := X1.cell (o := 0) rfl
  refine ops_go rfl rfl (fun K hK => ?_)
  unfold Oper.wp
  go_simp
  refine hK _ _ ?_; clear hK
  refine hsl.go (by decide) ?_; clear hsl; intro a1 hsl
  refine ops_done ?_
  try simp only [Exit.then, Exit.inBlock, ↓reduceIte, Nat.reduceEqDiff]
  refine wp_seq ?_
  refine wp_seq ?_
  have e : regionIn Tryz.f63 1 = Code.region 1 _ false := rfl
  rw [e]; clear e
  refine wp_region ?_
  refine ops_go rfl rfl (fun K hK => ?_)
  have e1 := hsl.get 1 _ rfl
  unfold Oper.wp
  go_simp
  clear e1
  refine hK _ _ ?_; clear hK
  refine hsl.go (by decide) ?_; clear hsl; intro a1 hsl
  refine ops_go rfl rfl (fun K hK => ?_)
  have e8 := hsl.get 8 _ rfl
  unfold Oper.wp
  go_simp
  clear e8
  refine hK _ _ ?_; clear hK
  refine hsl.go (by decide) ?_; clear hsl; intro a1 hsl
  refine ops_go rfl rfl (fun K hK => ?_)
  have e9 := hsl.get 9 _ rfl
  unfold Oper.wp
  go_simp
  clear e9
  refine hK _ _ ?_; clear hK
  refine hsl.go (by decide) ?_; clear hsl; intro a1 hsl
  refine ops_go rfl rfl (fun K hK => ?_)
  have e10 := hsl.get 10 _ rfl
  unfold Oper.wp
  go_simp
  clear e10
  refine hK _ _ ?_; clear hK
  refine hsl.go (by decide) ?_; clear hsl; intro a1 hsl
  refine ops_want rfl rfl rfl rfl (hsl.get 11 _ rfl) (fun K hK => ?_)
  have e1 := hsl.get 1 _ rfl
  unfold Oper.wp
  go_simp
  clear e1
  refine hK _ _ ?_; clear hK
  refine hsl.go (by decide) ?_; clear hsl; intro a1 hsl
  refine ops_want rfl rfl rfl rfl (hsl.get 11 _ rfl) (fun K hK => ?_)
  have e12 := hsl.get 12 _ rfl
  unfold Oper.wp
  go_simp
  clear e12
  refine hK _ _ ?_; clear hK
  refine hsl.go (by decide) ?_; clear hsl; intro a1 hsl
  refine ops_want rfl rfl rfl rfl (hsl.get 11 _ rfl) (fun K hK => ?_)
  have e13 := hsl.get 13 _ rfl
  unfold Oper.wp
  go_simp
  clear e13
  refine hK _ _ ?_; clear hK
  refine hsl.go (by decide) ?_; clear hsl; intro a1 hsl
  refine ops_go rfl rfl (fun K hK => ?_)
  have e11 := hsl.get 11 _ rfl
  have e14 := hsl.get 14 _ rfl
  unfold Oper.wp
  go_simp
  clear e11 e14
  refine hK _ _ ?_; clear hK
  refine hsl.go (by decide) ?_; clear hsl; intro a1 hsl
  refine ops_go rfl rfl (fun K hK => ?_)
  have e15 := hsl.get 15 _ rfl
  unfold Oper.wp
  go_simp
  clear e15
  refine hK _ _ ?_; clear hK
  refine hsl.go (by decide) ?_; clear hsl; intro a1 hsl
  refine ops_want rfl rfl rfl rfl (hsl.get 16 _ rfl) (fun K hK => ?_)
  have e1 := hsl.get 1 _ rfl
  unfold Oper.wp
  go_simp
  clear e1
  refine hK _ _ ?_; clear hK
  refine hsl.go (by decide) ?_; clear hsl; intro a1 hsl
  refine ops_want rfl rfl rfl rfl (hsl.get 16 _ rfl) (fun K hK => ?_)
  have e17 := hsl.get 17 _ rfl
  unfold Oper.wp
  go_simp
  clear e17
  refine hK _ _ ?_; clear hK
  refine hsl.go (by decide) ?_; clear hsl; intro a1 hsl
  refine ops_want rfl rfl rfl rfl (hsl.get 16 _ rfl) (fun K hK => ?_)
  have e18 := hsl.get 18 _ rfl
  unfold Oper.wp
  go_simp
  clear e18
  refine hK _ _ ?_; clear hK
  refine hsl.go (by decide) ?_; clear hsl; intro a1 hsl
  refine ops_want rfl rfl rfl rfl (hsl.get 16 _ rfl) (fun K hK => ?_)
  have e19 := hsl.get 19 _ rfl
  unfold Oper.wp
  go_simp
  clear e19
  refine hK _ _ ?_; clear hK
  refine hsl.go (by decide) ?_; clear hsl; intro a1 hsl
  refine ops_skip rfl rfl rfl rfl (hsl.get 20 _ rfl) (by decide) ?_
  refine hsl.go (by decide) ?_; clear hsl; intro a1 hsl
  refine ops_skip rfl rfl rfl rfl (hsl.get 20 _ rfl) (by decide) ?_
  refine hsl.go (by decide) ?_; clear hsl; intro a1 hsl
  refine ops_skip rfl rfl rfl rfl (hsl.get 20 _ rfl) (by decide) ?_
  refine hsl.go (by decide) ?_; clear hsl; intro a1 hsl
  refine ops_want rfl rfl rfl rfl (hsl.get 16 _ rfl) (fun K hK => ?_)
  have e20 := hsl.get 20 _ rfl
  have e23 := hsl.get 23 _ rfl
  unfold Oper.wp
  go_simp
  clear e20 e23
  refine hK _ _ ?_; clear hK
  refine hsl.go (by decide) ?_; clear hsl; intro a1 hsl
  refine ops_go rfl rfl (fun K hK => ?_)
  have e16 := hsl.get 16 _ rfl
  have e24 := hsl.get 24 _ rfl
  unfold Oper.wp
  go_simp
  clear e16 e24
  refine hK _ _ ?_; clear hK
  refine hsl.go (by decide) ?_; clear hsl; intro a1 hsl
  refine ops_done ?_
  try simp only [Exit.then, Exit.inBlock, ↓reduceIte, Nat.reduceEqDiff]
  refine wp_cond_false (hsl.ev 25 rfl) ?_
  refine wp_skip ?_
  try simp only [Exit.then, Exit.inBlock, ↓reduceIte, Nat.reduceEqDiff]
  refine wp_seq ?_
  have e : regionIn Tryz.f63 3 = Code.region 3 _ false := rfl
  rw [e]; clear e
  refine wp_region ?_
  refine ops_go rfl rfl (fun K hK => ?_)
  unfold Oper.wp
  go_simp
  refine hK _ _ ?_; clear hK
  refine hsl.go (by decide) ?_; clear hsl; intro a1 hsl
  refine ops_done ?_
  try simp only [Exit.then, Exit.inBlock, ↓reduceIte, Nat.reduceEqDiff]
  refine wp_seq ?_
  refine wp_seq ?_
  have e : regionIn Tryz.f63 4 = Code.region 4 _ false := rfl
  rw [e]; clear e
  refine wp_region ?_
  refine ops_go rfl rfl (fun K hK => ?_)
  have e1 := hsl.get 1 _ rfl
  unfold Oper.wp
  go_simp
  clear e1
  refine hK _ _ ?_; clear hK
  refine hsl.go (by decide) ?_; clear hsl; intro a1 hsl
  refine ops_go rfl rfl (fun K hK => ?_)
  have e28 := hsl.get 28 _ rfl
  have hcv := Lib.run_convert_string_bytes (P := Tryz.prog) w1 9 70 5 ⟨#[a]⟩ Tryz.underlying9 Tryz.underlying70 Tryz.underlying5
  unfold Oper.wp
  go_simp
  clear e28
  refine hK _ _ ?_; clear hK
  refine hsl.go (by decide) ?_; clear hsl; intro a1 hsl
  clear hcv
  have hb2 := bytes_below w1 5 ⟨#[a]⟩
  have hbx2 := (X1.below hb2).cell (o := 0) rfl
  have c0 : (Lib.bytesWorld w1 5 ⟨#[a]⟩).cell? ⟨w1.heap.size, 0, none⟩ = some (.int .u8 (a.toNat : Int)) := Lib.bytesWorld_cell w1 5 ⟨#[a]⟩ 0 (by show 0 < 1; omega)
  replace hb2 := hb1.trans (hb2.mono hb1.size)
  generalize Lib.bytesWorld w1 5 ⟨#[a]⟩ = w2 at hb2 hbx2 c0 ⊢
  generalize grownCap w1 _ 0 5 = cap at hsl
  generalize w1.heap.size = g at hsl c0
  refine ops_go rfl rfl (fun K hK => ?_)
  have e29 := hsl.get 29 _ rfl
  unfold Oper.wp
  go_simp
  clear e29
  refine hK _ _ ?_; clear hK
  refine hsl.go (by decide) ?_; clear hsl; intro a1 hsl
  refine ops_go rfl rfl (fun K hK => ?_)
  unfold Oper.wp
  go_simp
  refine hK _ _ ?_; clear hK
  refine hsl.go (by decide) ?_; clear hsl; intro a1 hsl
  refine ops_done ?_
  try simp only [Exit.then, Exit.inBlock, ↓reduceIte, Nat.reduceEqDiff]
  refine wp_block ?_
  refine wp_loop_ghost (fun k a' w' => w' = w2 ∧ ((k = 0 ∧ Sl a' 51 [(2, .pointer (some ⟨bx, 0, none⟩)), (5, .int .i64 0), (29, .slice (some ⟨g, 0, none⟩) 1 cap), (30, .int .i64 1), (31, .int .i64 0)]) ∨ False)) 0 ⟨rfl, .inl ⟨rfl, ((((hsl.nil.cons (hsl.get 31 _ rfl)).cons (hsl.get 30 _ rfl)).cons (hsl.get 29 _ rfl)).cons (hsl.get 5 _ rfl)).cons (hsl.get 2 _ rfl)⟩⟩ ?_
  clear hsl
  rintro k a' w' ⟨rfl, ⟨rfl, hs⟩ | hF⟩
  rotate_left
  · exact hF.elim
  refine numLo10 _ n bx g cap _ hbx2 c0 h01 _ hs _ ?_
  intro a4 hsl
  try simp only [Exit.then, Exit.inBlock, ↓reduceIte, Nat.reduceEqDiff]
  exact ⟨hsl.defers, hb2, rfl⟩
set_option maxRecDepth 100000 in
theorem numberAHi (w : World) (n : Int) (a : UInt8) (h01 : ¬ (a.toNat : Int) < 48) (h02 : 57 < (a.toNat : Int)) : Calls Tryz.prog 63 #[.agg #[.int .i64 n], .string ⟨#[a]⟩] w (NumPost w n none) := by
  refine calls_of_wp Tryz.func63 num_body ?_
  have hsl : Sl (⟨#[.agg #[.int .i64 n], .string ⟨#[a]⟩] ++ Array.replicate (Tryz.f63.ntmps - (#[.agg #[.int .i64 n], .string ⟨#[a]⟩] : Array Value).size) undef, []⟩ : Act) 51 [(0, .agg #[.int .i64 n]), (1, .string ⟨#[a]⟩)] := by rw [Tryz.ntmps63]; exact Sl.entry2 _ _ (by omega)
  revert hsl; generalize (Act.mk _ _) = a0; intro hsl
  refine wp_seq ?_
  have e : regionIn Tryz.f63 0 = Code.region 0 _ false := rfl
  rw [e]; clear e
  refine wp_region ?_
  refine ops_go rfl rfl (fun K hK => ?_)
  have e0 := hsl.get 0 _ rfl
  unfold Oper.wp
  go_simp
  clear e0
  refine hK _ _ ?_; clear hK
  refine hsl.go (by decide) ?_; clear hsl; intro a1 hsl
  refine alloc_rwB (G := fun W => wpOps _ _ _ _ _ W) ?_
  intro w1 hz1 X1 hb1
  generalize hg1 : w.heap.size = bx at X1 hsl; clear hg1
  have hbx := X1.cell (o := 0) rfl
  refine ops_go rfl rfl (fun K hK => ?_)
  unfold Oper.wp
  go_simp
  refine hK _ _ ?_; clear hK
  refine hsl.go (by decide) ?_; clear hsl; intro a1 hsl
  refine ops_done ?_
  try simp only [Exit.then, Exit.inBlock, ↓reduceIte, Nat.reduceEqDiff]
  refine wp_seq ?_
  refine wp_seq ?_
  have e : regionIn Tryz.f63 1 = Code.region 1 _ false := rfl
  rw [e]; clear e
  refine wp_region ?_
  refine ops_go rfl rfl (fun K hK => ?_)
  have e1 := hsl.get 1 _ rfl
  unfold Oper.wp
  go_simp
  clear e1
  refine hK _ _ ?_; clear hK
  refine hsl.go (by decide) ?_; clear hsl; intro a1 hsl
  refine ops_go rfl rfl (fun K hK => ?_)
  have e8 := hsl.get 8 _ rfl
  unfold Oper.wp
  go_simp
  clear e8
  refine hK _ _ ?_; clear hK
  refine hsl.go (by decide) ?_; clear hsl; intro a1 hsl
  refine ops_go rfl rfl (fun K hK => ?_)
  have e9 := hsl.get 9 _ rfl
  unfold Oper.wp
  go_simp
  clear e9
  refine hK _ _ ?_; clear hK
  refine hsl.go (by decide) ?_; clear hsl; intro a1 hsl
  refine ops_go rfl rfl (fun K hK => ?_)
  have e10 := hsl.get 10 _ rfl
  unfold Oper.wp
  go_simp
  clear e10
  refine hK _ _ ?_; clear hK
  refine hsl.go (by decide) ?_; clear hsl; intro a1 hsl
  refine ops_want rfl rfl rfl rfl (hsl.get 11 _ rfl) (fun K hK => ?_)
  have e1 := hsl.get 1 _ rfl
  unfold Oper.wp
  go_simp
  clear e1
  refine hK _ _ ?_; clear hK
  refine hsl.go (by decide) ?_; clear hsl; intro a1 hsl
  refine ops_want rfl rfl rfl rfl (hsl.get 11 _ rfl) (fun K hK => ?_)
  have e12 := hsl.get 12 _ rfl
  unfold Oper.wp
  go_simp
  clear e12
  refine hK _ _ ?_; clear hK
  refine hsl.go (by decide) ?_; clear hsl; intro a1 hsl
  refine ops_want rfl rfl rfl rfl (hsl.get 11 _ rfl) (fun K hK => ?_)
  have e13 := hsl.get 13 _ rfl
  unfold Oper.wp
  go_simp
  clear e13
  refine hK _ _ ?_; clear hK
  refine hsl.go (by decide) ?_; clear hsl; intro a1 hsl
  refine ops_go rfl rfl (fun K hK => ?_)
  have e11 := hsl.get 11 _ rfl
  have e14 := hsl.get 14 _ rfl
  unfold Oper.wp
  go_simp
  clear e11 e14
  refine hK _ _ ?_; clear hK
  refine hsl.go (by decide) ?_; clear hsl; intro a1 hsl
  refine ops_go rfl rfl (fun K hK => ?_)
  have e15 := hsl.get 15 _ rfl
  unfold Oper.wp
  go_simp
  clear e15
  refine hK _ _ ?_; clear hK
  refine hsl.go (by decide) ?_; clear hsl; intro a1 hsl
  refine ops_want rfl rfl rfl rfl (hsl.get 16 _ rfl) (fun K hK => ?_)
  have e1 := hsl.get 1 _ rfl
  unfold Oper.wp
  go_simp
  clear e1
  refine hK _ _ ?_; clear hK
  refine hsl.go (by decide) ?_; clear hsl; intro a1 hsl
  refine ops_want rfl rfl rfl rfl (hsl.get 16 _ rfl) (fun K hK => ?_)
  have e17 := hsl.get 17 _ rfl
  unfold Oper.wp
  go_simp
  clear e17
  refine hK _ _ ?_; clear hK
  refine hsl.go (by decide) ?_; clear hsl; intro a1 hsl
  refine ops_want rfl rfl rfl rfl (hsl.get 16 _ rfl) (fun K hK => ?_)
  have e18 := hsl.get 18 _ rfl
  unfold Oper.wp
  go_simp
  clear e18
  refine hK _ _ ?_; clear hK
  refine hsl.go (by decide) ?_; clear hsl; intro a1 hsl
  refine ops_want rfl rfl rfl rfl (hsl.get 16 _ rfl) (fun K hK => ?_)
  have e19 := hsl.get 19 _ rfl
  unfold Oper.wp
  go_simp
  clear e19
  refine hK _ _ ?_; clear hK
  refine hsl.go (by decide) ?_; clear hsl; intro a1 hsl
  refine ops_skip rfl rfl rfl rfl (hsl.get 20 _ rfl) (by decide) ?_
  refine hsl.go (by decide) ?_; clear hsl; intro a1 hsl
  refine ops_skip rfl rfl rfl rfl (hsl.get 20 _ rfl) (by decide) ?_
  refine hsl.go (by decide) ?_; clear hsl; intro a1 hsl
  refine ops_skip rfl rfl rfl rfl (hsl.get 20 _ rfl) (by decide) ?_
  refine hsl.go (by decide) ?_; clear hsl; intro a1 hsl
  refine ops_want rfl rfl rfl rfl (hsl.get 16 _ rfl) (fun K hK => ?_)
  have e20 := hsl.get 20 _ rfl
  have e23 := hsl.get 23 _ rfl
  unfold Oper.wp
  go_simp
  clear e20 e23
  refine hK _ _ ?_; clear hK
  refine hsl.go (by decide) ?_; clear hsl; intro a1 hsl
  refine ops_go rfl rfl (fun K hK => ?_)
  have e16 := hsl.get 16 _ rfl
  have e24 := hsl.get 24 _ rfl
  unfold Oper.wp
  go_simp
  clear e16 e24
  refine hK _ _ ?_; clear hK
  refine hsl.go (by decide) ?_; clear hsl; intro a1 hsl
  refine ops_done ?_
  try simp only [Exit.then, Exit.inBlock, ↓reduceIte, Nat.reduceEqDiff]
  refine wp_cond_false (hsl.ev 25 rfl) ?_
  refine wp_skip ?_
  try simp only [Exit.then, Exit.inBlock, ↓reduceIte, Nat.reduceEqDiff]
  refine wp_seq ?_
  have e : regionIn Tryz.f63 3 = Code.region 3 _ false := rfl
  rw [e]; clear e
  refine wp_region ?_
  refine ops_go rfl rfl (fun K hK => ?_)
  unfold Oper.wp
  go_simp
  refine hK _ _ ?_; clear hK
  refine hsl.go (by decide) ?_; clear hsl; intro a1 hsl
  refine ops_done ?_
  try simp only [Exit.then, Exit.inBlock, ↓reduceIte, Nat.reduceEqDiff]
  refine wp_seq ?_
  refine wp_seq ?_
  have e : regionIn Tryz.f63 4 = Code.region 4 _ false := rfl
  rw [e]; clear e
  refine wp_region ?_
  refine ops_go rfl rfl (fun K hK => ?_)
  have e1 := hsl.get 1 _ rfl
  unfold Oper.wp
  go_simp
  clear e1
  refine hK _ _ ?_; clear hK
  refine hsl.go (by decide) ?_; clear hsl; intro a1 hsl
  refine ops_go rfl rfl (fun K hK => ?_)
  have e28 := hsl.get 28 _ rfl
  have hcv := Lib.run_convert_string_bytes (P := Tryz.prog) w1 9 70 5 ⟨#[a]⟩ Tryz.underlying9 Tryz.underlying70 Tryz.underlying5
  unfold Oper.wp
  go_simp
  clear e28
  refine hK _ _ ?_; clear hK
  refine hsl.go (by decide) ?_; clear hsl; intro a1 hsl
  clear hcv
  have hb2 := bytes_below w1 5 ⟨#[a]⟩
  have hbx2 := (X1.below hb2).cell (o := 0) rfl
  have c0 : (Lib.bytesWorld w1 5 ⟨#[a]⟩).cell? ⟨w1.heap.size, 0, none⟩ = some (.int .u8 (a.toNat : Int)) := Lib.bytesWorld_cell w1 5 ⟨#[a]⟩ 0 (by show 0 < 1; omega)
  replace hb2 := hb1.trans (hb2.mono hb1.size)
  generalize Lib.bytesWorld w1 5 ⟨#[a]⟩ = w2 at hb2 hbx2 c0 ⊢
  generalize grownCap w1 _ 0 5 = cap at hsl
  generalize w1.heap.size = g at hsl c0
  refine ops_go rfl rfl (fun K hK => ?_)
  have e29 := hsl.get 29 _ rfl
  unfold Oper.wp
  go_simp
  clear e29
  refine hK _ _ ?_; clear hK
  refine hsl.go (by decide) ?_; clear hsl; intro a1 hsl
  refine ops_go rfl rfl (fun K hK => ?_)
  unfold Oper.wp
  go_simp
  refine hK _ _ ?_; clear hK
  refine hsl.go (by decide) ?_; clear hsl; intro a1 hsl
  refine ops_done ?_
  try simp only [Exit.then, Exit.inBlock, ↓reduceIte, Nat.reduceEqDiff]
  refine wp_block ?_
  refine wp_loop_ghost (fun k a' w' => w' = w2 ∧ ((k = 0 ∧ Sl a' 51 [(2, .pointer (some ⟨bx, 0, none⟩)), (5, .int .i64 0), (29, .slice (some ⟨g, 0, none⟩) 1 cap), (30, .int .i64 1), (31, .int .i64 0)]) ∨ False)) 0 ⟨rfl, .inl ⟨rfl, ((((hsl.nil.cons (hsl.get 31 _ rfl)).cons (hsl.get 30 _ rfl)).cons (hsl.get 29 _ rfl)).cons (hsl.get 5 _ rfl)).cons (hsl.get 2 _ rfl)⟩⟩ ?_
  clear hsl
  rintro k a' w' ⟨rfl, ⟨rfl, hs⟩ | hF⟩
  rotate_left
  · exact hF.elim
  refine numHi10 _ n bx g cap _ hbx2 c0 h01 h02 _ hs _ ?_
  intro a4 hsl
  try simp only [Exit.then, Exit.inBlock, ↓reduceIte, Nat.reduceEqDiff]
  exact ⟨hsl.defers, hb2, rfl⟩
set_option maxRecDepth 100000 in
theorem numberBLo (w : World) (n : Int) (a b : UInt8) (ha : ((a.toNat : Int) == 48) = false) (hix : (⟨#[a, b]⟩ : ByteArray)[0]'(by show 0 < 2; omega) = a) (h01 : (a.toNat : Int) < 48) : Calls Tryz.prog 63 #[.agg #[.int .i64 n], .string ⟨#[a, b]⟩] w (NumPost w n none) := by
  refine calls_of_wp Tryz.func63 num_body ?_
  have hsl : Sl (⟨#[.agg #[.int .i64 n], .string ⟨#[a, b]⟩] ++ Array.replicate (Tryz.f63.ntmps - (#[.agg #[.int .i64 n], .string ⟨#[a, b]⟩] : Array Value).size) undef, []⟩ : Act) 51 [(0, .agg #[.int .i64 n]), (1, .string ⟨#[a, b]⟩)] := by rw [Tryz.ntmps63]; exact Sl.entry2 _ _ (by omega)
  revert hsl; generalize (Act.mk _ _) = a0; intro hsl
  refine wp_seq ?_
  have e : regionIn Tryz.f63 0 = Code.region 0 _ false := rfl
  rw [e]; clear e
  refine wp_region ?_
  refine ops_go rfl rfl (fun K hK => ?_)
  have e0 := hsl.get 0 _ rfl
  unfold Oper.wp
  go_simp
  clear e0
  refine hK _ _ ?_; clear hK
  refine hsl.go (by decide) ?_; clear hsl; intro a1 hsl
  refine alloc_rwB (G := fun W => wpOps _ _ _ _ _ W) ?_
  intro w1 hz1 X1 hb1
  generalize hg1 : w.heap.size = bx at X1 hsl; clear hg1
  have hbx := X1.cell (o := 0) rfl
  refine ops_go rfl rfl (fun K hK => ?_)
  unfold Oper.wp
  go_simp
  refine hK _ _ ?_; clear hK
  refine hsl.go (by decide) ?_; clear hsl; intro a1 hsl
  refine ops_done ?_
  try simp only [Exit.then, Exit.inBlock, ↓reduceIte, Nat.reduceEqDiff]
  refine wp_seq ?_
  refine wp_seq ?_
  have e : regionIn Tryz.f63 1 = Code.region 1 _ false := rfl
  rw [e]; clear e
  refine wp_region ?_
  refine ops_go rfl rfl (fun K hK => ?_)
  have e1 := hsl.get 1 _ rfl
  unfold Oper.wp
  go_simp
  clear e1
  refine hK _ _ ?_; clear hK
  refine hsl.go (by decide) ?_; clear hsl; intro a1 hsl
  refine ops_go rfl rfl (fun K hK => ?_)
  have e8 := hsl.get 8 _ rfl
  unfold Oper.wp
  go_simp
  clear e8
  refine hK _ _ ?_; clear hK
  refine hsl.go (by decide) ?_; clear hsl; intro a1 hsl
  refine ops_go rfl rfl (fun K hK => ?_)
  have e9 := hsl.get 9 _ rfl
  unfold Oper.wp
  go_simp
  clear e9
  refine hK _ _ ?_; clear hK
  refine hsl.go (by decide) ?_; clear hsl; intro a1 hsl
  refine ops_go rfl rfl (fun K hK => ?_)
  have e10 := hsl.get 10 _ rfl
  unfold Oper.wp
  go_simp
  clear e10
  refine hK _ _ ?_; clear hK
  refine hsl.go (by decide) ?_; clear hsl; intro a1 hsl
  refine ops_want rfl rfl rfl rfl (hsl.get 11 _ rfl) (fun K hK => ?_)
  have e1 := hsl.get 1 _ rfl
  unfold Oper.wp
  go_simp
  clear e1
  refine hK _ _ ?_; clear hK
  refine hsl.go (by decide) ?_; clear hsl; intro a1 hsl
  refine ops_want rfl rfl rfl rfl (hsl.get 11 _ rfl) (fun K hK => ?_)
  have e12 := hsl.get 12 _ rfl
  unfold Oper.wp
  go_simp
  clear e12
  refine hK _ _ ?_; clear hK
  refine hsl.go (by decide) ?_; clear hsl; intro a1 hsl
  refine ops_want rfl rfl rfl rfl (hsl.get 11 _ rfl) (fun K hK => ?_)
  have e13 := hsl.get 13 _ rfl
  unfold Oper.wp
  go_simp
  clear e13
  refine hK _ _ ?_; clear hK
  refine hsl.go (by decide) ?_; clear hsl; intro a1 hsl
  refine ops_go rfl rfl (fun K hK => ?_)
  have e11 := hsl.get 11 _ rfl
  have e14 := hsl.get 14 _ rfl
  unfold Oper.wp
  go_simp
  clear e11 e14
  refine hK _ _ ?_; clear hK
  refine hsl.go (by decide) ?_; clear hsl; intro a1 hsl
  refine ops_go rfl rfl (fun K hK => ?_)
  have e15 := hsl.get 15 _ rfl
  unfold Oper.wp
  go_simp
  clear e15
  refine hK _ _ ?_; clear hK
  refine hsl.go (by decide) ?_; clear hsl; intro a1 hsl
  refine ops_want rfl rfl rfl rfl (hsl.get 16 _ rfl) (fun K hK => ?_)
  have e1 := hsl.get 1 _ rfl
  unfold Oper.wp
  go_simp
  clear e1
  refine hK _ _ ?_; clear hK
  refine hsl.go (by decide) ?_; clear hsl; intro a1 hsl
  refine ops_want rfl rfl rfl rfl (hsl.get 16 _ rfl) (fun K hK => ?_)
  have e17 := hsl.get 17 _ rfl
  unfold Oper.wp
  go_simp
  clear e17
  refine hK _ _ ?_; clear hK
  refine hsl.go (by decide) ?_; clear hsl; intro a1 hsl
  refine ops_want rfl rfl rfl rfl (hsl.get 16 _ rfl) (fun K hK => ?_)
  have e18 := hsl.get 18 _ rfl
  unfold Oper.wp
  go_simp
  clear e18
  refine hK _ _ ?_; clear hK
  refine hsl.go (by decide) ?_; clear hsl; intro a1 hsl
  refine ops_want rfl rfl rfl rfl (hsl.get 16 _ rfl) (fun K hK => ?_)
  have e19 := hsl.get 19 _ rfl
  unfold Oper.wp
  go_simp
  clear e19
  refine hK _ _ ?_; clear hK
  refine hsl.go (by decide) ?_; clear hsl; intro a1 hsl
  refine ops_want rfl rfl rfl rfl (hsl.get 20 _ rfl) (fun K hK => ?_)
  have e1 := hsl.get 1 _ rfl
  unfold Oper.wp
  go_simp
  clear e1
  refine hK _ _ ?_; clear hK
  refine hsl.go (by decide) ?_; clear hsl; intro a1 hsl
  refine ops_want rfl rfl rfl rfl (hsl.get 20 _ rfl) (fun K hK => ?_)
  have e21 := hsl.get 21 _ rfl
  unfold Oper.wp
  go_simp
  clear e21
  refine hK _ _ ?_; clear hK
  refine hsl.go (by decide) ?_; clear hsl; intro a1 hsl
  refine ops_want rfl rfl rfl rfl (hsl.get 20 _ rfl) (fun K hK => ?_)
  have e22 := hsl.get 22 _ rfl
  unfold Oper.wp
  go_simp
  clear e22
  refine hK _ _ ?_; clear hK
  refine hsl.go (by decide) ?_; clear hsl; intro a1 hsl
  refine ops_want rfl rfl rfl rfl (hsl.get 16 _ rfl) (fun K hK => ?_)
  have e20 := hsl.get 20 _ rfl
  have e23 := hsl.get 23 _ rfl
  unfold Oper.wp
  go_simp
  clear e20 e23
  refine hK _ _ ?_; clear hK
  refine hsl.go (by decide) ?_; clear hsl; intro a1 hsl
  refine ops_go rfl rfl (fun K hK => ?_)
  have e16 := hsl.get 16 _ rfl
  have e24 := hsl.get 24 _ rfl
  unfold Oper.wp
  go_simp
  clear e16 e24
  refine hK _ _ ?_; clear hK
  refine hsl.go (by decide) ?_; clear hsl; intro a1 hsl
  refine ops_done ?_
  try simp only [Exit.then, Exit.inBlock, ↓reduceIte, Nat.reduceEqDiff]
  refine wp_cond_false (hsl.ev 25 rfl) ?_
  refine wp_skip ?_
  try simp only [Exit.then, Exit.inBlock, ↓reduceIte, Nat.reduceEqDiff]
  refine wp_seq ?_
  have e : regionIn Tryz.f63 3 = Code.region 3 _ false := rfl
  rw [e]; clear e
  refine wp_region ?_
  refine ops_go rfl rfl (fun K hK => ?_)
  unfold Oper.wp
  go_simp
  refine hK _ _ ?_; clear hK
  refine hsl.go (by decide) ?_; clear hsl; intro a1 hsl
  refine ops_done ?_
  try simp only [Exit.then, Exit.inBlock, ↓reduceIte, Nat.reduceEqDiff]
  refine wp_seq ?_
  refine wp_seq ?_
  have e : regionIn Tryz.f63 4 = Code.region 4 _ false := rfl
  rw [e]; clear e
  refine wp_region ?_
  refine ops_go rfl rfl (fun K hK => ?_)
  have e1 := hsl.get 1 _ rfl
  unfold Oper.wp
  go_simp
  clear e1
  refine hK _ _ ?_; clear hK
  refine hsl.go (by decide) ?_; clear hsl; intro a1 hsl
  refine ops_go rfl rfl (fun K hK => ?_)
  have e28 := hsl.get 28 _ rfl
  have hcv := Lib.run_convert_string_bytes (P := Tryz.prog) w1 9 70 5 ⟨#[a, b]⟩ Tryz.underlying9 Tryz.underlying70 Tryz.underlying5
  unfold Oper.wp
  go_simp
  clear e28
  refine hK _ _ ?_; clear hK
  refine hsl.go (by decide) ?_; clear hsl; intro a1 hsl
  clear hcv
  have hb2 := bytes_below w1 5 ⟨#[a, b]⟩
  have hbx2 := (X1.below hb2).cell (o := 0) rfl
  have c0 : (Lib.bytesWorld w1 5 ⟨#[a, b]⟩).cell? ⟨w1.heap.size, 0, none⟩ = some (.int .u8 (a.toNat : Int)) := Lib.bytesWorld_cell w1 5 ⟨#[a, b]⟩ 0 (by show 0 < 2; omega)
  have c1 : (Lib.bytesWorld w1 5 ⟨#[a, b]⟩).cell? ⟨w1.heap.size, 1, none⟩ = some (.int .u8 (b.toNat : Int)) := Lib.bytesWorld_cell w1 5 ⟨#[a, b]⟩ 1 (by show 1 < 2; omega)
  replace hb2 := hb1.trans (hb2.mono hb1.size)
  generalize Lib.bytesWorld w1 5 ⟨#[a, b]⟩ = w2 at hb2 hbx2 c0 c1 ⊢
  generalize grownCap w1 _ 0 5 = cap at hsl
  generalize w1.heap.size = g at hsl c0 c1
  refine ops_go rfl rfl (fun K hK => ?_)
  have e29 := hsl.get 29 _ rfl
  unfold Oper.wp
  go_simp
  clear e29
  refine hK _ _ ?_; clear hK
  refine hsl.go (by decide) ?_; clear hsl; intro a1 hsl
  refine ops_go rfl rfl (fun K hK => ?_)
  unfold Oper.wp
  go_simp
  refine hK _ _ ?_; clear hK
  refine hsl.go (by decide) ?_; clear hsl; intro a1 hsl
  refine ops_done ?_
  try simp only [Exit.then, Exit.inBlock, ↓reduceIte, Nat.reduceEqDiff]
  refine wp_block ?_
  refine wp_loop_ghost (fun k a' w' => w' = w2 ∧ ((k = 0 ∧ Sl a' 51 [(2, .pointer (some ⟨bx, 0, none⟩)), (5, .int .i64 0), (29, .slice (some ⟨g, 0, none⟩) 2 cap), (30, .int .i64 2), (31, .int .i64 0)]) ∨ False)) 0 ⟨rfl, .inl ⟨rfl, ((((hsl.nil.cons (hsl.get 31 _ rfl)).cons (hsl.get 30 _ rfl)).cons (hsl.get 29 _ rfl)).cons (hsl.get 5 _ rfl)).cons (hsl.get 2 _ rfl)⟩⟩ ?_
  clear hsl
  rintro k a' w' ⟨rfl, ⟨rfl, hs⟩ | hF⟩
  rotate_left
  · exact hF.elim
  refine numLo20 _ n bx g cap _ hbx2 c0 h01 _ hs _ ?_
  intro a4 hsl
  try simp only [Exit.then, Exit.inBlock, ↓reduceIte, Nat.reduceEqDiff]
  exact ⟨hsl.defers, hb2, rfl⟩
set_option maxRecDepth 100000 in
theorem numberBHi (w : World) (n : Int) (a b : UInt8) (ha : ((a.toNat : Int) == 48) = false) (hix : (⟨#[a, b]⟩ : ByteArray)[0]'(by show 0 < 2; omega) = a) (h01 : ¬ (a.toNat : Int) < 48) (h02 : 57 < (a.toNat : Int)) : Calls Tryz.prog 63 #[.agg #[.int .i64 n], .string ⟨#[a, b]⟩] w (NumPost w n none) := by
  refine calls_of_wp Tryz.func63 num_body ?_
  have hsl : Sl (⟨#[.agg #[.int .i64 n], .string ⟨#[a, b]⟩] ++ Array.replicate (Tryz.f63.ntmps - (#[.agg #[.int .i64 n], .string ⟨#[a, b]⟩] : Array Value).size) undef, []⟩ : Act) 51 [(0, .agg #[.int .i64 n]), (1, .string ⟨#[a, b]⟩)] := by rw [Tryz.ntmps63]; exact Sl.entry2 _ _ (by omega)
  revert hsl; generalize (Act.mk _ _) = a0; intro hsl
  refine wp_seq ?_
  have e : regionIn Tryz.f63 0 = Code.region 0 _ false := rfl
  rw [e]; clear e
  refine wp_region ?_
  refine ops_go rfl rfl (fun K hK => ?_)
  have e0 := hsl.get 0 _ rfl
  unfold Oper.wp
  go_simp
  clear e0
  refine hK _ _ ?_; clear hK
  refine hsl.go (by decide) ?_; clear hsl; intro a1 hsl
  refine alloc_rwB (G := fun W => wpOps _ _ _ _ _ W) ?_
  intro w1 hz1 X1 hb1
  generalize hg1 : w.heap.size = bx at X1 hsl; clear hg1
  have hbx := X1.cell (o := 0) rfl
  refine ops_go rfl rfl (fun K hK => ?_)
  unfold Oper.wp
  go_simp
  refine hK _ _ ?_; clear hK
  refine hsl.go (by decide) ?_; clear hsl; intro a1 hsl
  refine ops_done ?_
  try simp only [Exit.then, Exit.inBlock, ↓reduceIte, Nat.reduceEqDiff]
  refine wp_seq ?_
  refine wp_seq ?_
  have e : regionIn Tryz.f63 1 = Code.region 1 _ false := rfl
  rw [e]; clear e
  refine wp_region ?_
  refine ops_go rfl rfl (fun K hK => ?_)
  have e1 := hsl.get 1 _ rfl
  unfold Oper.wp
  go_simp
  clear e1
  refine hK _ _ ?_; clear hK
  refine hsl.go (by decide) ?_; clear hsl; intro a1 hsl
  refine ops_go rfl rfl (fun K hK => ?_)
  have e8 := hsl.get 8 _ rfl
  unfold Oper.wp
  go_simp
  clear e8
  refine hK _ _ ?_; clear hK
  refine hsl.go (by decide) ?_; clear hsl; intro a1 hsl
  refine ops_go rfl rfl (fun K hK => ?_)
  have e9 := hsl.get 9 _ rfl
  unfold Oper.wp
  go_simp
  clear e9
  refine hK _ _ ?_; clear hK
  refine hsl.go (by decide) ?_; clear hsl; intro a1 hsl
  refine ops_go rfl rfl (fun K hK => ?_)
  have e10 := hsl.get 10 _ rfl
  unfold Oper.wp
  go_simp
  clear e10
  refine hK _ _ ?_; clear hK
  refine hsl.go (by decide) ?_; clear hsl; intro a1 hsl
  refine ops_want rfl rfl rfl rfl (hsl.get 11 _ rfl) (fun K hK => ?_)
  have e1 := hsl.get 1 _ rfl
  unfold Oper.wp
  go_simp
  clear e1
  refine hK _ _ ?_; clear hK
  refine hsl.go (by decide) ?_; clear hsl; intro a1 hsl
  refine ops_want rfl rfl rfl rfl (hsl.get 11 _ rfl) (fun K hK => ?_)
  have e12 := hsl.get 12 _ rfl
  unfold Oper.wp
  go_simp
  clear e12
  refine hK _ _ ?_; clear hK
  refine hsl.go (by decide) ?_; clear hsl; intro a1 hsl
  refine ops_want rfl rfl rfl rfl (hsl.get 11 _ rfl) (fun K hK => ?_)
  have e13 := hsl.get 13 _ rfl
  unfold Oper.wp
  go_simp
  clear e13
  refine hK _ _ ?_; clear hK
  refine hsl.go (by decide) ?_; clear hsl; intro a1 hsl
  refine ops_go rfl rfl (fun K hK => ?_)
  have e11 := hsl.get 11 _ rfl
  have e14 := hsl.get 14 _ rfl
  unfold Oper.wp
  go_simp
  clear e11 e14
  refine hK _ _ ?_; clear hK
  refine hsl.go (by decide) ?_; clear hsl; intro a1 hsl
  refine ops_go rfl rfl (fun K hK => ?_)
  have e15 := hsl.get 15 _ rfl
  unfold Oper.wp
  go_simp
  clear e15
  refine hK _ _ ?_; clear hK
  refine hsl.go (by decide) ?_; clear hsl; intro a1 hsl
  refine ops_want rfl rfl rfl rfl (hsl.get 16 _ rfl) (fun K hK => ?_)
  have e1 := hsl.get 1 _ rfl
  unfold Oper.wp
  go_simp
  clear e1
  refine hK _ _ ?_; clear hK
  refine hsl.go (by decide) ?_; clear hsl; intro a1 hsl
  refine ops_want rfl rfl rfl rfl (hsl.get 16 _ rfl) (fun K hK => ?_)
  have e17 := hsl.get 17 _ rfl
  unfold Oper.wp
  go_simp
  clear e17
  refine hK _ _ ?_; clear hK
  refine hsl.go (by decide) ?_; clear hsl; intro a1 hsl
  refine ops_want rfl rfl rfl rfl (hsl.get 16 _ rfl) (fun K hK => ?_)
  have e18 := hsl.get 18 _ rfl
  unfold Oper.wp
  go_simp
  clear e18
  refine hK _ _ ?_; clear hK
  refine hsl.go (by decide) ?_; clear hsl; intro a1 hsl
  refine ops_want rfl rfl rfl rfl (hsl.get 16 _ rfl) (fun K hK => ?_)
  have e19 := hsl.get 19 _ rfl
  unfold Oper.wp
  go_simp
  clear e19
  refine hK _ _ ?_; clear hK
  refine hsl.go (by decide) ?_; clear hsl; intro a1 hsl
  refine ops_want rfl rfl rfl rfl (hsl.get 20 _ rfl) (fun K hK => ?_)
  have e1 := hsl.get 1 _ rfl
  unfold Oper.wp
  go_simp
  clear e1
  refine hK _ _ ?_; clear hK
  refine hsl.go (by decide) ?_; clear hsl; intro a1 hsl
  refine ops_want rfl rfl rfl rfl (hsl.get 20 _ rfl) (fun K hK => ?_)
  have e21 := hsl.get 21 _ rfl
  unfold Oper.wp
  go_simp
  clear e21
  refine hK _ _ ?_; clear hK
  refine hsl.go (by decide) ?_; clear hsl; intro a1 hsl
  refine ops_want rfl rfl rfl rfl (hsl.get 20 _ rfl) (fun K hK => ?_)
  have e22 := hsl.get 22 _ rfl
  unfold Oper.wp
  go_simp
  clear e22
  refine hK _ _ ?_; clear hK
  refine hsl.go (by decide) ?_; clear hsl; intro a1 hsl
  refine ops_want rfl rfl rfl rfl (hsl.get 16 _ rfl) (fun K hK => ?_)
  have e20 := hsl.get 20 _ rfl
  have e23 := hsl.get 23 _ rfl
  unfold Oper.wp
  go_simp
  clear e20 e23
  refine hK _ _ ?_; clear hK
  refine hsl.go (by decide) ?_; clear hsl; intro a1 hsl
  refine ops_go rfl rfl (fun K hK => ?_)
  have e16 := hsl.get 16 _ rfl
  have e24 := hsl.get 24 _ rfl
  unfold Oper.wp
  go_simp
  clear e16 e24
  refine hK _ _ ?_; clear hK
  refine hsl.go (by decide) ?_; clear hsl; intro a1 hsl
  refine ops_done ?_
  try simp only [Exit.then, Exit.inBlock, ↓reduceIte, Nat.reduceEqDiff]
  refine wp_cond_false (hsl.ev 25 rfl) ?_
  refine wp_skip ?_
  try simp only [Exit.then, Exit.inBlock, ↓reduceIte, Nat.reduceEqDiff]
  refine wp_seq ?_
  have e : regionIn Tryz.f63 3 = Code.region 3 _ false := rfl
  rw [e]; clear e
  refine wp_region ?_
  refine ops_go rfl rfl (fun K hK => ?_)
  unfold Oper.wp
  go_simp
  refine hK _ _ ?_; clear hK
  refine hsl.go (by decide) ?_; clear hsl; intro a1 hsl
  refine ops_done ?_
  try simp only [Exit.then, Exit.inBlock, ↓reduceIte, Nat.reduceEqDiff]
  refine wp_seq ?_
  refine wp_seq ?_
  have e : regionIn Tryz.f63 4 = Code.region 4 _ false := rfl
  rw [e]; clear e
  refine wp_region ?_
  refine ops_go rfl rfl (fun K hK => ?_)
  have e1 := hsl.get 1 _ rfl
  unfold Oper.wp
  go_simp
  clear e1
  refine hK _ _ ?_; clear hK
  refine hsl.go (by decide) ?_; clear hsl; intro a1 hsl
  refine ops_go rfl rfl (fun K hK => ?_)
  have e28 := hsl.get 28 _ rfl
  have hcv := Lib.run_convert_string_bytes (P := Tryz.prog) w1 9 70 5 ⟨#[a, b]⟩ Tryz.underlying9 Tryz.underlying70 Tryz.underlying5
  unfold Oper.wp
  go_simp
  clear e28
  refine hK _ _ ?_; clear hK
  refine hsl.go (by decide) ?_; clear hsl; intro a1 hsl
  clear hcv
  have hb2 := bytes_below w1 5 ⟨#[a, b]⟩
  have hbx2 := (X1.below hb2).cell (o := 0) rfl
  have c0 : (Lib.bytesWorld w1 5 ⟨#[a, b]⟩).cell? ⟨w1.heap.size, 0, none⟩ = some (.int .u8 (a.toNat : Int)) := Lib.bytesWorld_cell w1 5 ⟨#[a, b]⟩ 0 (by show 0 < 2; omega)
  have c1 : (Lib.bytesWorld w1 5 ⟨#[a, b]⟩).cell? ⟨w1.heap.size, 1, none⟩ = some (.int .u8 (b.toNat : Int)) := Lib.bytesWorld_cell w1 5 ⟨#[a, b]⟩ 1 (by show 1 < 2; omega)
  replace hb2 := hb1.trans (hb2.mono hb1.size)
  generalize Lib.bytesWorld w1 5 ⟨#[a, b]⟩ = w2 at hb2 hbx2 c0 c1 ⊢
  generalize grownCap w1 _ 0 5 = cap at hsl
  generalize w1.heap.size = g at hsl c0 c1
  refine ops_go rfl rfl (fun K hK => ?_)
  have e29 := hsl.get 29 _ rfl
  unfold Oper.wp
  go_simp
  clear e29
  refine hK _ _ ?_; clear hK
  refine hsl.go (by decide) ?_; clear hsl; intro a1 hsl
  refine ops_go rfl rfl (fun K hK => ?_)
  unfold Oper.wp
  go_simp
  refine hK _ _ ?_; clear hK
  refine hsl.go (by decide) ?_; clear hsl; intro a1 hsl
  refine ops_done ?_
  try simp only [Exit.then, Exit.inBlock, ↓reduceIte, Nat.reduceEqDiff]
  refine wp_block ?_
  refine wp_loop_ghost (fun k a' w' => w' = w2 ∧ ((k = 0 ∧ Sl a' 51 [(2, .pointer (some ⟨bx, 0, none⟩)), (5, .int .i64 0), (29, .slice (some ⟨g, 0, none⟩) 2 cap), (30, .int .i64 2), (31, .int .i64 0)]) ∨ False)) 0 ⟨rfl, .inl ⟨rfl, ((((hsl.nil.cons (hsl.get 31 _ rfl)).cons (hsl.get 30 _ rfl)).cons (hsl.get 29 _ rfl)).cons (hsl.get 5 _ rfl)).cons (hsl.get 2 _ rfl)⟩⟩ ?_
  clear hsl
  rintro k a' w' ⟨rfl, ⟨rfl, hs⟩ | hF⟩
  rotate_left
  · exact hF.elim
  refine numHi20 _ n bx g cap _ hbx2 c0 h01 h02 _ hs _ ?_
  intro a4 hsl
  try simp only [Exit.then, Exit.inBlock, ↓reduceIte, Nat.reduceEqDiff]
  exact ⟨hsl.defers, hb2, rfl⟩
set_option maxRecDepth 100000 in
theorem numberCOk (w : World) (n : Int) (a b : UInt8) (ha : ((a.toNat : Int) == 48) = false) (hix : (⟨#[a, b]⟩ : ByteArray)[0]'(by show 0 < 2; omega) = a) (h01 : ¬ (a.toNat : Int) < 48) (h02 : ¬ 57 < (a.toNat : Int)) (h11 : ¬ (b.toNat : Int) < 48) (h12 : ¬ 57 < (b.toNat : Int)) : Calls Tryz.prog 63 #[.agg #[.int .i64 n], .string ⟨#[a, b]⟩] w (NumPost w n (some (10 * ((a.toNat : Int) - 48) + ((b.toNat : Int) - 48)))) := by
  refine calls_of_wp Tryz.func63 num_body ?_
  have hsl : Sl (⟨#[.agg #[.int .i64 n], .string ⟨#[a, b]⟩] ++ Array.replicate (Tryz.f63.ntmps - (#[.agg #[.int .i64 n], .string ⟨#[a, b]⟩] : Array Value).size) undef, []⟩ : Act) 51 [(0, .agg #[.int .i64 n]), (1, .string ⟨#[a, b]⟩)] := by rw [Tryz.ntmps63]; exact Sl.entry2 _ _ (by omega)
  revert hsl; generalize (Act.mk _ _) = a0; intro hsl
  refine wp_seq ?_
  have e : regionIn Tryz.f63 0 = Code.region 0 _ false := rfl
  rw [e]; clear e
  refine wp_region ?_
  refine ops_go rfl rfl (fun K hK => ?_)
  have e0 := hsl.get 0 _ rfl
  unfold Oper.wp
  go_simp
  clear e0
  refine hK _ _ ?_; clear hK
  refine hsl.go (by decide) ?_; clear hsl; intro a1 hsl
  refine alloc_rwB (G := fun W => wpOps _ _ _ _ _ W) ?_
  intro w1 hz1 X1 hb1
  generalize hg1 : w.heap.size = bx at X1 hsl; clear hg1
  have hbx := X1.cell (o := 0) rfl
  refine ops_go rfl rfl (fun K hK => ?_)
  unfold Oper.wp
  go_simp
  refine hK _ _ ?_; clear hK
  refine hsl.go (by decide) ?_; clear hsl; intro a1 hsl
  refine ops_done ?_
  try simp only [Exit.then, Exit.inBlock, ↓reduceIte, Nat.reduceEqDiff]
  refine wp_seq ?_
  refine wp_seq ?_
  have e : regionIn Tryz.f63 1 = Code.region 1 _ false := rfl
  rw [e]; clear e
  refine wp_region ?_
  refine ops_go rfl rfl (fun K hK => ?_)
  have e1 := hsl.get 1 _ rfl
  unfold Oper.wp
  go_simp
  clear e1
  refine hK _ _ ?_; clear hK
  refine hsl.go (by decide) ?_; clear hsl; intro a1 hsl
  refine ops_go rfl rfl (fun K hK => ?_)
  have e8 := hsl.get 8 _ rfl
  unfold Oper.wp
  go_simp
  clear e8
  refine hK _ _ ?_; clear hK
  refine hsl.go (by decide) ?_; clear hsl; intro a1 hsl
  refine ops_go rfl rfl (fun K hK => ?_)
  have e9 := hsl.get 9 _ rfl
  unfold Oper.wp
  go_simp
  clear e9
  refine hK _ _ ?_; clear hK
  refine hsl.go (by decide) ?_; clear hsl; intro a1 hsl
  refine ops_go rfl rfl (fun K hK => ?_)
  have e10 := hsl.get 10 _ rfl
  unfold Oper.wp
  go_simp
  clear e10
  refine hK _ _ ?_; clear hK
  refine hsl.go (by decide) ?_; clear hsl; intro a1 hsl
  refine ops_want rfl rfl rfl rfl (hsl.get 11 _ rfl) (fun K hK => ?_)
  have e1 := hsl.get 1 _ rfl
  unfold Oper.wp
  go_simp
  clear e1
  refine hK _ _ ?_; clear hK
  refine hsl.go (by decide) ?_; clear hsl; intro a1 hsl
  refine ops_want rfl rfl rfl rfl (hsl.get 11 _ rfl) (fun K hK => ?_)
  have e12 := hsl.get 12 _ rfl
  unfold Oper.wp
  go_simp
  clear e12
  refine hK _ _ ?_; clear hK
  refine hsl.go (by decide) ?_; clear hsl; intro a1 hsl
  refine ops_want rfl rfl rfl rfl (hsl.get 11 _ rfl) (fun K hK => ?_)
  have e13 := hsl.get 13 _ rfl
  unfold Oper.wp
  go_simp
  clear e13
  refine hK _ _ ?_; clear hK
  refine hsl.go (by decide) ?_; clear hsl; intro a1 hsl
  refine ops_go rfl rfl (fun K hK => ?_)
  have e11 := hsl.get 11 _ rfl
  have e14 := hsl.get 14 _ rfl
  unfold Oper.wp
  go_simp
  clear e11 e14
  refine hK _ _ ?_; clear hK
  refine hsl.go (by decide) ?_; clear hsl; intro a1 hsl
  refine ops_go rfl rfl (fun K hK => ?_)
  have e15 := hsl.get 15 _ rfl
  unfold Oper.wp
  go_simp
  clear e15
  refine hK _ _ ?_; clear hK
  refine hsl.go (by decide) ?_; clear hsl; intro a1 hsl
  refine ops_want rfl rfl rfl rfl (hsl.get 16 _ rfl) (fun K hK => ?_)
  have e1 := hsl.get 1 _ rfl
  unfold Oper.wp
  go_simp
  clear e1
  refine hK _ _ ?_; clear hK
  refine hsl.go (by decide) ?_; clear hsl; intro a1 hsl
  refine ops_want rfl rfl rfl rfl (hsl.get 16 _ rfl) (fun K hK => ?_)
  have e17 := hsl.get 17 _ rfl
  unfold Oper.wp
  go_simp
  clear e17
  refine hK _ _ ?_; clear hK
  refine hsl.go (by decide) ?_; clear hsl; intro a1 hsl
  refine ops_want rfl rfl rfl rfl (hsl.get 16 _ rfl) (fun K hK => ?_)
  have e18 := hsl.get 18 _ rfl
  unfold Oper.wp
  go_simp
  clear e18
  refine hK _ _ ?_; clear hK
  refine hsl.go (by decide) ?_; clear hsl; intro a1 hsl
  refine ops_want rfl rfl rfl rfl (hsl.get 16 _ rfl) (fun K hK => ?_)
  have e19 := hsl.get 19 _ rfl
  unfold Oper.wp
  go_simp
  clear e19
  refine hK _ _ ?_; clear hK
  refine hsl.go (by decide) ?_; clear hsl; intro a1 hsl
  refine ops_want rfl rfl rfl rfl (hsl.get 20 _ rfl) (fun K hK => ?_)
  have e1 := hsl.get 1 _ rfl
  unfold Oper.wp
  go_simp
  clear e1
  refine hK _ _ ?_; clear hK
  refine hsl.go (by decide) ?_; clear hsl; intro a1 hsl
  refine ops_want rfl rfl rfl rfl (hsl.get 20 _ rfl) (fun K hK => ?_)
  have e21 := hsl.get 21 _ rfl
  unfold Oper.wp
  go_simp
  clear e21
  refine hK _ _ ?_; clear hK
  refine hsl.go (by decide) ?_; clear hsl; intro a1 hsl
  refine ops_want rfl rfl rfl rfl (hsl.get 20 _ rfl) (fun K hK => ?_)
  have e22 := hsl.get 22 _ rfl
  unfold Oper.wp
  go_simp
  clear e22
  refine hK _ _ ?_; clear hK
  refine hsl.go (by decide) ?_; clear hsl; intro a1 hsl
  refine ops_want rfl rfl rfl rfl (hsl.get 16 _ rfl) (fun K hK => ?_)
  have e20 := hsl.get 20 _ rfl
  have e23 := hsl.get 23 _ rfl
  unfold Oper.wp
  go_simp
  clear e20 e23
  refine hK _ _ ?_; clear hK
  refine hsl.go (by decide) ?_; clear hsl; intro a1 hsl
  refine ops_go rfl rfl (fun K hK => ?_)
  have e16 := hsl.get 16 _ rfl
  have e24 := hsl.get 24 _ rfl
  unfold Oper.wp
  go_simp
  clear e16 e24
  refine hK _ _ ?_; clear hK
  refine hsl.go (by decide) ?_; clear hsl; intro a1 hsl
  refine ops_done ?_
  try simp only [Exit.then, Exit.inBlock, ↓reduceIte, Nat.reduceEqDiff]
  refine wp_cond_false (hsl.ev 25 rfl) ?_
  refine wp_skip ?_
  try simp only [Exit.then, Exit.inBlock, ↓reduceIte, Nat.reduceEqDiff]
  refine wp_seq ?_
  have e : regionIn Tryz.f63 3 = Code.region 3 _ false := rfl
  rw [e]; clear e
  refine wp_region ?_
  refine ops_go rfl rfl (fun K hK => ?_)
  unfold Oper.wp
  go_simp
  refine hK _ _ ?_; clear hK
  refine hsl.go (by decide) ?_; clear hsl; intro a1 hsl
  refine ops_done ?_
  try simp only [Exit.then, Exit.inBlock, ↓reduceIte, Nat.reduceEqDiff]
  refine wp_seq ?_
  refine wp_seq ?_
  have e : regionIn Tryz.f63 4 = Code.region 4 _ false := rfl
  rw [e]; clear e
  refine wp_region ?_
  refine ops_go rfl rfl (fun K hK => ?_)
  have e1 := hsl.get 1 _ rfl
  unfold Oper.wp
  go_simp
  clear e1
  refine hK _ _ ?_; clear hK
  refine hsl.go (by decide) ?_; clear hsl; intro a1 hsl
  refine ops_go rfl rfl (fun K hK => ?_)
  have e28 := hsl.get 28 _ rfl
  have hcv := Lib.run_convert_string_bytes (P := Tryz.prog) w1 9 70 5 ⟨#[a, b]⟩ Tryz.underlying9 Tryz.underlying70 Tryz.underlying5
  unfold Oper.wp
  go_simp
  clear e28
  refine hK _ _ ?_; clear hK
  refine hsl.go (by decide) ?_; clear hsl; intro a1 hsl
  clear hcv
  have hb2 := bytes_below w1 5 ⟨#[a, b]⟩
  have hbx2 := (X1.below hb2).cell (o := 0) rfl
  have c0 : (Lib.bytesWorld w1 5 ⟨#[a, b]⟩).cell? ⟨w1.heap.size, 0, none⟩ = some (.int .u8 (a.toNat : Int)) := Lib.bytesWorld_cell w1 5 ⟨#[a, b]⟩ 0 (by show 0 < 2; omega)
  have c1 : (Lib.bytesWorld w1 5 ⟨#[a, b]⟩).cell? ⟨w1.heap.size, 1, none⟩ = some (.int .u8 (b.toNat : Int)) := Lib.bytesWorld_cell w1 5 ⟨#[a, b]⟩ 1 (by show 1 < 2; omega)
  replace hb2 := hb1.trans (hb2.mono hb1.size)
  generalize Lib.bytesWorld w1 5 ⟨#[a, b]⟩ = w2 at hb2 hbx2 c0 c1 ⊢
  generalize grownCap w1 _ 0 5 = cap at hsl
  generalize w1.heap.size = g at hsl c0 c1
  refine ops_go rfl rfl (fun K hK => ?_)
  have e29 := hsl.get 29 _ rfl
  unfold Oper.wp
  go_simp
  clear e29
  refine hK _ _ ?_; clear hK
  refine hsl.go (by decide) ?_; clear hsl; intro a1 hsl
  refine ops_go rfl rfl (fun K hK => ?_)
  unfold Oper.wp
  go_simp
  refine hK _ _ ?_; clear hK
  refine hsl.go (by decide) ?_; clear hsl; intro a1 hsl
  refine ops_done ?_
  try simp only [Exit.then, Exit.inBlock, ↓reduceIte, Nat.reduceEqDiff]
  refine wp_block ?_
  refine wp_loop_ghost (fun k a' w' => w' = w2 ∧ ((k = 2 ∧ Sl a' 51 [(2, .pointer (some ⟨bx, 0, none⟩)), (5, .int .i64 0), (29, .slice (some ⟨g, 0, none⟩) 2 cap), (30, .int .i64 2), (31, .int .i64 0)]) ∨ (k = 1 ∧ Sl a' 51 [(2, .pointer (some ⟨bx, 0, none⟩)), (5, .int .i64 ((a.toNat : Int) - 48)), (29, .slice (some ⟨g, 0, none⟩) 2 cap), (30, .int .i64 2), (31, .int .i64 1)]) ∨ (k = 0 ∧ Sl a' 51 [(2, .pointer (some ⟨bx, 0, none⟩)), (5, .int .i64 (10 * ((a.toNat : Int) - 48) + ((b.toNat : Int) - 48))), (29, .slice (some ⟨g, 0, none⟩) 2 cap), (30, .int .i64 2), (31, .int .i64 2)]))) 2 ⟨rfl, .inl ⟨rfl, ((((hsl.nil.cons (hsl.get 31 _ rfl)).cons (hsl.get 30 _ rfl)).cons (hsl.get 29 _ rfl)).cons (hsl.get 5 _ rfl)).cons (hsl.get 2 _ rfl)⟩⟩ ?_
  clear hsl
  rintro k a' w' ⟨rfl, ⟨rfl, hs⟩ | ⟨rfl, hs⟩ | ⟨rfl, hs⟩⟩
  · refine numOk20 _ n bx g cap _ hbx2 c0 h01 h02 _ hs _ ?_
    intro a4 hs4
    exact ⟨1, by omega, rfl, .inr (.inl ⟨rfl, hs4⟩)⟩
  · refine numOk21 _ n bx g cap _ hbx2 c1 h11 h12 ((a.toNat : Int) - 48) (by omega) (by omega) _ hs _ ?_
    intro a4 hs4
    exact ⟨0, by omega, rfl, .inr (.inr (⟨rfl, hs4⟩))⟩
  refine numEnd2 _ bx g cap _ _ hs _ ?_
  intro a4 hsl
  try simp only [Exit.then, Exit.inBlock, ↓reduceIte, Nat.reduceEqDiff]
  try simp only [Exit.then, Exit.inBlock, ↓reduceIte, Nat.reduceEqDiff]
  refine wp_seq ?_
  have e : regionIn Tryz.f63 11 = Code.region 11 _ false := rfl
  rw [e]; clear e
  refine wp_region ?_
  refine ops_go rfl rfl (fun K hK => ?_)
  have e5 := hsl.get 5 _ rfl
  unfold Oper.wp
  go_simp
  clear e5
  refine hK _ _ ?_; clear hK
  refine hsl.go (by decide) ?_; clear hsl; intro a1 hsl
  refine ops_go rfl rfl (fun K hK => ?_)
  have e50 := hsl.get 50 _ rfl
  unfold Oper.wp
  go_simp
  clear e50
  refine hK _ _ ?_; clear hK
  refine hsl.go (by decide) ?_; clear hsl; intro a1 hsl
  refine ops_done ?_
  try simp only [Exit.then, Exit.inBlock, ↓reduceIte, Nat.reduceEqDiff]
  refine wp_ret ?_
  try simp only [Exit.then, Exit.inBlock, ↓reduceIte, Nat.reduceEqDiff]
  refine bodyPost_ret (v := .int .i64 (10 * ((a.toNat : Int) - 48) + ((b.toNat : Int) - 48))) ?_ hsl.defers ⟨hb2, rfl⟩
  simp [results, Tryz.results63, hsl.get 4 _ rfl]
set_option maxRecDepth 100000 in
theorem numberCLo (w : World) (n : Int) (a b : UInt8) (ha : ((a.toNat : Int) == 48) = false) (hix : (⟨#[a, b]⟩ : ByteArray)[0]'(by show 0 < 2; omega) = a) (h01 : ¬ (a.toNat : Int) < 48) (h02 : ¬ 57 < (a.toNat : Int)) (h11 : (b.toNat : Int) < 48) : Calls Tryz.prog 63 #[.agg #[.int .i64 n], .string ⟨#[a, b]⟩] w (NumPost w n none) := by
  refine calls_of_wp Tryz.func63 num_body ?_
  have hsl : Sl (⟨#[.agg #[.int .i64 n], .string ⟨#[a, b]⟩] ++ Array.replicate (Tryz.f63.ntmps - (#[.agg #[.int .i64 n], .string ⟨#[a, b]⟩] : Array Value).size) undef, []⟩ : Act) 51 [(0, .agg #[.int .i64 n]), (1, .string ⟨#[a, b]⟩)] := by rw [Tryz.ntmps63]; exact Sl.entry2 _ _ (by omega)
  revert hsl; generalize (Act.mk _ _) = a0; intro hsl
  refine wp_seq ?_
  have e : regionIn Tryz.f63 0 = Code.region 0 _ false := rfl
  rw [e]; clear e
  refine wp_region ?_
  refine ops_go rfl rfl (fun K hK => ?_)
  have e0 := hsl.get 0 _ rfl
  unfold Oper.wp
  go_simp
  clear e0
  refine hK _ _ ?_; clear hK
  refine hsl.go (by decide) ?_; clear hsl; intro a1 hsl
  refine alloc_rwB (G := fun W => wpOps _ _ _ _ _ W) ?_
  intro w1 hz1 X1 hb1
  generalize hg1 : w.heap.size = bx at X1 hsl; clear hg1
  have hbx := X1.cell (o := 0) rfl
  refine ops_go rfl rfl (fun K hK => ?_)
  unfold Oper.wp
  go_simp
  refine hK _ _ ?_; clear hK
  refine hsl.go (by decide) ?_; clear hsl; intro a1 hsl
  refine ops_done ?_
  try simp only [Exit.then, Exit.inBlock, ↓reduceIte, Nat.reduceEqDiff]
  refine wp_seq ?_
  refine wp_seq ?_
  have e : regionIn Tryz.f63 1 = Code.region 1 _ false := rfl
  rw [e]; clear e
  refine wp_region ?_
  refine ops_go rfl rfl (fun K hK => ?_)
  have e1 := hsl.get 1 _ rfl
  unfold Oper.wp
  go_simp
  clear e1
  refine hK _ _ ?_; clear hK
  refine hsl.go (by decide) ?_; clear hsl; intro a1 hsl
  refine ops_go rfl rfl (fun K hK => ?_)
  have e8 := hsl.get 8 _ rfl
  unfold Oper.wp
  go_simp
  clear e8
  refine hK _ _ ?_; clear hK
  refine hsl.go (by decide) ?_; clear hsl; intro a1 hsl
  refine ops_go rfl rfl (fun K hK => ?_)
  have e9 := hsl.get 9 _ rfl
  unfold Oper.wp
  go_simp
  clear e9
  refine hK _ _ ?_; clear hK
  refine hsl.go (by decide) ?_; clear hsl; intro a1 hsl
  refine ops_go rfl rfl (fun K hK => ?_)
  have e10 := hsl.get 10 _ rfl
  unfold Oper.wp
  go_simp
  clear e10
  refine hK _ _ ?_; clear hK
  refine hsl.go (by decide) ?_; clear hsl; intro a1 hsl
  refine ops_want rfl rfl rfl rfl (hsl.get 11 _ rfl) (fun K hK => ?_)
  have e1 := hsl.get 1 _ rfl
  unfold Oper.wp
  go_simp
  clear e1
  refine hK _ _ ?_; clear hK
  refine hsl.go (by decide) ?_; clear hsl; intro a1 hsl
  refine ops_want rfl rfl rfl rfl (hsl.get 11 _ rfl) (fun K hK => ?_)
  have e12 := hsl.get 12 _ rfl
  unfold Oper.wp
  go_simp
  clear e12
  refine hK _ _ ?_; clear hK
  refine hsl.go (by decide) ?_; clear hsl; intro a1 hsl
  refine ops_want rfl rfl rfl rfl (hsl.get 11 _ rfl) (fun K hK => ?_)
  have e13 := hsl.get 13 _ rfl
  unfold Oper.wp
  go_simp
  clear e13
  refine hK _ _ ?_; clear hK
  refine hsl.go (by decide) ?_; clear hsl; intro a1 hsl
  refine ops_go rfl rfl (fun K hK => ?_)
  have e11 := hsl.get 11 _ rfl
  have e14 := hsl.get 14 _ rfl
  unfold Oper.wp
  go_simp
  clear e11 e14
  refine hK _ _ ?_; clear hK
  refine hsl.go (by decide) ?_; clear hsl; intro a1 hsl
  refine ops_go rfl rfl (fun K hK => ?_)
  have e15 := hsl.get 15 _ rfl
  unfold Oper.wp
  go_simp
  clear e15
  refine hK _ _ ?_; clear hK
  refine hsl.go (by decide) ?_; clear hsl; intro a1 hsl
  refine ops_want rfl rfl rfl rfl (hsl.get 16 _ rfl) (fun K hK => ?_)
  have e1 := hsl.get 1 _ rfl
  unfold Oper.wp
  go_simp
  clear e1
  refine hK _ _ ?_; clear hK
  refine hsl.go (by decide) ?_; clear hsl; intro a1 hsl
  refine ops_want rfl rfl rfl rfl (hsl.get 16 _ rfl) (fun K hK => ?_)
  have e17 := hsl.get 17 _ rfl
  unfold Oper.wp
  go_simp
  clear e17
  refine hK _ _ ?_; clear hK
  refine hsl.go (by decide) ?_; clear hsl; intro a1 hsl
  refine ops_want rfl rfl rfl rfl (hsl.get 16 _ rfl) (fun K hK => ?_)
  have e18 := hsl.get 18 _ rfl
  unfold Oper.wp
  go_simp
  clear e18
  refine hK _ _ ?_; clear hK
  refine hsl.go (by decide) ?_; clear hsl; intro a1 hsl
  refine ops_want rfl rfl rfl rfl (hsl.get 16 _ rfl) (fun K hK => ?_)
  have e19 := hsl.get 19 _ rfl
  unfold Oper.wp
  go_simp
  clear e19
  refine hK _ _ ?_; clear hK
  refine hsl.go (by decide) ?_; clear hsl; intro a1 hsl
  refine ops_want rfl rfl rfl rfl (hsl.get 20 _ rfl) (fun K hK => ?_)
  have e1 := hsl.get 1 _ rfl
  unfold Oper.wp
  go_simp
  clear e1
  refine hK _ _ ?_; clear hK
  refine hsl.go (by decide) ?_; clear hsl; intro a1 hsl
  refine ops_want rfl rfl rfl rfl (hsl.get 20 _ rfl) (fun K hK => ?_)
  have e21 := hsl.get 21 _ rfl
  unfold Oper.wp
  go_simp
  clear e21
  refine hK _ _ ?_; clear hK
  refine hsl.go (by decide) ?_; clear hsl; intro a1 hsl
  refine ops_want rfl rfl rfl rfl (hsl.get 20 _ rfl) (fun K hK => ?_)
  have e22 := hsl.get 22 _ rfl
  unfold Oper.wp
  go_simp
  clear e22
  refine hK _ _ ?_; clear hK
  refine hsl.go (by decide) ?_; clear hsl; intro a1 hsl
  refine ops_want rfl rfl rfl rfl (hsl.get 16 _ rfl) (fun K hK => ?_)
  have e20 := hsl.get 20 _ rfl
  have e23 := hsl.get 23 _ rfl
  unfold Oper.wp
  go_simp
  clear e20 e23
  refine hK _ _ ?_; clear hK
  refine hsl.go (by decide) ?_; clear hsl; intro a1 hsl
  refine ops_go rfl rfl (fun K hK => ?_)
  have e16 := hsl.get 16 _ rfl
  have e24 := hsl.get 24 _ rfl
  unfold Oper.wp
  go_simp
  clear e16 e24
  refine hK _ _ ?_; clear hK
  refine hsl.go (by decide) ?_; clear hsl; intro a1 hsl
  refine ops_done ?_
  try simp only [Exit.then, Exit.inBlock, ↓reduceIte, Nat.reduceEqDiff]
  refine wp_cond_false (hsl.ev 25 rfl) ?_
  refine wp_skip ?_
  try simp only [Exit.then, Exit.inBlock, ↓reduceIte, Nat.reduceEqDiff]
  refine wp_seq ?_
  have e : regionIn Tryz.f63 3 = Code.region 3 _ false := rfl
  rw [e]; clear e
  refine wp_region ?_
  refine ops_go rfl rfl (fun K hK => ?_)
  unfold Oper.wp
  go_simp
  refine hK _ _ ?_; clear hK
  refine hsl.go (by decide) ?_; clear hsl; intro a1 hsl
  refine ops_done ?_
  try simp only [Exit.then, Exit.inBlock, ↓reduceIte, Nat.reduceEqDiff]
  refine wp_seq ?_
  refine wp_seq ?_
  have e : regionIn Tryz.f63 4 = Code.region 4 _ false := rfl
  rw [e]; clear e
  refine wp_region ?_
  refine ops_go rfl rfl (fun K hK => ?_)
  have e1 := hsl.get 1 _ rfl
  unfold Oper.wp
  go_simp
  clear e1
  refine hK _ _ ?_; clear hK
  refine hsl.go (by decide) ?_; clear hsl; intro a1 hsl
  refine ops_go rfl rfl (fun K hK => ?_)
  have e28 := hsl.get 28 _ rfl
  have hcv := Lib.run_convert_string_bytes (P := Tryz.prog) w1 9 70 5 ⟨#[a, b]⟩ Tryz.underlying9 Tryz.underlying70 Tryz.underlying5
  unfold Oper.wp
  go_simp
  clear e28
  refine hK _ _ ?_; clear hK
  refine hsl.go (by decide) ?_; clear hsl; intro a1 hsl
  clear hcv
  have hb2 := bytes_below w1 5 ⟨#[a, b]⟩
  have hbx2 := (X1.below hb2).cell (o := 0) rfl
  have c0 : (Lib.bytesWorld w1 5 ⟨#[a, b]⟩).cell? ⟨w1.heap.size, 0, none⟩ = some (.int .u8 (a.toNat : Int)) := Lib.bytesWorld_cell w1 5 ⟨#[a, b]⟩ 0 (by show 0 < 2; omega)
  have c1 : (Lib.bytesWorld w1 5 ⟨#[a, b]⟩).cell? ⟨w1.heap.size, 1, none⟩ = some (.int .u8 (b.toNat : Int)) := Lib.bytesWorld_cell w1 5 ⟨#[a, b]⟩ 1 (by show 1 < 2; omega)
  replace hb2 := hb1.trans (hb2.mono hb1.size)
  generalize Lib.bytesWorld w1 5 ⟨#[a, b]⟩ = w2 at hb2 hbx2 c0 c1 ⊢
  generalize grownCap w1 _ 0 5 = cap at hsl
  generalize w1.heap.size = g at hsl c0 c1
  refine ops_go rfl rfl (fun K hK => ?_)
  have e29 := hsl.get 29 _ rfl
  unfold Oper.wp
  go_simp
  clear e29
  refine hK _ _ ?_; clear hK
  refine hsl.go (by decide) ?_; clear hsl; intro a1 hsl
  refine ops_go rfl rfl (fun K hK => ?_)
  unfold Oper.wp
  go_simp
  refine hK _ _ ?_; clear hK
  refine hsl.go (by decide) ?_; clear hsl; intro a1 hsl
  refine ops_done ?_
  try simp only [Exit.then, Exit.inBlock, ↓reduceIte, Nat.reduceEqDiff]
  refine wp_block ?_
  refine wp_loop_ghost (fun k a' w' => w' = w2 ∧ ((k = 1 ∧ Sl a' 51 [(2, .pointer (some ⟨bx, 0, none⟩)), (5, .int .i64 0), (29, .slice (some ⟨g, 0, none⟩) 2 cap), (30, .int .i64 2), (31, .int .i64 0)]) ∨ (k = 0 ∧ Sl a' 51 [(2, .pointer (some ⟨bx, 0, none⟩)), (5, .int .i64 ((a.toNat : Int) - 48)), (29, .slice (some ⟨g, 0, none⟩) 2 cap), (30, .int .i64 2), (31, .int .i64 1)]))) 1 ⟨rfl, .inl ⟨rfl, ((((hsl.nil.cons (hsl.get 31 _ rfl)).cons (hsl.get 30 _ rfl)).cons (hsl.get 29 _ rfl)).cons (hsl.get 5 _ rfl)).cons (hsl.get 2 _ rfl)⟩⟩ ?_
  clear hsl
  rintro k a' w' ⟨rfl, ⟨rfl, hs⟩ | ⟨rfl, hs⟩⟩
  · refine numOk20 _ n bx g cap _ hbx2 c0 h01 h02 _ hs _ ?_
    intro a4 hs4
    exact ⟨0, by omega, rfl, .inr (⟨rfl, hs4⟩)⟩
  refine numLo21 _ n bx g cap _ hbx2 c1 h11 ((a.toNat : Int) - 48) (by omega) (by omega) _ hs _ ?_
  intro a4 hsl
  try simp only [Exit.then, Exit.inBlock, ↓reduceIte, Nat.reduceEqDiff]
  exact ⟨hsl.defers, hb2, rfl⟩
set_option maxRecDepth 100000 in
theorem numberCHi (w : World) (n : Int) (a b : UInt8) (ha : ((a.toNat : Int) == 48) = false) (hix : (⟨#[a, b]⟩ : ByteArray)[0]'(by show 0 < 2; omega) = a) (h01 : ¬ (a.toNat : Int) < 48) (h02 : ¬ 57 < (a.toNat : Int)) (h11 : ¬ (b.toNat : Int) < 48) (h12 : 57 < (b.toNat : Int)) : Calls Tryz.prog 63 #[.agg #[.int .i64 n], .string ⟨#[a, b]⟩] w (NumPost w n none) := by
  refine calls_of_wp Tryz.func63 num_body ?_
  have hsl : Sl (⟨#[.agg #[.int .i64 n], .string ⟨#[a, b]⟩] ++ Array.replicate (Tryz.f63.ntmps - (#[.agg #[.int .i64 n], .string ⟨#[a, b]⟩] : Array Value).size) undef, []⟩ : Act) 51 [(0, .agg #[.int .i64 n]), (1, .string ⟨#[a, b]⟩)] := by rw [Tryz.ntmps63]; exact Sl.entry2 _ _ (by omega)
  revert hsl; generalize (Act.mk _ _) = a0; intro hsl
  refine wp_seq ?_
  have e : regionIn Tryz.f63 0 = Code.region 0 _ false := rfl
  rw [e]; clear e
  refine wp_region ?_
  refine ops_go rfl rfl (fun K hK => ?_)
  have e0 := hsl.get 0 _ rfl
  unfold Oper.wp
  go_simp
  clear e0
  refine hK _ _ ?_; clear hK
  refine hsl.go (by decide) ?_; clear hsl; intro a1 hsl
  refine alloc_rwB (G := fun W => wpOps _ _ _ _ _ W) ?_
  intro w1 hz1 X1 hb1
  generalize hg1 : w.heap.size = bx at X1 hsl; clear hg1
  have hbx := X1.cell (o := 0) rfl
  refine ops_go rfl rfl (fun K hK => ?_)
  unfold Oper.wp
  go_simp
  refine hK _ _ ?_; clear hK
  refine hsl.go (by decide) ?_; clear hsl; intro a1 hsl
  refine ops_done ?_
  try simp only [Exit.then, Exit.inBlock, ↓reduceIte, Nat.reduceEqDiff]
  refine wp_seq ?_
  refine wp_seq ?_
  have e : regionIn Tryz.f63 1 = Code.region 1 _ false := rfl
  rw [e]; clear e
  refine wp_region ?_
  refine ops_go rfl rfl (fun K hK => ?_)
  have e1 := hsl.get 1 _ rfl
  unfold Oper.wp
  go_simp
  clear e1
  refine hK _ _ ?_; clear hK
  refine hsl.go (by decide) ?_; clear hsl; intro a1 hsl
  refine ops_go rfl rfl (fun K hK => ?_)
  have e8 := hsl.get 8 _ rfl
  unfold Oper.wp
  go_simp
  clear e8
  refine hK _ _ ?_; clear hK
  refine hsl.go (by decide) ?_; clear hsl; intro a1 hsl
  refine ops_go rfl rfl (fun K hK => ?_)
  have e9 := hsl.get 9 _ rfl
  unfold Oper.wp
  go_simp
  clear e9
  refine hK _ _ ?_; clear hK
  refine hsl.go (by decide) ?_; clear hsl; intro a1 hsl
  refine ops_go rfl rfl (fun K hK => ?_)
  have e10 := hsl.get 10 _ rfl
  unfold Oper.wp
  go_simp
  clear e10
  refine hK _ _ ?_; clear hK
  refine hsl.go (by decide) ?_; clear hsl; intro a1 hsl
  refine ops_want rfl rfl rfl rfl (hsl.get 11 _ rfl) (fun K hK => ?_)
  have e1 := hsl.get 1 _ rfl
  unfold Oper.wp
  go_simp
  clear e1
  refine hK _ _ ?_; clear hK
  refine hsl.go (by decide) ?_; clear hsl; intro a1 hsl
  refine ops_want rfl rfl rfl rfl (hsl.get 11 _ rfl) (fun K hK => ?_)
  have e12 := hsl.get 12 _ rfl
  unfold Oper.wp
  go_simp
  clear e12
  refine hK _ _ ?_; clear hK
  refine hsl.go (by decide) ?_; clear hsl; intro a1 hsl
  refine ops_want rfl rfl rfl rfl (hsl.get 11 _ rfl) (fun K hK => ?_)
  have e13 := hsl.get 13 _ rfl
  unfold Oper.wp
  go_simp
  clear e13
  refine hK _ _ ?_; clear hK
  refine hsl.go (by decide) ?_; clear hsl; intro a1 hsl
  refine ops_go rfl rfl (fun K hK => ?_)
  have e11 := hsl.get 11 _ rfl
  have e14 := hsl.get 14 _ rfl
  unfold Oper.wp
  go_simp
  clear e11 e14
  refine hK _ _ ?_; clear hK
  refine hsl.go (by decide) ?_; clear hsl; intro a1 hsl
  refine ops_go rfl rfl (fun K hK => ?_)
  have e15 := hsl.get 15 _ rfl
  unfold Oper.wp
  go_simp
  clear e15
  refine hK _ _ ?_; clear hK
  refine hsl.go (by decide) ?_; clear hsl; intro a1 hsl
  refine ops_want rfl rfl rfl rfl (hsl.get 16 _ rfl) (fun K hK => ?_)
  have e1 := hsl.get 1 _ rfl
  unfold Oper.wp
  go_simp
  clear e1
  refine hK _ _ ?_; clear hK
  refine hsl.go (by decide) ?_; clear hsl; intro a1 hsl
  refine ops_want rfl rfl rfl rfl (hsl.get 16 _ rfl) (fun K hK => ?_)
  have e17 := hsl.get 17 _ rfl
  unfold Oper.wp
  go_simp
  clear e17
  refine hK _ _ ?_; clear hK
  refine hsl.go (by decide) ?_; clear hsl; intro a1 hsl
  refine ops_want rfl rfl rfl rfl (hsl.get 16 _ rfl) (fun K hK => ?_)
  have e18 := hsl.get 18 _ rfl
  unfold Oper.wp
  go_simp
  clear e18
  refine hK _ _ ?_; clear hK
  refine hsl.go (by decide) ?_; clear hsl; intro a1 hsl
  refine ops_want rfl rfl rfl rfl (hsl.get 16 _ rfl) (fun K hK => ?_)
  have e19 := hsl.get 19 _ rfl
  unfold Oper.wp
  go_simp
  clear e19
  refine hK _ _ ?_; clear hK
  refine hsl.go (by decide) ?_; clear hsl; intro a1 hsl
  refine ops_want rfl rfl rfl rfl (hsl.get 20 _ rfl) (fun K hK => ?_)
  have e1 := hsl.get 1 _ rfl
  unfold Oper.wp
  go_simp
  clear e1
  refine hK _ _ ?_; clear hK
  refine hsl.go (by decide) ?_; clear hsl; intro a1 hsl
  refine ops_want rfl rfl rfl rfl (hsl.get 20 _ rfl) (fun K hK => ?_)
  have e21 := hsl.get 21 _ rfl
  unfold Oper.wp
  go_simp
  clear e21
  refine hK _ _ ?_; clear hK
  refine hsl.go (by decide) ?_; clear hsl; intro a1 hsl
  refine ops_want rfl rfl rfl rfl (hsl.get 20 _ rfl) (fun K hK => ?_)
  have e22 := hsl.get 22 _ rfl
  unfold Oper.wp
  go_simp
  clear e22
  refine hK _ _ ?_; clear hK
  refine hsl.go (by decide) ?_; clear hsl; intro a1 hsl
  refine ops_want rfl rfl rfl rfl (hsl.get 16 _ rfl) (fun K hK => ?_)
  have e20 := hsl.get 20 _ rfl
  have e23 := hsl.get 23 _ rfl
  unfold Oper.wp
  go_simp
  clear e20 e23
  refine hK _ _ ?_; clear hK
  refine hsl.go (by decide) ?_; clear hsl; intro a1 hsl
  refine ops_go rfl rfl (fun K hK => ?_)
  have e16 := hsl.get 16 _ rfl
  have e24 := hsl.get 24 _ rfl
  unfold Oper.wp
  go_simp
  clear e16 e24
  refine hK _ _ ?_; clear hK
  refine hsl.go (by decide) ?_; clear hsl; intro a1 hsl
  refine ops_done ?_
  try simp only [Exit.then, Exit.inBlock, ↓reduceIte, Nat.reduceEqDiff]
  refine wp_cond_false (hsl.ev 25 rfl) ?_
  refine wp_skip ?_
  try simp only [Exit.then, Exit.inBlock, ↓reduceIte, Nat.reduceEqDiff]
  refine wp_seq ?_
  have e : regionIn Tryz.f63 3 = Code.region 3 _ false := rfl
  rw [e]; clear e
  refine wp_region ?_
  refine ops_go rfl rfl (fun K hK => ?_)
  unfold Oper.wp
  go_simp
  refine hK _ _ ?_; clear hK
  refine hsl.go (by decide) ?_; clear hsl; intro a1 hsl
  refine ops_done ?_
  try simp only [Exit.then, Exit.inBlock, ↓reduceIte, Nat.reduceEqDiff]
  refine wp_seq ?_
  refine wp_seq ?_
  have e : regionIn Tryz.f63 4 = Code.region 4 _ false := rfl
  rw [e]; clear e
  refine wp_region ?_
  refine ops_go rfl rfl (fun K hK => ?_)
  have e1 := hsl.get 1 _ rfl
  unfold Oper.wp
  go_simp
  clear e1
  refine hK _ _ ?_; clear hK
  refine hsl.go (by decide) ?_; clear hsl; intro a1 hsl
  refine ops_go rfl rfl (fun K hK => ?_)
  have e28 := hsl.get 28 _ rfl
  have hcv := Lib.run_convert_string_bytes (P := Tryz.prog) w1 9 70 5 ⟨#[a, b]⟩ Tryz.underlying9 Tryz.underlying70 Tryz.underlying5
  unfold Oper.wp
  go_simp
  clear e28
  refine hK _ _ ?_; clear hK
  refine hsl.go (by decide) ?_; clear hsl; intro a1 hsl
  clear hcv
  have hb2 := bytes_below w1 5 ⟨#[a, b]⟩
  have hbx2 := (X1.below hb2).cell (o := 0) rfl
  have c0 : (Lib.bytesWorld w1 5 ⟨#[a, b]⟩).cell? ⟨w1.heap.size, 0, none⟩ = some (.int .u8 (a.toNat : Int)) := Lib.bytesWorld_cell w1 5 ⟨#[a, b]⟩ 0 (by show 0 < 2; omega)
  have c1 : (Lib.bytesWorld w1 5 ⟨#[a, b]⟩).cell? ⟨w1.heap.size, 1, none⟩ = some (.int .u8 (b.toNat : Int)) := Lib.bytesWorld_cell w1 5 ⟨#[a, b]⟩ 1 (by show 1 < 2; omega)
  replace hb2 := hb1.trans (hb2.mono hb1.size)
  generalize Lib.bytesWorld w1 5 ⟨#[a, b]⟩ = w2 at hb2 hbx2 c0 c1 ⊢
  generalize grownCap w1 _ 0 5 = cap at hsl
  generalize w1.heap.size = g at hsl c0 c1
  refine ops_go rfl rfl (fun K hK => ?_)
  have e29 := hsl.get 29 _ rfl
  unfold Oper.wp
  go_simp
  clear e29
  refine hK _ _ ?_; clear hK
  refine hsl.go (by decide) ?_; clear hsl; intro a1 hsl
  refine ops_go rfl rfl (fun K hK => ?_)
  unfold Oper.wp
  go_simp
  refine hK _ _ ?_; clear hK
  refine hsl.go (by decide) ?_; clear hsl; intro a1 hsl
  refine ops_done ?_
  try simp only [Exit.then, Exit.inBlock, ↓reduceIte, Nat.reduceEqDiff]
  refine wp_block ?_
  refine wp_loop_ghost (fun k a' w' => w' = w2 ∧ ((k = 1 ∧ Sl a' 51 [(2, .pointer (some ⟨bx, 0, none⟩)), (5, .int .i64 0), (29, .slice (some ⟨g, 0, none⟩) 2 cap), (30, .int .i64 2), (31, .int .i64 0)]) ∨ (k = 0 ∧ Sl a' 51 [(2, .pointer (some ⟨bx, 0, none⟩)), (5, .int .i64 ((a.toNat : Int) - 48)), (29, .slice (some ⟨g, 0, none⟩) 2 cap), (30, .int .i64 2), (31, .int .i64 1)]))) 1 ⟨rfl, .inl ⟨rfl, ((((hsl.nil.cons (hsl.get 31 _ rfl)).cons (hsl.get 30 _ rfl)).cons (hsl.get 29 _ rfl)).cons (hsl.get 5 _ rfl)).cons (hsl.get 2 _ rfl)⟩⟩ ?_
  clear hsl
  rintro k a' w' ⟨rfl, ⟨rfl, hs⟩ | ⟨rfl, hs⟩⟩
  · refine numOk20 _ n bx g cap _ hbx2 c0 h01 h02 _ hs _ ?_
    intro a4 hs4
    exact ⟨0, by omega, rfl, .inr (⟨rfl, hs4⟩)⟩
  refine numHi21 _ n bx g cap _ hbx2 c1 h11 h12 ((a.toNat : Int) - 48) (by omega) (by omega) _ hs _ ?_
  intro a4 hsl
  try simp only [Exit.then, Exit.inBlock, ↓reduceIte, Nat.reduceEqDiff]
  exact ⟨hsl.defers, hb2, rfl⟩
theorem beq_falseI {a b : Int} (h : ¬ a = b) : (a == b) = false := by simpa using h
theorem beq_trueI {a b : Int} (h : a = b) : (a == b) = true := by simpa using h
/-- number: the number that a word is, or the panic that tells of the line. -/
theorem number_any (w : World) (n : Int) (s : List UInt8) : Calls Tryz.prog 63 #[.agg #[.int .i64 n], .string ⟨s.toArray⟩] w (NumPost w n (numV s)) := by
  match s with
  | [] => exact numberE w n _ rfl
  | [a] =>
    by_cases h1 : (a.toNat : Int) < 48
    · have e : numV [a] = none := by rw [numV, if_neg (by omega)]
      rw [e]; exact numberALo w n a h1
    · by_cases h2 : 57 < (a.toNat : Int)
      · have e : numV [a] = none := by rw [numV, if_neg (by omega)]
        rw [e]; exact numberAHi w n a h1 h2
      · have e : numV [a] = some ((a.toNat : Int) - 48) := by rw [numV, if_pos (by omega)]
        rw [e]; exact numberAOk w n a h1 h2
  | [a, b] =>
    by_cases h0 : (a.toNat : Int) = 48
    · have e : numV [a, b] = none := by rw [numV, if_pos (by omega)]
      rw [e]; exact numberZ w n a b (beq_trueI h0) rfl
    · have h0' := beq_falseI h0
      by_cases h1 : (a.toNat : Int) < 48
      · have e : numV [a, b] = none := by rw [numV, if_neg (by omega), if_neg (by omega)]
        rw [e]; exact numberBLo w n a b h0' rfl h1
      · by_cases h2 : 57 < (a.toNat : Int)
        · have e : numV [a, b] = none := by rw [numV, if_neg (by omega), if_neg (by omega)]
          rw [e]; exact numberBHi w n a b h0' rfl h1 h2
        · by_cases h3 : (b.toNat : Int) < 48
          · have e : numV [a, b] = none := by rw [numV, if_neg (by omega), if_neg (by omega)]
            rw [e]; exact numberCLo w n a b h0' rfl h1 h2 h3
          · by_cases h4 : 57 < (b.toNat : Int)
            · have e : numV [a, b] = none := by rw [numV, if_neg (by omega), if_neg (by omega)]
              rw [e]; exact numberCHi w n a b h0' rfl h1 h2 h3 h4
            · have e : numV [a, b] = some (10 * ((a.toNat : Int) - 48) + ((b.toNat : Int) - 48)) := by rw [numV, if_neg (by omega), if_pos (by omega)]
              rw [e]; exact numberCOk w n a b h0' rfl h1 h2 h3 h4
  | a :: b :: c :: l =>
    have e : numV (a :: b :: c :: l) = none := by unfold numV; rfl
    have e2 : (⟨(a :: b :: c :: l).toArray⟩ : ByteArray).size = l.length + 3 := rfl
    rw [e]; exact numberG w n _ (beq_falseI (by rw [e2]; omega)) (by rw [e2]; omega)
end Go.Proofs.YtmkjeonjhedgkaaGreatDoor
