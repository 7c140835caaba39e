/- road.take, line by line. -/
import Derived.Test.YtmkjeonjhedgkaaGreatDoorCatch
import Derived.Test.YtmkjeonjhedgkaaGreatDoorApp
import Derived.Test.YtmkjeonjhedgkaaGreatDoorRoadsOf
namespace Go.Proofs.YtmkjeonjhedgkaaGreatDoor
set_option linter.unusedSimpArgs false
set_option linter.unusedVariables false
open Go.RowKit

/-- What take has in memory: its two results, the lines. -/
structure TJ (w0 x : World) (B br bb g : Nat) (C cr : Array Value) : Prop where
  below : Below w0.heap.size w0 x
  m0 : MaxOk w0
  kr : Rw x br cr 24
  kb : Rw x bb #[.int .i64 0] 3
  kg : Rw x g C 9
  ord : w0.heap.size ≤ br ∧ br < bb ∧ bb < B ∧ g < w0.heap.size ∧ B ≤ x.heap.size
theorem Rw.belowB {w w' : World} {b B : Nat} {c : Array Value} {t : TypeId} (h : Rw w b c t) (hb : Below B w w') (hlt : b < B) : Rw w' b c t := (hb.block b hlt).trans h
section
variable {w0 x : World} {B br bb g : Nat} {C cr : Array Value}
theorem TJ.mx (h : TJ w0 x B br bb g C cr) : MaxOk x := h.m0.below h.below
theorem TJ.keepB (h : TJ w0 x B br bb g C cr) {x2 : World} (hb : Below B x x2) : TJ w0 x2 B br bb g C cr := by
  obtain ⟨h1, h2, h3, h4, h5, o⟩ := h
  exact ⟨h1.trans (hb.mono (by omega)), h2, h3.belowB hb (by omega), h4.belowB hb (by omega), h5.belowB hb (by omega), by have := hb.size; omega⟩
theorem TJ.keep (h : TJ w0 x B br bb g C cr) {x2 : World} (hb : Below x.heap.size x x2) : TJ w0 x2 B br bb g C cr := h.keepB (hb.mono h.ord.2.2.2.2)
theorem TJ.drew (h : TJ w0 x B br bb g C cr) : TJ w0 x.drew B br bb g C cr := h.keep (Below.refl _ _).drew
theorem TJ.set (h : TJ w0 x B br bb g C cr) (k : Nat) (v : Value) : TJ w0 (x.setCell ⟨br, k, none⟩ v) B br bb g C (cr.setIfInBounds k v) := by
  obtain ⟨h1, h2, h3, h4, h5, o⟩ := h
  exact ⟨h1.setCell (p := ⟨br, k, none⟩) (show w0.heap.size ≤ br by omega) _, h2, h3.set _ _, h4.far (by omega) _ _, h5.far (by omega) _ _, by simp [World.setCell]; omega⟩
theorem TJ.set0 (h : TJ w0 x B br bb g C cr) : TJ w0 (x.setCell ⟨bb, 0, none⟩ (.int .i64 0)) B br bb g C cr := by
  obtain ⟨h1, h2, h3, h4, h5, o⟩ := h
  exact ⟨h1.setCell (p := ⟨bb, 0, none⟩) (show w0.heap.size ≤ bb by omega) _, h2, h3.far (by omega) _ _, h4.set 0 _, h5.far (by omega) _ _, by simp [World.setCell]; omega⟩
theorem OwnStrips.below {v : Value} {l : List Strip} (h : OwnStrips x B v l) {x2 : World} (hb : Below x.heap.size x x2) : OwnStrips x2 B v l := h.keep fun b hv => hb.block b (h.at_block hv).2
theorem OwnStrips.setR {v : Value} {l : List Strip} (h : OwnStrips x B v l) (o : br < B) (k : Nat) (u : Value) : OwnStrips (x.setCell ⟨br, k, none⟩ u) B v l := h.keep fun b hb => Below.heap_setCell _ _ _ _ (by have := (h.at_block hb).1; show b ≠ br; omega)
end
theorem strip_own1 {w : World} {g : Nat} {s : Strip} {t : TypeId} (h : Rw w g #[.int .i64 s.A, .int .i64 s.B, .int .i64 s.L, .int .i64 s.W, .int .i64 s.K, .int .i64 s.X, .int .i64 s.Y] t) : StripsAt w (some ⟨g, 0, none⟩) [s] := .inr ⟨g, 0, rfl, fun i hi => by
  obtain rfl : i = 0 := by simpa using hi
  exact ⟨h.cell rfl, h.cell rfl, h.cell rfl, h.cell rfl, h.cell rfl, h.cell rfl, h.cell rfl⟩⟩
theorem StripPost.get {w w' : World} {n : Int} {o : Option Strip} {e : Ending} (h : StripPost w n o e w') : Below w.heap.size w w' ∧ ((∃ s, o = some s ∧ e = .returned s.val) ∨ (o = none ∧ e = .panicked (wrongP n))) := by
  obtain ⟨h1, h2⟩ := h
  cases o with
  | none => exact ⟨h1, .inr ⟨rfl, h2⟩⟩
  | some v => exact ⟨h1, .inl ⟨v, rfl, h2⟩⟩
theorem wrap_small {z : Int} (h0 : 0 ≤ z) (h1 : z < 1000) : IntKind.i64.wrap z = z := by
  rw [IntKind.wrap_i64]; omega
set_option maxRecDepth 100000 in
set_option maxHeartbeats 4000000 in
theorem tk0N (w0 w : World) (B br bb g m : Nat) (C : Array Value) (dq : List Deferred) (oo : Nat ⊕ Roads) (l : List UInt8)  (hk5 : (((splitC 32 l).length : Int) != 5) = true) (hoo : oo = .inl 1) (hm0 : 0 < m) (hm1 : m < 900) (hl : l.length < 4294967281) (hC : C[0]? = some (.string ⟨l.toArray⟩)) (I0 : TJ w0 w B br bb g C (#[.int .i64 0, .int .i64 0, .slice none 0 0])) (a0 : Act) (hsl : SlD a0 97 dq [(0, .slice (some ⟨g, 0, none⟩) (m + 1) (m + 1)), (2, .pointer (some ⟨br, 0, none⟩)), (3, .pointer (some ⟨bb, 0, none⟩)), (4, .int .i64 (m : Int)), (15, .slice (some ⟨g, 0, none⟩) m (m + 1)), (16, .int .i64 (m : Int)), (17, .int .i64 0)]) (Q : Exit → Act → World → Prop) (hpan : ∀ (k : Nat) a x c0 c1 c2, oo = .inl k → SlD a 97 dq [(2, .pointer (some ⟨br, 0, none⟩)), (3, .pointer (some ⟨bb, 0, none⟩))] → TJ w0 x B br bb g C (#[c0, c1, c2]) → Q (.panic (wrongP (k : Int))) a x) : (Code.seq (regionIn Tryz.f35 4) (Code.seq (Code.cond (Operand.tmp 18) Code.skip (Code.exit 0)) (Code.seq (Code.block 1 (Code.seq (regionIn Tryz.f35 5) (Code.seq (regionIn Tryz.f35 6) (Code.seq (regionIn Tryz.f35 7) (Code.block 2 (Code.seq (regionIn Tryz.f35 9) (Code.cond (Operand.tmp 35) (Code.seq (Code.seq (regionIn Tryz.f35 10) (Code.cond (Operand.tmp 58) (regionIn Tryz.f35 11) Code.skip)) (regionIn Tryz.f35 12)) (Code.seq (regionIn Tryz.f35 13) (Code.cond (Operand.tmp 73) (Code.seq (Code.seq (regionIn Tryz.f35 14) (Code.cond (Operand.tmp 86) (regionIn Tryz.f35 15) Code.skip)) (Code.seq (regionIn Tryz.f35 16) Code.ret)) (regionIn Tryz.f35 8)))))))))) (regionIn Tryz.f35 17)))).wp Tryz.prog Q a0 w := by
  have hcl := I0.kg.cell hC
  have hw1 : IntKind.i64.wrap 1 = 1 := by decide
  refine wp_seq ?_
  have e : regionIn Tryz.f35 4 = Code.region 4 _ false := rfl
  rw [e]; clear e
  refine wp_region ?_
  refine ops_go rfl rfl (fun K hK => ?_)
  have e16 := hsl.get 16 _ rfl
  have e17 := hsl.get 17 _ rfl
  unfold Oper.wp
  go_simp
  clear e16 e17
  refine hK _ _ ?_; clear hK
  refine hsl.go (by decide) ?_; clear hsl; intro a1 hsl
  refine ops_done ?_
  try simp only [Exit.then, Exit.inBlock, ↓reduceIte, Nat.reduceEqDiff]
  refine wp_seq ?_
  refine wp_cond_true (hsl.ev 18 rfl) ?_
  refine wp_skip ?_
  try simp only [Exit.then, Exit.inBlock, ↓reduceIte, Nat.reduceEqDiff]
  refine wp_seq ?_
  refine wp_block ?_
  refine wp_seq ?_
  have e : regionIn Tryz.f35 5 = Code.region 5 _ false := rfl
  rw [e]; clear e
  refine wp_region ?_
  refine ops_go rfl rfl (fun K hK => ?_)
  have e17 := hsl.get 17 _ rfl
  unfold Oper.wp
  go_simp
  clear e17
  refine hK _ _ ?_; clear hK
  refine hsl.go (by decide) ?_; clear hsl; intro a1 hsl
  refine ops_go rfl rfl (fun K hK => ?_)
  have e15 := hsl.get 15 _ rfl
  have e17 := hsl.get 17 _ rfl
  unfold Oper.wp
  go_simp
  clear e15 e17
  refine hK _ _ ?_; clear hK
  refine hsl.go (by decide) ?_; clear hsl; intro a1 hsl
  refine ops_go rfl rfl (fun K hK => ?_)
  have e20 := hsl.get 20 _ rfl
  unfold Oper.wp
  go_simp
  clear e20
  refine hK _ _ ?_; clear hK
  refine hsl.go (by decide) ?_; clear hsl; intro a1 hsl
  refine ops_go rfl rfl (fun K hK => ?_)
  have e19 := hsl.get 19 _ rfl
  unfold Oper.wp
  go_simp
  clear e19
  refine hK _ _ ?_; clear hK
  refine hsl.go (by decide) ?_; clear hsl; intro a1 hsl
  refine ops_go rfl rfl (fun K hK => ?_)
  have e21 := hsl.get 21 _ rfl
  unfold Oper.wp
  go_simp
  clear e21
  refine hK _ _ ?_; clear hK
  refine hsl.go (by decide) ?_; clear hsl; intro a1 hsl
  refine ops_done ?_
  try simp only [Exit.then, Exit.inBlock, ↓reduceIte, Nat.reduceEqDiff]
  refine wp_seq ?_
  have e : regionIn Tryz.f35 6 = Code.region 6 _ false := rfl
  rw [e]; clear e
  refine wp_region ?_
  refine ops_go rfl rfl (fun K hK => ?_)
  have e5 := hsl.get 5 _ rfl
  unfold Oper.wp
  go_simp
  clear e5
  refine hK _ _ ?_; clear hK
  refine hsl.go (by decide) ?_; clear hsl; intro a1 hsl
  refine ops_go rfl rfl (fun K hK => ?_)
  have e22 := hsl.get 22 _ rfl
  unfold Oper.wp
  go_simp
  clear e22
  refine hK _ _ ?_; clear hK
  refine hsl.go (by decide) ?_; clear hsl; intro a1 hsl
  refine ops_go rfl rfl (fun K hK => ?_)
  have e23 := hsl.get 23 _ rfl
  unfold Oper.wp
  go_simp
  clear e23
  refine hK _ _ ?_; clear hK
  refine hsl.go (by decide) ?_; clear hsl; intro a1 hsl
  refine ops_go rfl rfl (fun K hK => ?_)
  have hwB := I0.ord.2.2.2.2
  unfold Oper.wp
  go_simp
  refine hK _ _ ?_; clear hK
  refine hsl.go (by decide) ?_; clear hsl; intro a1 hsl
  refine alloc_rwB (G := fun W => wpOps _ _ _ _ _ W) ?_
  intro w1 hz1 XW hb
  clear hz1
  generalize hg1 : w.heap.size = bw at XW hsl; have hbw : B ≤ bw := by omega
  clear hg1
  replace I0 := I0.keep hb
  clear hb
  refine ops_go rfl rfl (fun K hK => ?_)
  have e7 := hsl.get 7 _ rfl
  have e24 := hsl.get 24 _ rfl
  have y0 := XW.cell (o := 0) rfl
  have f0 := XW.fz 0
  unfold Oper.wp
  go_simp
  clear e7 e24
  refine hK _ _ ?_; clear hK
  clear y0 f0
  replace XW := XW.set 0 (.int .i64 1)
  replace XW : Rw _ bw #[.int .i64 1] 116 := XW
  have hbB : Below B w1 (w1.setCell ⟨bw, 0, none⟩ (.int .i64 1)) := (Below.refl _ _).setCell (p := ⟨bw, 0, none⟩) hbw _
  replace I0 := I0.keepB hbB
  generalize (World.setCell _ _ _) = w2 at XW I0  ⊢; clear hbB
  refine ops_done ?_
  try simp only [Exit.then, Exit.inBlock, ↓reduceIte, Nat.reduceEqDiff]
  refine wp_seq ?_
  have e : regionIn Tryz.f35 7 = Code.region 7 _ false := rfl
  rw [e]; clear e
  refine wp_region ?_
  refine ops_go rfl rfl (fun K hK => ?_)
  have e6 := hsl.get 6 _ rfl
  unfold Oper.wp
  go_simp
  clear e6
  refine hK _ _ ?_; clear hK
  refine hsl.go (by decide) ?_; clear hsl; intro a1 hsl
  refine ops_go rfl rfl (fun K hK => ?_)
  have e25 := hsl.get 25 _ rfl
  unfold Oper.wp
  go_simp
  have hB2 := I0.ord.2.2.2.2
  refine (split_any _ 32 l I0.mx hl).mono ?_
  rintro e w3 ⟨gw, hgw, rfl, XG, hb⟩
  replace I0 := I0.keep hb; replace XW := XW.below hb
  generalize (splitC 32 l).length = len at hk5 ⊢
  clear hb
  clear hcl
  clear e25
  refine hK _ _ ?_; clear hK
  refine hsl.go (by decide) ?_; clear hsl; intro a1 hsl
  refine ops_go rfl rfl (fun K hK => ?_)
  have e26 := hsl.get 26 _ rfl
  unfold Oper.wp
  go_simp
  clear e26
  refine hK _ _ ?_; clear hK
  refine hsl.go (by decide) ?_; clear hsl; intro a1 hsl
  refine ops_done ?_
  try simp only [Exit.then, Exit.inBlock, ↓reduceIte, Nat.reduceEqDiff]
  refine wp_block ?_
  refine wp_seq ?_
  have e : regionIn Tryz.f35 9 = Code.region 9 _ false := rfl
  rw [e]; clear e
  refine wp_region ?_
  refine ops_go rfl rfl (fun K hK => ?_)
  have e5 := hsl.get 5 _ rfl
  unfold Oper.wp
  go_simp
  clear e5
  refine hK _ _ ?_; clear hK
  refine hsl.go (by decide) ?_; clear hsl; intro a1 hsl
  refine ops_go rfl rfl (fun K hK => ?_)
  have e36 := hsl.get 36 _ rfl
  unfold Oper.wp
  go_simp
  clear e36
  refine hK _ _ ?_; clear hK
  refine hsl.go (by decide) ?_; clear hsl; intro a1 hsl
  refine ops_go rfl rfl (fun K hK => ?_)
  have e37 := hsl.get 37 _ rfl
  unfold Oper.wp
  go_simp
  clear e37
  refine hK _ _ ?_; clear hK
  refine hsl.go (by decide) ?_; clear hsl; intro a1 hsl
  refine ops_done ?_
  try simp only [Exit.then, Exit.inBlock, ↓reduceIte, Nat.reduceEqDiff]
  refine wp_cond_true (hsl.ev 35 rfl) ?_
  refine wp_seq ?_
  refine wp_seq ?_
  have e : regionIn Tryz.f35 10 = Code.region 10 _ false := rfl
  rw [e]; clear e
  refine wp_region ?_
  refine ops_go rfl rfl (fun K hK => ?_)
  have e8 := hsl.get 8 _ rfl
  unfold Oper.wp
  go_simp
  clear e8
  refine hK _ _ ?_; clear hK
  refine hsl.go (by decide) ?_; clear hsl; intro a1 hsl
  refine ops_go rfl rfl (fun K hK => ?_)
  have e38 := hsl.get 38 _ rfl
  unfold Oper.wp
  go_simp
  clear e38
  refine hK _ _ ?_; clear hK
  refine hsl.go (by decide) ?_; clear hsl; intro a1 hsl
  refine ops_go rfl rfl (fun K hK => ?_)
  have e39 := hsl.get 39 _ rfl
  unfold Oper.wp
  go_simp
  clear e39
  refine hK _ _ ?_; clear hK
  refine hsl.go (by decide) ?_; clear hsl; intro a1 hsl
  refine ops_go rfl rfl (fun K hK => ?_)
  have e40 := hsl.get 40 _ rfl
  unfold Oper.wp
  go_simp
  clear e40
  refine hK _ _ ?_; clear hK
  refine hsl.go (by decide) ?_; clear hsl; intro a1 hsl
  refine ops_skip rfl rfl rfl rfl (hsl.get 41 _ rfl) (by decide) ?_
  refine hsl.go (by decide) ?_; clear hsl; intro a1 hsl
  refine ops_skip rfl rfl rfl rfl (hsl.get 41 _ rfl) (by decide) ?_
  refine hsl.go (by decide) ?_; clear hsl; intro a1 hsl
  refine ops_skip rfl rfl rfl rfl (hsl.get 41 _ rfl) (by decide) ?_
  refine hsl.go (by decide) ?_; clear hsl; intro a1 hsl
  refine ops_skip rfl rfl rfl rfl (hsl.get 41 _ rfl) (by decide) ?_
  refine hsl.go (by decide) ?_; clear hsl; intro a1 hsl
  refine ops_go rfl rfl (fun K hK => ?_)
  have e41 := hsl.get 41 _ rfl
  have e45 := hsl.get 45 _ rfl
  unfold Oper.wp
  go_simp
  clear e41 e45
  refine hK _ _ ?_; clear hK
  refine hsl.go (by decide) ?_; clear hsl; intro a1 hsl
  refine ops_go rfl rfl (fun K hK => ?_)
  have e46 := hsl.get 46 _ rfl
  unfold Oper.wp
  go_simp
  clear e46
  refine hK _ _ ?_; clear hK
  refine hsl.go (by decide) ?_; clear hsl; intro a1 hsl
  refine ops_skip rfl rfl rfl rfl (hsl.get 47 _ rfl) (by decide) ?_
  refine hsl.go (by decide) ?_; clear hsl; intro a1 hsl
  refine ops_skip rfl rfl rfl rfl (hsl.get 47 _ rfl) (by decide) ?_
  refine hsl.go (by decide) ?_; clear hsl; intro a1 hsl
  refine ops_skip rfl rfl rfl rfl (hsl.get 47 _ rfl) (by decide) ?_
  refine hsl.go (by decide) ?_; clear hsl; intro a1 hsl
  refine ops_skip rfl rfl rfl rfl (hsl.get 47 _ rfl) (by decide) ?_
  refine hsl.go (by decide) ?_; clear hsl; intro a1 hsl
  refine ops_go rfl rfl (fun K hK => ?_)
  have e47 := hsl.get 47 _ rfl
  have e51 := hsl.get 51 _ rfl
  unfold Oper.wp
  go_simp
  clear e47 e51
  refine hK _ _ ?_; clear hK
  refine hsl.go (by decide) ?_; clear hsl; intro a1 hsl
  refine ops_go rfl rfl (fun K hK => ?_)
  have e52 := hsl.get 52 _ rfl
  unfold Oper.wp
  go_simp
  clear e52
  refine hK _ _ ?_; clear hK
  refine hsl.go (by decide) ?_; clear hsl; intro a1 hsl
  refine ops_skip rfl rfl rfl rfl (hsl.get 53 _ rfl) (by decide) ?_
  refine hsl.go (by decide) ?_; clear hsl; intro a1 hsl
  refine ops_skip rfl rfl rfl rfl (hsl.get 53 _ rfl) (by decide) ?_
  refine hsl.go (by decide) ?_; clear hsl; intro a1 hsl
  refine ops_skip rfl rfl rfl rfl (hsl.get 53 _ rfl) (by decide) ?_
  refine hsl.go (by decide) ?_; clear hsl; intro a1 hsl
  refine ops_skip rfl rfl rfl rfl (hsl.get 53 _ rfl) (by decide) ?_
  refine hsl.go (by decide) ?_; clear hsl; intro a1 hsl
  refine ops_go rfl rfl (fun K hK => ?_)
  have e53 := hsl.get 53 _ rfl
  have e57 := hsl.get 57 _ rfl
  unfold Oper.wp
  go_simp
  clear e53 e57
  refine hK _ _ ?_; clear hK
  refine hsl.go (by decide) ?_; clear hsl; intro a1 hsl
  refine ops_done ?_
  try simp only [Exit.then, Exit.inBlock, ↓reduceIte, Nat.reduceEqDiff]
  refine wp_cond_true (hsl.ev 58 rfl) ?_
  have e : regionIn Tryz.f35 11 = Code.region 11 _ false := rfl
  rw [e]; clear e
  refine wp_region ?_
  refine ops_go rfl rfl (fun K hK => ?_)
  have e7 := hsl.get 7 _ rfl
  have hbx := XW.cell (o := 0) rfl
  unfold Oper.wp
  go_simp
  clear e7
  refine hK _ _ ?_; clear hK
  refine hsl.go (by decide) ?_; clear hsl; intro a1 hsl
  refine ops_go rfl rfl (fun K hK => ?_)
  have e59 := hsl.get 59 _ rfl
  unfold Oper.wp
  go_simp
  clear e59
  refine hK _ _ ?_; clear hK
  refine hsl.go (by decide) ?_; clear hsl; intro a1 hsl
  refine ops_go rfl rfl (fun K hK => ?_)
  have e60 := hsl.get 60 _ rfl
  unfold Oper.wp
  go_simp
  clear e60
  try simp only [Exit.then, Exit.inBlock, ↓reduceIte, Nat.reduceEqDiff]
  exact hpan 1 _ _ _ _ _ hoo ((hsl.nil.cons (hsl.get 3 _ rfl)).cons (hsl.get 2 _ rfl)) I0
set_option maxRecDepth 100000 in
set_option maxHeartbeats 4000000 in
theorem tk0a (w0 w : World) (B br bb g m : Nat) (C : Array Value) (dq : List Deferred) (oo : Nat ⊕ Roads) (l : List UInt8)  (p0 p1 p2 p3 p4 : List UInt8) (hws : splitC 32 l = [p0, p1, p2, p3, p4]) (ha : ¬ p0 = wRoads) (hoo : oo = .inl 1) (hm0 : 0 < m) (hm1 : m < 900) (hl : l.length < 4294967281) (hC : C[0]? = some (.string ⟨l.toArray⟩)) (I0 : TJ w0 w B br bb g C (#[.int .i64 0, .int .i64 0, .slice none 0 0])) (a0 : Act) (hsl : SlD a0 97 dq [(0, .slice (some ⟨g, 0, none⟩) (m + 1) (m + 1)), (2, .pointer (some ⟨br, 0, none⟩)), (3, .pointer (some ⟨bb, 0, none⟩)), (4, .int .i64 (m : Int)), (15, .slice (some ⟨g, 0, none⟩) m (m + 1)), (16, .int .i64 (m : Int)), (17, .int .i64 0)]) (Q : Exit → Act → World → Prop) (hpan : ∀ (k : Nat) a x c0 c1 c2, oo = .inl k → SlD a 97 dq [(2, .pointer (some ⟨br, 0, none⟩)), (3, .pointer (some ⟨bb, 0, none⟩))] → TJ w0 x B br bb g C (#[c0, c1, c2]) → Q (.panic (wrongP (k : Int))) a x) : (Code.seq (regionIn Tryz.f35 4) (Code.seq (Code.cond (Operand.tmp 18) Code.skip (Code.exit 0)) (Code.seq (Code.block 1 (Code.seq (regionIn Tryz.f35 5) (Code.seq (regionIn Tryz.f35 6) (Code.seq (regionIn Tryz.f35 7) (Code.block 2 (Code.seq (regionIn Tryz.f35 9) (Code.cond (Operand.tmp 35) (Code.seq (Code.seq (regionIn Tryz.f35 10) (Code.cond (Operand.tmp 58) (regionIn Tryz.f35 11) Code.skip)) (regionIn Tryz.f35 12)) (Code.seq (regionIn Tryz.f35 13) (Code.cond (Operand.tmp 73) (Code.seq (Code.seq (regionIn Tryz.f35 14) (Code.cond (Operand.tmp 86) (regionIn Tryz.f35 15) Code.skip)) (Code.seq (regionIn Tryz.f35 16) Code.ret)) (regionIn Tryz.f35 8)))))))))) (regionIn Tryz.f35 17)))).wp Tryz.prog Q a0 w := by
  have hcl := I0.kg.cell hC
  have hw1 : IntKind.i64.wrap 1 = 1 := by decide
  have e0 : (p0 == [114, 111, 97, 100, 115]) = false := by simpa [wRoads] using ha
  refine wp_seq ?_
  have e : regionIn Tryz.f35 4 = Code.region 4 _ false := rfl
  rw [e]; clear e
  refine wp_region ?_
  refine ops_go rfl rfl (fun K hK => ?_)
  have e16 := hsl.get 16 _ rfl
  have e17 := hsl.get 17 _ rfl
  unfold Oper.wp
  go_simp
  clear e16 e17
  refine hK _ _ ?_; clear hK
  refine hsl.go (by decide) ?_; clear hsl; intro a1 hsl
  refine ops_done ?_
  try simp only [Exit.then, Exit.inBlock, ↓reduceIte, Nat.reduceEqDiff]
  refine wp_seq ?_
  refine wp_cond_true (hsl.ev 18 rfl) ?_
  refine wp_skip ?_
  try simp only [Exit.then, Exit.inBlock, ↓reduceIte, Nat.reduceEqDiff]
  refine wp_seq ?_
  refine wp_block ?_
  refine wp_seq ?_
  have e : regionIn Tryz.f35 5 = Code.region 5 _ false := rfl
  rw [e]; clear e
  refine wp_region ?_
  refine ops_go rfl rfl (fun K hK => ?_)
  have e17 := hsl.get 17 _ rfl
  unfold Oper.wp
  go_simp
  clear e17
  refine hK _ _ ?_; clear hK
  refine hsl.go (by decide) ?_; clear hsl; intro a1 hsl
  refine ops_go rfl rfl (fun K hK => ?_)
  have e15 := hsl.get 15 _ rfl
  have e17 := hsl.get 17 _ rfl
  unfold Oper.wp
  go_simp
  clear e15 e17
  refine hK _ _ ?_; clear hK
  refine hsl.go (by decide) ?_; clear hsl; intro a1 hsl
  refine ops_go rfl rfl (fun K hK => ?_)
  have e20 := hsl.get 20 _ rfl
  unfold Oper.wp
  go_simp
  clear e20
  refine hK _ _ ?_; clear hK
  refine hsl.go (by decide) ?_; clear hsl; intro a1 hsl
  refine ops_go rfl rfl (fun K hK => ?_)
  have e19 := hsl.get 19 _ rfl
  unfold Oper.wp
  go_simp
  clear e19
  refine hK _ _ ?_; clear hK
  refine hsl.go (by decide) ?_; clear hsl; intro a1 hsl
  refine ops_go rfl rfl (fun K hK => ?_)
  have e21 := hsl.get 21 _ rfl
  unfold Oper.wp
  go_simp
  clear e21
  refine hK _ _ ?_; clear hK
  refine hsl.go (by decide) ?_; clear hsl; intro a1 hsl
  refine ops_done ?_
  try simp only [Exit.then, Exit.inBlock, ↓reduceIte, Nat.reduceEqDiff]
  refine wp_seq ?_
  have e : regionIn Tryz.f35 6 = Code.region 6 _ false := rfl
  rw [e]; clear e
  refine wp_region ?_
  refine ops_go rfl rfl (fun K hK => ?_)
  have e5 := hsl.get 5 _ rfl
  unfold Oper.wp
  go_simp
  clear e5
  refine hK _ _ ?_; clear hK
  refine hsl.go (by decide) ?_; clear hsl; intro a1 hsl
  refine ops_go rfl rfl (fun K hK => ?_)
  have e22 := hsl.get 22 _ rfl
  unfold Oper.wp
  go_simp
  clear e22
  refine hK _ _ ?_; clear hK
  refine hsl.go (by decide) ?_; clear hsl; intro a1 hsl
  refine ops_go rfl rfl (fun K hK => ?_)
  have e23 := hsl.get 23 _ rfl
  unfold Oper.wp
  go_simp
  clear e23
  refine hK _ _ ?_; clear hK
  refine hsl.go (by decide) ?_; clear hsl; intro a1 hsl
  refine ops_go rfl rfl (fun K hK => ?_)
  have hwB := I0.ord.2.2.2.2
  unfold Oper.wp
  go_simp
  refine hK _ _ ?_; clear hK
  refine hsl.go (by decide) ?_; clear hsl; intro a1 hsl
  refine alloc_rwB (G := fun W => wpOps _ _ _ _ _ W) ?_
  intro w1 hz1 XW hb
  clear hz1
  generalize hg1 : w.heap.size = bw at XW hsl; have hbw : B ≤ bw := by omega
  clear hg1
  replace I0 := I0.keep hb
  clear hb
  refine ops_go rfl rfl (fun K hK => ?_)
  have e7 := hsl.get 7 _ rfl
  have e24 := hsl.get 24 _ rfl
  have y0 := XW.cell (o := 0) rfl
  have f0 := XW.fz 0
  unfold Oper.wp
  go_simp
  clear e7 e24
  refine hK _ _ ?_; clear hK
  clear y0 f0
  replace XW := XW.set 0 (.int .i64 1)
  replace XW : Rw _ bw #[.int .i64 1] 116 := XW
  have hbB : Below B w1 (w1.setCell ⟨bw, 0, none⟩ (.int .i64 1)) := (Below.refl _ _).setCell (p := ⟨bw, 0, none⟩) hbw _
  replace I0 := I0.keepB hbB
  generalize (World.setCell _ _ _) = w2 at XW I0  ⊢; clear hbB
  refine ops_done ?_
  try simp only [Exit.then, Exit.inBlock, ↓reduceIte, Nat.reduceEqDiff]
  refine wp_seq ?_
  have e : regionIn Tryz.f35 7 = Code.region 7 _ false := rfl
  rw [e]; clear e
  refine wp_region ?_
  refine ops_go rfl rfl (fun K hK => ?_)
  have e6 := hsl.get 6 _ rfl
  unfold Oper.wp
  go_simp
  clear e6
  refine hK _ _ ?_; clear hK
  refine hsl.go (by decide) ?_; clear hsl; intro a1 hsl
  refine ops_go rfl rfl (fun K hK => ?_)
  have e25 := hsl.get 25 _ rfl
  unfold Oper.wp
  go_simp
  have hB2 := I0.ord.2.2.2.2
  refine (split_any _ 32 l I0.mx hl).mono ?_
  rintro e w3 ⟨gw, hgw, rfl, XG, hb⟩
  replace I0 := I0.keep hb; replace XW := XW.below hb
  rw [hws] at XG ⊢
  simp only [List.length_cons, List.length_nil, Nat.reduceAdd, Nat.zero_add]
  clear hb
  clear hcl
  have d0 := XG.cell (o := 0) (v := .string ⟨p0.toArray⟩) rfl
  have d2 := XG.cell (o := 2) (v := .string ⟨p2.toArray⟩) rfl
  have d4 := XG.cell (o := 4) (v := .string ⟨p4.toArray⟩) rfl
  clear e25
  refine hK _ _ ?_; clear hK
  refine hsl.go (by decide) ?_; clear hsl; intro a1 hsl
  refine ops_go rfl rfl (fun K hK => ?_)
  have e26 := hsl.get 26 _ rfl
  unfold Oper.wp
  go_simp
  clear e26
  refine hK _ _ ?_; clear hK
  refine hsl.go (by decide) ?_; clear hsl; intro a1 hsl
  refine ops_done ?_
  try simp only [Exit.then, Exit.inBlock, ↓reduceIte, Nat.reduceEqDiff]
  refine wp_block ?_
  refine wp_seq ?_
  have e : regionIn Tryz.f35 9 = Code.region 9 _ false := rfl
  rw [e]; clear e
  refine wp_region ?_
  refine ops_go rfl rfl (fun K hK => ?_)
  have e5 := hsl.get 5 _ rfl
  unfold Oper.wp
  go_simp
  clear e5
  refine hK _ _ ?_; clear hK
  refine hsl.go (by decide) ?_; clear hsl; intro a1 hsl
  refine ops_go rfl rfl (fun K hK => ?_)
  have e36 := hsl.get 36 _ rfl
  unfold Oper.wp
  go_simp
  clear e36
  refine hK _ _ ?_; clear hK
  refine hsl.go (by decide) ?_; clear hsl; intro a1 hsl
  refine ops_go rfl rfl (fun K hK => ?_)
  have e37 := hsl.get 37 _ rfl
  unfold Oper.wp
  go_simp
  clear e37
  refine hK _ _ ?_; clear hK
  refine hsl.go (by decide) ?_; clear hsl; intro a1 hsl
  refine ops_done ?_
  try simp only [Exit.then, Exit.inBlock, ↓reduceIte, Nat.reduceEqDiff]
  refine wp_cond_true (hsl.ev 35 rfl) ?_
  refine wp_seq ?_
  refine wp_seq ?_
  have e : regionIn Tryz.f35 10 = Code.region 10 _ false := rfl
  rw [e]; clear e
  refine wp_region ?_
  refine ops_go rfl rfl (fun K hK => ?_)
  have e8 := hsl.get 8 _ rfl
  unfold Oper.wp
  go_simp
  clear e8
  refine hK _ _ ?_; clear hK
  refine hsl.go (by decide) ?_; clear hsl; intro a1 hsl
  refine ops_go rfl rfl (fun K hK => ?_)
  have e38 := hsl.get 38 _ rfl
  unfold Oper.wp
  go_simp
  clear e38
  refine hK _ _ ?_; clear hK
  refine hsl.go (by decide) ?_; clear hsl; intro a1 hsl
  refine ops_go rfl rfl (fun K hK => ?_)
  have e39 := hsl.get 39 _ rfl
  unfold Oper.wp
  go_simp
  clear e39
  refine hK _ _ ?_; clear hK
  refine hsl.go (by decide) ?_; clear hsl; intro a1 hsl
  refine ops_go rfl rfl (fun K hK => ?_)
  have e40 := hsl.get 40 _ rfl
  unfold Oper.wp
  go_simp
  clear e40
  refine hK _ _ ?_; clear hK
  refine hsl.go (by decide) ?_; clear hsl; intro a1 hsl
  refine ops_want rfl rfl rfl rfl (hsl.get 41 _ rfl) (fun K hK => ?_)
  have e8 := hsl.get 8 _ rfl
  unfold Oper.wp
  go_simp
  clear e8
  refine hK _ _ ?_; clear hK
  refine hsl.go (by decide) ?_; clear hsl; intro a1 hsl
  refine ops_want rfl rfl rfl rfl (hsl.get 41 _ rfl) (fun K hK => ?_)
  have e42 := hsl.get 42 _ rfl
  unfold Oper.wp
  go_simp
  clear e42
  refine hK _ _ ?_; clear hK
  refine hsl.go (by decide) ?_; clear hsl; intro a1 hsl
  refine ops_want rfl rfl rfl rfl (hsl.get 41 _ rfl) (fun K hK => ?_)
  have e43 := hsl.get 43 _ rfl
  unfold Oper.wp
  go_simp
  clear e43
  refine hK _ _ ?_; clear hK
  refine hsl.go (by decide) ?_; clear hsl; intro a1 hsl
  refine ops_want rfl rfl rfl rfl (hsl.get 41 _ rfl) (fun K hK => ?_)
  have e44 := hsl.get 44 _ rfl
  unfold Oper.wp
  go_simp
  clear e44
  refine hK _ _ ?_; clear hK
  refine hsl.go (by decide) ?_; clear hsl; intro a1 hsl
  refine ops_go rfl rfl (fun K hK => ?_)
  have e41 := hsl.get 41 _ rfl
  have e45 := hsl.get 45 _ rfl
  unfold Oper.wp
  go_simp
  clear e41 e45
  refine hK _ _ ?_; clear hK
  refine hsl.go (by decide) ?_; clear hsl; intro a1 hsl
  refine ops_go rfl rfl (fun K hK => ?_)
  have e46 := hsl.get 46 _ rfl
  unfold Oper.wp
  go_simp
  clear e46
  refine hK _ _ ?_; clear hK
  refine hsl.go (by decide) ?_; clear hsl; intro a1 hsl
  refine ops_skip rfl rfl rfl rfl (hsl.get 47 _ rfl) (by decide) ?_
  refine hsl.go (by decide) ?_; clear hsl; intro a1 hsl
  refine ops_skip rfl rfl rfl rfl (hsl.get 47 _ rfl) (by decide) ?_
  refine hsl.go (by decide) ?_; clear hsl; intro a1 hsl
  refine ops_skip rfl rfl rfl rfl (hsl.get 47 _ rfl) (by decide) ?_
  refine hsl.go (by decide) ?_; clear hsl; intro a1 hsl
  refine ops_skip rfl rfl rfl rfl (hsl.get 47 _ rfl) (by decide) ?_
  refine hsl.go (by decide) ?_; clear hsl; intro a1 hsl
  refine ops_go rfl rfl (fun K hK => ?_)
  have e47 := hsl.get 47 _ rfl
  have e51 := hsl.get 51 _ rfl
  unfold Oper.wp
  go_simp
  clear e47 e51
  refine hK _ _ ?_; clear hK
  refine hsl.go (by decide) ?_; clear hsl; intro a1 hsl
  refine ops_go rfl rfl (fun K hK => ?_)
  have e52 := hsl.get 52 _ rfl
  unfold Oper.wp
  go_simp
  clear e52
  refine hK _ _ ?_; clear hK
  refine hsl.go (by decide) ?_; clear hsl; intro a1 hsl
  refine ops_skip rfl rfl rfl rfl (hsl.get 53 _ rfl) (by decide) ?_
  refine hsl.go (by decide) ?_; clear hsl; intro a1 hsl
  refine ops_skip rfl rfl rfl rfl (hsl.get 53 _ rfl) (by decide) ?_
  refine hsl.go (by decide) ?_; clear hsl; intro a1 hsl
  refine ops_skip rfl rfl rfl rfl (hsl.get 53 _ rfl) (by decide) ?_
  refine hsl.go (by decide) ?_; clear hsl; intro a1 hsl
  refine ops_skip rfl rfl rfl rfl (hsl.get 53 _ rfl) (by decide) ?_
  refine hsl.go (by decide) ?_; clear hsl; intro a1 hsl
  refine ops_go rfl rfl (fun K hK => ?_)
  have e53 := hsl.get 53 _ rfl
  have e57 := hsl.get 57 _ rfl
  unfold Oper.wp
  go_simp
  clear e53 e57
  refine hK _ _ ?_; clear hK
  refine hsl.go (by decide) ?_; clear hsl; intro a1 hsl
  refine ops_done ?_
  try simp only [Exit.then, Exit.inBlock, ↓reduceIte, Nat.reduceEqDiff]
  refine wp_cond_true (hsl.ev 58 rfl) ?_
  have e : regionIn Tryz.f35 11 = Code.region 11 _ false := rfl
  rw [e]; clear e
  refine wp_region ?_
  refine ops_go rfl rfl (fun K hK => ?_)
  have e7 := hsl.get 7 _ rfl
  have hbx := XW.cell (o := 0) rfl
  unfold Oper.wp
  go_simp
  clear e7
  refine hK _ _ ?_; clear hK
  refine hsl.go (by decide) ?_; clear hsl; intro a1 hsl
  refine ops_go rfl rfl (fun K hK => ?_)
  have e59 := hsl.get 59 _ rfl
  unfold Oper.wp
  go_simp
  clear e59
  refine hK _ _ ?_; clear hK
  refine hsl.go (by decide) ?_; clear hsl; intro a1 hsl
  refine ops_go rfl rfl (fun K hK => ?_)
  have e60 := hsl.get 60 _ rfl
  unfold Oper.wp
  go_simp
  clear e60
  try simp only [Exit.then, Exit.inBlock, ↓reduceIte, Nat.reduceEqDiff]
  exact hpan 1 _ _ _ _ _ hoo ((hsl.nil.cons (hsl.get 3 _ rfl)).cons (hsl.get 2 _ rfl)) I0
set_option maxRecDepth 100000 in
set_option maxHeartbeats 4000000 in
theorem tk0b (w0 w : World) (B br bb g m : Nat) (C : Array Value) (dq : List Deferred) (oo : Nat ⊕ Roads) (l : List UInt8)  (p0 p1 p2 p3 p4 : List UInt8) (hws : splitC 32 l = [p0, p1, p2, p3, p4]) (ha : p0 = wRoads) (hb2 : ¬ p2 = wStages) (hoo : oo = .inl 1) (hm0 : 0 < m) (hm1 : m < 900) (hl : l.length < 4294967281) (hC : C[0]? = some (.string ⟨l.toArray⟩)) (I0 : TJ w0 w B br bb g C (#[.int .i64 0, .int .i64 0, .slice none 0 0])) (a0 : Act) (hsl : SlD a0 97 dq [(0, .slice (some ⟨g, 0, none⟩) (m + 1) (m + 1)), (2, .pointer (some ⟨br, 0, none⟩)), (3, .pointer (some ⟨bb, 0, none⟩)), (4, .int .i64 (m : Int)), (15, .slice (some ⟨g, 0, none⟩) m (m + 1)), (16, .int .i64 (m : Int)), (17, .int .i64 0)]) (Q : Exit → Act → World → Prop) (hpan : ∀ (k : Nat) a x c0 c1 c2, oo = .inl k → SlD a 97 dq [(2, .pointer (some ⟨br, 0, none⟩)), (3, .pointer (some ⟨bb, 0, none⟩))] → TJ w0 x B br bb g C (#[c0, c1, c2]) → Q (.panic (wrongP (k : Int))) a x) : (Code.seq (regionIn Tryz.f35 4) (Code.seq (Code.cond (Operand.tmp 18) Code.skip (Code.exit 0)) (Code.seq (Code.block 1 (Code.seq (regionIn Tryz.f35 5) (Code.seq (regionIn Tryz.f35 6) (Code.seq (regionIn Tryz.f35 7) (Code.block 2 (Code.seq (regionIn Tryz.f35 9) (Code.cond (Operand.tmp 35) (Code.seq (Code.seq (regionIn Tryz.f35 10) (Code.cond (Operand.tmp 58) (regionIn Tryz.f35 11) Code.skip)) (regionIn Tryz.f35 12)) (Code.seq (regionIn Tryz.f35 13) (Code.cond (Operand.tmp 73) (Code.seq (Code.seq (regionIn Tryz.f35 14) (Code.cond (Operand.tmp 86) (regionIn Tryz.f35 15) Code.skip)) (Code.seq (regionIn Tryz.f35 16) Code.ret)) (regionIn Tryz.f35 8)))))))))) (regionIn Tryz.f35 17)))).wp Tryz.prog Q a0 w := by
  have hcl := I0.kg.cell hC
  have hw1 : IntKind.i64.wrap 1 = 1 := by decide
  have e0 : (p0 == [114, 111, 97, 100, 115]) = true := by simpa [wRoads] using ha
  have e2 : (p2 == [115, 116, 97, 103, 101, 115]) = false := by simpa [wStages] using hb2
  refine wp_seq ?_
  have e : regionIn Tryz.f35 4 = Code.region 4 _ false := rfl
  rw [e]; clear e
  refine wp_region ?_
  refine ops_go rfl rfl (fun K hK => ?_)
  have e16 := hsl.get 16 _ rfl
  have e17 := hsl.get 17 _ rfl
  unfold Oper.wp
  go_simp
  clear e16 e17
  refine hK _ _ ?_; clear hK
  refine hsl.go (by decide) ?_; clear hsl; intro a1 hsl
  refine ops_done ?_
  try simp only [Exit.then, Exit.inBlock, ↓reduceIte, Nat.reduceEqDiff]
  refine wp_seq ?_
  refine wp_cond_true (hsl.ev 18 rfl) ?_
  refine wp_skip ?_
  try simp only [Exit.then, Exit.inBlock, ↓reduceIte, Nat.reduceEqDiff]
  refine wp_seq ?_
  refine wp_block ?_
  refine wp_seq ?_
  have e : regionIn Tryz.f35 5 = Code.region 5 _ false := rfl
  rw [e]; clear e
  refine wp_region ?_
  refine ops_go rfl rfl (fun K hK => ?_)
  have e17 := hsl.get 17 _ rfl
  unfold Oper.wp
  go_simp
  clear e17
  refine hK _ _ ?_; clear hK
  refine hsl.go (by decide) ?_; clear hsl; intro a1 hsl
  refine ops_go rfl rfl (fun K hK => ?_)
  have e15 := hsl.get 15 _ rfl
  have e17 := hsl.get 17 _ rfl
  unfold Oper.wp
  go_simp
  clear e15 e17
  refine hK _ _ ?_; clear hK
  refine hsl.go (by decide) ?_; clear hsl; intro a1 hsl
  refine ops_go rfl rfl (fun K hK => ?_)
  have e20 := hsl.get 20 _ rfl
  unfold Oper.wp
  go_simp
  clear e20
  refine hK _ _ ?_; clear hK
  refine hsl.go (by decide) ?_; clear hsl; intro a1 hsl
  refine ops_go rfl rfl (fun K hK => ?_)
  have e19 := hsl.get 19 _ rfl
  unfold Oper.wp
  go_simp
  clear e19
  refine hK _ _ ?_; clear hK
  refine hsl.go (by decide) ?_; clear hsl; intro a1 hsl
  refine ops_go rfl rfl (fun K hK => ?_)
  have e21 := hsl.get 21 _ rfl
  unfold Oper.wp
  go_simp
  clear e21
  refine hK _ _ ?_; clear hK
  refine hsl.go (by decide) ?_; clear hsl; intro a1 hsl
  refine ops_done ?_
  try simp only [Exit.then, Exit.inBlock, ↓reduceIte, Nat.reduceEqDiff]
  refine wp_seq ?_
  have e : regionIn Tryz.f35 6 = Code.region 6 _ false := rfl
  rw [e]; clear e
  refine wp_region ?_
  refine ops_go rfl rfl (fun K hK => ?_)
  have e5 := hsl.get 5 _ rfl
  unfold Oper.wp
  go_simp
  clear e5
  refine hK _ _ ?_; clear hK
  refine hsl.go (by decide) ?_; clear hsl; intro a1 hsl
  refine ops_go rfl rfl (fun K hK => ?_)
  have e22 := hsl.get 22 _ rfl
  unfold Oper.wp
  go_simp
  clear e22
  refine hK _ _ ?_; clear hK
  refine hsl.go (by decide) ?_; clear hsl; intro a1 hsl
  refine ops_go rfl rfl (fun K hK => ?_)
  have e23 := hsl.get 23 _ rfl
  unfold Oper.wp
  go_simp
  clear e23
  refine hK _ _ ?_; clear hK
  refine hsl.go (by decide) ?_; clear hsl; intro a1 hsl
  refine ops_go rfl rfl (fun K hK => ?_)
  have hwB := I0.ord.2.2.2.2
  unfold Oper.wp
  go_simp
  refine hK _ _ ?_; clear hK
  refine hsl.go (by decide) ?_; clear hsl; intro a1 hsl
  refine alloc_rwB (G := fun W => wpOps _ _ _ _ _ W) ?_
  intro w1 hz1 XW hb
  clear hz1
  generalize hg1 : w.heap.size = bw at XW hsl; have hbw : B ≤ bw := by omega
  clear hg1
  replace I0 := I0.keep hb
  clear hb
  refine ops_go rfl rfl (fun K hK => ?_)
  have e7 := hsl.get 7 _ rfl
  have e24 := hsl.get 24 _ rfl
  have y0 := XW.cell (o := 0) rfl
  have f0 := XW.fz 0
  unfold Oper.wp
  go_simp
  clear e7 e24
  refine hK _ _ ?_; clear hK
  clear y0 f0
  replace XW := XW.set 0 (.int .i64 1)
  replace XW : Rw _ bw #[.int .i64 1] 116 := XW
  have hbB : Below B w1 (w1.setCell ⟨bw, 0, none⟩ (.int .i64 1)) := (Below.refl _ _).setCell (p := ⟨bw, 0, none⟩) hbw _
  replace I0 := I0.keepB hbB
  generalize (World.setCell _ _ _) = w2 at XW I0  ⊢; clear hbB
  refine ops_done ?_
  try simp only [Exit.then, Exit.inBlock, ↓reduceIte, Nat.reduceEqDiff]
  refine wp_seq ?_
  have e : regionIn Tryz.f35 7 = Code.region 7 _ false := rfl
  rw [e]; clear e
  refine wp_region ?_
  refine ops_go rfl rfl (fun K hK => ?_)
  have e6 := hsl.get 6 _ rfl
  unfold Oper.wp
  go_simp
  clear e6
  refine hK _ _ ?_; clear hK
  refine hsl.go (by decide) ?_; clear hsl; intro a1 hsl
  refine ops_go rfl rfl (fun K hK => ?_)
  have e25 := hsl.get 25 _ rfl
  unfold Oper.wp
  go_simp
  have hB2 := I0.ord.2.2.2.2
  refine (split_any _ 32 l I0.mx hl).mono ?_
  rintro e w3 ⟨gw, hgw, rfl, XG, hb⟩
  replace I0 := I0.keep hb; replace XW := XW.below hb
  rw [hws] at XG ⊢
  simp only [List.length_cons, List.length_nil, Nat.reduceAdd, Nat.zero_add]
  clear hb
  clear hcl
  have d0 := XG.cell (o := 0) (v := .string ⟨p0.toArray⟩) rfl
  have d2 := XG.cell (o := 2) (v := .string ⟨p2.toArray⟩) rfl
  have d4 := XG.cell (o := 4) (v := .string ⟨p4.toArray⟩) rfl
  clear e25
  refine hK _ _ ?_; clear hK
  refine hsl.go (by decide) ?_; clear hsl; intro a1 hsl
  refine ops_go rfl rfl (fun K hK => ?_)
  have e26 := hsl.get 26 _ rfl
  unfold Oper.wp
  go_simp
  clear e26
  refine hK _ _ ?_; clear hK
  refine hsl.go (by decide) ?_; clear hsl; intro a1 hsl
  refine ops_done ?_
  try simp only [Exit.then, Exit.inBlock, ↓reduceIte, Nat.reduceEqDiff]
  refine wp_block ?_
  refine wp_seq ?_
  have e : regionIn Tryz.f35 9 = Code.region 9 _ false := rfl
  rw [e]; clear e
  refine wp_region ?_
  refine ops_go rfl rfl (fun K hK => ?_)
  have e5 := hsl.get 5 _ rfl
  unfold Oper.wp
  go_simp
  clear e5
  refine hK _ _ ?_; clear hK
  refine hsl.go (by decide) ?_; clear hsl; intro a1 hsl
  refine ops_go rfl rfl (fun K hK => ?_)
  have e36 := hsl.get 36 _ rfl
  unfold Oper.wp
  go_simp
  clear e36
  refine hK _ _ ?_; clear hK
  refine hsl.go (by decide) ?_; clear hsl; intro a1 hsl
  refine ops_go rfl rfl (fun K hK => ?_)
  have e37 := hsl.get 37 _ rfl
  unfold Oper.wp
  go_simp
  clear e37
  refine hK _ _ ?_; clear hK
  refine hsl.go (by decide) ?_; clear hsl; intro a1 hsl
  refine ops_done ?_
  try simp only [Exit.then, Exit.inBlock, ↓reduceIte, Nat.reduceEqDiff]
  refine wp_cond_true (hsl.ev 35 rfl) ?_
  refine wp_seq ?_
  refine wp_seq ?_
  have e : regionIn Tryz.f35 10 = Code.region 10 _ false := rfl
  rw [e]; clear e
  refine wp_region ?_
  refine ops_go rfl rfl (fun K hK => ?_)
  have e8 := hsl.get 8 _ rfl
  unfold Oper.wp
  go_simp
  clear e8
  refine hK _ _ ?_; clear hK
  refine hsl.go (by decide) ?_; clear hsl; intro a1 hsl
  refine ops_go rfl rfl (fun K hK => ?_)
  have e38 := hsl.get 38 _ rfl
  unfold Oper.wp
  go_simp
  clear e38
  refine hK _ _ ?_; clear hK
  refine hsl.go (by decide) ?_; clear hsl; intro a1 hsl
  refine ops_go rfl rfl (fun K hK => ?_)
  have e39 := hsl.get 39 _ rfl
  unfold Oper.wp
  go_simp
  clear e39
  refine hK _ _ ?_; clear hK
  refine hsl.go (by decide) ?_; clear hsl; intro a1 hsl
  refine ops_go rfl rfl (fun K hK => ?_)
  have e40 := hsl.get 40 _ rfl
  unfold Oper.wp
  go_simp
  clear e40
  refine hK _ _ ?_; clear hK
  refine hsl.go (by decide) ?_; clear hsl; intro a1 hsl
  refine ops_want rfl rfl rfl rfl (hsl.get 41 _ rfl) (fun K hK => ?_)
  have e8 := hsl.get 8 _ rfl
  unfold Oper.wp
  go_simp
  clear e8
  refine hK _ _ ?_; clear hK
  refine hsl.go (by decide) ?_; clear hsl; intro a1 hsl
  refine ops_want rfl rfl rfl rfl (hsl.get 41 _ rfl) (fun K hK => ?_)
  have e42 := hsl.get 42 _ rfl
  unfold Oper.wp
  go_simp
  clear e42
  refine hK _ _ ?_; clear hK
  refine hsl.go (by decide) ?_; clear hsl; intro a1 hsl
  refine ops_want rfl rfl rfl rfl (hsl.get 41 _ rfl) (fun K hK => ?_)
  have e43 := hsl.get 43 _ rfl
  unfold Oper.wp
  go_simp
  clear e43
  refine hK _ _ ?_; clear hK
  refine hsl.go (by decide) ?_; clear hsl; intro a1 hsl
  refine ops_want rfl rfl rfl rfl (hsl.get 41 _ rfl) (fun K hK => ?_)
  have e44 := hsl.get 44 _ rfl
  unfold Oper.wp
  go_simp
  clear e44
  refine hK _ _ ?_; clear hK
  refine hsl.go (by decide) ?_; clear hsl; intro a1 hsl
  refine ops_go rfl rfl (fun K hK => ?_)
  have e41 := hsl.get 41 _ rfl
  have e45 := hsl.get 45 _ rfl
  unfold Oper.wp
  go_simp
  clear e41 e45
  refine hK _ _ ?_; clear hK
  refine hsl.go (by decide) ?_; clear hsl; intro a1 hsl
  refine ops_go rfl rfl (fun K hK => ?_)
  have e46 := hsl.get 46 _ rfl
  unfold Oper.wp
  go_simp
  clear e46
  refine hK _ _ ?_; clear hK
  refine hsl.go (by decide) ?_; clear hsl; intro a1 hsl
  refine ops_want rfl rfl rfl rfl (hsl.get 47 _ rfl) (fun K hK => ?_)
  have e8 := hsl.get 8 _ rfl
  unfold Oper.wp
  go_simp
  clear e8
  refine hK _ _ ?_; clear hK
  refine hsl.go (by decide) ?_; clear hsl; intro a1 hsl
  refine ops_want rfl rfl rfl rfl (hsl.get 47 _ rfl) (fun K hK => ?_)
  have e48 := hsl.get 48 _ rfl
  unfold Oper.wp
  go_simp
  clear e48
  refine hK _ _ ?_; clear hK
  refine hsl.go (by decide) ?_; clear hsl; intro a1 hsl
  refine ops_want rfl rfl rfl rfl (hsl.get 47 _ rfl) (fun K hK => ?_)
  have e49 := hsl.get 49 _ rfl
  unfold Oper.wp
  go_simp
  clear e49
  refine hK _ _ ?_; clear hK
  refine hsl.go (by decide) ?_; clear hsl; intro a1 hsl
  refine ops_want rfl rfl rfl rfl (hsl.get 47 _ rfl) (fun K hK => ?_)
  have e50 := hsl.get 50 _ rfl
  unfold Oper.wp
  go_simp
  clear e50
  refine hK _ _ ?_; clear hK
  refine hsl.go (by decide) ?_; clear hsl; intro a1 hsl
  refine ops_go rfl rfl (fun K hK => ?_)
  have e47 := hsl.get 47 _ rfl
  have e51 := hsl.get 51 _ rfl
  unfold Oper.wp
  go_simp
  clear e47 e51
  refine hK _ _ ?_; clear hK
  refine hsl.go (by decide) ?_; clear hsl; intro a1 hsl
  refine ops_go rfl rfl (fun K hK => ?_)
  have e52 := hsl.get 52 _ rfl
  unfold Oper.wp
  go_simp
  clear e52
  refine hK _ _ ?_; clear hK
  refine hsl.go (by decide) ?_; clear hsl; intro a1 hsl
  refine ops_skip rfl rfl rfl rfl (hsl.get 53 _ rfl) (by decide) ?_
  refine hsl.go (by decide) ?_; clear hsl; intro a1 hsl
  refine ops_skip rfl rfl rfl rfl (hsl.get 53 _ rfl) (by decide) ?_
  refine hsl.go (by decide) ?_; clear hsl; intro a1 hsl
  refine ops_skip rfl rfl rfl rfl (hsl.get 53 _ rfl) (by decide) ?_
  refine hsl.go (by decide) ?_; clear hsl; intro a1 hsl
  refine ops_skip rfl rfl rfl rfl (hsl.get 53 _ rfl) (by decide) ?_
  refine hsl.go (by decide) ?_; clear hsl; intro a1 hsl
  refine ops_go rfl rfl (fun K hK => ?_)
  have e53 := hsl.get 53 _ rfl
  have e57 := hsl.get 57 _ rfl
  unfold Oper.wp
  go_simp
  clear e53 e57
  refine hK _ _ ?_; clear hK
  refine hsl.go (by decide) ?_; clear hsl; intro a1 hsl
  refine ops_done ?_
  try simp only [Exit.then, Exit.inBlock, ↓reduceIte, Nat.reduceEqDiff]
  refine wp_cond_true (hsl.ev 58 rfl) ?_
  have e : regionIn Tryz.f35 11 = Code.region 11 _ false := rfl
  rw [e]; clear e
  refine wp_region ?_
  refine ops_go rfl rfl (fun K hK => ?_)
  have e7 := hsl.get 7 _ rfl
  have hbx := XW.cell (o := 0) rfl
  unfold Oper.wp
  go_simp
  clear e7
  refine hK _ _ ?_; clear hK
  refine hsl.go (by decide) ?_; clear hsl; intro a1 hsl
  refine ops_go rfl rfl (fun K hK => ?_)
  have e59 := hsl.get 59 _ rfl
  unfold Oper.wp
  go_simp
  clear e59
  refine hK _ _ ?_; clear hK
  refine hsl.go (by decide) ?_; clear hsl; intro a1 hsl
  refine ops_go rfl rfl (fun K hK => ?_)
  have e60 := hsl.get 60 _ rfl
  unfold Oper.wp
  go_simp
  clear e60
  try simp only [Exit.then, Exit.inBlock, ↓reduceIte, Nat.reduceEqDiff]
  exact hpan 1 _ _ _ _ _ hoo ((hsl.nil.cons (hsl.get 3 _ rfl)).cons (hsl.get 2 _ rfl)) I0
set_option maxRecDepth 100000 in
set_option maxHeartbeats 4000000 in
theorem tk0c (w0 w : World) (B br bb g m : Nat) (C : Array Value) (dq : List Deferred) (oo : Nat ⊕ Roads) (l : List UInt8)  (p0 p1 p2 p3 p4 : List UInt8) (hws : splitC 32 l = [p0, p1, p2, p3, p4]) (ha : p0 = wRoads) (hb2 : p2 = wStages) (hc : ¬ p4 = wDays) (hoo : oo = .inl 1) (hm0 : 0 < m) (hm1 : m < 900) (hl : l.length < 4294967281) (hC : C[0]? = some (.string ⟨l.toArray⟩)) (I0 : TJ w0 w B br bb g C (#[.int .i64 0, .int .i64 0, .slice none 0 0])) (a0 : Act) (hsl : SlD a0 97 dq [(0, .slice (some ⟨g, 0, none⟩) (m + 1) (m + 1)), (2, .pointer (some ⟨br, 0, none⟩)), (3, .pointer (some ⟨bb, 0, none⟩)), (4, .int .i64 (m : Int)), (15, .slice (some ⟨g, 0, none⟩) m (m + 1)), (16, .int .i64 (m : Int)), (17, .int .i64 0)]) (Q : Exit → Act → World → Prop) (hpan : ∀ (k : Nat) a x c0 c1 c2, oo = .inl k → SlD a 97 dq [(2, .pointer (some ⟨br, 0, none⟩)), (3, .pointer (some ⟨bb, 0, none⟩))] → TJ w0 x B br bb g C (#[c0, c1, c2]) → Q (.panic (wrongP (k : Int))) a x) : (Code.seq (regionIn Tryz.f35 4) (Code.seq (Code.cond (Operand.tmp 18) Code.skip (Code.exit 0)) (Code.seq (Code.block 1 (Code.seq (regionIn Tryz.f35 5) (Code.seq (regionIn Tryz.f35 6) (Code.seq (regionIn Tryz.f35 7) (Code.block 2 (Code.seq (regionIn Tryz.f35 9) (Code.cond (Operand.tmp 35) (Code.seq (Code.seq (regionIn Tryz.f35 10) (Code.cond (Operand.tmp 58) (regionIn Tryz.f35 11) Code.skip)) (regionIn Tryz.f35 12)) (Code.seq (regionIn Tryz.f35 13) (Code.cond (Operand.tmp 73) (Code.seq (Code.seq (regionIn Tryz.f35 14) (Code.cond (Operand.tmp 86) (regionIn Tryz.f35 15) Code.skip)) (Code.seq (regionIn Tryz.f35 16) Code.ret)) (regionIn Tryz.f35 8)))))))))) (regionIn Tryz.f35 17)))).wp Tryz.prog Q a0 w := by
  have hcl := I0.kg.cell hC
  have hw1 : IntKind.i64.wrap 1 = 1 := by decide
  have e0 : (p0 == [114, 111, 97, 100, 115]) = true := by simpa [wRoads] using ha
  have e2 : (p2 == [115, 116, 97, 103, 101, 115]) = true := by simpa [wStages] using hb2
  have e4 : (p4 == [100, 97, 121, 115]) = false := by simpa [wDays] using hc
  refine wp_seq ?_
  have e : regionIn Tryz.f35 4 = Code.region 4 _ false := rfl
  rw [e]; clear e
  refine wp_region ?_
  refine ops_go rfl rfl (fun K hK => ?_)
  have e16 := hsl.get 16 _ rfl
  have e17 := hsl.get 17 _ rfl
  unfold Oper.wp
  go_simp
  clear e16 e17
  refine hK _ _ ?_; clear hK
  refine hsl.go (by decide) ?_; clear hsl; intro a1 hsl
  refine ops_done ?_
  try simp only [Exit.then, Exit.inBlock, ↓reduceIte, Nat.reduceEqDiff]
  refine wp_seq ?_
  refine wp_cond_true (hsl.ev 18 rfl) ?_
  refine wp_skip ?_
  try simp only [Exit.then, Exit.inBlock, ↓reduceIte, Nat.reduceEqDiff]
  refine wp_seq ?_
  refine wp_block ?_
  refine wp_seq ?_
  have e : regionIn Tryz.f35 5 = Code.region 5 _ false := rfl
  rw [e]; clear e
  refine wp_region ?_
  refine ops_go rfl rfl (fun K hK => ?_)
  have e17 := hsl.get 17 _ rfl
  unfold Oper.wp
  go_simp
  clear e17
  refine hK _ _ ?_; clear hK
  refine hsl.go (by decide) ?_; clear hsl; intro a1 hsl
  refine ops_go rfl rfl (fun K hK => ?_)
  have e15 := hsl.get 15 _ rfl
  have e17 := hsl.get 17 _ rfl
  unfold Oper.wp
  go_simp
  clear e15 e17
  refine hK _ _ ?_; clear hK
  refine hsl.go (by decide) ?_; clear hsl; intro a1 hsl
  refine ops_go rfl rfl (fun K hK => ?_)
  have e20 := hsl.get 20 _ rfl
  unfold Oper.wp
  go_simp
  clear e20
  refine hK _ _ ?_; clear hK
  refine hsl.go (by decide) ?_; clear hsl; intro a1 hsl
  refine ops_go rfl rfl (fun K hK => ?_)
  have e19 := hsl.get 19 _ rfl
  unfold Oper.wp
  go_simp
  clear e19
  refine hK _ _ ?_; clear hK
  refine hsl.go (by decide) ?_; clear hsl; intro a1 hsl
  refine ops_go rfl rfl (fun K hK => ?_)
  have e21 := hsl.get 21 _ rfl
  unfold Oper.wp
  go_simp
  clear e21
  refine hK _ _ ?_; clear hK
  refine hsl.go (by decide) ?_; clear hsl; intro a1 hsl
  refine ops_done ?_
  try simp only [Exit.then, Exit.inBlock, ↓reduceIte, Nat.reduceEqDiff]
  refine wp_seq ?_
  have e : regionIn Tryz.f35 6 = Code.region 6 _ false := rfl
  rw [e]; clear e
  refine wp_region ?_
  refine ops_go rfl rfl (fun K hK => ?_)
  have e5 := hsl.get 5 _ rfl
  unfold Oper.wp
  go_simp
  clear e5
  refine hK _ _ ?_; clear hK
  refine hsl.go (by decide) ?_; clear hsl; intro a1 hsl
  refine ops_go rfl rfl (fun K hK => ?_)
  have e22 := hsl.get 22 _ rfl
  unfold Oper.wp
  go_simp
  clear e22
  refine hK _ _ ?_; clear hK
  refine hsl.go (by decide) ?_; clear hsl; intro a1 hsl
  refine ops_go rfl rfl (fun K hK => ?_)
  have e23 := hsl.get 23 _ rfl
  unfold Oper.wp
  go_simp
  clear e23
  refine hK _ _ ?_; clear hK
  refine hsl.go (by decide) ?_; clear hsl; intro a1 hsl
  refine ops_go rfl rfl (fun K hK => ?_)
  have hwB := I0.ord.2.2.2.2
  unfold Oper.wp
  go_simp
  refine hK _ _ ?_; clear hK
  refine hsl.go (by decide) ?_; clear hsl; intro a1 hsl
  refine alloc_rwB (G := fun W => wpOps _ _ _ _ _ W) ?_
  intro w1 hz1 XW hb
  clear hz1
  generalize hg1 : w.heap.size = bw at XW hsl; have hbw : B ≤ bw := by omega
  clear hg1
  replace I0 := I0.keep hb
  clear hb
  refine ops_go rfl rfl (fun K hK => ?_)
  have e7 := hsl.get 7 _ rfl
  have e24 := hsl.get 24 _ rfl
  have y0 := XW.cell (o := 0) rfl
  have f0 := XW.fz 0
  unfold Oper.wp
  go_simp
  clear e7 e24
  refine hK _ _ ?_; clear hK
  clear y0 f0
  replace XW := XW.set 0 (.int .i64 1)
  replace XW : Rw _ bw #[.int .i64 1] 116 := XW
  have hbB : Below B w1 (w1.setCell ⟨bw, 0, none⟩ (.int .i64 1)) := (Below.refl _ _).setCell (p := ⟨bw, 0, none⟩) hbw _
  replace I0 := I0.keepB hbB
  generalize (World.setCell _ _ _) = w2 at XW I0  ⊢; clear hbB
  refine ops_done ?_
  try simp only [Exit.then, Exit.inBlock, ↓reduceIte, Nat.reduceEqDiff]
  refine wp_seq ?_
  have e : regionIn Tryz.f35 7 = Code.region 7 _ false := rfl
  rw [e]; clear e
  refine wp_region ?_
  refine ops_go rfl rfl (fun K hK => ?_)
  have e6 := hsl.get 6 _ rfl
  unfold Oper.wp
  go_simp
  clear e6
  refine hK _ _ ?_; clear hK
  refine hsl.go (by decide) ?_; clear hsl; intro a1 hsl
  refine ops_go rfl rfl (fun K hK => ?_)
  have e25 := hsl.get 25 _ rfl
  unfold Oper.wp
  go_simp
  have hB2 := I0.ord.2.2.2.2
  refine (split_any _ 32 l I0.mx hl).mono ?_
  rintro e w3 ⟨gw, hgw, rfl, XG, hb⟩
  replace I0 := I0.keep hb; replace XW := XW.below hb
  rw [hws] at XG ⊢
  simp only [List.length_cons, List.length_nil, Nat.reduceAdd, Nat.zero_add]
  clear hb
  clear hcl
  have d0 := XG.cell (o := 0) (v := .string ⟨p0.toArray⟩) rfl
  have d2 := XG.cell (o := 2) (v := .string ⟨p2.toArray⟩) rfl
  have d4 := XG.cell (o := 4) (v := .string ⟨p4.toArray⟩) rfl
  clear e25
  refine hK _ _ ?_; clear hK
  refine hsl.go (by decide) ?_; clear hsl; intro a1 hsl
  refine ops_go rfl rfl (fun K hK => ?_)
  have e26 := hsl.get 26 _ rfl
  unfold Oper.wp
  go_simp
  clear e26
  refine hK _ _ ?_; clear hK
  refine hsl.go (by decide) ?_; clear hsl; intro a1 hsl
  refine ops_done ?_
  try simp only [Exit.then, Exit.inBlock, ↓reduceIte, Nat.reduceEqDiff]
  refine wp_block ?_
  refine wp_seq ?_
  have e : regionIn Tryz.f35 9 = Code.region 9 _ false := rfl
  rw [e]; clear e
  refine wp_region ?_
  refine ops_go rfl rfl (fun K hK => ?_)
  have e5 := hsl.get 5 _ rfl
  unfold Oper.wp
  go_simp
  clear e5
  refine hK _ _ ?_; clear hK
  refine hsl.go (by decide) ?_; clear hsl; intro a1 hsl
  refine ops_go rfl rfl (fun K hK => ?_)
  have e36 := hsl.get 36 _ rfl
  unfold Oper.wp
  go_simp
  clear e36
  refine hK _ _ ?_; clear hK
  refine hsl.go (by decide) ?_; clear hsl; intro a1 hsl
  refine ops_go rfl rfl (fun K hK => ?_)
  have e37 := hsl.get 37 _ rfl
  unfold Oper.wp
  go_simp
  clear e37
  refine hK _ _ ?_; clear hK
  refine hsl.go (by decide) ?_; clear hsl; intro a1 hsl
  refine ops_done ?_
  try simp only [Exit.then, Exit.inBlock, ↓reduceIte, Nat.reduceEqDiff]
  refine wp_cond_true (hsl.ev 35 rfl) ?_
  refine wp_seq ?_
  refine wp_seq ?_
  have e : regionIn Tryz.f35 10 = Code.region 10 _ false := rfl
  rw [e]; clear e
  refine wp_region ?_
  refine ops_go rfl rfl (fun K hK => ?_)
  have e8 := hsl.get 8 _ rfl
  unfold Oper.wp
  go_simp
  clear e8
  refine hK _ _ ?_; clear hK
  refine hsl.go (by decide) ?_; clear hsl; intro a1 hsl
  refine ops_go rfl rfl (fun K hK => ?_)
  have e38 := hsl.get 38 _ rfl
  unfold Oper.wp
  go_simp
  clear e38
  refine hK _ _ ?_; clear hK
  refine hsl.go (by decide) ?_; clear hsl; intro a1 hsl
  refine ops_go rfl rfl (fun K hK => ?_)
  have e39 := hsl.get 39 _ rfl
  unfold Oper.wp
  go_simp
  clear e39
  refine hK _ _ ?_; clear hK
  refine hsl.go (by decide) ?_; clear hsl; intro a1 hsl
  refine ops_go rfl rfl (fun K hK => ?_)
  have e40 := hsl.get 40 _ rfl
  unfold Oper.wp
  go_simp
  clear e40
  refine hK _ _ ?_; clear hK
  refine hsl.go (by decide) ?_; clear hsl; intro a1 hsl
  refine ops_want rfl rfl rfl rfl (hsl.get 41 _ rfl) (fun K hK => ?_)
  have e8 := hsl.get 8 _ rfl
  unfold Oper.wp
  go_simp
  clear e8
  refine hK _ _ ?_; clear hK
  refine hsl.go (by decide) ?_; clear hsl; intro a1 hsl
  refine ops_want rfl rfl rfl rfl (hsl.get 41 _ rfl) (fun K hK => ?_)
  have e42 := hsl.get 42 _ rfl
  unfold Oper.wp
  go_simp
  clear e42
  refine hK _ _ ?_; clear hK
  refine hsl.go (by decide) ?_; clear hsl; intro a1 hsl
  refine ops_want rfl rfl rfl rfl (hsl.get 41 _ rfl) (fun K hK => ?_)
  have e43 := hsl.get 43 _ rfl
  unfold Oper.wp
  go_simp
  clear e43
  refine hK _ _ ?_; clear hK
  refine hsl.go (by decide) ?_; clear hsl; intro a1 hsl
  refine ops_want rfl rfl rfl rfl (hsl.get 41 _ rfl) (fun K hK => ?_)
  have e44 := hsl.get 44 _ rfl
  unfold Oper.wp
  go_simp
  clear e44
  refine hK _ _ ?_; clear hK
  refine hsl.go (by decide) ?_; clear hsl; intro a1 hsl
  refine ops_go rfl rfl (fun K hK => ?_)
  have e41 := hsl.get 41 _ rfl
  have e45 := hsl.get 45 _ rfl
  unfold Oper.wp
  go_simp
  clear e41 e45
  refine hK _ _ ?_; clear hK
  refine hsl.go (by decide) ?_; clear hsl; intro a1 hsl
  refine ops_go rfl rfl (fun K hK => ?_)
  have e46 := hsl.get 46 _ rfl
  unfold Oper.wp
  go_simp
  clear e46
  refine hK _ _ ?_; clear hK
  refine hsl.go (by decide) ?_; clear hsl; intro a1 hsl
  refine ops_want rfl rfl rfl rfl (hsl.get 47 _ rfl) (fun K hK => ?_)
  have e8 := hsl.get 8 _ rfl
  unfold Oper.wp
  go_simp
  clear e8
  refine hK _ _ ?_; clear hK
  refine hsl.go (by decide) ?_; clear hsl; intro a1 hsl
  refine ops_want rfl rfl rfl rfl (hsl.get 47 _ rfl) (fun K hK => ?_)
  have e48 := hsl.get 48 _ rfl
  unfold Oper.wp
  go_simp
  clear e48
  refine hK _ _ ?_; clear hK
  refine hsl.go (by decide) ?_; clear hsl; intro a1 hsl
  refine ops_want rfl rfl rfl rfl (hsl.get 47 _ rfl) (fun K hK => ?_)
  have e49 := hsl.get 49 _ rfl
  unfold Oper.wp
  go_simp
  clear e49
  refine hK _ _ ?_; clear hK
  refine hsl.go (by decide) ?_; clear hsl; intro a1 hsl
  refine ops_want rfl rfl rfl rfl (hsl.get 47 _ rfl) (fun K hK => ?_)
  have e50 := hsl.get 50 _ rfl
  unfold Oper.wp
  go_simp
  clear e50
  refine hK _ _ ?_; clear hK
  refine hsl.go (by decide) ?_; clear hsl; intro a1 hsl
  refine ops_go rfl rfl (fun K hK => ?_)
  have e47 := hsl.get 47 _ rfl
  have e51 := hsl.get 51 _ rfl
  unfold Oper.wp
  go_simp
  clear e47 e51
  refine hK _ _ ?_; clear hK
  refine hsl.go (by decide) ?_; clear hsl; intro a1 hsl
  refine ops_go rfl rfl (fun K hK => ?_)
  have e52 := hsl.get 52 _ rfl
  unfold Oper.wp
  go_simp
  clear e52
  refine hK _ _ ?_; clear hK
  refine hsl.go (by decide) ?_; clear hsl; intro a1 hsl
  refine ops_want rfl rfl rfl rfl (hsl.get 53 _ rfl) (fun K hK => ?_)
  have e8 := hsl.get 8 _ rfl
  unfold Oper.wp
  go_simp
  clear e8
  refine hK _ _ ?_; clear hK
  refine hsl.go (by decide) ?_; clear hsl; intro a1 hsl
  refine ops_want rfl rfl rfl rfl (hsl.get 53 _ rfl) (fun K hK => ?_)
  have e54 := hsl.get 54 _ rfl
  unfold Oper.wp
  go_simp
  clear e54
  refine hK _ _ ?_; clear hK
  refine hsl.go (by decide) ?_; clear hsl; intro a1 hsl
  refine ops_want rfl rfl rfl rfl (hsl.get 53 _ rfl) (fun K hK => ?_)
  have e55 := hsl.get 55 _ rfl
  unfold Oper.wp
  go_simp
  clear e55
  refine hK _ _ ?_; clear hK
  refine hsl.go (by decide) ?_; clear hsl; intro a1 hsl
  refine ops_want rfl rfl rfl rfl (hsl.get 53 _ rfl) (fun K hK => ?_)
  have e56 := hsl.get 56 _ rfl
  unfold Oper.wp
  go_simp
  clear e56
  refine hK _ _ ?_; clear hK
  refine hsl.go (by decide) ?_; clear hsl; intro a1 hsl
  refine ops_go rfl rfl (fun K hK => ?_)
  have e53 := hsl.get 53 _ rfl
  have e57 := hsl.get 57 _ rfl
  unfold Oper.wp
  go_simp
  clear e53 e57
  refine hK _ _ ?_; clear hK
  refine hsl.go (by decide) ?_; clear hsl; intro a1 hsl
  refine ops_done ?_
  try simp only [Exit.then, Exit.inBlock, ↓reduceIte, Nat.reduceEqDiff]
  refine wp_cond_true (hsl.ev 58 rfl) ?_
  have e : regionIn Tryz.f35 11 = Code.region 11 _ false := rfl
  rw [e]; clear e
  refine wp_region ?_
  refine ops_go rfl rfl (fun K hK => ?_)
  have e7 := hsl.get 7 _ rfl
  have hbx := XW.cell (o := 0) rfl
  unfold Oper.wp
  go_simp
  clear e7
  refine hK _ _ ?_; clear hK
  refine hsl.go (by decide) ?_; clear hsl; intro a1 hsl
  refine ops_go rfl rfl (fun K hK => ?_)
  have e59 := hsl.get 59 _ rfl
  unfold Oper.wp
  go_simp
  clear e59
  refine hK _ _ ?_; clear hK
  refine hsl.go (by decide) ?_; clear hsl; intro a1 hsl
  refine ops_go rfl rfl (fun K hK => ?_)
  have e60 := hsl.get 60 _ rfl
  unfold Oper.wp
  go_simp
  clear e60
  try simp only [Exit.then, Exit.inBlock, ↓reduceIte, Nat.reduceEqDiff]
  exact hpan 1 _ _ _ _ _ hoo ((hsl.nil.cons (hsl.get 3 _ rfl)).cons (hsl.get 2 _ rfl)) I0
set_option maxRecDepth 100000 in
set_option maxHeartbeats 4000000 in
theorem tk0ok (w0 w : World) (B br bb g m : Nat) (C : Array Value) (dq : List Deferred) (oo : Nat ⊕ Roads) (l : List UInt8) (rest : List (List UInt8)) (p0 p1 p2 p3 p4 : List UInt8) (hws : splitC 32 l = [p0, p1, p2, p3, p4]) (ha : p0 = wRoads) (hb2 : p2 = wStages) (hc : p4 = wDays) (hoo : oo = match numV p1, numV p3 with | some x, some y => goV x y [] 1 rest | _, _ => .inl 1) (hm0 : 0 < m) (hm1 : m < 900) (hl : l.length < 4294967281) (hC : C[0]? = some (.string ⟨l.toArray⟩)) (I0 : TJ w0 w B br bb g C (#[.int .i64 0, .int .i64 0, .slice none 0 0])) (a0 : Act) (hsl : SlD a0 97 dq [(0, .slice (some ⟨g, 0, none⟩) (m + 1) (m + 1)), (2, .pointer (some ⟨br, 0, none⟩)), (3, .pointer (some ⟨bb, 0, none⟩)), (4, .int .i64 (m : Int)), (15, .slice (some ⟨g, 0, none⟩) m (m + 1)), (16, .int .i64 (m : Int)), (17, .int .i64 0)]) (Q : Exit → Act → World → Prop) (hnext : ∀ st d a x, oo = goV st d [] 1 rest → SlD a 97 dq [(0, .slice (some ⟨g, 0, none⟩) (m + 1) (m + 1)), (2, .pointer (some ⟨br, 0, none⟩)), (3, .pointer (some ⟨bb, 0, none⟩)), (4, .int .i64 (m : Int)), (15, .slice (some ⟨g, 0, none⟩) m (m + 1)), (16, .int .i64 (m : Int)), (17, .int .i64 1)] → TJ w0 x B br bb g C (#[.int .i64 d, .int .i64 st, .slice none 0 0]) → Q .normal a x) (hpan : ∀ (k : Nat) a x c0 c1 c2, oo = .inl k → SlD a 97 dq [(2, .pointer (some ⟨br, 0, none⟩)), (3, .pointer (some ⟨bb, 0, none⟩))] → TJ w0 x B br bb g C (#[c0, c1, c2]) → Q (.panic (wrongP (k : Int))) a x) : (Code.seq (regionIn Tryz.f35 4) (Code.seq (Code.cond (Operand.tmp 18) Code.skip (Code.exit 0)) (Code.seq (Code.block 1 (Code.seq (regionIn Tryz.f35 5) (Code.seq (regionIn Tryz.f35 6) (Code.seq (regionIn Tryz.f35 7) (Code.block 2 (Code.seq (regionIn Tryz.f35 9) (Code.cond (Operand.tmp 35) (Code.seq (Code.seq (regionIn Tryz.f35 10) (Code.cond (Operand.tmp 58) (regionIn Tryz.f35 11) Code.skip)) (regionIn Tryz.f35 12)) (Code.seq (regionIn Tryz.f35 13) (Code.cond (Operand.tmp 73) (Code.seq (Code.seq (regionIn Tryz.f35 14) (Code.cond (Operand.tmp 86) (regionIn Tryz.f35 15) Code.skip)) (Code.seq (regionIn Tryz.f35 16) Code.ret)) (regionIn Tryz.f35 8)))))))))) (regionIn Tryz.f35 17)))).wp Tryz.prog Q a0 w := by
  have hcl := I0.kg.cell hC
  have hw1 : IntKind.i64.wrap 1 = 1 := by decide
  have e0 : (p0 == [114, 111, 97, 100, 115]) = true := by simpa [wRoads] using ha
  have e2 : (p2 == [115, 116, 97, 103, 101, 115]) = true := by simpa [wStages] using hb2
  have e4 : (p4 == [100, 97, 121, 115]) = true := by simpa [wDays] using hc
  refine wp_seq ?_
  have e : regionIn Tryz.f35 4 = Code.region 4 _ false := rfl
  rw [e]; clear e
  refine wp_region ?_
  refine ops_go rfl rfl (fun K hK => ?_)
  have e16 := hsl.get 16 _ rfl
  have e17 := hsl.get 17 _ rfl
  unfold Oper.wp
  go_simp
  clear e16 e17
  refine hK _ _ ?_; clear hK
  refine hsl.go (by decide) ?_; clear hsl; intro a1 hsl
  refine ops_done ?_
  try simp only [Exit.then, Exit.inBlock, ↓reduceIte, Nat.reduceEqDiff]
  refine wp_seq ?_
  refine wp_cond_true (hsl.ev 18 rfl) ?_
  refine wp_skip ?_
  try simp only [Exit.then, Exit.inBlock, ↓reduceIte, Nat.reduceEqDiff]
  refine wp_seq ?_
  refine wp_block ?_
  refine wp_seq ?_
  have e : regionIn Tryz.f35 5 = Code.region 5 _ false := rfl
  rw [e]; clear e
  refine wp_region ?_
  refine ops_go rfl rfl (fun K hK => ?_)
  have e17 := hsl.get 17 _ rfl
  unfold Oper.wp
  go_simp
  clear e17
  refine hK _ _ ?_; clear hK
  refine hsl.go (by decide) ?_; clear hsl; intro a1 hsl
  refine ops_go rfl rfl (fun K hK => ?_)
  have e15 := hsl.get 15 _ rfl
  have e17 := hsl.get 17 _ rfl
  unfold Oper.wp
  go_simp
  clear e15 e17
  refine hK _ _ ?_; clear hK
  refine hsl.go (by decide) ?_; clear hsl; intro a1 hsl
  refine ops_go rfl rfl (fun K hK => ?_)
  have e20 := hsl.get 20 _ rfl
  unfold Oper.wp
  go_simp
  clear e20
  refine hK _ _ ?_; clear hK
  refine hsl.go (by decide) ?_; clear hsl; intro a1 hsl
  refine ops_go rfl rfl (fun K hK => ?_)
  have e19 := hsl.get 19 _ rfl
  unfold Oper.wp
  go_simp
  clear e19
  refine hK _ _ ?_; clear hK
  refine hsl.go (by decide) ?_; clear hsl; intro a1 hsl
  refine ops_go rfl rfl (fun K hK => ?_)
  have e21 := hsl.get 21 _ rfl
  unfold Oper.wp
  go_simp
  clear e21
  refine hK _ _ ?_; clear hK
  refine hsl.go (by decide) ?_; clear hsl; intro a1 hsl
  refine ops_done ?_
  try simp only [Exit.then, Exit.inBlock, ↓reduceIte, Nat.reduceEqDiff]
  refine wp_seq ?_
  have e : regionIn Tryz.f35 6 = Code.region 6 _ false := rfl
  rw [e]; clear e
  refine wp_region ?_
  refine ops_go rfl rfl (fun K hK => ?_)
  have e5 := hsl.get 5 _ rfl
  unfold Oper.wp
  go_simp
  clear e5
  refine hK _ _ ?_; clear hK
  refine hsl.go (by decide) ?_; clear hsl; intro a1 hsl
  refine ops_go rfl rfl (fun K hK => ?_)
  have e22 := hsl.get 22 _ rfl
  unfold Oper.wp
  go_simp
  clear e22
  refine hK _ _ ?_; clear hK
  refine hsl.go (by decide) ?_; clear hsl; intro a1 hsl
  refine ops_go rfl rfl (fun K hK => ?_)
  have e23 := hsl.get 23 _ rfl
  unfold Oper.wp
  go_simp
  clear e23
  refine hK _ _ ?_; clear hK
  refine hsl.go (by decide) ?_; clear hsl; intro a1 hsl
  refine ops_go rfl rfl (fun K hK => ?_)
  have hwB := I0.ord.2.2.2.2
  unfold Oper.wp
  go_simp
  refine hK _ _ ?_; clear hK
  refine hsl.go (by decide) ?_; clear hsl; intro a1 hsl
  refine alloc_rwB (G := fun W => wpOps _ _ _ _ _ W) ?_
  intro w1 hz1 XW hb
  clear hz1
  generalize hg1 : w.heap.size = bw at XW hsl; have hbw : B ≤ bw := by omega
  clear hg1
  replace I0 := I0.keep hb
  clear hb
  refine ops_go rfl rfl (fun K hK => ?_)
  have e7 := hsl.get 7 _ rfl
  have e24 := hsl.get 24 _ rfl
  have y0 := XW.cell (o := 0) rfl
  have f0 := XW.fz 0
  unfold Oper.wp
  go_simp
  clear e7 e24
  refine hK _ _ ?_; clear hK
  clear y0 f0
  replace XW := XW.set 0 (.int .i64 1)
  replace XW : Rw _ bw #[.int .i64 1] 116 := XW
  have hbB : Below B w1 (w1.setCell ⟨bw, 0, none⟩ (.int .i64 1)) := (Below.refl _ _).setCell (p := ⟨bw, 0, none⟩) hbw _
  replace I0 := I0.keepB hbB
  generalize (World.setCell _ _ _) = w2 at XW I0  ⊢; clear hbB
  refine ops_done ?_
  try simp only [Exit.then, Exit.inBlock, ↓reduceIte, Nat.reduceEqDiff]
  refine wp_seq ?_
  have e : regionIn Tryz.f35 7 = Code.region 7 _ false := rfl
  rw [e]; clear e
  refine wp_region ?_
  refine ops_go rfl rfl (fun K hK => ?_)
  have e6 := hsl.get 6 _ rfl
  unfold Oper.wp
  go_simp
  clear e6
  refine hK _ _ ?_; clear hK
  refine hsl.go (by decide) ?_; clear hsl; intro a1 hsl
  refine ops_go rfl rfl (fun K hK => ?_)
  have e25 := hsl.get 25 _ rfl
  unfold Oper.wp
  go_simp
  have hB2 := I0.ord.2.2.2.2
  refine (split_any _ 32 l I0.mx hl).mono ?_
  rintro e w3 ⟨gw, hgw, rfl, XG, hb⟩
  replace I0 := I0.keep hb; replace XW := XW.below hb
  rw [hws] at XG ⊢
  simp only [List.length_cons, List.length_nil, Nat.reduceAdd, Nat.zero_add]
  clear hb
  clear hcl
  have d0 := XG.cell (o := 0) (v := .string ⟨p0.toArray⟩) rfl
  have d2 := XG.cell (o := 2) (v := .string ⟨p2.toArray⟩) rfl
  have d4 := XG.cell (o := 4) (v := .string ⟨p4.toArray⟩) rfl
  clear e25
  refine hK _ _ ?_; clear hK
  refine hsl.go (by decide) ?_; clear hsl; intro a1 hsl
  refine ops_go rfl rfl (fun K hK => ?_)
  have e26 := hsl.get 26 _ rfl
  unfold Oper.wp
  go_simp
  clear e26
  refine hK _ _ ?_; clear hK
  refine hsl.go (by decide) ?_; clear hsl; intro a1 hsl
  refine ops_done ?_
  try simp only [Exit.then, Exit.inBlock, ↓reduceIte, Nat.reduceEqDiff]
  refine wp_block ?_
  refine wp_seq ?_
  have e : regionIn Tryz.f35 9 = Code.region 9 _ false := rfl
  rw [e]; clear e
  refine wp_region ?_
  refine ops_go rfl rfl (fun K hK => ?_)
  have e5 := hsl.get 5 _ rfl
  unfold Oper.wp
  go_simp
  clear e5
  refine hK _ _ ?_; clear hK
  refine hsl.go (by decide) ?_; clear hsl; intro a1 hsl
  refine ops_go rfl rfl (fun K hK => ?_)
  have e36 := hsl.get 36 _ rfl
  unfold Oper.wp
  go_simp
  clear e36
  refine hK _ _ ?_; clear hK
  refine hsl.go (by decide) ?_; clear hsl; intro a1 hsl
  refine ops_go rfl rfl (fun K hK => ?_)
  have e37 := hsl.get 37 _ rfl
  unfold Oper.wp
  go_simp
  clear e37
  refine hK _ _ ?_; clear hK
  refine hsl.go (by decide) ?_; clear hsl; intro a1 hsl
  refine ops_done ?_
  try simp only [Exit.then, Exit.inBlock, ↓reduceIte, Nat.reduceEqDiff]
  refine wp_cond_true (hsl.ev 35 rfl) ?_
  refine wp_seq ?_
  refine wp_seq ?_
  have e : regionIn Tryz.f35 10 = Code.region 10 _ false := rfl
  rw [e]; clear e
  refine wp_region ?_
  refine ops_go rfl rfl (fun K hK => ?_)
  have e8 := hsl.get 8 _ rfl
  unfold Oper.wp
  go_simp
  clear e8
  refine hK _ _ ?_; clear hK
  refine hsl.go (by decide) ?_; clear hsl; intro a1 hsl
  refine ops_go rfl rfl (fun K hK => ?_)
  have e38 := hsl.get 38 _ rfl
  unfold Oper.wp
  go_simp
  clear e38
  refine hK _ _ ?_; clear hK
  refine hsl.go (by decide) ?_; clear hsl; intro a1 hsl
  refine ops_go rfl rfl (fun K hK => ?_)
  have e39 := hsl.get 39 _ rfl
  unfold Oper.wp
  go_simp
  clear e39
  refine hK _ _ ?_; clear hK
  refine hsl.go (by decide) ?_; clear hsl; intro a1 hsl
  refine ops_go rfl rfl (fun K hK => ?_)
  have e40 := hsl.get 40 _ rfl
  unfold Oper.wp
  go_simp
  clear e40
  refine hK _ _ ?_; clear hK
  refine hsl.go (by decide) ?_; clear hsl; intro a1 hsl
  refine ops_want rfl rfl rfl rfl (hsl.get 41 _ rfl) (fun K hK => ?_)
  have e8 := hsl.get 8 _ rfl
  unfold Oper.wp
  go_simp
  clear e8
  refine hK _ _ ?_; clear hK
  refine hsl.go (by decide) ?_; clear hsl; intro a1 hsl
  refine ops_want rfl rfl rfl rfl (hsl.get 41 _ rfl) (fun K hK => ?_)
  have e42 := hsl.get 42 _ rfl
  unfold Oper.wp
  go_simp
  clear e42
  refine hK _ _ ?_; clear hK
  refine hsl.go (by decide) ?_; clear hsl; intro a1 hsl
  refine ops_want rfl rfl rfl rfl (hsl.get 41 _ rfl) (fun K hK => ?_)
  have e43 := hsl.get 43 _ rfl
  unfold Oper.wp
  go_simp
  clear e43
  refine hK _ _ ?_; clear hK
  refine hsl.go (by decide) ?_; clear hsl; intro a1 hsl
  refine ops_want rfl rfl rfl rfl (hsl.get 41 _ rfl) (fun K hK => ?_)
  have e44 := hsl.get 44 _ rfl
  unfold Oper.wp
  go_simp
  clear e44
  refine hK _ _ ?_; clear hK
  refine hsl.go (by decide) ?_; clear hsl; intro a1 hsl
  refine ops_go rfl rfl (fun K hK => ?_)
  have e41 := hsl.get 41 _ rfl
  have e45 := hsl.get 45 _ rfl
  unfold Oper.wp
  go_simp
  clear e41 e45
  refine hK _ _ ?_; clear hK
  refine hsl.go (by decide) ?_; clear hsl; intro a1 hsl
  refine ops_go rfl rfl (fun K hK => ?_)
  have e46 := hsl.get 46 _ rfl
  unfold Oper.wp
  go_simp
  clear e46
  refine hK _ _ ?_; clear hK
  refine hsl.go (by decide) ?_; clear hsl; intro a1 hsl
  refine ops_want rfl rfl rfl rfl (hsl.get 47 _ rfl) (fun K hK => ?_)
  have e8 := hsl.get 8 _ rfl
  unfold Oper.wp
  go_simp
  clear e8
  refine hK _ _ ?_; clear hK
  refine hsl.go (by decide) ?_; clear hsl; intro a1 hsl
  refine ops_want rfl rfl rfl rfl (hsl.get 47 _ rfl) (fun K hK => ?_)
  have e48 := hsl.get 48 _ rfl
  unfold Oper.wp
  go_simp
  clear e48
  refine hK _ _ ?_; clear hK
  refine hsl.go (by decide) ?_; clear hsl; intro a1 hsl
  refine ops_want rfl rfl rfl rfl (hsl.get 47 _ rfl) (fun K hK => ?_)
  have e49 := hsl.get 49 _ rfl
  unfold Oper.wp
  go_simp
  clear e49
  refine hK _ _ ?_; clear hK
  refine hsl.go (by decide) ?_; clear hsl; intro a1 hsl
  refine ops_want rfl rfl rfl rfl (hsl.get 47 _ rfl) (fun K hK => ?_)
  have e50 := hsl.get 50 _ rfl
  unfold Oper.wp
  go_simp
  clear e50
  refine hK _ _ ?_; clear hK
  refine hsl.go (by decide) ?_; clear hsl; intro a1 hsl
  refine ops_go rfl rfl (fun K hK => ?_)
  have e47 := hsl.get 47 _ rfl
  have e51 := hsl.get 51 _ rfl
  unfold Oper.wp
  go_simp
  clear e47 e51
  refine hK _ _ ?_; clear hK
  refine hsl.go (by decide) ?_; clear hsl; intro a1 hsl
  refine ops_go rfl rfl (fun K hK => ?_)
  have e52 := hsl.get 52 _ rfl
  unfold Oper.wp
  go_simp
  clear e52
  refine hK _ _ ?_; clear hK
  refine hsl.go (by decide) ?_; clear hsl; intro a1 hsl
  refine ops_want rfl rfl rfl rfl (hsl.get 53 _ rfl) (fun K hK => ?_)
  have e8 := hsl.get 8 _ rfl
  unfold Oper.wp
  go_simp
  clear e8
  refine hK _ _ ?_; clear hK
  refine hsl.go (by decide) ?_; clear hsl; intro a1 hsl
  refine ops_want rfl rfl rfl rfl (hsl.get 53 _ rfl) (fun K hK => ?_)
  have e54 := hsl.get 54 _ rfl
  unfold Oper.wp
  go_simp
  clear e54
  refine hK _ _ ?_; clear hK
  refine hsl.go (by decide) ?_; clear hsl; intro a1 hsl
  refine ops_want rfl rfl rfl rfl (hsl.get 53 _ rfl) (fun K hK => ?_)
  have e55 := hsl.get 55 _ rfl
  unfold Oper.wp
  go_simp
  clear e55
  refine hK _ _ ?_; clear hK
  refine hsl.go (by decide) ?_; clear hsl; intro a1 hsl
  refine ops_want rfl rfl rfl rfl (hsl.get 53 _ rfl) (fun K hK => ?_)
  have e56 := hsl.get 56 _ rfl
  unfold Oper.wp
  go_simp
  clear e56
  refine hK _ _ ?_; clear hK
  refine hsl.go (by decide) ?_; clear hsl; intro a1 hsl
  refine ops_go rfl rfl (fun K hK => ?_)
  have e53 := hsl.get 53 _ rfl
  have e57 := hsl.get 57 _ rfl
  unfold Oper.wp
  go_simp
  clear e53 e57
  refine hK _ _ ?_; clear hK
  refine hsl.go (by decide) ?_; clear hsl; intro a1 hsl
  refine ops_done ?_
  try simp only [Exit.then, Exit.inBlock, ↓reduceIte, Nat.reduceEqDiff]
  refine wp_cond_false (hsl.ev 58 rfl) ?_
  refine wp_skip ?_
  try simp only [Exit.then, Exit.inBlock, ↓reduceIte, Nat.reduceEqDiff]
  obtain ⟨x1, hv1⟩ : ∃ x : Int, ∀ z, numV p1 = some z → x = z := ⟨(numV p1).getD 0, fun z h => by simp [h]⟩
  obtain ⟨x3, hv3⟩ : ∃ x : Int, ∀ z, numV p3 = some z → x = z := ⟨(numV p3).getD 0, fun z h => by simp [h]⟩
  clear e0 e2 e4 d0 d2 d4 hw1
  have e : regionIn Tryz.f35 12 = Code.region 12 _ true := rfl
  rw [e]; clear e
  refine wp_region_sld (by kernel_rfl) (hsl.nil.cons (hsl.get 8 _ rfl) |>.cons (hsl.get 7 _ rfl) |>.cons (hsl.get 17 _ rfl) |>.cons (hsl.get 16 _ rfl) |>.cons (hsl.get 15 _ rfl) |>.cons (hsl.get 4 _ rfl) |>.cons (hsl.get 3 _ rfl) |>.cons (hsl.get 2 _ rfl) |>.cons (hsl.get 0 _ rfl)) [some 61, some 62, some 63, some 64, some 65, some 66, some 67, some 68, some 69, some 70, some 71, none, some 72, none] rfl rfl (by kernel_rfl) (fun _ j v _ => match j with | 0 => v = .agg #[.int .i64 1] | 1 => v = .slice (some ⟨gw, 0, none⟩) 5 5 | 2 => v = .pointer (some ⟨gw, 1, none⟩) | 3 => v = .string ⟨p1.toArray⟩ | 4 => (numV p1 = some x1 ∧ v = .int .i64 x1) | 5 => v = .agg #[.int .i64 1] | 6 => v = .slice (some ⟨gw, 0, none⟩) 5 5 | 7 => v = .pointer (some ⟨gw, 3, none⟩) | 8 => v = .string ⟨p3.toArray⟩ | 9 => (numV p3 = some x3 ∧ v = .int .i64 x3) | 10 => v = .pointer (some ⟨br, 1, none⟩) | 12 => v = .pointer (some ⟨br, 0, none⟩) | _ => True) (fun L x => TJ w0 x B br bb g C (#[if L 13 then .int .i64 x3 else .int .i64 0, if L 11 then .int .i64 x1 else .int .i64 0, .slice none 0 0]) ∧ Rw x bw #[.int .i64 1] 116 ∧ Rw x gw (List.map (fun x => Value.string ⟨x.toArray⟩) [p0, p1, p2, p3, p4]).toArray 9 ∧ B ≤ bw ∧ B ≤ gw) ⟨I0.drew, XW.below (Below.refl _ _).drew, XG.below (Below.refl _ _).drew, by omega, by omega⟩ ?_ ?_
  · clear hsl; intro k o hkl ho L a x hI hLk hsl hs hd
    have hlt : ∀ k : Nat, k < 14 → k = 0 ∨ k = 1 ∨ k = 2 ∨ k = 3 ∨ k = 4 ∨ k = 5 ∨ k = 6 ∨ k = 7 ∨ k = 8 ∨ k = 9 ∨ k = 10 ∨ k = 11 ∨ k = 12 ∨ k = 13 := by decide
    rcases hlt k hkl with rfl | rfl | rfl | rfl | rfl | rfl | rfl | rfl | rfl | rfl | rfl | rfl | rfl | rfl
    · obtain rfl := Option.some.inj ho
      have e7 := hsl.get 7 _ rfl
      obtain ⟨i1, i2, i3, i4, i5⟩ := hI
      have hbx := (show Rw x bw _ _ from i2).cell (o := 0) rfl
      clear hs hd
      refine wpOp_go rfl rfl (fun K hK => ?_)
      unfold Oper.wp
      go_simp
      exact hK _ _ ⟨_, rfl, rfl, ⟨by simpa [updF] using i1, i2, i3, i4, i5⟩, fun _ _ _ h => h⟩
    · obtain rfl := Option.some.inj ho
      have e8 := hsl.get 8 _ rfl
      obtain ⟨i1, i2, i3, i4, i5⟩ := hI
      clear hs hd
      refine wpOp_go rfl rfl (fun K hK => ?_)
      unfold Oper.wp
      go_simp
      exact hK _ _ ⟨_, rfl, rfl, ⟨by simpa [updF] using i1, i2, i3, i4, i5⟩, fun _ _ _ h => h⟩
    · obtain rfl := Option.some.inj ho
      obtain ⟨v62, e62, hv62⟩ := hs 1 _ 62 rfl rfl (hd 1 (waits_mem (by kernel_rfl)))
      obtain rfl := hv62
      obtain ⟨i1, i2, i3, i4, i5⟩ := hI
      clear hs hd
      refine wpOp_go rfl rfl (fun K hK => ?_)
      unfold Oper.wp
      go_simp
      exact hK _ _ ⟨_, rfl, rfl, ⟨by simpa [updF] using i1, i2, i3, i4, i5⟩, fun _ _ _ h => h⟩
    · obtain rfl := Option.some.inj ho
      obtain ⟨v63, e63, hv63⟩ := hs 2 _ 63 rfl rfl (hd 2 (waits_mem (by kernel_rfl)))
      obtain rfl := hv63
      obtain ⟨i1, i2, i3, i4, i5⟩ := hI
      have hc3 := (show Rw x gw _ _ from i3).cell (o := 1) (v := .string ⟨p1.toArray⟩) rfl
      clear hs hd
      refine wpOp_go rfl rfl (fun K hK => ?_)
      unfold Oper.wp
      go_simp
      exact hK _ _ ⟨_, rfl, rfl, ⟨by simpa [updF] using i1, i2, i3, i4, i5⟩, fun _ _ _ h => h⟩
    · obtain rfl := Option.some.inj ho
      obtain ⟨v61, e61, hv61⟩ := hs 0 _ 61 rfl rfl (hd 0 (waits_mem (by kernel_rfl)))
      obtain rfl := hv61
      obtain ⟨v64, e64, hv64⟩ := hs 3 _ 64 rfl rfl (hd 3 (waits_mem (by kernel_rfl)))
      obtain rfl := hv64
      obtain ⟨i1, i2, i3, i4, i5⟩ := hI
      clear hs hd
      refine wpOp_go rfl rfl (fun K hK => ?_)
      unfold Oper.wp
      go_simp
      refine (number_any _ 1 p1).mono ?_
      rintro e x2 hp
      obtain ⟨hb, ⟨z, hz, rfl⟩ | ⟨hz, rfl⟩⟩ := hp.get
      · obtain rfl := hv1 z hz
        exact hK _ _ ⟨_, rfl, ⟨hz, rfl⟩, ⟨by simpa [updF] using i1.keep hb, i2.below hb, i3.below hb, i4, i5⟩, fun _ _ _ h => h⟩
      · try simp only [Exit.then, Exit.inBlock, ↓reduceIte, Nat.reduceEqDiff]
        refine hpan 1 _ _ _ _ _ ?_ ((hsl.nil.cons (hsl.get 3 _ rfl)).cons (hsl.get 2 _ rfl)) (i1.keep hb)
        rw [hoo, hz]
    · obtain rfl := Option.some.inj ho
      have e7 := hsl.get 7 _ rfl
      obtain ⟨i1, i2, i3, i4, i5⟩ := hI
      have hbx := (show Rw x bw _ _ from i2).cell (o := 0) rfl
      clear hs hd
      refine wpOp_go rfl rfl (fun K hK => ?_)
      unfold Oper.wp
      go_simp
      exact hK _ _ ⟨_, rfl, rfl, ⟨by simpa [updF] using i1, i2, i3, i4, i5⟩, fun _ _ _ h => h⟩
    · obtain rfl := Option.some.inj ho
      have e8 := hsl.get 8 _ rfl
      obtain ⟨i1, i2, i3, i4, i5⟩ := hI
      clear hs hd
      refine wpOp_go rfl rfl (fun K hK => ?_)
      unfold Oper.wp
      go_simp
      exact hK _ _ ⟨_, rfl, rfl, ⟨by simpa [updF] using i1, i2, i3, i4, i5⟩, fun _ _ _ h => h⟩
    · obtain rfl := Option.some.inj ho
      obtain ⟨v67, e67, hv67⟩ := hs 6 _ 67 rfl rfl (hd 6 (waits_mem (by kernel_rfl)))
      obtain rfl := hv67
      obtain ⟨i1, i2, i3, i4, i5⟩ := hI
      clear hs hd
      refine wpOp_go rfl rfl (fun K hK => ?_)
      unfold Oper.wp
      go_simp
      exact hK _ _ ⟨_, rfl, rfl, ⟨by simpa [updF] using i1, i2, i3, i4, i5⟩, fun _ _ _ h => h⟩
    · obtain rfl := Option.some.inj ho
      obtain ⟨v68, e68, hv68⟩ := hs 7 _ 68 rfl rfl (hd 7 (waits_mem (by kernel_rfl)))
      obtain rfl := hv68
      obtain ⟨i1, i2, i3, i4, i5⟩ := hI
      have hc3 := (show Rw x gw _ _ from i3).cell (o := 3) (v := .string ⟨p3.toArray⟩) rfl
      clear hs hd
      refine wpOp_go rfl rfl (fun K hK => ?_)
      unfold Oper.wp
      go_simp
      exact hK _ _ ⟨_, rfl, rfl, ⟨by simpa [updF] using i1, i2, i3, i4, i5⟩, fun _ _ _ h => h⟩
    · obtain rfl := Option.some.inj ho
      obtain ⟨v66, e66, hv66⟩ := hs 5 _ 66 rfl rfl (hd 5 (waits_mem (by kernel_rfl)))
      obtain rfl := hv66
      obtain ⟨v69, e69, hv69⟩ := hs 8 _ 69 rfl rfl (hd 8 (waits_mem (by kernel_rfl)))
      obtain rfl := hv69
      obtain ⟨i1, i2, i3, i4, i5⟩ := hI
      clear hs hd
      refine wpOp_go rfl rfl (fun K hK => ?_)
      unfold Oper.wp
      go_simp
      refine (number_any _ 1 p3).mono ?_
      rintro e x2 hp
      obtain ⟨hb, ⟨z, hz, rfl⟩ | ⟨hz, rfl⟩⟩ := hp.get
      · obtain rfl := hv3 z hz
        exact hK _ _ ⟨_, rfl, ⟨hz, rfl⟩, ⟨by simpa [updF] using i1.keep hb, i2.below hb, i3.below hb, i4, i5⟩, fun _ _ _ h => h⟩
      · try simp only [Exit.then, Exit.inBlock, ↓reduceIte, Nat.reduceEqDiff]
        refine hpan 1 _ _ _ _ _ ?_ ((hsl.nil.cons (hsl.get 3 _ rfl)).cons (hsl.get 2 _ rfl)) (i1.keep hb)
        rw [hoo, hz]
        cases numV p1 <;> rfl
    · obtain rfl := Option.some.inj ho
      have e2 := hsl.get 2 _ rfl
      obtain ⟨i1, i2, i3, i4, i5⟩ := hI
      clear hs hd
      refine wpOp_go rfl rfl (fun K hK => ?_)
      unfold Oper.wp
      go_simp
      exact hK _ _ ⟨_, rfl, rfl, ⟨by simpa [updF] using i1, i2, i3, i4, i5⟩, fun _ _ _ h => h⟩
    · obtain rfl := Option.some.inj ho
      obtain ⟨v65, e65, hv65⟩ := hs 4 _ 65 rfl rfl (hd 4 (waits_mem (by kernel_rfl)))
      obtain ⟨hz4, rfl⟩ := hv65
      obtain ⟨v71, e71, hv71⟩ := hs 10 _ 71 rfl rfl (hd 10 (waits_mem (by kernel_rfl)))
      obtain rfl := hv71
      obtain ⟨i1, i2, i3, i4, i5⟩ := hI
      have y0 := (show Rw x br _ _ from i1.kr).cell (o := 1) rfl
      have f0 := (show Rw x br _ _ from i1.kr).fz 1
      clear hs hd
      refine wpOp_go rfl rfl (fun K hK => ?_)
      unfold Oper.wp
      go_simp
      refine hK _ _ ⟨undef, rfl, trivial, ⟨?_, i2.far (by have := i1.ord; omega) _ _, i3.far (by have := i1.ord; omega) _ _, i4, i5⟩, fun _ _ _ h => h⟩
      have := i1.set 1 (.int .i64 x1)
      simpa [updF] using this
    · obtain rfl := Option.some.inj ho
      have e2 := hsl.get 2 _ rfl
      obtain ⟨i1, i2, i3, i4, i5⟩ := hI
      clear hs hd
      refine wpOp_go rfl rfl (fun K hK => ?_)
      unfold Oper.wp
      go_simp
      exact hK _ _ ⟨_, rfl, rfl, ⟨by simpa [updF] using i1, i2, i3, i4, i5⟩, fun _ _ _ h => h⟩
    · obtain rfl := Option.some.inj ho
      obtain ⟨v70, e70, hv70⟩ := hs 9 _ 70 rfl rfl (hd 9 (waits_mem (by kernel_rfl)))
      obtain ⟨hz9, rfl⟩ := hv70
      obtain ⟨v72, e72, hv72⟩ := hs 12 _ 72 rfl rfl (hd 12 (waits_mem (by kernel_rfl)))
      obtain rfl := hv72
      obtain ⟨i1, i2, i3, i4, i5⟩ := hI
      have y0 := (show Rw x br _ _ from i1.kr).cell (o := 0) rfl
      have f0 := (show Rw x br _ _ from i1.kr).fz 0
      clear hs hd
      refine wpOp_go rfl rfl (fun K hK => ?_)
      unfold Oper.wp
      go_simp
      refine hK _ _ ⟨undef, rfl, trivial, ⟨?_, i2.far (by have := i1.ord; omega) _ _, i3.far (by have := i1.ord; omega) _ _, i4, i5⟩, fun _ _ _ h => h⟩
      have := i1.set 0 (.int .i64 x3)
      simpa [updF] using this
  · clear hsl; intro L a x hall hI hsl hs
    obtain ⟨i1, i2, i3, i4, i5⟩ := hI
    rw [hall 11 (by decide), hall 13 (by decide)] at i1
    obtain ⟨v, _, hq1, _⟩ := hs 4 _ 65 rfl rfl (hall 4 (by decide))
    obtain ⟨v, _, hq3, _⟩ := hs 9 _ 70 rfl rfl (hall 9 (by decide))
    clear hs hall i2 i3 XW XG I0
    replace i1 : TJ w0 x B br bb g C (#[.int .i64 x3, .int .i64 x1, .slice none 0 0]) := i1
    try simp only [Exit.then, Exit.inBlock, ↓reduceIte, Nat.reduceEqDiff]
    refine (show Code.wp Tryz.prog _ _ _ _ from ?_)
    try simp only [Exit.then, Exit.inBlock, ↓reduceIte, Nat.reduceEqDiff]
    have e : regionIn Tryz.f35 17 = Code.region 17 _ false := rfl
    rw [e]; clear e
    refine wp_region ?_
    refine ops_go rfl rfl (fun K hK => ?_)
    have e17 := hsl.get 17 _ rfl
    unfold Oper.wp
    go_simp
    clear e17
    refine hK _ _ ?_; clear hK
    refine hsl.go (by decide) ?_; clear hsl; intro a1 hsl
    refine ops_go rfl rfl (fun K hK => ?_)
    have e92 := hsl.get 92 _ rfl
    unfold Oper.wp
    go_simp
    clear e92
    refine hK _ _ ?_; clear hK
    refine hsl.go (by decide) ?_; clear hsl; intro a1 hsl
    refine ops_done ?_
    exact hnext x1 x3 _ _ (by rw [hoo, hq1, hq3]) (((((((hsl.nil.cons (hsl.get 17 _ rfl)).cons (hsl.get 16 _ rfl)).cons (hsl.get 15 _ rfl)).cons (hsl.get 4 _ rfl)).cons (hsl.get 3 _ rfl)).cons (hsl.get 2 _ rfl)).cons (hsl.get 0 _ rfl)) i1
end Go.Proofs.YtmkjeonjhedgkaaGreatDoor
