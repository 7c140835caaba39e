/- road.take: the lines behind the first. -/
import Derived.Test.YtmkjeonjhedgkaaGreatDoorTakeR
namespace Go.Proofs.YtmkjeonjhedgkaaGreatDoor
set_option linter.unusedSimpArgs false
set_option linter.unusedVariables false
open Go.RowKit

/-- What the operations that add a strip leave in their slots. -/
def V8 (n : Int) (B br : Nat) (v : Value) (l : List UInt8) (st : Strip) (acc : List Strip) (L : Nat → Bool) (j : Nat) (u : Value) (x : World) : Prop := match j with
  | 0 => u = .pointer (some ⟨br, 2, none⟩)
  | 1 => u = v
  | 2 => u = .agg #[.int .i64 n]
  | 3 => u = .string ⟨l.toArray⟩
  | 4 => stripV (splitC 32 l) = some st ∧ u = .agg #[.int .i64 st.A, .int .i64 st.B, .int .i64 st.L, .int .i64 st.W, .int .i64 st.K, .int .i64 st.X, .int .i64 st.Y]
  | 5 => ∃ gs, u = .slice (some ⟨gs, 0, none⟩) 1 1 ∧ (L 6 = false → StripsAt x (some ⟨gs, 0, none⟩) [st])
  | 6 => OwnStrips x B u (acc ++ [st])
  | 7 => u = .pointer (some ⟨br, 2, none⟩)
  | _ => True
/-- What they leave in memory. -/
def I8 (w0 : World) (n D S : Int) (B br bb g bw : Nat) (C : Array Value) (v : Value) (acc : List Strip) (st : Strip) (L : Nat → Bool) (x : World) : Prop :=
  ∃ cr, TJ w0 x B br bb g C cr ∧ (L 8 = false → cr = #[.int .i64 D, .int .i64 S, v]) ∧ (L 8 = true → ∃ v2, cr = #[.int .i64 D, .int .i64 S, v2] ∧ OwnStrips x B v2 (acc ++ [st])) ∧ (L 6 = false → OwnStrips x B v acc) ∧ (L 4 = false → Rw x bw #[.int .i64 n] 116) ∧ (L 8 = true → L 6 = true) ∧ (L 6 = true → L 4 = true) ∧ (L 5 = true → L 4 = true)
section
variable {w0 x x2 : World} {n D S : Int} {B br bb g bw : Nat} {C : Array Value} {v : Value} {l : List UInt8} {acc : List Strip} {st : Strip} {L : Nat → Bool}
theorem V8.next {k : Nat} (hk : k ≠ 6) (hb : Below x.heap.size x x2) : ∀ (j : Nat) (u : Value), V8 n B br v l st acc L j u x → V8 n B br v l st acc (updF L k true) j u x2
  | 0, _, h => h
  | 1, _, h => h
  | 2, _, h => h
  | 3, _, h => h
  | 4, _, h => h
  | 5, _, ⟨gs, h1, h2⟩ => ⟨gs, h1, fun h => (h2 (by rw [updF_ne _ _ (Ne.symm hk)] at h; exact h)).below hb⟩
  | 6, _, h => OwnStrips.below h hb
  | 7, _, h => h
  | _ + 8, _, h => h
theorem V8.app (h6 : L 6 = false) : ∀ (j : Nat) (u : Value), L j = true → V8 n B br v l st acc L j u x → V8 n B br v l st acc (updF L 6 true) j u x2
  | 0, _, _, h => h
  | 1, _, _, h => h
  | 2, _, _, h => h
  | 3, _, _, h => h
  | 4, _, _, h => h
  | 5, _, _, ⟨gs, h1, _⟩ => ⟨gs, h1, fun h => by rw [updF_same] at h; simp at h⟩
  | 6, _, hj, _ => by rw [h6] at hj; simp at hj
  | 7, _, _, h => h
  | _ + 8, _, _, h => h
theorem V8.store (h6 : L 6 = true) (o : br < B) (w : Value) : ∀ (j : Nat) (u : Value), V8 n B br v l st acc L j u x → V8 n B br v l st acc (updF L 8 true) j u (x.setCell ⟨br, 2, none⟩ w)
  | 0, _, h => h
  | 1, _, h => h
  | 2, _, h => h
  | 3, _, h => h
  | 4, _, h => h
  | 5, _, ⟨gs, h1, _⟩ => ⟨gs, h1, fun h => by rw [updF_ne _ _ (by decide), h6] at h; simp at h⟩
  | 6, _, h => OwnStrips.setR h o _ _
  | 7, _, h => h
  | _ + 8, _, h => h
theorem I8.next (h : I8 w0 n D S B br bb g bw C v acc st L x) {k : Nat} (h6 : k ≠ 6) (h8 : k ≠ 8) (h5 : k = 5 → L 4 = true) (hb : Below x.heap.size x x2) : I8 w0 n D S B br bb g bw C v acc st (updF L k true) x2 := by
  obtain ⟨cr, i1, i2, i3, i4, i5, i6, i7, i8⟩ := h
  refine ⟨cr, i1.keep hb, ?_, ?_, ?_, ?_, ?_, ?_, ?_⟩
  · rw [updF_ne _ _ (Ne.symm h8)]; exact i2
  · rw [updF_ne _ _ (Ne.symm h8)]; exact fun h => (i3 h).imp fun v2 h2 => ⟨h2.1, h2.2.below hb⟩
  · rw [updF_ne _ _ (Ne.symm h6)]; exact fun h => (i4 h).below hb
  · intro h
    by_cases e : k = 4
    · subst e; rw [updF_same] at h; simp at h
    · rw [updF_ne _ _ (Ne.symm e)] at h; exact (i5 h).below hb
  · rw [updF_ne _ _ (Ne.symm h8), updF_ne _ _ (Ne.symm h6)]; exact i6
  · rw [updF_ne _ _ (Ne.symm h6)]; intro h
    by_cases e : k = 4
    · subst e; exact updF_same _ _ _
    · rw [updF_ne _ _ (Ne.symm e)]; exact i7 h
  · intro h
    by_cases e : k = 4
    · subst e; exact updF_same _ _ _
    · rw [updF_ne _ _ (Ne.symm e)]
      by_cases e5 : k = 5
      · exact h5 e5
      · rw [updF_ne _ _ (Ne.symm e5)] at h; exact i8 h
theorem I8.app (h : I8 w0 n D S B br bb g bw C v acc st L x) (h6 : L 6 = false) (h5 : L 5 = true) (hb : Below B x x2) : I8 w0 n D S B br bb g bw C v acc st (updF L 6 true) x2 := by
  obtain ⟨cr, i1, i2, i3, i4, i5, i6, i7, i8⟩ := h
  have h4 := i8 h5
  have h8 : L 8 = false := by cases e : L 8 <;> simp; rw [i6 e] at h6; simp at h6
  refine ⟨cr, i1.keepB hb, ?_, ?_, ?_, ?_, ?_, ?_, ?_⟩
  · exact fun _ => i2 h8
  · rw [updF_ne _ _ (by decide), h8]; exact fun h => by simp at h
  · rw [updF_same]; exact fun h => by simp at h
  · rw [updF_ne _ _ (by decide), h4]; exact fun h => by simp at h
  · exact fun _ => updF_same _ _ _
  · rw [updF_ne (i := 6) (k := 4) _ _ (by decide)]; exact fun _ => h4
  · rw [updF_ne (i := 6) (k := 4) _ _ (by decide)]; exact fun _ => h4
theorem I8.store (h : I8 w0 n D S B br bb g bw C v acc st L x) (h6 : L 6 = true) (h8 : L 8 = false) {u : Value} (hu : OwnStrips x B u (acc ++ [st])) : I8 w0 n D S B br bb g bw C v acc st (updF L 8 true) (x.setCell ⟨br, 2, none⟩ u) := by
  obtain ⟨cr, i1, i2, i3, i4, i5, i6, i7, i8⟩ := h
  obtain rfl := i2 h8
  have h4 := i7 h6
  have ob := i1.ord
  refine ⟨_, i1.set 2 u, ?_, ?_, ?_, ?_, ?_, ?_, ?_⟩
  · rw [updF_same]; exact fun h => by simp at h
  · exact fun _ => ⟨u, rfl, hu.setR (by omega) _ _⟩
  · rw [updF_ne _ _ (by decide), h6]; exact fun h => by simp at h
  · rw [updF_ne _ _ (by decide), h4]; exact fun h => by simp at h
  · rw [updF_ne (i := 8) (k := 6) _ _ (by decide)]; exact fun _ => h6
  · rw [updF_ne (i := 8) (k := 4) _ _ (by decide)]; exact fun _ => h4
  · rw [updF_ne (i := 8) (k := 4) _ _ (by decide)]; exact fun _ => h4
end
set_option maxRecDepth 100000 in
set_option maxHeartbeats 4000000 in
theorem tkEA (w0 w : World) (B br bb g m : Nat) (C : Array Value) (dq : List Deferred) (oo : Nat ⊕ Roads) (i : Nat) (hi1 : 1 ≤ i) (hlt : i < m) (hm1 : m < 900) (D S : Int) (v : Value) (acc : List Strip) (hacc : acc.length ≤ 900) (l : List UInt8) (he : l = wEnd) (hA : (i : Int) + 1 < (m : Int)) (hoo : oo = .inl (i + 2)) (hl : l.length < 4294967281) (hC : C[i]? = some (.string ⟨l.toArray⟩)) (I0 : TJ w0 w B br bb g C (#[.int .i64 D, .int .i64 S, v])) (hown : OwnStrips w B v acc) (a0 : Act) (hsl : SlD a0 97 dq [(0, .slice (some ⟨g, 0, none⟩) (m + 1) (m + 1)), (2, .pointer (some ⟨br, 0, none⟩)), (3, .pointer (some ⟨bb, 0, none⟩)), (4, .int .i64 (m : Int)), (15, .slice (some ⟨g, 0, none⟩) m (m + 1)), (16, .int .i64 (m : Int)), (17, .int .i64 (i : Int))]) (Q : Exit → Act → World → Prop) (hpan : ∀ (k : Nat) a x c0 c1 c2, oo = .inl k → SlD a 97 dq [(2, .pointer (some ⟨br, 0, none⟩)), (3, .pointer (some ⟨bb, 0, none⟩))] → TJ w0 x B br bb g C (#[c0, c1, c2]) → Q (.panic (wrongP (k : Int))) a x) : (Code.seq (regionIn Tryz.f35 4) (Code.seq (Code.cond (Operand.tmp 18) Code.skip (Code.exit 0)) (Code.seq (Code.block 1 (Code.seq (regionIn Tryz.f35 5) (Code.seq (regionIn Tryz.f35 6) (Code.seq (regionIn Tryz.f35 7) (Code.block 2 (Code.seq (regionIn Tryz.f35 9) (Code.cond (Operand.tmp 35) (Code.seq (Code.seq (regionIn Tryz.f35 10) (Code.cond (Operand.tmp 58) (regionIn Tryz.f35 11) Code.skip)) (regionIn Tryz.f35 12)) (Code.seq (regionIn Tryz.f35 13) (Code.cond (Operand.tmp 73) (Code.seq (Code.seq (regionIn Tryz.f35 14) (Code.cond (Operand.tmp 86) (regionIn Tryz.f35 15) Code.skip)) (Code.seq (regionIn Tryz.f35 16) Code.ret)) (regionIn Tryz.f35 8)))))))))) (regionIn Tryz.f35 17)))).wp Tryz.prog Q a0 w := by
  have hcl := I0.kg.cell hC
  have hi0 : ((i : Int) == 0) = false := beq_falseI (by omega)
  have hw1 : IntKind.i64.wrap ((i : Int) + 1) = (i : Int) + 1 := wrap_small (by omega) (by omega)
  have hw2 : IntKind.i64.wrap ((i : Int) + 2) = (i : Int) + 2 := wrap_small (by omega) (by omega)
  have ee : (l == [101, 110, 100]) = true := by simpa [wEnd] using he
  clear he
  refine wp_seq ?_
  have e : regionIn Tryz.f35 4 = Code.region 4 _ false := rfl
  rw [e]; clear e
  refine wp_region ?_
  refine ops_go rfl rfl (fun K hK => ?_)
  have e16 := hsl.get 16 _ rfl
  have e17 := hsl.get 17 _ rfl
  unfold Oper.wp
  go_simp
  clear e16 e17
  refine hK _ _ ?_; clear hK
  refine hsl.go (by decide) ?_; clear hsl; intro a1 hsl
  refine ops_done ?_
  try simp only [Exit.then, Exit.inBlock, ↓reduceIte, Nat.reduceEqDiff]
  refine wp_seq ?_
  refine wp_cond_true (hsl.ev 18 rfl) ?_
  refine wp_skip ?_
  try simp only [Exit.then, Exit.inBlock, ↓reduceIte, Nat.reduceEqDiff]
  refine wp_seq ?_
  refine wp_block ?_
  refine wp_seq ?_
  have e : regionIn Tryz.f35 5 = Code.region 5 _ false := rfl
  rw [e]; clear e
  refine wp_region ?_
  refine ops_go rfl rfl (fun K hK => ?_)
  have e17 := hsl.get 17 _ rfl
  unfold Oper.wp
  go_simp
  clear e17
  refine hK _ _ ?_; clear hK
  refine hsl.go (by decide) ?_; clear hsl; intro a1 hsl
  refine ops_go rfl rfl (fun K hK => ?_)
  have e15 := hsl.get 15 _ rfl
  have e17 := hsl.get 17 _ rfl
  unfold Oper.wp
  go_simp
  clear e15 e17
  refine hK _ _ ?_; clear hK
  refine hsl.go (by decide) ?_; clear hsl; intro a1 hsl
  refine ops_go rfl rfl (fun K hK => ?_)
  have e20 := hsl.get 20 _ rfl
  unfold Oper.wp
  go_simp
  clear e20
  refine hK _ _ ?_; clear hK
  refine hsl.go (by decide) ?_; clear hsl; intro a1 hsl
  refine ops_go rfl rfl (fun K hK => ?_)
  have e19 := hsl.get 19 _ rfl
  unfold Oper.wp
  go_simp
  clear e19
  refine hK _ _ ?_; clear hK
  refine hsl.go (by decide) ?_; clear hsl; intro a1 hsl
  refine ops_go rfl rfl (fun K hK => ?_)
  have e21 := hsl.get 21 _ rfl
  unfold Oper.wp
  go_simp
  clear e21
  refine hK _ _ ?_; clear hK
  refine hsl.go (by decide) ?_; clear hsl; intro a1 hsl
  refine ops_done ?_
  try simp only [Exit.then, Exit.inBlock, ↓reduceIte, Nat.reduceEqDiff]
  refine wp_seq ?_
  have e : regionIn Tryz.f35 6 = Code.region 6 _ false := rfl
  rw [e]; clear e
  refine wp_region ?_
  refine ops_go rfl rfl (fun K hK => ?_)
  have e5 := hsl.get 5 _ rfl
  unfold Oper.wp
  go_simp
  clear e5
  refine hK _ _ ?_; clear hK
  refine hsl.go (by decide) ?_; clear hsl; intro a1 hsl
  refine ops_go rfl rfl (fun K hK => ?_)
  have e22 := hsl.get 22 _ rfl
  unfold Oper.wp
  go_simp
  clear e22
  refine hK _ _ ?_; clear hK
  refine hsl.go (by decide) ?_; clear hsl; intro a1 hsl
  refine ops_go rfl rfl (fun K hK => ?_)
  have e23 := hsl.get 23 _ rfl
  unfold Oper.wp
  go_simp
  clear e23
  refine hK _ _ ?_; clear hK
  refine hsl.go (by decide) ?_; clear hsl; intro a1 hsl
  refine ops_go rfl rfl (fun K hK => ?_)
  have hwB := I0.ord.2.2.2.2
  unfold Oper.wp
  go_simp
  refine hK _ _ ?_; clear hK
  refine hsl.go (by decide) ?_; clear hsl; intro a1 hsl
  refine alloc_rwB (G := fun W => wpOps _ _ _ _ _ W) ?_
  intro w1 hz1 XW hb
  clear hz1
  generalize hg1 : w.heap.size = bw at XW hsl; have hbw : B ≤ bw := by omega
  have hnb : ∀ b, (v : Value).ownBlock = some b → b ≠ bw := fun b hb => by have := (hown.at_block hb).2; omega
  clear hg1
  replace I0 := I0.keep hb
  replace hown := hown.below hb
  clear hb
  refine ops_go rfl rfl (fun K hK => ?_)
  have e7 := hsl.get 7 _ rfl
  have e24 := hsl.get 24 _ rfl
  have y0 := XW.cell (o := 0) rfl
  have f0 := XW.fz 0
  unfold Oper.wp
  go_simp
  clear e7 e24
  refine hK _ _ ?_; clear hK
  clear y0 f0
  replace XW := XW.set 0 (.int .i64 ((i : Int) + 1))
  replace XW : Rw _ bw #[.int .i64 ((i : Int) + 1)] 116 := XW
  have hbB : Below B w1 (w1.setCell ⟨bw, 0, none⟩ (.int .i64 ((i : Int) + 1))) := (Below.refl _ _).setCell (p := ⟨bw, 0, none⟩) hbw _
  replace I0 := I0.keepB hbB
  replace hown : OwnStrips (w1.setCell ⟨bw, 0, none⟩ (.int .i64 ((i : Int) + 1))) B v acc := hown.keep fun b hb => Below.heap_setCell _ ⟨bw, 0, none⟩ _ _ (hnb b hb)
  clear hnb
  generalize (World.setCell _ _ _) = w2 at XW I0 hown ⊢; clear hbB
  refine ops_done ?_
  try simp only [Exit.then, Exit.inBlock, ↓reduceIte, Nat.reduceEqDiff]
  refine wp_seq ?_
  have e : regionIn Tryz.f35 7 = Code.region 7 _ false := rfl
  rw [e]; clear e
  refine wp_region ?_
  refine ops_go rfl rfl (fun K hK => ?_)
  have e6 := hsl.get 6 _ rfl
  unfold Oper.wp
  go_simp
  clear e6
  refine hK _ _ ?_; clear hK
  refine hsl.go (by decide) ?_; clear hsl; intro a1 hsl
  refine ops_go rfl rfl (fun K hK => ?_)
  have e25 := hsl.get 25 _ rfl
  unfold Oper.wp
  go_simp
  have hB2 := I0.ord.2.2.2.2
  refine (split_any _ 32 l I0.mx hl).mono ?_
  rintro e w3 ⟨gw, hgw, rfl, XG, hb⟩
  replace I0 := I0.keep hb; replace XW := XW.below hb; replace hown := hown.below hb; clear hb hcl
  generalize (splitC 32 l).length = len
  clear e25
  refine hK _ _ ?_; clear hK
  refine hsl.go (by decide) ?_; clear hsl; intro a1 hsl
  refine ops_go rfl rfl (fun K hK => ?_)
  have e26 := hsl.get 26 _ rfl
  unfold Oper.wp
  go_simp
  clear e26
  refine hK _ _ ?_; clear hK
  refine hsl.go (by decide) ?_; clear hsl; intro a1 hsl
  refine ops_done ?_
  try simp only [Exit.then, Exit.inBlock, ↓reduceIte, Nat.reduceEqDiff]
  refine wp_block ?_
  refine wp_seq ?_
  have e : regionIn Tryz.f35 9 = Code.region 9 _ false := rfl
  rw [e]; clear e
  refine wp_region ?_
  refine ops_go rfl rfl (fun K hK => ?_)
  have e5 := hsl.get 5 _ rfl
  unfold Oper.wp
  go_simp
  clear e5
  refine hK _ _ ?_; clear hK
  refine hsl.go (by decide) ?_; clear hsl; intro a1 hsl
  refine ops_go rfl rfl (fun K hK => ?_)
  have e36 := hsl.get 36 _ rfl
  unfold Oper.wp
  go_simp
  clear e36
  refine hK _ _ ?_; clear hK
  refine hsl.go (by decide) ?_; clear hsl; intro a1 hsl
  refine ops_go rfl rfl (fun K hK => ?_)
  have e37 := hsl.get 37 _ rfl
  unfold Oper.wp
  go_simp
  clear e37
  refine hK _ _ ?_; clear hK
  refine hsl.go (by decide) ?_; clear hsl; intro a1 hsl
  refine ops_done ?_
  try simp only [Exit.then, Exit.inBlock, ↓reduceIte, Nat.reduceEqDiff]
  refine wp_cond_false (hsl.ev 35 rfl) ?_
  refine wp_seq ?_
  have e : regionIn Tryz.f35 13 = Code.region 13 _ false := rfl
  rw [e]; clear e
  refine wp_region ?_
  refine ops_go rfl rfl (fun K hK => ?_)
  have e6 := hsl.get 6 _ rfl
  unfold Oper.wp
  go_simp
  clear e6
  refine hK _ _ ?_; clear hK
  refine hsl.go (by decide) ?_; clear hsl; intro a1 hsl
  refine ops_go rfl rfl (fun K hK => ?_)
  have e74 := hsl.get 74 _ rfl
  unfold Oper.wp
  go_simp
  clear e74
  refine hK _ _ ?_; clear hK
  refine hsl.go (by decide) ?_; clear hsl; intro a1 hsl
  refine ops_go rfl rfl (fun K hK => ?_)
  have e75 := hsl.get 75 _ rfl
  unfold Oper.wp
  go_simp
  clear e75
  refine hK _ _ ?_; clear hK
  refine hsl.go (by decide) ?_; clear hsl; intro a1 hsl
  refine ops_done ?_
  try simp only [Exit.then, Exit.inBlock, ↓reduceIte, Nat.reduceEqDiff]
  refine wp_cond_true (hsl.ev 73 rfl) ?_
  refine wp_seq ?_
  refine wp_seq ?_
  have e : regionIn Tryz.f35 14 = Code.region 14 _ false := rfl
  rw [e]; clear e
  refine wp_region ?_
  refine ops_go rfl rfl (fun K hK => ?_)
  have e5 := hsl.get 5 _ rfl
  unfold Oper.wp
  go_simp
  clear e5
  refine hK _ _ ?_; clear hK
  refine hsl.go (by decide) ?_; clear hsl; intro a1 hsl
  refine ops_go rfl rfl (fun K hK => ?_)
  have e76 := hsl.get 76 _ rfl
  unfold Oper.wp
  go_simp
  clear e76
  refine hK _ _ ?_; clear hK
  refine hsl.go (by decide) ?_; clear hsl; intro a1 hsl
  refine ops_go rfl rfl (fun K hK => ?_)
  have e4 := hsl.get 4 _ rfl
  unfold Oper.wp
  go_simp
  clear e4
  refine hK _ _ ?_; clear hK
  refine hsl.go (by decide) ?_; clear hsl; intro a1 hsl
  refine ops_go rfl rfl (fun K hK => ?_)
  have e77 := hsl.get 77 _ rfl
  have e78 := hsl.get 78 _ rfl
  unfold Oper.wp
  go_simp
  clear e77 e78
  refine hK _ _ ?_; clear hK
  refine hsl.go (by decide) ?_; clear hsl; intro a1 hsl
  refine ops_go rfl rfl (fun K hK => ?_)
  have e79 := hsl.get 79 _ rfl
  unfold Oper.wp
  go_simp
  clear e79
  refine hK _ _ ?_; clear hK
  refine hsl.go (by decide) ?_; clear hsl; intro a1 hsl
  refine ops_skip rfl rfl rfl rfl (hsl.get 80 _ rfl) (by decide) ?_
  refine hsl.go (by decide) ?_; clear hsl; intro a1 hsl
  refine ops_skip rfl rfl rfl rfl (hsl.get 80 _ rfl) (by decide) ?_
  refine hsl.go (by decide) ?_; clear hsl; intro a1 hsl
  refine ops_skip rfl rfl rfl rfl (hsl.get 80 _ rfl) (by decide) ?_
  refine hsl.go (by decide) ?_; clear hsl; intro a1 hsl
  refine ops_skip rfl rfl rfl rfl (hsl.get 80 _ rfl) (by decide) ?_
  refine hsl.go (by decide) ?_; clear hsl; intro a1 hsl
  refine ops_skip rfl rfl rfl rfl (hsl.get 80 _ rfl) (by decide) ?_
  refine hsl.go (by decide) ?_; clear hsl; intro a1 hsl
  refine ops_go rfl rfl (fun K hK => ?_)
  have e80 := hsl.get 80 _ rfl
  have e85 := hsl.get 85 _ rfl
  unfold Oper.wp
  go_simp
  clear e80 e85
  refine hK _ _ ?_; clear hK
  refine hsl.go (by decide) ?_; clear hsl; intro a1 hsl
  refine ops_done ?_
  try simp only [Exit.then, Exit.inBlock, ↓reduceIte, Nat.reduceEqDiff]
  refine wp_cond_true (hsl.ev 86 rfl) ?_
  have e : regionIn Tryz.f35 15 = Code.region 15 _ false := rfl
  rw [e]; clear e
  refine wp_region ?_
  refine ops_go rfl rfl (fun K hK => ?_)
  have e5 := hsl.get 5 _ rfl
  unfold Oper.wp
  go_simp
  clear e5
  refine hK _ _ ?_; clear hK
  refine hsl.go (by decide) ?_; clear hsl; intro a1 hsl
  refine ops_go rfl rfl (fun K hK => ?_)
  have e87 := hsl.get 87 _ rfl
  unfold Oper.wp
  go_simp
  clear e87
  refine hK _ _ ?_; clear hK
  refine hsl.go (by decide) ?_; clear hsl; intro a1 hsl
  refine ops_go rfl rfl (fun K hK => ?_)
  have e88 := hsl.get 88 _ rfl
  unfold Oper.wp
  go_simp
  clear e88
  refine hK _ _ ?_; clear hK
  refine hsl.go (by decide) ?_; clear hsl; intro a1 hsl
  refine ops_go rfl rfl (fun K hK => ?_)
  have e89 := hsl.get 89 _ rfl
  unfold Oper.wp
  go_simp
  clear e89
  refine hK _ _ ?_; clear hK
  refine hsl.go (by decide) ?_; clear hsl; intro a1 hsl
  refine ops_go rfl rfl (fun K hK => ?_)
  have e90 := hsl.get 90 _ rfl
  unfold Oper.wp
  go_simp
  clear e90
  try simp only [Exit.then, Exit.inBlock, ↓reduceIte, Nat.reduceEqDiff]
  have ec : (((i + 2 : Nat)) : Int) = (i : Int) + 2 := by omega
  refine (show Q (.panic (wrongP ((i : Int) + 2))) _ _ from ?_)
  rw [← ec]
  exact hpan (i + 2) _ _ _ _ _ hoo ((hsl.nil.cons (hsl.get 3 _ rfl)).cons (hsl.get 2 _ rfl)) I0
set_option maxRecDepth 100000 in
set_option maxHeartbeats 4000000 in
theorem tkEB (w0 w : World) (B br bb g m : Nat) (C : Array Value) (dq : List Deferred) (oo : Nat ⊕ Roads) (i : Nat) (hi1 : 1 ≤ i) (hlt : i < m) (hm1 : m < 900) (D S : Int) (v : Value) (acc : List Strip) (hacc : acc.length ≤ 900) (l : List UInt8) (he : l = wEnd) (hA : ¬ (i : Int) + 1 < (m : Int)) (l2 : List UInt8) (hCm : C[m]? = some (.string ⟨l2.toArray⟩)) (hl2 : ¬ l2 = []) (hoo : oo = .inl (i + 2)) (hl : l.length < 4294967281) (hC : C[i]? = some (.string ⟨l.toArray⟩)) (I0 : TJ w0 w B br bb g C (#[.int .i64 D, .int .i64 S, v])) (hown : OwnStrips w B v acc) (a0 : Act) (hsl : SlD a0 97 dq [(0, .slice (some ⟨g, 0, none⟩) (m + 1) (m + 1)), (2, .pointer (some ⟨br, 0, none⟩)), (3, .pointer (some ⟨bb, 0, none⟩)), (4, .int .i64 (m : Int)), (15, .slice (some ⟨g, 0, none⟩) m (m + 1)), (16, .int .i64 (m : Int)), (17, .int .i64 (i : Int))]) (Q : Exit → Act → World → Prop) (hpan : ∀ (k : Nat) a x c0 c1 c2, oo = .inl k → SlD a 97 dq [(2, .pointer (some ⟨br, 0, none⟩)), (3, .pointer (some ⟨bb, 0, none⟩))] → TJ w0 x B br bb g C (#[c0, c1, c2]) → Q (.panic (wrongP (k : Int))) a x) : (Code.seq (regionIn Tryz.f35 4) (Code.seq (Code.cond (Operand.tmp 18) Code.skip (Code.exit 0)) (Code.seq (Code.block 1 (Code.seq (regionIn Tryz.f35 5) (Code.seq (regionIn Tryz.f35 6) (Code.seq (regionIn Tryz.f35 7) (Code.block 2 (Code.seq (regionIn Tryz.f35 9) (Code.cond (Operand.tmp 35) (Code.seq (Code.seq (regionIn Tryz.f35 10) (Code.cond (Operand.tmp 58) (regionIn Tryz.f35 11) Code.skip)) (regionIn Tryz.f35 12)) (Code.seq (regionIn Tryz.f35 13) (Code.cond (Operand.tmp 73) (Code.seq (Code.seq (regionIn Tryz.f35 14) (Code.cond (Operand.tmp 86) (regionIn Tryz.f35 15) Code.skip)) (Code.seq (regionIn Tryz.f35 16) Code.ret)) (regionIn Tryz.f35 8)))))))))) (regionIn Tryz.f35 17)))).wp Tryz.prog Q a0 w := by
  have hcl := I0.kg.cell hC
  have hi0 : ((i : Int) == 0) = false := beq_falseI (by omega)
  have hw1 : IntKind.i64.wrap ((i : Int) + 1) = (i : Int) + 1 := wrap_small (by omega) (by omega)
  have hw2 : IntKind.i64.wrap ((i : Int) + 2) = (i : Int) + 2 := wrap_small (by omega) (by omega)
  have ee : (l == [101, 110, 100]) = true := by simpa [wEnd] using he
  clear he
  have el : (l2 == []) = false := by simpa using hl2
  have hCm1 : (m : Int) < (m : Int) + 1 := by omega
  refine wp_seq ?_
  have e : regionIn Tryz.f35 4 = Code.region 4 _ false := rfl
  rw [e]; clear e
  refine wp_region ?_
  refine ops_go rfl rfl (fun K hK => ?_)
  have e16 := hsl.get 16 _ rfl
  have e17 := hsl.get 17 _ rfl
  unfold Oper.wp
  go_simp
  clear e16 e17
  refine hK _ _ ?_; clear hK
  refine hsl.go (by decide) ?_; clear hsl; intro a1 hsl
  refine ops_done ?_
  try simp only [Exit.then, Exit.inBlock, ↓reduceIte, Nat.reduceEqDiff]
  refine wp_seq ?_
  refine wp_cond_true (hsl.ev 18 rfl) ?_
  refine wp_skip ?_
  try simp only [Exit.then, Exit.inBlock, ↓reduceIte, Nat.reduceEqDiff]
  refine wp_seq ?_
  refine wp_block ?_
  refine wp_seq ?_
  have e : regionIn Tryz.f35 5 = Code.region 5 _ false := rfl
  rw [e]; clear e
  refine wp_region ?_
  refine ops_go rfl rfl (fun K hK => ?_)
  have e17 := hsl.get 17 _ rfl
  unfold Oper.wp
  go_simp
  clear e17
  refine hK _ _ ?_; clear hK
  refine hsl.go (by decide) ?_; clear hsl; intro a1 hsl
  refine ops_go rfl rfl (fun K hK => ?_)
  have e15 := hsl.get 15 _ rfl
  have e17 := hsl.get 17 _ rfl
  unfold Oper.wp
  go_simp
  clear e15 e17
  refine hK _ _ ?_; clear hK
  refine hsl.go (by decide) ?_; clear hsl; intro a1 hsl
  refine ops_go rfl rfl (fun K hK => ?_)
  have e20 := hsl.get 20 _ rfl
  unfold Oper.wp
  go_simp
  clear e20
  refine hK _ _ ?_; clear hK
  refine hsl.go (by decide) ?_; clear hsl; intro a1 hsl
  refine ops_go rfl rfl (fun K hK => ?_)
  have e19 := hsl.get 19 _ rfl
  unfold Oper.wp
  go_simp
  clear e19
  refine hK _ _ ?_; clear hK
  refine hsl.go (by decide) ?_; clear hsl; intro a1 hsl
  refine ops_go rfl rfl (fun K hK => ?_)
  have e21 := hsl.get 21 _ rfl
  unfold Oper.wp
  go_simp
  clear e21
  refine hK _ _ ?_; clear hK
  refine hsl.go (by decide) ?_; clear hsl; intro a1 hsl
  refine ops_done ?_
  try simp only [Exit.then, Exit.inBlock, ↓reduceIte, Nat.reduceEqDiff]
  refine wp_seq ?_
  have e : regionIn Tryz.f35 6 = Code.region 6 _ false := rfl
  rw [e]; clear e
  refine wp_region ?_
  refine ops_go rfl rfl (fun K hK => ?_)
  have e5 := hsl.get 5 _ rfl
  unfold Oper.wp
  go_simp
  clear e5
  refine hK _ _ ?_; clear hK
  refine hsl.go (by decide) ?_; clear hsl; intro a1 hsl
  refine ops_go rfl rfl (fun K hK => ?_)
  have e22 := hsl.get 22 _ rfl
  unfold Oper.wp
  go_simp
  clear e22
  refine hK _ _ ?_; clear hK
  refine hsl.go (by decide) ?_; clear hsl; intro a1 hsl
  refine ops_go rfl rfl (fun K hK => ?_)
  have e23 := hsl.get 23 _ rfl
  unfold Oper.wp
  go_simp
  clear e23
  refine hK _ _ ?_; clear hK
  refine hsl.go (by decide) ?_; clear hsl; intro a1 hsl
  refine ops_go rfl rfl (fun K hK => ?_)
  have hwB := I0.ord.2.2.2.2
  unfold Oper.wp
  go_simp
  refine hK _ _ ?_; clear hK
  refine hsl.go (by decide) ?_; clear hsl; intro a1 hsl
  refine alloc_rwB (G := fun W => wpOps _ _ _ _ _ W) ?_
  intro w1 hz1 XW hb
  clear hz1
  generalize hg1 : w.heap.size = bw at XW hsl; have hbw : B ≤ bw := by omega
  have hnb : ∀ b, (v : Value).ownBlock = some b → b ≠ bw := fun b hb => by have := (hown.at_block hb).2; omega
  clear hg1
  replace I0 := I0.keep hb
  replace hown := hown.below hb
  clear hb
  refine ops_go rfl rfl (fun K hK => ?_)
  have e7 := hsl.get 7 _ rfl
  have e24 := hsl.get 24 _ rfl
  have y0 := XW.cell (o := 0) rfl
  have f0 := XW.fz 0
  unfold Oper.wp
  go_simp
  clear e7 e24
  refine hK _ _ ?_; clear hK
  clear y0 f0
  replace XW := XW.set 0 (.int .i64 ((i : Int) + 1))
  replace XW : Rw _ bw #[.int .i64 ((i : Int) + 1)] 116 := XW
  have hbB : Below B w1 (w1.setCell ⟨bw, 0, none⟩ (.int .i64 ((i : Int) + 1))) := (Below.refl _ _).setCell (p := ⟨bw, 0, none⟩) hbw _
  replace I0 := I0.keepB hbB
  replace hown : OwnStrips (w1.setCell ⟨bw, 0, none⟩ (.int .i64 ((i : Int) + 1))) B v acc := hown.keep fun b hb => Below.heap_setCell _ ⟨bw, 0, none⟩ _ _ (hnb b hb)
  clear hnb
  generalize (World.setCell _ _ _) = w2 at XW I0 hown ⊢; clear hbB
  refine ops_done ?_
  try simp only [Exit.then, Exit.inBlock, ↓reduceIte, Nat.reduceEqDiff]
  refine wp_seq ?_
  have e : regionIn Tryz.f35 7 = Code.region 7 _ false := rfl
  rw [e]; clear e
  refine wp_region ?_
  refine ops_go rfl rfl (fun K hK => ?_)
  have e6 := hsl.get 6 _ rfl
  unfold Oper.wp
  go_simp
  clear e6
  refine hK _ _ ?_; clear hK
  refine hsl.go (by decide) ?_; clear hsl; intro a1 hsl
  refine ops_go rfl rfl (fun K hK => ?_)
  have e25 := hsl.get 25 _ rfl
  unfold Oper.wp
  go_simp
  have hB2 := I0.ord.2.2.2.2
  refine (split_any _ 32 l I0.mx hl).mono ?_
  rintro e w3 ⟨gw, hgw, rfl, XG, hb⟩
  replace I0 := I0.keep hb; replace XW := XW.below hb; replace hown := hown.below hb; clear hb hcl
  generalize (splitC 32 l).length = len
  clear e25
  refine hK _ _ ?_; clear hK
  refine hsl.go (by decide) ?_; clear hsl; intro a1 hsl
  refine ops_go rfl rfl (fun K hK => ?_)
  have e26 := hsl.get 26 _ rfl
  unfold Oper.wp
  go_simp
  clear e26
  refine hK _ _ ?_; clear hK
  refine hsl.go (by decide) ?_; clear hsl; intro a1 hsl
  refine ops_done ?_
  try simp only [Exit.then, Exit.inBlock, ↓reduceIte, Nat.reduceEqDiff]
  refine wp_block ?_
  refine wp_seq ?_
  have e : regionIn Tryz.f35 9 = Code.region 9 _ false := rfl
  rw [e]; clear e
  refine wp_region ?_
  refine ops_go rfl rfl (fun K hK => ?_)
  have e5 := hsl.get 5 _ rfl
  unfold Oper.wp
  go_simp
  clear e5
  refine hK _ _ ?_; clear hK
  refine hsl.go (by decide) ?_; clear hsl; intro a1 hsl
  refine ops_go rfl rfl (fun K hK => ?_)
  have e36 := hsl.get 36 _ rfl
  unfold Oper.wp
  go_simp
  clear e36
  refine hK _ _ ?_; clear hK
  refine hsl.go (by decide) ?_; clear hsl; intro a1 hsl
  refine ops_go rfl rfl (fun K hK => ?_)
  have e37 := hsl.get 37 _ rfl
  unfold Oper.wp
  go_simp
  clear e37
  refine hK _ _ ?_; clear hK
  refine hsl.go (by decide) ?_; clear hsl; intro a1 hsl
  refine ops_done ?_
  try simp only [Exit.then, Exit.inBlock, ↓reduceIte, Nat.reduceEqDiff]
  refine wp_cond_false (hsl.ev 35 rfl) ?_
  refine wp_seq ?_
  have e : regionIn Tryz.f35 13 = Code.region 13 _ false := rfl
  rw [e]; clear e
  refine wp_region ?_
  refine ops_go rfl rfl (fun K hK => ?_)
  have e6 := hsl.get 6 _ rfl
  unfold Oper.wp
  go_simp
  clear e6
  refine hK _ _ ?_; clear hK
  refine hsl.go (by decide) ?_; clear hsl; intro a1 hsl
  refine ops_go rfl rfl (fun K hK => ?_)
  have e74 := hsl.get 74 _ rfl
  unfold Oper.wp
  go_simp
  clear e74
  refine hK _ _ ?_; clear hK
  refine hsl.go (by decide) ?_; clear hsl; intro a1 hsl
  refine ops_go rfl rfl (fun K hK => ?_)
  have e75 := hsl.get 75 _ rfl
  unfold Oper.wp
  go_simp
  clear e75
  refine hK _ _ ?_; clear hK
  refine hsl.go (by decide) ?_; clear hsl; intro a1 hsl
  refine ops_done ?_
  try simp only [Exit.then, Exit.inBlock, ↓reduceIte, Nat.reduceEqDiff]
  refine wp_cond_true (hsl.ev 73 rfl) ?_
  refine wp_seq ?_
  refine wp_seq ?_
  have e : regionIn Tryz.f35 14 = Code.region 14 _ false := rfl
  rw [e]; clear e
  refine wp_region ?_
  refine ops_go rfl rfl (fun K hK => ?_)
  have e5 := hsl.get 5 _ rfl
  unfold Oper.wp
  go_simp
  clear e5
  refine hK _ _ ?_; clear hK
  refine hsl.go (by decide) ?_; clear hsl; intro a1 hsl
  refine ops_go rfl rfl (fun K hK => ?_)
  have e76 := hsl.get 76 _ rfl
  unfold Oper.wp
  go_simp
  clear e76
  refine hK _ _ ?_; clear hK
  refine hsl.go (by decide) ?_; clear hsl; intro a1 hsl
  refine ops_go rfl rfl (fun K hK => ?_)
  have e4 := hsl.get 4 _ rfl
  unfold Oper.wp
  go_simp
  clear e4
  refine hK _ _ ?_; clear hK
  refine hsl.go (by decide) ?_; clear hsl; intro a1 hsl
  refine ops_go rfl rfl (fun K hK => ?_)
  have e77 := hsl.get 77 _ rfl
  have e78 := hsl.get 78 _ rfl
  unfold Oper.wp
  go_simp
  clear e77 e78
  refine hK _ _ ?_; clear hK
  refine hsl.go (by decide) ?_; clear hsl; intro a1 hsl
  refine ops_go rfl rfl (fun K hK => ?_)
  have e79 := hsl.get 79 _ rfl
  unfold Oper.wp
  go_simp
  clear e79
  refine hK _ _ ?_; clear hK
  refine hsl.go (by decide) ?_; clear hsl; intro a1 hsl
  refine ops_want rfl rfl rfl rfl (hsl.get 80 _ rfl) (fun K hK => ?_)
  have e0 := hsl.get 0 _ rfl
  unfold Oper.wp
  go_simp
  clear e0
  refine hK _ _ ?_; clear hK
  refine hsl.go (by decide) ?_; clear hsl; intro a1 hsl
  refine ops_want rfl rfl rfl rfl (hsl.get 80 _ rfl) (fun K hK => ?_)
  have e4 := hsl.get 4 _ rfl
  unfold Oper.wp
  go_simp
  clear e4
  refine hK _ _ ?_; clear hK
  refine hsl.go (by decide) ?_; clear hsl; intro a1 hsl
  refine ops_want rfl rfl rfl rfl (hsl.get 80 _ rfl) (fun K hK => ?_)
  have e81 := hsl.get 81 _ rfl
  have e82 := hsl.get 82 _ rfl
  unfold Oper.wp
  go_simp
  clear e81 e82
  refine hK _ _ ?_; clear hK
  refine hsl.go (by decide) ?_; clear hsl; intro a1 hsl
  refine ops_want rfl rfl rfl rfl (hsl.get 80 _ rfl) (fun K hK => ?_)
  have e83 := hsl.get 83 _ rfl
  have hcm := I0.kg.cell hCm
  unfold Oper.wp
  go_simp
  clear e83
  refine hK _ _ ?_; clear hK
  refine hsl.go (by decide) ?_; clear hsl; intro a1 hsl
  refine ops_want rfl rfl rfl rfl (hsl.get 80 _ rfl) (fun K hK => ?_)
  have e84 := hsl.get 84 _ rfl
  unfold Oper.wp
  go_simp
  clear e84
  refine hK _ _ ?_; clear hK
  refine hsl.go (by decide) ?_; clear hsl; intro a1 hsl
  refine ops_go rfl rfl (fun K hK => ?_)
  have e80 := hsl.get 80 _ rfl
  have e85 := hsl.get 85 _ rfl
  unfold Oper.wp
  go_simp
  clear e80 e85
  refine hK _ _ ?_; clear hK
  refine hsl.go (by decide) ?_; clear hsl; intro a1 hsl
  refine ops_done ?_
  try simp only [Exit.then, Exit.inBlock, ↓reduceIte, Nat.reduceEqDiff]
  refine wp_cond_true (hsl.ev 86 rfl) ?_
  have e : regionIn Tryz.f35 15 = Code.region 15 _ false := rfl
  rw [e]; clear e
  refine wp_region ?_
  refine ops_go rfl rfl (fun K hK => ?_)
  have e5 := hsl.get 5 _ rfl
  unfold Oper.wp
  go_simp
  clear e5
  refine hK _ _ ?_; clear hK
  refine hsl.go (by decide) ?_; clear hsl; intro a1 hsl
  refine ops_go rfl rfl (fun K hK => ?_)
  have e87 := hsl.get 87 _ rfl
  unfold Oper.wp
  go_simp
  clear e87
  refine hK _ _ ?_; clear hK
  refine hsl.go (by decide) ?_; clear hsl; intro a1 hsl
  refine ops_go rfl rfl (fun K hK => ?_)
  have e88 := hsl.get 88 _ rfl
  unfold Oper.wp
  go_simp
  clear e88
  refine hK _ _ ?_; clear hK
  refine hsl.go (by decide) ?_; clear hsl; intro a1 hsl
  refine ops_go rfl rfl (fun K hK => ?_)
  have e89 := hsl.get 89 _ rfl
  unfold Oper.wp
  go_simp
  clear e89
  refine hK _ _ ?_; clear hK
  refine hsl.go (by decide) ?_; clear hsl; intro a1 hsl
  refine ops_go rfl rfl (fun K hK => ?_)
  have e90 := hsl.get 90 _ rfl
  unfold Oper.wp
  go_simp
  clear e90
  try simp only [Exit.then, Exit.inBlock, ↓reduceIte, Nat.reduceEqDiff]
  have ec : (((i + 2 : Nat)) : Int) = (i : Int) + 2 := by omega
  refine (show Q (.panic (wrongP ((i : Int) + 2))) _ _ from ?_)
  rw [← ec]
  exact hpan (i + 2) _ _ _ _ _ hoo ((hsl.nil.cons (hsl.get 3 _ rfl)).cons (hsl.get 2 _ rfl)) I0
set_option maxRecDepth 100000 in
set_option maxHeartbeats 4000000 in
theorem tkEC (w0 w : World) (B br bb g m : Nat) (C : Array Value) (dq : List Deferred) (oo : Nat ⊕ Roads) (i : Nat) (hi1 : 1 ≤ i) (hlt : i < m) (hm1 : m < 900) (D S : Int) (v : Value) (acc : List Strip) (hacc : acc.length ≤ 900) (l : List UInt8) (he : l = wEnd) (hA : ¬ (i : Int) + 1 < (m : Int)) (hCm : C[m]? = some (.string ⟨#[]⟩)) (hl : l.length < 4294967281) (hC : C[i]? = some (.string ⟨l.toArray⟩)) (I0 : TJ w0 w B br bb g C (#[.int .i64 D, .int .i64 S, v])) (hown : OwnStrips w B v acc) (a0 : Act) (hsl : SlD a0 97 dq [(0, .slice (some ⟨g, 0, none⟩) (m + 1) (m + 1)), (2, .pointer (some ⟨br, 0, none⟩)), (3, .pointer (some ⟨bb, 0, none⟩)), (4, .int .i64 (m : Int)), (15, .slice (some ⟨g, 0, none⟩) m (m + 1)), (16, .int .i64 (m : Int)), (17, .int .i64 (i : Int))]) (Q : Exit → Act → World → Prop) (hret : ∀ a x, SlD a 97 dq [(2, .pointer (some ⟨br, 0, none⟩)), (3, .pointer (some ⟨bb, 0, none⟩))] → TJ w0 x B br bb g C (#[.int .i64 D, .int .i64 S, v]) → OwnStrips x B v acc → Q .ret a x) : (Code.seq (regionIn Tryz.f35 4) (Code.seq (Code.cond (Operand.tmp 18) Code.skip (Code.exit 0)) (Code.seq (Code.block 1 (Code.seq (regionIn Tryz.f35 5) (Code.seq (regionIn Tryz.f35 6) (Code.seq (regionIn Tryz.f35 7) (Code.block 2 (Code.seq (regionIn Tryz.f35 9) (Code.cond (Operand.tmp 35) (Code.seq (Code.seq (regionIn Tryz.f35 10) (Code.cond (Operand.tmp 58) (regionIn Tryz.f35 11) Code.skip)) (regionIn Tryz.f35 12)) (Code.seq (regionIn Tryz.f35 13) (Code.cond (Operand.tmp 73) (Code.seq (Code.seq (regionIn Tryz.f35 14) (Code.cond (Operand.tmp 86) (regionIn Tryz.f35 15) Code.skip)) (Code.seq (regionIn Tryz.f35 16) Code.ret)) (regionIn Tryz.f35 8)))))))))) (regionIn Tryz.f35 17)))).wp Tryz.prog Q a0 w := by
  have hcl := I0.kg.cell hC
  have hi0 : ((i : Int) == 0) = false := beq_falseI (by omega)
  have hw1 : IntKind.i64.wrap ((i : Int) + 1) = (i : Int) + 1 := wrap_small (by omega) (by omega)
  have hw2 : IntKind.i64.wrap ((i : Int) + 2) = (i : Int) + 2 := wrap_small (by omega) (by omega)
  have ee : (l == [101, 110, 100]) = true := by simpa [wEnd] using he
  clear he
  have hCm1 : (m : Int) < (m : Int) + 1 := by omega
  refine wp_seq ?_
  have e : regionIn Tryz.f35 4 = Code.region 4 _ false := rfl
  rw [e]; clear e
  refine wp_region ?_
  refine ops_go rfl rfl (fun K hK => ?_)
  have e16 := hsl.get 16 _ rfl
  have e17 := hsl.get 17 _ rfl
  unfold Oper.wp
  go_simp
  clear e16 e17
  refine hK _ _ ?_; clear hK
  refine hsl.go (by decide) ?_; clear hsl; intro a1 hsl
  refine ops_done ?_
  try simp only [Exit.then, Exit.inBlock, ↓reduceIte, Nat.reduceEqDiff]
  refine wp_seq ?_
  refine wp_cond_true (hsl.ev 18 rfl) ?_
  refine wp_skip ?_
  try simp only [Exit.then, Exit.inBlock, ↓reduceIte, Nat.reduceEqDiff]
  refine wp_seq ?_
  refine wp_block ?_
  refine wp_seq ?_
  have e : regionIn Tryz.f35 5 = Code.region 5 _ false := rfl
  rw [e]; clear e
  refine wp_region ?_
  refine ops_go rfl rfl (fun K hK => ?_)
  have e17 := hsl.get 17 _ rfl
  unfold Oper.wp
  go_simp
  clear e17
  refine hK _ _ ?_; clear hK
  refine hsl.go (by decide) ?_; clear hsl; intro a1 hsl
  refine ops_go rfl rfl (fun K hK => ?_)
  have e15 := hsl.get 15 _ rfl
  have e17 := hsl.get 17 _ rfl
  unfold Oper.wp
  go_simp
  clear e15 e17
  refine hK _ _ ?_; clear hK
  refine hsl.go (by decide) ?_; clear hsl; intro a1 hsl
  refine ops_go rfl rfl (fun K hK => ?_)
  have e20 := hsl.get 20 _ rfl
  unfold Oper.wp
  go_simp
  clear e20
  refine hK _ _ ?_; clear hK
  refine hsl.go (by decide) ?_; clear hsl; intro a1 hsl
  refine ops_go rfl rfl (fun K hK => ?_)
  have e19 := hsl.get 19 _ rfl
  unfold Oper.wp
  go_simp
  clear e19
  refine hK _ _ ?_; clear hK
  refine hsl.go (by decide) ?_; clear hsl; intro a1 hsl
  refine ops_go rfl rfl (fun K hK => ?_)
  have e21 := hsl.get 21 _ rfl
  unfold Oper.wp
  go_simp
  clear e21
  refine hK _ _ ?_; clear hK
  refine hsl.go (by decide) ?_; clear hsl; intro a1 hsl
  refine ops_done ?_
  try simp only [Exit.then, Exit.inBlock, ↓reduceIte, Nat.reduceEqDiff]
  refine wp_seq ?_
  have e : regionIn Tryz.f35 6 = Code.region 6 _ false := rfl
  rw [e]; clear e
  refine wp_region ?_
  refine ops_go rfl rfl (fun K hK => ?_)
  have e5 := hsl.get 5 _ rfl
  unfold Oper.wp
  go_simp
  clear e5
  refine hK _ _ ?_; clear hK
  refine hsl.go (by decide) ?_; clear hsl; intro a1 hsl
  refine ops_go rfl rfl (fun K hK => ?_)
  have e22 := hsl.get 22 _ rfl
  unfold Oper.wp
  go_simp
  clear e22
  refine hK _ _ ?_; clear hK
  refine hsl.go (by decide) ?_; clear hsl; intro a1 hsl
  refine ops_go rfl rfl (fun K hK => ?_)
  have e23 := hsl.get 23 _ rfl
  unfold Oper.wp
  go_simp
  clear e23
  refine hK _ _ ?_; clear hK
  refine hsl.go (by decide) ?_; clear hsl; intro a1 hsl
  refine ops_go rfl rfl (fun K hK => ?_)
  have hwB := I0.ord.2.2.2.2
  unfold Oper.wp
  go_simp
  refine hK _ _ ?_; clear hK
  refine hsl.go (by decide) ?_; clear hsl; intro a1 hsl
  refine alloc_rwB (G := fun W => wpOps _ _ _ _ _ W) ?_
  intro w1 hz1 XW hb
  clear hz1
  generalize hg1 : w.heap.size = bw at XW hsl; have hbw : B ≤ bw := by omega
  have hnb : ∀ b, (v : Value).ownBlock = some b → b ≠ bw := fun b hb => by have := (hown.at_block hb).2; omega
  clear hg1
  replace I0 := I0.keep hb
  replace hown := hown.below hb
  clear hb
  refine ops_go rfl rfl (fun K hK => ?_)
  have e7 := hsl.get 7 _ rfl
  have e24 := hsl.get 24 _ rfl
  have y0 := XW.cell (o := 0) rfl
  have f0 := XW.fz 0
  unfold Oper.wp
  go_simp
  clear e7 e24
  refine hK _ _ ?_; clear hK
  clear y0 f0
  replace XW := XW.set 0 (.int .i64 ((i : Int) + 1))
  replace XW : Rw _ bw #[.int .i64 ((i : Int) + 1)] 116 := XW
  have hbB : Below B w1 (w1.setCell ⟨bw, 0, none⟩ (.int .i64 ((i : Int) + 1))) := (Below.refl _ _).setCell (p := ⟨bw, 0, none⟩) hbw _
  replace I0 := I0.keepB hbB
  replace hown : OwnStrips (w1.setCell ⟨bw, 0, none⟩ (.int .i64 ((i : Int) + 1))) B v acc := hown.keep fun b hb => Below.heap_setCell _ ⟨bw, 0, none⟩ _ _ (hnb b hb)
  clear hnb
  generalize (World.setCell _ _ _) = w2 at XW I0 hown ⊢; clear hbB
  refine ops_done ?_
  try simp only [Exit.then, Exit.inBlock, ↓reduceIte, Nat.reduceEqDiff]
  refine wp_seq ?_
  have e : regionIn Tryz.f35 7 = Code.region 7 _ false := rfl
  rw [e]; clear e
  refine wp_region ?_
  refine ops_go rfl rfl (fun K hK => ?_)
  have e6 := hsl.get 6 _ rfl
  unfold Oper.wp
  go_simp
  clear e6
  refine hK _ _ ?_; clear hK
  refine hsl.go (by decide) ?_; clear hsl; intro a1 hsl
  refine ops_go rfl rfl (fun K hK => ?_)
  have e25 := hsl.get 25 _ rfl
  unfold Oper.wp
  go_simp
  have hB2 := I0.ord.2.2.2.2
  refine (split_any _ 32 l I0.mx hl).mono ?_
  rintro e w3 ⟨gw, hgw, rfl, XG, hb⟩
  replace I0 := I0.keep hb; replace XW := XW.below hb; replace hown := hown.below hb; clear hb hcl
  generalize (splitC 32 l).length = len
  clear e25
  refine hK _ _ ?_; clear hK
  refine hsl.go (by decide) ?_; clear hsl; intro a1 hsl
  refine ops_go rfl rfl (fun K hK => ?_)
  have e26 := hsl.get 26 _ rfl
  unfold Oper.wp
  go_simp
  clear e26
  refine hK _ _ ?_; clear hK
  refine hsl.go (by decide) ?_; clear hsl; intro a1 hsl
  refine ops_done ?_
  try simp only [Exit.then, Exit.inBlock, ↓reduceIte, Nat.reduceEqDiff]
  refine wp_block ?_
  refine wp_seq ?_
  have e : regionIn Tryz.f35 9 = Code.region 9 _ false := rfl
  rw [e]; clear e
  refine wp_region ?_
  refine ops_go rfl rfl (fun K hK => ?_)
  have e5 := hsl.get 5 _ rfl
  unfold Oper.wp
  go_simp
  clear e5
  refine hK _ _ ?_; clear hK
  refine hsl.go (by decide) ?_; clear hsl; intro a1 hsl
  refine ops_go rfl rfl (fun K hK => ?_)
  have e36 := hsl.get 36 _ rfl
  unfold Oper.wp
  go_simp
  clear e36
  refine hK _ _ ?_; clear hK
  refine hsl.go (by decide) ?_; clear hsl; intro a1 hsl
  refine ops_go rfl rfl (fun K hK => ?_)
  have e37 := hsl.get 37 _ rfl
  unfold Oper.wp
  go_simp
  clear e37
  refine hK _ _ ?_; clear hK
  refine hsl.go (by decide) ?_; clear hsl; intro a1 hsl
  refine ops_done ?_
  try simp only [Exit.then, Exit.inBlock, ↓reduceIte, Nat.reduceEqDiff]
  refine wp_cond_false (hsl.ev 35 rfl) ?_
  refine wp_seq ?_
  have e : regionIn Tryz.f35 13 = Code.region 13 _ false := rfl
  rw [e]; clear e
  refine wp_region ?_
  refine ops_go rfl rfl (fun K hK => ?_)
  have e6 := hsl.get 6 _ rfl
  unfold Oper.wp
  go_simp
  clear e6
  refine hK _ _ ?_; clear hK
  refine hsl.go (by decide) ?_; clear hsl; intro a1 hsl
  refine ops_go rfl rfl (fun K hK => ?_)
  have e74 := hsl.get 74 _ rfl
  unfold Oper.wp
  go_simp
  clear e74
  refine hK _ _ ?_; clear hK
  refine hsl.go (by decide) ?_; clear hsl; intro a1 hsl
  refine ops_go rfl rfl (fun K hK => ?_)
  have e75 := hsl.get 75 _ rfl
  unfold Oper.wp
  go_simp
  clear e75
  refine hK _ _ ?_; clear hK
  refine hsl.go (by decide) ?_; clear hsl; intro a1 hsl
  refine ops_done ?_
  try simp only [Exit.then, Exit.inBlock, ↓reduceIte, Nat.reduceEqDiff]
  refine wp_cond_true (hsl.ev 73 rfl) ?_
  refine wp_seq ?_
  refine wp_seq ?_
  have e : regionIn Tryz.f35 14 = Code.region 14 _ false := rfl
  rw [e]; clear e
  refine wp_region ?_
  refine ops_go rfl rfl (fun K hK => ?_)
  have e5 := hsl.get 5 _ rfl
  unfold Oper.wp
  go_simp
  clear e5
  refine hK _ _ ?_; clear hK
  refine hsl.go (by decide) ?_; clear hsl; intro a1 hsl
  refine ops_go rfl rfl (fun K hK => ?_)
  have e76 := hsl.get 76 _ rfl
  unfold Oper.wp
  go_simp
  clear e76
  refine hK _ _ ?_; clear hK
  refine hsl.go (by decide) ?_; clear hsl; intro a1 hsl
  refine ops_go rfl rfl (fun K hK => ?_)
  have e4 := hsl.get 4 _ rfl
  unfold Oper.wp
  go_simp
  clear e4
  refine hK _ _ ?_; clear hK
  refine hsl.go (by decide) ?_; clear hsl; intro a1 hsl
  refine ops_go rfl rfl (fun K hK => ?_)
  have e77 := hsl.get 77 _ rfl
  have e78 := hsl.get 78 _ rfl
  unfold Oper.wp
  go_simp
  clear e77 e78
  refine hK _ _ ?_; clear hK
  refine hsl.go (by decide) ?_; clear hsl; intro a1 hsl
  refine ops_go rfl rfl (fun K hK => ?_)
  have e79 := hsl.get 79 _ rfl
  unfold Oper.wp
  go_simp
  clear e79
  refine hK _ _ ?_; clear hK
  refine hsl.go (by decide) ?_; clear hsl; intro a1 hsl
  refine ops_want rfl rfl rfl rfl (hsl.get 80 _ rfl) (fun K hK => ?_)
  have e0 := hsl.get 0 _ rfl
  unfold Oper.wp
  go_simp
  clear e0
  refine hK _ _ ?_; clear hK
  refine hsl.go (by decide) ?_; clear hsl; intro a1 hsl
  refine ops_want rfl rfl rfl rfl (hsl.get 80 _ rfl) (fun K hK => ?_)
  have e4 := hsl.get 4 _ rfl
  unfold Oper.wp
  go_simp
  clear e4
  refine hK _ _ ?_; clear hK
  refine hsl.go (by decide) ?_; clear hsl; intro a1 hsl
  refine ops_want rfl rfl rfl rfl (hsl.get 80 _ rfl) (fun K hK => ?_)
  have e81 := hsl.get 81 _ rfl
  have e82 := hsl.get 82 _ rfl
  unfold Oper.wp
  go_simp
  clear e81 e82
  refine hK _ _ ?_; clear hK
  refine hsl.go (by decide) ?_; clear hsl; intro a1 hsl
  refine ops_want rfl rfl rfl rfl (hsl.get 80 _ rfl) (fun K hK => ?_)
  have e83 := hsl.get 83 _ rfl
  have hcm := I0.kg.cell hCm
  unfold Oper.wp
  go_simp
  clear e83
  refine hK _ _ ?_; clear hK
  refine hsl.go (by decide) ?_; clear hsl; intro a1 hsl
  refine ops_want rfl rfl rfl rfl (hsl.get 80 _ rfl) (fun K hK => ?_)
  have e84 := hsl.get 84 _ rfl
  unfold Oper.wp
  go_simp
  clear e84
  refine hK _ _ ?_; clear hK
  refine hsl.go (by decide) ?_; clear hsl; intro a1 hsl
  refine ops_go rfl rfl (fun K hK => ?_)
  have e80 := hsl.get 80 _ rfl
  have e85 := hsl.get 85 _ rfl
  unfold Oper.wp
  go_simp
  clear e80 e85
  refine hK _ _ ?_; clear hK
  refine hsl.go (by decide) ?_; clear hsl; intro a1 hsl
  refine ops_done ?_
  try simp only [Exit.then, Exit.inBlock, ↓reduceIte, Nat.reduceEqDiff]
  refine wp_cond_false (hsl.ev 86 rfl) ?_
  refine wp_skip ?_
  try simp only [Exit.then, Exit.inBlock, ↓reduceIte, Nat.reduceEqDiff]
  refine wp_seq ?_
  have e : regionIn Tryz.f35 16 = Code.region 16 _ false := rfl
  rw [e]; clear e
  refine wp_region ?_
  refine ops_go rfl rfl (fun K hK => ?_)
  have e2 := hsl.get 2 _ rfl
  obtain ⟨va, vc, rfl⟩ := hown.form
  have y0 := I0.kr.cell (o := 0) rfl
  have y1 := I0.kr.cell (o := 1) rfl
  have y2 := I0.kr.cell (o := 2) rfl
  unfold Oper.wp
  go_simp
  clear e2
  refine hK _ _ ?_; clear hK
  refine hsl.go (by decide) ?_; clear hsl; intro a1 hsl
  clear y0 y1 y2
  refine ops_go rfl rfl (fun K hK => ?_)
  have e2 := hsl.get 2 _ rfl
  have e91 := hsl.get 91 _ rfl
  have y0 := I0.kr.cell (o := 0) rfl
  have f0 := I0.kr.fz 0
  have y1 := I0.kr.cell (o := 1) rfl
  have f1 := I0.kr.fz 1
  have y2 := I0.kr.cell (o := 2) rfl
  have f2 := I0.kr.fz 2
  unfold Oper.wp
  go_simp
  clear e2 e91
  refine hK _ _ ?_; clear hK
  clear y0 y1 y2 f0 f1 f2
  have ob := I0.ord
  replace hown := ((hown.setR (br := br) (by omega) 0 (.int .i64 D)).setR (br := br) (by omega) 1 (.int .i64 S)).setR (br := br) (by omega) 2 (.slice va acc.length vc)
  replace I0 := ((I0.set 0 (.int .i64 D)).set 1 (.int .i64 S)).set 2 (.slice va acc.length vc)
  replace I0 : TJ w0 _ B br bb g C (#[.int .i64 D, .int .i64 S, .slice va acc.length vc]) := I0
  generalize (World.setCell _ _ _) = w4 at I0 hown ⊢; clear ob
  refine ops_go rfl rfl (fun K hK => ?_)
  have e3 := hsl.get 3 _ rfl
  have y0 := I0.kb.cell (o := 0) rfl
  have f0 := I0.kb.fz 0
  unfold Oper.wp
  go_simp
  clear e3
  refine hK _ _ ?_; clear hK
  clear y0 f0
  have ob := I0.ord
  replace hown := hown.setR (br := bb) (by omega) 0 (.int .i64 0)
  replace I0 := I0.set0
  generalize (World.setCell _ _ _) = w5 at I0 hown ⊢; clear ob
  refine ops_done ?_
  try simp only [Exit.then, Exit.inBlock, ↓reduceIte, Nat.reduceEqDiff]
  refine wp_ret ?_
  try simp only [Exit.then, Exit.inBlock, ↓reduceIte, Nat.reduceEqDiff]
  exact hret _ _ ((hsl.nil.cons (hsl.get 3 _ rfl)).cons (hsl.get 2 _ rfl)) I0 hown
set_option maxRecDepth 100000 in
set_option maxHeartbeats 4000000 in
theorem tkN (w0 w : World) (B br bb g m : Nat) (C : Array Value) (dq : List Deferred) (oo : Nat ⊕ Roads) (i : Nat) (hi1 : 1 ≤ i) (hlt : i < m) (hm1 : m < 900) (D S : Int) (v : Value) (acc : List Strip) (hacc : acc.length ≤ 900) (l : List UInt8) (he : ¬ l = wEnd) (hst : stripV (splitC 32 l) = none) (hoo : oo = .inl (i + 1)) (hl : l.length < 4294967281) (hC : C[i]? = some (.string ⟨l.toArray⟩)) (I0 : TJ w0 w B br bb g C (#[.int .i64 D, .int .i64 S, v])) (hown : OwnStrips w B v acc) (a0 : Act) (hsl : SlD a0 97 dq [(0, .slice (some ⟨g, 0, none⟩) (m + 1) (m + 1)), (2, .pointer (some ⟨br, 0, none⟩)), (3, .pointer (some ⟨bb, 0, none⟩)), (4, .int .i64 (m : Int)), (15, .slice (some ⟨g, 0, none⟩) m (m + 1)), (16, .int .i64 (m : Int)), (17, .int .i64 (i : Int))]) (Q : Exit → Act → World → Prop) (hpan : ∀ (k : Nat) a x c0 c1 c2, oo = .inl k → SlD a 97 dq [(2, .pointer (some ⟨br, 0, none⟩)), (3, .pointer (some ⟨bb, 0, none⟩))] → TJ w0 x B br bb g C (#[c0, c1, c2]) → Q (.panic (wrongP (k : Int))) a x) : (Code.seq (regionIn Tryz.f35 4) (Code.seq (Code.cond (Operand.tmp 18) Code.skip (Code.exit 0)) (Code.seq (Code.block 1 (Code.seq (regionIn Tryz.f35 5) (Code.seq (regionIn Tryz.f35 6) (Code.seq (regionIn Tryz.f35 7) (Code.block 2 (Code.seq (regionIn Tryz.f35 9) (Code.cond (Operand.tmp 35) (Code.seq (Code.seq (regionIn Tryz.f35 10) (Code.cond (Operand.tmp 58) (regionIn Tryz.f35 11) Code.skip)) (regionIn Tryz.f35 12)) (Code.seq (regionIn Tryz.f35 13) (Code.cond (Operand.tmp 73) (Code.seq (Code.seq (regionIn Tryz.f35 14) (Code.cond (Operand.tmp 86) (regionIn Tryz.f35 15) Code.skip)) (Code.seq (regionIn Tryz.f35 16) Code.ret)) (regionIn Tryz.f35 8)))))))))) (regionIn Tryz.f35 17)))).wp Tryz.prog Q a0 w := by
  have hcl := I0.kg.cell hC
  have hi0 : ((i : Int) == 0) = false := beq_falseI (by omega)
  have hw1 : IntKind.i64.wrap ((i : Int) + 1) = (i : Int) + 1 := wrap_small (by omega) (by omega)
  have hw2 : IntKind.i64.wrap ((i : Int) + 2) = (i : Int) + 2 := wrap_small (by omega) (by omega)
  have ee : (l == [101, 110, 100]) = false := by simpa [wEnd] using he
  clear he
  refine wp_seq ?_
  have e : regionIn Tryz.f35 4 = Code.region 4 _ false := rfl
  rw [e]; clear e
  refine wp_region ?_
  refine ops_go rfl rfl (fun K hK => ?_)
  have e16 := hsl.get 16 _ rfl
  have e17 := hsl.get 17 _ rfl
  unfold Oper.wp
  go_simp
  clear e16 e17
  refine hK _ _ ?_; clear hK
  refine hsl.go (by decide) ?_; clear hsl; intro a1 hsl
  refine ops_done ?_
  try simp only [Exit.then, Exit.inBlock, ↓reduceIte, Nat.reduceEqDiff]
  refine wp_seq ?_
  refine wp_cond_true (hsl.ev 18 rfl) ?_
  refine wp_skip ?_
  try simp only [Exit.then, Exit.inBlock, ↓reduceIte, Nat.reduceEqDiff]
  refine wp_seq ?_
  refine wp_block ?_
  refine wp_seq ?_
  have e : regionIn Tryz.f35 5 = Code.region 5 _ false := rfl
  rw [e]; clear e
  refine wp_region ?_
  refine ops_go rfl rfl (fun K hK => ?_)
  have e17 := hsl.get 17 _ rfl
  unfold Oper.wp
  go_simp
  clear e17
  refine hK _ _ ?_; clear hK
  refine hsl.go (by decide) ?_; clear hsl; intro a1 hsl
  refine ops_go rfl rfl (fun K hK => ?_)
  have e15 := hsl.get 15 _ rfl
  have e17 := hsl.get 17 _ rfl
  unfold Oper.wp
  go_simp
  clear e15 e17
  refine hK _ _ ?_; clear hK
  refine hsl.go (by decide) ?_; clear hsl; intro a1 hsl
  refine ops_go rfl rfl (fun K hK => ?_)
  have e20 := hsl.get 20 _ rfl
  unfold Oper.wp
  go_simp
  clear e20
  refine hK _ _ ?_; clear hK
  refine hsl.go (by decide) ?_; clear hsl; intro a1 hsl
  refine ops_go rfl rfl (fun K hK => ?_)
  have e19 := hsl.get 19 _ rfl
  unfold Oper.wp
  go_simp
  clear e19
  refine hK _ _ ?_; clear hK
  refine hsl.go (by decide) ?_; clear hsl; intro a1 hsl
  refine ops_go rfl rfl (fun K hK => ?_)
  have e21 := hsl.get 21 _ rfl
  unfold Oper.wp
  go_simp
  clear e21
  refine hK _ _ ?_; clear hK
  refine hsl.go (by decide) ?_; clear hsl; intro a1 hsl
  refine ops_done ?_
  try simp only [Exit.then, Exit.inBlock, ↓reduceIte, Nat.reduceEqDiff]
  refine wp_seq ?_
  have e : regionIn Tryz.f35 6 = Code.region 6 _ false := rfl
  rw [e]; clear e
  refine wp_region ?_
  refine ops_go rfl rfl (fun K hK => ?_)
  have e5 := hsl.get 5 _ rfl
  unfold Oper.wp
  go_simp
  clear e5
  refine hK _ _ ?_; clear hK
  refine hsl.go (by decide) ?_; clear hsl; intro a1 hsl
  refine ops_go rfl rfl (fun K hK => ?_)
  have e22 := hsl.get 22 _ rfl
  unfold Oper.wp
  go_simp
  clear e22
  refine hK _ _ ?_; clear hK
  refine hsl.go (by decide) ?_; clear hsl; intro a1 hsl
  refine ops_go rfl rfl (fun K hK => ?_)
  have e23 := hsl.get 23 _ rfl
  unfold Oper.wp
  go_simp
  clear e23
  refine hK _ _ ?_; clear hK
  refine hsl.go (by decide) ?_; clear hsl; intro a1 hsl
  refine ops_go rfl rfl (fun K hK => ?_)
  have hwB := I0.ord.2.2.2.2
  unfold Oper.wp
  go_simp
  refine hK _ _ ?_; clear hK
  refine hsl.go (by decide) ?_; clear hsl; intro a1 hsl
  refine alloc_rwB (G := fun W => wpOps _ _ _ _ _ W) ?_
  intro w1 hz1 XW hb
  clear hz1
  generalize hg1 : w.heap.size = bw at XW hsl; have hbw : B ≤ bw := by omega
  have hnb : ∀ b, (v : Value).ownBlock = some b → b ≠ bw := fun b hb => by have := (hown.at_block hb).2; omega
  clear hg1
  replace I0 := I0.keep hb
  replace hown := hown.below hb
  clear hb
  refine ops_go rfl rfl (fun K hK => ?_)
  have e7 := hsl.get 7 _ rfl
  have e24 := hsl.get 24 _ rfl
  have y0 := XW.cell (o := 0) rfl
  have f0 := XW.fz 0
  unfold Oper.wp
  go_simp
  clear e7 e24
  refine hK _ _ ?_; clear hK
  clear y0 f0
  replace XW := XW.set 0 (.int .i64 ((i : Int) + 1))
  replace XW : Rw _ bw #[.int .i64 ((i : Int) + 1)] 116 := XW
  have hbB : Below B w1 (w1.setCell ⟨bw, 0, none⟩ (.int .i64 ((i : Int) + 1))) := (Below.refl _ _).setCell (p := ⟨bw, 0, none⟩) hbw _
  replace I0 := I0.keepB hbB
  replace hown : OwnStrips (w1.setCell ⟨bw, 0, none⟩ (.int .i64 ((i : Int) + 1))) B v acc := hown.keep fun b hb => Below.heap_setCell _ ⟨bw, 0, none⟩ _ _ (hnb b hb)
  clear hnb
  generalize (World.setCell _ _ _) = w2 at XW I0 hown ⊢; clear hbB
  refine ops_done ?_
  try simp only [Exit.then, Exit.inBlock, ↓reduceIte, Nat.reduceEqDiff]
  refine wp_seq ?_
  have e : regionIn Tryz.f35 7 = Code.region 7 _ false := rfl
  rw [e]; clear e
  refine wp_region ?_
  refine ops_go rfl rfl (fun K hK => ?_)
  have e6 := hsl.get 6 _ rfl
  unfold Oper.wp
  go_simp
  clear e6
  refine hK _ _ ?_; clear hK
  refine hsl.go (by decide) ?_; clear hsl; intro a1 hsl
  refine ops_go rfl rfl (fun K hK => ?_)
  have e25 := hsl.get 25 _ rfl
  unfold Oper.wp
  go_simp
  have hB2 := I0.ord.2.2.2.2
  refine (split_any _ 32 l I0.mx hl).mono ?_
  rintro e w3 ⟨gw, hgw, rfl, XG, hb⟩
  replace I0 := I0.keep hb; replace XW := XW.below hb; replace hown := hown.below hb; clear hb hcl
  generalize (splitC 32 l).length = len
  clear e25
  refine hK _ _ ?_; clear hK
  refine hsl.go (by decide) ?_; clear hsl; intro a1 hsl
  refine ops_go rfl rfl (fun K hK => ?_)
  have e26 := hsl.get 26 _ rfl
  unfold Oper.wp
  go_simp
  clear e26
  refine hK _ _ ?_; clear hK
  refine hsl.go (by decide) ?_; clear hsl; intro a1 hsl
  refine ops_done ?_
  try simp only [Exit.then, Exit.inBlock, ↓reduceIte, Nat.reduceEqDiff]
  refine wp_block ?_
  refine wp_seq ?_
  have e : regionIn Tryz.f35 9 = Code.region 9 _ false := rfl
  rw [e]; clear e
  refine wp_region ?_
  refine ops_go rfl rfl (fun K hK => ?_)
  have e5 := hsl.get 5 _ rfl
  unfold Oper.wp
  go_simp
  clear e5
  refine hK _ _ ?_; clear hK
  refine hsl.go (by decide) ?_; clear hsl; intro a1 hsl
  refine ops_go rfl rfl (fun K hK => ?_)
  have e36 := hsl.get 36 _ rfl
  unfold Oper.wp
  go_simp
  clear e36
  refine hK _ _ ?_; clear hK
  refine hsl.go (by decide) ?_; clear hsl; intro a1 hsl
  refine ops_go rfl rfl (fun K hK => ?_)
  have e37 := hsl.get 37 _ rfl
  unfold Oper.wp
  go_simp
  clear e37
  refine hK _ _ ?_; clear hK
  refine hsl.go (by decide) ?_; clear hsl; intro a1 hsl
  refine ops_done ?_
  try simp only [Exit.then, Exit.inBlock, ↓reduceIte, Nat.reduceEqDiff]
  refine wp_cond_false (hsl.ev 35 rfl) ?_
  refine wp_seq ?_
  have e : regionIn Tryz.f35 13 = Code.region 13 _ false := rfl
  rw [e]; clear e
  refine wp_region ?_
  refine ops_go rfl rfl (fun K hK => ?_)
  have e6 := hsl.get 6 _ rfl
  unfold Oper.wp
  go_simp
  clear e6
  refine hK _ _ ?_; clear hK
  refine hsl.go (by decide) ?_; clear hsl; intro a1 hsl
  refine ops_go rfl rfl (fun K hK => ?_)
  have e74 := hsl.get 74 _ rfl
  unfold Oper.wp
  go_simp
  clear e74
  refine hK _ _ ?_; clear hK
  refine hsl.go (by decide) ?_; clear hsl; intro a1 hsl
  refine ops_go rfl rfl (fun K hK => ?_)
  have e75 := hsl.get 75 _ rfl
  unfold Oper.wp
  go_simp
  clear e75
  refine hK _ _ ?_; clear hK
  refine hsl.go (by decide) ?_; clear hsl; intro a1 hsl
  refine ops_done ?_
  try simp only [Exit.then, Exit.inBlock, ↓reduceIte, Nat.reduceEqDiff]
  refine wp_cond_false (hsl.ev 73 rfl) ?_
  obtain ⟨st, hv⟩ : ∃ st : Strip, ∀ z, stripV (splitC 32 l) = some z → st = z := ⟨⟨0, 0, 0, 0, 0, 0, 0⟩, fun z h => by rw [hst] at h; simp at h⟩
  have ob := I0.ord
  clear ee hi0 hw2
  obtain ⟨va, vc, rfl⟩ := hown.form
  have hst2 := Lib.hid hst; clear hst
  have e : regionIn Tryz.f35 8 = Code.region 8 _ true := rfl
  rw [e]; clear e
  refine wp_region_inv2 (by kernel_rfl) (hsl.nil.cons (hsl.get 17 _ rfl) |>.cons (hsl.get 16 _ rfl) |>.cons (hsl.get 15 _ rfl) |>.cons (hsl.get 7 _ rfl) |>.cons (hsl.get 6 _ rfl) |>.cons (hsl.get 4 _ rfl) |>.cons (hsl.get 3 _ rfl) |>.cons (hsl.get 2 _ rfl) |>.cons (hsl.get 0 _ rfl)) [some 27, some 28, some 29, some 30, some 31, some 32, some 33, some 34, none] rfl rfl (by kernel_rfl) (V8 ((i : Int) + 1) B br (.slice va acc.length vc) l st acc) (I8 w0 ((i : Int) + 1) D S B br bb g bw C (.slice va acc.length vc) acc st) ⟨_, I0.drew, fun _ => rfl, fun h => by simp at h, fun _ => hown.below (Below.refl _ _).drew, fun _ => XW.below (Below.refl _ _).drew, fun h => by simp at h, fun h => by simp at h, fun h => by simp at h⟩ ?_ ?_
  · clear hsl; intro k o hkl ho L a x hI hLk hcl hsl hs hd
    have hlt2 : ∀ k : Nat, k < 9 → k = 0 ∨ k = 1 ∨ k = 2 ∨ k = 3 ∨ k = 4 ∨ k = 5 ∨ k = 6 ∨ k = 7 ∨ k = 8 := by decide
    obtain ⟨cr, i1, i2, i3, i4, i5, i6, i7, i8⟩ := id hI
    rcases hlt2 k hkl with rfl | rfl | rfl | rfl | rfl | rfl | rfl | rfl | rfl
    · obtain rfl := Option.some.inj ho
      have o1 := i1.ord
      have e2 := hsl.get 2 _ rfl
      clear hs hd hcl
      refine wpOp_go rfl rfl (fun K hK => ?_)
      unfold Oper.wp
      go_simp
      exact hK _ _ ⟨_, rfl, rfl, hI.next (by decide) (by decide) (fun h => by simp at h) (Below.refl _ _), fun j u _ h => V8.next (by decide) (Below.refl _ _) j u h⟩
    · obtain rfl := Option.some.inj ho
      have o1 := i1.ord
      have l8 : L 8 = false := by cases e : L 8 <;> simp; exact absurd (hcl 6 _ rfl (i6 e) 1 (waits_mem (by kernel_rfl))) (by rw [hLk]; simp)
      have hc2 := (show Rw x br _ _ from i2 l8 ▸ i1.kr).cell (o := 2) rfl
      obtain ⟨v27, e27, hv27⟩ := hs 0 _ 27 rfl rfl (hd 0 (waits_mem (by kernel_rfl)))
      obtain rfl := hv27
      clear hs hd hcl
      refine wpOp_go rfl rfl (fun K hK => ?_)
      unfold Oper.wp
      go_simp
      exact hK _ _ ⟨_, rfl, rfl, hI.next (by decide) (by decide) (fun h => by simp at h) (Below.refl _ _), fun j u _ h => V8.next (by decide) (Below.refl _ _) j u h⟩
    · obtain rfl := Option.some.inj ho
      have o1 := i1.ord
      have l4 : L 4 = false := by cases e : L 4 <;> simp; exact absurd (hcl 4 _ rfl e 2 (waits_mem (by kernel_rfl))) (by rw [hLk]; simp)
      have hbx := (show Rw x bw _ _ from i5 l4).cell (o := 0) rfl
      have e7 := hsl.get 7 _ rfl
      clear hs hd hcl
      refine wpOp_go rfl rfl (fun K hK => ?_)
      unfold Oper.wp
      go_simp
      exact hK _ _ ⟨_, rfl, rfl, hI.next (by decide) (by decide) (fun h => by simp at h) (Below.refl _ _), fun j u _ h => V8.next (by decide) (Below.refl _ _) j u h⟩
    · obtain rfl := Option.some.inj ho
      have o1 := i1.ord
      have e6 := hsl.get 6 _ rfl
      clear hs hd hcl
      refine wpOp_go rfl rfl (fun K hK => ?_)
      unfold Oper.wp
      go_simp
      exact hK _ _ ⟨_, rfl, rfl, hI.next (by decide) (by decide) (fun h => by simp at h) (Below.refl _ _), fun j u _ h => V8.next (by decide) (Below.refl _ _) j u h⟩
    · obtain rfl := Option.some.inj ho
      have o1 := i1.ord
      obtain ⟨v29, e29, hv29⟩ := hs 2 _ 29 rfl rfl (hd 2 (waits_mem (by kernel_rfl)))
      obtain rfl := hv29
      obtain ⟨v30, e30, hv30⟩ := hs 3 _ 30 rfl rfl (hd 3 (waits_mem (by kernel_rfl)))
      obtain rfl := hv30
      clear hs hd hcl
      refine wpOp_go rfl rfl (fun K hK => ?_)
      unfold Oper.wp
      go_simp
      refine (strip_any _ ((i : Int) + 1) l i1.mx hl).mono ?_
      rintro e x2 hp
      obtain ⟨hb, ⟨z, hz, rfl⟩ | ⟨hz, rfl⟩⟩ := hp.get
      · obtain rfl := hv z hz
        exact hK _ _ ⟨_, rfl, ⟨hz, rfl⟩, hI.next (by decide) (by decide) (fun h => by simp at h) hb, fun j u _ h => V8.next (by decide) hb j u h⟩
      · try simp only [Exit.then, Exit.inBlock, ↓reduceIte, Nat.reduceEqDiff]
        have l8 : L 8 = false := by cases e : L 8 <;> simp; have := i7 (i6 e); rw [hLk] at this; simp at this
        have ec : (((i + 1 : Nat)) : Int) = (i : Int) + 1 := by omega
        rw [← ec]
        exact hpan (i + 1) _ _ _ _ _ hoo ((hsl.nil.cons (hsl.get 3 _ rfl)).cons (hsl.get 2 _ rfl)) (i2 l8 ▸ i1.keep hb)
    · obtain rfl := Option.some.inj ho
      have o1 := i1.ord
      obtain ⟨v31, e31, hv31⟩ := hs 4 _ 31 rfl rfl (hd 4 (waits_mem (by kernel_rfl)))
      obtain ⟨hz, rfl⟩ := hv31
      have l4 : L 4 = true := hd 4 (waits_mem (by kernel_rfl))
      clear hs hd hcl
      refine wpOp_go rfl rfl (fun K hK => ?_)
      unfold Oper.wp
      go_simp
      have hb := alloc_below x (.cells #[.int .i64 st.A, .int .i64 st.B, .int .i64 st.L, .int .i64 st.W, .int .i64 st.K, .int .i64 st.X, .int .i64 st.Y] 63)
      exact hK _ _ ⟨_, rfl, ⟨_, rfl, fun _ => strip_own1 (Rw.new _ _ _)⟩, hI.next (by decide) (by decide) (fun _ => l4) hb, fun j u _ h => V8.next (by decide) hb j u h⟩
    · obtain rfl := Option.some.inj ho
      have o1 := i1.ord
      obtain ⟨v28, e28, hv28⟩ := hs 1 _ 28 rfl rfl (hd 1 (waits_mem (by kernel_rfl)))
      obtain rfl := hv28
      obtain ⟨v32, e32, hv32⟩ := hs 5 _ 32 rfl rfl (hd 5 (waits_mem (by kernel_rfl)))
      obtain ⟨gs, rfl, hgs⟩ := hv32
      have h5 : L 5 = true := hd 5 (waits_mem (by kernel_rfl))
      refine wpOp_go rfl rfl (fun K hK => ?_)
      refine wp_app_strips (.tmp 28) (.tmp 32) rfl B _ acc (by simp [Act.eval, Array.getD_eq_getD_getElem?, e28]) (i4 hLk) (some ⟨gs, 0, none⟩) 1 1 [st] rfl (by simp [Act.eval, Array.getD_eq_getD_getElem?, e32]) (hgs hLk) (by simp; omega) o1.2.2.2.2 ?_
      intro v2 x2 hv2 hb2 _
      exact hK _ _ ⟨_, rfl, hv2, hI.app hLk h5 hb2, fun j u hj h => V8.app hLk j u hj h⟩
    · obtain rfl := Option.some.inj ho
      have o1 := i1.ord
      have e2 := hsl.get 2 _ rfl
      clear hs hd hcl
      refine wpOp_go rfl rfl (fun K hK => ?_)
      unfold Oper.wp
      go_simp
      exact hK _ _ ⟨_, rfl, rfl, hI.next (by decide) (by decide) (fun h => by simp at h) (Below.refl _ _), fun j u _ h => V8.next (by decide) (Below.refl _ _) j u h⟩
    · obtain rfl := Option.some.inj ho
      have o1 := i1.ord
      obtain ⟨v33, e33, hv33⟩ := hs 6 _ 33 rfl rfl (hd 6 (waits_mem (by kernel_rfl)))
      obtain ⟨v34, e34, hv34⟩ := hs 7 _ 34 rfl rfl (hd 7 (waits_mem (by kernel_rfl)))
      obtain rfl := hv34
      obtain ⟨va3, vc3, rfl⟩ := (show OwnStrips x B v33 (acc ++ [st]) from hv33).form
      replace hv33 : OwnStrips x B _ (acc ++ [st]) := hv33
      simp only [List.length_append, List.length_cons, List.length_nil, Nat.zero_add] at hv33 e33
      have h6 : L 6 = true := hd 6 (waits_mem (by kernel_rfl))
      have y0 := (show Rw x br _ _ from i2 hLk ▸ i1.kr).cell (o := 2) rfl
      have f0 := (show Rw x br _ _ from i1.kr).fz 2
      clear hs hd hcl
      refine wpOp_go rfl rfl (fun K hK => ?_)
      unfold Oper.wp
      go_simp
      exact hK _ _ ⟨undef, rfl, trivial, hI.store h6 hLk hv33, fun j u _ h => V8.store h6 (by omega) _ j u h⟩
  · clear hsl; intro L a x hall hI hsl hs
    obtain ⟨u, _, hu, _⟩ := hs 4 _ 31 rfl rfl (hall 4 (by decide))
    rw [hst2.out] at hu; simp at hu
set_option maxRecDepth 100000 in
set_option maxHeartbeats 4000000 in
theorem tkS (w0 w : World) (B br bb g m : Nat) (C : Array Value) (dq : List Deferred) (oo : Nat ⊕ Roads) (i : Nat) (hi1 : 1 ≤ i) (hlt : i < m) (hm1 : m < 900) (D S : Int) (v : Value) (acc : List Strip) (hacc : acc.length ≤ 900) (l : List UInt8) (he : ¬ l = wEnd) (st : Strip) (hst : stripV (splitC 32 l) = some st) (hl : l.length < 4294967281) (hC : C[i]? = some (.string ⟨l.toArray⟩)) (I0 : TJ w0 w B br bb g C (#[.int .i64 D, .int .i64 S, v])) (hown : OwnStrips w B v acc) (a0 : Act) (hsl : SlD a0 97 dq [(0, .slice (some ⟨g, 0, none⟩) (m + 1) (m + 1)), (2, .pointer (some ⟨br, 0, none⟩)), (3, .pointer (some ⟨bb, 0, none⟩)), (4, .int .i64 (m : Int)), (15, .slice (some ⟨g, 0, none⟩) m (m + 1)), (16, .int .i64 (m : Int)), (17, .int .i64 (i : Int))]) (Q : Exit → Act → World → Prop) (hnext : ∀ v2 a x, SlD a 97 dq [(0, .slice (some ⟨g, 0, none⟩) (m + 1) (m + 1)), (2, .pointer (some ⟨br, 0, none⟩)), (3, .pointer (some ⟨bb, 0, none⟩)), (4, .int .i64 (m : Int)), (15, .slice (some ⟨g, 0, none⟩) m (m + 1)), (16, .int .i64 (m : Int)), (17, .int .i64 ((i : Int) + 1))] → TJ w0 x B br bb g C (#[.int .i64 D, .int .i64 S, v2]) → OwnStrips x B v2 (acc ++ [st]) → Q .normal a x) : (Code.seq (regionIn Tryz.f35 4) (Code.seq (Code.cond (Operand.tmp 18) Code.skip (Code.exit 0)) (Code.seq (Code.block 1 (Code.seq (regionIn Tryz.f35 5) (Code.seq (regionIn Tryz.f35 6) (Code.seq (regionIn Tryz.f35 7) (Code.block 2 (Code.seq (regionIn Tryz.f35 9) (Code.cond (Operand.tmp 35) (Code.seq (Code.seq (regionIn Tryz.f35 10) (Code.cond (Operand.tmp 58) (regionIn Tryz.f35 11) Code.skip)) (regionIn Tryz.f35 12)) (Code.seq (regionIn Tryz.f35 13) (Code.cond (Operand.tmp 73) (Code.seq (Code.seq (regionIn Tryz.f35 14) (Code.cond (Operand.tmp 86) (regionIn Tryz.f35 15) Code.skip)) (Code.seq (regionIn Tryz.f35 16) Code.ret)) (regionIn Tryz.f35 8)))))))))) (regionIn Tryz.f35 17)))).wp Tryz.prog Q a0 w := by
  have hcl := I0.kg.cell hC
  have hi0 : ((i : Int) == 0) = false := beq_falseI (by omega)
  have hw1 : IntKind.i64.wrap ((i : Int) + 1) = (i : Int) + 1 := wrap_small (by omega) (by omega)
  have hw2 : IntKind.i64.wrap ((i : Int) + 2) = (i : Int) + 2 := wrap_small (by omega) (by omega)
  have ee : (l == [101, 110, 100]) = false := by simpa [wEnd] using he
  clear he
  refine wp_seq ?_
  have e : regionIn Tryz.f35 4 = Code.region 4 _ false := rfl
  rw [e]; clear e
  refine wp_region ?_
  refine ops_go rfl rfl (fun K hK => ?_)
  have e16 := hsl.get 16 _ rfl
  have e17 := hsl.get 17 _ rfl
  unfold Oper.wp
  go_simp
  clear e16 e17
  refine hK _ _ ?_; clear hK
  refine hsl.go (by decide) ?_; clear hsl; intro a1 hsl
  refine ops_done ?_
  try simp only [Exit.then, Exit.inBlock, ↓reduceIte, Nat.reduceEqDiff]
  refine wp_seq ?_
  refine wp_cond_true (hsl.ev 18 rfl) ?_
  refine wp_skip ?_
  try simp only [Exit.then, Exit.inBlock, ↓reduceIte, Nat.reduceEqDiff]
  refine wp_seq ?_
  refine wp_block ?_
  refine wp_seq ?_
  have e : regionIn Tryz.f35 5 = Code.region 5 _ false := rfl
  rw [e]; clear e
  refine wp_region ?_
  refine ops_go rfl rfl (fun K hK => ?_)
  have e17 := hsl.get 17 _ rfl
  unfold Oper.wp
  go_simp
  clear e17
  refine hK _ _ ?_; clear hK
  refine hsl.go (by decide) ?_; clear hsl; intro a1 hsl
  refine ops_go rfl rfl (fun K hK => ?_)
  have e15 := hsl.get 15 _ rfl
  have e17 := hsl.get 17 _ rfl
  unfold Oper.wp
  go_simp
  clear e15 e17
  refine hK _ _ ?_; clear hK
  refine hsl.go (by decide) ?_; clear hsl; intro a1 hsl
  refine ops_go rfl rfl (fun K hK => ?_)
  have e20 := hsl.get 20 _ rfl
  unfold Oper.wp
  go_simp
  clear e20
  refine hK _ _ ?_; clear hK
  refine hsl.go (by decide) ?_; clear hsl; intro a1 hsl
  refine ops_go rfl rfl (fun K hK => ?_)
  have e19 := hsl.get 19 _ rfl
  unfold Oper.wp
  go_simp
  clear e19
  refine hK _ _ ?_; clear hK
  refine hsl.go (by decide) ?_; clear hsl; intro a1 hsl
  refine ops_go rfl rfl (fun K hK => ?_)
  have e21 := hsl.get 21 _ rfl
  unfold Oper.wp
  go_simp
  clear e21
  refine hK _ _ ?_; clear hK
  refine hsl.go (by decide) ?_; clear hsl; intro a1 hsl
  refine ops_done ?_
  try simp only [Exit.then, Exit.inBlock, ↓reduceIte, Nat.reduceEqDiff]
  refine wp_seq ?_
  have e : regionIn Tryz.f35 6 = Code.region 6 _ false := rfl
  rw [e]; clear e
  refine wp_region ?_
  refine ops_go rfl rfl (fun K hK => ?_)
  have e5 := hsl.get 5 _ rfl
  unfold Oper.wp
  go_simp
  clear e5
  refine hK _ _ ?_; clear hK
  refine hsl.go (by decide) ?_; clear hsl; intro a1 hsl
  refine ops_go rfl rfl (fun K hK => ?_)
  have e22 := hsl.get 22 _ rfl
  unfold Oper.wp
  go_simp
  clear e22
  refine hK _ _ ?_; clear hK
  refine hsl.go (by decide) ?_; clear hsl; intro a1 hsl
  refine ops_go rfl rfl (fun K hK => ?_)
  have e23 := hsl.get 23 _ rfl
  unfold Oper.wp
  go_simp
  clear e23
  refine hK _ _ ?_; clear hK
  refine hsl.go (by decide) ?_; clear hsl; intro a1 hsl
  refine ops_go rfl rfl (fun K hK => ?_)
  have hwB := I0.ord.2.2.2.2
  unfold Oper.wp
  go_simp
  refine hK _ _ ?_; clear hK
  refine hsl.go (by decide) ?_; clear hsl; intro a1 hsl
  refine alloc_rwB (G := fun W => wpOps _ _ _ _ _ W) ?_
  intro w1 hz1 XW hb
  clear hz1
  generalize hg1 : w.heap.size = bw at XW hsl; have hbw : B ≤ bw := by omega
  have hnb : ∀ b, (v : Value).ownBlock = some b → b ≠ bw := fun b hb => by have := (hown.at_block hb).2; omega
  clear hg1
  replace I0 := I0.keep hb
  replace hown := hown.below hb
  clear hb
  refine ops_go rfl rfl (fun K hK => ?_)
  have e7 := hsl.get 7 _ rfl
  have e24 := hsl.get 24 _ rfl
  have y0 := XW.cell (o := 0) rfl
  have f0 := XW.fz 0
  unfold Oper.wp
  go_simp
  clear e7 e24
  refine hK _ _ ?_; clear hK
  clear y0 f0
  replace XW := XW.set 0 (.int .i64 ((i : Int) + 1))
  replace XW : Rw _ bw #[.int .i64 ((i : Int) + 1)] 116 := XW
  have hbB : Below B w1 (w1.setCell ⟨bw, 0, none⟩ (.int .i64 ((i : Int) + 1))) := (Below.refl _ _).setCell (p := ⟨bw, 0, none⟩) hbw _
  replace I0 := I0.keepB hbB
  replace hown : OwnStrips (w1.setCell ⟨bw, 0, none⟩ (.int .i64 ((i : Int) + 1))) B v acc := hown.keep fun b hb => Below.heap_setCell _ ⟨bw, 0, none⟩ _ _ (hnb b hb)
  clear hnb
  generalize (World.setCell _ _ _) = w2 at XW I0 hown ⊢; clear hbB
  refine ops_done ?_
  try simp only [Exit.then, Exit.inBlock, ↓reduceIte, Nat.reduceEqDiff]
  refine wp_seq ?_
  have e : regionIn Tryz.f35 7 = Code.region 7 _ false := rfl
  rw [e]; clear e
  refine wp_region ?_
  refine ops_go rfl rfl (fun K hK => ?_)
  have e6 := hsl.get 6 _ rfl
  unfold Oper.wp
  go_simp
  clear e6
  refine hK _ _ ?_; clear hK
  refine hsl.go (by decide) ?_; clear hsl; intro a1 hsl
  refine ops_go rfl rfl (fun K hK => ?_)
  have e25 := hsl.get 25 _ rfl
  unfold Oper.wp
  go_simp
  have hB2 := I0.ord.2.2.2.2
  refine (split_any _ 32 l I0.mx hl).mono ?_
  rintro e w3 ⟨gw, hgw, rfl, XG, hb⟩
  replace I0 := I0.keep hb; replace XW := XW.below hb; replace hown := hown.below hb; clear hb hcl
  generalize (splitC 32 l).length = len
  clear e25
  refine hK _ _ ?_; clear hK
  refine hsl.go (by decide) ?_; clear hsl; intro a1 hsl
  refine ops_go rfl rfl (fun K hK => ?_)
  have e26 := hsl.get 26 _ rfl
  unfold Oper.wp
  go_simp
  clear e26
  refine hK _ _ ?_; clear hK
  refine hsl.go (by decide) ?_; clear hsl; intro a1 hsl
  refine ops_done ?_
  try simp only [Exit.then, Exit.inBlock, ↓reduceIte, Nat.reduceEqDiff]
  refine wp_block ?_
  refine wp_seq ?_
  have e : regionIn Tryz.f35 9 = Code.region 9 _ false := rfl
  rw [e]; clear e
  refine wp_region ?_
  refine ops_go rfl rfl (fun K hK => ?_)
  have e5 := hsl.get 5 _ rfl
  unfold Oper.wp
  go_simp
  clear e5
  refine hK _ _ ?_; clear hK
  refine hsl.go (by decide) ?_; clear hsl; intro a1 hsl
  refine ops_go rfl rfl (fun K hK => ?_)
  have e36 := hsl.get 36 _ rfl
  unfold Oper.wp
  go_simp
  clear e36
  refine hK _ _ ?_; clear hK
  refine hsl.go (by decide) ?_; clear hsl; intro a1 hsl
  refine ops_go rfl rfl (fun K hK => ?_)
  have e37 := hsl.get 37 _ rfl
  unfold Oper.wp
  go_simp
  clear e37
  refine hK _ _ ?_; clear hK
  refine hsl.go (by decide) ?_; clear hsl; intro a1 hsl
  refine ops_done ?_
  try simp only [Exit.then, Exit.inBlock, ↓reduceIte, Nat.reduceEqDiff]
  refine wp_cond_false (hsl.ev 35 rfl) ?_
  refine wp_seq ?_
  have e : regionIn Tryz.f35 13 = Code.region 13 _ false := rfl
  rw [e]; clear e
  refine wp_region ?_
  refine ops_go rfl rfl (fun K hK => ?_)
  have e6 := hsl.get 6 _ rfl
  unfold Oper.wp
  go_simp
  clear e6
  refine hK _ _ ?_; clear hK
  refine hsl.go (by decide) ?_; clear hsl; intro a1 hsl
  refine ops_go rfl rfl (fun K hK => ?_)
  have e74 := hsl.get 74 _ rfl
  unfold Oper.wp
  go_simp
  clear e74
  refine hK _ _ ?_; clear hK
  refine hsl.go (by decide) ?_; clear hsl; intro a1 hsl
  refine ops_go rfl rfl (fun K hK => ?_)
  have e75 := hsl.get 75 _ rfl
  unfold Oper.wp
  go_simp
  clear e75
  refine hK _ _ ?_; clear hK
  refine hsl.go (by decide) ?_; clear hsl; intro a1 hsl
  refine ops_done ?_
  try simp only [Exit.then, Exit.inBlock, ↓reduceIte, Nat.reduceEqDiff]
  refine wp_cond_false (hsl.ev 73 rfl) ?_
  have hv : ∀ z, stripV (splitC 32 l) = some z → st = z := fun z h => by rw [hst] at h; exact Option.some.inj h
  have ob := I0.ord
  clear ee hi0 hw2
  obtain ⟨va, vc, rfl⟩ := hown.form
  have hst2 := Lib.hid hst; clear hst
  have e : regionIn Tryz.f35 8 = Code.region 8 _ true := rfl
  rw [e]; clear e
  refine wp_region_inv2 (by kernel_rfl) (hsl.nil.cons (hsl.get 17 _ rfl) |>.cons (hsl.get 16 _ rfl) |>.cons (hsl.get 15 _ rfl) |>.cons (hsl.get 7 _ rfl) |>.cons (hsl.get 6 _ rfl) |>.cons (hsl.get 4 _ rfl) |>.cons (hsl.get 3 _ rfl) |>.cons (hsl.get 2 _ rfl) |>.cons (hsl.get 0 _ rfl)) [some 27, some 28, some 29, some 30, some 31, some 32, some 33, some 34, none] rfl rfl (by kernel_rfl) (V8 ((i : Int) + 1) B br (.slice va acc.length vc) l st acc) (I8 w0 ((i : Int) + 1) D S B br bb g bw C (.slice va acc.length vc) acc st) ⟨_, I0.drew, fun _ => rfl, fun h => by simp at h, fun _ => hown.below (Below.refl _ _).drew, fun _ => XW.below (Below.refl _ _).drew, fun h => by simp at h, fun h => by simp at h, fun h => by simp at h⟩ ?_ ?_
  · clear hsl; intro k o hkl ho L a x hI hLk hcl hsl hs hd
    have hlt2 : ∀ k : Nat, k < 9 → k = 0 ∨ k = 1 ∨ k = 2 ∨ k = 3 ∨ k = 4 ∨ k = 5 ∨ k = 6 ∨ k = 7 ∨ k = 8 := by decide
    obtain ⟨cr, i1, i2, i3, i4, i5, i6, i7, i8⟩ := id hI
    rcases hlt2 k hkl with rfl | rfl | rfl | rfl | rfl | rfl | rfl | rfl | rfl
    · obtain rfl := Option.some.inj ho
      have o1 := i1.ord
      have e2 := hsl.get 2 _ rfl
      clear hs hd hcl
      refine wpOp_go rfl rfl (fun K hK => ?_)
      unfold Oper.wp
      go_simp
      exact hK _ _ ⟨_, rfl, rfl, hI.next (by decide) (by decide) (fun h => by simp at h) (Below.refl _ _), fun j u _ h => V8.next (by decide) (Below.refl _ _) j u h⟩
    · obtain rfl := Option.some.inj ho
      have o1 := i1.ord
      have l8 : L 8 = false := by cases e : L 8 <;> simp; exact absurd (hcl 6 _ rfl (i6 e) 1 (waits_mem (by kernel_rfl))) (by rw [hLk]; simp)
      have hc2 := (show Rw x br _ _ from i2 l8 ▸ i1.kr).cell (o := 2) rfl
      obtain ⟨v27, e27, hv27⟩ := hs 0 _ 27 rfl rfl (hd 0 (waits_mem (by kernel_rfl)))
      obtain rfl := hv27
      clear hs hd hcl
      refine wpOp_go rfl rfl (fun K hK => ?_)
      unfold Oper.wp
      go_simp
      exact hK _ _ ⟨_, rfl, rfl, hI.next (by decide) (by decide) (fun h => by simp at h) (Below.refl _ _), fun j u _ h => V8.next (by decide) (Below.refl _ _) j u h⟩
    · obtain rfl := Option.some.inj ho
      have o1 := i1.ord
      have l4 : L 4 = false := by cases e : L 4 <;> simp; exact absurd (hcl 4 _ rfl e 2 (waits_mem (by kernel_rfl))) (by rw [hLk]; simp)
      have hbx := (show Rw x bw _ _ from i5 l4).cell (o := 0) rfl
      have e7 := hsl.get 7 _ rfl
      clear hs hd hcl
      refine wpOp_go rfl rfl (fun K hK => ?_)
      unfold Oper.wp
      go_simp
      exact hK _ _ ⟨_, rfl, rfl, hI.next (by decide) (by decide) (fun h => by simp at h) (Below.refl _ _), fun j u _ h => V8.next (by decide) (Below.refl _ _) j u h⟩
    · obtain rfl := Option.some.inj ho
      have o1 := i1.ord
      have e6 := hsl.get 6 _ rfl
      clear hs hd hcl
      refine wpOp_go rfl rfl (fun K hK => ?_)
      unfold Oper.wp
      go_simp
      exact hK _ _ ⟨_, rfl, rfl, hI.next (by decide) (by decide) (fun h => by simp at h) (Below.refl _ _), fun j u _ h => V8.next (by decide) (Below.refl _ _) j u h⟩
    · obtain rfl := Option.some.inj ho
      have o1 := i1.ord
      obtain ⟨v29, e29, hv29⟩ := hs 2 _ 29 rfl rfl (hd 2 (waits_mem (by kernel_rfl)))
      obtain rfl := hv29
      obtain ⟨v30, e30, hv30⟩ := hs 3 _ 30 rfl rfl (hd 3 (waits_mem (by kernel_rfl)))
      obtain rfl := hv30
      clear hs hd hcl
      refine wpOp_go rfl rfl (fun K hK => ?_)
      unfold Oper.wp
      go_simp
      refine (strip_any _ ((i : Int) + 1) l i1.mx hl).mono ?_
      rintro e x2 hp
      obtain ⟨hb, ⟨z, hz, rfl⟩ | ⟨hz, rfl⟩⟩ := hp.get
      · obtain rfl := hv z hz
        exact hK _ _ ⟨_, rfl, ⟨hz, rfl⟩, hI.next (by decide) (by decide) (fun h => by simp at h) hb, fun j u _ h => V8.next (by decide) hb j u h⟩
      · rw [hst2.out] at hz; simp at hz
    · obtain rfl := Option.some.inj ho
      have o1 := i1.ord
      obtain ⟨v31, e31, hv31⟩ := hs 4 _ 31 rfl rfl (hd 4 (waits_mem (by kernel_rfl)))
      obtain ⟨hz, rfl⟩ := hv31
      have l4 : L 4 = true := hd 4 (waits_mem (by kernel_rfl))
      clear hs hd hcl
      refine wpOp_go rfl rfl (fun K hK => ?_)
      unfold Oper.wp
      go_simp
      have hb := alloc_below x (.cells #[.int .i64 st.A, .int .i64 st.B, .int .i64 st.L, .int .i64 st.W, .int .i64 st.K, .int .i64 st.X, .int .i64 st.Y] 63)
      exact hK _ _ ⟨_, rfl, ⟨_, rfl, fun _ => strip_own1 (Rw.new _ _ _)⟩, hI.next (by decide) (by decide) (fun _ => l4) hb, fun j u _ h => V8.next (by decide) hb j u h⟩
    · obtain rfl := Option.some.inj ho
      have o1 := i1.ord
      obtain ⟨v28, e28, hv28⟩ := hs 1 _ 28 rfl rfl (hd 1 (waits_mem (by kernel_rfl)))
      obtain rfl := hv28
      obtain ⟨v32, e32, hv32⟩ := hs 5 _ 32 rfl rfl (hd 5 (waits_mem (by kernel_rfl)))
      obtain ⟨gs, rfl, hgs⟩ := hv32
      have h5 : L 5 = true := hd 5 (waits_mem (by kernel_rfl))
      refine wpOp_go rfl rfl (fun K hK => ?_)
      refine wp_app_strips (.tmp 28) (.tmp 32) rfl B _ acc (by simp [Act.eval, Array.getD_eq_getD_getElem?, e28]) (i4 hLk) (some ⟨gs, 0, none⟩) 1 1 [st] rfl (by simp [Act.eval, Array.getD_eq_getD_getElem?, e32]) (hgs hLk) (by simp; omega) o1.2.2.2.2 ?_
      intro v2 x2 hv2 hb2 _
      exact hK _ _ ⟨_, rfl, hv2, hI.app hLk h5 hb2, fun j u hj h => V8.app hLk j u hj h⟩
    · obtain rfl := Option.some.inj ho
      have o1 := i1.ord
      have e2 := hsl.get 2 _ rfl
      clear hs hd hcl
      refine wpOp_go rfl rfl (fun K hK => ?_)
      unfold Oper.wp
      go_simp
      exact hK _ _ ⟨_, rfl, rfl, hI.next (by decide) (by decide) (fun h => by simp at h) (Below.refl _ _), fun j u _ h => V8.next (by decide) (Below.refl _ _) j u h⟩
    · obtain rfl := Option.some.inj ho
      have o1 := i1.ord
      obtain ⟨v33, e33, hv33⟩ := hs 6 _ 33 rfl rfl (hd 6 (waits_mem (by kernel_rfl)))
      obtain ⟨v34, e34, hv34⟩ := hs 7 _ 34 rfl rfl (hd 7 (waits_mem (by kernel_rfl)))
      obtain rfl := hv34
      obtain ⟨va3, vc3, rfl⟩ := (show OwnStrips x B v33 (acc ++ [st]) from hv33).form
      replace hv33 : OwnStrips x B _ (acc ++ [st]) := hv33
      simp only [List.length_append, List.length_cons, List.length_nil, Nat.zero_add] at hv33 e33
      have h6 : L 6 = true := hd 6 (waits_mem (by kernel_rfl))
      have y0 := (show Rw x br _ _ from i2 hLk ▸ i1.kr).cell (o := 2) rfl
      have f0 := (show Rw x br _ _ from i1.kr).fz 2
      clear hs hd hcl
      refine wpOp_go rfl rfl (fun K hK => ?_)
      unfold Oper.wp
      go_simp
      exact hK _ _ ⟨undef, rfl, trivial, hI.store h6 hLk hv33, fun j u _ h => V8.store h6 (by omega) _ j u h⟩
  · clear hsl; intro L a x hall hI hsl hs
    obtain ⟨cr, i1, i2, i3, i4, i5, i6, i7, i8⟩ := hI
    obtain ⟨v2, rfl, ho2⟩ := i3 (hall 8 (by decide))
    clear hs hall i2 i3 i4 i5 i6 i7 i8 I0 hown XW XG
    try simp only [Exit.then, Exit.inBlock, ↓reduceIte, Nat.reduceEqDiff]
    refine (show Code.wp Tryz.prog _ _ _ _ from ?_)
    try simp only [Exit.then, Exit.inBlock, ↓reduceIte, Nat.reduceEqDiff]
    have e : regionIn Tryz.f35 17 = Code.region 17 _ false := rfl
    rw [e]; clear e
    refine wp_region ?_
    refine ops_go rfl rfl (fun K hK => ?_)
    have e17 := hsl.get 17 _ rfl
    unfold Oper.wp
    go_simp
    clear e17
    refine hK _ _ ?_; clear hK
    refine hsl.go (by decide) ?_; clear hsl; intro a1 hsl
    refine ops_go rfl rfl (fun K hK => ?_)
    have e92 := hsl.get 92 _ rfl
    unfold Oper.wp
    go_simp
    clear e92
    refine hK _ _ ?_; clear hK
    refine hsl.go (by decide) ?_; clear hsl; intro a1 hsl
    refine ops_done ?_
    exact hnext v2 _ _ (((((((hsl.nil.cons (hsl.get 17 _ rfl)).cons (hsl.get 16 _ rfl)).cons (hsl.get 15 _ rfl)).cons (hsl.get 4 _ rfl)).cons (hsl.get 3 _ rfl)).cons (hsl.get 2 _ rfl)).cons (hsl.get 0 _ rfl)) i1 ho2
end Go.Proofs.YtmkjeonjhedgkaaGreatDoor
