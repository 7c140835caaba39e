/- (road.wrong).strip: its regions that draw their order. -/
import Derived.Test.YtmkjeonjhedgkaaGreatDoorPair
namespace Go.Proofs.YtmkjeonjhedgkaaGreatDoor
set_option linter.unusedSimpArgs false
set_option linter.unusedVariables false
open Go.RowKit

theorem PairPost.get {w w' : World} {n : Int} {o : Option (Int × Int)} {e : Ending} (h : PairPost w n o e w') : Below w.heap.size w w' ∧ ((∃ x y, o = some (x, y) ∧ e = .returned (.tuple #[.int .i64 x, .int .i64 y])) ∨ (o = none ∧ e = .panicked (wrongP n))) := by
  obtain ⟨h1, h2⟩ := h
  cases o with
  | none => exact ⟨h1, .inr ⟨rfl, h2⟩⟩
  | some v => exact ⟨h1, .inl ⟨v.1, v.2, rfl, h2⟩⟩
/-- What strip has in memory: the line's number, the result, the strip that grows, the words. -/
structure SI (w0 x : World) (n : Int) (bx r4 r5 g : Nat) (C c5 : Array Value) : Prop where
  below : Below w0.heap.size w0 x
  m0 : MaxOk w0
  kb : Rw x bx #[.int .i64 n] 116
  k4 : Rw x r4 #[.int .i64 0, .int .i64 0, .int .i64 0, .int .i64 0, .int .i64 0, .int .i64 0, .int .i64 0] 63
  k5 : Rw x r5 c5 63
  kg : Rw x g C 9
  ord : w0.heap.size ≤ bx ∧ bx < r4 ∧ r4 < r5 ∧ r5 < g
section
variable {w0 x : World} {n : Int} {bx r4 r5 g : Nat} {C c5 : Array Value}
theorem SI.mx (h : SI w0 x n bx r4 r5 g C c5) : MaxOk x := h.m0.below h.below
theorem SI.keep (h : SI w0 x n bx r4 r5 g C c5) {x2 : World} (hb : Below x.heap.size x x2) : SI w0 x2 n bx r4 r5 g C c5 :=
  ⟨h.below.trans (hb.mono h.below.size), h.m0, h.kb.below hb, h.k4.below hb, h.k5.below hb, h.kg.below hb, h.ord⟩
theorem SI.drew (h : SI w0 x n bx r4 r5 g C c5) : SI w0 x.drew n bx r4 r5 g C c5 := h.keep (Below.refl _ _).drew
theorem SI.set (h : SI w0 x n bx r4 r5 g C c5) (k : Nat) (v : Value) : SI w0 (x.setCell ⟨r5, k, none⟩ v) n bx r4 r5 g C (c5.setIfInBounds k v) := by
  obtain ⟨h1, h2, h3, h4, h5, h6, o⟩ := h
  exact ⟨h1.setCell (p := ⟨r5, k, none⟩) (show w0.heap.size ≤ r5 by omega) _, h2, h3.far (by omega) _ _, h4.far (by omega) _ _, h5.set _ _, h6.far (by omega) _ _, o⟩
end
set_option maxRecDepth 100000 in
set_option maxHeartbeats 4000000 in
theorem st9 (w0 w : World) (n : Int) (bx r4 r5 g : Nat) (C : Array Value) (p6 p7 : List UInt8) (hC6 : C[6]? = some (.string ⟨p6.toArray⟩)) (hC7 : C[7]? = some (.string ⟨p7.toArray⟩))  (kK kX kY kA kB : Int) (x6 : Int) (hv6 : ∀ z, numV p6 = some z → x6 = z) (x7 : Int) (hv7 : ∀ z, signV p7 = some z → x7 = z) (I0 : SI w0 w n bx r4 r5 g C (#[.int .i64 0, .int .i64 0, .int .i64 0, .int .i64 0, .int .i64 1, .int .i64 0, .int .i64 0])) (a0 : Act) (hsl : Sl a0 108 [(2, .pointer (some ⟨bx, 0, none⟩)), (4, .pointer (some ⟨r4, 0, none⟩)), (5, .pointer (some ⟨r5, 0, none⟩)), (6, .slice (some ⟨g, 0, none⟩) 8 8)]) (Q : Exit → Act → World → Prop) (hbad : numV p6 = none ∨ signV p7 = none → ∀ a x, Sl a 108 [(2, .pointer (some ⟨bx, 0, none⟩)), (4, .pointer (some ⟨r4, 0, none⟩)), (5, .pointer (some ⟨r5, 0, none⟩)), (6, .slice (some ⟨g, 0, none⟩) 8 8)] → Below w0.heap.size w0 x → Q (.panic (wrongP n)) a x) (h : numV p6 = some x6 → signV p7 = some x7 → ∀ a x, Sl a 108 [(2, .pointer (some ⟨bx, 0, none⟩)), (4, .pointer (some ⟨r4, 0, none⟩)), (5, .pointer (some ⟨r5, 0, none⟩)), (6, .slice (some ⟨g, 0, none⟩) 8 8)] → SI w0 x n bx r4 r5 g C (#[.int .i64 0, .int .i64 0, .int .i64 0, .int .i64 0, .int .i64 3, .int .i64 x6, .int .i64 x7]) → Q .normal a x) : (regionIn Tryz.f64 9).wp Tryz.prog Q a0 w := by
  have e : regionIn Tryz.f64 9 = Code.region 9 _ true := rfl
  rw [e]; clear e
  refine wp_region_sl (by kernel_rfl) (hsl) [some 24, some 25, some 26, some 27, some 28, some 29, some 30, some 31, some 32, some 33, some 34, none, some 35, none, some 36, none] rfl rfl (by kernel_rfl) (fun j v _ => match j with | 0 => v = .agg #[.int .i64 n] | 1 => v = .slice (some ⟨g, 0, none⟩) 8 8 | 2 => v = .pointer (some ⟨g, 6, none⟩) | 3 => v = .string ⟨p6.toArray⟩ | 4 => (numV p6 = some x6 ∧ v = .int .i64 x6) | 5 => v = .agg #[.int .i64 n] | 6 => v = .slice (some ⟨g, 0, none⟩) 8 8 | 7 => v = .pointer (some ⟨g, 7, none⟩) | 8 => v = .string ⟨p7.toArray⟩ | 9 => (signV p7 = some x7 ∧ v = .int .i64 x7) | 10 => v = .pointer (some ⟨r5, 4, none⟩) | 12 => v = .pointer (some ⟨r5, 5, none⟩) | 14 => v = .pointer (some ⟨r5, 6, none⟩) | _ => True) (fun L x => SI w0 x n bx r4 r5 g C (#[.int .i64 0, .int .i64 0, .int .i64 0, .int .i64 0, if L 11 then .int .i64 3 else .int .i64 1, if L 13 then .int .i64 x6 else .int .i64 0, if L 15 then .int .i64 x7 else .int .i64 0])) I0.drew ?_ ?_
  · clear hsl; intro k o hkl ho L a x hI hLk hsl hs hd
    have hlt : ∀ k : Nat, k < 16 → k = 0 ∨ k = 1 ∨ k = 2 ∨ k = 3 ∨ k = 4 ∨ k = 5 ∨ k = 6 ∨ k = 7 ∨ k = 8 ∨ k = 9 ∨ k = 10 ∨ k = 11 ∨ k = 12 ∨ k = 13 ∨ k = 14 ∨ k = 15 := by decide
    rcases hlt k hkl with rfl | rfl | rfl | rfl | rfl | rfl | rfl | rfl | rfl | rfl | rfl | rfl | rfl | rfl | rfl | rfl
    · obtain rfl := Option.some.inj ho
      have e2 := hsl.get 2 _ rfl
      have hbx := (show Rw x bx _ _ from hI.kb).cell (o := 0) rfl
      clear hs hd
      refine wpOp_go rfl rfl (fun K hK => ?_)
      unfold Oper.wp
      go_simp
      exact hK _ _ ⟨_, rfl, rfl, by simpa [updF] using hI, fun _ _ h => h⟩
    · obtain rfl := Option.some.inj ho
      have e6 := hsl.get 6 _ rfl
      clear hs hd
      refine wpOp_go rfl rfl (fun K hK => ?_)
      unfold Oper.wp
      go_simp
      exact hK _ _ ⟨_, rfl, rfl, by simpa [updF] using hI, fun _ _ h => h⟩
    · obtain rfl := Option.some.inj ho
      obtain ⟨v25, e25, hv25⟩ := hs 1 _ 25 rfl rfl (hd 1 (waits_mem (by kernel_rfl)))
      obtain rfl := hv25
      clear hs hd
      refine wpOp_go rfl rfl (fun K hK => ?_)
      unfold Oper.wp
      go_simp
      exact hK _ _ ⟨_, rfl, rfl, by simpa [updF] using hI, fun _ _ h => h⟩
    · obtain rfl := Option.some.inj ho
      obtain ⟨v26, e26, hv26⟩ := hs 2 _ 26 rfl rfl (hd 2 (waits_mem (by kernel_rfl)))
      obtain rfl := hv26
      have hc := (show Rw x g _ _ from hI.kg).cell hC6
      clear hs hd
      refine wpOp_go rfl rfl (fun K hK => ?_)
      unfold Oper.wp
      go_simp
      exact hK _ _ ⟨_, rfl, rfl, by simpa [updF] using hI, fun _ _ h => h⟩
    · obtain rfl := Option.some.inj ho
      obtain ⟨v24, e24, hv24⟩ := hs 0 _ 24 rfl rfl (hd 0 (waits_mem (by kernel_rfl)))
      obtain rfl := hv24
      obtain ⟨v27, e27, hv27⟩ := hs 3 _ 27 rfl rfl (hd 3 (waits_mem (by kernel_rfl)))
      obtain rfl := hv27
      clear hs hd
      refine wpOp_go rfl rfl (fun K hK => ?_)
      unfold Oper.wp
      go_simp
      refine (number_any _ n p6).mono ?_
      rintro e x2 hp
      obtain ⟨hb, ⟨z, hz, rfl⟩ | ⟨hz, rfl⟩⟩ := hp.get
      · obtain rfl := hv6 z hz
        exact hK _ _ ⟨_, rfl, ⟨hz, rfl⟩, hI.keep hb, fun _ _ h => h⟩
      · try simp only [Exit.then, Exit.inBlock, ↓reduceIte, Nat.reduceEqDiff]
        exact hbad (.inl hz) _ _ hsl (hI.keep hb).below
    · obtain rfl := Option.some.inj ho
      have e2 := hsl.get 2 _ rfl
      have hbx := (show Rw x bx _ _ from hI.kb).cell (o := 0) rfl
      clear hs hd
      refine wpOp_go rfl rfl (fun K hK => ?_)
      unfold Oper.wp
      go_simp
      exact hK _ _ ⟨_, rfl, rfl, by simpa [updF] using hI, fun _ _ h => h⟩
    · obtain rfl := Option.some.inj ho
      have e6 := hsl.get 6 _ rfl
      clear hs hd
      refine wpOp_go rfl rfl (fun K hK => ?_)
      unfold Oper.wp
      go_simp
      exact hK _ _ ⟨_, rfl, rfl, by simpa [updF] using hI, fun _ _ h => h⟩
    · obtain rfl := Option.some.inj ho
      obtain ⟨v30, e30, hv30⟩ := hs 6 _ 30 rfl rfl (hd 6 (waits_mem (by kernel_rfl)))
      obtain rfl := hv30
      clear hs hd
      refine wpOp_go rfl rfl (fun K hK => ?_)
      unfold Oper.wp
      go_simp
      exact hK _ _ ⟨_, rfl, rfl, by simpa [updF] using hI, fun _ _ h => h⟩
    · obtain rfl := Option.some.inj ho
      obtain ⟨v31, e31, hv31⟩ := hs 7 _ 31 rfl rfl (hd 7 (waits_mem (by kernel_rfl)))
      obtain rfl := hv31
      have hc := (show Rw x g _ _ from hI.kg).cell hC7
      clear hs hd
      refine wpOp_go rfl rfl (fun K hK => ?_)
      unfold Oper.wp
      go_simp
      exact hK _ _ ⟨_, rfl, rfl, by simpa [updF] using hI, fun _ _ h => h⟩
    · obtain rfl := Option.some.inj ho
      obtain ⟨v29, e29, hv29⟩ := hs 5 _ 29 rfl rfl (hd 5 (waits_mem (by kernel_rfl)))
      obtain rfl := hv29
      obtain ⟨v32, e32, hv32⟩ := hs 8 _ 32 rfl rfl (hd 8 (waits_mem (by kernel_rfl)))
      obtain rfl := hv32
      clear hs hd
      refine wpOp_go rfl rfl (fun K hK => ?_)
      unfold Oper.wp
      go_simp
      refine (signed_any _ n p7).mono ?_
      rintro e x2 hp
      obtain ⟨hb, ⟨z, hz, rfl⟩ | ⟨hz, rfl⟩⟩ := hp.get
      · obtain rfl := hv7 z hz
        exact hK _ _ ⟨_, rfl, ⟨hz, rfl⟩, hI.keep hb, fun _ _ h => h⟩
      · try simp only [Exit.then, Exit.inBlock, ↓reduceIte, Nat.reduceEqDiff]
        exact hbad (.inr hz) _ _ hsl (hI.keep hb).below
    · obtain rfl := Option.some.inj ho
      have e5 := hsl.get 5 _ rfl
      clear hs hd
      refine wpOp_go rfl rfl (fun K hK => ?_)
      unfold Oper.wp
      go_simp
      exact hK _ _ ⟨_, rfl, rfl, by simpa [updF] using hI, fun _ _ h => h⟩
    · obtain rfl := Option.some.inj ho
      obtain ⟨v34, e34, hv34⟩ := hs 10 _ 34 rfl rfl (hd 10 (waits_mem (by kernel_rfl)))
      obtain rfl := hv34
      have hz1 := (show Rw x r5 _ _ from hI.k5).cell (o := 4) rfl
      have hz2 := (show Rw x r5 _ _ from hI.k5).fz 4
      clear hs hd
      refine wpOp_go rfl rfl (fun K hK => ?_)
      unfold Oper.wp
      go_simp
      refine hK _ _ ⟨undef, rfl, trivial, ?_, fun _ _ h => h⟩
      have := hI.set 4 (.int .i64 3)
      simpa [updF] using this
    · obtain rfl := Option.some.inj ho
      have e5 := hsl.get 5 _ rfl
      clear hs hd
      refine wpOp_go rfl rfl (fun K hK => ?_)
      unfold Oper.wp
      go_simp
      exact hK _ _ ⟨_, rfl, rfl, by simpa [updF] using hI, fun _ _ h => h⟩
    · obtain rfl := Option.some.inj ho
      obtain ⟨v28, e28, hv28⟩ := hs 4 _ 28 rfl rfl (hd 4 (waits_mem (by kernel_rfl)))
      obtain ⟨hz4, rfl⟩ := hv28
      obtain ⟨v35, e35, hv35⟩ := hs 12 _ 35 rfl rfl (hd 12 (waits_mem (by kernel_rfl)))
      obtain rfl := hv35
      have hz1 := (show Rw x r5 _ _ from hI.k5).cell (o := 5) rfl
      have hz2 := (show Rw x r5 _ _ from hI.k5).fz 5
      clear hs hd
      refine wpOp_go rfl rfl (fun K hK => ?_)
      unfold Oper.wp
      go_simp
      refine hK _ _ ⟨undef, rfl, trivial, ?_, fun _ _ h => h⟩
      have := hI.set 5 (.int .i64 x6)
      simpa [updF] using this
    · obtain rfl := Option.some.inj ho
      have e5 := hsl.get 5 _ rfl
      clear hs hd
      refine wpOp_go rfl rfl (fun K hK => ?_)
      unfold Oper.wp
      go_simp
      exact hK _ _ ⟨_, rfl, rfl, by simpa [updF] using hI, fun _ _ h => h⟩
    · obtain rfl := Option.some.inj ho
      obtain ⟨v33, e33, hv33⟩ := hs 9 _ 33 rfl rfl (hd 9 (waits_mem (by kernel_rfl)))
      obtain ⟨hz9, rfl⟩ := hv33
      obtain ⟨v36, e36, hv36⟩ := hs 14 _ 36 rfl rfl (hd 14 (waits_mem (by kernel_rfl)))
      obtain rfl := hv36
      have hz1 := (show Rw x r5 _ _ from hI.k5).cell (o := 6) rfl
      have hz2 := (show Rw x r5 _ _ from hI.k5).fz 6
      clear hs hd
      refine wpOp_go rfl rfl (fun K hK => ?_)
      unfold Oper.wp
      go_simp
      refine hK _ _ ⟨undef, rfl, trivial, ?_, fun _ _ h => h⟩
      have := hI.set 6 (.int .i64 x7)
      simpa [updF] using this
  · clear hsl; intro L a x hall hI hsl hs
    rw [hall 11 (by decide)] at hI
    rw [hall 13 (by decide)] at hI
    rw [hall 15 (by decide)] at hI
    obtain ⟨v, _, hq0, _⟩ := hs 4 _ 28 rfl rfl (hall 4 (by decide))
    obtain ⟨v, _, hq1, _⟩ := hs 9 _ 33 rfl rfl (hall 9 (by decide))
    exact h hq0 hq1 _ _ hsl hI
set_option maxRecDepth 100000 in
set_option maxHeartbeats 4000000 in
theorem st14 (w0 w : World) (n : Int) (bx r4 r5 g : Nat) (C : Array Value) (p6 : List UInt8) (hC6 : C[6]? = some (.string ⟨p6.toArray⟩)) (hl6 : p6.length < 4294967281) (kK kX kY kA kB : Int) (x6 y6 : Int) (hv6 : ∀ z y, hyphV p6 = some (z, y) → x6 = z ∧ y6 = y) (I0 : SI w0 w n bx r4 r5 g C (#[.int .i64 0, .int .i64 0, .int .i64 0, .int .i64 0, .int .i64 2, .int .i64 0, .int .i64 0])) (a0 : Act) (hsl : Sl a0 108 [(2, .pointer (some ⟨bx, 0, none⟩)), (4, .pointer (some ⟨r4, 0, none⟩)), (5, .pointer (some ⟨r5, 0, none⟩)), (6, .slice (some ⟨g, 0, none⟩) 7 7)]) (Q : Exit → Act → World → Prop) (hbad : hyphV p6 = none → ∀ a x, Sl a 108 [(2, .pointer (some ⟨bx, 0, none⟩)), (4, .pointer (some ⟨r4, 0, none⟩)), (5, .pointer (some ⟨r5, 0, none⟩)), (6, .slice (some ⟨g, 0, none⟩) 7 7)] → Below w0.heap.size w0 x → Q (.panic (wrongP n)) a x) (h : hyphV p6 = some (x6, y6) → ∀ a x, Sl a 108 [(2, .pointer (some ⟨bx, 0, none⟩)), (4, .pointer (some ⟨r4, 0, none⟩)), (5, .pointer (some ⟨r5, 0, none⟩)), (6, .slice (some ⟨g, 0, none⟩) 7 7)] → SI w0 x n bx r4 r5 g C (#[.int .i64 0, .int .i64 0, .int .i64 0, .int .i64 0, .int .i64 2, .int .i64 x6, .int .i64 y6]) → Q .normal a x) : (regionIn Tryz.f64 14).wp Tryz.prog Q a0 w := by
  have e : regionIn Tryz.f64 14 = Code.region 14 _ true := rfl
  rw [e]; clear e
  refine wp_region_sl (by kernel_rfl) (hsl) [some 50, some 51, some 52, some 53, some 54, some 49, some 55, some 56, some 57, none, some 58, none] rfl rfl (by kernel_rfl) (fun j v _ => match j with | 0 => v = .agg #[.int .i64 n] | 1 => v = .slice (some ⟨g, 0, none⟩) 7 7 | 2 => v = .pointer (some ⟨g, 6, none⟩) | 3 => v = .string ⟨p6.toArray⟩ | 4 => (hyphV p6 = some (x6, y6) ∧ v = .tuple #[.int .i64 x6, .int .i64 y6]) | 5 => (hyphV p6 = some (x6, y6) ∧ v = .tuple #[.int .i64 x6, .int .i64 y6]) | 6 => v = .int .i64 x6 | 7 => v = .int .i64 y6 | 8 => v = .pointer (some ⟨r5, 5, none⟩) | 10 => v = .pointer (some ⟨r5, 6, none⟩) | _ => True) (fun L x => SI w0 x n bx r4 r5 g C (#[.int .i64 0, .int .i64 0, .int .i64 0, .int .i64 0, .int .i64 2, if L 9 then .int .i64 x6 else .int .i64 0, if L 11 then .int .i64 y6 else .int .i64 0])) I0.drew ?_ ?_
  · clear hsl; intro k o hkl ho L a x hI hLk hsl hs hd
    have hlt : ∀ k : Nat, k < 12 → k = 0 ∨ k = 1 ∨ k = 2 ∨ k = 3 ∨ k = 4 ∨ k = 5 ∨ k = 6 ∨ k = 7 ∨ k = 8 ∨ k = 9 ∨ k = 10 ∨ k = 11 := by decide
    rcases hlt k hkl with rfl | rfl | rfl | rfl | rfl | rfl | rfl | rfl | rfl | rfl | rfl | rfl
    · obtain rfl := Option.some.inj ho
      have e2 := hsl.get 2 _ rfl
      have hbx := (show Rw x bx _ _ from hI.kb).cell (o := 0) rfl
      clear hs hd
      refine wpOp_go rfl rfl (fun K hK => ?_)
      unfold Oper.wp
      go_simp
      exact hK _ _ ⟨_, rfl, rfl, by simpa [updF] using hI, fun _ _ h => h⟩
    · obtain rfl := Option.some.inj ho
      have e6 := hsl.get 6 _ rfl
      clear hs hd
      refine wpOp_go rfl rfl (fun K hK => ?_)
      unfold Oper.wp
      go_simp
      exact hK _ _ ⟨_, rfl, rfl, by simpa [updF] using hI, fun _ _ h => h⟩
    · obtain rfl := Option.some.inj ho
      obtain ⟨v51, e51, hv51⟩ := hs 1 _ 51 rfl rfl (hd 1 (waits_mem (by kernel_rfl)))
      obtain rfl := hv51
      clear hs hd
      refine wpOp_go rfl rfl (fun K hK => ?_)
      unfold Oper.wp
      go_simp
      exact hK _ _ ⟨_, rfl, rfl, by simpa [updF] using hI, fun _ _ h => h⟩
    · obtain rfl := Option.some.inj ho
      obtain ⟨v52, e52, hv52⟩ := hs 2 _ 52 rfl rfl (hd 2 (waits_mem (by kernel_rfl)))
      obtain rfl := hv52
      have hc := (show Rw x g _ _ from hI.kg).cell hC6
      clear hs hd
      refine wpOp_go rfl rfl (fun K hK => ?_)
      unfold Oper.wp
      go_simp
      exact hK _ _ ⟨_, rfl, rfl, by simpa [updF] using hI, fun _ _ h => h⟩
    · obtain rfl := Option.some.inj ho
      obtain ⟨v50, e50, hv50⟩ := hs 0 _ 50 rfl rfl (hd 0 (waits_mem (by kernel_rfl)))
      obtain rfl := hv50
      obtain ⟨v53, e53, hv53⟩ := hs 3 _ 53 rfl rfl (hd 3 (waits_mem (by kernel_rfl)))
      obtain rfl := hv53
      clear hs hd
      refine wpOp_go rfl rfl (fun K hK => ?_)
      unfold Oper.wp
      go_simp
      refine (pair_any _ n p6 (hI.mx) hl6).mono ?_
      rintro e x2 hp
      obtain ⟨hb, ⟨z, y, hz, rfl⟩ | ⟨hz, rfl⟩⟩ := hp.get
      · obtain ⟨rfl, rfl⟩ := hv6 z y hz
        exact hK _ _ ⟨_, rfl, ⟨hz, rfl⟩, hI.keep hb, fun _ _ h => h⟩
      · try simp only [Exit.then, Exit.inBlock, ↓reduceIte, Nat.reduceEqDiff]
        exact hbad (hz) _ _ hsl (hI.keep hb).below
    · obtain rfl := Option.some.inj ho
      obtain ⟨v54, e54, hv54⟩ := hs 4 _ 54 rfl rfl (hd 4 (waits_mem (by kernel_rfl)))
      obtain ⟨hz, rfl⟩ := hv54
      clear hs hd
      refine wpOp_go rfl rfl (fun K hK => ?_)
      unfold Oper.wp
      go_simp
      exact hK _ _ ⟨_, rfl, ⟨hz, rfl⟩, by simpa [updF] using hI, fun _ _ h => h⟩
    · obtain rfl := Option.some.inj ho
      obtain ⟨v49, e49, hv49⟩ := hs 5 _ 49 rfl rfl (hd 5 (waits_mem (by kernel_rfl)))
      obtain ⟨hz, rfl⟩ := hv49
      clear hs hd
      refine wpOp_go rfl rfl (fun K hK => ?_)
      unfold Oper.wp
      go_simp
      exact hK _ _ ⟨_, rfl, rfl, by simpa [updF] using hI, fun _ _ h => h⟩
    · obtain rfl := Option.some.inj ho
      obtain ⟨v49, e49, hv49⟩ := hs 5 _ 49 rfl rfl (hd 5 (waits_mem (by kernel_rfl)))
      obtain ⟨hz, rfl⟩ := hv49
      clear hs hd
      refine wpOp_go rfl rfl (fun K hK => ?_)
      unfold Oper.wp
      go_simp
      exact hK _ _ ⟨_, rfl, rfl, by simpa [updF] using hI, fun _ _ h => h⟩
    · obtain rfl := Option.some.inj ho
      have e5 := hsl.get 5 _ rfl
      clear hs hd
      refine wpOp_go rfl rfl (fun K hK => ?_)
      unfold Oper.wp
      go_simp
      exact hK _ _ ⟨_, rfl, rfl, by simpa [updF] using hI, fun _ _ h => h⟩
    · obtain rfl := Option.some.inj ho
      obtain ⟨v55, e55, hv55⟩ := hs 6 _ 55 rfl rfl (hd 6 (waits_mem (by kernel_rfl)))
      obtain rfl := hv55
      obtain ⟨v57, e57, hv57⟩ := hs 8 _ 57 rfl rfl (hd 8 (waits_mem (by kernel_rfl)))
      obtain rfl := hv57
      have hz1 := (show Rw x r5 _ _ from hI.k5).cell (o := 5) rfl
      have hz2 := (show Rw x r5 _ _ from hI.k5).fz 5
      clear hs hd
      refine wpOp_go rfl rfl (fun K hK => ?_)
      unfold Oper.wp
      go_simp
      refine hK _ _ ⟨undef, rfl, trivial, ?_, fun _ _ h => h⟩
      have := hI.set 5 (.int .i64 x6)
      simpa [updF] using this
    · obtain rfl := Option.some.inj ho
      have e5 := hsl.get 5 _ rfl
      clear hs hd
      refine wpOp_go rfl rfl (fun K hK => ?_)
      unfold Oper.wp
      go_simp
      exact hK _ _ ⟨_, rfl, rfl, by simpa [updF] using hI, fun _ _ h => h⟩
    · obtain rfl := Option.some.inj ho
      obtain ⟨v56, e56, hv56⟩ := hs 7 _ 56 rfl rfl (hd 7 (waits_mem (by kernel_rfl)))
      obtain rfl := hv56
      obtain ⟨v58, e58, hv58⟩ := hs 10 _ 58 rfl rfl (hd 10 (waits_mem (by kernel_rfl)))
      obtain rfl := hv58
      have hz1 := (show Rw x r5 _ _ from hI.k5).cell (o := 6) rfl
      have hz2 := (show Rw x r5 _ _ from hI.k5).fz 6
      clear hs hd
      refine wpOp_go rfl rfl (fun K hK => ?_)
      unfold Oper.wp
      go_simp
      refine hK _ _ ⟨undef, rfl, trivial, ?_, fun _ _ h => h⟩
      have := hI.set 6 (.int .i64 y6)
      simpa [updF] using this
  · clear hsl; intro L a x hall hI hsl hs
    rw [hall 9 (by decide)] at hI
    rw [hall 11 (by decide)] at hI
    obtain ⟨v, _, hq0, _⟩ := hs 4 _ 54 rfl rfl (hall 4 (by decide))
    exact h hq0 _ _ hsl hI
set_option maxRecDepth 100000 in
set_option maxHeartbeats 4000000 in
theorem st16 (w0 w : World) (n : Int) (bx r4 r5 g : Nat) (C : Array Value) (p6 : List UInt8) (hC6 : C[6]? = some (.string ⟨p6.toArray⟩))  (kK kX kY kA kB : Int) (x6 : Int) (hv6 : ∀ z, numV p6 = some z → x6 = z) (I0 : SI w0 w n bx r4 r5 g C (#[.int .i64 0, .int .i64 0, .int .i64 0, .int .i64 0, .int .i64 1, .int .i64 0, .int .i64 0])) (a0 : Act) (hsl : Sl a0 108 [(2, .pointer (some ⟨bx, 0, none⟩)), (4, .pointer (some ⟨r4, 0, none⟩)), (5, .pointer (some ⟨r5, 0, none⟩)), (6, .slice (some ⟨g, 0, none⟩) 7 7)]) (Q : Exit → Act → World → Prop) (hbad : numV p6 = none → ∀ a x, Sl a 108 [(2, .pointer (some ⟨bx, 0, none⟩)), (4, .pointer (some ⟨r4, 0, none⟩)), (5, .pointer (some ⟨r5, 0, none⟩)), (6, .slice (some ⟨g, 0, none⟩) 7 7)] → Below w0.heap.size w0 x → Q (.panic (wrongP n)) a x) (h : numV p6 = some x6 → ∀ a x, Sl a 108 [(2, .pointer (some ⟨bx, 0, none⟩)), (4, .pointer (some ⟨r4, 0, none⟩)), (5, .pointer (some ⟨r5, 0, none⟩)), (6, .slice (some ⟨g, 0, none⟩) 7 7)] → SI w0 x n bx r4 r5 g C (#[.int .i64 0, .int .i64 0, .int .i64 0, .int .i64 0, .int .i64 4, .int .i64 x6, .int .i64 0]) → Q .normal a x) : (regionIn Tryz.f64 16).wp Tryz.prog Q a0 w := by
  have e : regionIn Tryz.f64 16 = Code.region 16 _ true := rfl
  rw [e]; clear e
  refine wp_region_sl (by kernel_rfl) (hsl) [some 64, some 65, some 66, some 67, some 68, some 69, none, some 70, none] rfl rfl (by kernel_rfl) (fun j v _ => match j with | 0 => v = .agg #[.int .i64 n] | 1 => v = .slice (some ⟨g, 0, none⟩) 7 7 | 2 => v = .pointer (some ⟨g, 6, none⟩) | 3 => v = .string ⟨p6.toArray⟩ | 4 => (numV p6 = some x6 ∧ v = .int .i64 x6) | 5 => v = .pointer (some ⟨r5, 4, none⟩) | 7 => v = .pointer (some ⟨r5, 5, none⟩) | _ => True) (fun L x => SI w0 x n bx r4 r5 g C (#[.int .i64 0, .int .i64 0, .int .i64 0, .int .i64 0, if L 6 then .int .i64 4 else .int .i64 1, if L 8 then .int .i64 x6 else .int .i64 0, .int .i64 0])) I0.drew ?_ ?_
  · clear hsl; intro k o hkl ho L a x hI hLk hsl hs hd
    have hlt : ∀ k : Nat, k < 9 → k = 0 ∨ k = 1 ∨ k = 2 ∨ k = 3 ∨ k = 4 ∨ k = 5 ∨ k = 6 ∨ k = 7 ∨ k = 8 := by decide
    rcases hlt k hkl with rfl | rfl | rfl | rfl | rfl | rfl | rfl | rfl | rfl
    · obtain rfl := Option.some.inj ho
      have e2 := hsl.get 2 _ rfl
      have hbx := (show Rw x bx _ _ from hI.kb).cell (o := 0) rfl
      clear hs hd
      refine wpOp_go rfl rfl (fun K hK => ?_)
      unfold Oper.wp
      go_simp
      exact hK _ _ ⟨_, rfl, rfl, by simpa [updF] using hI, fun _ _ h => h⟩
    · obtain rfl := Option.some.inj ho
      have e6 := hsl.get 6 _ rfl
      clear hs hd
      refine wpOp_go rfl rfl (fun K hK => ?_)
      unfold Oper.wp
      go_simp
      exact hK _ _ ⟨_, rfl, rfl, by simpa [updF] using hI, fun _ _ h => h⟩
    · obtain rfl := Option.some.inj ho
      obtain ⟨v65, e65, hv65⟩ := hs 1 _ 65 rfl rfl (hd 1 (waits_mem (by kernel_rfl)))
      obtain rfl := hv65
      clear hs hd
      refine wpOp_go rfl rfl (fun K hK => ?_)
      unfold Oper.wp
      go_simp
      exact hK _ _ ⟨_, rfl, rfl, by simpa [updF] using hI, fun _ _ h => h⟩
    · obtain rfl := Option.some.inj ho
      obtain ⟨v66, e66, hv66⟩ := hs 2 _ 66 rfl rfl (hd 2 (waits_mem (by kernel_rfl)))
      obtain rfl := hv66
      have hc := (show Rw x g _ _ from hI.kg).cell hC6
      clear hs hd
      refine wpOp_go rfl rfl (fun K hK => ?_)
      unfold Oper.wp
      go_simp
      exact hK _ _ ⟨_, rfl, rfl, by simpa [updF] using hI, fun _ _ h => h⟩
    · obtain rfl := Option.some.inj ho
      obtain ⟨v64, e64, hv64⟩ := hs 0 _ 64 rfl rfl (hd 0 (waits_mem (by kernel_rfl)))
      obtain rfl := hv64
      obtain ⟨v67, e67, hv67⟩ := hs 3 _ 67 rfl rfl (hd 3 (waits_mem (by kernel_rfl)))
      obtain rfl := hv67
      clear hs hd
      refine wpOp_go rfl rfl (fun K hK => ?_)
      unfold Oper.wp
      go_simp
      refine (number_any _ n p6).mono ?_
      rintro e x2 hp
      obtain ⟨hb, ⟨z, hz, rfl⟩ | ⟨hz, rfl⟩⟩ := hp.get
      · obtain rfl := hv6 z hz
        exact hK _ _ ⟨_, rfl, ⟨hz, rfl⟩, hI.keep hb, fun _ _ h => h⟩
      · try simp only [Exit.then, Exit.inBlock, ↓reduceIte, Nat.reduceEqDiff]
        exact hbad (hz) _ _ hsl (hI.keep hb).below
    · obtain rfl := Option.some.inj ho
      have e5 := hsl.get 5 _ rfl
      clear hs hd
      refine wpOp_go rfl rfl (fun K hK => ?_)
      unfold Oper.wp
      go_simp
      exact hK _ _ ⟨_, rfl, rfl, by simpa [updF] using hI, fun _ _ h => h⟩
    · obtain rfl := Option.some.inj ho
      obtain ⟨v69, e69, hv69⟩ := hs 5 _ 69 rfl rfl (hd 5 (waits_mem (by kernel_rfl)))
      obtain rfl := hv69
      have hz1 := (show Rw x r5 _ _ from hI.k5).cell (o := 4) rfl
      have hz2 := (show Rw x r5 _ _ from hI.k5).fz 4
      clear hs hd
      refine wpOp_go rfl rfl (fun K hK => ?_)
      unfold Oper.wp
      go_simp
      refine hK _ _ ⟨undef, rfl, trivial, ?_, fun _ _ h => h⟩
      have := hI.set 4 (.int .i64 4)
      simpa [updF] using this
    · obtain rfl := Option.some.inj ho
      have e5 := hsl.get 5 _ rfl
      clear hs hd
      refine wpOp_go rfl rfl (fun K hK => ?_)
      unfold Oper.wp
      go_simp
      exact hK _ _ ⟨_, rfl, rfl, by simpa [updF] using hI, fun _ _ h => h⟩
    · obtain rfl := Option.some.inj ho
      obtain ⟨v68, e68, hv68⟩ := hs 4 _ 68 rfl rfl (hd 4 (waits_mem (by kernel_rfl)))
      obtain ⟨hz4, rfl⟩ := hv68
      obtain ⟨v70, e70, hv70⟩ := hs 7 _ 70 rfl rfl (hd 7 (waits_mem (by kernel_rfl)))
      obtain rfl := hv70
      have hz1 := (show Rw x r5 _ _ from hI.k5).cell (o := 5) rfl
      have hz2 := (show Rw x r5 _ _ from hI.k5).fz 5
      clear hs hd
      refine wpOp_go rfl rfl (fun K hK => ?_)
      unfold Oper.wp
      go_simp
      refine hK _ _ ⟨undef, rfl, trivial, ?_, fun _ _ h => h⟩
      have := hI.set 5 (.int .i64 x6)
      simpa [updF] using this
  · clear hsl; intro L a x hall hI hsl hs
    rw [hall 6 (by decide)] at hI
    rw [hall 8 (by decide)] at hI
    obtain ⟨v, _, hq0, _⟩ := hs 4 _ 68 rfl rfl (hall 4 (by decide))
    exact h hq0 _ _ hsl hI
set_option maxRecDepth 100000 in
set_option maxHeartbeats 4000000 in
theorem st19_5 (w0 w : World) (n : Int) (bx r4 r5 g : Nat) (C : Array Value) (p0 : List UInt8) (hC0 : C[0]? = some (.string ⟨p0.toArray⟩)) (hl0 : p0.length < 4294967281) (kK kX kY kA kB : Int) (x0 y0 : Int) (hv0 : ∀ z y, hyphV p0 = some (z, y) → x0 = z ∧ y0 = y) (I0 : SI w0 w n bx r4 r5 g C (#[.int .i64 0, .int .i64 0, .int .i64 0, .int .i64 0, .int .i64 kK, .int .i64 kX, .int .i64 kY])) (a0 : Act) (hsl : Sl a0 108 [(2, .pointer (some ⟨bx, 0, none⟩)), (4, .pointer (some ⟨r4, 0, none⟩)), (5, .pointer (some ⟨r5, 0, none⟩)), (6, .slice (some ⟨g, 0, none⟩) 5 5)]) (Q : Exit → Act → World → Prop) (hbad : hyphV p0 = none → ∀ a x, Sl a 108 [(2, .pointer (some ⟨bx, 0, none⟩)), (4, .pointer (some ⟨r4, 0, none⟩)), (5, .pointer (some ⟨r5, 0, none⟩)), (6, .slice (some ⟨g, 0, none⟩) 5 5)] → Below w0.heap.size w0 x → Q (.panic (wrongP n)) a x) (h : hyphV p0 = some (x0, y0) → ∀ a x, Sl a 108 [(2, .pointer (some ⟨bx, 0, none⟩)), (4, .pointer (some ⟨r4, 0, none⟩)), (5, .pointer (some ⟨r5, 0, none⟩)), (6, .slice (some ⟨g, 0, none⟩) 5 5)] → SI w0 x n bx r4 r5 g C (#[.int .i64 x0, .int .i64 y0, .int .i64 0, .int .i64 0, .int .i64 kK, .int .i64 kX, .int .i64 kY]) → Q .normal a x) : (regionIn Tryz.f64 19).wp Tryz.prog Q a0 w := by
  have e : regionIn Tryz.f64 19 = Code.region 19 _ true := rfl
  rw [e]; clear e
  refine wp_region_sl (by kernel_rfl) (hsl) [some 84, some 85, some 86, some 87, some 88, some 83, some 89, some 90, some 91, none, some 92, none] rfl rfl (by kernel_rfl) (fun j v _ => match j with | 0 => v = .agg #[.int .i64 n] | 1 => v = .slice (some ⟨g, 0, none⟩) 5 5 | 2 => v = .pointer (some ⟨g, 0, none⟩) | 3 => v = .string ⟨p0.toArray⟩ | 4 => (hyphV p0 = some (x0, y0) ∧ v = .tuple #[.int .i64 x0, .int .i64 y0]) | 5 => (hyphV p0 = some (x0, y0) ∧ v = .tuple #[.int .i64 x0, .int .i64 y0]) | 6 => v = .int .i64 x0 | 7 => v = .int .i64 y0 | 8 => v = .pointer (some ⟨r5, 0, none⟩) | 10 => v = .pointer (some ⟨r5, 1, none⟩) | _ => True) (fun L x => SI w0 x n bx r4 r5 g C (#[if L 9 then .int .i64 x0 else .int .i64 0, if L 11 then .int .i64 y0 else .int .i64 0, .int .i64 0, .int .i64 0, .int .i64 kK, .int .i64 kX, .int .i64 kY])) I0.drew ?_ ?_
  · clear hsl; intro k o hkl ho L a x hI hLk hsl hs hd
    have hlt : ∀ k : Nat, k < 12 → k = 0 ∨ k = 1 ∨ k = 2 ∨ k = 3 ∨ k = 4 ∨ k = 5 ∨ k = 6 ∨ k = 7 ∨ k = 8 ∨ k = 9 ∨ k = 10 ∨ k = 11 := by decide
    rcases hlt k hkl with rfl | rfl | rfl | rfl | rfl | rfl | rfl | rfl | rfl | rfl | rfl | rfl
    · obtain rfl := Option.some.inj ho
      have e2 := hsl.get 2 _ rfl
      have hbx := (show Rw x bx _ _ from hI.kb).cell (o := 0) rfl
      clear hs hd
      refine wpOp_go rfl rfl (fun K hK => ?_)
      unfold Oper.wp
      go_simp
      exact hK _ _ ⟨_, rfl, rfl, by simpa [updF] using hI, fun _ _ h => h⟩
    · obtain rfl := Option.some.inj ho
      have e6 := hsl.get 6 _ rfl
      clear hs hd
      refine wpOp_go rfl rfl (fun K hK => ?_)
      unfold Oper.wp
      go_simp
      exact hK _ _ ⟨_, rfl, rfl, by simpa [updF] using hI, fun _ _ h => h⟩
    · obtain rfl := Option.some.inj ho
      obtain ⟨v85, e85, hv85⟩ := hs 1 _ 85 rfl rfl (hd 1 (waits_mem (by kernel_rfl)))
      obtain rfl := hv85
      clear hs hd
      refine wpOp_go rfl rfl (fun K hK => ?_)
      unfold Oper.wp
      go_simp
      exact hK _ _ ⟨_, rfl, rfl, by simpa [updF] using hI, fun _ _ h => h⟩
    · obtain rfl := Option.some.inj ho
      obtain ⟨v86, e86, hv86⟩ := hs 2 _ 86 rfl rfl (hd 2 (waits_mem (by kernel_rfl)))
      obtain rfl := hv86
      have hc := (show Rw x g _ _ from hI.kg).cell hC0
      clear hs hd
      refine wpOp_go rfl rfl (fun K hK => ?_)
      unfold Oper.wp
      go_simp
      exact hK _ _ ⟨_, rfl, rfl, by simpa [updF] using hI, fun _ _ h => h⟩
    · obtain rfl := Option.some.inj ho
      obtain ⟨v84, e84, hv84⟩ := hs 0 _ 84 rfl rfl (hd 0 (waits_mem (by kernel_rfl)))
      obtain rfl := hv84
      obtain ⟨v87, e87, hv87⟩ := hs 3 _ 87 rfl rfl (hd 3 (waits_mem (by kernel_rfl)))
      obtain rfl := hv87
      clear hs hd
      refine wpOp_go rfl rfl (fun K hK => ?_)
      unfold Oper.wp
      go_simp
      refine (pair_any _ n p0 (hI.mx) hl0).mono ?_
      rintro e x2 hp
      obtain ⟨hb, ⟨z, y, hz, rfl⟩ | ⟨hz, rfl⟩⟩ := hp.get
      · obtain ⟨rfl, rfl⟩ := hv0 z y hz
        exact hK _ _ ⟨_, rfl, ⟨hz, rfl⟩, hI.keep hb, fun _ _ h => h⟩
      · try simp only [Exit.then, Exit.inBlock, ↓reduceIte, Nat.reduceEqDiff]
        exact hbad (hz) _ _ hsl (hI.keep hb).below
    · obtain rfl := Option.some.inj ho
      obtain ⟨v88, e88, hv88⟩ := hs 4 _ 88 rfl rfl (hd 4 (waits_mem (by kernel_rfl)))
      obtain ⟨hz, rfl⟩ := hv88
      clear hs hd
      refine wpOp_go rfl rfl (fun K hK => ?_)
      unfold Oper.wp
      go_simp
      exact hK _ _ ⟨_, rfl, ⟨hz, rfl⟩, by simpa [updF] using hI, fun _ _ h => h⟩
    · obtain rfl := Option.some.inj ho
      obtain ⟨v83, e83, hv83⟩ := hs 5 _ 83 rfl rfl (hd 5 (waits_mem (by kernel_rfl)))
      obtain ⟨hz, rfl⟩ := hv83
      clear hs hd
      refine wpOp_go rfl rfl (fun K hK => ?_)
      unfold Oper.wp
      go_simp
      exact hK _ _ ⟨_, rfl, rfl, by simpa [updF] using hI, fun _ _ h => h⟩
    · obtain rfl := Option.some.inj ho
      obtain ⟨v83, e83, hv83⟩ := hs 5 _ 83 rfl rfl (hd 5 (waits_mem (by kernel_rfl)))
      obtain ⟨hz, rfl⟩ := hv83
      clear hs hd
      refine wpOp_go rfl rfl (fun K hK => ?_)
      unfold Oper.wp
      go_simp
      exact hK _ _ ⟨_, rfl, rfl, by simpa [updF] using hI, fun _ _ h => h⟩
    · obtain rfl := Option.some.inj ho
      have e5 := hsl.get 5 _ rfl
      clear hs hd
      refine wpOp_go rfl rfl (fun K hK => ?_)
      unfold Oper.wp
      go_simp
      exact hK _ _ ⟨_, rfl, rfl, by simpa [updF] using hI, fun _ _ h => h⟩
    · obtain rfl := Option.some.inj ho
      obtain ⟨v89, e89, hv89⟩ := hs 6 _ 89 rfl rfl (hd 6 (waits_mem (by kernel_rfl)))
      obtain rfl := hv89
      obtain ⟨v91, e91, hv91⟩ := hs 8 _ 91 rfl rfl (hd 8 (waits_mem (by kernel_rfl)))
      obtain rfl := hv91
      have hz1 := (show Rw x r5 _ _ from hI.k5).cell (o := 0) rfl
      have hz2 := (show Rw x r5 _ _ from hI.k5).fz 0
      clear hs hd
      refine wpOp_go rfl rfl (fun K hK => ?_)
      unfold Oper.wp
      go_simp
      refine hK _ _ ⟨undef, rfl, trivial, ?_, fun _ _ h => h⟩
      have := hI.set 0 (.int .i64 x0)
      simpa [updF] using this
    · obtain rfl := Option.some.inj ho
      have e5 := hsl.get 5 _ rfl
      clear hs hd
      refine wpOp_go rfl rfl (fun K hK => ?_)
      unfold Oper.wp
      go_simp
      exact hK _ _ ⟨_, rfl, rfl, by simpa [updF] using hI, fun _ _ h => h⟩
    · obtain rfl := Option.some.inj ho
      obtain ⟨v90, e90, hv90⟩ := hs 7 _ 90 rfl rfl (hd 7 (waits_mem (by kernel_rfl)))
      obtain rfl := hv90
      obtain ⟨v92, e92, hv92⟩ := hs 10 _ 92 rfl rfl (hd 10 (waits_mem (by kernel_rfl)))
      obtain rfl := hv92
      have hz1 := (show Rw x r5 _ _ from hI.k5).cell (o := 1) rfl
      have hz2 := (show Rw x r5 _ _ from hI.k5).fz 1
      clear hs hd
      refine wpOp_go rfl rfl (fun K hK => ?_)
      unfold Oper.wp
      go_simp
      refine hK _ _ ⟨undef, rfl, trivial, ?_, fun _ _ h => h⟩
      have := hI.set 1 (.int .i64 y0)
      simpa [updF] using this
  · clear hsl; intro L a x hall hI hsl hs
    rw [hall 9 (by decide)] at hI
    rw [hall 11 (by decide)] at hI
    obtain ⟨v, _, hq0, _⟩ := hs 4 _ 88 rfl rfl (hall 4 (by decide))
    exact h hq0 _ _ hsl hI
set_option maxRecDepth 100000 in
set_option maxHeartbeats 4000000 in
theorem st20_5 (w0 w : World) (n : Int) (bx r4 r5 g : Nat) (C : Array Value) (p1 p3 : List UInt8) (hC1 : C[1]? = some (.string ⟨p1.toArray⟩)) (hC3 : C[3]? = some (.string ⟨p3.toArray⟩))  (kK kX kY kA kB : Int) (x1 : Int) (hv1 : ∀ z, numV p1 = some z → x1 = z) (x3 : Int) (hv3 : ∀ z, numV p3 = some z → x3 = z) (I0 : SI w0 w n bx r4 r5 g C (#[.int .i64 kA, .int .i64 kB, .int .i64 0, .int .i64 0, .int .i64 kK, .int .i64 kX, .int .i64 kY])) (a0 : Act) (hsl : Sl a0 108 [(2, .pointer (some ⟨bx, 0, none⟩)), (4, .pointer (some ⟨r4, 0, none⟩)), (5, .pointer (some ⟨r5, 0, none⟩)), (6, .slice (some ⟨g, 0, none⟩) 5 5)]) (Q : Exit → Act → World → Prop) (hbad : numV p1 = none ∨ numV p3 = none → ∀ a x, Sl a 108 [(2, .pointer (some ⟨bx, 0, none⟩)), (4, .pointer (some ⟨r4, 0, none⟩)), (5, .pointer (some ⟨r5, 0, none⟩)), (6, .slice (some ⟨g, 0, none⟩) 5 5)] → Below w0.heap.size w0 x → Q (.panic (wrongP n)) a x) (h : numV p1 = some x1 → numV p3 = some x3 → ∀ a x, Sl a 108 [(2, .pointer (some ⟨bx, 0, none⟩)), (4, .pointer (some ⟨r4, 0, none⟩)), (5, .pointer (some ⟨r5, 0, none⟩)), (6, .slice (some ⟨g, 0, none⟩) 5 5)] → SI w0 x n bx r4 r5 g C (#[.int .i64 kA, .int .i64 kB, .int .i64 x1, .int .i64 x3, .int .i64 kK, .int .i64 kX, .int .i64 kY]) → Q .normal a x) : (regionIn Tryz.f64 20).wp Tryz.prog Q a0 w := by
  have e : regionIn Tryz.f64 20 = Code.region 20 _ true := rfl
  rw [e]; clear e
  refine wp_region_sl (by kernel_rfl) (hsl) [some 93, some 94, some 95, some 96, some 97, some 98, some 99, some 100, some 101, some 102, some 103, none, some 104, none] rfl rfl (by kernel_rfl) (fun j v _ => match j with | 0 => v = .agg #[.int .i64 n] | 1 => v = .slice (some ⟨g, 0, none⟩) 5 5 | 2 => v = .pointer (some ⟨g, 1, none⟩) | 3 => v = .string ⟨p1.toArray⟩ | 4 => (numV p1 = some x1 ∧ v = .int .i64 x1) | 5 => v = .agg #[.int .i64 n] | 6 => v = .slice (some ⟨g, 0, none⟩) 5 5 | 7 => v = .pointer (some ⟨g, 3, none⟩) | 8 => v = .string ⟨p3.toArray⟩ | 9 => (numV p3 = some x3 ∧ v = .int .i64 x3) | 10 => v = .pointer (some ⟨r5, 2, none⟩) | 12 => v = .pointer (some ⟨r5, 3, none⟩) | _ => True) (fun L x => SI w0 x n bx r4 r5 g C (#[.int .i64 kA, .int .i64 kB, if L 11 then .int .i64 x1 else .int .i64 0, if L 13 then .int .i64 x3 else .int .i64 0, .int .i64 kK, .int .i64 kX, .int .i64 kY])) I0.drew ?_ ?_
  · clear hsl; intro k o hkl ho L a x hI hLk hsl hs hd
    have hlt : ∀ k : Nat, k < 14 → k = 0 ∨ k = 1 ∨ k = 2 ∨ k = 3 ∨ k = 4 ∨ k = 5 ∨ k = 6 ∨ k = 7 ∨ k = 8 ∨ k = 9 ∨ k = 10 ∨ k = 11 ∨ k = 12 ∨ k = 13 := by decide
    rcases hlt k hkl with rfl | rfl | rfl | rfl | rfl | rfl | rfl | rfl | rfl | rfl | rfl | rfl | rfl | rfl
    · obtain rfl := Option.some.inj ho
      have e2 := hsl.get 2 _ rfl
      have hbx := (show Rw x bx _ _ from hI.kb).cell (o := 0) rfl
      clear hs hd
      refine wpOp_go rfl rfl (fun K hK => ?_)
      unfold Oper.wp
      go_simp
      exact hK _ _ ⟨_, rfl, rfl, by simpa [updF] using hI, fun _ _ h => h⟩
    · obtain rfl := Option.some.inj ho
      have e6 := hsl.get 6 _ rfl
      clear hs hd
      refine wpOp_go rfl rfl (fun K hK => ?_)
      unfold Oper.wp
      go_simp
      exact hK _ _ ⟨_, rfl, rfl, by simpa [updF] using hI, fun _ _ h => h⟩
    · obtain rfl := Option.some.inj ho
      obtain ⟨v94, e94, hv94⟩ := hs 1 _ 94 rfl rfl (hd 1 (waits_mem (by kernel_rfl)))
      obtain rfl := hv94
      clear hs hd
      refine wpOp_go rfl rfl (fun K hK => ?_)
      unfold Oper.wp
      go_simp
      exact hK _ _ ⟨_, rfl, rfl, by simpa [updF] using hI, fun _ _ h => h⟩
    · obtain rfl := Option.some.inj ho
      obtain ⟨v95, e95, hv95⟩ := hs 2 _ 95 rfl rfl (hd 2 (waits_mem (by kernel_rfl)))
      obtain rfl := hv95
      have hc := (show Rw x g _ _ from hI.kg).cell hC1
      clear hs hd
      refine wpOp_go rfl rfl (fun K hK => ?_)
      unfold Oper.wp
      go_simp
      exact hK _ _ ⟨_, rfl, rfl, by simpa [updF] using hI, fun _ _ h => h⟩
    · obtain rfl := Option.some.inj ho
      obtain ⟨v93, e93, hv93⟩ := hs 0 _ 93 rfl rfl (hd 0 (waits_mem (by kernel_rfl)))
      obtain rfl := hv93
      obtain ⟨v96, e96, hv96⟩ := hs 3 _ 96 rfl rfl (hd 3 (waits_mem (by kernel_rfl)))
      obtain rfl := hv96
      clear hs hd
      refine wpOp_go rfl rfl (fun K hK => ?_)
      unfold Oper.wp
      go_simp
      refine (number_any _ n p1).mono ?_
      rintro e x2 hp
      obtain ⟨hb, ⟨z, hz, rfl⟩ | ⟨hz, rfl⟩⟩ := hp.get
      · obtain rfl := hv1 z hz
        exact hK _ _ ⟨_, rfl, ⟨hz, rfl⟩, hI.keep hb, fun _ _ h => h⟩
      · try simp only [Exit.then, Exit.inBlock, ↓reduceIte, Nat.reduceEqDiff]
        exact hbad (.inl hz) _ _ hsl (hI.keep hb).below
    · obtain rfl := Option.some.inj ho
      have e2 := hsl.get 2 _ rfl
      have hbx := (show Rw x bx _ _ from hI.kb).cell (o := 0) rfl
      clear hs hd
      refine wpOp_go rfl rfl (fun K hK => ?_)
      unfold Oper.wp
      go_simp
      exact hK _ _ ⟨_, rfl, rfl, by simpa [updF] using hI, fun _ _ h => h⟩
    · obtain rfl := Option.some.inj ho
      have e6 := hsl.get 6 _ rfl
      clear hs hd
      refine wpOp_go rfl rfl (fun K hK => ?_)
      unfold Oper.wp
      go_simp
      exact hK _ _ ⟨_, rfl, rfl, by simpa [updF] using hI, fun _ _ h => h⟩
    · obtain rfl := Option.some.inj ho
      obtain ⟨v99, e99, hv99⟩ := hs 6 _ 99 rfl rfl (hd 6 (waits_mem (by kernel_rfl)))
      obtain rfl := hv99
      clear hs hd
      refine wpOp_go rfl rfl (fun K hK => ?_)
      unfold Oper.wp
      go_simp
      exact hK _ _ ⟨_, rfl, rfl, by simpa [updF] using hI, fun _ _ h => h⟩
    · obtain rfl := Option.some.inj ho
      obtain ⟨v100, e100, hv100⟩ := hs 7 _ 100 rfl rfl (hd 7 (waits_mem (by kernel_rfl)))
      obtain rfl := hv100
      have hc := (show Rw x g _ _ from hI.kg).cell hC3
      clear hs hd
      refine wpOp_go rfl rfl (fun K hK => ?_)
      unfold Oper.wp
      go_simp
      exact hK _ _ ⟨_, rfl, rfl, by simpa [updF] using hI, fun _ _ h => h⟩
    · obtain rfl := Option.some.inj ho
      obtain ⟨v98, e98, hv98⟩ := hs 5 _ 98 rfl rfl (hd 5 (waits_mem (by kernel_rfl)))
      obtain rfl := hv98
      obtain ⟨v101, e101, hv101⟩ := hs 8 _ 101 rfl rfl (hd 8 (waits_mem (by kernel_rfl)))
      obtain rfl := hv101
      clear hs hd
      refine wpOp_go rfl rfl (fun K hK => ?_)
      unfold Oper.wp
      go_simp
      refine (number_any _ n p3).mono ?_
      rintro e x2 hp
      obtain ⟨hb, ⟨z, hz, rfl⟩ | ⟨hz, rfl⟩⟩ := hp.get
      · obtain rfl := hv3 z hz
        exact hK _ _ ⟨_, rfl, ⟨hz, rfl⟩, hI.keep hb, fun _ _ h => h⟩
      · try simp only [Exit.then, Exit.inBlock, ↓reduceIte, Nat.reduceEqDiff]
        exact hbad (.inr hz) _ _ hsl (hI.keep hb).below
    · obtain rfl := Option.some.inj ho
      have e5 := hsl.get 5 _ rfl
      clear hs hd
      refine wpOp_go rfl rfl (fun K hK => ?_)
      unfold Oper.wp
      go_simp
      exact hK _ _ ⟨_, rfl, rfl, by simpa [updF] using hI, fun _ _ h => h⟩
    · obtain rfl := Option.some.inj ho
      obtain ⟨v97, e97, hv97⟩ := hs 4 _ 97 rfl rfl (hd 4 (waits_mem (by kernel_rfl)))
      obtain ⟨hz4, rfl⟩ := hv97
      obtain ⟨v103, e103, hv103⟩ := hs 10 _ 103 rfl rfl (hd 10 (waits_mem (by kernel_rfl)))
      obtain rfl := hv103
      have hz1 := (show Rw x r5 _ _ from hI.k5).cell (o := 2) rfl
      have hz2 := (show Rw x r5 _ _ from hI.k5).fz 2
      clear hs hd
      refine wpOp_go rfl rfl (fun K hK => ?_)
      unfold Oper.wp
      go_simp
      refine hK _ _ ⟨undef, rfl, trivial, ?_, fun _ _ h => h⟩
      have := hI.set 2 (.int .i64 x1)
      simpa [updF] using this
    · obtain rfl := Option.some.inj ho
      have e5 := hsl.get 5 _ rfl
      clear hs hd
      refine wpOp_go rfl rfl (fun K hK => ?_)
      unfold Oper.wp
      go_simp
      exact hK _ _ ⟨_, rfl, rfl, by simpa [updF] using hI, fun _ _ h => h⟩
    · obtain rfl := Option.some.inj ho
      obtain ⟨v102, e102, hv102⟩ := hs 9 _ 102 rfl rfl (hd 9 (waits_mem (by kernel_rfl)))
      obtain ⟨hz9, rfl⟩ := hv102
      obtain ⟨v104, e104, hv104⟩ := hs 12 _ 104 rfl rfl (hd 12 (waits_mem (by kernel_rfl)))
      obtain rfl := hv104
      have hz1 := (show Rw x r5 _ _ from hI.k5).cell (o := 3) rfl
      have hz2 := (show Rw x r5 _ _ from hI.k5).fz 3
      clear hs hd
      refine wpOp_go rfl rfl (fun K hK => ?_)
      unfold Oper.wp
      go_simp
      refine hK _ _ ⟨undef, rfl, trivial, ?_, fun _ _ h => h⟩
      have := hI.set 3 (.int .i64 x3)
      simpa [updF] using this
  · clear hsl; intro L a x hall hI hsl hs
    rw [hall 11 (by decide)] at hI
    rw [hall 13 (by decide)] at hI
    obtain ⟨v, _, hq0, _⟩ := hs 4 _ 97 rfl rfl (hall 4 (by decide))
    obtain ⟨v, _, hq1, _⟩ := hs 9 _ 102 rfl rfl (hall 9 (by decide))
    exact h hq0 hq1 _ _ hsl hI
set_option maxRecDepth 100000 in
set_option maxHeartbeats 4000000 in
theorem st19_7 (w0 w : World) (n : Int) (bx r4 r5 g : Nat) (C : Array Value) (p0 : List UInt8) (hC0 : C[0]? = some (.string ⟨p0.toArray⟩)) (hl0 : p0.length < 4294967281) (kK kX kY kA kB : Int) (x0 y0 : Int) (hv0 : ∀ z y, hyphV p0 = some (z, y) → x0 = z ∧ y0 = y) (I0 : SI w0 w n bx r4 r5 g C (#[.int .i64 0, .int .i64 0, .int .i64 0, .int .i64 0, .int .i64 kK, .int .i64 kX, .int .i64 kY])) (a0 : Act) (hsl : Sl a0 108 [(2, .pointer (some ⟨bx, 0, none⟩)), (4, .pointer (some ⟨r4, 0, none⟩)), (5, .pointer (some ⟨r5, 0, none⟩)), (6, .slice (some ⟨g, 0, none⟩) 7 7)]) (Q : Exit → Act → World → Prop) (hbad : hyphV p0 = none → ∀ a x, Sl a 108 [(2, .pointer (some ⟨bx, 0, none⟩)), (4, .pointer (some ⟨r4, 0, none⟩)), (5, .pointer (some ⟨r5, 0, none⟩)), (6, .slice (some ⟨g, 0, none⟩) 7 7)] → Below w0.heap.size w0 x → Q (.panic (wrongP n)) a x) (h : hyphV p0 = some (x0, y0) → ∀ a x, Sl a 108 [(2, .pointer (some ⟨bx, 0, none⟩)), (4, .pointer (some ⟨r4, 0, none⟩)), (5, .pointer (some ⟨r5, 0, none⟩)), (6, .slice (some ⟨g, 0, none⟩) 7 7)] → SI w0 x n bx r4 r5 g C (#[.int .i64 x0, .int .i64 y0, .int .i64 0, .int .i64 0, .int .i64 kK, .int .i64 kX, .int .i64 kY]) → Q .normal a x) : (regionIn Tryz.f64 19).wp Tryz.prog Q a0 w := by
  have e : regionIn Tryz.f64 19 = Code.region 19 _ true := rfl
  rw [e]; clear e
  refine wp_region_sl (by kernel_rfl) (hsl) [some 84, some 85, some 86, some 87, some 88, some 83, some 89, some 90, some 91, none, some 92, none] rfl rfl (by kernel_rfl) (fun j v _ => match j with | 0 => v = .agg #[.int .i64 n] | 1 => v = .slice (some ⟨g, 0, none⟩) 7 7 | 2 => v = .pointer (some ⟨g, 0, none⟩) | 3 => v = .string ⟨p0.toArray⟩ | 4 => (hyphV p0 = some (x0, y0) ∧ v = .tuple #[.int .i64 x0, .int .i64 y0]) | 5 => (hyphV p0 = some (x0, y0) ∧ v = .tuple #[.int .i64 x0, .int .i64 y0]) | 6 => v = .int .i64 x0 | 7 => v = .int .i64 y0 | 8 => v = .pointer (some ⟨r5, 0, none⟩) | 10 => v = .pointer (some ⟨r5, 1, none⟩) | _ => True) (fun L x => SI w0 x n bx r4 r5 g C (#[if L 9 then .int .i64 x0 else .int .i64 0, if L 11 then .int .i64 y0 else .int .i64 0, .int .i64 0, .int .i64 0, .int .i64 kK, .int .i64 kX, .int .i64 kY])) I0.drew ?_ ?_
  · clear hsl; intro k o hkl ho L a x hI hLk hsl hs hd
    have hlt : ∀ k : Nat, k < 12 → k = 0 ∨ k = 1 ∨ k = 2 ∨ k = 3 ∨ k = 4 ∨ k = 5 ∨ k = 6 ∨ k = 7 ∨ k = 8 ∨ k = 9 ∨ k = 10 ∨ k = 11 := by decide
    rcases hlt k hkl with rfl | rfl | rfl | rfl | rfl | rfl | rfl | rfl | rfl | rfl | rfl | rfl
    · obtain rfl := Option.some.inj ho
      have e2 := hsl.get 2 _ rfl
      have hbx := (show Rw x bx _ _ from hI.kb).cell (o := 0) rfl
      clear hs hd
      refine wpOp_go rfl rfl (fun K hK => ?_)
      unfold Oper.wp
      go_simp
      exact hK _ _ ⟨_, rfl, rfl, by simpa [updF] using hI, fun _ _ h => h⟩
    · obtain rfl := Option.some.inj ho
      have e6 := hsl.get 6 _ rfl
      clear hs hd
      refine wpOp_go rfl rfl (fun K hK => ?_)
      unfold Oper.wp
      go_simp
      exact hK _ _ ⟨_, rfl, rfl, by simpa [updF] using hI, fun _ _ h => h⟩
    · obtain rfl := Option.some.inj ho
      obtain ⟨v85, e85, hv85⟩ := hs 1 _ 85 rfl rfl (hd 1 (waits_mem (by kernel_rfl)))
      obtain rfl := hv85
      clear hs hd
      refine wpOp_go rfl rfl (fun K hK => ?_)
      unfold Oper.wp
      go_simp
      exact hK _ _ ⟨_, rfl, rfl, by simpa [updF] using hI, fun _ _ h => h⟩
    · obtain rfl := Option.some.inj ho
      obtain ⟨v86, e86, hv86⟩ := hs 2 _ 86 rfl rfl (hd 2 (waits_mem (by kernel_rfl)))
      obtain rfl := hv86
      have hc := (show Rw x g _ _ from hI.kg).cell hC0
      clear hs hd
      refine wpOp_go rfl rfl (fun K hK => ?_)
      unfold Oper.wp
      go_simp
      exact hK _ _ ⟨_, rfl, rfl, by simpa [updF] using hI, fun _ _ h => h⟩
    · obtain rfl := Option.some.inj ho
      obtain ⟨v84, e84, hv84⟩ := hs 0 _ 84 rfl rfl (hd 0 (waits_mem (by kernel_rfl)))
      obtain rfl := hv84
      obtain ⟨v87, e87, hv87⟩ := hs 3 _ 87 rfl rfl (hd 3 (waits_mem (by kernel_rfl)))
      obtain rfl := hv87
      clear hs hd
      refine wpOp_go rfl rfl (fun K hK => ?_)
      unfold Oper.wp
      go_simp
      refine (pair_any _ n p0 (hI.mx) hl0).mono ?_
      rintro e x2 hp
      obtain ⟨hb, ⟨z, y, hz, rfl⟩ | ⟨hz, rfl⟩⟩ := hp.get
      · obtain ⟨rfl, rfl⟩ := hv0 z y hz
        exact hK _ _ ⟨_, rfl, ⟨hz, rfl⟩, hI.keep hb, fun _ _ h => h⟩
      · try simp only [Exit.then, Exit.inBlock, ↓reduceIte, Nat.reduceEqDiff]
        exact hbad (hz) _ _ hsl (hI.keep hb).below
    · obtain rfl := Option.some.inj ho
      obtain ⟨v88, e88, hv88⟩ := hs 4 _ 88 rfl rfl (hd 4 (waits_mem (by kernel_rfl)))
      obtain ⟨hz, rfl⟩ := hv88
      clear hs hd
      refine wpOp_go rfl rfl (fun K hK => ?_)
      unfold Oper.wp
      go_simp
      exact hK _ _ ⟨_, rfl, ⟨hz, rfl⟩, by simpa [updF] using hI, fun _ _ h => h⟩
    · obtain rfl := Option.some.inj ho
      obtain ⟨v83, e83, hv83⟩ := hs 5 _ 83 rfl rfl (hd 5 (waits_mem (by kernel_rfl)))
      obtain ⟨hz, rfl⟩ := hv83
      clear hs hd
      refine wpOp_go rfl rfl (fun K hK => ?_)
      unfold Oper.wp
      go_simp
      exact hK _ _ ⟨_, rfl, rfl, by simpa [updF] using hI, fun _ _ h => h⟩
    · obtain rfl := Option.some.inj ho
      obtain ⟨v83, e83, hv83⟩ := hs 5 _ 83 rfl rfl (hd 5 (waits_mem (by kernel_rfl)))
      obtain ⟨hz, rfl⟩ := hv83
      clear hs hd
      refine wpOp_go rfl rfl (fun K hK => ?_)
      unfold Oper.wp
      go_simp
      exact hK _ _ ⟨_, rfl, rfl, by simpa [updF] using hI, fun _ _ h => h⟩
    · obtain rfl := Option.some.inj ho
      have e5 := hsl.get 5 _ rfl
      clear hs hd
      refine wpOp_go rfl rfl (fun K hK => ?_)
      unfold Oper.wp
      go_simp
      exact hK _ _ ⟨_, rfl, rfl, by simpa [updF] using hI, fun _ _ h => h⟩
    · obtain rfl := Option.some.inj ho
      obtain ⟨v89, e89, hv89⟩ := hs 6 _ 89 rfl rfl (hd 6 (waits_mem (by kernel_rfl)))
      obtain rfl := hv89
      obtain ⟨v91, e91, hv91⟩ := hs 8 _ 91 rfl rfl (hd 8 (waits_mem (by kernel_rfl)))
      obtain rfl := hv91
      have hz1 := (show Rw x r5 _ _ from hI.k5).cell (o := 0) rfl
      have hz2 := (show Rw x r5 _ _ from hI.k5).fz 0
      clear hs hd
      refine wpOp_go rfl rfl (fun K hK => ?_)
      unfold Oper.wp
      go_simp
      refine hK _ _ ⟨undef, rfl, trivial, ?_, fun _ _ h => h⟩
      have := hI.set 0 (.int .i64 x0)
      simpa [updF] using this
    · obtain rfl := Option.some.inj ho
      have e5 := hsl.get 5 _ rfl
      clear hs hd
      refine wpOp_go rfl rfl (fun K hK => ?_)
      unfold Oper.wp
      go_simp
      exact hK _ _ ⟨_, rfl, rfl, by simpa [updF] using hI, fun _ _ h => h⟩
    · obtain rfl := Option.some.inj ho
      obtain ⟨v90, e90, hv90⟩ := hs 7 _ 90 rfl rfl (hd 7 (waits_mem (by kernel_rfl)))
      obtain rfl := hv90
      obtain ⟨v92, e92, hv92⟩ := hs 10 _ 92 rfl rfl (hd 10 (waits_mem (by kernel_rfl)))
      obtain rfl := hv92
      have hz1 := (show Rw x r5 _ _ from hI.k5).cell (o := 1) rfl
      have hz2 := (show Rw x r5 _ _ from hI.k5).fz 1
      clear hs hd
      refine wpOp_go rfl rfl (fun K hK => ?_)
      unfold Oper.wp
      go_simp
      refine hK _ _ ⟨undef, rfl, trivial, ?_, fun _ _ h => h⟩
      have := hI.set 1 (.int .i64 y0)
      simpa [updF] using this
  · clear hsl; intro L a x hall hI hsl hs
    rw [hall 9 (by decide)] at hI
    rw [hall 11 (by decide)] at hI
    obtain ⟨v, _, hq0, _⟩ := hs 4 _ 88 rfl rfl (hall 4 (by decide))
    exact h hq0 _ _ hsl hI
set_option maxRecDepth 100000 in
set_option maxHeartbeats 4000000 in
theorem st20_7 (w0 w : World) (n : Int) (bx r4 r5 g : Nat) (C : Array Value) (p1 p3 : List UInt8) (hC1 : C[1]? = some (.string ⟨p1.toArray⟩)) (hC3 : C[3]? = some (.string ⟨p3.toArray⟩))  (kK kX kY kA kB : Int) (x1 : Int) (hv1 : ∀ z, numV p1 = some z → x1 = z) (x3 : Int) (hv3 : ∀ z, numV p3 = some z → x3 = z) (I0 : SI w0 w n bx r4 r5 g C (#[.int .i64 kA, .int .i64 kB, .int .i64 0, .int .i64 0, .int .i64 kK, .int .i64 kX, .int .i64 kY])) (a0 : Act) (hsl : Sl a0 108 [(2, .pointer (some ⟨bx, 0, none⟩)), (4, .pointer (some ⟨r4, 0, none⟩)), (5, .pointer (some ⟨r5, 0, none⟩)), (6, .slice (some ⟨g, 0, none⟩) 7 7)]) (Q : Exit → Act → World → Prop) (hbad : numV p1 = none ∨ numV p3 = none → ∀ a x, Sl a 108 [(2, .pointer (some ⟨bx, 0, none⟩)), (4, .pointer (some ⟨r4, 0, none⟩)), (5, .pointer (some ⟨r5, 0, none⟩)), (6, .slice (some ⟨g, 0, none⟩) 7 7)] → Below w0.heap.size w0 x → Q (.panic (wrongP n)) a x) (h : numV p1 = some x1 → numV p3 = some x3 → ∀ a x, Sl a 108 [(2, .pointer (some ⟨bx, 0, none⟩)), (4, .pointer (some ⟨r4, 0, none⟩)), (5, .pointer (some ⟨r5, 0, none⟩)), (6, .slice (some ⟨g, 0, none⟩) 7 7)] → SI w0 x n bx r4 r5 g C (#[.int .i64 kA, .int .i64 kB, .int .i64 x1, .int .i64 x3, .int .i64 kK, .int .i64 kX, .int .i64 kY]) → Q .normal a x) : (regionIn Tryz.f64 20).wp Tryz.prog Q a0 w := by
  have e : regionIn Tryz.f64 20 = Code.region 20 _ true := rfl
  rw [e]; clear e
  refine wp_region_sl (by kernel_rfl) (hsl) [some 93, some 94, some 95, some 96, some 97, some 98, some 99, some 100, some 101, some 102, some 103, none, some 104, none] rfl rfl (by kernel_rfl) (fun j v _ => match j with | 0 => v = .agg #[.int .i64 n] | 1 => v = .slice (some ⟨g, 0, none⟩) 7 7 | 2 => v = .pointer (some ⟨g, 1, none⟩) | 3 => v = .string ⟨p1.toArray⟩ | 4 => (numV p1 = some x1 ∧ v = .int .i64 x1) | 5 => v = .agg #[.int .i64 n] | 6 => v = .slice (some ⟨g, 0, none⟩) 7 7 | 7 => v = .pointer (some ⟨g, 3, none⟩) | 8 => v = .string ⟨p3.toArray⟩ | 9 => (numV p3 = some x3 ∧ v = .int .i64 x3) | 10 => v = .pointer (some ⟨r5, 2, none⟩) | 12 => v = .pointer (some ⟨r5, 3, none⟩) | _ => True) (fun L x => SI w0 x n bx r4 r5 g C (#[.int .i64 kA, .int .i64 kB, if L 11 then .int .i64 x1 else .int .i64 0, if L 13 then .int .i64 x3 else .int .i64 0, .int .i64 kK, .int .i64 kX, .int .i64 kY])) I0.drew ?_ ?_
  · clear hsl; intro k o hkl ho L a x hI hLk hsl hs hd
    have hlt : ∀ k : Nat, k < 14 → k = 0 ∨ k = 1 ∨ k = 2 ∨ k = 3 ∨ k = 4 ∨ k = 5 ∨ k = 6 ∨ k = 7 ∨ k = 8 ∨ k = 9 ∨ k = 10 ∨ k = 11 ∨ k = 12 ∨ k = 13 := by decide
    rcases hlt k hkl with rfl | rfl | rfl | rfl | rfl | rfl | rfl | rfl | rfl | rfl | rfl | rfl | rfl | rfl
    · obtain rfl := Option.some.inj ho
      have e2 := hsl.get 2 _ rfl
      have hbx := (show Rw x bx _ _ from hI.kb).cell (o := 0) rfl
      clear hs hd
      refine wpOp_go rfl rfl (fun K hK => ?_)
      unfold Oper.wp
      go_simp
      exact hK _ _ ⟨_, rfl, rfl, by simpa [updF] using hI, fun _ _ h => h⟩
    · obtain rfl := Option.some.inj ho
      have e6 := hsl.get 6 _ rfl
      clear hs hd
      refine wpOp_go rfl rfl (fun K hK => ?_)
      unfold Oper.wp
      go_simp
      exact hK _ _ ⟨_, rfl, rfl, by simpa [updF] using hI, fun _ _ h => h⟩
    · obtain rfl := Option.some.inj ho
      obtain ⟨v94, e94, hv94⟩ := hs 1 _ 94 rfl rfl (hd 1 (waits_mem (by kernel_rfl)))
      obtain rfl := hv94
      clear hs hd
      refine wpOp_go rfl rfl (fun K hK => ?_)
      unfold Oper.wp
      go_simp
      exact hK _ _ ⟨_, rfl, rfl, by simpa [updF] using hI, fun _ _ h => h⟩
    · obtain rfl := Option.some.inj ho
      obtain ⟨v95, e95, hv95⟩ := hs 2 _ 95 rfl rfl (hd 2 (waits_mem (by kernel_rfl)))
      obtain rfl := hv95
      have hc := (show Rw x g _ _ from hI.kg).cell hC1
      clear hs hd
      refine wpOp_go rfl rfl (fun K hK => ?_)
      unfold Oper.wp
      go_simp
      exact hK _ _ ⟨_, rfl, rfl, by simpa [updF] using hI, fun _ _ h => h⟩
    · obtain rfl := Option.some.inj ho
      obtain ⟨v93, e93, hv93⟩ := hs 0 _ 93 rfl rfl (hd 0 (waits_mem (by kernel_rfl)))
      obtain rfl := hv93
      obtain ⟨v96, e96, hv96⟩ := hs 3 _ 96 rfl rfl (hd 3 (waits_mem (by kernel_rfl)))
      obtain rfl := hv96
      clear hs hd
      refine wpOp_go rfl rfl (fun K hK => ?_)
      unfold Oper.wp
      go_simp
      refine (number_any _ n p1).mono ?_
      rintro e x2 hp
      obtain ⟨hb, ⟨z, hz, rfl⟩ | ⟨hz, rfl⟩⟩ := hp.get
      · obtain rfl := hv1 z hz
        exact hK _ _ ⟨_, rfl, ⟨hz, rfl⟩, hI.keep hb, fun _ _ h => h⟩
      · try simp only [Exit.then, Exit.inBlock, ↓reduceIte, Nat.reduceEqDiff]
        exact hbad (.inl hz) _ _ hsl (hI.keep hb).below
    · obtain rfl := Option.some.inj ho
      have e2 := hsl.get 2 _ rfl
      have hbx := (show Rw x bx _ _ from hI.kb).cell (o := 0) rfl
      clear hs hd
      refine wpOp_go rfl rfl (fun K hK => ?_)
      unfold Oper.wp
      go_simp
      exact hK _ _ ⟨_, rfl, rfl, by simpa [updF] using hI, fun _ _ h => h⟩
    · obtain rfl := Option.some.inj ho
      have e6 := hsl.get 6 _ rfl
      clear hs hd
      refine wpOp_go rfl rfl (fun K hK => ?_)
      unfold Oper.wp
      go_simp
      exact hK _ _ ⟨_, rfl, rfl, by simpa [updF] using hI, fun _ _ h => h⟩
    · obtain rfl := Option.some.inj ho
      obtain ⟨v99, e99, hv99⟩ := hs 6 _ 99 rfl rfl (hd 6 (waits_mem (by kernel_rfl)))
      obtain rfl := hv99
      clear hs hd
      refine wpOp_go rfl rfl (fun K hK => ?_)
      unfold Oper.wp
      go_simp
      exact hK _ _ ⟨_, rfl, rfl, by simpa [updF] using hI, fun _ _ h => h⟩
    · obtain rfl := Option.some.inj ho
      obtain ⟨v100, e100, hv100⟩ := hs 7 _ 100 rfl rfl (hd 7 (waits_mem (by kernel_rfl)))
      obtain rfl := hv100
      have hc := (show Rw x g _ _ from hI.kg).cell hC3
      clear hs hd
      refine wpOp_go rfl rfl (fun K hK => ?_)
      unfold Oper.wp
      go_simp
      exact hK _ _ ⟨_, rfl, rfl, by simpa [updF] using hI, fun _ _ h => h⟩
    · obtain rfl := Option.some.inj ho
      obtain ⟨v98, e98, hv98⟩ := hs 5 _ 98 rfl rfl (hd 5 (waits_mem (by kernel_rfl)))
      obtain rfl := hv98
      obtain ⟨v101, e101, hv101⟩ := hs 8 _ 101 rfl rfl (hd 8 (waits_mem (by kernel_rfl)))
      obtain rfl := hv101
      clear hs hd
      refine wpOp_go rfl rfl (fun K hK => ?_)
      unfold Oper.wp
      go_simp
      refine (number_any _ n p3).mono ?_
      rintro e x2 hp
      obtain ⟨hb, ⟨z, hz, rfl⟩ | ⟨hz, rfl⟩⟩ := hp.get
      · obtain rfl := hv3 z hz
        exact hK _ _ ⟨_, rfl, ⟨hz, rfl⟩, hI.keep hb, fun _ _ h => h⟩
      · try simp only [Exit.then, Exit.inBlock, ↓reduceIte, Nat.reduceEqDiff]
        exact hbad (.inr hz) _ _ hsl (hI.keep hb).below
    · obtain rfl := Option.some.inj ho
      have e5 := hsl.get 5 _ rfl
      clear hs hd
      refine wpOp_go rfl rfl (fun K hK => ?_)
      unfold Oper.wp
      go_simp
      exact hK _ _ ⟨_, rfl, rfl, by simpa [updF] using hI, fun _ _ h => h⟩
    · obtain rfl := Option.some.inj ho
      obtain ⟨v97, e97, hv97⟩ := hs 4 _ 97 rfl rfl (hd 4 (waits_mem (by kernel_rfl)))
      obtain ⟨hz4, rfl⟩ := hv97
      obtain ⟨v103, e103, hv103⟩ := hs 10 _ 103 rfl rfl (hd 10 (waits_mem (by kernel_rfl)))
      obtain rfl := hv103
      have hz1 := (show Rw x r5 _ _ from hI.k5).cell (o := 2) rfl
      have hz2 := (show Rw x r5 _ _ from hI.k5).fz 2
      clear hs hd
      refine wpOp_go rfl rfl (fun K hK => ?_)
      unfold Oper.wp
      go_simp
      refine hK _ _ ⟨undef, rfl, trivial, ?_, fun _ _ h => h⟩
      have := hI.set 2 (.int .i64 x1)
      simpa [updF] using this
    · obtain rfl := Option.some.inj ho
      have e5 := hsl.get 5 _ rfl
      clear hs hd
      refine wpOp_go rfl rfl (fun K hK => ?_)
      unfold Oper.wp
      go_simp
      exact hK _ _ ⟨_, rfl, rfl, by simpa [updF] using hI, fun _ _ h => h⟩
    · obtain rfl := Option.some.inj ho
      obtain ⟨v102, e102, hv102⟩ := hs 9 _ 102 rfl rfl (hd 9 (waits_mem (by kernel_rfl)))
      obtain ⟨hz9, rfl⟩ := hv102
      obtain ⟨v104, e104, hv104⟩ := hs 12 _ 104 rfl rfl (hd 12 (waits_mem (by kernel_rfl)))
      obtain rfl := hv104
      have hz1 := (show Rw x r5 _ _ from hI.k5).cell (o := 3) rfl
      have hz2 := (show Rw x r5 _ _ from hI.k5).fz 3
      clear hs hd
      refine wpOp_go rfl rfl (fun K hK => ?_)
      unfold Oper.wp
      go_simp
      refine hK _ _ ⟨undef, rfl, trivial, ?_, fun _ _ h => h⟩
      have := hI.set 3 (.int .i64 x3)
      simpa [updF] using this
  · clear hsl; intro L a x hall hI hsl hs
    rw [hall 11 (by decide)] at hI
    rw [hall 13 (by decide)] at hI
    obtain ⟨v, _, hq0, _⟩ := hs 4 _ 97 rfl rfl (hall 4 (by decide))
    obtain ⟨v, _, hq1, _⟩ := hs 9 _ 102 rfl rfl (hall 9 (by decide))
    exact h hq0 hq1 _ _ hsl hI
set_option maxRecDepth 100000 in
set_option maxHeartbeats 4000000 in
theorem st19_8 (w0 w : World) (n : Int) (bx r4 r5 g : Nat) (C : Array Value) (p0 : List UInt8) (hC0 : C[0]? = some (.string ⟨p0.toArray⟩)) (hl0 : p0.length < 4294967281) (kK kX kY kA kB : Int) (x0 y0 : Int) (hv0 : ∀ z y, hyphV p0 = some (z, y) → x0 = z ∧ y0 = y) (I0 : SI w0 w n bx r4 r5 g C (#[.int .i64 0, .int .i64 0, .int .i64 0, .int .i64 0, .int .i64 kK, .int .i64 kX, .int .i64 kY])) (a0 : Act) (hsl : Sl a0 108 [(2, .pointer (some ⟨bx, 0, none⟩)), (4, .pointer (some ⟨r4, 0, none⟩)), (5, .pointer (some ⟨r5, 0, none⟩)), (6, .slice (some ⟨g, 0, none⟩) 8 8)]) (Q : Exit → Act → World → Prop) (hbad : hyphV p0 = none → ∀ a x, Sl a 108 [(2, .pointer (some ⟨bx, 0, none⟩)), (4, .pointer (some ⟨r4, 0, none⟩)), (5, .pointer (some ⟨r5, 0, none⟩)), (6, .slice (some ⟨g, 0, none⟩) 8 8)] → Below w0.heap.size w0 x → Q (.panic (wrongP n)) a x) (h : hyphV p0 = some (x0, y0) → ∀ a x, Sl a 108 [(2, .pointer (some ⟨bx, 0, none⟩)), (4, .pointer (some ⟨r4, 0, none⟩)), (5, .pointer (some ⟨r5, 0, none⟩)), (6, .slice (some ⟨g, 0, none⟩) 8 8)] → SI w0 x n bx r4 r5 g C (#[.int .i64 x0, .int .i64 y0, .int .i64 0, .int .i64 0, .int .i64 kK, .int .i64 kX, .int .i64 kY]) → Q .normal a x) : (regionIn Tryz.f64 19).wp Tryz.prog Q a0 w := by
  have e : regionIn Tryz.f64 19 = Code.region 19 _ true := rfl
  rw [e]; clear e
  refine wp_region_sl (by kernel_rfl) (hsl) [some 84, some 85, some 86, some 87, some 88, some 83, some 89, some 90, some 91, none, some 92, none] rfl rfl (by kernel_rfl) (fun j v _ => match j with | 0 => v = .agg #[.int .i64 n] | 1 => v = .slice (some ⟨g, 0, none⟩) 8 8 | 2 => v = .pointer (some ⟨g, 0, none⟩) | 3 => v = .string ⟨p0.toArray⟩ | 4 => (hyphV p0 = some (x0, y0) ∧ v = .tuple #[.int .i64 x0, .int .i64 y0]) | 5 => (hyphV p0 = some (x0, y0) ∧ v = .tuple #[.int .i64 x0, .int .i64 y0]) | 6 => v = .int .i64 x0 | 7 => v = .int .i64 y0 | 8 => v = .pointer (some ⟨r5, 0, none⟩) | 10 => v = .pointer (some ⟨r5, 1, none⟩) | _ => True) (fun L x => SI w0 x n bx r4 r5 g C (#[if L 9 then .int .i64 x0 else .int .i64 0, if L 11 then .int .i64 y0 else .int .i64 0, .int .i64 0, .int .i64 0, .int .i64 kK, .int .i64 kX, .int .i64 kY])) I0.drew ?_ ?_
  · clear hsl; intro k o hkl ho L a x hI hLk hsl hs hd
    have hlt : ∀ k : Nat, k < 12 → k = 0 ∨ k = 1 ∨ k = 2 ∨ k = 3 ∨ k = 4 ∨ k = 5 ∨ k = 6 ∨ k = 7 ∨ k = 8 ∨ k = 9 ∨ k = 10 ∨ k = 11 := by decide
    rcases hlt k hkl with rfl | rfl | rfl | rfl | rfl | rfl | rfl | rfl | rfl | rfl | rfl | rfl
    · obtain rfl := Option.some.inj ho
      have e2 := hsl.get 2 _ rfl
      have hbx := (show Rw x bx _ _ from hI.kb).cell (o := 0) rfl
      clear hs hd
      refine wpOp_go rfl rfl (fun K hK => ?_)
      unfold Oper.wp
      go_simp
      exact hK _ _ ⟨_, rfl, rfl, by simpa [updF] using hI, fun _ _ h => h⟩
    · obtain rfl := Option.some.inj ho
      have e6 := hsl.get 6 _ rfl
      clear hs hd
      refine wpOp_go rfl rfl (fun K hK => ?_)
      unfold Oper.wp
      go_simp
      exact hK _ _ ⟨_, rfl, rfl, by simpa [updF] using hI, fun _ _ h => h⟩
    · obtain rfl := Option.some.inj ho
      obtain ⟨v85, e85, hv85⟩ := hs 1 _ 85 rfl rfl (hd 1 (waits_mem (by kernel_rfl)))
      obtain rfl := hv85
      clear hs hd
      refine wpOp_go rfl rfl (fun K hK => ?_)
      unfold Oper.wp
      go_simp
      exact hK _ _ ⟨_, rfl, rfl, by simpa [updF] using hI, fun _ _ h => h⟩
    · obtain rfl := Option.some.inj ho
      obtain ⟨v86, e86, hv86⟩ := hs 2 _ 86 rfl rfl (hd 2 (waits_mem (by kernel_rfl)))
      obtain rfl := hv86
      have hc := (show Rw x g _ _ from hI.kg).cell hC0
      clear hs hd
      refine wpOp_go rfl rfl (fun K hK => ?_)
      unfold Oper.wp
      go_simp
      exact hK _ _ ⟨_, rfl, rfl, by simpa [updF] using hI, fun _ _ h => h⟩
    · obtain rfl := Option.some.inj ho
      obtain ⟨v84, e84, hv84⟩ := hs 0 _ 84 rfl rfl (hd 0 (waits_mem (by kernel_rfl)))
      obtain rfl := hv84
      obtain ⟨v87, e87, hv87⟩ := hs 3 _ 87 rfl rfl (hd 3 (waits_mem (by kernel_rfl)))
      obtain rfl := hv87
      clear hs hd
      refine wpOp_go rfl rfl (fun K hK => ?_)
      unfold Oper.wp
      go_simp
      refine (pair_any _ n p0 (hI.mx) hl0).mono ?_
      rintro e x2 hp
      obtain ⟨hb, ⟨z, y, hz, rfl⟩ | ⟨hz, rfl⟩⟩ := hp.get
      · obtain ⟨rfl, rfl⟩ := hv0 z y hz
        exact hK _ _ ⟨_, rfl, ⟨hz, rfl⟩, hI.keep hb, fun _ _ h => h⟩
      · try simp only [Exit.then, Exit.inBlock, ↓reduceIte, Nat.reduceEqDiff]
        exact hbad (hz) _ _ hsl (hI.keep hb).below
    · obtain rfl := Option.some.inj ho
      obtain ⟨v88, e88, hv88⟩ := hs 4 _ 88 rfl rfl (hd 4 (waits_mem (by kernel_rfl)))
      obtain ⟨hz, rfl⟩ := hv88
      clear hs hd
      refine wpOp_go rfl rfl (fun K hK => ?_)
      unfold Oper.wp
      go_simp
      exact hK _ _ ⟨_, rfl, ⟨hz, rfl⟩, by simpa [updF] using hI, fun _ _ h => h⟩
    · obtain rfl := Option.some.inj ho
      obtain ⟨v83, e83, hv83⟩ := hs 5 _ 83 rfl rfl (hd 5 (waits_mem (by kernel_rfl)))
      obtain ⟨hz, rfl⟩ := hv83
      clear hs hd
      refine wpOp_go rfl rfl (fun K hK => ?_)
      unfold Oper.wp
      go_simp
      exact hK _ _ ⟨_, rfl, rfl, by simpa [updF] using hI, fun _ _ h => h⟩
    · obtain rfl := Option.some.inj ho
      obtain ⟨v83, e83, hv83⟩ := hs 5 _ 83 rfl rfl (hd 5 (waits_mem (by kernel_rfl)))
      obtain ⟨hz, rfl⟩ := hv83
      clear hs hd
      refine wpOp_go rfl rfl (fun K hK => ?_)
      unfold Oper.wp
      go_simp
      exact hK _ _ ⟨_, rfl, rfl, by simpa [updF] using hI, fun _ _ h => h⟩
    · obtain rfl := Option.some.inj ho
      have e5 := hsl.get 5 _ rfl
      clear hs hd
      refine wpOp_go rfl rfl (fun K hK => ?_)
      unfold Oper.wp
      go_simp
      exact hK _ _ ⟨_, rfl, rfl, by simpa [updF] using hI, fun _ _ h => h⟩
    · obtain rfl := Option.some.inj ho
      obtain ⟨v89, e89, hv89⟩ := hs 6 _ 89 rfl rfl (hd 6 (waits_mem (by kernel_rfl)))
      obtain rfl := hv89
      obtain ⟨v91, e91, hv91⟩ := hs 8 _ 91 rfl rfl (hd 8 (waits_mem (by kernel_rfl)))
      obtain rfl := hv91
      have hz1 := (show Rw x r5 _ _ from hI.k5).cell (o := 0) rfl
      have hz2 := (show Rw x r5 _ _ from hI.k5).fz 0
      clear hs hd
      refine wpOp_go rfl rfl (fun K hK => ?_)
      unfold Oper.wp
      go_simp
      refine hK _ _ ⟨undef, rfl, trivial, ?_, fun _ _ h => h⟩
      have := hI.set 0 (.int .i64 x0)
      simpa [updF] using this
    · obtain rfl := Option.some.inj ho
      have e5 := hsl.get 5 _ rfl
      clear hs hd
      refine wpOp_go rfl rfl (fun K hK => ?_)
      unfold Oper.wp
      go_simp
      exact hK _ _ ⟨_, rfl, rfl, by simpa [updF] using hI, fun _ _ h => h⟩
    · obtain rfl := Option.some.inj ho
      obtain ⟨v90, e90, hv90⟩ := hs 7 _ 90 rfl rfl (hd 7 (waits_mem (by kernel_rfl)))
      obtain rfl := hv90
      obtain ⟨v92, e92, hv92⟩ := hs 10 _ 92 rfl rfl (hd 10 (waits_mem (by kernel_rfl)))
      obtain rfl := hv92
      have hz1 := (show Rw x r5 _ _ from hI.k5).cell (o := 1) rfl
      have hz2 := (show Rw x r5 _ _ from hI.k5).fz 1
      clear hs hd
      refine wpOp_go rfl rfl (fun K hK => ?_)
      unfold Oper.wp
      go_simp
      refine hK _ _ ⟨undef, rfl, trivial, ?_, fun _ _ h => h⟩
      have := hI.set 1 (.int .i64 y0)
      simpa [updF] using this
  · clear hsl; intro L a x hall hI hsl hs
    rw [hall 9 (by decide)] at hI
    rw [hall 11 (by decide)] at hI
    obtain ⟨v, _, hq0, _⟩ := hs 4 _ 88 rfl rfl (hall 4 (by decide))
    exact h hq0 _ _ hsl hI
set_option maxRecDepth 100000 in
set_option maxHeartbeats 4000000 in
theorem st20_8 (w0 w : World) (n : Int) (bx r4 r5 g : Nat) (C : Array Value) (p1 p3 : List UInt8) (hC1 : C[1]? = some (.string ⟨p1.toArray⟩)) (hC3 : C[3]? = some (.string ⟨p3.toArray⟩))  (kK kX kY kA kB : Int) (x1 : Int) (hv1 : ∀ z, numV p1 = some z → x1 = z) (x3 : Int) (hv3 : ∀ z, numV p3 = some z → x3 = z) (I0 : SI w0 w n bx r4 r5 g C (#[.int .i64 kA, .int .i64 kB, .int .i64 0, .int .i64 0, .int .i64 kK, .int .i64 kX, .int .i64 kY])) (a0 : Act) (hsl : Sl a0 108 [(2, .pointer (some ⟨bx, 0, none⟩)), (4, .pointer (some ⟨r4, 0, none⟩)), (5, .pointer (some ⟨r5, 0, none⟩)), (6, .slice (some ⟨g, 0, none⟩) 8 8)]) (Q : Exit → Act → World → Prop) (hbad : numV p1 = none ∨ numV p3 = none → ∀ a x, Sl a 108 [(2, .pointer (some ⟨bx, 0, none⟩)), (4, .pointer (some ⟨r4, 0, none⟩)), (5, .pointer (some ⟨r5, 0, none⟩)), (6, .slice (some ⟨g, 0, none⟩) 8 8)] → Below w0.heap.size w0 x → Q (.panic (wrongP n)) a x) (h : numV p1 = some x1 → numV p3 = some x3 → ∀ a x, Sl a 108 [(2, .pointer (some ⟨bx, 0, none⟩)), (4, .pointer (some ⟨r4, 0, none⟩)), (5, .pointer (some ⟨r5, 0, none⟩)), (6, .slice (some ⟨g, 0, none⟩) 8 8)] → SI w0 x n bx r4 r5 g C (#[.int .i64 kA, .int .i64 kB, .int .i64 x1, .int .i64 x3, .int .i64 kK, .int .i64 kX, .int .i64 kY]) → Q .normal a x) : (regionIn Tryz.f64 20).wp Tryz.prog Q a0 w := by
  have e : regionIn Tryz.f64 20 = Code.region 20 _ true := rfl
  rw [e]; clear e
  refine wp_region_sl (by kernel_rfl) (hsl) [some 93, some 94, some 95, some 96, some 97, some 98, some 99, some 100, some 101, some 102, some 103, none, some 104, none] rfl rfl (by kernel_rfl) (fun j v _ => match j with | 0 => v = .agg #[.int .i64 n] | 1 => v = .slice (some ⟨g, 0, none⟩) 8 8 | 2 => v = .pointer (some ⟨g, 1, none⟩) | 3 => v = .string ⟨p1.toArray⟩ | 4 => (numV p1 = some x1 ∧ v = .int .i64 x1) | 5 => v = .agg #[.int .i64 n] | 6 => v = .slice (some ⟨g, 0, none⟩) 8 8 | 7 => v = .pointer (some ⟨g, 3, none⟩) | 8 => v = .string ⟨p3.toArray⟩ | 9 => (numV p3 = some x3 ∧ v = .int .i64 x3) | 10 => v = .pointer (some ⟨r5, 2, none⟩) | 12 => v = .pointer (some ⟨r5, 3, none⟩) | _ => True) (fun L x => SI w0 x n bx r4 r5 g C (#[.int .i64 kA, .int .i64 kB, if L 11 then .int .i64 x1 else .int .i64 0, if L 13 then .int .i64 x3 else .int .i64 0, .int .i64 kK, .int .i64 kX, .int .i64 kY])) I0.drew ?_ ?_
  · clear hsl; intro k o hkl ho L a x hI hLk hsl hs hd
    have hlt : ∀ k : Nat, k < 14 → k = 0 ∨ k = 1 ∨ k = 2 ∨ k = 3 ∨ k = 4 ∨ k = 5 ∨ k = 6 ∨ k = 7 ∨ k = 8 ∨ k = 9 ∨ k = 10 ∨ k = 11 ∨ k = 12 ∨ k = 13 := by decide
    rcases hlt k hkl with rfl | rfl | rfl | rfl | rfl | rfl | rfl | rfl | rfl | rfl | rfl | rfl | rfl | rfl
    · obtain rfl := Option.some.inj ho
      have e2 := hsl.get 2 _ rfl
      have hbx := (show Rw x bx _ _ from hI.kb).cell (o := 0) rfl
      clear hs hd
      refine wpOp_go rfl rfl (fun K hK => ?_)
      unfold Oper.wp
      go_simp
      exact hK _ _ ⟨_, rfl, rfl, by simpa [updF] using hI, fun _ _ h => h⟩
    · obtain rfl := Option.some.inj ho
      have e6 := hsl.get 6 _ rfl
      clear hs hd
      refine wpOp_go rfl rfl (fun K hK => ?_)
      unfold Oper.wp
      go_simp
      exact hK _ _ ⟨_, rfl, rfl, by simpa [updF] using hI, fun _ _ h => h⟩
    · obtain rfl := Option.some.inj ho
      obtain ⟨v94, e94, hv94⟩ := hs 1 _ 94 rfl rfl (hd 1 (waits_mem (by kernel_rfl)))
      obtain rfl := hv94
      clear hs hd
      refine wpOp_go rfl rfl (fun K hK => ?_)
      unfold Oper.wp
      go_simp
      exact hK _ _ ⟨_, rfl, rfl, by simpa [updF] using hI, fun _ _ h => h⟩
    · obtain rfl := Option.some.inj ho
      obtain ⟨v95, e95, hv95⟩ := hs 2 _ 95 rfl rfl (hd 2 (waits_mem (by kernel_rfl)))
      obtain rfl := hv95
      have hc := (show Rw x g _ _ from hI.kg).cell hC1
      clear hs hd
      refine wpOp_go rfl rfl (fun K hK => ?_)
      unfold Oper.wp
      go_simp
      exact hK _ _ ⟨_, rfl, rfl, by simpa [updF] using hI, fun _ _ h => h⟩
    · obtain rfl := Option.some.inj ho
      obtain ⟨v93, e93, hv93⟩ := hs 0 _ 93 rfl rfl (hd 0 (waits_mem (by kernel_rfl)))
      obtain rfl := hv93
      obtain ⟨v96, e96, hv96⟩ := hs 3 _ 96 rfl rfl (hd 3 (waits_mem (by kernel_rfl)))
      obtain rfl := hv96
      clear hs hd
      refine wpOp_go rfl rfl (fun K hK => ?_)
      unfold Oper.wp
      go_simp
      refine (number_any _ n p1).mono ?_
      rintro e x2 hp
      obtain ⟨hb, ⟨z, hz, rfl⟩ | ⟨hz, rfl⟩⟩ := hp.get
      · obtain rfl := hv1 z hz
        exact hK _ _ ⟨_, rfl, ⟨hz, rfl⟩, hI.keep hb, fun _ _ h => h⟩
      · try simp only [Exit.then, Exit.inBlock, ↓reduceIte, Nat.reduceEqDiff]
        exact hbad (.inl hz) _ _ hsl (hI.keep hb).below
    · obtain rfl := Option.some.inj ho
      have e2 := hsl.get 2 _ rfl
      have hbx := (show Rw x bx _ _ from hI.kb).cell (o := 0) rfl
      clear hs hd
      refine wpOp_go rfl rfl (fun K hK => ?_)
      unfold Oper.wp
      go_simp
      exact hK _ _ ⟨_, rfl, rfl, by simpa [updF] using hI, fun _ _ h => h⟩
    · obtain rfl := Option.some.inj ho
      have e6 := hsl.get 6 _ rfl
      clear hs hd
      refine wpOp_go rfl rfl (fun K hK => ?_)
      unfold Oper.wp
      go_simp
      exact hK _ _ ⟨_, rfl, rfl, by simpa [updF] using hI, fun _ _ h => h⟩
    · obtain rfl := Option.some.inj ho
      obtain ⟨v99, e99, hv99⟩ := hs 6 _ 99 rfl rfl (hd 6 (waits_mem (by kernel_rfl)))
      obtain rfl := hv99
      clear hs hd
      refine wpOp_go rfl rfl (fun K hK => ?_)
      unfold Oper.wp
      go_simp
      exact hK _ _ ⟨_, rfl, rfl, by simpa [updF] using hI, fun _ _ h => h⟩
    · obtain rfl := Option.some.inj ho
      obtain ⟨v100, e100, hv100⟩ := hs 7 _ 100 rfl rfl (hd 7 (waits_mem (by kernel_rfl)))
      obtain rfl := hv100
      have hc := (show Rw x g _ _ from hI.kg).cell hC3
      clear hs hd
      refine wpOp_go rfl rfl (fun K hK => ?_)
      unfold Oper.wp
      go_simp
      exact hK _ _ ⟨_, rfl, rfl, by simpa [updF] using hI, fun _ _ h => h⟩
    · obtain rfl := Option.some.inj ho
      obtain ⟨v98, e98, hv98⟩ := hs 5 _ 98 rfl rfl (hd 5 (waits_mem (by kernel_rfl)))
      obtain rfl := hv98
      obtain ⟨v101, e101, hv101⟩ := hs 8 _ 101 rfl rfl (hd 8 (waits_mem (by kernel_rfl)))
      obtain rfl := hv101
      clear hs hd
      refine wpOp_go rfl rfl (fun K hK => ?_)
      unfold Oper.wp
      go_simp
      refine (number_any _ n p3).mono ?_
      rintro e x2 hp
      obtain ⟨hb, ⟨z, hz, rfl⟩ | ⟨hz, rfl⟩⟩ := hp.get
      · obtain rfl := hv3 z hz
        exact hK _ _ ⟨_, rfl, ⟨hz, rfl⟩, hI.keep hb, fun _ _ h => h⟩
      · try simp only [Exit.then, Exit.inBlock, ↓reduceIte, Nat.reduceEqDiff]
        exact hbad (.inr hz) _ _ hsl (hI.keep hb).below
    · obtain rfl := Option.some.inj ho
      have e5 := hsl.get 5 _ rfl
      clear hs hd
      refine wpOp_go rfl rfl (fun K hK => ?_)
      unfold Oper.wp
      go_simp
      exact hK _ _ ⟨_, rfl, rfl, by simpa [updF] using hI, fun _ _ h => h⟩
    · obtain rfl := Option.some.inj ho
      obtain ⟨v97, e97, hv97⟩ := hs 4 _ 97 rfl rfl (hd 4 (waits_mem (by kernel_rfl)))
      obtain ⟨hz4, rfl⟩ := hv97
      obtain ⟨v103, e103, hv103⟩ := hs 10 _ 103 rfl rfl (hd 10 (waits_mem (by kernel_rfl)))
      obtain rfl := hv103
      have hz1 := (show Rw x r5 _ _ from hI.k5).cell (o := 2) rfl
      have hz2 := (show Rw x r5 _ _ from hI.k5).fz 2
      clear hs hd
      refine wpOp_go rfl rfl (fun K hK => ?_)
      unfold Oper.wp
      go_simp
      refine hK _ _ ⟨undef, rfl, trivial, ?_, fun _ _ h => h⟩
      have := hI.set 2 (.int .i64 x1)
      simpa [updF] using this
    · obtain rfl := Option.some.inj ho
      have e5 := hsl.get 5 _ rfl
      clear hs hd
      refine wpOp_go rfl rfl (fun K hK => ?_)
      unfold Oper.wp
      go_simp
      exact hK _ _ ⟨_, rfl, rfl, by simpa [updF] using hI, fun _ _ h => h⟩
    · obtain rfl := Option.some.inj ho
      obtain ⟨v102, e102, hv102⟩ := hs 9 _ 102 rfl rfl (hd 9 (waits_mem (by kernel_rfl)))
      obtain ⟨hz9, rfl⟩ := hv102
      obtain ⟨v104, e104, hv104⟩ := hs 12 _ 104 rfl rfl (hd 12 (waits_mem (by kernel_rfl)))
      obtain rfl := hv104
      have hz1 := (show Rw x r5 _ _ from hI.k5).cell (o := 3) rfl
      have hz2 := (show Rw x r5 _ _ from hI.k5).fz 3
      clear hs hd
      refine wpOp_go rfl rfl (fun K hK => ?_)
      unfold Oper.wp
      go_simp
      refine hK _ _ ⟨undef, rfl, trivial, ?_, fun _ _ h => h⟩
      have := hI.set 3 (.int .i64 x3)
      simpa [updF] using this
  · clear hsl; intro L a x hall hI hsl hs
    rw [hall 11 (by decide)] at hI
    rw [hall 13 (by decide)] at hI
    obtain ⟨v, _, hq0, _⟩ := hs 4 _ 97 rfl rfl (hall 4 (by decide))
    obtain ⟨v, _, hq1, _⟩ := hs 9 _ 102 rfl rfl (hall 9 (by decide))
    exact h hq0 hq1 _ _ hsl hI
end Go.Proofs.YtmkjeonjhedgkaaGreatDoor
