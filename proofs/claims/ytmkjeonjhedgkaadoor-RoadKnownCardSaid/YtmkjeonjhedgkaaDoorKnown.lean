/- The walk of RoadKnown: it returns true. -/
import Derived.Test.YtmkjeonjhedgkaaDoorKnA
import Derived.Test.YtmkjeonjhedgkaaDoorKnB
import Derived.Test.YtmkjeonjhedgkaaDoorKnC
import Derived.Test.YtmkjeonjhedgkaaDoorKnD
import Derived.Test.YtmkjeonjhedgkaaDoorKnF
import Derived.Test.YtmkjeonjhedgkaaDoorKnN
/- Segments of RoadKnown: region lemmas one after the other, and the test behind them. -/
namespace Go.Proofs.YtmkjeonjhedgkaaDoor
set_option linter.unusedSimpArgs false
set_option linter.unusedVariables false
open Go.RowKit

set_option maxRecDepth 100000 in
set_option maxHeartbeats 4000000 in
theorem seg17 (w : World) (a : Act) (hsl : Sl a 548 []) (rest : Code) (Q : Exit → Act → World → Prop) (h : ∀ (a' : Act) (w' : World), Sl a' 548 [] → Below w.heap.size w w' → rest.wp Tryd.prog Q a' w') : ((Code.seq (regionIn Tryd.f3 12) (Code.seq (regionIn Tryd.f3 13) (Code.seq (regionIn Tryd.f3 14) (Code.seq (regionIn Tryd.f3 15) (Code.seq (regionIn Tryd.f3 16) (Code.seq (Code.seq (regionIn Tryd.f3 17) (Code.cond (Operand.tmp 173) (Code.seq (regionIn Tryd.f3 18) Code.ret) Code.skip)) rest))))))).wp Tryd.prog Q a w := by
  have HB := Below.refl w.heap.size w
  refine kr12 _ _ _ hsl _ _ ?_
  intro a12 w12 _ _ _ _ hs12 hb
  replace HB := HB.trans (hb.mono HB.size); clear hb hsl; have hsl := hs12; clear hs12
  refine kr13 _ _ _ hsl _ _ ?_
  intro a13 w13 x13 y13 _ _ _ _ _ _ hs13 hi13 hb
  replace HB := HB.trans (hb.mono HB.size); clear hb hsl; have hsl := hs13; clear hs13
  refine kr14 _ _ _ hsl _ _ ?_
  intro a14 w14 x14 y14 _ _ _ _ _ _ hs14 hi14 hb
  replace hi13 := hi13.below hb
  replace HB := HB.trans (hb.mono HB.size); clear hb hsl; have hsl := hs14; clear hs14
  refine kr15 _ _ _ hsl _ _ ?_
  intro a15 w15 x15 y15 _ _ _ _ _ _ hs15 hi15 hb
  replace hi13 := hi13.below hb
  replace hi14 := hi14.below hb
  replace HB := HB.trans (hb.mono HB.size); clear hb hsl; have hsl := hs15; clear hs15
  refine kr16 _ _ _ hsl _ _ ?_
  intro a16 w16 x16 y16 _ _ _ _ _ _ hs16 hi16 hb
  replace hi13 := hi13.below hb
  replace hi14 := hi14.below hb
  replace hi15 := hi15.below hb
  replace HB := HB.trans (hb.mono HB.size); clear hb hsl; have hsl := hs16; clear hs16
  refine wp_seq ?_
  refine kr17 _ _ _ _ _ _ _ _ _ hi13 hi14 hi15 hi16 _ [] ((((((((((hsl.nil).cons (hsl.get 18 _ rfl)).cons (hsl.get 16 _ rfl)).cons (hsl.get 14 _ rfl)).cons (hsl.get 12 _ rfl)).cons (hsl.get 19 _ rfl)).cons (hsl.get 17 _ rfl)).cons (hsl.get 15 _ rfl)).cons (hsl.get 13 _ rfl)).cons (hsl.get 11 _ rfl)) _ _ ?_
  intro a' w' _ _ _ _ _ _ _ _ _ _ _ _ _ _ _ _ _ _ _ _ _ _ _ _ _ _ _ _ _ _ _ _ _ _ _ _ _ _ _ _ _ hs hb
  replace HB := HB.trans (hb.mono HB.size); clear hb
  refine wp_cond_false (hs.ev 173 rfl) ?_
  refine wp_skip ?_
  exact h _ _ hs.nil HB
set_option maxRecDepth 100000 in
set_option maxHeartbeats 4000000 in
theorem seg23 (w : World) (a : Act) (hsl : Sl a 548 []) (rest : Code) (Q : Exit → Act → World → Prop) (h : ∀ (a' : Act) (w' : World), Sl a' 548 [] → Below w.heap.size w w' → rest.wp Tryd.prog Q a' w') : ((Code.seq (regionIn Tryd.f3 19) (Code.seq (regionIn Tryd.f3 20) (Code.seq (regionIn Tryd.f3 21) (Code.seq (regionIn Tryd.f3 22) (Code.seq (Code.seq (regionIn Tryd.f3 23) (Code.cond (Operand.tmp 238) (Code.seq (regionIn Tryd.f3 24) Code.ret) Code.skip)) rest)))))).wp Tryd.prog Q a w := by
  have HB := Below.refl w.heap.size w
  refine kr19 _ _ _ hsl _ _ ?_
  intro a19 w19 x19 y19 _ _ _ _ _ _ hs19 hi19 hb
  replace HB := HB.trans (hb.mono HB.size); clear hb hsl; have hsl := hs19; clear hs19
  refine kr20 _ _ _ hsl _ _ ?_
  intro a20 w20 x20 y20 _ _ _ _ _ _ hs20 hi20 hb
  replace hi19 := hi19.below hb
  replace HB := HB.trans (hb.mono HB.size); clear hb hsl; have hsl := hs20; clear hs20
  refine kr21 _ _ _ hsl _ _ ?_
  intro a21 w21 x21 y21 _ _ _ _ _ _ hs21 hi21 hb
  replace hi19 := hi19.below hb
  replace hi20 := hi20.below hb
  replace HB := HB.trans (hb.mono HB.size); clear hb hsl; have hsl := hs21; clear hs21
  refine kr22 _ _ _ hsl _ _ ?_
  intro a22 w22 x22 y22 _ _ _ _ _ _ _ _ _ _ hs22 hi22 hb
  replace hi19 := hi19.below hb
  replace hi20 := hi20.below hb
  replace hi21 := hi21.below hb
  replace HB := HB.trans (hb.mono HB.size); clear hb hsl; have hsl := hs22; clear hs22
  refine wp_seq ?_
  refine kr23 _ _ _ _ _ _ _ _ _ hi19 hi20 hi21 hi22 _ [] (((((((((hsl.nil).cons (hsl.get 18 _ rfl)).cons (hsl.get 16 _ rfl)).cons (hsl.get 14 _ rfl)).cons (hsl.get 12 _ rfl)).cons (hsl.get 17 _ rfl)).cons (hsl.get 15 _ rfl)).cons (hsl.get 13 _ rfl)).cons (hsl.get 11 _ rfl)) _ _ ?_
  intro a' w' _ _ _ _ _ _ _ _ _ _ _ _ _ _ _ _ _ _ _ _ _ _ _ _ _ _ _ _ _ _ _ _ _ _ _ _ hs hb
  replace HB := HB.trans (hb.mono HB.size); clear hb
  refine wp_cond_false (hs.ev 238 rfl) ?_
  refine wp_skip ?_
  exact h _ _ hs.nil HB
set_option maxRecDepth 100000 in
set_option maxHeartbeats 4000000 in
theorem seg35 (w : World) (a : Act) (hsl : Sl a 548 []) (rest : Code) (Q : Exit → Act → World → Prop) (h : ∀ (a' : Act) (w' : World), Sl a' 548 [] → Below w.heap.size w w' → rest.wp Tryd.prog Q a' w') : ((Code.seq (regionIn Tryd.f3 32) (Code.seq (regionIn Tryd.f3 33) (Code.seq (regionIn Tryd.f3 34) (Code.seq (Code.seq (regionIn Tryd.f3 35) (Code.cond (Operand.tmp 316) (Code.seq (regionIn Tryd.f3 36) Code.ret) Code.skip)) rest))))).wp Tryd.prog Q a w := by
  have HB := Below.refl w.heap.size w
  refine kr32 _ _ _ hsl _ _ ?_
  intro a32 w32 x32 y32 _ _ _ _ _ _ hs32 hi32 hb
  replace HB := HB.trans (hb.mono HB.size); clear hb hsl; have hsl := hs32; clear hs32
  refine kr33 _ _ _ hsl _ _ ?_
  intro a33 w33 x33 y33 _ _ _ _ _ _ hs33 hi33 hb
  replace hi32 := hi32.below hb
  replace HB := HB.trans (hb.mono HB.size); clear hb hsl; have hsl := hs33; clear hs33
  refine kr34 _ _ _ hsl _ _ ?_
  intro a34 w34 _ _ _ _ _ _ hs34 hb
  replace hi32 := hi32.below hb
  replace hi33 := hi33.below hb
  replace HB := HB.trans (hb.mono HB.size); clear hb hsl; have hsl := hs34; clear hs34
  refine wp_seq ?_
  refine kr35 _ _ _ _ _ hi32 hi33 _ [] ((((((hsl.nil).cons (hsl.get 25 _ rfl)).cons (hsl.get 12 _ rfl)).cons (hsl.get 15 _ rfl)).cons (hsl.get 13 _ rfl)).cons (hsl.get 11 _ rfl)) _ _ ?_
  intro a' w' _ _ _ _ _ _ _ _ _ _ _ _ _ _ _ _ _ _ _ _ _ _ hs hb
  replace HB := HB.trans (hb.mono HB.size); clear hb
  refine wp_cond_false (hs.ev 316 rfl) ?_
  refine wp_skip ?_
  exact h _ _ hs.nil HB
set_option maxRecDepth 100000 in
set_option maxHeartbeats 4000000 in
theorem seg42 (w : World) (a : Act) (hsl : Sl a 548 []) (rest : Code) (Q : Exit → Act → World → Prop) (h : ∀ (a' : Act) (w' : World), Sl a' 548 [] → Below w.heap.size w w' → rest.wp Tryd.prog Q a' w') : ((Code.seq (regionIn Tryd.f3 37) (Code.seq (regionIn Tryd.f3 38) (Code.seq (regionIn Tryd.f3 39) (Code.seq (regionIn Tryd.f3 40) (Code.seq (regionIn Tryd.f3 41) (Code.seq (Code.seq (regionIn Tryd.f3 42) (Code.cond (Operand.tmp 376) (Code.seq (regionIn Tryd.f3 43) Code.ret) Code.skip)) rest))))))).wp Tryd.prog Q a w := by
  have HB := Below.refl w.heap.size w
  refine kr37 _ _ _ hsl _ _ ?_
  intro a37 w37 _ _ _ _ _ _ hs37 hb
  replace HB := HB.trans (hb.mono HB.size); clear hb hsl; have hsl := hs37; clear hs37
  refine kr38 _ _ _ hsl _ _ ?_
  intro a38 w38 _ _ _ _ _ _ hs38 hb
  replace HB := HB.trans (hb.mono HB.size); clear hb hsl; have hsl := hs38; clear hs38
  refine kr39 _ _ _ hsl _ _ ?_
  intro a39 w39 _ _ _ _ _ _ hs39 hb
  replace HB := HB.trans (hb.mono HB.size); clear hb hsl; have hsl := hs39; clear hs39
  refine kr40 _ _ _ hsl _ _ ?_
  intro a40 w40 _ _ _ _ _ _ hs40 hb
  replace HB := HB.trans (hb.mono HB.size); clear hb hsl; have hsl := hs40; clear hs40
  refine kr41 _ _ _ hsl _ _ ?_
  intro a41 w41 _ _ _ _ _ _ hs41 hb
  replace HB := HB.trans (hb.mono HB.size); clear hb hsl; have hsl := hs41; clear hs41
  refine wp_seq ?_
  refine kr42 _   _ [] (((((((((hsl.nil).cons (hsl.get 28 _ rfl)).cons (hsl.get 27 _ rfl)).cons (hsl.get 26 _ rfl)).cons (hsl.get 19 _ rfl)).cons (hsl.get 17 _ rfl)).cons (hsl.get 15 _ rfl)).cons (hsl.get 13 _ rfl)).cons (hsl.get 11 _ rfl)) _ _ ?_
  intro a' w' _ _ _ _ _ _ _ _ _ _ _ _ _ _ _ _ _ _ _ _ _ _ _ _ _ _ _ _ _ hs hb
  replace HB := HB.trans (hb.mono HB.size); clear hb
  refine wp_cond_false (hs.ev 376 rfl) ?_
  refine wp_skip ?_
  exact h _ _ hs.nil HB
set_option maxRecDepth 100000 in
set_option maxHeartbeats 4000000 in
theorem seg49 (w : World) (a : Act) (hsl : Sl a 548 []) (rest : Code) (Q : Exit → Act → World → Prop) (h : ∀ (a' : Act) (w' : World), Sl a' 548 [] → Below w.heap.size w w' → rest.wp Tryd.prog Q a' w') : ((Code.seq (regionIn Tryd.f3 44) (Code.seq (regionIn Tryd.f3 45) (Code.seq (regionIn Tryd.f3 46) (Code.seq (regionIn Tryd.f3 47) (Code.seq (regionIn Tryd.f3 48) (Code.seq (Code.seq (regionIn Tryd.f3 49) (Code.cond (Operand.tmp 441) (Code.seq (regionIn Tryd.f3 50) Code.ret) Code.skip)) rest))))))).wp Tryd.prog Q a w := by
  have HB := Below.refl w.heap.size w
  refine kr44 _ _ _ hsl _ _ ?_
  intro a44 w44 _ _ _ _ _ hs44 hb
  replace HB := HB.trans (hb.mono HB.size); clear hb hsl; have hsl := hs44; clear hs44
  refine kr45 _ _ _ hsl _ _ ?_
  intro a45 w45 _ _ _ _ _ hs45 hb
  replace HB := HB.trans (hb.mono HB.size); clear hb hsl; have hsl := hs45; clear hs45
  refine kr46 _ _ _ hsl _ _ ?_
  intro a46 w46 x46 y46 _ _ _ _ _ _ hs46 hi46 hb
  replace HB := HB.trans (hb.mono HB.size); clear hb hsl; have hsl := hs46; clear hs46
  refine kr47 _ _ _ hsl _ _ ?_
  intro a47 w47 x47 y47 _ _ _ _ _ _ hs47 hi47 hb
  replace hi46 := hi46.below hb
  replace HB := HB.trans (hb.mono HB.size); clear hb hsl; have hsl := hs47; clear hs47
  refine kr48 _ _ _ hsl _ _ ?_
  intro a48 w48 _ _ _ _ _ _ hs48 hb
  replace hi46 := hi46.below hb
  replace hi47 := hi47.below hb
  replace HB := HB.trans (hb.mono HB.size); clear hb hsl; have hsl := hs48; clear hs48
  refine wp_seq ?_
  refine kr49 _ _ _ _ _ hi46 hi47 _ [] ((((((((((hsl.nil).cons (hsl.get 14 _ rfl)).cons (hsl.get 12 _ rfl)).cons (hsl.get 27 _ rfl)).cons (hsl.get 26 _ rfl)).cons (hsl.get 19 _ rfl)).cons (hsl.get 17 _ rfl)).cons (hsl.get 15 _ rfl)).cons (hsl.get 13 _ rfl)).cons (hsl.get 11 _ rfl)) _ _ ?_
  intro a' w' _ _ _ _ _ _ _ _ _ _ _ _ _ _ _ _ _ _ _ _ _ _ _ _ _ _ _ _ _ _ _ _ _ _ _ _ hs hb
  replace HB := HB.trans (hb.mono HB.size); clear hb
  refine wp_cond_false (hs.ev 441 rfl) ?_
  refine wp_skip ?_
  exact h _ _ hs.nil HB
set_option maxRecDepth 100000 in
set_option maxHeartbeats 4000000 in
theorem seg58 (w : World) (ht : TabOk w) (a : Act) (hsl : Sl a 548 []) (Q : Exit → Act → World → Prop) (h : ∀ (a' : Act) (w' : World), Sl a' 548 [(0, .bool true)] → Below w.heap.size w w' → Q .ret a' w') : ((Code.seq (regionIn Tryd.f3 51) (Code.seq (regionIn Tryd.f3 52) (Code.seq (regionIn Tryd.f3 53) (Code.seq (regionIn Tryd.f3 54) (Code.seq (regionIn Tryd.f3 55) (Code.seq (regionIn Tryd.f3 56) (Code.seq (regionIn Tryd.f3 57) (Code.seq (regionIn Tryd.f3 58) Code.ret))))))))).wp Tryd.prog Q a w := by
  have HB := Below.refl w.heap.size w
  refine kr51 _ _ _ hsl _ _ ?_
  intro a51 w51 x51 y51 _ _ _ _ _ _ hs51 hi51 hb
  replace HB := HB.trans (hb.mono HB.size); clear hb hsl; have hsl := hs51; clear hs51
  refine kr52 _ _ _ hsl _ _ ?_
  intro a52 w52 x52 y52 _ _ _ _ _ _ hs52 hi52 hb
  replace hi51 := hi51.below hb
  replace HB := HB.trans (hb.mono HB.size); clear hb hsl; have hsl := hs52; clear hs52
  refine kr53 _ _ _ hsl _ _ ?_
  intro a53 w53 x53 y53 _ _ _ _ _ _ hs53 hi53 hb
  replace hi51 := hi51.below hb
  replace hi52 := hi52.below hb
  replace HB := HB.trans (hb.mono HB.size); clear hb hsl; have hsl := hs53; clear hs53
  refine kr54 _ _ _ hsl _ _ ?_
  intro a54 w54 x54 y54 _ _ _ _ _ _ hs54 hi54 hb
  replace hi51 := hi51.below hb
  replace hi52 := hi52.below hb
  replace hi53 := hi53.below hb
  replace HB := HB.trans (hb.mono HB.size); clear hb hsl; have hsl := hs54; clear hs54
  refine kr55 _ _ _ hsl _ _ ?_
  intro a55 w55 x55 y55 _ _ _ _ _ _ hs55 hi55 hb
  replace hi51 := hi51.below hb
  replace hi52 := hi52.below hb
  replace hi53 := hi53.below hb
  replace hi54 := hi54.below hb
  replace HB := HB.trans (hb.mono HB.size); clear hb hsl; have hsl := hs55; clear hs55
  refine kr56 _ _ _ hsl _ _ ?_
  intro a56 w56 x56 y56 _ _ _ _ _ _ _ hs56 hi56 hb
  replace hi51 := hi51.below hb
  replace hi52 := hi52.below hb
  replace hi53 := hi53.below hb
  replace hi54 := hi54.below hb
  replace hi55 := hi55.below hb
  replace HB := HB.trans (hb.mono HB.size); clear hb hsl; have hsl := hs56; clear hs56
  have ht2 := ht.below HB
  refine kr57 _ _ _ hsl ht2 _ _ ?_
  intro a57 w57 _ _ _ _ _ hs57 hb
  replace hi51 := hi51.below hb
  replace hi52 := hi52.below hb
  replace hi53 := hi53.below hb
  replace hi54 := hi54.below hb
  replace hi55 := hi55.below hb
  replace hi56 := hi56.below hb
  replace HB := HB.trans (hb.mono HB.size); clear hb hsl; have hsl := hs57; clear hs57
  refine kr58 _ _ _ _ _ _ _ _ _ _ _ _ _ hi51 hi52 hi53 hi54 hi55 hi56 _ [] ((((((((((((((((hsl.nil).cons (hsl.get 32 _ rfl)).cons (hsl.get 30 _ rfl)).cons (hsl.get 29 _ rfl)).cons (hsl.get 18 _ rfl)).cons (hsl.get 16 _ rfl)).cons (hsl.get 14 _ rfl)).cons (hsl.get 12 _ rfl)).cons (hsl.get 33 _ rfl)).cons (hsl.get 31 _ rfl)).cons (hsl.get 26 _ rfl)).cons (hsl.get 19 _ rfl)).cons (hsl.get 17 _ rfl)).cons (hsl.get 15 _ rfl)).cons (hsl.get 13 _ rfl)).cons (hsl.get 11 _ rfl)) _ _ ?_
  intro a' w' _ _ _ _ _ _ _ _ _ _ _ _ _ _ _ _ _ _ _ _ _ _ _ _ _ _ _ _ _ _ _ _ _ _ _ _ _ _ _ _ _ _ _ _ _ _ _ _ _ _ _ _ _ _ _ _ _ _ _ _ _ _ _ _ hs hb
  replace HB := HB.trans (hb.mono HB.size); clear hb
  refine wp_ret ?_
  exact h _ _ ((hs.nil).cons (hs.get 0 _ rfl)) HB
end Go.Proofs.YtmkjeonjhedgkaaDoor
namespace Go.Proofs.YtmkjeonjhedgkaaDoor
set_option linter.unusedSimpArgs false
set_option linter.unusedVariables false
open Go.RowKit

set_option maxRecDepth 100000 in
theorem known_body : Tryd.f3.body = some (Code.seq (regionIn Tryd.f3 0) (Code.seq (regionIn Tryd.f3 1) (Code.seq (regionIn Tryd.f3 2) (Code.seq (Code.seq (regionIn Tryd.f3 3) (Code.cond (Operand.tmp 77) (Code.seq (regionIn Tryd.f3 4) Code.ret) Code.skip)) (Code.seq (regionIn Tryd.f3 5) (Code.seq (Code.seq (regionIn Tryd.f3 6) (Code.block 0 (Code.loop (Code.seq (Code.seq (regionIn Tryd.f3 7) (Code.cond (Operand.tmp 83) Code.skip (Code.exit 0))) (Code.seq (Code.block 1 (Code.seq (regionIn Tryd.f3 9) (Code.seq (regionIn Tryd.f3 10) (Code.cond (Operand.tmp 103) (Code.seq (regionIn Tryd.f3 11) Code.ret) Code.skip)))) (regionIn Tryd.f3 8)))))) (Code.seq (regionIn Tryd.f3 12) (Code.seq (regionIn Tryd.f3 13) (Code.seq (regionIn Tryd.f3 14) (Code.seq (regionIn Tryd.f3 15) (Code.seq (regionIn Tryd.f3 16) (Code.seq (Code.seq (regionIn Tryd.f3 17) (Code.cond (Operand.tmp 173) (Code.seq (regionIn Tryd.f3 18) Code.ret) Code.skip)) (Code.seq (regionIn Tryd.f3 19) (Code.seq (regionIn Tryd.f3 20) (Code.seq (regionIn Tryd.f3 21) (Code.seq (regionIn Tryd.f3 22) (Code.seq (Code.seq (regionIn Tryd.f3 23) (Code.cond (Operand.tmp 238) (Code.seq (regionIn Tryd.f3 24) Code.ret) Code.skip)) (Code.seq (regionIn Tryd.f3 25) (Code.seq (Code.seq (regionIn Tryd.f3 26) (Code.block 2 (Code.loop (Code.seq (Code.seq (regionIn Tryd.f3 27) (Code.cond (Operand.tmp 257) Code.skip (Code.exit 2))) (Code.seq (Code.block 3 (Code.seq (regionIn Tryd.f3 29) (Code.seq (regionIn Tryd.f3 30) (Code.cond (Operand.tmp 275) (Code.seq (regionIn Tryd.f3 31) Code.ret) Code.skip)))) (regionIn Tryd.f3 28)))))) (Code.seq (regionIn Tryd.f3 32) (Code.seq (regionIn Tryd.f3 33) (Code.seq (regionIn Tryd.f3 34) (Code.seq (Code.seq (regionIn Tryd.f3 35) (Code.cond (Operand.tmp 316) (Code.seq (regionIn Tryd.f3 36) Code.ret) Code.skip)) (Code.seq (regionIn Tryd.f3 37) (Code.seq (regionIn Tryd.f3 38) (Code.seq (regionIn Tryd.f3 39) (Code.seq (regionIn Tryd.f3 40) (Code.seq (regionIn Tryd.f3 41) (Code.seq (Code.seq (regionIn Tryd.f3 42) (Code.cond (Operand.tmp 376) (Code.seq (regionIn Tryd.f3 43) Code.ret) Code.skip)) (Code.seq (regionIn Tryd.f3 44) (Code.seq (regionIn Tryd.f3 45) (Code.seq (regionIn Tryd.f3 46) (Code.seq (regionIn Tryd.f3 47) (Code.seq (regionIn Tryd.f3 48) (Code.seq (Code.seq (regionIn Tryd.f3 49) (Code.cond (Operand.tmp 441) (Code.seq (regionIn Tryd.f3 50) Code.ret) Code.skip)) (Code.seq (regionIn Tryd.f3 51) (Code.seq (regionIn Tryd.f3 52) (Code.seq (regionIn Tryd.f3 53) (Code.seq (regionIn Tryd.f3 54) (Code.seq (regionIn Tryd.f3 55) (Code.seq (regionIn Tryd.f3 56) (Code.seq (regionIn Tryd.f3 57) (Code.seq (regionIn Tryd.f3 58) Code.ret))))))))))))))))))))))))))))))))))))))))))) := rfl
set_option maxRecDepth 100000 in
theorem Known_any (w : World) (ht : TabOk w) : Calls Tryd.prog 3 #[] w fun e w' => e = .returned (.bool true) ∧ Below w.heap.size w w' := by
  refine calls_of_wp Tryd.func3 known_body ?_
  have hsl : Sl (⟨#[] ++ Array.replicate (Tryd.f3.ntmps - (#[] : Array Value).size) undef, []⟩ : Act) 548 [] := ⟨by rw [Tryd.ntmps3]; simp, rfl, fun t v h => by simp at h⟩
  revert hsl
  generalize (Act.mk _ _) = a
  intro hsl
  have HB := Below.refl w.heap.size w
  refine seg3 w a hsl _ _ ?_
  intro a1 w1 hs1 hb
  replace HB := HB.trans (hb.mono HB.size); clear hb
  refine seg11 w1 a1 hs1 _ _ ?_
  intro a2 w2 hs2 hb
  replace HB := HB.trans (hb.mono HB.size); clear hb
  refine seg17 w2 a2 hs2 _ _ ?_
  intro a3 w3 hs3 hb
  replace HB := HB.trans (hb.mono HB.size); clear hb
  refine seg23 w3 a3 hs3 _ _ ?_
  intro a4 w4 hs4 hb
  replace HB := HB.trans (hb.mono HB.size); clear hb
  refine seg31 w4 a4 hs4 _ _ ?_
  intro a5 w5 hs5 hb
  replace HB := HB.trans (hb.mono HB.size); clear hb
  refine seg35 w5 a5 hs5 _ _ ?_
  intro a6 w6 hs6 hb
  replace HB := HB.trans (hb.mono HB.size); clear hb
  refine seg42 w6 a6 hs6 _ _ ?_
  intro a7 w7 hs7 hb
  replace HB := HB.trans (hb.mono HB.size); clear hb
  refine seg49 w7 a7 hs7 _ _ ?_
  intro a8 w8 hs8 hb
  replace HB := HB.trans (hb.mono HB.size); clear hb
  refine seg58 w8 (ht.below HB) a8 hs8 _ ?_
  intro a9 w9 hs9 hb
  replace HB := HB.trans (hb.mono HB.size); clear hb
  refine bodyPost_ret (v := .bool true) ?_ ?_ ⟨rfl, HB⟩
  · simp [results, Tryd.results3, hs9.get 0 _ rfl]
  · exact hs9.defers
end Go.Proofs.YtmkjeonjhedgkaaDoor
