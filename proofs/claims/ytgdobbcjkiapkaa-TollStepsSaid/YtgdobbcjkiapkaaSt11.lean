import Derived.Test.YtgdobbcjkiapkaaSt10
namespace Go.Proofs.Ytgdobbcjkiapkaa
set_option maxRecDepth 100000
set_option maxHeartbeats 4000000
set_option linter.unusedSimpArgs false
set_option linter.unusedVariables false
section
open Go Go.Conc
section
variable {P : Program}
theorem good_start {f : FuncId} {args : Array Value} {W : World} : Ic P (solo (G (Frame.enter P f args .normal) []) W) 0 (G (Frame.enter P f args .normal) []) (Vr P (solo (G (Frame.enter P f args .normal) []) W) 0 W) :=
 ⟨#[G (Frame.enter P f args .normal) []], W, none, #[], fun _ => 0, ⟨rfl, rfl, rfl, rfl, leavers_one _ _, ⟨0, past_nil⟩, ⟨Dc _ _ _, fun c hc => by cases hc⟩, Az⟩⟩
theorem XJ (hP : Ea P) {f : FuncId} {args : Array Value} {W : World} {R : Ending → World → Prop} {Post : Value → World → Prop} (hi : P.inits.idxOf? f = none)
  (h : ∀ (M : Machine) (w : World), w.heap = W.heap → w.os = W.os → w.output = W.output → CW P M f args w R)
  (hR : ∀ e w', R e w' → ∃ v, e = .returned v ∧ ∀ W' : World, W'.heap = w'.heap → W'.os = w'.os → W'.output = w'.output → Post v W') :
  ∃ N last o w' t', runNT P (N + 1) (solo (G (Frame.enter P f args .normal) []) W) #[] = (.ended o w', t') ∧ runN P N (solo (G (Frame.enter P f args .normal) []) W) = .next last ∧ step P last = .ended o w' ∧ Conc.Good P Post last o w' t' := by
 obtain ⟨e, w', fr, n, _, hr, hg, hfn, hl, _⟩ := h (solo (G (Frame.enter P f args .normal) []) W) (Vr P (solo (G (Frame.enter P f args .normal) []) W) 0 W) rfl rfl rfl [] 0 good_start; obtain ⟨v, rfl, hpost⟩ := hR e w' hr; obtain ⟨gs, W1, sl, t, q, hb⟩ := hg; obtain ⟨n', gs', W', sl', t', q', d, sl'', _, hb', hm⟩ := Beside.pick (g := G fr []) rfl _ n gs W1 sl t q (Nat.le_refl _) hb; have hsame := hb'.same hP hm; obtain ⟨hmo, hd, hk, fn, hf, hre⟩ := hl; have hlast : (stepG P true (G fr []) w').bare = .ended (.done v) w' := by simp [G, stepG, unwind, doReturn, hmo, hd, hk, hf, hre, hfn ▸ hi]
 cases hx : stepG P true (G fr []) (W'.at d) with
 | ended o W2 es =>
  rw [hx] at hsame; rw [hsame] at hlast; simp only [EC, GStep.bare, GStep.ended.injEq] at hlast; obtain ⟨rfl, hw, _⟩ := hlast; have he := runT_many_ended (P := P) (sl := sl'') (i := 0) hb'.zero (show stepG P (0 == 0) (G fr []) (W'.at d) = _ from hx); have hst : stepT P (crowd gs' W' sl') = _ := (AZ hm).trans he; obtain ⟨B, hPast⟩ := hb'.past; have hu := LZ fr.fn (G fr []).frame.place es; refine ⟨n', crowd gs' W' sl', _, W2, t' ++ MemOp.ofEvents 0 fr.fn (G fr []).frame.place es, ?_, ?_, ?_, v, rfl, hpost W2 (by rw [← hw]; rfl) (by rw [← hw]; rfl) (by rw [← hw]; rfl), fun said => ?_, ?_, ⟨fun x hx => ?_, rfl⟩, fun j x hx hj => ?_⟩
  ·rw [runNT_add, hb'.run]; simp only [runNT, hst]
   rfl
  ·rw [← runNT_fst P n' _ #[], hb'.run]
  ·rw [step, hst]
  ·exact noRace_append (hPast.clean said) hu fun i a ha op hop b hb hc => (hPast.known i a ha hc.2.1).elim id fun x => x.1.elim
  ·exact handedOver_app hPast.over fun op hop => .inl (hu op hop)
  ·obtain ⟨j, hj⟩ := List.mem_iff_getElem?.1 hx; rw [List.getElem?_drop] at hj; exact ⟨_, (hb'.leave.old (1 + j) x (by omega) (by simpa [crowd] using hj)).leaves⟩
  ·have hq := hb'.leave.old j x (by omega) hx; refine ⟨q' j, ?_⟩; have e : (t' ++ MemOp.ofEvents 0 fr.fn (G fr []).frame.place es).deaf j (t' ++ MemOp.ofEvents 0 fr.fn (G fr []).frame.place es).size = Deaf t' j := Deaf_other t' (g := j) (g' := 0) (by omega) _ hu; rw [e]; exact hq.hears _
 | _ => rw [hx] at hsame; rw [hsame] at hlast; simp [EC, GStep.bare] at hlast
end
end
end Go.Proofs.Ytgdobbcjkiapkaa
