/- A region with a send or a receive, on one goroutine, where nothing waits: a rule of the walk. Over any program. -/
import Derived.Test.YtjgkgnfhglhklaaSpec
import Derived.Conc.LoneCalls
import Derived.Deep.Cut
namespace Go.Proofs.Ytjgkgnfhglhklaa
set_option linter.unusedSimpArgs false
set_option linter.unusedVariables false
open Go.RowKit Go.Conc

/-- A communication that goes through at once: a send into a buffer with room; a receive (without ok) out of a buffer that holds something. -/
def CommGo (P : Program) (o : Oper) (a : Act) (w : World) (next : Act → World → Prop) : Prop :=
  (∃ c v z w1 cap buf s r tm, (execOp a.eval o).run P w = .ok (.comm #[scase c v z] true .send) w1 ∧ w1.heap[c]? = some (.chan cap buf false s r tm) ∧ buf.size < cap ∧
      next (a.put o.dst undef) (w1.setChan c cap (buf.push v) false (s + 1) r tm)) ∨
  (∃ c z w1 cap buf s r tm, (execOp a.eval o).run P w = .ok (.comm #[rcase c z] true (.recv false)) w1 ∧ w1.heap[c]? = some (.chan cap buf false s r tm) ∧ 0 < buf.size ∧
      next (a.put o.dst (buf.getD 0 undef)) (w1.setChan c cap (buf.extract 1 buf.size) false s (r + 1) tm))

/-- The operations l of a region, among them communications. -/
def wpC (P : Program) (ops : Array Oper) (Q : Exit → Act → World → Prop) : List Nat → Act → World → Prop
  | [], a, w => Q .normal a w
  | i :: rest, a, w =>
    match ops[i]? with
    | none => False
    | some o => o.guard = none ∧ (o.wp P a w (wpC P ops Q rest) Q ∨ (o.asks P a w ∧ LetsOut Q) ∨ CommGo P o a w (wpC P ops Q rest))

theorem stepG_comm {P : Program} {b : Frame} {a : Act} {k : List Item} {cs : List Frame} {w w1 : World} {ops : Array Oper} {i : Nat} {rest : List Nat} {o : Oper} {cases : Array CommCase} {shape : CommShape}
    (ho : ops[i]? = some o) (hg : o.guard = none) (hr : (execOp a.eval o).run P w = .ok (.comm cases true shape) w1) :
    ∃ es, stepG P true (G (b.at a (.inRegion ops (i :: rest) :: k)) cs) w = .comm (G (b.at a (.inRegion ops (i :: rest) :: k)) cs) cases true shape w1 es := by
  have hs := stepG_op (P := P) (b := b) (a := a) (k := k) (cs := cs) (w := w) (rest := rest) ho (by simp [Region.wanted, hg])
  unfold G
  rw [hs]
  simp only [stepG.apply, Sem.runT_eq, if_true, hr, GStep.after]
  exact ⟨_, rfl⟩

theorem wp_C {P : Program} {ops : Array Oper} {Q : Exit → Act → World → Prop} (l : List Nat) :
    ∀ (a : Act) (w : World), wpC P ops Q l a w → ∀ (b : Frame) (k : List Item) (cs : List Frame),
      ∃ e a' w', Q e a' w' ∧ Arrives P (lone (b.at a (.inRegion ops l :: k)) cs w) b k cs e a' w' := by
  induction l with
  | nil => exact fun a w h b k cs => ⟨.normal, a, w, h, .one step_region_end⟩
  | cons i rest ih =>
    intro a w h b k cs
    simp only [wpC] at h
    cases ho : ops[i]? with
    | none => simp [ho] at h
    | some o =>
      simp only [ho] at h
      obtain ⟨hgd, h⟩ := h
      have hfin : ∀ v, (b.at a (.inRegion ops (i :: rest) :: k)).finish v = b.at (a.put o.dst v) (.inRegion ops rest :: k) := by
        intro v; rw [Frame.finish_at, ho]; rfl
      rcases h with h | ⟨hasks, a₀, w₀, hq⟩ | h
      · simp only [Oper.wp, Oper.upon] at h
        have hg := stepG_op (P := P) (b := b) (a := a) (k := k) (cs := cs) (w := w) (rest := rest) ho (by simp [Region.wanted, hgd])
        split at h
        · rename_i v w' hr
          obtain ⟨e, a', w'', hq, harr⟩ := ih _ _ h b k cs
          refine ⟨e, a', w'', hq, .of_steps (.one (step_lone_go ?_)) harr⟩
          rw [hg, ← hfin]; simp [stepG.apply, hr]
        · rename_i w' hr
          obtain ⟨e, a', w'', hq, harr⟩ := ih _ _ h b k cs
          refine ⟨e, a', w'', hq, .of_steps (.one (step_lone_go ?_)) harr⟩
          rw [hg, ← hfin]; simp [stepG.apply, hr]
        · rename_i d w' hr
          obtain ⟨e, a', w'', hq, harr⟩ := ih _ _ h b k cs
          refine ⟨e, a', w'', hq, .of_steps (.one (step_lone_go ?_)) harr⟩
          have : ({ b.at a (.inRegion ops (i :: rest) :: k) with defers := d :: a.defers } : Frame).finish undef =
              b.at ({ a with defers := d :: a.defers }.put o.dst undef) (.inRegion ops rest :: k) := by
            have := Frame.finish_at b { a with defers := d :: a.defers } ops i rest k undef
            rw [ho] at this; exact this
          rw [hg]; simp only [stepG.apply, Sem.runT_eq, hr, GStep.bare_after]
          exact congrArg (fun fr => GStep.go { frame := fr, callers := cs, status := .running, dying := none } w') this
        · rename_i f args w' hr
          obtain ⟨e, w'', fr, hR, hsteps, _, hleave⟩ := h (b.at a (.inRegion ops (i :: rest) :: k) :: cs)
          have henter : step P (lone (b.at a (.inRegion ops (i :: rest) :: k)) cs w) =
              .next (lone (Frame.enter P f args .normal) (b.at a (.inRegion ops (i :: rest) :: k) :: cs) w') :=
            step_lone_go (by rw [hg]; simp [stepG.apply, hr, Frame.at])
          cases e with
          | returned v =>
            obtain ⟨e, a', w₃, hq, harr⟩ := ih _ _ hR b k cs
            refine ⟨e, a', w₃, hq, .of_steps (.head henter (hsteps.trans (.one ?_))) harr⟩
            rw [← hfin]; exact step_leave_returned hleave
          | panicked chain =>
            refine ⟨.panic chain, a, w'', hR, .inRegion ops (i :: rest) :: k, .head henter (hsteps.trans (.one ?_))⟩
            rw [← Frame.raise_at]; exact step_leave_panicked hleave
          | outgrown =>
            obtain ⟨a₀, w₀, hq⟩ := hR
            exact ⟨.outgrown, a₀, w₀, hq, .inr (Outgrown.of_steps (.one henter) hsteps)⟩
        · rename_i row args w' hr
          obtain ⟨v, w'', hR, hsteps⟩ := h (b.at a (.inRegion ops (i :: rest) :: k)) cs
          have henter : step P (lone (b.at a (.inRegion ops (i :: rest) :: k)) cs w) =
              .next (lone (Frame.ofRow P row args .normal) (b.at a (.inRegion ops (i :: rest) :: k) :: cs) w') :=
            step_lone_go (by rw [hg]; simp [stepG.apply, hr, Frame.at])
          obtain ⟨e, a', w₃, hq, harr⟩ := ih _ _ hR b k cs
          refine ⟨e, a', w₃, hq, .of_steps (.head henter ?_) harr⟩
          rw [← hfin]; exact hsteps
        · rename_i v w' hr
          refine ⟨_, a, w', h, .inRegion ops (i :: rest) :: k, .one (step_lone_go ?_)⟩
          rw [hg, ← Frame.raise_at]; simp [stepG.apply, hr]
        · exact h.elim
      · by_cases hk : b.kind = .early
        · exact ⟨.outgrown, a₀, w₀, hq, .inl hk⟩
        · exact ⟨.outgrown, a₀, w₀, hq, .inr (asks_outgrown ho (by simp [Region.wanted, hgd]) hk hasks)⟩
      · rcases h with ⟨c, v, z, w1, cap, buf, s, r, tm, hr, hc, hroom, hn⟩ | ⟨c, z, w1, cap, buf, s, r, tm, hr, hc, hsome, hn⟩
        · obtain ⟨es, hg⟩ := stepG_comm (b := b) (k := k) (cs := cs) (rest := rest) ho hgd hr
          have hs := step_lone_send_room hg hc hroom
          rw [hfin] at hs
          obtain ⟨e, a', w'', hq, harr⟩ := ih _ _ hn b k cs
          exact ⟨e, a', w'', hq, .of_steps (.one hs) harr⟩
        · obtain ⟨es, hg⟩ := stepG_comm (b := b) (k := k) (cs := cs) (rest := rest) ho hgd hr
          have hs := step_lone_recv_buf false hg hc hsome
          rw [hfin] at hs
          obtain ⟨e, a', w'', hq, harr⟩ := ih _ _ hn b k cs
          exact ⟨e, a', w'', hq, .of_steps (.one hs) harr⟩

theorem wp_region_C {P : Program} {id : Nat} {ops : Array Oper} {Q : Exit → Act → World → Prop} {a : Act} {w : World}
    (h : wpC P ops Q (List.range ops.size) a w) : (Code.region id ops false).wp P Q a w :=
  fun b k cs => let ⟨e, a', w', q, r⟩ := wp_C _ a w h b k cs; ⟨e, a', w', q, .of_steps (.one step_region) r⟩

theorem Oper.wp_mono' {P : Program} {o : Oper} {a : Act} {w : World} {K K' : Act → World → Prop} {Q Q' : Exit → Act → World → Prop} (hK : ∀ a w, K a w → K' a w) (hQ : ∀ ch a w, Q (.panic ch) a w → Q' (.panic ch) a w)
    (hL : LetsOut Q → LetsOut Q') (h : o.wp P a w K Q) : o.wp P a w K' Q' := by
  unfold Oper.wp at *
  generalize (execOp a.eval o).run P w = r at *
  cases r with
  | ok n w' =>
    cases n <;> simp only [Oper.upon] at h ⊢
    case value v => exact hK _ _ h
    case skip => exact hK _ _ h
    case defer d => exact hK _ _ h
    case enter f args =>
      refine h.mono fun e w'' q => ?_
      cases e with
      | returned v => exact hK _ _ q
      | panicked ch => exact hQ _ _ _ q
      | outgrown => exact hL q
    case row row args => exact h.mono fun v w'' q => hK _ _ q
  | halt x w' =>
    cases x <;> simp only [Oper.upon] at h ⊢
    case panic v => exact hQ _ _ _ h

/-- The operations before the communication are walked as ever. -/
theorem wpC_of_list {P : Program} {ops : Array Oper} {Q : Exit → Act → World → Prop} {K : Act → World → Prop} {rest : List Nat} (hK : ∀ a w, K a w → wpC P ops Q rest a w) :
    ∀ (l : List Oper) (n : Nat) (_ : ∀ j, j < l.length → l[j]? = ops[n + j]?) (_ : ∀ o ∈ l, o.guard = none) (a : Act) (w : World),
      wpList P ops (Exit.then K Q) l a w → wpC P ops Q (List.range' n l.length ++ rest) a w := by
  intro l
  induction l with
  | nil => intro n _ _ a w h; exact hK _ _ h
  | cons o l ih =>
    intro n hl hg a w h
    have h0 : ops[n]? = some o := by simpa using (hl 0 (by simp)).symm
    have hgo := hg o (by simp)
    have ih' := fun a w => ih (n + 1) (fun j hj => by have := hl (j + 1) (by simp; omega); simpa [Nat.add_assoc, Nat.add_comm 1 j] using this) (fun o' ho' => hg o' (by simp [ho'])) a w
    have hl' : LetsOut (Exit.then K Q) → LetsOut Q := fun ⟨a, w, q⟩ => ⟨a, w, q⟩
    simp only [List.length_cons, List.range'_succ, List.cons_append, wpC, h0]
    refine ⟨hgo, ?_⟩
    simp only [wpList] at h
    rw [if_pos (by simp [Region.wanted, hgo])] at h
    rcases h with h | ⟨h1, h2⟩
    · exact .inl (Oper.wp_mono' ih' (fun _ _ _ q => q) hl' h)
    · exact .inr (.inl ⟨h1, hl' h2⟩)

/-- A region whose operation number n communicates. -/
theorem wp_region_comm {P : Program} {id : Nat} {l : List Oper} {Q : Exit → Act → World → Prop} {a : Act} {w : World} (n : Nat) (o : Oper) (ho : l[n]? = some o) (hg : l.all (fun o => o.guard.isNone) = true)
    (h : wpList P l.toArray (Exit.then (fun a w => CommGo P o a w fun a w => wpList P l.toArray Q (l.drop (n + 1)) a w) Q) (l.take n) a w) : (Code.region id l.toArray false).wp P Q a w := by
  refine wp_region_C ?_
  have hn : n < l.length := (List.getElem?_eq_some_iff.1 ho).1
  have hgo : ∀ o' ∈ l, o'.guard = none := fun o' ho' => by have := List.all_eq_true.1 hg o' ho'; simpa using this
  have hsplit : List.range l.toArray.size = List.range' 0 n ++ (n :: List.range' (n + 1) (l.length - (n + 1))) := by
    rw [List.range_eq_range', List.size_toArray, ← List.range'_succ]
    have e := List.range'_append_1 (s := 0) (m := n) (n := l.length - (n + 1) + 1)
    rw [Nat.zero_add] at e
    rw [e]
    congr 1; omega
  rw [hsplit]
  have hlen : (l.take n).length = n := by simp; omega
  have := wpC_of_list (P := P) (ops := l.toArray) (Q := Q) (rest := n :: List.range' (n + 1) (l.length - (n + 1)))
    (K := fun a w => CommGo P o a w fun a w => wpList P l.toArray Q (l.drop (n + 1)) a w) (fun a w hc => ?_) (l.take n) 0 (fun j hj => ?_) (fun o' ho' => hgo o' (List.mem_of_mem_take ho')) a w h
  · rw [hlen] at this; exact this
  · have ho' : l.toArray[n]? = some o := by simpa using ho
    simp only [wpC, ho']
    refine ⟨hgo o (List.mem_of_getElem? ho), .inr (.inr ?_)⟩
    have key : ∀ a w, wpList P l.toArray Q (l.drop (n + 1)) a w → wpC P l.toArray Q (List.range' (n + 1) (l.length - (n + 1))) a w := by
      intro a w hh
      have := wpC_of_list (P := P) (ops := l.toArray) (Q := Q) (rest := []) (K := fun a w => Q .normal a w) (fun a w q => q) (l.drop (n + 1)) (n + 1) (fun j hj => by simp)
        (fun o' ho' => hgo o' (List.mem_of_mem_drop ho')) a w (by
          have e : Exit.then (fun a w => Q .normal a w) Q = Q := by funext e a w; cases e <;> rfl
          rw [e]; exact hh)
      simpa using this
    rcases hc with ⟨c, v, z, w1, cap, buf, s, r, tm, h1, h2, h3, h4⟩ | ⟨c, z, w1, cap, buf, s, r, tm, h1, h2, h3, h4⟩
    · exact .inl ⟨c, v, z, w1, cap, buf, s, r, tm, h1, h2, h3, key _ _ h4⟩
    · exact .inr ⟨c, z, w1, cap, buf, s, r, tm, h1, h2, h3, key _ _ h4⟩
  · rw [hlen] at hj
    simp [List.getElem?_take, hj]

/-- The same, the communication behind a name that the walk does not open. -/
theorem wp_region_met {P : Program} {id : Nat} {l : List Oper} {Q : Exit → Act → World → Prop} {a : Act} {w : World} (n : Nat) (o : Oper) (ho : l[n]? = some o) (hg : l.all (fun o => o.guard.isNone) = true)
    (h : ∀ (J K' : Act → World → Prop), (∀ a w, CommGo P o a w (fun a w => wpList P l.toArray Q (l.drop (n + 1)) a w) → J a w) → (∀ a w, Met J a w → K' a w) →
      wpList P l.toArray (Exit.then K' Q) (l.take n) a w) : (Code.region id l.toArray false).wp P Q a w :=
  wp_region_comm n o ho hg (h _ _ (fun _ _ q => q) (fun _ _ q => q))
end Go.Proofs.Ytjgkgnfhglhklaa
