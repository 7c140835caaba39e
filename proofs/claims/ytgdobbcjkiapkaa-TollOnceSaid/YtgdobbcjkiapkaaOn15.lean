import Derived.Test.YtgdobbcjkiapkaaOn14
import Derived.Test.YtgdobbcjkiapkaaOn01
import Derived.Conc.CompanyMem
import Derived.Maps.OwnSet
import Derived.Maps.RangeWalk
import Derived.Maps.RangeRun
import Derived.WideKeyArgs2
import Derived.Conc.LoneCalls
import Derived.Deep.Cut
import Derived.Test.YtgdobbcjkiapkaaOn02
import Derived.Maps.AppendAt
import Derived.Laws.CopyOwn
import Derived.Deep.RegionLaw
namespace Go.Proofs.Ytgdobbcjkiapkaa
set_option maxRecDepth 100000
set_option maxHeartbeats 4000000
set_option linter.unusedSimpArgs false
set_option linter.unusedVariables false
section
open Go Go.Conc
open Go.RowKit
section
variable {P : Program} {main : Bool} {R : World → World → Prop} {D : World → World → Array Event → Prop} {fn : FuncId} {Q : Exit → Act → World → Prop} {a : Act} {w : World}
theorem opsC_rely (T : Terms R D) {ops : Array Oper} {todo : List Nat} {n : Nat} {w₁ : World} (h : OpsC P main R D fn ops todo n Q a w) (hr : R w w₁) : OpsC P main R D fn ops todo n Q a w₁ :=
 fun b k cs Stop m hb hk hc => (h b k cs Stop m hb hk hc).rely T.trans hr
theorem opsC_val (T : Terms R D) {ops : Array Oper} {i : Nat} {rest : List Nat} {o : Oper} {n : Nat} (v : Value) (ho : ops[i]? = some o) (hg : o.guard = none)
  (h : ∀ w₁, R w w₁ → (execOp a.eval o).run P w₁ = .ok (.value v) w₁ ∧ D w₁ w₁ (listed P fn a o w₁)) (hn : OpsC P main R D fn ops rest n Q (a.put o.dst v) w) : OpsC P main R D fn ops (i :: rest) (n + 1) Q a w :=
 opsC_cons ho (by simp [Region.wanted, hg]) fun w₁ h₁ => by
  obtain ⟨h2, h3⟩ := h w₁ h₁; rw [h2]; exact ⟨h3, opsC_rely T hn h₁⟩
def OpN (P : Program) (main : Bool) (R : World → World → Prop) (D : World → World → Array Event → Prop) (fn : FuncId) (ops : Array Oper) (i m : Nat) (K : Act → World → Prop) (a : Act) (w : World) : Prop :=
 ∀ (b : Frame) (k : List Item) (cs : List Frame) (Stop : Goroutine → World → Prop) (rest : List Nat) (n : Nat), b.fn = fn → b.kind ≠ .early →
  (∀ a' w', K a' w' → Goes P main R D Stop n (G (b.at a' (.inRegion ops rest :: k)) cs) w') → Goes P main R D Stop (n + m) (G (b.at a (.inRegion ops (i :: rest) :: k)) cs) w
theorem OpN.ops {ops : Array Oper} {i m : Nat} {K : Act → World → Prop} (h : OpN P main R D fn ops i m K a w) {rest : List Nat} {n : Nat} (hK : ∀ a' w', K a' w' → OpsC P main R D fn ops rest n Q a' w') : OpsC P main R D fn ops (i :: rest) (n + m) Q a w :=
 fun b k cs Stop m' hb hk hc => by
  have := h b k cs Stop rest (m' + n) hb hk fun a' w' x => hK a' w' x b k cs Stop m' hb hk hc
  exact this.mono (by omega)
theorem OpN.rely (T : Terms R D) {ops : Array Oper} {i m : Nat} {K : Act → World → Prop} {w₁ : World} (h : OpN P main R D fn ops i m K a w) (hr : R w w₁) : OpN P main R D fn ops i m K a w₁ :=
 fun b k cs Stop rest n hb hk hK => (h b k cs Stop rest n hb hk hK).rely T.trans hr
theorem OpN.more {ops : Array Oper} {i m m' : Nat} {K : Act → World → Prop} (h : OpN P main R D fn ops i m K a w) (hm : m ≤ m') : OpN P main R D fn ops i m' K a w :=
 fun b k cs Stop rest n hb hk hK => (h b k cs Stop rest n hb hk hK).mono (by omega)
theorem OpN.mono {ops : Array Oper} {i m : Nat} {K K' : Act → World → Prop} (h : OpN P main R D fn ops i m K a w) (hm : ∀ a w, K a w → K' a w) : OpN P main R D fn ops i m K' a w :=
 fun b k cs Stop rest n hb hk hK => h b k cs Stop rest n hb hk fun a' w' x => hK a' w' (hm _ _ x)
theorem opN_val {ops : Array Oper} {i : Nat} {o : Oper} {K : Act → World → Prop} (v : Value) (ho : ops[i]? = some o) (hg : o.guard = none)
  (h : ∀ w₁, R w w₁ → (execOp a.eval o).run P w₁ = .ok (.value v) w₁ ∧ D w₁ w₁ (listed P fn a o w₁)) (hK : ∀ w₁, R w w₁ → K (a.put o.dst v) w₁) : OpN P main R D fn ops i 1 K a w :=
 fun b k cs Stop rest n hb hk hn => Goes.step rfl fun w₁ h₁ => goes_oper ho (by simp [Region.wanted, hg]) hk (by
  obtain ⟨h2, h3⟩ := h w₁ h₁; rw [h2, hb]; exact ⟨h3, hn _ _ (hK w₁ h₁)⟩)
theorem opN_call (T : Terms R D) {ops : Array Oper} {i : Nat} {o : Oper} {f : FuncId} {args : Array Operand} {ats : Array TypeId} {nf : Nat} {Post : Value → World → Prop} {K : Act → World → Prop}
  (ho : ops[i]? = some o) (hg : o.guard = none) (hop : o.op = .call { callee := .value (.func f), args, argTypes := ats }) (hcall : CallsC P main R D f (args.map a.eval) nf w Post) (hK : ∀ v w', Post v w' → K (a.put o.dst v) w') :
  OpN P main R D fn ops i (nf + 3) K a w :=
 fun b k cs Stop rest n hb hk hn => by
  have := Goes.call (Stop := Stop) (m := n) (b := b) (k := k) (cs := cs) (rest := rest) T ho (by simp [Region.wanted, hg]) hk hop hcall fun v w' hp => hn _ _ (hK v w' hp)
  exact this.mono (by omega)
theorem Goes.callV (T : Terms R D) {b : Frame} {k : List Item} {cs : List Frame} {ops : Array Oper} {i : Nat} {rest : List Nat} {o : Oper} {f : FuncId} {av : Array Value} {nf m : Nat} {Post : Value → World → Prop} {Stop : Goroutine → World → Prop}
  (ho : ops[i]? = some o) (hw : Region.wanted o (yielded ops a.tmps) = true) (hk : b.kind ≠ .early) (hr : ∀ w, (execOp a.eval o).run P w = .ok (.enter f av) w ∧ listed P b.fn a o w = #[])
  (hcall : CallsC P main R D f av nf w Post) (hnext : ∀ v w', Post v w' → Goes P main R D Stop m (G (b.at (a.put o.dst v) (.inRegion ops rest :: k)) cs) w') :
  Goes P main R D Stop (m + nf + 3) (G (b.at a (.inRegion ops (i :: rest) :: k)) cs) w := by
 obtain ⟨F, c, hf, hname, hbody, hwp⟩ := hcall; have hfin : ∀ v, (b.at a (.inRegion ops (i :: rest) :: k)).finish v = b.at (a.put o.dst v) (.inRegion ops rest :: k) := fun v => by rw [Frame.finish_at, ho]; rfl
 have hleave : ∀ (a' : Act) (w' : World) (todo : List Item), (a'.defers = [] ∧ ∃ v, ResultsC P F a'.tmps v ∧ Post v w') →
   Goes P main R D Stop (m + 1) (G { (base f).at a' todo with mode := .returning } (b.at a (.inRegion ops (i :: rest) :: k) :: cs)) w' := by
  rintro a' w' todo ⟨hd, v, hr, hp⟩; refine Goes.step rfl fun w₁ h₁ => ?_
  rw [stepG_leave (b := base f) rfl hd hf (hr w₁).1 (hr w₁).2, hfin]; exact ⟨T.idle _, (hnext v w' hp).rely T.trans h₁⟩
 have hbodyG : Goes P main R D Stop (m + 2 + nf) (G ((base f).at { tmps := av ++ Array.replicate (F.ntmps - av.size) undef, defers := [] } [.code c]) (b.at a (.inRegion ops (i :: rest) :: k) :: cs)) w := by
  refine hwp (base f) [] _ Stop (m + 2) rfl (by simp [base]) fun e a' w' q => ?_
  cases e with
  | normal => exact Goes.step rfl fun w₁ h₁ => by rw [stepG_end]; exact ⟨T.idle _, (hleave a' w' [] q).rely T.trans h₁⟩
  | ret => exact fun todo => (hleave a' w' todo q).more
  | exit id => exact q.elim
  | goto l => exact q.elim
  | panic ch => exact q.elim
  | outgrown => exact q.elim
 have e : m + nf + 3 = (m + 2 + nf) + 1 := by omega
 rw [e]; refine Goes.step rfl fun w₁ h₁ => ?_
 rw [stepG_enter ho hw hk (hr w₁).1, enter_at av hf hbody, (hr w₁).2]; exact ⟨T.idle _, hbodyG.rely T.trans h₁⟩
theorem opsC_callV (T : Terms R D) {ops : Array Oper} {i : Nat} {rest : List Nat} {o : Oper} {f : FuncId} {av : Array Value} {nf n : Nat} {Post : Value → World → Prop}
  (ho : ops[i]? = some o) (hg : o.guard = none) (hr : ∀ w, (execOp a.eval o).run P w = .ok (.enter f av) w ∧ listed P fn a o w = #[])
  (hcall : CallsC P main R D f av nf w Post) (hnext : ∀ v w', Post v w' → OpsC P main R D fn ops rest n Q (a.put o.dst v) w') : OpsC P main R D fn ops (i :: rest) (n + nf + 3) Q a w := by
 intro b k cs Stop m hb hk hc; have := Goes.callV (Stop := Stop) (m := m + n) (b := b) (k := k) (cs := cs) T ho (by simp [Region.wanted, hg]) hk (fun w => by rw [hb]; exact hr w) hcall fun v w' hp => hnext v w' hp b k cs Stop m hb hk hc
 exact this.mono (by omega)
theorem opN_callV (T : Terms R D) {ops : Array Oper} {i : Nat} {o : Oper} {f : FuncId} {av : Array Value} {nf : Nat} {Post : Value → World → Prop} {K : Act → World → Prop}
  (ho : ops[i]? = some o) (hg : o.guard = none) (hr : ∀ w, (execOp a.eval o).run P w = .ok (.enter f av) w ∧ listed P fn a o w = #[])
  (hcall : CallsC P main R D f av nf w Post) (hK : ∀ v w', Post v w' → K (a.put o.dst v) w') : OpN P main R D fn ops i (nf + 3) K a w :=
 fun b k cs Stop rest n hb hk hn => by
  have := Goes.callV (Stop := Stop) (m := n) (b := b) (k := k) (cs := cs) (rest := rest) T ho (by simp [Region.wanted, hg]) hk (fun w => by rw [hb]; exact hr w) hcall fun v w' hp => hn _ _ (hK v w' hp)
  exact this.mono (by omega)
theorem opsC_inv (T : Terms R D) {ops : Array Oper} (B : Nat) (Inv : (Nat → Bool) → Act → World → Prop)
  (hs : ∀ L a w i o, ops[i]? = some o → Inv L a w → L i = false → readyF o L = true → OpN P main R D fn ops i B (fun a' w' => Inv (updF L i true) a' w') a w)
  (he : ∀ listed a w, listed.size = ops.size → Inv (doneF listed) a w → Region.ready .any ops listed = [] → Q .normal a w) :
  ∀ (n t : Nat) (listed : Array Bool) (a : Act) (w : World), listed.size = ops.size → leftN ops.size listed ≤ n → Inv (doneF listed) a w → OpsC P main R D fn ops (Region.linearise.go .any ops n t listed []) (n * B + 1) Q a w := by
 intro n
 induction n with
 | zero =>
  intro t listed a w hsz hn hI; have h0 := ready_left (ops := ops) (listed := listed) (by omega)
  simpa [Region.linearise.go] using opsC_nil T (he listed a w hsz hI h0)
 | succ n ih =>
  intro t listed a w hsz hn hI; simp only [Region.linearise.go]
  change OpsC P main R D fn ops (match (Region.ready .any ops listed)[t % (Region.ready .any ops listed).length]? with
   | some i => Region.linearise.go .any ops n (t / (Region.ready .any ops listed).length) (listed.setIfInBounds i true) [i]
   | none => [].reverse) ((n + 1) * B + 1) Q a w
  cases hi : (Region.ready .any ops listed)[t % (Region.ready .any ops listed).length]? with
  | none =>
   have hnil : Region.ready .any ops listed = [] := by
    cases hr : Region.ready .any ops listed with
    | nil => rfl
    | cons x xs =>
     rw [hr] at hi; have hlt : t % (x :: xs).length < (x :: xs).length := Nat.mod_lt _ (by simp); simp at hi; simp at hlt
     omega
   exact opsC_more (by simpa using opsC_nil T (he listed a w hsz hI hnil)) (by omega)
  | some i =>
   simp only []; rw [linearise_go_acc, List.reverse_singleton, List.singleton_append]; obtain ⟨o, ho, hlt, h1, h2⟩ := mem_ready hsz (List.mem_of_getElem? hi)
   have := (hs _ a w i o ho hI h1 h2).ops (n := n * B + 1) (Q := Q) fun a' w' hI' => ih (t / (Region.ready .any ops listed).length) (listed.setIfInBounds i true) a' w' (by simpa using hsz) (by
    have hle := leftN_set hsz (List.mem_of_getElem? hi)
    omega) (by rw [doneF_set (by omega)]; exact hI')
   exact opsC_more this (by rw [Nat.succ_mul]; omega)
theorem wpC_region_inv (hm : P.follows .mixedOrders = true) (T : Terms R D) (hd : LetsDraw D) {id : Nat} {ops : Array Oper} (B : Nat) (Inv : (Nat → Bool) → Act → World → Prop)
  (h0 : ∀ w₁, R w w₁ → Inv (fun _ => false) a { w₁ with drawn := w₁.drawn + 1 })
  (hs : ∀ L a w i o, ops[i]? = some o → Inv L a w → L i = false → readyF o L = true → OpN P main R D fn ops i B (fun a' w' => Inv (updF L i true) a' w') a w)
  (he : ∀ L a w, (∀ i o, ops[i]? = some o → readyF o L = true → L i = true) → Inv L a w → Q .normal a w) : (Code.region id ops true).wpC P main R D fn (ops.size * B + 2) Q a w := by
 refine wpC_region_draw hd fun w₁ h₁ t => ?_
 have e : doneF (Array.replicate ops.size false) = fun _ => false := by
  funext k
  unfold doneF
  by_cases h : k < ops.size <;> simp [Array.getD_eq_getD_getElem?, h]
 have := opsC_inv (Q := Q) T B Inv hs (fun listed a w hsz hI hr => he _ a w (fun i o ho hre => by
  have hlt := (Array.getElem?_eq_some_iff.1 ho).1
  cases hl : doneF listed i
  ·exfalso
   have hm : i ∈ Region.ready .any ops listed := by
    unfold Region.ready; rw [List.mem_filter, List.mem_range, Bool.and_eq_true]; refine ⟨hlt, ?_, ?_⟩
    ·have e : listed.getD i true = listed.getD i false := by simp [Array.getD_eq_getD_getElem?, hsz, hlt]
     rw [e]; unfold doneF at hl; rw [hl]; rfl
    ·rw [ho]; simpa [readyF, doneF] using hre
   rw [hr] at hm; simp at hm
  ·rfl) hI) ops.size t (Array.replicate ops.size false) a _ (by simp) (by rw [leftN_start]; exact Nat.le_refl _) (by rw [e]; exact h0 w₁ h₁)
 unfold Region.schedule; simp only [hm]; exact opsC_more this (by omega)
def SlotsC (ops : Array Oper) (V : Nat → Value → Prop) (L : Nat → Bool) (a : Act) : Prop := ∀ j o d, ops[j]? = some o → o.dst = some d → L j = true → ∃ v, a.tmps[d]? = some v ∧ V j v
theorem SlotsC.more {ops : Array Oper} {n : Nat} {m : List (Nat × Value)} {ds : List (Option Nat)} (hds : ops.toList.map Oper.dst = ds) (hok : okD n (m.map Prod.fst) ds = true) {V : Nat → Value → Prop} {L : Nat → Bool} {i : Nat} {o : Oper} {v : Value} (ho : ops[i]? = some o) (h2 : Sl a n m) (h3 : SlotsC ops V L a) (hv : V i v) :
  Sl (a.put o.dst v) n m ∧ SlotsC ops V (updF L i true) (a.put o.dst v) := by
 have hd' : ∀ (j : Nat) (o : Oper), ops[j]? = some o → ds[j]? = some o.dst := fun j o h => by
  subst hds; rw [List.getElem?_map, Array.getElem?_toList, h]; rfl
 refine ⟨?_, ?_⟩
 ·cases e : o.dst with
  | none => exact h2
  | some d =>
   have hdd := hd' i o ho; rw [e] at hdd; obtain ⟨hlt, hnm⟩ := okD_at hok hdd; have hp := h2.put d v hlt; refine ⟨hp.size, hp.defers, fun t u hu => hp.get t u ?_⟩; rw [List.lookup_cons]
   have e2 : (t == d) = false := by
    have : t ≠ d := by rintro rfl; exact hnm (lookup_fst hu)
    simpa using this
   rw [e2]; exact hu
 ·intro j o' d hj hjd hLj; have hdj := hd' j o' hj; rw [hjd] at hdj
  cases e : o.dst with
  | none =>
   have hne : j ≠ i := by
    rintro rfl; rw [ho] at hj; obtain rfl := Option.some.inj hj; rw [e] at hjd; simp at hjd
   rw [updF_ne _ _ hne] at hLj; exact h3 j o' d hj hjd hLj
  | some x =>
   have hdi := hd' i o ho; rw [e] at hdi
   by_cases c : j = i
   ·subst c; rw [hdj] at hdi; obtain rfl : d = x := by simpa using hdi
    obtain ⟨hlt, _⟩ := okD_at hok hdj; exact ⟨v, by simp [Act.put, h2.size, hlt], hv⟩
   ·rw [updF_ne _ _ c] at hLj; obtain ⟨u, hu, hvu⟩ := h3 j o' d hj hjd hLj
    have hxd : x ≠ d := by
     rintro rfl; exact c (okD_ne hok hdj hdi)
    refine ⟨u, ?_, hvu⟩; simp only [Act.put]; rw [Array.getElem?_setIfInBounds_ne hxd]; exact hu
theorem wpC_region_sl (hm : P.follows .mixedOrders = true) (T : Terms R D) (hd : LetsDraw D) (hdr : ∀ w : World, R w { w with drawn := w.drawn + 1 }) {id : Nat} {ops : Array Oper} (B : Nat) {n : Nat} {m : List (Nat × Value)} (hsl : Sl a n m) (ds : List (Option Nat)) (hds : ops.toList.map Oper.dst = ds)
  (hok : okD n (m.map Prod.fst) ds = true) (hdag : dag ops = true) (V : Nat → Value → Prop)
  (hk : ∀ (k : Nat) (o : Oper), k < ops.size → ops[k]? = some o → ∀ L a, L k = false → Sl a n m → SlotsC ops V L a → (∀ d ∈ waits o, L d = true) → OpN P main R D fn ops k B (fun a' w' => R w w' ∧ ∃ v, a' = a.put o.dst v ∧ V k v) a w)
  (he : ∀ a w', R w w' → Sl a n m → (∀ j o d, ops[j]? = some o → o.dst = some d → ∃ v, a.tmps[d]? = some v ∧ V j v) → Q .normal a w') : (Code.region id ops true).wpC P main R D fn (ops.size * B + 2) Q a w := by
 refine wpC_region_inv hm T hd B (fun L a' w' => R w w' ∧ Sl a' n m ∧ SlotsC ops V L a') (fun w₁ h₁ => ⟨T.trans _ _ _ h₁ (hdr w₁), hsl, fun j o d _ _ h => by simp at h⟩) ?_ ?_
 ·rintro L a' w' i o ho ⟨h1, h2, h3⟩ hli hri; have hi := (Array.getElem?_eq_some_iff.1 ho).1; refine ((hk i o hi ho L a' hli h2 h3 (ready_waits hri)).rely T h1).mono ?_; rintro a2 w2 ⟨hI2, v, rfl, hv⟩; exact ⟨hI2, h3.more hds hok ho h2 hv⟩
 ·rintro L a' w' hall ⟨h1, h2, h3⟩; exact he a' w' h1 h2 fun j o d hj hjd => h3 j o d hj hjd (dag_all hdag hall j (Array.getElem?_eq_some_iff.1 hj).1)
theorem goes_last (T : Terms R D) {ops : Array Oper} (B z : Nat) (hsz : ops.size = z + 1) (hanc : allAnc ops z = true) (hdag : dag ops = true) (Inv : (Nat → Bool) → Act → World → Prop) {b : Frame} {k : List Item} {cs : List Frame} {Stop : Goroutine → World → Prop} (hb : b.fn = fn) (hk : b.kind ≠ .early)
  (hs : ∀ L a w i o, i < z → ops[i]? = some o → Inv L a w → L i = false → readyF o L = true → OpN P main R D fn ops i B (fun a' w' => Inv (updF L i true) a' w') a w)
  (hz : ∀ L a w, (∀ i, i < z → L i = true) → Inv L a w → Goes P main R D Stop 0 (G (b.at a (.inRegion ops [z] :: k)) cs) w) :
  ∀ (n t : Nat) (listed : Array Bool) (a : Act) (w : World), listed.size = ops.size → leftN ops.size listed ≤ n → doneF listed z = false → (∀ i o, ops[i]? = some o → doneF listed i = true → readyF o (doneF listed) = true) → Inv (doneF listed) a w →
   Goes P main R D Stop (n * B) (G (b.at a (.inRegion ops (Region.linearise.go .any ops n t listed []) :: k)) cs) w := by
 have hgone : ∀ (listed : Array Bool), listed.size = ops.size → Region.ready .any ops listed = [] → doneF listed z = true := fun listed hls hr => dag_all hdag (fun i o ho hre => by
  have hlt := (Array.getElem?_eq_some_iff.1 ho).1
  cases hl : doneF listed i
  ·exfalso
   have hm : i ∈ Region.ready .any ops listed := by
    unfold Region.ready; rw [List.mem_filter, List.mem_range, Bool.and_eq_true]; refine ⟨hlt, ?_, ?_⟩
    ·have e : listed.getD i true = listed.getD i false := by simp [Array.getD_eq_getD_getElem?, hls, hlt]
     rw [e]; unfold doneF at hl; rw [hl]; rfl
    ·rw [ho]; simpa [readyF, doneF] using hre
   rw [hr] at hm; simp at hm
  ·rfl) z (by omega)
 intro n
 induction n with
 | zero =>
  intro t listed a w hls hn hdz _ hI; have h0 := hgone listed hls (ready_left (ops := ops) (listed := listed) (by omega)); rw [hdz] at h0; cases h0
 | succ n ih =>
  intro t listed a w hls hn hdz hcl hI; simp only [Region.linearise.go]
  change Goes P main R D Stop ((n + 1) * B) (G (b.at a (.inRegion ops (match (Region.ready .any ops listed)[t % (Region.ready .any ops listed).length]? with
   | some i => Region.linearise.go .any ops n (t / (Region.ready .any ops listed).length) (listed.setIfInBounds i true) [i]
   | none => [].reverse) :: k)) cs) w
  cases hi : (Region.ready .any ops listed)[t % (Region.ready .any ops listed).length]? with
  | none =>
   have hnil : Region.ready .any ops listed = [] := by
    cases hr : Region.ready .any ops listed with
    | nil => rfl
    | cons x xs =>
     rw [hr] at hi; have hlt : t % (x :: xs).length < (x :: xs).length := Nat.mod_lt _ (by simp); simp at hi; simp at hlt
     omega
   have h0 := hgone listed hls hnil; rw [hdz] at h0; cases h0
  | some i =>
   simp only []; rw [linearise_go_acc, List.reverse_singleton, List.singleton_append]; have hmem := List.mem_of_getElem? hi; obtain ⟨o, ho, hlt, h1, h2⟩ := mem_ready hls hmem; have hle := leftN_set hls hmem; have hdone : doneF (listed.setIfInBounds i true) = updF (doneF listed) i true := doneF_set (by omega)
   have hcl' : ∀ j o, ops[j]? = some o → doneF (listed.setIfInBounds i true) j = true → readyF o (doneF (listed.setIfInBounds i true)) = true := fun j o' hj hd => by
    rw [hdone] at hd ⊢
    have mono : ∀ q, doneF listed q = true → updF (doneF listed) i true q = true := fun q hq => by
     by_cases e : q = i
     ·rw [e, updF_same]
     ·rw [updF_ne _ _ e]; exact hq
    by_cases e : j = i
    ·subst e; rw [ho] at hj; obtain rfl := Option.some.inj hj; exact readyF_mono mono h2
    ·rw [updF_ne _ _ e] at hd; exact readyF_mono mono (hcl j o' hj hd)
   by_cases hiz : i = z
   ·subst hiz
    have hall : ∀ j, j < ops.size → doneF (listed.setIfInBounds i true) j = true := fun j hj => anc_done hcl' ops.size (· == i) (fun k hk => by
      have : k = i := by simpa using hk
      rw [this, hdone, updF_same]) j (by
      unfold allAnc at hanc; rw [List.all_eq_true] at hanc; exact hanc j (by rw [List.mem_range]; exact hj))
    have hnil : Region.ready .any ops (listed.setIfInBounds i true) = [] := by
     refine List.eq_nil_iff_forall_not_mem.2 fun j hj => ?_
     obtain ⟨_, _, hlt', hd', _⟩ := mem_ready (by simpa using hls) hj; rw [hall j hlt'] at hd'; cases hd'
    have hrest : ∀ n t, Region.linearise.go .any ops n t (listed.setIfInBounds i true) [] = [] := fun n t => by
     cases n with
     | zero => rfl
     | succ n =>
      simp only [Region.linearise.go]
      change (match (Region.ready .any ops (listed.setIfInBounds i true))[t % (Region.ready .any ops (listed.setIfInBounds i true)).length]? with
       | some j => Region.linearise.go .any ops n (t / (Region.ready .any ops (listed.setIfInBounds i true)).length) ((listed.setIfInBounds i true).setIfInBounds j true) [j]
       | none => [].reverse) = []
      rw [hnil]
      rfl
    rw [hrest]
    exact (hz _ a w (fun j hj => by
     have := hall j (by omega); rw [hdone, updF_ne _ _ (by omega)] at this; exact this) hI).mono (by omega)
   ·have := (hs _ a w i o (by omega) ho hI h1 h2) b k cs Stop (Region.linearise.go .any ops n (t / (Region.ready .any ops listed).length) (listed.setIfInBounds i true) []) (n * B) hb hk fun a' w' hI' => ih _ (listed.setIfInBounds i true) a' w' (by simpa using hls) (by omega)
     (by rw [hdone, updF_ne _ _ (Ne.symm hiz)]; exact hdz) hcl' (by rw [hdone]; exact hI')
    exact this.mono (by rw [Nat.succ_mul]; omega)
theorem goes_region_last (hm : P.follows .mixedOrders = true) (T : Terms R D) (hd : LetsDraw D) {id : Nat} {ops : Array Oper} (B z : Nat) (hsz : ops.size = z + 1) (hanc : allAnc ops z = true) (hdag : dag ops = true) (Inv : (Nat → Bool) → Act → World → Prop) {b : Frame} {k : List Item} {cs : List Frame} {Stop : Goroutine → World → Prop} (hb : b.fn = fn) (hk : b.kind ≠ .early)
  (h0 : ∀ w₁, R w w₁ → Inv (fun _ => false) a { w₁ with drawn := w₁.drawn + 1 })
  (hs : ∀ L a w i o, i < z → ops[i]? = some o → Inv L a w → L i = false → readyF o L = true → OpN P main R D fn ops i B (fun a' w' => Inv (updF L i true) a' w') a w)
  (hz : ∀ L a w, (∀ i, i < z → L i = true) → Inv L a w → Goes P main R D Stop 0 (G (b.at a (.inRegion ops [z] :: k)) cs) w) : Goes P main R D Stop (ops.size * B + 1) (G (b.at a (.code (.region id ops true) :: k)) cs) w := by
 refine Goes.step rfl fun w₁ h₁ => ?_
 rw [stepG_region_draw]; refine ⟨hd _, ?_⟩
 have e : doneF (Array.replicate ops.size false) = fun _ => false := by
  funext k
  unfold doneF
  by_cases h : k < ops.size <;> simp [Array.getD_eq_getD_getElem?, h]
 have hf : ∀ k, doneF (Array.replicate ops.size false) k = false := fun k => by rw [e]
 have := goes_last T B z hsz hanc hdag Inv hb hk hs hz ops.size (w₁.tape w₁.drawn (.order b.fn id)) (Array.replicate ops.size false) a { w₁ with drawn := w₁.drawn + 1 } (by simp) (by rw [leftN_start]; exact Nat.le_refl _) (hf z) (fun i o _ hd => by rw [hf] at hd; cases hd) (by rw [e]; exact h0 w₁ h₁); unfold Region.schedule; simp only [hm]; exact this
theorem goes_sl_last (hm : P.follows .mixedOrders = true) (T : Terms R D) (hd : LetsDraw D) (hdr : ∀ w : World, R w { w with drawn := w.drawn + 1 }) {id : Nat} {ops : Array Oper} (B z : Nat) (hsz : ops.size = z + 1) (hanc : allAnc ops z = true) {n : Nat} {m : List (Nat × Value)} (hsl : Sl a n m) (ds : List (Option Nat)) (hds : ops.toList.map Oper.dst = ds)
  (hok : okD n (m.map Prod.fst) ds = true) (hdag : dag ops = true) (V : Nat → Value → Prop) {b : Frame} {k : List Item} {cs : List Frame} {Stop : Goroutine → World → Prop} (hb : b.fn = fn) (hk : b.kind ≠ .early)
  (hs : ∀ (i : Nat) (o : Oper), i < z → ops[i]? = some o → ∀ L a, L i = false → Sl a n m → SlotsC ops V L a → (∀ d ∈ waits o, L d = true) → OpN P main R D fn ops i B (fun a' w' => R w w' ∧ ∃ v, a' = a.put o.dst v ∧ V i v) a w)
  (hz : ∀ a w', R w w' → Sl a n m → (∀ j o d, j < z → ops[j]? = some o → o.dst = some d → ∃ v, a.tmps[d]? = some v ∧ V j v) → Goes P main R D Stop 0 (G (b.at a (.inRegion ops [z] :: k)) cs) w') : Goes P main R D Stop (ops.size * B + 1) (G (b.at a (.code (.region id ops true) :: k)) cs) w := by
 refine goes_region_last hm T hd B z hsz hanc hdag (fun L a' w' => R w w' ∧ Sl a' n m ∧ SlotsC ops V L a') hb hk (fun w₁ h₁ => ⟨T.trans _ _ _ h₁ (hdr w₁), hsl, fun j o d _ _ h => by simp at h⟩) ?_ ?_
 ·rintro L a' w' i o hi ho ⟨h1, h2, h3⟩ hli hri; refine ((hs i o hi ho L a' hli h2 h3 (ready_waits hri)).rely T h1).mono ?_; rintro a2 w2 ⟨hI2, v, rfl, hv⟩; exact ⟨hI2, h3.more hds hok ho h2 hv⟩
 ·rintro L a' w' hall ⟨h1, h2, h3⟩; exact hz a' w' h1 h2 fun j o d hj ho hjd => h3 j o d ho hjd (hall j hj)
end
section
variable {P : Program} {M : Machine} {Safe : Obj → Prop} {c : Nat} {fn : FuncId} {Q : Exit → Act → World → List Value → Nat → Prop} {a : Act} {w : World} {L : List Value} {K : Nat}
theorem opsP_val (hP : Tame P) {ops : Array Oper} {i : Nat} {rest : List Nat} {o : Oper} (v : Value) (ho : ops[i]? = some o) (hg : o.guard = none)
  (h : ∀ w₁, Grown c w w₁ → (execOp a.eval o).run P w₁ = .ok (.value v) w₁ ∧ GuarM Safe K w₁ w₁ (listed P fn a o w₁)) (hn : opsP P M Safe c fn ops rest Q (a.put o.dst v) w L K) : opsP P M Safe c fn ops (i :: rest) Q a w L K :=
 opsP_cons hP ho (by simp [Region.wanted, hg]) fun w₁ h₁ Kk hK => by
  obtain ⟨h2, h3⟩ := h w₁ h₁; rw [h2]; exact hK _ _ ⟨h3, wpPk_rely hn h₁⟩
theorem opsP_turn (hP : Tame P) {ops : Array Oper} {i : Nat} {rest : List Nat} {o : Oper} (ho : ops[i]? = some o) (hg : o.guard = none)
  (h : ∀ w₁, Grown c w w₁ → ∃ v w', ((execOp a.eval o).run P w₁ = .ok (.value v) w' ∨ ((execOp a.eval o).run P w₁ = .ok .skip w' ∧ v = undef)) ∧ GuarM Safe K w₁ w' (listed P fn a o w₁) ∧ opsP P M Safe c fn ops rest Q (a.put o.dst v) w' L K) : opsP P M Safe c fn ops (i :: rest) Q a w L K :=
 opsP_cons hP ho (by simp [Region.wanted, hg]) fun w₁ h₁ Kk hK => by
  obtain ⟨v, w', h2, h3, h4⟩ := h w₁ h₁; rcases h2 with h2 | ⟨h2, rfl⟩
  ·rw [h2]; exact hK _ _ ⟨h3, h4⟩
  ·rw [h2]; exact hK _ _ ⟨h3, h4⟩
end
section
variable {Safe : Obj → Prop} {c N K : Nat} {w : World} {es : Array Event}
theorem GuarW.still (h : ∀ e ∈ es, ∀ x, (MemAct.ofEvent e).touch? = some x → ∀ b, blk x.loc = some b → x.write = false ∧ b < w.heap.size ∧ Fixed Safe c N w b) : GuarW Safe c N w w es := ⟨rfl, rfl, rfl, Nat.le_refl _, fun _ _ => rfl, h⟩
theorem GuarM.still (h : ∀ e ∈ es, ∀ x, (MemAct.ofEvent e).touch? = some x → ∀ b, blk x.loc = some b → x.write = false) : GuarM Safe K w w es :=
 ⟨rfl, rfl, rfl, Nat.le_refl _, fun _ _ _ => rfl, fun _ _ h => h, fun e he x hx b hb hw => by rw [h e he x hx b hb] at hw; cases hw⟩
theorem letsDrawW : LetsDraw (GuarW Safe c N) := fun w => ⟨rfl, rfl, rfl, Nat.le_refl _, fun _ _ => rfl, fun e he => by simp at he⟩
theorem drawW (w : World) : RelyW Safe c N w { w with drawn := w.drawn + 1 } := ⟨rfl, rfl, rfl, Nat.le_refl _, fun _ _ _ => rfl⟩
end
end
section
open Go Go.Conc
open Go.RowKit
theorem oq {p q : Prop} (h1 : p := by refine run_eq_of (fun K hK => ?_); go_simp; exact hK) (h2 : q := by rw [listed_nil (by simp [go_sem, *])]; exact GuarW.idle _) : p ∧ q := ⟨h1, h2⟩
theorem om {p q : Prop} (h1 : p := by refine run_eq_of (fun K hK => ?_); go_simp; exact hK) (h2 : q := by rw [listed_nil (by simp [go_sem, *])]; exact GuarM.idle _) : p ∧ q := ⟨h1, h2⟩
end
section
open Go.RowKit
open Go.ChangeMaps (setBlock)
open Go.WideMaps (KeyLaw)
def mkEs (ps : List (Value × Value)) : Array MapEntry := (ps.zipIdx.map fun q => ({ key := q.1.1, val := q.1.2, born := q.2 } : MapEntry)).toArray
def MapIs (w : World) (m : Nat) (ps : List (Value × Value)) : Prop := w.heap[m]? = some (.map (mkEs ps) ps.length)
theorem mkEs_size (ps : List (Value × Value)) : (mkEs ps).size = ps.length := by simp [mkEs]
theorem mkEs_getElem? (ps : List (Value × Value)) (i : Nat) : (mkEs ps)[i]? = (ps[i]?).map fun q => ({ key := q.1, val := q.2, born := i } : MapEntry) := by
 simp only [mkEs, List.getElem?_toArray, List.getElem?_map, List.getElem?_zipIdx, Option.map_map]
 cases ps[i]? <;> simp
theorem mkEs_push (ps : List (Value × Value)) (k v : Value) : (mkEs ps).push { key := k, val := v, born := ps.length } = mkEs (ps ++ [(k, v)]) := by
 simp [mkEs, List.zipIdx_append]
theorem MapIs.made (w : World) : MapIs (w.alloc (.map #[] 0)) w.heap.size [] := by
 show (w.heap.push _)[w.heap.size]? = some _; simp [mkEs]
theorem MapIs.lt {w : World} {m : Nat} {ps : List (Value × Value)} (h : MapIs w m ps) : m < w.heap.size := (Array.getElem?_eq_some_iff.1 h).1
theorem MapIs.below {w w' : World} {m : Nat} {ps : List (Value × Value)} (h : MapIs w m ps) {B : Nat} (hb : Below B w w') (hB : m < B) : MapIs w' m ps := by
 unfold MapIs at *; rw [hb.block m hB]; exact h
section
variable {P : Program} {k e t : TypeId}
theorem setBlock_below {w w0 : World} {B m : Nat} (o : Obj) (hb : Below B w0 w) (hB : B ≤ m) : Below B w0 (setBlock w m o) :=
 hb.trans ⟨rfl, rfl, rfl, by simp [setBlock], fun k hk => by simp only [setBlock]; rw [Array.getElem?_setIfInBounds_ne (by omega)]⟩
theorem setBlock_other {w : World} {m j : Nat} (o : Obj) (h : m ≠ j) : (setBlock w m o).heap[j]? = w.heap[j]? := by simp only [setBlock]; rw [Array.getElem?_setIfInBounds_ne h]
theorem MapIs.set {w : World} {m : Nat} {ps : List (Value × Value)} (ps' : List (Value × Value)) (h : MapIs w m ps) : MapIs (setBlock w m (.map (mkEs ps') ps'.length)) m ps' := by
 have := h.lt; simp [MapIs, setBlock, this]
end
end
section
open Go.RowKit Go.Conc
def CommGo (P : Program) (o : Oper) (a : Act) (w : World) (next : Act → World → Prop) : Prop :=
 (∃ c v z w1 cap buf s r tm, (execOp a.eval o).run P w = .ok (.comm #[scase c v z] true .send) w1 ∧ w1.heap[c]? = some (.chan cap buf false s r tm) ∧ buf.size < cap ∧
   next (a.put o.dst undef) (w1.setChan c cap (buf.push v) false (s + 1) r tm)) ∨
 (∃ c z w1 cap buf s r tm, (execOp a.eval o).run P w = .ok (.comm #[rcase c z] true (.recv false)) w1 ∧ w1.heap[c]? = some (.chan cap buf false s r tm) ∧ 0 < buf.size ∧
   next (a.put o.dst (buf.getD 0 undef)) (w1.setChan c cap (buf.extract 1 buf.size) false s (r + 1) tm))
def wpC (P : Program) (ops : Array Oper) (Q : Exit → Act → World → Prop) : List Nat → Act → World → Prop
 | [], a, w => Q .normal a w
 | i :: rest, a, w =>
  match ops[i]? with
  | none => False
  | some o => o.guard = none ∧ (o.wp P a w (wpC P ops Q rest) Q ∨ (o.asks P a w ∧ LetsOut Q) ∨ CommGo P o a w (wpC P ops Q rest))
end
section
open Go.RowKit Go.Conc
open Go.ChangeMaps (setBlock)
end
section
open Go.RowKit Go.Conc
open Go.ChangeMaps (setBlock)
section
variable {r : Roads} {f : Flock} {shut day : Int} {q : Int × Int} {S : List (Int × Int)} {k : Nat} {s : Strip} {eo : Int × Bool}
end
end
section
open Go.RowKit
end
section
open Go.RowKit
open Go.ChangeMaps (setBlock)
structure Ext (m : Nat) (w w' : World) : Prop where
 os : w'.os = w.os
 tape : w'.tape = w.tape
 output : w'.output = w.output
 size : w.heap.size ≤ w'.heap.size
 block : ∀ k, k < w.heap.size → k ≠ m → w'.heap[k]? = w.heap[k]?
theorem Ext.refl (m : Nat) (w : World) : Ext m w w := ⟨rfl, rfl, rfl, Nat.le_refl _, fun _ _ _ => rfl⟩
theorem Ext.trans {m : Nat} {a b c : World} (h : Ext m a b) (k : Ext m b c) : Ext m a c :=
 ⟨k.os.trans h.os, k.tape.trans h.tape, k.output.trans h.output, Nat.le_trans h.size k.size, fun i hi hne => (k.block i (Nat.lt_of_lt_of_le hi h.size) hne).trans (h.block i hi hne)⟩
theorem Ext.of_below {m : Nat} {w w' : World} (h : Below w.heap.size w w') : Ext m w w' := ⟨h.os, h.tape, h.output, h.size, fun k hk _ => h.block k hk⟩
theorem Ext.below {m B : Nat} {w0 w w' : World} (h : Ext m w w') (hb : Below B w0 w) (hB : B ≤ m) (hBw : B ≤ w.heap.size) : Below B w0 w' :=
 hb.trans ⟨h.os, h.tape, h.output, h.size, fun k hk => h.block k (by omega) (by omega)⟩
end
section
open Go.RowKit
open Go.ChangeMaps (setBlock)
section
variable {r : Roads} {f : Flock} {shut day : Int} {q : Int × Int} {k : Nat} {s : Strip} {eo : Int × Bool}
end
end
section
open Go.RowKit
section
variable {r : Roads} {f : Flock} {shut d left b0 : Int} {V : Int × Int → Int} {p q : Int × Int}
end
end
section
open Go.RowKit
open Go.ChangeMaps (setBlock)
end
section
open Go.RowKit
end
section
open Go.RowKit
end
section
open Go.RowKit
end
section
open Go.RowKit
end
end Go.Proofs.Ytgdobbcjkiapkaa
