import Derived.Test.YtgdobbcjkiapkaaSv08
import Derived.Conc.CrowdComm
import Derived.Lone
namespace Go.Proofs.Ytgdobbcjkiapkaa
set_option maxRecDepth 100000
set_option maxHeartbeats 4000000
set_option linter.unusedSimpArgs false
set_option linter.unusedVariables false
section
open Go Go.Conc
open Go.ConcN (sumTo upd sumTo_upd upd_ne upd_same)
section
variable (P : Program) (M : Machine)
def JQ (n : Nat) : Option Machine:=match runN P n M with | .next m => some m | .ended _ _ => none
def PH (m : Machine) : Option World:=match move P m with | .goroutine m' 0 => some m'.world|_ => none
def Uz (m : Machine) : Nat:=match PH P m, step P m with
  | some w,.next m' => m'.world.drawn - w.drawn
  | _, _ => 0
def Oz (n : Nat) : Nat:=match JQ P M n with|some m => Uz P m|none => 0
def cAt : Nat → Nat
  | 0 => 0
  | n + 1 => cAt n + Oz P M n
theorem ZN : ∀ {a b : Nat}, a ≤ b → cAt P M a ≤ cAt P M b:=by
  intro a b h
  induction b with
  | zero => obtain rfl : a=0:=by omega
            exact Nat.le_refl _
  | succ b ih =>
    rcases Nat.lt_or_ge a (b + 1) with h'|h'
    · exact Nat.le_trans (ih (by omega)) (Nat.le_add_right _ _)
    · obtain rfl : a=b + 1:=by omega
      exact Nat.le_refl _
def I5 (j n : Nat) (w : World) : Prop := ∃ m, JQ P M n=some m ∧ PH P m=some w ∧ cAt P M n ≤ j ∧ ((∃ o w', step P m=.ended o w') ∨ j<cAt P M (n + 1))
theorem Vr {n : Nat}{m : Machine}(h : JQ P M n=some m) : JQ P M (n + 1)=match step P m with | .next m' => some m' | .ended _ _ => none:=by
  unfold JQ at h ⊢
  rw[runN_add]
  cases hr : runN P n M with
  | ended o w => rw[hr]at h; cases h
  | next m' =>
    rw[hr]at h
    cases h
    simp only[runN]
    cases step P m<;>rfl
theorem Vs {n : Nat}(h : JQ P M n=none) : ∀ k, JQ P M (n + k)=none:=by
  intro k
  unfold JQ at h ⊢
  rw[runN_add]
  cases hr : runN P n M with
  | ended o w => rfl
  | next m' => rw[hr]at h; cases h
theorem OG {j n n' : Nat}{w w' : World}(h : I5 P M j n w) (h' : I5 P M j n' w') : n=n':=by
  have key : ∀ {n n' : Nat}{w w' : World}, I5 P M j n w → I5 P M j n' w' → ¬ n<n':=by
    rintro n n' w w' ⟨m, h1, h2, h3, h4⟩ ⟨m', k1, k2, k3, k4⟩ hlt
    rcases h4 with ⟨o, x, he⟩|h4
    · have e : JQ P M (n + 1)=none:=by rw[Vr P M h1, he]
      have:=Vs P M e (n' - (n + 1))
      rw[show n + 1 + (n' - (n + 1))=n' by omega]at this
      rw[this]at k1; cases k1
    · have:=ZN P M (show n + 1 ≤ n' by omega)
      omega
  rcases Nat.lt_trichotomy n n' with h1|h1|h1
  · exact absurd h1 (key h h')
  · exact h1
  · exact absurd h1 (key h' h)
open Classical in
noncomputable def Fa (j : Nat) (q : Question) : Nat :=
  if h : ∃ n w, I5 P M j n w then M.world.tape (h.choose_spec.choose.drawn + (j - cAt P M h.choose)) q else 0
theorem Vh {j n : Nat}{w : World}(h : I5 P M j n w) (q : Question) : Fa P M j q=M.world.tape (w.drawn + (j - cAt P M n)) q:=by
  have hx : ∃ n w, I5 P M j n w:=⟨n, w, h⟩
  unfold Fa
  rw[dif_pos hx]
  have hs:=hx.choose_spec.choose_spec
  have hn:=OG P M h hs
  have hw : hx.choose_spec.choose=w:=by
    obtain⟨m, h1, h2, _⟩:=h
    obtain⟨m', k1, k2, _⟩:=hs
    rw[← hn]at k1
    rw[h1]at k1
    cases k1
    rw[h2]at k2
    exact(Option.some.inj k2).symm
  rw[hw, ← hn]
noncomputable def Wq (n : Nat) (W : World) : World := { W with tape:=Fa P M, drawn:=cAt P M n }
theorem Qy {n : Nat}{m : Machine}{w : World}(hm : JQ P M n=some m) (ht : PH P m=some w) {D : Nat}(hD : (∃ o w', step P m=.ended o w') ∨ ∃ m', step P m=.next m' ∧ D ≤ m'.world.drawn) :
    EW (Fa P M) w.drawn (cAt P M n) M.world.tape D:=by
  intro j h1 h2 q
  have hd : I5 P M (j - w.drawn + cAt P M n) n w:=by
    refine⟨m, hm, ht, by omega, ?_⟩
    rcases hD with h|⟨m', hs, hle⟩
    · exact .inl h
    · refine .inr ?_
      have : Oz P M n=m'.world.drawn - w.drawn:=by unfold Oz Uz; rw[hm]; simp only[ht, hs]
      show _<cAt P M n + Oz P M n
      omega
  rw[Vh P M hd]
  congr 1
  omega
structure Beside (n : Nat) (gs : Array Goroutine) (W : World) (sl : Option (Nat × Nat)) (t : Trace) (q : Nat → Nat) (g : Goroutine) (w : World) : Prop where
  run : runNT P n M #[]=(.next (crowd gs W sl), t)
  zero : gs[0]?=some g
  tape : W.tape=M.world.tape
  world : w=Wq P M n W
  leave : Leavers P t gs q
  past : ∃ B, Past (fun _ => False) B t
  plain : DR g
  wake : Ea g.status
def IM (n : Nat) (g : Goroutine) (w : World) : Prop := ∃ gs W sl t q, Beside P M n gs W sl t q g w
section
variable {P : Program}{M : Machine}{n : Nat}{gs : Array Goroutine}{W w : World}{sl : Option (Nat × Nat)}{t : Trace}{q : Nat → Nat}{g : Goroutine}
theorem Zj {m : Machine}(h : runNT P n M #[]=(.next m, t)) : JQ P M n=some m:=by
  unfold JQ
  rw[← runNT_fst P n M #[], h]
theorem Beside.mac (h : Beside P M n gs W sl t q g w) : JQ P M n=some (crowd gs W sl):=Zj h.run
theorem Beside.awake (h : Beside P M n gs W sl t q g w) : ∀ x ∈ gs, Conc.awake x:=by
  intro x hx
  obtain⟨i, hi, rfl⟩:=Array.mem_iff_getElem.1 hx
  rcases Nat.eq_zero_or_pos i with rfl|hpos
  · have : gs[0]=g:=by have:=h.zero; simpa[Array.getElem?_eq_getElem hi] using this
    rw[this]; exact h.wake
  · exact awake_of ((h.leave.old i _ hpos (Array.getElem?_eq_getElem hi)).status.elim .inl fun x => .inr (.inr x))
theorem LD {m m' : Machine}{ops : Array MemOp}(h : runNT P n M #[]=(.next m, t)) (hs : stepT P m=(.next m', ops)) : runNT P (n + 1) M #[]=(.next m', t ++ ops):=by
  rw[runNT_add, h]
  simp only[runNT, hs]
theorem ZM {m : Machine}(hm : JQ P M n=some m) (ht : PH P m=none) : cAt P M (n + 1)=cAt P M n:=by
  show cAt P M n + Oz P M n=cAt P M n
  have : Oz P M n=0:=by unfold Oz Uz; rw[hm]; simp only[ht]
  omega
theorem AaY {m m' : Machine}{w₀ : World}(hm : JQ P M n=some m) (ht : PH P m=some w₀) (hs : step P m=.next m') : cAt P M (n + 1)=cAt P M n + (m'.world.drawn - w₀.drawn):=by
  show cAt P M n + Oz P M n=_
  have : Oz P M n=m'.world.drawn - w₀.drawn:=by unfold Oz Uz; rw[hm]; simp only[ht, hs]
  rw[this]
theorem Hy (ha : ∀ g ∈ gs, Conc.awake g) (some1 : ∃ (i : Nat) (g : Goroutine), gs[i]?=some g ∧ g.status=.running) :
    ∃ (i : Nat) (g : Goroutine) (d : Nat) (sl' : Option (Nat × Nat)), gs[i]?=some g ∧ g.status=.running ∧ move P (crowd gs W sl)=.goroutine (crowd gs (W.at d) sl') i:=by
  have hne : runnable gs W.os.mono ≠ []:=by
    intro h
    obtain⟨i, g, hi, hg⟩:=some1
    have : i ∈ runnable gs W.os.mono:=mem_runnable.2 (by simp[hi, Goroutine.canRun, hg])
    rw[h]at this; cases this
  have h3 : ∀ sl, ahead (crowd gs W sl) true=none:=fun sl => ahead_crowd ha
  have h2 : ∀ sl, due (crowd gs W sl).rest.timers (crowd gs W sl).world.os.mono=[]:=fun sl => by simp[due, crowd]
  have key : ∃ i ∈ runnable gs W.os.mono, ∃ d sl', move P (crowd gs W sl)=.goroutine ((crowd gs W sl).at d sl') i:=by
    unfold move
    simp only[crowd]
    split
    · rename_i _ i n
      by_cases hc : (gs[i]?).any (·.canRun W.os.mono)=true
      · exact⟨i, mem_runnable.2 hc, W.drawn, _, if_pos hc⟩
      · obtain⟨j, hj, d, sl', h⟩:=ask_pick (P:=P) (m:=crowd gs W none) rfl (h2 none) (h3 none) rfl hne
        exact⟨j, hj, d, sl', (if_neg hc).trans h⟩
    · obtain⟨j, hj, d, sl', h⟩:=ask_pick (P:=P) (m:=crowd gs W sl) rfl (h2 sl) (h3 sl) rfl hne
      exact⟨j, hj, d, sl', h⟩
  obtain⟨i, hi, d, sl', h⟩:=key
  have hc:=mem_runnable.1 hi
  cases hg : gs[i]? with
  | none => simp[hg]at hc
  | some g =>
    simp only[hg, Option.any_some]at hc
    exact⟨i, g, d, sl', hg, (canRun_iff (ha g (Array.mem_of_getElem? hg)) _).1 hc, by rw[h, crowd_at]⟩
theorem Bi {m m' : Machine}{i : Nat}(h : move P m=.goroutine m' i) : stepT P m=runT P m' i:=by simp[stepT, h]
theorem PG {d : Nat}{sl' : Option (Nat × Nat)}(h : move P (crowd gs W sl)=.goroutine (crowd gs (W.at d) sl') 0) : PH P (crowd gs W sl)=some (W.at d):=by unfold PH; rw[h]; rfl
theorem Wu {m m' : Machine}{i : Nat}(hi : 0<i) (h : move P m=.goroutine m' i) : PH P m=none:=by
  unfold PH; rw[h]
  cases i with
  | zero => omega
  | succ i => rfl
theorem Beside.slip (h : Beside P M n gs W sl t q g w) (hrun : g.status=.running) {i d : Nat}{sl' : Option (Nat × Nat)}{x : Goroutine}(hm : move P (crowd gs W sl)=.goroutine (crowd gs (W.at d) sl') i) (hi : gs[i]?=some x) (hx : x.status=.running) (hpos : 0<i) :
    ∃ gs' W' t' q', Beside P M (n + 1) gs' W' sl' t' q' g w ∧ sumTo gs'.size q'<sumTo gs.size q:=by
  have hq:=h.leave.old i x hpos hi
  have hi0 : (i == 0)=false:=by simp; omega
  have hlt : i<gs.size:=(Array.getElem?_eq_some_iff.1 hi).1
  cases hqi : q i with
  | zero => rw[hqi]at hq; rw[hq.1]at hx; cases hx
  | succ k =>
    rw[hqi]at hq
    rcases hq with ⟨hf, _⟩|⟨_, g', es, hmu, hstp, hq'⟩
    · rw[hf]at hx; cases hx
    have hrunT:=runT_crowd_go (P:=P) (w:=W.at d) (sl:=sl') (i:=i) hi (by rw[hi0]; exact hstp (W.at d))
    have hst : stepT P (crowd gs W sl)=_:=(Bi hm).trans hrunT
    have hsz : ((gs.map (woken P x g' (W.at d))).setIfInBounds i g').size=gs.size:=by simp
    have hsum : sumTo gs.size (upd q i k) + (k + 1)=sumTo gs.size q + k:=by
      have:=sumTo_upd q k id hlt
      simpa[hqi] using this
    obtain⟨B, hP⟩:=h.past
    refine⟨_, _, _, upd q i k, ⟨LD h.run hst, ?_, h.tape, ?_, ⟨fun j y hj hy => ?_, fun j hj => ?_⟩, ⟨B, hP.mute (by omega) hmu⟩, h.plain, h.wake⟩, by rw[hsz]; omega⟩
    · have hne : i ≠ 0:=by omega
      rw[Array.getElem?_setIfInBounds_ne hne, Array.getElem?_map, h.zero]
      simp[woken_run hrun]
    · rw[h.world]; unfold Wq; rw[ZM h.mac (Wu hpos hm)]; rfl
    · by_cases hji : i=j
      · subst hji
        rw[Array.getElem?_setIfInBounds_self_of_lt (by simpa using hlt)]at hy
        obtain rfl:=Option.some.inj hy
        rw[upd_same, Deaf_own]
        exact hq'
      · rw[Array.getElem?_setIfInBounds_ne hji, Array.getElem?_map]at hy
        obtain⟨z, hz, rfl⟩:=Option.map_eq_some_iff.1 hy
        have hqj:=h.leave.old j z hj hz
        rw[woken_quitsD hqj, upd_ne q k (Ne.symm hji), Deaf_other t hji _ (fun op hop => by obtain⟨e, _, rfl⟩:=Conc.mem_ofEvents hop; rfl)]
        exact hqj
    · rw[Deaf_other t (g':=i) (by simp at hj; omega) _ (fun op hop => by obtain⟨e, _, rfl⟩:=Conc.mem_ofEvents hop; rfl)]
      exact h.leave.above j (by simpa using hj)
theorem Beside.pick (hrun : g.status=.running) : ∀ (K n : Nat) (gs : Array Goroutine) (W : World) (sl : Option (Nat × Nat)) (t : Trace) (q : Nat → Nat), sumTo gs.size q ≤ K → Beside P M n gs W sl t q g w →
    ∃ n' gs' W' sl' t' q' d sl'', n ≤ n' ∧ Beside P M n' gs' W' sl' t' q' g w ∧ move P (crowd gs' W' sl')=.goroutine (crowd gs' (W'.at d) sl'') 0:=by
  intro K
  induction K with
  | zero =>
    intro n gs W sl t q hK h
    obtain⟨i, x, d, sl', hi, hx, hm⟩:=Hy (P:=P) (W:=W) (sl:=sl) h.awake ⟨0, g, h.zero, hrun⟩
    rcases Nat.eq_zero_or_pos i with rfl|hpos
    · exact⟨n, gs, W, sl, t, q, d, sl', Nat.le_refl _, h, hm⟩
    · obtain⟨gs', W', t', q', _, hlt⟩:=h.slip hrun hm hi hx hpos
      omega
  | succ K ih =>
    intro n gs W sl t q hK h
    obtain⟨i, x, d, sl', hi, hx, hm⟩:=Hy (P:=P) (W:=W) (sl:=sl) h.awake ⟨0, g, h.zero, hrun⟩
    rcases Nat.eq_zero_or_pos i with rfl|hpos
    · exact⟨n, gs, W, sl, t, q, d, sl', Nat.le_refl _, h, hm⟩
    · obtain⟨gs', W', t', q', h', hlt⟩:=h.slip hrun hm hi hx hpos
      obtain⟨n', gs'', W'', sl'', t'', q'', d', sl3, hn, hb, hm'⟩:=ih (n + 1) gs' W' sl' t' q' (by omega) h'
      exact⟨n', gs'', W'', sl'', t'', q'', d', sl3, by omega, hb, hm'⟩
theorem Ij {α : Type}{s : Sem α}{w w' : World}{a : α}(h : s.run P w=.ok a w') : Ib w w':=by have:=Jk P (s:=s) w; rw[h]at this; exact this
theorem Ko {α : Type}{s : Sem α}{w w' : World}{x : Halt}(h : s.run P w=.halt x w') : Ib w w':=by have:=Jk P (s:=s) w; rw[h]at this; exact this
theorem II (rest : Rest) (gs : Array Goroutine) (i : Nat) (g : Goroutine) (cases : Array CommCase) (b : Bool) (s : CommShape) (w : World) (m' : Machine)
    (h : (communicate P rest gs i g cases b s w).1=.next m') : Ib w m'.world:=by
  unfold communicate at h
  dsimp only at h
  split at h
  · cases h
  · split at h
    · split at h
      · split at h
        · rename_i hw
          cases h
          have : ∀ w', waitingAt rest cases w=some w' → Ib w w':=fun w' e => by
            unfold waitingAt at e
            split at e
            · split at e
              · cases e; exact⟨Nat.le_refl _, rfl⟩
              · cases e
            · cases e; exact Ib.refl w
          exact this _ hw
        · cases h
      · cases h; exact Ib.refl w
    · split at h
      · cases h
      · rename_i hpick
        have h1:=Ij hpick
        split at h
        · split at h
          · cases h
            rename_i hp2
            exact h1.trans (Ko hp2)
          · cases h
        · cases h; exact h1
        · cases h; exact⟨h1.le, h1.tape⟩
        · split at h
          · cases h; exact⟨h1.le, h1.tape⟩
          · split at h
            · rename_i hp2
              have h2:=Ij hp2
              cases h; exact⟨Nat.le_trans h1.le h2.le, h2.tape.trans h1.tape⟩
            · cases h
        · cases h; exact⟨h1.le, h1.tape⟩
        · cases h; exact⟨h1.le, h1.tape⟩
        · cases h
def Ab4 (rest : Rest) (gs : Array Goroutine) : Stepped × Array MemOp → Stepped × Array MemOp
  | (.next m, ops) => (.next { world:=m.world, gs:=gs.setIfInBounds 0 (m.gs.getD 0 default), rest }, ops)
  | (.ended o w, ops) => (.ended o w, ops)
def stC (f : World → World) : Stepped × Array MemOp → Stepped × Array MemOp
  | (.next m, ops) => (.next { m with world:=f m.world }, ops)
  | (.ended o w, ops) => (.ended o (f w), ops)
def Ju : Rest := { timers:=#[], alone:=none, slice:=none }
theorem UJ {gs gs' : Array Goroutine}(hp : ∀ r b, partners gs r b=[]) (hp' : ∀ r b, partners gs' r b=[]) (w : World) : ways w gs=ways w gs':=by
  funext c
  unfold ways
  simp only[hp, hp']
theorem F5 {rest : Rest}(h : rest.timers = #[]) (cases : Array CommCase) (w : World) : waitingAt rest cases w=some w:=by
  have : timerAhead rest w.os.mono cases=false:=by
    unfold timerAhead
    rw[Array.any_eq_false]
    intro i hi
    rw[h]
    split<;>simp
  unfold waitingAt
  rw[this]; rfl
def EQ : Way → Prop
  | .partner _ _ => False
  | _ => True
theorem Gf {gs : Array Goroutine}(hp : ∀ r b, partners gs r b=[]) (w : World) (c : CommCase) : ∀ v ∈ ways w gs c, EQ v:=by
  intro v hv
  unfold ways at hv
  simp only[hp]at hv
  repeat' first
    | (simp at hv; done)
    | (simp at hv; subst hv; trivial)
    | (simp at hv; obtain⟨_, rfl⟩:=hv; trivial)
    | split at hv
theorem NR (ready : List (Nat × CommCase × List Way)) (hr : ∀ x ∈ ready, ∀ v ∈ x.2.2, EQ v) : calm P (fun x : Nat × CommCase × Way => EQ x.2.2) (do
      let a ← choose (.select ready.length)
      let (k, c, ws):=ready.getD a (0, default, [])
      let b ← choose (.extern "which waiting goroutine is the partner" ws.length)
      pure (k, c, ws.getD b .closed) : Sem (Nat × CommCase × Way)) 0:=by
  refine EH (Cal.out (P:=P)) (fun a _ => ?_)
  have hx : ∀ v ∈ (ready.getD a (0, default, [])).2.2, EQ v:=by
    rw[List.getD_eq_getElem?_getD]
    cases h : ready[a]? with
    | none => intro v hv; simp at hv
    | some x => exact hr x (List.mem_of_getElem? h)
  generalize ready.getD a (0, default, [])=x at hx
  obtain⟨k, c, ws⟩:=x
  dsimp only
  refine EH (Cal.out (P:=P)) (fun b _ => ⟨rfl, ?_⟩)
  show EQ (ws.getD b .closed)
  rw[List.getD_eq_getElem?_getD]
  cases h : ws[b]? with
  | none => trivial
  | some v => exact hx v (List.mem_of_getElem? h)
theorem TT {α : Type}{K : α → Prop}{s : Sem α}{w w' : World}{a : α}(hs : calm P K s 0) (h : s.run P w=.ok a w') : K a:=by
  have hc:=Qh hs w #[] rfl
  rw[Sem.runT_eq, h]at hc
  exact hc.1
theorem LQ {rest : Rest}(ht : rest.timers = #[]) (hp : ∀ r b, partners gs r b=[]) (g : Goroutine) (cases : Array CommCase) (b : Bool) (s : CommShape) (w : World) :
    communicate P rest gs 0 g cases b s w=Ab4 rest gs (communicate P Ju #[ph] 0 g cases b s w):=by
  have hp0 : ∀ r b, partners #[ph] r b=[]:=fun r b => rfl
  have hwy:=Gf hp0 w
  have hready : ∀ x ∈ ((cases.zipIdx.toList.map fun (c, k) => (k, c, ways w #[ph] c)).filter fun (_, _, ws) => !ws.isEmpty), ∀ v ∈ x.2.2, EQ v:=by
    intro x hx v hv
    obtain⟨hx, _⟩:=List.mem_filter.1 hx
    obtain⟨y, _, rfl⟩:=List.mem_map.1 hx
    exact hwy _ v hv
  unfold communicate
  rw[UJ hp hp0 w]
  dsimp only
  simp only[hp, hp0, F5 ht, F5 (rest:=Ju) rfl]
  split
  · rfl
  · split
    · split<;>rfl
    · cases hpk : Sem.run P _ w with
      | halt x w1 => rfl
      | ok x w1 =>
        have hn:=TT (NR _ hready) hpk
        obtain⟨k, c, way⟩:=x
        dsimp only at hn ⊢
        cases way with
        | partner h hk => exact hn.elim
        | _ => repeat' first
          | rfl
          | contradiction
          | split
theorem Uk {α : Type}{K : α → Prop}{τ : Nat → Question → Nat}{d c : Nat}{s : Sem α}(hs : calm P K s 0) (w : World) (hd : d ≤ w.drawn) (hT : EW τ d c w.tape (YY (s.run P w)).drawn)
    (hU : ∀ u w', s.run P w=.halt (.unsupported u) w' → (∀ g, u ≠ .initOrder g) → ∀ D, EW τ d c w.tape D) : s.run P (re τ d c w)=Nq (re τ d c) (s.run P w):=by
  have:=SX hs w #[] hd hT hU
  simp only[Sem.runT_eq, Prod.mk.injEq]at this
  exact this.1
def Aah (x : Stepped × Array MemOp) : Prop := ∃ o w, x.1=.ended o w
theorem YA {Y : Stepped × Array MemOp}{τ T : Nat → Question → Nat}{d c n : Nat}(hT : ∀ m, Y.1=.next m → EW τ d c T m.world.drawn) (hE : Aah Y → ∀ D, EW τ d c T D) (h : ∀ m, Y.1=.next m → n ≤ m.world.drawn) : EW τ d c T n:=by
  cases hY : Y.1 with
  | next m => exact(hT m hY).mono (h m hY)
  | ended o w => exact hE ⟨o, w, hY⟩ n
theorem OJ {τ : Nat → Question → Nat}{d c : Nat}(g : Goroutine) (cases : Array CommCase) (b : Bool) (s : CommShape) (w : World) (hd : d ≤ w.drawn)
    (hT : ∀ m, (communicate P Ju #[ph] 0 g cases b s w).1=.next m → EW τ d c w.tape m.world.drawn) (hE : Aah (communicate P Ju #[ph] 0 g cases b s w) → ∀ D, EW τ d c w.tape D) :
    communicate P Ju #[ph] 0 g cases b s (re τ d c w)=stC (re τ d c) (communicate P Ju #[ph] 0 g cases b s w):=by
  have hp0 : ∀ r b, partners #[ph] r b=[]:=fun r b => rfl
  have hw : ways (re τ d c w) #[ph]=ways w #[ph]:=rfl
  have hwy:=Gf hp0 w
  have hready : ∀ x ∈ ((cases.zipIdx.toList.map fun (c, k) => (k, c, ways w #[ph] c)).filter fun (_, _, ws) => !ws.isEmpty), ∀ v ∈ x.2.2, EQ v:=by
    intro x hx v hv
    obtain⟨hx, _⟩:=List.mem_filter.1 hx
    obtain⟨y, _, rfl⟩:=List.mem_map.1 hx
    exact hwy _ v hv
  have hwait : ∀ w, waitingAt Ju cases w=some w:=F5 (rest:=Ju) rfl cases
  have hheap : ∀ r : Nat, (re τ d c w).heap[r]?=w.heap[r]? := fun r => rfl
  unfold communicate at hT hE ⊢
  dsimp only at hT hE ⊢
  simp only[hp0, hwait, hw, hheap]at hT hE ⊢
  split
  · rfl
  · rename_i hill
    rw[if_neg hill]at hT hE
    split
    · split<;>rfl
    · rename_i hemp
      rw[if_neg hemp]at hT hE
      have hcp:=NR (P:=P) _ hready
      cases hpk : Sem.run P _ w with
      | halt x w1 =>
        have hfull:=hE (by rw[hpk]; exact⟨_, _, rfl⟩)
        rw[Uk hcp w hd (hfull _) (fun _ _ _ _ => hfull), hpk]
        rfl
      | ok x w1 =>
        rw[hpk]at hT hE
        have hn:=TT hcp hpk
        have hdw:=Ij hpk
        obtain⟨k, cc, way⟩:=x
        have fin : EW τ d c w.tape w1.drawn → Sem.run P _ (re τ d c w)=Nq (re τ d c) (.ok (k, cc, way) w1):=fun hT1 => by
          rw[Uk hcp w hd (by rw[hpk]; exact hT1) (fun u w' e _ => by rw[hpk]at e; cases e), hpk]
        have hh1 : ∀ r : Nat, (re τ d c w1).heap[r]?=w1.heap[r]? := fun r => rfl
        dsimp only[Nq]at hn hT hE fin ⊢
        cases way with
        | partner h hk => exact hn.elim
        | closed =>
          rw[fin (hT _ rfl)]
          rfl
        | sendClosed =>
          dsimp only at hT hE
          have hcal : Cal P (runtimePanic (.plain "send on closed channel") : Sem Unit):=inferInstance
          cases hp2 : Sem.run P (runtimePanic (.plain "send on closed channel") : Sem Unit) w1 with
          | ok a w2 =>
            rw[hp2]at hT hE
            have hfull:=hE ⟨_, _, rfl⟩
            have h1:=Ij hp2
            rw[fin (hfull _)]
            dsimp only
            rw[Uk hcal.out w1 (Nat.le_trans hd hdw.le) (by rw[hdw.tape]; exact hfull _) (fun _ _ _ _ => by rw[hdw.tape]; exact hfull), hp2]
            rfl
          | halt x w2 =>
            rw[hp2]at hT hE
            have h1:=Ko hp2
            have hTw : EW τ d c w.tape w2.drawn:=by
              cases x<;>first|exact hT _ rfl|exact hE ⟨_, _, rfl⟩ _
            have hfull : (∃ u, x=.unsupported u) → ∀ D, EW τ d c w.tape D:=by
              rintro⟨u, rfl⟩
              exact hE ⟨_, _, rfl⟩
            rw[fin (hTw.mono h1.le)]
            dsimp only
            rw[Uk hcal.out w1 (Nat.le_trans hd hdw.le) (by rw[hdw.tape, hp2]; exact hTw) (fun u w' e _ => by rw[hp2]at e; cases e; rw[hdw.tape]; exact hfull ⟨_, rfl⟩), hp2]
            cases x<;>rfl
        | buffer =>
          have hT1 : EW τ d c w.tape w1.drawn:=YA hT hE (by
            intro m hm
            repeat' first
              | (cases hm; exact Nat.le_refl _)
              | (cases hm; done)
              | split at hm)
          rw[fin hT1]
          dsimp only
          simp only[hh1]
          repeat' first
            | rfl
            | contradiction
            | split
end
end
end
end Go.Proofs.Ytgdobbcjkiapkaa
