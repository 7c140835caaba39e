/- The contract of chains: the walk. -/
import Derived.Test.YtjgkgnfhglhklaaChains
namespace Go.Proofs.Ytjgkgnfhglhklaa
set_option linter.unusedSimpArgs false
set_option linter.unusedVariables false
open Go.RowKit

/-- The booleans l lie behind a slice's address. -/
def BoolsAt (w : World) (a : Option Addr) (l : List Bool) : Prop :=
  l = [] ∨ ∃ b o, a = some ⟨b, o, none⟩ ∧ ∀ (i : Nat) (h : i < l.length), w.cell? ⟨b, o + i, none⟩ = some (.bool l[i])
theorem BoolsAt.below {w w' : World} {a : Option Addr} {l : List Bool} (h : BoolsAt w a l) (hb : Below w.heap.size w w') : BoolsAt w' a l := by
  rcases h with h | ⟨b, o, ha, h⟩
  · exact .inl h
  · exact .inr ⟨b, o, ha, fun i hi => by rw [(bcell hb).1 _ _ (lt_of_cell (h i hi))]; exact h i hi⟩

def prevF (r : Roads) (use : List Bool) (tt : Int) : Nat → Int → Nat → List (List Int)
  | 0 => fun _ _ => []
  | k + 1 => chainsF r use tt k
theorem chainsF_eq (r : Roads) (use : List Bool) (tt : Int) (k : Nat) (p : Int) (met : Nat) : chainsF r use tt k p met = if p = tt then [[]] else chainsTo (prevF r use tt k) r use met p r.strips.length := by
  cases k <;> rfl

def ChainsPost (w : World) (L : List (List Int)) (e : Ending) (w' : World) : Prop := ∃ v, e = .returned v ∧ OwnChains w' w.heap.size v L ∧ Below w.heap.size w w'

set_option maxRecDepth 100000 in
set_option maxHeartbeats 8000000 in
theorem chains_step (b : Nat) (r : Roads) (f : Flock) (shut : Int) (a : Option Addr) (cap : Nat) (g : Good r f) (ua : Option Addr) (uc : Nat) (use : List Bool) (hul : use.length = r.strips.length) (tt : Int) (rec : Int → Nat → List (List Int)) (p met : Nat)
    (hrl : ∀ q m, (rec q m).length ≤ 1000000) (hri : ∀ q m, ∀ l ∈ rec q m, l.length ≤ 100)
    (ih : ∀ (q : Nat) (w : World), (q : Int) < r.stages → met.testBit q = false → WorkAt w b r f shut a cap → BoolsAt w ua use →
      Calls Try.prog 92 #[.pointer (some ⟨b, 0, none⟩), .slice ua r.strips.length uc, .int .i64 q, .int .i64 tt, .int .u16 ((met ||| 1 <<< q : Nat) : Int)] w (ChainsPost w (rec q (met ||| 1 <<< q))))
    (w : World) (hm : met < 64) (hp : (p : Int) < r.stages) (hW : WorkAt w b r f shut a cap) (hU : BoolsAt w ua use) :
    Calls Try.prog 92 #[.pointer (some ⟨b, 0, none⟩), .slice ua r.strips.length uc, .int .i64 p, .int .i64 tt, .int .u16 met] w (ChainsPost w (if (p : Int) = tt then [[]] else chainsTo rec r use met p r.strips.length)) := by
  have g2 := g.s2
  have hn8 := g.n8
  by_cases hpt : (p : Int) = tt
  · have hpt' : ((p : Int) == tt) = true := by simpa using hpt
    rw [if_pos hpt]
    clear hpt
    go_enter Try.func92, Try.ntmps92
    go_wp2_with fail
    go_ret
    refine ⟨_, rfl, ⟨[.slice none 0 0], ⟨rfl, .inr ⟨w.heap.size, 1, _, rfl, Nat.le_refl _, heap_alloc_new w _, Nat.le_refl _, by unfold maxLen; omega, rfl, rfl⟩⟩, fun i hi => ?_⟩, Below.alloc (Below.refl _ _) (Nat.le_refl _) _⟩
    obtain rfl : i = 0 := by simpa using hi
    exact ⟨_, rfl, none, 0, rfl, .inl rfl⟩
  · have hpt' : ((p : Int) == tt) = false := by simpa using hpt
    rw [if_neg hpt]
    have HW := Lib.hid hW
    have HU := Lib.hid hU; clear hU
    have IH := Lib.hid ih; clear ih
    have G := Lib.hid g; clear g
    have HUL := Lib.hid hul; clear hul
    have HRL := Lib.hid hrl; clear hrl
    have HRI := Lib.hid hri; clear hri
    clear hpt
    obtain ⟨c0, c1, c2, c3, c4, c5, hs⟩ := hW
    clear hs
    go_enter Try.func92, Try.ntmps92
    go_wp2_with fail
    go_loopw [11, 27] (fun v11 v27 wx => ∃ i : Nat, i ≤ r.strips.length ∧ v27 = .int .i64 i ∧ OwnChains wx w.heap.size v11 (chainsTo rec r use met p i) ∧ Below w.heap.size w wx) (fun _ v _ => r.strips.length - (intOf v).toNat)
    case atStart => exact ⟨0, Nat.zero_le _, rfl, OwnChains.nil _ _, Below.refl _ _⟩
    case round =>
      obtain ⟨i, hi, rfl, hown, hb⟩ := hrel
      have Hown := Lib.hid hown; clear hown
      clear c0 c1 c2 c3 c4 c5
      by_cases hlt : i < r.strips.length
      · have HS := Lib.hid (chainsTo_len (r := r) (use := use) (met := met) (p := (p : Int)) HRL.out i)
        have hget : r.strips[i]? = some r.strips[i] := List.getElem?_eq_getElem hlt
        have Hget := Lib.hid hget; clear hget
        go_wp2_with fail
        refine (end_any _ b r f shut a cap (HW.out.below hb) i hlt p).mono ?_
        rintro e w2 ⟨rfl, hb2⟩
        have hbw2 := hb.trans (hb2.mono hb.size)
        have Hown2 := Lib.hid (Hown.out.below hb2)
        have hstep : chainsTo rec r use met p (i + 1) = chainsTo rec r use met p i ++ (match chainOf r use met p i with | some q => (rec q (met ||| 1 <<< q.toNat)).map ((i : Int) :: ·) | none => []) := rfl
        have Hstep := Lib.hid hstep; clear hstep
        clear Hown hb2
        cases heo : (endOf r.strips[i] p).2
        · have hn : chainOf r use met p i = none := by
            cases hc : chainOf r use met p i with
            | none => rfl
            | some q => obtain ⟨s, hs, he, _⟩ := chainOf_some.1 hc; rw [Hget.out] at hs; simp at hs; subst hs; rw [heo] at he; simp at he
          have Hn := Lib.hid hn; clear hn
          have Heo := Lib.hid heo; clear heo
          go_wp2_with fail
          exact ⟨⟨i + 1, by omega, by go_num, by rw [Hstep.out, Hn.out]; simpa using Hown2.out, hbw2⟩, by simp [intOf]; omega⟩
        · obtain ⟨er1, er2⟩ := endOf_range G.out (List.getElem_mem hlt) heo
          have hco : ∀ q : Nat, (endOf r.strips[i] p).1 = q → chainOf r use met p i = if use.getD i false && !met.testBit q then some (q : Int) else none := fun q hq => by
            simp [chainOf, hlt, heo, hq]
          have Hco := Lib.hid hco; clear hco
          have Heo := Lib.hid heo; clear heo
          generalize hq0 : (endOf r.strips[i] p).1 = q0 at er1 er2 Hco
          obtain ⟨q, hq⟩ := Int.eq_ofNat_of_zero_le er1
          subst hq
          have Hco' := Lib.hid (Hco.out q rfl); clear Hco
          clear hq0
          have hiu : i < use.length := by have := HUL.out; omega
          have hgd : use.getD i false = use[i] := by rw [List.getD_eq_getElem?_getD, List.getElem?_eq_getElem hiu]; rfl
          rcases HU.out.below hbw2 with hz | ⟨ub, uo, hua, hub⟩
          · rw [hz] at hiu; simp at hiu
          have hcu := hub i hiu
          generalize huv : use[i] = uv at hcu hgd
          have Hgd := Lib.hid hgd; clear hgd
          clear huv hub
          subst hua
          cases uv
          · have Hn := Lib.hid (show chainOf r use met p i = none by rw [Hco'.out, Hgd.out]; rfl)
            go_wp2_with fail
            exact ⟨⟨i + 1, by omega, by go_num, by rw [Hstep.out, Hn.out]; simpa using Hown2.out, hbw2⟩, by simp [intOf]; omega⟩
          · go_wp2_with fail
            refine (has_any met q (by omega) (by omega) _).mono ?_
            rintro e w' ⟨rfl, rfl⟩
            cases hmq : met.testBit q
            · have Hn := Lib.hid (show chainOf r use met p i = some (q : Int) by rw [Hco'.out, Hgd.out, hmq]; rfl)
              have Hmq := Lib.hid hmq; clear hmq
              go_wp2_with fail
              refine (with_any met q (by omega) (by omega) _).mono ?_
              rintro e w' ⟨rfl, rfl⟩
              go_wp2_with fail
              refine (IH.out q w2 er2 Hmq.out (HW.out.below hbw2) (HU.out.below hbw2)).mono ?_
              rintro e w3 ⟨vR, rfl, hR, hb3⟩
              have hbw3 := hbw2.trans (hb3.mono hbw2.size)
              have Hown3 := Lib.hid (Hown2.out.below hb3)
              have hR1 := HRL.out q (met ||| 1 <<< q)
              have hR2 := HRI.out q (met ||| 1 <<< q)
              have hn' : (match chainOf r use met p i with | some q => (rec q (met ||| 1 <<< q.toNat)).map ((i : Int) :: ·) | none => []) = (rec q (met ||| 1 <<< q)).map ((i : Int) :: ·) := by rw [Hn.out]; rfl
              rw [hn'] at Hstep
              have hs3 := hb3.size
              generalize hRg : rec q (met ||| 1 <<< q) = R at hR hR1 hR2 Hstep
              clear hn' hRg
              generalize hLg : chainsTo rec r use met p i = Li at Hown3 HS Hstep
              clear hLg
              obtain ⟨ra, rc, hv, hcap, hne, hcells⟩ := hR.form
              clear hR
              subst hv
              have HR2 := Lib.hid hR2; clear hR2
              have Hcells := Lib.hid hcells; clear hcells
              have Hne := Lib.hid hne; clear hne
              have hown3lt : ∀ k, u11.ownBlock = some k → k < w2.heap.size ∨ w3.heap.size ≤ k := fun k hk => .inl ((Hown2.out.block_lt hk).1)
              clear Hown2
              have hb3' := Lib.hid hb3; clear hb3
              go_wp2_with fail
              go_loopw [11, 60] (fun v11 v60 wx => ∃ j : Nat, j ≤ R.length ∧ v60 = .int .i64 j ∧ OwnChains wx w.heap.size v11 (Li ++ (R.take j).map ((i : Int) :: ·)) ∧ Below w.heap.size w wx ∧ w3.heap.size ≤ wx.heap.size ∧
                (∀ b, w2.heap.size ≤ b → b < w3.heap.size → wx.heap[b]? = w3.heap[b]?) ∧ (∀ k, v11.ownBlock = some k → k < w2.heap.size ∨ w3.heap.size ≤ k)) (fun _ v _ => R.length - (intOf v).toNat)
              case atStart => exact ⟨0, Nat.zero_le _, rfl, by simpa using Hown3.out, hbw3, Nat.le_refl _, fun _ _ _ => rfl, hown3lt⟩
              case round =>
                clear Hown3 hown3lt hbw3
                obtain ⟨j, hj, rfl, hown, hbr, hzr, hkeep, hlt3⟩ := hrel
                have Hown := Lib.hid hown; clear hown
                have Hkeep := Lib.hid hkeep; clear hkeep
                have Hlt3 := Lib.hid hlt3; clear hlt3
                by_cases hjl : j < R.length
                · obtain ⟨gR, xv, hra, hgR, hcell, hin⟩ := Hcells.out j hjl
                  have hl100 := HR2.out _ (List.getElem_mem hjl)
                  have htk : R.take (j + 1) = R.take j ++ [R[j]] := List.take_succ_eq_append_getElem hjl
                  have hcr := (World.cell?_of_block (Hkeep.out gR hgR (lt_of_cell hcell))).trans hcell
                  obtain ⟨la, lc, hxv, hints⟩ := (hin.keep (w' := wr) (v' := .slice ra R.length rc) fun b hB hb hv => ⟨Hkeep.out b hB hb, hv⟩).ints
                  generalize hl : R[j] = l at hl100 htk hxv hints
                  clear hin hcell hl
                  subst hra hxv
                  have Htk := Lib.hid htk; clear htk
                  have hb1 : Below wr.heap.size wr (wr.alloc (.cells #[.int .i64 i] 3)) := Below.alloc (Below.refl _ _) (Nat.le_refl _) _
                  have HI := Lib.hid (hints.below hb1); clear hints
                  have HB1 := Lib.hid hb1; clear hb1
                  have hLb : (Li ++ (R.take j).map ((i : Int) :: ·)).length ≤ 10000000 := by
                    have h1 := HS.out
                    have h2 := HRL.out
                    have h3 : i * 1000000 ≤ 8 * 1000000 := Nat.mul_le_mul_right _ (by omega)
                    simp only [List.length_append, List.length_map, List.length_take]
                    omega
                  have HLb := Lib.hid hLb; clear hLb
                  have hnewg : wr.heap[wr.heap.size]? = none := by simp
                  go_wp2_with (first
                    | (at_builtin; refine app_rest rfl (.tmp 66) (.tmp 67) rfl wr.heap.size wr.heap.size i rfl (heap_alloc_new wr _) la lc l rfl HI.out (by omega) (Nat.le_refl _) ?_; intro g' cap' wA hrow hgl hgB hbA; have Hrow := Lib.hid hrow; clear hrow; have HbA := Lib.hid hbA; clear hbA)
                    | (at_builtin; refine app_chain rfl (.tmp 64) (.tmp 69) rfl w.heap.size u11 _ rfl (Hown.out.below (HB1.out.trans HbA.out)) (.slice (some ⟨g', 0, none⟩) (l.length + 1) cap') (i :: l) ?_ rfl HLb.out ?_ ?_))
                  · exact ⟨_, _, rfl, .inr ⟨g', 0, rfl, by have := hbr.size; omega, fun e => by have := (Hown.out.block_lt e).1; omega, fun jj hjj => by rw [Nat.zero_add]; exact Hrow.out jj hjj⟩⟩
                  · have := HbA.out.size; have := hbr.size; simp at *; omega
                  · intro v' w' hown' hbB hkeep' hat hsz
                    have Hown' := Lib.hid hown'; clear hown'
                    have HbB := Lib.hid hbB; clear hbB
                    have Hkeep' := Lib.hid hkeep'; clear hkeep'
                    have Hat := Lib.hid hat; clear hat
                    have Hbr := Lib.hid hbr; clear hbr
                    clear hcr hnewg
                    have hsA := HbA.out.size
                    simp only [World.size_alloc] at hsA
                    go_wp2_with fail
                    refine ⟨⟨j + 1, by omega, by go_num, ?_, ?_, by omega, fun bb h1 h2 => ?_, fun kk hkk => ?_⟩, by simp [intOf]; omega⟩
                    · have := Hown'.out
                      rw [Htk.out, List.map_append]
                      simpa using this
                    · have hA : Below w.heap.size w wA := Hbr.out.trans ((HB1.out.trans HbA.out).mono Hbr.out.size)
                      exact hA.trans HbB.out
                    · have hne : ¬ u11.ownBlock = some bb := fun e => by
                        rcases Hlt3.out _ e with h | h <;> omega
                      rw [Hkeep'.out bb (by omega) hne, HbA.out.block bb (by omega), HB1.out.block bb (by omega)]
                      exact Hkeep.out bb h1 h2
                    · rcases Hat.out with h | h
                      · exact Hlt3.out kk (h ▸ hkk)
                      · rw [h] at hkk; simp at hkk; omega
                · obtain rfl : j = R.length := by omega
                  go_wp2_with fail
                  refine ⟨⟨i + 1, by omega, by go_num, ?_, hbr⟩, by simp [intOf]; omega⟩
                  rw [Hstep.out]
                  have := Hown.out
                  rwa [List.take_length] at this
            · have Hn := Lib.hid (show chainOf r use met p i = none by rw [Hco'.out, Hgd.out, hmq]; rfl)
              have Hmq := Lib.hid hmq; clear hmq
              go_wp2_with fail
              exact ⟨⟨i + 1, by omega, by go_num, by rw [Hstep.out, Hn.out]; simpa using Hown2.out, hbw2⟩, by simp [intOf]; omega⟩
      · go_wp2_with fail
        go_ret
        obtain rfl : i = r.strips.length := by omega
        exact ⟨_, rfl, Hown.out, hb⟩

theorem chains_any (b : Nat) (r : Roads) (f : Flock) (shut : Int) (a : Option Addr) (cap : Nat) (g : Good r f) (ua : Option Addr) (uc : Nat) (use : List Bool) (hul : use.length = r.strips.length) (tt : Int) : ∀ (k : Nat) (p : Nat) (met : Nat) (w : World),
    met < 64 → (p : Int) < r.stages → freeN met ≤ k → k ≤ 5 → WorkAt w b r f shut a cap → BoolsAt w ua use →
    Calls Try.prog 92 #[.pointer (some ⟨b, 0, none⟩), .slice ua r.strips.length uc, .int .i64 p, .int .i64 tt, .int .u16 met] w (ChainsPost w (chainsF r use tt k p met))
  | 0, p, met, w, hm, hp, hfr, _, hW, hU => by
    rw [chainsF_eq]
    refine chains_step b r f shut a cap g ua uc use hul tt _ p met (by simp [prevF]) (by simp [prevF]) (fun q w hq hmq _ _ => ?_) w hm hp hW hU
    have := (freeN_lt met hm q (by have := g.s2; omega) hmq).1
    omega
  | k + 1, p, met, w, hm, hp, hfr, hk, hW, hU => by
    rw [chainsF_eq]
    refine chains_step b r f shut a cap g ua uc use hul tt _ p met (fun q m => ?_) (fun q m l hl => ?_) (fun q w hq hmq hW hU => ?_) w hm hp hW hU
    · refine Nat.le_trans (chains_len g.n8 k q m) (Nat.le_trans (Nat.pow_le_pow_right (n := 8) (by omega) (show k + 1 ≤ 6 by omega)) (by decide))
    · have := (chains_in k q m l hl).1; omega
    · obtain ⟨h1, h2⟩ := freeN_lt met hm q (by have := g.s2; omega) hmq
      exact chains_any b r f shut a cap g ua uc use hul tt k q _ w h2 hq (by omega) (by omega) hW hU
end Go.Proofs.Ytjgkgnfhglhklaa
