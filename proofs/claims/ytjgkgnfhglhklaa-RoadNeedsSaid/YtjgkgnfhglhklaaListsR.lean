/- The contract of mestaref02.Lists: the lists of so many numbers. -/
import Derived.Test.YtjgkgnfhglhklaaPicks
import Derived.Maps.AppendAt
namespace Go.Proofs.Ytjgkgnfhglhklaa
set_option linter.unusedSimpArgs false
set_option linter.unusedVariables false
open Go.RowKit

set_option maxRecDepth 100000 in
set_option maxHeartbeats 8000000 in
theorem ListsR_step (n m : Nat) (hn : n ≤ 8) (hm : m ≤ 8)
    (ih : ∀ (first : Nat) (w : World), first + m ≤ 20 → Calls Try.prog 113 #[.int .i64 (first : Int), .int .i64 (n : Int), .int .i64 (m : Int)] w (ChainsPost w (picksF n m first)))
    (first : Nat) (w : World) (hf : first + m ≤ 19) : Calls Try.prog 113 #[.int .i64 (first : Int), .int .i64 (n : Int), .int .i64 ((m + 1 : Nat) : Int)] w (ChainsPost w (picksF n (m + 1) first)) := by
  have IH := Lib.hid ih; clear ih
  have hm0 : (((m + 1 : Nat) : Int) == 0) = false := by simp; omega
  have hm1 : ((m + 1 : Nat) : Int) - 1 = (m : Int) := by omega
  have HM1 := Lib.hid hm1; clear hm1
  generalize hM : ((m + 1 : Nat) : Int) = M at hm0 HM1
  have hM1 : 1 ≤ M := by omega
  have hM2 : M ≤ 9 := by omega
  have HM := Lib.hid hM; clear hM
  go_enter Try.func113, Try.ntmps113
  go_wp2_with fail
  clear hm0
  go_loopw [7, 8] (fun v7 v8 wx => ∃ k : Nat, k ≤ n - first ∧ v8 = .int .i64 ((first + k : Nat) : Int) ∧ OwnChains wx w.heap.size v7 (pickP n m first k) ∧ Below w.heap.size w wx) (fun _ v _ => n - (intOf v).toNat)
  case atStart => exact ⟨0, Nat.zero_le _, rfl, OwnChains.nil _ _, Below.refl _ _⟩
  case round =>
    obtain ⟨k, hk, rfl, hown, hb⟩ := hrel
    have Hown := Lib.hid hown; clear hown
    generalize hF : first + k = F
    have hF1 : F ≤ 40 := by omega
    have HF := Lib.hid hF; clear hF
    by_cases hlt : F < n
    · have q1 : (F : Int) < (n : Int) := by omega
      have hF2 : F ≤ 7 := by omega
      go_wp2_with fail
      rw [HM1.out, show (F : Int) + 1 = ((F + 1 : Nat) : Int) by omega]
      refine (IH.out (F + 1) wr (by omega)).mono ?_
      rintro e w3 ⟨vR, rfl, hR, hb3⟩
      have hbw3 := hb.trans (hb3.mono hb.size)
      have Hown3 := Lib.hid (Hown.out.below hb3)
      have HS := Lib.hid (pickP_len (m := m) (first := first) hn k)
      have hR1 := picks_count (n := n) 8 m (F + 1) (by omega)
      have hR2 := picks_len (n := n) m (F + 1)
      have hstep := pickP_succ n m first k
      rw [show first + k + 1 = F + 1 by have := HF.out; omega, HF.out] at hstep
      have Hstep := Lib.hid hstep; clear hstep
      have hs3 := hb3.size
      generalize hRg : picksF n m (F + 1) = R at hR hR1 hR2 Hstep
      clear hRg
      generalize hLg : pickP n m first k = Li at Hown3 HS Hstep Hown
      clear hLg
      obtain ⟨ra, rc, hv, hcap, hne, hcells⟩ := hR.form
      clear hR
      subst hv
      have HR2 := Lib.hid hR2; clear hR2
      have Hcells := Lib.hid hcells; clear hcells
      have Hne := Lib.hid hne; clear hne
      have hown3lt : ∀ k, u7.ownBlock = some k → k < wr.heap.size ∨ w3.heap.size ≤ k := fun k hk => .inl ((Hown.out.block_lt hk).1)
      clear Hown
      have hb3' := Lib.hid hb3; clear hb3
      have hR256 : R.length ≤ 256 := hR1
      clear hR1
      obtain ⟨w2, hw2⟩ : ∃ w2, w2 = wr := ⟨_, rfl⟩
      rw [← hw2] at hs3 hown3lt hb3' Hcells
      clear hb hw2
      go_wp2_with fail
      go_loopw [7, 10] (fun v7 v10 wx => ∃ j : Nat, j ≤ R.length ∧ v10 = .int .i64 (j : Int) ∧ OwnChains wx w.heap.size v7 (Li ++ (R.take j).map ((F : Int) :: ·)) ∧ Below w.heap.size w wx ∧ w3.heap.size ≤ wx.heap.size ∧
        (∀ b, w2.heap.size ≤ b → b < w3.heap.size → wx.heap[b]? = w3.heap[b]?) ∧ (∀ k, v7.ownBlock = some k → k < w2.heap.size ∨ w3.heap.size ≤ k)) (fun _ v _ => R.length - (intOf v).toNat)
      case atStart => exact ⟨0, Nat.zero_le _, rfl, by simpa using Hown3.out, hbw3, Nat.le_refl _, fun _ _ _ => rfl, hown3lt⟩
      case round =>
        clear Hown3 hown3lt hbw3
        obtain ⟨j, hj, rfl, hown, hbr, hzr, hkeep, hlt3⟩ := hrel
        have Hown := Lib.hid hown; clear hown
        have Hkeep := Lib.hid hkeep; clear hkeep
        have Hlt3 := Lib.hid hlt3; clear hlt3
        by_cases hjl : j < R.length
        · obtain ⟨gR, xv, hra, hgR, hcell, hin⟩ := Hcells.out j hjl
          have hl100 := HR2.out _ (List.getElem_mem hjl)
          have htk : R.take (j + 1) = R.take j ++ [R[j]] := List.take_succ_eq_append_getElem hjl
          have hcr := (World.cell?_of_block (Hkeep.out gR hgR (lt_of_cell hcell))).trans hcell
          obtain ⟨la, lc, hxv, hints⟩ := (hin.keep (w' := wr) (v' := .slice ra R.length rc) fun b hB hb hv => ⟨Hkeep.out b hB hb, hv⟩).ints
          generalize hl : R[j] = l at hl100 htk hxv hints
          clear hin hcell hl
          subst hra hxv
          have Htk := Lib.hid htk; clear htk
          have hl8 : l.length ≤ 8 := by omega
          clear hl100
          have hb1 : Below wr.heap.size wr (wr.alloc (.cells #[.int .i64 (F : Int)] 3)) := Below.alloc (Below.refl _ _) (Nat.le_refl _) _
          have HI := Lib.hid (hints.below hb1); clear hints
          have hcr2 := ((bcell hb1).1 _ _ (lt_of_cell hcr)).trans hcr
          have HB1 := Lib.hid hb1; clear hb1
          have hLb : (Li ++ (R.take j).map ((F : Int) :: ·)).length ≤ 10000000 := by
            have h1 := HS.out
            simp only [List.length_append, List.length_map, List.length_take]
            omega
          have HLb := Lib.hid hLb; clear hLb
          have hnewg : wr.heap[wr.heap.size]? = none := by simp
          go_wp2_with (first
            | (at_builtin; refine app_rest rfl (.tmp 34) (.tmp 38) rfl wr.heap.size wr.heap.size (F : Int) rfl (heap_alloc_new wr _) la lc l rfl HI.out (by omega) (Nat.le_refl _) ?_; intro g' cap' wA hrow hgl hgB hbA; have Hrow := Lib.hid hrow; clear hrow; have HbA := Lib.hid hbA; clear hbA)
            | (at_builtin; refine app_chain rfl (.tmp 32) (.tmp 40) rfl w.heap.size u7 _ rfl (Hown.out.below (HB1.out.trans HbA.out)) (.slice (some ⟨g', 0, none⟩) (l.length + 1) cap') ((F : Int) :: l) ?_ rfl HLb.out ?_ ?_))
          · exact ⟨_, _, rfl, .inr ⟨g', 0, rfl, by have := hbr.size; omega, fun e => by have := (Hown.out.block_lt e).1; omega, fun jj hjj => by rw [Nat.zero_add]; exact Hrow.out jj hjj⟩⟩
          · have := HbA.out.size; have := hbr.size; simp at *; omega
          · intro v' w' hown' hbB hkeep' hat hsz
            have Hown' := Lib.hid hown'; clear hown'
            have HbB := Lib.hid hbB; clear hbB
            have Hkeep' := Lib.hid hkeep'; clear hkeep'
            have Hat := Lib.hid hat; clear hat
            have Hbr := Lib.hid hbr; clear hbr
            clear hcr hcr2 hnewg
            have hsA := HbA.out.size
            simp only [World.size_alloc] at hsA
            go_wp2_with fail
            refine ⟨⟨j + 1, by omega, by go_num, ?_, ?_, by omega, fun bb h1 h2 => ?_, fun kk hkk => ?_⟩, by simp [intOf]; omega⟩
            · have := Hown'.out
              rw [Htk.out, List.map_append]
              simpa using this
            · have hA : Below w.heap.size w wA := Hbr.out.trans ((HB1.out.trans HbA.out).mono Hbr.out.size)
              exact hA.trans HbB.out
            · have hne : ¬ u7.ownBlock = some bb := fun e => by
                rcases Hlt3.out _ e with h | h <;> omega
              rw [Hkeep'.out bb (by omega) hne, HbA.out.block bb (by omega), HB1.out.block bb (by omega)]
              exact Hkeep.out bb h1 h2
            · rcases Hat.out with h | h
              · exact Hlt3.out kk (h ▸ hkk)
              · rw [h] at hkk; simp at hkk; omega
        · obtain rfl : j = R.length := by omega
          go_wp2_with fail
          refine ⟨⟨k + 1, by have := HF.out; omega, by have := HF.out; rw [show first + (k + 1) = F + 1 by omega]; go_num, ?_, hbr⟩, by simp [intOf]; omega⟩
          rw [Hstep.out]
          have := Hown.out
          rwa [List.take_length] at this
    · have q1 : ¬ (F : Int) < (n : Int) := by omega
      go_wp2_with fail
      go_ret
      refine ⟨_, rfl, ?_, hb⟩
      rw [← pickP_all, show n - first = k by have := HF.out; omega]
      exact Hown.out
theorem ListsR_any (n : Nat) (hn : n ≤ 8) : ∀ (m first : Nat) (w : World), m ≤ 9 → first + m ≤ 20 → Calls Try.prog 113 #[.int .i64 (first : Int), .int .i64 (n : Int), .int .i64 (m : Int)] w (ChainsPost w (picksF n m first))
  | 0, first, w, _, hf => by
    go_enter Try.func113, Try.ntmps113
    go_wp2_with fail
    go_ret
    refine ⟨_, rfl, ⟨[.slice none 0 0], ⟨rfl, .inr ⟨w.heap.size, 1, _, rfl, Nat.le_refl _, heap_alloc_new w _, Nat.le_refl _, by unfold maxLen; omega, rfl, rfl⟩⟩, fun i hi => ?_⟩, Below.alloc (Below.refl _ _) (Nat.le_refl _) _⟩
    obtain rfl : i = 0 := by simpa [picksF] using hi
    exact ⟨_, rfl, none, 0, rfl, .inl rfl⟩
  | m + 1, first, w, hm, hf => by
    exact ListsR_step n m hn (by omega) (fun first w h => ListsR_any n hn m first w (by omega) h) first w (by omega)
end Go.Proofs.Ytjgkgnfhglhklaa
