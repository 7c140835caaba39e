import Derived.Test.YtgdobbcjkiapkaaSt23
import Derived.Maps.AppendAt
import Derived.Test.YtgdobbcjkiapkaaSt04
namespace Go.Proofs.Ytgdobbcjkiapkaa
set_option maxRecDepth 100000
set_option maxHeartbeats 4000000
set_option linter.unusedSimpArgs false
set_option linter.unusedVariables false
section
open Go.RowKit
def Bg {α : Type} (f : α → List Value) (e : TypeId) (k : Nat) (w : World) (B : Nat) (v : Value) (l : List α) : Prop := w.ownsRow B e k v l.length (l.flatMap f)
section
variable {α : Type} {f : α → List Value} {e : TypeId} {k : Nat} {w w' : World} {B : Nat} {v : Value} {l : List α}
theorem Bg.nil : Bg f e k w B (.slice none 0 0) [] := World.ownsRow_nil _ _ _ _
theorem Bg.Ai (h : Bg f e k w B v l) {g : Nat} (hg : v.ownBlock = some g) : B ≤ g ∧ g < w.heap.size := by
  rcases h.2 with ⟨hv, _⟩ | ⟨g', cap, cur, hv, hb, hh, _⟩
  · rw [hv] at hg; simp [Value.ownBlock] at hg
  · rw [hv] at hg; simp [Value.ownBlock] at hg; subst hg
    exact ⟨hb, (Array.getElem?_eq_some_iff.1 hh).1⟩
theorem Bg.keep (h : Bg f e k w B v l) (hk : ∀ g, v.ownBlock = some g → w'.heap[g]? = w.heap[g]?) : Bg f e k w' B v l := by
  obtain ⟨h1, h2⟩ := h
  refine ⟨h1, ?_⟩
  rcases h2 with h2 | ⟨g, cap, cur, hv, hg, hh, hr⟩
  · exact .inl h2
  · exact .inr ⟨g, cap, cur, hv, hg, (hk g (by rw [hv]; rfl)).trans hh, hr⟩
theorem Bg.below (h : Bg f e k w B v l) (hb : Below w.heap.size w w') : Bg f e k w' B v l := h.keep fun g hg => hb.block g (h.Ai hg).2
theorem Bg.lower {B' : Nat} (h : Bg f e k w B v l) (hB : B' ≤ B) : Bg f e k w B' v l := by
  obtain ⟨h1, h2⟩ := h
  refine ⟨h1, ?_⟩
  rcases h2 with h2 | ⟨g, cap, cur, hv, hg, r⟩
  · exact .inl h2
  · exact .inr ⟨g, cap, cur, hv, Nat.le_trans hB hg, r⟩
theorem Ed (hf : ∀ x, (f x).length = k) : ∀ l : List α, (l.flatMap f).length = l.length * k
  | [] => by simp
  | x :: l => by rw [List.flatMap_cons, List.length_append, hf, Ed hf l, List.length_cons, Nat.add_mul]; omega
theorem flat_get (hf : ∀ x, (f x).length = k) : ∀ (l : List α) (i j : Nat) (hi : i < l.length), j < k → (l.flatMap f)[i * k + j]? = (f l[i])[j]?
  | x :: l, 0, j, _, hj => by rw [List.flatMap_cons, List.getElem?_append_left (by rw [hf]; omega)]; simp
  | x :: l, i + 1, j, hi, hj => by
    rw [List.flatMap_cons, List.getElem?_append_right (by rw [hf, Nat.add_mul]; omega), hf, show (i + 1) * k + j - k = i * k + j by rw [Nat.add_mul]; omega, flat_get hf l i j (by simpa using hi) hj]
    simp
theorem Bg.form (h : Bg f e k w B v l) (hf : ∀ x, (f x).length = k) : ∃ a cap, v = .slice a l.length cap ∧ l.length ≤ cap ∧ cap ≤ maxLen ∧ (a = none → l = [] ∧ cap = 0) ∧ ∀ ad, a = some ad → ∃ g, ad = ⟨g, 0, none⟩ ∧ B ≤ g ∧ g < w.heap.size ∧ ∀ (i : Nat) (hi : i < l.length) (j : Nat) (u : Value), j < k → (f l[i])[j]? = some u → w.cell? ⟨g, i * k + j, none⟩ = some u := by
  rcases h.2 with ⟨hv, h0⟩ | ⟨g, cap, cur, hv, hb, hh, hc, hm, hs, hcells⟩
  · have := List.length_eq_zero_iff.1 h0
    subst this
    exact ⟨none, 0, hv, Nat.le_refl _, by unfold maxLen; omega, fun _ => ⟨rfl, rfl⟩, fun ad h => by simp at h⟩
  · refine ⟨_, cap, hv, hc, hm, fun h => by simp at h, fun ad had => ⟨g, by simpa using had.symm, hb, (Array.getElem?_eq_some_iff.1 hh).1, fun i hi j u hj hu => ?_⟩⟩
    have h1 := flat_get hf l i j hi hj
    rw [← hcells, hu] at h1
    have hlt : i * k + j < l.length * k := by
      have : (i + 1) * k ≤ l.length * k := Nat.mul_le_mul_right k hi
      rw [Nat.add_mul] at this; omega
    rw [List.getElem?_take_of_lt hlt] at h1
    rw [Array.getElem?_toList] at h1
    simp [World.cell?, hh, h1]
theorem Ie {o : Oper} {a : Act} {K : Act → World → Prop} {Q : Exit → Act → World → Prop} (st : TypeId) {z : Value} {bytes : Nat} (s x : Operand) (hst : Try.prog.underlying st = some (.slice e)) (hinfo : (Try.prog.info? e).map (fun i => (i.zero, i.size, i.bytes)) = some (some z, k, bytes)) (hz : z.cells.size = k) (hk : 0 < k) (hby : bytes ≤ 100)
    (ho : o.op = .call { callee := .builtin .append, args := #[s, x], argTypes := #[st, st] }) (hs : a.eval s = v) (hown : Bg f e k w B v l) (gs : Nat) (y : α) (hx : a.eval x = .slice (some ⟨gs, 0, none⟩) 1 1)
    (hf : (f y).length = k) (hr : ∀ (j : Nat) (u : Value), (f y)[j]? = some u → w.cell? ⟨gs, j, none⟩ = some u) (h1 : ∀ u ∈ f y, u.oneCell' = true) (hlen : l.length ≤ 1000000) (hB : B ≤ w.heap.size)
    (h : ∀ v' w', Bg f e k w' B v' (l ++ [y]) → Below B w w' → w.grownBy w' v.ownBlock → (v'.ownBlock = v.ownBlock ∨ v'.ownBlock = some w.heap.size) → v' ≠ .slice none 0 0 → K (a.put o.dst v') w') : o.wp Try.prog a w K Q := by
  obtain ⟨i0, hi, hz0, hz1, hz2⟩ := info_parts (P := Try.prog) hinfo
  have hblk : ∀ k, v.ownBlock = some k → B ≤ k := fun k hk => (hown.Ai hk).1
  obtain ⟨v', w', q1, q2, q3, q4, q5⟩ := run_append_own_at (P := Try.prog) w B st o.type e i0 z k bytes hst hi hz0 hz1 hz2 hz hk v l.length _ hown ⟨gs, 0, none⟩ 1 1 (f y) (by rw [hf]; omega) (by
        intro j u hj
        have := hr j u hj
        have e : (⟨gs, 0, none⟩ : Addr).add j = ⟨gs, j, none⟩ := by by_cases h0 : j = 0 <;> simp [Addr.add, h0]
        rw [e]; exact this) h1 (by unfold maxLen; omega) (by
        have : (l.length + 1) * bytes ≤ 1000001 * 100 := Nat.mul_le_mul (by omega) hby
        omega) hB
  unfold Oper.wp execOp
  simp only [ho, resolve, invoke, builtin, Sem.run_bind, Sem.run_pure, Result.andThen_ok, List.map_toArray, List.map_cons, List.map_nil, hs, hx, q1]
  refine h v' w' ?_ (Below.grown (Below.refl _ _) q3 hB hblk) q3 q5 (fun e => ?_)
  · unfold Bg
    rw [List.length_append, List.flatMap_append]
    simpa using q2
  · have := (q4.1 e).2
    omega
end
theorem Y4 {α : Type} {f : α → List Value} {e : TypeId} {k : Nat} {w : World} {B : Nat} {v : Value} {l : List α} {o : Oper} {a : Act} {K : Act → World → Prop} {Q : Exit → Act → World → Prop} (st : TypeId) {z : Value} {bytes : Nat} (s x : Operand) (hst : Try.prog.underlying st = some (.slice e)) (hinfo : (Try.prog.info? e).map (fun i => (i.zero, i.size, i.bytes)) = some (some z, k, bytes)) (hz : z.cells.size = k) (hk : 0 < k) (hby : bytes ≤ 100)
    (ho : o.op = .call { callee := .builtin .append, args := #[s, x], argTypes := #[st, st] }) (hs : a.eval s = v) (hown : Bg f e k w B v l) (gs go : Nat) (c : Nat) (ys : List α) (hx : a.eval x = .slice (some ⟨gs, go, none⟩) ys.length c)
    (hf : ∀ y, (f y).length = k) (hr : ∀ (i : Nat) (hi : i < ys.length) (j : Nat) (u : Value), j < k → (f ys[i])[j]? = some u → w.cell? ⟨gs, go + (i * k + j), none⟩ = some u) (h1 : ∀ y ∈ ys, ∀ u ∈ f y, u.oneCell' = true) (hlen : l.length + ys.length ≤ 1000000) (hB : B ≤ w.heap.size)
    (h : ∀ v' w', Bg f e k w' B v' (l ++ ys) → Below B w w' → w.grownBy w' v.ownBlock → (v'.ownBlock = v.ownBlock ∨ v'.ownBlock = some w.heap.size) → (v' = .slice none 0 0 ↔ v = .slice none 0 0 ∧ ys.length = 0) → K (a.put o.dst v') w') : o.wp Try.prog a w K Q := by
  obtain ⟨i0, hi, hz0, hz1, hz2⟩ := info_parts (P := Try.prog) hinfo
  have hblk : ∀ k, v.ownBlock = some k → B ≤ k := fun k hk => (hown.Ai hk).1
  obtain ⟨v', w', q1, q2, q3, q4, q5⟩ := run_append_own_at (P := Try.prog) w B st o.type e i0 z k bytes hst hi hz0 hz1 hz2 hz hk v l.length _ hown ⟨gs, go, none⟩ ys.length c (ys.flatMap f) (Ed hf ys) (by
        intro j u hj
        have hjl : j < ys.length * k := by rw [← Ed hf ys]; exact (List.getElem?_eq_some_iff.1 hj).1
        have hq : j / k < ys.length := (Nat.div_lt_iff_lt_mul hk).2 hjl
        have hm : j % k < k := Nat.mod_lt _ hk
        have hsp : j / k * k + j % k = j := by rw [Nat.mul_comm]; exact Nat.div_add_mod j k
        have h2 := flat_get hf ys (j / k) (j % k) hq hm
        rw [hsp, hj] at h2
        have h3 := hr (j / k) hq (j % k) u hm h2.symm
        rw [hsp] at h3
        have e : (⟨gs, go, none⟩ : Addr).add j = ⟨gs, go + j, none⟩ := by by_cases h0 : j = 0 <;> simp [Addr.add, h0]
        rw [e]; exact h3) (by
        intro u hu
        obtain ⟨y, hy, hu⟩ := List.mem_flatMap.1 hu
        exact h1 y hy u hu) (by unfold maxLen; omega) (by
        have : (l.length + ys.length) * bytes ≤ 1000000 * 100 := Nat.mul_le_mul hlen hby
        omega) hB
  unfold Oper.wp execOp
  simp only [ho, resolve, invoke, builtin, Sem.run_bind, Sem.run_pure, Result.andThen_ok, List.map_toArray, List.map_cons, List.map_nil, hs, hx, q1]
  refine h v' w' ?_ (Below.grown (Below.refl _ _) q3 hB hblk) q3 q5 q4
  unfold Bg
  rw [List.length_append, List.flatMap_append]
  exact q2
def Qe (p : Ar) : List Value := [.int .i64 p.toll, .int .i64 p.owner, .int .i64 p.heads]
abbrev CV := Bg Qe 53 3
theorem CV.at {w : World} {B : Nat} {v : Value} {l : List Ar} (h : CV w B v l) : ∃ a cap, v = .slice a l.length cap ∧ l.length ≤ cap ∧ cap ≤ maxLen ∧ DJ w a l := by
  obtain ⟨a, cap, hv, hc, hm, hn, hs⟩ := Bg.form h (fun _ => rfl)
  refine ⟨a, cap, hv, hc, hm, ?_⟩
  cases a with
  | none => exact .inl (hn rfl).1
  | some ad =>
    obtain ⟨g, rfl, _, _, hcell⟩ := hs ad rfl
    refine .inr ⟨g, 0, rfl, fun i hi => ⟨?_, ?_, ?_⟩⟩
    · have := hcell i hi 0 _ (by omega) rfl; simpa [Qg] using this
    · have := hcell i hi 1 _ (by omega) rfl; simpa [Qg] using this
    · have := hcell i hi 2 _ (by omega) rfl; simpa [Qg] using this
end
section
open Go.RowKit
def QP (x : Int) : List Int → Int → Int
 | [], _ => -1
 | y :: l, i => if x = y then i else QP x l (i + 1)
theorem SY {x : Int} : ∀ {l : List Int} {i : Int}, 0 ≤ i → (0 ≤ QP x l i ↔ x ∈ l)
 | [], i, _ => by simp [QP]
 | y :: l, i, h => by
  rw [QP]
  by_cases e : x = y
  ·rw [if_pos e]; simp [e, h]
  ·rw [if_neg e, SY (l := l) (i := i + 1) (by omega)]; simp [e]
theorem Yc {x : Int} {l : List Int} {k : Nat} (h : k < l.length) (hx : ¬ x = l[k]) : QP x (l.drop k) (k : Int) = QP x (l.drop (k + 1)) ((k + 1 : Nat) : Int) := by
 rw [List.drop_eq_getElem_cons h, QP, if_neg hx]; simp
theorem Zj {x : Int} {l : List Int} {k : Nat} (h : k < l.length) (hx : x = l[k]) : QP x (l.drop k) (k : Int) = (k : Int) := by
 rw [List.drop_eq_getElem_cons h, QP, if_pos hx]
theorem AU.at {w : World} {a : Option Addr} {l : List Int} (h : AU w a l) {i : Nat} (hi : i < l.length) : ∃ b o, a = some ⟨b, o, none⟩ ∧ w.cell? ⟨b, o + i, none⟩ = some (.int .i64 l[i]) := by
 rcases h with rfl | ⟨b, o, ha, h⟩
 ·simp at hi
 ·exact ⟨b, o, ha, h i hi⟩
theorem AU.take {w : World} {b o : Nat} {l : List Int} (h : AU w (some ⟨b, o, none⟩) l) (i : Nat) : AU w (some ⟨b, o, none⟩) (l.take i) := by
 rcases h with rfl | ⟨b', o', ha, h⟩
 ·simp; exact .inl rfl
 ·refine .inr ⟨b', o', ha, fun j hj => ?_⟩; rw [List.length_take] at hj; rw [List.getElem_take]; exact h j (by omega)
theorem VG : Try.f108.body = some (Code.seq (Aa Try.f108 0) (Code.seq (Code.seq (Aa Try.f108 1) (Code.block 0 (Code.loop (Code.seq (Aa Try.f108 2) (Code.seq (Code.cond (Operand.tmp 9) Code.skip (Code.exit 0)) (Code.seq (Code.block 1 (Code.seq (Aa Try.f108 3) (Code.seq (Aa Try.f108 4) (Code.cond (Operand.tmp 16) (Code.seq (Aa Try.f108 5) Code.ret) Code.skip)))) (Aa Try.f108 6))))))) (Code.seq (Aa Try.f108 7) Code.ret))) := by kernel_rfl
theorem WA {w : World} {la : Option Addr} {cap : Nat} {l : List Int} {x : Int} (hl : AU w la l) (hn : l.length ≤ 1000000) : Calls Try.prog 108 #[.slice la l.length cap, .int .i64 x] w (fun e w' => e = .returned (.int .i64 (QP x l 0)) ∧ w' = w) := by
 refine Lt Try.func108 VG Try.ntmps108 ?_; intro a Z; refine wsr ?_; refine Z.s ?_; clear Z; intro a Z; refine od ?_; refine wp_seq ?_; refine wsr ?_; (iterate 3 refine Z.s ?_; clear Z; intro a Z); refine od ?_; refine wp_block ?_; refine wp_loop_ghost (fun n p W => W = w ∧ ∃ k : Nat, k + n = l.length ∧ QP x (l.drop k) (k : Int) = QP x l 0 ∧ Sl p 19 [(0, .slice la l.length cap), (1, .int .i64 x), (7, .int .i64 (l.length : Int)), (8, .int .i64 (k : Int))]) l.length ⟨rfl, 0, by omega, rfl, Z.sb⟩ ?_; clear Z; rintro n p W ⟨rfl, k, hkn, hE, Z⟩; have HE := Lib.hid hE; clear hE; refine wsr ?_
 by_cases hlt : k < l.length
 ·have q1 : (k : Int) < (l.length : Int) := by omega
  obtain ⟨pb, po, hpa, p0⟩ := hl.at hlt; rw [hpa] at Z; refine Z.s ?_; clear Z; intro a Z; refine od ?_; refine wp_seq ?_; refine wp_cond_true (Z.ev 9 rfl) ?_; refine wp_skip ?_; refine wp_seq ?_; refine wp_block ?_; refine wsr ?_; (iterate 2 refine Z.s ?_; clear Z; intro a Z); refine od ?_; refine wsr ?_; (iterate 5 refine Z.s ?_; clear Z; intro a Z)
  by_cases h1 : x = l[k]
  ·have hb := ET h1; have hR := Lib.hid (HE.out.symm.trans (Zj hlt h1)); have H1 := Lib.hid h1; clear h1; refine Z.s ?_; clear Z; intro a Z; refine od ?_; refine wp_cond_true (Z.ev 16 rfl) ?_; refine wsr ?_; (iterate 2 refine Z.s ?_; clear Z; intro a Z); refine od ?_; refine wp_ret ?_
   try simp only [Exit.then, Exit.inBlock]
   refine bodyPost_ret (v := .int .i64 (QP x l 0)) ?_ Z.defers ⟨rfl, rfl⟩; rw [hR.out]; simp [results, Try.results108, Z.get 4 _ rfl]
  ·have hb := Eu h1; refine Z.s ?_; clear Z; intro a Z; refine od ?_; refine wp_cond_false (Z.ev 16 rfl) ?_; refine wp_skip ?_; refine wr ?_; refine og fun K hK => ?_
   have e8 := Z.g 8; have hw := AY k (by omega); unfold Oper.wp; go_simp; clear e8; refine Z.K hK ?_; clear Z hK; intro a Z; refine Z.s ?_; clear Z; intro a Z; refine od ?_; show Exists _; exact ⟨n - 1, by omega, by trivial, k + 1, by omega, (Yc hlt h1).symm.trans HE.out, by rw [hpa]; exact Z.sb⟩
 ·obtain rfl : k = l.length := by omega
  refine Z.s ?_; clear Z; intro a Z; refine od ?_; refine wp_seq ?_; refine wp_cond_false (Z.ev 9 rfl) ?_; refine wp_exit ?_; have hR := Lib.hid (show QP x l 0 = -1 from by rw [← HE.out, List.drop_of_length_le (Nat.le_refl _)]; rfl); refine wsr ?_; refine Z.s ?_; clear Z; intro a Z; refine od ?_; refine wp_ret ?_
  try simp only [Exit.then, Exit.inBlock]
  refine bodyPost_ret (v := .int .i64 (QP x l 0)) ?_ Z.defers ⟨rfl, rfl⟩; rw [hR.out]; simp [results, Try.results108, Z.get 4 _ rfl]
theorem VH : Try.f69.body = some (Code.seq (Aa Try.f69 0) (Code.seq (Aa Try.f69 1) Code.ret)) := by kernel_rfl
theorem Le {w : World} {la : Option Addr} {cap : Nat} {l : List Int} {x : Int} (hl : AU w la l) (hn : l.length ≤ 1000000) : Calls Try.prog 69 #[.slice la l.length cap, .int .i64 x] w (fun e w' => e = .returned (.bool (decide (x ∈ l))) ∧ w' = w) := by
 have hd : decide (0 ≤ QP x l 0) = decide (x ∈ l) := by rw [decide_eq_decide]; exact SY (Int.le_refl _)
 have HD := Lib.hid hd; clear hd; refine Lt Try.func69 VH Try.ntmps69 ?_; intro a Z; refine wsr ?_; refine Z.s ?_; clear Z; intro a Z; refine od ?_; refine wsr ?_; (iterate 2 refine Z.s ?_; clear Z; intro a Z); refine og fun K hK => ?_
 have e5 := Z.g 5; have e6 := Z.g 6; unfold Oper.wp; go_simp; refine (WA hl hn).mono ?_; rintro e W ⟨rfl, rfl⟩; clear e5 e6; refine Z.K hK ?_; clear Z hK; intro a Z; (iterate 2 refine Z.s ?_; clear Z; intro a Z); refine od ?_; refine wp_ret ?_
 try simp only [Exit.then, Exit.inBlock]
 refine bodyPost_ret (v := .bool (decide (x ∈ l))) ?_ Z.defers ⟨rfl, rfl⟩; rw [← HD.out]; simp [results, Try.results69, Z.get 4 _ rfl]
end
end Go.Proofs.Ytgdobbcjkiapkaa
