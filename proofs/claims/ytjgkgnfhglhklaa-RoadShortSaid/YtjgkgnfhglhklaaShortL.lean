/- The walk of RoadShort. -/
import Derived.Test.YtjgkgnfhglhklaaLChain
import Derived.Test.YtjgkgnfhglhklaaDeal
import Derived.Test.YtjgkgnfhglhklaaWay
import Derived.Test.YtjgkgnfhglhklaaDays
import Derived.Deep.CutBlock
import Derived.Deep.RegionHeld3
namespace Go.Proofs.Ytjgkgnfhglhklaa
set_option linter.unusedSimpArgs false
set_option linter.unusedVariables false
open Go.RowKit

theorem ready22 {r : Roads} {f : Flock} (g : Good r f) {x y : Int} (h1 : 0 ≤ x) (h2 : x < r.stages) (h3 : 0 ≤ y) (h4 : y < r.stages) : readyErr r f [x, r.stages, y, r.stages] = 0 := by
  obtain ⟨k1, k2⟩ := good_iff.1 g
  unfold readyErr
  rw [if_neg (by simp [k1]), if_neg (by simp [k2])]
  exact pairs4.2 ⟨⟨h1, h2⟩, h3, h4⟩
theorem bestL_one (r : Roads) (L : List (List Int)) (h : 0 < L.length) : bestL r (L.take 1) = L[0] := by
  cases L with
  | nil => simp at h
  | cons x l => rfl
theorem bestL_next (r : Roads) (L : List (List Int)) {i : Nat} (h0 : 0 < i) (h : i < L.length) : bestL r (L.take (i + 1)) = betterOf r (bestL r (L.take i)) L[i] := by
  cases L with
  | nil => simp at h
  | cons x l =>
    obtain ⟨k, rfl⟩ : ∃ k, i = k + 1 := ⟨i - 1, by omega⟩
    have hk : k < l.length := by simpa using h
    rw [List.take_succ_cons, List.take_succ_cons, bestL, bestL, List.take_succ_eq_append_getElem hk, List.foldl_append]
    rfl
/-- What the law holds of the best so far. -/
def BestAt (r : Roads) (L : List (List Int)) (i : Nat) (b least : Int) : Prop := (i = 0 ∧ b = -1 ∧ least = 0) ∨ ∃ (j : Nat) (h : j < L.length), j < i ∧ b = (j : Int) ∧ L[j] = bestL r (L.take i) ∧ least = lenL r (bestL r (L.take i))
/-- The strips in use, while the days of strip i are gone through. -/
def useB (r : Roads) (f : Flock) (D i d : Nat) (j : Nat) : Bool := if j < i then openTo r f j D else if j = i then openTo r f j d else false

set_option maxRecDepth 100000 in
set_option maxHeartbeats 20000000 in
theorem ShortL_any (w : World) (a : Option Addr) (n c : Nat) (l : List Int) (hl : IntsAt w a l) (hn : l.length = n) (hm : n ≤ maxLen) (ha : l = [] ∨ ∀ ad, a = some ad → ad.block < w.heap.size) :
    Calls Try.prog 13 #[.slice a n c] w fun e w' => e = .returned (.bool true) ∧ Below w.heap.size w w' := by
  have HL := Lib.hid hl; clear hl
  have HA := Lib.hid ha; clear ha
  have HN := Lib.hid hn; clear hn
  go_enter Try.func13, Try.ntmps13
  go_wp2_with fail
  refine (NewHand_any w a n c l HL.out HN.out hm HA.out).mono ?_
  rintro e w1 ⟨rfl, hh1, hb1, hs1⟩
  clear HL HA HN
  have H1 := Lib.hid hh1; clear hh1
  have B1 := Lib.hid hb1; clear hb1
  go_wp2_with fail
  refine (RoadsOf_all w1 w.heap.size 0 a n c H1.out (by omega) 5 7 6 (by omega) (by omega) (by omega) (by omega) (by omega) (by omega)).mono ?_
  rintro e w2 ⟨r, v, hr, hown, rfl, hh2, hE2⟩
  obtain ⟨va, vc, rfl⟩ := hown.form
  have hvc := hown.cap
  have HR := Lib.hid hr; clear hr
  have HO := Lib.hid hown; clear hown
  have H2 := Lib.hid hh2; clear hh2 H1
  have E2 := Lib.hid hE2; clear hE2
  go_wp2_with fail
  refine (FlockOf_any w2 w.heap.size (0 + 200) a n c H2.out (by omega)).mono ?_
  rintro e w3 ⟨_, ⟨f, hf, rfl⟩, rfl, hh3, hE3⟩
  have HF := Lib.hid hf; clear hf
  obtain ⟨hRF, hh4, hlt3, hva⟩ := RF.laid (f := f) B1.out hs1 HO.out E2.out hE3 hh3
  have hK : HRF w _ w.heap.size 206 w3.heap.size (w3.heap.size + 1) r f va vc a n c := ⟨hRF, hh4, by omega, by omega, hva, Nat.le_refl _⟩
  have HK := Lib.hid hK
  clear hRF hh4 hva hK hh3 hE3 E2 H2 HO B1
  obtain ⟨s1, s2, d1, d2⟩ : 1 ≤ r.stages ∧ r.stages ≤ 6 ∧ 1 ≤ r.days ∧ r.days ≤ 10 := ⟨HR.out.s1, HR.out.s2, HR.out.d1, HR.out.d2⟩
  have G := Lib.hid (HR.out.good HF.out); clear HR HF
  go_wp2_with fail
  generalize hw4 : ((w3.alloc (.cells #[.int .i64 r.days, .int .i64 r.stages, .slice va r.strips.length vc] 24)).alloc (.cells #[.int .i64 f.heads, .int .i64 f.pace] 26)) = w4 at HK ⊢
  generalize hp : w3.heap.size = p at HK ⊢
  clear hlt3 hp hw4
  have hd := HK.out.drew
  have c1 := hd.rf.c1
  have K1 := Lib.hid hd; clear hd HK
  have q1 : IntKind.i64.wrap (r.stages - 1) = r.stages - 1 := IntWalk.i64_in _ (by omega)
  go_cut [6, 7] (fun v6 v7 wx => ∃ x y : Nat, v6 = .int .i64 (x : Int) ∧ v7 = .int .i64 (y : Int) ∧ (x : Int) < r.stages ∧ (y : Int) < r.stages ∧ HRF w wx w.heap.size (206 + 1 + 1) p (p + 1) r f va vc a n c)
  case first =>
    go_region_held3 (fun w' => w'.cell? ⟨p, 1, none⟩ = some (.int .i64 r.stages)) (first | exact m11 | exact m01 | exact c1) (first
      | (go_at_call 34; refine (K2.out.upto (by omega) (r.stages - 1) (by omega) (by omega)).mono ?_; rintro e w6 ⟨y, y1, rfl, hk⟩; have K3 := Lib.hid hk; have m11 := hk.rf.c1; clear hk)
      | (go_at_call 34; refine (K1.out.upto (by omega) (r.stages - 1) (by omega) (by omega)).mono ?_; rintro e w5 ⟨x, x1, rfl, hk⟩; have K2 := Lib.hid hk; have m01 := hk.rf.c1; clear hk))
    all_goals (go_wp2_with fail; go_meet; exact ⟨x, y, rfl, rfl, by omega, by omega, K3.out⟩)
  case rest =>
    obtain ⟨x, y, rfl, rfl, hx, hy, hk⟩ := hcut
    clear c1 K1 q1
    obtain ⟨S, hS⟩ := Int.eq_ofNat_of_zero_le (a := r.stages) (by omega)
    have hxS : x < S := by omega
    have hyS : y < S := by omega
    have hS6 : S ≤ 6 := by omega
    have HX := Lib.hid hx; clear hx
    have HY := Lib.hid hy; clear hy
    have HS := Lib.hid hS; clear hS s1 s2
    have hrf := hk.rf
    clear hk
    have c0 := hrf.c0
    have c1 := hrf.c1
    have c2 := hrf.c2
    have e0 := hrf.d0
    have e1 := hrf.d1
    have HRF := Lib.hid hrf; clear hrf
    obtain ⟨D, hD⟩ := Int.eq_ofNat_of_zero_le (a := r.days) (by omega)
    have hD10 : D ≤ 10 := by omega
    have hl8 := G.out.n8
    have HD := Lib.hid hD; clear hD d1 d2
    have HRD := Lib.hid (ready22 G.out (x := (x : Int)) (y := (y : Int)) (by omega) HX.out (by omega) HY.out)
    go_wp2_with fail
    refine (Way_any wc r f va vc HRF.out.strips (by unfold maxLen; omega) (x : Int) (y : Int)).mono ?_
    rintro e w8 ⟨hb8, hpp⟩
    obtain ⟨wa, wl, wcc, wn, we, rfl, hway⟩ : ∃ wa wl wcc wn we, e = .returned (.tuple #[.slice wa wl wcc, .int .i64 wn, .int .i64 we]) ∧ ((wayAll r f x (y : Int) = [] ∧ wl = 0 ∧ wn = 0 ∧ we = 11) ∨ (wayAll r f x (y : Int) ≠ [] ∧ wl = (bestL r (wayAll r f x (y : Int))).length ∧ wn = lenL r (bestL r (wayAll r f x (y : Int))) ∧ we = 0 ∧ IntsAt w8 wa (bestL r (wayAll r f x (y : Int))))) := by
      rcases hpp with ⟨_, h2, rfl⟩ | ⟨_, h2, a', c', rfl, h3⟩ | ⟨h1, _⟩
      · exact ⟨none, 0, 0, 0, 11, rfl, .inl ⟨h2, rfl, rfl, rfl⟩⟩
      · exact ⟨a', _, c', _, 0, rfl, .inr ⟨h2, rfl, rfl, rfl, h3⟩⟩
      · exact absurd HRD.out h1
    have HWAY := Lib.hid hway; clear hway hpp
    have HRF8 := Lib.hid (HRF.out.below hb8)
    clear c0 c1 c2 e0 e1 hb8 HRF
    have c0 := HRF8.out.c0
    have c1 := HRF8.out.c1
    have c2 := HRF8.out.c2
    have e0 := HRF8.out.d0
    have e1 := HRF8.out.d1
    go_wp2_with fail
    have hT := table_any w8 G.out va vc D HD.out HRF8.out.strips
    rw [← HD.out] at hT
    refine hT.mono ?_
    clear hT
    rintro e w9 ⟨GT, gbT, rfl, hgT, hbT⟩
    have HW9 := Lib.hid (show (wayAll r f x (y : Int) = [] ∧ wl = 0 ∧ wn = 0 ∧ we = 11) ∨ (wayAll r f x (y : Int) ≠ [] ∧ wl = (bestL r (wayAll r f x (y : Int))).length ∧ wn = lenL r (bestL r (wayAll r f x (y : Int))) ∧ we = 0 ∧ IntsAt w9 wa (bestL r (wayAll r f x (y : Int)))) from HWAY.out.imp id fun h => ⟨h.1, h.2.1, h.2.2.1, h.2.2.2.1, h.2.2.2.2.below hbT⟩); clear HWAY
    have HRF9 := Lib.hid (HRF8.out.below hbT)
    have HG9 := Lib.hid hgT; clear hgT
    clear c0 c1 c2 e0 e1 hbT HRF8
    have c2 := HRF9.out.c2
    obtain ⟨N, hN⟩ : ∃ N, r.strips.length = N := ⟨_, rfl⟩
    rw [hN] at c2 hl8
    have HN := Lib.hid hN; clear hN
    have hmk := run_make_row' (P := Try.prog) 70 4 (.bool false) 1 Try.underlying70 info_bool rfl .i64 .i64 N (by omega) (by omega)
    have HBR0 := Lib.hid (show BRow (w9.alloc (.cells (madeCells #[.bool false] N) 4)) w9.heap.size N (useB r f D 0 0) from BRow.congr (o := fun _ => false) (by unfold BRow; rw [heap_alloc_new, tab_made]) fun s _ => by
      unfold useB; rw [if_neg (by omega)]; split <;> rfl)
    have HBM := Lib.hid (show Below w9.heap.size w9 (w9.alloc (.cells (madeCells #[.bool false] N) 4)) from (Below.refl _ _).alloc (Nat.le_refl _) _)
    go_wp2_with fail
    clear c2 hmk
    go_loopw [14] (fun v14 wx => ∃ i : Nat, i ≤ N ∧ v14 = .int .i64 (i : Int) ∧ BRow wx w9.heap.size N (useB r f D i 0) ∧ Below w9.heap.size w9 wx) (fun v _ => N - (intOf v).toNat)
    case atStart => exact ⟨0, Nat.zero_le _, rfl, HBR0.out, HBM.out⟩
    case round =>
      clear HBR0 HBM
      obtain ⟨i, hi, rfl, hrow, hbr⟩ := hrel
      have HROW := Lib.hid hrow; clear hrow
      have HBR := Lib.hid hbr; clear hbr
      by_cases hiN : i < N
      · have q2 : (i : Int) < (N : Int) := by omega
        go_wp2_with fail
        go_loopw [15] (fun v15 wx => ∃ d : Nat, d ≤ D ∧ v15 = .int .i64 (d : Int) ∧ BRow wx w9.heap.size N (useB r f D i d) ∧ Below w9.heap.size w9 wx) (fun v _ => D - (intOf v).toNat)
        case atStart => exact ⟨0, Nat.zero_le _, rfl, HROW.out, HBR.out⟩
        case round =>
          clear HROW HBR
          obtain ⟨d, hd, rfl, hrow, hbr⟩ := hrel
          have c0 := (HRF9.out.below hbr).c0
          rw [HD.out] at c0
          have HBR := Lib.hid hbr; clear hbr
          by_cases hdD : d < D
          · have q3 : (d : Int) < (D : Int) := by omega
            have m0 := hrow.cell hiN
            have m1 := hrow.free i
            have u0 := (HG9.out.below HBR.out).row (Nat.le_refl _) hdD
            have u1 := (HG9.out.below HBR.out).cell hdD (show i < r.strips.length by rw [HN.out]; exact hiN)
            rw [HN.out] at u0
            rw [show useB r f D i d i = openTo r f i d by unfold useB; rw [if_neg (by omega), if_pos rfl]] at m0
            have hset : ∀ v : Bool, v = (openTo r f i d || openB r f (-1) i (d : Int)) → BRow (wr.setCell ⟨w9.heap.size, i, none⟩ (.bool v)) w9.heap.size N (useB r f D i (d + 1)) := fun v hv => (hrow.set i v).congr fun j _ => by
              unfold useB
              by_cases e : j = i
              · subst e; rw [if_pos rfl, if_neg (by omega), if_pos rfl, hv]; rfl
              · rw [if_neg e, if_neg e, if_neg e]
            have HSET := Lib.hid hset; clear hset hrow
            generalize openTo r f i d = acc at m0 HSET
            generalize openB r f (-1) i (d : Int) = ov at u1 HSET
            cases acc
            · go_wp2_with fail
              exact ⟨⟨d + 1, by omega, by go_num, HSET.out _ rfl, HBR.out.setCell (p := ⟨w9.heap.size, i, none⟩) (Nat.le_refl _) _⟩, by simp [intOf]; omega⟩
            · go_wp2_with fail
              exact ⟨⟨d + 1, by omega, by go_num, HSET.out _ rfl, HBR.out.setCell (p := ⟨w9.heap.size, i, none⟩) (Nat.le_refl _) _⟩, by simp [intOf]; omega⟩
          · obtain rfl : d = D := by omega
            have HROW := Lib.hid hrow; clear hrow
            go_wp2_with fail
            exact ⟨⟨i + 1, by omega, by go_num, HROW.out.congr fun j _ => by
              unfold useB
              by_cases e : j < i
              · rw [if_pos e, if_pos (by omega)]
              · rw [if_neg e]
                by_cases e2 : j = i
                · subst e2; rw [if_pos rfl, if_pos (by omega)]
                · rw [if_neg e2, if_neg (by omega)]; split <;> rfl, HBR.out⟩, by simp [intOf]; omega⟩
      · obtain rfl : i = N := by omega
        have HU := Lib.hid (show BoolsAt wr (some ⟨w9.heap.size, 0, none⟩) (useL r f) from .inr ⟨_, 0, rfl, fun j hj => by
          have hj' : j < i := by unfold useL at hj; simp at hj; rw [HN.out] at hj; exact hj
          have h1 := HROW.out.cell hj'
          rw [Nat.zero_add, h1]
          unfold useB useL
          rw [if_pos hj']
          simp [HD.out]⟩)
        have hrf := HRF9.out.below HBR.out
        have c0 := hrf.c0
        have c1 := hrf.c1
        have c2 := hrf.c2
        rw [HN.out] at c2
        have HRFr := Lib.hid hrf; clear hrf
        have HLC := Lib.hid (fun (W : World) (hW : Below wr.heap.size wr W) (hm : IntsAt W (some ⟨wr.heap.size, 0, none⟩) [(x : Int)]) => lchains_any G.out S i HS.out HN.out va vc (some ⟨w9.heap.size, 0, none⟩) i (useL r f) (by unfold useL; simp [HN.out]) y hyS 5 x (0 ||| 1 <<< x) W [] [(x : Int)] none 0 (some ⟨wr.heap.size, 0, none⟩) 1 0 (one_shl_lt (by omega)) hxS (free_one x (by omega)) (Nat.le_refl _) (HRFr.out.strips.below hW) (HU.out.below hW) (.inl rfl) hm (by simp) (by simp) (fun q _ => by rw [testBit_or_one]; simp [eq_comm]; omega) (.inl rfl) (Nat.zero_le _))
        have HM1 := Lib.hid (show IntsAt (wr.alloc (.cells #[.int .i64 (x : Int)] 3)) (some ⟨wr.heap.size, 0, none⟩) [(x : Int)] from .inr ⟨_, 0, rfl, fun j hj => by
          obtain rfl : j = 0 := by simpa using hj
          simp [go_sem]⟩)
        have HBA := Lib.hid (show Below wr.heap.size wr (wr.alloc (.cells #[.int .i64 (x : Int)] 3)) from (Below.refl _ _).alloc (Nat.le_refl _) _)
        go_wp2_with fail
        refine (HLC.out _ HBA.out HM1.out).mono ?_
        clear HLC HM1 c0 c1 c2
        rintro e w5 ⟨v, rfl, hls, hb5⟩
        have hall : (chainsF r (useL r f) (y : Int) 5 (x : Int) (0 ||| 1 <<< x)).map ([] ++ ·) = wayAll r f x (y : Int) := by unfold wayAll; simp
        rw [hall] at hls
        have hLin : ∀ l ∈ wayAll r f x (y : Int), l.length ≤ 6 ∧ ∀ z ∈ l, 0 ≤ z ∧ z < r.strips.length := fun l hl => chains_in 5 (x : Int) (0 ||| 1 <<< x) l hl
        have hLlen : (wayAll r f x (y : Int)).length ≤ 300000 := Nat.le_trans (chains_len G.out.n8 5 (x : Int) (0 ||| 1 <<< x)) (by decide)
        clear hall
        have hW5 := HW9.out
        generalize wayAll r f x (y : Int) = L at hls hLin hLlen hW5
        have hB5 := HBR.out.trans ((HBA.out.trans (hb5.mono HBA.out.size)).mono HBR.out.size)
        obtain ⟨la, lcap, rfl, hrows⟩ := hls.form
        have HROWS := Lib.hid (show ∀ W : World, Below w5.heap.size w5 W → ∀ (j : Nat) (h : j < L.length), ∃ g xa xc, la = some ⟨g, 0, none⟩ ∧ W.cell? ⟨g, j, none⟩ = some (.slice xa L[j].length xc) ∧ IntsAt W xa L[j] from fun W hW j h => by
          obtain ⟨g, xv, h1, h2, h3⟩ := hrows j h
          obtain ⟨xa, xc, rfl, h4⟩ := h3.ints
          exact ⟨g, xa, xc, h1, ((bcell hW).1 _ _ (lt_of_cell h2)).trans h2, h4.below hW⟩); clear hrows hls
        have HLIN := Lib.hid hLin; clear hLin
        have HW5 := Lib.hid (show (L = [] ∧ wl = 0 ∧ wn = 0 ∧ we = 11) ∨ (L ≠ [] ∧ wl = (bestL r L).length ∧ wn = lenL r (bestL r L) ∧ we = 0 ∧ IntsAt w5 wa (bestL r L)) from hW5.imp id fun h => ⟨h.1, h.2.1, h.2.2.1, h.2.2.2.1, h.2.2.2.2.below hB5⟩); clear hW5 HW9
        have HRF5 := Lib.hid (HRF9.out.below hB5); clear hB5 hb5 HBR HBA HROW HU HRFr HG9 HRF9
        go_wp2_with fail
        go_loopw [17, 18, 19] (fun v17 v18 v19 wx => ∃ (i : Nat) (b least : Int), i ≤ L.length ∧ v19 = .int .i64 (i : Int) ∧ v17 = .int .i64 b ∧ v18 = .int .i64 least ∧ BestAt r L i b least ∧ Below w5.heap.size w5 wx) (fun _ _ v _ => L.length - (intOf v).toNat)
        case atStart => exact ⟨0, -1, 0, Nat.zero_le _, rfl, rfl, rfl, .inl ⟨rfl, rfl, rfl⟩, Below.refl _ _⟩
        case round =>
          obtain ⟨m, b, least, hmL, rfl, rfl, rfl, hbest, hbr⟩ := hrel
          have HBEST := Lib.hid hbest; clear hbest
          have HBR := Lib.hid hbr; clear hbr
          by_cases hm1 : m < L.length
          · have q2 : (m : Int) < (L.length : Int) := by omega
            have hin := HLIN.out L[m] (List.getElem_mem hm1)
            obtain ⟨way, hway⟩ : ∃ way, L[m] = way := ⟨_, rfl⟩
            have HR := Lib.hid (show ∀ W : World, Below w5.heap.size w5 W → ∃ g xa xc, la = some ⟨g, 0, none⟩ ∧ W.cell? ⟨g, m, none⟩ = some (.slice xa way.length xc) ∧ IntsAt W xa way from fun W hW => by rw [← hway]; exact HROWS.out W hW m hm1)
            rw [hway] at hin
            have HWAYM := Lib.hid hway; clear hway
            obtain ⟨hw6, hwx⟩ := hin
            have HWX := Lib.hid hwx; clear hwx
            go_wp2_with fail
            go_loopw [20, 21] (fun v20 v21 wx => ∃ k : Nat, k ≤ way.length ∧ v21 = .int .i64 (k : Int) ∧ v20 = .int .i64 (lenTo r way k) ∧ Below w5.heap.size w5 wx) (fun _ v _ => way.length - (intOf v).toNat)
            case atStart => exact ⟨0, Nat.zero_le _, rfl, rfl, HBR.out⟩
            case round =>
              clear HBR
              obtain ⟨k, hk, rfl, rfl, hbr⟩ := hrel
              obtain ⟨g1, xa, xc, hla, y0, hxi⟩ := HR.out _ hbr
              have HLA := Lib.hid hla; clear hla
              have HXI := Lib.hid hxi; clear hxi
              have HBR := Lib.hid hbr; clear hbr
              obtain ⟨n1, n2⟩ := lenTo_range G.out way k
              have HNX := Lib.hid (show k < way.length → lenTo r way (k + 1) = lenTo r way k + legOf r (way.getD k 0) from fun _ => rfl)
              by_cases hkw : k < way.length
              · rcases HXI.out with hz | ⟨xb, xo, rfl, hxc⟩
                · rw [hz] at hkw; simp at hkw
                have y1 := hxc k hkw
                have hxr := HWX.out _ (List.getElem_mem hkw)
                have hgd : way.getD k 0 = way[k] := by rw [List.getD_eq_getElem?_getD, List.getElem?_eq_getElem hkw]; rfl
                generalize hyy : way[k] = yy at y1 hxr hgd
                obtain ⟨sj, hsj⟩ := Int.eq_ofNat_of_zero_le hxr.1
                subst hsj
                have hsl : sj < r.strips.length := by omega
                have hrf := HRF5.out.below HBR.out
                have c2 := hrf.c2
                rcases hrf.strips with hz | ⟨sb, so, ha, hs⟩
                · rw [hz] at hsl; simp at hsl
                have y2 := (hs sj hsl).c2
                have hleg : legOf r sj = r.strips[sj].L := by simp [legOf, hsl]
                obtain ⟨l1, l2⟩ := legOf_range G.out sj
                rw [hleg] at l1 l2
                generalize r.strips[sj].L = lg at y2 hleg l1 l2
                rw [HN.out] at c2
                have hsN : sj < i := by rw [← HN.out]; exact hsl
                have q4 : (sj : Int) < (i : Int) := by omega
                have q5 : (k : Int) < (way.length : Int) := by omega
                have HSUM := Lib.hid (show lenTo r way (k + 1) = lenTo r way k + lg by rw [HNX.out hkw, hgd, hleg])
                generalize lenTo r way k = nn at n1 n2 HSUM
                rw [ha] at c2
                have hla := HLA.out
                subst hla
                have e1 : IntKind.i64.wrap (nn + lg) = nn + lg := IntWalk.i64_in _ (by omega)
                clear hs hyy hgd hleg hxc ha hrf hxr hsl
                go_upto_region 25 with (fail)
                go_quiet (fail)
                go_wp2_with fail
                have hbq := below_drewN (Below.refl wr.heap.size wr) nq
                exact ⟨⟨k + 1, by omega, by go_num, by rw [HSUM.out], HBR.out.trans (hbq.mono HBR.out.size)⟩, by simp [intOf]; omega⟩
              · obtain rfl : k = way.length := by omega
                have hlw : lenTo r way way.length = lenL r way := rfl
                rw [hlw] at n1 n2 ⊢
                have q5 : ¬ (way.length : Int) < (way.length : Int) := by omega
                have hla := HLA.out
                subst hla
                go_upto_region 26 with (fail)
                go_cut [147] (fun v147 wx => ∃ bb : Bool, v147 = .bool bb ∧ BestAt r L (m + 1) (if bb = true then (m : Int) else b) (if bb = true then lenL r way else least) ∧ Below wr.heap.size wr wx)
                case first =>
                  as_aux_lemma =>
                  rcases HBEST.out with ⟨h0, rfl, rfl⟩ | ⟨j, hj, hjm, rfl, hLj, hle⟩
                  · have HB1 := Lib.hid (show BestAt r L (m + 1) (m : Int) (lenL r way) from .inr ⟨m, hm1, by omega, rfl, by subst h0; rw [bestL_one r L hm1], by subst h0; rw [bestL_one r L hm1, HWAYM.out]⟩)
                    clear h0
                    go_quiet (fail)
                    go_wp2_with fail
                    go_meet
                    exact ⟨true, rfl, by simpa using HB1.out, below_drewN (Below.refl _ _) nq⟩
                  · have hnx := bestL_next r L (i := m) (by omega) hm1
                    rw [HWAYM.out] at hnx
                    obtain ⟨g2, ya, yc, hg2, y3, _⟩ := HROWS.out wr HBR.out j hj
                    obtain rfl : g1 = g2 := by simpa using hg2
                    rw [hLj] at y3
                    have hbl : (bestL r (L.take m)).length ≤ 6 := by rw [← hLj]; exact (HLIN.out _ (List.getElem_mem hj)).1
                    generalize hbo : bestL r (L.take m) = bo at hLj hnx y3 hbl hle
                    have q6 : ¬ (j : Int) < 0 := by omega
                    have q7 : (j : Int) < (L.length : Int) := by omega
                    have HLJ := Lib.hid hLj; clear hLj hg2
                    have HNXT := Lib.hid hnx; clear hnx hbo
                    have HLE := Lib.hid hle; clear hle
                    have HYES := Lib.hid (fun (h : shorterB r way bo = true) => show BestAt r L (m + 1) (m : Int) (lenL r way) from .inr ⟨m, hm1, by omega, rfl, by rw [HNXT.out, HWAYM.out]; unfold betterOf; rw [if_pos h], by rw [HNXT.out]; unfold betterOf; rw [if_pos h]⟩)
                    have HNO := Lib.hid (fun (h : shorterB r way bo = false) => show BestAt r L (m + 1) (j : Int) least from .inr ⟨j, hj, by omega, rfl, by rw [HNXT.out, HLJ.out]; unfold betterOf; rw [if_neg (by rw [h]; simp)], by rw [HLE.out, HNXT.out]; unfold betterOf; rw [if_neg (by rw [h]; simp)]⟩)
                    by_cases c1 : lenL r way < least
                    · have d1 : decide (lenL r way < least) = true := decide_eq_true c1
                      have HB1 := Lib.hid (HYES.out (by unfold shorterB; rw [← HLE.out, d1]; rfl))
                      go_quiet (fail)
                      go_wp2_with fail
                      go_meet
                      exact ⟨true, rfl, by simpa using HB1.out, below_drewN (Below.refl _ _) nq⟩
                    · have d1 : decide (lenL r way < least) = false := decide_eq_false c1
                      by_cases c2 : lenL r way = least
                      · have d2 : (lenL r way == least) = true := by simp [c2]
                        by_cases c3 : way.length < bo.length
                        · have d3 : decide (way.length < bo.length) = true := decide_eq_true c3
                          have HB1 := Lib.hid (HYES.out (by unfold shorterB; rw [← HLE.out, d1, d3, decide_eq_true c2]; rfl))
                          clear c2
                          go_quiet (fail)
                          go_wp2_with fail
                          go_meet
                          exact ⟨true, rfl, by simpa using HB1.out, below_drewN (Below.refl _ _) nq⟩
                        · have d3 : decide (way.length < bo.length) = false := decide_eq_false c3
                          have HB1 := Lib.hid (HNO.out (by unfold shorterB; rw [← HLE.out, d1, d3]; simp))
                          clear c2
                          go_quiet (fail)
                          go_wp2_with fail
                          go_meet
                          exact ⟨false, rfl, by simpa using HB1.out, below_drewN (Below.refl _ _) nq⟩
                      · have d2 : (lenL r way == least) = false := by simp [c2]
                        have HB1 := Lib.hid (HNO.out (by unfold shorterB; rw [← HLE.out, d1, decide_eq_false c2]; rfl))
                        clear c2
                        go_quiet (fail)
                        go_wp2_with fail
                        go_meet
                        exact ⟨false, rfl, by simpa using HB1.out, below_drewN (Below.refl _ _) nq⟩
                case rest =>
                  obtain ⟨bb, rfl, hbest, hbx⟩ := hcut
                  have HB1 := Lib.hid hbest; clear hbest
                  have HBR1 := Lib.hid (HBR.out.trans (hbx.mono HBR.out.size)); clear hbx HBR
                  clear y0 n1 n2 q5
                  cases bb
                  · go_wp2_with fail
                    exact ⟨⟨m + 1, b, least, by omega, by go_num, rfl, rfl, by simpa using HB1.out, HBR1.out⟩, by simp [intOf]; omega⟩
                  · go_wp2_with fail
                    exact ⟨⟨m + 1, (m : Int), lenL r way, by omega, by go_num, rfl, rfl, by simpa using HB1.out, HBR1.out⟩, by simp [intOf]; omega⟩
          · obtain rfl : m = L.length := by omega
            have q2 : ¬ (L.length : Int) < (L.length : Int) := by omega
            have HRFz := Lib.hid (HRF5.out.below HBR.out)
            rcases HBEST.out with ⟨h0, rfl, rfl⟩ | ⟨j, hj, _, rfl, hLj, rfl⟩
            · obtain ⟨_, rfl, rfl, rfl⟩ : L = [] ∧ wl = 0 ∧ wn = 0 ∧ we = 11 := by
                rcases HW5.out with h | h
                · exact h
                · exact absurd (List.length_eq_zero_iff.1 h0) h.1
              go_wp2_with fail
              refine (afoot_any wr).mono ?_
              rintro e w11 ⟨rfl, hb11⟩
              have hbF := HRFz.out.bel.trans (hb11.mono HRFz.out.bel.size)
              clear hb11
              go_wp2_with fail
              go_ret
              exact ⟨rfl, hbF⟩
            · rw [List.take_length] at hLj ⊢
              obtain ⟨_, rfl, rfl, rfl, hwi⟩ : L ≠ [] ∧ wl = (bestL r L).length ∧ wn = lenL r (bestL r L) ∧ we = 0 ∧ IntsAt w5 wa (bestL r L) := by
                rcases HW5.out with h | h
                · rw [h.1] at hj; simp at hj
                · exact h
              obtain ⟨g1, xa, xc, rfl, y0, hxi⟩ := HROWS.out wr HBR.out j hj
              rw [hLj] at y0 hxi
              have hbl : (bestL r L).length ≤ 6 := by rw [← hLj]; exact (HLIN.out _ (List.getElem_mem hj)).1
              have HLJ := Lib.hid hLj; clear hLj
              have HWI := Lib.hid (hwi.below HBR.out); clear hwi
              have HXI := Lib.hid hxi; clear hxi
              generalize bestL r L = bo at y0 hbl HWI HXI HLJ ⊢
              have q6 : ¬ (j : Int) < 0 := by omega
              have q7 : (j : Int) < (L.length : Int) := by omega
              go_wp2_with fail
              refine (SameInts_any wr wa xa wcc xc bo bo HWI.out HXI.out (by unfold maxLen; omega) (by unfold maxLen; omega)).mono ?_
              rintro e w10 ⟨rfl, nn, rfl⟩
              have hd : decide (bo = bo) = true := decide_eq_true rfl
              rw [hd]
              have HB10 := Lib.hid (below_drewN HRFz.out.bel nn)
              clear hd y0
              generalize wr.drewN nn = w10 at HB10 ⊢
              go_wp2_with fail
              refine (afoot_any w10).mono ?_
              rintro e w11 ⟨rfl, hb11⟩
              have hbF := HB10.out.trans (hb11.mono HB10.out.size)
              clear hb11
              go_wp2_with fail
              go_ret
              exact ⟨rfl, hbF⟩
end Go.Proofs.Ytjgkgnfhglhklaa
