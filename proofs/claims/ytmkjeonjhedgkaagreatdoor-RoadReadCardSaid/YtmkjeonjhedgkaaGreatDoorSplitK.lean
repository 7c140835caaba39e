/- strings.Cut, strings.Split, strings.CutPrefix at one byte: the library's contracts in the words of XSplitP. -/
import Derived.Test.YtmkjeonjhedgkaaGreatDoorSplitP
import Derived.Test.YtmkjeonjhedgkaaGreatDoorBlk
import Derived.Test.YtmkjeonjhedgkaaGreatDoorShelf
namespace Go.Proofs.YtmkjeonjhedgkaaGreatDoor
set_option linter.unusedSimpArgs false
set_option linter.unusedVariables false
open Go.RowKit

/-- The library's variable that strings.Index asks for holds some number. -/
def MaxOk (w : World) : Prop := ∃ m, w.cell? ⟨1, 0, none⟩ = some (.int .i64 m)
theorem MaxOk.below {w w' : World} (h : MaxOk w) (hb : Below w.heap.size w w') : MaxOk w' := by
  obtain ⟨m, hm⟩ := h
  exact ⟨m, ((bcell hb).1 _ _ (lt_of_cell hm)).trans hm⟩
def cutR (c : UInt8) (s : List UInt8) : Value := match cutC c s with
  | some (a, b) => .tuple #[.string ⟨a.toArray⟩, .string ⟨b.toArray⟩, .bool true]
  | none => .tuple #[.string ⟨s.toArray⟩, .string ⟨#[]⟩, .bool false]
theorem cut_any (w : World) (c : UInt8) (s : List UInt8) (hm : MaxOk w) (hs : s.length < 4294967281) : Calls Tryz.prog 97 #[.string ⟨s.toArray⟩, .string ⟨#[c]⟩] w fun e w' => Below w.heap.size w w' ∧ e = .returned (cutR c s) := by
  obtain ⟨m, hm⟩ := hm
  refine (Tryz.strings_Cut ⟨s.toArray⟩ ⟨#[c]⟩ m w hs hm).mono ?_
  rintro e w' ⟨rfl, n, rfl⟩
  refine ⟨below_drewN (Below.refl _ _) n, ?_⟩
  have h := lib_cut c s
  have e1 : (⟨s.toArray⟩ : ByteArray).data.toList = s := rfl
  have e2 : (⟨#[c]⟩ : ByteArray).data.toList = [c] := rfl
  rw [e1, e2, h]
  unfold cutR
  cases cutC c s with
  | none => rfl
  | some p => rfl
theorem split_any (w : World) (c : UInt8) (s : List UInt8) (hm : MaxOk w) (hs : s.length < 4294967281) : Calls Tryz.prog 36 #[.string ⟨s.toArray⟩, .string ⟨#[c]⟩] w fun e w' => ∃ g, w.heap.size ≤ g ∧ e = .returned (.slice (some ⟨g, 0, none⟩) (splitC c s).length (splitC c s).length) ∧ Rw w' g ((splitC c s).map fun x => Value.string ⟨x.toArray⟩).toArray 9 ∧ Below w.heap.size w w' := by
  obtain ⟨m, hm⟩ := hm
  refine (Tryz.strings_Split ⟨s.toArray⟩ ⟨#[c]⟩ m w hs hm (by show 1 ≤ 1; omega)).mono ?_
  rintro e w' ⟨rfl, rfl⟩
  have h1 : Lib.countB ⟨s.toArray⟩ ⟨#[c]⟩ = s.count c := Lib.count_one c s
  have h2 := lib_splitB c ⟨s.toArray⟩
  refine ⟨_, Nat.le_refl _, ?_, ?_, alloc_below _ _⟩
  · rw [h1, ← splitC_length]
  · have := Rw.new w ((Lib.splitB ⟨#[c]⟩ 0 (Lib.countB ⟨s.toArray⟩ ⟨#[c]⟩) ⟨s.toArray⟩).map Value.string).toArray 9
    rw [h2] at this ⊢
    exact this
def prefR : List UInt8 → Value
  | [] => .tuple #[.string ⟨#[]⟩, .bool false]
  | x :: r => if x = 45 then .tuple #[.string ⟨r.toArray⟩, .bool true] else .tuple #[.string ⟨(x :: r).toArray⟩, .bool false]
theorem cutPrefix_any (w : World) (s : List UInt8) : Calls Tryz.prog 96 #[.string ⟨s.toArray⟩, .string ⟨#[45]⟩] w fun e w' => w' = w ∧ e = .returned (prefR s) := by
  refine (Tryz.strings_CutPrefix ⟨s.toArray⟩ ⟨#[45]⟩ w).mono ?_
  rintro e w' ⟨rfl, rfl⟩
  refine ⟨rfl, ?_⟩
  have e1 : (⟨s.toArray⟩ : ByteArray).data.toList = s := rfl
  have e2 : (⟨#[45]⟩ : ByteArray).data.toList = [45] := rfl
  rw [e1, e2]
  unfold Lib.trimPrefix Lib.hasPrefix
  match s with
  | [] => rfl
  | x :: t =>
    by_cases h : x = 45
    · subst h; simp [prefR]
    · have e3 : ([45].isPrefixOf (x :: t)) = false := by simp [List.isPrefixOf, Ne.symm h]
      rw [e3, prefR, if_neg h]; rfl
end Go.Proofs.YtmkjeonjhedgkaaGreatDoor
