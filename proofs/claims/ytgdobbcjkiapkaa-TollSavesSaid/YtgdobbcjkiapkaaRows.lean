/-
  No cell of these rows narrows 'for every input' (looked for: loops, veiled, ifaces, maps, wideKeys, modest, calm, conditions, laid).
  DERIVED. THE GIVEN ROWS OF THIS SEAT. 14 by the template 'for every input the law returns true; each argument reads behind the call as it read before'; 0 by the template 'total and deterministic' (their statements: YtgdobbcjkiapkaaTotals.lean).
  GIVEN WITH THE SEED: the statements are not yours to turn. If you find one false, say at which input.
  Laid BY PROGRAM, IN A SANDBOX (cutbox-rows.mjs): the forced cells as the released guide's own fill.sh prints them over the translation 15104e20bd14f95f… (all of the seat's roots in one cut). By AI agents, Wed Nov 11 2026. No macro, syntax, notation, axiom, sorry.
-/
import Derived.Test.YtgdobbcjkiapkaaChecked
import GoSem.Claim
import GoSem.ClaimJoined
import GoSem.ClaimMapViews
import Derived.JoinedTies
import Derived.KernelRfl
namespace Go.Proofs.Ytgdobbcjkiapkaa
/- THE CELL 'sum', in the pinned program and in every row, IS THE sha256 OF THE DUMP (.gsa) THAT YtgdobbcjkiapkaaProg.lean LOADS. Nothing in Lean hashes anything: it is a label: what it is worth is what the hold of that sum in a sandbox is worth. -/
noncomputable def Try.pinned : Pinned := { name := "ytgdobbcjkiapkaa", sum := "15104e20bd14f95f8e22ca1c53e30e1c7e96ce089d8a33f1f27559467219e46e", checked := Try.checked }
namespace Rows
def none {H : Type} : Left H := { results := [], args := [] }

/-- 'mestalaw07.TollHeads': WHATEVER THE INPUT: true; the input reads as it did. -/
def tollHeadsSpec : ChangeSpec := { name := "tollHeads", fn := fun _ => fun
  | [d1, d2, d3, d4, d5, d6] => { results := [.lit (.bool true)], args := [d1, d2, d3, d4, d5, d6] }
  | _ => none }
def tollHeadsRow : OpenClaim := { program := "ytgdobbcjkiapkaa", sum := "15104e20bd14f95f8e22ca1c53e30e1c7e96ce089d8a33f1f27559467219e46e", func := "mesta/mestalaw07.TollHeads", spec := "tollHeads", unfollowed := true, recurses := true, plainKeys := false, leaving := true, apart := false }
def TollHeadsSaid : Prop := tollHeadsRow.holds Try.pinned (OpenSpec.ofChange tollHeadsSpec)

/-- ITS FALSE NEIGHBOUR: 'it returns false'. Refute it at one input. -/
def tollHeadsWrong : ChangeSpec := { name := "tollHeads", fn := fun _ => fun
  | [d1, d2, d3, d4, d5, d6] => { results := [.lit (.bool false)], args := [d1, d2, d3, d4, d5, d6] }
  | _ => none }
def TollHeadsWrongFalsely : Prop := tollHeadsRow.holds Try.pinned (OpenSpec.ofChange tollHeadsWrong)

/-- 'mestalaw07.TollFarmers': WHATEVER THE INPUT: true; the input reads as it did. -/
def tollFarmersSpec : ChangeSpec := { name := "tollFarmers", fn := fun _ => fun
  | [d] => { results := [.lit (.bool true)], args := [d] }
  | _ => none }
def tollFarmersRow : OpenClaim := { program := "ytgdobbcjkiapkaa", sum := "15104e20bd14f95f8e22ca1c53e30e1c7e96ce089d8a33f1f27559467219e46e", func := "mesta/mestalaw07.TollFarmers", spec := "tollFarmers", unfollowed := true, recurses := true, plainKeys := false, leaving := true, apart := false }
def TollFarmersSaid : Prop := tollFarmersRow.holds Try.pinned (OpenSpec.ofChange tollFarmersSpec)

/-- ITS FALSE NEIGHBOUR: 'it returns false'. Refute it at one input. -/
def tollFarmersWrong : ChangeSpec := { name := "tollFarmers", fn := fun _ => fun
  | [d] => { results := [.lit (.bool false)], args := [d] }
  | _ => none }
def TollFarmersWrongFalsely : Prop := tollFarmersRow.holds Try.pinned (OpenSpec.ofChange tollFarmersWrong)

/-- 'mestalaw07.TollFew': WHATEVER THE INPUT: true; the input reads as it did. -/
def tollFewSpec : ChangeSpec := { name := "tollFew", fn := fun _ => fun
  | [d] => { results := [.lit (.bool true)], args := [d] }
  | _ => none }
def tollFewRow : OpenClaim := { program := "ytgdobbcjkiapkaa", sum := "15104e20bd14f95f8e22ca1c53e30e1c7e96ce089d8a33f1f27559467219e46e", func := "mesta/mestalaw07.TollFew", spec := "tollFew", unfollowed := true, recurses := true, plainKeys := false, leaving := true, apart := false }
def TollFewSaid : Prop := tollFewRow.holds Try.pinned (OpenSpec.ofChange tollFewSpec)

/-- ITS FALSE NEIGHBOUR: 'it returns false'. Refute it at one input. -/
def tollFewWrong : ChangeSpec := { name := "tollFew", fn := fun _ => fun
  | [d] => { results := [.lit (.bool false)], args := [d] }
  | _ => none }
def TollFewWrongFalsely : Prop := tollFewRow.holds Try.pinned (OpenSpec.ofChange tollFewWrong)

/-- 'mestalaw07.TollAlong': WHATEVER THE INPUT: true; the input reads as it did. -/
def tollAlongSpec : ChangeSpec := { name := "tollAlong", fn := fun _ => fun
  | [d] => { results := [.lit (.bool true)], args := [d] }
  | _ => none }
def tollAlongRow : OpenClaim := { program := "ytgdobbcjkiapkaa", sum := "15104e20bd14f95f8e22ca1c53e30e1c7e96ce089d8a33f1f27559467219e46e", func := "mesta/mestalaw07.TollAlong", spec := "tollAlong", unfollowed := true, recurses := true, plainKeys := false, leaving := true, apart := false }
def TollAlongSaid : Prop := tollAlongRow.holds Try.pinned (OpenSpec.ofChange tollAlongSpec)

/-- ITS FALSE NEIGHBOUR: 'it returns false'. Refute it at one input. -/
def tollAlongWrong : ChangeSpec := { name := "tollAlong", fn := fun _ => fun
  | [d] => { results := [.lit (.bool false)], args := [d] }
  | _ => none }
def TollAlongWrongFalsely : Prop := tollAlongRow.holds Try.pinned (OpenSpec.ofChange tollAlongWrong)

/-- 'mestalaw07.TollDues': WHATEVER THE INPUT: true; the input reads as it did. -/
def tollDuesSpec : ChangeSpec := { name := "tollDues", fn := fun _ => fun
  | [d1, d2, d3, d4, d5] => { results := [.lit (.bool true)], args := [d1, d2, d3, d4, d5] }
  | _ => none }
def tollDuesRow : OpenClaim := { program := "ytgdobbcjkiapkaa", sum := "15104e20bd14f95f8e22ca1c53e30e1c7e96ce089d8a33f1f27559467219e46e", func := "mesta/mestalaw07.TollDues", spec := "tollDues", unfollowed := true, recurses := true, plainKeys := false, leaving := true, apart := false }
def TollDuesSaid : Prop := tollDuesRow.holds Try.pinned (OpenSpec.ofChange tollDuesSpec)

/-- ITS FALSE NEIGHBOUR: 'it returns false'. Refute it at one input. -/
def tollDuesWrong : ChangeSpec := { name := "tollDues", fn := fun _ => fun
  | [d1, d2, d3, d4, d5] => { results := [.lit (.bool false)], args := [d1, d2, d3, d4, d5] }
  | _ => none }
def TollDuesWrongFalsely : Prop := tollDuesRow.holds Try.pinned (OpenSpec.ofChange tollDuesWrong)

/-- 'mestalaw07.TollDivided': WHATEVER THE INPUT: true; the input reads as it did. -/
def tollDividedSpec : ChangeSpec := { name := "tollDivided", fn := fun _ => fun
  | [d] => { results := [.lit (.bool true)], args := [d] }
  | _ => none }
def tollDividedRow : OpenClaim := { program := "ytgdobbcjkiapkaa", sum := "15104e20bd14f95f8e22ca1c53e30e1c7e96ce089d8a33f1f27559467219e46e", func := "mesta/mestalaw07.TollDivided", spec := "tollDivided", unfollowed := true, recurses := true, plainKeys := false, leaving := true, apart := false }
def TollDividedSaid : Prop := tollDividedRow.holds Try.pinned (OpenSpec.ofChange tollDividedSpec)

/-- ITS FALSE NEIGHBOUR: 'it returns false'. Refute it at one input. -/
def tollDividedWrong : ChangeSpec := { name := "tollDivided", fn := fun _ => fun
  | [d] => { results := [.lit (.bool false)], args := [d] }
  | _ => none }
def TollDividedWrongFalsely : Prop := tollDividedRow.holds Try.pinned (OpenSpec.ofChange tollDividedWrong)

/-- 'mestalaw07.TollFree': WHATEVER THE INPUT: true; the input reads as it did. -/
def tollFreeSpec : ChangeSpec := { name := "tollFree", fn := fun _ => fun
  | [d] => { results := [.lit (.bool true)], args := [d] }
  | _ => none }
def tollFreeRow : OpenClaim := { program := "ytgdobbcjkiapkaa", sum := "15104e20bd14f95f8e22ca1c53e30e1c7e96ce089d8a33f1f27559467219e46e", func := "mesta/mestalaw07.TollFree", spec := "tollFree", unfollowed := true, recurses := true, plainKeys := false, leaving := true, apart := false }
def TollFreeSaid : Prop := tollFreeRow.holds Try.pinned (OpenSpec.ofChange tollFreeSpec)

/-- ITS FALSE NEIGHBOUR: 'it returns false'. Refute it at one input. -/
def tollFreeWrong : ChangeSpec := { name := "tollFree", fn := fun _ => fun
  | [d] => { results := [.lit (.bool false)], args := [d] }
  | _ => none }
def TollFreeWrongFalsely : Prop := tollFreeRow.holds Try.pinned (OpenSpec.ofChange tollFreeWrong)

/-- 'mestalaw07.TollMore': WHATEVER THE INPUT: true; the input reads as it did. -/
def tollMoreSpec : ChangeSpec := { name := "tollMore", fn := fun _ => fun
  | [d] => { results := [.lit (.bool true)], args := [d] }
  | _ => none }
def tollMoreRow : OpenClaim := { program := "ytgdobbcjkiapkaa", sum := "15104e20bd14f95f8e22ca1c53e30e1c7e96ce089d8a33f1f27559467219e46e", func := "mesta/mestalaw07.TollMore", spec := "tollMore", unfollowed := true, recurses := true, plainKeys := false, leaving := true, apart := false }
def TollMoreSaid : Prop := tollMoreRow.holds Try.pinned (OpenSpec.ofChange tollMoreSpec)

/-- ITS FALSE NEIGHBOUR: 'it returns false'. Refute it at one input. -/
def tollMoreWrong : ChangeSpec := { name := "tollMore", fn := fun _ => fun
  | [d] => { results := [.lit (.bool false)], args := [d] }
  | _ => none }
def TollMoreWrongFalsely : Prop := tollMoreRow.holds Try.pinned (OpenSpec.ofChange tollMoreWrong)

/-- 'mestalaw07.TollCheapest': WHATEVER THE INPUT: true; the input reads as it did. -/
def tollCheapestSpec : ChangeSpec := { name := "tollCheapest", fn := fun _ => fun
  | [d] => { results := [.lit (.bool true)], args := [d] }
  | _ => none }
def tollCheapestRow : OpenClaim := { program := "ytgdobbcjkiapkaa", sum := "15104e20bd14f95f8e22ca1c53e30e1c7e96ce089d8a33f1f27559467219e46e", func := "mesta/mestalaw07.TollCheapest", spec := "tollCheapest", unfollowed := true, recurses := true, plainKeys := false, leaving := true, apart := false }
def TollCheapestSaid : Prop := tollCheapestRow.holds Try.pinned (OpenSpec.ofChange tollCheapestSpec)

/-- ITS FALSE NEIGHBOUR: 'it returns false'. Refute it at one input. -/
def tollCheapestWrong : ChangeSpec := { name := "tollCheapest", fn := fun _ => fun
  | [d] => { results := [.lit (.bool false)], args := [d] }
  | _ => none }
def TollCheapestWrongFalsely : Prop := tollCheapestRow.holds Try.pinned (OpenSpec.ofChange tollCheapestWrong)

/-- 'mestalaw07.TollSaves': WHATEVER THE INPUT: true; the input reads as it did. -/
def tollSavesSpec : ChangeSpec := { name := "tollSaves", fn := fun _ => fun
  | [d1, d2, d3] => { results := [.lit (.bool true)], args := [d1, d2, d3] }
  | _ => none }
def tollSavesRow : OpenClaim := { program := "ytgdobbcjkiapkaa", sum := "15104e20bd14f95f8e22ca1c53e30e1c7e96ce089d8a33f1f27559467219e46e", func := "mesta/mestalaw07.TollSaves", spec := "tollSaves", unfollowed := true, recurses := true, plainKeys := false, leaving := true, apart := false }
def TollSavesSaid : Prop := tollSavesRow.holds Try.pinned (OpenSpec.ofChange tollSavesSpec)

/-- ITS FALSE NEIGHBOUR: 'it returns false'. Refute it at one input. -/
def tollSavesWrong : ChangeSpec := { name := "tollSaves", fn := fun _ => fun
  | [d1, d2, d3] => { results := [.lit (.bool false)], args := [d1, d2, d3] }
  | _ => none }
def TollSavesWrongFalsely : Prop := tollSavesRow.holds Try.pinned (OpenSpec.ofChange tollSavesWrong)

/-- 'mestalaw07.TollOnce': WHATEVER THE INPUT: true; the input reads as it did. -/
def tollOnceSpec : ChangeSpec := { name := "tollOnce", fn := fun _ => fun
  | [d] => { results := [.lit (.bool true)], args := [d] }
  | _ => none }
def tollOnceRow : OpenClaim := { program := "ytgdobbcjkiapkaa", sum := "15104e20bd14f95f8e22ca1c53e30e1c7e96ce089d8a33f1f27559467219e46e", func := "mesta/mestalaw07.TollOnce", spec := "tollOnce", unfollowed := true, recurses := true, plainKeys := false, leaving := true, apart := false }
def TollOnceSaid : Prop := tollOnceRow.holds Try.pinned (OpenSpec.ofChange tollOnceSpec)

/-- ITS FALSE NEIGHBOUR: 'it returns false'. Refute it at one input. -/
def tollOnceWrong : ChangeSpec := { name := "tollOnce", fn := fun _ => fun
  | [d] => { results := [.lit (.bool false)], args := [d] }
  | _ => none }
def TollOnceWrongFalsely : Prop := tollOnceRow.holds Try.pinned (OpenSpec.ofChange tollOnceWrong)

/-- 'mestalaw07.TollOwes': WHATEVER THE INPUT: true; the input reads as it did. -/
def tollOwesSpec : ChangeSpec := { name := "tollOwes", fn := fun _ => fun
  | [d1, d2, d3, d4] => { results := [.lit (.bool true)], args := [d1, d2, d3, d4] }
  | _ => none }
def tollOwesRow : OpenClaim := { program := "ytgdobbcjkiapkaa", sum := "15104e20bd14f95f8e22ca1c53e30e1c7e96ce089d8a33f1f27559467219e46e", func := "mesta/mestalaw07.TollOwes", spec := "tollOwes", unfollowed := true, recurses := true, plainKeys := false, leaving := true, apart := false }
def TollOwesSaid : Prop := tollOwesRow.holds Try.pinned (OpenSpec.ofChange tollOwesSpec)

/-- ITS FALSE NEIGHBOUR: 'it returns false'. Refute it at one input. -/
def tollOwesWrong : ChangeSpec := { name := "tollOwes", fn := fun _ => fun
  | [d1, d2, d3, d4] => { results := [.lit (.bool false)], args := [d1, d2, d3, d4] }
  | _ => none }
def TollOwesWrongFalsely : Prop := tollOwesRow.holds Try.pinned (OpenSpec.ofChange tollOwesWrong)

/-- 'mestalaw07.TollSteps': WHATEVER THE INPUT: true; the input reads as it did. -/
def tollStepsSpec : ChangeSpec := { name := "tollSteps", fn := fun _ => fun
  | [d] => { results := [.lit (.bool true)], args := [d] }
  | _ => none }
def tollStepsRow : OpenClaim := { program := "ytgdobbcjkiapkaa", sum := "15104e20bd14f95f8e22ca1c53e30e1c7e96ce089d8a33f1f27559467219e46e", func := "mesta/mestalaw07.TollSteps", spec := "tollSteps", unfollowed := true, recurses := true, plainKeys := false, leaving := true, apart := false }
def TollStepsSaid : Prop := tollStepsRow.holds Try.pinned (OpenSpec.ofChange tollStepsSpec)

/-- ITS FALSE NEIGHBOUR: 'it returns false'. Refute it at one input. -/
def tollStepsWrong : ChangeSpec := { name := "tollSteps", fn := fun _ => fun
  | [d] => { results := [.lit (.bool false)], args := [d] }
  | _ => none }
def TollStepsWrongFalsely : Prop := tollStepsRow.holds Try.pinned (OpenSpec.ofChange tollStepsWrong)

/-- 'mestalaw07.TollNone': WHATEVER THE INPUT: true; the input reads as it did. -/
def tollNoneSpec : ChangeSpec := { name := "tollNone", fn := fun _ => fun
  | [d] => { results := [.lit (.bool true)], args := [d] }
  | _ => none }
def tollNoneRow : OpenClaim := { program := "ytgdobbcjkiapkaa", sum := "15104e20bd14f95f8e22ca1c53e30e1c7e96ce089d8a33f1f27559467219e46e", func := "mesta/mestalaw07.TollNone", spec := "tollNone", unfollowed := true, recurses := true, plainKeys := false, leaving := true, apart := false }
def TollNoneSaid : Prop := tollNoneRow.holds Try.pinned (OpenSpec.ofChange tollNoneSpec)

/-- ITS FALSE NEIGHBOUR: 'it returns false'. Refute it at one input. -/
def tollNoneWrong : ChangeSpec := { name := "tollNone", fn := fun _ => fun
  | [d] => { results := [.lit (.bool false)], args := [d] }
  | _ => none }
def TollNoneWrongFalsely : Prop := tollNoneRow.holds Try.pinned (OpenSpec.ofChange tollNoneWrong)

/- THE SECOND FORM. 'bulk': how many values and letters a reading holds, each counted each time it is reached (what is shared counts as often as it is met; a slice's spare places count too). A statement '..UptoSaid' is the law's where the arguments, and the package variables that the reading takes, are together of bulk at most 1048576: NARROWER than '..Said'. Prove '..Said' where nothing that the law and all that it calls make is longer than what came in: it says more and counts as full. Else prove '..UptoSaid'. A law counts once. -/
mutual
def uptoBulk {H : Type} : DataW H → Nat
  | .lit (.string bytes) => bytes.length + 1
  | .lit _ => 1
  | .nil => 1
  | .ptr d => uptoBulk d + 1
  | .slice elems spare => uptoBulkAll elems + uptoBulkAll spare + 1
  | .agg parts => uptoBulkAll parts + 1
  | .iface _ d => uptoBulk d + 1
  | .map entries => uptoBulkEntries entries + 1
  | .held _ => 1
def uptoBulkAll {H : Type} : List (DataW H) → Nat
  | [] => 0
  | d :: r => uptoBulk d + uptoBulkAll r
def uptoBulkEntries {H : Type} : List (Lit × DataW H) → Nat
  | [] => 0
  | x :: r => uptoBulkEntry x + uptoBulkEntries r
def uptoBulkEntry {H : Type} : Lit × DataW H → Nat
  | (.string bytes, d) => bytes.length + uptoBulk d + 1
  | (_, d) => uptoBulk d + 1
 end
def uptoSmall : (H : Type) → List (DataW H) → Bool := fun _ ds => decide (uptoBulkAll ds ≤ 1048576)
def OpenSpec.upto (s : _root_.Go.ChangeSpec) : _root_.Go.OpenSpec := { _root_.Go.OpenSpec.ofChange s with cond := some uptoSmall }

/-- 'mestalaw07.TollHeads', WHERE WHAT IT READS IS OF BULK AT MOST 1048576: true; the input reads as it did. -/
def tollHeadsUptoRow : OpenClaim := { program := "ytgdobbcjkiapkaa", sum := "15104e20bd14f95f8e22ca1c53e30e1c7e96ce089d8a33f1f27559467219e46e", func := "mesta/mestalaw07.TollHeads", spec := "tollHeads", unfollowed := true, recurses := true, plainKeys := false, leaving := true, apart := false, narrowed := true }
def TollHeadsUptoSaid : Prop := tollHeadsUptoRow.holds Try.pinned (OpenSpec.upto tollHeadsSpec)

/-- 'mestalaw07.TollFarmers', WHERE WHAT IT READS IS OF BULK AT MOST 1048576: true; the input reads as it did. -/
def tollFarmersUptoRow : OpenClaim := { program := "ytgdobbcjkiapkaa", sum := "15104e20bd14f95f8e22ca1c53e30e1c7e96ce089d8a33f1f27559467219e46e", func := "mesta/mestalaw07.TollFarmers", spec := "tollFarmers", unfollowed := true, recurses := true, plainKeys := false, leaving := true, apart := false, narrowed := true }
def TollFarmersUptoSaid : Prop := tollFarmersUptoRow.holds Try.pinned (OpenSpec.upto tollFarmersSpec)

/-- 'mestalaw07.TollFew', WHERE WHAT IT READS IS OF BULK AT MOST 1048576: true; the input reads as it did. -/
def tollFewUptoRow : OpenClaim := { program := "ytgdobbcjkiapkaa", sum := "15104e20bd14f95f8e22ca1c53e30e1c7e96ce089d8a33f1f27559467219e46e", func := "mesta/mestalaw07.TollFew", spec := "tollFew", unfollowed := true, recurses := true, plainKeys := false, leaving := true, apart := false, narrowed := true }
def TollFewUptoSaid : Prop := tollFewUptoRow.holds Try.pinned (OpenSpec.upto tollFewSpec)

/-- 'mestalaw07.TollAlong', WHERE WHAT IT READS IS OF BULK AT MOST 1048576: true; the input reads as it did. -/
def tollAlongUptoRow : OpenClaim := { program := "ytgdobbcjkiapkaa", sum := "15104e20bd14f95f8e22ca1c53e30e1c7e96ce089d8a33f1f27559467219e46e", func := "mesta/mestalaw07.TollAlong", spec := "tollAlong", unfollowed := true, recurses := true, plainKeys := false, leaving := true, apart := false, narrowed := true }
def TollAlongUptoSaid : Prop := tollAlongUptoRow.holds Try.pinned (OpenSpec.upto tollAlongSpec)

/-- 'mestalaw07.TollDues', WHERE WHAT IT READS IS OF BULK AT MOST 1048576: true; the input reads as it did. -/
def tollDuesUptoRow : OpenClaim := { program := "ytgdobbcjkiapkaa", sum := "15104e20bd14f95f8e22ca1c53e30e1c7e96ce089d8a33f1f27559467219e46e", func := "mesta/mestalaw07.TollDues", spec := "tollDues", unfollowed := true, recurses := true, plainKeys := false, leaving := true, apart := false, narrowed := true }
def TollDuesUptoSaid : Prop := tollDuesUptoRow.holds Try.pinned (OpenSpec.upto tollDuesSpec)

/-- 'mestalaw07.TollDivided', WHERE WHAT IT READS IS OF BULK AT MOST 1048576: true; the input reads as it did. -/
def tollDividedUptoRow : OpenClaim := { program := "ytgdobbcjkiapkaa", sum := "15104e20bd14f95f8e22ca1c53e30e1c7e96ce089d8a33f1f27559467219e46e", func := "mesta/mestalaw07.TollDivided", spec := "tollDivided", unfollowed := true, recurses := true, plainKeys := false, leaving := true, apart := false, narrowed := true }
def TollDividedUptoSaid : Prop := tollDividedUptoRow.holds Try.pinned (OpenSpec.upto tollDividedSpec)

/-- 'mestalaw07.TollFree', WHERE WHAT IT READS IS OF BULK AT MOST 1048576: true; the input reads as it did. -/
def tollFreeUptoRow : OpenClaim := { program := "ytgdobbcjkiapkaa", sum := "15104e20bd14f95f8e22ca1c53e30e1c7e96ce089d8a33f1f27559467219e46e", func := "mesta/mestalaw07.TollFree", spec := "tollFree", unfollowed := true, recurses := true, plainKeys := false, leaving := true, apart := false, narrowed := true }
def TollFreeUptoSaid : Prop := tollFreeUptoRow.holds Try.pinned (OpenSpec.upto tollFreeSpec)

/-- 'mestalaw07.TollMore', WHERE WHAT IT READS IS OF BULK AT MOST 1048576: true; the input reads as it did. -/
def tollMoreUptoRow : OpenClaim := { program := "ytgdobbcjkiapkaa", sum := "15104e20bd14f95f8e22ca1c53e30e1c7e96ce089d8a33f1f27559467219e46e", func := "mesta/mestalaw07.TollMore", spec := "tollMore", unfollowed := true, recurses := true, plainKeys := false, leaving := true, apart := false, narrowed := true }
def TollMoreUptoSaid : Prop := tollMoreUptoRow.holds Try.pinned (OpenSpec.upto tollMoreSpec)

/-- 'mestalaw07.TollCheapest', WHERE WHAT IT READS IS OF BULK AT MOST 1048576: true; the input reads as it did. -/
def tollCheapestUptoRow : OpenClaim := { program := "ytgdobbcjkiapkaa", sum := "15104e20bd14f95f8e22ca1c53e30e1c7e96ce089d8a33f1f27559467219e46e", func := "mesta/mestalaw07.TollCheapest", spec := "tollCheapest", unfollowed := true, recurses := true, plainKeys := false, leaving := true, apart := false, narrowed := true }
def TollCheapestUptoSaid : Prop := tollCheapestUptoRow.holds Try.pinned (OpenSpec.upto tollCheapestSpec)

/-- 'mestalaw07.TollSaves', WHERE WHAT IT READS IS OF BULK AT MOST 1048576: true; the input reads as it did. -/
def tollSavesUptoRow : OpenClaim := { program := "ytgdobbcjkiapkaa", sum := "15104e20bd14f95f8e22ca1c53e30e1c7e96ce089d8a33f1f27559467219e46e", func := "mesta/mestalaw07.TollSaves", spec := "tollSaves", unfollowed := true, recurses := true, plainKeys := false, leaving := true, apart := false, narrowed := true }
def TollSavesUptoSaid : Prop := tollSavesUptoRow.holds Try.pinned (OpenSpec.upto tollSavesSpec)

/-- 'mestalaw07.TollOnce', WHERE WHAT IT READS IS OF BULK AT MOST 1048576: true; the input reads as it did. -/
def tollOnceUptoRow : OpenClaim := { program := "ytgdobbcjkiapkaa", sum := "15104e20bd14f95f8e22ca1c53e30e1c7e96ce089d8a33f1f27559467219e46e", func := "mesta/mestalaw07.TollOnce", spec := "tollOnce", unfollowed := true, recurses := true, plainKeys := false, leaving := true, apart := false, narrowed := true }
def TollOnceUptoSaid : Prop := tollOnceUptoRow.holds Try.pinned (OpenSpec.upto tollOnceSpec)

/-- 'mestalaw07.TollOwes', WHERE WHAT IT READS IS OF BULK AT MOST 1048576: true; the input reads as it did. -/
def tollOwesUptoRow : OpenClaim := { program := "ytgdobbcjkiapkaa", sum := "15104e20bd14f95f8e22ca1c53e30e1c7e96ce089d8a33f1f27559467219e46e", func := "mesta/mestalaw07.TollOwes", spec := "tollOwes", unfollowed := true, recurses := true, plainKeys := false, leaving := true, apart := false, narrowed := true }
def TollOwesUptoSaid : Prop := tollOwesUptoRow.holds Try.pinned (OpenSpec.upto tollOwesSpec)

/-- 'mestalaw07.TollSteps', WHERE WHAT IT READS IS OF BULK AT MOST 1048576: true; the input reads as it did. -/
def tollStepsUptoRow : OpenClaim := { program := "ytgdobbcjkiapkaa", sum := "15104e20bd14f95f8e22ca1c53e30e1c7e96ce089d8a33f1f27559467219e46e", func := "mesta/mestalaw07.TollSteps", spec := "tollSteps", unfollowed := true, recurses := true, plainKeys := false, leaving := true, apart := false, narrowed := true }
def TollStepsUptoSaid : Prop := tollStepsUptoRow.holds Try.pinned (OpenSpec.upto tollStepsSpec)

/-- 'mestalaw07.TollNone', WHERE WHAT IT READS IS OF BULK AT MOST 1048576: true; the input reads as it did. -/
def tollNoneUptoRow : OpenClaim := { program := "ytgdobbcjkiapkaa", sum := "15104e20bd14f95f8e22ca1c53e30e1c7e96ce089d8a33f1f27559467219e46e", func := "mesta/mestalaw07.TollNone", spec := "tollNone", unfollowed := true, recurses := true, plainKeys := false, leaving := true, apart := false, narrowed := true }
def TollNoneUptoSaid : Prop := tollNoneUptoRow.holds Try.pinned (OpenSpec.upto tollNoneSpec)

end Rows
end Go.Proofs.Ytgdobbcjkiapkaa
