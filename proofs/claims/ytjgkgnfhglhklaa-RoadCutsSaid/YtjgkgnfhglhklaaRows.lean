/-
  No cell of these rows narrows 'for every input' (looked for: loops, veiled, ifaces, maps, wideKeys, modest, calm, conditions, laid).
  DERIVED. THE GIVEN ROWS OF THIS SEAT. 18 by the template 'for every input the law returns true; each argument reads behind the call as it read before'; 0 by the template 'total and deterministic' (their statements: YtjgkgnfhglhklaaTotals.lean).
  GIVEN WITH THE SEED: the statements are not yours to turn. If you find one false, say at which input.
  Laid BY PROGRAM, IN A SANDBOX (cutbox-rows.mjs): the forced cells as the released guide's own fill.sh prints them over the translation f8f5e51ee4cbf375… (all of the seat's roots in one cut). By AI agents, Wed Nov 11 2026. No macro, syntax, notation, axiom, sorry.
-/
import Derived.Test.YtjgkgnfhglhklaaChecked
import GoSem.Claim
import GoSem.ClaimJoined
import GoSem.ClaimMapViews
import Derived.JoinedTies
import Derived.KernelRfl
namespace Go.Proofs.Ytjgkgnfhglhklaa
/- THE CELL 'sum', in the pinned program and in every row, IS THE sha256 OF THE DUMP (.gsa) THAT YtjgkgnfhglhklaaProg.lean LOADS. Nothing in Lean hashes anything: it is a label: what it is worth is what the hold of that sum in a sandbox is worth. -/
noncomputable def Try.pinned : Pinned := { name := "ytjgkgnfhglhklaa", sum := "f8f5e51ee4cbf375deab8e64035d74ad0f9c38f033c7e033204e6beaea548c5f", checked := Try.checked }
namespace Rows
def none {H : Type} : Left H := { results := [], args := [] }

/-- 'mestalaw02.RoadComes': WHATEVER THE INPUT: true; the input reads as it did. -/
def roadComesSpec : ChangeSpec := { name := "roadComes", fn := fun _ => fun
  | [d1, d2, d3, d4, d5, d6] => { results := [.lit (.bool true)], args := [d1, d2, d3, d4, d5, d6] }
  | _ => none }
def roadComesRow : OpenClaim := { program := "ytjgkgnfhglhklaa", sum := "f8f5e51ee4cbf375deab8e64035d74ad0f9c38f033c7e033204e6beaea548c5f", func := "mesta/mestalaw02.RoadComes", spec := "roadComes", unfollowed := true, recurses := true, plainKeys := false, apart := false }
def RoadComesSaid : Prop := roadComesRow.holds Try.pinned (OpenSpec.ofChange roadComesSpec)

/-- ITS FALSE NEIGHBOUR: 'it returns false'. Refute it at one input. -/
def roadComesWrong : ChangeSpec := { name := "roadComes", fn := fun _ => fun
  | [d1, d2, d3, d4, d5, d6] => { results := [.lit (.bool false)], args := [d1, d2, d3, d4, d5, d6] }
  | _ => none }
def RoadComesWrongFalsely : Prop := roadComesRow.holds Try.pinned (OpenSpec.ofChange roadComesWrong)

/-- 'mestalaw02.RoadEarly': WHATEVER THE INPUT: true; the input reads as it did. -/
def roadEarlySpec : ChangeSpec := { name := "roadEarly", fn := fun _ => fun
  | [d] => { results := [.lit (.bool true)], args := [d] }
  | _ => none }
def roadEarlyRow : OpenClaim := { program := "ytjgkgnfhglhklaa", sum := "f8f5e51ee4cbf375deab8e64035d74ad0f9c38f033c7e033204e6beaea548c5f", func := "mesta/mestalaw02.RoadEarly", spec := "roadEarly", unfollowed := true, recurses := true, plainKeys := false, apart := false }
def RoadEarlySaid : Prop := roadEarlyRow.holds Try.pinned (OpenSpec.ofChange roadEarlySpec)

/-- ITS FALSE NEIGHBOUR: 'it returns false'. Refute it at one input. -/
def roadEarlyWrong : ChangeSpec := { name := "roadEarly", fn := fun _ => fun
  | [d] => { results := [.lit (.bool false)], args := [d] }
  | _ => none }
def RoadEarlyWrongFalsely : Prop := roadEarlyRow.holds Try.pinned (OpenSpec.ofChange roadEarlyWrong)

/-- 'mestalaw02.RoadWidened': WHATEVER THE INPUT: true; the input reads as it did. -/
def roadWidenedSpec : ChangeSpec := { name := "roadWidened", fn := fun _ => fun
  | [d] => { results := [.lit (.bool true)], args := [d] }
  | _ => none }
def roadWidenedRow : OpenClaim := { program := "ytjgkgnfhglhklaa", sum := "f8f5e51ee4cbf375deab8e64035d74ad0f9c38f033c7e033204e6beaea548c5f", func := "mesta/mestalaw02.RoadWidened", spec := "roadWidened", unfollowed := true, recurses := true, plainKeys := false, apart := false }
def RoadWidenedSaid : Prop := roadWidenedRow.holds Try.pinned (OpenSpec.ofChange roadWidenedSpec)

/-- ITS FALSE NEIGHBOUR: 'it returns false'. Refute it at one input. -/
def roadWidenedWrong : ChangeSpec := { name := "roadWidened", fn := fun _ => fun
  | [d] => { results := [.lit (.bool false)], args := [d] }
  | _ => none }
def RoadWidenedWrongFalsely : Prop := roadWidenedRow.holds Try.pinned (OpenSpec.ofChange roadWidenedWrong)

/-- 'mestalaw02.RoadStays': WHATEVER THE INPUT: true; the input reads as it did. -/
def roadStaysSpec : ChangeSpec := { name := "roadStays", fn := fun _ => fun
  | [d] => { results := [.lit (.bool true)], args := [d] }
  | _ => none }
def roadStaysRow : OpenClaim := { program := "ytjgkgnfhglhklaa", sum := "f8f5e51ee4cbf375deab8e64035d74ad0f9c38f033c7e033204e6beaea548c5f", func := "mesta/mestalaw02.RoadStays", spec := "roadStays", unfollowed := true, recurses := true, plainKeys := false, apart := false }
def RoadStaysSaid : Prop := roadStaysRow.holds Try.pinned (OpenSpec.ofChange roadStaysSpec)

/-- ITS FALSE NEIGHBOUR: 'it returns false'. Refute it at one input. -/
def roadStaysWrong : ChangeSpec := { name := "roadStays", fn := fun _ => fun
  | [d] => { results := [.lit (.bool false)], args := [d] }
  | _ => none }
def RoadStaysWrongFalsely : Prop := roadStaysRow.holds Try.pinned (OpenSpec.ofChange roadStaysWrong)

/-- 'mestalaw02.RoadFewer': WHATEVER THE INPUT: true; the input reads as it did. -/
def roadFewerSpec : ChangeSpec := { name := "roadFewer", fn := fun _ => fun
  | [d] => { results := [.lit (.bool true)], args := [d] }
  | _ => none }
def roadFewerRow : OpenClaim := { program := "ytjgkgnfhglhklaa", sum := "f8f5e51ee4cbf375deab8e64035d74ad0f9c38f033c7e033204e6beaea548c5f", func := "mesta/mestalaw02.RoadFewer", spec := "roadFewer", unfollowed := true, recurses := true, plainKeys := false, apart := false }
def RoadFewerSaid : Prop := roadFewerRow.holds Try.pinned (OpenSpec.ofChange roadFewerSpec)

/-- ITS FALSE NEIGHBOUR: 'it returns false'. Refute it at one input. -/
def roadFewerWrong : ChangeSpec := { name := "roadFewer", fn := fun _ => fun
  | [d] => { results := [.lit (.bool false)], args := [d] }
  | _ => none }
def RoadFewerWrongFalsely : Prop := roadFewerRow.holds Try.pinned (OpenSpec.ofChange roadFewerWrong)

/-- 'mestalaw02.RoadLate': WHATEVER THE INPUT: true; the input reads as it did. -/
def roadLateSpec : ChangeSpec := { name := "roadLate", fn := fun _ => fun
  | [d1, d2, d3, d4, d5, d6, d7] => { results := [.lit (.bool true)], args := [d1, d2, d3, d4, d5, d6, d7] }
  | _ => none }
def roadLateRow : OpenClaim := { program := "ytjgkgnfhglhklaa", sum := "f8f5e51ee4cbf375deab8e64035d74ad0f9c38f033c7e033204e6beaea548c5f", func := "mesta/mestalaw02.RoadLate", spec := "roadLate", unfollowed := true, recurses := true, plainKeys := false, apart := false }
def RoadLateSaid : Prop := roadLateRow.holds Try.pinned (OpenSpec.ofChange roadLateSpec)

/-- ITS FALSE NEIGHBOUR: 'it returns false'. Refute it at one input. -/
def roadLateWrong : ChangeSpec := { name := "roadLate", fn := fun _ => fun
  | [d1, d2, d3, d4, d5, d6, d7] => { results := [.lit (.bool false)], args := [d1, d2, d3, d4, d5, d6, d7] }
  | _ => none }
def RoadLateWrongFalsely : Prop := roadLateRow.holds Try.pinned (OpenSpec.ofChange roadLateWrong)

/-- 'mestalaw02.RoadLast': WHATEVER THE INPUT: true; the input reads as it did. -/
def roadLastSpec : ChangeSpec := { name := "roadLast", fn := fun _ => fun
  | [d] => { results := [.lit (.bool true)], args := [d] }
  | _ => none }
def roadLastRow : OpenClaim := { program := "ytjgkgnfhglhklaa", sum := "f8f5e51ee4cbf375deab8e64035d74ad0f9c38f033c7e033204e6beaea548c5f", func := "mesta/mestalaw02.RoadLast", spec := "roadLast", unfollowed := true, recurses := true, plainKeys := false, apart := false }
def RoadLastSaid : Prop := roadLastRow.holds Try.pinned (OpenSpec.ofChange roadLastSpec)

/-- ITS FALSE NEIGHBOUR: 'it returns false'. Refute it at one input. -/
def roadLastWrong : ChangeSpec := { name := "roadLast", fn := fun _ => fun
  | [d] => { results := [.lit (.bool false)], args := [d] }
  | _ => none }
def RoadLastWrongFalsely : Prop := roadLastRow.holds Try.pinned (OpenSpec.ofChange roadLastWrong)

/-- 'mestalaw02.RoadMirrored': WHATEVER THE INPUT: true; the input reads as it did. -/
def roadMirroredSpec : ChangeSpec := { name := "roadMirrored", fn := fun _ => fun
  | [d] => { results := [.lit (.bool true)], args := [d] }
  | _ => none }
def roadMirroredRow : OpenClaim := { program := "ytjgkgnfhglhklaa", sum := "f8f5e51ee4cbf375deab8e64035d74ad0f9c38f033c7e033204e6beaea548c5f", func := "mesta/mestalaw02.RoadMirrored", spec := "roadMirrored", unfollowed := true, recurses := true, plainKeys := false, apart := false }
def RoadMirroredSaid : Prop := roadMirroredRow.holds Try.pinned (OpenSpec.ofChange roadMirroredSpec)

/-- ITS FALSE NEIGHBOUR: 'it returns false'. Refute it at one input. -/
def roadMirroredWrong : ChangeSpec := { name := "roadMirrored", fn := fun _ => fun
  | [d] => { results := [.lit (.bool false)], args := [d] }
  | _ => none }
def RoadMirroredWrongFalsely : Prop := roadMirroredRow.holds Try.pinned (OpenSpec.ofChange roadMirroredWrong)

/-- 'mestalaw02.RoadNights': WHATEVER THE INPUT: true; the input reads as it did. -/
def roadNightsSpec : ChangeSpec := { name := "roadNights", fn := fun _ => fun
  | [d] => { results := [.lit (.bool true)], args := [d] }
  | _ => none }
def roadNightsRow : OpenClaim := { program := "ytjgkgnfhglhklaa", sum := "f8f5e51ee4cbf375deab8e64035d74ad0f9c38f033c7e033204e6beaea548c5f", func := "mesta/mestalaw02.RoadNights", spec := "roadNights", unfollowed := true, recurses := true, plainKeys := false, apart := false }
def RoadNightsSaid : Prop := roadNightsRow.holds Try.pinned (OpenSpec.ofChange roadNightsSpec)

/-- ITS FALSE NEIGHBOUR: 'it returns false'. Refute it at one input. -/
def roadNightsWrong : ChangeSpec := { name := "roadNights", fn := fun _ => fun
  | [d] => { results := [.lit (.bool false)], args := [d] }
  | _ => none }
def RoadNightsWrongFalsely : Prop := roadNightsRow.holds Try.pinned (OpenSpec.ofChange roadNightsWrong)

/-- 'mestalaw02.RoadHeads': WHATEVER THE INPUT: true; the input reads as it did. -/
def roadHeadsSpec : ChangeSpec := { name := "roadHeads", fn := fun _ => fun
  | [d] => { results := [.lit (.bool true)], args := [d] }
  | _ => none }
def roadHeadsRow : OpenClaim := { program := "ytjgkgnfhglhklaa", sum := "f8f5e51ee4cbf375deab8e64035d74ad0f9c38f033c7e033204e6beaea548c5f", func := "mesta/mestalaw02.RoadHeads", spec := "roadHeads", unfollowed := true, recurses := true, plainKeys := false, apart := false }
def RoadHeadsSaid : Prop := roadHeadsRow.holds Try.pinned (OpenSpec.ofChange roadHeadsSpec)

/-- ITS FALSE NEIGHBOUR: 'it returns false'. Refute it at one input. -/
def roadHeadsWrong : ChangeSpec := { name := "roadHeads", fn := fun _ => fun
  | [d] => { results := [.lit (.bool false)], args := [d] }
  | _ => none }
def RoadHeadsWrongFalsely : Prop := roadHeadsRow.holds Try.pinned (OpenSpec.ofChange roadHeadsWrong)

/-- 'mestalaw02.RoadShort': WHATEVER THE INPUT: true; the input reads as it did. -/
def roadShortSpec : ChangeSpec := { name := "roadShort", fn := fun _ => fun
  | [d] => { results := [.lit (.bool true)], args := [d] }
  | _ => none }
def roadShortRow : OpenClaim := { program := "ytjgkgnfhglhklaa", sum := "f8f5e51ee4cbf375deab8e64035d74ad0f9c38f033c7e033204e6beaea548c5f", func := "mesta/mestalaw02.RoadShort", spec := "roadShort", unfollowed := true, recurses := true, plainKeys := false, apart := false }
def RoadShortSaid : Prop := roadShortRow.holds Try.pinned (OpenSpec.ofChange roadShortSpec)

/-- ITS FALSE NEIGHBOUR: 'it returns false'. Refute it at one input. -/
def roadShortWrong : ChangeSpec := { name := "roadShort", fn := fun _ => fun
  | [d] => { results := [.lit (.bool false)], args := [d] }
  | _ => none }
def RoadShortWrongFalsely : Prop := roadShortRow.holds Try.pinned (OpenSpec.ofChange roadShortWrong)

/-- 'mestalaw02.RoadMust': WHATEVER THE INPUT: true; the input reads as it did. -/
def roadMustSpec : ChangeSpec := { name := "roadMust", fn := fun _ => fun
  | [d] => { results := [.lit (.bool true)], args := [d] }
  | _ => none }
def roadMustRow : OpenClaim := { program := "ytjgkgnfhglhklaa", sum := "f8f5e51ee4cbf375deab8e64035d74ad0f9c38f033c7e033204e6beaea548c5f", func := "mesta/mestalaw02.RoadMust", spec := "roadMust", unfollowed := true, recurses := true, plainKeys := false, apart := false }
def RoadMustSaid : Prop := roadMustRow.holds Try.pinned (OpenSpec.ofChange roadMustSpec)

/-- ITS FALSE NEIGHBOUR: 'it returns false'. Refute it at one input. -/
def roadMustWrong : ChangeSpec := { name := "roadMust", fn := fun _ => fun
  | [d] => { results := [.lit (.bool false)], args := [d] }
  | _ => none }
def RoadMustWrongFalsely : Prop := roadMustRow.holds Try.pinned (OpenSpec.ofChange roadMustWrong)

/-- 'mestalaw02.RoadCuts': WHATEVER THE INPUT: true; the input reads as it did. -/
def roadCutsSpec : ChangeSpec := { name := "roadCuts", fn := fun _ => fun
  | [d1, d2, d3, d4, d5, d6] => { results := [.lit (.bool true)], args := [d1, d2, d3, d4, d5, d6] }
  | _ => none }
def roadCutsRow : OpenClaim := { program := "ytjgkgnfhglhklaa", sum := "f8f5e51ee4cbf375deab8e64035d74ad0f9c38f033c7e033204e6beaea548c5f", func := "mesta/mestalaw02.RoadCuts", spec := "roadCuts", unfollowed := true, recurses := true, plainKeys := false, apart := false }
def RoadCutsSaid : Prop := roadCutsRow.holds Try.pinned (OpenSpec.ofChange roadCutsSpec)

/-- ITS FALSE NEIGHBOUR: 'it returns false'. Refute it at one input. -/
def roadCutsWrong : ChangeSpec := { name := "roadCuts", fn := fun _ => fun
  | [d1, d2, d3, d4, d5, d6] => { results := [.lit (.bool false)], args := [d1, d2, d3, d4, d5, d6] }
  | _ => none }
def RoadCutsWrongFalsely : Prop := roadCutsRow.holds Try.pinned (OpenSpec.ofChange roadCutsWrong)

/-- 'mestalaw02.RoadBars': WHATEVER THE INPUT: true; the input reads as it did. -/
def roadBarsSpec : ChangeSpec := { name := "roadBars", fn := fun _ => fun
  | [d1, d2, d3, d4, d5, d6] => { results := [.lit (.bool true)], args := [d1, d2, d3, d4, d5, d6] }
  | _ => none }
def roadBarsRow : OpenClaim := { program := "ytjgkgnfhglhklaa", sum := "f8f5e51ee4cbf375deab8e64035d74ad0f9c38f033c7e033204e6beaea548c5f", func := "mesta/mestalaw02.RoadBars", spec := "roadBars", unfollowed := true, recurses := true, plainKeys := false, apart := false }
def RoadBarsSaid : Prop := roadBarsRow.holds Try.pinned (OpenSpec.ofChange roadBarsSpec)

/-- ITS FALSE NEIGHBOUR: 'it returns false'. Refute it at one input. -/
def roadBarsWrong : ChangeSpec := { name := "roadBars", fn := fun _ => fun
  | [d1, d2, d3, d4, d5, d6] => { results := [.lit (.bool false)], args := [d1, d2, d3, d4, d5, d6] }
  | _ => none }
def RoadBarsWrongFalsely : Prop := roadBarsRow.holds Try.pinned (OpenSpec.ofChange roadBarsWrong)

/-- 'mestalaw02.RoadNeeds': WHATEVER THE INPUT: true; the input reads as it did. -/
def roadNeedsSpec : ChangeSpec := { name := "roadNeeds", fn := fun _ => fun
  | [d1, d2, d3, d4, d5, d6, d7] => { results := [.lit (.bool true)], args := [d1, d2, d3, d4, d5, d6, d7] }
  | _ => none }
def roadNeedsRow : OpenClaim := { program := "ytjgkgnfhglhklaa", sum := "f8f5e51ee4cbf375deab8e64035d74ad0f9c38f033c7e033204e6beaea548c5f", func := "mesta/mestalaw02.RoadNeeds", spec := "roadNeeds", unfollowed := true, recurses := true, plainKeys := false, apart := false }
def RoadNeedsSaid : Prop := roadNeedsRow.holds Try.pinned (OpenSpec.ofChange roadNeedsSpec)

/-- ITS FALSE NEIGHBOUR: 'it returns false'. Refute it at one input. -/
def roadNeedsWrong : ChangeSpec := { name := "roadNeeds", fn := fun _ => fun
  | [d1, d2, d3, d4, d5, d6, d7] => { results := [.lit (.bool false)], args := [d1, d2, d3, d4, d5, d6, d7] }
  | _ => none }
def RoadNeedsWrongFalsely : Prop := roadNeedsRow.holds Try.pinned (OpenSpec.ofChange roadNeedsWrong)

/-- 'mestalaw02.RoadPlays': WHATEVER THE INPUT: true; the input reads as it did. -/
def roadPlaysSpec : ChangeSpec := { name := "roadPlays", fn := fun _ => fun
  | [d1, d2, d3, d4, d5] => { results := [.lit (.bool true)], args := [d1, d2, d3, d4, d5] }
  | _ => none }
def roadPlaysRow : OpenClaim := { program := "ytjgkgnfhglhklaa", sum := "f8f5e51ee4cbf375deab8e64035d74ad0f9c38f033c7e033204e6beaea548c5f", func := "mesta/mestalaw02.RoadPlays", spec := "roadPlays", unfollowed := true, recurses := true, plainKeys := false, apart := false }
def RoadPlaysSaid : Prop := roadPlaysRow.holds Try.pinned (OpenSpec.ofChange roadPlaysSpec)

/-- ITS FALSE NEIGHBOUR: 'it returns false'. Refute it at one input. -/
def roadPlaysWrong : ChangeSpec := { name := "roadPlays", fn := fun _ => fun
  | [d1, d2, d3, d4, d5] => { results := [.lit (.bool false)], args := [d1, d2, d3, d4, d5] }
  | _ => none }
def RoadPlaysWrongFalsely : Prop := roadPlaysRow.holds Try.pinned (OpenSpec.ofChange roadPlaysWrong)

/-- 'mestalaw02.RoadCutOff': WHATEVER THE INPUT: true; the input reads as it did. -/
def roadCutOffSpec : ChangeSpec := { name := "roadCutOff", fn := fun _ => fun
  | [d] => { results := [.lit (.bool true)], args := [d] }
  | _ => none }
def roadCutOffRow : OpenClaim := { program := "ytjgkgnfhglhklaa", sum := "f8f5e51ee4cbf375deab8e64035d74ad0f9c38f033c7e033204e6beaea548c5f", func := "mesta/mestalaw02.RoadCutOff", spec := "roadCutOff", unfollowed := true, recurses := true, plainKeys := false, apart := false }
def RoadCutOffSaid : Prop := roadCutOffRow.holds Try.pinned (OpenSpec.ofChange roadCutOffSpec)

/-- ITS FALSE NEIGHBOUR: 'it returns false'. Refute it at one input. -/
def roadCutOffWrong : ChangeSpec := { name := "roadCutOff", fn := fun _ => fun
  | [d] => { results := [.lit (.bool false)], args := [d] }
  | _ => none }
def RoadCutOffWrongFalsely : Prop := roadCutOffRow.holds Try.pinned (OpenSpec.ofChange roadCutOffWrong)

/-- 'mestalaw02.RoadBest': WHATEVER THE INPUT: true; the input reads as it did. -/
def roadBestSpec : ChangeSpec := { name := "roadBest", fn := fun _ => fun
  | [d] => { results := [.lit (.bool true)], args := [d] }
  | _ => none }
def roadBestRow : OpenClaim := { program := "ytjgkgnfhglhklaa", sum := "f8f5e51ee4cbf375deab8e64035d74ad0f9c38f033c7e033204e6beaea548c5f", func := "mesta/mestalaw02.RoadBest", spec := "roadBest", unfollowed := true, recurses := true, plainKeys := false, apart := false }
def RoadBestSaid : Prop := roadBestRow.holds Try.pinned (OpenSpec.ofChange roadBestSpec)

/-- ITS FALSE NEIGHBOUR: 'it returns false'. Refute it at one input. -/
def roadBestWrong : ChangeSpec := { name := "roadBest", fn := fun _ => fun
  | [d] => { results := [.lit (.bool false)], args := [d] }
  | _ => none }
def RoadBestWrongFalsely : Prop := roadBestRow.holds Try.pinned (OpenSpec.ofChange roadBestWrong)

/- THE SECOND FORM. 'bulk': how many values and letters a reading holds, each counted each time it is reached (what is shared counts as often as it is met; a slice's spare places count too). A statement '..UptoSaid' is the law's where the arguments, and the package variables that the reading takes, are together of bulk at most 1048576: NARROWER than '..Said'. Prove '..Said' where nothing that the law and all that it calls make is longer than what came in: it says more and counts as full. Else prove '..UptoSaid'. A law counts once. -/
mutual
def uptoBulk {H : Type} : DataW H → Nat
  | .lit (.string bytes) => bytes.length + 1
  | .lit _ => 1
  | .nil => 1
  | .ptr d => uptoBulk d + 1
  | .slice elems spare => uptoBulkAll elems + uptoBulkAll spare + 1
  | .agg parts => uptoBulkAll parts + 1
  | .iface _ d => uptoBulk d + 1
  | .map entries => uptoBulkEntries entries + 1
  | .held _ => 1
def uptoBulkAll {H : Type} : List (DataW H) → Nat
  | [] => 0
  | d :: r => uptoBulk d + uptoBulkAll r
def uptoBulkEntries {H : Type} : List (Lit × DataW H) → Nat
  | [] => 0
  | x :: r => uptoBulkEntry x + uptoBulkEntries r
def uptoBulkEntry {H : Type} : Lit × DataW H → Nat
  | (.string bytes, d) => bytes.length + uptoBulk d + 1
  | (_, d) => uptoBulk d + 1
 end
def uptoSmall : (H : Type) → List (DataW H) → Bool := fun _ ds => decide (uptoBulkAll ds ≤ 1048576)
def OpenSpec.upto (s : _root_.Go.ChangeSpec) : _root_.Go.OpenSpec := { _root_.Go.OpenSpec.ofChange s with cond := some uptoSmall }

/-- 'mestalaw02.RoadComes', WHERE WHAT IT READS IS OF BULK AT MOST 1048576: true; the input reads as it did. -/
def roadComesUptoRow : OpenClaim := { program := "ytjgkgnfhglhklaa", sum := "f8f5e51ee4cbf375deab8e64035d74ad0f9c38f033c7e033204e6beaea548c5f", func := "mesta/mestalaw02.RoadComes", spec := "roadComes", unfollowed := true, recurses := true, plainKeys := false, apart := false, narrowed := true }
def RoadComesUptoSaid : Prop := roadComesUptoRow.holds Try.pinned (OpenSpec.upto roadComesSpec)

/-- 'mestalaw02.RoadEarly', WHERE WHAT IT READS IS OF BULK AT MOST 1048576: true; the input reads as it did. -/
def roadEarlyUptoRow : OpenClaim := { program := "ytjgkgnfhglhklaa", sum := "f8f5e51ee4cbf375deab8e64035d74ad0f9c38f033c7e033204e6beaea548c5f", func := "mesta/mestalaw02.RoadEarly", spec := "roadEarly", unfollowed := true, recurses := true, plainKeys := false, apart := false, narrowed := true }
def RoadEarlyUptoSaid : Prop := roadEarlyUptoRow.holds Try.pinned (OpenSpec.upto roadEarlySpec)

/-- 'mestalaw02.RoadWidened', WHERE WHAT IT READS IS OF BULK AT MOST 1048576: true; the input reads as it did. -/
def roadWidenedUptoRow : OpenClaim := { program := "ytjgkgnfhglhklaa", sum := "f8f5e51ee4cbf375deab8e64035d74ad0f9c38f033c7e033204e6beaea548c5f", func := "mesta/mestalaw02.RoadWidened", spec := "roadWidened", unfollowed := true, recurses := true, plainKeys := false, apart := false, narrowed := true }
def RoadWidenedUptoSaid : Prop := roadWidenedUptoRow.holds Try.pinned (OpenSpec.upto roadWidenedSpec)

/-- 'mestalaw02.RoadStays', WHERE WHAT IT READS IS OF BULK AT MOST 1048576: true; the input reads as it did. -/
def roadStaysUptoRow : OpenClaim := { program := "ytjgkgnfhglhklaa", sum := "f8f5e51ee4cbf375deab8e64035d74ad0f9c38f033c7e033204e6beaea548c5f", func := "mesta/mestalaw02.RoadStays", spec := "roadStays", unfollowed := true, recurses := true, plainKeys := false, apart := false, narrowed := true }
def RoadStaysUptoSaid : Prop := roadStaysUptoRow.holds Try.pinned (OpenSpec.upto roadStaysSpec)

/-- 'mestalaw02.RoadFewer', WHERE WHAT IT READS IS OF BULK AT MOST 1048576: true; the input reads as it did. -/
def roadFewerUptoRow : OpenClaim := { program := "ytjgkgnfhglhklaa", sum := "f8f5e51ee4cbf375deab8e64035d74ad0f9c38f033c7e033204e6beaea548c5f", func := "mesta/mestalaw02.RoadFewer", spec := "roadFewer", unfollowed := true, recurses := true, plainKeys := false, apart := false, narrowed := true }
def RoadFewerUptoSaid : Prop := roadFewerUptoRow.holds Try.pinned (OpenSpec.upto roadFewerSpec)

/-- 'mestalaw02.RoadLate', WHERE WHAT IT READS IS OF BULK AT MOST 1048576: true; the input reads as it did. -/
def roadLateUptoRow : OpenClaim := { program := "ytjgkgnfhglhklaa", sum := "f8f5e51ee4cbf375deab8e64035d74ad0f9c38f033c7e033204e6beaea548c5f", func := "mesta/mestalaw02.RoadLate", spec := "roadLate", unfollowed := true, recurses := true, plainKeys := false, apart := false, narrowed := true }
def RoadLateUptoSaid : Prop := roadLateUptoRow.holds Try.pinned (OpenSpec.upto roadLateSpec)

/-- 'mestalaw02.RoadLast', WHERE WHAT IT READS IS OF BULK AT MOST 1048576: true; the input reads as it did. -/
def roadLastUptoRow : OpenClaim := { program := "ytjgkgnfhglhklaa", sum := "f8f5e51ee4cbf375deab8e64035d74ad0f9c38f033c7e033204e6beaea548c5f", func := "mesta/mestalaw02.RoadLast", spec := "roadLast", unfollowed := true, recurses := true, plainKeys := false, apart := false, narrowed := true }
def RoadLastUptoSaid : Prop := roadLastUptoRow.holds Try.pinned (OpenSpec.upto roadLastSpec)

/-- 'mestalaw02.RoadMirrored', WHERE WHAT IT READS IS OF BULK AT MOST 1048576: true; the input reads as it did. -/
def roadMirroredUptoRow : OpenClaim := { program := "ytjgkgnfhglhklaa", sum := "f8f5e51ee4cbf375deab8e64035d74ad0f9c38f033c7e033204e6beaea548c5f", func := "mesta/mestalaw02.RoadMirrored", spec := "roadMirrored", unfollowed := true, recurses := true, plainKeys := false, apart := false, narrowed := true }
def RoadMirroredUptoSaid : Prop := roadMirroredUptoRow.holds Try.pinned (OpenSpec.upto roadMirroredSpec)

/-- 'mestalaw02.RoadNights', WHERE WHAT IT READS IS OF BULK AT MOST 1048576: true; the input reads as it did. -/
def roadNightsUptoRow : OpenClaim := { program := "ytjgkgnfhglhklaa", sum := "f8f5e51ee4cbf375deab8e64035d74ad0f9c38f033c7e033204e6beaea548c5f", func := "mesta/mestalaw02.RoadNights", spec := "roadNights", unfollowed := true, recurses := true, plainKeys := false, apart := false, narrowed := true }
def RoadNightsUptoSaid : Prop := roadNightsUptoRow.holds Try.pinned (OpenSpec.upto roadNightsSpec)

/-- 'mestalaw02.RoadHeads', WHERE WHAT IT READS IS OF BULK AT MOST 1048576: true; the input reads as it did. -/
def roadHeadsUptoRow : OpenClaim := { program := "ytjgkgnfhglhklaa", sum := "f8f5e51ee4cbf375deab8e64035d74ad0f9c38f033c7e033204e6beaea548c5f", func := "mesta/mestalaw02.RoadHeads", spec := "roadHeads", unfollowed := true, recurses := true, plainKeys := false, apart := false, narrowed := true }
def RoadHeadsUptoSaid : Prop := roadHeadsUptoRow.holds Try.pinned (OpenSpec.upto roadHeadsSpec)

/-- 'mestalaw02.RoadShort', WHERE WHAT IT READS IS OF BULK AT MOST 1048576: true; the input reads as it did. -/
def roadShortUptoRow : OpenClaim := { program := "ytjgkgnfhglhklaa", sum := "f8f5e51ee4cbf375deab8e64035d74ad0f9c38f033c7e033204e6beaea548c5f", func := "mesta/mestalaw02.RoadShort", spec := "roadShort", unfollowed := true, recurses := true, plainKeys := false, apart := false, narrowed := true }
def RoadShortUptoSaid : Prop := roadShortUptoRow.holds Try.pinned (OpenSpec.upto roadShortSpec)

/-- 'mestalaw02.RoadMust', WHERE WHAT IT READS IS OF BULK AT MOST 1048576: true; the input reads as it did. -/
def roadMustUptoRow : OpenClaim := { program := "ytjgkgnfhglhklaa", sum := "f8f5e51ee4cbf375deab8e64035d74ad0f9c38f033c7e033204e6beaea548c5f", func := "mesta/mestalaw02.RoadMust", spec := "roadMust", unfollowed := true, recurses := true, plainKeys := false, apart := false, narrowed := true }
def RoadMustUptoSaid : Prop := roadMustUptoRow.holds Try.pinned (OpenSpec.upto roadMustSpec)

/-- 'mestalaw02.RoadCuts', WHERE WHAT IT READS IS OF BULK AT MOST 1048576: true; the input reads as it did. -/
def roadCutsUptoRow : OpenClaim := { program := "ytjgkgnfhglhklaa", sum := "f8f5e51ee4cbf375deab8e64035d74ad0f9c38f033c7e033204e6beaea548c5f", func := "mesta/mestalaw02.RoadCuts", spec := "roadCuts", unfollowed := true, recurses := true, plainKeys := false, apart := false, narrowed := true }
def RoadCutsUptoSaid : Prop := roadCutsUptoRow.holds Try.pinned (OpenSpec.upto roadCutsSpec)

/-- 'mestalaw02.RoadBars', WHERE WHAT IT READS IS OF BULK AT MOST 1048576: true; the input reads as it did. -/
def roadBarsUptoRow : OpenClaim := { program := "ytjgkgnfhglhklaa", sum := "f8f5e51ee4cbf375deab8e64035d74ad0f9c38f033c7e033204e6beaea548c5f", func := "mesta/mestalaw02.RoadBars", spec := "roadBars", unfollowed := true, recurses := true, plainKeys := false, apart := false, narrowed := true }
def RoadBarsUptoSaid : Prop := roadBarsUptoRow.holds Try.pinned (OpenSpec.upto roadBarsSpec)

/-- 'mestalaw02.RoadNeeds', WHERE WHAT IT READS IS OF BULK AT MOST 1048576: true; the input reads as it did. -/
def roadNeedsUptoRow : OpenClaim := { program := "ytjgkgnfhglhklaa", sum := "f8f5e51ee4cbf375deab8e64035d74ad0f9c38f033c7e033204e6beaea548c5f", func := "mesta/mestalaw02.RoadNeeds", spec := "roadNeeds", unfollowed := true, recurses := true, plainKeys := false, apart := false, narrowed := true }
def RoadNeedsUptoSaid : Prop := roadNeedsUptoRow.holds Try.pinned (OpenSpec.upto roadNeedsSpec)

/-- 'mestalaw02.RoadPlays', WHERE WHAT IT READS IS OF BULK AT MOST 1048576: true; the input reads as it did. -/
def roadPlaysUptoRow : OpenClaim := { program := "ytjgkgnfhglhklaa", sum := "f8f5e51ee4cbf375deab8e64035d74ad0f9c38f033c7e033204e6beaea548c5f", func := "mesta/mestalaw02.RoadPlays", spec := "roadPlays", unfollowed := true, recurses := true, plainKeys := false, apart := false, narrowed := true }
def RoadPlaysUptoSaid : Prop := roadPlaysUptoRow.holds Try.pinned (OpenSpec.upto roadPlaysSpec)

/-- 'mestalaw02.RoadCutOff', WHERE WHAT IT READS IS OF BULK AT MOST 1048576: true; the input reads as it did. -/
def roadCutOffUptoRow : OpenClaim := { program := "ytjgkgnfhglhklaa", sum := "f8f5e51ee4cbf375deab8e64035d74ad0f9c38f033c7e033204e6beaea548c5f", func := "mesta/mestalaw02.RoadCutOff", spec := "roadCutOff", unfollowed := true, recurses := true, plainKeys := false, apart := false, narrowed := true }
def RoadCutOffUptoSaid : Prop := roadCutOffUptoRow.holds Try.pinned (OpenSpec.upto roadCutOffSpec)

/-- 'mestalaw02.RoadBest', WHERE WHAT IT READS IS OF BULK AT MOST 1048576: true; the input reads as it did. -/
def roadBestUptoRow : OpenClaim := { program := "ytjgkgnfhglhklaa", sum := "f8f5e51ee4cbf375deab8e64035d74ad0f9c38f033c7e033204e6beaea548c5f", func := "mesta/mestalaw02.RoadBest", spec := "roadBest", unfollowed := true, recurses := true, plainKeys := false, apart := false, narrowed := true }
def RoadBestUptoSaid : Prop := roadBestUptoRow.holds Try.pinned (OpenSpec.upto roadBestSpec)

end Rows
end Go.Proofs.Ytjgkgnfhglhklaa
