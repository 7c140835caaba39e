/- The chapter's examples, reckoned. -/
import Derived.Test.YtjgkgnfhglhklaaWay
import Derived.Test.YtjgkgnfhglhklaaWiden
import Derived.Test.YtjgkgnfhglhklaaPlanPub
namespace Go.Proofs.Ytjgkgnfhglhklaa
set_option linter.unusedSimpArgs false
set_option linter.unusedVariables false
open Go.RowKit

def exRoads : Roads := ⟨6, 4, [⟨0, 1, 5, 90, 1, 0, 0⟩, ⟨1, 2, 4, 45, 2, 2, 4⟩, ⟨2, 3, 3, 25, 3, 10, -1⟩, ⟨0, 3, 9, 45, 4, 20, 0⟩]⟩
theorem ex_ready4 : readyErr exRoads ⟨10, 6⟩ [0, 4, 0, 6] = 0 := by decide +kernel
theorem ex_ready6 : readyErr exRoads ⟨10, 6⟩ [0, 4, 3, 4, 0, 6] = 0 := by decide +kernel
theorem ex_ready8 : readyErr exRoads ⟨10, 6⟩ [0, 4, 2, 4, 0, 6, 5, 6] = 0 := by decide +kernel
theorem ex_ready8' : readyErr exRoads ⟨30, 6⟩ [0, 4, 3, 4, 0, 6, 5, 6] = 0 := by decide +kernel
theorem ex_readyW : readyErr exRoads ⟨10, 9⟩ [0, 4, 3, 4] = 0 := by decide +kernel
theorem ex_comes : comesL exRoads ⟨10, 6⟩ (-1) 0 0 = [0, 0, 2, 3] := by decide +kernel
theorem ex_planDay : planDay exRoads ⟨10, 6⟩ 0 3 0 = 3 := by decide +kernel
theorem ex_plan : planL exRoads ⟨10, 6⟩ (-1) 3 3 0 0 = [(0, 0), (2, 1), (3, 2)] := by decide +kernel
theorem ex_stayA : stayA exRoads ⟨10, 6⟩ 0 2 0 = 2 := by decide +kernel
theorem ex_stayB : lateD exRoads ⟨10, 6⟩ 2 0 5 = 4 := by decide +kernel
theorem ex_widen : widenL exRoads ⟨30, 6⟩ 0 3 0 5 = some [1, 2] := by decide +kernel
theorem ex_wayN : wayAll exRoads ⟨10, 9⟩ 0 3 ≠ [] := by decide +kernel
theorem ex_way : bestL exRoads (wayAll exRoads ⟨10, 9⟩ 0 3) = [3] := by decide +kernel
theorem ex_len : lenL exRoads [3] = 9 := by decide +kernel
end Go.Proofs.Ytjgkgnfhglhklaa
