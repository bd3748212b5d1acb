/- TCL: The table of compiled functions with closed calls that are proved. No condition. -/
import Derived.Test.YtelnkadnphephaaGreatDoorB11
set_option linter.unusedVariables false
set_option linter.unusedSimpArgs false
noncomputable section
namespace Go.Proofs.YtelnkadnphephaaGreatDoor.T
open Go Go.Abs
noncomputable section
def tabL : Tr CEnt := (tabM.set 60 (some (.prim pAt)))
theorem tabLOk : TabOk Tryz.prog G tabL := (TabOk.put tabMOk pAt_ok)
end
end Go.Proofs.YtelnkadnphephaaGreatDoor.T
end
