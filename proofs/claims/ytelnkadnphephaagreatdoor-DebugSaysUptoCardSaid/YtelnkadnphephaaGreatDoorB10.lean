/- TCM: The table of compiled functions with closed calls that are proved. No condition. -/
import Derived.Test.YtelnkadnphephaaGreatDoorB09
set_option linter.unusedVariables false
set_option linter.unusedSimpArgs false
noncomputable section
namespace Go.Proofs.YtelnkadnphephaaGreatDoor.T
open Go Go.Abs
noncomputable section
def tabM : Tr CEnt := (tabT.set 68 (some (.prim pCheck)))
theorem tabMOk : TabOk Tryz.prog G tabM := (TabOk.put tabOk pCheck_ok)
end
end Go.Proofs.YtelnkadnphephaaGreatDoor.T
end
