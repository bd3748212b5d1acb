/- P6: printed text. No condition. -/
import Derived.Test.YtelnkadnphephaaGreatDoorQ07
set_option linter.unusedVariables false
set_option linter.unusedSimpArgs false
noncomputable section
namespace Go.Proofs.YtelnkadnphephaaGreatDoor.T
open Go Go.Abs
theorem run_said2 : (runTop Tryz.prog tabM G qs 100000 2000 8 [.s (bs [58, 97, 59, 78, 59, 36, 33, 98, 97, 59, 115, 47, 92, 110, 47, 44, 47, 103]), .s (bs [97, 10, 98, 10, 99]), .b false] ⟨.e, 0⟩).map (·.1) = some (.tup [.s (bs [97, 44, 98, 44, 99]), .b true]) := by kernel_rfl
end Go.Proofs.YtelnkadnphephaaGreatDoor.T
end
