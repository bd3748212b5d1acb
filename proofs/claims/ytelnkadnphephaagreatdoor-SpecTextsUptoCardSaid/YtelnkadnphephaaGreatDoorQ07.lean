/- P5: printed text. No condition. -/
import Derived.Test.YtelnkadnphephaaGreatDoorQ06
set_option linter.unusedVariables false
set_option linter.unusedSimpArgs false
noncomputable section
namespace Go.Proofs.YtelnkadnphephaaGreatDoor.T
open Go Go.Abs
theorem run_said1 : (runTop Tryz.prog tabM G qs 100000 2000 8 [.s (bs [49, 33, 71, 59, 104, 59, 36, 33, 100]), .s (bs [97, 10, 98, 10, 99]), .b false] ⟨.e, 0⟩).map (·.1) = some (.tup [.s (bs [99, 10, 98, 10, 97]), .b true]) := by kernel_rfl
end Go.Proofs.YtelnkadnphephaaGreatDoor.T
end
