/- PL: lives() of layer 27 is true, wherever it is called. No condition. -/
import Derived.Test.YtelnkadnphephaaGreatDoorB12
set_option linter.unusedVariables false
set_option linter.unusedSimpArgs false
noncomputable section
namespace Go.Proofs.YtelnkadnphephaaGreatDoor.T
open Go Go.Abs
noncomputable section
theorem run_lives : (runTop Tryz.prog tabL G qs 100000 2000 14 [] ⟨.e,0⟩).map (·.1) = some (.b true) := by kernel_rfl
theorem cx_lives (h : AHeap) : CX Tryz.prog G 14 [] h (.b true) h := closed_run tabLOk run_lives (by kernel_rfl) (by kernel_rfl) h
end
end Go.Proofs.YtelnkadnphephaaGreatDoor.T
end
