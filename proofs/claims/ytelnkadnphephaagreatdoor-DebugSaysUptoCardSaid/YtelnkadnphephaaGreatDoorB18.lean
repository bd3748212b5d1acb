/- D15: DebugSays: no parameter wants a stand-in, and the program's own looks are off. No condition.
D16: DebugSays: what the card's closed cells say. No condition.
D17: DebugSays is true of every program and moment, and leaves its arguments as they were: the card. Conditions: the arguments' bulk is at most 1048576; the listed variables hold what the card ties to the program's text. -/
import Derived.Test.YtelnkadnphephaaGreatDoorB17
set_option linter.unusedVariables false
set_option linter.unusedSimpArgs false
noncomputable section
namespace Go.Proofs.YtelnkadnphephaaGreatDoor
namespace T
open Go Go.ChangeShapes Go.WideShapes Go.ChangeAt Go.RowKit
theorem plain (f : FuncId) (fn : Func) (hf : Tryz.pinned.checked.prog.funcNamed "paddock/paddocklaw27.DebugSays" = some f) (hfn : Tryz.pinned.checked.prog.funcs[f]? = some fn) :
    true = Tryz.pinned.checked.prog.looks [] ∧ ∀ (j : Nat) t,fn.params[j]? = some t → Tryz.pinned.checked.prog.wantsStandIn t = false := by
  obtain rfl : f = 5 := Option.some.inj ((show Tryz.prog.funcNamed "paddock/paddocklaw27.DebugSays" = some 5 by kernel_rfl).symm.trans hf) |>.symm
  obtain rfl : fn = Tryz.f5 := (Option.some.inj (Tryz.func5.symm.trans hfn)).symm
  refine ⟨by kernel_rfl,fun j t ht => ?_⟩
  rw [Tryz.params5] at ht
  have : t = 39 ∨ t = 43 := by simpa using Array.mem_of_getElem? ht
  rcases this with rfl | rfl
  · exact (show Tryz.prog.wantsStandIn 39 = false by kernel_rfl)
  · exact (show Tryz.prog.wantsStandIn 43 = false by kernel_rfl)
end T
end Go.Proofs.YtelnkadnphephaaGreatDoor
end
noncomputable section
namespace Go.Proofs.YtelnkadnphephaaGreatDoor
namespace T
open Go Go.ChangeShapes Go.WideShapes Go.ChangeAt Go.RowKit

theorem cardWf : Rows.debugSaysUptoRow.wfByText (Rows.OpenSpec.upto Rows.debugSaysSpec) = true := by kernel_rfl
theorem cardMain : Tryz.pinned.checked.prog.mainIs = some (Rows.debugSaysUptoCard.stood.harness.1,Rows.debugSaysUptoCard.stood.harness.2.toList) := by kernel_rfl
theorem goesNone : (Tryz.pinned.checked.prog.funcs.toList.any Func.goes) = false := by kernel_rfl
theorem goesAt_false {P : Program} (h : P.funcs.toList.any Func.goes = false) (n : String) : P.goesAt .entering n = false := by
  have h' : P.funcs.any Func.goes = false := by rw [← Array.any_toList]; exact h
  unfold Program.goesAt Program.goesFrom
  simp only [Bool.or_false]
  cases P.funcNamed n with
  | none => rfl
  | some f =>
    show P.goes f = false
    unfold Program.goes
    rw [h',Bool.and_false,Bool.or_false,List.any_eq_false]
    intro g _
    cases hg : P.funcs[g]? with
    | none => simp
    | some fn =>
      have := List.any_eq_false.1 h fn (by simpa using Array.mem_of_getElem? hg)
      simpa using this
theorem cardGoes : false = Rows.debugSaysUptoRow.goesBy Tryz.pinned.checked.prog := (goesAt_false goesNone _).symm
end T
end Go.Proofs.YtelnkadnphephaaGreatDoor
end
noncomputable section
namespace Go.Proofs.YtelnkadnphephaaGreatDoor
namespace T
open Go Go.ChangeShapes Go.WideShapes Go.ChangeAt Go.RowKit
end T

theorem debugSaysProved : Rows.DebugSaysUptoCardSaid :=
  Claim7.holds_tied_plain_at .later [] _ _ _ _ T.saidUpto (fun _ h => by cases h) T.cardWf (fun _ h => by cases h) debugSaysUpto_row_tie rfl ⟨rfl,rfl⟩ T.cardMain rfl T.plain T.cardGoes
end Go.Proofs.YtelnkadnphephaaGreatDoor
end
