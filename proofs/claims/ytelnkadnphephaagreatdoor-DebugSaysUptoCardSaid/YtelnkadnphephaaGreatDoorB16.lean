/- D13: DebugSays: the row's closed cells are what the program forces. No condition. -/
import Derived.Test.YtelnkadnphephaaGreatDoorB15
set_option linter.unusedVariables false
set_option linter.unusedSimpArgs false
noncomputable section
namespace Go.Proofs.YtelnkadnphephaaGreatDoor
namespace T
open Go Go.ChangeShapes Go.WideShapes Go.ChangeAt Go.RowKit

/-! What the row's closed cells say, part by part. -/
theorem fact0 : (Rows.debugSaysUptoRow.wf (OpenSpec.ofChange (Rows.OpenSpec.upto Rows.debugSaysSpec).bare) && laidOutB Tryz.pinned.checked.prog && mapsRowed Tryz.pinned.checked.prog) = true := by kernel_rfl
theorem fact1 : (Tryz.f5.params.all (Tryz.pinned.checked.prog.readableRec ·) && namedTie Tryz.pinned.checked.prog Rows.debugSaysUptoRow.named (Rows.OpenSpec.upto Rows.debugSaysSpec).bare.vars) = true := by kernel_rfl
theorem fact2 : ((Rows.debugSaysUptoRow.stops == []) && (Tryz.pinned.checked.prog.stops == []) && (Rows.debugSaysUptoRow.knobs == []) && (Tryz.pinned.checked.prog.stopKnobs == [])) = true := by kernel_rfl
theorem fact3 : ((Rows.debugSaysUptoRow.inPlace == Tryz.pinned.checked.prog.inPlace 5) && (Rows.debugSaysUptoRow.unfollowed == Tryz.pinned.checked.prog.unfollowed 5) && (Rows.debugSaysUptoRow.recurses == Tryz.pinned.checked.prog.recurses 5)) = true := by kernel_rfl
theorem fact4 : ((Rows.debugSaysUptoRow.named == Tryz.pinned.checked.prog.varsNamed 5) && (Rows.debugSaysUptoRow.maps == (Tryz.f5.params.toList ++ (Rows.OpenSpec.upto Rows.debugSaysSpec).bare.plain.varTypes Tryz.pinned.checked.prog).any (Tryz.pinned.checked.prog.mapsRec ·))) = true := by kernel_rfl
theorem fact5 : ((Rows.debugSaysUptoRow.ifaces == (Tryz.f5.params.toList ++ (Rows.OpenSpec.upto Rows.debugSaysSpec).bare.plain.varTypes Tryz.pinned.checked.prog).any (Tryz.pinned.checked.prog.ifacesRec ·)) && (Rows.debugSaysUptoRow.mapsOut == Tryz.pinned.checked.prog.mapsAmong Tryz.f5.resultTypes.toList)) = true := by kernel_rfl
theorem fact6 : ((Rows.debugSaysUptoRow.loops == (Tryz.f5.params.toList ++ (Rows.OpenSpec.upto Rows.debugSaysSpec).bare.plain.varTypes Tryz.pinned.checked.prog).any (Tryz.pinned.checked.prog.loopsFrom ·)) && (Rows.debugSaysUptoRow.wideKeys == (Tryz.f5.params.toList ++ (Rows.OpenSpec.upto Rows.debugSaysSpec).bare.plain.varTypes Tryz.pinned.checked.prog ++ Tryz.f5.resultTypes.toList).any (Tryz.pinned.checked.prog.wideKeysFrom ·))) = true := by kernel_rfl
theorem fact7 : ((Rows.OpenSpec.upto Rows.debugSaysSpec).bare.vars.all (Tryz.pinned.checked.prog.varReadable ·) && Tryz.f5.resultTypes.all (fun t => Tryz.pinned.checked.prog.readableRec t && decide (t < Tryz.pinned.checked.prog.types.size)) && (Rows.debugSaysUptoRow.ifacesOut == Tryz.f5.resultTypes.toList.any (Tryz.pinned.checked.prog.ifacesRec ·)) && (Rows.debugSaysUptoRow.loopsOut == Tryz.f5.resultTypes.toList.any (Tryz.pinned.checked.prog.loopsFrom ·)) && (Rows.debugSaysUptoRow.plainKeys == Tryz.pinned.checked.prog.plainKeys)) = true := by kernel_rfl
theorem fact8 : (Rows.debugSaysUptoRow.shortTexts.isNone && Tryz.pinned.checked.prog.stopsHeard && Tryz.pinned.checked.prog.mayEnter && (Rows.debugSaysUptoRow.lifted == Tryz.pinned.checked.prog.liftsFinal) && (Tryz.pinned.checked.prog.make == some Rows.debugSaysUptoRow.make)) = true := by kernel_rfl
theorem fact9 : ((Rows.debugSaysUptoRow.kinds == (if Rows.debugSaysUptoRow.domain.isEmpty then [] else Tryz.f5.params.toList.map fun t => match Tryz.pinned.checked.prog.underlying t with | some (.int k) => some k | _ => none)) && (Rows.debugSaysUptoRow.pinned == Rows.debugSaysUptoRow.pinnedBy) && (Rows.debugSaysUptoRow.veiled == (Tryz.f5.params.toList ++ (Rows.OpenSpec.upto Rows.debugSaysSpec).bare.plain.varTypes Tryz.pinned.checked.prog ++ Tryz.f5.resultTypes.toList).any (Tryz.pinned.checked.prog.veiledRec ·)) && Rows.debugSaysUptoRow.veiledFits Tryz.pinned.checked.prog Tryz.f5.params.toList (Tryz.f5.params.toList ++ (Rows.OpenSpec.upto Rows.debugSaysSpec).bare.plain.varTypes Tryz.pinned.checked.prog ++ Tryz.f5.resultTypes.toList)) = true := by kernel_rfl
theorem and2 {a b : Bool} (h : a = true) (k : b = true) : (a && b) = true := by rw [h,k]; rfl
set_option maxRecDepth 100000 in
theorem facts : joinedFacts Tryz.pinned.checked.prog 5 Tryz.f5 (Rows.OpenSpec.upto Rows.debugSaysSpec).bare Rows.debugSaysUptoRow = true := by
  have h0 := fact0
  simp only [Bool.and_eq_true] at h0
  obtain ⟨⟨a0,a1⟩,a2⟩ := h0
  have h1 := fact1
  simp only [Bool.and_eq_true] at h1
  obtain ⟨a3,a4⟩ := h1
  have h2 := fact2
  simp only [Bool.and_eq_true] at h2
  obtain ⟨⟨⟨a5,a6⟩,a7⟩,a8⟩ := h2
  have h3 := fact3
  simp only [Bool.and_eq_true] at h3
  obtain ⟨⟨a9,a10⟩,a11⟩ := h3
  have h4 := fact4
  simp only [Bool.and_eq_true] at h4
  obtain ⟨a12,a13⟩ := h4
  have h5 := fact5
  simp only [Bool.and_eq_true] at h5
  obtain ⟨a14,a15⟩ := h5
  have h6 := fact6
  simp only [Bool.and_eq_true] at h6
  obtain ⟨a16,a17⟩ := h6
  have h7 := fact7
  simp only [Bool.and_eq_true] at h7
  obtain ⟨⟨⟨⟨a18,a19⟩,a20⟩,a21⟩,a22⟩ := h7
  have h8 := fact8
  simp only [Bool.and_eq_true] at h8
  obtain ⟨⟨⟨⟨a23,a24⟩,a25⟩,a26⟩,a27⟩ := h8
  have h9 := fact9
  simp only [Bool.and_eq_true] at h9
  obtain ⟨⟨⟨a28,a29⟩,a30⟩,a31⟩ := h9
  unfold joinedFacts
  exact (and2 (and2 (and2 (and2 (and2 (and2 (and2 (and2 (and2 (and2 (and2 (and2 (and2 (and2 (and2 (and2 (and2 (and2 (and2 (and2 (and2 (and2 (and2 (and2 (and2 (and2 (and2 (and2 (and2 (and2 (and2 a0 a1) a2) a3) a4) a5) a6) a7) a8) a9) a10) a11) a12) a13) a14) a15) a16) a17) a18) a19) a20) a21) a22) a23) a24) a25) a26) a27) a28) a29) a30) a31)
end T
end Go.Proofs.YtelnkadnphephaaGreatDoor
end
