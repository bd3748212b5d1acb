/- PA: Where the fixed run of lives() of layer 27 stands behind so many steps (spec.At). No condition. -/
import Derived.Test.YtelnkadnphephaaGreatDoorB10
set_option linter.unusedVariables false
set_option linter.unusedSimpArgs false
noncomputable section
namespace Go.Proofs.YtelnkadnphephaaGreatDoor.T
open Go Go.Abs
noncomputable section
def dAt0 : D := (.tup [(.agg [(.i .i64 (.ofNat 0)),(.i .i64 (.ofNat 0)),(.i .i64 (.ofNat 1)),(.s (bs [97])),(.s (bs [])),.nils,(.b false),(.i .u8 (.ofNat 0)),(.i .i64 (.ofNat 0))]),(.i .i64 (.ofNat 0))])
def dAt1 : D := (.tup [(.agg [(.i .i64 (.ofNat 1)),(.i .i64 (.ofNat 1)),(.i .i64 (.ofNat 1)),(.s (bs [97])),(.s (bs [])),.nils,(.b false),(.i .u8 (.ofNat 0)),(.i .i64 (.ofNat 0))]),(.i .i64 (.ofNat 0))])
def dAt2 : D := (.tup [(.agg [(.i .i64 (.ofNat 2)),(.i .i64 (.ofNat 2)),(.i .i64 (.ofNat 1)),(.s (bs [98])),(.s (bs [])),.nils,(.b false),(.i .u8 (.ofNat 0)),(.i .i64 (.ofNat 0))]),(.i .i64 (.ofNat 0))])
def dAt3 : D := (.tup [(.agg [(.i .i64 (.ofNat 3)),(.i .i64 (.ofNat 0)),(.i .i64 (.ofNat 2)),(.s (bs [98])),(.s (bs [])),.nils,(.b false),(.i .u8 (.ofNat 0)),(.i .i64 (.ofNat 0))]),(.i .i64 (.ofNat 0))])
def dAt4 : D := (.tup [(.agg [(.i .i64 (.ofNat 4)),(.i .i64 (.ofNat 1)),(.i .i64 (.ofNat 2)),(.s (bs [98])),(.s (bs [])),.nils,(.b false),(.i .u8 (.ofNat 0)),(.i .i64 (.ofNat 0))]),(.i .i64 (.ofNat 0))])
theorem run_at0 : (runTop Tryz.prog tabM G qs 100000 2000 60 [pL,oL,wL,.i .i64 (.ofNat 0)] ⟨.e,0⟩).map (·.1) = some dAt0 := by kernel_rfl
theorem run_at1 : (runTop Tryz.prog tabM G qs 100000 2000 60 [pL,oL,wL,.i .i64 (.ofNat 1)] ⟨.e,0⟩).map (·.1) = some dAt1 := by kernel_rfl
theorem run_at2 : (runTop Tryz.prog tabM G qs 100000 2000 60 [pL,oL,wL,.i .i64 (.ofNat 2)] ⟨.e,0⟩).map (·.1) = some dAt2 := by kernel_rfl
theorem run_at3 : (runTop Tryz.prog tabM G qs 100000 2000 60 [pL,oL,wL,.i .i64 (.ofNat 3)] ⟨.e,0⟩).map (·.1) = some dAt3 := by kernel_rfl
theorem run_at4 : (runTop Tryz.prog tabM G qs 100000 2000 60 [pL,oL,wL,.i .i64 (.ofNat 4)] ⟨.e,0⟩).map (·.1) = some dAt4 := by kernel_rfl

def dAt : Nat → Option D
  | 0 => some dAt0
  | 1 => some dAt1
  | 2 => some dAt2
  | 3 => some dAt3
  | 4 => some dAt4
  | _ => none

theorem cx_at {k : Nat} {d : D} (hd : dAt k = some d) {args : List D} {hS : AHeap} (ha : mapO (frz hS.get 30) args = some [pL,oL,wL,.i .i64 (.ofNat k)]) : CX Tryz.prog G 60 args hS d hS := by
  unfold dAt at hd
  split at hd
  · cases hd; exact frozen_run tabMOk run_at0 ha (by kernel_rfl)
  · cases hd; exact frozen_run tabMOk run_at1 ha (by kernel_rfl)
  · cases hd; exact frozen_run tabMOk run_at2 ha (by kernel_rfl)
  · cases hd; exact frozen_run tabMOk run_at3 ha (by kernel_rfl)
  · cases hd; exact frozen_run tabMOk run_at4 ha (by kernel_rfl)
  · cases hd

def pAt : Prim := fun args t n k =>
  match args with
  | [p,o,w,.i .i64 (.ofNat m)] =>
    match dAt m with
    | some d => bC (chk t.get [p,o,w] [pL,oL,wL]) (k d t n)
    | none => none
  | _ => none

theorem pAt_ok : EntOk Tryz.prog G 60 (.prim pAt) := by
  intro args t n k r h
  unfold pAt at h
  split at h
  · rename_i p o w m
    split at h
    · rename_i d hd
      obtain ⟨h1,h2⟩ := bC_some h
      have h3 := mapO_app (chk_some h1) (show frz t.get 30 (.i .i64 (.ofNat m)) = some (.i .i64 (.ofNat m)) from rfl)
      exact ⟨d,⟨t,n⟩,cx_at hd h3,h2⟩
    · cases h
  · cases h
end
end Go.Proofs.YtelnkadnphephaaGreatDoor.T
end
