/- PC: The fixed program of lives() of layer 27 is right (program.Check), wherever it lies. No condition. -/
import Derived.Test.YtelnkadnphephaaGreatDoorB08
set_option linter.unusedVariables false
set_option linter.unusedSimpArgs false
noncomputable section
namespace Go.Proofs.YtelnkadnphephaaGreatDoor.T
open Go Go.Abs
noncomputable section
def pL : D := (.agg [(.fz 55 [(.agg [(.i .i64 (.ofNat 0)),(.i .u8 (.ofNat 0)),(.i .i64 (.ofNat 0)),(.i .i64 (.ofNat 0)),(.s (bs [])),(.b false),(.b false),(.i .u8 (.ofNat 0)),(.i .u64 (.ofNat 0)),(.i .u64 (.ofNat 0)),(.i .u64 (.ofNat 0)),(.i .u64 (.ofNat 0)),(.i .i64 (.ofNat 0)),(.i .i64 (.ofNat 0)),(.i .i64 (.ofNat 0)),.nils,(.i .u8 (.ofNat 0)),(.i .i64 (.ofNat 0)),(.i .i64 (.ofNat 0)),(.s (bs [])),(.b false),(.b false),(.i .u8 (.ofNat 0)),(.i .u64 (.ofNat 0)),(.i .u64 (.ofNat 0)),(.i .u64 (.ofNat 0)),(.i .u64 (.ofNat 0)),(.i .i64 (.ofNat 0)),(.i .i64 (.ofNat 0)),(.i .i64 (.ofNat 0)),.nils,(.b false),(.i .u8 (.ofNat 112)),(.s (bs [])),(.s (bs [])),(.i .i64 (.ofNat 0)),(.s (bs [])),(.b false),(.b false),(.i .u8 (.ofNat 0)),(.i .u64 (.ofNat 0)),(.i .u64 (.ofNat 0)),(.i .u64 (.ofNat 0)),(.i .u64 (.ofNat 0)),(.i .i64 (.ofNat 0)),(.i .i64 (.ofNat 0)),(.i .i64 (.ofNat 0)),.nils,.nils,(.i .i64 (.ofNat 0)),(.b false),(.b false),(.b false),(.s (bs [])),(.i .i64 (.ofNat 0))]),(.agg [(.i .i64 (.ofNat 2)),(.i .u8 (.ofNat 0)),(.i .i64 (.ofNat 0)),(.i .i64 (.ofNat 0)),(.s (bs [])),(.b false),(.b false),(.i .u8 (.ofNat 0)),(.i .u64 (.ofNat 0)),(.i .u64 (.ofNat 0)),(.i .u64 (.ofNat 0)),(.i .u64 (.ofNat 0)),(.i .i64 (.ofNat 0)),(.i .i64 (.ofNat 0)),(.i .i64 (.ofNat 0)),.nils,(.i .u8 (.ofNat 0)),(.i .i64 (.ofNat 0)),(.i .i64 (.ofNat 0)),(.s (bs [])),(.b false),(.b false),(.i .u8 (.ofNat 0)),(.i .u64 (.ofNat 0)),(.i .u64 (.ofNat 0)),(.i .u64 (.ofNat 0)),(.i .u64 (.ofNat 0)),(.i .i64 (.ofNat 0)),(.i .i64 (.ofNat 0)),(.i .i64 (.ofNat 0)),.nils,(.b false),(.i .u8 (.ofNat 115)),(.s (bs [])),(.s (bs [])),(.i .i64 (.ofNat 0)),(.s (bs [97])),(.b false),(.b false),(.i .u8 (.ofNat 2)),(.i .u64 (.ofNat 0)),(.i .u64 (.ofNat 8589934592)),(.i .u64 (.ofNat 0)),(.i .u64 (.ofNat 0)),(.i .i64 (.ofNat 0)),(.i .i64 (.ofNat 0)),(.i .i64 (.ofNat 0)),.nils,(.fz 3 [(.agg [(.i .u8 (.ofNat 1)),(.i .i64 (.ofNat 0)),(.s (bs [98]))])]),(.i .i64 (.ofNat 0)),(.b false),(.b false),(.b false),(.s (bs [])),(.i .i64 (.ofNat 0))]),(.agg [(.i .i64 (.ofNat 9)),(.i .u8 (.ofNat 0)),(.i .i64 (.ofNat 0)),(.i .i64 (.ofNat 0)),(.s (bs [])),(.b false),(.b false),(.i .u8 (.ofNat 0)),(.i .u64 (.ofNat 0)),(.i .u64 (.ofNat 0)),(.i .u64 (.ofNat 0)),(.i .u64 (.ofNat 0)),(.i .i64 (.ofNat 0)),(.i .i64 (.ofNat 0)),(.i .i64 (.ofNat 0)),.nils,(.i .u8 (.ofNat 0)),(.i .i64 (.ofNat 0)),(.i .i64 (.ofNat 0)),(.s (bs [])),(.b false),(.b false),(.i .u8 (.ofNat 0)),(.i .u64 (.ofNat 0)),(.i .u64 (.ofNat 0)),(.i .u64 (.ofNat 0)),(.i .u64 (.ofNat 0)),(.i .i64 (.ofNat 0)),(.i .i64 (.ofNat 0)),(.i .i64 (.ofNat 0)),.nils,(.b false),(.i .u8 (.ofNat 61)),(.s (bs [])),(.s (bs [])),(.i .i64 (.ofNat 0)),(.s (bs [])),(.b false),(.b false),(.i .u8 (.ofNat 0)),(.i .u64 (.ofNat 0)),(.i .u64 (.ofNat 0)),(.i .u64 (.ofNat 0)),(.i .u64 (.ofNat 0)),(.i .i64 (.ofNat 0)),(.i .i64 (.ofNat 0)),(.i .i64 (.ofNat 0)),.nils,.nils,(.i .i64 (.ofNat 0)),(.b false),(.b false),(.b false),(.s (bs [])),(.i .i64 (.ofNat 0))])]),(.b false),.nils])
def oL : D := (.agg [(.b false),(.b false),(.b false),(.b false),(.s (bs []))])
def wL : D := (.agg [(.fz 3 [(.agg [(.s (bs [45])),(.s (bs [97,10,98,10])),(.b false)])]),.nils])
def dOk : D := (.tup [(.i .i64 (.ofNat 0)),(.i .i64 (.ofNat 0))])
theorem run_chkF : (runTop Tryz.prog tabT G qs 100000 2000 68 [pL,.b false] ⟨.e,0⟩).map (·.1) = some dOk := by kernel_rfl
theorem run_chkT : (runTop Tryz.prog tabT G qs 100000 2000 68 [pL,.b true] ⟨.e,0⟩).map (·.1) = some dOk := by kernel_rfl

def chk (get : Nat → Option AObj) (args lits : List D) : Bool :=
  match mapO (frz get 30) args with
  | some l => listEq (D.eqb 30) l lits
  | none => false

theorem chk_some {get : Nat → Option AObj} {args lits : List D} (h : chk get args lits = true) : mapO (frz get 30) args = some lits := by
  unfold chk at h
  split at h
  · rename_i l hl
    rw [hl,listEq_eq (fun _ _ => D.eqb_eq 30) h]
  · cases h

theorem mapO_app {α β : Type} {f : α → Option β} : ∀ {l : List α} {r : List β} {a : α} {b : β},mapO f l = some r → f a = some b → mapO f (l ++ [a]) = some (r ++ [b])
  | [],r,a,b,h,hb => by simp only [mapO,Option.some.injEq] at h; subst h; simp [mapO,hb]
  | x :: l,r,a,b,h,hb => by
    simp only [mapO] at h
    split at h
    · cases h
    · rename_i c hc
      split at h
      · cases h
      · rename_i r' hr'
        simp only [Option.some.injEq] at h
        subst h
        simp only [List.cons_append,mapO,hc,mapO_app hr' hb]

theorem frozen_run {tab : Tr CEnt} (hT : TabOk Tryz.prog G tab) {f : FuncId} {args lits : List D} {d : D} {hS : AHeap} (h : (runTop Tryz.prog tab G qs 100000 2000 f lits ⟨.e,0⟩).map (·.1) = some d) (ha : mapO (frz hS.get 30) args = some lits) (hd : d.plain 20 = true) : CX Tryz.prog G f args hS d hS := by
  obtain ⟨⟨d',s'⟩,hr,hdd⟩ := Option.map_eq_some_iff.1 h
  simp only at hdd
  subst hdd
  exact CX.frozen G_closed (runTop_sound hT qsOk mixed hr) ha hd

def pCheck : Prim := fun args t n k =>
  match args with
  | [p,.b _] => bC (chk t.get [p] [pL]) (k dOk t n)
  | _ => none

theorem pCheck_ok : EntOk Tryz.prog G 68 (.prim pCheck) := by
  intro args t n k r h
  unfold pCheck at h
  split at h
  · rename_i p x
    obtain ⟨h1,h2⟩ := bC_some h
    have h3 := mapO_app (chk_some h1) (show frz t.get 30 (.b x) = some (.b x) from rfl)
    refine ⟨dOk,⟨t,n⟩,?_,h2⟩
    cases x with
    | false => exact frozen_run tabOk run_chkF h3 (by kernel_rfl)
    | true => exact frozen_run tabOk run_chkT h3 (by kernel_rfl)
  · cases h
end
end Go.Proofs.YtelnkadnphephaaGreatDoor.T
end
