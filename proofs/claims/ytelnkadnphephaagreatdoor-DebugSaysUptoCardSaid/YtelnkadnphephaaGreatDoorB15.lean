/- D12: DebugSays: what the call gives, for every program and moment within the bound. Condition: the arguments' bulk is at most 1048576. -/
import Derived.Test.YtelnkadnphephaaGreatDoorB14
import Derived.Test.YtelnkadnphephaaGreatDoorCards
import Derived.Test.YtelnkadnphephaaGreatDoorTie
import Derived.ProofKit
import Derived.OpenShut
import Derived.Deep.DeepHandedRow
set_option linter.unusedVariables false
set_option linter.unusedSimpArgs false
noncomputable section
namespace Go.Proofs.YtelnkadnphephaaGreatDoor.T
open Go Go.Abs Go.ChangeShapes Go.WideShapes Go.RowKit Go.ChangeAt
noncomputable section

theorem laid_all : ("paddock/lines.short",Rows.laid_paddock_lines_short) ∈ Rows.debugSaysUptoRow.laid ∧ ("internal/strconv.uint64pow10",Rows.laid_internal_strconv_uint64pow10) ∈ Rows.debugSaysUptoRow.laid ∧ ("paddock/posix.none",Rows.laid_paddock_posix_none) ∈ Rows.debugSaysUptoRow.laid ∧ ("paddock/match.none",Rows.laid_paddock_match_none) ∈ Rows.debugSaysUptoRow.laid ∧ ("paddock/posix.left",Rows.laid_paddock_posix_left) ∈ Rows.debugSaysUptoRow.laid := by
  simp [Rows.debugSaysUptoRow]

theorem noHandles : (Rows.debugSaysUptoRow.laid.filter fun x => x.2.handleName?.isSome) = [] := by kernel_rfl
theorem e_empty : (S.mk (Tr.e : Tr AObj) 0).h = empty := AHeap.eq (fun _ => rfl) rfl
theorem fr_e : Fr (Tr.e : Tr AObj) 0 := fun _ _ => rfl

theorem R_aggT {I : Nat → Prop} {μ : Emb} {w : World} {Ds : List D} {xs : Array Value} (h : Rl I μ w Ds xs.toList) (h1 : ∀ c ∈ Ds,c.one = true) : R I μ w (.agg Ds) (.agg xs) := by
  have e : Ds.length = xs.size := by simpa using Rl_len h
  refine .agg Ds xs e h1 fun j hj => ?_
  obtain ⟨v,hv,hr⟩ := Rl_get h j Ds[j] (by simp [hj])
  have hx : xs[j]'(e ▸ hj) = v := by
    have h2 := (List.getElem?_eq_some_iff.1 hv).2
    simpa using h2
  rw [hx]; exact hr

set_option maxRecDepth 100000 in
theorem contract (H : Type) (enc : TypeId × Value → H) (W : World) (base : Nat) (args : Array Value) (ds gs : List (DataW H)) (before : List MemPlace)
    (hval : ∀ (j : Nat) t v,Tryz.f5.params[j]? = some t → args[j]? = some v → Value.okWide Tryz.prog W .any base t v)
    (hW : DataW.Whole enc Tryz.prog Tryz.f5.params.toList Rows.debugSaysSpec.vars false W args.toList ds gs before) (hk : Rows.uptoSmall H (ds ++ gs) = true) (hL : laidMetH Tryz.prog Rows.debugSaysUptoRow.laid W) :
    Calls Tryz.prog 5 args W fun e W' => ∃ v,e = .returned v ∧ Rows.debugSaysSpec.post enc Tryz.prog Tryz.f5 false true false false W args v W' := by
  have hW' := hW
  obtain ⟨p,q,hA0,hV,rfl,hfz,hnd⟩ := hW
  have hA : DataW.TrodAll enc Tryz.prog W 0 (fun _ => true) true Tryz.f5.params.toList args.toList ds p := hA0
  rw [Tryz.params5] at hA hval
  obtain ⟨v0,vs0,d0,ds0,p0,q0,hargs,rfl,rfl,h0,r0⟩ := trodAll_cons hA
  obtain ⟨v1,vs1,d1,ds1,p1,q1,rfl,rfl,rfl,h1,r1⟩ := trodAll_cons r0
  obtain ⟨rfl,rfl,rfl⟩ := trodAll_nil r1
  obtain rfl : args = #[v0,v1] := by cases args; simp_all
  obtain ⟨x0,rfl,hx0⟩ := okWide_struct Tryz.underlying39 (hval 0 39 v0 rfl rfl)
  obtain ⟨x1,rfl,hx1⟩ := okWide_struct Tryz.underlying43 (hval 1 43 v1 rfl rfl)
  obtain ⟨rfl,rfl⟩ := trodVars_none hV
  have hI : ∀ b,b < W.heap.size → (fun b => b < W.heap.size) b := fun _ h => h
  obtain ⟨f0,hf0⟩ := h0
  obtain ⟨f1,hf1⟩ := h1
  obtain ⟨Ds0,e0,l0⟩ := dcs_ex tyS_ok f0 39 _ d0 p0 (by decide) hf0
  obtain ⟨Ds1,e1,l1⟩ := dcs_ex tyS_ok f1 43 _ d1 p1 (by decide) hf1
  rw [cells39] at l0
  rw [cells43] at l1
  obtain ⟨k0,o0⟩ := R_of_trod (I := fun b => b < W.heap.size) (μ := fun _ => none) hI f0 f0 39 _ d0 p0 Ds0 hf0 e0
  obtain ⟨k1,o1⟩ := R_of_trod (I := fun b => b < W.heap.size) (μ := fun _ => none) hI f1 f1 43 _ d1 p1 Ds1 hf1 e1
  unfold Rows.uptoSmall at hk
  have hb := of_decide_eq_true hk
  clear hk
  simp only [List.append_nil,Rows.uptoBulkAll] at hb
  obtain ⟨dst,dq,sl,ql,done,next,line,pat,hold,over,stop,code,rfl,M⟩ := pm_of hf0 e0 hf1 e1 l1 (by omega) (by omega)
  have rp : R (fun b => b < W.heap.size) (fun _ => none) W (.agg Ds0) (.agg x0) := R_aggT k0 o0
  have rm : R (fun b => b < W.heap.size) (fun _ => none) W (.agg (momL done next line pat hold dq over stop code)) (.agg x1) := R_aggT k1 o1
  have hl2 : Rl (fun b => b < W.heap.size) (fun _ => none) W [.agg Ds0,.agg (momL done next line pat hold dq over stop code)] [.agg x0,.agg x1] := .cons rp (.cons rm .nil)
  have hLL : laidMet Tryz.prog Rows.debugSaysUptoRow.laid W := by
    unfold laidMetH at hL
    rw [noHandles] at hL
    exact hL
  obtain ⟨pl,hlv,_⟩ := hLL
  have H0 : HR G (fun b => b < W.heap.size) (fun _ => none) empty W :=
    ⟨fun _ h => h,fun l o hg => by simp [empty] at hg,fun l l' o o' b base base' hg => by simp [empty] at hg,fun _ _ => rfl,glob_ok hI hlv laid_all.1 laid_all.2.1 laid_all.2.2.1 laid_all.2.2.2.1 laid_all.2.2.2.2⟩
  obtain ⟨n',_,hx⟩ := qc5 (over := over) M l0 .e 0 fr_e
  rw [e_empty] at hx
  have hbod : bodied Tryz.prog 5 = true := by kernel_rfl
  rcases hx _ _ W _ H0 hl2 with ⟨_,hc⟩ | ⟨v,w',hen,_⟩
  · refine hc.mono fun e W' he => ?_
    cases e with
    | panicked _ => exact he.elim
    | outgrown => exact he.elim
    | returned v =>
      obtain ⟨μ',E,_,rv⟩ := he
      have hv : v = .bool true := R_b rv
      subst hv
      have hbel := below_of E
      have hlt : ∀ x ∈ p0 ++ (p1 ++ []),x.block < W.heap.size := fun x hx => hW'.lt x (by simpa using hx)
      have hT : ∀ t ∈ Tryz.f5.params.toList,Tryz.prog.readableRec t = true ∧ t < Tryz.prog.types.size := by
        rw [Tryz.params5]
        intro t ht
        simp only [List.mem_cons,List.mem_nil_iff,or_false] at ht
        rcases ht with rfl | rfl
        · exact ⟨by kernel_rfl,of_decide_eq_true (by kernel_rfl)⟩
        · exact ⟨by kernel_rfl,of_decide_eq_true (by kernel_rfl)⟩
      have hres : Tryz.f5.resultTypes = #[4] := by kernel_rfl
      refine ⟨_,rfl,[d0,d1],[],_,[],_,[],hW',?_,trodAll_below (by kernel_rfl) hbel hT hA0 hlt,rfl,kept_of hbel _,fun hh => by cases hh⟩
      rw [hres]
      exact trodAll_cons_mk (shut_bool Tryz.underlying4 true) rfl
  · rw [bodied_enter hbod] at hen; cases hen
end
end Go.Proofs.YtelnkadnphephaaGreatDoor.T
end
