/- D14: DebugSays: a world that meets the row, and the row's statement. Conditions: the arguments' bulk is at most 1048576; the listed variables hold what they are laid with. -/
import Derived.Test.YtelnkadnphephaaGreatDoorB16
import Derived.WalkKit
import Derived.Lib.LaidTab
import Derived.Lib.LaidIn
set_option linter.unusedVariables false
set_option linter.unusedSimpArgs false
noncomputable section
namespace Go.Proofs.YtelnkadnphephaaGreatDoor
namespace T
open Go Go.ChangeShapes Go.WideShapes Go.ChangeAt Go.RowKit

theorem own : ownKnob Tryz.prog.godebug = none := by kernel_rfl

mutual
def flatD : DataW Unit → List Value
  | .lit (.bool b) => [.bool b]
  | .lit (.int k n) => [.int k n]
  | .lit (.string s) => [.string ⟨s.toArray⟩]
  | .agg ps => flatDs ps
  | _ => []
def flatDs : List (DataW Unit) → List Value
  | [] => []
  | d :: r => flatD d ++ flatDs r
end

def laidCells : Nat → Option (List Value)
  | 0 => some (flatD Rows.laid_paddock_lines_short)
  | 2 => some (flatD Rows.laid_internal_strconv_uint64pow10)
  | 3 => some (flatD Rows.laid_paddock_posix_none)
  | 4 => some (flatD Rows.laid_math_bits_deBruijn32tab)
  | 5 => some (flatD Rows.laid_math_bits_deBruijn64tab)
  | 6 => some (flatD Rows.laid_unicode_utf8_first)
  | 7 => some (flatD Rows.laid_unicode_utf8_acceptRanges)
  | 8 => some (flatD Rows.laid_paddock_match_none)
  | 9 => some (flatD Rows.laid_paddock_posix_left)
  | _ => none

def relay (os : List Obj) : Nat → List Obj :=
  match os with
  | [] => fun _ => []
  | o :: r => fun g => (match laidCells g,o with
    | some cs,.cells _ t frozen => .cells cs.toArray t frozen
    | _,o => o) :: relay r (g + 1)

noncomputable def laidWorld (os : Os) : World :=
  { World.holding Tryz.prog os ⟨#[],#[],[]⟩ with heap := (relay (World.holding Tryz.prog os ⟨#[],#[],[]⟩).heap.toList 0).toArray }

def wargs : Array Value := #[.agg #[.slice none 0 0,.bool false,.slice none 0 0],.agg #[.int .i64 0,.int .i64 0,.int .i64 0,.string ⟨#[]⟩,.string ⟨#[]⟩,.slice none 0 0,.bool false,.int .u8 0,.int .i64 0]]

theorem piece0 (os : Os) : LaidIn Tryz.prog ((laidWorld os).forCall (fun _ _ => 0) ⟨#[],wargs,[]⟩).memory [("math/bits.deBruijn32tab",Rows.laid_math_bits_deBruijn32tab),("math/bits.deBruijn64tab",Rows.laid_math_bits_deBruijn64tab),("internal/strconv.uint64pow10",Rows.laid_internal_strconv_uint64pow10),("unicode/utf8.acceptRanges",Rows.laid_unicode_utf8_acceptRanges)] [4,5,2,7] :=
  LaidIn.of_run [4,5,2,7] 8 (by kernel_rfl) (by kernel_rfl) (by kernel_rfl) (by kernel_rfl)
theorem piece1 (os : Os) : LaidIn Tryz.prog ((laidWorld os).forCall (fun _ _ => 0) ⟨#[],wargs,[]⟩).memory [("paddock/posix.none",Rows.laid_paddock_posix_none),("paddock/posix.left",Rows.laid_paddock_posix_left),("paddock/match.none",Rows.laid_paddock_match_none),("paddock/lines.short",Rows.laid_paddock_lines_short)] [3,9,8,0] :=
  LaidIn.of_run [3,9,8,0] 8 (by kernel_rfl) (by kernel_rfl) (by kernel_rfl) (by kernel_rfl)
theorem piece2 (os : Os) : LaidIn Tryz.prog ((laidWorld os).forCall (fun _ _ => 0) ⟨#[],wargs,[]⟩).memory [("unicode/utf8.first",Rows.laid_unicode_utf8_first)] [6] :=
  LaidIn.of_run [6] 8 (by kernel_rfl) (by kernel_rfl) (by kernel_rfl) (by kernel_rfl)
theorem laid_met (os : Os) : laidMet Tryz.prog Rows.debugSaysUptoRow.laid ((laidWorld os).forCall (fun _ _ => 0) ⟨#[],wargs,[]⟩).memory :=
  (((piece0 os).append (piece1 os) (by kernel_rfl)).append (piece2 os) (by kernel_rfl)).met

theorem reads (os : Os) {H : Type} (enc : TypeId × Value → H) : ∃ places,DataW.whole enc Tryz.prog ((laidWorld os).forCall (fun _ _ => 0) ⟨#[],wargs,[]⟩).memory Tryz.f5.params.toList Rows.debugSaysSpec.vars false wargs.toList 8 = some ([.agg [.nil,.lit (.bool false),.nil],.agg [.lit (.int .i64 0),.lit (.int .i64 0),.lit (.int .i64 0),.lit (.string []),.lit (.string []),.nil,.lit (.bool false),.lit (.int .u8 0),.lit (.int .i64 0)]],[],places) :=
  ⟨[],by kernel_rfl⟩

set_option maxRecDepth 100000 in
theorem liftedUpto (os : Os) (started : os.Started) (H : Type) (enc : TypeId × Value → H) (F : Stop.Interp) :
    ReturnsInHanded {} Tryz.checked os 5 .any ((Rows.OpenSpec.upto Rows.debugSaysSpec).preRow enc Tryz.prog Tryz.f5 Rows.debugSaysUptoRow.domain false Rows.debugSaysUptoRow.laid) (((Rows.OpenSpec.upto Rows.debugSaysSpec).at F).post enc Tryz.prog Tryz.f5 false true false false) := by
  obtain ⟨places,hx⟩ := reads os enc
  refine returnsInHanded_of_row (C := Tryz.checked) (s := Rows.OpenSpec.upto Rows.debugSaysSpec) own started (by kernel_rfl) Tryz.func5
    (witness_row_at (enc := enc) (C := Tryz.checked) false (laidWorld os) wargs rfl (by kernel_rfl) (by kernel_rfl) (by kernel_rfl)
      (OpenSpec.preRow_of_cond 8 hx (by kernel_rfl) (fun k hk => by cases hk; kernel_rfl) (by kernel_rfl) (laid_met os))) ?_
  intro W base args ds gs before hval hW _ hcond _ hL _ _
  exact contract H enc W base args ds gs before hval hW (hcond _ rfl) hL

theorem saidUpto : Rows.DebugSaysUptoSaid :=
  OpenClaim.holds_of_cond 5 Tryz.f5 rfl rfl rfl rfl rfl rfl rfl ⟨rfl,rfl,rfl,rfl,rfl⟩ rfl rfl rfl rfl rfl (by kernel_rfl) Tryz.func5 facts
    (of_decide_eq_true (by kernel_rfl)) (by unfold Func.isWrapper; first | (rw [if_pos (by decide +kernel)]; kernel_rfl) | (rw [if_neg (by decide +kernel)]; exact ⟨rfl,rfl⟩))
    (fun os started H enc _ F => by rw [OpenClaim.pre_eq_preRow]; exact liftedUpto os started H enc F)

end T
end Go.Proofs.YtelnkadnphephaaGreatDoor
end
