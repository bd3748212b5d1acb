/- S9: SpecTexts: what the call gives, for every argument within the bound. Condition: the arguments' bulk is at most 1048576. -/
import Derived.Test.YtelnkadnphephaaGreatDoorQ09
import Derived.Test.YtelnkadnphephaaGreatDoorCards
import Derived.Test.YtelnkadnphephaaGreatDoorTie
import Derived.ProofKit
import Derived.OpenShut
import Derived.Deep.DeepHandedRow
set_option linter.unusedVariables false
set_option linter.unusedSimpArgs false
noncomputable section
namespace Go.Proofs.YtelnkadnphephaaGreatDoor.T
open Go Go.Abs Go.ChangeShapes Go.WideShapes Go.RowKit Go.ChangeAt
noncomputable section

instance : Inhabited Ef := ⟨⟨0, [], []⟩⟩

def efData {H : Type} (e : Ef) : DataW H := .agg [.lit (.int .u8 e.k), .lit (.string e.nm), .lit (.string e.tx)]

theorem open_effs {H : Type} {enc : TypeId × Value → H} {W : World} {base : Nat} {spare : Nat → Bool} {held : Bool} {fuel : Nat} {cs : List Value} {x : DataW H × List MemPlace} (h : DataW.trod enc Tryz.prog W base spare held fuel 30 cs = some x) :
    ∃ es : List Ef, (x.1 = .nil ∧ es = []) ∨ ∃ sp, x.1 = .slice (es.map efData) sp := by
  rcases Deep.open_slice Tryz.underlying30 h with ⟨_, rfl⟩ | ⟨a, len, cap, m, n, Dd, Pl, rfl, hb, hl, hm, hmm, rfl, hx⟩
  · exact ⟨[], .inl ⟨rfl, rfl⟩⟩
  · have hle : len ≤ m := by rw [hmm]; split <;> omega
    have each : ∀ i, i < len → ∃ e : Ef, Dd i = efData e := by
      intro i hi
      obtain ⟨cs', _, h2⟩ := hx i (by omega)
      obtain ⟨xs, n', _, h3, _, h5, h6⟩ := DataW.trod_struct Tryz.underlying75 h2
      match xs, h5 with
      | [y0, y1, y2], _ =>
        obtain ⟨k, _, e0, _⟩ := DataW.trod_int Tryz.underlying31 (h6 0 _ rfl)
        obtain ⟨s1, _, e1, _⟩ := DataW.trod_string Tryz.underlying9 (h6 1 _ rfl)
        obtain ⟨s2, _, e2, _⟩ := DataW.trod_string Tryz.underlying9 (h6 2 _ rfl)
        have h3' := congrArg Prod.fst h3
        refine ⟨⟨k, s1.data.toList, s2.data.toList⟩, ?_⟩
        simp only [List.map_cons, List.map_nil, e0, e1, e2] at h3'
        exact h3'
    obtain ⟨g, hg⟩ := Deep.choose_lt (α := Ef) (p := fun i e => Dd i = efData e) each (n := len)
    refine ⟨(List.range len).map g, .inr ⟨(List.range (m - len)).map fun j => Dd (len + j), ?_⟩⟩
    show DataW.slice _ _ = _
    congr 1
    rw [List.map_map]
    exact List.map_congr_left fun i hi => hg i (List.mem_range.1 hi)

theorem dcs_effs {H : Type} (es : List Ef) (sp : List (DataW H)) : dcs Tryz.prog 3 30 (.slice (es.map efData) sp) = some [.fz 3 (es.map Ef.d)] := by
  have c75 : Tryz.prog.cellsOf 75 = 3 := by kernel_rfl
  have c31 : Tryz.prog.cellsOf 31 = 1 := by kernel_rfl
  have c9 : Tryz.prog.cellsOf 9 = 1 := by kernel_rfl
  have one : ∀ e : Ef, dcs Tryz.prog 2 75 (efData e : DataW H) = some e.cs := by
    intro e
    simp [dcs, efData, Tryz.underlying75, Tryz.underlying31, Tryz.underlying9, c75, offsOk, Ef.cs]
  have all : ∀ l : List Ef, (l.map efData).mapM (dcs (H := H) Tryz.prog 2 75) = some (l.map Ef.cs) := by
    intro l
    induction l with
    | nil => rfl
    | cons e r ih => simp only [List.map_cons, List.mapM_cons, one, ih]; rfl
  have : dcs Tryz.prog 3 30 (.slice (es.map efData) sp) = (if Tryz.prog.cellsOf 75 = 0 then none else ((es.map efData).mapM (dcs (H := H) Tryz.prog 2 75)).map fun l => [D.fz (Tryz.prog.cellsOf 75) (l.map .agg)]) := by
    conv => lhs; unfold dcs
    rw [Tryz.underlying30]
  rw [this, all, c75]
  simp [Ef.d, Function.comp_def]

theorem bulk_effs {H : Type} : ∀ es : List Ef, es.length + lenOf es ≤ Rows.uptoBulkAll (es.map (efData (H := H)))
  | [] => Nat.zero_le _
  | e :: r => by
    have ih := bulk_effs (H := H) r
    have h1 : Rows.uptoBulkAll ((e :: r).map (efData (H := H))) = Rows.uptoBulk (efData (H := H) e) + Rows.uptoBulkAll (r.map (efData (H := H))) := by
      rw [List.map_cons, Rows.uptoBulkAll]
    have h2 : Rows.uptoBulk (efData (H := H) e) = e.nm.length + e.tx.length + 4 := by
      simp only [efData, Rows.uptoBulk, Rows.uptoBulkAll]; omega
    rw [h1, h2, List.length_cons, lenOf]; omega

theorem laid_all : ("paddock/lines.short", Rows.laid_paddock_lines_short) ∈ Rows.specTextsUptoRow.laid ∧ ("paddock/posix.none", Rows.laid_paddock_posix_none) ∈ Rows.specTextsUptoRow.laid ∧ ("paddock/match.none", Rows.laid_paddock_match_none) ∈ Rows.specTextsUptoRow.laid ∧ ("paddock/posix.left", Rows.laid_paddock_posix_left) ∈ Rows.specTextsUptoRow.laid := by
  simp [Rows.specTextsUptoRow]

theorem noHandles : (Rows.specTextsUptoRow.laid.filter fun x => x.2.handleName?.isSome) = [] := by kernel_rfl

set_option maxRecDepth 100000 in
theorem contract (H : Type) (enc : TypeId × Value → H) (W : World) (base : Nat) (args : Array Value) (ds gs : List (DataW H)) (before : List MemPlace)
    (hval : ∀ (j : Nat) t v, Tryz.f4.params[j]? = some t → args[j]? = some v → Value.okWide Tryz.prog W .any base t v)
    (hW : DataW.Whole enc Tryz.prog Tryz.f4.params.toList Rows.specTextsSpec.vars false W args.toList ds gs before) (hk : Rows.uptoSmall H (ds ++ gs) = true) (hL : laidMetH Tryz.prog Rows.specTextsUptoRow.laid W) :
    Calls Tryz.prog 4 args W fun e W' => ∃ v, e = .returned v ∧ Rows.specTextsSpec.post enc Tryz.prog Tryz.f4 false true false false W args v W' := by
  have hW' := hW
  obtain ⟨p, q, hA0, hV, rfl, hfz, hnd⟩ := hW
  have hA : DataW.TrodAll enc Tryz.prog W 0 (fun _ => true) true Tryz.f4.params.toList args.toList ds p := hA0
  rw [Tryz.params4] at hA hval
  obtain ⟨v0, vs0, d0, ds0, p0, q0, hargs, rfl, rfl, h0, r0⟩ := trodAll_cons hA
  obtain ⟨v1, vs1, d1, ds1, p1, q1, rfl, rfl, rfl, h1, r1⟩ := trodAll_cons r0
  obtain ⟨v2, vs2, d2, ds2, p2, q2, rfl, rfl, rfl, h2, r2⟩ := trodAll_cons r1
  obtain ⟨rfl, rfl, rfl⟩ := trodAll_nil r2
  obtain rfl : args = #[v0, v1, v2] := by cases args; simp_all
  obtain ⟨a0, len, cap, rfl⟩ := okWide_slice Tryz.underlying30 (hval 0 30 v0 rfl rfl)
  obtain ⟨n1, rfl⟩ := okWide_int Tryz.underlying31 (hval 1 31 v1 rfl rfl)
  obtain ⟨s2, rfl⟩ := okWide_string Tryz.underlying9 (hval 2 9 v2 rfl rfl)
  obtain ⟨rfl, rfl⟩ := trodVars_none hV
  -- the arguments' data
  have hI : ∀ b, b < W.heap.size → (fun b => b < W.heap.size) b := fun _ h => h
  have hmax : maxLen ≤ maxN := by decide
  obtain ⟨f0, hf0⟩ := h0
  obtain ⟨f1, hf1⟩ := h1
  obtain ⟨f2, hf2⟩ := h2
  obtain ⟨n1', e1, x1, _⟩ := DataW.trod_int Tryz.underlying31 hf1
  obtain ⟨s2', e2, x2, hs2⟩ := DataW.trod_string Tryz.underlying9 hf2
  have ev1 : n1 = n1' := by simpa [Value.cells] using e1
  have ev2 : s2 = s2' := by simpa [Value.cells] using e2
  subst ev1 ev2
  obtain ⟨es, hes⟩ := open_effs hf0
  unfold Rows.uptoSmall at hk
  have hb := of_decide_eq_true hk
  clear hk
  have hsize : es.length + lenOf es ≤ 1048576 := by
    simp only [List.append_nil, Rows.uptoBulkAll] at hb
    rcases hes with ⟨_, rfl⟩ | ⟨sp, hd⟩
    · simp [lenOf]
    · have h3 := bulk_effs (H := H) es
      simp only at hd
      rw [hd, Rows.uptoBulk] at hb
      omega
  have r0 : R (fun b => b < W.heap.size) (fun _ => none) W (.fz 3 (es.map Ef.d)) (.slice a0 len cap) := by
    rcases hes with ⟨hd, rfl⟩ | ⟨sp, hd⟩
    · rcases DataW.trod_slice Tryz.underlying30 hf0 with ⟨hc, _⟩ | ⟨a, len', cap', elems, rest, m, _, hc, hx, _⟩
      · have : Value.slice a0 len cap = .slice none 0 0 := by simpa [Value.cells] using hc
        rw [this]
        exact .fz0 3 none 0 (Nat.zero_le _)
      · rw [hx] at hd; simp at hd
    · have hd' : d0 = .slice (es.map efData) sp := hd
      subst hd'
      obtain ⟨k1, _⟩ := R_of_trod (I := fun b => b < W.heap.size) (μ := fun _ => none) hI 3 f0 30 _ _ p0 _ hf0 (dcs_effs es sp)
      have : (Value.slice a0 len cap).cells.toList = [Value.slice a0 len cap] := rfl
      rw [this] at k1
      cases k1 with
      | cons a _ => exact a
  have rs : R (fun b => b < W.heap.size) (fun _ => none) W (.s s2.data.toList) (.string s2) := by
    have e : s2 = ⟨s2.data.toList.toArray⟩ := by cases s2; simp
    conv => rhs; rw [e]
    exact .s _ (by simp only [Array.length_toList]; exact Nat.le_trans hs2 hmax)
  have hl4 : Rl (fun b => b < W.heap.size) (fun _ => none) W [.fz 3 (es.map Ef.d), .i .u8 n1, .s s2.data.toList] [.slice a0 len cap, .int .u8 n1, .string s2] := .cons r0 (.cons (.i _ _) (.cons rs .nil))
  have hLL : laidMet Tryz.prog Rows.specTextsUptoRow.laid W := by
    unfold laidMetH at hL
    rw [noHandles] at hL
    exact hL
  obtain ⟨pl, hlv, _⟩ := hLL
  have H0 : HR G (fun b => b < W.heap.size) (fun _ => none) empty W :=
    ⟨fun _ h => h, fun l o hg => by simp [empty] at hg, fun l l' o o' b base base' hg => by simp [empty] at hg, fun _ _ => rfl, glob_ok hI hlv laid_all.1 laid_all.2.1 laid_all.2.2.1 laid_all.2.2.2⟩
  obtain ⟨H', hx⟩ := cx_specTexts (es := es) (by omega) (by unfold room; omega) n1 s2.data.toList
  have hbod : bodied Tryz.prog 4 = true := by kernel_rfl
  rcases hx _ _ W _ H0 hl4 with ⟨_, hc⟩ | ⟨v, w', hen, _⟩
  · refine hc.mono fun e W' he => ?_
    cases e with
    | panicked _ => exact he.elim
    | outgrown => exact he.elim
    | returned v =>
      obtain ⟨μ', E, _, rv⟩ := he
      have hv : v = .bool true := R_b rv
      subst hv
      have hbel := below_of E
      have hlt : ∀ x ∈ p0 ++ (p1 ++ (p2 ++ [])), x.block < W.heap.size := fun x hx => hW'.lt x (by simpa using hx)
      have hT : ∀ t ∈ Tryz.f4.params.toList, Tryz.prog.readableRec t = true ∧ t < Tryz.prog.types.size := by
        rw [Tryz.params4]
        intro t ht
        simp only [List.mem_cons, List.mem_nil_iff, or_false] at ht
        rcases ht with rfl | rfl | rfl
        · exact ⟨by kernel_rfl, of_decide_eq_true (by kernel_rfl)⟩
        · exact ⟨by kernel_rfl, of_decide_eq_true (by kernel_rfl)⟩
        · exact ⟨by kernel_rfl, of_decide_eq_true (by kernel_rfl)⟩
      have hres : Tryz.f4.resultTypes = #[4] := by kernel_rfl
      refine ⟨_, rfl, [d0, d1, d2], [], _, [], _, [], hW', ?_, trodAll_below (by kernel_rfl) hbel hT hA0 hlt, rfl, kept_of hbel _, fun hh => by cases hh⟩
      rw [hres]
      exact trodAll_cons_mk (shut_bool Tryz.underlying4 true) rfl
  · rw [bodied_enter hbod] at hen; cases hen
end
end Go.Proofs.YtelnkadnphephaaGreatDoor.T
end
