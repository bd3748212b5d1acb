/- P1: printed text. No condition.
S2: A strings.Builder, and the program's Text. No condition.
S3: The program's Text of a list of effects. No condition.
S4: Whether two lists of effects are one. No condition.
S5: Effects with neighbours of one place as one: what a round of each Join does. No condition.
S6: Both Joins, and the plain laws of texts. No condition.
TCZ: Names for what comes often in the printed functions. No condition.
TC0: Functions of the program as the abstract machine has them, part 0: printed by a program of this claim's. No condition. -/
import Derived.Test.YtelnkadnphephaaGreatDoorQ03
import Derived.Test.YtelnkadnphephaaGreatDoorProg
import Derived.WalkKit
import Derived.Lib.Builder
import Derived.Lib.UnsafeStr
import Derived.Laws.Externs
import Derived.Shelf.RegionOpenPlain
import Derived.Lib.Bytealg
set_option linter.unusedVariables false
set_option linter.unusedSimpArgs false
noncomputable section
namespace Go.Proofs.YtelnkadnphephaaGreatDoor.T
open Go Go.Abs Go.RowKit

set_option maxHeartbeats 1000000 in
set_option maxRecDepth 100000 in
theorem copyCheck_used (b : Nat) (w : World) (h0 : w.cell? ⟨b, 0, none⟩ = some (.pointer (some ⟨b, 0, none⟩))) :
    Calls Tryz.prog 46 #[.pointer (some ⟨b, 0, none⟩)] w fun e w' => e = .returned (.tuple #[]) ∧ w' = w := by
  have hs : (Tryz.prog.info? 73).map (·.size) = some 2 := by kernel_rfl
  obtain ⟨j, hj, _⟩ := Option.map_eq_some_iff.1 hs
  have mixed : Tryz.prog.follows .mixedOrders = true := by kernel_rfl
  go_enter Tryz.func46, Tryz.ntmps46
  go_wp2
  rw [Lib.run_neq_ptr_same w _ Tryz.underlying70 hj]
  go_wp2
  go_end0
  exact ⟨rfl, rfl⟩

set_option maxHeartbeats 1000000 in
set_option maxRecDepth 100000 in
theorem copyCheck_fresh (b : Nat) (w : World) (h0 : w.cell? ⟨b, 0, none⟩ = some (.pointer none)) (hsh : w.shape? b = some (73, 2)) (hfz : w.frozen? ⟨b, 0, none⟩ = false) :
    Calls Tryz.prog 46 #[.pointer (some ⟨b, 0, none⟩)] w fun e w' => e = .returned (.tuple #[]) ∧ w' = w.setCell ⟨b, 0, none⟩ (.pointer (some ⟨b, 0, none⟩)) := by
  have hs : (Tryz.prog.info? 73).map (·.size) = some 2 := by kernel_rfl
  obtain ⟨j, hj, hjs⟩ := Option.map_eq_some_iff.1 hs
  have mixed : Tryz.prog.follows .mixedOrders = true := by kernel_rfl
  go_enter Tryz.func46, Tryz.ntmps46
  go_wp2
  rw [Lib.run_to_unsafe w ⟨b, 0, none⟩ Tryz.underlying70 Tryz.underlying168 hj (by rw [hjs]; decide) hsh (Nat.zero_lt_succ 1)]
  simp only [Result.andThen]
  rw [Oper.upon_value]
  go_wp2
  rw [run_callFunc_extern Tryz.func76 (by kernel_rfl) (by kernel_rfl) (by kernel_rfl) (e := Extern.AbiNoEscape.same) (by kernel_rfl)]
  rw [Lib.run_noEscape]
  simp only [Result.andThen]
  rw [Oper.upon_value]
  go_wp2
  rw [Lib.run_from_unsafe w ⟨b, 0, none⟩ Tryz.underlying168 Tryz.underlying70 hj hsh (by kernel_rfl)]
  simp only [Result.andThen]
  rw [Oper.upon_value]
  go_wp2
  go_end0
  exact ⟨rfl, rfl⟩

variable {Γ : Nat → D}

theorem cx_copyCheck_used {h : AHeap} {l : Nat} {d : D} (hg : h.get l = some (.cells [.ptr l 0, d] 148)) : CX Tryz.prog Γ 46 [.ptr l 0] h (.tup []) h := by
  refine CX.body Tryz.func46 (by kernel_rfl) (by kernel_rfl) fun I μ w vals H hl => ?_
  obtain ⟨v, vs, rfl, r1, r2⟩ := Rl_cons hl
  have := Rl_nil r2
  subst this
  obtain ⟨b, base, hm, rfl⟩ := R_ptr r1
  obtain ⟨b', base', c, elem, lo, hi, e1, e2, e3, e4, e5, e6, e7, e8⟩ := cells_at H hg
  rw [hm] at e1
  simp only [Option.some.injEq, Prod.mk.injEq] at e1
  obtain ⟨rfl, rfl⟩ := e1
  obtain ⟨rfl, rfl, hsz⟩ := e6.2.1 73 rfl
  obtain ⟨v0, hv0, r0⟩ := e8 0 (by simp)
  obtain ⟨b2, base2, hm2, rfl⟩ := R_ptr r0
  rw [hm] at hm2
  simp only [Option.some.injEq, Prod.mk.injEq] at hm2
  obtain ⟨rfl, rfl⟩ := hm2
  refine (copyCheck_used b w ?_).mono fun e w' he => ?_
  · rw [cell?_of_cells e3]; simpa using hv0
  · obtain ⟨rfl, rfl⟩ := he
    exact ⟨_, rfl, μ, ExtN.refl _ _ _ _, H, tup0⟩

theorem cx_copyCheck_fresh {h : AHeap} {l : Nat} {d : D} (hg : h.get l = some (.cells [.nilp, d] 148)) :
    CX Tryz.prog Γ 46 [.ptr l 0] h (.tup []) { get := fun m => if m = l then some (.cells [.ptr l 0, d] 148) else h.get m, next := h.next } := by
  refine CX.body Tryz.func46 (by kernel_rfl) (by kernel_rfl) fun I μ w vals H hl => ?_
  obtain ⟨v, vs, rfl, r1, r2⟩ := Rl_cons hl
  have := Rl_nil r2
  subst this
  obtain ⟨b, base, hm, rfl⟩ := R_ptr r1
  obtain ⟨b', base', c, elem, lo, hi, e1, e2, e3, e4, e5, e6, e7, e8⟩ := cells_at H hg
  rw [hm] at e1
  simp only [Option.some.injEq, Prod.mk.injEq] at e1
  obtain ⟨rfl, rfl⟩ := e1
  obtain ⟨rfl, rfl, hsz⟩ := e6.2.1 73 rfl
  obtain ⟨rfl, rfl⟩ := e6.1 (by decide)
  obtain ⟨v0, hv0, r0⟩ := e8 0 (by simp)
  have hv0' : v0 = .pointer none := by cases r0; rfl
  subst hv0'
  refine (copyCheck_fresh b w ?_ ?_ ?_).mono fun e w' he => ?_
  · rw [cell?_of_cells e3]; simpa using hv0
  · simp [World.shape?, e3, hsz]
  · simp [World.frozen?, e3]
  · obtain ⟨rfl, rfl⟩ := he
    obtain ⟨k1, k2⟩ := objR_splice H hg (off := 0) (new := [.ptr l 0]) (us := [.pointer (some ⟨b, 0, none⟩)]) hm rfl (by simp) (by simp [D.one]) (fun j hj => by
      have : j = 0 := by simpa using hj
      subst this
      exact ⟨_, rfl, by simpa using R.ptr l 0 b 0 hm⟩)
    obtain ⟨μ', q1, q2, _⟩ := upd_step H hg hm k1 k2
    exact ⟨_, rfl, μ', q1, q2, tup0⟩

set_option maxHeartbeats 2000000 in
set_option maxRecDepth 100000 in
theorem bString (b g cap : Nat) (cb cg : Array Value) (lo hi : Nat) (l : List UInt8) (w : World) (h0 : l ≠ []) (hb : w.heap[b]? = some (.cells cb 73 (lo, hi))) (hb1 : cb[1]? = some (.slice (some ⟨g, 0, none⟩) l.length cap)) (hcap : cap ≠ 0)
    (hg : w.heap[g]? = some (.cells cg 5 (0, 0))) (hn : l.length ≤ cg.size) (hmax : l.length ≤ 9223372036854775807) (hcell : ∀ (j : Nat) (x : UInt8), l[j]? = some x → cg[j]? = some (Value.int .u8 x.toNat)) :
    Calls Tryz.prog 29 #[.pointer (some ⟨b, 0, none⟩)] w fun e w' => e = .returned (.string ⟨l.toArray⟩) ∧ w' = w.drew.freeze ⟨g, 0, none⟩ l.length := by
  have c1 : w.drew.cell? ⟨b, 1, none⟩ = some (.slice (some ⟨g, 0, none⟩) l.length cap) := by
    have : w.drew.heap[b]? = some (.cells cb 73 (lo, hi)) := hb
    rw [Lib.cell_of_heap this]; exact hb1
  have hSD : (Builtin.unsafeSliceData_ #[71] 141 #[.slice (some ⟨g, 0, none⟩) l.length cap]).run Tryz.prog w.drew = .ok (.pointer (some ⟨g, 0, none⟩)) w.drew :=
    Lib.run_unsafeSliceData_row _ _ _ _ _ _ hcap
  have hUS : (Builtin.unsafeString_ #[141, 3] 9 #[.pointer (some ⟨g, 0, none⟩), .int .i64 l.length]).run Tryz.prog w.drew = .ok (.string ⟨l.toArray⟩) (w.drew.freeze ⟨g, 0, none⟩ l.length) := by
    refine Lib.run_unsafeString_row w.drew 141 3 9 5 Tryz.underlying141 (by kernel_rfl) g cg.size (by have hg' : w.drew.heap[g]? = some (.cells cg 5 (0, 0)) := hg; simp [World.shape?, hg']) l h0 hn hmax ?_
    intro j x hx
    have hg' : w.drew.heap[g]? = some (.cells cg 5 (0, 0)) := hg
    have e : (⟨g, 0, none⟩ : Addr).add j = ⟨g, j, none⟩ := by rw [add_off, Nat.zero_add]
    rw [e, Lib.cell_of_heap hg']; exact hcell j x hx
  have mixed : Tryz.prog.follows .mixedOrders = true := by kernel_rfl
  go_enter Tryz.func29, Tryz.ntmps29
  go_wp2
  go_region_o
  all_goals (go_wp2; go_ret; exact ⟨rfl, rfl⟩)

set_option maxHeartbeats 2000000 in
set_option maxRecDepth 100000 in
theorem bString_nil (b : Nat) (cb : Array Value) (lo hi : Nat) (w : World) (hb : w.heap[b]? = some (.cells cb 73 (lo, hi))) (hb1 : cb[1]? = some (.slice none 0 0)) :
    Calls Tryz.prog 29 #[.pointer (some ⟨b, 0, none⟩)] w fun e w' => e = .returned (.string ⟨#[]⟩) ∧ w' = w.drew := by
  have hUS := Lib.run_unsafeString_none (P := Tryz.prog) w.drew 141 3 9 none
  have c1 : w.drew.cell? ⟨b, 1, none⟩ = some (.slice none 0 0) := by
    have : w.drew.heap[b]? = some (.cells cb 73 (lo, hi)) := hb
    rw [Lib.cell_of_heap this]; exact hb1
  have hSD : (Builtin.unsafeSliceData_ #[71] 141 #[.slice none 0 0]).run Tryz.prog w.drew = .ok (.pointer none) w.drew := rfl
  have mixed : Tryz.prog.follows .mixedOrders = true := by kernel_rfl
  go_enter Tryz.func29, Tryz.ntmps29
  go_wp2
  go_region_o
  all_goals (go_wp2; go_ret; exact ⟨rfl, rfl⟩)


theorem cx_String {h : AHeap} {lb lg len : Nat} {x : D} {cs : List D} {l : List UInt8} (hg : h.get lb = some (.cells [x, .sl 1 lg 0 len] 148)) (hgg : h.get lg = some (.cells cs 13)) (hl : bytesD (cs.take len) = some l) (hlen : len = l.length) (h0 : l ≠ []) :
    CX Tryz.prog Γ 29 [.ptr lb 0] h (.s l) { get := fun m => if m = lg then none else h.get m, next := h.next } := by
  refine CX.body Tryz.func29 (by kernel_rfl) (by kernel_rfl) fun I μ w vals H hvl => ?_
  obtain ⟨v, vs, rfl, r1, r2⟩ := Rl_cons hvl
  have := Rl_nil r2
  subst this
  obtain ⟨b, base, hm, rfl⟩ := R_ptr r1
  obtain ⟨b', base', c, elem, lo, hi, e1, e2, e3, e4, e5, e6, e7, e8⟩ := cells_at H hg
  rw [hm] at e1
  simp only [Option.some.injEq, Prod.mk.injEq] at e1
  obtain ⟨rfl, rfl⟩ := e1
  obtain ⟨rfl, rfl, hsz⟩ := e6.2.1 73 rfl
  obtain ⟨bg, baseg, cg, elemg, log, hig, g1, g2, g3, g4, g5, g6, g7, g8⟩ := cells_at H hgg
  obtain ⟨rfl, rfl⟩ := g6.2.2 5 rfl
  obtain ⟨rfl, rfl⟩ := g6.1 (by decide)
  obtain ⟨v1, hv1, rv1⟩ := e8 1 (by simp)
  have hpos : 0 < l.length := List.length_pos_iff.2 h0
  have hcs := bytesD_spec hl
  have hle : l.length ≤ cs.length := by
    have := congrArg List.length hcs
    rw [List.length_take, List.length_map] at this
    omega
  have rv1' : R I μ w (.sl 1 lg 0 len) v1 := rv1
  have key : ∃ cap, v1 = .slice (some ⟨bg, 0, none⟩) len cap ∧ len ≤ cap ∧ cap ≤ maxN := by
    cases rv1' with
    | sl _ _ _ _ cap b2 base2 n q1 q2 q3 q4 q5 =>
      rw [g1] at q1
      simp only [Option.some.injEq, Prod.mk.injEq] at q1
      obtain ⟨rfl, rfl⟩ := q1
      exact ⟨cap, rfl, q2, q3⟩
    | sl0 => omega
  obtain ⟨cap, rfl, hc1, hc2⟩ := key
  subst hlen
  refine (bString b bg cap c cg lo hi l w h0 e3 (by simpa using hv1) (by omega) g3 (by omega) (by unfold maxN at hc2; omega) ?_).mono fun e w' he => ?_
  · intro j y hj
    have hjl : j < l.length := (List.getElem?_eq_some_iff.1 hj).1
    obtain ⟨u, hu, ru⟩ := g8 j (by omega)
    have e0 : (cs.take l.length)[j]? = (l.map byteD)[j]? := by rw [hcs]
    rw [List.getElem?_take_of_lt hjl, List.getElem?_map, hj] at e0
    have e1 : cs[j]'(by omega) = byteD y := by
      have := List.getElem?_eq_some_iff.1 e0
      exact this.2
    rw [e1] at ru
    cases ru
    simpa using hu
  · obtain ⟨rfl, rfl⟩ := he
    have O : Only bg w (w.drew.freeze ⟨bg, 0, none⟩ l.length) := (Only.drew w).trans' (Only.freeze (w := w.drew) g3 0 l.length)
    obtain ⟨k1, k2⟩ := kill_step H hgg g1 O
    exact ⟨_, rfl, μ, k1, k2, .s l (by unfold maxN at hc2 ⊢; omega)⟩

theorem cx_String_nil {h : AHeap} {lb : Nat} {x : D} (hg : h.get lb = some (.cells [x, .nils] 148)) : CX Tryz.prog Γ 29 [.ptr lb 0] h (.s []) h := by
  refine CX.body Tryz.func29 (by kernel_rfl) (by kernel_rfl) fun I μ w vals H hvl => ?_
  obtain ⟨v, vs, rfl, r1, r2⟩ := Rl_cons hvl
  have := Rl_nil r2
  subst this
  obtain ⟨b, base, hm, rfl⟩ := R_ptr r1
  obtain ⟨b', base', c, elem, lo, hi, e1, e2, e3, e4, e5, e6, e7, e8⟩ := cells_at H hg
  rw [hm] at e1
  simp only [Option.some.injEq, Prod.mk.injEq] at e1
  obtain ⟨rfl, rfl⟩ := e1
  obtain ⟨rfl, rfl, hsz⟩ := e6.2.1 73 rfl
  obtain ⟨v1, hv1, rv1⟩ := e8 1 (by simp)
  have rv1' : R I μ w .nils v1 := rv1
  cases rv1'
  obtain ⟨b2, base2, k1, k2, k3⟩ := H.live lb _ hg
  rw [hm] at k1
  simp only [Option.some.injEq, Prod.mk.injEq] at k1
  obtain ⟨rfl, rfl⟩ := k1
  refine (bString_nil b c lo hi w e3 (by simpa using hv1)).mono fun e w' he => ?_
  obtain ⟨rfl, rfl⟩ := he
  obtain ⟨μ', q1, q2, _⟩ := upd_step H hg hm (Only.drew w) (ObjR.mono (w := w) (w' := w.drew) (fun _ x => x) (fun _ _ x => x) (fun _ _ => rfl) (fun _ _ x => x) rfl k3)
  have eh : ({ get := fun m => if m = lb then some (.cells [x, .nils] 148) else h.get m, next := h.next } : AHeap) = h := AHeap.eq (fun m => by
    simp only
    split
    · rename_i e; rw [e, hg]
    · rfl) rfl
  rw [eh] at q1 q2
  exact ⟨_, rfl, μ', q1, q2, .s [] (by simp)⟩

theorem cx_IndexByte {h : AHeap} {l : List UInt8} {c : Int} : CX Tryz.prog Γ 203 [.s l, .i .u8 c] h (.i .i64 (Lib.indexByte l c.toNat.toUInt8)) h := by
  refine CX.ext fun I μ w vals H hvl => ?_
  obtain ⟨v, vs, rfl, r1, r2⟩ := Rl_cons hvl
  obtain ⟨v', vs', rfl, r3, r4⟩ := Rl_cons r2
  have := Rl_nil r4
  subst this
  cases r1
  cases r3
  refine ⟨_, ?_, .i _ _⟩
  rw [run_callFunc_extern Tryz.func203 (by kernel_rfl) (by kernel_rfl) (by kernel_rfl) (e := Extern.BytealgIndexByte.indexByte) (by kernel_rfl)]
  have := Lib.run_indexByteString (P := Tryz.prog) ⟨l.toArray⟩ c w
  rw [this]
  rfl

end Go.Proofs.YtelnkadnphephaaGreatDoor.T
end
noncomputable section
namespace Go.Proofs.YtelnkadnphephaaGreatDoor.T
open Go Go.Abs
noncomputable section

/-- A builder at `lb` that holds `acc`, above `n0`. -/
structure BV (n0 : Nat) (t : Tr AObj) (n : Nat) (lb : Nat) (acc : List UInt8) : Prop where
  lo : n0 ≤ lb
  hi : lb < n
  v : ∃ p s, t.get lb = some (.cells [p, s] 148) ∧ (p = .nilp ∨ p = .ptr lb 0) ∧ ((s = .nils ∧ acc = []) ∨ ∃ lg, n0 ≤ lg ∧ lg < n ∧ lg ≠ lb ∧ s = .sl 1 lg 0 acc.length ∧ acc ≠ [] ∧ t.get lg = some (.cells (acc.map byteD) 13))

attribute [local irreducible] aop evT tm guardX Tr.get Tr.set WR WD WX WL thn blk lop View Gr

variable {Γ : Nat → D}

theorem bytesD_map : ∀ (l : List UInt8), bytesD (l.map byteD) = some l
  | [] => rfl
  | c :: r => by
    have hc : c.toNat < 256 := c.toNat_lt
    simp only [List.map_cons, byteD, bytesD, bytesD_map r]
    rw [if_pos ⟨by omega, by omega⟩]
    congr 1
    simp

/-- The check of a builder's place. -/
theorem cx_check {t : Tr AObj} {n lb : Nat} {p s : D} (hg : t.get lb = some (.cells [p, s] 148)) (hp : p = .nilp ∨ p = .ptr lb 0) :
    ∃ t1, CX Tryz.prog Γ 46 [.ptr lb 0] (S.mk t n).h (.tup []) (S.mk t1 n).h ∧ t1.get lb = some (.cells [.ptr lb 0, s] 148) ∧ (∀ l, l ≠ lb → t1.get l = t.get l) := by
  rcases hp with rfl | rfl
  · refine ⟨t.set lb (some (.cells [.ptr lb 0, s] 148)), ?_, Tr.get_here, fun l hl => by rw [Tr.get_set, if_neg hl]⟩
    rw [set_heap t n lb _ n]
    exact cx_copyCheck_fresh hg
  · exact ⟨t, cx_copyCheck_used hg, hg, fun _ _ => rfl⟩

set_option maxHeartbeats 20000000 in
/-- WriteString. -/
theorem cx_write {n0 n lb : Nat} {t : Tr AObj} {acc x : List UInt8} (h : BV n0 t n lb acc) (hr : acc.length + x.length ≤ room) :
    ∃ t' n', CX Tryz.prog Γ 28 [.ptr lb 0, .s x] (S.mk t n).h (.tup [.i .i64 x.length, .nili]) (S.mk t' n').h ∧ BV n0 t' n' lb (acc ++ x) ∧ n ≤ n' ∧ ∀ l, l < n0 → t'.get l = t.get l := by
  obtain ⟨hlo, hhi, p, s, hg, hp, hs⟩ := h
  obtain ⟨t1, hc, hg1, hsame⟩ := cx_check (Γ := Γ) (n := n) hg hp
  suffices hsuf : ∃ d t' n', CX Tryz.prog Γ 28 [.ptr lb 0, .s x] (S.mk t n).h d (S.mk t' n').h ∧ (d = .tup [.i .i64 x.length, .nili] ∧ BV n0 t' n' lb (acc ++ x) ∧ n ≤ n' ∧ ∀ l, l < n0 → t'.get l = t.get l) by
    obtain ⟨d', t', n', hx, rfl, k1, k2, k3⟩ := hsuf
    exact ⟨t', n', hx, k1, k2, k3⟩
  refine CX.ofWX (f := 28) (args := [.ptr lb 0, .s x]) Tryz.func28 X28_eq (by kernel_rfl) (by kernel_rfl) (by rfl) ?_
  show WX _ _ X28.body ((Tr.e.set 0 (some (.ptr lb 0))).set 1 (some (.s x))) _ _ _
  unfold X28
  rcases hs with ⟨rfl, rfl⟩ | ⟨lg, hlg0, hlgn, hne, rfl, hacc, hgg⟩
  · by_cases hx : x = []
    · subst hx
      refine WX.seq ?_
      refine WX.region ?_
      refine WR.val gd_n rfl (A_mv rd_c rfl) ?_
      refine WR.val gd_n rfl (A_mv rd_c rfl) ?_
      refine WR.nil ?_
      refine thn_n ?_
      refine WX.seq ?_
      refine WX.region ?_
      refine WR.val gd_n rfl (A_mv (rd_t (g2 rfl (gth rfl Tr.get_here))) rfl) ?_
      refine WR.call gd_n (args_cons (rd_t Tr.get_here) args_nil) rfl hc ?_
      refine WR.nil ?_
      refine thn_n ?_
      refine WX.seq ?_
      refine WX.region ?_
      refine WR.val gd_n rfl (A_mv (rd_t (g4 rfl (gth rfl Tr.get_here))) rfl) ?_
      refine WR.val gd_n rfl (A_mv (rd_t (g4 rfl (g2 rfl Tr.get_here))) rfl) ?_
      refine WR.val gd_n rfl (A_nilchk (rd_t Tr.get_here)) ?_
      refine WR.val gd_n rfl (A_faddr (rd_t Tr.get_here)) ?_
      refine WR.val gd_n rfl (A_ld1 (rd_t Tr.get_here) (by (first | exact Tr.get_here | assumption | ((repeat refine Tr.get_there (by first | decide | omega) ?_); first | exact Tr.get_here | assumption))) rfl) ?_
      refine WR.val gd_n rfl (A_mv (rd_t (g8 rfl (gth rfl Tr.get_here))) rfl) ?_
      refine WR.val gd_n rfl (A_appS0n (rd_t (gth rfl Tr.get_here)) (rd_t Tr.get_here)) ?_
      refine WR.val gd_n rfl (A_nilchk (rd_t (g4 rfl (g2 rfl Tr.get_here)))) ?_
      refine WR.val gd_n rfl (A_faddr (rd_t Tr.get_here)) ?_
      refine WR.upd0 gd_n rfl (A_st (rd_t Tr.get_here) (by (first | exact Tr.get_here | assumption | ((repeat refine Tr.get_there (by first | decide | omega) ?_); first | exact Tr.get_here | assumption))) (rd_t (g2 rfl Tr.get_here)) rfl (Nat.le_of_ble_eq_true rfl) rfl rfl) ?_
      refine WR.nil ?_
      refine thn_n ?_
      refine WX.seq ?_
      refine WX.region ?_
      refine WR.val gd_n rfl (A_mv (rd_t (g8 rfl (g4 rfl (gth rfl Tr.get_here)))) rfl) ?_
      refine WR.val gd_n rfl (A_lenS (rd_t Tr.get_here)) ?_
      refine WR.val gd_n rfl (A_mv (rd_t Tr.get_here) rfl) ?_
      refine WR.val gd_n rfl (A_mv rd_c rfl) ?_
      refine WR.nil ?_
      refine thn_n ?_
      refine WX.ret ?_
      refine retQ_r (res_t (gth rfl Tr.get_here) (res_t Tr.get_here res_nil)) rfl ⟨rfl, ⟨hlo, hhi, .ptr lb 0, .nils, Tr.get_here, .inr rfl, .inl ⟨rfl, rfl⟩⟩, Nat.le_refl _, fun l hl => ?_⟩
      rw [Tr.get_set, if_neg (by omega)]; exact hsame l (by omega)
    · have hx0 : x.length ≠ 0 := fun h => hx (List.eq_nil_of_length_eq_zero h)
      have hrm : x.length * 1 ≤ room := by simpa using hr
      have hgn : (t1.set n (some (.cells (x.map byteD) 13))).get lb = some (.cells [.ptr lb 0, .nils] 148) := Tr.get_there (by omega) hg1
      refine WX.seq ?_
      refine WX.region ?_
      refine WR.val gd_n rfl (A_mv rd_c rfl) ?_
      refine WR.val gd_n rfl (A_mv rd_c rfl) ?_
      refine WR.nil ?_
      refine thn_n ?_
      refine WX.seq ?_
      refine WX.region ?_
      refine WR.val gd_n rfl (A_mv (rd_t (g2 rfl (gth rfl Tr.get_here))) rfl) ?_
      refine WR.call gd_n (args_cons (rd_t Tr.get_here) args_nil) rfl hc ?_
      refine WR.nil ?_
      refine thn_n ?_
      refine WX.seq ?_
      refine WX.region ?_
      refine WR.val gd_n rfl (A_mv (rd_t (g4 rfl (gth rfl Tr.get_here))) rfl) ?_
      refine WR.val gd_n rfl (A_mv (rd_t (g4 rfl (g2 rfl Tr.get_here))) rfl) ?_
      refine WR.val gd_n rfl (A_nilchk (rd_t Tr.get_here)) ?_
      refine WR.val gd_n rfl (A_faddr (rd_t Tr.get_here)) ?_
      refine WR.val gd_n rfl (A_ld1 (rd_t Tr.get_here) (by (first | exact Tr.get_here | assumption | ((repeat refine Tr.get_there (by first | decide | omega) ?_); first | exact Tr.get_here | assumption))) rfl) ?_
      refine WR.val gd_n rfl (A_mv (rd_t (g8 rfl (gth rfl Tr.get_here))) rfl) ?_
      refine WR.new gd_n rfl (A_appSNil (rd_t (gth rfl Tr.get_here)) (rd_t Tr.get_here) hx0 hrm) ?_
      refine WR.val gd_n rfl (A_nilchk (rd_t (g4 rfl (g2 rfl Tr.get_here)))) ?_
      refine WR.val gd_n rfl (A_faddr (rd_t Tr.get_here)) ?_
      refine WR.upd0 gd_n rfl (A_st (rd_t Tr.get_here) (by (first | exact Tr.get_here | assumption | ((repeat refine Tr.get_there (by first | decide | omega) ?_); first | exact Tr.get_here | assumption))) (rd_t (g2 rfl Tr.get_here)) rfl (Nat.le_of_ble_eq_true rfl) rfl rfl) ?_
      refine WR.nil ?_
      refine thn_n ?_
      refine WX.seq ?_
      refine WX.region ?_
      refine WR.val gd_n rfl (A_mv (rd_t (g8 rfl (g4 rfl (gth rfl Tr.get_here)))) rfl) ?_
      refine WR.val gd_n rfl (A_lenS (rd_t Tr.get_here)) ?_
      refine WR.val gd_n rfl (A_mv (rd_t Tr.get_here) rfl) ?_
      refine WR.val gd_n rfl (A_mv rd_c rfl) ?_
      refine WR.nil ?_
      refine thn_n ?_
      refine WX.ret ?_
      refine retQ_r (res_t (gth rfl Tr.get_here) (res_t Tr.get_here res_nil)) rfl ⟨rfl, ⟨hlo, by omega, .ptr lb 0, _, Tr.get_here, .inr rfl, .inr ⟨n, by omega, by omega, by omega, rfl, by simpa using hx, ?_⟩⟩, Nat.le_succ _, fun l hl => ?_⟩
      · rw [Tr.get_set, if_neg (by omega)]; exact Tr.get_here
      · rw [Tr.get_set, if_neg (by omega), Tr.get_set, if_neg (by omega)]; exact hsame l (by omega)
  · have hgg1 : t1.get lg = some (.cells (acc.map byteD) 13) := (hsame lg hne).trans hgg
    by_cases hx : x = []
    · subst hx
      refine WX.seq ?_
      refine WX.region ?_
      refine WR.val gd_n rfl (A_mv rd_c rfl) ?_
      refine WR.val gd_n rfl (A_mv rd_c rfl) ?_
      refine WR.nil ?_
      refine thn_n ?_
      refine WX.seq ?_
      refine WX.region ?_
      refine WR.val gd_n rfl (A_mv (rd_t (g2 rfl (gth rfl Tr.get_here))) rfl) ?_
      refine WR.call gd_n (args_cons (rd_t Tr.get_here) args_nil) rfl hc ?_
      refine WR.nil ?_
      refine thn_n ?_
      refine WX.seq ?_
      refine WX.region ?_
      refine WR.val gd_n rfl (A_mv (rd_t (g4 rfl (gth rfl Tr.get_here))) rfl) ?_
      refine WR.val gd_n rfl (A_mv (rd_t (g4 rfl (g2 rfl Tr.get_here))) rfl) ?_
      refine WR.val gd_n rfl (A_nilchk (rd_t Tr.get_here)) ?_
      refine WR.val gd_n rfl (A_faddr (rd_t Tr.get_here)) ?_
      refine WR.val gd_n rfl (A_ld1 (rd_t Tr.get_here) (by (first | exact Tr.get_here | assumption | ((repeat refine Tr.get_there (by first | decide | omega) ?_); first | exact Tr.get_here | assumption))) rfl) ?_
      refine WR.val gd_n rfl (A_mv (rd_t (g8 rfl (gth rfl Tr.get_here))) rfl) ?_
      refine WR.val gd_n rfl (A_appS0s (rd_t (gth rfl Tr.get_here)) (rd_t Tr.get_here)) ?_
      refine WR.val gd_n rfl (A_nilchk (rd_t (g4 rfl (g2 rfl Tr.get_here)))) ?_
      refine WR.val gd_n rfl (A_faddr (rd_t Tr.get_here)) ?_
      refine WR.upd0 gd_n rfl (A_st (rd_t Tr.get_here) (by (first | exact Tr.get_here | assumption | ((repeat refine Tr.get_there (by first | decide | omega) ?_); first | exact Tr.get_here | assumption))) (rd_t (g2 rfl Tr.get_here)) rfl (Nat.le_of_ble_eq_true rfl) rfl rfl) ?_
      refine WR.nil ?_
      refine thn_n ?_
      refine WX.seq ?_
      refine WX.region ?_
      refine WR.val gd_n rfl (A_mv (rd_t (g8 rfl (g4 rfl (gth rfl Tr.get_here)))) rfl) ?_
      refine WR.val gd_n rfl (A_lenS (rd_t Tr.get_here)) ?_
      refine WR.val gd_n rfl (A_mv (rd_t Tr.get_here) rfl) ?_
      refine WR.val gd_n rfl (A_mv rd_c rfl) ?_
      refine WR.nil ?_
      refine thn_n ?_
      refine WX.ret ?_
      refine retQ_r (res_t (gth rfl Tr.get_here) (res_t Tr.get_here res_nil)) rfl ⟨rfl, ⟨hlo, hhi, .ptr lb 0, _, Tr.get_here, .inr rfl, .inr ⟨lg, hlg0, hlgn, hne, by rw [List.append_nil], by simpa using hacc, ?_⟩⟩, Nat.le_refl _, fun l hl => ?_⟩
      · rw [Tr.get_set, if_neg (by omega), List.append_nil]; exact hgg1
      · rw [Tr.get_set, if_neg (by omega)]; exact hsame l (by omega)
    · have hx0 : x.length ≠ 0 := fun h => hx (List.eq_nil_of_length_eq_zero h)
      have hrm : (acc.length + x.length) * 1 ≤ room := by simpa using hr
      have hcs : ((acc.map byteD).drop 0).take (acc.length * 1) ++ x.map byteD = (acc ++ x).map byteD := by rw [List.drop_zero, List.take_of_length_le (by simp), List.map_append]
      have hgn : ((t1.set lg none).set n (some (.cells ((acc ++ x).map byteD) 13))).get lb = some (.cells [.ptr lb 0, .sl 1 lg 0 acc.length] 148) := Tr.get_there (by omega) (Tr.get_there (by omega) hg1)
      have hsz : 0 + acc.length * 1 ≤ (acc.map byteD).length := by simp
      refine WX.seq ?_
      refine WX.region ?_
      refine WR.val gd_n rfl (A_mv rd_c rfl) ?_
      refine WR.val gd_n rfl (A_mv rd_c rfl) ?_
      refine WR.nil ?_
      refine thn_n ?_
      refine WX.seq ?_
      refine WX.region ?_
      refine WR.val gd_n rfl (A_mv (rd_t (g2 rfl (gth rfl Tr.get_here))) rfl) ?_
      refine WR.call gd_n (args_cons (rd_t Tr.get_here) args_nil) rfl hc ?_
      refine WR.nil ?_
      refine thn_n ?_
      refine WX.seq ?_
      refine WX.region ?_
      refine WR.val gd_n rfl (A_mv (rd_t (g4 rfl (gth rfl Tr.get_here))) rfl) ?_
      refine WR.val gd_n rfl (A_mv (rd_t (g4 rfl (g2 rfl Tr.get_here))) rfl) ?_
      refine WR.val gd_n rfl (A_nilchk (rd_t Tr.get_here)) ?_
      refine WR.val gd_n rfl (A_faddr (rd_t Tr.get_here)) ?_
      refine WR.val gd_n rfl (A_ld1 (rd_t Tr.get_here) (by (first | exact Tr.get_here | assumption | ((repeat refine Tr.get_there (by first | decide | omega) ?_); first | exact Tr.get_here | assumption))) rfl) ?_
      refine WR.val gd_n rfl (A_mv (rd_t (g8 rfl (gth rfl Tr.get_here))) rfl) ?_
      refine WR.app gd_n rfl (A_appSSl (rd_t (gth rfl Tr.get_here)) (rd_t Tr.get_here) hx0 hgg1 hsz hrm (.inr ⟨rfl, rfl⟩) hcs) ?_
      refine WR.val gd_n rfl (A_nilchk (rd_t (g4 rfl (g2 rfl Tr.get_here)))) ?_
      refine WR.val gd_n rfl (A_faddr (rd_t Tr.get_here)) ?_
      refine WR.upd0 gd_n rfl (A_st (rd_t Tr.get_here) (by (first | exact Tr.get_here | assumption | ((repeat refine Tr.get_there (by first | decide | omega) ?_); first | exact Tr.get_here | assumption))) (rd_t (g2 rfl Tr.get_here)) rfl (Nat.le_of_ble_eq_true rfl) rfl rfl) ?_
      refine WR.nil ?_
      refine thn_n ?_
      refine WX.seq ?_
      refine WX.region ?_
      refine WR.val gd_n rfl (A_mv (rd_t (g8 rfl (g4 rfl (gth rfl Tr.get_here)))) rfl) ?_
      refine WR.val gd_n rfl (A_lenS (rd_t Tr.get_here)) ?_
      refine WR.val gd_n rfl (A_mv (rd_t Tr.get_here) rfl) ?_
      refine WR.val gd_n rfl (A_mv rd_c rfl) ?_
      refine WR.nil ?_
      refine thn_n ?_
      refine WX.ret ?_
      refine retQ_r (res_t (gth rfl Tr.get_here) (res_t Tr.get_here res_nil)) rfl ⟨rfl, ⟨hlo, by omega, .ptr lb 0, _, Tr.get_here, .inr rfl, .inr ⟨n, by omega, by omega, by omega, by rw [List.length_append], by simp [hx], ?_⟩⟩, Nat.le_succ _, fun l hl => ?_⟩
      · rw [Tr.get_set, if_neg (by omega)]; exact Tr.get_here
      · rw [Tr.get_set, if_neg (by omega), Tr.get_set, if_neg (by omega), Tr.get_set, if_neg (by omega)]; exact hsame l (by omega)

end
end Go.Proofs.YtelnkadnphephaaGreatDoor.T
end
noncomputable section
namespace Go.Proofs.YtelnkadnphephaaGreatDoor.T
open Go Go.Abs
noncomputable section

theorem BV.set {n0 n lb m : Nat} {t : Tr AObj} {acc : List UInt8} {o : Option AObj} (h : BV n0 t n lb acc) (hm : n ≤ m) : BV n0 (t.set m o) n lb acc := by
  obtain ⟨h1, h2, p, s, h3, h4, h5⟩ := h
  refine ⟨h1, h2, p, s, by rw [Tr.get_set, if_neg (by omega)]; exact h3, h4, ?_⟩
  rcases h5 with h5 | ⟨lg, k1, k2, k3, k4, k5, k6⟩
  · exact .inl h5
  · exact .inr ⟨lg, k1, k2, k3, k4, k5, by rw [Tr.get_set, if_neg (by omega)]; exact k6⟩
theorem BV.up {n0 n n' lb : Nat} {t : Tr AObj} {acc : List UInt8} (h : BV n0 t n lb acc) (hn : n ≤ n') : BV n0 t n' lb acc := by
  obtain ⟨h1, h2, p, s, h3, h4, h5⟩ := h
  refine ⟨h1, by omega, p, s, h3, h4, ?_⟩
  rcases h5 with h5 | ⟨lg, k1, k2, k3, k4, k5, k6⟩
  · exact .inl h5
  · exact .inr ⟨lg, k1, by omega, k3, k4, k5, k6⟩
theorem Gr.mk' {n0 n n1 : Nat} {t0 t t1 : Tr AObj} (g : Gr t0 n0 t n) (hn : n ≤ n1) (hk : ∀ l, l < n0 → t1.get l = t.get l) : Gr t0 n0 t1 n1 := ⟨Nat.le_trans g.1 hn, fun l hl => (hk l hl).trans (g.2 l hl)⟩
theorem Gr.le {n0 n : Nat} {t0 t : Tr AObj} (g : Gr t0 n0 t n) : n0 ≤ n := g.1

variable {Γ : Nat → D}

/-- String. -/
theorem cx_str {n0 n lb : Nat} {t : Tr AObj} {acc : List UInt8} (h : BV n0 t n lb acc) : ∃ t', CX Tryz.prog Γ 29 [.ptr lb 0] (S.mk t n).h (.s acc) (S.mk t' n).h ∧ ∀ l, l < n0 → t'.get l = t.get l := by
  obtain ⟨h1, h2, p, s, h3, h4, h5⟩ := h
  rcases h5 with ⟨rfl, rfl⟩ | ⟨lg, k1, k2, k3, rfl, k5, k6⟩
  · exact ⟨t, cx_String_nil h3, fun _ _ => rfl⟩
  · refine ⟨t.set lg none, ?_, fun l hl => by rw [Tr.get_set, if_neg (by omega)]⟩
    rw [set_heap t n lg _ n]
    exact cx_String h3 k6 (by rw [List.take_of_length_le (by simp)]; exact bytesD_map acc) rfl k5

attribute [local irreducible] aop evT tm guardX Tr.get Tr.set WR WD WX WL thn blk lop View Gr

structure I9 (t0 : Tr AObj) (n0 lb : Nat) (T : Tr D) (t : Tr AObj) (n : Nat) (d : D) (es : List Ef) (k : Int) (nm acc : List UInt8) (j : Nat) : Prop where
  g : Gr t0 n0 t n
  b : BV n0 t n lb acc
  h1 : T.get 1 = some (.i .u8 k)
  h2 : T.get 2 = some (.s nm)
  h7 : T.get 7 = some (.ptr lb 0)
  h10 : T.get 10 = some d
  h11 : T.get 11 = some (.i .i64 es.length)
  h12 : T.get 12 = some (.i .i64 (j : Nat))

set_option maxHeartbeats 20000000 in
theorem step9 {t0 : Tr AObj} {n0 lb : Nat} {T : Tr D} {t : Tr AObj} {n j : Nat} {d : D} {es : List Ef} {e : Ef} {k : Int} {nm acc : List UInt8} (hV0 : View t0 n0 d es) (h : I9 t0 n0 lb T t n d es k nm acc j) (hj : es[j]? = some e) (hjl : j ≤ 1048576) (hacc : acc.length + e.tx.length ≤ room)
    {Q : QX} (hQ : ∀ T' t' n', I9 t0 n0 lb T' t' n' d es k nm (if e.k = k ∧ e.nm = nm then acc ++ e.tx else acc) (j + 1) → Q .norm T' t' n') : WX Tryz.prog Γ X9_L0 T t n Q := by
  obtain ⟨hg, hb, h1, h2, h7, h10, h11, h12⟩ := h
  obtain ⟨a, ha, hi, hld⟩ := hV0.at hj
  obtain ⟨hlt, _⟩ := List.getElem?_eq_some_iff.1 hj
  have hlt' : decide ((j : Int) < (es.length : Int)) = true := by simp [hlt]
  have hw := wrap1 hjl
  have hn0 := hg.le
  have hb1 : BV n0 ((t.set n (some (.cells [.i .u8 (.ofNat 0), .s (bs []), .s (bs [])] 0))).set n (some (.cells e.cs 0))) (n + 1) lb acc := ((hb.set (Nat.le_refl _)).set (Nat.le_refl _)).up (Nat.le_succ _)
  have hg1 : Gr t0 n0 ((t.set n (some (.cells [.i .u8 (.ofNat 0), .s (bs []), .s (bs [])] 0))).set n (some (.cells e.cs 0))) (n + 1) := ((hg.set hn0).set hn0).up (Nat.le_succ _)
  unfold X9_L0
  by_cases hk : e.k = k
  · have hkb : (e.k == k) = true := by simp [hk]
    by_cases hn : e.nm = nm
    · have hnb : (e.nm == nm) = true := by simp [hn]
      rw [if_pos ⟨hk, hn⟩] at hQ
      obtain ⟨t3, n3, hcw, hb3, hn3, hk3⟩ := cx_write (Γ := Γ) hb1 hacc
      refine WX.seq ?_
      refine WX.region ?_
      refine WR.val gd_n rfl (A_ltI (rd_t h12) (rd_t h11) hlt') ?_
      refine WR.nil ?_
      refine thn_n ?_
      refine WX.seq ?_
      refine WX.condT (rd_t Tr.get_here) ?_
      refine WX.skip ?_
      refine thn_n ?_
      refine WX.seq ?_
      refine WX.block ?_
      refine WX.seq ?_
      refine WX.region ?_
      refine WR.val gd_n rfl (hi _ _ _ _ _ (rd_t (gth rfl h10)) (rd_t (gth rfl h12))) ?_
      refine WR.val gd_n rfl (hld _ _ hg _ _ _ (rd_t Tr.get_here)) ?_
      refine WR.new gd_n rfl (A_alloc) ?_
      refine WR.upd0 gd_n rfl (A_st (rd_t Tr.get_here) (by (first | exact Tr.get_here | assumption | ((repeat refine Tr.get_there (by first | decide | omega) ?_); first | exact Tr.get_here | assumption))) (rd_t (gth rfl Tr.get_here)) rfl (Nat.le_of_ble_eq_true rfl) rfl rfl) ?_
      refine WR.nil ?_
      refine thn_n ?_
      refine WX.seq ?_
      refine WX.region ?_
      refine WR.val gd_n rfl (A_faddr (rd_t Tr.get_here)) ?_
      refine WR.val gd_n rfl (A_ld1 (rd_t Tr.get_here) (by (first | exact Tr.get_here | assumption | ((repeat refine Tr.get_there (by first | decide | omega) ?_); first | exact Tr.get_here | assumption))) rfl) ?_
      refine WR.val gd_n rfl (A_mv (rd_t (Go.Abs.g4 rfl (gth rfl (gth rfl h1)))) rfl) ?_
      refine WR.val gd_n rfl (A_eqI (rd_t (gth rfl Tr.get_here)) (rd_t Tr.get_here) hkb) ?_
      refine WR.val gd_n rfl (A_mv (rd_t Tr.get_here) rfl) ?_
      refine WR.val (gd_t Tr.get_here) rfl (A_faddr (rd_t (Go.Abs.g4 rfl (gth rfl Tr.get_here)))) ?_
      refine WR.val (gd_t (gth rfl Tr.get_here)) rfl (A_ld1 (rd_t Tr.get_here) (by (first | exact Tr.get_here | assumption | ((repeat refine Tr.get_there (by first | decide | omega) ?_); first | exact Tr.get_here | assumption))) rfl) ?_
      refine WR.val (gd_t (Go.Abs.g2 rfl Tr.get_here)) rfl (A_mv (rd_t (Go.Abs.g8 rfl (Go.Abs.g2 rfl (gth rfl h2)))) rfl) ?_
      refine WR.val (gd_t (Go.Abs.g2 rfl (gth rfl Tr.get_here))) rfl (A_eqS (rd_t (gth rfl Tr.get_here)) (rd_t Tr.get_here) hnb) ?_
      refine WR.val gd_n rfl (A_pickT (rd_t (Go.Abs.g4 rfl Tr.get_here)) (rd_t Tr.get_here) rfl) ?_
      refine WR.nil ?_
      refine thn_n ?_
      refine WX.condT (rd_t Tr.get_here) ?_
      refine WX.region ?_
      refine WR.val gd_n rfl (A_faddr (rd_t (Go.Abs.g8 rfl (Go.Abs.g2 rfl Tr.get_here)))) ?_
      refine WR.val gd_n rfl (A_ld1 (rd_t Tr.get_here) (by (first | exact Tr.get_here | assumption | ((repeat refine Tr.get_there (by first | decide | omega) ?_); first | exact Tr.get_here | assumption))) rfl) ?_
      refine WR.call gd_n (args_cons (rd_t (Go.Abs.g8 rfl (Go.Abs.g4 rfl (Go.Abs.g2 rfl (gth rfl (gth rfl h7)))))) (args_cons (rd_t Tr.get_here) args_nil)) rfl hcw ?_
      refine WR.nil ?_
      refine blk_n ?_
      refine thn_n ?_
      refine WX.region ?_
      refine WR.val gd_n rfl (A_add (rd_t (Go.Abs.g8 rfl (Go.Abs.g8 rfl (gth rfl h12)))) rd_c hw) ?_
      refine WR.val gd_n rfl (A_mv (rd_t Tr.get_here) rfl) ?_
      refine WR.nil ?_
      exact hQ _ _ _ ⟨hg1.mk' hn3 hk3, hb3, (Go.Abs.g8 rfl (Go.Abs.g8 rfl (Go.Abs.g2 rfl (gth rfl h1)))), (Go.Abs.g8 rfl (Go.Abs.g8 rfl (Go.Abs.g2 rfl (gth rfl h2)))), (Go.Abs.g8 rfl (Go.Abs.g8 rfl (Go.Abs.g2 rfl (gth rfl h7)))), (Go.Abs.g8 rfl (Go.Abs.g8 rfl (Go.Abs.g2 rfl (gth rfl h10)))), (Go.Abs.g8 rfl (Go.Abs.g8 rfl (Go.Abs.g2 rfl (gth rfl h11)))), Tr.get_here⟩
    · have hnb : (e.nm == nm) = false := by simp [hn]
      rw [if_neg (fun hh => hn hh.2)] at hQ
      refine WX.seq ?_
      refine WX.region ?_
      refine WR.val gd_n rfl (A_ltI (rd_t h12) (rd_t h11) hlt') ?_
      refine WR.nil ?_
      refine thn_n ?_
      refine WX.seq ?_
      refine WX.condT (rd_t Tr.get_here) ?_
      refine WX.skip ?_
      refine thn_n ?_
      refine WX.seq ?_
      refine WX.block ?_
      refine WX.seq ?_
      refine WX.region ?_
      refine WR.val gd_n rfl (hi _ _ _ _ _ (rd_t (gth rfl h10)) (rd_t (gth rfl h12))) ?_
      refine WR.val gd_n rfl (hld _ _ hg _ _ _ (rd_t Tr.get_here)) ?_
      refine WR.new gd_n rfl (A_alloc) ?_
      refine WR.upd0 gd_n rfl (A_st (rd_t Tr.get_here) (by (first | exact Tr.get_here | assumption | ((repeat refine Tr.get_there (by first | decide | omega) ?_); first | exact Tr.get_here | assumption))) (rd_t (gth rfl Tr.get_here)) rfl (Nat.le_of_ble_eq_true rfl) rfl rfl) ?_
      refine WR.nil ?_
      refine thn_n ?_
      refine WX.seq ?_
      refine WX.region ?_
      refine WR.val gd_n rfl (A_faddr (rd_t Tr.get_here)) ?_
      refine WR.val gd_n rfl (A_ld1 (rd_t Tr.get_here) (by (first | exact Tr.get_here | assumption | ((repeat refine Tr.get_there (by first | decide | omega) ?_); first | exact Tr.get_here | assumption))) rfl) ?_
      refine WR.val gd_n rfl (A_mv (rd_t (Go.Abs.g4 rfl (gth rfl (gth rfl h1)))) rfl) ?_
      refine WR.val gd_n rfl (A_eqI (rd_t (gth rfl Tr.get_here)) (rd_t Tr.get_here) hkb) ?_
      refine WR.val gd_n rfl (A_mv (rd_t Tr.get_here) rfl) ?_
      refine WR.val (gd_t Tr.get_here) rfl (A_faddr (rd_t (Go.Abs.g4 rfl (gth rfl Tr.get_here)))) ?_
      refine WR.val (gd_t (gth rfl Tr.get_here)) rfl (A_ld1 (rd_t Tr.get_here) (by (first | exact Tr.get_here | assumption | ((repeat refine Tr.get_there (by first | decide | omega) ?_); first | exact Tr.get_here | assumption))) rfl) ?_
      refine WR.val (gd_t (Go.Abs.g2 rfl Tr.get_here)) rfl (A_mv (rd_t (Go.Abs.g8 rfl (Go.Abs.g2 rfl (gth rfl h2)))) rfl) ?_
      refine WR.val (gd_t (Go.Abs.g2 rfl (gth rfl Tr.get_here))) rfl (A_eqS (rd_t (gth rfl Tr.get_here)) (rd_t Tr.get_here) hnb) ?_
      refine WR.val gd_n rfl (A_pickT (rd_t (Go.Abs.g4 rfl Tr.get_here)) (rd_t Tr.get_here) rfl) ?_
      refine WR.nil ?_
      refine thn_n ?_
      refine WX.condF (rd_t Tr.get_here) ?_
      refine WX.skip ?_
      refine blk_n ?_
      refine thn_n ?_
      refine WX.region ?_
      refine WR.val gd_n rfl (A_add (rd_t (Go.Abs.g8 rfl (Go.Abs.g4 rfl (gth rfl (gth rfl h12))))) rd_c hw) ?_
      refine WR.val gd_n rfl (A_mv (rd_t Tr.get_here) rfl) ?_
      refine WR.nil ?_
      exact hQ _ _ _ ⟨hg1, hb1, (Go.Abs.g8 rfl (Go.Abs.g4 rfl (Go.Abs.g2 rfl (gth rfl (gth rfl h1))))), (Go.Abs.g8 rfl (Go.Abs.g4 rfl (Go.Abs.g2 rfl (gth rfl (gth rfl h2))))), (Go.Abs.g8 rfl (Go.Abs.g4 rfl (Go.Abs.g2 rfl (gth rfl (gth rfl h7))))), (Go.Abs.g8 rfl (Go.Abs.g4 rfl (Go.Abs.g2 rfl (gth rfl (gth rfl h10))))), (Go.Abs.g8 rfl (Go.Abs.g4 rfl (Go.Abs.g2 rfl (gth rfl (gth rfl h11))))), Tr.get_here⟩
  · have hkb : (e.k == k) = false := by simp [hk]
    rw [if_neg (fun hh => hk hh.1)] at hQ
    refine WX.seq ?_
    refine WX.region ?_
    refine WR.val gd_n rfl (A_ltI (rd_t h12) (rd_t h11) hlt') ?_
    refine WR.nil ?_
    refine thn_n ?_
    refine WX.seq ?_
    refine WX.condT (rd_t Tr.get_here) ?_
    refine WX.skip ?_
    refine thn_n ?_
    refine WX.seq ?_
    refine WX.block ?_
    refine WX.seq ?_
    refine WX.region ?_
    refine WR.val gd_n rfl (hi _ _ _ _ _ (rd_t (gth rfl h10)) (rd_t (gth rfl h12))) ?_
    refine WR.val gd_n rfl (hld _ _ hg _ _ _ (rd_t Tr.get_here)) ?_
    refine WR.new gd_n rfl (A_alloc) ?_
    refine WR.upd0 gd_n rfl (A_st (rd_t Tr.get_here) (by (first | exact Tr.get_here | assumption | ((repeat refine Tr.get_there (by first | decide | omega) ?_); first | exact Tr.get_here | assumption))) (rd_t (gth rfl Tr.get_here)) rfl (Nat.le_of_ble_eq_true rfl) rfl rfl) ?_
    refine WR.nil ?_
    refine thn_n ?_
    refine WX.seq ?_
    refine WX.region ?_
    refine WR.val gd_n rfl (A_faddr (rd_t Tr.get_here)) ?_
    refine WR.val gd_n rfl (A_ld1 (rd_t Tr.get_here) (by (first | exact Tr.get_here | assumption | ((repeat refine Tr.get_there (by first | decide | omega) ?_); first | exact Tr.get_here | assumption))) rfl) ?_
    refine WR.val gd_n rfl (A_mv (rd_t (Go.Abs.g4 rfl (gth rfl (gth rfl h1)))) rfl) ?_
    refine WR.val gd_n rfl (A_eqI (rd_t (gth rfl Tr.get_here)) (rd_t Tr.get_here) hkb) ?_
    refine WR.val gd_n rfl (A_mv (rd_t Tr.get_here) rfl) ?_
    refine WR.skip (gd_tf Tr.get_here) ?_
    refine WR.skip (gd_tf (gth rfl Tr.get_here)) ?_
    refine WR.skip (gd_tf (Go.Abs.g2 rfl Tr.get_here)) ?_
    refine WR.skip (gd_tf (Go.Abs.g2 rfl (gth rfl Tr.get_here))) ?_
    refine WR.val gd_n rfl (A_pickF (rd_t (Go.Abs.g4 rfl Tr.get_here)) rd_c rfl) ?_
    refine WR.nil ?_
    refine thn_n ?_
    refine WX.condF (rd_t Tr.get_here) ?_
    refine WX.skip ?_
    refine blk_n ?_
    refine thn_n ?_
    refine WX.region ?_
    refine WR.val gd_n rfl (A_add (rd_t (Go.Abs.g8 rfl (Go.Abs.g4 rfl (gth rfl (gth rfl h12))))) rd_c hw) ?_
    refine WR.val gd_n rfl (A_mv (rd_t Tr.get_here) rfl) ?_
    refine WR.nil ?_
    exact hQ _ _ _ ⟨hg1, hb1, (Go.Abs.g8 rfl (Go.Abs.g4 rfl (Go.Abs.g2 rfl (gth rfl (gth rfl h1))))), (Go.Abs.g8 rfl (Go.Abs.g4 rfl (Go.Abs.g2 rfl (gth rfl (gth rfl h2))))), (Go.Abs.g8 rfl (Go.Abs.g4 rfl (Go.Abs.g2 rfl (gth rfl (gth rfl h7))))), (Go.Abs.g8 rfl (Go.Abs.g4 rfl (Go.Abs.g2 rfl (gth rfl (gth rfl h10))))), (Go.Abs.g8 rfl (Go.Abs.g4 rfl (Go.Abs.g2 rfl (gth rfl (gth rfl h11))))), Tr.get_here⟩

set_option maxHeartbeats 20000000 in
theorem loop9 {t0 : Tr AObj} {n0 lb : Nat} {d : D} {es : List Ef} {k : Int} {nm : List UInt8} (hes : es.length ≤ 1048576) (hV0 : View t0 n0 d es) : ∀ (rest : List Ef) (j : Nat) (acc : List UInt8) (T : Tr D) (t : Tr AObj) (n : Nat) (Q : QX), I9 t0 n0 lb T t n d es k nm acc j → es.drop j = rest → acc.length + lenOf rest ≤ room →
    (∀ T' t' n', T'.get 7 = some (.ptr lb 0) → BV n0 t' n' lb (acc ++ textOf k nm rest) → Gr t0 n0 t' n' → Q (.exit 0) T' t' n') → WL Tryz.prog Γ X9_L0 T t n Q
  | [], j, acc, T, t, n, Q, h, hd, hl, hQ => by
    have hge : es.length ≤ j := List.drop_eq_nil_iff.1 hd
    obtain ⟨hg, hb, h1, h2, h7, h10, h11, h12⟩ := h
    have hlt' : decide ((j : Int) < (es.length : Int)) = false := by simp; omega
    refine WL.more ?_
    unfold X9_L0
    refine WX.seq ?_
    refine WX.region ?_
    refine WR.val gd_n rfl (A_ltI (rd_t h12) (rd_t h11) hlt') ?_
    refine WR.nil ?_
    refine thn_n ?_
    refine WX.seq ?_
    refine WX.condF (rd_t Tr.get_here) ?_
    refine WX.exit ?_
    refine thn_x ?_
    refine lop_x (hQ _ _ _ (gth rfl h7) ?_ hg)
    rw [textOf, List.append_nil]; exact hb
  | e :: r, j, acc, T, t, n, Q, h, hd, hl, hQ => by
    obtain ⟨h1, h2, h3, _⟩ := drop_cons hd.symm
    rw [lenOf] at hl
    refine WL.more (step9 hV0 h h2 (by omega) (by omega) fun T' t' n' h' => lop_n ?_)
    refine loop9 hes hV0 r (j + 1) _ T' t' n' Q h' h3.symm ?_ fun T2 t2 n2 h7 hb2 g2 => hQ T2 t2 n2 h7 ?_ g2
    · split
      · rw [List.length_append]; omega
      · omega
    · rw [textOf]
      split at hb2
      · rename_i hc; rw [if_pos hc, ← List.append_assoc]; exact hb2
      · rename_i hc; rw [if_neg hc]; exact hb2

set_option maxHeartbeats 20000000 in
/-- The program's Text. -/
theorem cx_sText {t : Tr AObj} {n : Nat} {d : D} {es : List Ef} (hV : View t n d es) (hes : es.length ≤ 1048576) (hl : lenOf es ≤ room) (k : Int) (nm : List UInt8) :
    ∃ t' n', CX Tryz.prog Γ 9 [d, .i .u8 k, .s nm] (S.mk t n).h (.s (textOf k nm es)) (S.mk t' n').h ∧ Gr t n t' n' := by
  have hok := hV.ok
  have key := CX.ofWX (P := Tryz.prog) (Γ := Γ) (t := t) (n := n) (f := 9) (args := [d, .i .u8 k, .s nm]) Tryz.func9 X9_eq (by kernel_rfl) (by kernel_rfl) (by rfl) (R := fun d' t' n' => d' = .s (textOf k nm es) ∧ Gr t n t' n') (by
    show WX _ _ X9.body (((Tr.e.set 0 (some d)).set 1 (some (.i .u8 k))).set 2 (some (.s nm))) _ _ _
    unfold X9
    have hb0 : BV n (t.set n (some (.cells [.nilp, .nils] 148))) (n + 1) n [] := ⟨Nat.le_refl _, Nat.lt_succ_self _, .nilp, .nils, Tr.get_here, .inl rfl, .inl ⟨rfl, rfl⟩⟩
    have hg0 : Gr t n (t.set n (some (.cells [.nilp, .nils] 148))) (n + 1) := (by (repeat refine Gr.set ?_ (by omega)); exact Gr.refl.up (by omega))
    refine WX.seq ?_
    refine WX.region ?_
    refine WR.val gd_n rfl (A_mv rd_c rfl) ?_
    refine WR.nil ?_
    refine thn_n ?_
    refine WX.seq ?_
    refine WX.region ?_
    refine WR.new gd_n rfl (A_alloc) ?_
    refine WR.nil ?_
    refine thn_n ?_
    refine WX.seq ?_
    refine WX.seq ?_
    refine WX.region ?_
    refine WR.val gd_n rfl (A_mv (rd_t (Go.Abs.g4 rfl Tr.get_here)) hok) ?_
    refine WR.val gd_n rfl (hV.len (rd_t Tr.get_here)) ?_
    refine WR.val gd_n rfl (A_mv rd_c rfl) ?_
    refine WR.nil ?_
    refine thn_n ?_
    refine WX.block ?_
    refine WX.loop ?_
    refine loop9 (lb := n) hes hV es 0 [] _ _ _ _ ⟨hg0, hb0, (by (first | exact Tr.get_here | assumption | ((repeat refine Tr.get_there (by first | decide | omega) ?_); first | exact Tr.get_here | assumption))), (by (first | exact Tr.get_here | assumption | ((repeat refine Tr.get_there (by first | decide | omega) ?_); first | exact Tr.get_here | assumption))), (by (first | exact Tr.get_here | assumption | ((repeat refine Tr.get_there (by first | decide | omega) ?_); first | exact Tr.get_here | assumption))), (by (first | exact Tr.get_here | assumption | ((repeat refine Tr.get_there (by first | decide | omega) ?_); first | exact Tr.get_here | assumption))), (by (first | exact Tr.get_here | assumption | ((repeat refine Tr.get_there (by first | decide | omega) ?_); first | exact Tr.get_here | assumption))), (by (first | exact Tr.get_here | assumption | ((repeat refine Tr.get_there (by first | decide | omega) ?_); first | exact Tr.get_here | assumption)))⟩ rfl (by simpa using hl) fun T' t' n' h7 hb g => ?_
    rw [List.nil_append] at hb
    obtain ⟨t3, hcs, hk3⟩ := cx_str (Γ := Γ) hb
    refine blk_x ?_
    refine thn_n ?_
    refine WX.seq ?_
    refine WX.region ?_
    refine WR.call gd_n (args_cons (rd_t h7) args_nil) rfl hcs ?_
    refine WR.val gd_n rfl (A_mv (rd_t Tr.get_here) rfl) ?_
    refine WR.nil ?_
    refine thn_n ?_
    refine WX.ret ?_
    exact retQ_r (res_t Tr.get_here res_nil) rfl ⟨rfl, g.mk' (Nat.le_refl _) hk3⟩)
  obtain ⟨d', t', n', hx, rfl, hg⟩ := key
  exact ⟨t', n', hx, hg⟩
end
end Go.Proofs.YtelnkadnphephaaGreatDoor.T
end
noncomputable section
namespace Go.Proofs.YtelnkadnphephaaGreatDoor.T
open Go Go.Abs
noncomputable section

theorem mixedS : Tryz.prog.follows .mixedOrders = true := by kernel_rfl
def noCall : CallF := fun _ _ _ => none
variable {Γ : Nat → D}
theorem hcall : CallOk Tryz.prog Γ noCall := fun _ _ _ _ _ h => by cases h

theorem eqD_same (get : Nat → Option AObj) (e : Ef) : eqD get (.cells 3 [(0, .i), (1, .s), (2, .s)]) e.d e.d = some true := by
  simp [eqD, Ef.d, Ef.cs, leavesEq, leafEq]

attribute [local irreducible] aop evT tm guardX Tr.get Tr.set WR WD WX WL thn blk lop View Gr

structure I11 (t0 : Tr AObj) (n0 : Nat) (T : Tr D) (t : Tr AObj) (n : Nat) (d1 d2 : D) (es : List Ef) (j : Nat) : Prop where
  g : Gr t0 n0 t n
  h0 : T.get 0 = some d1
  h1 : T.get 1 = some d2
  h12 : T.get 12 = some (.i .i64 es.length)
  h13 : T.get 13 = some (.i .i64 (j : Nat))

set_option maxHeartbeats 20000000 in
theorem step11 {t0 : Tr AObj} {n0 : Nat} {T : Tr D} {t : Tr AObj} {n j : Nat} {d1 d2 : D} {es : List Ef} {e : Ef} (hV1 : View t0 n0 d1 es) (hV2 : View t0 n0 d2 es) (h : I11 t0 n0 T t n d1 d2 es j) (hj : es[j]? = some e) (hjl : j ≤ 1048576)
    {Q : QX} (hQ : ∀ T' t' n', I11 t0 n0 T' t' n' d1 d2 es (j + 1) → Q .norm T' t' n') : WX Tryz.prog Γ X11_L0 T t n Q := by
  obtain ⟨hg, h0, h1, h12, h13⟩ := h
  have ok1 := hV1.ok
  have ok2 := hV2.ok
  obtain ⟨a, ha, hi, hld⟩ := hV1.at hj
  obtain ⟨a2, ha2, hi2, hld2⟩ := hV2.at hj
  obtain ⟨hlt, _⟩ := List.getElem?_eq_some_iff.1 hj
  have hlt' : decide ((j : Int) < (es.length : Int)) = true := by simp [hlt]
  have hw := wrap1 hjl
  unfold X11_L0
  refine WX.seq ?_
  refine WX.region ?_
  refine WR.val gd_n rfl (A_ltI (rd_t h13) (rd_t h12) hlt') ?_
  refine WR.nil ?_
  refine thn_n ?_
  refine WX.seq ?_
  refine WX.condT (rd_t Tr.get_here) ?_
  refine WX.skip ?_
  refine thn_n ?_
  refine WX.seq ?_
  refine WX.block ?_
  refine WX.seq ?_
  refine WX.region ?_
  refine WR.val gd_n rfl (A_mv (rd_t (gth rfl h13)) rfl) ?_
  refine WR.val gd_n rfl (A_mv (rd_t Tr.get_here) rfl) ?_
  refine WR.nil ?_
  refine thn_n ?_
  refine WX.seq ?_
  refine WX.draw hcall mixedS (by rfl) ?_
  refine WD.val gd_n rfl rfl (fun _ => A_mv (rd_t (g2 rfl (gth rfl h0))) ok1) ?_
  refine WD.val gd_n rfl rfl (fun _ => A_mv (rd_t (gth rfl Tr.get_here)) rfl) ?_
  refine WD.val gd_n rfl rfl (fun _ => hi _ _ _ _ _ (rd_t (gth rfl Tr.get_here)) (rd_t Tr.get_here)) ?_
  refine WD.val gd_n rfl rfl (fun _ => hld _ _ hg _ _ _ (rd_t Tr.get_here)) ?_
  refine WD.val gd_n rfl rfl (fun _ => A_mv (rd_t (g4 rfl (g2 rfl (gth rfl h1)))) ok2) ?_
  refine WD.val gd_n rfl rfl (fun _ => A_mv (rd_t (g4 rfl (gth rfl Tr.get_here))) rfl) ?_
  refine WD.val gd_n rfl rfl (fun _ => hi2 _ _ _ _ _ (rd_t (gth rfl Tr.get_here)) (rd_t Tr.get_here)) ?_
  refine WD.val gd_n rfl rfl (fun _ => hld2 _ _ hg _ _ _ (rd_t Tr.get_here)) ?_
  refine WD.val gd_n rfl rfl (fun _ => A_eq (rd_t (g4 rfl Tr.get_here)) (rd_t Tr.get_here) (eqD_same _ e) rfl) ?_
  refine WD.nil ?_
  refine thn_n ?_
  refine WX.condF (rd_t Tr.get_here) ?_
  refine WX.skip ?_
  refine blk_n ?_
  refine thn_n ?_
  refine WX.region ?_
  refine WR.val gd_n rfl (A_add (rd_t (g8 rfl (g2 rfl (gth rfl (gth rfl h13))))) rd_c hw) ?_
  refine WR.val gd_n rfl (A_mv (rd_t Tr.get_here) rfl) ?_
  refine WR.nil ?_
  exact hQ _ _ _ ⟨hg.up (by omega), (g8 rfl (g4 rfl (gth rfl (gth rfl h0)))), (g8 rfl (g4 rfl (gth rfl (gth rfl h1)))), (g8 rfl (g4 rfl (gth rfl (gth rfl h12)))), Tr.get_here⟩

set_option maxHeartbeats 20000000 in
theorem loop11 {t0 : Tr AObj} {n0 : Nat} {d1 d2 : D} {es : List Ef} (hes : es.length ≤ 1048576) (hV1 : View t0 n0 d1 es) (hV2 : View t0 n0 d2 es) : ∀ (rest : List Ef) (j : Nat) (T : Tr D) (t : Tr AObj) (n : Nat) (Q : QX), I11 t0 n0 T t n d1 d2 es j → es.drop j = rest →
    (∀ T' t' n', Gr t0 n0 t' n' → Q (.exit 0) T' t' n') → WL Tryz.prog Γ X11_L0 T t n Q
  | [], j, T, t, n, Q, h, hd, hQ => by
    have hge : es.length ≤ j := List.drop_eq_nil_iff.1 hd
    obtain ⟨hg, h0, h1, h12, h13⟩ := h
    have hlt' : decide ((j : Int) < (es.length : Int)) = false := by simp; omega
    refine WL.more ?_
    unfold X11_L0
    refine WX.seq ?_
    refine WX.region ?_
    refine WR.val gd_n rfl (A_ltI (rd_t h13) (rd_t h12) hlt') ?_
    refine WR.nil ?_
    refine thn_n ?_
    refine WX.seq ?_
    refine WX.condF (rd_t Tr.get_here) ?_
    refine WX.exit ?_
    refine thn_x ?_
    exact lop_x (hQ _ _ _ hg)
  | e :: r, j, T, t, n, Q, h, hd, hQ => by
    obtain ⟨h1, h2, h3, _⟩ := drop_cons hd.symm
    refine WL.more (step11 hV1 hV2 h h2 (by omega) fun T' t' n' h' => lop_n ?_)
    exact loop11 hes hV1 hV2 r (j + 1) T' t' n' Q h' h3.symm hQ

set_option maxHeartbeats 20000000 in
/-- Two readings of one list are one. -/
theorem cx_eff {t : Tr AObj} {n : Nat} {d1 d2 : D} {es : List Ef} (hV1 : View t n d1 es) (hV2 : View t n d2 es) (hes : es.length ≤ 1048576) :
    ∃ t' n', CX Tryz.prog Γ 11 [d1, d2] (S.mk t n).h (.b true) (S.mk t' n').h ∧ Gr t n t' n' := by
  have ok1 := hV1.ok
  have ok2 := hV2.ok
  have hne : (((es.length : Nat) : Int) != ((es.length : Nat) : Int)) = false := by simp
  have key := CX.ofWX (P := Tryz.prog) (Γ := Γ) (t := t) (n := n) (f := 11) (args := [d1, d2]) Tryz.func11 X11_eq (by kernel_rfl) (by kernel_rfl) (by rfl) (R := fun d' t' n' => d' = .b true ∧ Gr t n t' n') (by
    show WX _ _ X11.body ((Tr.e.set 0 (some d1)).set 1 (some d2)) _ _ _
    unfold X11
    refine WX.seq ?_
    refine WX.region ?_
    refine WR.val gd_n rfl (A_mv rd_c rfl) ?_
    refine WR.nil ?_
    refine thn_n ?_
    refine WX.seq ?_
    refine WX.seq ?_
    refine WX.region ?_
    refine WR.val gd_n rfl (A_mv (rd_t (g2 rfl Tr.get_here)) ok1) ?_
    refine WR.val gd_n rfl (hV1.len (rd_t Tr.get_here)) ?_
    refine WR.val gd_n rfl (A_mv (rd_t (g2 rfl (gth rfl Tr.get_here))) ok2) ?_
    refine WR.val gd_n rfl (hV2.len (rd_t Tr.get_here)) ?_
    refine WR.val gd_n rfl (A_neI (rd_t (g2 rfl Tr.get_here)) (rd_t Tr.get_here) hne) ?_
    refine WR.nil ?_
    refine thn_n ?_
    refine WX.condF (rd_t Tr.get_here) ?_
    refine WX.skip ?_
    refine thn_n ?_
    refine WX.seq ?_
    refine WX.seq ?_
    refine WX.region ?_
    refine WR.val gd_n rfl (A_mv (rd_t (g4 rfl (g2 rfl (gth rfl Tr.get_here)))) ok1) ?_
    refine WR.val gd_n rfl (hV1.len (rd_t Tr.get_here)) ?_
    refine WR.val gd_n rfl (A_mv rd_c rfl) ?_
    refine WR.nil ?_
    refine thn_n ?_
    refine WX.block ?_
    refine WX.loop ?_
    refine loop11 hes hV1 hV2 es 0 _ _ _ _ ⟨Gr.refl, (by (first | exact Tr.get_here | assumption | ((repeat refine Tr.get_there (by first | decide | omega) ?_); first | exact Tr.get_here | assumption))), (by (first | exact Tr.get_here | assumption | ((repeat refine Tr.get_there (by first | decide | omega) ?_); first | exact Tr.get_here | assumption))), (by (first | exact Tr.get_here | assumption | ((repeat refine Tr.get_there (by first | decide | omega) ?_); first | exact Tr.get_here | assumption))), (by (first | exact Tr.get_here | assumption | ((repeat refine Tr.get_there (by first | decide | omega) ?_); first | exact Tr.get_here | assumption)))⟩ rfl fun T' t' n' g => ?_
    refine blk_x ?_
    refine thn_n ?_
    refine WX.seq ?_
    refine WX.region ?_
    refine WR.val gd_n rfl (A_mv rd_c rfl) ?_
    refine WR.nil ?_
    refine thn_n ?_
    refine WX.ret ?_
    exact retQ_r (res_t Tr.get_here res_nil) rfl ⟨rfl, g⟩)
  obtain ⟨d', t', n', hx, rfl, hg⟩ := key
  exact ⟨t', n', hx, hg⟩
end
end Go.Proofs.YtelnkadnphephaaGreatDoor.T
end
noncomputable section
namespace Go.Proofs.YtelnkadnphephaaGreatDoor.T
open Go Go.Abs
noncomputable section

/-- One more effect. -/
def put1 (out : List Ef) (e : Ef) : List Ef :=
  if e.tx = [] then out else
  match out.getLast? with
  | none => [e]
  | some b => if b.k = e.k ∧ b.nm = e.nm then out.dropLast ++ [⟨b.k, b.nm, b.tx ++ e.tx⟩] else out ++ [e]

def joinL : List Ef → List Ef → List Ef
  | out, [] => out
  | out, e :: r => joinL (put1 out e) r

/-- A list in the making. -/
def OV (n0 : Nat) (t : Tr AObj) (n : Nat) (d : D) (out : List Ef) : Prop :=
  (d = .nils ∧ out = []) ∨ ∃ l pre b, n0 ≤ l ∧ l < n ∧ d = .sl 3 l 0 (pre.length + 1) ∧ out = pre ++ [b] ∧ t.get l = some (.cells (pre.flatMap Ef.cs ++ b.cs) 0)

theorem flat_len : ∀ l : List Ef, (l.flatMap Ef.cs).length = l.length * 3
  | [] => rfl
  | e :: r => by
    have := flat_len r
    simp only [List.flatMap_cons, List.length_append, List.length_cons, this]
    have : e.cs.length = 3 := rfl
    omega

theorem cat_get (pre : List Ef) (b : Ef) (i : Nat) : (pre.flatMap Ef.cs ++ b.cs)[0 + pre.length * 3 + i]? = b.cs[i]? := by
  rw [List.getElem?_append_right (by rw [flat_len]; omega), flat_len]
  congr 1; omega

theorem cat_splice (pre : List Ef) (b : Ef) (x : List UInt8) : splice (pre.flatMap Ef.cs ++ b.cs) (0 + pre.length * 3 + 2) (D.s x).cells = pre.flatMap Ef.cs ++ Ef.cs ⟨b.k, b.nm, x⟩ := by
  have hl := flat_len pre
  have e1 : (pre.flatMap Ef.cs ++ b.cs).take (0 + pre.length * 3 + 2) = pre.flatMap Ef.cs ++ [.i .u8 b.k, .s b.nm] := by
    rw [List.take_append, List.take_of_length_le (by omega), show 0 + pre.length * 3 + 2 - (pre.flatMap Ef.cs).length = 2 by omega]; rfl
  have e2 : (pre.flatMap Ef.cs ++ b.cs).drop (0 + pre.length * 3 + 2 + (D.s x).cells.length) = [] := by
    rw [List.drop_eq_nil_of_le]
    rw [List.length_append, hl]
    show _ ≤ 0 + pre.length * 3 + 2 + 1
    have : b.cs.length = 3 := rfl
    omega
  rw [splice, e1, e2, List.append_nil]
  simp [Ef.cs, D.cells]

theorem cat_len (pre : List Ef) (b : Ef) : (pre.flatMap Ef.cs ++ b.cs).length = pre.length * 3 + 3 := by
  rw [List.length_append, flat_len]; rfl

theorem wrapm {L : Nat} (h : L ≤ 1048576) : IntKind.wrap .i64 (((L + 1 : Nat) : Int) - Int.ofNat 1) = ((L : Nat) : Int) := by
  have e : (((L + 1 : Nat) : Int) - Int.ofNat 1) = ((L : Nat) : Int) := by simp
  rw [e]
  exact Go.Abs.wrap_small (k := .i64) (m := L) (by show L ≤ 9223372036854775807; omega)

theorem put1_len (out : List Ef) (e : Ef) : (put1 out e).length ≤ out.length + 1 := by
  unfold put1
  split
  · omega
  · split
    · simp
    · split
      · simp
      · simp

theorem lenOf_append : ∀ a b : List Ef, lenOf (a ++ b) = lenOf a + lenOf b
  | [], b => by simp [lenOf]
  | e :: r, b => by simp only [List.cons_append, lenOf, lenOf_append r b]; omega

theorem put1_sum (out : List Ef) (e : Ef) : lenOf (put1 out e) ≤ lenOf out + e.tx.length := by
  unfold put1
  split
  · omega
  · split
    · simp [lenOf]
    · rename_i b hb
      obtain ⟨pre, rfl⟩ := List.getLast?_eq_some_iff.1 hb
      split
      · rw [List.dropLast_concat, lenOf_append, lenOf_append]
        simp only [lenOf, List.length_append]; omega
      · rw [lenOf_append]; simp only [lenOf]; omega

theorem put1_e {out : List Ef} {e : Ef} (h : e.tx = []) : put1 out e = out := by simp [put1, h]
theorem put1_n {e : Ef} (h : e.tx ≠ []) : put1 [] e = [e] := by simp [put1, h]
theorem put1_j {pre : List Ef} {b e : Ef} (h : e.tx ≠ []) (h1 : b.k = e.k) (h2 : b.nm = e.nm) : put1 (pre ++ [b]) e = pre ++ [⟨b.k, b.nm, b.tx ++ e.tx⟩] := by
  simp [put1, h, h1, h2]
theorem put1_a {pre : List Ef} {b e : Ef} (h : e.tx ≠ []) (h1 : ¬ (b.k = e.k ∧ b.nm = e.nm)) : put1 (pre ++ [b]) e = pre ++ [b] ++ [e] := by
  simp [put1, h, h1]

theorem S_sl {get : Nat → Option AObj} {sz l off len m : Nat} {cs new : List D} (hg : get l = some (.cells cs m)) (h : off + len * sz ≤ cs.length) (hn : (cs.drop off).take (len * sz) = new) : slCells get sz (.sl sz l off len) = some (new, len, some l) := by
  subst hn
  simp only [slCells, hg, h, and_self, if_true]
theorem A_bslice {get : Nat → Option AObj} {n : Nat} {ev : Opd → D} {x : Opd} {d : D} {sz len m : Nat} {zs ds : List D} {o k : Nat} (hx : ev x = d) (h : fillD zs [(o, k, d)] = some ds) (hm : zMark zs = m) : aop get n ev (.bslice sz zs [(o, k, x)] len) = .new (.cells ds m) (.sl sz n 0 len) := A_bslice1 (by rw [hx]; exact h) hm
theorem A_appNil0' {get : Nat → Option AObj} {n : Nat} {ev : Opd → D} {x y : Opd} {d : D} {sz bytes mk : Nat} {ly : Option Nat} {new : List D} (h : ev x = .nils) (hy : ev y = d) (h1 : slCells get sz d = some (new, 0, ly)) : aop get n ev (.app sz bytes mk x y) = .val .nils := A_appNil0 h (by rw [hy]; exact h1)
theorem A_appNil' {get : Nat → Option AObj} {n : Nat} {ev : Opd → D} {x y : Opd} {d : D} {sz bytes mk m0 : Nat} {ly : Option Nat} {new : List D} (h : ev x = .nils) (hy : ev y = d) (h1 : slCells get sz d = some (new, m0, ly)) (h0 : m0 ≠ 0) (hr : m0 * bytes ≤ room) : aop get n ev (.app sz bytes mk x y) = .new (.cells new mk) (.sl sz n 0 m0) := A_appNil h (by rw [hy]; exact h1) h0 hr
theorem A_appSl' {get : Nat → Option AObj} {n : Nat} {ev : Opd → D} {x y : Opd} {d : D} {sz bytes mk m0 len l off m : Nat} {ly : Option Nat} {new cs cs' : List D} (h : ev x = .sl sz l off len) (hy : ev y = d) (h1 : slCells get sz d = some (new, m0, ly)) (h0 : m0 ≠ 0) (hl : ly ≠ some l) (hg : get l = some (.cells cs m)) (h2 : off + len * sz ≤ cs.length) (hr : (len + m0) * bytes ≤ room) (hm : m ≤ 1 ∨ (m = mk ∧ off = 0))
    (hc : (cs.drop off).take (len * sz) ++ new = cs') : aop get n ev (.app sz bytes mk x y) = .app l (.cells cs' m) (.sl sz n 0 (len + m0)) := A_appSl h (by rw [hy]; exact h1) h0 hl hg h2 hr hm hc

variable {Γ : Nat → D}

attribute [local irreducible] aop evT tm guardX Tr.get Tr.set WR WD WX WL thn blk lop View Gr

structure I12 (t0 : Tr AObj) (n0 : Nat) (T : Tr D) (t : Tr AObj) (n : Nat) (d : D) (es out : List Ef) (j : Nat) : Prop where
  g : Gr t0 n0 t n
  h3 : ∃ dO, T.get 3 = some dO ∧ OV n0 t n dO out
  h7 : T.get 7 = some d
  h8 : T.get 8 = some (.i .i64 es.length)
  h9 : T.get 9 = some (.i .i64 (j : Nat))

set_option maxHeartbeats 20000000 in
theorem step12 {t0 : Tr AObj} {n0 : Nat} {T : Tr D} {t : Tr AObj} {n j : Nat} {d : D} {es out : List Ef} {e : Ef} (hV0 : View t0 n0 d es) (h : I12 t0 n0 T t n d es out j) (hj : es[j]? = some e) (hjl : j ≤ 1048576) (hol : out.length ≤ 1048576) (hsum0 : lenOf out + e.tx.length ≤ maxN)
    {Q : QX} (hQ : ∀ T' t' n', I12 t0 n0 T' t' n' d es (put1 out e) (j + 1) → Q .norm T' t' n') : WX Tryz.prog Γ X12_L0 T t n Q := by
  obtain ⟨hg, ⟨dO, h3, hO⟩, h7, h8, h9⟩ := h
  obtain ⟨a, ha, hi, hld⟩ := hV0.at hj
  obtain ⟨hlt, _⟩ := List.getElem?_eq_some_iff.1 hj
  have hlt' : decide ((j : Int) < (es.length : Int)) = true := by simp [hlt]
  have hw := wrap1 hjl
  have hn0 := hg.le
  unfold X12_L0
  rcases hO with ⟨rfl, rfl⟩ | ⟨l, pre, b, hl0, hln0, rfl, rfl, hgl⟩
  · have okO : D.nils.ok = true := rfl
    by_cases hx : e.tx = []
    · have htx : (e.tx == bs []) = true := by rw [hx]; rfl
      rw [put1_e hx] at hQ
      refine WX.seq ?_
      refine WX.region ?_
      refine WR.val gd_n rfl (A_ltI (rd_t h9) (rd_t h8) hlt') ?_
      refine WR.nil ?_
      refine thn_n ?_
      refine WX.seq ?_
      refine WX.condT (rd_t Tr.get_here) ?_
      refine WX.skip ?_
      refine thn_n ?_
      refine WX.seq ?_
      refine WX.block ?_
      refine WX.seq ?_
      refine WX.region ?_
      refine WR.val gd_n rfl (hi _ _ _ _ _ (rd_t (gth rfl h7)) (rd_t (gth rfl h9))) ?_
      refine WR.val gd_n rfl (hld _ _ hg _ _ _ (rd_t Tr.get_here)) ?_
      refine WR.new gd_n rfl (A_alloc) ?_
      refine WR.upd0 gd_n rfl (A_st (rd_t Tr.get_here) (by (first | exact Tr.get_here | assumption | ((repeat refine Tr.get_there (by first | decide | omega) ?_); first | exact Tr.get_here | assumption))) (rd_t (gth rfl Tr.get_here)) rfl (Nat.le_of_ble_eq_true rfl) rfl rfl) ?_
      refine WR.nil ?_
      refine thn_n ?_
      refine WX.seq ?_
      refine WX.region ?_
      refine WR.val gd_n rfl (A_mv (rd_t (g2 rfl (gth rfl (gth rfl h3)))) okO) ?_
      refine WR.val gd_n rfl (A_lenNil (rd_t Tr.get_here)) ?_
      refine WR.val gd_n rfl (A_mv (rd_t Tr.get_here) rfl) ?_
      refine WR.nil ?_
      refine thn_n ?_
      refine WX.block ?_
      refine WX.seq ?_
      refine WX.region ?_
      refine WR.val gd_n rfl (A_faddr (rd_t (g2 rfl (gth rfl Tr.get_here)))) ?_
      refine WR.val gd_n rfl (A_ld1 (rd_t Tr.get_here) (by (first | exact Tr.get_here | assumption | ((repeat refine Tr.get_there (by first | decide | omega) ?_); first | exact Tr.get_here | assumption))) rfl) ?_
      refine WR.val gd_n rfl (A_eqS (rd_t Tr.get_here) rd_c htx) ?_
      refine WR.val gd_n rfl (A_mv (rd_t Tr.get_here) rfl) ?_
      refine WR.nil ?_
      refine thn_n ?_
      refine WX.condT (rd_t Tr.get_here) ?_
      refine WX.skip ?_
      refine blk_n ?_
      refine blk_n ?_
      refine thn_n ?_
      refine WX.region ?_
      refine WR.val gd_n rfl (A_add (rd_t (g8 rfl (g2 rfl (gth rfl h9)))) rd_c hw) ?_
      refine WR.val gd_n rfl (A_mv (rd_t Tr.get_here) rfl) ?_
      refine WR.nil ?_
      exact hQ _ _ _ ⟨((hg.set hn0).set hn0).up (by omega), ⟨_, (g8 rfl (g4 rfl (gth rfl h3))), .inl ⟨rfl, rfl⟩⟩, (g8 rfl (g4 rfl (gth rfl h7))), (g8 rfl (g4 rfl (gth rfl h8))), Tr.get_here⟩
    · have htx : (e.tx == bs []) = false := by simpa [bs] using hx
      have hgt : decide ((0 : Int) > Int.ofNat 0) = false := rfl
      rw [put1_n hx] at hQ
      refine WX.seq ?_
      refine WX.region ?_
      refine WR.val gd_n rfl (A_ltI (rd_t h9) (rd_t h8) hlt') ?_
      refine WR.nil ?_
      refine thn_n ?_
      refine WX.seq ?_
      refine WX.condT (rd_t Tr.get_here) ?_
      refine WX.skip ?_
      refine thn_n ?_
      refine WX.seq ?_
      refine WX.block ?_
      refine WX.seq ?_
      refine WX.region ?_
      refine WR.val gd_n rfl (hi _ _ _ _ _ (rd_t (gth rfl h7)) (rd_t (gth rfl h9))) ?_
      refine WR.val gd_n rfl (hld _ _ hg _ _ _ (rd_t Tr.get_here)) ?_
      refine WR.new gd_n rfl (A_alloc) ?_
      refine WR.upd0 gd_n rfl (A_st (rd_t Tr.get_here) (by (first | exact Tr.get_here | assumption | ((repeat refine Tr.get_there (by first | decide | omega) ?_); first | exact Tr.get_here | assumption))) (rd_t (gth rfl Tr.get_here)) rfl (Nat.le_of_ble_eq_true rfl) rfl rfl) ?_
      refine WR.nil ?_
      refine thn_n ?_
      refine WX.seq ?_
      refine WX.region ?_
      refine WR.val gd_n rfl (A_mv (rd_t (g2 rfl (gth rfl (gth rfl h3)))) okO) ?_
      refine WR.val gd_n rfl (A_lenNil (rd_t Tr.get_here)) ?_
      refine WR.val gd_n rfl (A_mv (rd_t Tr.get_here) rfl) ?_
      refine WR.nil ?_
      refine thn_n ?_
      refine WX.block ?_
      refine WX.seq ?_
      refine WX.region ?_
      refine WR.val gd_n rfl (A_faddr (rd_t (g2 rfl (gth rfl Tr.get_here)))) ?_
      refine WR.val gd_n rfl (A_ld1 (rd_t Tr.get_here) (by (first | exact Tr.get_here | assumption | ((repeat refine Tr.get_there (by first | decide | omega) ?_); first | exact Tr.get_here | assumption))) rfl) ?_
      refine WR.val gd_n rfl (A_eqS (rd_t Tr.get_here) rd_c htx) ?_
      refine WR.val gd_n rfl (A_mv (rd_t Tr.get_here) rfl) ?_
      refine WR.nil ?_
      refine thn_n ?_
      refine WX.condF (rd_t Tr.get_here) ?_
      refine WX.seq ?_
      refine WX.draw hcall mixedS (by rfl) ?_
      refine WD.val gd_n rfl rfl (fun _ => A_mv (rd_t (g4 rfl Tr.get_here)) rfl) ?_
      refine WD.val gd_n rfl rfl (fun _ => A_gtI (rd_t Tr.get_here) rd_c hgt) ?_
      refine WD.val gd_n rfl rfl (fun _ => A_mv (rd_t Tr.get_here) rfl) ?_
      refine WD.skip (gd_tf Tr.get_here) ?_
      refine WD.skip (gd_tf (gth rfl Tr.get_here)) ?_
      refine WD.skip (gd_tf (g2 rfl Tr.get_here)) ?_
      refine WD.skip (gd_tf (g2 rfl (gth rfl Tr.get_here))) ?_
      refine WD.skip (gd_tf (g4 rfl Tr.get_here)) ?_
      refine WD.skip (gd_tf (g4 rfl (gth rfl Tr.get_here))) ?_
      refine WD.skip (gd_tf (g4 rfl (g2 rfl Tr.get_here))) ?_
      refine WD.skip (gd_tf (g4 rfl (g2 rfl (gth rfl Tr.get_here)))) ?_
      refine WD.skip (gd_tf (g8 rfl Tr.get_here)) ?_
      refine WD.val gd_n rfl rfl (fun _ => A_pickF (rd_t (g8 rfl (gth rfl Tr.get_here))) rd_c rfl) ?_
      refine WD.val gd_n rfl rfl (fun _ => A_mv (rd_t Tr.get_here) rfl) ?_
      refine WD.skip (gd_tf Tr.get_here) ?_
      refine WD.skip (gd_tf (gth rfl Tr.get_here)) ?_
      refine WD.skip (gd_tf (g2 rfl Tr.get_here)) ?_
      refine WD.skip (gd_tf (g2 rfl (gth rfl Tr.get_here))) ?_
      refine WD.skip (gd_tf (g4 rfl Tr.get_here)) ?_
      refine WD.skip (gd_tf (g4 rfl (gth rfl Tr.get_here))) ?_
      refine WD.skip (gd_tf (g4 rfl (g2 rfl Tr.get_here))) ?_
      refine WD.skip (gd_tf (g4 rfl (g2 rfl (gth rfl Tr.get_here)))) ?_
      refine WD.skip (gd_tf (g8 rfl Tr.get_here)) ?_
      refine WD.val gd_n rfl rfl (fun _ => A_pickF (rd_t (g8 rfl (gth rfl Tr.get_here))) rd_c rfl) ?_
      refine WD.val gd_n rfl rfl (fun _ => A_mv (rd_t Tr.get_here) rfl) ?_
      refine WD.nil ?_
      refine thn_n ?_
      refine WX.condF (rd_t Tr.get_here) ?_
      refine WX.region ?_
      refine WR.val gd_n rfl (A_mv (rd_t (g8 rfl (g8 rfl (g8 rfl (g8 rfl (g2 rfl (gth rfl (gth rfl h3)))))))) okO) ?_
      refine WR.val gd_n rfl (A_ldA (rd_t (g8 rfl (g8 rfl (g8 rfl (g8 rfl (gth rfl Tr.get_here)))))) (by (first | exact Tr.get_here | assumption | ((repeat refine Tr.get_there (by first | decide | omega) ?_); first | exact Tr.get_here | assumption))) (Nat.le_of_ble_eq_true rfl) rfl) ?_
      refine WR.new gd_n rfl (A_bslice (rd_t Tr.get_here) rfl rfl) ?_
      refine WR.new gd_n rfl (A_appNil' (rd_t (g2 rfl Tr.get_here)) (rd_t Tr.get_here) (S_sl Tr.get_here (Nat.le_of_ble_eq_true rfl) rfl) (by decide) (by decide)) ?_
      refine WR.val gd_n rfl (A_mv (rd_t Tr.get_here) rfl) ?_
      refine WR.nil ?_
      refine blk_n ?_
      refine blk_n ?_
      refine thn_n ?_
      refine WX.region ?_
      refine WR.val gd_n rfl (A_add (rd_t (g8 rfl (g8 rfl (g8 rfl (g8 rfl (g8 rfl (gth rfl h9))))))) rd_c hw) ?_
      refine WR.val gd_n rfl (A_mv (rd_t Tr.get_here) rfl) ?_
      refine WR.nil ?_
      exact hQ _ _ _ ⟨(((((hg.set hn0).set hn0).set (by omega)).set (by omega)).up (by omega)), ⟨_, (g2 rfl Tr.get_here), .inr ⟨_, [], e, by omega, Nat.lt_succ_self _, rfl, rfl, Tr.get_here⟩⟩, (g8 rfl (g8 rfl (g8 rfl (g8 rfl (g8 rfl (g2 rfl (gth rfl h7))))))), (g8 rfl (g8 rfl (g8 rfl (g8 rfl (g8 rfl (g2 rfl (gth rfl h8))))))), Tr.get_here⟩
  · have okO : (D.sl 3 l 0 (pre.length + 1)).ok = true := rfl
    have hpl : pre.length ≤ 1048576 := by simp at hol; omega
    by_cases hx : e.tx = []
    · have htx : (e.tx == bs []) = true := by rw [hx]; rfl
      rw [put1_e hx] at hQ
      refine WX.seq ?_
      refine WX.region ?_
      refine WR.val gd_n rfl (A_ltI (rd_t h9) (rd_t h8) hlt') ?_
      refine WR.nil ?_
      refine thn_n ?_
      refine WX.seq ?_
      refine WX.condT (rd_t Tr.get_here) ?_
      refine WX.skip ?_
      refine thn_n ?_
      refine WX.seq ?_
      refine WX.block ?_
      refine WX.seq ?_
      refine WX.region ?_
      refine WR.val gd_n rfl (hi _ _ _ _ _ (rd_t (gth rfl h7)) (rd_t (gth rfl h9))) ?_
      refine WR.val gd_n rfl (hld _ _ hg _ _ _ (rd_t Tr.get_here)) ?_
      refine WR.new gd_n rfl (A_alloc) ?_
      refine WR.upd0 gd_n rfl (A_st (rd_t Tr.get_here) (by (first | exact Tr.get_here | assumption | ((repeat refine Tr.get_there (by first | decide | omega) ?_); first | exact Tr.get_here | assumption))) (rd_t (gth rfl Tr.get_here)) rfl (Nat.le_of_ble_eq_true rfl) rfl rfl) ?_
      refine WR.nil ?_
      refine thn_n ?_
      refine WX.seq ?_
      refine WX.region ?_
      refine WR.val gd_n rfl (A_mv (rd_t (g2 rfl (gth rfl (gth rfl h3)))) okO) ?_
      refine WR.val gd_n rfl (A_lenSl (rd_t Tr.get_here)) ?_
      refine WR.val gd_n rfl (A_mv (rd_t Tr.get_here) rfl) ?_
      refine WR.nil ?_
      refine thn_n ?_
      refine WX.block ?_
      refine WX.seq ?_
      refine WX.region ?_
      refine WR.val gd_n rfl (A_faddr (rd_t (g2 rfl (gth rfl Tr.get_here)))) ?_
      refine WR.val gd_n rfl (A_ld1 (rd_t Tr.get_here) (by (first | exact Tr.get_here | assumption | ((repeat refine Tr.get_there (by first | decide | omega) ?_); first | exact Tr.get_here | assumption))) rfl) ?_
      refine WR.val gd_n rfl (A_eqS (rd_t Tr.get_here) rd_c htx) ?_
      refine WR.val gd_n rfl (A_mv (rd_t Tr.get_here) rfl) ?_
      refine WR.nil ?_
      refine thn_n ?_
      refine WX.condT (rd_t Tr.get_here) ?_
      refine WX.skip ?_
      refine blk_n ?_
      refine blk_n ?_
      refine thn_n ?_
      refine WX.region ?_
      refine WR.val gd_n rfl (A_add (rd_t (g8 rfl (g2 rfl (gth rfl h9)))) rd_c hw) ?_
      refine WR.val gd_n rfl (A_mv (rd_t Tr.get_here) rfl) ?_
      refine WR.nil ?_
      exact hQ _ _ _ ⟨((hg.set hn0).set hn0).up (by omega), ⟨_, (g8 rfl (g4 rfl (gth rfl h3))), .inr ⟨l, pre, b, hl0, by omega, rfl, rfl, by (first | exact Tr.get_here | assumption | ((repeat refine Tr.get_there (by first | decide | omega) ?_); first | exact Tr.get_here | assumption))⟩⟩, (g8 rfl (g4 rfl (gth rfl h7))), (g8 rfl (g4 rfl (gth rfl h8))), Tr.get_here⟩
    · have htx : (e.tx == bs []) = false := by simpa [bs] using hx
      have hgt : decide (((pre.length + 1 : Nat) : Int) > Int.ofNat 0) = true := by simp
      have hs := wrapm hpl
      have hc0 : (pre.flatMap Ef.cs ++ b.cs)[0 + pre.length * 3 + 0]? = some (.i .u8 b.k) := cat_get pre b 0
      have hc1 : (pre.flatMap Ef.cs ++ b.cs)[0 + pre.length * 3 + 1]? = some (.s b.nm) := cat_get pre b 1
      have hc2 : (pre.flatMap Ef.cs ++ b.cs)[0 + pre.length * 3 + 2]? = some (.s b.tx) := cat_get pre b 2
      have hlen := cat_len pre b
      have hsz : 0 + (pre.length + 1) * 3 ≤ (pre.flatMap Ef.cs ++ b.cs).length := by omega
      have hrm : (pre.length + 1 + 1) * 40 ≤ room := by unfold room; omega
      have hcat : ((pre.flatMap Ef.cs ++ b.cs).drop 0).take ((pre.length + 1) * 3) ++ e.cs = (pre ++ [b]).flatMap Ef.cs ++ e.cs := by
        rw [List.drop_zero, List.take_of_length_le (by omega), List.flatMap_append]; simp
      have hln : some (n + 1 + 25) ≠ some l := by simp; omega
      by_cases hk : b.k = e.k
      · have hkb : (b.k == e.k) = true := by simp [hk]
        by_cases hn : b.nm = e.nm
        · have hnb : (b.nm == e.nm) = true := by simp [hn]
          have hsum : b.tx.length + e.tx.length ≤ maxN := by
            rw [lenOf_append] at hsum0
            simp only [lenOf] at hsum0; omega
          have hsp : 0 + pre.length * 3 + 2 + 1 ≤ (pre.flatMap Ef.cs ++ b.cs).length := by omega
          rw [put1_j hx hk hn] at hQ
          refine WX.seq ?_
          refine WX.region ?_
          refine WR.val gd_n rfl (A_ltI (rd_t h9) (rd_t h8) hlt') ?_
          refine WR.nil ?_
          refine thn_n ?_
          refine WX.seq ?_
          refine WX.condT (rd_t Tr.get_here) ?_
          refine WX.skip ?_
          refine thn_n ?_
          refine WX.seq ?_
          refine WX.block ?_
          refine WX.seq ?_
          refine WX.region ?_
          refine WR.val gd_n rfl (hi _ _ _ _ _ (rd_t (gth rfl h7)) (rd_t (gth rfl h9))) ?_
          refine WR.val gd_n rfl (hld _ _ hg _ _ _ (rd_t Tr.get_here)) ?_
          refine WR.new gd_n rfl (A_alloc) ?_
          refine WR.upd0 gd_n rfl (A_st (rd_t Tr.get_here) (by (first | exact Tr.get_here | assumption | ((repeat refine Tr.get_there (by first | decide | omega) ?_); first | exact Tr.get_here | assumption))) (rd_t (gth rfl Tr.get_here)) rfl (Nat.le_of_ble_eq_true rfl) rfl rfl) ?_
          refine WR.nil ?_
          refine thn_n ?_
          refine WX.seq ?_
          refine WX.region ?_
          refine WR.val gd_n rfl (A_mv (rd_t (g2 rfl (gth rfl (gth rfl h3)))) okO) ?_
          refine WR.val gd_n rfl (A_lenSl (rd_t Tr.get_here)) ?_
          refine WR.val gd_n rfl (A_mv (rd_t Tr.get_here) rfl) ?_
          refine WR.nil ?_
          refine thn_n ?_
          refine WX.block ?_
          refine WX.seq ?_
          refine WX.region ?_
          refine WR.val gd_n rfl (A_faddr (rd_t (g2 rfl (gth rfl Tr.get_here)))) ?_
          refine WR.val gd_n rfl (A_ld1 (rd_t Tr.get_here) (by (first | exact Tr.get_here | assumption | ((repeat refine Tr.get_there (by first | decide | omega) ?_); first | exact Tr.get_here | assumption))) rfl) ?_
          refine WR.val gd_n rfl (A_eqS (rd_t Tr.get_here) rd_c htx) ?_
          refine WR.val gd_n rfl (A_mv (rd_t Tr.get_here) rfl) ?_
          refine WR.nil ?_
          refine thn_n ?_
          refine WX.condF (rd_t Tr.get_here) ?_
          refine WX.seq ?_
          refine WX.draw hcall mixedS (by rfl) ?_
          refine WD.val gd_n rfl rfl (fun _ => A_mv (rd_t (g4 rfl Tr.get_here)) rfl) ?_
          refine WD.val gd_n rfl rfl (fun _ => A_gtI (rd_t Tr.get_here) rd_c hgt) ?_
          refine WD.val gd_n rfl rfl (fun _ => A_mv (rd_t Tr.get_here) rfl) ?_
          refine WD.val (gd_t Tr.get_here) rfl rfl (fun _ => A_mv (rd_t (g8 rfl (g4 rfl (gth rfl (gth rfl h3))))) okO) ?_
          refine WD.val (gd_t (gth rfl Tr.get_here)) rfl rfl (fun _ => A_mv (rd_t (g8 rfl Tr.get_here)) rfl) ?_
          refine WD.val (gd_t (g2 rfl Tr.get_here)) rfl rfl (fun _ => A_sub (rd_t Tr.get_here) rd_c hs) ?_
          refine WD.val (gd_t (g2 rfl (gth rfl Tr.get_here))) rfl rfl (fun _ => A_iaddrSl (rd_t (g2 rfl Tr.get_here)) (rd_t Tr.get_here) (Nat.lt_succ_self _) rfl) ?_
          refine WD.val (gd_t (g4 rfl Tr.get_here)) rfl rfl (fun _ => A_faddr (rd_t Tr.get_here)) ?_
          refine WD.val (gd_t (g4 rfl (gth rfl Tr.get_here))) rfl rfl (fun _ => A_ld1 (rd_t Tr.get_here) (by (first | exact Tr.get_here | assumption | ((repeat refine Tr.get_there (by first | decide | omega) ?_); first | exact Tr.get_here | assumption))) hc0) ?_
          refine WD.val (gd_t (g4 rfl (g2 rfl Tr.get_here))) rfl rfl (fun _ => A_faddr (rd_t (g8 rfl (g8 rfl Tr.get_here)))) ?_
          refine WD.val (gd_t (g4 rfl (g2 rfl (gth rfl Tr.get_here)))) rfl rfl (fun _ => A_ld1 (rd_t Tr.get_here) (by (first | exact Tr.get_here | assumption | ((repeat refine Tr.get_there (by first | decide | omega) ?_); first | exact Tr.get_here | assumption))) rfl) ?_
          refine WD.val (gd_t (g8 rfl Tr.get_here)) rfl rfl (fun _ => A_eqI (rd_t (g2 rfl Tr.get_here)) (rd_t Tr.get_here) hkb) ?_
          refine WD.val gd_n rfl rfl (fun _ => A_pickT (rd_t (g8 rfl (gth rfl Tr.get_here))) (rd_t Tr.get_here) rfl) ?_
          refine WD.val gd_n rfl rfl (fun _ => A_mv (rd_t Tr.get_here) rfl) ?_
          refine WD.val (gd_t Tr.get_here) rfl rfl (fun _ => A_mv (rd_t (g8 rfl (g8 rfl (g8 rfl (gth rfl h3))))) okO) ?_
          refine WD.val (gd_t (gth rfl Tr.get_here)) rfl rfl (fun _ => A_mv (rd_t (g8 rfl (g8 rfl (g2 rfl (gth rfl Tr.get_here))))) rfl) ?_
          refine WD.val (gd_t (g2 rfl Tr.get_here)) rfl rfl (fun _ => A_sub (rd_t Tr.get_here) rd_c hs) ?_
          refine WD.val (gd_t (g2 rfl (gth rfl Tr.get_here))) rfl rfl (fun _ => A_iaddrSl (rd_t (g2 rfl Tr.get_here)) (rd_t Tr.get_here) (Nat.lt_succ_self _) rfl) ?_
          refine WD.val (gd_t (g4 rfl Tr.get_here)) rfl rfl (fun _ => A_faddr (rd_t Tr.get_here)) ?_
          refine WD.val (gd_t (g4 rfl (gth rfl Tr.get_here))) rfl rfl (fun _ => A_ld1 (rd_t Tr.get_here) (by (first | exact Tr.get_here | assumption | ((repeat refine Tr.get_there (by first | decide | omega) ?_); first | exact Tr.get_here | assumption))) hc1) ?_
          refine WD.val (gd_t (g4 rfl (g2 rfl Tr.get_here))) rfl rfl (fun _ => A_faddr (rd_t (g8 rfl (g8 rfl (g8 rfl (g2 rfl (gth rfl Tr.get_here))))))) ?_
          refine WD.val (gd_t (g4 rfl (g2 rfl (gth rfl Tr.get_here)))) rfl rfl (fun _ => A_ld1 (rd_t Tr.get_here) (by (first | exact Tr.get_here | assumption | ((repeat refine Tr.get_there (by first | decide | omega) ?_); first | exact Tr.get_here | assumption))) rfl) ?_
          refine WD.val (gd_t (g8 rfl Tr.get_here)) rfl rfl (fun _ => A_eqS (rd_t (g2 rfl Tr.get_here)) (rd_t Tr.get_here) hnb) ?_
          refine WD.val gd_n rfl rfl (fun _ => A_pickT (rd_t (g8 rfl (gth rfl Tr.get_here))) (rd_t Tr.get_here) rfl) ?_
          refine WD.val gd_n rfl rfl (fun _ => A_mv (rd_t Tr.get_here) rfl) ?_
          refine WD.nil ?_
          refine thn_n ?_
          refine WX.condT (rd_t Tr.get_here) ?_
          refine WX.draw hcall mixedS (by rfl) ?_
          refine WD.val gd_n rfl rfl (fun _ => A_mv (rd_t (g8 rfl (g8 rfl (g8 rfl (g8 rfl (g2 rfl (gth rfl (gth rfl h3)))))))) okO) ?_
          refine WD.val gd_n rfl rfl (fun _ => A_mv (rd_t (g8 rfl (g8 rfl (g8 rfl (g4 rfl (g2 rfl Tr.get_here)))))) rfl) ?_
          refine WD.val gd_n rfl rfl (fun _ => A_sub (rd_t Tr.get_here) rd_c hs) ?_
          refine WD.val gd_n rfl rfl (fun _ => A_iaddrSl (rd_t (g2 rfl Tr.get_here)) (rd_t Tr.get_here) (Nat.lt_succ_self _) rfl) ?_
          refine WD.val gd_n rfl rfl (fun _ => A_faddr (rd_t Tr.get_here)) ?_
          refine WD.val gd_n rfl rfl (fun _ => A_ld1 (rd_t Tr.get_here) (by (first | exact Tr.get_here | assumption | ((repeat refine Tr.get_there (by first | decide | omega) ?_); first | exact Tr.get_here | assumption))) hc2) ?_
          refine WD.val gd_n rfl rfl (fun _ => A_faddr (rd_t (g8 rfl (g8 rfl (g8 rfl (g8 rfl (g4 rfl (g2 rfl Tr.get_here)))))))) ?_
          refine WD.val gd_n rfl rfl (fun _ => A_ld1 (rd_t Tr.get_here) (by (first | exact Tr.get_here | assumption | ((repeat refine Tr.get_there (by first | decide | omega) ?_); first | exact Tr.get_here | assumption))) rfl) ?_
          refine WD.val gd_n rfl rfl (fun _ => A_addS (rd_t (g2 rfl Tr.get_here)) (rd_t Tr.get_here) hsum rfl) ?_
          refine WD.val gd_n rfl rfl (fun _ => A_iaddrSl (rd_t (g8 rfl Tr.get_here)) (rd_t (g4 rfl (g2 rfl Tr.get_here))) (Nat.lt_succ_self _) rfl) ?_
          refine WD.val gd_n rfl rfl (fun _ => A_faddr (rd_t Tr.get_here)) ?_
          refine WD.upd0 gd_n rfl rfl (fun _ => A_st (rd_t Tr.get_here) (by (first | exact Tr.get_here | assumption | ((repeat refine Tr.get_there (by first | decide | omega) ?_); first | exact Tr.get_here | assumption))) (rd_t (g2 rfl Tr.get_here)) rfl hsp rfl (cat_splice pre b _)) ?_
          refine WD.nil ?_
          refine blk_n ?_
          refine blk_n ?_
          refine thn_n ?_
          refine WX.region ?_
          refine WR.val gd_n rfl (A_add (rd_t (g8 rfl (g8 rfl (g8 rfl (g8 rfl (g8 rfl (g4 rfl (g2 rfl (gth rfl h9))))))))) rd_c hw) ?_
          refine WR.val gd_n rfl (A_mv (rd_t Tr.get_here) rfl) ?_
          refine WR.nil ?_
          exact hQ _ _ _ ⟨(((hg.set hn0).set hn0).set hl0).up (by omega), ⟨_, (g8 rfl (g8 rfl (g8 rfl (g8 rfl (g8 rfl (g8 rfl (gth rfl h3))))))), .inr ⟨l, pre, _, hl0, by omega, rfl, rfl, Tr.get_here⟩⟩, (g8 rfl (g8 rfl (g8 rfl (g8 rfl (g8 rfl (g8 rfl (gth rfl h7))))))), (g8 rfl (g8 rfl (g8 rfl (g8 rfl (g8 rfl (g8 rfl (gth rfl h8))))))), Tr.get_here⟩
        · have hnb : (b.nm == e.nm) = false := by simp [hn]
          rw [put1_a hx (fun hh => hn hh.2)] at hQ
          refine WX.seq ?_
          refine WX.region ?_
          refine WR.val gd_n rfl (A_ltI (rd_t h9) (rd_t h8) hlt') ?_
          refine WR.nil ?_
          refine thn_n ?_
          refine WX.seq ?_
          refine WX.condT (rd_t Tr.get_here) ?_
          refine WX.skip ?_
          refine thn_n ?_
          refine WX.seq ?_
          refine WX.block ?_
          refine WX.seq ?_
          refine WX.region ?_
          refine WR.val gd_n rfl (hi _ _ _ _ _ (rd_t (gth rfl h7)) (rd_t (gth rfl h9))) ?_
          refine WR.val gd_n rfl (hld _ _ hg _ _ _ (rd_t Tr.get_here)) ?_
          refine WR.new gd_n rfl (A_alloc) ?_
          refine WR.upd0 gd_n rfl (A_st (rd_t Tr.get_here) (by (first | exact Tr.get_here | assumption | ((repeat refine Tr.get_there (by first | decide | omega) ?_); first | exact Tr.get_here | assumption))) (rd_t (gth rfl Tr.get_here)) rfl (Nat.le_of_ble_eq_true rfl) rfl rfl) ?_
          refine WR.nil ?_
          refine thn_n ?_
          refine WX.seq ?_
          refine WX.region ?_
          refine WR.val gd_n rfl (A_mv (rd_t (g2 rfl (gth rfl (gth rfl h3)))) okO) ?_
          refine WR.val gd_n rfl (A_lenSl (rd_t Tr.get_here)) ?_
          refine WR.val gd_n rfl (A_mv (rd_t Tr.get_here) rfl) ?_
          refine WR.nil ?_
          refine thn_n ?_
          refine WX.block ?_
          refine WX.seq ?_
          refine WX.region ?_
          refine WR.val gd_n rfl (A_faddr (rd_t (g2 rfl (gth rfl Tr.get_here)))) ?_
          refine WR.val gd_n rfl (A_ld1 (rd_t Tr.get_here) (by (first | exact Tr.get_here | assumption | ((repeat refine Tr.get_there (by first | decide | omega) ?_); first | exact Tr.get_here | assumption))) rfl) ?_
          refine WR.val gd_n rfl (A_eqS (rd_t Tr.get_here) rd_c htx) ?_
          refine WR.val gd_n rfl (A_mv (rd_t Tr.get_here) rfl) ?_
          refine WR.nil ?_
          refine thn_n ?_
          refine WX.condF (rd_t Tr.get_here) ?_
          refine WX.seq ?_
          refine WX.draw hcall mixedS (by rfl) ?_
          refine WD.val gd_n rfl rfl (fun _ => A_mv (rd_t (g4 rfl Tr.get_here)) rfl) ?_
          refine WD.val gd_n rfl rfl (fun _ => A_gtI (rd_t Tr.get_here) rd_c hgt) ?_
          refine WD.val gd_n rfl rfl (fun _ => A_mv (rd_t Tr.get_here) rfl) ?_
          refine WD.val (gd_t Tr.get_here) rfl rfl (fun _ => A_mv (rd_t (g8 rfl (g4 rfl (gth rfl (gth rfl h3))))) okO) ?_
          refine WD.val (gd_t (gth rfl Tr.get_here)) rfl rfl (fun _ => A_mv (rd_t (g8 rfl Tr.get_here)) rfl) ?_
          refine WD.val (gd_t (g2 rfl Tr.get_here)) rfl rfl (fun _ => A_sub (rd_t Tr.get_here) rd_c hs) ?_
          refine WD.val (gd_t (g2 rfl (gth rfl Tr.get_here))) rfl rfl (fun _ => A_iaddrSl (rd_t (g2 rfl Tr.get_here)) (rd_t Tr.get_here) (Nat.lt_succ_self _) rfl) ?_
          refine WD.val (gd_t (g4 rfl Tr.get_here)) rfl rfl (fun _ => A_faddr (rd_t Tr.get_here)) ?_
          refine WD.val (gd_t (g4 rfl (gth rfl Tr.get_here))) rfl rfl (fun _ => A_ld1 (rd_t Tr.get_here) (by (first | exact Tr.get_here | assumption | ((repeat refine Tr.get_there (by first | decide | omega) ?_); first | exact Tr.get_here | assumption))) hc0) ?_
          refine WD.val (gd_t (g4 rfl (g2 rfl Tr.get_here))) rfl rfl (fun _ => A_faddr (rd_t (g8 rfl (g8 rfl Tr.get_here)))) ?_
          refine WD.val (gd_t (g4 rfl (g2 rfl (gth rfl Tr.get_here)))) rfl rfl (fun _ => A_ld1 (rd_t Tr.get_here) (by (first | exact Tr.get_here | assumption | ((repeat refine Tr.get_there (by first | decide | omega) ?_); first | exact Tr.get_here | assumption))) rfl) ?_
          refine WD.val (gd_t (g8 rfl Tr.get_here)) rfl rfl (fun _ => A_eqI (rd_t (g2 rfl Tr.get_here)) (rd_t Tr.get_here) hkb) ?_
          refine WD.val gd_n rfl rfl (fun _ => A_pickT (rd_t (g8 rfl (gth rfl Tr.get_here))) (rd_t Tr.get_here) rfl) ?_
          refine WD.val gd_n rfl rfl (fun _ => A_mv (rd_t Tr.get_here) rfl) ?_
          refine WD.val (gd_t Tr.get_here) rfl rfl (fun _ => A_mv (rd_t (g8 rfl (g8 rfl (g8 rfl (gth rfl h3))))) okO) ?_
          refine WD.val (gd_t (gth rfl Tr.get_here)) rfl rfl (fun _ => A_mv (rd_t (g8 rfl (g8 rfl (g2 rfl (gth rfl Tr.get_here))))) rfl) ?_
          refine WD.val (gd_t (g2 rfl Tr.get_here)) rfl rfl (fun _ => A_sub (rd_t Tr.get_here) rd_c hs) ?_
          refine WD.val (gd_t (g2 rfl (gth rfl Tr.get_here))) rfl rfl (fun _ => A_iaddrSl (rd_t (g2 rfl Tr.get_here)) (rd_t Tr.get_here) (Nat.lt_succ_self _) rfl) ?_
          refine WD.val (gd_t (g4 rfl Tr.get_here)) rfl rfl (fun _ => A_faddr (rd_t Tr.get_here)) ?_
          refine WD.val (gd_t (g4 rfl (gth rfl Tr.get_here))) rfl rfl (fun _ => A_ld1 (rd_t Tr.get_here) (by (first | exact Tr.get_here | assumption | ((repeat refine Tr.get_there (by first | decide | omega) ?_); first | exact Tr.get_here | assumption))) hc1) ?_
          refine WD.val (gd_t (g4 rfl (g2 rfl Tr.get_here))) rfl rfl (fun _ => A_faddr (rd_t (g8 rfl (g8 rfl (g8 rfl (g2 rfl (gth rfl Tr.get_here))))))) ?_
          refine WD.val (gd_t (g4 rfl (g2 rfl (gth rfl Tr.get_here)))) rfl rfl (fun _ => A_ld1 (rd_t Tr.get_here) (by (first | exact Tr.get_here | assumption | ((repeat refine Tr.get_there (by first | decide | omega) ?_); first | exact Tr.get_here | assumption))) rfl) ?_
          refine WD.val (gd_t (g8 rfl Tr.get_here)) rfl rfl (fun _ => A_eqS (rd_t (g2 rfl Tr.get_here)) (rd_t Tr.get_here) hnb) ?_
          refine WD.val gd_n rfl rfl (fun _ => A_pickT (rd_t (g8 rfl (gth rfl Tr.get_here))) (rd_t Tr.get_here) rfl) ?_
          refine WD.val gd_n rfl rfl (fun _ => A_mv (rd_t Tr.get_here) rfl) ?_
          refine WD.nil ?_
          refine thn_n ?_
          refine WX.condF (rd_t Tr.get_here) ?_
          refine WX.region ?_
          refine WR.val gd_n rfl (A_mv (rd_t (g8 rfl (g8 rfl (g8 rfl (g8 rfl (g2 rfl (gth rfl (gth rfl h3)))))))) okO) ?_
          refine WR.val gd_n rfl (A_ldA (rd_t (g8 rfl (g8 rfl (g8 rfl (g8 rfl (gth rfl Tr.get_here)))))) (by (first | exact Tr.get_here | assumption | ((repeat refine Tr.get_there (by first | decide | omega) ?_); first | exact Tr.get_here | assumption))) (Nat.le_of_ble_eq_true rfl) rfl) ?_
          refine WR.new gd_n rfl (A_bslice (rd_t Tr.get_here) rfl rfl) ?_
          refine WR.app gd_n rfl (A_appSl' (rd_t (g2 rfl Tr.get_here)) (rd_t Tr.get_here) (S_sl Tr.get_here (Nat.le_of_ble_eq_true rfl) rfl) (by decide) hln (by (first | exact Tr.get_here | assumption | ((repeat refine Tr.get_there (by first | decide | omega) ?_); first | exact Tr.get_here | assumption))) hsz hrm (.inl (by decide)) hcat) ?_
          refine WR.val gd_n rfl (A_mv (rd_t Tr.get_here) rfl) ?_
          refine WR.nil ?_
          refine blk_n ?_
          refine blk_n ?_
          refine thn_n ?_
          refine WX.region ?_
          refine WR.val gd_n rfl (A_add (rd_t (g8 rfl (g8 rfl (g8 rfl (g8 rfl (g8 rfl (gth rfl h9))))))) rd_c hw) ?_
          refine WR.val gd_n rfl (A_mv (rd_t Tr.get_here) rfl) ?_
          refine WR.nil ?_
          exact hQ _ _ _ ⟨((((((hg.set hn0).set hn0).set (by omega)).set hl0).set (by omega)).up (by omega)), ⟨_, (g2 rfl Tr.get_here), .inr ⟨_, pre ++ [b], e, by omega, Nat.lt_succ_self _, by simp, rfl, Tr.get_here⟩⟩, (g8 rfl (g8 rfl (g8 rfl (g8 rfl (g8 rfl (g2 rfl (gth rfl h7))))))), (g8 rfl (g8 rfl (g8 rfl (g8 rfl (g8 rfl (g2 rfl (gth rfl h8))))))), Tr.get_here⟩
      · have hkb : (b.k == e.k) = false := by simp [hk]
        rw [put1_a hx (fun hh => hk hh.1)] at hQ
        refine WX.seq ?_
        refine WX.region ?_
        refine WR.val gd_n rfl (A_ltI (rd_t h9) (rd_t h8) hlt') ?_
        refine WR.nil ?_
        refine thn_n ?_
        refine WX.seq ?_
        refine WX.condT (rd_t Tr.get_here) ?_
        refine WX.skip ?_
        refine thn_n ?_
        refine WX.seq ?_
        refine WX.block ?_
        refine WX.seq ?_
        refine WX.region ?_
        refine WR.val gd_n rfl (hi _ _ _ _ _ (rd_t (gth rfl h7)) (rd_t (gth rfl h9))) ?_
        refine WR.val gd_n rfl (hld _ _ hg _ _ _ (rd_t Tr.get_here)) ?_
        refine WR.new gd_n rfl (A_alloc) ?_
        refine WR.upd0 gd_n rfl (A_st (rd_t Tr.get_here) (by (first | exact Tr.get_here | assumption | ((repeat refine Tr.get_there (by first | decide | omega) ?_); first | exact Tr.get_here | assumption))) (rd_t (gth rfl Tr.get_here)) rfl (Nat.le_of_ble_eq_true rfl) rfl rfl) ?_
        refine WR.nil ?_
        refine thn_n ?_
        refine WX.seq ?_
        refine WX.region ?_
        refine WR.val gd_n rfl (A_mv (rd_t (g2 rfl (gth rfl (gth rfl h3)))) okO) ?_
        refine WR.val gd_n rfl (A_lenSl (rd_t Tr.get_here)) ?_
        refine WR.val gd_n rfl (A_mv (rd_t Tr.get_here) rfl) ?_
        refine WR.nil ?_
        refine thn_n ?_
        refine WX.block ?_
        refine WX.seq ?_
        refine WX.region ?_
        refine WR.val gd_n rfl (A_faddr (rd_t (g2 rfl (gth rfl Tr.get_here)))) ?_
        refine WR.val gd_n rfl (A_ld1 (rd_t Tr.get_here) (by (first | exact Tr.get_here | assumption | ((repeat refine Tr.get_there (by first | decide | omega) ?_); first | exact Tr.get_here | assumption))) rfl) ?_
        refine WR.val gd_n rfl (A_eqS (rd_t Tr.get_here) rd_c htx) ?_
        refine WR.val gd_n rfl (A_mv (rd_t Tr.get_here) rfl) ?_
        refine WR.nil ?_
        refine thn_n ?_
        refine WX.condF (rd_t Tr.get_here) ?_
        refine WX.seq ?_
        refine WX.draw hcall mixedS (by rfl) ?_
        refine WD.val gd_n rfl rfl (fun _ => A_mv (rd_t (g4 rfl Tr.get_here)) rfl) ?_
        refine WD.val gd_n rfl rfl (fun _ => A_gtI (rd_t Tr.get_here) rd_c hgt) ?_
        refine WD.val gd_n rfl rfl (fun _ => A_mv (rd_t Tr.get_here) rfl) ?_
        refine WD.val (gd_t Tr.get_here) rfl rfl (fun _ => A_mv (rd_t (g8 rfl (g4 rfl (gth rfl (gth rfl h3))))) okO) ?_
        refine WD.val (gd_t (gth rfl Tr.get_here)) rfl rfl (fun _ => A_mv (rd_t (g8 rfl Tr.get_here)) rfl) ?_
        refine WD.val (gd_t (g2 rfl Tr.get_here)) rfl rfl (fun _ => A_sub (rd_t Tr.get_here) rd_c hs) ?_
        refine WD.val (gd_t (g2 rfl (gth rfl Tr.get_here))) rfl rfl (fun _ => A_iaddrSl (rd_t (g2 rfl Tr.get_here)) (rd_t Tr.get_here) (Nat.lt_succ_self _) rfl) ?_
        refine WD.val (gd_t (g4 rfl Tr.get_here)) rfl rfl (fun _ => A_faddr (rd_t Tr.get_here)) ?_
        refine WD.val (gd_t (g4 rfl (gth rfl Tr.get_here))) rfl rfl (fun _ => A_ld1 (rd_t Tr.get_here) (by (first | exact Tr.get_here | assumption | ((repeat refine Tr.get_there (by first | decide | omega) ?_); first | exact Tr.get_here | assumption))) hc0) ?_
        refine WD.val (gd_t (g4 rfl (g2 rfl Tr.get_here))) rfl rfl (fun _ => A_faddr (rd_t (g8 rfl (g8 rfl Tr.get_here)))) ?_
        refine WD.val (gd_t (g4 rfl (g2 rfl (gth rfl Tr.get_here)))) rfl rfl (fun _ => A_ld1 (rd_t Tr.get_here) (by (first | exact Tr.get_here | assumption | ((repeat refine Tr.get_there (by first | decide | omega) ?_); first | exact Tr.get_here | assumption))) rfl) ?_
        refine WD.val (gd_t (g8 rfl Tr.get_here)) rfl rfl (fun _ => A_eqI (rd_t (g2 rfl Tr.get_here)) (rd_t Tr.get_here) hkb) ?_
        refine WD.val gd_n rfl rfl (fun _ => A_pickT (rd_t (g8 rfl (gth rfl Tr.get_here))) (rd_t Tr.get_here) rfl) ?_
        refine WD.val gd_n rfl rfl (fun _ => A_mv (rd_t Tr.get_here) rfl) ?_
        refine WD.skip (gd_tf Tr.get_here) ?_
        refine WD.skip (gd_tf (gth rfl Tr.get_here)) ?_
        refine WD.skip (gd_tf (g2 rfl Tr.get_here)) ?_
        refine WD.skip (gd_tf (g2 rfl (gth rfl Tr.get_here))) ?_
        refine WD.skip (gd_tf (g4 rfl Tr.get_here)) ?_
        refine WD.skip (gd_tf (g4 rfl (gth rfl Tr.get_here))) ?_
        refine WD.skip (gd_tf (g4 rfl (g2 rfl Tr.get_here))) ?_
        refine WD.skip (gd_tf (g4 rfl (g2 rfl (gth rfl Tr.get_here)))) ?_
        refine WD.skip (gd_tf (g8 rfl Tr.get_here)) ?_
        refine WD.val gd_n rfl rfl (fun _ => A_pickF (rd_t (g8 rfl (gth rfl Tr.get_here))) rd_c rfl) ?_
        refine WD.val gd_n rfl rfl (fun _ => A_mv (rd_t Tr.get_here) rfl) ?_
        refine WD.nil ?_
        refine thn_n ?_
        refine WX.condF (rd_t Tr.get_here) ?_
        refine WX.region ?_
        refine WR.val gd_n rfl (A_mv (rd_t (g8 rfl (g8 rfl (g8 rfl (g8 rfl (g2 rfl (gth rfl (gth rfl h3)))))))) okO) ?_
        refine WR.val gd_n rfl (A_ldA (rd_t (g8 rfl (g8 rfl (g8 rfl (g8 rfl (gth rfl Tr.get_here)))))) (by (first | exact Tr.get_here | assumption | ((repeat refine Tr.get_there (by first | decide | omega) ?_); first | exact Tr.get_here | assumption))) (Nat.le_of_ble_eq_true rfl) rfl) ?_
        refine WR.new gd_n rfl (A_bslice (rd_t Tr.get_here) rfl rfl) ?_
        refine WR.app gd_n rfl (A_appSl' (rd_t (g2 rfl Tr.get_here)) (rd_t Tr.get_here) (S_sl Tr.get_here (Nat.le_of_ble_eq_true rfl) rfl) (by decide) hln (by (first | exact Tr.get_here | assumption | ((repeat refine Tr.get_there (by first | decide | omega) ?_); first | exact Tr.get_here | assumption))) hsz hrm (.inl (by decide)) hcat) ?_
        refine WR.val gd_n rfl (A_mv (rd_t Tr.get_here) rfl) ?_
        refine WR.nil ?_
        refine blk_n ?_
        refine blk_n ?_
        refine thn_n ?_
        refine WX.region ?_
        refine WR.val gd_n rfl (A_add (rd_t (g8 rfl (g8 rfl (g8 rfl (g8 rfl (g8 rfl (gth rfl h9))))))) rd_c hw) ?_
        refine WR.val gd_n rfl (A_mv (rd_t Tr.get_here) rfl) ?_
        refine WR.nil ?_
        exact hQ _ _ _ ⟨((((((hg.set hn0).set hn0).set (by omega)).set hl0).set (by omega)).up (by omega)), ⟨_, (g2 rfl Tr.get_here), .inr ⟨_, pre ++ [b], e, by omega, Nat.lt_succ_self _, by simp, rfl, Tr.get_here⟩⟩, (g8 rfl (g8 rfl (g8 rfl (g8 rfl (g8 rfl (g2 rfl (gth rfl h7))))))), (g8 rfl (g8 rfl (g8 rfl (g8 rfl (g8 rfl (g2 rfl (gth rfl h8))))))), Tr.get_here⟩

set_option maxHeartbeats 20000000 in
theorem step13 {t0 : Tr AObj} {n0 : Nat} {T : Tr D} {t : Tr AObj} {n j : Nat} {d : D} {es out : List Ef} {e : Ef} (hV0 : View t0 n0 d es) (h : I12 t0 n0 T t n d es out j) (hj : es[j]? = some e) (hjl : j ≤ 1048576) (hol : out.length ≤ 1048576) (hsum0 : lenOf out + e.tx.length ≤ maxN)
    {Q : QX} (hQ : ∀ T' t' n', I12 t0 n0 T' t' n' d es (put1 out e) (j + 1) → Q .norm T' t' n') : WX Tryz.prog Γ X13_L0 T t n Q := by
  obtain ⟨hg, ⟨dO, h3, hO⟩, h7, h8, h9⟩ := h
  obtain ⟨a, ha, hi, hld⟩ := hV0.at hj
  obtain ⟨hlt, _⟩ := List.getElem?_eq_some_iff.1 hj
  have hlt' : decide ((j : Int) < (es.length : Int)) = true := by simp [hlt]
  have hw := wrap1 hjl
  have hn0 := hg.le
  unfold X13_L0
  rcases hO with ⟨rfl, rfl⟩ | ⟨l, pre, b, hl0, hln0, rfl, rfl, hgl⟩
  · have okO : D.nils.ok = true := rfl
    by_cases hx : e.tx = []
    · have htx : (e.tx == bs []) = true := by rw [hx]; rfl
      rw [put1_e hx] at hQ
      refine WX.seq ?_
      refine WX.region ?_
      refine WR.val gd_n rfl (A_ltI (rd_t h9) (rd_t h8) hlt') ?_
      refine WR.nil ?_
      refine thn_n ?_
      refine WX.seq ?_
      refine WX.condT (rd_t Tr.get_here) ?_
      refine WX.skip ?_
      refine thn_n ?_
      refine WX.seq ?_
      refine WX.block ?_
      refine WX.seq ?_
      refine WX.region ?_
      refine WR.val gd_n rfl (hi _ _ _ _ _ (rd_t (gth rfl h7)) (rd_t (gth rfl h9))) ?_
      refine WR.val gd_n rfl (hld _ _ hg _ _ _ (rd_t Tr.get_here)) ?_
      refine WR.new gd_n rfl (A_alloc) ?_
      refine WR.upd0 gd_n rfl (A_st (rd_t Tr.get_here) (by (first | exact Tr.get_here | assumption | ((repeat refine Tr.get_there (by first | decide | omega) ?_); first | exact Tr.get_here | assumption))) (rd_t (gth rfl Tr.get_here)) rfl (Nat.le_of_ble_eq_true rfl) rfl rfl) ?_
      refine WR.nil ?_
      refine thn_n ?_
      refine WX.seq ?_
      refine WX.region ?_
      refine WR.val gd_n rfl (A_mv (rd_t (g2 rfl (gth rfl (gth rfl h3)))) okO) ?_
      refine WR.val gd_n rfl (A_lenNil (rd_t Tr.get_here)) ?_
      refine WR.val gd_n rfl (A_mv (rd_t Tr.get_here) rfl) ?_
      refine WR.nil ?_
      refine thn_n ?_
      refine WX.block ?_
      refine WX.seq ?_
      refine WX.region ?_
      refine WR.val gd_n rfl (A_faddr (rd_t (g2 rfl (gth rfl Tr.get_here)))) ?_
      refine WR.val gd_n rfl (A_ld1 (rd_t Tr.get_here) (by (first | exact Tr.get_here | assumption | ((repeat refine Tr.get_there (by first | decide | omega) ?_); first | exact Tr.get_here | assumption))) rfl) ?_
      refine WR.val gd_n rfl (A_eqS (rd_t Tr.get_here) rd_c htx) ?_
      refine WR.val gd_n rfl (A_mv (rd_t Tr.get_here) rfl) ?_
      refine WR.nil ?_
      refine thn_n ?_
      refine WX.condT (rd_t Tr.get_here) ?_
      refine WX.skip ?_
      refine blk_n ?_
      refine blk_n ?_
      refine thn_n ?_
      refine WX.region ?_
      refine WR.val gd_n rfl (A_add (rd_t (g8 rfl (g2 rfl (gth rfl h9)))) rd_c hw) ?_
      refine WR.val gd_n rfl (A_mv (rd_t Tr.get_here) rfl) ?_
      refine WR.nil ?_
      exact hQ _ _ _ ⟨((hg.set hn0).set hn0).up (by omega), ⟨_, (g8 rfl (g4 rfl (gth rfl h3))), .inl ⟨rfl, rfl⟩⟩, (g8 rfl (g4 rfl (gth rfl h7))), (g8 rfl (g4 rfl (gth rfl h8))), Tr.get_here⟩
    · have htx : (e.tx == bs []) = false := by simpa [bs] using hx
      have hgt : decide ((0 : Int) > Int.ofNat 0) = false := rfl
      rw [put1_n hx] at hQ
      refine WX.seq ?_
      refine WX.region ?_
      refine WR.val gd_n rfl (A_ltI (rd_t h9) (rd_t h8) hlt') ?_
      refine WR.nil ?_
      refine thn_n ?_
      refine WX.seq ?_
      refine WX.condT (rd_t Tr.get_here) ?_
      refine WX.skip ?_
      refine thn_n ?_
      refine WX.seq ?_
      refine WX.block ?_
      refine WX.seq ?_
      refine WX.region ?_
      refine WR.val gd_n rfl (hi _ _ _ _ _ (rd_t (gth rfl h7)) (rd_t (gth rfl h9))) ?_
      refine WR.val gd_n rfl (hld _ _ hg _ _ _ (rd_t Tr.get_here)) ?_
      refine WR.new gd_n rfl (A_alloc) ?_
      refine WR.upd0 gd_n rfl (A_st (rd_t Tr.get_here) (by (first | exact Tr.get_here | assumption | ((repeat refine Tr.get_there (by first | decide | omega) ?_); first | exact Tr.get_here | assumption))) (rd_t (gth rfl Tr.get_here)) rfl (Nat.le_of_ble_eq_true rfl) rfl rfl) ?_
      refine WR.nil ?_
      refine thn_n ?_
      refine WX.seq ?_
      refine WX.region ?_
      refine WR.val gd_n rfl (A_mv (rd_t (g2 rfl (gth rfl (gth rfl h3)))) okO) ?_
      refine WR.val gd_n rfl (A_lenNil (rd_t Tr.get_here)) ?_
      refine WR.val gd_n rfl (A_mv (rd_t Tr.get_here) rfl) ?_
      refine WR.nil ?_
      refine thn_n ?_
      refine WX.block ?_
      refine WX.seq ?_
      refine WX.region ?_
      refine WR.val gd_n rfl (A_faddr (rd_t (g2 rfl (gth rfl Tr.get_here)))) ?_
      refine WR.val gd_n rfl (A_ld1 (rd_t Tr.get_here) (by (first | exact Tr.get_here | assumption | ((repeat refine Tr.get_there (by first | decide | omega) ?_); first | exact Tr.get_here | assumption))) rfl) ?_
      refine WR.val gd_n rfl (A_eqS (rd_t Tr.get_here) rd_c htx) ?_
      refine WR.val gd_n rfl (A_mv (rd_t Tr.get_here) rfl) ?_
      refine WR.nil ?_
      refine thn_n ?_
      refine WX.condF (rd_t Tr.get_here) ?_
      refine WX.seq ?_
      refine WX.draw hcall mixedS (by rfl) ?_
      refine WD.val gd_n rfl rfl (fun _ => A_mv (rd_t (g4 rfl Tr.get_here)) rfl) ?_
      refine WD.val gd_n rfl rfl (fun _ => A_gtI (rd_t Tr.get_here) rd_c hgt) ?_
      refine WD.val gd_n rfl rfl (fun _ => A_mv (rd_t Tr.get_here) rfl) ?_
      refine WD.skip (gd_tf Tr.get_here) ?_
      refine WD.skip (gd_tf (gth rfl Tr.get_here)) ?_
      refine WD.skip (gd_tf (g2 rfl Tr.get_here)) ?_
      refine WD.skip (gd_tf (g2 rfl (gth rfl Tr.get_here))) ?_
      refine WD.skip (gd_tf (g4 rfl Tr.get_here)) ?_
      refine WD.skip (gd_tf (g4 rfl (gth rfl Tr.get_here))) ?_
      refine WD.skip (gd_tf (g4 rfl (g2 rfl Tr.get_here))) ?_
      refine WD.skip (gd_tf (g4 rfl (g2 rfl (gth rfl Tr.get_here)))) ?_
      refine WD.skip (gd_tf (g8 rfl Tr.get_here)) ?_
      refine WD.val gd_n rfl rfl (fun _ => A_pickF (rd_t (g8 rfl (gth rfl Tr.get_here))) rd_c rfl) ?_
      refine WD.val gd_n rfl rfl (fun _ => A_mv (rd_t Tr.get_here) rfl) ?_
      refine WD.skip (gd_tf Tr.get_here) ?_
      refine WD.skip (gd_tf (gth rfl Tr.get_here)) ?_
      refine WD.skip (gd_tf (g2 rfl Tr.get_here)) ?_
      refine WD.skip (gd_tf (g2 rfl (gth rfl Tr.get_here))) ?_
      refine WD.skip (gd_tf (g4 rfl Tr.get_here)) ?_
      refine WD.skip (gd_tf (g4 rfl (gth rfl Tr.get_here))) ?_
      refine WD.skip (gd_tf (g4 rfl (g2 rfl Tr.get_here))) ?_
      refine WD.skip (gd_tf (g4 rfl (g2 rfl (gth rfl Tr.get_here)))) ?_
      refine WD.skip (gd_tf (g8 rfl Tr.get_here)) ?_
      refine WD.val gd_n rfl rfl (fun _ => A_pickF (rd_t (g8 rfl (gth rfl Tr.get_here))) rd_c rfl) ?_
      refine WD.val gd_n rfl rfl (fun _ => A_mv (rd_t Tr.get_here) rfl) ?_
      refine WD.nil ?_
      refine thn_n ?_
      refine WX.condF (rd_t Tr.get_here) ?_
      refine WX.region ?_
      refine WR.val gd_n rfl (A_mv (rd_t (g8 rfl (g8 rfl (g8 rfl (g8 rfl (g2 rfl (gth rfl (gth rfl h3)))))))) okO) ?_
      refine WR.val gd_n rfl (A_ldA (rd_t (g8 rfl (g8 rfl (g8 rfl (g8 rfl (gth rfl Tr.get_here)))))) (by (first | exact Tr.get_here | assumption | ((repeat refine Tr.get_there (by first | decide | omega) ?_); first | exact Tr.get_here | assumption))) (Nat.le_of_ble_eq_true rfl) rfl) ?_
      refine WR.new gd_n rfl (A_bslice (rd_t Tr.get_here) rfl rfl) ?_
      refine WR.new gd_n rfl (A_appNil' (rd_t (g2 rfl Tr.get_here)) (rd_t Tr.get_here) (S_sl Tr.get_here (Nat.le_of_ble_eq_true rfl) rfl) (by decide) (by decide)) ?_
      refine WR.val gd_n rfl (A_mv (rd_t Tr.get_here) rfl) ?_
      refine WR.nil ?_
      refine blk_n ?_
      refine blk_n ?_
      refine thn_n ?_
      refine WX.region ?_
      refine WR.val gd_n rfl (A_add (rd_t (g8 rfl (g8 rfl (g8 rfl (g8 rfl (g8 rfl (gth rfl h9))))))) rd_c hw) ?_
      refine WR.val gd_n rfl (A_mv (rd_t Tr.get_here) rfl) ?_
      refine WR.nil ?_
      exact hQ _ _ _ ⟨(((((hg.set hn0).set hn0).set (by omega)).set (by omega)).up (by omega)), ⟨_, (g2 rfl Tr.get_here), .inr ⟨_, [], e, by omega, Nat.lt_succ_self _, rfl, rfl, Tr.get_here⟩⟩, (g8 rfl (g8 rfl (g8 rfl (g8 rfl (g8 rfl (g2 rfl (gth rfl h7))))))), (g8 rfl (g8 rfl (g8 rfl (g8 rfl (g8 rfl (g2 rfl (gth rfl h8))))))), Tr.get_here⟩
  · have okO : (D.sl 3 l 0 (pre.length + 1)).ok = true := rfl
    have hpl : pre.length ≤ 1048576 := by simp at hol; omega
    by_cases hx : e.tx = []
    · have htx : (e.tx == bs []) = true := by rw [hx]; rfl
      rw [put1_e hx] at hQ
      refine WX.seq ?_
      refine WX.region ?_
      refine WR.val gd_n rfl (A_ltI (rd_t h9) (rd_t h8) hlt') ?_
      refine WR.nil ?_
      refine thn_n ?_
      refine WX.seq ?_
      refine WX.condT (rd_t Tr.get_here) ?_
      refine WX.skip ?_
      refine thn_n ?_
      refine WX.seq ?_
      refine WX.block ?_
      refine WX.seq ?_
      refine WX.region ?_
      refine WR.val gd_n rfl (hi _ _ _ _ _ (rd_t (gth rfl h7)) (rd_t (gth rfl h9))) ?_
      refine WR.val gd_n rfl (hld _ _ hg _ _ _ (rd_t Tr.get_here)) ?_
      refine WR.new gd_n rfl (A_alloc) ?_
      refine WR.upd0 gd_n rfl (A_st (rd_t Tr.get_here) (by (first | exact Tr.get_here | assumption | ((repeat refine Tr.get_there (by first | decide | omega) ?_); first | exact Tr.get_here | assumption))) (rd_t (gth rfl Tr.get_here)) rfl (Nat.le_of_ble_eq_true rfl) rfl rfl) ?_
      refine WR.nil ?_
      refine thn_n ?_
      refine WX.seq ?_
      refine WX.region ?_
      refine WR.val gd_n rfl (A_mv (rd_t (g2 rfl (gth rfl (gth rfl h3)))) okO) ?_
      refine WR.val gd_n rfl (A_lenSl (rd_t Tr.get_here)) ?_
      refine WR.val gd_n rfl (A_mv (rd_t Tr.get_here) rfl) ?_
      refine WR.nil ?_
      refine thn_n ?_
      refine WX.block ?_
      refine WX.seq ?_
      refine WX.region ?_
      refine WR.val gd_n rfl (A_faddr (rd_t (g2 rfl (gth rfl Tr.get_here)))) ?_
      refine WR.val gd_n rfl (A_ld1 (rd_t Tr.get_here) (by (first | exact Tr.get_here | assumption | ((repeat refine Tr.get_there (by first | decide | omega) ?_); first | exact Tr.get_here | assumption))) rfl) ?_
      refine WR.val gd_n rfl (A_eqS (rd_t Tr.get_here) rd_c htx) ?_
      refine WR.val gd_n rfl (A_mv (rd_t Tr.get_here) rfl) ?_
      refine WR.nil ?_
      refine thn_n ?_
      refine WX.condT (rd_t Tr.get_here) ?_
      refine WX.skip ?_
      refine blk_n ?_
      refine blk_n ?_
      refine thn_n ?_
      refine WX.region ?_
      refine WR.val gd_n rfl (A_add (rd_t (g8 rfl (g2 rfl (gth rfl h9)))) rd_c hw) ?_
      refine WR.val gd_n rfl (A_mv (rd_t Tr.get_here) rfl) ?_
      refine WR.nil ?_
      exact hQ _ _ _ ⟨((hg.set hn0).set hn0).up (by omega), ⟨_, (g8 rfl (g4 rfl (gth rfl h3))), .inr ⟨l, pre, b, hl0, by omega, rfl, rfl, by (first | exact Tr.get_here | assumption | ((repeat refine Tr.get_there (by first | decide | omega) ?_); first | exact Tr.get_here | assumption))⟩⟩, (g8 rfl (g4 rfl (gth rfl h7))), (g8 rfl (g4 rfl (gth rfl h8))), Tr.get_here⟩
    · have htx : (e.tx == bs []) = false := by simpa [bs] using hx
      have hgt : decide (((pre.length + 1 : Nat) : Int) > Int.ofNat 0) = true := by simp
      have hs := wrapm hpl
      have hc0 : (pre.flatMap Ef.cs ++ b.cs)[0 + pre.length * 3 + 0]? = some (.i .u8 b.k) := cat_get pre b 0
      have hc1 : (pre.flatMap Ef.cs ++ b.cs)[0 + pre.length * 3 + 1]? = some (.s b.nm) := cat_get pre b 1
      have hc2 : (pre.flatMap Ef.cs ++ b.cs)[0 + pre.length * 3 + 2]? = some (.s b.tx) := cat_get pre b 2
      have hlen := cat_len pre b
      have hsz : 0 + (pre.length + 1) * 3 ≤ (pre.flatMap Ef.cs ++ b.cs).length := by omega
      have hrm : (pre.length + 1 + 1) * 40 ≤ room := by unfold room; omega
      have hcat : ((pre.flatMap Ef.cs ++ b.cs).drop 0).take ((pre.length + 1) * 3) ++ e.cs = (pre ++ [b]).flatMap Ef.cs ++ e.cs := by
        rw [List.drop_zero, List.take_of_length_le (by omega), List.flatMap_append]; simp
      have hln : some (n + 1 + 25) ≠ some l := by simp; omega
      by_cases hk : b.k = e.k
      · have hkb : (b.k == e.k) = true := by simp [hk]
        by_cases hn : b.nm = e.nm
        · have hnb : (b.nm == e.nm) = true := by simp [hn]
          have hsum : b.tx.length + e.tx.length ≤ maxN := by
            rw [lenOf_append] at hsum0
            simp only [lenOf] at hsum0; omega
          have hsp : 0 + pre.length * 3 + 2 + 1 ≤ (pre.flatMap Ef.cs ++ b.cs).length := by omega
          rw [put1_j hx hk hn] at hQ
          refine WX.seq ?_
          refine WX.region ?_
          refine WR.val gd_n rfl (A_ltI (rd_t h9) (rd_t h8) hlt') ?_
          refine WR.nil ?_
          refine thn_n ?_
          refine WX.seq ?_
          refine WX.condT (rd_t Tr.get_here) ?_
          refine WX.skip ?_
          refine thn_n ?_
          refine WX.seq ?_
          refine WX.block ?_
          refine WX.seq ?_
          refine WX.region ?_
          refine WR.val gd_n rfl (hi _ _ _ _ _ (rd_t (gth rfl h7)) (rd_t (gth rfl h9))) ?_
          refine WR.val gd_n rfl (hld _ _ hg _ _ _ (rd_t Tr.get_here)) ?_
          refine WR.new gd_n rfl (A_alloc) ?_
          refine WR.upd0 gd_n rfl (A_st (rd_t Tr.get_here) (by (first | exact Tr.get_here | assumption | ((repeat refine Tr.get_there (by first | decide | omega) ?_); first | exact Tr.get_here | assumption))) (rd_t (gth rfl Tr.get_here)) rfl (Nat.le_of_ble_eq_true rfl) rfl rfl) ?_
          refine WR.nil ?_
          refine thn_n ?_
          refine WX.seq ?_
          refine WX.region ?_
          refine WR.val gd_n rfl (A_mv (rd_t (g2 rfl (gth rfl (gth rfl h3)))) okO) ?_
          refine WR.val gd_n rfl (A_lenSl (rd_t Tr.get_here)) ?_
          refine WR.val gd_n rfl (A_mv (rd_t Tr.get_here) rfl) ?_
          refine WR.nil ?_
          refine thn_n ?_
          refine WX.block ?_
          refine WX.seq ?_
          refine WX.region ?_
          refine WR.val gd_n rfl (A_faddr (rd_t (g2 rfl (gth rfl Tr.get_here)))) ?_
          refine WR.val gd_n rfl (A_ld1 (rd_t Tr.get_here) (by (first | exact Tr.get_here | assumption | ((repeat refine Tr.get_there (by first | decide | omega) ?_); first | exact Tr.get_here | assumption))) rfl) ?_
          refine WR.val gd_n rfl (A_eqS (rd_t Tr.get_here) rd_c htx) ?_
          refine WR.val gd_n rfl (A_mv (rd_t Tr.get_here) rfl) ?_
          refine WR.nil ?_
          refine thn_n ?_
          refine WX.condF (rd_t Tr.get_here) ?_
          refine WX.seq ?_
          refine WX.draw hcall mixedS (by rfl) ?_
          refine WD.val gd_n rfl rfl (fun _ => A_mv (rd_t (g4 rfl Tr.get_here)) rfl) ?_
          refine WD.val gd_n rfl rfl (fun _ => A_gtI (rd_t Tr.get_here) rd_c hgt) ?_
          refine WD.val gd_n rfl rfl (fun _ => A_mv (rd_t Tr.get_here) rfl) ?_
          refine WD.val (gd_t Tr.get_here) rfl rfl (fun _ => A_mv (rd_t (g8 rfl (g4 rfl (gth rfl (gth rfl h3))))) okO) ?_
          refine WD.val (gd_t (gth rfl Tr.get_here)) rfl rfl (fun _ => A_mv (rd_t (g8 rfl Tr.get_here)) rfl) ?_
          refine WD.val (gd_t (g2 rfl Tr.get_here)) rfl rfl (fun _ => A_sub (rd_t Tr.get_here) rd_c hs) ?_
          refine WD.val (gd_t (g2 rfl (gth rfl Tr.get_here))) rfl rfl (fun _ => A_iaddrSl (rd_t (g2 rfl Tr.get_here)) (rd_t Tr.get_here) (Nat.lt_succ_self _) rfl) ?_
          refine WD.val (gd_t (g4 rfl Tr.get_here)) rfl rfl (fun _ => A_faddr (rd_t Tr.get_here)) ?_
          refine WD.val (gd_t (g4 rfl (gth rfl Tr.get_here))) rfl rfl (fun _ => A_ld1 (rd_t Tr.get_here) (by (first | exact Tr.get_here | assumption | ((repeat refine Tr.get_there (by first | decide | omega) ?_); first | exact Tr.get_here | assumption))) hc0) ?_
          refine WD.val (gd_t (g4 rfl (g2 rfl Tr.get_here))) rfl rfl (fun _ => A_faddr (rd_t (g8 rfl (g8 rfl Tr.get_here)))) ?_
          refine WD.val (gd_t (g4 rfl (g2 rfl (gth rfl Tr.get_here)))) rfl rfl (fun _ => A_ld1 (rd_t Tr.get_here) (by (first | exact Tr.get_here | assumption | ((repeat refine Tr.get_there (by first | decide | omega) ?_); first | exact Tr.get_here | assumption))) rfl) ?_
          refine WD.val (gd_t (g8 rfl Tr.get_here)) rfl rfl (fun _ => A_eqI (rd_t (g2 rfl Tr.get_here)) (rd_t Tr.get_here) hkb) ?_
          refine WD.val gd_n rfl rfl (fun _ => A_pickT (rd_t (g8 rfl (gth rfl Tr.get_here))) (rd_t Tr.get_here) rfl) ?_
          refine WD.val gd_n rfl rfl (fun _ => A_mv (rd_t Tr.get_here) rfl) ?_
          refine WD.val (gd_t Tr.get_here) rfl rfl (fun _ => A_mv (rd_t (g8 rfl (g8 rfl (g8 rfl (gth rfl h3))))) okO) ?_
          refine WD.val (gd_t (gth rfl Tr.get_here)) rfl rfl (fun _ => A_mv (rd_t (g8 rfl (g8 rfl (g2 rfl (gth rfl Tr.get_here))))) rfl) ?_
          refine WD.val (gd_t (g2 rfl Tr.get_here)) rfl rfl (fun _ => A_sub (rd_t Tr.get_here) rd_c hs) ?_
          refine WD.val (gd_t (g2 rfl (gth rfl Tr.get_here))) rfl rfl (fun _ => A_iaddrSl (rd_t (g2 rfl Tr.get_here)) (rd_t Tr.get_here) (Nat.lt_succ_self _) rfl) ?_
          refine WD.val (gd_t (g4 rfl Tr.get_here)) rfl rfl (fun _ => A_faddr (rd_t Tr.get_here)) ?_
          refine WD.val (gd_t (g4 rfl (gth rfl Tr.get_here))) rfl rfl (fun _ => A_ld1 (rd_t Tr.get_here) (by (first | exact Tr.get_here | assumption | ((repeat refine Tr.get_there (by first | decide | omega) ?_); first | exact Tr.get_here | assumption))) hc1) ?_
          refine WD.val (gd_t (g4 rfl (g2 rfl Tr.get_here))) rfl rfl (fun _ => A_faddr (rd_t (g8 rfl (g8 rfl (g8 rfl (g2 rfl (gth rfl Tr.get_here))))))) ?_
          refine WD.val (gd_t (g4 rfl (g2 rfl (gth rfl Tr.get_here)))) rfl rfl (fun _ => A_ld1 (rd_t Tr.get_here) (by (first | exact Tr.get_here | assumption | ((repeat refine Tr.get_there (by first | decide | omega) ?_); first | exact Tr.get_here | assumption))) rfl) ?_
          refine WD.val (gd_t (g8 rfl Tr.get_here)) rfl rfl (fun _ => A_eqS (rd_t (g2 rfl Tr.get_here)) (rd_t Tr.get_here) hnb) ?_
          refine WD.val gd_n rfl rfl (fun _ => A_pickT (rd_t (g8 rfl (gth rfl Tr.get_here))) (rd_t Tr.get_here) rfl) ?_
          refine WD.val gd_n rfl rfl (fun _ => A_mv (rd_t Tr.get_here) rfl) ?_
          refine WD.nil ?_
          refine thn_n ?_
          refine WX.condT (rd_t Tr.get_here) ?_
          refine WX.draw hcall mixedS (by rfl) ?_
          refine WD.val gd_n rfl rfl (fun _ => A_mv (rd_t (g8 rfl (g8 rfl (g8 rfl (g8 rfl (g2 rfl (gth rfl (gth rfl h3)))))))) okO) ?_
          refine WD.val gd_n rfl rfl (fun _ => A_mv (rd_t (g8 rfl (g8 rfl (g8 rfl (g4 rfl (g2 rfl Tr.get_here)))))) rfl) ?_
          refine WD.val gd_n rfl rfl (fun _ => A_sub (rd_t Tr.get_here) rd_c hs) ?_
          refine WD.val gd_n rfl rfl (fun _ => A_mv (rd_t (g8 rfl (g8 rfl (g8 rfl (g8 rfl (g4 rfl (g2 rfl (gth rfl h3)))))))) okO) ?_
          refine WD.val gd_n rfl rfl (fun _ => A_mv (rd_t (g8 rfl (g8 rfl (g8 rfl (g8 rfl (gth rfl Tr.get_here)))))) rfl) ?_
          refine WD.val gd_n rfl rfl (fun _ => A_sub (rd_t Tr.get_here) rd_c hs) ?_
          refine WD.val gd_n rfl rfl (fun _ => A_iaddrSl (rd_t (g2 rfl Tr.get_here)) (rd_t Tr.get_here) (Nat.lt_succ_self _) rfl) ?_
          refine WD.val gd_n rfl rfl (fun _ => A_faddr (rd_t Tr.get_here)) ?_
          refine WD.val gd_n rfl rfl (fun _ => A_ld1 (rd_t Tr.get_here) (by (first | exact Tr.get_here | assumption | ((repeat refine Tr.get_there (by first | decide | omega) ?_); first | exact Tr.get_here | assumption))) hc2) ?_
          refine WD.val gd_n rfl rfl (fun _ => A_faddr (rd_t (g8 rfl (g8 rfl (g8 rfl (g8 rfl (g8 rfl (gth rfl Tr.get_here)))))))) ?_
          refine WD.val gd_n rfl rfl (fun _ => A_ld1 (rd_t Tr.get_here) (by (first | exact Tr.get_here | assumption | ((repeat refine Tr.get_there (by first | decide | omega) ?_); first | exact Tr.get_here | assumption))) rfl) ?_
          refine WD.val gd_n rfl rfl (fun _ => A_addS (rd_t (g2 rfl Tr.get_here)) (rd_t Tr.get_here) hsum rfl) ?_
          refine WD.val gd_n rfl rfl (fun _ => A_iaddrSl (rd_t (g8 rfl (g2 rfl (gth rfl Tr.get_here)))) (rd_t (g8 rfl (gth rfl Tr.get_here))) (Nat.lt_succ_self _) rfl) ?_
          refine WD.val gd_n rfl rfl (fun _ => A_faddr (rd_t Tr.get_here)) ?_
          refine WD.upd0 gd_n rfl rfl (fun _ => A_st (rd_t Tr.get_here) (by (first | exact Tr.get_here | assumption | ((repeat refine Tr.get_there (by first | decide | omega) ?_); first | exact Tr.get_here | assumption))) (rd_t (g2 rfl Tr.get_here)) rfl hsp rfl (cat_splice pre b _)) ?_
          refine WD.nil ?_
          refine blk_n ?_
          refine blk_n ?_
          refine thn_n ?_
          refine WX.region ?_
          refine WR.val gd_n rfl (A_add (rd_t (g8 rfl (g8 rfl (g8 rfl (g8 rfl (g8 rfl (g8 rfl (gth rfl (gth rfl h9))))))))) rd_c hw) ?_
          refine WR.val gd_n rfl (A_mv (rd_t Tr.get_here) rfl) ?_
          refine WR.nil ?_
          exact hQ _ _ _ ⟨(((hg.set hn0).set hn0).set hl0).up (by omega), ⟨_, (g8 rfl (g8 rfl (g8 rfl (g8 rfl (g8 rfl (g8 rfl (g2 rfl (gth rfl (gth rfl h3))))))))), .inr ⟨l, pre, _, hl0, by omega, rfl, rfl, Tr.get_here⟩⟩, (g8 rfl (g8 rfl (g8 rfl (g8 rfl (g8 rfl (g8 rfl (g2 rfl (gth rfl (gth rfl h7))))))))), (g8 rfl (g8 rfl (g8 rfl (g8 rfl (g8 rfl (g8 rfl (g2 rfl (gth rfl (gth rfl h8))))))))), Tr.get_here⟩
        · have hnb : (b.nm == e.nm) = false := by simp [hn]
          rw [put1_a hx (fun hh => hn hh.2)] at hQ
          refine WX.seq ?_
          refine WX.region ?_
          refine WR.val gd_n rfl (A_ltI (rd_t h9) (rd_t h8) hlt') ?_
          refine WR.nil ?_
          refine thn_n ?_
          refine WX.seq ?_
          refine WX.condT (rd_t Tr.get_here) ?_
          refine WX.skip ?_
          refine thn_n ?_
          refine WX.seq ?_
          refine WX.block ?_
          refine WX.seq ?_
          refine WX.region ?_
          refine WR.val gd_n rfl (hi _ _ _ _ _ (rd_t (gth rfl h7)) (rd_t (gth rfl h9))) ?_
          refine WR.val gd_n rfl (hld _ _ hg _ _ _ (rd_t Tr.get_here)) ?_
          refine WR.new gd_n rfl (A_alloc) ?_
          refine WR.upd0 gd_n rfl (A_st (rd_t Tr.get_here) (by (first | exact Tr.get_here | assumption | ((repeat refine Tr.get_there (by first | decide | omega) ?_); first | exact Tr.get_here | assumption))) (rd_t (gth rfl Tr.get_here)) rfl (Nat.le_of_ble_eq_true rfl) rfl rfl) ?_
          refine WR.nil ?_
          refine thn_n ?_
          refine WX.seq ?_
          refine WX.region ?_
          refine WR.val gd_n rfl (A_mv (rd_t (g2 rfl (gth rfl (gth rfl h3)))) okO) ?_
          refine WR.val gd_n rfl (A_lenSl (rd_t Tr.get_here)) ?_
          refine WR.val gd_n rfl (A_mv (rd_t Tr.get_here) rfl) ?_
          refine WR.nil ?_
          refine thn_n ?_
          refine WX.block ?_
          refine WX.seq ?_
          refine WX.region ?_
          refine WR.val gd_n rfl (A_faddr (rd_t (g2 rfl (gth rfl Tr.get_here)))) ?_
          refine WR.val gd_n rfl (A_ld1 (rd_t Tr.get_here) (by (first | exact Tr.get_here | assumption | ((repeat refine Tr.get_there (by first | decide | omega) ?_); first | exact Tr.get_here | assumption))) rfl) ?_
          refine WR.val gd_n rfl (A_eqS (rd_t Tr.get_here) rd_c htx) ?_
          refine WR.val gd_n rfl (A_mv (rd_t Tr.get_here) rfl) ?_
          refine WR.nil ?_
          refine thn_n ?_
          refine WX.condF (rd_t Tr.get_here) ?_
          refine WX.seq ?_
          refine WX.draw hcall mixedS (by rfl) ?_
          refine WD.val gd_n rfl rfl (fun _ => A_mv (rd_t (g4 rfl Tr.get_here)) rfl) ?_
          refine WD.val gd_n rfl rfl (fun _ => A_gtI (rd_t Tr.get_here) rd_c hgt) ?_
          refine WD.val gd_n rfl rfl (fun _ => A_mv (rd_t Tr.get_here) rfl) ?_
          refine WD.val (gd_t Tr.get_here) rfl rfl (fun _ => A_mv (rd_t (g8 rfl (g4 rfl (gth rfl (gth rfl h3))))) okO) ?_
          refine WD.val (gd_t (gth rfl Tr.get_here)) rfl rfl (fun _ => A_mv (rd_t (g8 rfl Tr.get_here)) rfl) ?_
          refine WD.val (gd_t (g2 rfl Tr.get_here)) rfl rfl (fun _ => A_sub (rd_t Tr.get_here) rd_c hs) ?_
          refine WD.val (gd_t (g2 rfl (gth rfl Tr.get_here))) rfl rfl (fun _ => A_iaddrSl (rd_t (g2 rfl Tr.get_here)) (rd_t Tr.get_here) (Nat.lt_succ_self _) rfl) ?_
          refine WD.val (gd_t (g4 rfl Tr.get_here)) rfl rfl (fun _ => A_faddr (rd_t Tr.get_here)) ?_
          refine WD.val (gd_t (g4 rfl (gth rfl Tr.get_here))) rfl rfl (fun _ => A_ld1 (rd_t Tr.get_here) (by (first | exact Tr.get_here | assumption | ((repeat refine Tr.get_there (by first | decide | omega) ?_); first | exact Tr.get_here | assumption))) hc0) ?_
          refine WD.val (gd_t (g4 rfl (g2 rfl Tr.get_here))) rfl rfl (fun _ => A_faddr (rd_t (g8 rfl (g8 rfl Tr.get_here)))) ?_
          refine WD.val (gd_t (g4 rfl (g2 rfl (gth rfl Tr.get_here)))) rfl rfl (fun _ => A_ld1 (rd_t Tr.get_here) (by (first | exact Tr.get_here | assumption | ((repeat refine Tr.get_there (by first | decide | omega) ?_); first | exact Tr.get_here | assumption))) rfl) ?_
          refine WD.val (gd_t (g8 rfl Tr.get_here)) rfl rfl (fun _ => A_eqI (rd_t (g2 rfl Tr.get_here)) (rd_t Tr.get_here) hkb) ?_
          refine WD.val gd_n rfl rfl (fun _ => A_pickT (rd_t (g8 rfl (gth rfl Tr.get_here))) (rd_t Tr.get_here) rfl) ?_
          refine WD.val gd_n rfl rfl (fun _ => A_mv (rd_t Tr.get_here) rfl) ?_
          refine WD.val (gd_t Tr.get_here) rfl rfl (fun _ => A_mv (rd_t (g8 rfl (g8 rfl (g8 rfl (gth rfl h3))))) okO) ?_
          refine WD.val (gd_t (gth rfl Tr.get_here)) rfl rfl (fun _ => A_mv (rd_t (g8 rfl (g8 rfl (g2 rfl (gth rfl Tr.get_here))))) rfl) ?_
          refine WD.val (gd_t (g2 rfl Tr.get_here)) rfl rfl (fun _ => A_sub (rd_t Tr.get_here) rd_c hs) ?_
          refine WD.val (gd_t (g2 rfl (gth rfl Tr.get_here))) rfl rfl (fun _ => A_iaddrSl (rd_t (g2 rfl Tr.get_here)) (rd_t Tr.get_here) (Nat.lt_succ_self _) rfl) ?_
          refine WD.val (gd_t (g4 rfl Tr.get_here)) rfl rfl (fun _ => A_faddr (rd_t Tr.get_here)) ?_
          refine WD.val (gd_t (g4 rfl (gth rfl Tr.get_here))) rfl rfl (fun _ => A_ld1 (rd_t Tr.get_here) (by (first | exact Tr.get_here | assumption | ((repeat refine Tr.get_there (by first | decide | omega) ?_); first | exact Tr.get_here | assumption))) hc1) ?_
          refine WD.val (gd_t (g4 rfl (g2 rfl Tr.get_here))) rfl rfl (fun _ => A_faddr (rd_t (g8 rfl (g8 rfl (g8 rfl (g2 rfl (gth rfl Tr.get_here))))))) ?_
          refine WD.val (gd_t (g4 rfl (g2 rfl (gth rfl Tr.get_here)))) rfl rfl (fun _ => A_ld1 (rd_t Tr.get_here) (by (first | exact Tr.get_here | assumption | ((repeat refine Tr.get_there (by first | decide | omega) ?_); first | exact Tr.get_here | assumption))) rfl) ?_
          refine WD.val (gd_t (g8 rfl Tr.get_here)) rfl rfl (fun _ => A_eqS (rd_t (g2 rfl Tr.get_here)) (rd_t Tr.get_here) hnb) ?_
          refine WD.val gd_n rfl rfl (fun _ => A_pickT (rd_t (g8 rfl (gth rfl Tr.get_here))) (rd_t Tr.get_here) rfl) ?_
          refine WD.val gd_n rfl rfl (fun _ => A_mv (rd_t Tr.get_here) rfl) ?_
          refine WD.nil ?_
          refine thn_n ?_
          refine WX.condF (rd_t Tr.get_here) ?_
          refine WX.region ?_
          refine WR.val gd_n rfl (A_mv (rd_t (g8 rfl (g8 rfl (g8 rfl (g8 rfl (g2 rfl (gth rfl (gth rfl h3)))))))) okO) ?_
          refine WR.val gd_n rfl (A_ldA (rd_t (g8 rfl (g8 rfl (g8 rfl (g8 rfl (gth rfl Tr.get_here)))))) (by (first | exact Tr.get_here | assumption | ((repeat refine Tr.get_there (by first | decide | omega) ?_); first | exact Tr.get_here | assumption))) (Nat.le_of_ble_eq_true rfl) rfl) ?_
          refine WR.new gd_n rfl (A_bslice (rd_t Tr.get_here) rfl rfl) ?_
          refine WR.app gd_n rfl (A_appSl' (rd_t (g2 rfl Tr.get_here)) (rd_t Tr.get_here) (S_sl Tr.get_here (Nat.le_of_ble_eq_true rfl) rfl) (by decide) hln (by (first | exact Tr.get_here | assumption | ((repeat refine Tr.get_there (by first | decide | omega) ?_); first | exact Tr.get_here | assumption))) hsz hrm (.inl (by decide)) hcat) ?_
          refine WR.val gd_n rfl (A_mv (rd_t Tr.get_here) rfl) ?_
          refine WR.nil ?_
          refine blk_n ?_
          refine blk_n ?_
          refine thn_n ?_
          refine WX.region ?_
          refine WR.val gd_n rfl (A_add (rd_t (g8 rfl (g8 rfl (g8 rfl (g8 rfl (g8 rfl (gth rfl h9))))))) rd_c hw) ?_
          refine WR.val gd_n rfl (A_mv (rd_t Tr.get_here) rfl) ?_
          refine WR.nil ?_
          exact hQ _ _ _ ⟨((((((hg.set hn0).set hn0).set (by omega)).set hl0).set (by omega)).up (by omega)), ⟨_, (g2 rfl Tr.get_here), .inr ⟨_, pre ++ [b], e, by omega, Nat.lt_succ_self _, by simp, rfl, Tr.get_here⟩⟩, (g8 rfl (g8 rfl (g8 rfl (g8 rfl (g8 rfl (g2 rfl (gth rfl h7))))))), (g8 rfl (g8 rfl (g8 rfl (g8 rfl (g8 rfl (g2 rfl (gth rfl h8))))))), Tr.get_here⟩
      · have hkb : (b.k == e.k) = false := by simp [hk]
        rw [put1_a hx (fun hh => hk hh.1)] at hQ
        refine WX.seq ?_
        refine WX.region ?_
        refine WR.val gd_n rfl (A_ltI (rd_t h9) (rd_t h8) hlt') ?_
        refine WR.nil ?_
        refine thn_n ?_
        refine WX.seq ?_
        refine WX.condT (rd_t Tr.get_here) ?_
        refine WX.skip ?_
        refine thn_n ?_
        refine WX.seq ?_
        refine WX.block ?_
        refine WX.seq ?_
        refine WX.region ?_
        refine WR.val gd_n rfl (hi _ _ _ _ _ (rd_t (gth rfl h7)) (rd_t (gth rfl h9))) ?_
        refine WR.val gd_n rfl (hld _ _ hg _ _ _ (rd_t Tr.get_here)) ?_
        refine WR.new gd_n rfl (A_alloc) ?_
        refine WR.upd0 gd_n rfl (A_st (rd_t Tr.get_here) (by (first | exact Tr.get_here | assumption | ((repeat refine Tr.get_there (by first | decide | omega) ?_); first | exact Tr.get_here | assumption))) (rd_t (gth rfl Tr.get_here)) rfl (Nat.le_of_ble_eq_true rfl) rfl rfl) ?_
        refine WR.nil ?_
        refine thn_n ?_
        refine WX.seq ?_
        refine WX.region ?_
        refine WR.val gd_n rfl (A_mv (rd_t (g2 rfl (gth rfl (gth rfl h3)))) okO) ?_
        refine WR.val gd_n rfl (A_lenSl (rd_t Tr.get_here)) ?_
        refine WR.val gd_n rfl (A_mv (rd_t Tr.get_here) rfl) ?_
        refine WR.nil ?_
        refine thn_n ?_
        refine WX.block ?_
        refine WX.seq ?_
        refine WX.region ?_
        refine WR.val gd_n rfl (A_faddr (rd_t (g2 rfl (gth rfl Tr.get_here)))) ?_
        refine WR.val gd_n rfl (A_ld1 (rd_t Tr.get_here) (by (first | exact Tr.get_here | assumption | ((repeat refine Tr.get_there (by first | decide | omega) ?_); first | exact Tr.get_here | assumption))) rfl) ?_
        refine WR.val gd_n rfl (A_eqS (rd_t Tr.get_here) rd_c htx) ?_
        refine WR.val gd_n rfl (A_mv (rd_t Tr.get_here) rfl) ?_
        refine WR.nil ?_
        refine thn_n ?_
        refine WX.condF (rd_t Tr.get_here) ?_
        refine WX.seq ?_
        refine WX.draw hcall mixedS (by rfl) ?_
        refine WD.val gd_n rfl rfl (fun _ => A_mv (rd_t (g4 rfl Tr.get_here)) rfl) ?_
        refine WD.val gd_n rfl rfl (fun _ => A_gtI (rd_t Tr.get_here) rd_c hgt) ?_
        refine WD.val gd_n rfl rfl (fun _ => A_mv (rd_t Tr.get_here) rfl) ?_
        refine WD.val (gd_t Tr.get_here) rfl rfl (fun _ => A_mv (rd_t (g8 rfl (g4 rfl (gth rfl (gth rfl h3))))) okO) ?_
        refine WD.val (gd_t (gth rfl Tr.get_here)) rfl rfl (fun _ => A_mv (rd_t (g8 rfl Tr.get_here)) rfl) ?_
        refine WD.val (gd_t (g2 rfl Tr.get_here)) rfl rfl (fun _ => A_sub (rd_t Tr.get_here) rd_c hs) ?_
        refine WD.val (gd_t (g2 rfl (gth rfl Tr.get_here))) rfl rfl (fun _ => A_iaddrSl (rd_t (g2 rfl Tr.get_here)) (rd_t Tr.get_here) (Nat.lt_succ_self _) rfl) ?_
        refine WD.val (gd_t (g4 rfl Tr.get_here)) rfl rfl (fun _ => A_faddr (rd_t Tr.get_here)) ?_
        refine WD.val (gd_t (g4 rfl (gth rfl Tr.get_here))) rfl rfl (fun _ => A_ld1 (rd_t Tr.get_here) (by (first | exact Tr.get_here | assumption | ((repeat refine Tr.get_there (by first | decide | omega) ?_); first | exact Tr.get_here | assumption))) hc0) ?_
        refine WD.val (gd_t (g4 rfl (g2 rfl Tr.get_here))) rfl rfl (fun _ => A_faddr (rd_t (g8 rfl (g8 rfl Tr.get_here)))) ?_
        refine WD.val (gd_t (g4 rfl (g2 rfl (gth rfl Tr.get_here)))) rfl rfl (fun _ => A_ld1 (rd_t Tr.get_here) (by (first | exact Tr.get_here | assumption | ((repeat refine Tr.get_there (by first | decide | omega) ?_); first | exact Tr.get_here | assumption))) rfl) ?_
        refine WD.val (gd_t (g8 rfl Tr.get_here)) rfl rfl (fun _ => A_eqI (rd_t (g2 rfl Tr.get_here)) (rd_t Tr.get_here) hkb) ?_
        refine WD.val gd_n rfl rfl (fun _ => A_pickT (rd_t (g8 rfl (gth rfl Tr.get_here))) (rd_t Tr.get_here) rfl) ?_
        refine WD.val gd_n rfl rfl (fun _ => A_mv (rd_t Tr.get_here) rfl) ?_
        refine WD.skip (gd_tf Tr.get_here) ?_
        refine WD.skip (gd_tf (gth rfl Tr.get_here)) ?_
        refine WD.skip (gd_tf (g2 rfl Tr.get_here)) ?_
        refine WD.skip (gd_tf (g2 rfl (gth rfl Tr.get_here))) ?_
        refine WD.skip (gd_tf (g4 rfl Tr.get_here)) ?_
        refine WD.skip (gd_tf (g4 rfl (gth rfl Tr.get_here))) ?_
        refine WD.skip (gd_tf (g4 rfl (g2 rfl Tr.get_here))) ?_
        refine WD.skip (gd_tf (g4 rfl (g2 rfl (gth rfl Tr.get_here)))) ?_
        refine WD.skip (gd_tf (g8 rfl Tr.get_here)) ?_
        refine WD.val gd_n rfl rfl (fun _ => A_pickF (rd_t (g8 rfl (gth rfl Tr.get_here))) rd_c rfl) ?_
        refine WD.val gd_n rfl rfl (fun _ => A_mv (rd_t Tr.get_here) rfl) ?_
        refine WD.nil ?_
        refine thn_n ?_
        refine WX.condF (rd_t Tr.get_here) ?_
        refine WX.region ?_
        refine WR.val gd_n rfl (A_mv (rd_t (g8 rfl (g8 rfl (g8 rfl (g8 rfl (g2 rfl (gth rfl (gth rfl h3)))))))) okO) ?_
        refine WR.val gd_n rfl (A_ldA (rd_t (g8 rfl (g8 rfl (g8 rfl (g8 rfl (gth rfl Tr.get_here)))))) (by (first | exact Tr.get_here | assumption | ((repeat refine Tr.get_there (by first | decide | omega) ?_); first | exact Tr.get_here | assumption))) (Nat.le_of_ble_eq_true rfl) rfl) ?_
        refine WR.new gd_n rfl (A_bslice (rd_t Tr.get_here) rfl rfl) ?_
        refine WR.app gd_n rfl (A_appSl' (rd_t (g2 rfl Tr.get_here)) (rd_t Tr.get_here) (S_sl Tr.get_here (Nat.le_of_ble_eq_true rfl) rfl) (by decide) hln (by (first | exact Tr.get_here | assumption | ((repeat refine Tr.get_there (by first | decide | omega) ?_); first | exact Tr.get_here | assumption))) hsz hrm (.inl (by decide)) hcat) ?_
        refine WR.val gd_n rfl (A_mv (rd_t Tr.get_here) rfl) ?_
        refine WR.nil ?_
        refine blk_n ?_
        refine blk_n ?_
        refine thn_n ?_
        refine WX.region ?_
        refine WR.val gd_n rfl (A_add (rd_t (g8 rfl (g8 rfl (g8 rfl (g8 rfl (g8 rfl (gth rfl h9))))))) rd_c hw) ?_
        refine WR.val gd_n rfl (A_mv (rd_t Tr.get_here) rfl) ?_
        refine WR.nil ?_
        exact hQ _ _ _ ⟨((((((hg.set hn0).set hn0).set (by omega)).set hl0).set (by omega)).up (by omega)), ⟨_, (g2 rfl Tr.get_here), .inr ⟨_, pre ++ [b], e, by omega, Nat.lt_succ_self _, by simp, rfl, Tr.get_here⟩⟩, (g8 rfl (g8 rfl (g8 rfl (g8 rfl (g8 rfl (g2 rfl (gth rfl h7))))))), (g8 rfl (g8 rfl (g8 rfl (g8 rfl (g8 rfl (g2 rfl (gth rfl h8))))))), Tr.get_here⟩

end
end Go.Proofs.YtelnkadnphephaaGreatDoor.T
end
noncomputable section
namespace Go.Proofs.YtelnkadnphephaaGreatDoor.T
open Go Go.Abs
noncomputable section

theorem join_len : ∀ (es out : List Ef), (joinL out es).length ≤ out.length + es.length
  | [], out => Nat.le_refl _
  | e :: r, out => by
    have h1 := put1_len out e
    have h2 := join_len r (put1 out e)
    simp only [joinL, List.length_cons]; omega
theorem join_sum : ∀ (es out : List Ef), lenOf (joinL out es) ≤ lenOf out + lenOf es
  | [], out => by simp [joinL, lenOf]
  | e :: r, out => by
    have h1 := put1_sum out e
    have h2 := join_sum r (put1 out e)
    simp only [joinL, lenOf]; omega
theorem text_append (k : Int) (nm : List UInt8) : ∀ a b : List Ef, textOf k nm (a ++ b) = textOf k nm a ++ textOf k nm b
  | [], b => rfl
  | e :: r, b => by
    simp only [List.cons_append, textOf]
    split
    · rw [text_append, List.append_assoc]
    · exact text_append k nm r b
theorem text_put1 (k : Int) (nm : List UInt8) (out : List Ef) (e : Ef) : textOf k nm (put1 out e) = textOf k nm out ++ textOf k nm [e] := by
  unfold put1
  split
  · rename_i h
    simp only [textOf, h, List.append_nil, ite_self]
  · split
    · rename_i h
      have : out = [] := List.getLast?_eq_none_iff.1 h
      subst this; rfl
    · rename_i b hb
      obtain ⟨pre, rfl⟩ := List.getLast?_eq_some_iff.1 hb
      split
      · rename_i hc
        rw [List.dropLast_concat, text_append, text_append, List.append_assoc]
        congr 1
        simp only [textOf, hc.1, hc.2]
        split <;> simp
      · rw [text_append]
/-- What goes to one place is the same before and behind a Join. -/
theorem text_join (k : Int) (nm : List UInt8) : ∀ (es out : List Ef), textOf k nm (joinL out es) = textOf k nm out ++ textOf k nm es
  | [], out => by simp [joinL, textOf]
  | e :: r, out => by
    rw [joinL, text_join k nm r, text_put1, List.append_assoc, ← text_append]; rfl

theorem OV.view {n0 : Nat} {t : Tr AObj} {n : Nat} {d : D} {out : List Ef} (h : OV n0 t n d out) : View t n d out := by
  rcases h with ⟨rfl, rfl⟩ | ⟨l, pre, b, h1, h2, rfl, rfl, h3⟩
  · exact .inr (.inl ⟨rfl, rfl⟩)
  · exact .inr (.inr ⟨l, 0, h2, by simp, by rw [h3]; simp⟩)

variable {Γ : Nat → D}

attribute [local irreducible] aop evT tm guardX Tr.get Tr.set WR WD WX WL thn blk lop View Gr

set_option maxHeartbeats 20000000 in
theorem loop12 {t0 : Tr AObj} {n0 : Nat} {d : D} {es : List Ef} (hes : es.length ≤ 1048576) (hV0 : View t0 n0 d es) : ∀ (rest : List Ef) (j : Nat) (out : List Ef) (T : Tr D) (t : Tr AObj) (n : Nat) (Q : QX), I12 t0 n0 T t n d es out j → es.drop j = rest → out.length ≤ j → lenOf out + lenOf rest ≤ maxN →
    (∀ T' t' n' dO, T'.get 3 = some dO → OV n0 t' n' dO (joinL out rest) → Gr t0 n0 t' n' → Q (.exit 0) T' t' n') → WL Tryz.prog Γ X12_L0 T t n Q
  | [], j, out, T, t, n, Q, h, hd, hol, hl, hQ => by
    have hge : es.length ≤ j := List.drop_eq_nil_iff.1 hd
    obtain ⟨hg, ⟨dO, h3, hO⟩, h7, h8, h9⟩ := h
    have hlt' : decide ((j : Int) < (es.length : Int)) = false := by simp; omega
    refine WL.more ?_
    unfold X12_L0
    refine WX.seq ?_
    refine WX.region ?_
    refine WR.val gd_n rfl (A_ltI (rd_t h9) (rd_t h8) hlt') ?_
    refine WR.nil ?_
    refine thn_n ?_
    refine WX.seq ?_
    refine WX.condF (rd_t Tr.get_here) ?_
    refine WX.exit ?_
    refine thn_x ?_
    exact lop_x (hQ _ _ _ _ (gth rfl h3) hO hg)
  | e :: r, j, out, T, t, n, Q, h, hd, hol, hl, hQ => by
    obtain ⟨h1, h2, h3, _⟩ := drop_cons hd.symm
    rw [lenOf] at hl
    have p1 := put1_len out e
    have p2 := put1_sum out e
    refine WL.more (step12 hV0 h h2 (by omega) (by omega) (by omega) fun T' t' n' h' => lop_n ?_)
    exact loop12 hes hV0 r (j + 1) _ T' t' n' Q h' h3.symm (by omega) (by omega) fun T2 t2 n2 dO k1 k2 k3 => hQ T2 t2 n2 dO k1 k2 k3

set_option maxHeartbeats 20000000 in
theorem cx_join12 {t : Tr AObj} {n : Nat} {d : D} {es : List Ef} (hV : View t n d es) (hes : es.length ≤ 1048576) (hl : lenOf es ≤ maxN) :
    ∃ dO t' n', CX Tryz.prog Γ 12 [d] (S.mk t n).h dO (S.mk t' n').h ∧ View t' n' dO (joinL [] es) ∧ Gr t n t' n' := by
  have hok := hV.ok
  have key := CX.ofWX (P := Tryz.prog) (Γ := Γ) (t := t) (n := n) (f := 12) (args := [d]) Tryz.func12 X12_eq (by kernel_rfl) (by kernel_rfl) (by rfl) (R := fun d' t' n' => View t' n' d' (joinL [] es) ∧ Gr t n t' n') (by
    show WX _ _ X12.body (Tr.e.set 0 (some d)) _ _ _
    unfold X12
    refine WX.seq ?_
    refine WX.region ?_
    refine WR.val gd_n rfl (A_mv rd_c rfl) ?_
    refine WR.nil ?_
    refine thn_n ?_
    refine WX.seq ?_
    refine WX.region ?_
    refine WR.val gd_n rfl (A_mv rd_c rfl) ?_
    refine WR.nil ?_
    refine thn_n ?_
    refine WX.seq ?_
    refine WX.seq ?_
    refine WX.region ?_
    refine WR.val gd_n rfl (A_mv (rd_t (g2 rfl Tr.get_here)) hok) ?_
    refine WR.val gd_n rfl (hV.len (rd_t Tr.get_here)) ?_
    refine WR.val gd_n rfl (A_mv rd_c rfl) ?_
    refine WR.nil ?_
    refine thn_n ?_
    refine WX.block ?_
    refine WX.loop ?_
    refine loop12 hes hV es 0 [] _ _ _ _ ⟨Gr.refl, ⟨.nils, (by (first | exact Tr.get_here | assumption | ((repeat refine Tr.get_there (by first | decide | omega) ?_); first | exact Tr.get_here | assumption))), .inl ⟨rfl, rfl⟩⟩, (by (first | exact Tr.get_here | assumption | ((repeat refine Tr.get_there (by first | decide | omega) ?_); first | exact Tr.get_here | assumption))), (by (first | exact Tr.get_here | assumption | ((repeat refine Tr.get_there (by first | decide | omega) ?_); first | exact Tr.get_here | assumption))), (by (first | exact Tr.get_here | assumption | ((repeat refine Tr.get_there (by first | decide | omega) ?_); first | exact Tr.get_here | assumption)))⟩ rfl (Nat.le_refl _) (by simpa [lenOf] using hl) fun T' t' n' dO h3 hO g => ?_
    have hV' := hO.view
    have okO := hV'.ok
    refine blk_x ?_
    refine thn_n ?_
    refine WX.seq ?_
    refine WX.region ?_
    refine WR.val gd_n rfl (A_mv (rd_t h3) okO) ?_
    refine WR.val gd_n rfl (A_mv (rd_t Tr.get_here) okO) ?_
    refine WR.nil ?_
    refine thn_n ?_
    refine WX.ret ?_
    exact retQ_r (res_t Tr.get_here res_nil) (by simp [okO]) ⟨hV', g⟩)
  obtain ⟨d', t', n', hx, hv, hg⟩ := key
  exact ⟨d', t', n', hx, hv, hg⟩

set_option maxHeartbeats 20000000 in
theorem loop13 {t0 : Tr AObj} {n0 : Nat} {d : D} {es : List Ef} (hes : es.length ≤ 1048576) (hV0 : View t0 n0 d es) : ∀ (rest : List Ef) (j : Nat) (out : List Ef) (T : Tr D) (t : Tr AObj) (n : Nat) (Q : QX), I12 t0 n0 T t n d es out j → es.drop j = rest → out.length ≤ j → lenOf out + lenOf rest ≤ maxN →
    (∀ T' t' n' dO, T'.get 3 = some dO → OV n0 t' n' dO (joinL out rest) → Gr t0 n0 t' n' → Q (.exit 0) T' t' n') → WL Tryz.prog Γ X13_L0 T t n Q
  | [], j, out, T, t, n, Q, h, hd, hol, hl, hQ => by
    have hge : es.length ≤ j := List.drop_eq_nil_iff.1 hd
    obtain ⟨hg, ⟨dO, h3, hO⟩, h7, h8, h9⟩ := h
    have hlt' : decide ((j : Int) < (es.length : Int)) = false := by simp; omega
    refine WL.more ?_
    unfold X13_L0
    refine WX.seq ?_
    refine WX.region ?_
    refine WR.val gd_n rfl (A_ltI (rd_t h9) (rd_t h8) hlt') ?_
    refine WR.nil ?_
    refine thn_n ?_
    refine WX.seq ?_
    refine WX.condF (rd_t Tr.get_here) ?_
    refine WX.exit ?_
    refine thn_x ?_
    exact lop_x (hQ _ _ _ _ (gth rfl h3) hO hg)
  | e :: r, j, out, T, t, n, Q, h, hd, hol, hl, hQ => by
    obtain ⟨h1, h2, h3, _⟩ := drop_cons hd.symm
    rw [lenOf] at hl
    have p1 := put1_len out e
    have p2 := put1_sum out e
    refine WL.more (step13 hV0 h h2 (by omega) (by omega) (by omega) fun T' t' n' h' => lop_n ?_)
    exact loop13 hes hV0 r (j + 1) _ T' t' n' Q h' h3.symm (by omega) (by omega) fun T2 t2 n2 dO k1 k2 k3 => hQ T2 t2 n2 dO k1 k2 k3

set_option maxHeartbeats 20000000 in
theorem cx_join13 {t : Tr AObj} {n : Nat} {d : D} {es : List Ef} (hV : View t n d es) (hes : es.length ≤ 1048576) (hl : lenOf es ≤ maxN) :
    ∃ dO t' n', CX Tryz.prog Γ 13 [d] (S.mk t n).h dO (S.mk t' n').h ∧ View t' n' dO (joinL [] es) ∧ Gr t n t' n' := by
  have hok := hV.ok
  have key := CX.ofWX (P := Tryz.prog) (Γ := Γ) (t := t) (n := n) (f := 13) (args := [d]) Tryz.func13 X13_eq (by kernel_rfl) (by kernel_rfl) (by rfl) (R := fun d' t' n' => View t' n' d' (joinL [] es) ∧ Gr t n t' n') (by
    show WX _ _ X13.body (Tr.e.set 0 (some d)) _ _ _
    unfold X13
    refine WX.seq ?_
    refine WX.region ?_
    refine WR.val gd_n rfl (A_mv rd_c rfl) ?_
    refine WR.nil ?_
    refine thn_n ?_
    refine WX.seq ?_
    refine WX.region ?_
    refine WR.val gd_n rfl (A_mv rd_c rfl) ?_
    refine WR.nil ?_
    refine thn_n ?_
    refine WX.seq ?_
    refine WX.seq ?_
    refine WX.region ?_
    refine WR.val gd_n rfl (A_mv (rd_t (g2 rfl Tr.get_here)) hok) ?_
    refine WR.val gd_n rfl (hV.len (rd_t Tr.get_here)) ?_
    refine WR.val gd_n rfl (A_mv rd_c rfl) ?_
    refine WR.nil ?_
    refine thn_n ?_
    refine WX.block ?_
    refine WX.loop ?_
    refine loop13 hes hV es 0 [] _ _ _ _ ⟨Gr.refl, ⟨.nils, (by (first | exact Tr.get_here | assumption | ((repeat refine Tr.get_there (by first | decide | omega) ?_); first | exact Tr.get_here | assumption))), .inl ⟨rfl, rfl⟩⟩, (by (first | exact Tr.get_here | assumption | ((repeat refine Tr.get_there (by first | decide | omega) ?_); first | exact Tr.get_here | assumption))), (by (first | exact Tr.get_here | assumption | ((repeat refine Tr.get_there (by first | decide | omega) ?_); first | exact Tr.get_here | assumption))), (by (first | exact Tr.get_here | assumption | ((repeat refine Tr.get_there (by first | decide | omega) ?_); first | exact Tr.get_here | assumption)))⟩ rfl (Nat.le_refl _) (by simpa [lenOf] using hl) fun T' t' n' dO h3 hO g => ?_
    have hV' := hO.view
    have okO := hV'.ok
    refine blk_x ?_
    refine thn_n ?_
    refine WX.seq ?_
    refine WX.region ?_
    refine WR.val gd_n rfl (A_mv (rd_t h3) okO) ?_
    refine WR.val gd_n rfl (A_mv (rd_t Tr.get_here) okO) ?_
    refine WR.nil ?_
    refine thn_n ?_
    refine WX.ret ?_
    exact retQ_r (res_t Tr.get_here res_nil) (by simp [okO]) ⟨hV', g⟩)
  obtain ⟨d', t', n', hx, hv, hg⟩ := key
  exact ⟨d', t', n', hx, hv, hg⟩

end
end Go.Proofs.YtelnkadnphephaaGreatDoor.T
end
noncomputable section
namespace Go.Proofs.YtelnkadnphephaaGreatDoor.T
open Go Go.Abs
noncomputable def iN (n : Nat) : D := .i .i64 (.ofNat n)
noncomputable def rN (n : Nat) : RR := rc (.i .i64 (.ofNat n))
noncomputable def rT : RR := rc (.b true)
noncomputable def rF : RR := rc (.b false)
noncomputable def rcf (n : Nat) : RR := rc (.fn (.func n) [] [])
noncomputable def mR (l : List OPc) (b : MM) : MM := mSeq (mOps (qReg l)) b
noncomputable def mO (l : List OPc) : MM := mOps (qReg l)
noncomputable abbrev xq (f : Func) : Option CFn := (xfn Tryz.prog f).map compX
noncomputable abbrev xw (f : Func) : Option Bool := (xfn Tryz.prog f).map (fun x => x.body.wf x.ntmps && Nat.ble x.ntmps 100000)
noncomputable def o0 := some 0
noncomputable def r0 := rt 0
noncomputable def o1 := some 1
noncomputable def r1 := rt 1
noncomputable def o2 := some 2
noncomputable def r2 := rt 2
noncomputable def o3 := some 3
noncomputable def r3 := rt 3
noncomputable def o4 := some 4
noncomputable def r4 := rt 4
noncomputable def o5 := some 5
noncomputable def r5 := rt 5
noncomputable def o6 := some 6
noncomputable def r6 := rt 6
noncomputable def o7 := some 7
noncomputable def r7 := rt 7
noncomputable def o8 := some 8
noncomputable def r8 := rt 8
noncomputable def o9 := some 9
noncomputable def r9 := rt 9
noncomputable def o10 := some 10
noncomputable def r10 := rt 10
noncomputable def o11 := some 11
noncomputable def r11 := rt 11
noncomputable def o12 := some 12
noncomputable def r12 := rt 12
noncomputable def o13 := some 13
noncomputable def r13 := rt 13
noncomputable def o14 := some 14
noncomputable def r14 := rt 14
noncomputable def o15 := some 15
noncomputable def r15 := rt 15
noncomputable def o16 := some 16
noncomputable def r16 := rt 16
noncomputable def o17 := some 17
noncomputable def r17 := rt 17
noncomputable def o18 := some 18
noncomputable def r18 := rt 18
noncomputable def o19 := some 19
noncomputable def r19 := rt 19
noncomputable def o20 := some 20
noncomputable def r20 := rt 20
noncomputable def o21 := some 21
noncomputable def r21 := rt 21
noncomputable def o22 := some 22
noncomputable def r22 := rt 22
noncomputable def o23 := some 23
noncomputable def r23 := rt 23
noncomputable def o24 := some 24
noncomputable def r24 := rt 24
noncomputable def o25 := some 25
noncomputable def r25 := rt 25
noncomputable def o26 := some 26
noncomputable def r26 := rt 26
noncomputable def o27 := some 27
noncomputable def r27 := rt 27
noncomputable def o28 := some 28
noncomputable def r28 := rt 28
noncomputable def o29 := some 29
noncomputable def r29 := rt 29
noncomputable def o30 := some 30
noncomputable def r30 := rt 30
noncomputable def o31 := some 31
noncomputable def r31 := rt 31
noncomputable def o32 := some 32
noncomputable def r32 := rt 32
noncomputable def o33 := some 33
noncomputable def r33 := rt 33
noncomputable def o34 := some 34
noncomputable def r34 := rt 34
noncomputable def o35 := some 35
noncomputable def r35 := rt 35
noncomputable def o36 := some 36
noncomputable def r36 := rt 36
noncomputable def o37 := some 37
noncomputable def r37 := rt 37
noncomputable def o38 := some 38
noncomputable def r38 := rt 38
noncomputable def o39 := some 39
noncomputable def r39 := rt 39
noncomputable def o40 := some 40
noncomputable def r40 := rt 40
noncomputable def o41 := some 41
noncomputable def r41 := rt 41
noncomputable def o42 := some 42
noncomputable def r42 := rt 42
noncomputable def o43 := some 43
noncomputable def r43 := rt 43
noncomputable def o44 := some 44
noncomputable def r44 := rt 44
noncomputable def o45 := some 45
noncomputable def r45 := rt 45
noncomputable def o46 := some 46
noncomputable def r46 := rt 46
noncomputable def o47 := some 47
noncomputable def r47 := rt 47
noncomputable def o48 := some 48
noncomputable def r48 := rt 48
noncomputable def o49 := some 49
noncomputable def r49 := rt 49
noncomputable def o50 := some 50
noncomputable def r50 := rt 50
noncomputable def o51 := some 51
noncomputable def r51 := rt 51
noncomputable def o52 := some 52
noncomputable def r52 := rt 52
noncomputable def o53 := some 53
noncomputable def r53 := rt 53
noncomputable def o54 := some 54
noncomputable def r54 := rt 54
noncomputable def o55 := some 55
noncomputable def r55 := rt 55
noncomputable def o56 := some 56
noncomputable def r56 := rt 56
noncomputable def o57 := some 57
noncomputable def r57 := rt 57
noncomputable def o58 := some 58
noncomputable def r58 := rt 58
noncomputable def o59 := some 59
noncomputable def r59 := rt 59
noncomputable def o60 := some 60
noncomputable def r60 := rt 60
noncomputable def o61 := some 61
noncomputable def r61 := rt 61
noncomputable def o62 := some 62
noncomputable def r62 := rt 62
noncomputable def o63 := some 63
noncomputable def r63 := rt 63
noncomputable def o64 := some 64
noncomputable def r64 := rt 64
noncomputable def o65 := some 65
noncomputable def r65 := rt 65
noncomputable def o66 := some 66
noncomputable def r66 := rt 66
noncomputable def o67 := some 67
noncomputable def r67 := rt 67
noncomputable def o68 := some 68
noncomputable def r68 := rt 68
noncomputable def o69 := some 69
noncomputable def r69 := rt 69
noncomputable def o70 := some 70
noncomputable def r70 := rt 70
noncomputable def o71 := some 71
noncomputable def r71 := rt 71
noncomputable def o72 := some 72
noncomputable def r72 := rt 72
noncomputable def o73 := some 73
noncomputable def r73 := rt 73
noncomputable def o74 := some 74
noncomputable def r74 := rt 74
noncomputable def o75 := some 75
noncomputable def r75 := rt 75
noncomputable def o76 := some 76
noncomputable def r76 := rt 76
noncomputable def o77 := some 77
noncomputable def r77 := rt 77
noncomputable def o78 := some 78
noncomputable def r78 := rt 78
noncomputable def o79 := some 79
noncomputable def r79 := rt 79
noncomputable def o80 := some 80
noncomputable def r80 := rt 80
noncomputable def o81 := some 81
noncomputable def r81 := rt 81
noncomputable def o82 := some 82
noncomputable def r82 := rt 82
noncomputable def o83 := some 83
noncomputable def r83 := rt 83
noncomputable def o84 := some 84
noncomputable def r84 := rt 84
noncomputable def o85 := some 85
noncomputable def r85 := rt 85
noncomputable def o86 := some 86
noncomputable def r86 := rt 86
noncomputable def o87 := some 87
noncomputable def r87 := rt 87
noncomputable def o88 := some 88
noncomputable def r88 := rt 88
noncomputable def o89 := some 89
noncomputable def r89 := rt 89
noncomputable def o90 := some 90
noncomputable def r90 := rt 90
noncomputable def o91 := some 91
noncomputable def r91 := rt 91
noncomputable def o92 := some 92
noncomputable def r92 := rt 92
noncomputable def o93 := some 93
noncomputable def r93 := rt 93
noncomputable def o94 := some 94
noncomputable def r94 := rt 94
noncomputable def o95 := some 95
noncomputable def r95 := rt 95
noncomputable def o96 := some 96
noncomputable def r96 := rt 96
noncomputable def o97 := some 97
noncomputable def r97 := rt 97
noncomputable def o98 := some 98
noncomputable def r98 := rt 98
noncomputable def o99 := some 99
noncomputable def r99 := rt 99
noncomputable def o100 := some 100
noncomputable def r100 := rt 100
noncomputable def o101 := some 101
noncomputable def r101 := rt 101
noncomputable def o102 := some 102
noncomputable def r102 := rt 102
noncomputable def o103 := some 103
noncomputable def r103 := rt 103
noncomputable def o104 := some 104
noncomputable def r104 := rt 104
noncomputable def o105 := some 105
noncomputable def r105 := rt 105
noncomputable def o106 := some 106
noncomputable def r106 := rt 106
noncomputable def o107 := some 107
noncomputable def r107 := rt 107
noncomputable def o108 := some 108
noncomputable def r108 := rt 108
noncomputable def o109 := some 109
noncomputable def r109 := rt 109
noncomputable def o110 := some 110
noncomputable def r110 := rt 110
noncomputable def o111 := some 111
noncomputable def r111 := rt 111
noncomputable def o112 := some 112
noncomputable def r112 := rt 112
noncomputable def o113 := some 113
noncomputable def r113 := rt 113
noncomputable def o114 := some 114
noncomputable def r114 := rt 114
noncomputable def o115 := some 115
noncomputable def r115 := rt 115
noncomputable def o116 := some 116
noncomputable def r116 := rt 116
noncomputable def o117 := some 117
noncomputable def r117 := rt 117
noncomputable def o118 := some 118
noncomputable def r118 := rt 118
noncomputable def o119 := some 119
noncomputable def r119 := rt 119
noncomputable def o120 := some 120
noncomputable def r120 := rt 120
noncomputable def o121 := some 121
noncomputable def r121 := rt 121
noncomputable def o122 := some 122
noncomputable def r122 := rt 122
noncomputable def o123 := some 123
noncomputable def r123 := rt 123
noncomputable def o124 := some 124
noncomputable def r124 := rt 124
noncomputable def o125 := some 125
noncomputable def r125 := rt 125
noncomputable def o126 := some 126
noncomputable def r126 := rt 126
noncomputable def o127 := some 127
noncomputable def r127 := rt 127
noncomputable def o128 := some 128
noncomputable def r128 := rt 128
noncomputable def o129 := some 129
noncomputable def r129 := rt 129
noncomputable def o130 := some 130
noncomputable def r130 := rt 130
noncomputable def o131 := some 131
noncomputable def r131 := rt 131
noncomputable def o132 := some 132
noncomputable def r132 := rt 132
noncomputable def o133 := some 133
noncomputable def r133 := rt 133
noncomputable def o134 := some 134
noncomputable def r134 := rt 134
noncomputable def o135 := some 135
noncomputable def r135 := rt 135
noncomputable def o136 := some 136
noncomputable def r136 := rt 136
noncomputable def o137 := some 137
noncomputable def r137 := rt 137
noncomputable def o138 := some 138
noncomputable def r138 := rt 138
noncomputable def o139 := some 139
noncomputable def r139 := rt 139
noncomputable def o140 := some 140
noncomputable def r140 := rt 140
noncomputable def o141 := some 141
noncomputable def r141 := rt 141
noncomputable def o142 := some 142
noncomputable def r142 := rt 142
noncomputable def o143 := some 143
noncomputable def r143 := rt 143
noncomputable def o144 := some 144
noncomputable def r144 := rt 144
noncomputable def o145 := some 145
noncomputable def r145 := rt 145
noncomputable def o146 := some 146
noncomputable def r146 := rt 146
noncomputable def o147 := some 147
noncomputable def r147 := rt 147
noncomputable def o148 := some 148
noncomputable def r148 := rt 148
noncomputable def o149 := some 149
noncomputable def r149 := rt 149
noncomputable def o150 := some 150
noncomputable def r150 := rt 150
noncomputable def o151 := some 151
noncomputable def r151 := rt 151
noncomputable def o152 := some 152
noncomputable def r152 := rt 152
noncomputable def o153 := some 153
noncomputable def r153 := rt 153
noncomputable def o154 := some 154
noncomputable def r154 := rt 154
noncomputable def o155 := some 155
noncomputable def r155 := rt 155
noncomputable def o156 := some 156
noncomputable def r156 := rt 156
noncomputable def o157 := some 157
noncomputable def r157 := rt 157
noncomputable def o158 := some 158
noncomputable def r158 := rt 158
noncomputable def o159 := some 159
noncomputable def r159 := rt 159
noncomputable def o160 := some 160
noncomputable def r160 := rt 160
noncomputable def o161 := some 161
noncomputable def r161 := rt 161
noncomputable def o162 := some 162
noncomputable def r162 := rt 162
noncomputable def o163 := some 163
noncomputable def r163 := rt 163
noncomputable def o164 := some 164
noncomputable def r164 := rt 164
noncomputable def o165 := some 165
noncomputable def r165 := rt 165
noncomputable def o166 := some 166
noncomputable def r166 := rt 166
noncomputable def o167 := some 167
noncomputable def r167 := rt 167
noncomputable def o168 := some 168
noncomputable def r168 := rt 168
noncomputable def o169 := some 169
noncomputable def r169 := rt 169
noncomputable def o170 := some 170
noncomputable def r170 := rt 170
noncomputable def o171 := some 171
noncomputable def r171 := rt 171
noncomputable def o172 := some 172
noncomputable def r172 := rt 172
noncomputable def o173 := some 173
noncomputable def r173 := rt 173
noncomputable def o174 := some 174
noncomputable def r174 := rt 174
noncomputable def o175 := some 175
noncomputable def r175 := rt 175
noncomputable def o176 := some 176
noncomputable def r176 := rt 176
noncomputable def o177 := some 177
noncomputable def r177 := rt 177
noncomputable def o178 := some 178
noncomputable def r178 := rt 178
noncomputable def o179 := some 179
noncomputable def r179 := rt 179
noncomputable def o180 := some 180
noncomputable def r180 := rt 180
noncomputable def o181 := some 181
noncomputable def r181 := rt 181
noncomputable def o182 := some 182
noncomputable def r182 := rt 182
noncomputable def o183 := some 183
noncomputable def r183 := rt 183
noncomputable def o184 := some 184
noncomputable def r184 := rt 184
noncomputable def o185 := some 185
noncomputable def r185 := rt 185
noncomputable def o186 := some 186
noncomputable def r186 := rt 186
noncomputable def o187 := some 187
noncomputable def r187 := rt 187
noncomputable def o188 := some 188
noncomputable def r188 := rt 188
noncomputable def o189 := some 189
noncomputable def r189 := rt 189
noncomputable def o190 := some 190
noncomputable def r190 := rt 190
noncomputable def o191 := some 191
noncomputable def r191 := rt 191
noncomputable def o192 := some 192
noncomputable def r192 := rt 192
noncomputable def o193 := some 193
noncomputable def r193 := rt 193
noncomputable def o194 := some 194
noncomputable def r194 := rt 194
noncomputable def o195 := some 195
noncomputable def r195 := rt 195
noncomputable def o196 := some 196
noncomputable def r196 := rt 196
noncomputable def o197 := some 197
noncomputable def r197 := rt 197
noncomputable def o198 := some 198
noncomputable def r198 := rt 198
noncomputable def o199 := some 199
noncomputable def r199 := rt 199
noncomputable def o200 := some 200
noncomputable def r200 := rt 200
noncomputable def o201 := some 201
noncomputable def r201 := rt 201
noncomputable def o202 := some 202
noncomputable def r202 := rt 202
noncomputable def o203 := some 203
noncomputable def r203 := rt 203
noncomputable def o204 := some 204
noncomputable def r204 := rt 204
noncomputable def o205 := some 205
noncomputable def r205 := rt 205
noncomputable def o206 := some 206
noncomputable def r206 := rt 206
noncomputable def o207 := some 207
noncomputable def r207 := rt 207
noncomputable def o208 := some 208
noncomputable def r208 := rt 208
noncomputable def o209 := some 209
noncomputable def o210 := some 210
noncomputable def o211 := some 211
noncomputable def o212 := some 212
noncomputable def o213 := some 213
noncomputable def o214 := some 214
noncomputable def o215 := some 215
noncomputable def o216 := some 216
noncomputable def o217 := some 217
noncomputable def o218 := some 218
noncomputable def o219 := some 219
noncomputable def o220 := some 220
noncomputable def o221 := some 221
noncomputable def o222 := some 222
noncomputable def o223 := some 223
noncomputable def r223 := rt 223
noncomputable def o224 := some 224
noncomputable def r224 := rt 224
noncomputable def o225 := some 225
noncomputable def r225 := rt 225
noncomputable def o226 := some 226
noncomputable def r226 := rt 226
noncomputable def o227 := some 227
noncomputable def r227 := rt 227
noncomputable def o228 := some 228
noncomputable def r228 := rt 228
noncomputable def o229 := some 229
noncomputable def r229 := rt 229
noncomputable def o230 := some 230
noncomputable def r230 := rt 230
noncomputable def o231 := some 231
noncomputable def r231 := rt 231
noncomputable def o232 := some 232
noncomputable def r232 := rt 232
noncomputable def o233 := some 233
noncomputable def r233 := rt 233
noncomputable def o234 := some 234
noncomputable def r234 := rt 234
noncomputable def o235 := some 235
noncomputable def r235 := rt 235
noncomputable def o236 := some 236
noncomputable def o237 := some 237
noncomputable def o238 := some 238
noncomputable def o239 := some 239
noncomputable def o240 := some 240
noncomputable def o241 := some 241
noncomputable def o242 := some 242
noncomputable def o243 := some 243
noncomputable def o244 := some 244
noncomputable def o245 := some 245
noncomputable def o246 := some 246
noncomputable def o247 := some 247
noncomputable def o248 := some 248
noncomputable def o249 := some 249
noncomputable def o250 := some 250
noncomputable def r250 := rt 250
noncomputable def o251 := some 251
noncomputable def r251 := rt 251
noncomputable def o252 := some 252
noncomputable def r252 := rt 252
noncomputable def o253 := some 253
noncomputable def r253 := rt 253
noncomputable def o254 := some 254
noncomputable def r254 := rt 254
noncomputable def o255 := some 255
noncomputable def o256 := some 256
noncomputable def o257 := some 257
noncomputable def o258 := some 258
noncomputable def o259 := some 259
noncomputable def o260 := some 260
noncomputable def o261 := some 261
noncomputable def o262 := some 262
noncomputable def o263 := some 263
noncomputable def o264 := some 264
noncomputable def o265 := some 265
noncomputable def o266 := some 266
noncomputable def o267 := some 267
noncomputable def o268 := some 268
noncomputable def o269 := some 269
noncomputable def o270 := some 270
noncomputable def o271 := some 271
noncomputable def o272 := some 272
noncomputable def o273 := some 273
noncomputable def r273 := rt 273
noncomputable def o274 := some 274
noncomputable def r274 := rt 274
noncomputable def o275 := some 275
noncomputable def r275 := rt 275
noncomputable def o276 := some 276
noncomputable def r276 := rt 276
noncomputable def o277 := some 277
noncomputable def r277 := rt 277
noncomputable def o278 := some 278
noncomputable def r278 := rt 278
noncomputable def o279 := some 279
noncomputable def r279 := rt 279
noncomputable def o280 := some 280
noncomputable def r280 := rt 280
noncomputable def o281 := some 281
noncomputable def r281 := rt 281
noncomputable def o282 := some 282
noncomputable def r282 := rt 282
noncomputable def o283 := some 283
noncomputable def r283 := rt 283
noncomputable def o284 := some 284
noncomputable def r284 := rt 284
noncomputable def o285 := some 285
noncomputable def r285 := rt 285
noncomputable def o286 := some 286
noncomputable def o287 := some 287
noncomputable def r287 := rt 287
noncomputable def o288 := some 288
noncomputable def r288 := rt 288
noncomputable def o289 := some 289
noncomputable def r289 := rt 289
noncomputable def o290 := some 290
noncomputable def r290 := rt 290
noncomputable def o291 := some 291
noncomputable def r291 := rt 291
noncomputable def o292 := some 292
noncomputable def r292 := rt 292
noncomputable def o293 := some 293
noncomputable def r293 := rt 293
noncomputable def o294 := some 294
noncomputable def r294 := rt 294
noncomputable def o295 := some 295
noncomputable def o296 := some 296
noncomputable def r296 := rt 296
end Go.Proofs.YtelnkadnphephaaGreatDoor.T
end
noncomputable section
namespace Go.Proofs.YtelnkadnphephaaGreatDoor.T
open Go Go.Abs
noncomputable def C6 : CFn := ⟨30, [.t 0], fun P Γ call yl qs L => mR [qMv o0 rF] (mR [qCall call yl o6 (rcf 8) [(rc (.s (bs [49, 33, 71, 59, 104, 59, 36, 33, 100]))), (rc (.s (bs [97, 10, 98, 10, 99]))), rF], qMv o5 r6, qGen Γ o7 fun g n e => q_ext e (.t 5) 0, qGen Γ o8 fun g n e => q_ext e (.t 5) 1, qMv o1 r7, qMv o2 r8] (mR [qCall call yl o10 (rcf 8) [(rc (.s (bs [58, 97, 59, 78, 59, 36, 33, 98, 97, 59, 115, 47, 92, 110, 47, 44, 47, 103]))), (rc (.s (bs [97, 10, 98, 10, 99]))), rF], qMv o9 r10, qGen Γ o11 fun g n e => q_ext e (.t 9) 0, qGen Γ o12 fun g n e => q_ext e (.t 9) 1, qMv o3 r11, qMv o4 r12] (mR [qMv o13 r2, qMv o14 r13, qG 14 true o15 (qMv o15 r1), qG 14 true o16 (qBin o16 biEql (bsOf .eql) r15 (rc (.s (bs [99, 10, 98, 10, 97])))), qPick o17 r14 r16 rF, qMv o18 r17, qG 18 true o19 (qMv o19 r4), qPick o20 r18 r19 rF, qMv o21 r20, qG 21 true o22 (qMv o22 r3), qG 21 true o23 (qBin o23 biEql (bsOf .eql) r22 (rc (.s (bs [97, 44, 98, 44, 99])))), qPick o24 r21 r23 rF, qMv o25 r24, qG 25 true o26 (qGen Γ o26 fun g n e => q_build e [.nils, .nils] []), qG 25 true o27 (qCall call yl o27 (rcf 24) [r26]), qG 25 true o28 (qBin o28 biEql (bsOf .eql) r27 (rN 0)), qPick o29 r25 r28 rF, qMv o0 r29] (mRet))))⟩
theorem C6_eq : xq Tryz.f6 = some C6 := by kernel_rfl
theorem C6_wf : xw Tryz.f6 = some true := by kernel_rfl
noncomputable def C7 : CFn := ⟨23, [.t 2], fun P Γ call yl qs L => mR [qMv o2 (rc .nils)] (mR [qMv o3 (rc .nils)] (mSeq (mBlock 0 (mLoop L (mSeq (mR [qMv o7 r0, qBin o8 biNeq (bsOf .neq) r7 (rc (.s (bs [])))] (mCond r8 (mSkip) (mExit 0))) (mBlock 1 (mR [qMv o10 r0, qCall call yl o11 (rcf 25) [r10, (rc (.s (bs [10])))], qMv o9 r11, qGen Γ o12 fun g n e => q_ext e (.t 9) 0, qGen Γ o13 fun g n e => q_ext e (.t 9) 1, qGen Γ o14 fun g n e => q_ext e (.t 9) 2, qMv o4 r12, qMv o5 r13, qMv o6 r14] (mR [qMv o15 r3, qMv o16 r4, qMv o17 r6, qGen Γ o18 fun g n e => q_build e [(.s (bs [])), (.b false)] [(0, 1, (.t 16)), (1, 1, (.t 17))], qGen Γ o19 fun g n e => q_bslice n e 2 [(.s (bs [])), (.b false)] [(0, 2, (.t 18))] 1, qGen Γ o20 fun g n e => q_app g n e 2 24 0 (.t 15) (.t 19), qMv o3 r20] (mO [qMv o21 r5, qMv o0 r21]))))))) (mR [qMv o22 r3, qMv o2 r22] (mRet))))⟩
theorem C7_eq : xq Tryz.f7 = some C7 := by kernel_rfl
theorem C7_wf : xw Tryz.f7 = some true := by kernel_rfl
noncomputable def C8 : CFn := ⟨45, [.t 6, .t 7], fun P Γ call yl qs L => mR [qMv o6 (rc (.s (bs []))), qMv o7 rF] (mR [qMv o13 r0, qCall call yl o14 (rcf 26) [r13], qMv o12 r14, qGen Γ o15 fun g n e => q_ext e (.t 12) 0, qGen Γ o16 fun g n e => q_ext e (.t 12) 1, qAlloc o8 [.nils, (.b false), .nils] 0, qSt none 3 r8 r15, qMv o9 r16] (mSeq (mR [qMv o17 r9, qGen Γ o18 fun g n e => q_un e .not (.t 17)] (mCond r18 (mR [qMv o6 (rc (.s (bs []))), qMv o7 rF] (mRet)) (mSkip))) (mR [qLdA o20 3 r8, qMv o21 r2, qGen Γ o22 fun g n e => q_build e [(.b false), (.b false), (.b false), (.b false), (.s (bs []))] [(0, 1, (.t 21))], qMv o23 r1, qGen Γ o24 fun g n e => q_build e [(.s (bs [])), (.s (bs [])), (.b false)] [(0, 1, (.c (.s (bs [45])))), (1, 1, (.t 23))], qGen Γ o25 fun g n e => q_bslice n e 3 [(.s (bs [])), (.s (bs [])), (.b false)] [(0, 3, (.t 24))] 1, qGen Γ o26 fun g n e => q_build e [.nils, .nils] [(0, 1, (.t 25))], qCall call yl o27 (rcf 27) [r20, r22, r26, (rN 1073741824)], qMv o19 r27, qGen Γ o28 fun g n e => q_ext e (.t 19) 0, qGen Γ o29 fun g n e => q_ext e (.t 19) 1, qAlloc o10 [.nils, (iN 0), (iN 0), (iN 0), (iN 0), (.i .u8 (.ofNat 0))] 0, qSt none 6 r10 r28, qMv o11 r29] (mSeq (mDraw Γ call [⟨o30, .faddr 0 (.t 10), none⟩, ⟨o31, .ld false 1 (.t 30), none⟩, ⟨o32, .call (.f 9) [(.t 31), (.c (.i .u8 (.ofNat 1))), (.c (.s (bs [])))], none⟩, ⟨o33, .mv (.t 11), none⟩, ⟨o34, .bin .eql (.t 33) (.c (iN 0)), none⟩, ⟨o35, .mv (.t 34), none⟩, ⟨o36, .faddr 5 (.t 10), some (35, true)⟩, ⟨o37, .ld false 1 (.t 36), some (35, true)⟩, ⟨o38, .bin .eql (.t 37) (.c (.i .u8 (.ofNat 0))), some (35, true)⟩, ⟨o39, .pick (.t 35) (.t 38) (.c (.b false)), none⟩, ⟨o40, .mv (.t 39), none⟩, ⟨o41, .faddr 1 (.t 10), some (40, true)⟩, ⟨o42, .ld false 1 (.t 41), some (40, true)⟩, ⟨o43, .bin .eql (.t 42) (.c (iN 0)), some (40, true)⟩, ⟨o44, .pick (.t 40) (.t 43) (.c (.b false)), none⟩, ⟨o6, .mv (.t 32), none⟩, ⟨o7, .mv (.t 44), none⟩] [⟨[], 0, 0⟩, ⟨[0], 0, 0⟩, ⟨[1, 0], 0, 0⟩, ⟨[], 0, 1⟩, ⟨[3], 0, 1⟩, ⟨[4, 2, 3, 1, 0], 1, 1⟩, ⟨[5, 4, 2, 3, 1, 0], 1, 1⟩, ⟨[6, 5, 4, 2, 3, 1, 0], 1, 1⟩, ⟨[7, 5, 6, 4, 2, 3, 1, 0], 1, 1⟩, ⟨[5, 8, 4, 2, 3, 1, 0, 7, 6], 1, 1⟩, ⟨[9, 5, 8, 4, 2, 3, 1, 0, 7, 6], 1, 1⟩, ⟨[10, 9, 5, 8, 4, 2, 3, 1, 0, 7, 6], 1, 1⟩, ⟨[11, 10, 9, 5, 8, 4, 2, 3, 1, 0, 7, 6], 1, 1⟩, ⟨[12, 10, 11, 9, 5, 8, 4, 2, 3, 1, 0, 7, 6], 1, 1⟩, ⟨[10, 13, 9, 5, 8, 4, 2, 3, 1, 0, 7, 6, 12, 11], 1, 1⟩, ⟨[2, 10, 0, 1, 9, 5, 8, 4, 3, 7, 6], 1, 1⟩, ⟨[14, 15, 0, 1, 2, 3, 4, 5, 6, 7, 8, 9, 10, 11, 12, 13], 1, 1⟩]) (mRet)))))⟩
theorem C8_eq : xq Tryz.f8 = some C8 := by kernel_rfl
theorem C8_wf : xw Tryz.f8 = some true := by kernel_rfl
noncomputable def C9 : CFn := ⟨31, [.t 6], fun P Γ call yl qs L => mR [qMv o6 (rc (.s (bs [])))] (mR [qAlloc o7 [.nilp, .nils] 148] (mSeq (mR [qMv o10 r0, qGen Γ o11 fun g n e => q_lenL e (.t 10), qMv o12 (rN 0)] (mBlock 0 (mLoop L (mR [qBin o13 biLss (bsOf .lss) r12 r11] (mSeq (mCond r13 (mSkip) (mExit 0)) (mSeq (mBlock 1 (mR [qGen Γ o14 fun g n e => q_iaddr e 3 (.t 10) (.t 12), qLdA o15 3 r14, qAlloc o9 [(.i .u8 (.ofNat 0)), (.s (bs [])), (.s (bs []))] 0, qSt none 3 r9 r15] (mR [qFaddr o16 0 r9, qLd1 o17 r16, qMv o18 r1, qBin o19 biEql (bsOf .eql) r17 r18, qMv o20 r19, qG 20 true o21 (qFaddr o21 1 r9), qG 20 true o22 (qLd1 o22 r21), qG 20 true o23 (qMv o23 r2), qG 20 true o24 (qBin o24 biEql (bsOf .eql) r22 r23), qPick o25 r20 r24 rF] (mCond r25 (mO [qFaddr o26 2 r9, qLd1 o27 r26, qCall call yl o28 (rcf 28) [r7, r27]]) (mSkip))))) (mO [qBin o29 biAdd (bsOf .add) r12 (rN 1), qMv o12 r29]))))))) (mR [qCall call yl o30 (rcf 29) [r7], qMv o6 r30] (mRet))))⟩
theorem C9_eq : xq Tryz.f9 = some C9 := by kernel_rfl
theorem C9_wf : xw Tryz.f9 = some true := by kernel_rfl
noncomputable def C24 : CFn := ⟨79, [.t 2], fun P Γ call yl qs L => mR [qBox o1 r0, qMv o2 (rN 0)] (mR [qGen Γ o11 fun g n e => q_mkmap n , qMv o3 r11] (mR [qFaddr o12 0 r1, qLd1 o13 r12, qGen Γ o14 fun g n e => q_lenL e (.t 13), qBin o15 biLeq (bsOf .leq) r14 (rN 1024), qMv o16 r15, qG 16 true o17 (qFaddr o17 1 r1), qG 16 true o18 (qLd1 o18 r17), qG 16 true o19 (qGen Γ o19 fun g n e => q_lenL e (.t 18)), qG 16 true o20 (qBin o20 biLeq (bsOf .leq) r19 (rN 1024)), qPick o21 r16 r20 rF, qMv o4 r21] (mSeq (mR [qFaddr o22 1 r1, qLd1 o23 r22, qGen Γ o24 fun g n e => q_lenL e (.t 23), qMv o25 (rN 0)] (mBlock 0 (mLoop L (mR [qBin o26 biLss (bsOf .lss) r25 r24] (mSeq (mCond r26 (mSkip) (mExit 0)) (mSeq (mBlock 1 (mR [qGen Γ o27 fun g n e => q_iaddr e 3 (.t 23) (.t 25), qLdA o28 3 r27, qAlloc o6 [(.s (bs [])), (.s (bs [])), (.b false)] 0, qSt none 3 r6 r28] (mR [qMv o29 r3, qFaddr o30 0 r6, qLd1 o31 r30, qGen Γ o32 fun g n e => q_look g e (.leaf .s) (iN 0) false (.t 29) (.t 31), qBin o33 biAdd (bsOf .add) r32 (rN 1), qGen Γ none fun g n e => q_mupd g e (.leaf .s) (.t 29) (.t 31) (.t 33)] (mO [qMv o34 r4, qMv o35 r34, qG 35 true o36 (qMv o36 r3), qG 35 true o37 (qFaddr o37 0 r6), qG 35 true o38 (qLd1 o38 r37), qG 35 true o39 (qGen Γ o39 fun g n e => q_look g e (.leaf .s) (iN 0) false (.t 36) (.t 38)), qG 35 true o40 (qBin o40 biEql (bsOf .eql) r39 (rN 1)), qPick o41 r35 r40 rF, qMv o4 r41])))) (mO [qBin o42 biAdd (bsOf .add) r25 (rN 1), qMv o25 r42]))))))) (mSeq (mR [qFaddr o43 0 r1, qLd1 o44 r43, qFaddr o45 1 r1, qLd1 o46 r45, qGen Γ o47 fun g n e => q_bslice n e 1 [.nils, .nils] [(0, 1, (.t 44)), (1, 1, (.t 46))] 2, qGen Γ o48 fun g n e => q_lenL e (.t 47), qMv o49 (rN 0)] (mBlock 2 (mLoop L (mR [qBin o50 biLss (bsOf .lss) r49 r48] (mSeq (mCond r50 (mSkip) (mExit 2)) (mSeq (mBlock 3 (mR [qGen Γ o51 fun g n e => q_iaddr e 1 (.t 47) (.t 49), qLd1 o52 r51, qMv o8 r52] (mR [qMv o53 r8, qGen Γ o54 fun g n e => q_lenL e (.t 53), qMv o55 (rN 0)] (mBlock 4 (mLoop L (mR [qBin o56 biLss (bsOf .lss) r55 r54] (mSeq (mCond r56 (mSkip) (mExit 4)) (mSeq (mBlock 5 (mR [qGen Γ o57 fun g n e => q_iaddr e 3 (.t 53) (.t 55), qLdA o58 3 r57, qAlloc o10 [(.s (bs [])), (.s (bs [])), (.b false)] 0, qSt none 3 r10 r58] (mO [qMv o59 r4, qMv o60 r59, qG 60 true o61 (qFaddr o61 0 r10), qG 60 true o62 (qLd1 o62 r61), qG 60 true o63 (qBin o63 biNeq (bsOf .neq) r62 (rc (.s (bs [])))), qPick o64 r60 r63 rF, qMv o65 r64, qG 65 true o66 (qFaddr o66 2 r10), qG 65 true o67 (qLd1 o67 r66), qG 65 true o68 (qGen Γ o68 fun g n e => q_un e .not (.t 67)), qG 65 true o69 (qMv o69 r68), qG 69 false o70 (qFaddr o70 1 r10), qG 69 false o71 (qLd1 o71 r70), qG 69 false o72 (qBin o72 biEql (bsOf .eql) r71 (rc (.s (bs [])))), qG 65 true o73 (qPick o73 r69 rT r72), qPick o74 r65 r73 rF, qMv o4 r74]))) (mO [qBin o75 biAdd (bsOf .add) r55 (rN 1), qMv o55 r75]))))))))) (mO [qBin o76 biAdd (bsOf .add) r49 (rN 1), qMv o49 r76]))))))) (mSeq (mR [qMv o77 r4, qGen Γ o78 fun g n e => q_un e .not (.t 77)] (mCond r78 (mR [qMv o2 (rN 190)] (mRet)) (mSkip))) (mR [qMv o2 (rN 0)] (mRet)))))))⟩
theorem C24_eq : xq Tryz.f24 = some C24 := by kernel_rfl
theorem C24_wf : xw Tryz.f24 = some true := by kernel_rfl
noncomputable def C25 : CFn := ⟨13, [.t 4, .t 5, .t 6], fun P Γ call yl qs L => mR [qMv o4 (rc (.s (bs []))), qMv o5 (rc (.s (bs []))), qMv o6 rF] (mR [qMv o7 r0, qMv o8 r1, qCall call yl o9 (rcf 40) [r7, r8], qGen Γ o10 fun g n e => q_ext e (.t 9) 0, qGen Γ o11 fun g n e => q_ext e (.t 9) 1, qGen Γ o12 fun g n e => q_ext e (.t 9) 2, qMv o4 r10, qMv o5 r11, qMv o6 r12] (mRet))⟩
theorem C25_eq : xq Tryz.f25 = some C25 := by kernel_rfl
theorem C25_wf : xw Tryz.f25 = some true := by kernel_rfl
noncomputable def C26 : CFn := ⟨29, [.cell 2 true 3, .t 3], fun P Γ call yl qs L => mR [qAlloc o2 [.nils, (.b false), .nils] 0, qMv o3 rF] (mR [qMv o11 r0, qCall call yl o12 (rcf 30) [r11, rF], qMv o10 r12, qGen Γ o13 fun g n e => q_ext e (.t 10) 0, qGen Γ o14 fun g n e => q_ext e (.t 10) 1, qGen Γ o15 fun g n e => q_ext e (.t 10) 2, qAlloc o4 [.nils, (.b false), (.b false)] 0, qAlloc o6 [(iN 0), (iN 0)] 0, qSt none 3 r4 r13, qMv o5 r14, qSt none 2 r6 r15] (mR [qLdA o17 3 r4, qCall call yl o18 (rcf 31) [r17], qMv o16 r18, qGen Γ o19 fun g n e => q_ext e (.t 16) 0, qGen Γ o20 fun g n e => q_ext e (.t 16) 1, qGen Γ o21 fun g n e => q_ext e (.t 16) 2, qAlloc o7 [.nils, (.b false), .nils] 0, qSt none 3 r7 r19, qMv o8 r20, qMv o9 r21] (mR [qLdA o22 3 r7, qMv o23 r5, qBin o24 biEql (bsOf .eql) r23 (rN 0), qMv o25 r24, qG 25 true o26 (qMv o26 r8), qG 25 true o27 (qBin o27 biEql (bsOf .eql) r26 (rN 0)), qPick o28 r25 r27 rF, qSt none 3 r2 r22, qMv o3 r28] (mRet))))⟩
theorem C26_eq : xq Tryz.f26 = some C26 := by kernel_rfl
theorem C26_wf : xw Tryz.f26 = some true := by kernel_rfl
noncomputable def C27 : CFn := ⟨48, [.cell 8 true 6, .t 9], fun P Γ call yl qs L => mR [qBox o4 r0, qBox o5 r1, qBox o6 r2, qAlloc o8 [.nils, (iN 0), (iN 0), (iN 0), (iN 0), (.i .u8 (.ofNat 0))] 0, qMv o9 (rN 0)] (mSeq (mR [qLdA o12 3 r4, qLdA o13 2 r6, qMv o14 r3, qCall call yl o15 (rcf 41) [r12, r13, r14], qMv o10 r15] (mR [qMv o16 r10, qBin o17 biNeq (bsOf .neq) r16 (rN 0)] (mCond r17 (mR [qGen Γ o18 fun g n e => q_build e [.nils, (iN 0), (iN 0), (iN 0), (iN 0), (.i .u8 (.ofNat 0))] [], qMv o19 r10, qSt none 6 r8 r18, qMv o9 r19] (mRet)) (mSkip)))) (mR [qLdA o20 3 r4, qLdA o21 5 r5, qLdA o22 2 r6, qCall call yl o23 (rcf 42) [r20, r21, r22], qMv o11 r23] (mR [qMv o24 r11, qCall call yl o25 (rcf 43) [r24]] (mSeq (mBlock 0 (mLoop L (mSeq (mR [qMv o26 r11, qNil o27 r26, qFaddr o28 45 r27, qLd1 o29 r28, qGen Γ o30 fun g n e => q_un e .not (.t 29)] (mCond r30 (mSkip) (mExit 0))) (mBlock 1 (mSeq (mR [qMv o31 r11, qNil o32 r31, qFaddr o33 35 r32, qFaddr o34 2 r33, qLd1 o35 r34, qMv o36 r3, qBin o37 biEql (bsOf .eql) r35 r36] (mCond r37 (mR [qMv o38 r11, qCall call yl o39 (rcf 44) [r38, (rc (.i .u8 (.ofNat 3))), (rN 0)]] (mExit 0)) (mSkip))) (mR [qMv o40 r11, qCall call yl o41 (rcf 45) [r40]] (mO [qMv o42 r11, qCall call yl o43 (rcf 43) [r42]]))))))) (mR [qMv o44 r11, qNil o45 r44, qFaddr o46 35 r45, qLdA o47 6 r46, qSt none 6 r8 r47, qMv o9 (rN 0)] (mRet))))))⟩
theorem C27_eq : xq Tryz.f27 = some C27 := by kernel_rfl
theorem C27_wf : xw Tryz.f27 = some true := by kernel_rfl
noncomputable def C28 : CFn := ⟨19, [.t 4, .t 5], fun P Γ call yl qs L => mR [qMv o4 (rN 0), qMv o5 (rc .nili)] (mR [qMv o6 r0, qCall call yl o7 (rcf 46) [r6]] (mR [qMv o8 r0, qMv o9 r0, qNil o10 r9, qFaddr o11 1 r10, qLd1 o12 r11, qMv o13 r1, qGen Γ o14 fun g n e => q_appS g n e 13 (.t 12) (.t 13), qNil o15 r8, qFaddr o16 1 r15, qSt none 1 r16 r14] (mR [qMv o17 r1, qGen Γ o18 fun g n e => q_lenS e (.t 17), qMv o4 r18, qMv o5 (rc .nili)] (mRet))))⟩
theorem C28_eq : xq Tryz.f28 = some C28 := by kernel_rfl
theorem C28_wf : xw Tryz.f28 = some true := by kernel_rfl
noncomputable def C30 : CFn := ⟨90, [.cell 4 true 3, .cell 5 false 1, .cell 6 true 2], fun P Γ call yl qs L => mR [qAlloc o4 [.nils, (.b false), (.b false)] 0, qAlloc o5 [(iN 0)] 0, qAlloc o6 [(iN 0), (iN 0)] 0] (mSeq (mR [qMv o11 r0, qGen Γ o12 fun g n e => q_lenS e (.t 11), qBin o13 biGtr (bsOf .gtr) r12 (rN 65536)] (mCond r13 (mR [qGen Γ o14 fun g n e => q_build e [.nils, (.b false), (.b false)] [], qGen Γ o15 fun g n e => q_build e [(iN 0), (iN 0)] [], qSt none 3 r4 r14, qSt none 1 r5 (rN 4), qSt none 2 r6 r15] (mRet)) (mSkip))) (mR [qGen Γ o16 fun g n e => q_mkfn e (.func 47) [] [(.t 4), (.t 5), (.t 6)], qDefer qs none r16] (mR [qMv o17 r0, qMv o18 r1, qCall call yl o19 (rcf 48) [], qGen Γ o20 fun g n e => q_build e [(.s (bs [])), (iN 0), (.b false), .nils, (iN 0), .nilm] [(0, 1, (.t 17)), (2, 1, (.t 18)), (5, 1, (.t 19))], qBox o21 r20, qMv o7 r21] (mSeq (mBlock 0 (mLoop L (mSeq (mR [qMv o22 r7, qNil o23 r22, qFaddr o24 1 r23, qLd1 o25 r24, qMv o26 r0, qGen Γ o27 fun g n e => q_lenS e (.t 26), qBin o28 biLss (bsOf .lss) r25 r27] (mCond r28 (mSkip) (mExit 0))) (mBlock 1 (mR [qMv o29 r7, qCall call yl o30 (rcf 49) [r29], qMv o8 r30] (mBlock 2 (mR [qMv o34 r8, qCall call yl o35 (rcf 50) [r34], qMv o36 r35, qG 36 false o37 (qMv o37 r8), qG 36 false o38 (qBin o38 biEql (bsOf .eql) r37 (rN 10)), qPick o39 r36 rT r38, qMv o40 r39, qG 40 false o41 (qMv o41 r8), qG 40 false o42 (qBin o42 biEql (bsOf .eql) r41 (rN 59)), qPick o43 r40 rT r42, qMv o33 r43] (mCond r33 (mO [qMv o44 r7, qNil o45 r44, qFaddr o46 1 r45, qLd1 o47 r46, qBin o48 biAdd (bsOf .add) r47 (rN 1), qNil o49 r44, qFaddr o50 1 r49, qSt none 1 r50 r48]) (mR [qMv o52 r8, qBin o53 biEql (bsOf .eql) r52 (rN 35), qMv o51 r53] (mCond r51 (mO [qMv o54 r7, qCall call yl o55 (rcf 51) [r54, (rc (.s (bs [])))]]) (mO [qMv o31 r7, qCall call yl o32 (rcf 52) [r31]]))))))))))) (mSeq (mR [qMv o57 r7, qNil o58 r57, qFaddr o59 3 r58, qLd1 o60 r59, qCall call yl o61 (rcf 53) [r60], qMv o56 r61, qGen Γ o62 fun g n e => q_ext e (.t 56) 0, qGen Γ o63 fun g n e => q_ext e (.t 56) 1, qMv o9 r62, qMv o10 r63] (mR [qMv o64 r9, qBin o65 biGtr (bsOf .gtr) r64 (rN 0)] (mCond r65 (mO [qMv o66 r7, qMv o67 r9, qMv o68 r7, qNil o69 r68, qFaddr o70 3 r69, qLd1 o71 r70, qMv o72 r10, qGen Γ o73 fun g n e => q_iaddr e 54 (.t 71) (.t 72), qFaddr o74 0 r73, qLd1 o75 r74, qCall call yl o76 (rcf 54) [r66, r67, r75]]) (mSkip)))) (mSeq (mDraw Γ call [⟨o77, .mv (.t 7), none⟩, ⟨o78, .nilchk (.t 77), none⟩, ⟨o79, .faddr 3 (.t 78), none⟩, ⟨o80, .ld false 1 (.t 79), none⟩, ⟨o81, .mv (.t 0), none⟩, ⟨o82, .bin .eql (.t 81) (.c (.s (bs [35, 110]))), none⟩, ⟨o83, .mv (.t 82), none⟩, ⟨o84, .mv (.t 0), some (83, false)⟩, ⟨o85, .call (.f 55) [(.t 84), (.c (.s (bs [35, 110, 10])))], some (83, false)⟩, ⟨o86, .pick (.t 83) (.c (.b true)) (.t 85), none⟩, ⟨o87, .mv (.t 1), none⟩, ⟨o88, .build [.nils, (.b false), (.b false)] [(0, 1, (.t 80)), (1, 1, (.t 86)), (2, 1, (.t 87))], none⟩, ⟨o89, .build [(iN 0), (iN 0)] [], none⟩, ⟨none, .st 3 (.t 4) (.t 88), none⟩, ⟨none, .st 1 (.t 5) (.c (iN 0)), none⟩, ⟨none, .st 2 (.t 6) (.t 89), none⟩] [⟨[], 0, 1⟩, ⟨[0], 0, 1⟩, ⟨[1, 0], 0, 1⟩, ⟨[2, 1, 0], 0, 1⟩, ⟨[], 0, 0⟩, ⟨[4], 0, 0⟩, ⟨[5, 4], 0, 0⟩, ⟨[6, 5, 4], 0, 0⟩, ⟨[7, 6, 5, 4], 0, 0⟩, ⟨[6, 8, 5, 4, 7], 1, 1⟩, ⟨[], 0, 1⟩, ⟨[3, 9, 10, 2, 1, 0, 6, 8, 5, 4, 7], 1, 1⟩, ⟨[], 0, 3⟩, ⟨[11, 8, 0, 1, 2, 3, 4, 5, 6, 7, 9, 10], 1, 1⟩, ⟨[13, 0, 1, 2, 3, 4, 5, 6, 7, 8, 9, 10, 11], 2, 2⟩, ⟨[12, 14, 0, 1, 2, 3, 4, 5, 6, 7, 8, 9, 10, 11, 13], 3, 3⟩]) (mRet)))))))⟩
theorem C30_eq : xq Tryz.f30 = some C30 := by kernel_rfl
theorem C30_wf : xw Tryz.f30 = some true := by kernel_rfl
noncomputable def C31 : CFn := ⟨19, [.cell 2 true 3, .t 3, .t 4], fun P Γ call yl qs L => mR [qBox o1 r0, qAlloc o2 [.nils, (.b false), .nils] 0, qMv o3 (rN 0), qMv o4 (rN 0)] (mSeq (mR [qLdA o8 3 r1, qCall call yl o9 (rcf 56) [r8], qMv o7 r9, qGen Γ o10 fun g n e => q_ext e (.t 7) 0, qGen Γ o11 fun g n e => q_ext e (.t 7) 1, qMv o5 r10, qMv o6 r11] (mR [qMv o12 r5, qBin o13 biNeq (bsOf .neq) r12 (rN 0)] (mCond r13 (mR [qGen Γ o14 fun g n e => q_build e [.nils, (.b false), .nils] [], qMv o15 r5, qMv o16 r6, qSt none 3 r2 r14, qMv o3 r15, qMv o4 r16] (mRet)) (mSkip)))) (mR [qLdA o17 3 r1, qCall call yl o18 (rcf 57) [r17], qSt none 3 r2 r18, qMv o3 (rN 0), qMv o4 (rN 0)] (mRet)))⟩
theorem C31_eq : xq Tryz.f31 = some C31 := by kernel_rfl
theorem C31_wf : xw Tryz.f31 = some true := by kernel_rfl
noncomputable def C35 : CFn := ⟨5, [.t 2], fun P Γ call yl qs L => mR [qMv o2 (rc (.s (bs [])))] (mR [qMv o3 r0, qCall call yl o4 (rcf 62) [r3], qMv o2 r4] (mRet))⟩
theorem C35_eq : xq Tryz.f35 = some C35 := by kernel_rfl
theorem C35_wf : xw Tryz.f35 = some true := by kernel_rfl
noncomputable def C40 : CFn := ⟨23, [.t 4, .t 5, .t 6], fun P Γ call yl qs L => mR [qMv o4 (rc (.s (bs []))), qMv o5 (rc (.s (bs []))), qMv o6 rF] (mSeq (mR [qMv o8 r0, qMv o9 r1, qCall call yl o10 (rcf 67) [r8, r9], qMv o7 r10] (mR [qMv o11 r7, qBin o12 biGeq (bsOf .geq) r11 (rN 0)] (mCond r12 (mSeq (mDraw Γ call [⟨o13, .mv (.t 0), none⟩, ⟨o14, .mv (.t 7), none⟩, ⟨o15, .slcS (.t 13) none (some (.t 14)), none⟩, ⟨o16, .mv (.t 0), none⟩, ⟨o17, .mv (.t 7), none⟩, ⟨o18, .mv (.t 1), none⟩, ⟨o19, .lenS (.t 18), none⟩, ⟨o20, .bin .add (.t 17) (.t 19), none⟩, ⟨o21, .slcS (.t 16) (some (.t 20)) none, none⟩, ⟨o4, .mv (.t 15), none⟩, ⟨o5, .mv (.t 21), none⟩, ⟨o6, .mv (.c (.b true)), none⟩] [⟨[], 0, 0⟩, ⟨[], 0, 0⟩, ⟨[0, 1], 0, 0⟩, ⟨[], 0, 0⟩, ⟨[], 0, 0⟩, ⟨[], 0, 0⟩, ⟨[5], 0, 0⟩, ⟨[4, 6, 5], 0, 0⟩, ⟨[3, 7, 4, 6, 5], 0, 0⟩, ⟨[2, 0, 1], 0, 0⟩, ⟨[8, 9, 0, 1, 2, 3, 4, 5, 6, 7], 0, 0⟩, ⟨[10, 0, 1, 2, 3, 4, 5, 6, 7, 8, 9], 0, 0⟩]) (mRet)) (mSkip)))) (mR [qMv o22 r0, qMv o4 r22, qMv o5 (rc (.s (bs []))), qMv o6 rF] (mRet)))⟩
theorem C40_eq : xq Tryz.f40 = some C40 := by kernel_rfl
theorem C40_wf : xw Tryz.f40 = some true := by kernel_rfl
noncomputable def C41 : CFn := ⟨39, [.t 6], fun P Γ call yl qs L => mR [qBox o3 r0, qBox o4 r1, qMv o6 (rN 0)] (mR [qLdA o13 3 r3, qCall call yl o14 (rcf 68) [r13, rF], qMv o12 r14, qGen Γ o15 fun g n e => q_ext e (.t 12) 0, qGen Γ o16 fun g n e => q_ext e (.t 12) 1, qMv o7 r15, qMv o8 r16] (mR [qLdA o18 3 r3, qCall call yl o19 (rcf 68) [r18, rT], qMv o17 r19, qGen Γ o20 fun g n e => q_ext e (.t 17) 0, qGen Γ o21 fun g n e => q_ext e (.t 17) 1, qMv o9 r20, qMv o10 r21] (mSeq (mR [qMv o22 r7, qBin o23 biNeq (bsOf .neq) r22 (rN 0), qMv o24 r23, qG 24 true o25 (qMv o25 r9), qG 24 true o26 (qBin o26 biNeq (bsOf .neq) r25 (rN 0)), qPick o27 r24 r26 rF] (mCond r27 (mR [qMv o6 (rN 150)] (mRet)) (mSkip))) (mSeq (mR [qLdA o28 2 r4, qCall call yl o29 (rcf 24) [r28], qMv o11 r29] (mR [qMv o30 r11, qBin o31 biNeq (bsOf .neq) r30 (rN 0)] (mCond r31 (mR [qMv o32 r11, qMv o6 r32] (mRet)) (mSkip)))) (mSeq (mR [qMv o33 r2, qBin o34 biLss (bsOf .lss) r33 (rN 0), qMv o35 r34, qG 35 false o36 (qMv o36 r2), qG 35 false o37 (qBin o37 biGtr (bsOf .gtr) r36 (rN 1073741824)), qPick o38 r35 rT r37] (mCond r38 (mR [qMv o6 (rN 2)] (mRet)) (mSkip))) (mR [qMv o6 (rN 0)] (mRet)))))))⟩
theorem C41_eq : xq Tryz.f41 = some C41 := by kernel_rfl
theorem C41_wf : xw Tryz.f41 = some true := by kernel_rfl
noncomputable def C42 : CFn := ⟨127, [.t 6], fun P Γ call yl qs L => mR [qBox o3 r0, qBox o4 r1, qBox o5 r2, qMv o6 (rc .nilp)] (mSeq (mDraw Γ call [⟨o19, .ld true 3 (.t 3), none⟩, ⟨o20, .ld true 5 (.t 4), none⟩, ⟨o21, .ld true 2 (.t 5), none⟩, ⟨o22, .mkmap, none⟩, ⟨o23, .mkmap, none⟩, ⟨o24, .mkmap, none⟩, ⟨o25, .call (.f 69) [], none⟩, ⟨o26, .build [.nils, (.b false), .nils, (.b false), (.b false), (.b false), (.b false), (.s (bs [])), .nils, .nils, .nils, (iN 0), (.s (bs [])), (.s (bs [])), .nils, .nilm, .nilm, .nils, (.b false), (.s (bs [])), (.b false), (.b false), (.i .u8 (.ofNat 0)), (.i .u64 (.ofNat 0)), (.i .u64 (.ofNat 0)), (.i .u64 (.ofNat 0)), (.i .u64 (.ofNat 0)), (iN 0), (iN 0), (iN 0), .nils, (.b false), .nilm, .nilm, (.b false), .nils, (iN 0), (iN 0), (iN 0), (iN 0), (.i .u8 (.ofNat 0)), .nilm, (iN 0), (.b false), (.b false), (.b false)] [(0, 3, (.t 19)), (3, 5, (.t 20)), (8, 2, (.t 21)), (15, 1, (.t 22)), (32, 1, (.t 23)), (33, 1, (.t 24)), (41, 1, (.t 25))], none⟩, ⟨o27, .box (.t 26), none⟩, ⟨o7, .mv (.t 27), none⟩] [⟨[], 0, 1⟩, ⟨[], 0, 1⟩, ⟨[], 0, 1⟩, ⟨[], 0, 1⟩, ⟨[], 0, 1⟩, ⟨[], 0, 1⟩, ⟨[], 0, 0⟩, ⟨[0, 1, 2, 3, 4, 5, 6], 1, 1⟩, ⟨[7, 0, 1, 2, 3, 4, 5, 6], 1, 1⟩, ⟨[8, 6, 0, 1, 2, 3, 4, 5, 7], 1, 1⟩]) (mSeq (mR [qFaddr o28 0 r5, qLd1 o29 r28, qGen Γ o30 fun g n e => q_lenL e (.t 29), qMv o31 (rN 0)] (mBlock 0 (mLoop L (mR [qBin o32 biLss (bsOf .lss) r31 r30] (mSeq (mCond r32 (mSkip) (mExit 0)) (mSeq (mBlock 1 (mR [qMv o33 r31, qGen Γ o34 fun g n e => q_iaddr e 3 (.t 29) (.t 31), qLdA o35 3 r34, qAlloc o9 [(.s (bs [])), (.s (bs [])), (.b false)] 0, qMv o8 r33, qSt none 3 r9 r35] (mR [qFaddr o36 1 r9, qLd1 o37 r36, qCall call yl o38 (rcf 7) [r37], qMv o10 r38] (mR [qMv o39 r10, qGen Γ o40 fun g n e => q_lenL e (.t 39), qMv o41 (rN 0)] (mBlock 2 (mLoop L (mR [qBin o42 biLss (bsOf .lss) r41 r40] (mSeq (mCond r42 (mSkip) (mExit 2)) (mSeq (mBlock 3 (mR [qMv o43 r41, qGen Γ o44 fun g n e => q_iaddr e 2 (.t 39) (.t 41), qLdA o45 2 r44, qAlloc o12 [(.s (bs [])), (.b false)] 0, qMv o11 r43, qSt none 2 r12 r45] (mSeq (mDraw Γ call [⟨o46, .ld true 2 (.t 12), none⟩, ⟨o47, .mv (.t 8), none⟩, ⟨o48, .mv (.t 7), none⟩, ⟨o49, .nilchk (.t 48), none⟩, ⟨o50, .faddr 10 (.t 49), none⟩, ⟨o51, .ld false 1 (.t 50), none⟩, ⟨o52, .lenL (.t 51), none⟩, ⟨o53, .bin .add (.t 52) (.c (iN 1)), none⟩, ⟨o54, .build [(.s (bs [])), (.b false), (iN 0), (iN 0), (.b false)] [(0, 2, (.t 46)), (2, 1, (.t 47)), (3, 1, (.t 53))], none⟩, ⟨o13, .alloc [(.s (bs [])), (.b false), (iN 0), (iN 0), (.b false)] 0, none⟩, ⟨none, .st 5 (.t 13) (.t 54), none⟩] [⟨[], 0, 0⟩, ⟨[], 0, 0⟩, ⟨[], 0, 0⟩, ⟨[2], 0, 0⟩, ⟨[3, 2], 0, 0⟩, ⟨[4, 3, 2], 0, 0⟩, ⟨[5, 4, 3, 2], 0, 0⟩, ⟨[6, 5, 4, 3, 2], 0, 0⟩, ⟨[0, 1, 7, 6, 5, 4, 3, 2], 0, 0⟩, ⟨[], 0, 0⟩, ⟨[9, 8, 0, 1, 2, 3, 4, 5, 6, 7], 0, 0⟩]) (mSeq (mR [qMv o55 r7, qCall call yl o56 (rcf 70) [r55]] (mCond r56 (mR [qMv o57 r11, qBin o58 biAdd (bsOf .add) r57 (rN 1), qFaddr o59 3 r13, qSt none 1 r59 r58] (mO [qMv o60 r11, qMv o61 r10, qGen Γ o62 fun g n e => q_lenL e (.t 61), qBin o63 biSub (bsOf .sub) r62 (rN 1), qBin o64 biEql (bsOf .eql) r60 r63, qFaddr o65 4 r13, qSt none 1 r65 r64])) (mSkip))) (mDraw Γ call [⟨o66, .mv (.t 7), none⟩, ⟨o67, .mv (.t 7), none⟩, ⟨o68, .nilchk (.t 67), none⟩, ⟨o69, .faddr 10 (.t 68), none⟩, ⟨o70, .ld false 1 (.t 69), none⟩, ⟨o71, .ld true 5 (.t 13), none⟩, ⟨o72, .bslice 5 [(.s (bs [])), (.b false), (iN 0), (iN 0), (.b false)] [(0, 5, (.t 71))] 1, none⟩, ⟨o73, .app 5 48 0 (.t 70) (.t 72), none⟩, ⟨o74, .nilchk (.t 66), none⟩, ⟨o75, .faddr 10 (.t 74), none⟩, ⟨none, .st 1 (.t 75) (.t 73), none⟩] [⟨[], 0, 1⟩, ⟨[], 0, 0⟩, ⟨[1], 0, 0⟩, ⟨[2, 1], 0, 0⟩, ⟨[3, 2, 1], 0, 0⟩, ⟨[], 0, 0⟩, ⟨[5], 0, 0⟩, ⟨[4, 6, 3, 2, 1, 5], 0, 0⟩, ⟨[0, 1, 2, 3, 4, 5, 6, 7], 1, 1⟩, ⟨[8, 0, 1, 2, 3, 4, 5, 6, 7], 1, 1⟩, ⟨[9, 7, 0, 1, 2, 3, 4, 5, 6, 8], 1, 1⟩]))))) (mO [qBin o76 biAdd (bsOf .add) r41 (rN 1), qMv o41 r76])))))))))) (mO [qBin o77 biAdd (bsOf .add) r31 (rN 1), qMv o31 r77]))))))) (mSeq (mR [qMv o78 r7, qNil o79 r78, qFaddr o80 10 r79, qLd1 o81 r80, qGen Γ o82 fun g n e => q_lenL e (.t 81), qMv o14 r82] (mR [qMv o83 r14, qBin o84 biGtr (bsOf .gtr) r83 (rN 0)] (mCond r84 (mO [qMv o85 r7, qNil o86 r85, qFaddr o87 10 r86, qLd1 o88 r87, qMv o89 r14, qBin o90 biSub (bsOf .sub) r89 (rN 1), qGen Γ o91 fun g n e => q_iaddr e 5 (.t 88) (.t 90), qFaddr o92 4 r91, qSt none 1 r92 rT]) (mSkip)))) (mSeq (mR [qFaddr o93 1 r5, qLd1 o94 r93, qGen Γ o95 fun g n e => q_lenL e (.t 94), qMv o96 (rN 0)] (mBlock 4 (mLoop L (mR [qBin o97 biLss (bsOf .lss) r96 r95] (mSeq (mCond r97 (mSkip) (mExit 4)) (mSeq (mBlock 5 (mR [qGen Γ o98 fun g n e => q_iaddr e 3 (.t 94) (.t 96), qLdA o99 3 r98, qAlloc o16 [(.s (bs [])), (.s (bs [])), (.b false)] 0, qSt none 3 r16 r99] (mDraw Γ call [⟨o100, .mv (.t 7), none⟩, ⟨o101, .nilchk (.t 100), none⟩, ⟨o102, .faddr 15 (.t 101), none⟩, ⟨o103, .ld false 1 (.t 102), none⟩, ⟨o104, .faddr 0 (.t 16), none⟩, ⟨o105, .ld false 1 (.t 104), none⟩, ⟨o106, .faddr 1 (.t 16), none⟩, ⟨o107, .ld false 1 (.t 106), none⟩, ⟨none, .mupd (.leaf .s) (.t 103) (.t 105) (.t 107), none⟩] [⟨[], 0, 0⟩, ⟨[0], 0, 0⟩, ⟨[1, 0], 0, 0⟩, ⟨[2, 1, 0], 0, 0⟩, ⟨[], 0, 0⟩, ⟨[4], 0, 0⟩, ⟨[], 0, 0⟩, ⟨[6], 0, 0⟩, ⟨[3, 5, 7, 0, 1, 2, 4, 6], 0, 0⟩]))) (mO [qBin o108 biAdd (bsOf .add) r96 (rN 1), qMv o96 r108]))))))) (mSeq (mR [qFaddr o109 2 r3, qLd1 o110 r109, qGen Γ o111 fun g n e => q_lenL e (.t 110), qMv o112 (rN 0)] (mBlock 6 (mLoop L (mR [qBin o113 biLss (bsOf .lss) r112 r111] (mSeq (mCond r113 (mSkip) (mExit 6)) (mSeq (mBlock 7 (mR [qGen Γ o114 fun g n e => q_iaddr e 1 (.t 110) (.t 112), qLd1 o115 r114, qMv o18 r115] (mR [qMv o116 r18, qBin o117 biNeq (bsOf .neq) r116 (rc (.s (bs [47, 100, 101, 118, 47, 115, 116, 100, 111, 117, 116])))] (mCond r117 (mO [qMv o118 r7, qNil o119 r118, qFaddr o120 15 r119, qLd1 o121 r120, qMv o122 r18, qGen Γ none fun g n e => q_mupd g e (.leaf .s) (.t 121) (.t 122) (.c (.s (bs [])))]) (mSkip))))) (mO [qBin o123 biAdd (bsOf .add) r112 (rN 1), qMv o112 r123]))))))) (mR [qMv o124 r7, qCall call yl o125 (rcf 71) [r124]] (mR [qMv o126 r7, qMv o6 r126] (mRet))))))))⟩
theorem C42_eq : xq Tryz.f42 = some C42 := by kernel_rfl
theorem C42_wf : xw Tryz.f42 = some true := by kernel_rfl
noncomputable def C43 : CFn := ⟨94, [], fun P Γ call yl qs L => mBlock 0 (mLoop L (mSeq (mR [qMv o2 r0, qNil o3 r2, qFaddr o4 45 r3, qLd1 o5 r4, qGen Γ o6 fun g n e => q_un e .not (.t 5)] (mCond r6 (mSkip) (mExit 0))) (mBlock 1 (mBlock 2 (mSeq (mDraw Γ call [⟨o30, .mv (.t 0), none⟩, ⟨o31, .nilchk (.t 30), none⟩, ⟨o32, .faddr 43 (.t 31), none⟩, ⟨o33, .ld false 1 (.t 32), none⟩, ⟨o34, .mv (.t 33), none⟩, ⟨o35, .mv (.t 0), some (34, true)⟩, ⟨o36, .nilchk (.t 35), some (34, true)⟩, ⟨o37, .faddr 42 (.t 36), some (34, true)⟩, ⟨o38, .ld false 1 (.t 37), some (34, true)⟩, ⟨o39, .mv (.t 0), some (34, true)⟩, ⟨o40, .nilchk (.t 39), some (34, true)⟩, ⟨o41, .faddr 0 (.t 40), some (34, true)⟩, ⟨o42, .faddr 0 (.t 41), some (34, true)⟩, ⟨o43, .ld false 1 (.t 42), some (34, true)⟩, ⟨o44, .lenL (.t 43), some (34, true)⟩, ⟨o45, .bin .lss (.t 38) (.t 44), some (34, true)⟩, ⟨o46, .pick (.t 34) (.t 45) (.c (.b false)), none⟩, ⟨o29, .mv (.t 46), none⟩] [⟨[], 0, 0⟩, ⟨[0], 0, 0⟩, ⟨[1, 0], 0, 0⟩, ⟨[2, 1, 0], 0, 0⟩, ⟨[3, 2, 1, 0], 0, 0⟩, ⟨[4, 3, 2, 1, 0], 0, 0⟩, ⟨[5, 4, 3, 2, 1, 0], 0, 0⟩, ⟨[6, 4, 5, 3, 2, 1, 0], 0, 0⟩, ⟨[7, 4, 6, 5, 3, 2, 1, 0], 0, 0⟩, ⟨[4, 3, 2, 1, 0], 0, 0⟩, ⟨[9, 4, 3, 2, 1, 0], 0, 0⟩, ⟨[10, 4, 9, 3, 2, 1, 0], 0, 0⟩, ⟨[11, 4, 10, 9, 3, 2, 1, 0], 0, 0⟩, ⟨[12, 4, 11, 10, 9, 3, 2, 1, 0], 0, 0⟩, ⟨[13, 4, 12, 11, 10, 9, 3, 2, 1, 0], 0, 0⟩, ⟨[8, 14, 4, 7, 6, 5, 3, 2, 1, 0, 13, 12, 11, 10, 9], 0, 0⟩, ⟨[4, 15, 3, 2, 1, 0, 8, 14, 7, 6, 5, 13, 12, 11, 10, 9], 0, 0⟩, ⟨[16, 4, 15, 3, 2, 1, 0, 8, 14, 7, 6, 5, 13, 12, 11, 10, 9], 0, 0⟩]) (mCond r29 (mRet) (mR [qMv o48 r0, qNil o49 r48, qFaddr o50 43 r49, qLd1 o51 r50, qMv o47 r51] (mCond r47 (mR [qMv o52 r0, qCall call yl o53 (rcf 72) [r52, rT]] (mR [qMv o54 r0, qMv o55 r0, qNil o56 r54, qFaddr o57 43 r56, qSt none 1 r57 rF, qNil o58 r55, qFaddr o59 44 r58, qSt none 1 r59 rF] (mO [qMv o60 r0, qMv o61 r0, qNil o62 r61, qFaddr o63 34 r62, qLd1 o64 r63, qNil o65 r60, qFaddr o66 45 r65, qSt none 1 r66 r64]))) (mSeq (mDraw Γ call [⟨o68, .mv (.t 0), none⟩, ⟨o69, .nilchk (.t 68), none⟩, ⟨o70, .faddr 44 (.t 69), none⟩, ⟨o71, .ld false 1 (.t 70), none⟩, ⟨o72, .un .not (.t 71), none⟩, ⟨o73, .mv (.t 72), none⟩, ⟨o74, .mv (.t 0), some (73, true)⟩, ⟨o75, .nilchk (.t 74), some (73, true)⟩, ⟨o76, .faddr 11 (.t 75), some (73, true)⟩, ⟨o77, .ld false 1 (.t 76), some (73, true)⟩, ⟨o78, .mv (.t 0), some (73, true)⟩, ⟨o79, .nilchk (.t 78), some (73, true)⟩, ⟨o80, .faddr 10 (.t 79), some (73, true)⟩, ⟨o81, .ld false 1 (.t 80), some (73, true)⟩, ⟨o82, .lenL (.t 81), some (73, true)⟩, ⟨o83, .bin .eql (.t 77) (.t 82), some (73, true)⟩, ⟨o84, .pick (.t 73) (.t 83) (.c (.b false)), none⟩, ⟨o67, .mv (.t 84), none⟩] [⟨[], 0, 0⟩, ⟨[0], 0, 0⟩, ⟨[1, 0], 0, 0⟩, ⟨[2, 1, 0], 0, 0⟩, ⟨[3, 2, 1, 0], 0, 0⟩, ⟨[4, 3, 2, 1, 0], 0, 0⟩, ⟨[5, 4, 3, 2, 1, 0], 0, 0⟩, ⟨[6, 5, 4, 3, 2, 1, 0], 0, 0⟩, ⟨[7, 5, 6, 4, 3, 2, 1, 0], 0, 0⟩, ⟨[8, 5, 7, 6, 4, 3, 2, 1, 0], 0, 0⟩, ⟨[5, 4, 3, 2, 1, 0], 0, 0⟩, ⟨[10, 5, 4, 3, 2, 1, 0], 0, 0⟩, ⟨[11, 5, 10, 4, 3, 2, 1, 0], 0, 0⟩, ⟨[12, 5, 11, 10, 4, 3, 2, 1, 0], 0, 0⟩, ⟨[13, 5, 12, 11, 10, 4, 3, 2, 1, 0], 0, 0⟩, ⟨[9, 14, 5, 8, 7, 6, 4, 3, 2, 1, 0, 13, 12, 11, 10], 0, 0⟩, ⟨[5, 15, 4, 3, 2, 1, 0, 9, 14, 8, 7, 6, 13, 12, 11, 10], 0, 0⟩, ⟨[16, 5, 15, 4, 3, 2, 1, 0, 9, 14, 8, 7, 6, 13, 12, 11, 10], 0, 0⟩]) (mCond r67 (mR [qMv o85 r0, qNil o86 r85, qFaddr o87 45 r86, qSt none 1 r87 rT] (mR [qMv o88 r0, qCall call yl o89 (rcf 73) [r88]] (mCond r89 (mO [qMv o90 r0, qNil o91 r90, qFaddr o92 35 r91, qFaddr o93 1 r92, qSt none 1 r93 (rN 2)]) (mSkip)))) (mSeq (mR [qMv o7 r0, qNil o8 r7, qFaddr o9 44 r8, qLd1 o10 r9, qGen Γ o11 fun g n e => q_un e .not (.t 10), qMv o12 r11, qG 12 true o13 (qMv o13 r0), qG 12 true o14 (qCall call yl o14 (rcf 74) [r13]), qG 12 true o15 (qGen Γ o15 fun g n e => q_un e .not (.t 14)), qPick o16 r12 r15 rF] (mCond r16 (mR [qMv o17 r0, qNil o18 r17, qFaddr o19 45 r18, qSt none 1 r19 rT] (mRet)) (mSkip))) (mO [qMv o20 r0, qMv o21 r0, qMv o22 r0, qNil o23 r20, qFaddr o24 43 r23, qSt none 1 r24 rT, qNil o25 r21, qFaddr o26 44 r25, qSt none 1 r26 rF, qNil o27 r22, qFaddr o28 42 r27, qSt none 1 r28 (rN 0)]))))))))))))⟩
theorem C43_eq : xq Tryz.f43 = some C43 := by kernel_rfl
theorem C43_wf : xw Tryz.f43 = some true := by kernel_rfl
noncomputable def C45 : CFn := ⟨111, [], fun P Γ call yl qs L => mR [qMv o4 r0, qNil o5 r4, qFaddr o6 35 r5, qFaddr o7 2 r6, qLd1 o8 r7, qBin o9 biAdd (bsOf .add) r8 (rN 1), qNil o10 r4, qFaddr o11 35 r10, qFaddr o12 2 r11, qSt none 1 r12 r9] (mR [qMv o13 r0, qNil o14 r13, qFaddr o15 35 r14, qFaddr o16 3 r15, qLd1 o17 r16, qBin o18 biAdd (bsOf .add) r17 (rN 1), qNil o19 r13, qFaddr o20 35 r19, qFaddr o21 3 r20, qSt none 1 r21 r18] (mSeq (mDraw Γ call [⟨o22, .mv (.t 0), none⟩, ⟨o23, .nilchk (.t 22), none⟩, ⟨o24, .faddr 0 (.t 23), none⟩, ⟨o25, .faddr 0 (.t 24), none⟩, ⟨o26, .ld false 1 (.t 25), none⟩, ⟨o27, .mv (.t 0), none⟩, ⟨o28, .nilchk (.t 27), none⟩, ⟨o29, .faddr 42 (.t 28), none⟩, ⟨o30, .ld false 1 (.t 29), none⟩, ⟨o31, .iaddr 55 (.t 26) (.t 30), none⟩, ⟨o32, .ld true 55 (.t 31), none⟩, ⟨o2, .alloc [(iN 0), (.i .u8 (.ofNat 0)), (iN 0), (iN 0), (.s (bs [])), (.b false), (.b false), (.i .u8 (.ofNat 0)), (.i .u64 (.ofNat 0)), (.i .u64 (.ofNat 0)), (.i .u64 (.ofNat 0)), (.i .u64 (.ofNat 0)), (iN 0), (iN 0), (iN 0), .nils, (.i .u8 (.ofNat 0)), (iN 0), (iN 0), (.s (bs [])), (.b false), (.b false), (.i .u8 (.ofNat 0)), (.i .u64 (.ofNat 0)), (.i .u64 (.ofNat 0)), (.i .u64 (.ofNat 0)), (.i .u64 (.ofNat 0)), (iN 0), (iN 0), (iN 0), .nils, (.b false), (.i .u8 (.ofNat 0)), (.s (bs [])), (.s (bs [])), (iN 0), (.s (bs [])), (.b false), (.b false), (.i .u8 (.ofNat 0)), (.i .u64 (.ofNat 0)), (.i .u64 (.ofNat 0)), (.i .u64 (.ofNat 0)), (.i .u64 (.ofNat 0)), (iN 0), (iN 0), (iN 0), .nils, .nils, (iN 0), (.b false), (.b false), (.b false), (.s (bs [])), (iN 0)] 0, none⟩, ⟨none, .st 55 (.t 2) (.t 32), none⟩] [⟨[], 0, 0⟩, ⟨[0], 0, 0⟩, ⟨[1, 0], 0, 0⟩, ⟨[2, 1, 0], 0, 0⟩, ⟨[3, 2, 1, 0], 0, 0⟩, ⟨[], 0, 0⟩, ⟨[5], 0, 0⟩, ⟨[6, 5], 0, 0⟩, ⟨[7, 6, 5], 0, 0⟩, ⟨[4, 8, 3, 2, 1, 0, 7, 6, 5], 0, 0⟩, ⟨[9, 4, 8, 3, 2, 1, 0, 7, 6, 5], 0, 0⟩, ⟨[], 0, 0⟩, ⟨[11, 10, 0, 1, 2, 3, 4, 5, 6, 7, 8, 9], 0, 0⟩]) (mR [qMv o3 (rN 0)] (mSeq (mR [qMv o33 r0, qMv o34 r0, qNil o35 r34, qFaddr o36 42 r35, qLd1 o37 r36, qCall call yl o38 (rcf 75) [r33, r37]] (mCond r38 (mDraw Γ call [⟨o39, .mv (.t 0), none⟩, ⟨o40, .nilchk (.t 39), none⟩, ⟨o41, .faddr 41 (.t 40), none⟩, ⟨o42, .ld false 1 (.t 41), none⟩, ⟨o43, .faddr 0 (.t 2), none⟩, ⟨o44, .faddr 32 (.t 43), none⟩, ⟨o45, .ld false 1 (.t 44), none⟩, ⟨o46, .look (.leaf .i) .nilf false (.t 42) (.t 45), none⟩, ⟨o47, .mv (.t 0), none⟩, ⟨o48, .mv (.t 0), none⟩, ⟨o49, .nilchk (.t 48), none⟩, ⟨o50, .faddr 42 (.t 49), none⟩, ⟨o51, .ld false 1 (.t 50), none⟩, ⟨o52, .call (.t 46) [(.t 47), (.t 51)], none⟩, ⟨o3, .mv (.t 52), none⟩] [⟨[], 0, 0⟩, ⟨[0], 0, 0⟩, ⟨[1, 0], 0, 0⟩, ⟨[2, 1, 0], 0, 0⟩, ⟨[], 0, 0⟩, ⟨[4], 0, 0⟩, ⟨[5, 4], 0, 0⟩, ⟨[3, 6, 2, 1, 0, 5, 4], 0, 0⟩, ⟨[], 0, 0⟩, ⟨[], 0, 0⟩, ⟨[9], 0, 0⟩, ⟨[10, 9], 0, 0⟩, ⟨[11, 10, 9], 0, 0⟩, ⟨[7, 8, 12, 3, 6, 2, 1, 0, 5, 4, 11, 10, 9], 0, 0⟩, ⟨[13, 0, 1, 2, 3, 4, 5, 6, 7, 8, 9, 10, 11, 12], 1, 1⟩]) (mR [qFaddr o53 0 r2, qFaddr o54 32 r53, qLd1 o55 r54, qBin o56 biEql (bsOf .eql) r55 (rc (.i .u8 (.ofNat 123)))] (mCond r56 (mO [qMv o3 (rN 1)]) (mSkip))))) (mSeq (mR [qMv o57 r0, qNil o58 r57, qFaddr o59 34 r58, qLd1 o60 r59] (mCond r60 (mO [qMv o3 (rN 5)]) (mSkip))) (mR [qMv o61 r3] (mBlock 0 (mR [qBin o80 biEql (bsOf .eql) r61 (rN 0), qMv o79 r80] (mCond r79 (mO [qMv o81 r0, qNil o82 r81, qFaddr o83 42 r82, qLd1 o84 r83, qBin o85 biAdd (bsOf .add) r84 (rN 1), qNil o86 r81, qFaddr o87 42 r86, qSt none 1 r87 r85]) (mR [qBin o89 biEql (bsOf .eql) r61 (rN 1), qMv o88 r89] (mCond r88 (mO [qMv o90 r0, qFaddr o91 54 r2, qLd1 o92 r91, qNil o93 r90, qFaddr o94 42 r93, qSt none 1 r94 r92]) (mR [qBin o96 biEql (bsOf .eql) r61 (rN 2), qMv o95 r96] (mCond r95 (mO [qMv o97 r0, qMv o98 r0, qNil o99 r98, qFaddr o100 0 r99, qFaddr o101 0 r100, qLd1 o102 r101, qGen Γ o103 fun g n e => q_lenL e (.t 102), qNil o104 r97, qFaddr o105 42 r104, qSt none 1 r105 r103]) (mR [qBin o107 biEql (bsOf .eql) r61 (rN 5), qMv o106 r107] (mCond r106 (mO [qMv o108 r0, qNil o109 r108, qFaddr o110 45 r109, qSt none 1 r110 rT]) (mR [qMv o62 r0, qCall call yl o63 (rcf 72) [r62, rF]] (mR [qMv o64 r0, qMv o65 r0, qMv o66 r3, qBin o67 biEql (bsOf .eql) r66 (rN 4), qNil o68 r64, qFaddr o69 43 r68, qSt none 1 r69 rF, qNil o70 r65, qFaddr o71 44 r70, qSt none 1 r71 r67] (mO [qMv o72 r0, qMv o73 r0, qNil o74 r73, qFaddr o75 34 r74, qLd1 o76 r75, qNil o77 r72, qFaddr o78 45 r77, qSt none 1 r78 r76]))))))))))))))))))⟩
theorem C45_eq : xq Tryz.f45 = some C45 := by kernel_rfl
theorem C45_wf : xw Tryz.f45 = some true := by kernel_rfl
noncomputable def C47 : CFn := ⟨19, [], fun P Γ call yl qs L => mR [qGen Γ o6 fun _ _ _ => .bad, qMv o3 r6] (mR [qMv o7 r3, qGen Γ o8 fun g n e => q_eq g e true (.leaf (.ifc true)) (.t 7) (.c .nili)] (mCond r8 (mR [qMv o10 r3, qGen Γ o11 fun g n e => q_tassert e 85 (.agg [(iN 0), (iN 0)]) true (.t 10), qMv o9 r11, qGen Γ o12 fun g n e => q_ext e (.t 9) 0, qGen Γ o13 fun g n e => q_ext e (.t 9) 1, qAlloc o4 [(iN 0), (iN 0)] 0, qSt none 2 r4 r12, qMv o5 r13] (mSeq (mR [qMv o14 r5, qGen Γ o15 fun g n e => q_un e .not (.t 14)] (mCond r15 (mO [qMv o16 r3, qGen Γ none fun g n e => q_panic e (.t 16)]) (mSkip))) (mDraw Γ call [⟨o17, .build [.nils, (.b false), (.b false)] [], none⟩, ⟨o18, .ld true 2 (.t 4), none⟩, ⟨none, .st 3 (.t 0) (.t 17), none⟩, ⟨none, .st 1 (.t 1) (.c (iN 130)), none⟩, ⟨none, .st 2 (.t 2) (.t 18), none⟩] [⟨[], 0, 0⟩, ⟨[], 0, 2⟩, ⟨[0], 0, 0⟩, ⟨[2, 0], 1, 1⟩, ⟨[1, 3, 0, 2], 2, 2⟩]))) (mSkip)))⟩
theorem C47_eq : xq Tryz.f47 = some C47 := by kernel_rfl
theorem C47_wf : xw Tryz.f47 = some true := by kernel_rfl
noncomputable def C48 : CFn := ⟨98, [.t 0], fun P Γ call yl qs L => mR [qMv o0 (rc .nilm)] (mR [qGen Γ o13 fun g n e => q_build e [(iN 0), .nilf, .nilf] [(0, 1, (.c (iN 2))), (1, 1, (.f 77)), (2, 1, (.f 79))], qAlloc o1 [(iN 0), .nilf, .nilf] 0, qSt none 3 r1 r13] (mSeq (mDraw Γ call [⟨o14, .mkmap, none⟩, ⟨o15, .faddr 2 (.t 1), none⟩, ⟨o16, .ld false 1 (.t 15), none⟩, ⟨o17, .build [(iN 0), .nilf, .nilf] [(0, 1, (.c (iN 2))), (1, 1, (.f 80)), (2, 1, (.t 16))], none⟩, ⟨none, .ins (.leaf .i) (.t 14) (.c (.i .u8 (.ofNat 123))) (.t 17), none⟩, ⟨o18, .faddr 1 (.t 1), none⟩, ⟨o19, .ld false 1 (.t 18), none⟩, ⟨o20, .faddr 2 (.t 1), none⟩, ⟨o21, .ld false 1 (.t 20), none⟩, ⟨o22, .build [(iN 0), .nilf, .nilf] [(0, 1, (.c (iN 0))), (1, 1, (.t 19)), (2, 1, (.t 21))], none⟩, ⟨none, .ins (.leaf .i) (.t 14) (.c (.i .u8 (.ofNat 125))) (.t 22), none⟩, ⟨o23, .call (.f 81) [(.c (iN 1073741824))], none⟩, ⟨o24, .call (.f 82) [(.c (iN 1073741824))], none⟩, ⟨o25, .build [(iN 0), .nilf, .nilf] [(0, 1, (.c (iN 2))), (1, 1, (.t 23)), (2, 1, (.t 24))], none⟩, ⟨none, .ins (.leaf .i) (.t 14) (.c (.i .u8 (.ofNat 108))) (.t 25), none⟩, ⟨o26, .faddr 2 (.t 1), none⟩, ⟨o27, .ld false 1 (.t 26), none⟩, ⟨o28, .build [(iN 0), .nilf, .nilf] [(0, 1, (.c (iN 2))), (1, 1, (.f 83)), (2, 1, (.t 27))], none⟩, ⟨none, .ins (.leaf .i) (.t 14) (.c (.i .u8 (.ofNat 115))) (.t 28), none⟩, ⟨o29, .build [(iN 0), .nilf, .nilf] [(0, 1, (.c (iN 2))), (1, 1, (.f 84)), (2, 1, (.f 85))], none⟩, ⟨none, .ins (.leaf .i) (.t 14) (.c (.i .u8 (.ofNat 121))) (.t 29), none⟩, ⟨o30, .call (.f 87) [(.c (.s (bs [59]))), (.c (.b false))], none⟩, ⟨o31, .call (.f 88) [(.f 89)], none⟩, ⟨o32, .build [(iN 0), .nilf, .nilf] [(0, 1, (.c (iN 0))), (1, 1, (.t 30)), (2, 1, (.t 31))], none⟩, ⟨none, .ins (.leaf .i) (.t 14) (.c (.i .u8 (.ofNat 58))) (.t 32), none⟩, ⟨o33, .call (.f 88) [(.f 93)], none⟩, ⟨o34, .build [(iN 0), .nilf, .nilf] [(0, 1, (.c (iN 2))), (1, 1, (.f 91)), (2, 1, (.t 33))], none⟩, ⟨none, .ins (.leaf .i) (.t 14) (.c (.i .u8 (.ofNat 101))) (.t 34), none⟩, ⟨o35, .mv (.t 14), none⟩, ⟨o2, .mv (.t 35), none⟩] [⟨[], 0, 5⟩, ⟨[], 0, 5⟩, ⟨[1], 0, 5⟩, ⟨[2, 1], 0, 5⟩, ⟨[0, 3, 2, 1], 0, 5⟩, ⟨[], 0, 5⟩, ⟨[5], 0, 5⟩, ⟨[], 0, 5⟩, ⟨[7], 0, 5⟩, ⟨[6, 8, 5, 7], 0, 5⟩, ⟨[0, 9, 6, 8, 5, 7], 0, 5⟩, ⟨[], 0, 0⟩, ⟨[11], 1, 1⟩, ⟨[11, 12], 2, 5⟩, ⟨[0, 13, 11, 12], 2, 5⟩, ⟨[], 0, 5⟩, ⟨[15], 0, 5⟩, ⟨[16, 15], 0, 5⟩, ⟨[0, 17, 16, 15], 0, 5⟩, ⟨[], 0, 5⟩, ⟨[0, 19], 0, 5⟩, ⟨[12, 11], 2, 2⟩, ⟨[21, 12, 11], 3, 3⟩, ⟨[21, 22, 12, 11], 4, 5⟩, ⟨[0, 23, 21, 22, 12, 11], 4, 5⟩, ⟨[22, 21, 12, 11], 4, 4⟩, ⟨[25, 22, 21, 12, 11], 5, 5⟩, ⟨[0, 26, 25, 22, 21, 12, 11], 5, 5⟩, ⟨[0, 1, 2, 3, 4, 5, 6, 7, 8, 9, 10, 11, 12, 13, 14, 15, 16, 17, 18, 19, 20, 21, 22, 23, 24, 25, 26, 27], 5, 5⟩, ⟨[28, 25, 0, 1, 2, 3, 4, 5, 6, 7, 8, 9, 10, 11, 12, 13, 14, 15, 16, 17, 18, 19, 20, 21, 22, 23, 24, 26, 27], 5, 5⟩]) (mSeq (mR [qGen Γ o36 fun g n e => q_bslice n e 1 [(.i .u8 (.ofNat 0)), (.i .u8 (.ofNat 0)), (.i .u8 (.ofNat 0)), (.i .u8 (.ofNat 0)), (.i .u8 (.ofNat 0)), (.i .u8 (.ofNat 0)), (.i .u8 (.ofNat 0)), (.i .u8 (.ofNat 0)), (.i .u8 (.ofNat 0)), (.i .u8 (.ofNat 0)), (.i .u8 (.ofNat 0)), (.i .u8 (.ofNat 0)), (.i .u8 (.ofNat 0)), (.i .u8 (.ofNat 0))] [(0, 1, (.c (.i .u8 (.ofNat 61)))), (1, 1, (.c (.i .u8 (.ofNat 100)))), (2, 1, (.c (.i .u8 (.ofNat 68)))), (3, 1, (.c (.i .u8 (.ofNat 70)))), (4, 1, (.c (.i .u8 (.ofNat 103)))), (5, 1, (.c (.i .u8 (.ofNat 71)))), (6, 1, (.c (.i .u8 (.ofNat 104)))), (7, 1, (.c (.i .u8 (.ofNat 72)))), (8, 1, (.c (.i .u8 (.ofNat 110)))), (9, 1, (.c (.i .u8 (.ofNat 78)))), (10, 1, (.c (.i .u8 (.ofNat 112)))), (11, 1, (.c (.i .u8 (.ofNat 80)))), (12, 1, (.c (.i .u8 (.ofNat 120)))), (13, 1, (.c (.i .u8 (.ofNat 122))))] 14, qGen Γ o37 fun g n e => q_mrk g e (.t 36), qGen Γ o38 fun g n e => q_lenL e (.t 37), qMv o39 (rN 0)] (mBlock 0 (mLoop L (mR [qBin o40 biLss (bsOf .lss) r39 r38] (mSeq (mCond r40 (mSkip) (mExit 0)) (mSeq (mBlock 1 (mR [qGen Γ o41 fun g n e => q_iaddr e 1 (.t 37) (.t 39), qLd1 o42 r41, qMv o4 r42] (mO [qMv o43 r2, qMv o44 r4, qLdA o45 3 r1, qGen Γ none fun g n e => q_mupd g e (.leaf .i) (.t 43) (.t 44) (.t 45)]))) (mO [qBin o46 biAdd (bsOf .add) r39 (rN 1), qMv o39 r46]))))))) (mSeq (mR [qGen Γ o47 fun g n e => q_bslice n e 1 [(.i .u8 (.ofNat 0)), (.i .u8 (.ofNat 0))] [(0, 1, (.c (.i .u8 (.ofNat 113)))), (1, 1, (.c (.i .u8 (.ofNat 81))))] 2, qGen Γ o48 fun g n e => q_mrk g e (.t 47), qGen Γ o49 fun g n e => q_lenL e (.t 48), qMv o50 (rN 0)] (mBlock 2 (mLoop L (mR [qBin o51 biLss (bsOf .lss) r50 r49] (mSeq (mCond r51 (mSkip) (mExit 2)) (mSeq (mBlock 3 (mR [qGen Γ o52 fun g n e => q_iaddr e 1 (.t 48) (.t 50), qLd1 o53 r52, qMv o6 r53] (mO [qMv o54 r2, qMv o55 r6, qCall call yl o56 (rcf 81) [(rN 255)], qCall call yl o57 (rcf 82) [(rN 255)], qGen Γ o58 fun g n e => q_build e [(iN 0), .nilf, .nilf] [(0, 1, (.c (iN 1))), (1, 1, (.t 56)), (2, 1, (.t 57))], qGen Γ none fun g n e => q_mupd g e (.leaf .i) (.t 54) (.t 55) (.t 58)]))) (mO [qBin o59 biAdd (bsOf .add) r50 (rN 1), qMv o50 r59]))))))) (mSeq (mR [qGen Γ o60 fun g n e => q_bslice n e 1 [(.i .u8 (.ofNat 0)), (.i .u8 (.ofNat 0)), (.i .u8 (.ofNat 0))] [(0, 1, (.c (.i .u8 (.ofNat 97)))), (1, 1, (.c (.i .u8 (.ofNat 105)))), (2, 1, (.c (.i .u8 (.ofNat 99))))] 3, qGen Γ o61 fun g n e => q_mrk g e (.t 60), qGen Γ o62 fun g n e => q_lenL e (.t 61), qMv o63 (rN 0)] (mBlock 4 (mLoop L (mR [qBin o64 biLss (bsOf .lss) r63 r62] (mSeq (mCond r64 (mSkip) (mExit 4)) (mSeq (mBlock 5 (mR [qGen Γ o65 fun g n e => q_iaddr e 1 (.t 61) (.t 63), qLd1 o66 r65, qMv o8 r66] (mO [qMv o67 r2, qMv o68 r8, qCall call yl o69 (rcf 88) [(rcf 96)], qGen Γ o70 fun g n e => q_build e [(iN 0), .nilf, .nilf] [(0, 1, (.c (iN 2))), (1, 1, (.f 95)), (2, 1, (.t 69))], qGen Γ none fun g n e => q_mupd g e (.leaf .i) (.t 67) (.t 68) (.t 70)]))) (mO [qBin o71 biAdd (bsOf .add) r63 (rN 1), qMv o63 r71]))))))) (mSeq (mR [qGen Γ o72 fun g n e => q_bslice n e 1 [(.i .u8 (.ofNat 0)), (.i .u8 (.ofNat 0)), (.i .u8 (.ofNat 0))] [(0, 1, (.c (.i .u8 (.ofNat 98)))), (1, 1, (.c (.i .u8 (.ofNat 116)))), (2, 1, (.c (.i .u8 (.ofNat 84))))] 3, qGen Γ o73 fun g n e => q_mrk g e (.t 72), qGen Γ o74 fun g n e => q_lenL e (.t 73), qMv o75 (rN 0)] (mBlock 6 (mLoop L (mR [qBin o76 biLss (bsOf .lss) r75 r74] (mSeq (mCond r76 (mSkip) (mExit 6)) (mSeq (mBlock 7 (mR [qGen Γ o77 fun g n e => q_iaddr e 1 (.t 73) (.t 75), qLd1 o78 r77, qMv o10 r78] (mO [qMv o79 r2, qMv o80 r10, qCall call yl o81 (rcf 87) [(rc (.s (bs [59, 125]))), rT], qCall call yl o82 (rcf 88) [(rcf 97)], qGen Γ o83 fun g n e => q_build e [(iN 0), .nilf, .nilf] [(0, 1, (.c (iN 2))), (1, 1, (.t 81)), (2, 1, (.t 82))], qGen Γ none fun g n e => q_mupd g e (.leaf .i) (.t 79) (.t 80) (.t 83)]))) (mO [qBin o84 biAdd (bsOf .add) r75 (rN 1), qMv o75 r84]))))))) (mSeq (mR [qGen Γ o85 fun g n e => q_bslice n e 1 [(.i .u8 (.ofNat 0)), (.i .u8 (.ofNat 0)), (.i .u8 (.ofNat 0)), (.i .u8 (.ofNat 0))] [(0, 1, (.c (.i .u8 (.ofNat 114)))), (1, 1, (.c (.i .u8 (.ofNat 82)))), (2, 1, (.c (.i .u8 (.ofNat 119)))), (3, 1, (.c (.i .u8 (.ofNat 87))))] 4, qGen Γ o86 fun g n e => q_mrk g e (.t 85), qGen Γ o87 fun g n e => q_lenL e (.t 86), qMv o88 (rN 0)] (mBlock 8 (mLoop L (mR [qBin o89 biLss (bsOf .lss) r88 r87] (mSeq (mCond r89 (mSkip) (mExit 8)) (mSeq (mBlock 9 (mR [qGen Γ o90 fun g n e => q_iaddr e 1 (.t 86) (.t 88), qLd1 o91 r90, qMv o12 r91] (mO [qMv o92 r2, qMv o93 r12, qCall call yl o94 (rcf 88) [(rcf 100)], qGen Γ o95 fun g n e => q_build e [(iN 0), .nilf, .nilf] [(0, 1, (.c (iN 2))), (1, 1, (.f 98)), (2, 1, (.t 94))], qGen Γ none fun g n e => q_mupd g e (.leaf .i) (.t 92) (.t 93) (.t 95)]))) (mO [qBin o96 biAdd (bsOf .add) r88 (rN 1), qMv o88 r96]))))))) (mR [qMv o97 r2, qMv o0 r97] (mRet)))))))))⟩
theorem C48_eq : xq Tryz.f48 = some C48 := by kernel_rfl
theorem C48_wf : xw Tryz.f48 = some true := by kernel_rfl
noncomputable def C49 : CFn := ⟨5, [.t 2], fun P Γ call yl qs L => mR [qMv o2 (rN 0)] (mR [qMv o3 r0, qCall call yl o4 (rcf 101) [r3, (rN 0)], qMv o2 r4] (mRet))⟩
theorem C49_eq : xq Tryz.f49 = some C49 := by kernel_rfl
theorem C49_wf : xw Tryz.f49 = some true := by kernel_rfl
noncomputable def C50 : CFn := ⟨9, [.t 2], fun P Γ call yl qs L => mR [qMv o2 rF] (mR [qMv o3 r0, qBin o4 biEql (bsOf .eql) r3 (rN 32), qMv o5 r4, qG 5 false o6 (qMv o6 r0), qG 5 false o7 (qBin o7 biEql (bsOf .eql) r6 (rN 9)), qPick o8 r5 rT r7, qMv o2 r8] (mRet))⟩
theorem C50_eq : xq Tryz.f50 = some C50 := by kernel_rfl
theorem C50_wf : xw Tryz.f50 = some true := by kernel_rfl
noncomputable def C51 : CFn := ⟨53, [.t 4], fun P Γ call yl qs L => mR [qMv o4 (rc (.s (bs [])))] (mSeq (mDraw Γ call [⟨o6, .mv (.t 0), none⟩, ⟨o7, .nilchk (.t 6), none⟩, ⟨o8, .faddr 0 (.t 7), none⟩, ⟨o9, .ld false 1 (.t 8), none⟩, ⟨o10, .mv (.t 0), none⟩, ⟨o11, .nilchk (.t 10), none⟩, ⟨o12, .faddr 1 (.t 11), none⟩, ⟨o13, .ld false 1 (.t 12), none⟩, ⟨o14, .slcS (.t 9) (some (.t 13)) none, none⟩, ⟨o15, .mv (.t 1), none⟩, ⟨o16, .bin .add (.c (.s (bs [10]))) (.t 15), none⟩, ⟨o17, .call (.f 102) [(.t 14), (.t 16)], none⟩, ⟨o5, .mv (.t 17), none⟩] [⟨[], 0, 0⟩, ⟨[0], 0, 0⟩, ⟨[1, 0], 0, 0⟩, ⟨[2, 1, 0], 0, 0⟩, ⟨[], 0, 0⟩, ⟨[4], 0, 0⟩, ⟨[5, 4], 0, 0⟩, ⟨[6, 5, 4], 0, 0⟩, ⟨[3, 7, 2, 1, 0, 6, 5, 4], 0, 0⟩, ⟨[], 0, 0⟩, ⟨[9], 0, 0⟩, ⟨[8, 10, 3, 7, 2, 1, 0, 6, 5, 4, 9], 0, 0⟩, ⟨[11, 0, 1, 2, 3, 4, 5, 6, 7, 8, 9, 10], 1, 1⟩]) (mSeq (mR [qMv o18 r5, qBin o19 biLss (bsOf .lss) r18 (rN 0)] (mCond r19 (mDraw Γ call [⟨o20, .mv (.t 0), none⟩, ⟨o21, .nilchk (.t 20), none⟩, ⟨o22, .faddr 0 (.t 21), none⟩, ⟨o23, .ld false 1 (.t 22), none⟩, ⟨o24, .lenS (.t 23), none⟩, ⟨o25, .mv (.t 0), none⟩, ⟨o26, .nilchk (.t 25), none⟩, ⟨o27, .faddr 1 (.t 26), none⟩, ⟨o28, .ld false 1 (.t 27), none⟩, ⟨o29, .bin .sub (.t 24) (.t 28), none⟩, ⟨o5, .mv (.t 29), none⟩] [⟨[], 0, 0⟩, ⟨[0], 0, 0⟩, ⟨[1, 0], 0, 0⟩, ⟨[2, 1, 0], 0, 0⟩, ⟨[3, 2, 1, 0], 0, 0⟩, ⟨[], 0, 0⟩, ⟨[5], 0, 0⟩, ⟨[6, 5], 0, 0⟩, ⟨[7, 6, 5], 0, 0⟩, ⟨[4, 8, 3, 2, 1, 0, 7, 6, 5], 0, 0⟩, ⟨[9, 0, 1, 2, 3, 4, 5, 6, 7, 8], 0, 0⟩]) (mSkip))) (mR [qMv o30 r0, qNil o31 r30, qFaddr o32 1 r31, qLd1 o33 r32, qMv o34 r5, qBin o35 biAdd (bsOf .add) r33 r34, qNil o36 r30, qFaddr o37 1 r36, qSt none 1 r37 r35] (mSeq (mDraw Γ call [⟨o38, .mv (.t 0), none⟩, ⟨o39, .nilchk (.t 38), none⟩, ⟨o40, .faddr 0 (.t 39), none⟩, ⟨o41, .ld false 1 (.t 40), none⟩, ⟨o42, .mv (.t 0), none⟩, ⟨o43, .nilchk (.t 42), none⟩, ⟨o44, .faddr 1 (.t 43), none⟩, ⟨o45, .ld false 1 (.t 44), none⟩, ⟨o46, .mv (.t 5), none⟩, ⟨o47, .bin .sub (.t 45) (.t 46), none⟩, ⟨o48, .mv (.t 0), none⟩, ⟨o49, .nilchk (.t 48), none⟩, ⟨o50, .faddr 1 (.t 49), none⟩, ⟨o51, .ld false 1 (.t 50), none⟩, ⟨o52, .slcS (.t 41) (some (.t 47)) (some (.t 51)), none⟩, ⟨o4, .mv (.t 52), none⟩] [⟨[], 0, 0⟩, ⟨[0], 0, 0⟩, ⟨[1, 0], 0, 0⟩, ⟨[2, 1, 0], 0, 0⟩, ⟨[], 0, 0⟩, ⟨[4], 0, 0⟩, ⟨[5, 4], 0, 0⟩, ⟨[6, 5, 4], 0, 0⟩, ⟨[], 0, 0⟩, ⟨[7, 8, 6, 5, 4], 0, 0⟩, ⟨[], 0, 0⟩, ⟨[10], 0, 0⟩, ⟨[11, 10], 0, 0⟩, ⟨[12, 11, 10], 0, 0⟩, ⟨[3, 9, 13, 2, 1, 0, 7, 8, 6, 5, 4, 12, 11, 10], 0, 0⟩, ⟨[14, 0, 1, 2, 3, 4, 5, 6, 7, 8, 9, 10, 11, 12, 13], 0, 0⟩]) (mRet)))))⟩
theorem C51_eq : xq Tryz.f51 = some C51 := by kernel_rfl
theorem C51_wf : xw Tryz.f51 = some true := by kernel_rfl
noncomputable def C52 : CFn := ⟨148, [], fun P Γ call yl qs L => mR [qMv o6 r0, qCall call yl o7 (rcf 103) [r6], qAlloc o2 [(iN 0), (.i .u8 (.ofNat 0)), (iN 0), (iN 0), (.s (bs [])), (.b false), (.b false), (.i .u8 (.ofNat 0)), (.i .u64 (.ofNat 0)), (.i .u64 (.ofNat 0)), (.i .u64 (.ofNat 0)), (.i .u64 (.ofNat 0)), (iN 0), (iN 0), (iN 0), .nils, (.i .u8 (.ofNat 0)), (iN 0), (iN 0), (.s (bs [])), (.b false), (.b false), (.i .u8 (.ofNat 0)), (.i .u64 (.ofNat 0)), (.i .u64 (.ofNat 0)), (.i .u64 (.ofNat 0)), (.i .u64 (.ofNat 0)), (iN 0), (iN 0), (iN 0), .nils, (.b false), (.i .u8 (.ofNat 0)), (.s (bs [])), (.s (bs [])), (iN 0), (.s (bs [])), (.b false), (.b false), (.i .u8 (.ofNat 0)), (.i .u64 (.ofNat 0)), (.i .u64 (.ofNat 0)), (.i .u64 (.ofNat 0)), (.i .u64 (.ofNat 0)), (iN 0), (iN 0), (iN 0), .nils, .nils, (iN 0), (.b false), (.b false), (.b false), (.s (bs []))] 0, qSt none 54 r2 r7] (mR [qMv o8 r0, qCall call yl o9 (rcf 49) [r8], qMv o3 r9] (mR [qMv o11 r0, qNil o12 r11, qFaddr o13 5 r12, qLd1 o14 r13, qMv o15 r3, qGen Γ o16 fun g n e => q_mx e [(.t 15), (.c (iN 0))], qConvI o17 .u8 r16, qGen Γ o18 fun g n e => q_look g e (.leaf .i) (.agg [(iN 0), .nilf, .nilf]) true (.t 14) (.t 17), qMv o10 r18, qGen Γ o19 fun g n e => q_ext e (.t 10) 0, qGen Γ o20 fun g n e => q_ext e (.t 10) 1, qAlloc o4 [(iN 0), .nilf, .nilf] 0, qSt none 3 r4 r19, qMv o5 r20] (mSeq (mR [qMv o21 r3, qBin o22 biLss (bsOf .lss) r21 (rN 0), qMv o23 r22, qG 23 false o24 (qMv o24 r5), qG 23 false o25 (qGen Γ o25 fun g n e => q_un e .not (.t 24)), qPick o26 r23 rT r25] (mCond r26 (mO [qMv o27 r0, qMv o28 r0, qNil o29 r28, qFaddr o30 1 r29, qLd1 o31 r30, qCall call yl o32 (rcf 54) [r27, (rN 1), r31]]) (mSkip))) (mR [qMv o33 r0, qNil o34 r33, qFaddr o35 1 r34, qLd1 o36 r35, qMv o37 r3, qConvI o38 .u8 r37, qFaddr o39 0 r2, qSt none 1 r39 r36, qFaddr o40 32 r2, qSt none 1 r40 r38] (mR [qMv o41 r0, qNil o42 r41, qFaddr o43 1 r42, qLd1 o44 r43, qBin o45 biAdd (bsOf .add) r44 (rN 1), qNil o46 r41, qFaddr o47 1 r46, qSt none 1 r47 r45] (mSeq (mR [qMv o48 r0, qNil o49 r48, qFaddr o50 3 r49, qLd1 o51 r50, qGen Γ o52 fun g n e => q_lenL e (.t 51), qBin o53 biEql (bsOf .eql) r52 (rN 4096)] (mCond r53 (mO [qMv o54 r0, qFaddr o55 0 r2, qLd1 o56 r55, qCall call yl o57 (rcf 54) [r54, (rN 20), r56]]) (mSkip))) (mSeq (mR [qFaddr o58 0 r4, qLd1 o59 r58, qBin o60 biEql (bsOf .eql) r59 (rN 0), qMv o61 r60, qG 61 true o62 (qFaddr o62 1 r2), qG 61 true o63 (qFaddr o63 0 r62), qG 61 true o64 (qLd1 o64 r63), qG 61 true o65 (qBin o65 biNeq (bsOf .neq) r64 (rc (.i .u8 (.ofNat 0)))), qG 61 true o66 (qMv o66 r65), qG 66 false o67 (qFaddr o67 31 r2), qG 66 false o68 (qLd1 o68 r67), qG 61 true o69 (qPick o69 r66 rT r68), qPick o70 r61 r69 rF, qMv o71 r70, qG 71 false o72 (qFaddr o72 0 r4), qG 71 false o73 (qLd1 o73 r72), qG 71 false o74 (qBin o74 biEql (bsOf .eql) r73 (rN 1)), qG 71 false o75 (qMv o75 r74), qG 75 true o76 (qFaddr o76 16 r2), qG 75 true o77 (qFaddr o77 0 r76), qG 75 true o78 (qLd1 o78 r77), qG 75 true o79 (qBin o79 biNeq (bsOf .neq) r78 (rc (.i .u8 (.ofNat 0)))), qG 71 false o80 (qPick o80 r75 r79 rF), qPick o81 r71 rT r80] (mCond r81 (mO [qMv o82 r0, qFaddr o83 0 r2, qLd1 o84 r83, qCall call yl o85 (rcf 54) [r82, (rN 4), r84]]) (mSkip))) (mSeq (mBlock 0 (mR [qMv o87 r3, qBin o88 biEql (bsOf .eql) r87 (rN 125), qMv o89 r88, qG 89 true o90 (qMv o90 r0), qG 89 true o91 (qNil o91 r90), qG 89 true o92 (qFaddr o92 4 r91), qG 89 true o93 (qLd1 o93 r92), qG 89 true o94 (qBin o94 biEql (bsOf .eql) r93 (rN 0)), qPick o95 r89 r94 rF, qMv o86 r95] (mCond r86 (mO [qMv o96 r0, qFaddr o97 0 r2, qLd1 o98 r97, qCall call yl o99 (rcf 54) [r96, (rN 7), r98]]) (mR [qMv o101 r3, qBin o102 biEql (bsOf .eql) r101 (rN 125), qMv o100 r102] (mCond r100 (mO [qMv o103 r0, qNil o104 r103, qFaddr o105 4 r104, qLd1 o106 r105, qBin o107 biSub (bsOf .sub) r106 (rN 1), qNil o108 r103, qFaddr o109 4 r108, qSt none 1 r109 r107]) (mR [qMv o111 r3, qBin o112 biEql (bsOf .eql) r111 (rN 123), qMv o113 r112, qG 113 true o114 (qMv o114 r0), qG 113 true o115 (qNil o115 r114), qG 113 true o116 (qFaddr o116 4 r115), qG 113 true o117 (qLd1 o117 r116), qG 113 true o118 (qBin o118 biEql (bsOf .eql) r117 (rN 64)), qPick o119 r113 r118 rF, qMv o110 r119] (mCond r110 (mO [qMv o120 r0, qFaddr o121 0 r2, qLd1 o122 r121, qCall call yl o123 (rcf 54) [r120, (rN 19), r122]]) (mR [qMv o125 r3, qBin o126 biEql (bsOf .eql) r125 (rN 123), qMv o124 r126] (mCond r124 (mO [qMv o127 r0, qNil o128 r127, qFaddr o129 4 r128, qLd1 o130 r129, qBin o131 biAdd (bsOf .add) r130 (rN 1), qNil o132 r127, qFaddr o133 4 r132, qSt none 1 r133 r131]) (mSkip)))))))))) (mR [qFaddr o134 1 r4, qLd1 o135 r134, qMv o136 r0, qCall call yl o137 r135 [r136, r2]] (mDraw Γ call [⟨o138, .mv (.t 0), none⟩, ⟨o139, .mv (.t 0), none⟩, ⟨o140, .nilchk (.t 139), none⟩, ⟨o141, .faddr 3 (.t 140), none⟩, ⟨o142, .ld false 1 (.t 141), none⟩, ⟨o143, .ld true 54 (.t 2), none⟩, ⟨o144, .bslice 54 [(iN 0), (.i .u8 (.ofNat 0)), (iN 0), (iN 0), (.s (bs [])), (.b false), (.b false), (.i .u8 (.ofNat 0)), (.i .u64 (.ofNat 0)), (.i .u64 (.ofNat 0)), (.i .u64 (.ofNat 0)), (.i .u64 (.ofNat 0)), (iN 0), (iN 0), (iN 0), .nils, (.i .u8 (.ofNat 0)), (iN 0), (iN 0), (.s (bs [])), (.b false), (.b false), (.i .u8 (.ofNat 0)), (.i .u64 (.ofNat 0)), (.i .u64 (.ofNat 0)), (.i .u64 (.ofNat 0)), (.i .u64 (.ofNat 0)), (iN 0), (iN 0), (iN 0), .nils, (.b false), (.i .u8 (.ofNat 0)), (.s (bs [])), (.s (bs [])), (iN 0), (.s (bs [])), (.b false), (.b false), (.i .u8 (.ofNat 0)), (.i .u64 (.ofNat 0)), (.i .u64 (.ofNat 0)), (.i .u64 (.ofNat 0)), (.i .u64 (.ofNat 0)), (iN 0), (iN 0), (iN 0), .nils, .nils, (iN 0), (.b false), (.b false), (.b false), (.s (bs []))] [(0, 54, (.t 143))] 1, none⟩, ⟨o145, .app 54 496 0 (.t 142) (.t 144), none⟩, ⟨o146, .nilchk (.t 138), none⟩, ⟨o147, .faddr 3 (.t 146), none⟩, ⟨none, .st 1 (.t 147) (.t 145), none⟩] [⟨[], 0, 1⟩, ⟨[], 0, 0⟩, ⟨[1], 0, 0⟩, ⟨[2, 1], 0, 0⟩, ⟨[3, 2, 1], 0, 0⟩, ⟨[], 0, 0⟩, ⟨[5], 0, 0⟩, ⟨[4, 6, 3, 2, 1, 5], 0, 0⟩, ⟨[0, 1, 2, 3, 4, 5, 6, 7], 1, 1⟩, ⟨[8, 0, 1, 2, 3, 4, 5, 6, 7], 1, 1⟩, ⟨[9, 7, 0, 1, 2, 3, 4, 5, 6, 8], 1, 1⟩]))))))))))⟩
theorem C52_eq : xq Tryz.f52 = some C52 := by kernel_rfl
theorem C52_wf : xw Tryz.f52 = some true := by kernel_rfl
noncomputable def C53 : CFn := ⟨98, [.t 2, .t 3], fun P Γ call yl qs L => mR [qMv o2 (rN 0), qMv o3 (rN 0)] (mR [qMv o4 (rc .nils)] (mSeq (mR [qMv o12 r0, qGen Γ o13 fun g n e => q_lenL e (.t 12), qMv o14 (rN 0)] (mBlock 0 (mLoop L (mR [qBin o15 biLss (bsOf .lss) r14 r13] (mSeq (mCond r15 (mSkip) (mExit 0)) (mSeq (mBlock 1 (mR [qMv o16 r14, qGen Γ o17 fun g n e => q_iaddr e 54 (.t 12) (.t 14), qLdA o18 54 r17, qAlloc o6 [(iN 0), (.i .u8 (.ofNat 0)), (iN 0), (iN 0), (.s (bs [])), (.b false), (.b false), (.i .u8 (.ofNat 0)), (.i .u64 (.ofNat 0)), (.i .u64 (.ofNat 0)), (.i .u64 (.ofNat 0)), (.i .u64 (.ofNat 0)), (iN 0), (iN 0), (iN 0), .nils, (.i .u8 (.ofNat 0)), (iN 0), (iN 0), (.s (bs [])), (.b false), (.b false), (.i .u8 (.ofNat 0)), (.i .u64 (.ofNat 0)), (.i .u64 (.ofNat 0)), (.i .u64 (.ofNat 0)), (.i .u64 (.ofNat 0)), (iN 0), (iN 0), (iN 0), .nils, (.b false), (.i .u8 (.ofNat 0)), (.s (bs [])), (.s (bs [])), (iN 0), (.s (bs [])), (.b false), (.b false), (.i .u8 (.ofNat 0)), (.i .u64 (.ofNat 0)), (.i .u64 (.ofNat 0)), (.i .u64 (.ofNat 0)), (.i .u64 (.ofNat 0)), (iN 0), (iN 0), (iN 0), .nils, .nils, (iN 0), (.b false), (.b false), (.b false), (.s (bs []))] 0, qMv o5 r16, qSt none 54 r6 r18] (mR [qFaddr o19 32 r6, qLd1 o20 r19] (mBlock 2 (mR [qBin o22 biEql (bsOf .eql) r20 (rc (.i .u8 (.ofNat 123))), qMv o21 r22] (mCond r21 (mO [qMv o23 r4, qMv o24 r5, qGen Γ o25 fun g n e => q_bslice n e 1 [(iN 0)] [(0, 1, (.t 24))] 1, qGen Γ o26 fun g n e => q_app g n e 1 8 0 (.t 23) (.t 25), qMv o4 r26]) (mR [qBin o28 biEql (bsOf .eql) r20 (rc (.i .u8 (.ofNat 125))), qMv o27 r28] (mCond r27 (mO [qMv o29 r4, qMv o30 r4, qGen Γ o31 fun g n e => q_lenL e (.t 30), qBin o32 biSub (bsOf .sub) r31 (rN 1), qGen Γ o33 fun g n e => q_slc e 1 (.t 29) none (some (.t 32)), qMv o4 r33]) (mSkip))))))))) (mO [qBin o34 biAdd (bsOf .add) r14 (rN 1), qMv o14 r34]))))))) (mSeq (mR [qMv o35 r4, qGen Γ o36 fun g n e => q_lenL e (.t 35), qBin o37 biGtr (bsOf .gtr) r36 (rN 0)] (mCond r37 (mSeq (mDraw Γ call [⟨o38, .mv (.t 4), none⟩, ⟨o39, .iaddr 1 (.t 38) (.c (iN 0)), none⟩, ⟨o40, .ld false 1 (.t 39), none⟩, ⟨o2, .mv (.c (iN 8)), none⟩, ⟨o3, .mv (.t 40), none⟩] [⟨[], 0, 0⟩, ⟨[0], 0, 0⟩, ⟨[1, 0], 0, 0⟩, ⟨[], 0, 0⟩, ⟨[2, 3, 0, 1], 0, 0⟩]) (mRet)) (mSkip))) (mR [qGen Γ o41 fun g n e => q_mkmap n , qMv o7 r41] (mSeq (mR [qMv o42 r0, qGen Γ o43 fun g n e => q_lenL e (.t 42), qMv o44 (rN 0)] (mBlock 3 (mLoop L (mR [qBin o45 biLss (bsOf .lss) r44 r43] (mSeq (mCond r45 (mSkip) (mExit 3)) (mSeq (mBlock 4 (mR [qMv o46 r44, qGen Γ o47 fun g n e => q_iaddr e 54 (.t 42) (.t 44), qLdA o48 54 r47, qAlloc o9 [(iN 0), (.i .u8 (.ofNat 0)), (iN 0), (iN 0), (.s (bs [])), (.b false), (.b false), (.i .u8 (.ofNat 0)), (.i .u64 (.ofNat 0)), (.i .u64 (.ofNat 0)), (.i .u64 (.ofNat 0)), (.i .u64 (.ofNat 0)), (iN 0), (iN 0), (iN 0), .nils, (.i .u8 (.ofNat 0)), (iN 0), (iN 0), (.s (bs [])), (.b false), (.b false), (.i .u8 (.ofNat 0)), (.i .u64 (.ofNat 0)), (.i .u64 (.ofNat 0)), (.i .u64 (.ofNat 0)), (.i .u64 (.ofNat 0)), (iN 0), (iN 0), (iN 0), .nils, (.b false), (.i .u8 (.ofNat 0)), (.s (bs [])), (.s (bs [])), (iN 0), (.s (bs [])), (.b false), (.b false), (.i .u8 (.ofNat 0)), (.i .u64 (.ofNat 0)), (.i .u64 (.ofNat 0)), (.i .u64 (.ofNat 0)), (.i .u64 (.ofNat 0)), (iN 0), (iN 0), (iN 0), .nils, .nils, (iN 0), (.b false), (.b false), (.b false), (.s (bs []))] 0, qMv o8 r46, qSt none 54 r9 r48] (mR [qFaddr o49 32 r9, qLd1 o50 r49, qBin o51 biEql (bsOf .eql) r50 (rc (.i .u8 (.ofNat 58)))] (mCond r51 (mR [qMv o52 r7, qFaddr o53 33 r9, qLd1 o54 r53, qGen Γ o55 fun g n e => q_look g e (.leaf .s) (iN 0) false (.t 52) (.t 54), qBin o56 biAdd (bsOf .add) r55 (rN 1), qGen Γ none fun g n e => q_mupd g e (.leaf .s) (.t 52) (.t 54) (.t 56)] (mR [qMv o57 r7, qFaddr o58 33 r9, qLd1 o59 r58, qGen Γ o60 fun g n e => q_look g e (.leaf .s) (iN 0) false (.t 57) (.t 59), qBin o61 biGtr (bsOf .gtr) r60 (rN 1)] (mCond r61 (mR [qMv o62 r8, qMv o2 (rN 10), qMv o3 r62] (mRet)) (mSkip)))) (mSkip))))) (mO [qBin o63 biAdd (bsOf .add) r44 (rN 1), qMv o44 r63]))))))) (mSeq (mR [qMv o64 r0, qGen Γ o65 fun g n e => q_lenL e (.t 64), qMv o66 (rN 0)] (mBlock 5 (mLoop L (mR [qBin o67 biLss (bsOf .lss) r66 r65] (mSeq (mCond r67 (mSkip) (mExit 5)) (mSeq (mBlock 6 (mR [qMv o68 r66, qGen Γ o69 fun g n e => q_iaddr e 54 (.t 64) (.t 66), qLdA o70 54 r69, qAlloc o11 [(iN 0), (.i .u8 (.ofNat 0)), (iN 0), (iN 0), (.s (bs [])), (.b false), (.b false), (.i .u8 (.ofNat 0)), (.i .u64 (.ofNat 0)), (.i .u64 (.ofNat 0)), (.i .u64 (.ofNat 0)), (.i .u64 (.ofNat 0)), (iN 0), (iN 0), (iN 0), .nils, (.i .u8 (.ofNat 0)), (iN 0), (iN 0), (.s (bs [])), (.b false), (.b false), (.i .u8 (.ofNat 0)), (.i .u64 (.ofNat 0)), (.i .u64 (.ofNat 0)), (.i .u64 (.ofNat 0)), (.i .u64 (.ofNat 0)), (iN 0), (iN 0), (iN 0), .nils, (.b false), (.i .u8 (.ofNat 0)), (.s (bs [])), (.s (bs [])), (iN 0), (.s (bs [])), (.b false), (.b false), (.i .u8 (.ofNat 0)), (.i .u64 (.ofNat 0)), (.i .u64 (.ofNat 0)), (.i .u64 (.ofNat 0)), (.i .u64 (.ofNat 0)), (iN 0), (iN 0), (iN 0), .nils, .nils, (iN 0), (.b false), (.b false), (.b false), (.s (bs []))] 0, qMv o10 r68, qSt none 54 r11 r70] (mR [qFaddr o71 32 r11, qLd1 o72 r71, qBin o73 biEql (bsOf .eql) r72 (rc (.i .u8 (.ofNat 98))), qMv o74 r73, qG 74 false o75 (qFaddr o75 32 r11), qG 74 false o76 (qLd1 o76 r75), qG 74 false o77 (qBin o77 biEql (bsOf .eql) r76 (rc (.i .u8 (.ofNat 116)))), qPick o78 r74 rT r77, qMv o79 r78, qG 79 false o80 (qFaddr o80 32 r11), qG 79 false o81 (qLd1 o81 r80), qG 79 false o82 (qBin o82 biEql (bsOf .eql) r81 (rc (.i .u8 (.ofNat 84)))), qPick o83 r79 rT r82, qMv o84 r83, qG 84 true o85 (qFaddr o85 33 r11), qG 84 true o86 (qLd1 o86 r85), qG 84 true o87 (qBin o87 biNeq (bsOf .neq) r86 (rc (.s (bs [])))), qPick o88 r84 r87 rF, qMv o89 r88, qG 89 true o90 (qMv o90 r7), qG 89 true o91 (qFaddr o91 33 r11), qG 89 true o92 (qLd1 o92 r91), qG 89 true o93 (qGen Γ o93 fun g n e => q_look g e (.leaf .s) (iN 0) false (.t 90) (.t 92)), qG 89 true o94 (qBin o94 biEql (bsOf .eql) r93 (rN 0)), qPick o95 r89 r94 rF] (mCond r95 (mR [qMv o96 r10, qMv o2 (rN 11), qMv o3 r96] (mRet)) (mSkip))))) (mO [qBin o97 biAdd (bsOf .add) r66 (rN 1), qMv o66 r97]))))))) (mR [qMv o2 (rN 0), qMv o3 (rN 0)] (mRet))))))))⟩
theorem C53_eq : xq Tryz.f53 = some C53 := by kernel_rfl
theorem C53_wf : xw Tryz.f53 = some true := by kernel_rfl
noncomputable def C55 : CFn := ⟨8, [.t 4], fun P Γ call yl qs L => mR [qMv o4 rF] (mR [qMv o5 r0, qMv o6 r1, qCall call yl o7 (rcf 104) [r5, r6], qMv o4 r7] (mRet))⟩
theorem C55_eq : xq Tryz.f55 = some C55 := by kernel_rfl
theorem C55_wf : xw Tryz.f55 = some true := by kernel_rfl
noncomputable def C56 : CFn := ⟨57, [.t 2, .t 3], fun P Γ call yl qs L => mR [qBox o1 r0, qMv o2 (rN 0), qMv o3 (rN 0)] (mR [qCall call yl o10 (rcf 48) [], qMv o4 r10] (mR [qMv o5 (rN 0)] (mSeq (mR [qFaddr o11 0 r1, qLd1 o12 r11, qGen Γ o13 fun g n e => q_lenL e (.t 12), qMv o14 (rN 0)] (mBlock 0 (mLoop L (mR [qBin o15 biLss (bsOf .lss) r14 r13] (mSeq (mCond r15 (mSkip) (mExit 0)) (mSeq (mBlock 1 (mR [qMv o16 r14, qGen Γ o17 fun g n e => q_iaddr e 54 (.t 12) (.t 14), qLdA o18 54 r17, qAlloc o7 [(iN 0), (.i .u8 (.ofNat 0)), (iN 0), (iN 0), (.s (bs [])), (.b false), (.b false), (.i .u8 (.ofNat 0)), (.i .u64 (.ofNat 0)), (.i .u64 (.ofNat 0)), (.i .u64 (.ofNat 0)), (.i .u64 (.ofNat 0)), (iN 0), (iN 0), (iN 0), .nils, (.i .u8 (.ofNat 0)), (iN 0), (iN 0), (.s (bs [])), (.b false), (.b false), (.i .u8 (.ofNat 0)), (.i .u64 (.ofNat 0)), (.i .u64 (.ofNat 0)), (.i .u64 (.ofNat 0)), (.i .u64 (.ofNat 0)), (iN 0), (iN 0), (iN 0), .nils, (.b false), (.i .u8 (.ofNat 0)), (.s (bs [])), (.s (bs [])), (iN 0), (.s (bs [])), (.b false), (.b false), (.i .u8 (.ofNat 0)), (.i .u64 (.ofNat 0)), (.i .u64 (.ofNat 0)), (.i .u64 (.ofNat 0)), (.i .u64 (.ofNat 0)), (iN 0), (iN 0), (iN 0), .nils, .nils, (iN 0), (.b false), (.b false), (.b false), (.s (bs []))] 0, qMv o6 r16, qSt none 54 r7 r18] (mSeq (mR [qMv o19 r6, qBin o20 biEql (bsOf .eql) r19 (rN 4096), qMv o21 r20, qG 21 false o22 (qLdA o22 54 r7), qG 21 false o23 (qMv o23 r4), qG 21 false o24 (qFaddr o24 2 r1), qG 21 false o25 (qLd1 o25 r24), qG 21 false o26 (qCall call yl o26 (rcf 105) [r22, r23, r25]), qG 21 false o27 (qGen Γ o27 fun g n e => q_un e .not (.t 26)), qPick o28 r21 rT r27] (mCond r28 (mR [qMv o29 r6, qMv o2 (rN 130), qMv o3 r29] (mRet)) (mSkip))) (mSeq (mR [qFaddr o30 32 r7, qLd1 o31 r30] (mBlock 2 (mR [qBin o33 biEql (bsOf .eql) r31 (rc (.i .u8 (.ofNat 123))), qMv o32 r33] (mCond r32 (mO [qMv o34 r5, qBin o35 biAdd (bsOf .add) r34 (rN 1), qMv o5 r35]) (mR [qBin o37 biEql (bsOf .eql) r31 (rc (.i .u8 (.ofNat 125))), qMv o36 r37] (mCond r36 (mO [qMv o38 r5, qBin o39 biSub (bsOf .sub) r38 (rN 1), qMv o5 r39]) (mSkip))))))) (mR [qMv o40 r5, qBin o41 biLss (bsOf .lss) r40 (rN 0), qMv o42 r41, qG 42 false o43 (qMv o43 r5), qG 42 false o44 (qBin o44 biGtr (bsOf .gtr) r43 (rN 64)), qPick o45 r42 rT r44] (mCond r45 (mR [qMv o46 r6, qMv o2 (rN 130), qMv o3 r46] (mRet)) (mSkip))))))) (mO [qBin o47 biAdd (bsOf .add) r14 (rN 1), qMv o14 r47]))))))) (mSeq (mR [qFaddr o49 0 r1, qLd1 o50 r49, qCall call yl o51 (rcf 53) [r50], qMv o48 r51, qGen Γ o52 fun g n e => q_ext e (.t 48) 0, qGen Γ o53 fun g n e => q_ext e (.t 48) 1, qMv o8 r52, qMv o9 r53] (mR [qMv o54 r8, qBin o55 biGtr (bsOf .gtr) r54 (rN 0)] (mCond r55 (mR [qMv o56 r9, qMv o2 (rN 130), qMv o3 r56] (mRet)) (mSkip)))) (mR [qMv o2 (rN 0), qMv o3 (rN 0)] (mRet))))))⟩
theorem C56_eq : xq Tryz.f56 = some C56 := by kernel_rfl
theorem C56_wf : xw Tryz.f56 = some true := by kernel_rfl
noncomputable def C57 : CFn := ⟨126, [.cell 2 true 3], fun P Γ call yl qs L => mR [qBox o1 r0, qAlloc o2 [.nils, (.b false), .nils] 0] (mR [qLdA o12 3 r1, qCall call yl o13 (rcf 106) [r12], qSt none 3 r1 r13] (mSeq (mDraw Γ call [⟨o14, .faddr 1 (.t 1), none⟩, ⟨o15, .ld false 1 (.t 14), none⟩, ⟨o16, .ld true 3 (.t 1), none⟩, ⟨o17, .call (.f 107) [(.t 16)], none⟩, ⟨o18, .build [.nils, (.b false), .nils] [(1, 1, (.t 15)), (2, 1, (.t 17))], none⟩, ⟨o3, .alloc [.nils, (.b false), .nils] 0, none⟩, ⟨none, .st 3 (.t 3) (.t 18), none⟩] [⟨[], 0, 1⟩, ⟨[0], 0, 1⟩, ⟨[], 0, 0⟩, ⟨[2], 0, 0⟩, ⟨[1, 3, 0, 2], 1, 1⟩, ⟨[], 0, 1⟩, ⟨[5, 4, 3, 0, 1, 2], 1, 1⟩]) (mR [qGen Γ o19 fun g n e => q_mkmap n , qMv o4 r19] (mR [qMv o5 (rc .nils)] (mSeq (mR [qFaddr o20 0 r1, qLd1 o21 r20, qGen Γ o22 fun g n e => q_lenL e (.t 21), qMv o23 (rN 0)] (mBlock 0 (mLoop L (mR [qBin o24 biLss (bsOf .lss) r23 r22] (mSeq (mCond r24 (mSkip) (mExit 0)) (mSeq (mBlock 1 (mR [qGen Γ o25 fun g n e => q_iaddr e 54 (.t 21) (.t 23), qLdA o26 54 r25, qAlloc o7 [(iN 0), (.i .u8 (.ofNat 0)), (iN 0), (iN 0), (.s (bs [])), (.b false), (.b false), (.i .u8 (.ofNat 0)), (.i .u64 (.ofNat 0)), (.i .u64 (.ofNat 0)), (.i .u64 (.ofNat 0)), (.i .u64 (.ofNat 0)), (iN 0), (iN 0), (iN 0), .nils, (.i .u8 (.ofNat 0)), (iN 0), (iN 0), (.s (bs [])), (.b false), (.b false), (.i .u8 (.ofNat 0)), (.i .u64 (.ofNat 0)), (.i .u64 (.ofNat 0)), (.i .u64 (.ofNat 0)), (.i .u64 (.ofNat 0)), (iN 0), (iN 0), (iN 0), .nils, (.b false), (.i .u8 (.ofNat 0)), (.s (bs [])), (.s (bs [])), (iN 0), (.s (bs [])), (.b false), (.b false), (.i .u8 (.ofNat 0)), (.i .u64 (.ofNat 0)), (.i .u64 (.ofNat 0)), (.i .u64 (.ofNat 0)), (.i .u64 (.ofNat 0)), (iN 0), (iN 0), (iN 0), .nils, .nils, (iN 0), (.b false), (.b false), (.b false), (.s (bs []))] 0, qSt none 54 r7 r26] (mSeq (mR [qFaddr o27 32 r7, qLd1 o28 r27] (mBlock 2 (mR [qBin o30 biEql (bsOf .eql) r28 (rc (.i .u8 (.ofNat 58))), qMv o29 r30] (mCond r29 (mR [qMv o31 r4, qFaddr o32 33 r7, qLd1 o33 r32, qFaddr o34 0 r3, qLd1 o35 r34, qGen Γ o36 fun g n e => q_lenL e (.t 35), qGen Γ none fun g n e => q_mupd g e (.leaf .s) (.t 31) (.t 33) (.t 36)] (mExit 1)) (mR [qBin o38 biEql (bsOf .eql) r28 (rc (.i .u8 (.ofNat 125))), qMv o37 r38] (mCond r37 (mSeq (mDraw Γ call [⟨o39, .faddr 0 (.t 3), none⟩, ⟨o40, .ld false 1 (.t 39), none⟩, ⟨o41, .mv (.t 5), none⟩, ⟨o42, .mv (.t 5), none⟩, ⟨o43, .lenL (.t 42), none⟩, ⟨o44, .bin .sub (.t 43) (.c (iN 1)), none⟩, ⟨o45, .iaddr 1 (.t 41) (.t 44), none⟩, ⟨o46, .ld false 1 (.t 45), none⟩, ⟨o47, .faddr 0 (.t 3), none⟩, ⟨o48, .ld false 1 (.t 47), none⟩, ⟨o49, .lenL (.t 48), none⟩, ⟨o50, .iaddr 55 (.t 40) (.t 46), none⟩, ⟨o51, .faddr 54 (.t 50), none⟩, ⟨none, .st 1 (.t 51) (.t 49), none⟩] [⟨[], 0, 0⟩, ⟨[0], 0, 0⟩, ⟨[], 0, 0⟩, ⟨[], 0, 0⟩, ⟨[3], 0, 0⟩, ⟨[4, 3], 0, 0⟩, ⟨[2, 5, 4, 3], 0, 0⟩, ⟨[6, 2, 5, 4, 3], 0, 0⟩, ⟨[], 0, 0⟩, ⟨[8], 0, 0⟩, ⟨[9, 8], 0, 0⟩, ⟨[1, 7, 0, 2, 3, 4, 5, 6, 8, 9, 10], 0, 0⟩, ⟨[11, 0, 1, 2, 3, 4, 5, 6, 7, 8, 9, 10], 0, 0⟩, ⟨[12, 10, 0, 1, 2, 3, 4, 5, 6, 7, 8, 9, 11], 0, 0⟩]) (mR [qMv o52 r5, qMv o53 r5, qGen Γ o54 fun g n e => q_lenL e (.t 53), qBin o55 biSub (bsOf .sub) r54 (rN 1), qGen Γ o56 fun g n e => q_slc e 1 (.t 52) none (some (.t 55)), qMv o5 r56] (mExit 1))) (mR [qBin o58 biEql (bsOf .eql) r28 (rc (.i .u8 (.ofNat 123))), qMv o57 r58] (mCond r57 (mO [qMv o59 r5, qFaddr o60 0 r3, qLd1 o61 r60, qGen Γ o62 fun g n e => q_lenL e (.t 61), qGen Γ o63 fun g n e => q_bslice n e 1 [(iN 0)] [(0, 1, (.t 62))] 1, qGen Γ o64 fun g n e => q_app g n e 1 8 0 (.t 59) (.t 63), qMv o5 r64]) (mSkip))))))))) (mO [qFaddr o65 0 r3, qLd1 o66 r65, qLdA o67 54 r7, qGen Γ o68 fun g n e => q_build e [(iN 0), (.i .u8 (.ofNat 0)), (iN 0), (iN 0), (.s (bs [])), (.b false), (.b false), (.i .u8 (.ofNat 0)), (.i .u64 (.ofNat 0)), (.i .u64 (.ofNat 0)), (.i .u64 (.ofNat 0)), (.i .u64 (.ofNat 0)), (iN 0), (iN 0), (iN 0), .nils, (.i .u8 (.ofNat 0)), (iN 0), (iN 0), (.s (bs [])), (.b false), (.b false), (.i .u8 (.ofNat 0)), (.i .u64 (.ofNat 0)), (.i .u64 (.ofNat 0)), (.i .u64 (.ofNat 0)), (.i .u64 (.ofNat 0)), (iN 0), (iN 0), (iN 0), .nils, (.b false), (.i .u8 (.ofNat 0)), (.s (bs [])), (.s (bs [])), (iN 0), (.s (bs [])), (.b false), (.b false), (.i .u8 (.ofNat 0)), (.i .u64 (.ofNat 0)), (.i .u64 (.ofNat 0)), (.i .u64 (.ofNat 0)), (.i .u64 (.ofNat 0)), (iN 0), (iN 0), (iN 0), .nils, .nils, (iN 0), (.b false), (.b false), (.b false), (.s (bs [])), (iN 0)] [(0, 54, (.t 67))], qGen Γ o69 fun g n e => q_bslice n e 55 [(iN 0), (.i .u8 (.ofNat 0)), (iN 0), (iN 0), (.s (bs [])), (.b false), (.b false), (.i .u8 (.ofNat 0)), (.i .u64 (.ofNat 0)), (.i .u64 (.ofNat 0)), (.i .u64 (.ofNat 0)), (.i .u64 (.ofNat 0)), (iN 0), (iN 0), (iN 0), .nils, (.i .u8 (.ofNat 0)), (iN 0), (iN 0), (.s (bs [])), (.b false), (.b false), (.i .u8 (.ofNat 0)), (.i .u64 (.ofNat 0)), (.i .u64 (.ofNat 0)), (.i .u64 (.ofNat 0)), (.i .u64 (.ofNat 0)), (iN 0), (iN 0), (iN 0), .nils, (.b false), (.i .u8 (.ofNat 0)), (.s (bs [])), (.s (bs [])), (iN 0), (.s (bs [])), (.b false), (.b false), (.i .u8 (.ofNat 0)), (.i .u64 (.ofNat 0)), (.i .u64 (.ofNat 0)), (.i .u64 (.ofNat 0)), (.i .u64 (.ofNat 0)), (iN 0), (iN 0), (iN 0), .nils, .nils, (iN 0), (.b false), (.b false), (.b false), (.s (bs [])), (iN 0)] [(0, 55, (.t 68))] 1, qGen Γ o70 fun g n e => q_app g n e 55 504 0 (.t 66) (.t 69), qFaddr o71 0 r3, qSt none 1 r71 r70])))) (mO [qBin o72 biAdd (bsOf .add) r23 (rN 1), qMv o23 r72]))))))) (mSeq (mR [qFaddr o73 0 r3, qLd1 o74 r73, qGen Γ o75 fun g n e => q_lenL e (.t 74), qMv o76 (rN 0)] (mBlock 3 (mLoop L (mR [qBin o77 biLss (bsOf .lss) r76 r75] (mSeq (mCond r77 (mSkip) (mExit 3)) (mSeq (mBlock 4 (mR [qMv o78 r76, qMv o8 r78] (mR [qFaddr o79 0 r3, qLd1 o80 r79, qMv o81 r8, qGen Γ o82 fun g n e => q_iaddr e 55 (.t 80) (.t 81), qFaddr o83 0 r82, qMv o9 r83] (mSeq (mR [qMv o84 r9, qNil o85 r84, qFaddr o86 32 r85, qLd1 o87 r86, qCall call yl o88 (rcf 108) [r87], qGen Γ o89 fun g n e => q_un e .not (.t 88)] (mCond r89 (mExit 4) (mSkip))) (mR [qFaddr o90 0 r3, qLd1 o91 r90, qMv o92 r8, qFaddr o93 0 r3, qLd1 o94 r93, qGen Γ o95 fun g n e => q_lenL e (.t 94), qGen Γ o96 fun g n e => q_iaddr e 55 (.t 91) (.t 92), qFaddr o97 54 r96, qSt none 1 r97 r95] (mSeq (mR [qMv o99 r4, qMv o100 r9, qNil o101 r100, qFaddr o102 33 r101, qLd1 o103 r102, qGen Γ o104 fun g n e => q_look g e (.leaf .s) (iN 0) true (.t 99) (.t 103), qMv o98 r104, qGen Γ o105 fun g n e => q_ext e (.t 98) 0, qGen Γ o106 fun g n e => q_ext e (.t 98) 1, qMv o10 r105, qMv o11 r106] (mR [qMv o107 r11, qMv o108 r107, qG 108 true o109 (qMv o109 r9), qG 108 true o110 (qNil o110 r109), qG 108 true o111 (qFaddr o111 33 r110), qG 108 true o112 (qLd1 o112 r111), qG 108 true o113 (qBin o113 biNeq (bsOf .neq) r112 (rc (.s (bs [])))), qPick o114 r108 r113 rF] (mCond r114 (mO [qFaddr o115 0 r3, qLd1 o116 r115, qMv o117 r8, qMv o118 r10, qGen Γ o119 fun g n e => q_iaddr e 55 (.t 116) (.t 117), qFaddr o120 54 r119, qSt none 1 r120 r118]) (mSkip)))) (mO [qMv o121 r9, qNil o122 r121, qFaddr o123 33 r122, qSt none 1 r123 (rc (.s (bs [])))]))))))) (mO [qBin o124 biAdd (bsOf .add) r76 (rN 1), qMv o76 r124]))))))) (mR [qLdA o125 3 r3, qSt none 3 r2 r125] (mRet))))))))⟩
theorem C57_eq : xq Tryz.f57 = some C57 := by kernel_rfl
theorem C57_wf : xw Tryz.f57 = some true := by kernel_rfl
end Go.Proofs.YtelnkadnphephaaGreatDoor.T
end
