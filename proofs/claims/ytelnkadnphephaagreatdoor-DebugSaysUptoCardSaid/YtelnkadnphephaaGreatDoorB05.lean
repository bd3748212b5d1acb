/- P1: printed text. No condition.
Abs54: The abstract machine, part 54: what a call may see of its caller's memory, as data that stay. No condition.
PI: The inner functions of strconv.Itoa on the abstract machine. No condition.
TCZ: Names for what comes often in the printed functions. No condition.
TC0: Functions of the program as the abstract machine has them, part 0: printed by a program of this claim's. No condition.
TC1: Functions of the program as the abstract machine has them, part 1: printed by a program of this claim's. No condition.
TC2: Functions of the program as the abstract machine has them, part 2: printed by a program of this claim's. No condition.
TC3: Functions of the program as the abstract machine has them, part 3: printed by a program of this claim's. No condition. -/
import Derived.Test.YtelnkadnphephaaGreatDoorB04
import Derived.Test.YtelnkadnphephaaGreatDoorProg
import Derived.WalkKit
import Derived.Lib.Builder
import Derived.Lib.UnsafeStr
import Derived.Laws.Externs
import Derived.Shelf.RegionOpenPlain
import Derived.Lib.Bytealg
import Derived.Lib.ItoaMem
set_option linter.unusedVariables false
set_option linter.unusedSimpArgs false
noncomputable section
namespace Go.Proofs.YtelnkadnphephaaGreatDoor.T
open Go Go.Abs Go.RowKit

set_option maxHeartbeats 1000000 in
set_option maxRecDepth 100000 in
theorem copyCheck_used (b : Nat) (w : World) (h0 : w.cell? ⟨b,0,none⟩ = some (.pointer (some ⟨b,0,none⟩))) :
    Calls Tryz.prog 46 #[.pointer (some ⟨b,0,none⟩)] w fun e w' => e = .returned (.tuple #[]) ∧ w' = w := by
  have hs : (Tryz.prog.info? 73).map (·.size) = some 2 := by kernel_rfl
  obtain ⟨j,hj,_⟩ := Option.map_eq_some_iff.1 hs
  have mixed : Tryz.prog.follows .mixedOrders = true := by kernel_rfl
  go_enter Tryz.func46,Tryz.ntmps46
  go_wp2
  rw [Lib.run_neq_ptr_same w _ Tryz.underlying70 hj]
  go_wp2
  go_end0
  exact ⟨rfl,rfl⟩

set_option maxHeartbeats 1000000 in
set_option maxRecDepth 100000 in
theorem copyCheck_fresh (b : Nat) (w : World) (h0 : w.cell? ⟨b,0,none⟩ = some (.pointer none)) (hsh : w.shape? b = some (73,2)) (hfz : w.frozen? ⟨b,0,none⟩ = false) :
    Calls Tryz.prog 46 #[.pointer (some ⟨b,0,none⟩)] w fun e w' => e = .returned (.tuple #[]) ∧ w' = w.setCell ⟨b,0,none⟩ (.pointer (some ⟨b,0,none⟩)) := by
  have hs : (Tryz.prog.info? 73).map (·.size) = some 2 := by kernel_rfl
  obtain ⟨j,hj,hjs⟩ := Option.map_eq_some_iff.1 hs
  have mixed : Tryz.prog.follows .mixedOrders = true := by kernel_rfl
  go_enter Tryz.func46,Tryz.ntmps46
  go_wp2
  rw [Lib.run_to_unsafe w ⟨b,0,none⟩ Tryz.underlying70 Tryz.underlying168 hj (by rw [hjs]; decide) hsh (Nat.zero_lt_succ 1)]
  simp only [Result.andThen]
  rw [Oper.upon_value]
  go_wp2
  rw [run_callFunc_extern Tryz.func76 (by kernel_rfl) (by kernel_rfl) (by kernel_rfl) (e := Extern.AbiNoEscape.same) (by kernel_rfl)]
  rw [Lib.run_noEscape]
  simp only [Result.andThen]
  rw [Oper.upon_value]
  go_wp2
  rw [Lib.run_from_unsafe w ⟨b,0,none⟩ Tryz.underlying168 Tryz.underlying70 hj hsh (by kernel_rfl)]
  simp only [Result.andThen]
  rw [Oper.upon_value]
  go_wp2
  go_end0
  exact ⟨rfl,rfl⟩

variable {Γ : Nat → D}

theorem cx_copyCheck_used {h : AHeap} {l : Nat} {d : D} (hg : h.get l = some (.cells [.ptr l 0,d] 148)) : CX Tryz.prog Γ 46 [.ptr l 0] h (.tup []) h := by
  refine CX.body Tryz.func46 (by kernel_rfl) (by kernel_rfl) fun I μ w vals H hl => ?_
  obtain ⟨v,vs,rfl,r1,r2⟩ := Rl_cons hl
  have := Rl_nil r2
  subst this
  obtain ⟨b,base,hm,rfl⟩ := R_ptr r1
  obtain ⟨b',base',c,elem,lo,hi,e1,e2,e3,e4,e5,e6,e7,e8⟩ := cells_at H hg
  rw [hm] at e1
  simp only [Option.some.injEq,Prod.mk.injEq] at e1
  obtain ⟨rfl,rfl⟩ := e1
  obtain ⟨rfl,rfl,hsz⟩ := e6.2.1 73 rfl
  obtain ⟨v0,hv0,r0⟩ := e8 0 (by simp)
  obtain ⟨b2,base2,hm2,rfl⟩ := R_ptr r0
  rw [hm] at hm2
  simp only [Option.some.injEq,Prod.mk.injEq] at hm2
  obtain ⟨rfl,rfl⟩ := hm2
  refine (copyCheck_used b w ?_).mono fun e w' he => ?_
  · rw [cell?_of_cells e3]; simpa using hv0
  · obtain ⟨rfl,rfl⟩ := he
    exact ⟨_,rfl,μ,ExtN.refl _ _ _ _,H,tup0⟩

theorem cx_copyCheck_fresh {h : AHeap} {l : Nat} {d : D} (hg : h.get l = some (.cells [.nilp,d] 148)) :
    CX Tryz.prog Γ 46 [.ptr l 0] h (.tup []) { get := fun m => if m = l then some (.cells [.ptr l 0,d] 148) else h.get m,next := h.next } := by
  refine CX.body Tryz.func46 (by kernel_rfl) (by kernel_rfl) fun I μ w vals H hl => ?_
  obtain ⟨v,vs,rfl,r1,r2⟩ := Rl_cons hl
  have := Rl_nil r2
  subst this
  obtain ⟨b,base,hm,rfl⟩ := R_ptr r1
  obtain ⟨b',base',c,elem,lo,hi,e1,e2,e3,e4,e5,e6,e7,e8⟩ := cells_at H hg
  rw [hm] at e1
  simp only [Option.some.injEq,Prod.mk.injEq] at e1
  obtain ⟨rfl,rfl⟩ := e1
  obtain ⟨rfl,rfl,hsz⟩ := e6.2.1 73 rfl
  obtain ⟨rfl,rfl⟩ := e6.1 (by decide)
  obtain ⟨v0,hv0,r0⟩ := e8 0 (by simp)
  have hv0' : v0 = .pointer none := by cases r0; rfl
  subst hv0'
  refine (copyCheck_fresh b w ?_ ?_ ?_).mono fun e w' he => ?_
  · rw [cell?_of_cells e3]; simpa using hv0
  · simp [World.shape?,e3,hsz]
  · simp [World.frozen?,e3]
  · obtain ⟨rfl,rfl⟩ := he
    obtain ⟨k1,k2⟩ := objR_splice H hg (off := 0) (new := [.ptr l 0]) (us := [.pointer (some ⟨b,0,none⟩)]) hm rfl (by simp) (by simp [D.one]) (fun j hj => by
      have : j = 0 := by simpa using hj
      subst this
      exact ⟨_,rfl,by simpa using R.ptr l 0 b 0 hm⟩)
    obtain ⟨μ',q1,q2,_⟩ := upd_step H hg hm k1 k2
    exact ⟨_,rfl,μ',q1,q2,tup0⟩

set_option maxHeartbeats 2000000 in
set_option maxRecDepth 100000 in
theorem bString (b g cap : Nat) (cb cg : Array Value) (lo hi : Nat) (l : List UInt8) (w : World) (h0 : l ≠ []) (hb : w.heap[b]? = some (.cells cb 73 (lo,hi))) (hb1 : cb[1]? = some (.slice (some ⟨g,0,none⟩) l.length cap)) (hcap : cap ≠ 0)
    (hg : w.heap[g]? = some (.cells cg 5 (0,0))) (hn : l.length ≤ cg.size) (hmax : l.length ≤ 9223372036854775807) (hcell : ∀ (j : Nat) (x : UInt8),l[j]? = some x → cg[j]? = some (Value.int .u8 x.toNat)) :
    Calls Tryz.prog 29 #[.pointer (some ⟨b,0,none⟩)] w fun e w' => e = .returned (.string ⟨l.toArray⟩) ∧ w' = w.drew.freeze ⟨g,0,none⟩ l.length := by
  have c1 : w.drew.cell? ⟨b,1,none⟩ = some (.slice (some ⟨g,0,none⟩) l.length cap) := by
    have : w.drew.heap[b]? = some (.cells cb 73 (lo,hi)) := hb
    rw [Lib.cell_of_heap this]; exact hb1
  have hSD : (Builtin.unsafeSliceData_ #[71] 141 #[.slice (some ⟨g,0,none⟩) l.length cap]).run Tryz.prog w.drew = .ok (.pointer (some ⟨g,0,none⟩)) w.drew :=
    Lib.run_unsafeSliceData_row _ _ _ _ _ _ hcap
  have hUS : (Builtin.unsafeString_ #[141,3] 9 #[.pointer (some ⟨g,0,none⟩),.int .i64 l.length]).run Tryz.prog w.drew = .ok (.string ⟨l.toArray⟩) (w.drew.freeze ⟨g,0,none⟩ l.length) := by
    refine Lib.run_unsafeString_row w.drew 141 3 9 5 Tryz.underlying141 (by kernel_rfl) g cg.size (by have hg' : w.drew.heap[g]? = some (.cells cg 5 (0,0)) := hg; simp [World.shape?,hg']) l h0 hn hmax ?_
    intro j x hx
    have hg' : w.drew.heap[g]? = some (.cells cg 5 (0,0)) := hg
    have e : (⟨g,0,none⟩ : Addr).add j = ⟨g,j,none⟩ := by rw [add_off,Nat.zero_add]
    rw [e,Lib.cell_of_heap hg']; exact hcell j x hx
  have mixed : Tryz.prog.follows .mixedOrders = true := by kernel_rfl
  go_enter Tryz.func29,Tryz.ntmps29
  go_wp2
  go_region_o
  all_goals (go_wp2; go_ret; exact ⟨rfl,rfl⟩)

set_option maxHeartbeats 2000000 in
set_option maxRecDepth 100000 in
theorem bString_nil (b : Nat) (cb : Array Value) (lo hi : Nat) (w : World) (hb : w.heap[b]? = some (.cells cb 73 (lo,hi))) (hb1 : cb[1]? = some (.slice none 0 0)) :
    Calls Tryz.prog 29 #[.pointer (some ⟨b,0,none⟩)] w fun e w' => e = .returned (.string ⟨#[]⟩) ∧ w' = w.drew := by
  have hUS := Lib.run_unsafeString_none (P := Tryz.prog) w.drew 141 3 9 none
  have c1 : w.drew.cell? ⟨b,1,none⟩ = some (.slice none 0 0) := by
    have : w.drew.heap[b]? = some (.cells cb 73 (lo,hi)) := hb
    rw [Lib.cell_of_heap this]; exact hb1
  have hSD : (Builtin.unsafeSliceData_ #[71] 141 #[.slice none 0 0]).run Tryz.prog w.drew = .ok (.pointer none) w.drew := rfl
  have mixed : Tryz.prog.follows .mixedOrders = true := by kernel_rfl
  go_enter Tryz.func29,Tryz.ntmps29
  go_wp2
  go_region_o
  all_goals (go_wp2; go_ret; exact ⟨rfl,rfl⟩)


theorem cx_String {h : AHeap} {lb lg len : Nat} {x : D} {cs : List D} {l : List UInt8} (hg : h.get lb = some (.cells [x,.sl 1 lg 0 len] 148)) (hgg : h.get lg = some (.cells cs 13)) (hl : bytesD (cs.take len) = some l) (hlen : len = l.length) (h0 : l ≠ []) :
    CX Tryz.prog Γ 29 [.ptr lb 0] h (.s l) { get := fun m => if m = lg then none else h.get m,next := h.next } := by
  refine CX.body Tryz.func29 (by kernel_rfl) (by kernel_rfl) fun I μ w vals H hvl => ?_
  obtain ⟨v,vs,rfl,r1,r2⟩ := Rl_cons hvl
  have := Rl_nil r2
  subst this
  obtain ⟨b,base,hm,rfl⟩ := R_ptr r1
  obtain ⟨b',base',c,elem,lo,hi,e1,e2,e3,e4,e5,e6,e7,e8⟩ := cells_at H hg
  rw [hm] at e1
  simp only [Option.some.injEq,Prod.mk.injEq] at e1
  obtain ⟨rfl,rfl⟩ := e1
  obtain ⟨rfl,rfl,hsz⟩ := e6.2.1 73 rfl
  obtain ⟨bg,baseg,cg,elemg,log,hig,g1,g2,g3,g4,g5,g6,g7,g8⟩ := cells_at H hgg
  obtain ⟨rfl,rfl⟩ := g6.2.2 5 rfl
  obtain ⟨rfl,rfl⟩ := g6.1 (by decide)
  obtain ⟨v1,hv1,rv1⟩ := e8 1 (by simp)
  have hpos : 0 < l.length := List.length_pos_iff.2 h0
  have hcs := bytesD_spec hl
  have hle : l.length ≤ cs.length := by
    have := congrArg List.length hcs
    rw [List.length_take,List.length_map] at this
    omega
  have rv1' : R I μ w (.sl 1 lg 0 len) v1 := rv1
  have key : ∃ cap,v1 = .slice (some ⟨bg,0,none⟩) len cap ∧ len ≤ cap ∧ cap ≤ maxN := by
    cases rv1' with
    | sl _ _ _ _ cap b2 base2 n q1 q2 q3 q4 q5 =>
      rw [g1] at q1
      simp only [Option.some.injEq,Prod.mk.injEq] at q1
      obtain ⟨rfl,rfl⟩ := q1
      exact ⟨cap,rfl,q2,q3⟩
    | sl0 => omega
  obtain ⟨cap,rfl,hc1,hc2⟩ := key
  subst hlen
  refine (bString b bg cap c cg lo hi l w h0 e3 (by simpa using hv1) (by omega) g3 (by omega) (by unfold maxN at hc2; omega) ?_).mono fun e w' he => ?_
  · intro j y hj
    have hjl : j < l.length := (List.getElem?_eq_some_iff.1 hj).1
    obtain ⟨u,hu,ru⟩ := g8 j (by omega)
    have e0 : (cs.take l.length)[j]? = (l.map byteD)[j]? := by rw [hcs]
    rw [List.getElem?_take_of_lt hjl,List.getElem?_map,hj] at e0
    have e1 : cs[j]'(by omega) = byteD y := by
      have := List.getElem?_eq_some_iff.1 e0
      exact this.2
    rw [e1] at ru
    cases ru
    simpa using hu
  · obtain ⟨rfl,rfl⟩ := he
    have O : Only bg w (w.drew.freeze ⟨bg,0,none⟩ l.length) := (Only.drew w).trans' (Only.freeze (w := w.drew) g3 0 l.length)
    obtain ⟨k1,k2⟩ := kill_step H hgg g1 O
    exact ⟨_,rfl,μ,k1,k2,.s l (by unfold maxN at hc2 ⊢; omega)⟩

theorem cx_String_nil {h : AHeap} {lb : Nat} {x : D} (hg : h.get lb = some (.cells [x,.nils] 148)) : CX Tryz.prog Γ 29 [.ptr lb 0] h (.s []) h := by
  refine CX.body Tryz.func29 (by kernel_rfl) (by kernel_rfl) fun I μ w vals H hvl => ?_
  obtain ⟨v,vs,rfl,r1,r2⟩ := Rl_cons hvl
  have := Rl_nil r2
  subst this
  obtain ⟨b,base,hm,rfl⟩ := R_ptr r1
  obtain ⟨b',base',c,elem,lo,hi,e1,e2,e3,e4,e5,e6,e7,e8⟩ := cells_at H hg
  rw [hm] at e1
  simp only [Option.some.injEq,Prod.mk.injEq] at e1
  obtain ⟨rfl,rfl⟩ := e1
  obtain ⟨rfl,rfl,hsz⟩ := e6.2.1 73 rfl
  obtain ⟨v1,hv1,rv1⟩ := e8 1 (by simp)
  have rv1' : R I μ w .nils v1 := rv1
  cases rv1'
  obtain ⟨b2,base2,k1,k2,k3⟩ := H.live lb _ hg
  rw [hm] at k1
  simp only [Option.some.injEq,Prod.mk.injEq] at k1
  obtain ⟨rfl,rfl⟩ := k1
  refine (bString_nil b c lo hi w e3 (by simpa using hv1)).mono fun e w' he => ?_
  obtain ⟨rfl,rfl⟩ := he
  obtain ⟨μ',q1,q2,_⟩ := upd_step H hg hm (Only.drew w) (ObjR.mono (w := w) (w' := w.drew) (fun _ x => x) (fun _ _ x => x) (fun _ _ => rfl) (fun _ _ x => x) rfl k3)
  have eh : ({ get := fun m => if m = lb then some (.cells [x,.nils] 148) else h.get m,next := h.next } : AHeap) = h := AHeap.eq (fun m => by
    simp only
    split
    · rename_i e; rw [e,hg]
    · rfl) rfl
  rw [eh] at q1 q2
  exact ⟨_,rfl,μ',q1,q2,.s [] (by simp)⟩

theorem cx_IndexByte {h : AHeap} {l : List UInt8} {c : Int} : CX Tryz.prog Γ 203 [.s l,.i .u8 c] h (.i .i64 (Lib.indexByte l c.toNat.toUInt8)) h := by
  refine CX.ext fun I μ w vals H hvl => ?_
  obtain ⟨v,vs,rfl,r1,r2⟩ := Rl_cons hvl
  obtain ⟨v',vs',rfl,r3,r4⟩ := Rl_cons r2
  have := Rl_nil r4
  subst this
  cases r1
  cases r3
  refine ⟨_,?_,.i _ _⟩
  rw [run_callFunc_extern Tryz.func203 (by kernel_rfl) (by kernel_rfl) (by kernel_rfl) (e := Extern.BytealgIndexByte.indexByte) (by kernel_rfl)]
  have := Lib.run_indexByteString (P := Tryz.prog) ⟨l.toArray⟩ c w
  rw [this]
  rfl

end Go.Proofs.YtelnkadnphephaaGreatDoor.T
end
noncomputable section
namespace Go.Abs
open Go

def chunkL (sz : Nat) : Nat → List D → List (List D)
  | 0,_ => []
  | k + 1,l => l.take sz :: chunkL sz k (l.drop sz)

def mapO {α β : Type} (f : α → Option β) : List α → Option (List β)
  | [] => some []
  | a :: r => match f a with
    | none => none
    | some b => match mapO f r with
      | none => none
      | some l => some (b :: l)

def frz (get : Nat → Option AObj) : Nat → D → Option D
  | 0,_ => none
  | n + 1,d =>
    match d with
    | .b x => some (.b x)
    | .i k x => some (.i k x)
    | .s x => some (.s x)
    | .nilp => some .nilp
    | .nils => some .nils
    | .nilm => some .nilm
    | .nilf => some .nilf
    | .nili => some .nili
    | .agg cs => match mapO (frz get n) cs with
      | some ds => some (.agg ds)
      | none => none
    | .fz sz es => if D.closed 30 (.fz sz es) = true then some (.fz sz es) else none
    | .sl sz l off len =>
      match get l with
      | some (.cells cs _) =>
        if Nat.ble (off + len * sz) cs.length = true then
          match mapO (frz get n) ((cs.drop off).take (len * sz)) with
          | some ds => some (.fz sz ((chunkL sz len ds).map .agg))
          | none => none
        else none
      | _ => none
    | _ => none

theorem mapO_get {α β : Type} {f : α → Option β} : ∀ {l : List α} {r : List β},mapO f l = some r → r.length = l.length ∧ ∀ (i : Nat) (b : β),r[i]? = some b → ∃ a,l[i]? = some a ∧ f a = some b
  | [],r,h => by simp only [mapO,Option.some.injEq] at h; subst h; exact ⟨rfl,fun i b hb => by simp at hb⟩
  | x :: l,r,h => by
    simp only [mapO] at h
    split at h
    · cases h
    · rename_i b hb
      split at h
      · cases h
      · rename_i r' hr'
        simp only [Option.some.injEq] at h
        subst h
        obtain ⟨h1,h2⟩ := mapO_get hr'
        refine ⟨by simp [h1],fun i c hc => ?_⟩
        cases i with
        | zero => simp only [List.getElem?_cons_zero,Option.some.injEq] at hc; subst hc; exact ⟨x,rfl,hb⟩
        | succ i => exact h2 i c (by simpa using hc)

theorem chunk_len {sz : Nat} : ∀ {k : Nat} {l : List D},(chunkL sz k l).length = k
  | 0,_ => rfl
  | k + 1,l => by simp [chunkL,chunk_len]

theorem chunk_flat {sz : Nat} : ∀ {k : Nat} {l : List D},l.length = k * sz → (chunkL sz k l).flatten = l ∧ ∀ c ∈ chunkL sz k l,c.length = sz
  | 0,l,h => by
    have : l = [] := List.eq_nil_of_length_eq_zero (by simpa using h)
    subst this
    exact ⟨rfl,fun c hc => by cases hc⟩
  | k + 1,l,h => by
    rw [Nat.succ_mul] at h
    obtain ⟨h1,h2⟩ := chunk_flat (sz := sz) (k := k) (l := l.drop sz) (by rw [List.length_drop]; omega)
    refine ⟨?_,fun c hc => ?_⟩
    · simp only [chunkL,List.flatten_cons,h1,List.take_append_drop]
    · rcases List.mem_cons.1 hc with h3 | h3
      · subst h3; rw [List.length_take]; omega
      · exact h2 c h3

theorem frz_one {get : Nat → Option AObj} : ∀ {n : Nat} {d d' : D},frz get n d = some d' → d.one = true → d'.one = true
  | 0,_,_,h,_ => by simp [frz] at h
  | n + 1,d,d',h,ho => by
    cases d <;> simp only [frz] at h <;> first
      | (simp only [Option.some.injEq] at h; subst h; exact ho)
      | (simp [D.one] at ho; done)
      | (repeat' split at h
         all_goals first
           | (cases h; done)
           | (simp only [Option.some.injEq] at h; subst h; rfl))
      | cases h

section
variable {P : Program} {Γ : Nat → D} {I : Nat → Prop} {μ : Emb} {h : AHeap} {w : World}

theorem frz_R (H : HR Γ I μ h w) : ∀ {n : Nat} {d d' : D} {v : Value},frz h.get n d = some d' → R I μ w d v → R (fun b => b < w.heap.size) (fun _ => none) w d' v
  | 0,_,_,_,hf,_ => by simp [frz] at hf
  | n + 1,d,d',v,hf,hr => by
    have hmax : maxN ≤ maxN := Nat.le_refl _
    cases hr with
    | b x => simp only [frz,Option.some.injEq] at hf; subst hf; exact .b x
    | i k m => simp only [frz,Option.some.injEq] at hf; subst hf; exact .i k m
    | s x hx => simp only [frz,Option.some.injEq] at hf; subst hf; exact .s x hx
    | nilp => simp only [frz,Option.some.injEq] at hf; subst hf; exact .nilp
    | nils => simp only [frz,Option.some.injEq] at hf; subst hf; exact .nils
    | nilm => simp only [frz,Option.some.injEq] at hf; subst hf; exact .nilm
    | nilf => simp only [frz,Option.some.injEq] at hf; subst hf; exact .nilf
    | nili => simp only [frz,Option.some.injEq] at hf; subst hf; exact .nili
    | ptr l off b base hm => simp [frz] at hf
    | fptr => simp [frz] at hf
    | fz sz es b o cap vs h1 h2 h3 h4 h5 h6 h7 h8 =>
      simp only [frz] at hf
      split at hf
      · rename_i hc
        simp only [Option.some.injEq] at hf
        subst hf
        exact ((R.fz sz es b o cap vs h1 h2 h3 h4 h5 h6 h7 h8).closed (fun _ => none) _ hc).mono H.frz (fun _ _ x => x) (fun _ _ => rfl) (fun _ _ x => x)
      · cases hf
    | fz0 sz a cap hcap =>
      simp only [frz] at hf
      split at hf
      · simp only [Option.some.injEq] at hf
        subst hf
        exact .fz0 sz a cap hcap
      · cases hf
    | mp => simp [frz] at hf
    | fn => simp [frz] at hf
    | yld => simp [frz] at hf
    | ifc => simp [frz] at hf
    | tup => simp [frz] at hf
    | agg cs xs h1 hone hel =>
      simp only [frz] at hf
      split at hf
      · rename_i ds hds
        simp only [Option.some.injEq] at hf
        subst hf
        obtain ⟨hl,hg⟩ := mapO_get hds
        refine .agg ds xs (by omega) (fun c hc => ?_) (fun j hj => ?_)
        · obtain ⟨j,hj⟩ := List.getElem?_of_mem hc
          obtain ⟨a,ha,hfa⟩ := hg j c hj
          exact frz_one hfa (hone a (List.mem_of_getElem? ha))
        · obtain ⟨a,ha,hfa⟩ := hg j ds[j] (by simp [hj])
          have hj' : j < cs.length := by omega
          rw [List.getElem?_eq_getElem hj'] at ha
          simp only [Option.some.injEq] at ha
          subst ha
          exact frz_R H hfa (hel j hj')
      · cases hf
    | sl0 sz l off b base a hm =>
      simp only [frz] at hf
      split at hf
      · split at hf
        · split at hf
          · simp only [Option.some.injEq] at hf
            subst hf
            exact .fz0 sz (some a) 0 (Nat.zero_le _)
          · cases hf
        · cases hf
      · cases hf
    | sl sz l off len cap b base m hm hlc hcm hrow hle =>
      simp only [frz] at hf
      split at hf
      · rename_i cs mk hgl
        split at hf
        · rename_i hb
          have hb := Nat.le_of_ble_eq_true hb
          split at hf
          · rename_i ds hds
            simp only [Option.some.injEq] at hf
            subst hf
            by_cases hlen : len = 0
            · subst hlen
              exact .fz0 sz _ cap hcm
            · obtain ⟨hl,hg⟩ := mapO_get hds
              have hll : ds.length = len * sz := by rw [hl,List.length_take,List.length_drop]; omega
              obtain ⟨k1,k2⟩ := chunk_flat hll
              obtain ⟨b',base',j1,j2,j3⟩ := H.live l _ hgl
              rw [hm] at j1
              simp only [Option.some.injEq,Prod.mk.injEq] at j1
              obtain ⟨rfl,rfl⟩ := j1
              obtain ⟨c,elem,lo,hi,g1,g2,g3,g4,g5,g6⟩ := j3
              have hflat : ((chunkL sz len ds).map D.agg).flatMap D.cells = ds := by
                rw [List.flatMap_map]
                show (chunkL sz len ds).flatMap (fun x => x) = ds
                rw [List.flatMap_id']
                exact k1
              have at_ : ∀ j,j < ds.length → ∃ v,c[base + (off + j)]? = some v ∧ R (fun b => b < w.heap.size) (fun _ => none) w (ds.getD j .bad) v ∧ (ds.getD j .bad).one = true := by
                intro j hj
                obtain ⟨a,ha,hfa⟩ := hg j ds[j] (by simp [hj])
                have ha' : cs[off + j]? = some a := by
                  rw [List.getElem?_take] at ha
                  split at ha
                  · rw [List.getElem?_drop] at ha; exact ha
                  · cases ha
                obtain ⟨hlt,hea⟩ := List.getElem?_eq_some_iff.1 ha'
                obtain ⟨v,hv,hr⟩ := g6 (off + j) hlt
                rw [hea] at hr
                refine ⟨v,hv,?_,?_⟩
                · rw [List.getD_eq_getElem?_getD,List.getElem?_eq_getElem hj]; exact frz_R H hfa hr
                · rw [List.getD_eq_getElem?_getD,List.getElem?_eq_getElem hj]; exact frz_one hfa (g5 a (List.mem_of_getElem? ha'))
              have hbl : b < w.heap.size := (Array.getElem?_eq_some_iff.1 g1).1
              have key : R (fun b => b < w.heap.size) (fun _ => none) w (.fz sz ((chunkL sz len ds).map .agg)) (.slice (some ⟨b,base + off,none⟩) ((chunkL sz len ds).map D.agg).length cap) := by
                refine .fz sz _ b (base + off) cap (fun j => (c[base + (off + j)]?).getD undef) ?_ hbl (by rw [List.length_map,chunk_len]; exact hlc) hcm ?_ ?_ ?_ ?_
                · intro e
                  have := congrArg List.length e
                  rw [List.length_map,chunk_len] at this
                  exact hlen this
                · intro e he
                  obtain ⟨x,hx,rfl⟩ := List.mem_map.1 he
                  exact ⟨k2 x hx,rfl⟩
                · rw [hflat]
                  intro x hx
                  obtain ⟨j,hj⟩ := List.getElem?_of_mem hx
                  obtain ⟨hlt,he⟩ := List.getElem?_eq_some_iff.1 hj
                  obtain ⟨_,_,_,h3⟩ := at_ j hlt
                  rw [List.getD_eq_getElem?_getD,hj] at h3
                  exact h3
                · rw [hflat]
                  intro j hj
                  obtain ⟨v,hv,_⟩ := at_ j hj
                  simp only [World.cell?,g1,Nat.add_assoc]
                  rw [hv]; rfl
                · simp only [hflat]
                  intro j hj
                  obtain ⟨v,hv,hr,_⟩ := at_ j hj
                  rw [hv]
                  rw [List.getD_eq_getElem?_getD,List.getElem?_eq_getElem hj] at hr
                  exact hr
              rw [List.length_map,chunk_len] at key
              exact key
          · cases hf
        · cases hf
      · cases hf

theorem frz_Rl (H : HR Γ I μ h w) {n : Nat} : ∀ {ds ds' : List D} {vs : List Value},mapO (frz h.get n) ds = some ds' → Rl I μ w ds vs → Rl (fun b => b < w.heap.size) (fun _ => none) w ds' vs
  | [],ds',vs,hf,hr => by
    simp only [mapO,Option.some.injEq] at hf
    subst hf
    cases hr; exact .nil
  | d :: ds,ds',vs,hf,hr => by
    simp only [mapO] at hf
    split at hf
    · cases hf
    · rename_i b hb
      split at hf
      · cases hf
      · rename_i r' hr'
        simp only [Option.some.injEq] at hf
        subst hf
        cases hr with
        | cons a c => exact .cons (frz_R H hb a) (frz_Rl H hr' c)

def D.plain : Nat → D → Bool
  | 0,_ => false
  | _,.b _ | _,.i _ _ | _,.s _ | _,.nilp | _,.nils | _,.nilm | _,.nilf | _,.nili => true
  | n + 1,.agg cs | n + 1,.tup cs => cs.all (D.plain n)
  | _,_ => false

theorem R.plain {I2 : Nat → Prop} {μ2 : Emb} {w2 : World} : ∀ (n : Nat) {d : D} {v : Value},d.plain n = true → R I μ w d v → R I2 μ2 w2 d v
  | 0,d,v,hp,_ => by simp [D.plain] at hp
  | n + 1,d,v,hp,hr => by
    cases hr with
    | b x => exact .b x
    | i k m => exact .i k m
    | s x hx => exact .s x hx
    | nilp => exact .nilp
    | nils => exact .nils
    | nilm => exact .nilm
    | nilf => exact .nilf
    | nili => exact .nili
    | agg cs xs h1 hone hel =>
      simp only [D.plain,List.all_eq_true] at hp
      exact .agg cs xs h1 hone fun j hj => R.plain n (hp _ (List.getElem_mem hj)) (hel j hj)
    | tup cs xs h1 hel =>
      simp only [D.plain,List.all_eq_true] at hp
      exact .tup cs xs h1 fun j hj => R.plain n (hp _ (List.getElem_mem hj)) (hel j hj)
    | _ => simp [D.plain] at hp

theorem CX.frozen (hΓ : ∀ g,Γ g = .bad ∨ (Γ g).closed 20 = true) {f : FuncId} {args args' : List D} {d : D} {H' : AHeap} (hx : CX P Γ f args' empty d H') {n m : Nat} {hS : AHeap} (ha : mapO (frz hS.get n) args = some args') (hd : d.plain m = true) : CX P Γ f args hS d hS := by
  intro I μ w vals H hl
  have hI : ∀ b,I b → b < w.heap.size := H.frz
  have H0 : HR Γ (fun b => b < w.heap.size) (fun _ => none) empty w := by
    refine ⟨fun _ h => h,fun l o hg => by simp [empty] at hg,fun l l' o o' b base base' hg => by simp [empty] at hg,fun _ _ => rfl,fun g => ?_⟩
    rcases H.glob g with hb | hr
    · exact .inl hb
    · rcases hΓ g with hb | hc
      · exact .inl hb
      · exact .inr ((hr.closed (fun _ => none) _ hc).mono hI (fun _ _ x => x) (fun _ _ => rfl) (fun _ _ x => x))
  have conv : ∀ v w',(∃ μ',ExtN (fun b => b < w.heap.size) (fun _ => none) empty w μ' H' w' ∧ HR Γ (fun b => b < w.heap.size) μ' H' w' ∧ R (fun b => b < w.heap.size) μ' w' d v) → ∃ μ',ExtN I μ hS w μ' hS w' ∧ HR Γ I μ' hS w' ∧ R I μ' w' d v := by
    rintro v w' ⟨μ',⟨E,_⟩,K,r⟩
    have same : ∀ b,b < w.heap.size → w'.heap[b]? = w.heap[b]? := fun b hb => E.frame b hb (fun l o base hg => by simp [empty] at hg)
    have hI2 : ∀ b,I b → w'.heap[b]? = w.heap[b]? := fun b hb => same b (H.frz b hb)
    refine ⟨μ,⟨⟨E.size,E.os,E.tape,E.output,E.rows,fun _ x => x,fun _ _ x => x,Nat.le_refl _,fun b hb _ => same b hb,fun l o b base hg hm => .inr ⟨l,o,base,hg,hm⟩⟩,fun _ _ => rfl⟩,?_,r.plain m hd⟩
    refine ⟨fun b hb => Nat.lt_of_lt_of_le (H.frz b hb) E.size,fun l o hg => ?_,H.inj,H.fresh,fun g => ?_⟩
    · obtain ⟨b,base,j1,j2,j3⟩ := H.live l o hg
      exact ⟨b,base,j1,j2,j3.mono (fun _ x => x) (fun _ _ x => x) hI2 E.rows (same b j3.lt)⟩
    · exact (H.glob g).imp _root_.id (fun r => r.mono (fun _ x => x) (fun _ _ x => x) hI2 E.rows)
  rcases hx _ (fun _ => none) w vals H0 (frz_Rl H ha hl) with ⟨h1,h2⟩ | ⟨v,w',h1,h2⟩
  · refine .inl ⟨h1,h2.mono fun e w' he => ?_⟩
    cases e with
    | returned v => exact conv v w' he
    | panicked _ => exact he
    | outgrown => exact he
  · exact .inr ⟨v,w',h1,conv v w' h2⟩
end
end Go.Abs
end
noncomputable section
namespace Go.Proofs.YtelnkadnphephaaGreatDoor.T
open Go Go.Abs
noncomputable section
variable {Γ : Nat → D}

theorem CX.same {f : FuncId} {fn : Func} (hf : Tryz.prog.funcs[f]? = some fn) (hb : fn.body.isSome = true) (hname : (fn.name == "runtime.NumGoroutine") = false) {args : List D} {d : D} {h : AHeap}
    (hx : ∀ I μ w (vals : List Value),HR Γ I μ h w → Rl I μ w args vals → ∃ v,R I μ w d v ∧ Calls Tryz.prog f vals.toArray w fun e w' => e = .returned v ∧ w' = w) : CX Tryz.prog Γ f args h d h :=
  CX.body hf hb hname fun I μ w vals H hl => by
    obtain ⟨v,hr,hc⟩ := hx I μ w vals H hl
    refine hc.mono fun e w' he => ?_
    obtain ⟨rfl,rfl⟩ := he
    exact ⟨v,rfl,μ,ExtN.refl _ _ _ _,H,hr⟩

theorem Rl_i {I : Nat → Prop} {μ : Emb} {w : World} {k : IntKind} {n : Int} {vals : List Value} (h : Rl I μ w [.i k n] vals) : vals = [.int k n] := by
  obtain ⟨v,vs,rfl,r1,r2⟩ := Rl_cons h
  have := Rl_nil r2
  subst this
  cases r1; rfl
theorem Rl_b {I : Nat → Prop} {μ : Emb} {w : World} {b : Bool} {vals : List Value} (h : Rl I μ w [.b b] vals) : vals = [.bool b] := by
  obtain ⟨v,vs,rfl,r1,r2⟩ := Rl_cons h
  have := Rl_nil r2
  subst this
  cases r1; rfl

theorem cx_len64 {h : AHeap} (u : Nat) (hu : u < 18446744073709551616) : CX Tryz.prog Γ 247 [.i .u64 u] h (.i .i64 (Lib.bitLen u)) h :=
  CX.same Tryz.func247 (by kernel_rfl) (by kernel_rfl) fun I μ w vals H hl => by
    rw [Rl_i hl]
    have := bits_Len64 (u : Int) w (by omega) (by omega)
    rw [Int.toNat_natCast] at this
    exact ⟨_,.i _ _,this⟩
theorem cx_log10 {h : AHeap} (x : Nat) (hx : x ≤ 64) : CX Tryz.prog Γ 246 [.i .i64 x] h (.i .i64 (Lib.l10 x)) h :=
  CX.same Tryz.func246 (by kernel_rfl) (by kernel_rfl) fun I μ w vals H hl => by
    rw [Rl_i hl]
    exact ⟨_,.i _ _,internal_strconv_log10Pow2 x hx w⟩
theorem cx_bool2 {h : AHeap} (b : Bool) : CX Tryz.prog Γ 248 [.b b] h (.i .i64 (if b then 1 else 0)) h :=
  CX.same Tryz.func248 (by kernel_rfl) (by kernel_rfl) fun I μ w vals H hl => by
    rw [Rl_b hl]
    exact ⟨_,.i _ _,internal_strconv_bool2_int b w⟩
theorem cx_small {h : AHeap} (i : Nat) (hi : i < 100) : CX Tryz.prog Γ 199 [.i .i64 i] h (.s (Lib.decDigits i)) h :=
  CX.same Tryz.func199 (by kernel_rfl) (by kernel_rfl) fun I μ w vals H hl => by
    rw [Rl_i hl]
    exact ⟨_,.s _ (by rw [Lib.decDigits_length,Lib.nDigits]; split <;> (try rw [Lib.nDigits]) <;> (try split) <;> first | decide | (simp only [maxN]; omega)),internal_strconv_small i hi w⟩

abbrev encB (b : UInt8) : Value := .int .u8 (b.toNat : Int)

theorem setCells_map (b : Nat) : ∀ (vs : List Value) (o : Nat) (w : World),w.setCells b o vs = Go.Sort.mapBlock w b (fun c => setArr c o vs)
  | [],o,w => (Go.Sort.mapBlock_id w b _ (fun _ _ _ _ => rfl)).symm
  | v :: r,o,w => by
    show (w.setCell ⟨b,o,none⟩ v).setCells b (o + 1) r = _
    rw [Go.Sort.setCell_eq,setCells_map b r,Go.Sort.mapBlock_mapBlock]
    rfl

theorem putRow_cells {w : World} {b o : Nat} {c : Array Value} {elem : TypeId} {fr : Nat × Nat} (hb : w.heap[b]? = some (.cells c elem fr)) (d : Array UInt8) (hs : o + d.size ≤ c.size) :
    Go.Sort.putRow encB w b o d = w.setCells b o (d.toList.map encB) := by
  rw [setCells_map]
  refine Go.Sort.mapBlock_congr _ _ _ _ fun c' e' fr' h => ?_
  rw [hb] at h
  cases h
  apply Array.ext_getElem?
  intro k
  rw [setArr_get _ _ _ (by simpa using hs)]
  simp only [Go.Sort.putCells,Array.getElem?_mapIdx,List.length_map,Array.length_toList]
  by_cases hk : o ≤ k ∧ k < o + d.size
  · rw [if_pos hk]
    have h1 : k < c.size := by omega
    have h2 : k - o < d.size := by omega
    simp [h1,h2,hk.1,hk.2]
  · rw [if_neg hk]
    cases c[k]? with
    | none => rfl
    | some x => simp only [Option.map_some]; rw [if_neg hk]

theorem cx_fmt {h : AHeap} {l off u : Nat} {cs : List D} {m : Nat} (hg : h.get l = some (.cells cs m)) (hnd : off + Lib.nDigits u ≤ cs.length) (hz : ∀ j,j < Lib.nDigits u → ∃ x : UInt8,cs[off + j]? = some (byteD x)) (hu : u < 18446744073709551616) :
    CX Tryz.prog Γ 201 [.sl 1 l off (Lib.nDigits u),.i .u64 u] h (.tup []) { get := fun k => if k = l then some (.cells (splice cs off ((Lib.decDigits u).map byteD)) m) else h.get k,next := h.next } := by
  refine CX.body Tryz.func201 (by kernel_rfl) (by kernel_rfl) fun I μ w vals H hvl => ?_
  obtain ⟨v,vs,rfl,r1,r2⟩ := Rl_cons hvl
  obtain rfl := Rl_i r2
  obtain ⟨b,base,c,elem,lo,hi,e1,e2,e3,e4,e5,e6,e7,e8⟩ := cells_at H hg
  have hpos := Lib.nDigits_pos u
  have key : ∀ nd : Nat,1 ≤ nd → R I μ w (.sl 1 l off nd) v → ∃ cap,v = .slice (some ⟨b,base + off,none⟩) nd cap := by
    intro nd hp r
    cases r with
    | sl _ _ _ _ cap b2 base2 n q1 q2 q3 q4 q5 =>
      rw [e1] at q1
      simp only [Option.some.injEq,Prod.mk.injEq] at q1
      obtain ⟨rfl,rfl⟩ := q1
      exact ⟨cap,rfl⟩
    | sl0 => omega
  obtain ⟨cap,rfl⟩ := key _ hpos r1
  have hz' : ∀ j,∃ x : UInt8,j < Lib.nDigits u → cs[off + j]? = some (byteD x) := fun j => by
    by_cases hj : j < Lib.nDigits u
    · obtain ⟨x,hx⟩ := hz j hj; exact ⟨x,fun _ => hx⟩
    · exact ⟨0,fun h => absurd h hj⟩
  obtain ⟨g,hgz⟩ := Classical.axiomOfChoice hz'
  let d : Array UInt8 := ((List.range (Lib.nDigits u)).map g).toArray
  have hds : d.size = Lib.nDigits u := by simp [d]
  have hH : Go.Sort.Holds encB w b (base + off) d := by
    intro j hj
    rw [hds] at hj
    obtain ⟨x,hx,hr⟩ := e8 (off + j) (by omega)
    have hcj := hgz j hj
    have hlt : off + j < cs.length := by omega
    rw [List.getElem?_eq_getElem hlt] at hcj
    simp only [Option.some.injEq] at hcj
    rw [hcj] at hr
    have hx' : x = .int .u8 ((g j).toNat : Int) := by cases hr; rfl
    have hdj : d[j]! = g j := by
      rw [getElem!_pos d j (by omega)]
      simp [d]
    refine ⟨?_,frozen?_of_cells e3 e5 (by omega)⟩
    rw [cell?_of_cells e3,Nat.add_assoc,hx,hdj,hx']
  have hlt10 : u < 10 ^ d.size := by rw [hds]; exact Lib.lt_pow_nDigits u
  have hn20 : Lib.nDigits u ≤ 20 := by have := Lib.numDigits_eq u; by_cases h1 : 1 ≤ u
                                       · have := (this h1 hu); have h2 := this.2; have h3 := this.1; split at h3 <;> omega
                                       · have : u = 0 := by omega
                                         subst this; rw [Lib.nDigits_small (by decide)]; decide
  have hc := internal_strconv_formatBase10 b (base + off) cap u d w hH hlt10 hu (by omega)
  rw [hds] at hc
  refine hc.mono fun e w' he => ?_
  obtain ⟨rfl,n,v',dk,rfl,hf⟩ := he
  have hdk : dk.size = Lib.nDigits u := hf.size
  have hdl : dk.toList = Lib.decDigits u := by
    apply List.ext_getElem (by rw [Array.length_toList,hdk,Lib.decDigits_length])
    intro j h1 h2
    have := Lib.row_is_numeral hf j h2
    rw [this,getElem!_pos dk j (by simpa using h1)]
    simp
  rw [show (Go.Sort.putRow (fun (b : UInt8) => Value.int .u8 (b.toNat : Int)) w b (base + off) dk) = w.setCells b (base + off) ((Lib.decDigits u).map encB) from by
    rw [← hdl]; exact putRow_cells e3 dk (by omega)]
  obtain ⟨k1,k2⟩ := objR_splice H hg (off := off) (new := (Lib.decDigits u).map byteD) (us := (Lib.decDigits u).map encB) e1 (by simp) (by rw [List.length_map,Lib.decDigits_length]; exact hnd) (fun c hc => by
    obtain ⟨x,_,rfl⟩ := List.mem_map.1 hc; rfl) (fun j hj => by
      have hj' : j < (Lib.decDigits u).length := by simpa using hj
      exact ⟨encB ((Lib.decDigits u)[j]),by simp [hj'],by simpa [byteD] using R.i .u8 (((Lib.decDigits u)[j]).toNat : Int)⟩)
  have O : Only b w ((w.setCells b (base + off) ((Lib.decDigits u).map encB)).drewN n) := ⟨k1.size,k1.os,k1.tape,k1.output,k1.rows,k1.same⟩
  have k2' : ObjR I μ ((w.setCells b (base + off) ((Lib.decDigits u).map encB)).drewN n) (.cells (splice cs off ((Lib.decDigits u).map byteD)) m) b base := by
    obtain ⟨c',elem',lo',hi',a1,a2,a3,a4,a5,a6⟩ := k2
    refine ⟨c',elem',lo',hi',a1,a2,a3,a4,a5,fun j hj => ?_⟩
    obtain ⟨x,hx,hr⟩ := a6 j hj
    exact ⟨x,hx,R.mono (w := w.setCells b (base + off) ((Lib.decDigits u).map encB)) (w' := (w.setCells b (base + off) ((Lib.decDigits u).map encB)).drewN n) (fun _ x => x) (fun _ _ x => x) (fun _ _ => rfl) (fun _ _ x => x) hr⟩
  obtain ⟨μ',q1,q2,_⟩ := upd_step H hg e1 O k2'
  exact ⟨_,rfl,μ',q1,q2,tup0⟩
end
end Go.Proofs.YtelnkadnphephaaGreatDoor.T
end
noncomputable section
namespace Go.Proofs.YtelnkadnphephaaGreatDoor.T
open Go Go.Abs
noncomputable def iN (n : Nat) : D := .i .i64 (.ofNat n)
noncomputable def rN (n : Nat) : RR := rc (.i .i64 (.ofNat n))
noncomputable def rT : RR := rc (.b true)
noncomputable def rF : RR := rc (.b false)
noncomputable def u8 (n : Nat) : D := .i .u8 (.ofNat n)
noncomputable def u6 (n : Nat) : D := .i .u64 (.ofNat n)
noncomputable def sE : D := .s (bs [])
noncomputable def rZ : RR := rc .nils
noncomputable def rb (n : Nat) : RR := rc (.i .u8 (.ofNat n))
noncomputable def rs (l : List Nat) : RR := rc (.s (bs l))
noncomputable def qEql (o : Option Nat) (a b : RR) : OPc := qBin o biEql (bsOf .eql) a b
noncomputable def qAdd (o : Option Nat) (a b : RR) : OPc := qBin o biAdd (bsOf .add) a b
noncomputable def qLss (o : Option Nat) (a b : RR) : OPc := qBin o biLss (bsOf .lss) a b
noncomputable def qNeq (o : Option Nat) (a b : RR) : OPc := qBin o biNeq (bsOf .neq) a b
noncomputable def qGtr (o : Option Nat) (a b : RR) : OPc := qBin o biGtr (bsOf .gtr) a b
noncomputable def qSub (o : Option Nat) (a b : RR) : OPc := qBin o biSub (bsOf .sub) a b
noncomputable def qGeq (o : Option Nat) (a b : RR) : OPc := qBin o biGeq (bsOf .geq) a b
noncomputable def qLeq (o : Option Nat) (a b : RR) : OPc := qBin o biLeq (bsOf .leq) a b
noncomputable def qH (Γ : Nat → D) (o : Option Nat) (a : (Nat → Option AObj) → Nat → (Opd → D) → AR) : OPc := qGen Γ o a
noncomputable def rcf (n : Nat) : RR := rc (.fn (.func n) [] [])
noncomputable def mR (l : List OPc) (b : MM) : MM := mSeq (mOps (qReg l)) b
noncomputable def mO (l : List OPc) : MM := mOps (qReg l)
noncomputable abbrev xq (f : Func) : Option CFn := (xfn Tryz.prog f).map compX
noncomputable abbrev xw (f : Func) : Option Bool := (xfn Tryz.prog f).map (fun x => x.body.wf x.ntmps && Nat.ble x.ntmps 100000)
noncomputable def o0 := some 0
noncomputable def r0 := rt 0
noncomputable def o1 := some 1
noncomputable def r1 := rt 1
noncomputable def o2 := some 2
noncomputable def r2 := rt 2
noncomputable def o3 := some 3
noncomputable def r3 := rt 3
noncomputable def o4 := some 4
noncomputable def r4 := rt 4
noncomputable def o5 := some 5
noncomputable def r5 := rt 5
noncomputable def o6 := some 6
noncomputable def r6 := rt 6
noncomputable def o7 := some 7
noncomputable def r7 := rt 7
noncomputable def o8 := some 8
noncomputable def r8 := rt 8
noncomputable def o9 := some 9
noncomputable def r9 := rt 9
noncomputable def o10 := some 10
noncomputable def r10 := rt 10
noncomputable def o11 := some 11
noncomputable def r11 := rt 11
noncomputable def o12 := some 12
noncomputable def r12 := rt 12
noncomputable def o13 := some 13
noncomputable def r13 := rt 13
noncomputable def o14 := some 14
noncomputable def r14 := rt 14
noncomputable def o15 := some 15
noncomputable def r15 := rt 15
noncomputable def o16 := some 16
noncomputable def r16 := rt 16
noncomputable def o17 := some 17
noncomputable def r17 := rt 17
noncomputable def o18 := some 18
noncomputable def r18 := rt 18
noncomputable def o19 := some 19
noncomputable def r19 := rt 19
noncomputable def o20 := some 20
noncomputable def r20 := rt 20
noncomputable def o21 := some 21
noncomputable def r21 := rt 21
noncomputable def o22 := some 22
noncomputable def r22 := rt 22
noncomputable def o23 := some 23
noncomputable def r23 := rt 23
noncomputable def o24 := some 24
noncomputable def r24 := rt 24
noncomputable def o25 := some 25
noncomputable def r25 := rt 25
noncomputable def o26 := some 26
noncomputable def r26 := rt 26
noncomputable def o27 := some 27
noncomputable def r27 := rt 27
noncomputable def o28 := some 28
noncomputable def r28 := rt 28
noncomputable def o29 := some 29
noncomputable def r29 := rt 29
noncomputable def o30 := some 30
noncomputable def r30 := rt 30
noncomputable def o31 := some 31
noncomputable def r31 := rt 31
noncomputable def o32 := some 32
noncomputable def r32 := rt 32
noncomputable def o33 := some 33
noncomputable def r33 := rt 33
noncomputable def o34 := some 34
noncomputable def r34 := rt 34
noncomputable def o35 := some 35
noncomputable def r35 := rt 35
noncomputable def o36 := some 36
noncomputable def r36 := rt 36
noncomputable def o37 := some 37
noncomputable def r37 := rt 37
noncomputable def o38 := some 38
noncomputable def r38 := rt 38
noncomputable def o39 := some 39
noncomputable def r39 := rt 39
noncomputable def o40 := some 40
noncomputable def r40 := rt 40
noncomputable def o41 := some 41
noncomputable def r41 := rt 41
noncomputable def o42 := some 42
noncomputable def r42 := rt 42
noncomputable def o43 := some 43
noncomputable def r43 := rt 43
noncomputable def o44 := some 44
noncomputable def r44 := rt 44
noncomputable def o45 := some 45
noncomputable def r45 := rt 45
noncomputable def o46 := some 46
noncomputable def r46 := rt 46
noncomputable def o47 := some 47
noncomputable def r47 := rt 47
noncomputable def o48 := some 48
noncomputable def r48 := rt 48
noncomputable def o49 := some 49
noncomputable def r49 := rt 49
noncomputable def o50 := some 50
noncomputable def r50 := rt 50
noncomputable def o51 := some 51
noncomputable def r51 := rt 51
noncomputable def o52 := some 52
noncomputable def r52 := rt 52
noncomputable def o53 := some 53
noncomputable def r53 := rt 53
noncomputable def o54 := some 54
noncomputable def r54 := rt 54
noncomputable def o55 := some 55
noncomputable def r55 := rt 55
noncomputable def o56 := some 56
noncomputable def r56 := rt 56
noncomputable def o57 := some 57
noncomputable def r57 := rt 57
noncomputable def o58 := some 58
noncomputable def r58 := rt 58
noncomputable def o59 := some 59
noncomputable def r59 := rt 59
noncomputable def o60 := some 60
noncomputable def r60 := rt 60
noncomputable def o61 := some 61
noncomputable def r61 := rt 61
noncomputable def o62 := some 62
noncomputable def r62 := rt 62
noncomputable def o63 := some 63
noncomputable def r63 := rt 63
noncomputable def o64 := some 64
noncomputable def r64 := rt 64
noncomputable def o65 := some 65
noncomputable def r65 := rt 65
noncomputable def o66 := some 66
noncomputable def r66 := rt 66
noncomputable def o67 := some 67
noncomputable def r67 := rt 67
noncomputable def o68 := some 68
noncomputable def r68 := rt 68
noncomputable def o69 := some 69
noncomputable def r69 := rt 69
noncomputable def o70 := some 70
noncomputable def r70 := rt 70
noncomputable def o71 := some 71
noncomputable def r71 := rt 71
noncomputable def o72 := some 72
noncomputable def r72 := rt 72
noncomputable def o73 := some 73
noncomputable def r73 := rt 73
noncomputable def o74 := some 74
noncomputable def r74 := rt 74
noncomputable def o75 := some 75
noncomputable def r75 := rt 75
noncomputable def o76 := some 76
noncomputable def r76 := rt 76
noncomputable def o77 := some 77
noncomputable def r77 := rt 77
noncomputable def o78 := some 78
noncomputable def r78 := rt 78
noncomputable def o79 := some 79
noncomputable def r79 := rt 79
noncomputable def o80 := some 80
noncomputable def r80 := rt 80
noncomputable def o81 := some 81
noncomputable def r81 := rt 81
noncomputable def o82 := some 82
noncomputable def r82 := rt 82
noncomputable def o83 := some 83
noncomputable def r83 := rt 83
noncomputable def o84 := some 84
noncomputable def r84 := rt 84
noncomputable def o85 := some 85
noncomputable def r85 := rt 85
noncomputable def o86 := some 86
noncomputable def r86 := rt 86
noncomputable def o87 := some 87
noncomputable def r87 := rt 87
noncomputable def o88 := some 88
noncomputable def r88 := rt 88
noncomputable def o89 := some 89
noncomputable def r89 := rt 89
noncomputable def o90 := some 90
noncomputable def r90 := rt 90
noncomputable def o91 := some 91
noncomputable def r91 := rt 91
noncomputable def o92 := some 92
noncomputable def r92 := rt 92
noncomputable def o93 := some 93
noncomputable def r93 := rt 93
noncomputable def o94 := some 94
noncomputable def r94 := rt 94
noncomputable def o95 := some 95
noncomputable def r95 := rt 95
noncomputable def o96 := some 96
noncomputable def r96 := rt 96
noncomputable def o97 := some 97
noncomputable def r97 := rt 97
noncomputable def o98 := some 98
noncomputable def r98 := rt 98
noncomputable def o99 := some 99
noncomputable def r99 := rt 99
noncomputable def o100 := some 100
noncomputable def r100 := rt 100
noncomputable def o101 := some 101
noncomputable def r101 := rt 101
noncomputable def o102 := some 102
noncomputable def r102 := rt 102
noncomputable def o103 := some 103
noncomputable def r103 := rt 103
noncomputable def o104 := some 104
noncomputable def r104 := rt 104
noncomputable def o105 := some 105
noncomputable def r105 := rt 105
noncomputable def o106 := some 106
noncomputable def r106 := rt 106
noncomputable def o107 := some 107
noncomputable def r107 := rt 107
noncomputable def o108 := some 108
noncomputable def r108 := rt 108
noncomputable def o109 := some 109
noncomputable def r109 := rt 109
noncomputable def o110 := some 110
noncomputable def r110 := rt 110
noncomputable def o111 := some 111
noncomputable def r111 := rt 111
noncomputable def o112 := some 112
noncomputable def r112 := rt 112
noncomputable def o113 := some 113
noncomputable def r113 := rt 113
noncomputable def o114 := some 114
noncomputable def r114 := rt 114
noncomputable def o115 := some 115
noncomputable def r115 := rt 115
noncomputable def o116 := some 116
noncomputable def r116 := rt 116
noncomputable def o117 := some 117
noncomputable def r117 := rt 117
noncomputable def o118 := some 118
noncomputable def r118 := rt 118
noncomputable def o119 := some 119
noncomputable def r119 := rt 119
noncomputable def o120 := some 120
noncomputable def r120 := rt 120
noncomputable def o121 := some 121
noncomputable def r121 := rt 121
noncomputable def o122 := some 122
noncomputable def r122 := rt 122
noncomputable def o123 := some 123
noncomputable def r123 := rt 123
noncomputable def o124 := some 124
noncomputable def r124 := rt 124
noncomputable def o125 := some 125
noncomputable def r125 := rt 125
noncomputable def o126 := some 126
noncomputable def r126 := rt 126
noncomputable def o127 := some 127
noncomputable def r127 := rt 127
noncomputable def o128 := some 128
noncomputable def r128 := rt 128
noncomputable def o129 := some 129
noncomputable def r129 := rt 129
noncomputable def o130 := some 130
noncomputable def r130 := rt 130
noncomputable def o131 := some 131
noncomputable def r131 := rt 131
noncomputable def o132 := some 132
noncomputable def r132 := rt 132
noncomputable def o133 := some 133
noncomputable def r133 := rt 133
noncomputable def o134 := some 134
noncomputable def r134 := rt 134
noncomputable def o135 := some 135
noncomputable def r135 := rt 135
noncomputable def o136 := some 136
noncomputable def r136 := rt 136
noncomputable def o137 := some 137
noncomputable def r137 := rt 137
noncomputable def o138 := some 138
noncomputable def r138 := rt 138
noncomputable def o139 := some 139
noncomputable def r139 := rt 139
noncomputable def o140 := some 140
noncomputable def r140 := rt 140
noncomputable def o141 := some 141
noncomputable def r141 := rt 141
noncomputable def o142 := some 142
noncomputable def r142 := rt 142
noncomputable def o143 := some 143
noncomputable def r143 := rt 143
noncomputable def o144 := some 144
noncomputable def r144 := rt 144
noncomputable def o145 := some 145
noncomputable def r145 := rt 145
noncomputable def o146 := some 146
noncomputable def r146 := rt 146
noncomputable def o147 := some 147
noncomputable def r147 := rt 147
noncomputable def o148 := some 148
noncomputable def r148 := rt 148
noncomputable def o149 := some 149
noncomputable def r149 := rt 149
noncomputable def o150 := some 150
noncomputable def r150 := rt 150
noncomputable def o151 := some 151
noncomputable def r151 := rt 151
noncomputable def o152 := some 152
noncomputable def r152 := rt 152
noncomputable def o153 := some 153
noncomputable def r153 := rt 153
noncomputable def o154 := some 154
noncomputable def r154 := rt 154
noncomputable def o155 := some 155
noncomputable def r155 := rt 155
noncomputable def o156 := some 156
noncomputable def r156 := rt 156
noncomputable def o157 := some 157
noncomputable def r157 := rt 157
noncomputable def o158 := some 158
noncomputable def r158 := rt 158
noncomputable def o159 := some 159
noncomputable def r159 := rt 159
noncomputable def o160 := some 160
noncomputable def r160 := rt 160
noncomputable def o161 := some 161
noncomputable def r161 := rt 161
noncomputable def o162 := some 162
noncomputable def r162 := rt 162
noncomputable def o163 := some 163
noncomputable def r163 := rt 163
noncomputable def o164 := some 164
noncomputable def r164 := rt 164
noncomputable def o165 := some 165
noncomputable def r165 := rt 165
noncomputable def o166 := some 166
noncomputable def r166 := rt 166
noncomputable def o167 := some 167
noncomputable def r167 := rt 167
noncomputable def o168 := some 168
noncomputable def r168 := rt 168
noncomputable def o169 := some 169
noncomputable def r169 := rt 169
noncomputable def o170 := some 170
noncomputable def r170 := rt 170
noncomputable def o171 := some 171
noncomputable def r171 := rt 171
noncomputable def o172 := some 172
noncomputable def r172 := rt 172
noncomputable def o173 := some 173
noncomputable def r173 := rt 173
noncomputable def o174 := some 174
noncomputable def r174 := rt 174
noncomputable def o175 := some 175
noncomputable def r175 := rt 175
noncomputable def o176 := some 176
noncomputable def r176 := rt 176
noncomputable def o177 := some 177
noncomputable def r177 := rt 177
noncomputable def o178 := some 178
noncomputable def r178 := rt 178
noncomputable def o179 := some 179
noncomputable def r179 := rt 179
noncomputable def o180 := some 180
noncomputable def r180 := rt 180
noncomputable def o181 := some 181
noncomputable def r181 := rt 181
noncomputable def o182 := some 182
noncomputable def r182 := rt 182
noncomputable def o183 := some 183
noncomputable def r183 := rt 183
noncomputable def o184 := some 184
noncomputable def r184 := rt 184
noncomputable def o185 := some 185
noncomputable def r185 := rt 185
noncomputable def o186 := some 186
noncomputable def r186 := rt 186
noncomputable def o187 := some 187
noncomputable def r187 := rt 187
noncomputable def o188 := some 188
noncomputable def r188 := rt 188
noncomputable def o189 := some 189
noncomputable def r189 := rt 189
noncomputable def o190 := some 190
noncomputable def r190 := rt 190
noncomputable def o191 := some 191
noncomputable def r191 := rt 191
noncomputable def o192 := some 192
noncomputable def r192 := rt 192
noncomputable def o193 := some 193
noncomputable def r193 := rt 193
noncomputable def o194 := some 194
noncomputable def r194 := rt 194
noncomputable def o195 := some 195
noncomputable def r195 := rt 195
noncomputable def o196 := some 196
noncomputable def r196 := rt 196
noncomputable def o197 := some 197
noncomputable def r197 := rt 197
noncomputable def o198 := some 198
noncomputable def r198 := rt 198
noncomputable def o199 := some 199
noncomputable def r199 := rt 199
noncomputable def o200 := some 200
noncomputable def r200 := rt 200
noncomputable def o201 := some 201
noncomputable def r201 := rt 201
noncomputable def o202 := some 202
noncomputable def r202 := rt 202
noncomputable def o203 := some 203
noncomputable def r203 := rt 203
noncomputable def o204 := some 204
noncomputable def r204 := rt 204
noncomputable def o205 := some 205
noncomputable def r205 := rt 205
noncomputable def o206 := some 206
noncomputable def r206 := rt 206
noncomputable def o207 := some 207
noncomputable def r207 := rt 207
noncomputable def o208 := some 208
noncomputable def r208 := rt 208
noncomputable def o209 := some 209
noncomputable def o210 := some 210
noncomputable def o211 := some 211
noncomputable def o212 := some 212
noncomputable def o213 := some 213
noncomputable def o214 := some 214
noncomputable def o215 := some 215
noncomputable def o216 := some 216
noncomputable def o217 := some 217
noncomputable def o218 := some 218
noncomputable def o219 := some 219
noncomputable def o220 := some 220
noncomputable def o221 := some 221
noncomputable def o222 := some 222
noncomputable def o223 := some 223
noncomputable def r223 := rt 223
noncomputable def o224 := some 224
noncomputable def r224 := rt 224
noncomputable def o225 := some 225
noncomputable def r225 := rt 225
noncomputable def o226 := some 226
noncomputable def r226 := rt 226
noncomputable def o227 := some 227
noncomputable def r227 := rt 227
noncomputable def o228 := some 228
noncomputable def r228 := rt 228
noncomputable def o229 := some 229
noncomputable def r229 := rt 229
noncomputable def o230 := some 230
noncomputable def r230 := rt 230
noncomputable def o231 := some 231
noncomputable def r231 := rt 231
noncomputable def o232 := some 232
noncomputable def r232 := rt 232
noncomputable def o233 := some 233
noncomputable def r233 := rt 233
noncomputable def o234 := some 234
noncomputable def r234 := rt 234
noncomputable def o235 := some 235
noncomputable def r235 := rt 235
noncomputable def o236 := some 236
noncomputable def o237 := some 237
noncomputable def o238 := some 238
noncomputable def o239 := some 239
noncomputable def o240 := some 240
noncomputable def o241 := some 241
noncomputable def o242 := some 242
noncomputable def o243 := some 243
noncomputable def o244 := some 244
noncomputable def o245 := some 245
noncomputable def o246 := some 246
noncomputable def o247 := some 247
noncomputable def o248 := some 248
noncomputable def o249 := some 249
noncomputable def o250 := some 250
noncomputable def r250 := rt 250
noncomputable def o251 := some 251
noncomputable def r251 := rt 251
noncomputable def o252 := some 252
noncomputable def r252 := rt 252
noncomputable def o253 := some 253
noncomputable def r253 := rt 253
noncomputable def o254 := some 254
noncomputable def r254 := rt 254
noncomputable def o255 := some 255
noncomputable def o256 := some 256
noncomputable def o257 := some 257
noncomputable def o258 := some 258
noncomputable def o259 := some 259
noncomputable def o260 := some 260
noncomputable def o261 := some 261
noncomputable def o262 := some 262
noncomputable def o263 := some 263
noncomputable def o264 := some 264
noncomputable def o265 := some 265
noncomputable def o266 := some 266
noncomputable def o267 := some 267
noncomputable def o268 := some 268
noncomputable def o269 := some 269
noncomputable def o270 := some 270
noncomputable def o271 := some 271
noncomputable def o272 := some 272
noncomputable def o273 := some 273
noncomputable def r273 := rt 273
noncomputable def o274 := some 274
noncomputable def r274 := rt 274
noncomputable def o275 := some 275
noncomputable def r275 := rt 275
noncomputable def o276 := some 276
noncomputable def r276 := rt 276
noncomputable def o277 := some 277
noncomputable def r277 := rt 277
noncomputable def o278 := some 278
noncomputable def r278 := rt 278
noncomputable def o279 := some 279
noncomputable def r279 := rt 279
noncomputable def o280 := some 280
noncomputable def r280 := rt 280
noncomputable def o281 := some 281
noncomputable def r281 := rt 281
noncomputable def o282 := some 282
noncomputable def r282 := rt 282
noncomputable def o283 := some 283
noncomputable def r283 := rt 283
noncomputable def o284 := some 284
noncomputable def r284 := rt 284
noncomputable def o285 := some 285
noncomputable def r285 := rt 285
noncomputable def o286 := some 286
noncomputable def o287 := some 287
noncomputable def r287 := rt 287
noncomputable def o288 := some 288
noncomputable def r288 := rt 288
noncomputable def o289 := some 289
noncomputable def r289 := rt 289
noncomputable def o290 := some 290
noncomputable def r290 := rt 290
noncomputable def o291 := some 291
noncomputable def r291 := rt 291
noncomputable def o292 := some 292
noncomputable def r292 := rt 292
noncomputable def o293 := some 293
noncomputable def r293 := rt 293
noncomputable def o294 := some 294
noncomputable def r294 := rt 294
noncomputable def o295 := some 295
noncomputable def o296 := some 296
noncomputable def r296 := rt 296
theorem en {Γ : Nat → D} {f : FuncId} {fn : Func} (c : CFn) (hf : Tryz.prog.funcs[f]? = some fn) (h1 : xq fn = some c) (h2 : xw fn = some true) (h3 : (fn.name == "runtime.NumGoroutine") = false) : EntOk Tryz.prog Γ f (.code c) := .ofMap hf h1 h2 h3
end Go.Proofs.YtelnkadnphephaaGreatDoor.T
end
noncomputable section
namespace Go.Proofs.YtelnkadnphephaaGreatDoor.T
open Go Go.Abs
noncomputable def C7 : CFn := ⟨23,[.t 2],fun P Γ call yl qs L => mR [qMv o2 rZ] (mR [qMv o3 rZ] (mSeq (mBlock 0 (mLoop L (mSeq (mR [qMv o7 r0,qNeq o8 r7 (rc sE)] (mCond r8 mSkip (mExit 0))) (mBlock 1 (mR [qMv o10 r0,qCall call yl o11 (rcf 25) [r10,(rs [10])],qMv o9 r11,qH Γ o12 fun g n e=>q_ext e (.t 9) 0,qH Γ o13 fun g n e=>q_ext e (.t 9) 1,qH Γ o14 fun g n e=>q_ext e (.t 9) 2,qMv o4 r12,qMv o5 r13,qMv o6 r14] (mR [qMv o15 r3,qMv o16 r4,qMv o17 r6,qH Γ o18 fun g n e=>q_build e [sE,(.b false)] [(0,1,(.t 16)),(1,1,(.t 17))],qH Γ o19 fun g n e=>q_bslice n e 2 [sE,(.b false)] [(0,2,(.t 18))] 1,qH Γ o20 fun g n e=>q_app g n e 2 24 0 (.t 15) (.t 19),qMv o3 r20] (mO [qMv o21 r5,qMv o0 r21]))))))) (mR [qMv o22 r3,qMv o2 r22] mRet)))⟩
noncomputable def C14 : CFn := ⟨101,[.t 0],fun P Γ call yl qs L => mR [qMv o0 rF] (mR [qCall call yl o15 (rcf 30) [(rs [112,59,115,47,97,47,98,47,59,61]),rF],qMv o14 r15,qH Γ o16 fun g n e=>q_ext e (.t 14) 0,qH Γ o17 fun g n e=>q_ext e (.t 14) 1,qH Γ o18 fun g n e=>q_ext e (.t 14) 2,qAlloc o1 [.nils,(.b false),(.b false)] 0,qAlloc o3 [(iN 0),(iN 0)] 0,qSt none 3 r1 r16,qMv o2 r17,qSt none 2 r3 r18] (mR [qLdA o20 3 r1,qCall call yl o21 (rcf 31) [r20],qMv o19 r21,qH Γ o22 fun g n e=>q_ext e (.t 19) 0,qH Γ o23 fun g n e=>q_ext e (.t 19) 1,qH Γ o24 fun g n e=>q_ext e (.t 19) 2,qAlloc o4 [.nils,(.b false),.nils] 0,qSt none 3 r4 r22,qMv o5 r23,qMv o6 r24] (mR [qH Γ o25 fun g n e=>q_build e [sE,sE,(.b false)] [(0,1,(.c (.s (bs [45])))),(1,1,(.c (.s (bs [97,10,98,10]))))],qH Γ o26 fun g n e=>q_bslice n e 3 [sE,sE,(.b false)] [(0,3,(.t 25))] 1,qH Γ o27 fun g n e=>q_build e [.nils,.nils] [(0,1,(.t 26))],qAlloc o7 [.nils,.nils] 0,qSt none 2 r7 r27] (mR [qLdA o29 3 r4,qH Γ o30 fun g n e=>q_build e [(.b false),(.b false),(.b false),(.b false),sE] [],qLdA o31 2 r7,qCall call yl o32 (rcf 32) [r29,r30,r31],qMv o28 r32,qH Γ o33 fun g n e=>q_ext e (.t 28) 0,qH Γ o34 fun g n e=>q_ext e (.t 28) 1,qMv o8 r33,qMv o9 r34] (mSeq (mR [qMv o35 r2,qNeq o36 r35 (rN 0),qMv o37 r36,qG 37 false o38 (qMv o38 r5),qG 37 false o39 (qNeq o39 r38 (rN 0)),qPick o40 r37 rT r39,qMv o41 r40,qG 41 false o42 (qMv o42 r9),qG 41 false o43 (qNeq o43 r42 (rN 0)),qPick o44 r41 rT r43,qMv o45 r44,qG 45 false o46 (qMv o46 r8),qG 45 false o47 (qH Γ o47 fun g n e=>q_eq g e false (.leaf .p) (.t 46) (.c .nilp)),qPick o48 r45 rT r47,qMv o49 r48,qG 49 false o50 (qMv o50 r8),qG 49 false o51 (qCall call yl o51 (rcf 21) [r50,(rN 1)]),qG 49 false o52 (qNeq o52 r51 (rN 0)),qPick o53 r49 rT r52] (mCond r53 (mR [qMv o0 rF] mRet) mSkip)) (mR [qMv o55 r8,qCall call yl o56 (rcf 15) [r55,(rN 9)],qMv o54 r56,qH Γ o57 fun g n e=>q_ext e (.t 54) 0,qH Γ o58 fun g n e=>q_ext e (.t 54) 1,qAlloc o10 [(iN 0),(iN 0),(iN 0),sE,sE,.nils,(.b false),(u8 0),(iN 0)] 0,qSt none 9 r10 r57,qMv o11 r58] (mR [qMv o60 r8,qCall call yl o61 (rcf 15) [r60,(rN 9)],qMv o59 r61,qH Γ o62 fun g n e=>q_ext e (.t 59) 0,qH Γ o63 fun g n e=>q_ext e (.t 59) 1,qAlloc o12 [(iN 0),(iN 0),(iN 0),sE,sE,.nils,(.b false),(u8 0),(iN 0)] 0,qSt none 9 r12 r62,qMv o13 r63] (mR [qMv o64 r11,qEql o65 r64 (rN 0),qMv o66 r65,qG 66 true o67 (qMv o67 r13),qG 66 true o68 (qEql o68 r67 (rN 0)),qPick o69 r66 r68 rF,qMv o70 r69,qG 70 true o71 (qFaddr o71 0 r10),qG 70 true o72 (qLd1 o72 r71),qG 70 true o73 (qEql o73 r72 (rN 1)),qPick o74 r70 r73 rF,qMv o75 r74,qG 75 true o76 (qFaddr o76 1 r10),qG 75 true o77 (qLd1 o77 r76),qG 75 true o78 (qEql o78 r77 (rN 1)),qPick o79 r75 r78 rF,qMv o80 r79,qG 80 true o81 (qFaddr o81 3 r10),qG 80 true o82 (qLd1 o82 r81),qG 80 true o83 (qEql o83 r82 (rs [97])),qPick o84 r80 r83 rF,qMv o85 r84,qG 85 true o86 (qFaddr o86 0 r12),qG 85 true o87 (qLd1 o87 r86),qG 85 true o88 (qEql o88 r87 (rN 4)),qPick o89 r85 r88 rF,qMv o90 r89,qG 90 true o91 (qFaddr o91 2 r12),qG 90 true o92 (qLd1 o92 r91),qG 90 true o93 (qEql o93 r92 (rN 2)),qPick o94 r90 r93 rF,qMv o95 r94,qG 95 true o96 (qMv o96 r8),qG 95 true o97 (qCall call yl o97 (rcf 23) [r96]),qG 95 true o98 (qH Γ o98 fun g n e=>q_lenL e (.t 97)),qG 95 true o99 (qEql o99 r98 (rN 4)),qPick o100 r95 r99 rF,qMv o0 r100] mRet))))))))⟩
noncomputable def C15 : CFn := ⟨91,[.cell 4 true 9,.t 5],fun P Γ call yl qs L => mR [qAlloc o4 [(iN 0),(iN 0),(iN 0),sE,sE,.nils,(.b false),(u8 0),(iN 0)] 0,qMv o5 (rN 0)] (mSeq (mR [qMv o7 r0,qH Γ o8 fun g n e=>q_eq g e false (.leaf .p) (.t 7) (.c .nilp)] (mCond r8 (mR [qH Γ o9 fun g n e=>q_build e [(iN 0),(iN 0),(iN 0),sE,sE,.nils,(.b false),(u8 0),(iN 0)] [],qSt none 9 r4 r9,qMv o5 (rN 1)] mRet) mSkip)) (mSeq (mR [qMv o10 r1,qLss o11 r10 (rN 0),qMv o12 r11,qG 12 false o13 (qMv o13 r1),qG 12 false o14 (qMv o14 r0),qG 12 false o15 (qNil o15 r14),qG 12 false o16 (qFaddr o16 2 r15),qG 12 false o17 (qFaddr o17 0 r16),qG 12 false o18 (qLd1 o18 r17),qG 12 false o19 (qSub o19 (rN 1073741824) r18),qG 12 false o20 (qGtr o20 r13 r19),qPick o21 r12 rT r20] (mCond r21 (mR [qH Γ o22 fun g n e=>q_build e [(iN 0),(iN 0),(iN 0),sE,sE,.nils,(.b false),(u8 0),(iN 0)] [],qSt none 9 r4 r22,qMv o5 (rN 2)] mRet) mSkip)) (mSeq (mR [qMv o23 r0,qNil o24 r23,qFaddr o25 11 r24,qLd1 o26 r25,qH Γ o27 fun g n e=>q_lenM g e (.t 26),qEql o28 r27 (rN 0)] (mCond r28 (mSeq (mDraw Γ call [⟨o29,.mv (.t 0),none⟩,⟨o30,.mv (.t 0),none⟩,⟨o31,.nilchk (.t 30),none⟩,⟨o32,.faddr 0 (.t 31),none⟩,⟨o33,.ld false 1 (.t 32),none⟩,⟨o34,.mv (.t 0),none⟩,⟨o35,.nilchk (.t 34),none⟩,⟨o36,.faddr 2 (.t 35),none⟩,⟨o37,.faddr 0 (.t 36),none⟩,⟨o38,.ld false 1 (.t 37),none⟩,⟨o39,.mv (.t 1),none⟩,⟨o40,.bin .add (.t 38) (.t 39),none⟩,⟨o41,.call (.t 33) [(.t 40)],none⟩,⟨o42,.nilchk (.t 29),none⟩,⟨o43,.faddr 2 (.t 42),none⟩,⟨none,.st 9 (.t 43) (.t 41),none⟩] [⟨[],0,1⟩,⟨[],0,0⟩,⟨[1],0,0⟩,⟨[2,1],0,0⟩,⟨[3,2,1],0,0⟩,⟨[],0,0⟩,⟨[5],0,0⟩,⟨[6,5],0,0⟩,⟨[7,6,5],0,0⟩,⟨[8,7,6,5],0,0⟩,⟨[],0,0⟩,⟨[9,10,8,7,6,5],0,0⟩,⟨[4,11,3,2,1,9,10,8,7,6,5],0,0⟩,⟨[0,1,2,3,4,5,6,7,8,9,10,11,12],1,1⟩,⟨[13,0,1,2,3,4,5,6,7,8,9,10,11,12],1,1⟩,⟨[14,12,0,1,2,3,4,5,6,7,8,9,10,11,13],1,1⟩]) (mR [qMv o44 r0,qNil o45 r44,qFaddr o46 2 r45,qLdA o47 9 r46,qCall call yl o48 (rcf 33) [r47],qSt none 9 r4 r48,qMv o5 (rN 0)] mRet)) mSkip)) (mSeq (mR [qMv o6 (rN 0)] (mBlock 0 (mLoop L (mSeq (mR [qMv o49 r6,qMv o50 r1,qLss o51 r49 r50,qMv o52 r51,qG 52 true o53 (qMv o53 r0),qG 52 true o54 (qNil o54 r53),qG 52 true o55 (qFaddr o55 2 r54),qG 52 true o56 (qFaddr o56 6 r55),qG 52 true o57 (qLd1 o57 r56),qG 52 true o58 (qH Γ o58 fun g n e=>q_un e .not (.t 57)),qPick o59 r52 r58 rF] (mCond r59 mSkip (mExit 0))) (mSeq (mBlock 1 (mSeq (mDraw Γ call [⟨o62,.mv (.t 0),none⟩,⟨o63,.mv (.t 0),none⟩,⟨o64,.nilchk (.t 63),none⟩,⟨o65,.faddr 0 (.t 64),none⟩,⟨o66,.ld false 1 (.t 65),none⟩,⟨o67,.mv (.t 0),none⟩,⟨o68,.nilchk (.t 67),none⟩,⟨o69,.faddr 2 (.t 68),none⟩,⟨o70,.faddr 0 (.t 69),none⟩,⟨o71,.ld false 1 (.t 70),none⟩,⟨o72,.bin .add (.t 71) (.c (iN 1)),none⟩,⟨o73,.call (.t 66) [(.t 72)],none⟩,⟨o74,.nilchk (.t 62),none⟩,⟨o75,.faddr 2 (.t 74),none⟩,⟨none,.st 9 (.t 75) (.t 73),none⟩] [⟨[],0,1⟩,⟨[],0,0⟩,⟨[1],0,0⟩,⟨[2,1],0,0⟩,⟨[3,2,1],0,0⟩,⟨[],0,0⟩,⟨[5],0,0⟩,⟨[6,5],0,0⟩,⟨[7,6,5],0,0⟩,⟨[8,7,6,5],0,0⟩,⟨[9,8,7,6,5],0,0⟩,⟨[4,10,3,2,1,9,8,7,6,5],0,0⟩,⟨[0,1,2,3,4,5,6,7,8,9,10,11],1,1⟩,⟨[12,0,1,2,3,4,5,6,7,8,9,10,11],1,1⟩,⟨[13,11,0,1,2,3,4,5,6,7,8,9,10,12],1,1⟩]) (mSeq (mDraw Γ call [⟨o76,.mv (.t 0),none⟩,⟨o77,.nilchk (.t 76),none⟩,⟨o78,.faddr 11 (.t 77),none⟩,⟨o79,.ld false 1 (.t 78),none⟩,⟨o80,.mv (.t 0),none⟩,⟨o81,.nilchk (.t 80),none⟩,⟨o82,.faddr 2 (.t 81),none⟩,⟨o83,.faddr 1 (.t 82),none⟩,⟨o84,.ld false 1 (.t 83),none⟩,⟨o85,.look (.leaf .i) (.b false) false (.t 79) (.t 84),none⟩] [⟨[],0,0⟩,⟨[0],0,0⟩,⟨[1,0],0,0⟩,⟨[2,1,0],0,0⟩,⟨[],0,0⟩,⟨[4],0,0⟩,⟨[5,4],0,0⟩,⟨[6,5,4],0,0⟩,⟨[7,6,5,4],0,0⟩,⟨[3,8,2,1,0,7,6,5,4],0,0⟩]) (mCond r85 (mExit 0) mSkip)))) (mO [qMv o60 r6,qAdd o61 r60 (rN 1),qMv o6 r61])))))) (mR [qMv o86 r0,qNil o87 r86,qFaddr o88 2 r87,qLdA o89 9 r88,qCall call yl o90 (rcf 33) [r89],qSt none 9 r4 r90,qMv o5 (rN 0)] mRet)))))⟩
noncomputable def C16 : CFn := ⟨41,[.cell 4 true 9,.t 5],fun P Γ call yl qs L => mR [qAlloc o4 [(iN 0),(iN 0),(iN 0),sE,sE,.nils,(.b false),(u8 0),(iN 0)] 0,qMv o5 (rN 0)] (mSeq (mR [qMv o6 r0,qH Γ o7 fun g n e=>q_eq g e false (.leaf .p) (.t 6) (.c .nilp)] (mCond r7 (mR [qH Γ o8 fun g n e=>q_build e [(iN 0),(iN 0),(iN 0),sE,sE,.nils,(.b false),(u8 0),(iN 0)] [],qSt none 9 r4 r8,qMv o5 (rN 1)] mRet) mSkip)) (mSeq (mR [qMv o9 r1,qLss o10 r9 (rN 0),qMv o11 r10,qG 11 false o12 (qMv o12 r1),qG 11 false o13 (qMv o13 r0),qG 11 false o14 (qNil o14 r13),qG 11 false o15 (qFaddr o15 2 r14),qG 11 false o16 (qFaddr o16 0 r15),qG 11 false o17 (qLd1 o17 r16),qG 11 false o18 (qGtr o18 r12 r17),qPick o19 r11 rT r18] (mCond r19 (mR [qH Γ o20 fun g n e=>q_build e [(iN 0),(iN 0),(iN 0),sE,sE,.nils,(.b false),(u8 0),(iN 0)] [],qSt none 9 r4 r20,qMv o5 (rN 2)] mRet) mSkip)) (mSeq (mDraw Γ call [⟨o21,.mv (.t 0),none⟩,⟨o22,.mv (.t 0),none⟩,⟨o23,.nilchk (.t 22),none⟩,⟨o24,.faddr 0 (.t 23),none⟩,⟨o25,.ld false 1 (.t 24),none⟩,⟨o26,.mv (.t 0),none⟩,⟨o27,.nilchk (.t 26),none⟩,⟨o28,.faddr 2 (.t 27),none⟩,⟨o29,.faddr 0 (.t 28),none⟩,⟨o30,.ld false 1 (.t 29),none⟩,⟨o31,.mv (.t 1),none⟩,⟨o32,.bin .sub (.t 30) (.t 31),none⟩,⟨o33,.call (.t 25) [(.t 32)],none⟩,⟨o34,.nilchk (.t 21),none⟩,⟨o35,.faddr 2 (.t 34),none⟩,⟨none,.st 9 (.t 35) (.t 33),none⟩] [⟨[],0,1⟩,⟨[],0,0⟩,⟨[1],0,0⟩,⟨[2,1],0,0⟩,⟨[3,2,1],0,0⟩,⟨[],0,0⟩,⟨[5],0,0⟩,⟨[6,5],0,0⟩,⟨[7,6,5],0,0⟩,⟨[8,7,6,5],0,0⟩,⟨[],0,0⟩,⟨[9,10,8,7,6,5],0,0⟩,⟨[4,11,3,2,1,9,10,8,7,6,5],0,0⟩,⟨[0,1,2,3,4,5,6,7,8,9,10,11,12],1,1⟩,⟨[13,0,1,2,3,4,5,6,7,8,9,10,11,12],1,1⟩,⟨[14,12,0,1,2,3,4,5,6,7,8,9,10,11,13],1,1⟩]) (mR [qMv o36 r0,qNil o37 r36,qFaddr o38 2 r37,qLdA o39 9 r38,qCall call yl o40 (rcf 33) [r39],qSt none 9 r4 r40,qMv o5 (rN 0)] mRet))))⟩
noncomputable def C19 : CFn := ⟨85,[.t 4],fun P Γ call yl qs L => mR [qBox o2 r0,qBox o3 r1,qMv o4 rF] (mSeq (mR [qFaddr o6 5 r2,qLd1 o7 r6,qH Γ o8 fun g n e=>q_lenL e (.t 7),qFaddr o9 5 r3,qLd1 o10 r9,qH Γ o11 fun g n e=>q_lenL e (.t 10),qNeq o12 r8 r11] (mCond r12 (mR [qMv o4 rF] mRet) mSkip)) (mSeq (mR [qFaddr o13 5 r2,qLd1 o14 r13,qH Γ o15 fun g n e=>q_lenL e (.t 14),qMv o16 (rN 0)] (mBlock 0 (mLoop L (mR [qLss o17 r16 r15] (mSeq (mCond r17 mSkip (mExit 0)) (mSeq (mBlock 1 (mR [qMv o18 r16,qMv o5 r18] (mSeq (mDraw Γ call [⟨o19,.faddr 5 (.t 2),none⟩,⟨o20,.ld false 1 (.t 19),none⟩,⟨o21,.mv (.t 5),none⟩,⟨o22,.iaddr 2 (.t 20) (.t 21),none⟩,⟨o23,.ld true 2 (.t 22),none⟩,⟨o24,.faddr 5 (.t 3),none⟩,⟨o25,.ld false 1 (.t 24),none⟩,⟨o26,.mv (.t 5),none⟩,⟨o27,.iaddr 2 (.t 25) (.t 26),none⟩,⟨o28,.ld true 2 (.t 27),none⟩,⟨o29,.eq true (.cells 2 [(0,.i),(1,.s)]) (.t 23) (.t 28),none⟩] [⟨[],0,0⟩,⟨[0],0,0⟩,⟨[],0,0⟩,⟨[1,2,0],0,0⟩,⟨[3,1,2,0],0,0⟩,⟨[],0,0⟩,⟨[5],0,0⟩,⟨[],0,0⟩,⟨[6,7,5],0,0⟩,⟨[8,6,7,5],0,0⟩,⟨[4,9,3,1,2,0,8,6,7,5],0,0⟩]) (mCond r29 (mR [qMv o4 rF] mRet) mSkip)))) (mO [qAdd o30 r16 (rN 1),qMv o16 r30]))))))) (mR [qFaddr o31 0 r2,qLd1 o32 r31,qFaddr o33 0 r3,qLd1 o34 r33,qEql o35 r32 r34,qMv o36 r35,qG 36 true o37 (qFaddr o37 1 r2),qG 36 true o38 (qLd1 o38 r37),qG 36 true o39 (qFaddr o39 1 r3),qG 36 true o40 (qLd1 o40 r39),qG 36 true o41 (qEql o41 r38 r40),qPick o42 r36 r41 rF,qMv o43 r42,qG 43 true o44 (qFaddr o44 2 r2),qG 43 true o45 (qLd1 o45 r44),qG 43 true o46 (qFaddr o46 2 r3),qG 43 true o47 (qLd1 o47 r46),qG 43 true o48 (qEql o48 r45 r47),qPick o49 r43 r48 rF,qMv o50 r49,qG 50 true o51 (qFaddr o51 3 r2),qG 50 true o52 (qLd1 o52 r51),qG 50 true o53 (qFaddr o53 3 r3),qG 50 true o54 (qLd1 o54 r53),qG 50 true o55 (qEql o55 r52 r54),qPick o56 r50 r55 rF,qMv o57 r56,qG 57 true o58 (qFaddr o58 4 r2),qG 57 true o59 (qLd1 o59 r58),qG 57 true o60 (qFaddr o60 4 r3),qG 57 true o61 (qLd1 o61 r60),qG 57 true o62 (qEql o62 r59 r61),qPick o63 r57 r62 rF,qMv o64 r63,qG 64 true o65 (qFaddr o65 6 r2),qG 64 true o66 (qLd1 o66 r65),qG 64 true o67 (qFaddr o67 6 r3),qG 64 true o68 (qLd1 o68 r67),qG 64 true o69 (qH Γ o69 fun g n e=>q_eq g e false (.leaf .b) (.t 66) (.t 68)),qPick o70 r64 r69 rF,qMv o71 r70,qG 71 true o72 (qFaddr o72 7 r2),qG 71 true o73 (qLd1 o73 r72),qG 71 true o74 (qFaddr o74 7 r3),qG 71 true o75 (qLd1 o75 r74),qG 71 true o76 (qEql o76 r73 r75),qPick o77 r71 r76 rF,qMv o78 r77,qG 78 true o79 (qFaddr o79 8 r2),qG 78 true o80 (qLd1 o80 r79),qG 78 true o81 (qFaddr o81 8 r3),qG 78 true o82 (qLd1 o82 r81),qG 78 true o83 (qEql o83 r80 r82),qPick o84 r78 r83 rF,qMv o4 r84] mRet)))⟩
noncomputable def C20 : CFn := ⟨11,[.cell 2 true 9],fun P Γ call yl qs L => mR [qAlloc o2 [(iN 0),(iN 0),(iN 0),sE,sE,.nils,(.b false),(u8 0),(iN 0)] 0] (mSeq (mR [qMv o3 r0,qH Γ o4 fun g n e=>q_eq g e false (.leaf .p) (.t 3) (.c .nilp)] (mCond r4 (mR [qH Γ o5 fun g n e=>q_build e [(iN 0),(iN 0),(iN 0),sE,sE,.nils,(.b false),(u8 0),(iN 0)] [],qSt none 9 r2 r5] mRet) mSkip)) (mR [qMv o6 r0,qNil o7 r6,qFaddr o8 2 r7,qLdA o9 9 r8,qCall call yl o10 (rcf 33) [r9],qSt none 9 r2 r10] mRet))⟩
noncomputable def C21 : CFn := ⟨8,[.t 4],fun P Γ call yl qs L => mR [qMv o4 (rN 0)] (mR [qMv o5 r0,qMv o6 r1,qCall call yl o7 (rcf 39) [r5,r6,rT],qMv o4 r7] mRet)⟩
noncomputable def C22 : CFn := ⟨8,[.t 4],fun P Γ call yl qs L => mR [qMv o4 (rN 0)] (mR [qMv o5 r0,qMv o6 r1,qCall call yl o7 (rcf 39) [r5,r6,rF],qMv o4 r7] mRet)⟩
noncomputable def C23 : CFn := ⟨15,[.t 2],fun P Γ call yl qs L => mR [qMv o2 rZ] (mSeq (mR [qMv o3 r0,qH Γ o4 fun g n e=>q_eq g e false (.leaf .p) (.t 3) (.c .nilp)] (mCond r4 (mR [qMv o2 rZ] mRet) mSkip)) (mSeq (mDraw Γ call [⟨o5,.mv (.t 0),none⟩,⟨o6,.nilchk (.t 5),none⟩,⟨o7,.faddr 1 (.t 6),none⟩,⟨o8,.ld false 1 (.t 7),none⟩,⟨o9,.mv (.t 0),none⟩,⟨o10,.nilchk (.t 9),none⟩,⟨o11,.faddr 2 (.t 10),none⟩,⟨o12,.faddr 0 (.t 11),none⟩,⟨o13,.ld false 1 (.t 12),none⟩,⟨o14,.call (.t 8) [(.t 13)],none⟩,⟨o2,.mv (.t 14),none⟩] [⟨[],0,0⟩,⟨[0],0,0⟩,⟨[1,0],0,0⟩,⟨[2,1,0],0,0⟩,⟨[],0,0⟩,⟨[4],0,0⟩,⟨[5,4],0,0⟩,⟨[6,5,4],0,0⟩,⟨[7,6,5,4],0,0⟩,⟨[3,8,2,1,0,7,6,5,4],0,0⟩,⟨[9,0,1,2,3,4,5,6,7,8],1,1⟩]) mRet))⟩
noncomputable def C24 : CFn := ⟨79,[.t 2],fun P Γ call yl qs L => mR [qBox o1 r0,qMv o2 (rN 0)] (mR [qH Γ o11 fun g n e=>q_mkmap n ,qMv o3 r11] (mR [qFaddr o12 0 r1,qLd1 o13 r12,qH Γ o14 fun g n e=>q_lenL e (.t 13),qLeq o15 r14 (rN 1024),qMv o16 r15,qG 16 true o17 (qFaddr o17 1 r1),qG 16 true o18 (qLd1 o18 r17),qG 16 true o19 (qH Γ o19 fun g n e=>q_lenL e (.t 18)),qG 16 true o20 (qLeq o20 r19 (rN 1024)),qPick o21 r16 r20 rF,qMv o4 r21] (mSeq (mR [qFaddr o22 1 r1,qLd1 o23 r22,qH Γ o24 fun g n e=>q_lenL e (.t 23),qMv o25 (rN 0)] (mBlock 0 (mLoop L (mR [qLss o26 r25 r24] (mSeq (mCond r26 mSkip (mExit 0)) (mSeq (mBlock 1 (mR [qH Γ o27 fun g n e=>q_iaddr e 3 (.t 23) (.t 25),qLdA o28 3 r27,qAlloc o6 [sE,sE,(.b false)] 0,qSt none 3 r6 r28] (mR [qMv o29 r3,qFaddr o30 0 r6,qLd1 o31 r30,qH Γ o32 fun g n e=>q_look g e (.leaf .s) (iN 0) false (.t 29) (.t 31),qAdd o33 r32 (rN 1),qH Γ none fun g n e=>q_mupd g e (.leaf .s) (.t 29) (.t 31) (.t 33)] (mO [qMv o34 r4,qMv o35 r34,qG 35 true o36 (qMv o36 r3),qG 35 true o37 (qFaddr o37 0 r6),qG 35 true o38 (qLd1 o38 r37),qG 35 true o39 (qH Γ o39 fun g n e=>q_look g e (.leaf .s) (iN 0) false (.t 36) (.t 38)),qG 35 true o40 (qEql o40 r39 (rN 1)),qPick o41 r35 r40 rF,qMv o4 r41])))) (mO [qAdd o42 r25 (rN 1),qMv o25 r42]))))))) (mSeq (mR [qFaddr o43 0 r1,qLd1 o44 r43,qFaddr o45 1 r1,qLd1 o46 r45,qH Γ o47 fun g n e=>q_bslice n e 1 [.nils,.nils] [(0,1,(.t 44)),(1,1,(.t 46))] 2,qH Γ o48 fun g n e=>q_lenL e (.t 47),qMv o49 (rN 0)] (mBlock 2 (mLoop L (mR [qLss o50 r49 r48] (mSeq (mCond r50 mSkip (mExit 2)) (mSeq (mBlock 3 (mR [qH Γ o51 fun g n e=>q_iaddr e 1 (.t 47) (.t 49),qLd1 o52 r51,qMv o8 r52] (mR [qMv o53 r8,qH Γ o54 fun g n e=>q_lenL e (.t 53),qMv o55 (rN 0)] (mBlock 4 (mLoop L (mR [qLss o56 r55 r54] (mSeq (mCond r56 mSkip (mExit 4)) (mSeq (mBlock 5 (mR [qH Γ o57 fun g n e=>q_iaddr e 3 (.t 53) (.t 55),qLdA o58 3 r57,qAlloc o10 [sE,sE,(.b false)] 0,qSt none 3 r10 r58] (mO [qMv o59 r4,qMv o60 r59,qG 60 true o61 (qFaddr o61 0 r10),qG 60 true o62 (qLd1 o62 r61),qG 60 true o63 (qNeq o63 r62 (rc sE)),qPick o64 r60 r63 rF,qMv o65 r64,qG 65 true o66 (qFaddr o66 2 r10),qG 65 true o67 (qLd1 o67 r66),qG 65 true o68 (qH Γ o68 fun g n e=>q_un e .not (.t 67)),qG 65 true o69 (qMv o69 r68),qG 69 false o70 (qFaddr o70 1 r10),qG 69 false o71 (qLd1 o71 r70),qG 69 false o72 (qEql o72 r71 (rc sE)),qG 65 true o73 (qPick o73 r69 rT r72),qPick o74 r65 r73 rF,qMv o4 r74]))) (mO [qAdd o75 r55 (rN 1),qMv o55 r75]))))))))) (mO [qAdd o76 r49 (rN 1),qMv o49 r76]))))))) (mSeq (mR [qMv o77 r4,qH Γ o78 fun g n e=>q_un e .not (.t 77)] (mCond r78 (mR [qMv o2 (rN 190)] mRet) mSkip)) (mR [qMv o2 (rN 0)] mRet))))))⟩
noncomputable def C25 : CFn := ⟨13,[.t 4,.t 5,.t 6],fun P Γ call yl qs L => mR [qMv o4 (rc sE),qMv o5 (rc sE),qMv o6 rF] (mR [qMv o7 r0,qMv o8 r1,qCall call yl o9 (rcf 40) [r7,r8],qH Γ o10 fun g n e=>q_ext e (.t 9) 0,qH Γ o11 fun g n e=>q_ext e (.t 9) 1,qH Γ o12 fun g n e=>q_ext e (.t 9) 2,qMv o4 r10,qMv o5 r11,qMv o6 r12] mRet)⟩
noncomputable def C27 : CFn := ⟨48,[.cell 8 true 6,.t 9],fun P Γ call yl qs L => mR [qBox o4 r0,qBox o5 r1,qBox o6 r2,qAlloc o8 [.nils,(iN 0),(iN 0),(iN 0),(iN 0),(u8 0)] 0,qMv o9 (rN 0)] (mSeq (mR [qLdA o12 3 r4,qLdA o13 2 r6,qMv o14 r3,qCall call yl o15 (rcf 41) [r12,r13,r14],qMv o10 r15] (mR [qMv o16 r10,qNeq o17 r16 (rN 0)] (mCond r17 (mR [qH Γ o18 fun g n e=>q_build e [.nils,(iN 0),(iN 0),(iN 0),(iN 0),(u8 0)] [],qMv o19 r10,qSt none 6 r8 r18,qMv o9 r19] mRet) mSkip))) (mR [qLdA o20 3 r4,qLdA o21 5 r5,qLdA o22 2 r6,qCall call yl o23 (rcf 42) [r20,r21,r22],qMv o11 r23] (mR [qMv o24 r11,qCall call yl o25 (rcf 43) [r24]] (mSeq (mBlock 0 (mLoop L (mSeq (mR [qMv o26 r11,qNil o27 r26,qFaddr o28 45 r27,qLd1 o29 r28,qH Γ o30 fun g n e=>q_un e .not (.t 29)] (mCond r30 mSkip (mExit 0))) (mBlock 1 (mSeq (mR [qMv o31 r11,qNil o32 r31,qFaddr o33 35 r32,qFaddr o34 2 r33,qLd1 o35 r34,qMv o36 r3,qEql o37 r35 r36] (mCond r37 (mR [qMv o38 r11,qCall call yl o39 (rcf 44) [r38,(rb 3),(rN 0)]] (mExit 0)) mSkip)) (mR [qMv o40 r11,qCall call yl o41 (rcf 45) [r40]] (mO [qMv o42 r11,qCall call yl o43 (rcf 43) [r42]]))))))) (mR [qMv o44 r11,qNil o45 r44,qFaddr o46 35 r45,qLdA o47 6 r46,qSt none 6 r8 r47,qMv o9 (rN 0)] mRet)))))⟩
noncomputable def C28 : CFn := ⟨19,[.t 4,.t 5],fun P Γ call yl qs L => mR [qMv o4 (rN 0),qMv o5 (rc .nili)] (mR [qMv o6 r0,qCall call yl o7 (rcf 46) [r6]] (mR [qMv o8 r0,qMv o9 r0,qNil o10 r9,qFaddr o11 1 r10,qLd1 o12 r11,qMv o13 r1,qH Γ o14 fun g n e=>q_appS g n e 13 (.t 12) (.t 13),qNil o15 r8,qFaddr o16 1 r15,qSt none 1 r16 r14] (mR [qMv o17 r1,qH Γ o18 fun g n e=>q_lenS e (.t 17),qMv o4 r18,qMv o5 (rc .nili)] mRet)))⟩
noncomputable def C30 : CFn := ⟨90,[.cell 4 true 3,.cell 5 false 1,.cell 6 true 2],fun P Γ call yl qs L => mR [qAlloc o4 [.nils,(.b false),(.b false)] 0,qAlloc o5 [(iN 0)] 0,qAlloc o6 [(iN 0),(iN 0)] 0] (mSeq (mR [qMv o11 r0,qH Γ o12 fun g n e=>q_lenS e (.t 11),qGtr o13 r12 (rN 65536)] (mCond r13 (mR [qH Γ o14 fun g n e=>q_build e [.nils,(.b false),(.b false)] [],qH Γ o15 fun g n e=>q_build e [(iN 0),(iN 0)] [],qSt none 3 r4 r14,qSt none 1 r5 (rN 4),qSt none 2 r6 r15] mRet) mSkip)) (mR [qH Γ o16 fun g n e=>q_mkfn e (.func 47) [] [(.t 4),(.t 5),(.t 6)],qDefer qs none r16] (mR [qMv o17 r0,qMv o18 r1,qCall call yl o19 (rcf 48) [],qH Γ o20 fun g n e=>q_build e [sE,(iN 0),(.b false),.nils,(iN 0),.nilm] [(0,1,(.t 17)),(2,1,(.t 18)),(5,1,(.t 19))],qBox o21 r20,qMv o7 r21] (mSeq (mBlock 0 (mLoop L (mSeq (mR [qMv o22 r7,qNil o23 r22,qFaddr o24 1 r23,qLd1 o25 r24,qMv o26 r0,qH Γ o27 fun g n e=>q_lenS e (.t 26),qLss o28 r25 r27] (mCond r28 mSkip (mExit 0))) (mBlock 1 (mR [qMv o29 r7,qCall call yl o30 (rcf 49) [r29],qMv o8 r30] (mBlock 2 (mR [qMv o34 r8,qCall call yl o35 (rcf 50) [r34],qMv o36 r35,qG 36 false o37 (qMv o37 r8),qG 36 false o38 (qEql o38 r37 (rN 10)),qPick o39 r36 rT r38,qMv o40 r39,qG 40 false o41 (qMv o41 r8),qG 40 false o42 (qEql o42 r41 (rN 59)),qPick o43 r40 rT r42,qMv o33 r43] (mCond r33 (mO [qMv o44 r7,qNil o45 r44,qFaddr o46 1 r45,qLd1 o47 r46,qAdd o48 r47 (rN 1),qNil o49 r44,qFaddr o50 1 r49,qSt none 1 r50 r48]) (mR [qMv o52 r8,qEql o53 r52 (rN 35),qMv o51 r53] (mCond r51 (mO [qMv o54 r7,qCall call yl o55 (rcf 51) [r54,(rc sE)]]) (mO [qMv o31 r7,qCall call yl o32 (rcf 52) [r31]]))))))))))) (mSeq (mR [qMv o57 r7,qNil o58 r57,qFaddr o59 3 r58,qLd1 o60 r59,qCall call yl o61 (rcf 53) [r60],qMv o56 r61,qH Γ o62 fun g n e=>q_ext e (.t 56) 0,qH Γ o63 fun g n e=>q_ext e (.t 56) 1,qMv o9 r62,qMv o10 r63] (mR [qMv o64 r9,qGtr o65 r64 (rN 0)] (mCond r65 (mO [qMv o66 r7,qMv o67 r9,qMv o68 r7,qNil o69 r68,qFaddr o70 3 r69,qLd1 o71 r70,qMv o72 r10,qH Γ o73 fun g n e=>q_iaddr e 54 (.t 71) (.t 72),qFaddr o74 0 r73,qLd1 o75 r74,qCall call yl o76 (rcf 54) [r66,r67,r75]]) mSkip))) (mSeq (mDraw Γ call [⟨o77,.mv (.t 7),none⟩,⟨o78,.nilchk (.t 77),none⟩,⟨o79,.faddr 3 (.t 78),none⟩,⟨o80,.ld false 1 (.t 79),none⟩,⟨o81,.mv (.t 0),none⟩,⟨o82,.bin .eql (.t 81) (.c (.s (bs [35,110]))),none⟩,⟨o83,.mv (.t 82),none⟩,⟨o84,.mv (.t 0),some (83,false)⟩,⟨o85,.call (.f 55) [(.t 84),(.c (.s (bs [35,110,10])))],some (83,false)⟩,⟨o86,.pick (.t 83) (.c (.b true)) (.t 85),none⟩,⟨o87,.mv (.t 1),none⟩,⟨o88,.build [.nils,(.b false),(.b false)] [(0,1,(.t 80)),(1,1,(.t 86)),(2,1,(.t 87))],none⟩,⟨o89,.build [(iN 0),(iN 0)] [],none⟩,⟨none,.st 3 (.t 4) (.t 88),none⟩,⟨none,.st 1 (.t 5) (.c (iN 0)),none⟩,⟨none,.st 2 (.t 6) (.t 89),none⟩] [⟨[],0,1⟩,⟨[0],0,1⟩,⟨[1,0],0,1⟩,⟨[2,1,0],0,1⟩,⟨[],0,0⟩,⟨[4],0,0⟩,⟨[5,4],0,0⟩,⟨[6,5,4],0,0⟩,⟨[7,6,5,4],0,0⟩,⟨[6,8,5,4,7],1,1⟩,⟨[],0,1⟩,⟨[3,9,10,2,1,0,6,8,5,4,7],1,1⟩,⟨[],0,3⟩,⟨[11,8,0,1,2,3,4,5,6,7,9,10],1,1⟩,⟨[13,0,1,2,3,4,5,6,7,8,9,10,11],2,2⟩,⟨[12,14,0,1,2,3,4,5,6,7,8,9,10,11,13],3,3⟩]) mRet))))))⟩
noncomputable def C31 : CFn := ⟨19,[.cell 2 true 3,.t 3,.t 4],fun P Γ call yl qs L => mR [qBox o1 r0,qAlloc o2 [.nils,(.b false),.nils] 0,qMv o3 (rN 0),qMv o4 (rN 0)] (mSeq (mR [qLdA o8 3 r1,qCall call yl o9 (rcf 56) [r8],qMv o7 r9,qH Γ o10 fun g n e=>q_ext e (.t 7) 0,qH Γ o11 fun g n e=>q_ext e (.t 7) 1,qMv o5 r10,qMv o6 r11] (mR [qMv o12 r5,qNeq o13 r12 (rN 0)] (mCond r13 (mR [qH Γ o14 fun g n e=>q_build e [.nils,(.b false),.nils] [],qMv o15 r5,qMv o16 r6,qSt none 3 r2 r14,qMv o3 r15,qMv o4 r16] mRet) mSkip))) (mR [qLdA o17 3 r1,qCall call yl o18 (rcf 57) [r17],qSt none 3 r2 r18,qMv o3 (rN 0),qMv o4 (rN 0)] mRet))⟩
noncomputable def C32 : CFn := ⟨53,[.t 6,.t 7],fun P Γ call yl qs L => mR [qBox o3 r0,qBox o4 r1,qBox o5 r2,qMv o6 (rc .nilp),qMv o7 (rN 0)] (mSeq (mR [qLdA o12 3 r3,qLdA o13 5 r4,qLdA o14 2 r5,qCall call yl o15 (rcf 27) [r12,r13,r14,(rN 0)],qMv o11 r15,qH Γ o16 fun g n e=>q_ext e (.t 11) 0,qH Γ o17 fun g n e=>q_ext e (.t 11) 1,qAlloc o8 [.nils,(iN 0),(iN 0),(iN 0),(iN 0),(u8 0)] 0,qSt none 6 r8 r16,qMv o9 r17] (mR [qMv o18 r9,qNeq o19 r18 (rN 0)] (mCond r19 (mR [qMv o20 r9,qMv o6 (rc .nilp),qMv o7 r20] mRet) mSkip))) (mR [qLdA o21 3 r3,qCall call yl o22 (rcf 58) [r21],qSt none 3 r3 r22] (mSeq (mDraw Γ call [⟨o23,.faddr 0 (.t 5),none⟩,⟨o24,.ld false 1 (.t 23),none⟩,⟨o25,.app 3 40 0 (.c .nils) (.t 24),none⟩,⟨o26,.faddr 1 (.t 5),none⟩,⟨o27,.ld false 1 (.t 26),none⟩,⟨o28,.app 3 40 0 (.c .nils) (.t 27),none⟩,⟨o29,.build [.nils,.nils] [(0,1,(.t 25)),(1,1,(.t 28))],none⟩,⟨none,.st 2 (.t 5) (.t 29),none⟩] [⟨[],0,0⟩,⟨[0],0,0⟩,⟨[1,0],0,0⟩,⟨[],0,1⟩,⟨[3],0,1⟩,⟨[4,2,3,1,0],1,1⟩,⟨[2,5,1,0,4,3],2,2⟩,⟨[6,5,0,1,2,3,4],2,2⟩]) (mR [qH Γ o30 fun g n e=>q_mkmap n ,qFaddr o31 0 r3,qLd1 o32 r31,qH Γ o33 fun g n e=>q_lenL e (.t 32),qH Γ o34 fun g n e=>q_build e [.nilf,.nilf,(iN 0),(iN 0),(iN 0),sE,sE,.nils,(.b false),(u8 0),(iN 0),.nilm,(iN 0)] [(11,1,(.t 30)),(12,1,(.t 33))],qBox o35 r34,qMv o10 r35] (mR [qMv o36 r10,qH Γ o37 fun g n e=>q_mkfn e (.func 59) [] [(.t 3),(.t 4),(.t 5)],qNil o38 r36,qFaddr o39 0 r38,qSt none 1 r39 r37] (mR [qMv o40 r10,qH Γ o41 fun g n e=>q_mkfn e (.func 61) [] [(.t 3),(.t 4),(.t 5)],qNil o42 r40,qFaddr o43 1 r42,qSt none 1 r43 r41] (mR [qMv o44 r10,qMv o45 r10,qNil o46 r45,qFaddr o47 0 r46,qLd1 o48 r47,qCall call yl o49 r48 [(rN 0)],qNil o50 r44,qFaddr o51 2 r50,qSt none 9 r51 r49] (mR [qMv o52 r10,qMv o6 r52,qMv o7 (rN 0)] mRet))))))))⟩
noncomputable def C33 : CFn := ⟨8,[.cell 2 true 9],fun P Γ call yl qs L => mR [qBox o1 r0,qAlloc o2 [(iN 0),(iN 0),(iN 0),sE,sE,.nils,(.b false),(u8 0),(iN 0)] 0] (mR [qFaddr o3 5 r1,qLd1 o4 r3,qH Γ o5 fun g n e=>q_app g n e 2 24 0 (.c .nils) (.t 4),qFaddr o6 5 r1,qSt none 1 r6 r5] (mR [qLdA o7 9 r1,qSt none 9 r2 r7] mRet))⟩
noncomputable def C35 : CFn := ⟨5,[.t 2],fun P Γ call yl qs L => mR [qMv o2 (rc sE)] (mR [qMv o3 r0,qCall call yl o4 (rcf 62) [r3],qMv o2 r4] mRet)⟩
noncomputable def C39 : CFn := ⟨30,[.t 6],fun P Γ call yl qs L => mR [qMv o6 (rN 0)] (mSeq (mR [qMv o7 r0,qH Γ o8 fun g n e=>q_eq g e false (.leaf .p) (.t 7) (.c .nilp)] (mCond r8 (mR [qMv o6 (rN 1)] mRet) mSkip)) (mSeq (mR [qMv o9 r1,qLss o10 r9 (rN 0),qMv o11 r10,qG 11 false o12 (qMv o12 r1),qG 11 false o13 (qMv o13 r0),qG 11 false o14 (qNil o14 r13),qG 11 false o15 (qFaddr o15 12 r14),qG 11 false o16 (qLd1 o16 r15),qG 11 false o17 (qGeq o17 r12 r16),qPick o18 r11 rT r17] (mCond r18 (mR [qMv o6 (rN 2)] mRet) mSkip)) (mSeq (mR [qMv o19 r2] (mCond r19 (mO [qMv o20 r0,qNil o21 r20,qFaddr o22 11 r21,qLd1 o23 r22,qMv o24 r1,qH Γ none fun g n e=>q_mupd g e (.leaf .i) (.t 23) (.t 24) (.c (.b true))]) (mO [qMv o25 r0,qNil o26 r25,qFaddr o27 11 r26,qLd1 o28 r27,qMv o29 r1,qGen Γ none fun _ _ _ => .bad]))) (mR [qMv o6 (rN 0)] mRet))))⟩
noncomputable def C40 : CFn := ⟨23,[.t 4,.t 5,.t 6],fun P Γ call yl qs L => mR [qMv o4 (rc sE),qMv o5 (rc sE),qMv o6 rF] (mSeq (mR [qMv o8 r0,qMv o9 r1,qCall call yl o10 (rcf 67) [r8,r9],qMv o7 r10] (mR [qMv o11 r7,qGeq o12 r11 (rN 0)] (mCond r12 (mSeq (mDraw Γ call [⟨o13,.mv (.t 0),none⟩,⟨o14,.mv (.t 7),none⟩,⟨o15,.slcS (.t 13) none (some (.t 14)),none⟩,⟨o16,.mv (.t 0),none⟩,⟨o17,.mv (.t 7),none⟩,⟨o18,.mv (.t 1),none⟩,⟨o19,.lenS (.t 18),none⟩,⟨o20,.bin .add (.t 17) (.t 19),none⟩,⟨o21,.slcS (.t 16) (some (.t 20)) none,none⟩,⟨o4,.mv (.t 15),none⟩,⟨o5,.mv (.t 21),none⟩,⟨o6,.mv (.c (.b true)),none⟩] [⟨[],0,0⟩,⟨[],0,0⟩,⟨[0,1],0,0⟩,⟨[],0,0⟩,⟨[],0,0⟩,⟨[],0,0⟩,⟨[5],0,0⟩,⟨[4,6,5],0,0⟩,⟨[3,7,4,6,5],0,0⟩,⟨[2,0,1],0,0⟩,⟨[8,9,0,1,2,3,4,5,6,7],0,0⟩,⟨[10,0,1,2,3,4,5,6,7,8,9],0,0⟩]) mRet) mSkip))) (mR [qMv o22 r0,qMv o4 r22,qMv o5 (rc sE),qMv o6 rF] mRet))⟩
noncomputable def C41 : CFn := ⟨39,[.t 6],fun P Γ call yl qs L => mR [qBox o3 r0,qBox o4 r1,qMv o6 (rN 0)] (mR [qLdA o13 3 r3,qCall call yl o14 (rcf 68) [r13,rF],qMv o12 r14,qH Γ o15 fun g n e=>q_ext e (.t 12) 0,qH Γ o16 fun g n e=>q_ext e (.t 12) 1,qMv o7 r15,qMv o8 r16] (mR [qLdA o18 3 r3,qCall call yl o19 (rcf 68) [r18,rT],qMv o17 r19,qH Γ o20 fun g n e=>q_ext e (.t 17) 0,qH Γ o21 fun g n e=>q_ext e (.t 17) 1,qMv o9 r20,qMv o10 r21] (mSeq (mR [qMv o22 r7,qNeq o23 r22 (rN 0),qMv o24 r23,qG 24 true o25 (qMv o25 r9),qG 24 true o26 (qNeq o26 r25 (rN 0)),qPick o27 r24 r26 rF] (mCond r27 (mR [qMv o6 (rN 150)] mRet) mSkip)) (mSeq (mR [qLdA o28 2 r4,qCall call yl o29 (rcf 24) [r28],qMv o11 r29] (mR [qMv o30 r11,qNeq o31 r30 (rN 0)] (mCond r31 (mR [qMv o32 r11,qMv o6 r32] mRet) mSkip))) (mSeq (mR [qMv o33 r2,qLss o34 r33 (rN 0),qMv o35 r34,qG 35 false o36 (qMv o36 r2),qG 35 false o37 (qGtr o37 r36 (rN 1073741824)),qPick o38 r35 rT r37] (mCond r38 (mR [qMv o6 (rN 2)] mRet) mSkip)) (mR [qMv o6 (rN 0)] mRet))))))⟩
noncomputable def C42 : CFn := ⟨127,[.t 6],fun P Γ call yl qs L => mR [qBox o3 r0,qBox o4 r1,qBox o5 r2,qMv o6 (rc .nilp)] (mSeq (mDraw Γ call [⟨o19,.ld true 3 (.t 3),none⟩,⟨o20,.ld true 5 (.t 4),none⟩,⟨o21,.ld true 2 (.t 5),none⟩,⟨o22,.mkmap,none⟩,⟨o23,.mkmap,none⟩,⟨o24,.mkmap,none⟩,⟨o25,.call (.f 69) [],none⟩,⟨o26,.build [.nils,(.b false),.nils,(.b false),(.b false),(.b false),(.b false),sE,.nils,.nils,.nils,(iN 0),sE,sE,.nils,.nilm,.nilm,.nils,(.b false),sE,(.b false),(.b false),(u8 0),(u6 0),(u6 0),(u6 0),(u6 0),(iN 0),(iN 0),(iN 0),.nils,(.b false),.nilm,.nilm,(.b false),.nils,(iN 0),(iN 0),(iN 0),(iN 0),(u8 0),.nilm,(iN 0),(.b false),(.b false),(.b false)] [(0,3,(.t 19)),(3,5,(.t 20)),(8,2,(.t 21)),(15,1,(.t 22)),(32,1,(.t 23)),(33,1,(.t 24)),(41,1,(.t 25))],none⟩,⟨o27,.box (.t 26),none⟩,⟨o7,.mv (.t 27),none⟩] [⟨[],0,1⟩,⟨[],0,1⟩,⟨[],0,1⟩,⟨[],0,1⟩,⟨[],0,1⟩,⟨[],0,1⟩,⟨[],0,0⟩,⟨[0,1,2,3,4,5,6],1,1⟩,⟨[7,0,1,2,3,4,5,6],1,1⟩,⟨[8,6,0,1,2,3,4,5,7],1,1⟩]) (mSeq (mR [qFaddr o28 0 r5,qLd1 o29 r28,qH Γ o30 fun g n e=>q_lenL e (.t 29),qMv o31 (rN 0)] (mBlock 0 (mLoop L (mR [qLss o32 r31 r30] (mSeq (mCond r32 mSkip (mExit 0)) (mSeq (mBlock 1 (mR [qMv o33 r31,qH Γ o34 fun g n e=>q_iaddr e 3 (.t 29) (.t 31),qLdA o35 3 r34,qAlloc o9 [sE,sE,(.b false)] 0,qMv o8 r33,qSt none 3 r9 r35] (mR [qFaddr o36 1 r9,qLd1 o37 r36,qCall call yl o38 (rcf 7) [r37],qMv o10 r38] (mR [qMv o39 r10,qH Γ o40 fun g n e=>q_lenL e (.t 39),qMv o41 (rN 0)] (mBlock 2 (mLoop L (mR [qLss o42 r41 r40] (mSeq (mCond r42 mSkip (mExit 2)) (mSeq (mBlock 3 (mR [qMv o43 r41,qH Γ o44 fun g n e=>q_iaddr e 2 (.t 39) (.t 41),qLdA o45 2 r44,qAlloc o12 [sE,(.b false)] 0,qMv o11 r43,qSt none 2 r12 r45] (mSeq (mDraw Γ call [⟨o46,.ld true 2 (.t 12),none⟩,⟨o47,.mv (.t 8),none⟩,⟨o48,.mv (.t 7),none⟩,⟨o49,.nilchk (.t 48),none⟩,⟨o50,.faddr 10 (.t 49),none⟩,⟨o51,.ld false 1 (.t 50),none⟩,⟨o52,.lenL (.t 51),none⟩,⟨o53,.bin .add (.t 52) (.c (iN 1)),none⟩,⟨o54,.build [sE,(.b false),(iN 0),(iN 0),(.b false)] [(0,2,(.t 46)),(2,1,(.t 47)),(3,1,(.t 53))],none⟩,⟨o13,.alloc [sE,(.b false),(iN 0),(iN 0),(.b false)] 0,none⟩,⟨none,.st 5 (.t 13) (.t 54),none⟩] [⟨[],0,0⟩,⟨[],0,0⟩,⟨[],0,0⟩,⟨[2],0,0⟩,⟨[3,2],0,0⟩,⟨[4,3,2],0,0⟩,⟨[5,4,3,2],0,0⟩,⟨[6,5,4,3,2],0,0⟩,⟨[0,1,7,6,5,4,3,2],0,0⟩,⟨[],0,0⟩,⟨[9,8,0,1,2,3,4,5,6,7],0,0⟩]) (mSeq (mR [qMv o55 r7,qCall call yl o56 (rcf 70) [r55]] (mCond r56 (mR [qMv o57 r11,qAdd o58 r57 (rN 1),qFaddr o59 3 r13,qSt none 1 r59 r58] (mO [qMv o60 r11,qMv o61 r10,qH Γ o62 fun g n e=>q_lenL e (.t 61),qSub o63 r62 (rN 1),qEql o64 r60 r63,qFaddr o65 4 r13,qSt none 1 r65 r64])) mSkip)) (mDraw Γ call [⟨o66,.mv (.t 7),none⟩,⟨o67,.mv (.t 7),none⟩,⟨o68,.nilchk (.t 67),none⟩,⟨o69,.faddr 10 (.t 68),none⟩,⟨o70,.ld false 1 (.t 69),none⟩,⟨o71,.ld true 5 (.t 13),none⟩,⟨o72,.bslice 5 [sE,(.b false),(iN 0),(iN 0),(.b false)] [(0,5,(.t 71))] 1,none⟩,⟨o73,.app 5 48 0 (.t 70) (.t 72),none⟩,⟨o74,.nilchk (.t 66),none⟩,⟨o75,.faddr 10 (.t 74),none⟩,⟨none,.st 1 (.t 75) (.t 73),none⟩] [⟨[],0,1⟩,⟨[],0,0⟩,⟨[1],0,0⟩,⟨[2,1],0,0⟩,⟨[3,2,1],0,0⟩,⟨[],0,0⟩,⟨[5],0,0⟩,⟨[4,6,3,2,1,5],0,0⟩,⟨[0,1,2,3,4,5,6,7],1,1⟩,⟨[8,0,1,2,3,4,5,6,7],1,1⟩,⟨[9,7,0,1,2,3,4,5,6,8],1,1⟩]))))) (mO [qAdd o76 r41 (rN 1),qMv o41 r76])))))))))) (mO [qAdd o77 r31 (rN 1),qMv o31 r77]))))))) (mSeq (mR [qMv o78 r7,qNil o79 r78,qFaddr o80 10 r79,qLd1 o81 r80,qH Γ o82 fun g n e=>q_lenL e (.t 81),qMv o14 r82] (mR [qMv o83 r14,qGtr o84 r83 (rN 0)] (mCond r84 (mO [qMv o85 r7,qNil o86 r85,qFaddr o87 10 r86,qLd1 o88 r87,qMv o89 r14,qSub o90 r89 (rN 1),qH Γ o91 fun g n e=>q_iaddr e 5 (.t 88) (.t 90),qFaddr o92 4 r91,qSt none 1 r92 rT]) mSkip))) (mSeq (mR [qFaddr o93 1 r5,qLd1 o94 r93,qH Γ o95 fun g n e=>q_lenL e (.t 94),qMv o96 (rN 0)] (mBlock 4 (mLoop L (mR [qLss o97 r96 r95] (mSeq (mCond r97 mSkip (mExit 4)) (mSeq (mBlock 5 (mR [qH Γ o98 fun g n e=>q_iaddr e 3 (.t 94) (.t 96),qLdA o99 3 r98,qAlloc o16 [sE,sE,(.b false)] 0,qSt none 3 r16 r99] (mDraw Γ call [⟨o100,.mv (.t 7),none⟩,⟨o101,.nilchk (.t 100),none⟩,⟨o102,.faddr 15 (.t 101),none⟩,⟨o103,.ld false 1 (.t 102),none⟩,⟨o104,.faddr 0 (.t 16),none⟩,⟨o105,.ld false 1 (.t 104),none⟩,⟨o106,.faddr 1 (.t 16),none⟩,⟨o107,.ld false 1 (.t 106),none⟩,⟨none,.mupd (.leaf .s) (.t 103) (.t 105) (.t 107),none⟩] [⟨[],0,0⟩,⟨[0],0,0⟩,⟨[1,0],0,0⟩,⟨[2,1,0],0,0⟩,⟨[],0,0⟩,⟨[4],0,0⟩,⟨[],0,0⟩,⟨[6],0,0⟩,⟨[3,5,7,0,1,2,4,6],0,0⟩]))) (mO [qAdd o108 r96 (rN 1),qMv o96 r108]))))))) (mSeq (mR [qFaddr o109 2 r3,qLd1 o110 r109,qH Γ o111 fun g n e=>q_lenL e (.t 110),qMv o112 (rN 0)] (mBlock 6 (mLoop L (mR [qLss o113 r112 r111] (mSeq (mCond r113 mSkip (mExit 6)) (mSeq (mBlock 7 (mR [qH Γ o114 fun g n e=>q_iaddr e 1 (.t 110) (.t 112),qLd1 o115 r114,qMv o18 r115] (mR [qMv o116 r18,qNeq o117 r116 (rs [47,100,101,118,47,115,116,100,111,117,116])] (mCond r117 (mO [qMv o118 r7,qNil o119 r118,qFaddr o120 15 r119,qLd1 o121 r120,qMv o122 r18,qH Γ none fun g n e=>q_mupd g e (.leaf .s) (.t 121) (.t 122) (.c sE)]) mSkip)))) (mO [qAdd o123 r112 (rN 1),qMv o112 r123]))))))) (mR [qMv o124 r7,qCall call yl o125 (rcf 71) [r124]] (mR [qMv o126 r7,qMv o6 r126] mRet)))))))⟩
noncomputable def C43 : CFn := ⟨94,[],fun P Γ call yl qs L => mBlock 0 (mLoop L (mSeq (mR [qMv o2 r0,qNil o3 r2,qFaddr o4 45 r3,qLd1 o5 r4,qH Γ o6 fun g n e=>q_un e .not (.t 5)] (mCond r6 mSkip (mExit 0))) (mBlock 1 (mBlock 2 (mSeq (mDraw Γ call [⟨o30,.mv (.t 0),none⟩,⟨o31,.nilchk (.t 30),none⟩,⟨o32,.faddr 43 (.t 31),none⟩,⟨o33,.ld false 1 (.t 32),none⟩,⟨o34,.mv (.t 33),none⟩,⟨o35,.mv (.t 0),some (34,true)⟩,⟨o36,.nilchk (.t 35),some (34,true)⟩,⟨o37,.faddr 42 (.t 36),some (34,true)⟩,⟨o38,.ld false 1 (.t 37),some (34,true)⟩,⟨o39,.mv (.t 0),some (34,true)⟩,⟨o40,.nilchk (.t 39),some (34,true)⟩,⟨o41,.faddr 0 (.t 40),some (34,true)⟩,⟨o42,.faddr 0 (.t 41),some (34,true)⟩,⟨o43,.ld false 1 (.t 42),some (34,true)⟩,⟨o44,.lenL (.t 43),some (34,true)⟩,⟨o45,.bin .lss (.t 38) (.t 44),some (34,true)⟩,⟨o46,.pick (.t 34) (.t 45) (.c (.b false)),none⟩,⟨o29,.mv (.t 46),none⟩] [⟨[],0,0⟩,⟨[0],0,0⟩,⟨[1,0],0,0⟩,⟨[2,1,0],0,0⟩,⟨[3,2,1,0],0,0⟩,⟨[4,3,2,1,0],0,0⟩,⟨[5,4,3,2,1,0],0,0⟩,⟨[6,4,5,3,2,1,0],0,0⟩,⟨[7,4,6,5,3,2,1,0],0,0⟩,⟨[4,3,2,1,0],0,0⟩,⟨[9,4,3,2,1,0],0,0⟩,⟨[10,4,9,3,2,1,0],0,0⟩,⟨[11,4,10,9,3,2,1,0],0,0⟩,⟨[12,4,11,10,9,3,2,1,0],0,0⟩,⟨[13,4,12,11,10,9,3,2,1,0],0,0⟩,⟨[8,14,4,7,6,5,3,2,1,0,13,12,11,10,9],0,0⟩,⟨[4,15,3,2,1,0,8,14,7,6,5,13,12,11,10,9],0,0⟩,⟨[16,4,15,3,2,1,0,8,14,7,6,5,13,12,11,10,9],0,0⟩]) (mCond r29 mRet (mR [qMv o48 r0,qNil o49 r48,qFaddr o50 43 r49,qLd1 o51 r50,qMv o47 r51] (mCond r47 (mR [qMv o52 r0,qCall call yl o53 (rcf 72) [r52,rT]] (mR [qMv o54 r0,qMv o55 r0,qNil o56 r54,qFaddr o57 43 r56,qSt none 1 r57 rF,qNil o58 r55,qFaddr o59 44 r58,qSt none 1 r59 rF] (mO [qMv o60 r0,qMv o61 r0,qNil o62 r61,qFaddr o63 34 r62,qLd1 o64 r63,qNil o65 r60,qFaddr o66 45 r65,qSt none 1 r66 r64]))) (mSeq (mDraw Γ call [⟨o68,.mv (.t 0),none⟩,⟨o69,.nilchk (.t 68),none⟩,⟨o70,.faddr 44 (.t 69),none⟩,⟨o71,.ld false 1 (.t 70),none⟩,⟨o72,.un .not (.t 71),none⟩,⟨o73,.mv (.t 72),none⟩,⟨o74,.mv (.t 0),some (73,true)⟩,⟨o75,.nilchk (.t 74),some (73,true)⟩,⟨o76,.faddr 11 (.t 75),some (73,true)⟩,⟨o77,.ld false 1 (.t 76),some (73,true)⟩,⟨o78,.mv (.t 0),some (73,true)⟩,⟨o79,.nilchk (.t 78),some (73,true)⟩,⟨o80,.faddr 10 (.t 79),some (73,true)⟩,⟨o81,.ld false 1 (.t 80),some (73,true)⟩,⟨o82,.lenL (.t 81),some (73,true)⟩,⟨o83,.bin .eql (.t 77) (.t 82),some (73,true)⟩,⟨o84,.pick (.t 73) (.t 83) (.c (.b false)),none⟩,⟨o67,.mv (.t 84),none⟩] [⟨[],0,0⟩,⟨[0],0,0⟩,⟨[1,0],0,0⟩,⟨[2,1,0],0,0⟩,⟨[3,2,1,0],0,0⟩,⟨[4,3,2,1,0],0,0⟩,⟨[5,4,3,2,1,0],0,0⟩,⟨[6,5,4,3,2,1,0],0,0⟩,⟨[7,5,6,4,3,2,1,0],0,0⟩,⟨[8,5,7,6,4,3,2,1,0],0,0⟩,⟨[5,4,3,2,1,0],0,0⟩,⟨[10,5,4,3,2,1,0],0,0⟩,⟨[11,5,10,4,3,2,1,0],0,0⟩,⟨[12,5,11,10,4,3,2,1,0],0,0⟩,⟨[13,5,12,11,10,4,3,2,1,0],0,0⟩,⟨[9,14,5,8,7,6,4,3,2,1,0,13,12,11,10],0,0⟩,⟨[5,15,4,3,2,1,0,9,14,8,7,6,13,12,11,10],0,0⟩,⟨[16,5,15,4,3,2,1,0,9,14,8,7,6,13,12,11,10],0,0⟩]) (mCond r67 (mR [qMv o85 r0,qNil o86 r85,qFaddr o87 45 r86,qSt none 1 r87 rT] (mR [qMv o88 r0,qCall call yl o89 (rcf 73) [r88]] (mCond r89 (mO [qMv o90 r0,qNil o91 r90,qFaddr o92 35 r91,qFaddr o93 1 r92,qSt none 1 r93 (rN 2)]) mSkip))) (mSeq (mR [qMv o7 r0,qNil o8 r7,qFaddr o9 44 r8,qLd1 o10 r9,qH Γ o11 fun g n e=>q_un e .not (.t 10),qMv o12 r11,qG 12 true o13 (qMv o13 r0),qG 12 true o14 (qCall call yl o14 (rcf 74) [r13]),qG 12 true o15 (qH Γ o15 fun g n e=>q_un e .not (.t 14)),qPick o16 r12 r15 rF] (mCond r16 (mR [qMv o17 r0,qNil o18 r17,qFaddr o19 45 r18,qSt none 1 r19 rT] mRet) mSkip)) (mO [qMv o20 r0,qMv o21 r0,qMv o22 r0,qNil o23 r20,qFaddr o24 43 r23,qSt none 1 r24 rT,qNil o25 r21,qFaddr o26 44 r25,qSt none 1 r26 rF,qNil o27 r22,qFaddr o28 42 r27,qSt none 1 r28 (rN 0)]))))))))))))⟩
noncomputable def C44 : CFn := ⟨25,[.t 6],fun P Γ call yl qs L => mR [qMv o6 (rN 0)] (mSeq (mR [qMv o7 r0,qNil o8 r7,qFaddr o9 34 r8,qLd1 o10 r9,qH Γ o11 fun g n e=>q_un e .not (.t 10)] (mCond r11 (mR [qMv o12 r0,qNil o13 r12,qFaddr o14 34 r13,qSt none 1 r14 rT] (mO [qMv o15 r0,qMv o16 r0,qMv o17 r1,qMv o18 r2,qNil o19 r15,qFaddr o20 35 r19,qFaddr o21 5 r20,qSt none 1 r21 r17,qNil o22 r16,qFaddr o23 35 r22,qFaddr o24 1 r23,qSt none 1 r24 r18])) mSkip)) (mR [qMv o6 (rN 5)] mRet))⟩
noncomputable def C45 : CFn := ⟨111,[],fun P Γ call yl qs L => mR [qMv o4 r0,qNil o5 r4,qFaddr o6 35 r5,qFaddr o7 2 r6,qLd1 o8 r7,qAdd o9 r8 (rN 1),qNil o10 r4,qFaddr o11 35 r10,qFaddr o12 2 r11,qSt none 1 r12 r9] (mR [qMv o13 r0,qNil o14 r13,qFaddr o15 35 r14,qFaddr o16 3 r15,qLd1 o17 r16,qAdd o18 r17 (rN 1),qNil o19 r13,qFaddr o20 35 r19,qFaddr o21 3 r20,qSt none 1 r21 r18] (mSeq (mDraw Γ call [⟨o22,.mv (.t 0),none⟩,⟨o23,.nilchk (.t 22),none⟩,⟨o24,.faddr 0 (.t 23),none⟩,⟨o25,.faddr 0 (.t 24),none⟩,⟨o26,.ld false 1 (.t 25),none⟩,⟨o27,.mv (.t 0),none⟩,⟨o28,.nilchk (.t 27),none⟩,⟨o29,.faddr 42 (.t 28),none⟩,⟨o30,.ld false 1 (.t 29),none⟩,⟨o31,.iaddr 55 (.t 26) (.t 30),none⟩,⟨o32,.ld true 55 (.t 31),none⟩,⟨o2,.alloc [(iN 0),(u8 0),(iN 0),(iN 0),sE,(.b false),(.b false),(u8 0),(u6 0),(u6 0),(u6 0),(u6 0),(iN 0),(iN 0),(iN 0),.nils,(u8 0),(iN 0),(iN 0),sE,(.b false),(.b false),(u8 0),(u6 0),(u6 0),(u6 0),(u6 0),(iN 0),(iN 0),(iN 0),.nils,(.b false),(u8 0),sE,sE,(iN 0),sE,(.b false),(.b false),(u8 0),(u6 0),(u6 0),(u6 0),(u6 0),(iN 0),(iN 0),(iN 0),.nils,.nils,(iN 0),(.b false),(.b false),(.b false),sE,(iN 0)] 0,none⟩,⟨none,.st 55 (.t 2) (.t 32),none⟩] [⟨[],0,0⟩,⟨[0],0,0⟩,⟨[1,0],0,0⟩,⟨[2,1,0],0,0⟩,⟨[3,2,1,0],0,0⟩,⟨[],0,0⟩,⟨[5],0,0⟩,⟨[6,5],0,0⟩,⟨[7,6,5],0,0⟩,⟨[4,8,3,2,1,0,7,6,5],0,0⟩,⟨[9,4,8,3,2,1,0,7,6,5],0,0⟩,⟨[],0,0⟩,⟨[11,10,0,1,2,3,4,5,6,7,8,9],0,0⟩]) (mR [qMv o3 (rN 0)] (mSeq (mR [qMv o33 r0,qMv o34 r0,qNil o35 r34,qFaddr o36 42 r35,qLd1 o37 r36,qCall call yl o38 (rcf 75) [r33,r37]] (mCond r38 (mDraw Γ call [⟨o39,.mv (.t 0),none⟩,⟨o40,.nilchk (.t 39),none⟩,⟨o41,.faddr 41 (.t 40),none⟩,⟨o42,.ld false 1 (.t 41),none⟩,⟨o43,.faddr 0 (.t 2),none⟩,⟨o44,.faddr 32 (.t 43),none⟩,⟨o45,.ld false 1 (.t 44),none⟩,⟨o46,.look (.leaf .i) .nilf false (.t 42) (.t 45),none⟩,⟨o47,.mv (.t 0),none⟩,⟨o48,.mv (.t 0),none⟩,⟨o49,.nilchk (.t 48),none⟩,⟨o50,.faddr 42 (.t 49),none⟩,⟨o51,.ld false 1 (.t 50),none⟩,⟨o52,.call (.t 46) [(.t 47),(.t 51)],none⟩,⟨o3,.mv (.t 52),none⟩] [⟨[],0,0⟩,⟨[0],0,0⟩,⟨[1,0],0,0⟩,⟨[2,1,0],0,0⟩,⟨[],0,0⟩,⟨[4],0,0⟩,⟨[5,4],0,0⟩,⟨[3,6,2,1,0,5,4],0,0⟩,⟨[],0,0⟩,⟨[],0,0⟩,⟨[9],0,0⟩,⟨[10,9],0,0⟩,⟨[11,10,9],0,0⟩,⟨[7,8,12,3,6,2,1,0,5,4,11,10,9],0,0⟩,⟨[13,0,1,2,3,4,5,6,7,8,9,10,11,12],1,1⟩]) (mR [qFaddr o53 0 r2,qFaddr o54 32 r53,qLd1 o55 r54,qEql o56 r55 (rb 123)] (mCond r56 (mO [qMv o3 (rN 1)]) mSkip)))) (mSeq (mR [qMv o57 r0,qNil o58 r57,qFaddr o59 34 r58,qLd1 o60 r59] (mCond r60 (mO [qMv o3 (rN 5)]) mSkip)) (mR [qMv o61 r3] (mBlock 0 (mR [qEql o80 r61 (rN 0),qMv o79 r80] (mCond r79 (mO [qMv o81 r0,qNil o82 r81,qFaddr o83 42 r82,qLd1 o84 r83,qAdd o85 r84 (rN 1),qNil o86 r81,qFaddr o87 42 r86,qSt none 1 r87 r85]) (mR [qEql o89 r61 (rN 1),qMv o88 r89] (mCond r88 (mO [qMv o90 r0,qFaddr o91 54 r2,qLd1 o92 r91,qNil o93 r90,qFaddr o94 42 r93,qSt none 1 r94 r92]) (mR [qEql o96 r61 (rN 2),qMv o95 r96] (mCond r95 (mO [qMv o97 r0,qMv o98 r0,qNil o99 r98,qFaddr o100 0 r99,qFaddr o101 0 r100,qLd1 o102 r101,qH Γ o103 fun g n e=>q_lenL e (.t 102),qNil o104 r97,qFaddr o105 42 r104,qSt none 1 r105 r103]) (mR [qEql o107 r61 (rN 5),qMv o106 r107] (mCond r106 (mO [qMv o108 r0,qNil o109 r108,qFaddr o110 45 r109,qSt none 1 r110 rT]) (mR [qMv o62 r0,qCall call yl o63 (rcf 72) [r62,rF]] (mR [qMv o64 r0,qMv o65 r0,qMv o66 r3,qEql o67 r66 (rN 4),qNil o68 r64,qFaddr o69 43 r68,qSt none 1 r69 rF,qNil o70 r65,qFaddr o71 44 r70,qSt none 1 r71 r67] (mO [qMv o72 r0,qMv o73 r0,qNil o74 r73,qFaddr o75 34 r74,qLd1 o76 r75,qNil o77 r72,qFaddr o78 45 r77,qSt none 1 r78 r76]))))))))))))))))))⟩
noncomputable def C47 : CFn := ⟨19,[],fun P Γ call yl qs L => mR [qGen Γ o6 fun _ _ _ => .bad,qMv o3 r6] (mR [qMv o7 r3,qH Γ o8 fun g n e=>q_eq g e true (.leaf (.ifc true)) (.t 7) (.c .nili)] (mCond r8 (mR [qMv o10 r3,qH Γ o11 fun g n e=>q_tassert e 85 (.agg [(iN 0),(iN 0)]) true (.t 10),qMv o9 r11,qH Γ o12 fun g n e=>q_ext e (.t 9) 0,qH Γ o13 fun g n e=>q_ext e (.t 9) 1,qAlloc o4 [(iN 0),(iN 0)] 0,qSt none 2 r4 r12,qMv o5 r13] (mSeq (mR [qMv o14 r5,qH Γ o15 fun g n e=>q_un e .not (.t 14)] (mCond r15 (mO [qMv o16 r3,qH Γ none fun g n e=>q_panic e (.t 16)]) mSkip)) (mDraw Γ call [⟨o17,.build [.nils,(.b false),(.b false)] [],none⟩,⟨o18,.ld true 2 (.t 4),none⟩,⟨none,.st 3 (.t 0) (.t 17),none⟩,⟨none,.st 1 (.t 1) (.c (iN 130)),none⟩,⟨none,.st 2 (.t 2) (.t 18),none⟩] [⟨[],0,0⟩,⟨[],0,2⟩,⟨[0],0,0⟩,⟨[2,0],1,1⟩,⟨[1,3,0,2],2,2⟩]))) mSkip))⟩
noncomputable def C48 : CFn := ⟨98,[.t 0],fun P Γ call yl qs L => mR [qMv o0 (rc .nilm)] (mR [qH Γ o13 fun g n e=>q_build e [(iN 0),.nilf,.nilf] [(0,1,(.c (iN 2))),(1,1,(.f 77)),(2,1,(.f 79))],qAlloc o1 [(iN 0),.nilf,.nilf] 0,qSt none 3 r1 r13] (mSeq (mDraw Γ call [⟨o14,.mkmap,none⟩,⟨o15,.faddr 2 (.t 1),none⟩,⟨o16,.ld false 1 (.t 15),none⟩,⟨o17,.build [(iN 0),.nilf,.nilf] [(0,1,(.c (iN 2))),(1,1,(.f 80)),(2,1,(.t 16))],none⟩,⟨none,.ins (.leaf .i) (.t 14) (.c (u8 123)) (.t 17),none⟩,⟨o18,.faddr 1 (.t 1),none⟩,⟨o19,.ld false 1 (.t 18),none⟩,⟨o20,.faddr 2 (.t 1),none⟩,⟨o21,.ld false 1 (.t 20),none⟩,⟨o22,.build [(iN 0),.nilf,.nilf] [(0,1,(.c (iN 0))),(1,1,(.t 19)),(2,1,(.t 21))],none⟩,⟨none,.ins (.leaf .i) (.t 14) (.c (u8 125)) (.t 22),none⟩,⟨o23,.call (.f 81) [(.c (iN 1073741824))],none⟩,⟨o24,.call (.f 82) [(.c (iN 1073741824))],none⟩,⟨o25,.build [(iN 0),.nilf,.nilf] [(0,1,(.c (iN 2))),(1,1,(.t 23)),(2,1,(.t 24))],none⟩,⟨none,.ins (.leaf .i) (.t 14) (.c (u8 108)) (.t 25),none⟩,⟨o26,.faddr 2 (.t 1),none⟩,⟨o27,.ld false 1 (.t 26),none⟩,⟨o28,.build [(iN 0),.nilf,.nilf] [(0,1,(.c (iN 2))),(1,1,(.f 83)),(2,1,(.t 27))],none⟩,⟨none,.ins (.leaf .i) (.t 14) (.c (u8 115)) (.t 28),none⟩,⟨o29,.build [(iN 0),.nilf,.nilf] [(0,1,(.c (iN 2))),(1,1,(.f 84)),(2,1,(.f 85))],none⟩,⟨none,.ins (.leaf .i) (.t 14) (.c (u8 121)) (.t 29),none⟩,⟨o30,.call (.f 87) [(.c (.s (bs [59]))),(.c (.b false))],none⟩,⟨o31,.call (.f 88) [(.f 89)],none⟩,⟨o32,.build [(iN 0),.nilf,.nilf] [(0,1,(.c (iN 0))),(1,1,(.t 30)),(2,1,(.t 31))],none⟩,⟨none,.ins (.leaf .i) (.t 14) (.c (u8 58)) (.t 32),none⟩,⟨o33,.call (.f 88) [(.f 93)],none⟩,⟨o34,.build [(iN 0),.nilf,.nilf] [(0,1,(.c (iN 2))),(1,1,(.f 91)),(2,1,(.t 33))],none⟩,⟨none,.ins (.leaf .i) (.t 14) (.c (u8 101)) (.t 34),none⟩,⟨o35,.mv (.t 14),none⟩,⟨o2,.mv (.t 35),none⟩] [⟨[],0,5⟩,⟨[],0,5⟩,⟨[1],0,5⟩,⟨[2,1],0,5⟩,⟨[0,3,2,1],0,5⟩,⟨[],0,5⟩,⟨[5],0,5⟩,⟨[],0,5⟩,⟨[7],0,5⟩,⟨[6,8,5,7],0,5⟩,⟨[0,9,6,8,5,7],0,5⟩,⟨[],0,0⟩,⟨[11],1,1⟩,⟨[11,12],2,5⟩,⟨[0,13,11,12],2,5⟩,⟨[],0,5⟩,⟨[15],0,5⟩,⟨[16,15],0,5⟩,⟨[0,17,16,15],0,5⟩,⟨[],0,5⟩,⟨[0,19],0,5⟩,⟨[12,11],2,2⟩,⟨[21,12,11],3,3⟩,⟨[21,22,12,11],4,5⟩,⟨[0,23,21,22,12,11],4,5⟩,⟨[22,21,12,11],4,4⟩,⟨[25,22,21,12,11],5,5⟩,⟨[0,26,25,22,21,12,11],5,5⟩,⟨[0,1,2,3,4,5,6,7,8,9,10,11,12,13,14,15,16,17,18,19,20,21,22,23,24,25,26,27],5,5⟩,⟨[28,25,0,1,2,3,4,5,6,7,8,9,10,11,12,13,14,15,16,17,18,19,20,21,22,23,24,26,27],5,5⟩]) (mSeq (mR [qH Γ o36 fun g n e=>q_bslice n e 1 [(u8 0),(u8 0),(u8 0),(u8 0),(u8 0),(u8 0),(u8 0),(u8 0),(u8 0),(u8 0),(u8 0),(u8 0),(u8 0),(u8 0)] [(0,1,(.c (u8 61))),(1,1,(.c (u8 100))),(2,1,(.c (u8 68))),(3,1,(.c (u8 70))),(4,1,(.c (u8 103))),(5,1,(.c (u8 71))),(6,1,(.c (u8 104))),(7,1,(.c (u8 72))),(8,1,(.c (u8 110))),(9,1,(.c (u8 78))),(10,1,(.c (u8 112))),(11,1,(.c (u8 80))),(12,1,(.c (u8 120))),(13,1,(.c (u8 122)))] 14,qH Γ o37 fun g n e=>q_mrk g e (.t 36),qH Γ o38 fun g n e=>q_lenL e (.t 37),qMv o39 (rN 0)] (mBlock 0 (mLoop L (mR [qLss o40 r39 r38] (mSeq (mCond r40 mSkip (mExit 0)) (mSeq (mBlock 1 (mR [qH Γ o41 fun g n e=>q_iaddr e 1 (.t 37) (.t 39),qLd1 o42 r41,qMv o4 r42] (mO [qMv o43 r2,qMv o44 r4,qLdA o45 3 r1,qH Γ none fun g n e=>q_mupd g e (.leaf .i) (.t 43) (.t 44) (.t 45)]))) (mO [qAdd o46 r39 (rN 1),qMv o39 r46]))))))) (mSeq (mR [qH Γ o47 fun g n e=>q_bslice n e 1 [(u8 0),(u8 0)] [(0,1,(.c (u8 113))),(1,1,(.c (u8 81)))] 2,qH Γ o48 fun g n e=>q_mrk g e (.t 47),qH Γ o49 fun g n e=>q_lenL e (.t 48),qMv o50 (rN 0)] (mBlock 2 (mLoop L (mR [qLss o51 r50 r49] (mSeq (mCond r51 mSkip (mExit 2)) (mSeq (mBlock 3 (mR [qH Γ o52 fun g n e=>q_iaddr e 1 (.t 48) (.t 50),qLd1 o53 r52,qMv o6 r53] (mO [qMv o54 r2,qMv o55 r6,qCall call yl o56 (rcf 81) [(rN 255)],qCall call yl o57 (rcf 82) [(rN 255)],qH Γ o58 fun g n e=>q_build e [(iN 0),.nilf,.nilf] [(0,1,(.c (iN 1))),(1,1,(.t 56)),(2,1,(.t 57))],qH Γ none fun g n e=>q_mupd g e (.leaf .i) (.t 54) (.t 55) (.t 58)]))) (mO [qAdd o59 r50 (rN 1),qMv o50 r59]))))))) (mSeq (mR [qH Γ o60 fun g n e=>q_bslice n e 1 [(u8 0),(u8 0),(u8 0)] [(0,1,(.c (u8 97))),(1,1,(.c (u8 105))),(2,1,(.c (u8 99)))] 3,qH Γ o61 fun g n e=>q_mrk g e (.t 60),qH Γ o62 fun g n e=>q_lenL e (.t 61),qMv o63 (rN 0)] (mBlock 4 (mLoop L (mR [qLss o64 r63 r62] (mSeq (mCond r64 mSkip (mExit 4)) (mSeq (mBlock 5 (mR [qH Γ o65 fun g n e=>q_iaddr e 1 (.t 61) (.t 63),qLd1 o66 r65,qMv o8 r66] (mO [qMv o67 r2,qMv o68 r8,qCall call yl o69 (rcf 88) [(rcf 96)],qH Γ o70 fun g n e=>q_build e [(iN 0),.nilf,.nilf] [(0,1,(.c (iN 2))),(1,1,(.f 95)),(2,1,(.t 69))],qH Γ none fun g n e=>q_mupd g e (.leaf .i) (.t 67) (.t 68) (.t 70)]))) (mO [qAdd o71 r63 (rN 1),qMv o63 r71]))))))) (mSeq (mR [qH Γ o72 fun g n e=>q_bslice n e 1 [(u8 0),(u8 0),(u8 0)] [(0,1,(.c (u8 98))),(1,1,(.c (u8 116))),(2,1,(.c (u8 84)))] 3,qH Γ o73 fun g n e=>q_mrk g e (.t 72),qH Γ o74 fun g n e=>q_lenL e (.t 73),qMv o75 (rN 0)] (mBlock 6 (mLoop L (mR [qLss o76 r75 r74] (mSeq (mCond r76 mSkip (mExit 6)) (mSeq (mBlock 7 (mR [qH Γ o77 fun g n e=>q_iaddr e 1 (.t 73) (.t 75),qLd1 o78 r77,qMv o10 r78] (mO [qMv o79 r2,qMv o80 r10,qCall call yl o81 (rcf 87) [(rs [59,125]),rT],qCall call yl o82 (rcf 88) [(rcf 97)],qH Γ o83 fun g n e=>q_build e [(iN 0),.nilf,.nilf] [(0,1,(.c (iN 2))),(1,1,(.t 81)),(2,1,(.t 82))],qH Γ none fun g n e=>q_mupd g e (.leaf .i) (.t 79) (.t 80) (.t 83)]))) (mO [qAdd o84 r75 (rN 1),qMv o75 r84]))))))) (mSeq (mR [qH Γ o85 fun g n e=>q_bslice n e 1 [(u8 0),(u8 0),(u8 0),(u8 0)] [(0,1,(.c (u8 114))),(1,1,(.c (u8 82))),(2,1,(.c (u8 119))),(3,1,(.c (u8 87)))] 4,qH Γ o86 fun g n e=>q_mrk g e (.t 85),qH Γ o87 fun g n e=>q_lenL e (.t 86),qMv o88 (rN 0)] (mBlock 8 (mLoop L (mR [qLss o89 r88 r87] (mSeq (mCond r89 mSkip (mExit 8)) (mSeq (mBlock 9 (mR [qH Γ o90 fun g n e=>q_iaddr e 1 (.t 86) (.t 88),qLd1 o91 r90,qMv o12 r91] (mO [qMv o92 r2,qMv o93 r12,qCall call yl o94 (rcf 88) [(rcf 100)],qH Γ o95 fun g n e=>q_build e [(iN 0),.nilf,.nilf] [(0,1,(.c (iN 2))),(1,1,(.f 98)),(2,1,(.t 94))],qH Γ none fun g n e=>q_mupd g e (.leaf .i) (.t 92) (.t 93) (.t 95)]))) (mO [qAdd o96 r88 (rN 1),qMv o88 r96]))))))) (mR [qMv o97 r2,qMv o0 r97] mRet))))))))⟩
noncomputable def C49 : CFn := ⟨5,[.t 2],fun P Γ call yl qs L => mR [qMv o2 (rN 0)] (mR [qMv o3 r0,qCall call yl o4 (rcf 101) [r3,(rN 0)],qMv o2 r4] mRet)⟩
noncomputable def C50 : CFn := ⟨9,[.t 2],fun P Γ call yl qs L => mR [qMv o2 rF] (mR [qMv o3 r0,qEql o4 r3 (rN 32),qMv o5 r4,qG 5 false o6 (qMv o6 r0),qG 5 false o7 (qEql o7 r6 (rN 9)),qPick o8 r5 rT r7,qMv o2 r8] mRet)⟩
noncomputable def C52 : CFn := ⟨148,[],fun P Γ call yl qs L => mR [qMv o6 r0,qCall call yl o7 (rcf 103) [r6],qAlloc o2 [(iN 0),(u8 0),(iN 0),(iN 0),sE,(.b false),(.b false),(u8 0),(u6 0),(u6 0),(u6 0),(u6 0),(iN 0),(iN 0),(iN 0),.nils,(u8 0),(iN 0),(iN 0),sE,(.b false),(.b false),(u8 0),(u6 0),(u6 0),(u6 0),(u6 0),(iN 0),(iN 0),(iN 0),.nils,(.b false),(u8 0),sE,sE,(iN 0),sE,(.b false),(.b false),(u8 0),(u6 0),(u6 0),(u6 0),(u6 0),(iN 0),(iN 0),(iN 0),.nils,.nils,(iN 0),(.b false),(.b false),(.b false),sE] 0,qSt none 54 r2 r7] (mR [qMv o8 r0,qCall call yl o9 (rcf 49) [r8],qMv o3 r9] (mR [qMv o11 r0,qNil o12 r11,qFaddr o13 5 r12,qLd1 o14 r13,qMv o15 r3,qH Γ o16 fun g n e=>q_mx e [(.t 15),(.c (iN 0))],qConvI o17 .u8 r16,qH Γ o18 fun g n e=>q_look g e (.leaf .i) (.agg [(iN 0),.nilf,.nilf]) true (.t 14) (.t 17),qMv o10 r18,qH Γ o19 fun g n e=>q_ext e (.t 10) 0,qH Γ o20 fun g n e=>q_ext e (.t 10) 1,qAlloc o4 [(iN 0),.nilf,.nilf] 0,qSt none 3 r4 r19,qMv o5 r20] (mSeq (mR [qMv o21 r3,qLss o22 r21 (rN 0),qMv o23 r22,qG 23 false o24 (qMv o24 r5),qG 23 false o25 (qH Γ o25 fun g n e=>q_un e .not (.t 24)),qPick o26 r23 rT r25] (mCond r26 (mO [qMv o27 r0,qMv o28 r0,qNil o29 r28,qFaddr o30 1 r29,qLd1 o31 r30,qCall call yl o32 (rcf 54) [r27,(rN 1),r31]]) mSkip)) (mR [qMv o33 r0,qNil o34 r33,qFaddr o35 1 r34,qLd1 o36 r35,qMv o37 r3,qConvI o38 .u8 r37,qFaddr o39 0 r2,qSt none 1 r39 r36,qFaddr o40 32 r2,qSt none 1 r40 r38] (mR [qMv o41 r0,qNil o42 r41,qFaddr o43 1 r42,qLd1 o44 r43,qAdd o45 r44 (rN 1),qNil o46 r41,qFaddr o47 1 r46,qSt none 1 r47 r45] (mSeq (mR [qMv o48 r0,qNil o49 r48,qFaddr o50 3 r49,qLd1 o51 r50,qH Γ o52 fun g n e=>q_lenL e (.t 51),qEql o53 r52 (rN 4096)] (mCond r53 (mO [qMv o54 r0,qFaddr o55 0 r2,qLd1 o56 r55,qCall call yl o57 (rcf 54) [r54,(rN 20),r56]]) mSkip)) (mSeq (mR [qFaddr o58 0 r4,qLd1 o59 r58,qEql o60 r59 (rN 0),qMv o61 r60,qG 61 true o62 (qFaddr o62 1 r2),qG 61 true o63 (qFaddr o63 0 r62),qG 61 true o64 (qLd1 o64 r63),qG 61 true o65 (qNeq o65 r64 (rb 0)),qG 61 true o66 (qMv o66 r65),qG 66 false o67 (qFaddr o67 31 r2),qG 66 false o68 (qLd1 o68 r67),qG 61 true o69 (qPick o69 r66 rT r68),qPick o70 r61 r69 rF,qMv o71 r70,qG 71 false o72 (qFaddr o72 0 r4),qG 71 false o73 (qLd1 o73 r72),qG 71 false o74 (qEql o74 r73 (rN 1)),qG 71 false o75 (qMv o75 r74),qG 75 true o76 (qFaddr o76 16 r2),qG 75 true o77 (qFaddr o77 0 r76),qG 75 true o78 (qLd1 o78 r77),qG 75 true o79 (qNeq o79 r78 (rb 0)),qG 71 false o80 (qPick o80 r75 r79 rF),qPick o81 r71 rT r80] (mCond r81 (mO [qMv o82 r0,qFaddr o83 0 r2,qLd1 o84 r83,qCall call yl o85 (rcf 54) [r82,(rN 4),r84]]) mSkip)) (mSeq (mBlock 0 (mR [qMv o87 r3,qEql o88 r87 (rN 125),qMv o89 r88,qG 89 true o90 (qMv o90 r0),qG 89 true o91 (qNil o91 r90),qG 89 true o92 (qFaddr o92 4 r91),qG 89 true o93 (qLd1 o93 r92),qG 89 true o94 (qEql o94 r93 (rN 0)),qPick o95 r89 r94 rF,qMv o86 r95] (mCond r86 (mO [qMv o96 r0,qFaddr o97 0 r2,qLd1 o98 r97,qCall call yl o99 (rcf 54) [r96,(rN 7),r98]]) (mR [qMv o101 r3,qEql o102 r101 (rN 125),qMv o100 r102] (mCond r100 (mO [qMv o103 r0,qNil o104 r103,qFaddr o105 4 r104,qLd1 o106 r105,qSub o107 r106 (rN 1),qNil o108 r103,qFaddr o109 4 r108,qSt none 1 r109 r107]) (mR [qMv o111 r3,qEql o112 r111 (rN 123),qMv o113 r112,qG 113 true o114 (qMv o114 r0),qG 113 true o115 (qNil o115 r114),qG 113 true o116 (qFaddr o116 4 r115),qG 113 true o117 (qLd1 o117 r116),qG 113 true o118 (qEql o118 r117 (rN 64)),qPick o119 r113 r118 rF,qMv o110 r119] (mCond r110 (mO [qMv o120 r0,qFaddr o121 0 r2,qLd1 o122 r121,qCall call yl o123 (rcf 54) [r120,(rN 19),r122]]) (mR [qMv o125 r3,qEql o126 r125 (rN 123),qMv o124 r126] (mCond r124 (mO [qMv o127 r0,qNil o128 r127,qFaddr o129 4 r128,qLd1 o130 r129,qAdd o131 r130 (rN 1),qNil o132 r127,qFaddr o133 4 r132,qSt none 1 r133 r131]) mSkip))))))))) (mR [qFaddr o134 1 r4,qLd1 o135 r134,qMv o136 r0,qCall call yl o137 r135 [r136,r2]] (mDraw Γ call [⟨o138,.mv (.t 0),none⟩,⟨o139,.mv (.t 0),none⟩,⟨o140,.nilchk (.t 139),none⟩,⟨o141,.faddr 3 (.t 140),none⟩,⟨o142,.ld false 1 (.t 141),none⟩,⟨o143,.ld true 54 (.t 2),none⟩,⟨o144,.bslice 54 [(iN 0),(u8 0),(iN 0),(iN 0),sE,(.b false),(.b false),(u8 0),(u6 0),(u6 0),(u6 0),(u6 0),(iN 0),(iN 0),(iN 0),.nils,(u8 0),(iN 0),(iN 0),sE,(.b false),(.b false),(u8 0),(u6 0),(u6 0),(u6 0),(u6 0),(iN 0),(iN 0),(iN 0),.nils,(.b false),(u8 0),sE,sE,(iN 0),sE,(.b false),(.b false),(u8 0),(u6 0),(u6 0),(u6 0),(u6 0),(iN 0),(iN 0),(iN 0),.nils,.nils,(iN 0),(.b false),(.b false),(.b false),sE] [(0,54,(.t 143))] 1,none⟩,⟨o145,.app 54 496 0 (.t 142) (.t 144),none⟩,⟨o146,.nilchk (.t 138),none⟩,⟨o147,.faddr 3 (.t 146),none⟩,⟨none,.st 1 (.t 147) (.t 145),none⟩] [⟨[],0,1⟩,⟨[],0,0⟩,⟨[1],0,0⟩,⟨[2,1],0,0⟩,⟨[3,2,1],0,0⟩,⟨[],0,0⟩,⟨[5],0,0⟩,⟨[4,6,3,2,1,5],0,0⟩,⟨[0,1,2,3,4,5,6,7],1,1⟩,⟨[8,0,1,2,3,4,5,6,7],1,1⟩,⟨[9,7,0,1,2,3,4,5,6,8],1,1⟩]))))))))))⟩
end Go.Proofs.YtelnkadnphephaaGreatDoor.T
end
noncomputable section
namespace Go.Proofs.YtelnkadnphephaaGreatDoor.T
open Go Go.Abs
noncomputable def C53 : CFn := ⟨98,[.t 2,.t 3],fun P Γ call yl qs L => mR [qMv o2 (rN 0),qMv o3 (rN 0)] (mR [qMv o4 rZ] (mSeq (mR [qMv o12 r0,qH Γ o13 fun g n e=>q_lenL e (.t 12),qMv o14 (rN 0)] (mBlock 0 (mLoop L (mR [qLss o15 r14 r13] (mSeq (mCond r15 mSkip (mExit 0)) (mSeq (mBlock 1 (mR [qMv o16 r14,qH Γ o17 fun g n e=>q_iaddr e 54 (.t 12) (.t 14),qLdA o18 54 r17,qAlloc o6 [(iN 0),(u8 0),(iN 0),(iN 0),sE,(.b false),(.b false),(u8 0),(u6 0),(u6 0),(u6 0),(u6 0),(iN 0),(iN 0),(iN 0),.nils,(u8 0),(iN 0),(iN 0),sE,(.b false),(.b false),(u8 0),(u6 0),(u6 0),(u6 0),(u6 0),(iN 0),(iN 0),(iN 0),.nils,(.b false),(u8 0),sE,sE,(iN 0),sE,(.b false),(.b false),(u8 0),(u6 0),(u6 0),(u6 0),(u6 0),(iN 0),(iN 0),(iN 0),.nils,.nils,(iN 0),(.b false),(.b false),(.b false),sE] 0,qMv o5 r16,qSt none 54 r6 r18] (mR [qFaddr o19 32 r6,qLd1 o20 r19] (mBlock 2 (mR [qEql o22 r20 (rb 123),qMv o21 r22] (mCond r21 (mO [qMv o23 r4,qMv o24 r5,qH Γ o25 fun g n e=>q_bslice n e 1 [(iN 0)] [(0,1,(.t 24))] 1,qH Γ o26 fun g n e=>q_app g n e 1 8 0 (.t 23) (.t 25),qMv o4 r26]) (mR [qEql o28 r20 (rb 125),qMv o27 r28] (mCond r27 (mO [qMv o29 r4,qMv o30 r4,qH Γ o31 fun g n e=>q_lenL e (.t 30),qSub o32 r31 (rN 1),qH Γ o33 fun g n e=>q_slc e 1 (.t 29) none (some (.t 32)),qMv o4 r33]) mSkip)))))))) (mO [qAdd o34 r14 (rN 1),qMv o14 r34]))))))) (mSeq (mR [qMv o35 r4,qH Γ o36 fun g n e=>q_lenL e (.t 35),qGtr o37 r36 (rN 0)] (mCond r37 (mSeq (mDraw Γ call [⟨o38,.mv (.t 4),none⟩,⟨o39,.iaddr 1 (.t 38) (.c (iN 0)),none⟩,⟨o40,.ld false 1 (.t 39),none⟩,⟨o2,.mv (.c (iN 8)),none⟩,⟨o3,.mv (.t 40),none⟩] [⟨[],0,0⟩,⟨[0],0,0⟩,⟨[1,0],0,0⟩,⟨[],0,0⟩,⟨[2,3,0,1],0,0⟩]) mRet) mSkip)) (mR [qH Γ o41 fun g n e=>q_mkmap n ,qMv o7 r41] (mSeq (mR [qMv o42 r0,qH Γ o43 fun g n e=>q_lenL e (.t 42),qMv o44 (rN 0)] (mBlock 3 (mLoop L (mR [qLss o45 r44 r43] (mSeq (mCond r45 mSkip (mExit 3)) (mSeq (mBlock 4 (mR [qMv o46 r44,qH Γ o47 fun g n e=>q_iaddr e 54 (.t 42) (.t 44),qLdA o48 54 r47,qAlloc o9 [(iN 0),(u8 0),(iN 0),(iN 0),sE,(.b false),(.b false),(u8 0),(u6 0),(u6 0),(u6 0),(u6 0),(iN 0),(iN 0),(iN 0),.nils,(u8 0),(iN 0),(iN 0),sE,(.b false),(.b false),(u8 0),(u6 0),(u6 0),(u6 0),(u6 0),(iN 0),(iN 0),(iN 0),.nils,(.b false),(u8 0),sE,sE,(iN 0),sE,(.b false),(.b false),(u8 0),(u6 0),(u6 0),(u6 0),(u6 0),(iN 0),(iN 0),(iN 0),.nils,.nils,(iN 0),(.b false),(.b false),(.b false),sE] 0,qMv o8 r46,qSt none 54 r9 r48] (mR [qFaddr o49 32 r9,qLd1 o50 r49,qEql o51 r50 (rb 58)] (mCond r51 (mR [qMv o52 r7,qFaddr o53 33 r9,qLd1 o54 r53,qH Γ o55 fun g n e=>q_look g e (.leaf .s) (iN 0) false (.t 52) (.t 54),qAdd o56 r55 (rN 1),qH Γ none fun g n e=>q_mupd g e (.leaf .s) (.t 52) (.t 54) (.t 56)] (mR [qMv o57 r7,qFaddr o58 33 r9,qLd1 o59 r58,qH Γ o60 fun g n e=>q_look g e (.leaf .s) (iN 0) false (.t 57) (.t 59),qGtr o61 r60 (rN 1)] (mCond r61 (mR [qMv o62 r8,qMv o2 (rN 10),qMv o3 r62] mRet) mSkip))) mSkip)))) (mO [qAdd o63 r44 (rN 1),qMv o44 r63]))))))) (mSeq (mR [qMv o64 r0,qH Γ o65 fun g n e=>q_lenL e (.t 64),qMv o66 (rN 0)] (mBlock 5 (mLoop L (mR [qLss o67 r66 r65] (mSeq (mCond r67 mSkip (mExit 5)) (mSeq (mBlock 6 (mR [qMv o68 r66,qH Γ o69 fun g n e=>q_iaddr e 54 (.t 64) (.t 66),qLdA o70 54 r69,qAlloc o11 [(iN 0),(u8 0),(iN 0),(iN 0),sE,(.b false),(.b false),(u8 0),(u6 0),(u6 0),(u6 0),(u6 0),(iN 0),(iN 0),(iN 0),.nils,(u8 0),(iN 0),(iN 0),sE,(.b false),(.b false),(u8 0),(u6 0),(u6 0),(u6 0),(u6 0),(iN 0),(iN 0),(iN 0),.nils,(.b false),(u8 0),sE,sE,(iN 0),sE,(.b false),(.b false),(u8 0),(u6 0),(u6 0),(u6 0),(u6 0),(iN 0),(iN 0),(iN 0),.nils,.nils,(iN 0),(.b false),(.b false),(.b false),sE] 0,qMv o10 r68,qSt none 54 r11 r70] (mR [qFaddr o71 32 r11,qLd1 o72 r71,qEql o73 r72 (rb 98),qMv o74 r73,qG 74 false o75 (qFaddr o75 32 r11),qG 74 false o76 (qLd1 o76 r75),qG 74 false o77 (qEql o77 r76 (rb 116)),qPick o78 r74 rT r77,qMv o79 r78,qG 79 false o80 (qFaddr o80 32 r11),qG 79 false o81 (qLd1 o81 r80),qG 79 false o82 (qEql o82 r81 (rb 84)),qPick o83 r79 rT r82,qMv o84 r83,qG 84 true o85 (qFaddr o85 33 r11),qG 84 true o86 (qLd1 o86 r85),qG 84 true o87 (qNeq o87 r86 (rc sE)),qPick o88 r84 r87 rF,qMv o89 r88,qG 89 true o90 (qMv o90 r7),qG 89 true o91 (qFaddr o91 33 r11),qG 89 true o92 (qLd1 o92 r91),qG 89 true o93 (qH Γ o93 fun g n e=>q_look g e (.leaf .s) (iN 0) false (.t 90) (.t 92)),qG 89 true o94 (qEql o94 r93 (rN 0)),qPick o95 r89 r94 rF] (mCond r95 (mR [qMv o96 r10,qMv o2 (rN 11),qMv o3 r96] mRet) mSkip)))) (mO [qAdd o97 r66 (rN 1),qMv o66 r97]))))))) (mR [qMv o2 (rN 0),qMv o3 (rN 0)] mRet)))))))⟩
noncomputable def C55 : CFn := ⟨8,[.t 4],fun P Γ call yl qs L => mR [qMv o4 rF] (mR [qMv o5 r0,qMv o6 r1,qCall call yl o7 (rcf 104) [r5,r6],qMv o4 r7] mRet)⟩
noncomputable def C56 : CFn := ⟨57,[.t 2,.t 3],fun P Γ call yl qs L => mR [qBox o1 r0,qMv o2 (rN 0),qMv o3 (rN 0)] (mR [qCall call yl o10 (rcf 48) [],qMv o4 r10] (mR [qMv o5 (rN 0)] (mSeq (mR [qFaddr o11 0 r1,qLd1 o12 r11,qH Γ o13 fun g n e=>q_lenL e (.t 12),qMv o14 (rN 0)] (mBlock 0 (mLoop L (mR [qLss o15 r14 r13] (mSeq (mCond r15 mSkip (mExit 0)) (mSeq (mBlock 1 (mR [qMv o16 r14,qH Γ o17 fun g n e=>q_iaddr e 54 (.t 12) (.t 14),qLdA o18 54 r17,qAlloc o7 [(iN 0),(u8 0),(iN 0),(iN 0),sE,(.b false),(.b false),(u8 0),(u6 0),(u6 0),(u6 0),(u6 0),(iN 0),(iN 0),(iN 0),.nils,(u8 0),(iN 0),(iN 0),sE,(.b false),(.b false),(u8 0),(u6 0),(u6 0),(u6 0),(u6 0),(iN 0),(iN 0),(iN 0),.nils,(.b false),(u8 0),sE,sE,(iN 0),sE,(.b false),(.b false),(u8 0),(u6 0),(u6 0),(u6 0),(u6 0),(iN 0),(iN 0),(iN 0),.nils,.nils,(iN 0),(.b false),(.b false),(.b false),sE] 0,qMv o6 r16,qSt none 54 r7 r18] (mSeq (mR [qMv o19 r6,qEql o20 r19 (rN 4096),qMv o21 r20,qG 21 false o22 (qLdA o22 54 r7),qG 21 false o23 (qMv o23 r4),qG 21 false o24 (qFaddr o24 2 r1),qG 21 false o25 (qLd1 o25 r24),qG 21 false o26 (qCall call yl o26 (rcf 105) [r22,r23,r25]),qG 21 false o27 (qH Γ o27 fun g n e=>q_un e .not (.t 26)),qPick o28 r21 rT r27] (mCond r28 (mR [qMv o29 r6,qMv o2 (rN 130),qMv o3 r29] mRet) mSkip)) (mSeq (mR [qFaddr o30 32 r7,qLd1 o31 r30] (mBlock 2 (mR [qEql o33 r31 (rb 123),qMv o32 r33] (mCond r32 (mO [qMv o34 r5,qAdd o35 r34 (rN 1),qMv o5 r35]) (mR [qEql o37 r31 (rb 125),qMv o36 r37] (mCond r36 (mO [qMv o38 r5,qSub o39 r38 (rN 1),qMv o5 r39]) mSkip)))))) (mR [qMv o40 r5,qLss o41 r40 (rN 0),qMv o42 r41,qG 42 false o43 (qMv o43 r5),qG 42 false o44 (qGtr o44 r43 (rN 64)),qPick o45 r42 rT r44] (mCond r45 (mR [qMv o46 r6,qMv o2 (rN 130),qMv o3 r46] mRet) mSkip)))))) (mO [qAdd o47 r14 (rN 1),qMv o14 r47]))))))) (mSeq (mR [qFaddr o49 0 r1,qLd1 o50 r49,qCall call yl o51 (rcf 53) [r50],qMv o48 r51,qH Γ o52 fun g n e=>q_ext e (.t 48) 0,qH Γ o53 fun g n e=>q_ext e (.t 48) 1,qMv o8 r52,qMv o9 r53] (mR [qMv o54 r8,qGtr o55 r54 (rN 0)] (mCond r55 (mR [qMv o56 r9,qMv o2 (rN 130),qMv o3 r56] mRet) mSkip))) (mR [qMv o2 (rN 0),qMv o3 (rN 0)] mRet)))))⟩
noncomputable def C57 : CFn := ⟨126,[.cell 2 true 3],fun P Γ call yl qs L => mR [qBox o1 r0,qAlloc o2 [.nils,(.b false),.nils] 0] (mR [qLdA o12 3 r1,qCall call yl o13 (rcf 106) [r12],qSt none 3 r1 r13] (mSeq (mDraw Γ call [⟨o14,.faddr 1 (.t 1),none⟩,⟨o15,.ld false 1 (.t 14),none⟩,⟨o16,.ld true 3 (.t 1),none⟩,⟨o17,.call (.f 107) [(.t 16)],none⟩,⟨o18,.build [.nils,(.b false),.nils] [(1,1,(.t 15)),(2,1,(.t 17))],none⟩,⟨o3,.alloc [.nils,(.b false),.nils] 0,none⟩,⟨none,.st 3 (.t 3) (.t 18),none⟩] [⟨[],0,1⟩,⟨[0],0,1⟩,⟨[],0,0⟩,⟨[2],0,0⟩,⟨[1,3,0,2],1,1⟩,⟨[],0,1⟩,⟨[5,4,3,0,1,2],1,1⟩]) (mR [qH Γ o19 fun g n e=>q_mkmap n ,qMv o4 r19] (mR [qMv o5 rZ] (mSeq (mR [qFaddr o20 0 r1,qLd1 o21 r20,qH Γ o22 fun g n e=>q_lenL e (.t 21),qMv o23 (rN 0)] (mBlock 0 (mLoop L (mR [qLss o24 r23 r22] (mSeq (mCond r24 mSkip (mExit 0)) (mSeq (mBlock 1 (mR [qH Γ o25 fun g n e=>q_iaddr e 54 (.t 21) (.t 23),qLdA o26 54 r25,qAlloc o7 [(iN 0),(u8 0),(iN 0),(iN 0),sE,(.b false),(.b false),(u8 0),(u6 0),(u6 0),(u6 0),(u6 0),(iN 0),(iN 0),(iN 0),.nils,(u8 0),(iN 0),(iN 0),sE,(.b false),(.b false),(u8 0),(u6 0),(u6 0),(u6 0),(u6 0),(iN 0),(iN 0),(iN 0),.nils,(.b false),(u8 0),sE,sE,(iN 0),sE,(.b false),(.b false),(u8 0),(u6 0),(u6 0),(u6 0),(u6 0),(iN 0),(iN 0),(iN 0),.nils,.nils,(iN 0),(.b false),(.b false),(.b false),sE] 0,qSt none 54 r7 r26] (mSeq (mR [qFaddr o27 32 r7,qLd1 o28 r27] (mBlock 2 (mR [qEql o30 r28 (rb 58),qMv o29 r30] (mCond r29 (mR [qMv o31 r4,qFaddr o32 33 r7,qLd1 o33 r32,qFaddr o34 0 r3,qLd1 o35 r34,qH Γ o36 fun g n e=>q_lenL e (.t 35),qH Γ none fun g n e=>q_mupd g e (.leaf .s) (.t 31) (.t 33) (.t 36)] (mExit 1)) (mR [qEql o38 r28 (rb 125),qMv o37 r38] (mCond r37 (mSeq (mDraw Γ call [⟨o39,.faddr 0 (.t 3),none⟩,⟨o40,.ld false 1 (.t 39),none⟩,⟨o41,.mv (.t 5),none⟩,⟨o42,.mv (.t 5),none⟩,⟨o43,.lenL (.t 42),none⟩,⟨o44,.bin .sub (.t 43) (.c (iN 1)),none⟩,⟨o45,.iaddr 1 (.t 41) (.t 44),none⟩,⟨o46,.ld false 1 (.t 45),none⟩,⟨o47,.faddr 0 (.t 3),none⟩,⟨o48,.ld false 1 (.t 47),none⟩,⟨o49,.lenL (.t 48),none⟩,⟨o50,.iaddr 55 (.t 40) (.t 46),none⟩,⟨o51,.faddr 54 (.t 50),none⟩,⟨none,.st 1 (.t 51) (.t 49),none⟩] [⟨[],0,0⟩,⟨[0],0,0⟩,⟨[],0,0⟩,⟨[],0,0⟩,⟨[3],0,0⟩,⟨[4,3],0,0⟩,⟨[2,5,4,3],0,0⟩,⟨[6,2,5,4,3],0,0⟩,⟨[],0,0⟩,⟨[8],0,0⟩,⟨[9,8],0,0⟩,⟨[1,7,0,2,3,4,5,6,8,9,10],0,0⟩,⟨[11,0,1,2,3,4,5,6,7,8,9,10],0,0⟩,⟨[12,10,0,1,2,3,4,5,6,7,8,9,11],0,0⟩]) (mR [qMv o52 r5,qMv o53 r5,qH Γ o54 fun g n e=>q_lenL e (.t 53),qSub o55 r54 (rN 1),qH Γ o56 fun g n e=>q_slc e 1 (.t 52) none (some (.t 55)),qMv o5 r56] (mExit 1))) (mR [qEql o58 r28 (rb 123),qMv o57 r58] (mCond r57 (mO [qMv o59 r5,qFaddr o60 0 r3,qLd1 o61 r60,qH Γ o62 fun g n e=>q_lenL e (.t 61),qH Γ o63 fun g n e=>q_bslice n e 1 [(iN 0)] [(0,1,(.t 62))] 1,qH Γ o64 fun g n e=>q_app g n e 1 8 0 (.t 59) (.t 63),qMv o5 r64]) mSkip)))))))) (mO [qFaddr o65 0 r3,qLd1 o66 r65,qLdA o67 54 r7,qH Γ o68 fun g n e=>q_build e [(iN 0),(u8 0),(iN 0),(iN 0),sE,(.b false),(.b false),(u8 0),(u6 0),(u6 0),(u6 0),(u6 0),(iN 0),(iN 0),(iN 0),.nils,(u8 0),(iN 0),(iN 0),sE,(.b false),(.b false),(u8 0),(u6 0),(u6 0),(u6 0),(u6 0),(iN 0),(iN 0),(iN 0),.nils,(.b false),(u8 0),sE,sE,(iN 0),sE,(.b false),(.b false),(u8 0),(u6 0),(u6 0),(u6 0),(u6 0),(iN 0),(iN 0),(iN 0),.nils,.nils,(iN 0),(.b false),(.b false),(.b false),sE,(iN 0)] [(0,54,(.t 67))],qH Γ o69 fun g n e=>q_bslice n e 55 [(iN 0),(u8 0),(iN 0),(iN 0),sE,(.b false),(.b false),(u8 0),(u6 0),(u6 0),(u6 0),(u6 0),(iN 0),(iN 0),(iN 0),.nils,(u8 0),(iN 0),(iN 0),sE,(.b false),(.b false),(u8 0),(u6 0),(u6 0),(u6 0),(u6 0),(iN 0),(iN 0),(iN 0),.nils,(.b false),(u8 0),sE,sE,(iN 0),sE,(.b false),(.b false),(u8 0),(u6 0),(u6 0),(u6 0),(u6 0),(iN 0),(iN 0),(iN 0),.nils,.nils,(iN 0),(.b false),(.b false),(.b false),sE,(iN 0)] [(0,55,(.t 68))] 1,qH Γ o70 fun g n e=>q_app g n e 55 504 0 (.t 66) (.t 69),qFaddr o71 0 r3,qSt none 1 r71 r70])))) (mO [qAdd o72 r23 (rN 1),qMv o23 r72]))))))) (mSeq (mR [qFaddr o73 0 r3,qLd1 o74 r73,qH Γ o75 fun g n e=>q_lenL e (.t 74),qMv o76 (rN 0)] (mBlock 3 (mLoop L (mR [qLss o77 r76 r75] (mSeq (mCond r77 mSkip (mExit 3)) (mSeq (mBlock 4 (mR [qMv o78 r76,qMv o8 r78] (mR [qFaddr o79 0 r3,qLd1 o80 r79,qMv o81 r8,qH Γ o82 fun g n e=>q_iaddr e 55 (.t 80) (.t 81),qFaddr o83 0 r82,qMv o9 r83] (mSeq (mR [qMv o84 r9,qNil o85 r84,qFaddr o86 32 r85,qLd1 o87 r86,qCall call yl o88 (rcf 108) [r87],qH Γ o89 fun g n e=>q_un e .not (.t 88)] (mCond r89 (mExit 4) mSkip)) (mR [qFaddr o90 0 r3,qLd1 o91 r90,qMv o92 r8,qFaddr o93 0 r3,qLd1 o94 r93,qH Γ o95 fun g n e=>q_lenL e (.t 94),qH Γ o96 fun g n e=>q_iaddr e 55 (.t 91) (.t 92),qFaddr o97 54 r96,qSt none 1 r97 r95] (mSeq (mR [qMv o99 r4,qMv o100 r9,qNil o101 r100,qFaddr o102 33 r101,qLd1 o103 r102,qH Γ o104 fun g n e=>q_look g e (.leaf .s) (iN 0) true (.t 99) (.t 103),qMv o98 r104,qH Γ o105 fun g n e=>q_ext e (.t 98) 0,qH Γ o106 fun g n e=>q_ext e (.t 98) 1,qMv o10 r105,qMv o11 r106] (mR [qMv o107 r11,qMv o108 r107,qG 108 true o109 (qMv o109 r9),qG 108 true o110 (qNil o110 r109),qG 108 true o111 (qFaddr o111 33 r110),qG 108 true o112 (qLd1 o112 r111),qG 108 true o113 (qNeq o113 r112 (rc sE)),qPick o114 r108 r113 rF] (mCond r114 (mO [qFaddr o115 0 r3,qLd1 o116 r115,qMv o117 r8,qMv o118 r10,qH Γ o119 fun g n e=>q_iaddr e 55 (.t 116) (.t 117),qFaddr o120 54 r119,qSt none 1 r120 r118]) mSkip))) (mO [qMv o121 r9,qNil o122 r121,qFaddr o123 33 r122,qSt none 1 r123 (rc sE)]))))))) (mO [qAdd o124 r76 (rN 1),qMv o76 r124]))))))) (mR [qLdA o125 3 r3,qSt none 3 r2 r125] mRet)))))))⟩
noncomputable def C58 : CFn := ⟨32,[.cell 2 true 3],fun P Γ call yl qs L => mR [qBox o1 r0,qAlloc o2 [.nils,(.b false),.nils] 0] (mSeq (mDraw Γ call [⟨o6,.faddr 1 (.t 1),none⟩,⟨o7,.ld false 1 (.t 6),none⟩,⟨o8,.faddr 2 (.t 1),none⟩,⟨o9,.ld false 1 (.t 8),none⟩,⟨o10,.call (.f 109) [(.t 9)],none⟩,⟨o11,.build [.nils,(.b false),.nils] [(1,1,(.t 7)),(2,1,(.t 10))],none⟩,⟨o3,.alloc [.nils,(.b false),.nils] 0,none⟩,⟨none,.st 3 (.t 3) (.t 11),none⟩] [⟨[],0,1⟩,⟨[0],0,1⟩,⟨[],0,0⟩,⟨[2],0,0⟩,⟨[3,2],0,0⟩,⟨[1,4,0,3,2],1,1⟩,⟨[],0,1⟩,⟨[6,5,4,0,1,2,3],1,1⟩]) (mSeq (mR [qFaddr o12 0 r1,qLd1 o13 r12,qH Γ o14 fun g n e=>q_lenL e (.t 13),qMv o15 (rN 0)] (mBlock 0 (mLoop L (mR [qLss o16 r15 r14] (mSeq (mCond r16 mSkip (mExit 0)) (mSeq (mBlock 1 (mR [qH Γ o17 fun g n e=>q_iaddr e 55 (.t 13) (.t 15),qLdA o18 55 r17,qAlloc o5 [(iN 0),(u8 0),(iN 0),(iN 0),sE,(.b false),(.b false),(u8 0),(u6 0),(u6 0),(u6 0),(u6 0),(iN 0),(iN 0),(iN 0),.nils,(u8 0),(iN 0),(iN 0),sE,(.b false),(.b false),(u8 0),(u6 0),(u6 0),(u6 0),(u6 0),(iN 0),(iN 0),(iN 0),.nils,(.b false),(u8 0),sE,sE,(iN 0),sE,(.b false),(.b false),(u8 0),(u6 0),(u6 0),(u6 0),(u6 0),(iN 0),(iN 0),(iN 0),.nils,.nils,(iN 0),(.b false),(.b false),(.b false),sE,(iN 0)] 0,qSt none 55 r5 r18] (mDraw Γ call [⟨o19,.faddr 0 (.t 3),none⟩,⟨o20,.ld false 1 (.t 19),none⟩,⟨o21,.faddr 0 (.t 5),none⟩,⟨o22,.ld true 54 (.t 21),none⟩,⟨o23,.call (.f 110) [(.t 22)],none⟩,⟨o24,.faddr 54 (.t 5),none⟩,⟨o25,.ld false 1 (.t 24),none⟩,⟨o26,.build [(iN 0),(u8 0),(iN 0),(iN 0),sE,(.b false),(.b false),(u8 0),(u6 0),(u6 0),(u6 0),(u6 0),(iN 0),(iN 0),(iN 0),.nils,(u8 0),(iN 0),(iN 0),sE,(.b false),(.b false),(u8 0),(u6 0),(u6 0),(u6 0),(u6 0),(iN 0),(iN 0),(iN 0),.nils,(.b false),(u8 0),sE,sE,(iN 0),sE,(.b false),(.b false),(u8 0),(u6 0),(u6 0),(u6 0),(u6 0),(iN 0),(iN 0),(iN 0),.nils,.nils,(iN 0),(.b false),(.b false),(.b false),sE,(iN 0)] [(0,54,(.t 23)),(54,1,(.t 25))],none⟩,⟨o27,.bslice 55 [(iN 0),(u8 0),(iN 0),(iN 0),sE,(.b false),(.b false),(u8 0),(u6 0),(u6 0),(u6 0),(u6 0),(iN 0),(iN 0),(iN 0),.nils,(u8 0),(iN 0),(iN 0),sE,(.b false),(.b false),(u8 0),(u6 0),(u6 0),(u6 0),(u6 0),(iN 0),(iN 0),(iN 0),.nils,(.b false),(u8 0),sE,sE,(iN 0),sE,(.b false),(.b false),(u8 0),(u6 0),(u6 0),(u6 0),(u6 0),(iN 0),(iN 0),(iN 0),.nils,.nils,(iN 0),(.b false),(.b false),(.b false),sE,(iN 0)] [(0,55,(.t 26))] 1,none⟩,⟨o28,.app 55 504 0 (.t 20) (.t 27),none⟩,⟨o29,.faddr 0 (.t 3),none⟩,⟨none,.st 1 (.t 29) (.t 28),none⟩] [⟨[],0,1⟩,⟨[0],0,1⟩,⟨[],0,0⟩,⟨[2],0,0⟩,⟨[3,2],0,0⟩,⟨[],0,1⟩,⟨[5],0,1⟩,⟨[4,6,3,2,5],1,1⟩,⟨[7,4,6,3,2,5],1,1⟩,⟨[1,8,4,0,7,6,3,2,5],1,1⟩,⟨[0,1,2,3,4,5,6,7,8,9],2,2⟩,⟨[10,9,0,1,2,3,4,5,6,7,8],2,2⟩]))) (mO [qAdd o30 r15 (rN 1),qMv o15 r30]))))))) (mR [qLdA o31 3 r3,qSt none 3 r2 r31] mRet)))⟩
noncomputable def C59 : CFn := ⟨17,[.cell 5 true 9],fun P Γ call yl qs L => mR [qAlloc o5 [(iN 0),(iN 0),(iN 0),sE,sE,.nils,(.b false),(u8 0),(iN 0)] 0] (mR [qLdA o9 3 r1,qLdA o10 5 r2,qLdA o11 2 r3,qMv o12 r0,qCall call yl o13 (rcf 60) [r9,r10,r11,r12],qMv o8 r13,qH Γ o14 fun g n e=>q_ext e (.t 8) 0,qH Γ o15 fun g n e=>q_ext e (.t 8) 1,qAlloc o6 [(iN 0),(iN 0),(iN 0),sE,sE,.nils,(.b false),(u8 0),(iN 0)] 0,qSt none 9 r6 r14,qMv o7 r15] (mR [qLdA o16 9 r6,qSt none 9 r5 r16] mRet))⟩
noncomputable def C60 : CFn := ⟨108,[.cell 8 true 9,.t 9],fun P Γ call yl qs L => mR [qBox o4 r0,qBox o5 r1,qBox o6 r2,qAlloc o8 [(iN 0),(iN 0),(iN 0),sE,sE,.nils,(.b false),(u8 0),(iN 0)] 0,qMv o9 (rN 0)] (mSeq (mR [qLdA o13 3 r4,qLdA o14 2 r6,qMv o15 r3,qCall call yl o16 (rcf 41) [r13,r14,r15],qMv o10 r16] (mR [qMv o17 r10,qNeq o18 r17 (rN 0)] (mCond r18 (mR [qH Γ o19 fun g n e=>q_build e [(iN 0),(iN 0),(iN 0),sE,sE,.nils,(.b false),(u8 0),(iN 0)] [],qMv o20 r10,qSt none 9 r8 r19,qMv o9 r20] mRet) mSkip))) (mR [qLdA o21 3 r4,qLdA o22 5 r5,qLdA o23 2 r6,qCall call yl o24 (rcf 42) [r21,r22,r23],qMv o11 r24] (mR [qMv o25 r11,qCall call yl o26 (rcf 43) [r25]] (mSeq (mBlock 0 (mLoop L (mSeq (mR [qMv o27 r11,qNil o28 r27,qFaddr o29 45 r28,qLd1 o30 r29,qH Γ o31 fun g n e=>q_un e .not (.t 30),qMv o32 r31,qG 32 true o33 (qMv o33 r11),qG 32 true o34 (qNil o34 r33),qG 32 true o35 (qFaddr o35 35 r34),qG 32 true o36 (qFaddr o36 2 r35),qG 32 true o37 (qLd1 o37 r36),qG 32 true o38 (qMv o38 r3),qG 32 true o39 (qLss o39 r37 r38),qPick o40 r32 r39 rF] (mCond r40 mSkip (mExit 0))) (mBlock 1 (mR [qMv o41 r11,qCall call yl o42 (rcf 45) [r41]] (mO [qMv o43 r11,qCall call yl o44 (rcf 43) [r43]])))))) (mSeq (mDraw Γ call [⟨o45,.mv (.t 11),none⟩,⟨o46,.nilchk (.t 45),none⟩,⟨o47,.faddr 35 (.t 46),none⟩,⟨o48,.faddr 2 (.t 47),none⟩,⟨o49,.ld false 1 (.t 48),none⟩,⟨o50,.mv (.t 11),none⟩,⟨o51,.nilchk (.t 50),none⟩,⟨o52,.faddr 42 (.t 51),none⟩,⟨o53,.ld false 1 (.t 52),none⟩,⟨o54,.mv (.t 11),none⟩,⟨o55,.nilchk (.t 54),none⟩,⟨o56,.faddr 12 (.t 55),none⟩,⟨o57,.faddr 0 (.t 56),none⟩,⟨o58,.ld false 1 (.t 57),none⟩,⟨o59,.mv (.t 11),none⟩,⟨o60,.nilchk (.t 59),none⟩,⟨o61,.faddr 12 (.t 60),none⟩,⟨o62,.faddr 1 (.t 61),none⟩,⟨o63,.ld false 1 (.t 62),none⟩,⟨o64,.mv (.t 11),none⟩,⟨o65,.nilchk (.t 64),none⟩,⟨o66,.faddr 12 (.t 65),none⟩,⟨o67,.faddr 2 (.t 66),none⟩,⟨o68,.ld false 1 (.t 67),none⟩,⟨o69,.app 2 24 0 (.c .nils) (.t 68),none⟩,⟨o70,.mv (.t 11),none⟩,⟨o71,.nilchk (.t 70),none⟩,⟨o72,.faddr 45 (.t 71),none⟩,⟨o73,.ld false 1 (.t 72),none⟩,⟨o74,.build [(iN 0),(iN 0),(iN 0),sE,sE,.nils,(.b false),(u8 0),(iN 0)] [(0,1,(.t 49)),(1,1,(.t 53)),(3,1,(.t 58)),(4,1,(.t 63)),(5,1,(.t 69)),(6,1,(.t 73))],none⟩,⟨o12,.alloc [(iN 0),(iN 0),(iN 0),sE,sE,.nils,(.b false),(u8 0),(iN 0)] 0,none⟩,⟨none,.st 9 (.t 12) (.t 74),none⟩] [⟨[],0,1⟩,⟨[0],0,1⟩,⟨[1,0],0,1⟩,⟨[2,1,0],0,1⟩,⟨[3,2,1,0],0,1⟩,⟨[],0,1⟩,⟨[5],0,1⟩,⟨[6,5],0,1⟩,⟨[7,6,5],0,1⟩,⟨[],0,1⟩,⟨[9],0,1⟩,⟨[10,9],0,1⟩,⟨[11,10,9],0,1⟩,⟨[12,11,10,9],0,1⟩,⟨[],0,1⟩,⟨[14],0,1⟩,⟨[15,14],0,1⟩,⟨[16,15,14],0,1⟩,⟨[17,16,15,14],0,1⟩,⟨[],0,0⟩,⟨[19],0,0⟩,⟨[20,19],0,0⟩,⟨[21,20,19],0,0⟩,⟨[22,21,20,19],0,0⟩,⟨[23,22,21,20,19],0,0⟩,⟨[],0,1⟩,⟨[25],0,1⟩,⟨[26,25],0,1⟩,⟨[27,26,25],0,1⟩,⟨[4,8,13,18,24,28,3,2,1,0,7,6,5,12,11,10,9,17,16,15,14,23,22,21,20,19,27,26,25],1,1⟩,⟨[],0,1⟩,⟨[30,29,24,0,1,2,3,4,5,6,7,8,9,10,11,12,13,14,15,16,17,18,19,20,21,22,23,25,26,27,28],1,1⟩]) (mSeq (mR [qMv o75 r11,qNil o76 r75,qFaddr o77 11 r76,qLd1 o78 r77,qGtr o79 r78 (rN 0)] (mCond r79 (mO [qMv o80 r11,qCall call yl o81 (rcf 111) [r80],qH Γ o82 fun g n e=>q_fld e false 3 1 (.t 81),qFaddr o83 2 r12,qSt none 1 r83 r82]) mSkip)) (mSeq (mR [qMv o84 r11,qNil o85 r84,qFaddr o86 45 r85,qLd1 o87 r86] (mCond r87 (mDraw Γ call [⟨o88,.mv (.t 11),none⟩,⟨o89,.nilchk (.t 88),none⟩,⟨o90,.faddr 0 (.t 89),none⟩,⟨o91,.faddr 0 (.t 90),none⟩,⟨o92,.ld false 1 (.t 91),none⟩,⟨o93,.lenL (.t 92),none⟩,⟨o94,.mv (.t 11),none⟩,⟨o95,.nilchk (.t 94),none⟩,⟨o96,.faddr 35 (.t 95),none⟩,⟨o97,.faddr 5 (.t 96),none⟩,⟨o98,.ld false 1 (.t 97),none⟩,⟨o99,.mv (.t 11),none⟩,⟨o100,.nilchk (.t 99),none⟩,⟨o101,.faddr 35 (.t 100),none⟩,⟨o102,.faddr 1 (.t 101),none⟩,⟨o103,.ld false 1 (.t 102),none⟩,⟨o104,.faddr 1 (.t 12),none⟩,⟨none,.st 1 (.t 104) (.t 93),none⟩,⟨o105,.faddr 7 (.t 12),none⟩,⟨none,.st 1 (.t 105) (.t 98),none⟩,⟨o106,.faddr 8 (.t 12),none⟩,⟨none,.st 1 (.t 106) (.t 103),none⟩] [⟨[],0,0⟩,⟨[0],0,0⟩,⟨[1,0],0,0⟩,⟨[2,1,0],0,0⟩,⟨[3,2,1,0],0,0⟩,⟨[4,3,2,1,0],0,0⟩,⟨[],0,1⟩,⟨[6],0,1⟩,⟨[7,6],0,1⟩,⟨[8,7,6],0,1⟩,⟨[9,8,7,6],0,1⟩,⟨[],0,2⟩,⟨[11],0,2⟩,⟨[12,11],0,2⟩,⟨[13,12,11],0,2⟩,⟨[14,13,12,11],0,2⟩,⟨[0,1,2,3,4,5],0,0⟩,⟨[16,5,0,1,2,3,4],0,0⟩,⟨[0,1,2,3,4,5,6,7,8,9,10,16,17],1,1⟩,⟨[18,10,17,0,1,2,3,4,5,6,7,8,9,16],1,1⟩,⟨[0,1,2,3,4,5,6,7,8,9,10,11,12,13,14,15,16,17,18,19],2,2⟩,⟨[20,15,19,0,1,2,3,4,5,6,7,8,9,10,11,12,13,14,16,17,18],2,2⟩]) mSkip)) (mR [qLdA o107 9 r12,qSt none 9 r8 r107,qMv o9 (rN 0)] mRet))))))))⟩
noncomputable def C61 : CFn := ⟨18,[.t 5],fun P Γ call yl qs L => mR [qMv o5 rZ] (mR [qLdA o9 3 r1,qLdA o10 5 r2,qLdA o11 2 r3,qMv o12 r0,qCall call yl o13 (rcf 27) [r9,r10,r11,r12],qMv o8 r13,qH Γ o14 fun g n e=>q_ext e (.t 8) 0,qH Γ o15 fun g n e=>q_ext e (.t 8) 1,qAlloc o6 [.nils,(iN 0),(iN 0),(iN 0),(iN 0),(u8 0)] 0,qSt none 6 r6 r14,qMv o7 r15] (mR [qFaddr o16 0 r6,qLd1 o17 r16,qMv o5 r17] mRet))⟩
noncomputable def C62 : CFn := ⟨5,[.t 2],fun P Γ call yl qs L => mR [qMv o2 (rc sE)] (mR [qMv o3 r0,qCall call yl o4 (rcf 112) [r3,(rN 10)],qMv o2 r4] mRet)⟩
noncomputable def C63 : CFn := ⟨17,[.t 4],fun P Γ call yl qs L => mR [qMv o4 (rc .nili)] (mR [qMv o5 r0,qCall call yl o6 (rcf 46) [r5]] (mR [qMv o7 r0,qMv o8 r0,qNil o9 r8,qFaddr o10 1 r9,qLd1 o11 r10,qMv o12 r1,qH Γ o13 fun g n e=>q_bslice n e 1 [(u8 0)] [(0,1,(.t 12))] 1,qH Γ o14 fun g n e=>q_app g n e 1 1 13 (.t 11) (.t 13),qNil o15 r7,qFaddr o16 1 r15,qSt none 1 r16 r14] (mR [qMv o4 (rc .nili)] mRet)))⟩
noncomputable def C64 : CFn := ⟨43,[.t 2],fun P Γ call yl qs L => mR [qMv o2 (rc sE)] (mSeq (mBlock 0 (mR [qMv o4 r0,qEql o5 r4 (rb 92),qMv o3 r5] (mCond r3 (mR [qMv o2 (rs [92,92])] mRet) (mR [qMv o7 r0,qConvI o8 .i64 r7,qLss o9 r8 (rN 14),qMv o10 r9,qG 10 true o11 (qMv o11 r0),qG 10 true o12 (qIaddrA o12 14 1 (rc (Γ 0)) r11),qG 10 true o13 (qLd1 o13 r12),qG 10 true o14 (qNeq o14 r13 (rb 0)),qPick o15 r10 r14 rF,qMv o6 r15] (mCond r6 (mR [qMv o16 r0,qIaddrA o17 14 1 (rc (Γ 0)) r16,qLd1 o18 r17,qH Γ o19 fun g n e=>q_bslice n e 1 [(u8 0),(u8 0)] [(0,1,(.c (u8 92))),(1,1,(.t 18))] 2,qH Γ o20 fun g n e=>q_convBS g e (.t 19),qMv o2 r20] mRet) (mR [qMv o22 r0,qLss o23 r22 (rb 32),qMv o24 r23,qG 24 false o25 (qMv o25 r0),qG 24 false o26 (qGeq o26 r25 (rb 127)),qPick o27 r24 rT r26,qMv o21 r27] (mCond r21 (mR [qMv o28 r0,qBin o29 (biGen .shr) (bsOf .shr) r28 (rc (u6 6)),qAdd o30 (rb 48) r29,qMv o31 r0,qBin o32 (biGen .shr) (bsOf .shr) r31 (rc (u6 3)),qBin o33 (biGen .and) (bsOf .and) r32 (rb 7),qAdd o34 (rb 48) r33,qMv o35 r0,qBin o36 (biGen .and) (bsOf .and) r35 (rb 7),qAdd o37 (rb 48) r36,qH Γ o38 fun g n e=>q_bslice n e 1 [(u8 0),(u8 0),(u8 0),(u8 0)] [(0,1,(.c (u8 92))),(1,1,(.t 30)),(2,1,(.t 34)),(3,1,(.t 37))] 4,qH Γ o39 fun g n e=>q_convBS g e (.t 38),qMv o2 r39] mRet) mSkip))))))) (mR [qMv o40 r0,qH Γ o41 fun g n e=>q_bslice n e 1 [(u8 0)] [(0,1,(.t 40))] 1,qH Γ o42 fun g n e=>q_convBS g e (.t 41),qMv o2 r42] mRet))⟩
noncomputable def C66 : CFn := ⟨41,[.t 2],fun P Γ call yl qs L => mR [qMv o2 (rc sE)] (mSeq (mR [qMv o3 r0] (mBlock 0 (mR [qEql o5 r3 (rb 92),qMv o4 r5] (mCond r4 (mR [qMv o2 (rs [92,92])] mRet) (mR [qEql o7 r3 (rb 7),qMv o6 r7] (mCond r6 (mR [qMv o2 (rs [92,97])] mRet) (mR [qEql o9 r3 (rb 8),qMv o8 r9] (mCond r8 (mR [qMv o2 (rs [92,98])] mRet) (mR [qEql o11 r3 (rb 12),qMv o10 r11] (mCond r10 (mR [qMv o2 (rs [92,102])] mRet) (mR [qEql o13 r3 (rb 10),qMv o12 r13] (mCond r12 (mR [qMv o2 (rs [92,110])] mRet) (mR [qEql o15 r3 (rb 13),qMv o14 r15] (mCond r14 (mR [qMv o2 (rs [92,114])] mRet) (mR [qEql o17 r3 (rb 9),qMv o16 r17] (mCond r16 (mR [qMv o2 (rs [92,116])] mRet) (mR [qEql o19 r3 (rb 11),qMv o18 r19] (mCond r18 (mR [qMv o2 (rs [92,118])] mRet) mSkip)))))))))))))))))) (mSeq (mR [qMv o20 r0,qGeq o21 r20 (rb 32),qMv o22 r21,qG 22 true o23 (qMv o23 r0),qG 22 true o24 (qLss o24 r23 (rb 127)),qPick o25 r22 r24 rF] (mCond r25 (mR [qMv o26 r0,qH Γ o27 fun g n e=>q_bslice n e 1 [(u8 0)] [(0,1,(.t 26))] 1,qH Γ o28 fun g n e=>q_convBS g e (.t 27),qMv o2 r28] mRet) mSkip)) (mR [qMv o29 r0,qBin o30 (biGen .quo) (bsOf .quo) r29 (rb 64),qAdd o31 (rb 48) r30,qMv o32 r0,qBin o33 (biGen .quo) (bsOf .quo) r32 (rb 8),qBin o34 (biGen .rem) (bsOf .rem) r33 (rb 8),qAdd o35 (rb 48) r34,qMv o36 r0,qBin o37 (biGen .rem) (bsOf .rem) r36 (rb 8),qAdd o38 (rb 48) r37,qH Γ o39 fun g n e=>q_bslice n e 1 [(u8 0),(u8 0),(u8 0),(u8 0)] [(0,1,(.c (u8 92))),(1,1,(.t 31)),(2,1,(.t 35)),(3,1,(.t 38))] 4,qH Γ o40 fun g n e=>q_convBS g e (.t 39),qMv o2 r40] mRet)))⟩
noncomputable def C67 : CFn := ⟨143,[.t 4],fun P Γ call yl qs L => mR [qMv o4 (rN 0)] (mR [qMv o14 r1,qH Γ o15 fun g n e=>q_lenS e (.t 14),qMv o5 r15] (mSeq (mBlock 0 (mR [qMv o17 r5,qEql o18 r17 (rN 0),qMv o19 r18,qG 19 false o20 (qMv o20 r1),qG 19 false o21 (qMv o21 r0),qG 19 false o22 (qEql o22 r20 r21),qPick o23 r19 rT r22,qMv o16 r23] (mCond r16 (mR [qMv o4 (rN 0)] mRet) (mR [qMv o25 r5,qEql o26 r25 (rN 1),qMv o24 r26] (mCond r24 (mR [qMv o27 r0,qMv o28 r1,qH Γ o29 fun g n e=>q_idxS e (.t 28) (.c (iN 0)),qCall call yl o30 (rcf 113) [r27,r29],qMv o4 r30] mRet) (mR [qMv o32 r5,qMv o33 r0,qH Γ o34 fun g n e=>q_lenS e (.t 33),qGeq o35 r32 r34,qMv o31 r35] (mCond r31 (mR [qMv o4 (rc (.i .i64 (.negSucc 0)))] mRet) (mR [qMv o37 r5,qLd1 o38 (rc (Γ 1)),qLeq o39 r37 r38,qMv o40 r39,qG 40 true o41 (qMv o41 r0),qG 40 true o42 (qH Γ o42 fun g n e=>q_lenS e (.t 41)),qG 40 true o43 (qLeq o43 r42 (rN 64)),qPick o44 r40 r43 rF,qMv o36 r44] (mCond r36 (mR [qMv o45 r0,qMv o46 r1,qCall call yl o47 (rcf 114) [r45,r46],qMv o4 r47] mRet) mSkip))))))))) (mR [qMv o48 r1,qH Γ o49 fun g n e=>q_idxS e (.t 48) (.c (iN 0)),qMv o6 r49] (mR [qMv o50 r1,qH Γ o51 fun g n e=>q_idxS e (.t 50) (.c (iN 1)),qMv o7 r51] (mR [qMv o8 (rN 0)] (mR [qMv o52 r0,qH Γ o53 fun g n e=>q_lenS e (.t 52),qMv o54 r5,qSub o55 r53 r54,qAdd o56 r55 (rN 1),qMv o9 r56] (mR [qMv o10 (rN 0)] (mSeq (mBlock 1 (mLoop L (mSeq (mR [qMv o57 r8,qMv o58 r9,qLss o59 r57 r58] (mCond r59 mSkip (mExit 1))) (mBlock 2 (mSeq (mR [qMv o60 r0,qMv o61 r8,qH Γ o62 fun g n e=>q_idxS e (.t 60) (.t 61),qMv o63 r6,qNeq o64 r62 r63] (mCond r64 (mR [qMv o65 r0,qMv o66 r8,qAdd o67 r66 (rN 1),qMv o68 r9,qH Γ o69 fun g n e=>q_slcS e (.t 65) (some (.t 67)) (some (.t 68)),qMv o70 r6,qCall call yl o71 (rcf 113) [r69,r70],qMv o11 r71] (mSeq (mR [qMv o72 r11,qLss o73 r72 (rN 0)] (mCond r73 (mR [qMv o4 (rc (.i .i64 (.negSucc 0)))] mRet) mSkip)) (mO [qMv o74 r8,qMv o75 r11,qAdd o76 r75 (rN 1),qAdd o77 r74 r76,qMv o8 r77]))) mSkip)) (mSeq (mR [qMv o78 r0,qMv o79 r8,qAdd o80 r79 (rN 1),qH Γ o81 fun g n e=>q_idxS e (.t 78) (.t 80),qMv o82 r7,qEql o83 r81 r82,qMv o84 r83,qG 84 true o85 (qMv o85 r0),qG 84 true o86 (qMv o86 r8),qG 84 true o87 (qMv o87 r8),qG 84 true o88 (qMv o88 r5),qG 84 true o89 (qAdd o89 r87 r88),qG 84 true o90 (qH Γ o90 fun g n e=>q_slcS e (.t 85) (some (.t 86)) (some (.t 89))),qG 84 true o91 (qMv o91 r1),qG 84 true o92 (qEql o92 r90 r91),qPick o93 r84 r92 rF] (mCond r93 (mR [qMv o94 r8,qMv o4 r94] mRet) mSkip)) (mR [qMv o95 r8,qAdd o96 r95 (rN 1),qMv o8 r96] (mR [qMv o97 r10,qAdd o98 r97 (rN 1),qMv o10 r98] (mR [qMv o99 r5,qLd1 o100 (rc (Γ 1)),qLeq o101 r99 r100,qMv o102 r101,qG 102 true o103 (qMv o103 r10),qG 102 true o104 (qMv o104 r8),qG 102 true o105 (qCall call yl o105 (rcf 115) [r104]),qG 102 true o106 (qGtr o106 r103 r105),qPick o107 r102 r106 rF] (mCond r107 (mR [qMv o108 r0,qMv o109 r8,qH Γ o110 fun g n e=>q_slcS e (.t 108) (some (.t 109)) none,qMv o111 r1,qCall call yl o112 (rcf 114) [r110,r111],qMv o12 r112] (mSeq (mR [qMv o113 r12,qGeq o114 r113 (rN 0)] (mCond r114 (mR [qMv o115 r12,qMv o116 r8,qAdd o117 r115 r116,qMv o4 r117] mRet) mSkip)) (mR [qMv o4 (rc (.i .i64 (.negSucc 0)))] mRet))) (mR [qMv o118 r5,qLd1 o119 (rc (Γ 1)),qGtr o120 r118 r119,qMv o121 r120,qG 121 true o122 (qMv o122 r10),qG 121 true o123 (qMv o123 r8),qG 121 true o124 (qBin o124 (biGen .shr) (bsOf .shr) r123 (rc (u6 4))),qG 121 true o125 (qAdd o125 (rN 4) r124),qG 121 true o126 (qGeq o126 r122 r125),qPick o127 r121 r126 rF,qMv o128 r127,qG 128 true o129 (qMv o129 r8),qG 128 true o130 (qMv o130 r9),qG 128 true o131 (qLss o131 r129 r130),qPick o132 r128 r131 rF] (mCond r132 (mR [qMv o133 r0,qMv o134 r8,qH Γ o135 fun g n e=>q_slcS e (.t 133) (some (.t 134)) none,qMv o136 r1,qCall call yl o137 (rcf 116) [r135,r136],qMv o13 r137] (mSeq (mR [qMv o138 r13,qLss o139 r138 (rN 0)] (mCond r139 (mR [qMv o4 (rc (.i .i64 (.negSucc 0)))] mRet) mSkip)) (mR [qMv o140 r8,qMv o141 r13,qAdd o142 r140 r141,qMv o4 r142] mRet))) mSkip)))))))))))) (mR [qMv o4 (rc (.i .i64 (.negSucc 0)))] mRet)))))))))⟩
noncomputable def C68 : CFn := ⟨56,[.t 4,.t 5],fun P Γ call yl qs L => mR [qBox o2 r0,qMv o4 (rN 0),qMv o5 (rN 0)] (mR [qMv o6 rZ] (mSeq (mR [qFaddr o10 0 r2,qLd1 o11 r10,qH Γ o12 fun g n e=>q_lenL e (.t 11),qMv o13 (rN 0)] (mBlock 0 (mLoop L (mR [qLss o14 r13 r12] (mSeq (mCond r14 mSkip (mExit 0)) (mSeq (mBlock 1 (mR [qMv o15 r13,qH Γ o16 fun g n e=>q_iaddr e 55 (.t 11) (.t 13),qLdA o17 55 r16,qAlloc o7 [(iN 0)] 0,qAlloc o8 [(iN 0),(u8 0),(iN 0),(iN 0),sE,(.b false),(.b false),(u8 0),(u6 0),(u6 0),(u6 0),(u6 0),(iN 0),(iN 0),(iN 0),.nils,(u8 0),(iN 0),(iN 0),sE,(.b false),(.b false),(u8 0),(u6 0),(u6 0),(u6 0),(u6 0),(iN 0),(iN 0),(iN 0),.nils,(.b false),(u8 0),sE,sE,(iN 0),sE,(.b false),(.b false),(u8 0),(u6 0),(u6 0),(u6 0),(u6 0),(iN 0),(iN 0),(iN 0),.nils,.nils,(iN 0),(.b false),(.b false),(.b false),sE,(iN 0)] 0,qSt none 1 r7 r15,qSt none 55 r8 r17] (mR [qMv o18 r6,qH Γ o19 fun g n e=>q_mkfn e (.func 118) [] [(.t 7)],qCall call yl o20 (rcf 117) [r18,r19],qMv o6 r20] (mSeq (mR [qLdA o21 3 r2,qLd1 o22 r7,qMv o23 r1,qMv o24 r6,qCall call yl o25 (rcf 119) [r21,r22,r23,r24],qH Γ o26 fun g n e=>q_un e .not (.t 25)] (mCond r26 (mSeq (mDraw Γ call [⟨o27,.ld false 1 (.t 7),none⟩,⟨o4,.mv (.c (iN 150)),none⟩,⟨o5,.mv (.t 27),none⟩] [⟨[],0,0⟩,⟨[],0,0⟩,⟨[0,1],0,0⟩]) mRet) mSkip)) (mR [qFaddr o28 0 r8,qFaddr o29 32 r28,qLd1 o30 r29,qEql o31 r30 (rb 123)] (mCond r31 (mO [qMv o32 r6,qFaddr o33 54 r8,qLd1 o34 r33,qH Γ o35 fun g n e=>q_bslice n e 1 [(iN 0)] [(0,1,(.t 34))] 1,qH Γ o36 fun g n e=>q_app g n e 1 8 0 (.t 32) (.t 35),qMv o6 r36]) mSkip)))))) (mO [qAdd o37 r13 (rN 1),qMv o13 r37]))))))) (mR [qLdA o38 3 r2,qMv o39 r1,qCall call yl o40 (rcf 120) [r38,r39],qAlloc o9 [.nils,(.b false),(.b false)] 0,qSt none 3 r9 r40] (mSeq (mSeq (mDraw Γ call [⟨o41,.faddr 0 (.t 9),none⟩,⟨o42,.ld false 1 (.t 41),none⟩,⟨o43,.lenL (.t 42),none⟩,⟨o44,.bin .gtr (.t 43) (.c (iN 4096)),none⟩,⟨o45,.mv (.t 44),none⟩,⟨o46,.ld true 3 (.t 9),some (45,false)⟩,⟨o47,.call (.f 107) [(.t 46)],some (45,false)⟩,⟨o48,.faddr 2 (.t 2),some (45,false)⟩,⟨o49,.ld false 1 (.t 48),some (45,false)⟩,⟨o50,.call (.f 121) [(.t 47),(.t 49)],some (45,false)⟩,⟨o51,.un .not (.t 50),some (45,false)⟩,⟨o52,.pick (.t 45) (.c (.b true)) (.t 51),none⟩] [⟨[],0,0⟩,⟨[0],0,0⟩,⟨[1,0],0,0⟩,⟨[2,1,0],0,0⟩,⟨[3,2,1,0],0,0⟩,⟨[4,3,2,1,0],0,0⟩,⟨[5,4,3,2,1,0],0,0⟩,⟨[4,3,2,1,0],0,1⟩,⟨[7,4,3,2,1,0],0,1⟩,⟨[6,8,4,5,3,2,1,0,7],1,1⟩,⟨[9,4,6,8,5,3,2,1,0,7],2,2⟩,⟨[4,10,3,2,1,0,9,6,8,5,7],2,2⟩]) (mCond r52 (mSeq (mDraw Γ call [⟨o53,.faddr 0 (.t 2),none⟩,⟨o54,.ld false 1 (.t 53),none⟩,⟨o55,.lenL (.t 54),none⟩,⟨o4,.mv (.c (iN 150)),none⟩,⟨o5,.mv (.t 55),none⟩] [⟨[],0,0⟩,⟨[0],0,0⟩,⟨[1,0],0,0⟩,⟨[],0,0⟩,⟨[2,3,0,1],0,0⟩]) mRet) mSkip)) (mR [qMv o4 (rN 0),qMv o5 (rN 0)] mRet)))))⟩
noncomputable def C69 : CFn := ⟨23,[.t 0],fun P Γ call yl qs L => mR [qMv o0 (rc .nilm)] (mR [qMv o1 (rcf 122)] (mR [qH Γ o2 fun g n e=>q_mkmap n ,qMv o3 r1,qH Γ none fun g n e=>q_ins g e (.leaf .i) (.t 2) (.c (u8 123)) (.t 3),qCall call yl o4 (rcf 123) [(rcf 124)],qH Γ none fun g n e=>q_ins g e (.leaf .i) (.t 2) (.c (u8 61)) (.t 4),qCall call yl o5 (rcf 123) [(rcf 126)],qH Γ none fun g n e=>q_ins g e (.leaf .i) (.t 2) (.c (u8 105)) (.t 5),qCall call yl o6 (rcf 123) [(rcf 127)],qH Γ none fun g n e=>q_ins g e (.leaf .i) (.t 2) (.c (u8 70)) (.t 6),qCall call yl o7 (rcf 123) [(rcf 128)],qH Γ none fun g n e=>q_ins g e (.leaf .i) (.t 2) (.c (u8 108)) (.t 7),qCall call yl o8 (rcf 123) [(rcf 131)],qH Γ none fun g n e=>q_ins g e (.leaf .i) (.t 2) (.c (u8 112)) (.t 8),qCall call yl o9 (rcf 123) [(rcf 134)],qH Γ none fun g n e=>q_ins g e (.leaf .i) (.t 2) (.c (u8 80)) (.t 9),qCall call yl o10 (rcf 123) [(rcf 136)],qH Γ none fun g n e=>q_ins g e (.leaf .i) (.t 2) (.c (u8 119)) (.t 10),qCall call yl o11 (rcf 123) [(rcf 138)],qH Γ none fun g n e=>q_ins g e (.leaf .i) (.t 2) (.c (u8 87)) (.t 11),qCall call yl o12 (rcf 139) [(rb 1)],qH Γ none fun g n e=>q_ins g e (.leaf .i) (.t 2) (.c (u8 97)) (.t 12),qCall call yl o13 (rcf 139) [(rb 2)],qH Γ none fun g n e=>q_ins g e (.leaf .i) (.t 2) (.c (u8 114)) (.t 13),qCall call yl o14 (rcf 139) [(rb 3)],qH Γ none fun g n e=>q_ins g e (.leaf .i) (.t 2) (.c (u8 82)) (.t 14),qCall call yl o15 (rcf 140) [(rcf 141)],qH Γ none fun g n e=>q_ins g e (.leaf .i) (.t 2) (.c (u8 103)) (.t 15),qCall call yl o16 (rcf 140) [(rcf 143)],qH Γ none fun g n e=>q_ins g e (.leaf .i) (.t 2) (.c (u8 71)) (.t 16),qCall call yl o17 (rcf 140) [(rcf 145)],qH Γ none fun g n e=>q_ins g e (.leaf .i) (.t 2) (.c (u8 104)) (.t 17),qCall call yl o18 (rcf 140) [(rcf 147)],qH Γ none fun g n e=>q_ins g e (.leaf .i) (.t 2) (.c (u8 72)) (.t 18),qCall call yl o19 (rcf 140) [(rcf 149)],qH Γ none fun g n e=>q_ins g e (.leaf .i) (.t 2) (.c (u8 120)) (.t 19),qCall call yl o20 (rcf 140) [(rcf 151)],qH Γ none fun g n e=>q_ins g e (.leaf .i) (.t 2) (.c (u8 122)) (.t 20),qCall call yl o21 (rcf 140) [(rcf 153)],qH Γ none fun g n e=>q_ins g e (.leaf .i) (.t 2) (.c (u8 121)) (.t 21),qH Γ none fun g n e=>q_ins g e (.leaf .i) (.t 2) (.c (u8 99)) (.f 155),qH Γ none fun g n e=>q_ins g e (.leaf .i) (.t 2) (.c (u8 100)) (.f 156),qH Γ none fun g n e=>q_ins g e (.leaf .i) (.t 2) (.c (u8 68)) (.f 157),qH Γ none fun g n e=>q_ins g e (.leaf .i) (.t 2) (.c (u8 110)) (.f 158),qH Γ none fun g n e=>q_ins g e (.leaf .i) (.t 2) (.c (u8 78)) (.f 159),qH Γ none fun g n e=>q_ins g e (.leaf .i) (.t 2) (.c (u8 113)) (.f 160),qH Γ none fun g n e=>q_ins g e (.leaf .i) (.t 2) (.c (u8 81)) (.f 160),qH Γ none fun g n e=>q_ins g e (.leaf .i) (.t 2) (.c (u8 115)) (.f 161),qH Γ none fun g n e=>q_ins g e (.leaf .i) (.t 2) (.c (u8 101)) (.f 162),qH Γ none fun g n e=>q_ins g e (.leaf .i) (.t 2) (.c (u8 98)) (.f 163),qH Γ none fun g n e=>q_ins g e (.leaf .i) (.t 2) (.c (u8 116)) (.f 164),qH Γ none fun g n e=>q_ins g e (.leaf .i) (.t 2) (.c (u8 84)) (.f 165),qMv o22 r2,qMv o0 r22] mRet))⟩
noncomputable def C70 : CFn := ⟨15,[.t 2],fun P Γ call yl qs L => mR [qMv o2 rF] (mR [qMv o3 r0,qNil o4 r3,qFaddr o5 3 r4,qFaddr o6 2 r5,qLd1 o7 r6,qMv o8 r7,qG 8 false o9 (qMv o9 r0),qG 8 false o10 (qNil o10 r9),qG 8 false o11 (qFaddr o11 3 r10),qG 8 false o12 (qFaddr o12 3 r11),qG 8 false o13 (qLd1 o13 r12),qPick o14 r8 rT r13,qMv o2 r14] mRet)⟩
noncomputable def C71 : CFn := ⟨51,[],fun P Γ call yl qs L => mR [qMv o5 r0,qNil o6 r5,qFaddr o7 17 r6,qSt none 1 r7 rZ] (mR [qMv o8 r0,qH Γ o9 fun g n e=>q_mkmap n ,qNil o10 r8,qFaddr o11 16 r10,qSt none 1 r11 r9] (mR [qMv o12 r0,qNil o13 r12,qFaddr o14 0 r13,qFaddr o15 0 r14,qLd1 o16 r15,qH Γ o17 fun g n e=>q_lenL e (.t 16),qMv o18 (rN 0)] (mBlock 0 (mLoop L (mR [qLss o19 r18 r17] (mSeq (mCond r19 mSkip (mExit 0)) (mSeq (mBlock 1 (mR [qH Γ o20 fun g n e=>q_iaddr e 55 (.t 16) (.t 18),qLdA o21 55 r20,qAlloc o3 [(iN 0),(u8 0),(iN 0),(iN 0),sE,(.b false),(.b false),(u8 0),(u6 0),(u6 0),(u6 0),(u6 0),(iN 0),(iN 0),(iN 0),.nils,(u8 0),(iN 0),(iN 0),sE,(.b false),(.b false),(u8 0),(u6 0),(u6 0),(u6 0),(u6 0),(iN 0),(iN 0),(iN 0),.nils,(.b false),(u8 0),sE,sE,(iN 0),sE,(.b false),(.b false),(u8 0),(u6 0),(u6 0),(u6 0),(u6 0),(iN 0),(iN 0),(iN 0),.nils,.nils,(iN 0),(.b false),(.b false),(.b false),sE,(iN 0)] 0,qSt none 55 r3 r21] (mR [qFaddr o22 0 r3,qLdA o23 54 r22,qAlloc o4 [(iN 0),(u8 0),(iN 0),(iN 0),sE,(.b false),(.b false),(u8 0),(u6 0),(u6 0),(u6 0),(u6 0),(iN 0),(iN 0),(iN 0),.nils,(u8 0),(iN 0),(iN 0),sE,(.b false),(.b false),(u8 0),(u6 0),(u6 0),(u6 0),(u6 0),(iN 0),(iN 0),(iN 0),.nils,(.b false),(u8 0),sE,sE,(iN 0),sE,(.b false),(.b false),(u8 0),(u6 0),(u6 0),(u6 0),(u6 0),(iN 0),(iN 0),(iN 0),.nils,.nils,(iN 0),(.b false),(.b false),(.b false),sE] 0,qSt none 54 r4 r23] (mDraw Γ call [⟨o24,.mv (.t 0),none⟩,⟨o25,.mv (.t 0),none⟩,⟨o26,.nilchk (.t 25),none⟩,⟨o27,.faddr 17 (.t 26),none⟩,⟨o28,.ld false 1 (.t 27),none⟩,⟨o29,.faddr 1 (.t 4),none⟩,⟨o30,.faddr 0 (.t 29),none⟩,⟨o31,.ld false 1 (.t 30),none⟩,⟨o32,.bin .eql (.t 31) (.c (u8 1)),none⟩,⟨o33,.mv (.t 32),none⟩,⟨o34,.faddr 1 (.t 4),some (33,true)⟩,⟨o35,.faddr 1 (.t 34),some (33,true)⟩,⟨o36,.ld false 1 (.t 35),some (33,true)⟩,⟨o37,.bin .eql (.t 36) (.c (iN 0)),some (33,true)⟩,⟨o38,.pick (.t 33) (.t 37) (.c (.b false)),none⟩,⟨o39,.mv (.t 38),none⟩,⟨o40,.faddr 16 (.t 4),some (39,true)⟩,⟨o41,.faddr 0 (.t 40),some (39,true)⟩,⟨o42,.ld false 1 (.t 41),some (39,true)⟩,⟨o43,.bin .neq (.t 42) (.c (u8 0)),some (39,true)⟩,⟨o44,.pick (.t 39) (.t 43) (.c (.b false)),none⟩,⟨o45,.build [(.b false),(iN 0)] [(0,1,(.t 44))],none⟩,⟨o46,.bslice 2 [(.b false),(iN 0)] [(0,2,(.t 45))] 1,none⟩,⟨o47,.app 2 16 0 (.t 28) (.t 46),none⟩,⟨o48,.nilchk (.t 24),none⟩,⟨o49,.faddr 17 (.t 48),none⟩,⟨none,.st 1 (.t 49) (.t 47),none⟩] [⟨[],0,1⟩,⟨[],0,0⟩,⟨[1],0,0⟩,⟨[2,1],0,0⟩,⟨[3,2,1],0,0⟩,⟨[],0,0⟩,⟨[5],0,0⟩,⟨[6,5],0,0⟩,⟨[7,6,5],0,0⟩,⟨[8,7,6,5],0,0⟩,⟨[9,8,7,6,5],0,0⟩,⟨[10,9,8,7,6,5],0,0⟩,⟨[11,9,10,8,7,6,5],0,0⟩,⟨[12,9,11,10,8,7,6,5],0,0⟩,⟨[9,13,8,7,6,5,12,11,10],0,0⟩,⟨[14,9,13,8,7,6,5,12,11,10],0,0⟩,⟨[15,14,9,13,8,7,6,5,12,11,10],0,0⟩,⟨[16,15,14,9,13,8,7,6,5,12,11,10],0,0⟩,⟨[17,15,16,14,9,13,8,7,6,5,12,11,10],0,0⟩,⟨[18,15,17,16,14,9,13,8,7,6,5,12,11,10],0,0⟩,⟨[15,19,14,9,13,8,7,6,5,12,11,10,18,17,16],0,0⟩,⟨[20,15,19,14,9,13,8,7,6,5,12,11,10,18,17,16],0,0⟩,⟨[21,20,15,19,14,9,13,8,7,6,5,12,11,10,18,17,16],0,0⟩,⟨[4,22,15,3,2,1,21,20,19,14,9,13,8,7,6,5,12,11,10,18,17,16],0,0⟩,⟨[0,1,2,3,4,5,6,7,8,9,10,11,12,13,14,15,16,17,18,19,20,21,22,23],1,1⟩,⟨[24,0,1,2,3,4,5,6,7,8,9,10,11,12,13,14,15,16,17,18,19,20,21,22,23],1,1⟩,⟨[25,23,0,1,2,3,4,5,6,7,8,9,10,11,12,13,14,15,16,17,18,19,20,21,22,24],1,1⟩])))) (mO [qAdd o50 r18 (rN 1),qMv o18 r50]))))))))⟩
noncomputable def C72 : CFn := ⟨16,[],fun P Γ call yl qs L => mSeq (mR [qMv o4 r1,qMv o5 r4,qG 5 true o6 (qMv o6 r0),qG 5 true o7 (qCall call yl o7 (rcf 166) [r6]),qG 5 true o8 (qH Γ o8 fun g n e=>q_un e .not (.t 7)),qPick o9 r5 r8 rF] (mCond r9 (mO [qMv o10 r0,qMv o11 r0,qCall call yl o12 (rcf 133) [r11],qCall call yl o13 (rcf 132) [r10,r12]]) mSkip)) (mO [qMv o14 r0,qCall call yl o15 (rcf 167) [r14]])⟩
noncomputable def C74 : CFn := ⟨32,[.t 2],fun P Γ call yl qs L => mR [qMv o2 rF] (mR [qMv o6 r0,qCall call yl o7 (rcf 168) [r6],qMv o5 r7,qH Γ o8 fun g n e=>q_ext e (.t 5) 0,qH Γ o9 fun g n e=>q_ext e (.t 5) 1,qMv o3 r8,qMv o4 r9] (mSeq (mR [qMv o10 r4,qH Γ o11 fun g n e=>q_un e .not (.t 10),qMv o12 r11,qG 12 false o13 (qMv o13 r0),qG 12 false o14 (qMv o14 r3),qG 12 false o15 (qH Γ o15 fun g n e=>q_lenS e (.t 14)),qG 12 false o16 (qMv o16 r0),qG 12 false o17 (qNil o17 r16),qG 12 false o18 (qFaddr o18 12 r17),qG 12 false o19 (qFaddr o19 1 r18),qG 12 false o20 (qLd1 o20 r19),qG 12 false o21 (qH Γ o21 fun g n e=>q_lenS e (.t 20)),qG 12 false o22 (qCall call yl o22 (rcf 169) [r13,r15,r21,(rN 0)]),qG 12 false o23 (qH Γ o23 fun g n e=>q_un e .not (.t 22)),qPick o24 r12 rT r23] (mCond r24 (mR [qMv o2 rF] mRet) mSkip)) (mR [qMv o25 r0,qNil o26 r25,qFaddr o27 12 r26,qMv o28 r3,qCall call yl o29 (rcf 152) [r27,r28]] (mR [qMv o30 r0,qCall call yl o31 (rcf 170) [r30]] (mR [qMv o2 rT] mRet)))))⟩
noncomputable def C75 : CFn := ⟨103,[.t 4],fun P Γ call yl qs L => mR [qMv o4 rF] (mR [qMv o9 r0,qNil o10 r9,qFaddr o11 0 r10,qFaddr o12 0 r11,qLd1 o13 r12,qMv o14 r1,qH Γ o15 fun g n e=>q_iaddr e 55 (.t 13) (.t 14),qFaddr o16 0 r15,qLdA o17 54 r16,qAlloc o5 [(iN 0),(u8 0),(iN 0),(iN 0),sE,(.b false),(.b false),(u8 0),(u6 0),(u6 0),(u6 0),(u6 0),(iN 0),(iN 0),(iN 0),.nils,(u8 0),(iN 0),(iN 0),sE,(.b false),(.b false),(u8 0),(u6 0),(u6 0),(u6 0),(u6 0),(iN 0),(iN 0),(iN 0),.nils,(.b false),(u8 0),sE,sE,(iN 0),sE,(.b false),(.b false),(u8 0),(u6 0),(u6 0),(u6 0),(u6 0),(iN 0),(iN 0),(iN 0),.nils,.nils,(iN 0),(.b false),(.b false),(.b false),sE] 0,qSt none 54 r5 r17] (mR [qMv o18 r0,qNil o19 r18,qFaddr o20 17 r19,qLd1 o21 r20,qMv o22 r1,qH Γ o23 fun g n e=>q_iaddr e 2 (.t 21) (.t 22),qMv o6 r23] (mR [qMv o7 rT] (mSeq (mBlock 0 (mR [qFaddr o43 1 r5,qFaddr o44 0 r43,qLd1 o45 r44,qEql o46 r45 (rb 0),qMv o42 r46] (mCond r42 mSkip (mR [qFaddr o48 16 r5,qFaddr o49 0 r48,qLd1 o50 r49,qEql o51 r50 (rb 0),qMv o47 r51] (mCond r47 (mO [qMv o52 r0,qFaddr o53 1 r5,qLdA o54 15 r53,qCall call yl o55 (rcf 171) [r52,r54],qMv o7 r55]) (mR [qMv o57 r6,qNil o58 r57,qFaddr o59 0 r58,qLd1 o60 r59,qH Γ o61 fun g n e=>q_un e .not (.t 60),qMv o56 r61] (mCond r56 (mR [qMv o62 r0,qFaddr o63 1 r5,qLdA o64 15 r63,qCall call yl o65 (rcf 171) [r62,r64],qMv o7 r65] (mR [qMv o66 r7] (mCond r66 (mO [qMv o67 r6,qMv o68 r0,qFaddr o69 16 r5,qLdA o70 15 r69,qCall call yl o71 (rcf 172) [r68,r70],qNil o72 r67,qSt none 2 r72 r71]) mSkip))) (mR [qFaddr o74 16 r5,qFaddr o75 0 r74,qLd1 o76 r75,qEql o77 r76 (rb 2),qMv o73 r77] (mCond r73 (mO [qMv o78 r6,qMv o79 r0,qCall call yl o80 (rcf 111) [r79],qH Γ o81 fun g n e=>q_fld e false 4 1 (.t 80),qH Γ o82 fun g n e=>q_un e .not (.t 81),qNil o83 r78,qFaddr o84 0 r83,qSt none 1 r84 r82]) (mR [qFaddr o86 16 r5,qFaddr o87 0 r86,qLd1 o88 r87,qEql o89 r88 (rb 3),qMv o85 r89] (mCond r85 (mO [qMv o90 r6,qMv o91 r0,qFaddr o92 16 r5,qFaddr o93 3 r92,qLdA o94 12 r93,qCall call yl o95 (rcf 173) [r91,r94],qH Γ o96 fun g n e=>q_un e .not (.t 95),qNil o97 r90,qFaddr o98 0 r97,qSt none 1 r98 r96]) (mR [qMv o24 r0,qCall call yl o25 (rcf 111) [r24],qH Γ o26 fun g n e=>q_fld e false 3 1 (.t 25),qMv o8 r26] (mR [qMv o27 r8,qMv o28 r6,qNil o29 r28,qFaddr o30 1 r29,qLd1 o31 r30,qLeq o32 r27 r31,qMv o7 r32] (mO [qMv o33 r6,qMv o34 r8,qMv o35 r6,qNil o36 r35,qFaddr o37 1 r36,qLd1 o38 r37,qLss o39 r34 r38,qNil o40 r33,qFaddr o41 0 r40,qSt none 1 r41 r39])))))))))))))) (mR [qMv o99 r7,qFaddr o100 31 r5,qLd1 o101 r100,qH Γ o102 fun g n e=>q_eq g e true (.leaf .b) (.t 99) (.t 101),qMv o4 r102] mRet)))))⟩
noncomputable def C77 : CFn := ⟨6,[],fun P Γ call yl qs L => mO [qMv o4 r0,qCall call yl o5 (rcf 78) [r4]]⟩
noncomputable def C78 : CFn := ⟨18,[],fun P Γ call yl qs L => mR [qMv o2 r0,qCall call yl o3 (rcf 92) [r2]] (mR [qMv o4 r0,qCall call yl o5 (rcf 49) [r4]] (mBlock 0 (mSeq (mR [qEql o13 r5 (rc (.i .i64 (.negSucc 0))),qMv o12 r13] (mCond r12 mSkip (mR [qEql o14 r5 (rN 10),qMv o12 r14] (mCond r12 mSkip (mR [qEql o15 r5 (rN 59),qMv o12 r15] (mCond r12 mSkip (mR [qEql o16 r5 (rN 125),qMv o12 r16] (mCond r12 mSkip (mO [qEql o17 r5 (rN 35),qMv o12 r17]))))))))) (mCond r12 mSkip (mO [qMv o6 r0,qMv o7 r0,qNil o8 r7,qFaddr o9 1 r8,qLd1 o10 r9,qCall call yl o11 (rcf 54) [r6,(rN 6),r10]])))))⟩
noncomputable def C79 : CFn := ⟨16,[.t 2],fun P Γ call yl qs L => mR [qBox o1 r0,qMv o2 rF] (mR [qFaddr o3 35 r1,qLd1 o4 r3,qEql o5 r4 (rN 0),qMv o6 r5,qG 6 true o7 (qFaddr o7 33 r1),qG 6 true o8 (qLd1 o8 r7),qG 6 true o9 (qEql o9 r8 (rc sE)),qPick o10 r6 r9 rF,qMv o11 r10,qG 11 true o12 (qFaddr o12 34 r1),qG 11 true o13 (qLd1 o13 r12),qG 11 true o14 (qEql o14 r13 (rc sE)),qPick o15 r11 r14 rF,qMv o2 r15] mRet)⟩
noncomputable def C81 : CFn := ⟨4,[.t 2],fun P Γ call yl qs L => mR [qBox o1 r0,qMv o2 (rc .nilf)] (mR [qH Γ o3 fun g n e=>q_mkfn e (.func 174) [] [(.t 1)],qMv o2 r3] mRet)⟩
noncomputable def C82 : CFn := ⟨4,[.t 2],fun P Γ call yl qs L => mR [qBox o1 r0,qMv o2 (rc .nilf)] (mR [qH Γ o3 fun g n e=>q_mkfn e (.func 176) [] [(.t 1)],qMv o2 r3] mRet)⟩
noncomputable def C83 : CFn := ⟨156,[],fun P Γ call yl qs L => mR [qBox o2 r0] (mR [qLd1 o13 r2,qMv o14 r1,qCall call yl o15 (rcf 177) [r13,r14,rT],qMv o12 r15,qH Γ o16 fun g n e=>q_ext e (.t 12) 0,qH Γ o17 fun g n e=>q_ext e (.t 12) 1,qH Γ o18 fun g n e=>q_ext e (.t 12) 2,qAlloc o5 [sE,sE] 0,qAlloc o6 [(iN 0),(iN 0)] 0,qMv o4 r16,qSt none 2 r5 r17,qSt none 2 r6 r18] (mSeq (mDraw Γ call [⟨o19,.mv (.t 1),none⟩,⟨o20,.ld false 1 (.t 2),none⟩,⟨o21,.iaddrA 2 1 (.t 5) (.c (iN 0)),none⟩,⟨o22,.ld false 1 (.t 21),none⟩,⟨o23,.mv (.t 4),none⟩,⟨o24,.call (.f 179) [(.t 22),(.t 23)],none⟩,⟨o25,.iaddrA 2 1 (.t 6) (.c (iN 0)),none⟩,⟨o26,.ld false 1 (.t 25),none⟩,⟨o27,.call (.f 178) [(.t 20),(.t 24),(.c (.b false)),(.t 26)],none⟩,⟨o28,.nilchk (.t 19),none⟩,⟨o29,.faddr 36 (.t 28),none⟩,⟨none,.st 12 (.t 29) (.t 27),none⟩] [⟨[],0,2⟩,⟨[],0,1⟩,⟨[],0,0⟩,⟨[2],0,0⟩,⟨[],0,0⟩,⟨[3,4,2],0,0⟩,⟨[],0,1⟩,⟨[6],0,1⟩,⟨[1,5,7,3,4,2,6],1,1⟩,⟨[0,1,2,3,4,5,6,7,8],2,2⟩,⟨[9,0,1,2,3,4,5,6,7,8],2,2⟩,⟨[10,8,0,1,2,3,4,5,6,7,9],2,2⟩]) (mR [qMv o30 r1,qIaddrA o31 2 1 r5 (rN 1),qLd1 o32 r31,qMv o33 r4,qCall call yl o34 (rcf 180) [r32,r33],qNil o35 r30,qFaddr o36 48 r35,qFaddr o37 0 r36,qSt none 1 r37 r34] (mSeq (mR [qMv o38 r1,qNil o39 r38,qLdA o40 54 r39,qCall call yl o41 (rcf 181) [r40],qH Γ o42 fun g n e=>q_un e .not (.t 41)] (mCond r42 (mO [qLd1 o43 r2,qIaddrA o44 2 1 r6 (rN 1),qLd1 o45 r44,qCall call yl o46 (rcf 54) [r43,(rN 16),r45]]) mSkip)) (mR [qH Γ o47 fun g n e=>q_mkfn e (.func 182) [] [(.t 2)],qMv o7 r47] (mBlock 0 (mLoop L (mBlock 1 (mR [qLd1 o48 r2,qNil o49 r48,qFaddr o50 1 r49,qLd1 o51 r50,qMv o8 r51] (mR [qLd1 o52 r2,qCall call yl o53 (rcf 49) [r52],qMv o9 r53] (mBlock 2 (mR [qMv o57 r9,qEql o58 r57 (rN 103),qMv o56 r58] (mCond r56 (mO [qMv o59 r7,qMv o60 r1,qNil o61 r60,qFaddr o62 48 r61,qFaddr o63 2 r62,qMv o64 r8,qCall call yl o65 r59 [r63,r64]]) (mR [qMv o67 r9,qEql o68 r67 (rN 112),qMv o66 r68] (mCond r66 (mO [qMv o69 r7,qMv o70 r1,qNil o71 r70,qFaddr o72 48 r71,qFaddr o73 3 r72,qMv o74 r8,qCall call yl o75 r69 [r73,r74]]) (mR [qMv o77 r9,qEql o78 r77 (rN 101),qMv o76 r78] (mCond r76 (mO [qMv o79 r7,qMv o80 r1,qNil o81 r80,qFaddr o82 48 r81,qFaddr o83 4 r82,qMv o84 r8,qCall call yl o85 r79 [r83,r84]]) (mR [qMv o87 r9,qEql o88 r87 (rN 73),qMv o89 r88,qG 89 false o90 (qMv o90 r9),qG 89 false o91 (qEql o91 r90 (rN 105)),qPick o92 r89 rT r91,qMv o86 r92] (mCond r86 (mSeq (mR [qMv o93 r1,qNil o94 r93,qFaddr o95 36 r94,qFaddr o96 1 r95,qLd1 o97 r96] (mCond r97 (mO [qLd1 o98 r2,qIaddrA o99 2 1 r6 (rN 0),qLd1 o100 r99,qCall call yl o101 (rcf 54) [r98,(rN 3),r100]]) mSkip)) (mO [qMv o102 r7,qMv o103 r1,qNil o104 r103,qFaddr o105 36 r104,qFaddr o106 2 r105,qMv o107 r8,qCall call yl o108 r102 [r106,r107]])) (mR [qMv o110 r9,qCall call yl o111 (rcf 183) [r110],qMv o109 r111] (mCond r109 (mR [qLd1 o113 r2,qCall call yl o114 (rcf 175) [r113],qMv o112 r114,qH Γ o115 fun g n e=>q_ext e (.t 112) 0,qH Γ o116 fun g n e=>q_ext e (.t 112) 1,qMv o10 r115,qMv o11 r116] (mSeq (mR [qMv o117 r10,qGtr o118 r117 (rN 1073741824)] (mCond r118 (mO [qLd1 o119 r2,qMv o120 r8,qCall call yl o121 (rcf 54) [r119,(rN 18),r120]]) mSkip)) (mSeq (mR [qMv o122 r10,qEql o123 r122 (rN 0),qMv o124 r123,qG 124 false o125 (qMv o125 r1),qG 124 false o126 (qNil o126 r125),qG 124 false o127 (qFaddr o127 48 r126),qG 124 false o128 (qFaddr o128 1 r127),qG 124 false o129 (qLd1 o129 r128),qG 124 false o130 (qGtr o130 r129 (rN 0)),qPick o131 r124 rT r130] (mCond r131 (mO [qLd1 o132 r2,qMv o133 r8,qCall call yl o134 (rcf 54) [r132,(rN 15),r133]]) mSkip)) (mO [qMv o135 r1,qMv o136 r10,qNil o137 r135,qFaddr o138 48 r137,qFaddr o139 1 r138,qSt none 1 r139 r136])))) (mR [qMv o141 r9,qEql o142 r141 (rN 119),qMv o140 r142] (mCond r140 (mR [qLd1 o143 r2,qNil o144 r143,qFaddr o145 1 r144,qLd1 o146 r145,qAdd o147 r146 (rN 1),qNil o148 r143,qFaddr o149 1 r148,qSt none 1 r149 r147] (mR [qMv o150 r1,qLd1 o151 r2,qCall call yl o152 (rcf 99) [r151],qNil o153 r150,qFaddr o154 48 r153,qFaddr o155 5 r154,qSt none 1 r155 r152] mRet)) (mR [qLd1 o54 r2,qCall call yl o55 (rcf 78) [r54]] mRet))))))))))))))))))))))))⟩
noncomputable def C87 : CFn := ⟨6,[.t 4],fun P Γ call yl qs L => mR [qBox o2 r0,qBox o3 r1,qMv o4 (rc .nilf)] (mR [qH Γ o5 fun g n e=>q_mkfn e (.func 185) [] [(.t 2),(.t 3)],qMv o4 r5] mRet)⟩
noncomputable def C88 : CFn := ⟨4,[.t 2],fun P Γ call yl qs L => mR [qBox o1 r0,qMv o2 (rc .nilf)] (mR [qH Γ o3 fun g n e=>q_mkfn e (.func 187) [] [(.t 1)],qMv o2 r3] mRet)⟩
end Go.Proofs.YtelnkadnphephaaGreatDoor.T
end
noncomputable section
namespace Go.Proofs.YtelnkadnphephaaGreatDoor.T
open Go Go.Abs
noncomputable def C92 : CFn := ⟨12,[],fun P Γ call yl qs L => mBlock 0 (mLoop L (mSeq (mR [qMv o2 r0,qCall call yl o3 (rcf 49) [r2],qCall call yl o4 (rcf 50) [r3]] (mCond r4 mSkip (mExit 0))) (mBlock 1 (mO [qMv o5 r0,qNil o6 r5,qFaddr o7 1 r6,qLd1 o8 r7,qAdd o9 r8 (rN 1),qNil o10 r5,qFaddr o11 1 r10,qSt none 1 r11 r9]))))⟩
noncomputable def C94 : CFn := ⟨8,[.t 4],fun P Γ call yl qs L => mR [qMv o4 (rN 0)] (mR [qMv o5 r0,qMv o6 r1,qCall call yl o7 (rcf 113) [r5,r6],qMv o4 r7] mRet)⟩
noncomputable def C101 : CFn := ⟨29,[.t 4],fun P Γ call yl qs L => mR [qMv o4 (rN 0)] (mSeq (mSeq (mDraw Γ call [⟨o5,.mv (.t 0),none⟩,⟨o6,.nilchk (.t 5),none⟩,⟨o7,.faddr 1 (.t 6),none⟩,⟨o8,.ld false 1 (.t 7),none⟩,⟨o9,.mv (.t 1),none⟩,⟨o10,.bin .add (.t 8) (.t 9),none⟩,⟨o11,.mv (.t 0),none⟩,⟨o12,.nilchk (.t 11),none⟩,⟨o13,.faddr 0 (.t 12),none⟩,⟨o14,.ld false 1 (.t 13),none⟩,⟨o15,.lenS (.t 14),none⟩,⟨o16,.bin .lss (.t 10) (.t 15),none⟩] [⟨[],0,0⟩,⟨[0],0,0⟩,⟨[1,0],0,0⟩,⟨[2,1,0],0,0⟩,⟨[],0,0⟩,⟨[3,4,2,1,0],0,0⟩,⟨[],0,0⟩,⟨[6],0,0⟩,⟨[7,6],0,0⟩,⟨[8,7,6],0,0⟩,⟨[9,8,7,6],0,0⟩,⟨[5,10,3,4,2,1,0,9,8,7,6],0,0⟩]) (mCond r16 (mSeq (mDraw Γ call [⟨o17,.mv (.t 0),none⟩,⟨o18,.nilchk (.t 17),none⟩,⟨o19,.faddr 0 (.t 18),none⟩,⟨o20,.ld false 1 (.t 19),none⟩,⟨o21,.mv (.t 0),none⟩,⟨o22,.nilchk (.t 21),none⟩,⟨o23,.faddr 1 (.t 22),none⟩,⟨o24,.ld false 1 (.t 23),none⟩,⟨o25,.mv (.t 1),none⟩,⟨o26,.bin .add (.t 24) (.t 25),none⟩,⟨o27,.idxS (.t 20) (.t 26),none⟩,⟨o28,.convI .i64 (.t 27),none⟩,⟨o4,.mv (.t 28),none⟩] [⟨[],0,0⟩,⟨[0],0,0⟩,⟨[1,0],0,0⟩,⟨[2,1,0],0,0⟩,⟨[],0,0⟩,⟨[4],0,0⟩,⟨[5,4],0,0⟩,⟨[6,5,4],0,0⟩,⟨[],0,0⟩,⟨[7,8,6,5,4],0,0⟩,⟨[3,9,2,1,0,7,8,6,5,4],0,0⟩,⟨[10,3,9,2,1,0,7,8,6,5,4],0,0⟩,⟨[11,0,1,2,3,4,5,6,7,8,9,10],0,0⟩]) mRet) mSkip)) (mR [qMv o4 (rc (.i .i64 (.negSucc 0)))] mRet))⟩
noncomputable def C103 : CFn := ⟨77,[.cell 2 true 54],fun P Γ call yl qs L => mR [qAlloc o2 [(iN 0),(u8 0),(iN 0),(iN 0),sE,(.b false),(.b false),(u8 0),(u6 0),(u6 0),(u6 0),(u6 0),(iN 0),(iN 0),(iN 0),.nils,(u8 0),(iN 0),(iN 0),sE,(.b false),(.b false),(u8 0),(u6 0),(u6 0),(u6 0),(u6 0),(iN 0),(iN 0),(iN 0),.nils,(.b false),(u8 0),sE,sE,(iN 0),sE,(.b false),(.b false),(u8 0),(u6 0),(u6 0),(u6 0),(u6 0),(iN 0),(iN 0),(iN 0),.nils,.nils,(iN 0),(.b false),(.b false),(.b false),sE] 0] (mR [qMv o5 r0,qNil o6 r5,qFaddr o7 1 r6,qLd1 o8 r7,qMv o3 r8] (mR [qMv o9 r0,qCall call yl o10 (rcf 189) [r9,rF],qH Γ o11 fun g n e=>q_build e [(iN 0),(u8 0),(iN 0),(iN 0),sE,(.b false),(.b false),(u8 0),(u6 0),(u6 0),(u6 0),(u6 0),(iN 0),(iN 0),(iN 0),.nils,(u8 0),(iN 0),(iN 0),sE,(.b false),(.b false),(u8 0),(u6 0),(u6 0),(u6 0),(u6 0),(iN 0),(iN 0),(iN 0),.nils,(.b false),(u8 0),sE,sE,(iN 0),sE,(.b false),(.b false),(u8 0),(u6 0),(u6 0),(u6 0),(u6 0),(iN 0),(iN 0),(iN 0),.nils,.nils,(iN 0),(.b false),(.b false),(.b false),sE] [(1,15,(.t 10))],qAlloc o4 [(iN 0),(u8 0),(iN 0),(iN 0),sE,(.b false),(.b false),(u8 0),(u6 0),(u6 0),(u6 0),(u6 0),(iN 0),(iN 0),(iN 0),.nils,(u8 0),(iN 0),(iN 0),sE,(.b false),(.b false),(u8 0),(u6 0),(u6 0),(u6 0),(u6 0),(iN 0),(iN 0),(iN 0),.nils,(.b false),(u8 0),sE,sE,(iN 0),sE,(.b false),(.b false),(u8 0),(u6 0),(u6 0),(u6 0),(u6 0),(iN 0),(iN 0),(iN 0),.nils,.nils,(iN 0),(.b false),(.b false),(.b false),sE] 0,qSt none 54 r4 r11] (mSeq (mR [qFaddr o12 1 r4,qFaddr o13 0 r12,qLd1 o14 r13,qNeq o15 r14 (rb 0)] (mCond r15 (mR [qMv o16 r0,qCall call yl o17 (rcf 92) [r16]] (mSeq (mR [qMv o18 r0,qCall call yl o19 (rcf 49) [r18],qEql o20 r19 (rN 44)] (mCond r20 (mR [qMv o21 r0,qNil o22 r21,qFaddr o23 1 r22,qLd1 o24 r23,qAdd o25 r24 (rN 1),qNil o26 r21,qFaddr o27 1 r26,qSt none 1 r27 r25] (mR [qMv o28 r0,qCall call yl o29 (rcf 92) [r28]] (mO [qMv o30 r0,qCall call yl o31 (rcf 189) [r30,rT],qFaddr o32 16 r4,qSt none 15 r32 r31]))) mSkip)) (mSeq (mR [qFaddr o33 1 r4,qFaddr o34 0 r33,qLd1 o35 r34,qEql o36 r35 (rb 1),qMv o37 r36,qG 37 true o38 (qFaddr o38 1 r4),qG 37 true o39 (qFaddr o39 1 r38),qG 37 true o40 (qLd1 o40 r39),qG 37 true o41 (qEql o41 r40 (rN 0)),qPick o42 r37 r41 rF,qMv o43 r42,qG 43 true o44 (qFaddr o44 16 r4),qG 43 true o45 (qFaddr o45 0 r44),qG 43 true o46 (qLd1 o46 r45),qG 43 true o47 (qNeq o47 r46 (rb 3)),qPick o48 r43 r47 rF] (mCond r48 (mO [qMv o49 r0,qMv o50 r3,qCall call yl o51 (rcf 54) [r49,(rN 2),r50]]) mSkip)) (mO [qMv o52 r0,qCall call yl o53 (rcf 92) [r52]])))) mSkip)) (mSeq (mR [qMv o54 r0,qCall call yl o55 (rcf 49) [r54],qEql o56 r55 (rN 33)] (mCond r56 (mR [qFaddr o57 31 r4,qSt none 1 r57 rT] (mR [qMv o58 r0,qNil o59 r58,qFaddr o60 1 r59,qLd1 o61 r60,qAdd o62 r61 (rN 1),qNil o63 r58,qFaddr o64 1 r63,qSt none 1 r64 r62] (mR [qMv o65 r0,qCall call yl o66 (rcf 92) [r65]] (mR [qMv o67 r0,qCall call yl o68 (rcf 49) [r67],qEql o69 r68 (rN 33)] (mCond r69 (mO [qMv o70 r0,qMv o71 r0,qNil o72 r71,qFaddr o73 1 r72,qLd1 o74 r73,qCall call yl o75 (rcf 54) [r70,(rN 5),r74]]) mSkip))))) mSkip)) (mR [qLdA o76 54 r4,qSt none 54 r2 r76] mRet)))))⟩
noncomputable def C104 : CFn := ⟨18,[.t 4],fun P Γ call yl qs L => mR [qMv o4 rF] (mR [qMv o5 r0,qH Γ o6 fun g n e=>q_lenS e (.t 5),qMv o7 r1,qH Γ o8 fun g n e=>q_lenS e (.t 7),qGeq o9 r6 r8,qMv o10 r9,qG 10 true o11 (qMv o11 r0),qG 10 true o12 (qMv o12 r1),qG 10 true o13 (qH Γ o13 fun g n e=>q_lenS e (.t 12)),qG 10 true o14 (qH Γ o14 fun g n e=>q_slcS e (.t 11) none (some (.t 13))),qG 10 true o15 (qMv o15 r1),qG 10 true o16 (qEql o16 r14 r15),qPick o17 r10 r16 rF,qMv o4 r17] mRet)⟩
noncomputable def C105 : CFn := ⟨54,[.t 6],fun P Γ call yl qs L => mR [qBox o3 r0,qMv o6 rF] (mR [qMv o10 r1,qFaddr o11 32 r3,qLd1 o12 r11,qH Γ o13 fun g n e=>q_look g e (.leaf .i) (.agg [(iN 0),.nilf,.nilf]) true (.t 10) (.t 12),qMv o9 r13,qH Γ o14 fun g n e=>q_ext e (.t 9) 0,qH Γ o15 fun g n e=>q_ext e (.t 9) 1,qAlloc o7 [(iN 0),.nilf,.nilf] 0,qSt none 3 r7 r14,qMv o8 r15] (mSeq (mR [qMv o16 r8,qH Γ o17 fun g n e=>q_un e .not (.t 16),qMv o18 r17,qG 18 false o19 (qFaddr o19 0 r3),qG 18 false o20 (qLd1 o20 r19),qG 18 false o21 (qLss o21 r20 (rN 0)),qPick o22 r18 rT r21,qMv o23 r22,qG 23 false o24 (qLdA o24 54 r3),qG 23 false o25 (qFaddr o25 0 r7),qG 23 false o26 (qLd1 o26 r25),qG 23 false o27 (qMv o27 r2),qG 23 false o28 (qCall call yl o28 (rcf 190) [r24,r26,r27]),qG 23 false o29 (qH Γ o29 fun g n e=>q_un e .not (.t 28)),qPick o30 r23 rT r29,qMv o31 r30,qG 31 false o32 (qFaddr o32 2 r7),qG 31 false o33 (qLd1 o33 r32),qG 31 false o34 (qLdA o34 54 r3),qG 31 false o35 (qCall call yl o35 r33 [r34]),qG 31 false o36 (qH Γ o36 fun g n e=>q_un e .not (.t 35)),qPick o37 r31 rT r36] (mCond r37 (mR [qMv o6 rF] mRet) mSkip)) (mSeq (mR [qFaddr o38 32 r3,qLd1 o39 r38,qEql o40 r39 (rb 115)] (mCond r40 (mR [qLdA o41 54 r3,qMv o42 r2,qCall call yl o43 (rcf 191) [r41,r42],qMv o6 r43] mRet) mSkip)) (mR [qFaddr o44 36 r3,qLdA o45 12 r44,qH Γ o46 fun g n e=>q_build e [sE,(.b false),(.b false),(u8 0),(u6 0),(u6 0),(u6 0),(u6 0),(iN 0),(iN 0),(iN 0),.nils] [],qCall call yl o47 (rcf 192) [r45,r46],qMv o48 r47,qG 48 true o49 (qFaddr o49 48 r3),qG 48 true o50 (qLdA o50 6 r49),qG 48 true o51 (qH Γ o51 fun g n e=>q_build e [.nils,(iN 0),(.b false),(.b false),(.b false),sE] []),qG 48 true o52 (qCall call yl o52 (rcf 193) [r50,r51]),qPick o53 r48 r52 rF,qMv o6 r53] mRet))))⟩
noncomputable def C106 : CFn := ⟨59,[.cell 2 true 3],fun P Γ call yl qs L => mR [qBox o1 r0,qAlloc o2 [.nils,(.b false),(.b false)] 0] (mR [qFaddr o7 0 r1,qLd1 o8 r7,qCall call yl o9 (rcf 194) [r8],qFaddr o10 0 r1,qSt none 1 r10 r9] (mSeq (mR [qFaddr o11 0 r1,qLd1 o12 r11,qH Γ o13 fun g n e=>q_lenL e (.t 12),qMv o14 (rN 0)] (mBlock 0 (mLoop L (mR [qLss o15 r14 r13] (mSeq (mCond r15 mSkip (mExit 0)) (mSeq (mBlock 1 (mR [qMv o16 r14,qMv o3 r16] (mR [qFaddr o17 0 r1,qLd1 o18 r17,qMv o19 r3,qH Γ o20 fun g n e=>q_iaddr e 54 (.t 18) (.t 19),qMv o4 r20] (mSeq (mSeq (mDraw Γ call [⟨o21,.mv (.t 4),none⟩,⟨o22,.nilchk (.t 21),none⟩,⟨o23,.faddr 1 (.t 22),none⟩,⟨o24,.faddr 3 (.t 23),none⟩,⟨o25,.mv (.t 4),none⟩,⟨o26,.nilchk (.t 25),none⟩,⟨o27,.faddr 16 (.t 26),none⟩,⟨o28,.faddr 3 (.t 27),none⟩,⟨o29,.mv (.t 4),none⟩,⟨o30,.nilchk (.t 29),none⟩,⟨o31,.faddr 36 (.t 30),none⟩,⟨o32,.bslice 1 [.nilp,.nilp,.nilp] [(0,1,(.t 24)),(1,1,(.t 28)),(2,1,(.t 31))] 3,none⟩,⟨o33,.lenL (.t 32),none⟩,⟨o34,.mv (.c (iN 0)),none⟩] [⟨[],0,0⟩,⟨[0],0,0⟩,⟨[1,0],0,0⟩,⟨[2,1,0],0,0⟩,⟨[],0,0⟩,⟨[4],0,0⟩,⟨[5,4],0,0⟩,⟨[6,5,4],0,0⟩,⟨[],0,0⟩,⟨[8],0,0⟩,⟨[9,8],0,0⟩,⟨[3,7,10,2,1,0,6,5,4,9,8],0,0⟩,⟨[11,3,7,10,2,1,0,6,5,4,9,8],0,0⟩,⟨[],0,0⟩]) (mBlock 2 (mLoop L (mR [qLss o35 r34 r33] (mSeq (mCond r35 mSkip (mExit 2)) (mSeq (mBlock 3 (mR [qH Γ o36 fun g n e=>q_iaddr e 1 (.t 32) (.t 34),qLd1 o37 r36,qMv o6 r37] (mO [qMv o38 r6,qMv o39 r6,qNil o40 r39,qFaddr o41 3 r40,qLdA o42 9 r41,qCall call yl o43 (rcf 195) [r42],qNil o44 r38,qFaddr o45 3 r44,qSt none 9 r45 r43]))) (mO [qAdd o46 r34 (rN 1),qMv o34 r46]))))))) (mO [qMv o47 r4,qMv o48 r4,qNil o49 r48,qFaddr o50 48 r49,qFaddr o51 0 r50,qLd1 o52 r51,qCall call yl o53 (rcf 196) [r52],qNil o54 r47,qFaddr o55 48 r54,qFaddr o56 0 r55,qSt none 1 r56 r53]))))) (mO [qAdd o57 r14 (rN 1),qMv o14 r57]))))))) (mR [qLdA o58 3 r1,qSt none 3 r2 r58] mRet)))⟩
noncomputable def C107 : CFn := ⟨30,[.t 2],fun P Γ call yl qs L => mR [qBox o1 r0,qMv o2 rZ] (mR [qMv o3 rZ] (mSeq (mR [qFaddr o7 0 r1,qLd1 o8 r7,qH Γ o9 fun g n e=>q_lenL e (.t 8),qMv o10 (rN 0)] (mBlock 0 (mLoop L (mR [qLss o11 r10 r9] (mSeq (mCond r11 mSkip (mExit 0)) (mSeq (mBlock 1 (mR [qH Γ o12 fun g n e=>q_iaddr e 54 (.t 8) (.t 10),qLdA o13 54 r12,qAlloc o5 [(iN 0),(u8 0),(iN 0),(iN 0),sE,(.b false),(.b false),(u8 0),(u6 0),(u6 0),(u6 0),(u6 0),(iN 0),(iN 0),(iN 0),.nils,(u8 0),(iN 0),(iN 0),sE,(.b false),(.b false),(u8 0),(u6 0),(u6 0),(u6 0),(u6 0),(iN 0),(iN 0),(iN 0),.nils,(.b false),(u8 0),sE,sE,(iN 0),sE,(.b false),(.b false),(u8 0),(u6 0),(u6 0),(u6 0),(u6 0),(iN 0),(iN 0),(iN 0),.nils,.nils,(iN 0),(.b false),(.b false),(.b false),sE] 0,qSt none 54 r5 r13] (mR [qLdA o14 54 r5,qCall call yl o15 (rcf 197) [r14],qMv o6 r15] (mR [qMv o16 r6,qNeq o17 r16 (rc sE),qMv o18 r17,qG 18 true o19 (qMv o19 r3),qG 18 true o20 (qMv o20 r6),qG 18 true o21 (qCall call yl o21 (rcf 198) [r19,r20]),qG 18 true o22 (qH Γ o22 fun g n e=>q_un e .not (.t 21)),qPick o23 r18 r22 rF] (mCond r23 (mO [qMv o24 r3,qMv o25 r6,qH Γ o26 fun g n e=>q_bslice n e 1 [sE] [(0,1,(.t 25))] 1,qH Γ o27 fun g n e=>q_app g n e 1 16 0 (.t 24) (.t 26),qMv o3 r27]) mSkip))))) (mO [qAdd o28 r10 (rN 1),qMv o10 r28]))))))) (mR [qMv o29 r3,qMv o2 r29] mRet)))⟩
noncomputable def C108 : CFn := ⟨13,[.t 2],fun P Γ call yl qs L => mR [qMv o2 rF] (mR [qMv o3 r0,qEql o4 r3 (rb 98),qMv o5 r4,qG 5 false o6 (qMv o6 r0),qG 5 false o7 (qEql o7 r6 (rb 116)),qPick o8 r5 rT r7,qMv o9 r8,qG 9 false o10 (qMv o10 r0),qG 9 false o11 (qEql o11 r10 (rb 84)),qPick o12 r9 rT r11,qMv o2 r12] mRet)⟩
noncomputable def C109 : CFn := ⟨8,[.t 2],fun P Γ call yl qs L => mR [qMv o2 rZ] (mSeq (mR [qMv o3 r0,qH Γ o4 fun g n e=>q_eq g e false (.leaf .sl) (.t 3) (.c .nils)] (mCond r4 (mR [qMv o2 rZ] mRet) mSkip)) (mR [qH Γ o5 fun g n e=>q_bslice n e 1 [] [] 0,qMv o6 r0,qH Γ o7 fun g n e=>q_app g n e 1 16 0 (.t 5) (.t 6),qMv o2 r7] mRet))⟩
noncomputable def C110 : CFn := ⟨10,[.cell 2 true 54],fun P Γ call yl qs L => mR [qBox o1 r0,qAlloc o2 [(iN 0),(u8 0),(iN 0),(iN 0),sE,(.b false),(.b false),(u8 0),(u6 0),(u6 0),(u6 0),(u6 0),(iN 0),(iN 0),(iN 0),.nils,(u8 0),(iN 0),(iN 0),sE,(.b false),(.b false),(u8 0),(u6 0),(u6 0),(u6 0),(u6 0),(iN 0),(iN 0),(iN 0),.nils,(.b false),(u8 0),sE,sE,(iN 0),sE,(.b false),(.b false),(u8 0),(u6 0),(u6 0),(u6 0),(u6 0),(iN 0),(iN 0),(iN 0),.nils,.nils,(iN 0),(.b false),(.b false),(.b false),sE] 0] (mR [qLdA o3 54 r1,qH Γ o4 fun g n e=>q_bslice n e 54 [(iN 0),(u8 0),(iN 0),(iN 0),sE,(.b false),(.b false),(u8 0),(u6 0),(u6 0),(u6 0),(u6 0),(iN 0),(iN 0),(iN 0),.nils,(u8 0),(iN 0),(iN 0),sE,(.b false),(.b false),(u8 0),(u6 0),(u6 0),(u6 0),(u6 0),(iN 0),(iN 0),(iN 0),.nils,(.b false),(u8 0),sE,sE,(iN 0),sE,(.b false),(.b false),(u8 0),(u6 0),(u6 0),(u6 0),(u6 0),(iN 0),(iN 0),(iN 0),.nils,.nils,(iN 0),(.b false),(.b false),(.b false),sE] [(0,54,(.t 3))] 1,qH Γ o5 fun g n e=>q_build e [.nils,(.b false),(.b false)] [(0,1,(.t 4))],qCall call yl o6 (rcf 106) [r5],qH Γ o7 fun g n e=>q_fld e false 0 1 (.t 6),qH Γ o8 fun g n e=>q_iaddr e 54 (.t 7) (.c (iN 0)),qLdA o9 54 r8,qSt none 54 r2 r9] mRet)⟩
noncomputable def C111 : CFn := ⟨14,[.cell 2 true 5],fun P Γ call yl qs L => mR [qAlloc o2 [sE,(.b false),(iN 0),(iN 0),(.b false)] 0] (mSeq (mDraw Γ call [⟨o3,.mv (.t 0),none⟩,⟨o4,.nilchk (.t 3),none⟩,⟨o5,.faddr 10 (.t 4),none⟩,⟨o6,.ld false 1 (.t 5),none⟩,⟨o7,.mv (.t 0),none⟩,⟨o8,.nilchk (.t 7),none⟩,⟨o9,.faddr 11 (.t 8),none⟩,⟨o10,.ld false 1 (.t 9),none⟩,⟨o11,.bin .sub (.t 10) (.c (iN 1)),none⟩,⟨o12,.iaddr 5 (.t 6) (.t 11),none⟩,⟨o13,.ld true 5 (.t 12),none⟩,⟨none,.st 5 (.t 2) (.t 13),none⟩] [⟨[],0,0⟩,⟨[0],0,0⟩,⟨[1,0],0,0⟩,⟨[2,1,0],0,0⟩,⟨[],0,0⟩,⟨[4],0,0⟩,⟨[5,4],0,0⟩,⟨[6,5,4],0,0⟩,⟨[7,6,5,4],0,0⟩,⟨[3,8,2,1,0,7,6,5,4],0,0⟩,⟨[9,3,8,2,1,0,7,6,5,4],0,0⟩,⟨[10,0,1,2,3,4,5,6,7,8,9],0,0⟩]) mRet)⟩
noncomputable def C112 : CFn := ⟨54,[.t 4],fun P Γ call yl qs L => mR [qMv o4 (rc sE)] (mSeq (mR [qMv o10 r1,qEql o11 r10 (rN 10)] (mCond r11 (mSeq (mR [qMv o12 r0,qLeq o13 (rN 0) r12,qMv o14 r13,qG 14 true o15 (qMv o15 r0),qG 14 true o16 (qLss o16 r15 (rN 100)),qPick o17 r14 r16 rF] (mCond r17 (mR [qMv o18 r0,qCall call yl o19 (rcf 199) [r18],qMv o4 r19] mRet) mSkip)) (mR [qAlloc o5 [(u8 0),(u8 0),(u8 0),(u8 0),(u8 0),(u8 0),(u8 0),(u8 0),(u8 0),(u8 0),(u8 0),(u8 0),(u8 0),(u8 0),(u8 0),(u8 0),(u8 0),(u8 0),(u8 0),(u8 0),(u8 0),(u8 0),(u8 0),(u8 0)] 0] (mR [qMv o20 r0,qConvI o21 .u64 r20,qMv o6 r21] (mSeq (mR [qMv o22 r0,qLss o23 r22 (rN 0)] (mCond r23 (mO [qMv o24 r6,qH Γ o25 fun g n e=>q_un e .neg (.t 24),qMv o6 r25]) mSkip)) (mR [qMv o26 r6,qCall call yl o27 (rcf 200) [r26],qMv o7 r27] (mR [qMv o28 r7,qAdd o29 (rN 1) r28,qH Γ o30 fun g n e=>q_slcA g e 24 1 (.t 5) (some (.c (iN 1))) (some (.t 29)),qMv o31 r6,qCall call yl o32 (rcf 201) [r30,r31]] (mSeq (mR [qMv o33 r0,qLss o34 r33 (rN 0)] (mCond r34 (mR [qIaddrA o35 24 1 r5 (rN 0),qSt none 1 r35 (rb 45)] (mR [qMv o36 r7,qAdd o37 (rN 1) r36,qH Γ o38 fun g n e=>q_slcA g e 24 1 (.t 5) none (some (.t 37)),qH Γ o39 fun g n e=>q_convBS g e (.t 38),qMv o4 r39] mRet)) mSkip)) (mR [qMv o40 r7,qAdd o41 (rN 1) r40,qH Γ o42 fun g n e=>q_slcA g e 24 1 (.t 5) (some (.c (iN 1))) (some (.t 41)),qH Γ o43 fun g n e=>q_convBS g e (.t 42),qMv o4 r43] mRet)))))))) mSkip)) (mR [qMv o45 r0,qConvI o46 .u64 r45,qMv o47 r1,qMv o48 r0,qLss o49 r48 (rN 0),qCall call yl o50 (rcf 202) [rZ,r46,r47,r49,rF],qMv o44 r50,qH Γ o51 fun g n e=>q_ext e (.t 44) 0,qH Γ o52 fun g n e=>q_ext e (.t 44) 1,qMv o8 r51,qMv o9 r52] (mR [qMv o53 r9,qMv o4 r53] mRet)))⟩
noncomputable def C113 : CFn := ⟨8,[.t 4],fun P Γ call yl qs L => mR [qMv o4 (rN 0)] (mR [qMv o5 r0,qMv o6 r1,qCall call yl o7 (rcf 203) [r5,r6],qMv o4 r7] mRet)⟩
noncomputable def C117 : CFn := ⟨42,[.t 4],fun P Γ call yl qs L => mR [qMv o4 rZ] (mR [qMv o8 r0,qMv o9 r1,qCall call yl o10 (rcf 205) [r8,r9],qMv o5 r10] (mSeq (mR [qMv o11 r5,qEql o12 r11 (rc (.i .i64 (.negSucc 0)))] (mCond r12 (mR [qMv o13 r0,qMv o4 r13] mRet) mSkip)) (mSeq (mR [qMv o14 r5,qAdd o15 r14 (rN 1),qMv o6 r15] (mBlock 0 (mLoop L (mSeq (mR [qMv o16 r6,qMv o17 r0,qH Γ o18 fun g n e=>q_lenL e (.t 17),qLss o19 r16 r18] (mCond r19 mSkip (mExit 0))) (mSeq (mBlock 1 (mR [qMv o22 r0,qMv o23 r6,qH Γ o24 fun g n e=>q_iaddr e 1 (.t 22) (.t 23),qLd1 o25 r24,qMv o7 r25] (mR [qMv o26 r1,qMv o27 r7,qCall call yl o28 r26 [r27],qH Γ o29 fun g n e=>q_un e .not (.t 28)] (mCond r29 (mR [qMv o30 r0,qMv o31 r5,qMv o32 r7,qH Γ o33 fun g n e=>q_iaddr e 1 (.t 30) (.t 31),qSt none 1 r33 r32] (mO [qMv o34 r5,qAdd o35 r34 (rN 1),qMv o5 r35])) mSkip)))) (mO [qMv o20 r6,qAdd o21 r20 (rN 1),qMv o6 r21])))))) (mR [qMv o36 r0,qMv o37 r5,qH Γ o38 fun g n e=>q_slc e 1 (.t 36) (some (.t 37)) none,qH Γ none fun g n e=>q_clr g e [(iN 0)] (.t 38)] (mR [qMv o39 r0,qMv o40 r5,qH Γ o41 fun g n e=>q_slc e 1 (.t 39) none (some (.t 40)),qMv o4 r41] mRet)))))⟩
noncomputable def C119 : CFn := ⟨68,[.t 8],fun P Γ call yl qs L => mR [qBox o4 r0,qMv o8 rF] (mR [qFaddr o11 0 r4,qLd1 o12 r11,qMv o13 r1,qH Γ o14 fun g n e=>q_iaddr e 55 (.t 12) (.t 13),qLdA o15 55 r14,qAlloc o9 [(iN 0),(u8 0),(iN 0),(iN 0),sE,(.b false),(.b false),(u8 0),(u6 0),(u6 0),(u6 0),(u6 0),(iN 0),(iN 0),(iN 0),.nils,(u8 0),(iN 0),(iN 0),sE,(.b false),(.b false),(u8 0),(u6 0),(u6 0),(u6 0),(u6 0),(iN 0),(iN 0),(iN 0),.nils,(.b false),(u8 0),sE,sE,(iN 0),sE,(.b false),(.b false),(u8 0),(u6 0),(u6 0),(u6 0),(u6 0),(iN 0),(iN 0),(iN 0),.nils,.nils,(iN 0),(.b false),(.b false),(.b false),sE,(iN 0)] 0,qSt none 55 r9 r15] (mR [qFaddr o16 0 r4,qLd1 o17 r16,qH Γ o18 fun g n e=>q_lenL e (.t 17),qMv o10 r18] (mSeq (mBlock 0 (mR [qFaddr o20 0 r9,qLdA o21 54 r20,qMv o22 r2,qCall call yl o23 (rcf 206) [r21,r22],qH Γ o24 fun g n e=>q_un e .not (.t 23),qMv o19 r24] (mCond r19 (mR [qMv o8 rF] mRet) (mR [qFaddr o26 0 r9,qFaddr o27 32 r26,qLd1 o28 r27,qEql o29 r28 (rb 123),qMv o25 r29] (mCond r25 (mR [qFaddr o30 54 r9,qLd1 o31 r30,qMv o32 r1,qGtr o33 r31 r32,qMv o34 r33,qG 34 true o35 (qFaddr o35 54 r9),qG 34 true o36 (qLd1 o36 r35),qG 34 true o37 (qMv o37 r10),qG 34 true o38 (qLeq o38 r36 r37),qPick o39 r34 r38 rF,qMv o40 r39,qG 40 true o41 (qMv o41 r3),qG 40 true o42 (qH Γ o42 fun g n e=>q_mkfn e (.func 208) [] [(.t 9)]),qG 40 true o43 (qCall call yl o43 (rcf 207) [r41,r42]),qG 40 true o44 (qH Γ o44 fun g n e=>q_un e .not (.t 43)),qPick o45 r40 r44 rF,qMv o46 r45,qG 46 true o47 (qMv o47 r3),qG 46 true o48 (qH Γ o48 fun g n e=>q_lenL e (.t 47)),qG 46 true o49 (qLss o49 r48 (rN 64)),qPick o50 r46 r49 rF,qMv o8 r50] mRet) (mR [qFaddr o52 0 r9,qFaddr o53 32 r52,qLd1 o54 r53,qCall call yl o55 (rcf 108) [r54],qMv o51 r55] (mCond r51 (mR [qFaddr o56 54 r9,qLd1 o57 r56,qGeq o58 r57 (rN 0),qMv o59 r58,qG 59 true o60 (qFaddr o60 54 r9),qG 59 true o61 (qLd1 o61 r60),qG 59 true o62 (qMv o62 r10),qG 59 true o63 (qLeq o63 r61 r62),qPick o64 r59 r63 rF,qMv o8 r64] mRet) mSkip))))))) (mR [qFaddr o65 54 r9,qLd1 o66 r65,qEql o67 r66 (rN 0),qMv o8 r67] mRet))))⟩
noncomputable def C120 : CFn := ⟨135,[.cell 4 true 3],fun P Γ call yl qs L => mR [qBox o2 r0,qAlloc o4 [.nils,(.b false),(.b false)] 0] (mR [qFaddr o18 1 r2,qLd1 o19 r18,qMv o20 r1,qH Γ o21 fun g n e=>q_build e [.nils,(.b false),(.b false)] [(1,1,(.t 19)),(2,1,(.t 20))],qAlloc o5 [.nils,(.b false),(.b false)] 0,qSt none 3 r5 r21] (mR [qFaddr o22 0 r2,qLd1 o23 r22,qH Γ o24 fun g n e=>q_lenL e (.t 23),qMv o6 r24] (mR [qH Γ o25 fun g n e=>q_mkmap n ,qMv o7 r25] (mR [qH Γ o26 fun g n e=>q_mkmap n ,qMv o8 r26] (mSeq (mR [qFaddr o27 0 r2,qLd1 o28 r27,qH Γ o29 fun g n e=>q_lenL e (.t 28),qMv o30 (rN 0)] (mBlock 0 (mLoop L (mR [qLss o31 r30 r29] (mSeq (mCond r31 mSkip (mExit 0)) (mSeq (mBlock 1 (mR [qH Γ o32 fun g n e=>q_iaddr e 55 (.t 28) (.t 30),qLdA o33 55 r32,qAlloc o10 [(iN 0),(u8 0),(iN 0),(iN 0),sE,(.b false),(.b false),(u8 0),(u6 0),(u6 0),(u6 0),(u6 0),(iN 0),(iN 0),(iN 0),.nils,(u8 0),(iN 0),(iN 0),sE,(.b false),(.b false),(u8 0),(u6 0),(u6 0),(u6 0),(u6 0),(iN 0),(iN 0),(iN 0),.nils,(.b false),(u8 0),sE,sE,(iN 0),sE,(.b false),(.b false),(u8 0),(u6 0),(u6 0),(u6 0),(u6 0),(iN 0),(iN 0),(iN 0),.nils,.nils,(iN 0),(.b false),(.b false),(.b false),sE,(iN 0)] 0,qSt none 55 r10 r33] (mSeq (mR [qFaddr o34 0 r10,qFaddr o35 32 r34,qLd1 o36 r35,qEql o37 r36 (rb 123)] (mCond r37 (mO [qMv o38 r7,qFaddr o39 54 r10,qLd1 o40 r39,qH Γ o41 fun g n e=>q_look g e (.leaf .i) (iN 0) false (.t 38) (.t 40),qAdd o42 r41 (rN 1),qH Γ none fun g n e=>q_mupd g e (.leaf .i) (.t 38) (.t 40) (.t 42)]) mSkip)) (mR [qFaddr o43 0 r10,qFaddr o44 32 r43,qLd1 o45 r44,qCall call yl o46 (rcf 108) [r45],qMv o47 r46,qG 47 true o48 (qFaddr o48 54 r10),qG 47 true o49 (qLd1 o49 r48),qG 47 true o50 (qMv o50 r6),qG 47 true o51 (qLss o51 r49 r50),qPick o52 r47 r51 rF] (mCond r52 (mO [qMv o53 r8,qFaddr o54 54 r10,qLd1 o55 r54,qH Γ none fun g n e=>q_mupd g e (.leaf .i) (.t 53) (.t 55) (.c sE)]) mSkip))))) (mO [qAdd o56 r30 (rN 1),qMv o30 r56]))))))) (mR [qMv o11 (rN 0)] (mSeq (mR [qMv o57 r6,qMv o58 (rN 0)] (mBlock 2 (mLoop L (mR [qLss o59 r58 r57] (mSeq (mCond r59 mSkip (mExit 2)) (mSeq (mBlock 3 (mR [qMv o60 r58,qMv o12 r60] (mR [qMv o62 r8,qMv o63 r12,qH Γ o64 fun g n e=>q_look g e (.leaf .i) sE true (.t 62) (.t 63),qMv o61 r64,qH Γ o65 fun g n e=>q_ext e (.t 61) 0,qH Γ o66 fun g n e=>q_ext e (.t 61) 1,qMv o13 r65,qMv o14 r66] (mR [qMv o67 r14] (mCond r67 (mR [qMv o68 r11,qAdd o69 r68 (rN 1),qMv o11 r69] (mO [qMv o70 r8,qMv o71 r12,qMv o72 r11,qCall call yl o73 (rcf 35) [r72],qAdd o74 (rs [108]) r73,qH Γ none fun g n e=>q_mupd g e (.leaf .i) (.t 70) (.t 71) (.t 74)])) mSkip))))) (mO [qAdd o75 r58 (rN 1),qMv o58 r75]))))))) (mSeq (mR [qMv o76 r6,qAdd o77 r76 (rN 1),qMv o78 (rN 0)] (mBlock 4 (mLoop L (mR [qLss o79 r78 r77] (mSeq (mCond r79 mSkip (mExit 4)) (mSeq (mBlock 5 (mR [qMv o80 r78,qMv o15 r80] (mSeq (mR [qMv o81 r7,qMv o82 r15,qH Γ o83 fun g n e=>q_look g e (.leaf .i) (iN 0) false (.t 81) (.t 82),qMv o84 (rN 0)] (mBlock 6 (mLoop L (mR [qLss o85 r84 r83] (mSeq (mCond r85 mSkip (mExit 6)) (mSeq (mBlock 7 (mO [qFaddr o86 0 r5,qLd1 o87 r86,qH Γ o88 fun g n e=>q_build e [(iN 0),(u8 0),(iN 0),(iN 0),sE,(.b false),(.b false),(u8 0),(u6 0),(u6 0),(u6 0),(u6 0),(iN 0),(iN 0),(iN 0),.nils,(u8 0),(iN 0),(iN 0),sE,(.b false),(.b false),(u8 0),(u6 0),(u6 0),(u6 0),(u6 0),(iN 0),(iN 0),(iN 0),.nils,(.b false),(u8 0),sE,sE,(iN 0),sE,(.b false),(.b false),(u8 0),(u6 0),(u6 0),(u6 0),(u6 0),(iN 0),(iN 0),(iN 0),.nils,.nils,(iN 0),(.b false),(.b false),(.b false),sE] [(32,1,(.c (u8 125)))],qH Γ o89 fun g n e=>q_bslice n e 54 [(iN 0),(u8 0),(iN 0),(iN 0),sE,(.b false),(.b false),(u8 0),(u6 0),(u6 0),(u6 0),(u6 0),(iN 0),(iN 0),(iN 0),.nils,(u8 0),(iN 0),(iN 0),sE,(.b false),(.b false),(u8 0),(u6 0),(u6 0),(u6 0),(u6 0),(iN 0),(iN 0),(iN 0),.nils,(.b false),(u8 0),sE,sE,(iN 0),sE,(.b false),(.b false),(u8 0),(u6 0),(u6 0),(u6 0),(u6 0),(iN 0),(iN 0),(iN 0),.nils,.nils,(iN 0),(.b false),(.b false),(.b false),sE] [(0,54,(.t 88))] 1,qH Γ o90 fun g n e=>q_app g n e 54 496 0 (.t 87) (.t 89),qFaddr o91 0 r5,qSt none 1 r91 r90])) (mO [qAdd o92 r84 (rN 1),qMv o84 r92]))))))) (mSeq (mR [qMv o93 r8,qMv o94 r15,qH Γ o95 fun g n e=>q_look g e (.leaf .i) sE false (.t 93) (.t 94),qMv o16 r95] (mR [qMv o96 r16,qNeq o97 r96 (rc sE)] (mCond r97 (mO [qFaddr o98 0 r5,qLd1 o99 r98,qMv o100 r16,qH Γ o101 fun g n e=>q_build e [(iN 0),(u8 0),(iN 0),(iN 0),sE,(.b false),(.b false),(u8 0),(u6 0),(u6 0),(u6 0),(u6 0),(iN 0),(iN 0),(iN 0),.nils,(u8 0),(iN 0),(iN 0),sE,(.b false),(.b false),(u8 0),(u6 0),(u6 0),(u6 0),(u6 0),(iN 0),(iN 0),(iN 0),.nils,(.b false),(u8 0),sE,sE,(iN 0),sE,(.b false),(.b false),(u8 0),(u6 0),(u6 0),(u6 0),(u6 0),(iN 0),(iN 0),(iN 0),.nils,.nils,(iN 0),(.b false),(.b false),(.b false),sE] [(32,1,(.c (u8 58))),(33,1,(.t 100))],qH Γ o102 fun g n e=>q_bslice n e 54 [(iN 0),(u8 0),(iN 0),(iN 0),sE,(.b false),(.b false),(u8 0),(u6 0),(u6 0),(u6 0),(u6 0),(iN 0),(iN 0),(iN 0),.nils,(u8 0),(iN 0),(iN 0),sE,(.b false),(.b false),(u8 0),(u6 0),(u6 0),(u6 0),(u6 0),(iN 0),(iN 0),(iN 0),.nils,(.b false),(u8 0),sE,sE,(iN 0),sE,(.b false),(.b false),(u8 0),(u6 0),(u6 0),(u6 0),(u6 0),(iN 0),(iN 0),(iN 0),.nils,.nils,(iN 0),(.b false),(.b false),(.b false),sE] [(0,54,(.t 101))] 1,qH Γ o103 fun g n e=>q_app g n e 54 496 0 (.t 99) (.t 102),qFaddr o104 0 r5,qSt none 1 r104 r103]) mSkip))) (mSeq (mR [qMv o105 r15,qMv o106 r6,qEql o107 r105 r106] (mCond r107 (mExit 4) mSkip)) (mR [qFaddr o108 0 r2,qLd1 o109 r108,qMv o110 r15,qH Γ o111 fun g n e=>q_iaddr e 55 (.t 109) (.t 110),qFaddr o112 0 r111,qLdA o113 54 r112,qCall call yl o114 (rcf 110) [r113],qAlloc o17 [(iN 0),(u8 0),(iN 0),(iN 0),sE,(.b false),(.b false),(u8 0),(u6 0),(u6 0),(u6 0),(u6 0),(iN 0),(iN 0),(iN 0),.nils,(u8 0),(iN 0),(iN 0),sE,(.b false),(.b false),(u8 0),(u6 0),(u6 0),(u6 0),(u6 0),(iN 0),(iN 0),(iN 0),.nils,(.b false),(u8 0),sE,sE,(iN 0),sE,(.b false),(.b false),(u8 0),(u6 0),(u6 0),(u6 0),(u6 0),(iN 0),(iN 0),(iN 0),.nils,.nils,(iN 0),(.b false),(.b false),(.b false),sE] 0,qSt none 54 r17 r114] (mSeq (mR [qFaddr o115 32 r17,qLd1 o116 r115,qCall call yl o117 (rcf 108) [r116]] (mCond r117 (mO [qMv o118 r8,qFaddr o119 0 r2,qLd1 o120 r119,qMv o121 r15,qH Γ o122 fun g n e=>q_iaddr e 55 (.t 120) (.t 121),qFaddr o123 54 r122,qLd1 o124 r123,qH Γ o125 fun g n e=>q_look g e (.leaf .i) sE false (.t 118) (.t 124),qFaddr o126 33 r17,qSt none 1 r126 r125]) mSkip)) (mO [qFaddr o127 0 r5,qLd1 o128 r127,qLdA o129 54 r17,qH Γ o130 fun g n e=>q_bslice n e 54 [(iN 0),(u8 0),(iN 0),(iN 0),sE,(.b false),(.b false),(u8 0),(u6 0),(u6 0),(u6 0),(u6 0),(iN 0),(iN 0),(iN 0),.nils,(u8 0),(iN 0),(iN 0),sE,(.b false),(.b false),(u8 0),(u6 0),(u6 0),(u6 0),(u6 0),(iN 0),(iN 0),(iN 0),.nils,(.b false),(u8 0),sE,sE,(iN 0),sE,(.b false),(.b false),(u8 0),(u6 0),(u6 0),(u6 0),(u6 0),(iN 0),(iN 0),(iN 0),.nils,.nils,(iN 0),(.b false),(.b false),(.b false),sE] [(0,54,(.t 129))] 1,qH Γ o131 fun g n e=>q_app g n e 54 496 0 (.t 128) (.t 130),qFaddr o132 0 r5,qSt none 1 r132 r131])))))))) (mO [qAdd o133 r78 (rN 1),qMv o78 r133]))))))) (mR [qLdA o134 3 r5,qSt none 3 r4 r134] mRet)))))))))⟩
noncomputable def C121 : CFn := ⟨26,[.t 4],fun P Γ call yl qs L => mR [qMv o4 rF] (mSeq (mR [qMv o6 r0,qH Γ o7 fun g n e=>q_lenL e (.t 6),qMv o8 r1,qH Γ o9 fun g n e=>q_lenL e (.t 8),qNeq o10 r7 r9] (mCond r10 (mR [qMv o4 rF] mRet) mSkip)) (mSeq (mR [qMv o11 r0,qH Γ o12 fun g n e=>q_lenL e (.t 11),qMv o13 (rN 0)] (mBlock 0 (mLoop L (mR [qLss o14 r13 r12] (mSeq (mCond r14 mSkip (mExit 0)) (mSeq (mBlock 1 (mR [qMv o15 r13,qMv o5 r15] (mSeq (mDraw Γ call [⟨o16,.mv (.t 0),none⟩,⟨o17,.mv (.t 5),none⟩,⟨o18,.iaddr 1 (.t 16) (.t 17),none⟩,⟨o19,.ld false 1 (.t 18),none⟩,⟨o20,.mv (.t 1),none⟩,⟨o21,.mv (.t 5),none⟩,⟨o22,.iaddr 1 (.t 20) (.t 21),none⟩,⟨o23,.ld false 1 (.t 22),none⟩,⟨o24,.bin .neq (.t 19) (.t 23),none⟩] [⟨[],0,0⟩,⟨[],0,0⟩,⟨[0,1],0,0⟩,⟨[2,0,1],0,0⟩,⟨[],0,0⟩,⟨[],0,0⟩,⟨[4,5],0,0⟩,⟨[6,4,5],0,0⟩,⟨[3,7,2,0,1,6,4,5],0,0⟩]) (mCond r24 (mR [qMv o4 rF] mRet) mSkip)))) (mO [qAdd o25 r13 (rN 1),qMv o13 r25]))))))) (mR [qMv o4 rT] mRet)))⟩
noncomputable def C123 : CFn := ⟨4,[.t 2],fun P Γ call yl qs L => mR [qBox o1 r0,qMv o2 (rc .nilf)] (mR [qH Γ o3 fun g n e=>q_mkfn e (.func 209) [] [(.t 1)],qMv o2 r3] mRet)⟩
noncomputable def C124 : CFn := ⟨11,[],fun P Γ call yl qs L => mR [qBox o3 r1] (mO [qMv o4 r0,qMv o5 r0,qCall call yl o6 (rcf 111) [r5],qH Γ o7 fun g n e=>q_fld e false 3 1 (.t 6),qCall call yl o8 (rcf 35) [r7],qAdd o9 r8 (rs [10]),qCall call yl o10 (rcf 125) [r4,r9]])⟩
noncomputable def C125 : CFn := ⟨11,[],fun P Γ call yl qs L => mR [qMv o4 r1,qNeq o5 r4 (rc sE)] (mCond r5 (mO [qMv o6 r0,qMv o7 r0,qCall call yl o8 (rcf 133) [r7],qMv o9 r1,qCall call yl o10 (rcf 210) [r6,r8,r9,rF]]) mSkip)⟩
noncomputable def C130 : CFn := ⟨7,[.t 2],fun P Γ call yl qs L => mR [qMv o2 (rc sE)] (mR [qMv o3 r0,qNil o4 r3,qFaddr o5 0 r4,qLd1 o6 r5,qMv o2 r6] mRet)⟩
noncomputable def C131 : CFn := ⟨8,[],fun P Γ call yl qs L => mR [qBox o3 r1] (mO [qMv o4 r0,qMv o5 r0,qCall call yl o6 (rcf 133) [r5],qCall call yl o7 (rcf 132) [r4,r6]])⟩
noncomputable def C132 : CFn := ⟨23,[],fun P Γ call yl qs L => mR [qBox o3 r1] (mSeq (mR [qMv o4 r0,qCall call yl o5 (rcf 111) [r4],qH Γ o6 fun g n e=>q_fld e true 0 2 (.t 5),qH Γ o7 fun g n e=>q_fld e false 1 1 (.t 6)] (mCond r7 (mSeq (mDraw Γ call [⟨o8,.mv (.t 0),none⟩,⟨o9,.ld true 3 (.t 3),none⟩,⟨o10,.mv (.t 0),none⟩,⟨o11,.nilchk (.t 10),none⟩,⟨o12,.faddr 12 (.t 11),none⟩,⟨o13,.call (.f 130) [(.t 12)],none⟩,⟨o14,.bin .add (.t 13) (.c (.s (bs [10]))),none⟩,⟨o15,.call (.f 210) [(.t 8),(.t 9),(.t 14),(.c (.b false))],none⟩] [⟨[],0,1⟩,⟨[],0,1⟩,⟨[],0,0⟩,⟨[2],0,0⟩,⟨[3,2],0,0⟩,⟨[4,3,2],0,0⟩,⟨[5,4,3,2],1,1⟩,⟨[0,1,6,5,4,3,2],1,1⟩]) mRet) mSkip)) (mDraw Γ call [⟨o16,.mv (.t 0),none⟩,⟨o17,.ld true 3 (.t 3),none⟩,⟨o18,.mv (.t 0),none⟩,⟨o19,.nilchk (.t 18),none⟩,⟨o20,.faddr 12 (.t 19),none⟩,⟨o21,.call (.f 130) [(.t 20)],none⟩,⟨o22,.call (.f 210) [(.t 16),(.t 17),(.t 21),(.c (.b true))],none⟩] [⟨[],0,1⟩,⟨[],0,1⟩,⟨[],0,0⟩,⟨[2],0,0⟩,⟨[3,2],0,0⟩,⟨[4,3,2],0,0⟩,⟨[0,1,5,4,3,2],1,1⟩]))⟩
noncomputable def C133 : CFn := ⟨24,[.cell 2 true 3],fun P Γ call yl qs L => mR [qAlloc o2 [(u8 0),sE,(iN 0)] 0] (mSeq (mR [qMv o4 r0,qNil o5 r4,qFaddr o6 3 r5,qFaddr o7 3 r6,qLd1 o8 r7] (mCond r8 (mR [qMv o9 r0,qCall call yl o10 (rcf 111) [r9],qH Γ o11 fun g n e=>q_fld e false 2 1 (.t 10),qMv o3 r11] (mR [qMv o12 r0,qNil o13 r12,qFaddr o14 8 r13,qFaddr o15 0 r14,qLd1 o16 r15,qMv o17 r3,qH Γ o18 fun g n e=>q_iaddr e 3 (.t 16) (.t 17),qFaddr o19 0 r18,qLd1 o20 r19,qMv o21 r3,qH Γ o22 fun g n e=>q_build e [(u8 0),sE,(iN 0)] [(0,1,(.c (u8 3))),(1,1,(.t 20)),(2,1,(.t 21))],qSt none 3 r2 r22] mRet)) mSkip)) (mR [qH Γ o23 fun g n e=>q_build e [(u8 0),sE,(iN 0)] [(0,1,(.c (u8 1)))],qSt none 3 r2 r23] mRet))⟩
noncomputable def C139 : CFn := ⟨5,[.t 2],fun P Γ call yl qs L => mR [qBox o1 r0,qMv o2 (rc .nilf)] (mR [qH Γ o3 fun g n e=>q_mkfn e (.func 212) [] [(.t 1)],qCall call yl o4 (rcf 140) [r3],qMv o2 r4] mRet)⟩
noncomputable def C140 : CFn := ⟨4,[.t 2],fun P Γ call yl qs L => mR [qBox o1 r0,qMv o2 (rc .nilf)] (mR [qH Γ o3 fun g n e=>q_mkfn e (.func 214) [] [(.t 1)],qMv o2 r3] mRet)⟩
noncomputable def C152 : CFn := ⟨8,[],fun P Γ call yl qs L => mO [qMv o4 r0,qMv o5 r1,qNil o6 r4,qFaddr o7 0 r6,qSt none 1 r7 r5]⟩
noncomputable def C161 : CFn := ⟨131,[.t 4],fun P Γ call yl qs L => mR [qMv o4 (rN 0)] (mR [qMv o17 r0,qNil o18 r17,qFaddr o19 0 r18,qFaddr o20 0 r19,qLd1 o21 r20,qMv o22 r1,qH Γ o23 fun g n e=>q_iaddr e 55 (.t 21) (.t 22),qFaddr o24 0 r23,qLdA o25 54 r24,qAlloc o5 [(iN 0),(u8 0),(iN 0),(iN 0),sE,(.b false),(.b false),(u8 0),(u6 0),(u6 0),(u6 0),(u6 0),(iN 0),(iN 0),(iN 0),.nils,(u8 0),(iN 0),(iN 0),sE,(.b false),(.b false),(u8 0),(u6 0),(u6 0),(u6 0),(u6 0),(iN 0),(iN 0),(iN 0),.nils,(.b false),(u8 0),sE,sE,(iN 0),sE,(.b false),(.b false),(u8 0),(u6 0),(u6 0),(u6 0),(u6 0),(iN 0),(iN 0),(iN 0),.nils,.nils,(iN 0),(.b false),(.b false),(.b false),sE] 0,qSt none 54 r5 r25] (mR [qMv o27 r0,qFaddr o28 36 r5,qLdA o29 12 r28,qCall call yl o30 (rcf 218) [r27,r29],qMv o26 r30,qH Γ o31 fun g n e=>q_ext e (.t 26) 0,qH Γ o32 fun g n e=>q_ext e (.t 26) 1,qAlloc o6 [sE,(.b false),(.b false),(u8 0),(u6 0),(u6 0),(u6 0),(u6 0),(iN 0),(iN 0),(iN 0),.nils] 0,qSt none 12 r6 r31,qMv o7 r32] (mSeq (mR [qMv o33 r7,qH Γ o34 fun g n e=>q_un e .not (.t 33)] (mCond r34 (mR [qMv o4 (rN 0)] mRet) mSkip)) (mSeq (mDraw Γ call [⟨o36,.faddr 48 (.t 5),none⟩,⟨o37,.ld true 6 (.t 36),none⟩,⟨o38,.faddr 3 (.t 6),none⟩,⟨o39,.ld true 9 (.t 38),none⟩,⟨o40,.mv (.t 0),none⟩,⟨o41,.nilchk (.t 40),none⟩,⟨o42,.faddr 12 (.t 41),none⟩,⟨o43,.call (.f 130) [(.t 42)],none⟩,⟨o44,.faddr 2 (.t 6),none⟩,⟨o45,.ld false 1 (.t 44),none⟩,⟨o46,.call (.f 219) [(.t 37),(.t 39),(.t 43),(.t 45)],none⟩,⟨o35,.mv (.t 46),none⟩,⟨o47,.ext (.t 35) 0,none⟩,⟨o48,.ext (.t 35) 1,none⟩,⟨o8,.mv (.t 47),none⟩,⟨o9,.mv (.t 48),none⟩] [⟨[],0,1⟩,⟨[0],0,1⟩,⟨[],0,1⟩,⟨[2],0,1⟩,⟨[],0,0⟩,⟨[4],0,0⟩,⟨[5,4],0,0⟩,⟨[6,5,4],0,0⟩,⟨[],0,1⟩,⟨[8],0,1⟩,⟨[1,3,7,9,0,2,6,5,4,8],1,1⟩,⟨[10,1,3,7,9,0,2,6,5,4,8],2,2⟩,⟨[11,10,1,3,7,9,0,2,6,5,4,8],2,2⟩,⟨[11,10,1,3,7,9,0,2,6,5,4,8],2,2⟩,⟨[12,10,0,1,2,3,4,5,6,7,8,9,11],2,2⟩,⟨[13,14,0,1,2,3,4,5,6,7,8,9,10,11,12],2,2⟩]) (mSeq (mR [qMv o49 r8,qH Γ o50 fun g n e=>q_lenL e (.t 49),qMv o51 (rN 0)] (mBlock 0 (mLoop L (mR [qLss o52 r51 r50] (mSeq (mCond r52 mSkip (mExit 0)) (mSeq (mBlock 1 (mR [qH Γ o53 fun g n e=>q_iaddr e 1 (.t 49) (.t 51),qLd1 o54 r53,qMv o11 r54] (mO [qMv o55 r0,qLdA o56 12 r6,qMv o57 r11,qCall call yl o58 (rcf 220) [r55,r56,r57]]))) (mO [qAdd o59 r51 (rN 1),qMv o51 r59]))))))) (mSeq (mDraw Γ call [⟨o61,.faddr 48 (.t 5),none⟩,⟨o62,.ld true 6 (.t 61),none⟩,⟨o63,.ld true 12 (.t 6),none⟩,⟨o64,.mv (.t 0),none⟩,⟨o65,.nilchk (.t 64),none⟩,⟨o66,.faddr 12 (.t 65),none⟩,⟨o67,.call (.f 130) [(.t 66)],none⟩,⟨o68,.mv (.t 8),none⟩,⟨o69,.call (.f 221) [(.t 62),(.t 63),(.t 67),(.t 68)],none⟩,⟨o60,.mv (.t 69),none⟩,⟨o70,.ext (.t 60) 0,none⟩,⟨o71,.ext (.t 60) 1,none⟩,⟨o12,.mv (.t 70),none⟩,⟨o13,.mv (.t 71),none⟩] [⟨[],0,1⟩,⟨[0],0,1⟩,⟨[],0,1⟩,⟨[],0,0⟩,⟨[3],0,0⟩,⟨[4,3],0,0⟩,⟨[5,4,3],0,0⟩,⟨[],0,1⟩,⟨[1,2,6,7,0,5,4,3],1,1⟩,⟨[8,1,2,6,7,0,5,4,3],2,2⟩,⟨[9,8,1,2,6,7,0,5,4,3],2,2⟩,⟨[9,8,1,2,6,7,0,5,4,3],2,2⟩,⟨[10,8,0,1,2,3,4,5,6,7,9],2,2⟩,⟨[11,12,0,1,2,3,4,5,6,7,8,9,10],2,2⟩]) (mSeq (mR [qMv o72 r13,qEql o73 r72 (rN 0)] (mCond r73 (mR [qMv o4 (rN 0)] mRet) mSkip)) (mSeq (mR [qMv o74 r0,qMv o75 r12,qMv o76 r0,qNil o77 r76,qFaddr o78 12 r77,qFaddr o79 1 r78,qLd1 o80 r79,qH Γ o81 fun g n e=>q_lenS e (.t 80),qCall call yl o82 (rcf 169) [r74,r75,r81,(rN 0)],qH Γ o83 fun g n e=>q_un e .not (.t 82)] (mCond r83 (mR [qMv o4 (rN 5)] mRet) mSkip)) (mSeq (mDraw Γ call [⟨o85,.faddr 48 (.t 5),none⟩,⟨o86,.ld true 6 (.t 85),none⟩,⟨o87,.faddr 3 (.t 6),none⟩,⟨o88,.ld true 9 (.t 87),none⟩,⟨o89,.mv (.t 0),none⟩,⟨o90,.nilchk (.t 89),none⟩,⟨o91,.faddr 12 (.t 90),none⟩,⟨o92,.call (.f 130) [(.t 91)],none⟩,⟨o93,.faddr 2 (.t 6),none⟩,⟨o94,.ld false 1 (.t 93),none⟩,⟨o95,.call (.f 222) [(.t 86),(.t 88),(.t 92),(.t 94)],none⟩,⟨o84,.mv (.t 95),none⟩,⟨o96,.ext (.t 84) 0,none⟩,⟨o97,.ext (.t 84) 1,none⟩,⟨o98,.ext (.t 84) 2,none⟩,⟨o14,.mv (.t 96),none⟩,⟨o15,.mv (.t 97),none⟩,⟨o16,.mv (.t 98),none⟩] [⟨[],0,1⟩,⟨[0],0,1⟩,⟨[],0,1⟩,⟨[2],0,1⟩,⟨[],0,0⟩,⟨[4],0,0⟩,⟨[5,4],0,0⟩,⟨[6,5,4],0,0⟩,⟨[],0,1⟩,⟨[8],0,1⟩,⟨[1,3,7,9,0,2,6,5,4,8],1,1⟩,⟨[10,1,3,7,9,0,2,6,5,4,8],2,2⟩,⟨[11,10,1,3,7,9,0,2,6,5,4,8],2,2⟩,⟨[11,10,1,3,7,9,0,2,6,5,4,8],2,2⟩,⟨[11,10,1,3,7,9,0,2,6,5,4,8],2,2⟩,⟨[12,10,0,1,2,3,4,5,6,7,8,9,11],2,2⟩,⟨[13,15,0,1,2,3,4,5,6,7,8,9,10,11,12],2,2⟩,⟨[14,16,0,1,2,3,4,5,6,7,8,9,10,11,12,13,15],2,2⟩]) (mR [qMv o99 r0,qNil o100 r99,qFaddr o101 12 r100,qMv o102 r14,qCall call yl o103 (rcf 152) [r101,r102]] (mR [qMv o104 r0,qCall call yl o105 (rcf 170) [r104]] (mR [qMv o106 r0,qNil o107 r106,qFaddr o108 18 r107,qSt none 1 r108 rT] (mSeq (mR [qFaddr o109 48 r5,qFaddr o110 4 r109,qLd1 o111 r110] (mCond r111 (mR [qMv o112 r0,qCall call yl o113 (rcf 44) [r112,(rb 2),(rN 3)],qMv o4 r113] mRet) mSkip)) (mSeq (mR [qFaddr o114 48 r5,qFaddr o115 3 r114,qLd1 o116 r115] (mCond r116 (mO [qMv o117 r0,qMv o118 r0,qCall call yl o119 (rcf 133) [r118],qCall call yl o120 (rcf 132) [r117,r119]]) mSkip)) (mSeq (mR [qFaddr o121 48 r5,qFaddr o122 5 r121,qLd1 o123 r122,qNeq o124 r123 (rc sE)] (mCond r124 (mO [qMv o125 r0,qFaddr o126 48 r5,qFaddr o127 5 r126,qLd1 o128 r127,qCall call yl o129 (rcf 137) [r128],qCall call yl o130 (rcf 132) [r125,r129]]) mSkip)) (mR [qMv o4 (rN 0)] mRet))))))))))))))))⟩
noncomputable def C166 : CFn := ⟨15,[.t 2],fun P Γ call yl qs L => mR [qMv o2 rF] (mR [qMv o3 r0,qNil o4 r3,qFaddr o5 0 r4,qFaddr o6 1 r5,qLd1 o7 r6,qMv o8 r7,qG 8 false o9 (qMv o9 r0),qG 8 false o10 (qNil o10 r9),qG 8 false o11 (qFaddr o11 3 r10),qG 8 false o12 (qFaddr o12 0 r11),qG 8 false o13 (qLd1 o13 r12),qPick o14 r8 rT r13,qMv o2 r14] mRet)⟩
noncomputable def C167 : CFn := ⟨80,[],fun P Γ call yl qs L => mSeq (mR [qMv o6 r0,qNil o7 r6,qFaddr o8 12 r7,qFaddr o9 2 r8,qLd1 o10 r9,qH Γ o11 fun g n e=>q_lenL e (.t 10),qMv o12 (rN 0)] (mBlock 0 (mLoop L (mR [qLss o13 r12 r11] (mSeq (mCond r13 mSkip (mExit 0)) (mSeq (mBlock 1 (mR [qH Γ o14 fun g n e=>q_iaddr e 2 (.t 10) (.t 12),qLdA o15 2 r14,qAlloc o3 [(u8 0),sE] 0,qSt none 2 r3 r15] (mR [qFaddr o16 0 r3,qLd1 o17 r16] (mBlock 2 (mR [qEql o54 r17 (rb 1),qMv o53 r54] (mCond r53 (mO [qMv o55 r0,qFaddr o56 1 r3,qLd1 o57 r56,qCall call yl o58 (rcf 125) [r55,r57]]) (mR [qEql o60 r17 (rb 2),qMv o59 r60] (mCond r59 (mDraw Γ call [⟨o61,.mv (.t 0),none⟩,⟨o62,.mv (.t 0),none⟩,⟨o63,.nilchk (.t 62),none⟩,⟨o64,.faddr 15 (.t 63),none⟩,⟨o65,.ld false 1 (.t 64),none⟩,⟨o66,.faddr 1 (.t 3),none⟩,⟨o67,.ld false 1 (.t 66),none⟩,⟨o68,.look (.leaf .s) sE false (.t 65) (.t 67),none⟩,⟨o69,.call (.f 125) [(.t 61),(.t 68)],none⟩] [⟨[],0,0⟩,⟨[],0,0⟩,⟨[1],0,0⟩,⟨[2,1],0,0⟩,⟨[3,2,1],0,0⟩,⟨[],0,0⟩,⟨[5],0,0⟩,⟨[4,6,3,2,1,5],0,0⟩,⟨[0,7,4,6,3,2,1,5],0,0⟩]) (mSeq (mDraw Γ call [⟨o18,.mv (.t 0),none⟩,⟨o19,.nilchk (.t 18),none⟩,⟨o20,.faddr 15 (.t 19),none⟩,⟨o21,.ld false 1 (.t 20),none⟩,⟨o22,.faddr 1 (.t 3),none⟩,⟨o23,.ld false 1 (.t 22),none⟩,⟨o24,.look (.leaf .s) sE false (.t 21) (.t 23),none⟩,⟨o25,.call (.f 7) [(.t 24)],none⟩,⟨o4,.mv (.t 25),none⟩] [⟨[],0,0⟩,⟨[0],0,0⟩,⟨[1,0],0,0⟩,⟨[2,1,0],0,0⟩,⟨[],0,0⟩,⟨[4],0,0⟩,⟨[3,5,2,1,0,4],0,0⟩,⟨[6,3,5,2,1,0,4],0,0⟩,⟨[7,0,1,2,3,4,5,6],1,1⟩]) (mSeq (mDraw Γ call [⟨o26,.mv (.t 0),none⟩,⟨o27,.nilchk (.t 26),none⟩,⟨o28,.faddr 16 (.t 27),none⟩,⟨o29,.ld false 1 (.t 28),none⟩,⟨o30,.faddr 1 (.t 3),none⟩,⟨o31,.ld false 1 (.t 30),none⟩,⟨o32,.look (.leaf .s) (iN 0) false (.t 29) (.t 31),none⟩,⟨o5,.mv (.t 32),none⟩] [⟨[],0,0⟩,⟨[0],0,0⟩,⟨[1,0],0,0⟩,⟨[2,1,0],0,0⟩,⟨[],0,0⟩,⟨[4],0,0⟩,⟨[3,5,2,1,0,4],0,0⟩,⟨[6,0,1,2,3,4,5],0,0⟩]) (mR [qMv o33 r5,qMv o34 r4,qH Γ o35 fun g n e=>q_lenL e (.t 34),qLss o36 r33 r35] (mCond r36 (mSeq (mDraw Γ call [⟨o37,.mv (.t 0),none⟩,⟨o38,.nilchk (.t 37),none⟩,⟨o39,.faddr 16 (.t 38),none⟩,⟨o40,.ld false 1 (.t 39),none⟩,⟨o41,.faddr 1 (.t 3),none⟩,⟨o42,.ld false 1 (.t 41),none⟩,⟨o43,.look (.leaf .s) (iN 0) false (.t 40) (.t 42),none⟩,⟨o44,.bin .add (.t 43) (.c (iN 1)),none⟩,⟨none,.mupd (.leaf .s) (.t 40) (.t 42) (.t 44),none⟩] [⟨[],0,0⟩,⟨[0],0,0⟩,⟨[1,0],0,0⟩,⟨[2,1,0],0,0⟩,⟨[],0,0⟩,⟨[4],0,0⟩,⟨[3,5,2,1,0,4],0,0⟩,⟨[6,3,5,2,1,0,4],0,0⟩,⟨[3,5,7,0,1,2,4,6],0,0⟩]) (mO [qMv o45 r0,qMv o46 r4,qMv o47 r5,qH Γ o48 fun g n e=>q_iaddr e 2 (.t 46) (.t 47),qFaddr o49 0 r48,qLd1 o50 r49,qAdd o51 r50 (rs [10]),qCall call yl o52 (rcf 125) [r45,r51]])) mSkip)))))))))))) (mO [qAdd o70 r12 (rN 1),qMv o12 r70]))))))) (mR [qMv o71 r0,qNil o72 r71,qFaddr o73 34 r72,qLd1 o74 r73,qH Γ o75 fun g n e=>q_un e .not (.t 74)] (mCond r75 (mO [qMv o76 r0,qNil o77 r76,qFaddr o78 12 r77,qFaddr o79 2 r78,qSt none 1 r79 rZ]) mSkip))⟩
noncomputable def C168 : CFn := ⟨52,[.t 2,.t 3],fun P Γ call yl qs L => mR [qMv o2 (rc sE),qMv o3 rF] (mR [qMv o4 r0,qCall call yl o5 (rcf 167) [r4]] (mSeq (mR [qMv o6 r0,qNil o7 r6,qFaddr o8 34 r7,qLd1 o9 r8] (mCond r9 (mR [qMv o2 (rc sE),qMv o3 rF] mRet) mSkip)) (mSeq (mSeq (mDraw Γ call [⟨o10,.mv (.t 0),none⟩,⟨o11,.call (.f 70) [(.t 10)],none⟩,⟨o12,.mv (.t 11),none⟩,⟨o13,.mv (.t 0),some (12,true)⟩,⟨o14,.nilchk (.t 13),some (12,true)⟩,⟨o15,.faddr 11 (.t 14),some (12,true)⟩,⟨o16,.ld false 1 (.t 15),some (12,true)⟩,⟨o17,.bin .gtr (.t 16) (.c (iN 0)),some (12,true)⟩,⟨o18,.pick (.t 12) (.t 17) (.c (.b false)),none⟩,⟨o19,.mv (.t 18),none⟩,⟨o20,.mv (.t 0),some (19,true)⟩,⟨o21,.nilchk (.t 20),some (19,true)⟩,⟨o22,.faddr 10 (.t 21),some (19,true)⟩,⟨o23,.ld false 1 (.t 22),some (19,true)⟩,⟨o24,.mv (.t 0),some (19,true)⟩,⟨o25,.nilchk (.t 24),some (19,true)⟩,⟨o26,.faddr 11 (.t 25),some (19,true)⟩,⟨o27,.ld false 1 (.t 26),some (19,true)⟩,⟨o28,.iaddr 5 (.t 23) (.t 27),some (19,true)⟩,⟨o29,.faddr 2 (.t 28),some (19,true)⟩,⟨o30,.ld false 1 (.t 29),some (19,true)⟩,⟨o31,.mv (.t 0),some (19,true)⟩,⟨o32,.call (.f 111) [(.t 31)],some (19,true)⟩,⟨o33,.fld false 2 1 (.t 32),some (19,true)⟩,⟨o34,.bin .neq (.t 30) (.t 33),some (19,true)⟩,⟨o35,.pick (.t 19) (.t 34) (.c (.b false)),none⟩] [⟨[],0,0⟩,⟨[0],0,0⟩,⟨[1,0],1,1⟩,⟨[2,1,0],1,1⟩,⟨[3,2,1,0],1,1⟩,⟨[4,2,3,1,0],1,1⟩,⟨[5,2,4,3,1,0],1,1⟩,⟨[6,2,5,4,3,1,0],1,1⟩,⟨[2,7,1,0,6,5,4,3],1,1⟩,⟨[8,2,7,1,0,6,5,4,3],1,1⟩,⟨[9,8,2,7,1,0,6,5,4,3],1,2⟩,⟨[10,9,8,2,7,1,0,6,5,4,3],1,2⟩,⟨[11,9,10,8,2,7,1,0,6,5,4,3],1,2⟩,⟨[12,9,11,10,8,2,7,1,0,6,5,4,3],1,2⟩,⟨[9,8,2,7,1,0,6,5,4,3],1,2⟩,⟨[14,9,8,2,7,1,0,6,5,4,3],1,2⟩,⟨[15,9,14,8,2,7,1,0,6,5,4,3],1,2⟩,⟨[16,9,15,14,8,2,7,1,0,6,5,4,3],1,2⟩,⟨[13,17,9,12,11,10,8,2,7,1,0,6,5,4,3,16,15,14],1,2⟩,⟨[18,9,13,17,12,11,10,8,2,7,1,0,6,5,4,3,16,15,14],1,2⟩,⟨[19,9,18,13,17,12,11,10,8,2,7,1,0,6,5,4,3,16,15,14],1,2⟩,⟨[9,8,2,7,1,0,6,5,4,3],1,1⟩,⟨[21,9,8,2,7,1,0,6,5,4,3],1,1⟩,⟨[22,9,21,8,2,7,1,0,6,5,4,3],2,2⟩,⟨[20,23,9,19,18,13,17,12,11,10,8,2,7,1,0,6,5,4,3,16,15,14,22,21],2,2⟩,⟨[9,24,8,2,7,1,0,6,5,4,3,20,23,19,18,13,17,12,11,10,16,15,14,22,21],2,2⟩]) (mCond r35 (mO [qMv o36 r0,qCall call yl o37 (rcf 71) [r36]]) mSkip)) (mR [qMv o38 r0,qNil o39 r38,qFaddr o40 11 r39,qLd1 o41 r40,qAdd o42 r41 (rN 1),qNil o43 r38,qFaddr o44 11 r43,qSt none 1 r44 r42] (mR [qMv o45 r0,qNil o46 r45,qFaddr o47 18 r46,qSt none 1 r47 rF] (mR [qMv o48 r0,qCall call yl o49 (rcf 111) [r48],qH Γ o50 fun g n e=>q_fld e true 0 2 (.t 49),qH Γ o51 fun g n e=>q_fld e false 0 1 (.t 50),qMv o2 r51,qMv o3 rT] mRet))))))⟩
noncomputable def C169 : CFn := ⟨40,[.t 8],fun P Γ call yl qs L => mR [qMv o8 rF] (mSeq (mDraw Γ call [⟨o10,.mv (.t 1),none⟩,⟨o11,.mv (.t 2),none⟩,⟨o12,.bin .add (.t 10) (.t 11),none⟩,⟨o13,.mv (.t 3),none⟩,⟨o14,.bin .add (.t 12) (.t 13),none⟩,⟨o15,.mv (.t 0),none⟩,⟨o16,.nilchk (.t 15),none⟩,⟨o17,.faddr 12 (.t 16),none⟩,⟨o18,.call (.f 223) [(.t 17)],none⟩,⟨o19,.bin .add (.t 14) (.t 18),none⟩,⟨o20,.mv (.t 0),none⟩,⟨o21,.nilchk (.t 20),none⟩,⟨o22,.faddr 12 (.t 21),none⟩,⟨o23,.faddr 0 (.t 22),none⟩,⟨o24,.ld false 1 (.t 23),none⟩,⟨o25,.lenS (.t 24),none⟩,⟨o26,.bin .sub (.t 19) (.t 25),none⟩,⟨o27,.mv (.t 0),none⟩,⟨o28,.nilchk (.t 27),none⟩,⟨o29,.faddr 12 (.t 28),none⟩,⟨o30,.faddr 1 (.t 29),none⟩,⟨o31,.ld false 1 (.t 30),none⟩,⟨o32,.lenS (.t 31),none⟩,⟨o33,.bin .sub (.t 26) (.t 32),none⟩,⟨o34,.bin .leq (.t 33) (.c (iN 1073741824)),none⟩,⟨o9,.mv (.t 34),none⟩] [⟨[],0,1⟩,⟨[],0,1⟩,⟨[0,1],0,1⟩,⟨[],0,1⟩,⟨[2,3,0,1],0,1⟩,⟨[],0,0⟩,⟨[5],0,0⟩,⟨[6,5],0,0⟩,⟨[7,6,5],0,0⟩,⟨[4,8,2,3,0,1,7,6,5],1,1⟩,⟨[],0,1⟩,⟨[10],0,1⟩,⟨[11,10],0,1⟩,⟨[12,11,10],0,1⟩,⟨[13,12,11,10],0,1⟩,⟨[14,13,12,11,10],0,1⟩,⟨[9,15,4,8,2,3,0,1,7,6,5,14,13,12,11,10],1,1⟩,⟨[],0,1⟩,⟨[17],0,1⟩,⟨[18,17],0,1⟩,⟨[19,18,17],0,1⟩,⟨[20,19,18,17],0,1⟩,⟨[21,20,19,18,17],0,1⟩,⟨[16,22,9,15,4,8,2,3,0,1,7,6,5,14,13,12,11,10,21,20,19,18,17],1,1⟩,⟨[23,16,22,9,15,4,8,2,3,0,1,7,6,5,14,13,12,11,10,21,20,19,18,17],1,1⟩,⟨[24,8,0,1,2,3,4,5,6,7,9,10,11,12,13,14,15,16,17,18,19,20,21,22,23],1,1⟩]) (mSeq (mR [qMv o35 r9,qH Γ o36 fun g n e=>q_un e .not (.t 35)] (mCond r36 (mO [qMv o37 r0,qCall call yl o38 (rcf 44) [r37,(rb 5),(rN 4)]]) mSkip)) (mR [qMv o39 r9,qMv o8 r39] mRet)))⟩
noncomputable def C170 : CFn := ⟨16,[],fun P Γ call yl qs L => mDraw Γ call [⟨o2,.mv (.t 0),none⟩,⟨o3,.mv (.t 0),none⟩,⟨o4,.nilchk (.t 3),none⟩,⟨o5,.faddr 35 (.t 4),none⟩,⟨o6,.faddr 4 (.t 5),none⟩,⟨o7,.ld false 1 (.t 6),none⟩,⟨o8,.mv (.t 0),none⟩,⟨o9,.nilchk (.t 8),none⟩,⟨o10,.faddr 12 (.t 9),none⟩,⟨o11,.call (.f 223) [(.t 10)],none⟩,⟨o12,.mx [(.t 7),(.t 11)],none⟩,⟨o13,.nilchk (.t 2),none⟩,⟨o14,.faddr 35 (.t 13),none⟩,⟨o15,.faddr 4 (.t 14),none⟩,⟨none,.st 1 (.t 15) (.t 12),none⟩] [⟨[],0,1⟩,⟨[],0,1⟩,⟨[1],0,1⟩,⟨[2,1],0,1⟩,⟨[3,2,1],0,1⟩,⟨[4,3,2,1],0,1⟩,⟨[],0,0⟩,⟨[6],0,0⟩,⟨[7,6],0,0⟩,⟨[8,7,6],0,0⟩,⟨[5,9,4,3,2,1,8,7,6],1,1⟩,⟨[0,1,2,3,4,5,6,7,8,9,10],1,1⟩,⟨[11,0,1,2,3,4,5,6,7,8,9,10],1,1⟩,⟨[12,0,1,2,3,4,5,6,7,8,9,10,11],1,1⟩,⟨[13,10,9,0,1,2,3,4,5,6,7,8,12,11],1,1⟩]⟩
noncomputable def C177 : CFn := ⟨69,[.t 6,.cell 7 true 2,.cell 8 true 2],fun P Γ call yl qs L => mR [qMv o6 (rb 0),qAlloc o7 [sE,sE] 0,qAlloc o8 [(iN 0),(iN 0)] 0] (mR [qMv o15 r0,qCall call yl o16 (rcf 49) [r15],qMv o9 r16] (mSeq (mR [qMv o17 r9,qCall call yl o18 (rcf 225) [r17],qH Γ o19 fun g n e=>q_un e .not (.t 18)] (mCond r19 (mO [qMv o20 r0,qMv o21 r1,qNil o22 r21,qFaddr o23 0 r22,qLd1 o24 r23,qCall call yl o25 (rcf 54) [r20,(rN 14),r24]]) mSkip)) (mR [qMv o26 r0,qNil o27 r26,qFaddr o28 1 r27,qLd1 o29 r28,qAdd o30 r29 (rN 1),qNil o31 r26,qFaddr o32 1 r31,qSt none 1 r32 r30] (mR [qAlloc o10 [sE,sE] 0] (mR [qAlloc o11 [(iN 0),(iN 0)] 0] (mSeq (mR [qMv o33 (rN 0)] (mBlock 0 (mLoop L (mR [qLss o34 r33 (rN 2)] (mSeq (mCond r34 mSkip (mExit 0)) (mSeq (mBlock 1 (mR [qMv o35 r33,qMv o12 r35] (mR [qMv o36 r12,qMv o37 r0,qNil o38 r37,qFaddr o39 1 r38,qLd1 o40 r39,qIaddrA o41 2 1 r11 r36,qSt none 1 r41 r40] (mR [qMv o43 r0,qMv o44 r9,qMv o45 r2,qMv o46 r45,qG 46 true o47 (qMv o47 r12),qG 46 true o48 (qEql o48 r47 (rN 1)),qPick o49 r46 r48 rF,qCall call yl o50 (rcf 226) [r43,r44,r49],qMv o42 r50,qH Γ o51 fun g n e=>q_ext e (.t 42) 0,qH Γ o52 fun g n e=>q_ext e (.t 42) 1,qMv o13 r51,qMv o14 r52] (mSeq (mR [qMv o53 r14,qH Γ o54 fun g n e=>q_un e .not (.t 53)] (mCond r54 (mO [qMv o55 r0,qMv o56 r1,qNil o57 r56,qFaddr o58 0 r57,qLd1 o59 r58,qCall call yl o60 (rcf 54) [r55,(rN 14),r59]]) mSkip)) (mO [qMv o61 r12,qMv o62 r13,qIaddrA o63 2 1 r10 r61,qSt none 1 r63 r62])))))) (mO [qAdd o64 r33 (rN 1),qMv o33 r64]))))))) (mSeq (mDraw Γ call [⟨o65,.mv (.t 9),none⟩,⟨o66,.convI .u8 (.t 65),none⟩,⟨o67,.ld true 2 (.t 10),none⟩,⟨o68,.ld true 2 (.t 11),none⟩,⟨o6,.mv (.t 66),none⟩,⟨none,.st 2 (.t 7) (.t 67),none⟩,⟨none,.st 2 (.t 8) (.t 68),none⟩] [⟨[],0,0⟩,⟨[0],0,0⟩,⟨[],0,0⟩,⟨[],0,1⟩,⟨[1,0],0,0⟩,⟨[2,4,0,1],0,0⟩,⟨[3,5,0,1,2,4],1,1⟩]) mRet)))))))⟩
noncomputable def C178 : CFn := ⟨45,[.cell 8 true 12],fun P Γ call yl qs L => mR [qAlloc o8 [sE,(.b false),(.b false),(u8 0),(u6 0),(u6 0),(u6 0),(u6 0),(iN 0),(iN 0),(iN 0),.nils] 0] (mSeq (mR [qMv o11 r1,qEql o12 r11 (rc sE),qMv o13 r12,qG 13 true o14 (qMv o14 r2),qG 13 true o15 (qH Γ o15 fun g n e=>q_un e .not (.t 14)),qPick o16 r13 r15 rF] (mCond r16 (mR [qH Γ o17 fun g n e=>q_build e [sE,(.b false),(.b false),(u8 0),(u6 0),(u6 0),(u6 0),(u6 0),(iN 0),(iN 0),(iN 0),.nils] [(1,1,(.c (.b true)))],qSt none 12 r8 r17] mRet) mSkip)) (mR [qMv o19 r1,qMv o20 r0,qNil o21 r20,qFaddr o22 2 r21,qLd1 o23 r22,qCall call yl o24 (rcf 227) [r19,r23],qMv o18 r24,qH Γ o25 fun g n e=>q_ext e (.t 18) 0,qH Γ o26 fun g n e=>q_ext e (.t 18) 1,qAlloc o9 [(u8 0),(u6 0),(u6 0),(u6 0),(u6 0),(iN 0),(iN 0),(iN 0),.nils] 0,qSt none 9 r9 r25,qMv o10 r26] (mSeq (mR [qMv o27 r10,qH Γ o28 fun g n e=>q_un e .not (.t 27),qMv o29 r28,qG 29 false o30 (qMv o30 r1),qG 29 false o31 (qEql o31 r30 (rc sE)),qPick o32 r29 rT r31,qMv o33 r32,qG 33 false o34 (qMv o34 r1),qG 33 false o35 (qH Γ o35 fun g n e=>q_lenS e (.t 34)),qG 33 false o36 (qGtr o36 r35 (rN 4096)),qPick o37 r33 rT r36] (mCond r37 (mO [qMv o38 r0,qMv o39 r3,qCall call yl o40 (rcf 54) [r38,(rN 3),r39]]) mSkip)) (mR [qMv o41 r1,qMv o42 r2,qLdA o43 9 r9,qH Γ o44 fun g n e=>q_build e [sE,(.b false),(.b false),(u8 0),(u6 0),(u6 0),(u6 0),(u6 0),(iN 0),(iN 0),(iN 0),.nils] [(0,1,(.t 41)),(2,1,(.t 42)),(3,9,(.t 43))],qSt none 12 r8 r44] mRet))))⟩
noncomputable def C179 : CFn := ⟨60,[.t 4],fun P Γ call yl qs L => mR [qMv o4 (rc sE)] (mR [qAlloc o5 [.nilp,.nils] 148] (mSeq (mR [qMv o6 (rN 0)] (mBlock 0 (mLoop L (mSeq (mR [qMv o7 r6,qMv o8 r0,qH Γ o9 fun g n e=>q_lenS e (.t 8),qLss o10 r7 r9] (mCond r10 mSkip (mExit 0))) (mSeq (mBlock 1 (mSeq (mR [qMv o13 r0,qMv o14 r6,qH Γ o15 fun g n e=>q_idxS e (.t 13) (.t 14),qNeq o16 r15 (rb 92),qMv o17 r16,qG 17 false o18 (qMv o18 r6),qG 17 false o19 (qAdd o19 r18 (rN 1)),qG 17 false o20 (qMv o20 r0),qG 17 false o21 (qH Γ o21 fun g n e=>q_lenS e (.t 20)),qG 17 false o22 (qEql o22 r19 r21),qPick o23 r17 rT r22] (mCond r23 (mR [qMv o24 r0,qMv o25 r6,qH Γ o26 fun g n e=>q_idxS e (.t 24) (.t 25),qCall call yl o27 (rcf 63) [r5,r26]] (mExit 1)) mSkip)) (mR [qMv o28 r6,qAdd o29 r28 (rN 1),qMv o6 r29] (mBlock 2 (mR [qMv o33 r0,qMv o34 r6,qH Γ o35 fun g n e=>q_idxS e (.t 33) (.t 34),qMv o36 r1,qNeq o37 r35 r36,qMv o32 r37] (mCond r32 (mO [qMv o38 r0,qMv o39 r6,qSub o40 r39 (rN 1),qMv o41 r6,qAdd o42 r41 (rN 1),qH Γ o43 fun g n e=>q_slcS e (.t 38) (some (.t 40)) (some (.t 42)),qCall call yl o44 (rcf 28) [r5,r43]]) (mR [qMv o46 r1,qCall call yl o47 (rcf 94) [(rs [46,91,42,36,43,63,40,41,123,125,124]),r46],qGeq o48 r47 (rN 0),qMv o45 r48] (mCond r45 (mO [qMv o49 r1,qH Γ o50 fun g n e=>q_bslice n e 1 [(u8 0)] [(0,1,(.t 49))] 1,qH Γ o51 fun g n e=>q_convBS g e (.t 50),qAdd o52 (rs [91]) r51,qAdd o53 r52 (rs [93]),qCall call yl o54 (rcf 28) [r5,r53]]) (mR [qMv o56 r1,qEql o57 r56 (rb 94),qMv o55 r57] (mCond r55 (mO [qCall call yl o58 (rcf 28) [r5,(rs [92,94])]]) (mO [qMv o30 r1,qCall call yl o31 (rcf 63) [r5,r30]]))))))))))) (mO [qMv o11 r6,qAdd o12 r11 (rN 1),qMv o6 r12])))))) (mR [qCall call yl o59 (rcf 29) [r5],qMv o4 r59] mRet)))⟩
end Go.Proofs.YtelnkadnphephaaGreatDoor.T
end
noncomputable section
namespace Go.Proofs.YtelnkadnphephaaGreatDoor.T
open Go Go.Abs
noncomputable def C180 : CFn := ⟨92,[.t 4],fun P Γ call yl qs L => mR [qMv o4 rZ] (mR [qAlloc o5 [.nils] 0] (mR [qH Γ o13 fun g n e=>q_mkfn e (.func 228) [] [(.t 5)],qMv o6 r13] (mSeq (mR [qMv o7 (rN 0)] (mBlock 0 (mLoop L (mSeq (mR [qMv o14 r7,qMv o15 r0,qH Γ o16 fun g n e=>q_lenS e (.t 15),qLss o17 r14 r16] (mCond r17 mSkip (mExit 0))) (mSeq (mBlock 1 (mR [qMv o20 r0,qMv o21 r7,qH Γ o22 fun g n e=>q_idxS e (.t 20) (.t 21),qMv o8 r22] (mSeq (mR [qMv o23 r8,qEql o24 r23 (rb 38)] (mCond r24 (mR [qLd1 o25 r5,qH Γ o26 fun g n e=>q_build e [(u8 0),(iN 0),sE] [(0,1,(.c (u8 2)))],qH Γ o27 fun g n e=>q_bslice n e 3 [(u8 0),(iN 0),sE] [(0,3,(.t 26))] 1,qH Γ o28 fun g n e=>q_app g n e 3 32 0 (.t 25) (.t 27),qSt none 1 r5 r28] (mExit 1)) mSkip)) (mSeq (mR [qMv o29 r8,qNeq o30 r29 (rb 92),qMv o31 r30,qG 31 false o32 (qMv o32 r7),qG 31 false o33 (qAdd o33 r32 (rN 1)),qG 31 false o34 (qMv o34 r0),qG 31 false o35 (qH Γ o35 fun g n e=>q_lenS e (.t 34)),qG 31 false o36 (qEql o36 r33 r35),qPick o37 r31 rT r36] (mCond r37 (mR [qMv o38 r6,qMv o39 r8,qCall call yl o40 r38 [r39]] (mExit 1)) mSkip)) (mR [qMv o41 r7,qAdd o42 r41 (rN 1),qMv o7 r42] (mR [qMv o43 r0,qMv o44 r7,qH Γ o45 fun g n e=>q_idxS e (.t 43) (.t 44),qMv o8 r45] (mR [qCall call yl o47 (rcf 229) [],qMv o48 r8,qH Γ o49 fun g n e=>q_look g e (.leaf .i) (u8 0) true (.t 47) (.t 48),qMv o46 r49,qH Γ o50 fun g n e=>q_ext e (.t 46) 0,qH Γ o51 fun g n e=>q_ext e (.t 46) 1,qMv o9 r50,qMv o10 r51] (mR [qCall call yl o53 (rcf 230) [],qMv o54 r8,qH Γ o55 fun g n e=>q_look g e (.leaf .i) (u8 0) true (.t 53) (.t 54),qMv o52 r55,qH Γ o56 fun g n e=>q_ext e (.t 52) 0,qH Γ o57 fun g n e=>q_ext e (.t 52) 1,qMv o11 r56,qMv o12 r57] (mBlock 2 (mR [qMv o62 r8,qMv o63 r1,qEql o64 r62 r63,qMv o61 r64] (mCond r61 (mO [qMv o65 r6,qMv o66 r8,qCall call yl o67 r65 [r66]]) (mR [qMv o69 r8,qConvI o70 .i64 r69,qCall call yl o71 (rcf 183) [r70],qMv o68 r71] (mCond r68 (mO [qLd1 o72 r5,qMv o73 r8,qSub o74 r73 (rb 48),qConvI o75 .i64 r74,qH Γ o76 fun g n e=>q_build e [(u8 0),(iN 0),sE] [(0,1,(.c (u8 2))),(1,1,(.t 75))],qH Γ o77 fun g n e=>q_bslice n e 3 [(u8 0),(iN 0),sE] [(0,3,(.t 76))] 1,qH Γ o78 fun g n e=>q_app g n e 3 32 0 (.t 72) (.t 77),qSt none 1 r5 r78]) (mR [qMv o80 r10,qMv o79 r80] (mCond r79 (mO [qLd1 o81 r5,qMv o82 r9,qH Γ o83 fun g n e=>q_build e [(u8 0),(iN 0),sE] [(0,1,(.t 82))],qH Γ o84 fun g n e=>q_bslice n e 3 [(u8 0),(iN 0),sE] [(0,3,(.t 83))] 1,qH Γ o85 fun g n e=>q_app g n e 3 32 0 (.t 81) (.t 84),qSt none 1 r5 r85]) (mR [qMv o87 r12,qMv o86 r87] (mCond r86 (mO [qMv o88 r6,qMv o89 r11,qCall call yl o90 r88 [r89]]) (mO [qMv o58 r6,qMv o59 r8,qCall call yl o60 r58 [r59]])))))))))))))))))) (mO [qMv o18 r7,qAdd o19 r18 (rN 1),qMv o7 r19])))))) (mR [qLd1 o91 r5,qMv o4 r91] mRet))))⟩
noncomputable def C181 : CFn := ⟨19,[.t 2],fun P Γ call yl qs L => mR [qBox o1 r0,qMv o2 rF] (mR [qFaddr o4 36 r1,qFaddr o5 3 r4,qLdA o6 9 r5,qCall call yl o7 (rcf 231) [r6],qAlloc o3 [(iN 0)] 0,qSt none 1 r3 r7] (mR [qFaddr o8 36 r1,qFaddr o9 1 r8,qLd1 o10 r9,qMv o11 r10,qG 11 false o12 (qFaddr o12 48 r1),qG 11 false o13 (qFaddr o13 0 r12),qG 11 false o14 (qLd1 o14 r13),qG 11 false o15 (qH Γ o15 fun g n e=>q_mkfn e (.func 233) [] [(.t 3)]),qG 11 false o16 (qCall call yl o16 (rcf 232) [r14,r15]),qG 11 false o17 (qH Γ o17 fun g n e=>q_un e .not (.t 16)),qPick o18 r11 rT r17,qMv o2 r18] mRet))⟩
noncomputable def C183 : CFn := ⟨9,[.t 2],fun P Γ call yl qs L => mR [qMv o2 rF] (mR [qMv o3 r0,qGeq o4 r3 (rN 48),qMv o5 r4,qG 5 true o6 (qMv o6 r0),qG 5 true o7 (qLeq o7 r6 (rN 57)),qPick o8 r5 r7 rF,qMv o2 r8] mRet)⟩
noncomputable def C189 : CFn := ⟨160,[.cell 4 true 15],fun P Γ call yl qs L => mR [qAlloc o4 [(u8 0),(iN 0),(iN 0),sE,(.b false),(.b false),(u8 0),(u6 0),(u6 0),(u6 0),(u6 0),(iN 0),(iN 0),(iN 0),.nils] 0] (mR [qMv o12 r0,qNil o13 r12,qFaddr o14 1 r13,qLd1 o15 r14,qMv o5 r15] (mR [qMv o16 r0,qCall call yl o17 (rcf 49) [r16],qMv o6 r17] (mSeq (mBlock 0 (mR [qMv o19 r6,qCall call yl o20 (rcf 183) [r19],qMv o18 r20] (mCond r18 (mR [qMv o21 r0,qMv o22 r5,qCall call yl o23 (rcf 239) [r21,r22],qMv o7 r23] (mSeq (mR [qMv o24 r1,qMv o25 r24,qG 25 false o26 (qMv o26 r0),qG 25 false o27 (qCall call yl o27 (rcf 49) [r26]),qG 25 false o28 (qNeq o28 r27 (rN 126)),qPick o29 r25 rT r28] (mCond r29 (mR [qMv o30 r7,qH Γ o31 fun g n e=>q_build e [(u8 0),(iN 0),(iN 0),sE,(.b false),(.b false),(u8 0),(u6 0),(u6 0),(u6 0),(u6 0),(iN 0),(iN 0),(iN 0),.nils] [(0,1,(.c (u8 1))),(1,1,(.t 30))],qSt none 15 r4 r31] mRet) mSkip)) (mR [qMv o32 r0,qNil o33 r32,qFaddr o34 1 r33,qLd1 o35 r34,qAdd o36 r35 (rN 1),qNil o37 r32,qFaddr o38 1 r37,qSt none 1 r38 r36] (mR [qMv o39 r7,qMv o40 r0,qMv o41 r5,qCall call yl o42 (rcf 239) [r40,r41],qH Γ o43 fun g n e=>q_build e [(u8 0),(iN 0),(iN 0),sE,(.b false),(.b false),(u8 0),(u6 0),(u6 0),(u6 0),(u6 0),(iN 0),(iN 0),(iN 0),.nils] [(0,1,(.c (u8 4))),(1,1,(.t 39)),(2,1,(.t 42))],qSt none 15 r4 r43] mRet)))) (mR [qMv o45 r6,qEql o46 r45 (rN 36),qMv o44 r46] (mCond r44 (mR [qMv o47 r0,qNil o48 r47,qFaddr o49 1 r48,qLd1 o50 r49,qAdd o51 r50 (rN 1),qNil o52 r47,qFaddr o53 1 r52,qSt none 1 r53 r51] (mR [qH Γ o54 fun g n e=>q_build e [(u8 0),(iN 0),(iN 0),sE,(.b false),(.b false),(u8 0),(u6 0),(u6 0),(u6 0),(u6 0),(iN 0),(iN 0),(iN 0),.nils] [(0,1,(.c (u8 2)))],qSt none 15 r4 r54] mRet)) (mR [qMv o56 r1,qMv o57 r56,qG 57 true o58 (qMv o58 r6),qG 57 true o59 (qEql o59 r58 (rN 43)),qPick o60 r57 r59 rF,qMv o55 r60] (mCond r55 (mR [qMv o61 r0,qNil o62 r61,qFaddr o63 1 r62,qLd1 o64 r63,qAdd o65 r64 (rN 1),qNil o66 r61,qFaddr o67 1 r66,qSt none 1 r67 r65] (mR [qMv o68 r0,qMv o69 r5,qCall call yl o70 (rcf 239) [r68,r69],qH Γ o71 fun g n e=>q_build e [(u8 0),(iN 0),(iN 0),sE,(.b false),(.b false),(u8 0),(u6 0),(u6 0),(u6 0),(u6 0),(iN 0),(iN 0),(iN 0),.nils] [(0,1,(.c (u8 5))),(1,1,(.t 70))],qSt none 15 r4 r71] mRet)) (mR [qMv o73 r1,qMv o74 r73,qG 74 true o75 (qMv o75 r6),qG 74 true o76 (qEql o76 r75 (rN 126)),qPick o77 r74 r76 rF,qMv o72 r77] (mCond r72 (mR [qMv o78 r0,qNil o79 r78,qFaddr o80 1 r79,qLd1 o81 r80,qAdd o82 r81 (rN 1),qNil o83 r78,qFaddr o84 1 r83,qSt none 1 r84 r82] (mR [qMv o85 r0,qMv o86 r5,qCall call yl o87 (rcf 239) [r85,r86],qH Γ o88 fun g n e=>q_build e [(u8 0),(iN 0),(iN 0),sE,(.b false),(.b false),(u8 0),(u6 0),(u6 0),(u6 0),(u6 0),(iN 0),(iN 0),(iN 0),.nils] [(0,1,(.c (u8 6))),(1,1,(.t 87))],qSt none 15 r4 r88] mRet)) (mR [qMv o90 r6,qNeq o91 r90 (rN 47),qMv o92 r91,qG 92 true o93 (qMv o93 r6),qG 92 true o94 (qNeq o94 r93 (rN 92)),qPick o95 r92 r94 rF,qMv o89 r95] (mCond r89 (mSeq (mR [qMv o96 r1] (mCond r96 (mO [qMv o97 r0,qMv o98 r5,qCall call yl o99 (rcf 54) [r97,(rN 2),r98]]) mSkip)) (mR [qH Γ o100 fun g n e=>q_build e [(u8 0),(iN 0),(iN 0),sE,(.b false),(.b false),(u8 0),(u6 0),(u6 0),(u6 0),(u6 0),(iN 0),(iN 0),(iN 0),.nils] [],qSt none 15 r4 r100] mRet)) mSkip))))))))))) (mR [qMv o101 r0,qNil o102 r101,qFaddr o103 1 r102,qLd1 o104 r103,qAdd o105 r104 (rN 1),qNil o106 r101,qFaddr o107 1 r106,qSt none 1 r107 r105] (mSeq (mR [qMv o108 r6,qEql o109 r108 (rN 92)] (mCond r109 (mR [qMv o110 r0,qCall call yl o111 (rcf 49) [r110],qMv o6 r111] (mSeq (mR [qMv o112 r6,qCall call yl o113 (rcf 225) [r112],qH Γ o114 fun g n e=>q_un e .not (.t 113)] (mCond r114 (mO [qMv o115 r0,qMv o116 r5,qCall call yl o117 (rcf 54) [r115,(rN 2),r116]]) mSkip)) (mO [qMv o118 r0,qNil o119 r118,qFaddr o120 1 r119,qLd1 o121 r120,qAdd o122 r121 (rN 1),qNil o123 r118,qFaddr o124 1 r123,qSt none 1 r124 r122]))) mSkip)) (mR [qMv o125 r0,qNil o126 r125,qFaddr o127 1 r126,qLd1 o128 r127,qMv o8 r128] (mR [qMv o130 r0,qMv o131 r6,qCall call yl o132 (rcf 226) [r130,r131,rF],qMv o129 r132,qH Γ o133 fun g n e=>q_ext e (.t 129) 0,qH Γ o134 fun g n e=>q_ext e (.t 129) 1,qMv o9 r133,qMv o10 r134] (mSeq (mR [qMv o135 r10,qH Γ o136 fun g n e=>q_un e .not (.t 135)] (mCond r136 (mO [qMv o137 r0,qMv o138 r5,qCall call yl o139 (rcf 54) [r137,(rN 2),r138]]) mSkip)) (mR [qMv o140 r0,qCall call yl o141 (rcf 49) [r140],qEql o142 r141 (rN 73),qMv o11 r142] (mSeq (mR [qMv o143 r11] (mCond r143 (mO [qMv o144 r0,qNil o145 r144,qFaddr o146 1 r145,qLd1 o147 r146,qAdd o148 r147 (rN 1),qNil o149 r144,qFaddr o150 1 r149,qSt none 1 r150 r148]) mSkip)) (mR [qMv o151 r0,qMv o152 r9,qMv o153 r6,qConvI o154 .u8 r153,qCall call yl o155 (rcf 179) [r152,r154],qMv o156 r11,qMv o157 r8,qCall call yl o158 (rcf 178) [r151,r155,r156,r157],qH Γ o159 fun g n e=>q_build e [(u8 0),(iN 0),(iN 0),sE,(.b false),(.b false),(u8 0),(u6 0),(u6 0),(u6 0),(u6 0),(iN 0),(iN 0),(iN 0),.nils] [(0,1,(.c (u8 3))),(3,12,(.t 158))],qSt none 15 r4 r159] mRet)))))))))))⟩
noncomputable def C190 : CFn := ⟨79,[.t 6],fun P Γ call yl qs L => mR [qBox o3 r0,qMv o6 rF] (mSeq (mDraw Γ call [⟨o9,.faddr 1 (.t 3),none⟩,⟨o10,.ld true 15 (.t 9),none⟩,⟨o11,.faddr 16 (.t 3),none⟩,⟨o12,.ld true 15 (.t 11),none⟩,⟨o7,.alloc [(u8 0),(iN 0),(iN 0),sE,(.b false),(.b false),(u8 0),(u6 0),(u6 0),(u6 0),(u6 0),(iN 0),(iN 0),(iN 0),.nils] 0,none⟩,⟨o8,.alloc [(u8 0),(iN 0),(iN 0),sE,(.b false),(.b false),(u8 0),(u6 0),(u6 0),(u6 0),(u6 0),(iN 0),(iN 0),(iN 0),.nils] 0,none⟩,⟨none,.st 15 (.t 7) (.t 10),none⟩,⟨none,.st 15 (.t 8) (.t 12),none⟩] [⟨[],0,0⟩,⟨[0],0,0⟩,⟨[],0,1⟩,⟨[2],0,1⟩,⟨[],0,0⟩,⟨[],0,0⟩,⟨[4,1,0,5],0,0⟩,⟨[5,3,6,0,1,2,4],1,1⟩]) (mSeq (mBlock 0 (mR [qLdA o14 15 r7,qMv o15 r2,qCall call yl o16 (rcf 240) [r14,r15],qH Γ o17 fun g n e=>q_un e .not (.t 16),qMv o18 r17,qG 18 false o19 (qLdA o19 15 r8),qG 18 false o20 (qMv o20 r2),qG 18 false o21 (qCall call yl o21 (rcf 240) [r19,r20]),qG 18 false o22 (qH Γ o22 fun g n e=>q_un e .not (.t 21)),qPick o23 r18 rT r22,qMv o13 r23] (mCond r13 (mR [qMv o6 rF] mRet) (mR [qFaddr o25 0 r7,qLd1 o26 r25,qEql o27 r26 (rb 5),qMv o28 r27,qG 28 false o29 (qFaddr o29 0 r7),qG 28 false o30 (qLd1 o30 r29),qG 28 false o31 (qEql o31 r30 (rb 6)),qPick o32 r28 rT r31,qMv o33 r32,qG 33 false o34 (qFaddr o34 0 r8),qG 33 false o35 (qLd1 o35 r34),qG 33 false o36 (qEql o36 r35 (rb 4)),qPick o37 r33 rT r36,qMv o24 r37] (mCond r24 (mR [qMv o6 rF] mRet) (mR [qFaddr o39 0 r7,qLd1 o40 r39,qEql o41 r40 (rb 0),qMv o42 r41,qG 42 true o43 (qFaddr o43 0 r8),qG 42 true o44 (qLd1 o44 r43),qG 42 true o45 (qNeq o45 r44 (rb 0)),qPick o46 r42 r45 rF,qMv o38 r46] (mCond r38 (mR [qMv o6 rF] mRet) (mR [qFaddr o48 0 r7,qLd1 o49 r48,qEql o50 r49 (rb 1),qMv o51 r50,qG 51 true o52 (qFaddr o52 1 r7),qG 51 true o53 (qLd1 o53 r52),qG 51 true o54 (qEql o54 r53 (rN 0)),qPick o55 r51 r54 rF,qMv o56 r55,qG 56 true o57 (qFaddr o57 0 r8),qG 56 true o58 (qLd1 o58 r57),qG 56 true o59 (qNeq o59 r58 (rb 3)),qPick o60 r56 r59 rF,qMv o47 r60] (mCond r47 (mR [qMv o6 rF] mRet) (mR [qMv o62 r1,qEql o63 r62 (rN 0),qMv o61 r63] (mCond r61 (mR [qFaddr o64 0 r7,qLd1 o65 r64,qEql o66 r65 (rb 0),qMv o67 r66,qG 67 true o68 (qFaddr o68 31 r3),qG 67 true o69 (qLd1 o69 r68),qG 67 true o70 (qH Γ o70 fun g n e=>q_un e .not (.t 69)),qPick o71 r67 r70 rF,qMv o6 r71] mRet) mSkip))))))))))) (mR [qMv o72 r1,qEql o73 r72 (rN 2),qMv o74 r73,qG 74 false o75 (qFaddr o75 0 r8),qG 74 false o76 (qLd1 o76 r75),qG 74 false o77 (qEql o77 r76 (rb 0)),qPick o78 r74 rT r77,qMv o6 r78] mRet)))⟩
noncomputable def C191 : CFn := ⟨101,[.t 4],fun P Γ call yl qs L => mR [qBox o2 r0,qMv o4 rF] (mR [qFaddr o9 48 r2,qLdA o10 6 r9,qAlloc o5 [.nils,(iN 0),(.b false),(.b false),(.b false),sE] 0,qSt none 6 r5 r10] (mSeq (mR [qFaddr o11 36 r2,qLdA o12 12 r11,qMv o13 r1,qCall call yl o14 (rcf 241) [r12,r13],qH Γ o15 fun g n e=>q_un e .not (.t 14),qMv o16 r15,qG 16 false o17 (qFaddr o17 1 r5),qG 16 false o18 (qLd1 o18 r17),qG 16 false o19 (qCall call yl o19 (rcf 242) [r18]),qG 16 false o20 (qH Γ o20 fun g n e=>q_un e .not (.t 19)),qPick o21 r16 rT r20,qMv o22 r21,qG 22 false o23 (qFaddr o23 5 r5),qG 22 false o24 (qLd1 o24 r23),qG 22 false o25 (qNeq o25 r24 (rc sE)),qG 22 false o26 (qMv o26 r25),qG 26 true o27 (qFaddr o27 5 r5),qG 26 true o28 (qLd1 o28 r27),qG 26 true o29 (qCall call yl o29 (rcf 100) [r28]),qG 26 true o30 (qH Γ o30 fun g n e=>q_un e .not (.t 29)),qG 22 false o31 (qPick o31 r26 r30 rF),qPick o32 r22 rT r31] (mCond r32 (mR [qMv o4 rF] mRet) mSkip)) (mSeq (mR [qFaddr o33 0 r5,qLd1 o34 r33,qH Γ o35 fun g n e=>q_lenL e (.t 34),qMv o36 (rN 0)] (mBlock 0 (mLoop L (mR [qLss o37 r36 r35] (mSeq (mCond r37 mSkip (mExit 0)) (mSeq (mBlock 1 (mR [qMv o38 r36,qH Γ o39 fun g n e=>q_iaddr e 3 (.t 34) (.t 36),qLdA o40 3 r39,qAlloc o7 [(u8 0),(iN 0),sE] 0,qMv o6 r38,qSt none 3 r7 r40] (mR [qFaddr o41 1 r7,qLd1 o42 r41,qEql o43 r42 (rN 0),qMv o44 r43,qG 44 true o45 (qFaddr o45 2 r7),qG 44 true o46 (qLd1 o46 r45),qG 44 true o47 (qEql o47 r46 (rc sE)),qPick o48 r44 r47 rF,qMv o8 r48] (mSeq (mR [qFaddr o49 0 r7,qLd1 o50 r49] (mBlock 2 (mR [qEql o52 r50 (rb 1),qMv o51 r52] (mCond r51 (mO [qFaddr o53 1 r7,qLd1 o54 r53,qEql o55 r54 (rN 0),qMv o56 r55,qG 56 true o57 (qFaddr o57 2 r7),qG 56 true o58 (qLd1 o58 r57),qG 56 true o59 (qNeq o59 r58 (rc sE)),qPick o60 r56 r59 rF,qMv o61 r60,qG 61 true o62 (qMv o62 r6),qG 61 true o63 (qEql o63 r62 (rN 0)),qG 61 true o64 (qMv o64 r63),qG 64 false o65 (qFaddr o65 0 r5),qG 64 false o66 (qLd1 o66 r65),qG 64 false o67 (qMv o67 r6),qG 64 false o68 (qSub o68 r67 (rN 1)),qG 64 false o69 (qH Γ o69 fun g n e=>q_iaddr e 3 (.t 66) (.t 68)),qG 64 false o70 (qFaddr o70 0 r69),qG 64 false o71 (qLd1 o71 r70),qG 64 false o72 (qNeq o72 r71 (rb 1)),qG 61 true o73 (qPick o73 r64 rT r72),qPick o74 r61 r73 rF,qMv o8 r74]) (mR [qEql o76 r50 (rb 2),qMv o75 r76] (mCond r75 (mO [qFaddr o77 2 r7,qLd1 o78 r77,qEql o79 r78 (rc sE),qMv o80 r79,qG 80 true o81 (qFaddr o81 1 r7),qG 80 true o82 (qLd1 o82 r81),qG 80 true o83 (qGeq o83 r82 (rN 0)),qPick o84 r80 r83 rF,qMv o85 r84,qG 85 true o86 (qFaddr o86 1 r7),qG 85 true o87 (qLd1 o87 r86),qG 85 true o88 (qLeq o88 r87 (rN 9)),qPick o89 r85 r88 rF,qMv o8 r89]) (mSeq (mR [qEql o91 r50 (rb 3),qMv o90 r91] (mCond r90 mSkip (mR [qEql o92 r50 (rb 4),qMv o90 r92] (mCond r90 mSkip (mR [qEql o93 r50 (rb 5),qMv o90 r93] (mCond r90 mSkip (mR [qEql o94 r50 (rb 6),qMv o90 r94] (mCond r90 mSkip (mO [qEql o95 r50 (rb 7),qMv o90 r95]))))))))) (mCond r90 mSkip (mO [qMv o8 rF]))))))))) (mR [qMv o96 r8,qH Γ o97 fun g n e=>q_un e .not (.t 96)] (mCond r97 (mR [qMv o4 rF] mRet) mSkip)))))) (mO [qAdd o98 r36 (rN 1),qMv o36 r98]))))))) (mR [qLdA o99 54 r2,qCall call yl o100 (rcf 181) [r99],qMv o4 r100] mRet))))⟩
noncomputable def C192 : CFn := ⟨31,[.t 4],fun P Γ call yl qs L => mR [qBox o2 r0,qBox o3 r1,qMv o4 rF] (mR [qFaddr o5 0 r2,qLd1 o6 r5,qFaddr o7 0 r3,qLd1 o8 r7,qEql o9 r6 r8,qMv o10 r9,qG 10 true o11 (qFaddr o11 1 r2),qG 10 true o12 (qLd1 o12 r11),qG 10 true o13 (qFaddr o13 1 r3),qG 10 true o14 (qLd1 o14 r13),qG 10 true o15 (qH Γ o15 fun g n e=>q_eq g e false (.leaf .b) (.t 12) (.t 14)),qPick o16 r10 r15 rF,qMv o17 r16,qG 17 true o18 (qFaddr o18 2 r2),qG 17 true o19 (qLd1 o19 r18),qG 17 true o20 (qFaddr o20 2 r3),qG 17 true o21 (qLd1 o21 r20),qG 17 true o22 (qH Γ o22 fun g n e=>q_eq g e false (.leaf .b) (.t 19) (.t 21)),qPick o23 r17 r22 rF,qMv o24 r23,qG 24 true o25 (qFaddr o25 3 r2),qG 24 true o26 (qLdA o26 9 r25),qG 24 true o27 (qFaddr o27 3 r3),qG 24 true o28 (qLdA o28 9 r27),qG 24 true o29 (qCall call yl o29 (rcf 243) [r26,r28]),qPick o30 r24 r29 rF,qMv o4 r30] mRet)⟩
noncomputable def C193 : CFn := ⟨45,[.t 4],fun P Γ call yl qs L => mR [qBox o2 r0,qBox o3 r1,qMv o4 rF] (mR [qFaddr o5 1 r2,qLd1 o6 r5,qFaddr o7 1 r3,qLd1 o8 r7,qEql o9 r6 r8,qMv o10 r9,qG 10 true o11 (qFaddr o11 2 r2),qG 10 true o12 (qLd1 o12 r11),qG 10 true o13 (qFaddr o13 2 r3),qG 10 true o14 (qLd1 o14 r13),qG 10 true o15 (qH Γ o15 fun g n e=>q_eq g e false (.leaf .b) (.t 12) (.t 14)),qPick o16 r10 r15 rF,qMv o17 r16,qG 17 true o18 (qFaddr o18 3 r2),qG 17 true o19 (qLd1 o19 r18),qG 17 true o20 (qFaddr o20 3 r3),qG 17 true o21 (qLd1 o21 r20),qG 17 true o22 (qH Γ o22 fun g n e=>q_eq g e false (.leaf .b) (.t 19) (.t 21)),qPick o23 r17 r22 rF,qMv o24 r23,qG 24 true o25 (qFaddr o25 4 r2),qG 24 true o26 (qLd1 o26 r25),qG 24 true o27 (qFaddr o27 4 r3),qG 24 true o28 (qLd1 o28 r27),qG 24 true o29 (qH Γ o29 fun g n e=>q_eq g e false (.leaf .b) (.t 26) (.t 28)),qPick o30 r24 r29 rF,qMv o31 r30,qG 31 true o32 (qFaddr o32 5 r2),qG 31 true o33 (qLd1 o33 r32),qG 31 true o34 (qFaddr o34 5 r3),qG 31 true o35 (qLd1 o35 r34),qG 31 true o36 (qEql o36 r33 r35),qPick o37 r31 r36 rF,qMv o38 r37,qG 38 true o39 (qFaddr o39 0 r2),qG 38 true o40 (qLd1 o40 r39),qG 38 true o41 (qFaddr o41 0 r3),qG 38 true o42 (qLd1 o42 r41),qG 38 true o43 (qCall call yl o43 (rcf 244) [r40,r42]),qPick o44 r38 r43 rF,qMv o4 r44] mRet)⟩
noncomputable def C194 : CFn := ⟨8,[.t 2],fun P Γ call yl qs L => mR [qMv o2 rZ] (mSeq (mR [qMv o3 r0,qH Γ o4 fun g n e=>q_eq g e false (.leaf .sl) (.t 3) (.c .nils)] (mCond r4 (mR [qMv o2 rZ] mRet) mSkip)) (mR [qH Γ o5 fun g n e=>q_bslice n e 54 [] [] 0,qMv o6 r0,qH Γ o7 fun g n e=>q_app g n e 54 496 0 (.t 5) (.t 6),qMv o2 r7] mRet))⟩
noncomputable def C195 : CFn := ⟨24,[.cell 2 true 9],fun P Γ call yl qs L => mR [qBox o1 r0,qAlloc o2 [(u8 0),(u6 0),(u6 0),(u6 0),(u6 0),(iN 0),(iN 0),(iN 0),.nils] 0] (mR [qFaddr o6 8 r1,qLd1 o7 r6,qMv o3 r7] (mR [qFaddr o8 8 r1,qSt none 1 r8 rZ] (mSeq (mR [qMv o9 r3,qH Γ o10 fun g n e=>q_lenL e (.t 9),qMv o11 (rN 0)] (mBlock 0 (mLoop L (mR [qLss o12 r11 r10] (mSeq (mCond r12 mSkip (mExit 0)) (mSeq (mBlock 1 (mR [qH Γ o13 fun g n e=>q_iaddr e 9 (.t 9) (.t 11),qLdA o14 9 r13,qAlloc o5 [(u8 0),(u6 0),(u6 0),(u6 0),(u6 0),(iN 0),(iN 0),(iN 0),.nils] 0,qSt none 9 r5 r14] (mDraw Γ call [⟨o15,.faddr 8 (.t 1),none⟩,⟨o16,.ld false 1 (.t 15),none⟩,⟨o17,.ld true 9 (.t 5),none⟩,⟨o18,.call (.f 195) [(.t 17)],none⟩,⟨o19,.bslice 9 [(u8 0),(u6 0),(u6 0),(u6 0),(u6 0),(iN 0),(iN 0),(iN 0),.nils] [(0,9,(.t 18))] 1,none⟩,⟨o20,.app 9 88 0 (.t 16) (.t 19),none⟩,⟨o21,.faddr 8 (.t 1),none⟩,⟨none,.st 1 (.t 21) (.t 20),none⟩] [⟨[],0,1⟩,⟨[0],0,1⟩,⟨[],0,0⟩,⟨[2],0,0⟩,⟨[3,2],1,1⟩,⟨[1,4,3,0,2],1,1⟩,⟨[0,1,2,3,4,5],2,2⟩,⟨[6,5,0,1,2,3,4],2,2⟩]))) (mO [qAdd o22 r11 (rN 1),qMv o11 r22]))))))) (mR [qLdA o23 9 r1,qSt none 9 r2 r23] mRet))))⟩
noncomputable def C196 : CFn := ⟨8,[.t 2],fun P Γ call yl qs L => mR [qMv o2 rZ] (mSeq (mR [qMv o3 r0,qH Γ o4 fun g n e=>q_eq g e false (.leaf .sl) (.t 3) (.c .nils)] (mCond r4 (mR [qMv o2 rZ] mRet) mSkip)) (mR [qH Γ o5 fun g n e=>q_bslice n e 3 [] [] 0,qMv o6 r0,qH Γ o7 fun g n e=>q_app g n e 3 32 0 (.t 5) (.t 6),qMv o2 r7] mRet))⟩
noncomputable def C197 : CFn := ⟨15,[.t 2],fun P Γ call yl qs L => mR [qBox o1 r0,qMv o2 (rc sE)] (mSeq (mR [qFaddr o3 32 r1,qLd1 o4 r3] (mBlock 0 (mSeq (mR [qEql o6 r4 (rb 119),qMv o5 r6] (mCond r5 mSkip (mO [qEql o7 r4 (rb 87),qMv o5 r7]))) (mCond r5 (mR [qFaddr o8 33 r1,qLd1 o9 r8,qMv o2 r9] mRet) (mR [qEql o11 r4 (rb 115),qMv o10 r11] (mCond r10 (mR [qFaddr o12 48 r1,qFaddr o13 5 r12,qLd1 o14 r13,qMv o2 r14] mRet) mSkip)))))) (mR [qMv o2 (rc sE)] mRet))⟩
noncomputable def C199 : CFn := ⟨15,[.t 2],fun P Γ call yl qs L => mR [qMv o2 (rc sE)] (mSeq (mR [qMv o3 r0,qLss o4 r3 (rN 10)] (mCond r4 (mR [qMv o5 r0,qMv o6 r0,qAdd o7 r6 (rN 1),qH Γ o8 fun g n e=>q_slcS e (.c (.s (bs [48,49,50,51,52,53,54,55,56,57,97,98,99,100,101,102,103,104,105,106,107,108,109,110,111,112,113,114,115,116,117,118,119,120,121,122]))) (some (.t 5)) (some (.t 7)),qMv o2 r8] mRet) mSkip)) (mR [qMv o9 r0,qBin o10 (biGen .mul) (bsOf .mul) r9 (rN 2),qMv o11 r0,qBin o12 (biGen .mul) (bsOf .mul) r11 (rN 2),qAdd o13 r12 (rN 2),qH Γ o14 fun g n e=>q_slcS e (.c (.s (bs [48,48,48,49,48,50,48,51,48,52,48,53,48,54,48,55,48,56,48,57,49,48,49,49,49,50,49,51,49,52,49,53,49,54,49,55,49,56,49,57,50,48,50,49,50,50,50,51,50,52,50,53,50,54,50,55,50,56,50,57,51,48,51,49,51,50,51,51,51,52,51,53,51,54,51,55,51,56,51,57,52,48,52,49,52,50,52,51,52,52,52,53,52,54,52,55,52,56,52,57,53,48,53,49,53,50,53,51,53,52,53,53,53,54,53,55,53,56,53,57,54,48,54,49,54,50,54,51,54,52,54,53,54,54,54,55,54,56,54,57,55,48,55,49,55,50,55,51,55,52,55,53,55,54,55,55,55,56,55,57,56,48,56,49,56,50,56,51,56,52,56,53,56,54,56,55,56,56,56,57,57,48,57,49,57,50,57,51,57,52,57,53,57,54,57,55,57,56,57,57]))) (some (.t 10)) (some (.t 13)),qMv o2 r14] mRet))⟩
noncomputable def C205 : CFn := ⟨19,[.t 4],fun P Γ call yl qs L => mR [qMv o4 (rN 0)] (mSeq (mR [qMv o6 r0,qH Γ o7 fun g n e=>q_lenL e (.t 6),qMv o8 (rN 0)] (mBlock 0 (mLoop L (mR [qLss o9 r8 r7] (mSeq (mCond r9 mSkip (mExit 0)) (mSeq (mBlock 1 (mR [qMv o10 r8,qMv o5 r10] (mR [qMv o11 r1,qMv o12 r0,qMv o13 r5,qH Γ o14 fun g n e=>q_iaddr e 1 (.t 12) (.t 13),qLd1 o15 r14,qCall call yl o16 r11 [r15]] (mCond r16 (mR [qMv o17 r5,qMv o4 r17] mRet) mSkip)))) (mO [qAdd o18 r8 (rN 1),qMv o8 r18]))))))) (mR [qMv o4 (rc (.i .i64 (.negSucc 0)))] mRet))⟩
noncomputable def C206 : CFn := ⟨46,[.t 4],fun P Γ call yl qs L => mR [qBox o2 r0,qMv o4 rF] (mSeq (mR [qFaddr o8 32 r2,qLd1 o9 r8,qEql o10 r9 (rb 58),qMv o11 r10,qG 11 false o12 (qFaddr o12 32 r2),qG 11 false o13 (qLd1 o13 r12),qG 11 false o14 (qEql o14 r13 (rb 125)),qPick o15 r11 rT r14,qMv o16 r15,qG 16 false o17 (qFaddr o17 32 r2),qG 16 false o18 (qLd1 o18 r17),qG 16 false o19 (qCall call yl o19 (rcf 108) [r18]),qG 16 false o20 (qMv o20 r19),qG 20 true o21 (qFaddr o21 33 r2),qG 20 true o22 (qLd1 o22 r21),qG 20 true o23 (qNeq o23 r22 (rc sE)),qG 16 false o24 (qPick o24 r20 r23 rF),qPick o25 r16 rT r24] (mCond r25 (mR [qMv o4 rF] mRet) mSkip)) (mR [qLdA o26 54 r2,qH Γ o27 fun g n e=>q_bslice n e 54 [(iN 0),(u8 0),(iN 0),(iN 0),sE,(.b false),(.b false),(u8 0),(u6 0),(u6 0),(u6 0),(u6 0),(iN 0),(iN 0),(iN 0),.nils,(u8 0),(iN 0),(iN 0),sE,(.b false),(.b false),(u8 0),(u6 0),(u6 0),(u6 0),(u6 0),(iN 0),(iN 0),(iN 0),.nils,(.b false),(u8 0),sE,sE,(iN 0),sE,(.b false),(.b false),(u8 0),(u6 0),(u6 0),(u6 0),(u6 0),(iN 0),(iN 0),(iN 0),.nils,.nils,(iN 0),(.b false),(.b false),(.b false),sE] [(0,54,(.t 26))] 1,qMv o28 r1,qH Γ o29 fun g n e=>q_build e [.nils,(.b false),(.b false)] [(0,1,(.t 27)),(2,1,(.t 28))],qAlloc o5 [.nils,(.b false),(.b false)] 0,qSt none 3 r5 r29] (mSeq (mR [qFaddr o30 32 r2,qLd1 o31 r30,qEql o32 r31 (rb 123)] (mCond r32 (mO [qFaddr o33 0 r5,qLd1 o34 r33,qH Γ o35 fun g n e=>q_build e [(iN 0),(u8 0),(iN 0),(iN 0),sE,(.b false),(.b false),(u8 0),(u6 0),(u6 0),(u6 0),(u6 0),(iN 0),(iN 0),(iN 0),.nils,(u8 0),(iN 0),(iN 0),sE,(.b false),(.b false),(u8 0),(u6 0),(u6 0),(u6 0),(u6 0),(iN 0),(iN 0),(iN 0),.nils,(.b false),(u8 0),sE,sE,(iN 0),sE,(.b false),(.b false),(u8 0),(u6 0),(u6 0),(u6 0),(u6 0),(iN 0),(iN 0),(iN 0),.nils,.nils,(iN 0),(.b false),(.b false),(.b false),sE] [(32,1,(.c (u8 125)))],qH Γ o36 fun g n e=>q_bslice n e 54 [(iN 0),(u8 0),(iN 0),(iN 0),sE,(.b false),(.b false),(u8 0),(u6 0),(u6 0),(u6 0),(u6 0),(iN 0),(iN 0),(iN 0),.nils,(u8 0),(iN 0),(iN 0),sE,(.b false),(.b false),(u8 0),(u6 0),(u6 0),(u6 0),(u6 0),(iN 0),(iN 0),(iN 0),.nils,(.b false),(u8 0),sE,sE,(iN 0),sE,(.b false),(.b false),(u8 0),(u6 0),(u6 0),(u6 0),(u6 0),(iN 0),(iN 0),(iN 0),.nils,.nils,(iN 0),(.b false),(.b false),(.b false),sE] [(0,54,(.t 35))] 1,qH Γ o37 fun g n e=>q_app g n e 54 496 0 (.t 34) (.t 36),qFaddr o38 0 r5,qSt none 1 r38 r37]) mSkip)) (mR [qLdA o40 3 r5,qCall call yl o41 (rcf 56) [r40],qMv o39 r41,qH Γ o42 fun g n e=>q_ext e (.t 39) 0,qH Γ o43 fun g n e=>q_ext e (.t 39) 1,qMv o6 r42,qMv o7 r43] (mR [qMv o44 r6,qEql o45 r44 (rN 0),qMv o4 r45] mRet)))))⟩
noncomputable def C209 : CFn := ⟨18,[.t 5],fun P Γ call yl qs L => mR [qMv o5 (rN 0)] (mSeq (mDraw Γ call [⟨o6,.ld false 1 (.t 2),none⟩,⟨o7,.mv (.t 0),none⟩,⟨o8,.mv (.t 0),none⟩,⟨o9,.nilchk (.t 8),none⟩,⟨o10,.faddr 0 (.t 9),none⟩,⟨o11,.faddr 0 (.t 10),none⟩,⟨o12,.ld false 1 (.t 11),none⟩,⟨o13,.mv (.t 1),none⟩,⟨o14,.iaddr 55 (.t 12) (.t 13),none⟩,⟨o15,.faddr 0 (.t 14),none⟩,⟨o16,.ld true 54 (.t 15),none⟩,⟨o17,.call (.t 6) [(.t 7),(.t 16)],none⟩] [⟨[],0,0⟩,⟨[],0,0⟩,⟨[],0,0⟩,⟨[2],0,0⟩,⟨[3,2],0,0⟩,⟨[4,3,2],0,0⟩,⟨[5,4,3,2],0,0⟩,⟨[],0,0⟩,⟨[6,7,5,4,3,2],0,0⟩,⟨[8,6,7,5,4,3,2],0,0⟩,⟨[9,8,6,7,5,4,3,2],0,0⟩,⟨[0,1,10,9,8,6,7,5,4,3,2],0,0⟩]) (mR [qMv o5 (rN 0)] mRet))⟩
noncomputable def C210 : CFn := ⟨91,[],fun P Γ call yl qs L => mR [qBox o5 r1] (mSeq (mR [qMv o10 r0,qNil o11 r10,qFaddr o12 34 r11,qLd1 o13 r12] (mCond r13 mRet mSkip)) (mSeq (mSeq (mDraw Γ call [⟨o14,.mv (.t 0),none⟩,⟨o15,.nilchk (.t 14),none⟩,⟨o16,.faddr 32 (.t 15),none⟩,⟨o17,.ld false 1 (.t 16),none⟩,⟨o18,.ld true 3 (.t 5),none⟩,⟨o19,.look (.cells 3 [(0,.i),(1,.s),(2,.i)]) (.b false) false (.t 17) (.t 18),none⟩] [⟨[],0,0⟩,⟨[0],0,0⟩,⟨[1,0],0,0⟩,⟨[2,1,0],0,0⟩,⟨[],0,0⟩,⟨[3,4,2,1,0],0,0⟩]) (mCond r19 (mO [qMv o20 r2,qAdd o21 (rs [10]) r20,qMv o2 r21]) mSkip)) (mSeq (mDraw Γ call [⟨o22,.mv (.t 0),none⟩,⟨o23,.nilchk (.t 22),none⟩,⟨o24,.faddr 32 (.t 23),none⟩,⟨o25,.ld false 1 (.t 24),none⟩,⟨o26,.ld true 3 (.t 5),none⟩,⟨o27,.mv (.t 3),none⟩,⟨none,.mupd (.cells 3 [(0,.i),(1,.s),(2,.i)]) (.t 25) (.t 26) (.t 27),none⟩] [⟨[],0,0⟩,⟨[0],0,0⟩,⟨[1,0],0,0⟩,⟨[2,1,0],0,0⟩,⟨[],0,0⟩,⟨[],0,0⟩,⟨[3,4,5,0,1,2],0,0⟩]) (mSeq (mR [qMv o28 r2,qEql o29 r28 (rc sE)] (mCond r29 mRet mSkip)) (mR [qFaddr o30 0 r5,qLd1 o31 r30,qFaddr o32 1 r5,qLd1 o33 r32,qH Γ o34 fun g n e=>q_build e [(u8 0),sE,(iN 0)] [(0,1,(.t 31)),(1,1,(.t 33))],qAlloc o8 [(u8 0),sE,(iN 0)] 0,qSt none 3 r8 r34] (mSeq (mSeq (mDraw Γ call [⟨o35,.mv (.t 0),none⟩,⟨o36,.nilchk (.t 35),none⟩,⟨o37,.faddr 33 (.t 36),none⟩,⟨o38,.ld false 1 (.t 37),none⟩,⟨o39,.ld true 3 (.t 8),none⟩,⟨o40,.look (.cells 3 [(0,.i),(1,.s),(2,.i)]) (iN 0) false (.t 38) (.t 39),none⟩,⟨o41,.mv (.t 2),none⟩,⟨o42,.lenS (.t 41),none⟩,⟨o43,.bin .add (.t 40) (.t 42),none⟩,⟨o44,.bin .gtr (.t 43) (.c (iN 4294967296)),none⟩] [⟨[],0,0⟩,⟨[0],0,0⟩,⟨[1,0],0,0⟩,⟨[2,1,0],0,0⟩,⟨[],0,0⟩,⟨[3,4,2,1,0],0,0⟩,⟨[],0,0⟩,⟨[6],0,0⟩,⟨[5,7,3,4,2,1,0,6],0,0⟩,⟨[8,5,7,3,4,2,1,0,6],0,0⟩]) (mCond r44 (mR [qMv o9 (rb 7)] (mSeq (mR [qFaddr o45 0 r5,qLd1 o46 r45,qEql o47 r46 (rb 1)] (mCond r47 (mO [qMv o9 (rb 6)]) mSkip)) (mR [qMv o48 r0,qMv o49 r9,qCall call yl o50 (rcf 44) [r48,r49,(rN 4)]] mRet))) mSkip)) (mSeq (mDraw Γ call [⟨o51,.mv (.t 0),none⟩,⟨o52,.nilchk (.t 51),none⟩,⟨o53,.faddr 33 (.t 52),none⟩,⟨o54,.ld false 1 (.t 53),none⟩,⟨o55,.ld true 3 (.t 8),none⟩,⟨o56,.look (.cells 3 [(0,.i),(1,.s),(2,.i)]) (iN 0) false (.t 54) (.t 55),none⟩,⟨o57,.mv (.t 2),none⟩,⟨o58,.lenS (.t 57),none⟩,⟨o59,.bin .add (.t 56) (.t 58),none⟩,⟨o60,.ment (.cells 3 [(0,.i),(1,.s),(2,.i)]) (iN 0) (.t 54) (.t 55),none⟩,⟨o61,.ext (.t 60) 1,none⟩,⟨none,.estore (.t 54) (.t 61) (.t 59),none⟩] [⟨[],0,0⟩,⟨[0],0,0⟩,⟨[1,0],0,0⟩,⟨[2,1,0],0,0⟩,⟨[],0,0⟩,⟨[3,4,2,1,0],0,1⟩,⟨[],0,0⟩,⟨[6],0,0⟩,⟨[5,7,3,4,2,1,0,6],0,1⟩,⟨[3,4,0,1,2,6,7],0,0⟩,⟨[9,3,4,0,1,2,6,7],1,1⟩,⟨[3,10,8,9,0,1,2,4,5,6,7],1,1⟩]) (mSeq (mDraw Γ call [⟨o62,.mv (.t 0),none⟩,⟨o63,.mv (.t 0),none⟩,⟨o64,.nilchk (.t 63),none⟩,⟨o65,.faddr 35 (.t 64),none⟩,⟨o66,.faddr 0 (.t 65),none⟩,⟨o67,.ld false 1 (.t 66),none⟩,⟨o68,.faddr 0 (.t 5),none⟩,⟨o69,.ld false 1 (.t 68),none⟩,⟨o70,.faddr 1 (.t 5),none⟩,⟨o71,.ld false 1 (.t 70),none⟩,⟨o72,.mv (.t 2),none⟩,⟨o73,.build [(u8 0),sE,sE] [(0,1,(.t 69)),(1,1,(.t 71)),(2,1,(.t 72))],none⟩,⟨o74,.bslice 3 [(u8 0),sE,sE] [(0,3,(.t 73))] 1,none⟩,⟨o75,.app 3 40 0 (.t 67) (.t 74),none⟩,⟨o76,.nilchk (.t 62),none⟩,⟨o77,.faddr 35 (.t 76),none⟩,⟨o78,.faddr 0 (.t 77),none⟩,⟨none,.st 1 (.t 78) (.t 75),none⟩] [⟨[],0,1⟩,⟨[],0,0⟩,⟨[1],0,0⟩,⟨[2,1],0,0⟩,⟨[3,2,1],0,0⟩,⟨[4,3,2,1],0,0⟩,⟨[],0,0⟩,⟨[6],0,0⟩,⟨[],0,0⟩,⟨[8],0,0⟩,⟨[],0,0⟩,⟨[7,9,10,6,8],0,0⟩,⟨[11,7,9,10,6,8],0,0⟩,⟨[5,12,4,3,2,1,11,7,9,10,6,8],0,0⟩,⟨[0,1,2,3,4,5,6,7,8,9,10,11,12,13],1,1⟩,⟨[14,0,1,2,3,4,5,6,7,8,9,10,11,12,13],1,1⟩,⟨[15,0,1,2,3,4,5,6,7,8,9,10,11,12,13,14],1,1⟩,⟨[16,13,0,1,2,3,4,5,6,7,8,9,10,11,12,15,14],1,1⟩]) (mR [qFaddr o79 0 r5,qLd1 o80 r79,qEql o81 r80 (rb 2)] (mCond r81 (mDraw Γ call [⟨o82,.mv (.t 0),none⟩,⟨o83,.nilchk (.t 82),none⟩,⟨o84,.faddr 15 (.t 83),none⟩,⟨o85,.ld false 1 (.t 84),none⟩,⟨o86,.faddr 1 (.t 5),none⟩,⟨o87,.ld false 1 (.t 86),none⟩,⟨o88,.look (.leaf .s) sE false (.t 85) (.t 87),none⟩,⟨o89,.mv (.t 2),none⟩,⟨o90,.bin .add (.t 88) (.t 89),none⟩,⟨none,.mupd (.leaf .s) (.t 85) (.t 87) (.t 90),none⟩] [⟨[],0,0⟩,⟨[0],0,0⟩,⟨[1,0],0,0⟩,⟨[2,1,0],0,0⟩,⟨[],0,0⟩,⟨[4],0,0⟩,⟨[3,5,2,1,0,4],0,0⟩,⟨[],0,0⟩,⟨[6,7,3,5,2,1,0,4],0,0⟩,⟨[3,5,8,0,1,2,4,6,7],0,0⟩]) mSkip))))))))))⟩
noncomputable def C218 : CFn := ⟨24,[.cell 4 true 12,.t 5],fun P Γ call yl qs L => mR [qBox o3 r1,qAlloc o4 [sE,(.b false),(.b false),(u8 0),(u6 0),(u6 0),(u6 0),(u6 0),(iN 0),(iN 0),(iN 0),.nils] 0,qMv o5 rF] (mSeq (mR [qFaddr o6 1 r3,qLd1 o7 r6,qH Γ o8 fun g n e=>q_un e .not (.t 7)] (mCond r8 (mO [qMv o9 r0,qMv o10 r0,qLdA o11 12 r3,qNil o12 r9,qFaddr o13 19 r12,qSt none 12 r13 r11,qNil o14 r10,qFaddr o15 31 r14,qSt none 1 r15 rT]) mSkip)) (mSeq (mDraw Γ call [⟨o16,.mv (.t 0),none⟩,⟨o17,.nilchk (.t 16),none⟩,⟨o18,.faddr 19 (.t 17),none⟩,⟨o19,.ld true 12 (.t 18),none⟩,⟨o20,.mv (.t 0),none⟩,⟨o21,.nilchk (.t 20),none⟩,⟨o22,.faddr 31 (.t 21),none⟩,⟨o23,.ld false 1 (.t 22),none⟩,⟨none,.st 12 (.t 4) (.t 19),none⟩,⟨o5,.mv (.t 23),none⟩] [⟨[],0,0⟩,⟨[0],0,0⟩,⟨[1,0],0,0⟩,⟨[2,1,0],0,0⟩,⟨[],0,1⟩,⟨[4],0,1⟩,⟨[5,4],0,1⟩,⟨[6,5,4],0,1⟩,⟨[3,0,1,2],0,0⟩,⟨[7,8,0,1,2,3,4,5,6],1,1⟩]) mRet))⟩
noncomputable def C219 : CFn := ⟨52,[.t 8,.t 9],fun P Γ call yl qs L => mR [qBox o4 r0,qBox o5 r1,qMv o8 rZ,qMv o9 (rN 0)] (mSeq (mR [qLdA o15 9 r5,qCall call yl o16 (rcf 251) [r15],qMv o10 r16] (mR [qMv o17 r10,qNeq o18 r17 (rN 0)] (mCond r18 (mR [qMv o19 r10,qMv o8 rZ,qMv o9 r19] mRet) mSkip))) (mR [qMv o11 rZ] (mR [qMv o12 (rN 0)] (mSeq (mR [qLdA o20 9 r5,qMv o21 r2,qMv o22 r3,qCall call yl o23 (rcf 252) [r20,r21,r22],qH Γ o24 fun g n e=>q_lenL e (.t 23),qMv o25 (rN 0)] (mBlock 0 (mLoop L (mR [qLss o26 r25 r24] (mSeq (mCond r26 mSkip (mExit 0)) (mSeq (mBlock 1 (mR [qH Γ o27 fun g n e=>q_iaddr e 4 (.t 23) (.t 25),qLdA o28 4 r27,qAlloc o14 [(iN 0),.nils,(.b false),(.b false)] 0,qSt none 4 r14 r28] (mR [qMv o29 r11,qFaddr o30 0 r14,qLd1 o31 r30,qH Γ o32 fun g n e=>q_bslice n e 1 [(iN 0)] [(0,1,(.t 31))] 1,qH Γ o33 fun g n e=>q_app g n e 1 8 0 (.t 29) (.t 32),qMv o11 r33] (mSeq (mR [qFaddr o34 3 r14,qLd1 o35 r34] (mCond r35 (mO [qMv o36 r12,qAdd o37 r36 (rN 1),qMv o12 r37]) mSkip)) (mR [qFaddr o38 3 r14,qLd1 o39 r38,qMv o40 r39,qG 40 true o41 (qLdA o41 6 r4),qG 40 true o42 (qMv o42 r12),qG 40 true o43 (qCall call yl o43 (rcf 253) [r41,r42]),qPick o44 r40 r43 rF,qMv o45 r44,qG 45 true o46 (qFaddr o46 2 r4),qG 45 true o47 (qLd1 o47 r46),qG 45 true o48 (qH Γ o48 fun g n e=>q_un e .not (.t 47)),qPick o49 r45 r48 rF] (mCond r49 (mExit 0) mSkip)))))) (mO [qAdd o50 r25 (rN 1),qMv o25 r50]))))))) (mR [qMv o51 r11,qMv o8 r51,qMv o9 (rN 0)] mRet)))))⟩
noncomputable def C220 : CFn := ⟨31,[],fun P Γ call yl qs L => mR [qBox o4 r1] (mSeq (mDraw Γ call [⟨o9,.faddr 3 (.t 4),none⟩,⟨o10,.ld true 9 (.t 9),none⟩,⟨o11,.mv (.t 0),none⟩,⟨o12,.nilchk (.t 11),none⟩,⟨o13,.faddr 12 (.t 12),none⟩,⟨o14,.call (.f 130) [(.t 13)],none⟩,⟨o15,.mv (.t 2),none⟩,⟨o16,.faddr 2 (.t 4),none⟩,⟨o17,.ld false 1 (.t 16),none⟩,⟨o18,.call (.f 254) [(.t 10),(.t 14),(.t 15),(.t 17),(.c (iN 4294967296))],none⟩,⟨o8,.mv (.t 18),none⟩,⟨o19,.ext (.t 8) 0,none⟩,⟨o20,.ext (.t 8) 1,none⟩,⟨o6,.mv (.t 19),none⟩,⟨o7,.mv (.t 20),none⟩] [⟨[],0,1⟩,⟨[0],0,1⟩,⟨[],0,0⟩,⟨[2],0,0⟩,⟨[3,2],0,0⟩,⟨[4,3,2],0,0⟩,⟨[],0,1⟩,⟨[],0,1⟩,⟨[7],0,1⟩,⟨[1,5,6,8,0,4,3,2,7],1,1⟩,⟨[9,1,5,6,8,0,4,3,2,7],2,2⟩,⟨[10,9,1,5,6,8,0,4,3,2,7],2,2⟩,⟨[10,9,1,5,6,8,0,4,3,2,7],2,2⟩,⟨[11,9,0,1,2,3,4,5,6,7,8,10],2,2⟩,⟨[12,13,0,1,2,3,4,5,6,7,8,9,10,11],2,2⟩]) (mO [qMv o21 r0,qNil o22 r21,qFaddr o23 35 r22,qFaddr o24 3 r23,qLd1 o25 r24,qMv o26 r6,qAdd o27 r25 r26,qNil o28 r21,qFaddr o29 35 r28,qFaddr o30 3 r29,qSt none 1 r30 r27]))⟩
noncomputable def C221 : CFn := ⟨156,[.t 8,.t 9],fun P Γ call yl qs L => mR [qBox o4 r0,qBox o5 r1,qMv o8 (rN 0),qMv o9 (rN 0)] (mR [qMv o10 (rN 0),qMv o11 (rN 0),qMv o12 (rc (.i .i64 (.negSucc 0))),qMv o13 (rN 0),qMv o14 (rN 0)] (mR [qFaddr o24 1 r4,qLd1 o25 r24,qH Γ o26 fun g n e=>q_mx e [(.t 25),(.c (iN 1))],qMv o15 r26] (mSeq (mR [qMv o27 r3,qH Γ o28 fun g n e=>q_lenL e (.t 27),qMv o29 (rN 0)] (mBlock 0 (mLoop L (mR [qLss o30 r29 r28] (mSeq (mCond r30 mSkip (mExit 0)) (mSeq (mBlock 1 (mR [qH Γ o31 fun g n e=>q_iaddr e 1 (.t 27) (.t 29),qLd1 o32 r31,qMv o17 r32] (mR [qFaddr o34 3 r5,qLdA o35 9 r34,qMv o36 r2,qMv o37 r17,qFaddr o38 2 r5,qLd1 o39 r38,qCall call yl o40 (rcf 224) [r35,r36,r37,r39],qMv o33 r40,qH Γ o41 fun g n e=>q_ext e (.t 33) 0,qH Γ o42 fun g n e=>q_ext e (.t 33) 1,qH Γ o43 fun g n e=>q_ext e (.t 33) 2,qMv o18 r41,qMv o19 r42,qMv o20 r43] (mSeq (mR [qMv o44 r19,qH Γ o45 fun g n e=>q_un e .not (.t 44)] (mCond r45 (mExit 0) mSkip)) (mR [qMv o46 r18,qH Γ o47 fun g n e=>q_iaddr e 2 (.t 46) (.c (iN 0)),qLdA o48 2 r47,qAlloc o21 [(iN 0),(iN 0)] 0,qSt none 2 r21 r48] (mSeq (mR [qFaddr o49 0 r21,qLd1 o50 r49,qFaddr o51 1 r21,qLd1 o52 r51,qEql o53 r50 r52,qMv o54 r53,qG 54 true o55 (qFaddr o55 0 r21),qG 54 true o56 (qLd1 o56 r55),qG 54 true o57 (qMv o57 r12),qG 54 true o58 (qEql o58 r56 r57),qPick o59 r54 r58 rF] (mCond r59 (mExit 1) mSkip)) (mR [qFaddr o60 1 r21,qLd1 o61 r60,qMv o12 r61] (mR [qMv o62 r13,qAdd o63 r62 (rN 1),qMv o13 r63] (mSeq (mR [qMv o64 r13,qMv o65 r15,qNeq o66 r64 r65,qMv o67 r66,qG 67 true o68 (qFaddr o68 2 r4),qG 67 true o69 (qLd1 o69 r68),qG 67 true o70 (qMv o70 r69),qG 70 true o71 (qMv o71 r13),qG 70 true o72 (qMv o72 r15),qG 70 true o73 (qGtr o73 r71 r72),qG 67 true o74 (qPick o74 r70 r73 rF),qG 67 true o75 (qH Γ o75 fun g n e=>q_un e .not (.t 74)),qPick o76 r67 r75 rF] (mCond r76 (mExit 1) mSkip)) (mR [qMv o77 r14,qAdd o78 r77 (rN 1),qMv o14 r78] (mR [qMv o79 r10,qFaddr o80 0 r21,qLd1 o81 r80,qMv o82 r11,qSub o83 r81 r82,qAdd o84 r79 r83,qMv o10 r84] (mR [qFaddr o85 1 r21,qLd1 o86 r85,qMv o11 r86] (mR [qFaddr o87 0 r4,qLd1 o88 r87,qH Γ o89 fun g n e=>q_lenL e (.t 88),qMv o90 (rN 0)] (mBlock 2 (mLoop L (mR [qLss o91 r90 r89] (mSeq (mCond r91 mSkip (mExit 2)) (mSeq (mBlock 3 (mR [qH Γ o92 fun g n e=>q_iaddr e 3 (.t 88) (.t 90),qLdA o93 3 r92,qAlloc o23 [(u8 0),(iN 0),sE] 0,qSt none 3 r23 r93] (mSeq (mBlock 4 (mR [qFaddr o95 0 r23,qLd1 o96 r95,qEql o97 r96 (rb 1),qMv o94 r97] (mCond r94 (mO [qMv o98 r10,qFaddr o99 2 r23,qLd1 o100 r99,qH Γ o101 fun g n e=>q_lenS e (.t 100),qAdd o102 r98 r101,qMv o10 r102]) (mR [qFaddr o104 0 r23,qLd1 o105 r104,qEql o106 r105 (rb 2),qMv o107 r106,qG 107 true o108 (qFaddr o108 1 r23),qG 107 true o109 (qLd1 o109 r108),qG 107 true o110 (qGeq o110 r109 (rN 0)),qPick o111 r107 r110 rF,qMv o112 r111,qG 112 true o113 (qFaddr o113 1 r23),qG 112 true o114 (qLd1 o114 r113),qG 112 true o115 (qMv o115 r18),qG 112 true o116 (qH Γ o116 fun g n e=>q_lenL e (.t 115)),qG 112 true o117 (qLss o117 r114 r116),qPick o118 r112 r117 rF,qMv o119 r118,qG 119 true o120 (qMv o120 r18),qG 119 true o121 (qFaddr o121 1 r23),qG 119 true o122 (qLd1 o122 r121),qG 119 true o123 (qH Γ o123 fun g n e=>q_iaddr e 2 (.t 120) (.t 122)),qG 119 true o124 (qFaddr o124 0 r123),qG 119 true o125 (qLd1 o125 r124),qG 119 true o126 (qGeq o126 r125 (rN 0)),qPick o127 r119 r126 rF,qMv o103 r127] (mCond r103 (mDraw Γ call [⟨o128,.mv (.t 10),none⟩,⟨o129,.mv (.t 18),none⟩,⟨o130,.faddr 1 (.t 23),none⟩,⟨o131,.ld false 1 (.t 130),none⟩,⟨o132,.iaddr 2 (.t 129) (.t 131),none⟩,⟨o133,.faddr 1 (.t 132),none⟩,⟨o134,.ld false 1 (.t 133),none⟩,⟨o135,.mv (.t 18),none⟩,⟨o136,.faddr 1 (.t 23),none⟩,⟨o137,.ld false 1 (.t 136),none⟩,⟨o138,.iaddr 2 (.t 135) (.t 137),none⟩,⟨o139,.faddr 0 (.t 138),none⟩,⟨o140,.ld false 1 (.t 139),none⟩,⟨o141,.bin .sub (.t 134) (.t 140),none⟩,⟨o142,.bin .add (.t 128) (.t 141),none⟩,⟨o10,.mv (.t 142),none⟩] [⟨[],0,0⟩,⟨[],0,0⟩,⟨[],0,0⟩,⟨[2],0,0⟩,⟨[1,3,2],0,0⟩,⟨[4,1,3,2],0,0⟩,⟨[5,4,1,3,2],0,0⟩,⟨[],0,0⟩,⟨[],0,0⟩,⟨[8],0,0⟩,⟨[7,9,8],0,0⟩,⟨[10,7,9,8],0,0⟩,⟨[11,10,7,9,8],0,0⟩,⟨[6,12,5,4,1,3,2,11,10,7,9,8],0,0⟩,⟨[0,13,6,12,5,4,1,3,2,11,10,7,9,8],0,0⟩,⟨[14,0,1,2,3,4,5,6,7,8,9,10,11,12,13],0,0⟩]) mSkip))))) (mR [qMv o143 r10,qGtr o144 r143 (rN 1073741824)] (mCond r144 (mR [qMv o145 r10,qMv o146 r14,qMv o8 r145,qMv o9 r146] mRet) mSkip))))) (mO [qAdd o147 r90 (rN 1),qMv o90 r147]))))))))))))))))))) (mO [qAdd o148 r29 (rN 1),qMv o29 r148]))))))) (mR [qMv o149 r10,qMv o150 r2,qH Γ o151 fun g n e=>q_lenS e (.t 150),qAdd o152 r149 r151,qMv o153 r11,qSub o154 r152 r153,qMv o155 r14,qMv o8 r154,qMv o9 r155] mRet))))⟩
noncomputable def C222 : CFn := ⟨100,[.t 8,.t 9,.t 10],fun P Γ call yl qs L => mR [qBox o4 r0,qBox o5 r1,qMv o8 (rc sE),qMv o9 (rN 0),qMv o10 (rN 0)] (mSeq (mR [qLdA o20 9 r5,qCall call yl o21 (rcf 251) [r20],qMv o11 r21] (mR [qMv o22 r11,qNeq o23 r22 (rN 0)] (mCond r23 (mR [qMv o24 r11,qMv o8 (rc sE),qMv o9 (rN 0),qMv o10 r24] mRet) mSkip))) (mR [qAlloc o12 [.nilp,.nils] 148] (mR [qMv o13 (rN 0),qMv o14 (rN 0),qMv o15 (rN 0)] (mSeq (mR [qLdA o25 9 r5,qMv o26 r2,qMv o27 r3,qCall call yl o28 (rcf 252) [r25,r26,r27],qH Γ o29 fun g n e=>q_lenL e (.t 28),qMv o30 (rN 0)] (mBlock 0 (mLoop L (mR [qLss o31 r30 r29] (mSeq (mCond r31 mSkip (mExit 0)) (mSeq (mBlock 1 (mR [qH Γ o32 fun g n e=>q_iaddr e 4 (.t 28) (.t 30),qLdA o33 4 r32,qAlloc o17 [(iN 0),.nils,(.b false),(.b false)] 0,qSt none 4 r17 r33] (mSeq (mR [qFaddr o34 3 r17,qLd1 o35 r34,qH Γ o36 fun g n e=>q_un e .not (.t 35)] (mCond r36 (mExit 1) mSkip)) (mR [qMv o37 r14,qAdd o38 r37 (rN 1),qMv o14 r38] (mSeq (mR [qLdA o39 6 r4,qMv o40 r14,qCall call yl o41 (rcf 253) [r39,r40],qH Γ o42 fun g n e=>q_un e .not (.t 41)] (mCond r42 (mExit 1) mSkip)) (mSeq (mSeq (mDraw Γ call [⟨o43,.call (.f 255) [(.t 12)],none⟩,⟨o44,.faddr 1 (.t 17),none⟩,⟨o45,.ld false 1 (.t 44),none⟩,⟨o46,.iaddr 2 (.t 45) (.c (iN 0)),none⟩,⟨o47,.faddr 0 (.t 46),none⟩,⟨o48,.ld false 1 (.t 47),none⟩,⟨o49,.bin .add (.t 43) (.t 48),none⟩,⟨o50,.mv (.t 13),none⟩,⟨o51,.bin .sub (.t 49) (.t 50),none⟩,⟨o52,.faddr 0 (.t 4),none⟩,⟨o53,.ld false 1 (.t 52),none⟩,⟨o54,.faddr 1 (.t 17),none⟩,⟨o55,.ld false 1 (.t 54),none⟩,⟨o56,.call (.f 256) [(.t 53),(.t 55)],none⟩,⟨o57,.bin .add (.t 51) (.t 56),none⟩,⟨o58,.bin .gtr (.t 57) (.c (iN 1073741824)),none⟩] [⟨[],0,0⟩,⟨[],0,2⟩,⟨[1],0,2⟩,⟨[2,1],0,2⟩,⟨[3,2,1],0,2⟩,⟨[4,3,2,1],0,2⟩,⟨[0,5,4,3,2,1],1,2⟩,⟨[],0,2⟩,⟨[6,7,0,5,4,3,2,1],1,2⟩,⟨[],0,1⟩,⟨[9],0,1⟩,⟨[],0,1⟩,⟨[11],0,1⟩,⟨[10,12,0,9,11],1,1⟩,⟨[8,13,6,7,0,5,4,3,2,1,10,12,9,11],2,2⟩,⟨[14,8,13,6,7,0,5,4,3,2,1,10,12,9,11],2,2⟩]) (mCond r58 (mR [qMv o8 (rc sE),qMv o9 (rN 0),qMv o10 (rN 4)] mRet) mSkip)) (mR [qFaddr o60 0 r4,qLd1 o61 r60,qMv o62 r2,qFaddr o63 1 r17,qLd1 o64 r63,qCall call yl o65 (rcf 257) [r61,r62,r64],qMv o59 r65,qH Γ o66 fun g n e=>q_ext e (.t 59) 0,qH Γ o67 fun g n e=>q_ext e (.t 59) 1,qMv o18 r66,qMv o19 r67] (mR [qMv o68 r2,qMv o69 r13,qFaddr o70 1 r17,qLd1 o71 r70,qH Γ o72 fun g n e=>q_iaddr e 2 (.t 71) (.c (iN 0)),qFaddr o73 0 r72,qLd1 o74 r73,qH Γ o75 fun g n e=>q_slcS e (.t 68) (some (.t 69)) (some (.t 74)),qMv o76 r18,qAdd o77 r75 r76,qCall call yl o78 (rcf 28) [r12,r77]] (mR [qFaddr o79 1 r17,qLd1 o80 r79,qH Γ o81 fun g n e=>q_iaddr e 2 (.t 80) (.c (iN 0)),qFaddr o82 1 r81,qLd1 o83 r82,qMv o13 r83] (mO [qMv o84 r15,qAdd o85 r84 (rN 1),qMv o15 r85])))))))))) (mO [qAdd o86 r30 (rN 1),qMv o30 r86]))))))) (mSeq (mR [qCall call yl o87 (rcf 255) [r12],qMv o88 r2,qH Γ o89 fun g n e=>q_lenS e (.t 88),qAdd o90 r87 r89,qMv o91 r13,qSub o92 r90 r91,qGtr o93 r92 (rN 1073741824)] (mCond r93 (mR [qMv o8 (rc sE),qMv o9 (rN 0),qMv o10 (rN 4)] mRet) mSkip)) (mR [qMv o94 r2,qMv o95 r13,qH Γ o96 fun g n e=>q_slcS e (.t 94) (some (.t 95)) none,qCall call yl o97 (rcf 28) [r12,r96]] (mR [qCall call yl o98 (rcf 29) [r12],qMv o99 r15,qMv o8 r98,qMv o9 r99,qMv o10 (rN 0)] mRet)))))))⟩
noncomputable def C223 : CFn := ⟨33,[.t 2],fun P Γ call yl qs L => mR [qMv o2 (rN 0)] (mSeq (mDraw Γ call [⟨o6,.mv (.t 0),none⟩,⟨o7,.nilchk (.t 6),none⟩,⟨o8,.faddr 0 (.t 7),none⟩,⟨o9,.ld false 1 (.t 8),none⟩,⟨o10,.lenS (.t 9),none⟩,⟨o11,.mv (.t 0),none⟩,⟨o12,.nilchk (.t 11),none⟩,⟨o13,.faddr 1 (.t 12),none⟩,⟨o14,.ld false 1 (.t 13),none⟩,⟨o15,.lenS (.t 14),none⟩,⟨o16,.bin .add (.t 10) (.t 15),none⟩,⟨o3,.mv (.t 16),none⟩] [⟨[],0,0⟩,⟨[0],0,0⟩,⟨[1,0],0,0⟩,⟨[2,1,0],0,0⟩,⟨[3,2,1,0],0,0⟩,⟨[],0,0⟩,⟨[5],0,0⟩,⟨[6,5],0,0⟩,⟨[7,6,5],0,0⟩,⟨[8,7,6,5],0,0⟩,⟨[4,9,3,2,1,0,8,7,6,5],0,0⟩,⟨[10,0,1,2,3,4,5,6,7,8,9],0,0⟩]) (mSeq (mR [qMv o17 r0,qNil o18 r17,qFaddr o19 2 r18,qLd1 o20 r19,qH Γ o21 fun g n e=>q_lenL e (.t 20),qMv o22 (rN 0)] (mBlock 0 (mLoop L (mR [qLss o23 r22 r21] (mSeq (mCond r23 mSkip (mExit 0)) (mSeq (mBlock 1 (mR [qH Γ o24 fun g n e=>q_iaddr e 2 (.t 20) (.t 22),qLdA o25 2 r24,qAlloc o5 [(u8 0),sE] 0,qSt none 2 r5 r25] (mO [qMv o26 r3,qFaddr o27 1 r5,qLd1 o28 r27,qH Γ o29 fun g n e=>q_lenS e (.t 28),qAdd o30 r26 r29,qMv o3 r30]))) (mO [qAdd o31 r22 (rN 1),qMv o22 r31]))))))) (mR [qMv o32 r3,qMv o2 r32] mRet)))⟩
noncomputable def C224 : CFn := ⟨44,[.t 8,.t 9,.t 10],fun P Γ call yl qs L => mR [qBox o4 r0,qMv o8 rZ,qMv o9 rF,qMv o10 (rN 0)] (mSeq (mR [qLdA o16 9 r4,qCall call yl o17 (rcf 251) [r16],qMv o11 r17] (mR [qMv o18 r11,qNeq o19 r18 (rN 0)] (mCond r19 (mR [qMv o20 r11,qMv o8 rZ,qMv o9 rF,qMv o10 r20] mRet) mSkip))) (mSeq (mR [qMv o21 r2,qLss o22 r21 (rN 0),qMv o23 r22,qG 23 false o24 (qMv o24 r2),qG 23 false o25 (qMv o25 r1),qG 23 false o26 (qH Γ o26 fun g n e=>q_lenS e (.t 25)),qG 23 false o27 (qGtr o27 r24 r26),qPick o28 r23 rT r27] (mCond r28 (mR [qMv o8 rZ,qMv o9 rF,qMv o10 (rN 2)] mRet) mSkip)) (mR [qMv o30 r1,qMv o31 r3,qCall call yl o32 (rcf 258) [r4,r30,r31],qMv o29 r32,qH Γ o33 fun g n e=>q_ext e (.t 29) 0,qH Γ o34 fun g n e=>q_ext e (.t 29) 1,qMv o12 r33,qMv o13 r34] (mR [qMv o36 r12,qMv o37 r2,qMv o38 r13,qCall call yl o39 (rcf 259) [r36,r4,r37,r38],qMv o35 r39,qH Γ o40 fun g n e=>q_ext e (.t 35) 0,qH Γ o41 fun g n e=>q_ext e (.t 35) 1,qMv o14 r40,qMv o15 r41] (mR [qMv o42 r14,qMv o43 r15,qMv o8 r42,qMv o9 r43,qMv o10 (rN 0)] mRet)))))⟩
noncomputable def C225 : CFn := ⟨13,[.t 2],fun P Γ call yl qs L => mR [qMv o2 rF] (mR [qMv o3 r0,qGeq o4 r3 (rN 0),qMv o5 r4,qG 5 true o6 (qMv o6 r0),qG 5 true o7 (qNeq o7 r6 (rN 10)),qPick o8 r5 r7 rF,qMv o9 r8,qG 9 true o10 (qMv o10 r0),qG 9 true o11 (qNeq o11 r10 (rN 92)),qPick o12 r9 r11 rF,qMv o2 r12] mRet)⟩
noncomputable def C226 : CFn := ⟨76,[.t 6,.t 7],fun P Γ call yl qs L => mR [qMv o6 (rc sE),qMv o7 rF] (mR [qMv o10 r0,qNil o11 r10,qFaddr o12 1 r11,qLd1 o13 r12,qMv o8 r13] (mSeq (mBlock 0 (mLoop L (mSeq (mSeq (mDraw Γ call [⟨o14,.mv (.t 0),none⟩,⟨o15,.nilchk (.t 14),none⟩,⟨o16,.faddr 1 (.t 15),none⟩,⟨o17,.ld false 1 (.t 16),none⟩,⟨o18,.mv (.t 0),none⟩,⟨o19,.nilchk (.t 18),none⟩,⟨o20,.faddr 0 (.t 19),none⟩,⟨o21,.ld false 1 (.t 20),none⟩,⟨o22,.lenS (.t 21),none⟩,⟨o23,.bin .lss (.t 17) (.t 22),none⟩] [⟨[],0,0⟩,⟨[0],0,0⟩,⟨[1,0],0,0⟩,⟨[2,1,0],0,0⟩,⟨[],0,0⟩,⟨[4],0,0⟩,⟨[5,4],0,0⟩,⟨[6,5,4],0,0⟩,⟨[7,6,5,4],0,0⟩,⟨[3,8,2,1,0,7,6,5,4],0,0⟩]) (mCond r23 mSkip (mExit 0))) (mBlock 1 (mR [qMv o24 r0,qCall call yl o25 (rcf 49) [r24],qMv o9 r25] (mBlock 2 (mR [qMv o34 r9,qMv o35 r1,qEql o36 r34 r35,qMv o33 r36] (mCond r33 (mR [qMv o37 r0,qNil o38 r37,qFaddr o39 1 r38,qLd1 o40 r39,qAdd o41 r40 (rN 1),qNil o42 r37,qFaddr o43 1 r42,qSt none 1 r43 r41] (mSeq (mDraw Γ call [⟨o44,.mv (.t 0),none⟩,⟨o45,.nilchk (.t 44),none⟩,⟨o46,.faddr 0 (.t 45),none⟩,⟨o47,.ld false 1 (.t 46),none⟩,⟨o48,.mv (.t 8),none⟩,⟨o49,.mv (.t 0),none⟩,⟨o50,.nilchk (.t 49),none⟩,⟨o51,.faddr 1 (.t 50),none⟩,⟨o52,.ld false 1 (.t 51),none⟩,⟨o53,.bin .sub (.t 52) (.c (iN 1)),none⟩,⟨o54,.slcS (.t 47) (some (.t 48)) (some (.t 53)),none⟩,⟨o6,.mv (.t 54),none⟩,⟨o7,.mv (.c (.b true)),none⟩] [⟨[],0,0⟩,⟨[0],0,0⟩,⟨[1,0],0,0⟩,⟨[2,1,0],0,0⟩,⟨[],0,0⟩,⟨[],0,0⟩,⟨[5],0,0⟩,⟨[6,5],0,0⟩,⟨[7,6,5],0,0⟩,⟨[8,7,6,5],0,0⟩,⟨[3,4,9,2,1,0,8,7,6,5],0,0⟩,⟨[10,0,1,2,3,4,5,6,7,8,9],0,0⟩,⟨[11,0,1,2,3,4,5,6,7,8,9,10],0,0⟩]) mRet)) (mR [qMv o56 r9,qEql o57 r56 (rN 10),qMv o55 r57] (mCond r55 (mR [qMv o6 (rc sE),qMv o7 rF] mRet) (mR [qMv o59 r9,qEql o60 r59 (rN 92),qMv o61 r60,qG 61 true o62 (qMv o62 r2),qG 61 true o63 (qMv o63 r62),qG 63 false o64 (qMv o64 r0),qG 63 false o65 (qCall call yl o65 (rcf 101) [r64,(rN 1)]),qG 63 false o66 (qNeq o66 r65 (rN 10)),qG 61 true o67 (qPick o67 r63 rT r66),qPick o68 r61 r67 rF,qMv o58 r68] (mCond r58 (mO [qMv o69 r0,qNil o70 r69,qFaddr o71 1 r70,qLd1 o72 r71,qAdd o73 r72 (rN 2),qNil o74 r69,qFaddr o75 1 r74,qSt none 1 r75 r73]) (mO [qMv o26 r0,qNil o27 r26,qFaddr o28 1 r27,qLd1 o29 r28,qAdd o30 r29 (rN 1),qNil o31 r26,qFaddr o32 1 r31,qSt none 1 r32 r30]))))))))))))) (mR [qMv o6 (rc sE),qMv o7 rF] mRet)))⟩
noncomputable def C227 : CFn := ⟨27,[.cell 4 true 9,.t 5],fun P Γ call yl qs L => mR [qAlloc o4 [(u8 0),(u6 0),(u6 0),(u6 0),(u6 0),(iN 0),(iN 0),(iN 0),.nils] 0,qMv o5 rF] (mR [qMv o10 r0,qMv o11 r1,qCall call yl o12 (rcf 260) [r10,r11],qMv o9 r12,qH Γ o13 fun g n e=>q_ext e (.t 9) 0,qH Γ o14 fun g n e=>q_ext e (.t 9) 1,qH Γ o15 fun g n e=>q_ext e (.t 9) 2,qAlloc o6 [(u8 0),(u6 0),(u6 0),(u6 0),(u6 0),(iN 0),(iN 0),(iN 0),.nils] 0,qSt none 9 r6 r13,qMv o7 r14,qMv o8 r15] (mSeq (mR [qMv o16 r7,qNeq o17 r16 (rN 0)] (mCond r17 (mR [qH Γ o18 fun g n e=>q_build e [(u8 0),(u6 0),(u6 0),(u6 0),(u6 0),(iN 0),(iN 0),(iN 0),.nils] [],qSt none 9 r4 r18,qMv o5 rF] mRet) mSkip)) (mR [qLdA o20 9 r6,qCall call yl o21 (rcf 261) [r20],qMv o19 r21,qH Γ o22 fun g n e=>q_ext e (.t 19) 0,qH Γ o23 fun g n e=>q_ext e (.t 19) 1,qMv o7 r23] (mR [qLdA o24 9 r6,qMv o25 r7,qEql o26 r25 (rN 0),qSt none 9 r4 r24,qMv o5 r26] mRet))))⟩
noncomputable def C228 : CFn := ⟨36,[],fun P Γ call yl qs L => mR [qLd1 o4 r1,qH Γ o5 fun g n e=>q_lenL e (.t 4),qMv o3 r5] (mR [qMv o6 r3,qGtr o7 r6 (rN 0),qMv o8 r7,qG 8 true o9 (qLd1 o9 r1),qG 8 true o10 (qMv o10 r3),qG 8 true o11 (qSub o11 r10 (rN 1)),qG 8 true o12 (qH Γ o12 fun g n e=>q_iaddr e 3 (.t 9) (.t 11)),qG 8 true o13 (qFaddr o13 0 r12),qG 8 true o14 (qLd1 o14 r13),qG 8 true o15 (qEql o15 r14 (rb 1)),qPick o16 r8 r15 rF] (mCond r16 (mDraw Γ call [⟨o17,.ld false 1 (.t 1),none⟩,⟨o18,.mv (.t 3),none⟩,⟨o19,.bin .sub (.t 18) (.c (iN 1)),none⟩,⟨o20,.iaddr 3 (.t 17) (.t 19),none⟩,⟨o21,.faddr 2 (.t 20),none⟩,⟨o22,.ld false 1 (.t 21),none⟩,⟨o23,.mv (.t 0),none⟩,⟨o24,.bslice 1 [(u8 0)] [(0,1,(.t 23))] 1,none⟩,⟨o25,.convBS (.t 24),none⟩,⟨o26,.bin .add (.t 22) (.t 25),none⟩,⟨o27,.iaddr 3 (.t 17) (.t 19),none⟩,⟨o28,.faddr 2 (.t 27),none⟩,⟨none,.st 1 (.t 28) (.t 26),none⟩] [⟨[],0,0⟩,⟨[],0,0⟩,⟨[1],0,0⟩,⟨[0,2,1],0,0⟩,⟨[3,0,2,1],0,0⟩,⟨[4,3,0,2,1],0,0⟩,⟨[],0,0⟩,⟨[6],0,0⟩,⟨[7,6],0,0⟩,⟨[5,8,4,3,0,2,1,7,6],0,0⟩,⟨[0,2,1,3,4,5,6,7,8,9],0,0⟩,⟨[10,0,1,2,3,4,5,6,7,8,9],0,0⟩,⟨[11,9,0,1,2,3,4,5,6,7,8,10],0,0⟩]) (mO [qLd1 o29 r1,qMv o30 r0,qH Γ o31 fun g n e=>q_bslice n e 1 [(u8 0)] [(0,1,(.t 30))] 1,qH Γ o32 fun g n e=>q_convBS g e (.t 31),qH Γ o33 fun g n e=>q_build e [(u8 0),(iN 0),sE] [(0,1,(.c (u8 1))),(2,1,(.t 32))],qH Γ o34 fun g n e=>q_bslice n e 3 [(u8 0),(iN 0),sE] [(0,3,(.t 33))] 1,qH Γ o35 fun g n e=>q_app g n e 3 32 0 (.t 29) (.t 34),qSt none 1 r1 r35])))⟩
noncomputable def C231 : CFn := ⟨15,[.t 2],fun P Γ call yl qs L => mR [qBox o1 r0,qMv o2 (rN 0)] (mR [qAlloc o3 [(iN 0)] 0,qSt none 1 r3 (rN 0)] (mSeq (mR [qCall call yl o5 (rcf 262) [r1]] (mBlock 0 (mRange P call 15 r5 [6] (rgA Tryz.f231 0) (rgB Tryz.f231 0)))) (mR [qLd1 o14 r3,qMv o2 r14] mRet)))⟩
noncomputable def C232 : CFn := ⟨9,[.t 4],fun P Γ call yl qs L => mR [qMv o4 rF] (mR [qMv o5 r0,qMv o6 r1,qCall call yl o7 (rcf 263) [r5,r6],qGeq o8 r7 (rN 0),qMv o4 r8] mRet)⟩
noncomputable def C233 : CFn := ⟨8,[.t 3],fun P Γ call yl qs L => mR [qBox o2 r0,qMv o3 rF] (mR [qFaddr o4 1 r2,qLd1 o5 r4,qLd1 o6 r1,qGtr o7 r5 r6,qMv o3 r7] mRet)⟩
noncomputable def C240 : CFn := ⟨52,[.t 4],fun P Γ call yl qs L => mR [qBox o2 r0,qMv o4 rF] (mR [qFaddr o6 0 r2,qLd1 o7 r6,qH Γ o8 fun g n e=>q_build e [(u8 0),(iN 0),(iN 0),sE,(.b false),(.b false),(u8 0),(u6 0),(u6 0),(u6 0),(u6 0),(iN 0),(iN 0),(iN 0),.nils] [(0,1,(.t 7))],qAlloc o5 [(u8 0),(iN 0),(iN 0),sE,(.b false),(.b false),(u8 0),(u6 0),(u6 0),(u6 0),(u6 0),(iN 0),(iN 0),(iN 0),.nils] 0,qSt none 15 r5 r8] (mSeq (mR [qFaddr o9 0 r2,qLd1 o10 r9] (mBlock 0 (mSeq (mR [qEql o12 r10 (rb 0),qMv o11 r12] (mCond r11 mSkip (mO [qEql o13 r10 (rb 2),qMv o11 r13]))) (mCond r11 mSkip (mSeq (mR [qEql o15 r10 (rb 1),qMv o14 r15] (mCond r14 mSkip (mR [qEql o16 r10 (rb 5),qMv o14 r16] (mCond r14 mSkip (mO [qEql o17 r10 (rb 6),qMv o14 r17]))))) (mCond r14 (mO [qFaddr o18 1 r2,qLd1 o19 r18,qFaddr o20 1 r5,qSt none 1 r20 r19]) (mR [qEql o22 r10 (rb 4),qMv o21 r22] (mCond r21 (mDraw Γ call [⟨o23,.faddr 1 (.t 2),none⟩,⟨o24,.ld false 1 (.t 23),none⟩,⟨o25,.faddr 2 (.t 2),none⟩,⟨o26,.ld false 1 (.t 25),none⟩,⟨o27,.faddr 1 (.t 5),none⟩,⟨none,.st 1 (.t 27) (.t 24),none⟩,⟨o28,.faddr 2 (.t 5),none⟩,⟨none,.st 1 (.t 28) (.t 26),none⟩] [⟨[],0,0⟩,⟨[0],0,0⟩,⟨[],0,1⟩,⟨[2],0,1⟩,⟨[0,1],0,0⟩,⟨[4,1,0],0,0⟩,⟨[0,1,2,3,4,5],1,1⟩,⟨[6,3,5,0,1,2,4],1,1⟩]) (mR [qEql o30 r10 (rb 3),qMv o29 r30] (mCond r29 (mR [qFaddr o31 3 r2,qLdA o32 12 r31,qFaddr o33 3 r5,qSt none 12 r33 r32] (mR [qFaddr o34 3 r2,qLdA o35 12 r34,qMv o36 r1,qCall call yl o37 (rcf 241) [r35,r36],qH Γ o38 fun g n e=>q_un e .not (.t 37)] (mCond r38 (mR [qMv o4 rF] mRet) mSkip))) (mR [qMv o4 rF] mRet))))))))))) (mR [qLdA o39 15 r2,qLdA o40 15 r5,qCall call yl o41 (rcf 269) [r39,r40],qMv o42 r41,qG 42 true o43 (qFaddr o43 1 r2),qG 42 true o44 (qLd1 o44 r43),qG 42 true o45 (qCall call yl o45 (rcf 242) [r44]),qPick o46 r42 r45 rF,qMv o47 r46,qG 47 true o48 (qFaddr o48 2 r2),qG 47 true o49 (qLd1 o49 r48),qG 47 true o50 (qCall call yl o50 (rcf 242) [r49]),qPick o51 r47 r50 rF,qMv o4 r51] mRet)))⟩
end Go.Proofs.YtelnkadnphephaaGreatDoor.T
end
