/- D3: A text in quotes: the library's of the program, and the document's. No condition.
D4: Both texts in quotes are one. Condition: the text has at most 1048576 bytes.
D5: A line that Say writes. No condition.
D6: What the law says of a moment (said). Conditions: the numbers are ints, the texts have at most 1048576 bytes.
D7: What the program says of a moment (Say): what the law says. Conditions: the numbers are ints, the texts have at most 1048576 bytes.
D8: Say: what the law says, wherever the moment stands. Conditions: the numbers are ints, the texts have at most 1048576 bytes.
D9: DebugSays is true of every program and moment. Conditions: the numbers are ints, the texts have at most 1048576 bytes.
Abs56: The abstract machine, part 56: what the parts of a reading stand for. No condition.
D10: DebugSays: from what its arguments read as to the machine's data. Condition: the arguments' bulk is at most 1048576.
D11: The row of DebugSays: its listed variables on the abstract machine, and the world behind a call. No condition. -/
import Derived.Test.YtelnkadnphephaaGreatDoorB13
import Derived.Test.YtelnkadnphephaaGreatDoorRows
import Derived.Carry
import Derived.Deep.Slices
import Derived.ChangeMaps5
set_option linter.unusedVariables false
set_option linter.unusedSimpArgs false
noncomputable section
namespace Go.Proofs.YtelnkadnphephaaGreatDoor.T
open Go Go.Abs
noncomputable section

def toldB (c : UInt8) : List UInt8 :=
  match runTop Tryz.prog tabT G qs 100000 2000 64 [byteD c] ⟨.e,0⟩ with
  | some (.s x,_) => x
  | _ => []

def toldOk (i : Nat) : Bool :=
  match runTop Tryz.prog tabT G qs 100000 2000 64 [.i .u8 (.ofNat i)] ⟨.e,0⟩,runTop Tryz.prog tabT G qs 100000 2000 66 [.i .u8 (.ofNat i)] ⟨.e,0⟩ with
  | some (.s x,_),some (.s y,_) => listEq (fun c e => decide (c = e)) x y && Nat.ble x.length 4 && Nat.ble 1 x.length
  | _,_ => false

theorem told_all : (List.range 256).all toldOk = true := by kernel_rfl

theorem told_run (c : UInt8) : (runTop Tryz.prog tabT G qs 100000 2000 64 [byteD c] ⟨.e,0⟩).map (·.1) = some (.s (toldB c)) ∧ (runTop Tryz.prog tabT G qs 100000 2000 66 [byteD c] ⟨.e,0⟩).map (·.1) = some (.s (toldB c)) ∧ (toldB c).length ≤ 4 ∧ 1 ≤ (toldB c).length := by
  have h := List.all_eq_true.1 told_all c.toNat (List.mem_range.2 c.toNat_lt)
  unfold toldOk at h
  have e : (D.i .u8 (.ofNat c.toNat)) = byteD c := rfl
  rw [e] at h
  unfold toldB
  split at h
  · rename_i x _ y _ h1 h2
    rw [h1,h2]
    simp only [Bool.and_eq_true] at h
    obtain ⟨⟨h3,h4⟩,h5⟩ := h
    have := listEq_eq (fun _ _ => of_decide_eq_true) h3
    subst this
    exact ⟨rfl,rfl,Nat.le_of_ble_eq_true h4,Nat.le_of_ble_eq_true h5⟩
  · cases h

theorem cl_byte (c : UInt8) : ([byteD c].all (D.closed 20)) = true := rfl
theorem cl_s (x : List UInt8) : (D.s x).closed 20 = true := rfl
theorem cx_told (c : UInt8) (h : AHeap) : CX Tryz.prog G 64 [byteD c] h (.s (toldB c)) h := closed_run tabOk (told_run c).1 (cl_byte c) (cl_s _) h
theorem cx_Told (c : UInt8) (h : AHeap) : CX Tryz.prog G 66 [byteD c] h (.s (toldB c)) h := closed_run tabOk (told_run c).2.1 (cl_byte c) (cl_s _) h

def qb (c : UInt8) : List UInt8 := if c = 34 then [92,34] else toldB c
def quoteL (s : List UInt8) : List UInt8 := 34 :: (s.flatMap qb ++ [34])

theorem qb_len (c : UInt8) : (qb c).length ≤ 4 ∧ 1 ≤ (qb c).length := by
  unfold qb
  split
  · decide
  · exact (told_run c).2.2
theorem qbs_len : ∀ (s : List UInt8),(s.flatMap qb).length ≤ 4 * s.length
  | [] => Nat.le_refl _
  | c :: r => by
    have := qbs_len r
    have := (qb_len c).1
    rw [List.flatMap_cons,List.length_append,List.length_cons]; omega
theorem quote_len (s : List UInt8) : (quoteL s).length ≤ 4 * s.length + 2 := by
  have := qbs_len s
  unfold quoteL
  simp only [List.length_cons,List.length_append,List.length_nil]; omega

theorem q34 {c : UInt8} (h : c = 34) : ((c.toNat : Int) == 34) = true := by subst h; rfl
theorem qn34 {c : UInt8} (h : ¬ c = 34) : ((c.toNat : Int) == 34) = false := by
  have : c.toNat ≠ 34 := fun e => h (UInt8.toNat_inj.1 (by rw [e]; rfl))
  simp only [beq_eq_false_iff_ne,ne_eq]; omega

theorem wj {j : Nat} (h : j ≤ 1048576) : IntKind.wrap .i64 ((j : Int) + 1) = ((j + 1 : Nat) : Int) := by
  have := wrapN (k := .i64) (m := j + 1) (by show j + 1 ≤ 9223372036854775807; omega)
  exact this

attribute [local irreducible] aop evT tm guardX Tr.get Tr.set WR WD WP WX WL thn blk lop View Gr toldB

variable {Γ : Nat → D}

set_option maxHeartbeats 20000000 in
theorem cx_writeB {n0 n lb : Nat} {t : Tr AObj} {acc : List UInt8} (c : UInt8) (h : BV n0 t n lb acc) (hr : acc.length + 1 ≤ room) :
    ∃ t' n',CX Tryz.prog G 63 [.ptr lb 0,byteD c] (S.mk t n).h .nili (S.mk t' n').h ∧ BV n0 t' n' lb (acc ++ [c]) ∧ n ≤ n' ∧ ∀ l,l < n0 → t'.get l = t.get l := by
  obtain ⟨hlo,hhi,p,s,hg,hp,hs⟩ := h
  obtain ⟨t1,hc,hg1,hsame⟩ := cx_check (Γ := G) (n := n) hg hp
  suffices hsuf : ∃ d t' n',CX Tryz.prog G 63 [.ptr lb 0,byteD c] (S.mk t n).h d (S.mk t' n').h ∧ (d = .nili ∧ BV n0 t' n' lb (acc ++ [c]) ∧ n ≤ n' ∧ ∀ l,l < n0 → t'.get l = t.get l) by
    obtain ⟨d',t',n',hx,rfl,k1,k2,k3⟩ := hsuf
    exact ⟨t',n',hx,k1,k2,k3⟩
  refine CX.ofWX (f := 63) (args := [.ptr lb 0,byteD c]) Tryz.func63 X63_eq (by kernel_rfl) (by kernel_rfl) (by rfl) ?_
  show WX _ _ X63.body ((Tr.e.set 0 (some (.ptr lb 0))).set 1 (some (.i .u8 (c.toNat : Nat)))) _ _ _
  unfold X63
  have hgb : (t1.set n (some (.cells [.i .u8 (c.toNat : Nat)] 1))).get lb = some (.cells [.ptr lb 0,s] 148) := Tr.get_there (by omega) hg1
  rcases hs with ⟨rfl,rfl⟩ | ⟨lg,hlg0,hlgn,hne,rfl,hacc,hgg⟩
  · have hgn : ((t1.set n (some (.cells [.i .u8 (c.toNat : Nat)] 1))).set (n + 1) (some (.cells [.i .u8 (c.toNat : Nat)] 13))).get lb = some (.cells [.ptr lb 0,.nils] 148) := Tr.get_there (by omega) hgb
    refine WX.seq ?_
    refine WX.region ?_
    refine WR.val gd_n rfl (A_mv rd_c rfl) ?_
    refine WR.nil ?_
    refine thn_n ?_
    refine WX.seq ?_
    refine WX.region ?_
    refine WR.val gd_n rfl (A_mv (rd_t (g2 rfl gh)) rfl) ?_
    refine WR.call gd_n (args_cons (rd_t gh) args_nil) rfl hc ?_
    refine WR.nil ?_
    refine thn_n ?_
    refine WX.seq ?_
    refine WX.region ?_
    refine WR.val gd_n rfl (A_mv (rd_t (g4 rfl gh)) rfl) ?_
    refine WR.val gd_n rfl (A_mv (rd_t (g4 rfl (gth rfl gh))) rfl) ?_
    refine WR.val gd_n rfl (A_nilchk (rd_t gh)) ?_
    refine WR.val gd_n rfl (A_faddr (rd_t gh)) ?_
    refine WR.val gd_n rfl (A_ld1 (rd_t gh) (by (first | exact gh | assumption | ((repeat refine Tr.get_there (by first | decide | omega) ?_); first | exact gh | assumption))) rfl) ?_
    refine WR.val gd_n rfl (A_mv (rd_t (g8 rfl gh)) rfl) ?_
    refine WR.new gd_n rfl (A_bs1 (rd_t gh) rfl rfl) ?_
    refine WR.new gd_n rfl (A_apN (rd_t (g2 rfl gh)) (rd_t gh) (C_sl gh (Nat.le_refl 1) rfl) (by decide) (by decide)) ?_
    refine WR.val gd_n rfl (A_nilchk (rd_t (g4 rfl (g2 rfl (gth rfl gh))))) ?_
    refine WR.val gd_n rfl (A_faddr (rd_t gh)) ?_
    refine WR.upd0 gd_n rfl (A_st (rd_t gh) (by (first | exact gh | assumption | ((repeat refine Tr.get_there (by first | decide | omega) ?_); first | exact gh | assumption))) (rd_t (g2 rfl gh)) rfl (Nat.le_of_ble_eq_true rfl) rfl rfl) ?_
    refine WR.nil ?_
    refine thn_n ?_
    refine WX.seq ?_
    refine WX.region ?_
    refine WR.val gd_n rfl (A_mv rd_c rfl) ?_
    refine WR.nil ?_
    refine thn_n ?_
    refine WX.ret ?_
    refine retQ_r (res_t gh res_nil) rfl ⟨rfl,⟨hlo,by omega,.ptr lb 0,_,gh,.inr rfl,.inr ⟨n + 1,by omega,by omega,by omega,rfl,by simp,?_⟩⟩,by omega,fun l hl => ?_⟩
    · rw [Tr.get_set,if_neg (by omega)]; exact gh
    · rw [Tr.get_set,if_neg (by omega),Tr.get_set,if_neg (by omega),Tr.get_set,if_neg (by omega)]; exact hsame l (by omega)
  · have hgg1 : (t1.set n (some (.cells [.i .u8 (c.toNat : Nat)] 1))).get lg = some (.cells (acc.map byteD) 13) := Tr.get_there (by omega) ((hsame lg hne).trans hgg)
    have hrm : (acc.length + 1) * 1 ≤ room := by simpa using hr
    have hcs : ((acc.map byteD).drop 0).take (acc.length * 1) ++ [D.i .u8 (c.toNat : Nat)] = (acc ++ [c]).map byteD := by rw [List.drop_zero,List.take_of_length_le (by simp),List.map_append]; rfl
    have hgn : (((t1.set n (some (.cells [.i .u8 (c.toNat : Nat)] 1))).set lg none).set (n + 1) (some (.cells ((acc ++ [c]).map byteD) 13))).get lb = some (.cells [.ptr lb 0,.sl 1 lg 0 acc.length] 148) := Tr.get_there (by omega) (Tr.get_there (by omega) hgb)
    have hsz : 0 + acc.length * 1 ≤ (acc.map byteD).length := by simp
    have hln : some n ≠ some lg := fun e => by have := Option.some.inj e; omega
    refine WX.seq ?_
    refine WX.region ?_
    refine WR.val gd_n rfl (A_mv rd_c rfl) ?_
    refine WR.nil ?_
    refine thn_n ?_
    refine WX.seq ?_
    refine WX.region ?_
    refine WR.val gd_n rfl (A_mv (rd_t (g2 rfl gh)) rfl) ?_
    refine WR.call gd_n (args_cons (rd_t gh) args_nil) rfl hc ?_
    refine WR.nil ?_
    refine thn_n ?_
    refine WX.seq ?_
    refine WX.region ?_
    refine WR.val gd_n rfl (A_mv (rd_t (g4 rfl gh)) rfl) ?_
    refine WR.val gd_n rfl (A_mv (rd_t (g4 rfl (gth rfl gh))) rfl) ?_
    refine WR.val gd_n rfl (A_nilchk (rd_t gh)) ?_
    refine WR.val gd_n rfl (A_faddr (rd_t gh)) ?_
    refine WR.val gd_n rfl (A_ld1 (rd_t gh) (by (first | exact gh | assumption | ((repeat refine Tr.get_there (by first | decide | omega) ?_); first | exact gh | assumption))) rfl) ?_
    refine WR.val gd_n rfl (A_mv (rd_t (g8 rfl gh)) rfl) ?_
    refine WR.new gd_n rfl (A_bs1 (rd_t gh) rfl rfl) ?_
    refine WR.app gd_n rfl (A_apS (rd_t (g2 rfl gh)) (rd_t gh) (C_sl gh (Nat.le_refl 1) rfl) (by decide) hln hgg1 hsz hrm (.inr ⟨rfl,rfl⟩) hcs) ?_
    refine WR.val gd_n rfl (A_nilchk (rd_t (g4 rfl (g2 rfl (gth rfl gh))))) ?_
    refine WR.val gd_n rfl (A_faddr (rd_t gh)) ?_
    refine WR.upd0 gd_n rfl (A_st (rd_t gh) (by (first | exact gh | assumption | ((repeat refine Tr.get_there (by first | decide | omega) ?_); first | exact gh | assumption))) (rd_t (g2 rfl gh)) rfl (Nat.le_of_ble_eq_true rfl) rfl rfl) ?_
    refine WR.nil ?_
    refine thn_n ?_
    refine WX.seq ?_
    refine WX.region ?_
    refine WR.val gd_n rfl (A_mv rd_c rfl) ?_
    refine WR.nil ?_
    refine thn_n ?_
    refine WX.ret ?_
    refine retQ_r (res_t gh res_nil) rfl ⟨rfl,⟨hlo,by omega,.ptr lb 0,_,gh,.inr rfl,.inr ⟨n + 1,by omega,by omega,by omega,by rw [List.length_append]; rfl,by simp,?_⟩⟩,by omega,fun l hl => ?_⟩
    · rw [Tr.get_set,if_neg (by omega)]; exact gh
    · rw [Tr.get_set,if_neg (by omega),Tr.get_set,if_neg (by omega),Tr.get_set,if_neg (by omega),Tr.get_set,if_neg (by omega)]; exact hsame l (by omega)
end
end Go.Proofs.YtelnkadnphephaaGreatDoor.T
end
noncomputable section
namespace Go.Proofs.YtelnkadnphephaaGreatDoor.T
open Go Go.Abs
noncomputable section

theorem cx_strB {n0 n lb : Nat} {t : Tr AObj} {acc : List UInt8} (h : BV n0 t n lb acc) : ∃ t',CX Tryz.prog G 29 [.ptr lb 0] (S.mk t n).h (.s acc) (S.mk t' n).h ∧ ∀ l,l < n0 → t'.get l = t.get l := by
  obtain ⟨h1,h2,p,s,h3,h4,h5⟩ := h
  rcases h5 with ⟨rfl,rfl⟩ | ⟨lg,k1,k2,k3,rfl,k5,k6⟩
  · exact ⟨t,cx_String_nil h3,fun _ _ => rfl⟩
  · refine ⟨t.set lg none,?_,fun l hl => by rw [Tr.get_set,if_neg (by omega)]⟩
    rw [set_heap t n lg _ n]
    exact cx_String h3 k6 (by rw [List.take_of_length_le (by simp)]; exact bytesD_map acc) rfl k5

theorem Gr.mkB {n0 n n1 : Nat} {t0 t t1 : Tr AObj} (g : Gr t0 n0 t n) (hn : n ≤ n1) (hk : ∀ l,l < n0 → t1.get l = t.get l) : Gr t0 n0 t1 n1 := ⟨Nat.le_trans g.1 hn,fun l hl => (hk l hl).trans (g.2 l hl)⟩

theorem BVnew {t : Tr AObj} {n : Nat} : BV n (t.set n (some (.cells [.nilp,.nils] 148))) (n + 1) n [] := ⟨Nat.le_refl _,Nat.lt_succ_self _,.nilp,.nils,gh,.inl rfl,.inl ⟨rfl,rfl⟩⟩
theorem qb34 : qb 34 = [92,34] := rfl
theorem qbn {c : UInt8} (h : ¬ c = 34) : qb c = toldB c := by unfold qb; rw [if_neg h]

attribute [local irreducible] aop evT tm guardX Tr.get Tr.set WR WD WP WX WL thn blk lop View Gr toldB qb

structure I36 (t0 : Tr AObj) (n0 lb : Nat) (T : Tr D) (t : Tr AObj) (n : Nat) (s acc : List UInt8) (j : Nat) : Prop where
  g : Gr t0 n0 t n
  b : BV n0 t n lb acc
  h0 : T.get 0 = some (.s s)
  h3 : T.get 3 = some (.ptr lb 0)
  h7 : T.get 7 = some (.i .i64 s.length)
  h8 : T.get 8 = some (.i .i64 (j : Nat))

set_option maxHeartbeats 20000000 in
theorem step36 {t0 : Tr AObj} {n0 lb : Nat} {T : Tr D} {t : Tr AObj} {n j : Nat} {s acc : List UInt8} {c : UInt8} (h : I36 t0 n0 lb T t n s acc j) (hj : s[j]? = some c) (hjl : j ≤ 1048576) (hacc : acc.length + 4 ≤ room)
    {Q : QX} (hQ : ∀ T' t' n',I36 t0 n0 lb T' t' n' s (acc ++ qb c) (j + 1) → Q .norm T' t' n') : WX Tryz.prog G X36_L0 T t n Q := by
  obtain ⟨hg,hb,h0,h3,h7,h8⟩ := h
  obtain ⟨hlt,_⟩ := List.getElem?_eq_some_iff.1 hj
  have hlt' : decide ((j : Int) < (s.length : Int)) = true := by simp [hlt]
  have hw := wj hjl
  unfold X36_L0
  by_cases hc : c = 34
  · have h14 := q34 hc
    obtain ⟨t1,n1,c1,b1,m1,k1⟩ := cx_writeB 92 hb (by omega)
    obtain ⟨t2,n2,c2,b2,m2,k2⟩ := cx_writeB 34 b1 (by rw [List.length_append]; simp only [List.length_singleton]; omega)
    have hq : acc ++ [92] ++ [34] = acc ++ qb c := by subst hc; rw [qb34,List.append_assoc]; rfl
    rw [hq] at b2
    refine WX.seq ?_
    refine WX.region ?_
    refine WR.val gd_n rfl (A_ltI (rd_t h8) (rd_t h7) hlt') ?_
    refine WR.nil ?_
    refine thn_n ?_
    refine WX.seq ?_
    refine WX.condT (rd_t gh) ?_
    refine WX.skip ?_
    refine thn_n ?_
    refine WX.seq ?_
    refine WX.block ?_
    refine WX.seq ?_
    refine WX.region ?_
    refine WR.val gd_n rfl (A_mv (rd_t (gth rfl h8)) rfl) ?_
    refine WR.val gd_n rfl (A_mv (rd_t gh) rfl) ?_
    refine WR.nil ?_
    refine thn_n ?_
    refine WX.seq ?_
    refine WX.region ?_
    refine WR.val gd_n rfl (A_mv (rd_t (Go.Abs.g2 rfl (gth rfl h0))) rfl) ?_
    refine WR.val gd_n rfl (A_mv (rd_t (gth rfl gh)) rfl) ?_
    refine WR.val gd_n rfl (A_idxS (rd_t (gth rfl gh)) (rd_t gh) hj) ?_
    refine WR.val gd_n rfl (A_eqI (rd_t gh) rd_c h14) ?_
    refine WR.nil ?_
    refine thn_n ?_
    refine WX.condT (rd_t gh) ?_
    refine WX.seq ?_
    refine WX.region ?_
    refine WR.call gd_n (args_cons (rd_t (Go.Abs.g4 rfl (Go.Abs.g2 rfl (gth rfl h3)))) (args_cons rd_c args_nil)) rfl c1 ?_
    refine WR.nil ?_
    refine thn_n ?_
    refine WX.region ?_
    refine WR.call gd_n (args_cons (rd_t (Go.Abs.g4 rfl (Go.Abs.g2 rfl (gth rfl (gth rfl h3))))) (args_cons rd_c args_nil)) rfl c2 ?_
    refine WR.nil ?_
    refine blk_n ?_
    refine thn_n ?_
    refine WX.region ?_
    refine WR.val gd_n rfl (A_add (rd_t (Go.Abs.g8 rfl (gth rfl h8))) rd_c hw) ?_
    refine WR.val gd_n rfl (A_mv (rd_t gh) rfl) ?_
    refine WR.nil ?_
    exact hQ _ _ _ ⟨(hg.mkB m1 k1).mkB m2 k2,b2,(Go.Abs.g8 rfl (Go.Abs.g2 rfl (gth rfl h0))),(Go.Abs.g8 rfl (Go.Abs.g2 rfl (gth rfl h3))),(Go.Abs.g8 rfl (Go.Abs.g2 rfl (gth rfl h7))),gh⟩
  · have h14 := qn34 hc
    have hl4 := (qb_len c).1
    rw [qbn hc] at hl4
    have c1 := cx_told c (S.mk t n).h
    obtain ⟨t2,n2,c2,b2,m2,k2⟩ := cx_write (Γ := G) (x := toldB c) hb (by omega)
    rw [← qbn hc] at b2
    refine WX.seq ?_
    refine WX.region ?_
    refine WR.val gd_n rfl (A_ltI (rd_t h8) (rd_t h7) hlt') ?_
    refine WR.nil ?_
    refine thn_n ?_
    refine WX.seq ?_
    refine WX.condT (rd_t gh) ?_
    refine WX.skip ?_
    refine thn_n ?_
    refine WX.seq ?_
    refine WX.block ?_
    refine WX.seq ?_
    refine WX.region ?_
    refine WR.val gd_n rfl (A_mv (rd_t (gth rfl h8)) rfl) ?_
    refine WR.val gd_n rfl (A_mv (rd_t gh) rfl) ?_
    refine WR.nil ?_
    refine thn_n ?_
    refine WX.seq ?_
    refine WX.region ?_
    refine WR.val gd_n rfl (A_mv (rd_t (Go.Abs.g2 rfl (gth rfl h0))) rfl) ?_
    refine WR.val gd_n rfl (A_mv (rd_t (gth rfl gh)) rfl) ?_
    refine WR.val gd_n rfl (A_idxS (rd_t (gth rfl gh)) (rd_t gh) hj) ?_
    refine WR.val gd_n rfl (A_eqI (rd_t gh) rd_c h14) ?_
    refine WR.nil ?_
    refine thn_n ?_
    refine WX.condF (rd_t gh) ?_
    refine WX.region ?_
    refine WR.val gd_n rfl (A_mv (rd_t (Go.Abs.g4 rfl (Go.Abs.g2 rfl (gth rfl h0)))) rfl) ?_
    refine WR.val gd_n rfl (A_mv (rd_t (Go.Abs.g4 rfl (gth rfl gh))) rfl) ?_
    refine WR.val gd_n rfl (A_idxS (rd_t (gth rfl gh)) (rd_t gh) hj) ?_
    refine WR.call gd_n (args_cons (rd_t gh) args_nil) rfl c1 ?_
    refine WR.call gd_n (args_cons (rd_t (Go.Abs.g8 rfl (Go.Abs.g2 rfl (gth rfl h3)))) (args_cons (rd_t gh) args_nil)) rfl c2 ?_
    refine WR.nil ?_
    refine blk_n ?_
    refine thn_n ?_
    refine WX.region ?_
    refine WR.val gd_n rfl (A_add (rd_t (Go.Abs.g8 rfl (Go.Abs.g2 rfl (gth rfl (gth rfl h8))))) rd_c hw) ?_
    refine WR.val gd_n rfl (A_mv (rd_t gh) rfl) ?_
    refine WR.nil ?_
    exact hQ _ _ _ ⟨hg.mkB m2 k2,b2,(Go.Abs.g8 rfl (Go.Abs.g4 rfl (gth rfl (gth rfl h0)))),(Go.Abs.g8 rfl (Go.Abs.g4 rfl (gth rfl (gth rfl h3)))),(Go.Abs.g8 rfl (Go.Abs.g4 rfl (gth rfl (gth rfl h7)))),gh⟩

theorem loop36 {t0 : Tr AObj} {n0 lb : Nat} {s : List UInt8} (hs : s.length ≤ 1048576) : ∀ (rest : List UInt8) (j : Nat) (acc : List UInt8) (T : Tr D) (t : Tr AObj) (n : Nat) (Q : QX),I36 t0 n0 lb T t n s acc j → s.drop j = rest → acc.length + 4 * rest.length ≤ room →
    (∀ T' t' n',Gr t0 n0 t' n' → BV n0 t' n' lb (acc ++ rest.flatMap qb) → T'.get 3 = some (.ptr lb 0) → Q (.exit 0) T' t' n') → WL Tryz.prog G X36_L0 T t n Q
  | [],j,acc,T,t,n,Q,h,hd,_,hQ => by
    have hge : s.length ≤ j := List.drop_eq_nil_iff.1 hd
    obtain ⟨hg,hb,h0,h3,h7,h8⟩ := h
    have hlt' : decide ((j : Int) < (s.length : Int)) = false := by simp; omega
    refine WL.more ?_
    unfold X36_L0
    refine WX.seq ?_
    refine WX.region ?_
    refine WR.val gd_n rfl (A_ltI (rd_t h8) (rd_t h7) hlt') ?_
    refine WR.nil ?_
    refine thn_n ?_
    refine WX.seq ?_
    refine WX.condF (rd_t gh) ?_
    refine WX.exit ?_
    refine thn_x ?_
    exact lop_x (hQ _ _ _ hg (by rw [List.flatMap_nil,List.append_nil]; exact hb) (gth rfl h3))
  | c :: r,j,acc,T,t,n,Q,h,hd,hr,hQ => by
    obtain ⟨h1,h2,h3,_⟩ := drop_cons hd.symm
    have hl := (qb_len c).1
    rw [List.length_cons] at hr
    refine WL.more (step36 h h2 (by omega) (by omega) fun T' t' n' h' => lop_n ?_)
    refine loop36 hs r (j + 1) _ T' t' n' Q h' h3.symm (by rw [List.length_append]; omega) fun T'' t'' n'' k1 k2 k3 => hQ _ _ _ k1 ?_ k3
    rw [List.flatMap_cons,← List.append_assoc]; exact k2

set_option maxHeartbeats 20000000 in
theorem qc_quote (s : List UInt8) (hs : s.length ≤ 1048576) : QC 36 [.s s] (.s (quoteL s)) := QC.of fun t n _ => by
  have hb0 : BV n (t.set n (some (.cells [.nilp,.nils] 148))) (n + 1) n [] := BVnew
  obtain ⟨t1,n1,c1,b1,m1,k1⟩ := cx_writeB 34 hb0 (by decide)
  have g1 : Gr t n t1 n1 := ((Gr.refl.set (Nat.le_refl _)).up (Nat.le_succ _)).mkB m1 k1
  have hq := quote_len s
  have key := CX.ofWX (P := Tryz.prog) (Γ := G) (t := t) (n := n) (f := 36) (args := [.s s]) Tryz.func36 X36_eq (by kernel_rfl) (by kernel_rfl) (by rfl) (R := fun d' t' n' => d' = .s (quoteL s) ∧ Gr t n t' n') (by
    show WX _ _ X36.body (Tr.e.set 0 (some (.s s))) _ _ _
    unfold X36
    refine WX.seq ?_
    refine WX.region ?_
    refine WR.val gd_n rfl (A_mv rd_c rfl) ?_
    refine WR.nil ?_
    refine thn_n ?_
    refine WX.seq ?_
    refine WX.region ?_
    refine WR.new gd_n rfl (A_alloc) ?_
    refine WR.nil ?_
    refine thn_n ?_
    refine WX.seq ?_
    refine WX.region ?_
    refine WR.call gd_n (args_cons (rd_t gh) (args_cons rd_c args_nil)) rfl c1 ?_
    refine WR.nil ?_
    refine thn_n ?_
    refine WX.seq ?_
    refine WX.seq ?_
    refine WX.region ?_
    refine WR.val gd_n rfl (A_mv (rd_t (Go.Abs.g2 rfl (gth rfl gh))) rfl) ?_
    refine WR.val gd_n rfl (A_lenS (rd_t gh)) ?_
    refine WR.val gd_n rfl (A_mv rd_c rfl) ?_
    refine WR.nil ?_
    refine thn_n ?_
    refine WX.block ?_
    refine WX.loop ?_
    refine loop36 (lb := n) hs s 0 [34] _ _ _ _ ⟨g1,b1,(Go.Abs.g4 rfl (Go.Abs.g2 rfl gh)),(Go.Abs.g4 rfl gh),(gth rfl gh),gh⟩ rfl (by rw [List.length_singleton]; unfold room; omega) fun T2 t2 n2 g2 b2 h3 => ?_
    have hl2 := qbs_len s
    obtain ⟨t3,n3,c3,b3,m3,k3⟩ := cx_writeB 34 b2 (by rw [List.length_append,List.length_singleton]; unfold room; omega)
    obtain ⟨t4,c4,k4⟩ := cx_strB b3
    refine blk_x ?_
    refine thn_n ?_
    refine WX.seq ?_
    refine WX.region ?_
    refine WR.call gd_n (args_cons (rd_t h3) (args_cons rd_c args_nil)) rfl c3 ?_
    refine WR.nil ?_
    refine thn_n ?_
    refine WX.seq ?_
    refine WX.region ?_
    refine WR.call gd_n (args_cons (rd_t (gth rfl h3)) args_nil) rfl c4 ?_
    refine WR.val gd_n rfl (A_mv (rd_t gh) rfl) ?_
    refine WR.nil ?_
    refine thn_n ?_
    refine WX.ret ?_
    exact retQ_r (res_t gh res_nil) rfl ⟨rfl,(g2.mkB m3 k3).mkB (Nat.le_refl _) k4⟩)
  obtain ⟨d',t',n',hx,rfl,g⟩ := key
  exact ⟨t',n',hx,g⟩

/-! ### The document's -/

structure I38 (t0 : Tr AObj) (n0 : Nat) (T : Tr D) (t : Tr AObj) (n : Nat) (s acc : List UInt8) (j : Nat) : Prop where
  g : Gr t0 n0 t n
  b : ∃ lo,n0 ≤ lo ∧ lo < n ∧ t.get lo = some (.cells (acc.map byteD) 1) ∧ T.get 3 = some (.sl 1 lo 0 acc.length)
  h0 : T.get 0 = some (.s s)
  h4 : T.get 4 = some (.i .i64 (j : Nat))

theorem ap_cells (acc x : List UInt8) : ((acc.map byteD).drop 0).take (acc.length * 1) ++ x.map byteD = (acc ++ x).map byteD := by rw [List.drop_zero,List.take_of_length_le (by simp),List.map_append]
theorem ap_len (acc : List UInt8) : 0 + acc.length * 1 ≤ (acc.map byteD).length := by simp

set_option maxHeartbeats 20000000 in
theorem step38 {t0 : Tr AObj} {n0 : Nat} {T : Tr D} {t : Tr AObj} {n j : Nat} {s acc : List UInt8} {c : UInt8} (h : I38 t0 n0 T t n s acc j) (hj : s[j]? = some c) (hjl : j ≤ 1048576) (hacc : acc.length + 4 ≤ room)
    {Q : QX} (hQ : ∀ T' t' n',I38 t0 n0 T' t' n' s (acc ++ qb c) (j + 1) → Q .norm T' t' n') : WX Tryz.prog G X38_L0 T t n Q := by
  obtain ⟨hg,⟨lo,hlo,hln,hgl,h3⟩,h0,h4⟩ := h
  have hgn := Gr.low hg
  obtain ⟨hlt,_⟩ := List.getElem?_eq_some_iff.1 hj
  have hlt' : decide ((j : Int) < (s.length : Int)) = true := by simp [hlt]
  have hw := wj hjl
  unfold X38_L0
  by_cases hc : c = 34
  · have h14 := q34 hc
    have hn1 : some n ≠ some lo := fun e => by have := Option.some.inj e; omega
    have hn2 : some (n + 1 + 1) ≠ some (n + 1) := fun e => by have := Option.some.inj e; omega
    have r1 : (acc.length + 1) * 1 ≤ room := by omega
    have r2 : (acc.length + 1 + 1) * 1 ≤ room := by omega
    have e1 := ap_cells acc [92]
    have e2 := ap_cells (acc ++ [92]) [34]
    have l1 := ap_len acc
    have l2 := ap_len (acc ++ [92])
    have hla : (acc ++ [(92 : UInt8)]).length = acc.length + 1 := by simp
    rw [hla] at e2 l2
    have g1 : (t.set n (some (.cells [byteD 92] 1))).get lo = some (.cells (acc.map byteD) 1) := Tr.get_there (by omega) hgl
    have g2 : ((((t.set n (some (.cells [byteD 92] 1))).set lo none).set (n + 1) (some (.cells ((acc ++ [92]).map byteD) 1))).set (n + 1 + 1) (some (.cells [byteD 34] 1))).get (n + 1) = some (.cells ((acc ++ [92]).map byteD) 1) := Tr.get_there (by omega) gh
    refine WX.seq ?_
    refine WX.seq ?_
    refine WX.region ?_
    refine WR.val gd_n rfl (A_mv (rd_t h4) rfl) ?_
    refine WR.val gd_n rfl (A_mv (rd_t (gth rfl h0)) rfl) ?_
    refine WR.val gd_n rfl (A_lenS (rd_t gh)) ?_
    refine WR.val gd_n rfl (A_ltI (rd_t (Go.Abs.g2 rfl gh)) (rd_t gh) hlt') ?_
    refine WR.nil ?_
    refine thn_n ?_
    refine WX.condT (rd_t gh) ?_
    refine WX.skip ?_
    refine thn_n ?_
    refine WX.seq ?_
    refine WX.block ?_
    refine WX.seq ?_
    refine WX.region ?_
    refine WR.val gd_n rfl (A_mv (rd_t (Go.Abs.g2 rfl (gth rfl (gth rfl h0)))) rfl) ?_
    refine WR.val gd_n rfl (A_mv (rd_t (Go.Abs.g4 rfl (gth rfl h4))) rfl) ?_
    refine WR.val gd_n rfl (A_idxS (rd_t (gth rfl gh)) (rd_t gh) hj) ?_
    refine WR.val gd_n rfl (A_eqI (rd_t gh) rd_c h14) ?_
    refine WR.nil ?_
    refine thn_n ?_
    refine WX.condT (rd_t gh) ?_
    refine WX.seq ?_
    refine WX.region ?_
    refine WR.val gd_n rfl (A_mv (rd_t (Go.Abs.g4 rfl (Go.Abs.g2 rfl (gth rfl (gth rfl h3))))) rfl) ?_
    refine WR.new gd_n rfl (A_bs1 (ds := [byteD 92]) rd_c rfl rfl) ?_
    refine WR.app gd_n rfl (A_apS (rd_t (gth rfl gh)) (rd_t gh) (C_sl gh (Nat.le_refl 1) rfl) (by decide) hn1 g1 l1 r1 (.inl (by decide)) e1) ?_
    refine WR.val gd_n rfl (A_mv (rd_t gh) rfl) ?_
    refine WR.nil ?_
    refine thn_n ?_
    refine WX.region ?_
    refine WR.val gd_n rfl (A_mv (rd_t gh) rfl) ?_
    refine WR.new gd_n rfl (A_bs1 (ds := [byteD 34]) rd_c rfl rfl) ?_
    refine WR.app gd_n rfl (A_apS (rd_t (gth rfl gh)) (rd_t gh) (C_sl gh (Nat.le_refl 1) rfl) (by decide) hn2 g2 l2 r2 (.inl (by decide)) e2) ?_
    refine WR.val gd_n rfl (A_mv (rd_t gh) rfl) ?_
    refine WR.nil ?_
    refine blk_n ?_
    refine thn_n ?_
    refine WX.region ?_
    refine WR.val gd_n rfl (A_mv (rd_t (Go.Abs.g8 rfl (Go.Abs.g4 rfl (Go.Abs.g2 rfl (gth rfl (gth rfl h4)))))) rfl) ?_
    refine WR.val gd_n rfl (A_add (rd_t gh) rd_c hw) ?_
    refine WR.val gd_n rfl (A_mv (rd_t gh) rfl) ?_
    refine WR.nil ?_
    have hq : acc ++ [92] ++ [34] = acc ++ qb c := by subst hc; rw [qb34,List.append_assoc]; rfl
    have hqt : acc.length + 1 + 1 = (acc ++ qb c).length := by rw [← hq]; simp
    rw [hq,hqt]
    exact hQ _ _ _ ⟨(by (repeat refine Gr.set ?_ (by omega)); exact hg.up (by omega)),⟨_,by omega,Nat.lt_succ_self _,gh,(Go.Abs.g2 rfl (gth rfl gh))⟩,(Go.Abs.g8 rfl (Go.Abs.g8 rfl (Go.Abs.g2 rfl (gth rfl h0)))),gh⟩
  · have h14 := qn34 hc
    have hl4 := qb_len c
    rw [qbn hc] at hl4
    have c1 := cx_Told c (S.mk t n).h
    have r1 : (acc.length + (toldB c).length) * 1 ≤ room := by omega
    have e1 := ap_cells acc (toldB c)
    have l1 := ap_len acc
    refine WX.seq ?_
    refine WX.seq ?_
    refine WX.region ?_
    refine WR.val gd_n rfl (A_mv (rd_t h4) rfl) ?_
    refine WR.val gd_n rfl (A_mv (rd_t (gth rfl h0)) rfl) ?_
    refine WR.val gd_n rfl (A_lenS (rd_t gh)) ?_
    refine WR.val gd_n rfl (A_ltI (rd_t (Go.Abs.g2 rfl gh)) (rd_t gh) hlt') ?_
    refine WR.nil ?_
    refine thn_n ?_
    refine WX.condT (rd_t gh) ?_
    refine WX.skip ?_
    refine thn_n ?_
    refine WX.seq ?_
    refine WX.block ?_
    refine WX.seq ?_
    refine WX.region ?_
    refine WR.val gd_n rfl (A_mv (rd_t (Go.Abs.g2 rfl (gth rfl (gth rfl h0)))) rfl) ?_
    refine WR.val gd_n rfl (A_mv (rd_t (Go.Abs.g4 rfl (gth rfl h4))) rfl) ?_
    refine WR.val gd_n rfl (A_idxS (rd_t (gth rfl gh)) (rd_t gh) hj) ?_
    refine WR.val gd_n rfl (A_eqI (rd_t gh) rd_c h14) ?_
    refine WR.nil ?_
    refine thn_n ?_
    refine WX.condF (rd_t gh) ?_
    refine WX.region ?_
    refine WR.val gd_n rfl (A_mv (rd_t (Go.Abs.g4 rfl (Go.Abs.g2 rfl (gth rfl (gth rfl h3))))) rfl) ?_
    refine WR.val gd_n rfl (A_mv (rd_t (Go.Abs.g8 rfl (gth rfl h0))) rfl) ?_
    refine WR.val gd_n rfl (A_mv (rd_t (Go.Abs.g8 rfl (gth rfl (gth rfl h4)))) rfl) ?_
    refine WR.val gd_n rfl (A_idxS (rd_t (gth rfl gh)) (rd_t gh) hj) ?_
    refine WR.call gd_n (args_cons (rd_t gh) args_nil) rfl c1 ?_
    refine WR.app gd_n rfl (A_appSSl (rd_t (Go.Abs.g4 rfl gh)) (rd_t gh) (Nat.ne_of_gt hl4.2) hgl l1 r1 (.inl (by decide)) e1) ?_
    refine WR.val gd_n rfl (A_mv (rd_t gh) rfl) ?_
    refine WR.nil ?_
    refine blk_n ?_
    refine thn_n ?_
    refine WX.region ?_
    refine WR.val gd_n rfl (A_mv (rd_t (Go.Abs.g8 rfl (Go.Abs.g4 rfl (Go.Abs.g2 rfl (gth rfl h4))))) rfl) ?_
    refine WR.val gd_n rfl (A_add (rd_t gh) rd_c hw) ?_
    refine WR.val gd_n rfl (A_mv (rd_t gh) rfl) ?_
    refine WR.nil ?_
    rw [← qbn hc]
    rw [← List.length_append]
    exact hQ _ _ _ ⟨(by (repeat refine Gr.set ?_ (by omega)); exact hg.up (by omega)),⟨_,by omega,Nat.lt_succ_self _,gh,(Go.Abs.g2 rfl (gth rfl gh))⟩,(Go.Abs.g8 rfl (Go.Abs.g8 rfl (gth rfl (gth rfl h0)))),gh⟩

theorem loop38 {t0 : Tr AObj} {n0 : Nat} {s : List UInt8} (hs : s.length ≤ 1048576) : ∀ (rest : List UInt8) (j : Nat) (acc : List UInt8) (T : Tr D) (t : Tr AObj) (n : Nat) (Q : QX),I38 t0 n0 T t n s acc j → s.drop j = rest → acc.length + 4 * rest.length ≤ room →
    (∀ T' t' n',Gr t0 n0 t' n' → (∃ lo,n0 ≤ lo ∧ lo < n' ∧ t'.get lo = some (.cells ((acc ++ rest.flatMap qb).map byteD) 1) ∧ T'.get 3 = some (.sl 1 lo 0 (acc ++ rest.flatMap qb).length)) → Q (.exit 0) T' t' n') → WL Tryz.prog G X38_L0 T t n Q
  | [],j,acc,T,t,n,Q,h,hd,_,hQ => by
    have hge : s.length ≤ j := List.drop_eq_nil_iff.1 hd
    obtain ⟨hg,⟨lo,hlo,hln,hgl,h3⟩,h0,h4⟩ := h
    have hlt' : decide ((j : Int) < (s.length : Int)) = false := by simp; omega
    refine WL.more ?_
    unfold X38_L0
    refine WX.seq ?_
    refine WX.seq ?_
    refine WX.region ?_
    refine WR.val gd_n rfl (A_mv (rd_t h4) rfl) ?_
    refine WR.val gd_n rfl (A_mv (rd_t (gth rfl h0)) rfl) ?_
    refine WR.val gd_n rfl (A_lenS (rd_t gh)) ?_
    refine WR.val gd_n rfl (A_ltI (rd_t (Go.Abs.g2 rfl gh)) (rd_t gh) hlt') ?_
    refine WR.nil ?_
    refine thn_n ?_
    refine WX.condF (rd_t gh) ?_
    refine WX.exit ?_
    refine thn_x ?_
    exact lop_x (hQ _ _ _ hg (by rw [List.flatMap_nil,List.append_nil]; exact ⟨lo,hlo,hln,hgl,(Go.Abs.g2 rfl (gth rfl (gth rfl h3)))⟩))
  | c :: r,j,acc,T,t,n,Q,h,hd,hr,hQ => by
    obtain ⟨h1,h2,h3,_⟩ := drop_cons hd.symm
    have hl := (qb_len c).1
    rw [List.length_cons] at hr
    refine WL.more (step38 h h2 (by omega) (by omega) fun T' t' n' h' => lop_n ?_)
    refine loop38 hs r (j + 1) _ T' t' n' Q h' h3.symm (by rw [List.length_append]; omega) fun T'' t'' n'' k1 k2 => hQ _ _ _ k1 ?_
    rw [List.flatMap_cons,← List.append_assoc]; exact k2

set_option maxHeartbeats 20000000 in
theorem qc_Quote (s : List UInt8) (hs : s.length ≤ 1048576) : QC 38 [.s s] (.s (quoteL s)) := QC.of fun t n _ => by
  have hq := quote_len s
  have hl2 := qbs_len s
  have key := CX.ofWX (P := Tryz.prog) (Γ := G) (t := t) (n := n) (f := 38) (args := [.s s]) Tryz.func38 X38_eq (by kernel_rfl) (by kernel_rfl) (by rfl) (R := fun d' t' n' => d' = .s (quoteL s) ∧ Gr t n t' n') (by
    show WX _ _ X38.body (Tr.e.set 0 (some (.s s))) _ _ _
    unfold X38
    refine WX.seq ?_
    refine WX.region ?_
    refine WR.val gd_n rfl (A_mv rd_c rfl) ?_
    refine WR.nil ?_
    refine thn_n ?_
    refine WX.seq ?_
    refine WX.region ?_
    refine WR.new gd_n rfl (A_bs1 (ds := [byteD 34]) rd_c rfl rfl) ?_
    refine WR.val gd_n rfl (A_mv (rd_t gh) rfl) ?_
    refine WR.nil ?_
    refine thn_n ?_
    refine WX.seq ?_
    refine WX.seq ?_
    refine WX.region ?_
    refine WR.val gd_n rfl (A_mv rd_c rfl) ?_
    refine WR.nil ?_
    refine thn_n ?_
    refine WX.block ?_
    refine WX.loop ?_
    refine loop38 hs s 0 [34] _ _ _ _ ⟨((Gr.refl.set (Nat.le_refl _)).up (Nat.le_succ _)),⟨n,Nat.le_refl _,Nat.lt_succ_self _,gh,(gth rfl gh)⟩,(Go.Abs.g4 rfl gh),gh⟩ rfl (by rw [List.length_singleton]; unfold room; omega) fun T2 t2 n2 g2 hb => ?_
    obtain ⟨lo,hlo,hln,hgl,h3⟩ := hb
    have hgn := Gr.low g2
    have hn1 : some n2 ≠ some lo := fun e => by have := Option.some.inj e; omega
    have r1 : (([34] ++ s.flatMap qb).length + 1) * 1 ≤ room := by rw [List.length_append,List.length_singleton]; unfold room; omega
    have e1 := ap_cells ([34] ++ s.flatMap qb) [34]
    have l1 := ap_len ([34] ++ s.flatMap qb)
    have g1 : (t2.set n2 (some (.cells [byteD 34] 1))).get lo = some (.cells (([34] ++ s.flatMap qb).map byteD) 1) := Tr.get_there (by omega) hgl
    have hL : (([34] ++ s.flatMap qb) ++ [(34 : UInt8)]).length = ([34] ++ s.flatMap qb).length + 1 := by simp
    have hmx : (([34] ++ s.flatMap qb) ++ [(34 : UInt8)]).length ≤ maxN := by rw [hL,List.length_append,List.length_singleton]; unfold maxN; omega
    have hle : 0 + (([34] ++ s.flatMap qb).length + 1) ≤ ((([34] ++ s.flatMap qb) ++ [(34 : UInt8)]).map byteD).length := by rw [List.length_map,hL]; omega
    have htk : (((([34] ++ s.flatMap qb) ++ [(34 : UInt8)]).map byteD).drop 0).take (([34] ++ s.flatMap qb).length + 1) = (([34] ++ s.flatMap qb) ++ [34]).map byteD := by
      rw [List.drop_zero,List.take_of_length_le (by rw [List.length_map,hL]; exact Nat.le_refl _)]
    refine blk_x ?_
    refine thn_n ?_
    refine WX.seq ?_
    refine WX.region ?_
    refine WR.val gd_n rfl (A_mv (rd_t h3) rfl) ?_
    refine WR.new gd_n rfl (A_bs1 (ds := [byteD 34]) rd_c rfl rfl) ?_
    refine WR.app gd_n rfl (A_apS (rd_t (gth rfl gh)) (rd_t gh) (C_sl gh (Nat.le_refl 1) rfl) (by decide) hn1 g1 l1 r1 (.inl (by decide)) e1) ?_
    refine WR.val gd_n rfl (A_convBS (rd_t gh) gh hle htk hmx) ?_
    refine WR.val gd_n rfl (A_mv (rd_t gh) rfl) ?_
    refine WR.nil ?_
    refine thn_n ?_
    refine WX.ret ?_
    exact retQ_r (res_t gh res_nil) rfl ⟨rfl,(by (repeat refine Gr.set ?_ (by omega)); exact g2.up (by omega))⟩)
  obtain ⟨d',t',n',hx,rfl,g⟩ := key
  exact ⟨t',n',hx,g⟩
end
end Go.Proofs.YtelnkadnphephaaGreatDoor.T
end
noncomputable section
namespace Go.Proofs.YtelnkadnphephaaGreatDoor.T
open Go Go.Abs
noncomputable section

def addW : Nat → List UInt8 → List (List UInt8) → List UInt8
  | _,acc,[] => acc
  | 0,acc,w :: r => addW 1 (acc ++ w) r
  | j + 1,acc,w :: r => addW (j + 2) (acc ++ [32] ++ w) r

def sumW : List (List UInt8) → Nat
  | [] => 0
  | w :: r => w.length + 1 + sumW r

theorem addW_len : ∀ (ws : List (List UInt8)) (j : Nat) (acc : List UInt8),(addW j acc ws).length ≤ acc.length + sumW ws
  | [],j,acc => by cases j <;> simp [addW,sumW]
  | w :: r,0,acc => by
    have := addW_len r 1 (acc ++ w)
    simp only [addW,sumW,List.length_append] at this ⊢; omega
  | w :: r,j + 1,acc => by
    have := addW_len r (j + 2) (acc ++ [32] ++ w)
    simp only [addW,sumW,List.length_append,List.length_singleton] at this ⊢; omega

attribute [local irreducible] aop evT tm guardX Tr.get Tr.set WR WD WP WX WL thn blk lop View Gr

structure I34 (t0 : Tr AObj) (n0 ls lw ms : Nat) (T : Tr D) (t : Tr AObj) (n : Nat) (ws : List (List UInt8)) (acc : List UInt8) (j : Nat) : Prop where
  s : t.get ls = some (.cells [.s acc] ms)
  o : ∀ l,l ≠ ls → t.get l = t0.get l
  n : n = n0
  h1 : T.get 1 = some (.ptr ls 0)
  h5 : T.get 5 = some (.sl 1 lw 0 ws.length)
  h6 : T.get 6 = some (.i .i64 ws.length)
  h7 : T.get 7 = some (.i .i64 (j : Nat))

set_option maxHeartbeats 20000000 in
theorem loop34 {t0 : Tr AObj} {n0 ls lw ms mw : Nat} {ws : List (List UInt8)} (hw0 : t0.get lw = some (.cells (ws.map .s) mw)) (hne : ls ≠ lw) (hws : ws.length ≤ 1000) : ∀ (rest : List (List UInt8)) (j : Nat) (acc : List UInt8) (T : Tr D) (t : Tr AObj) (n : Nat) (Q : QX),I34 t0 n0 ls lw ms T t n ws acc j → ws.drop j = rest → acc.length + sumW rest + 1 ≤ maxN →
    (∀ T' t',t'.get ls = some (.cells [.s (addW j acc rest)] ms) → (∀ l,l ≠ ls → t'.get l = t0.get l) → T'.get 1 = some (.ptr ls 0) → Q (.exit 0) T' t' n0) → WL Tryz.prog G X34_L0 T t n Q
  | [],j,acc,T,t,n,Q,h,hd,_,hQ => by
    have hge : ws.length ≤ j := List.drop_eq_nil_iff.1 hd
    obtain ⟨hs,ho,rfl,h1,h5,h6,h7⟩ := h
    have hlt' : decide ((j : Int) < (ws.length : Int)) = false := by simp; omega
    refine WL.more ?_
    unfold X34_L0
    refine WX.seq ?_
    refine WX.region ?_
    refine WR.val gd_n rfl (A_ltI (rd_t h7) (rd_t h6) hlt') ?_
    refine WR.nil ?_
    refine thn_n ?_
    refine WX.seq ?_
    refine WX.condF (rd_t gh) ?_
    refine WX.exit ?_
    refine thn_x ?_
    exact lop_x (hQ _ _ (by cases j <;> exact hs) ho (gth rfl h1))
  | w :: r,j,acc,T,t,n,Q,h,hd,hr,hQ => by
    obtain ⟨hjl,hj,hd',_⟩ := drop_cons hd.symm
    obtain ⟨hs,ho,rfl,h1,h5,h6,h7⟩ := h
    have hlt' : decide ((j : Int) < (ws.length : Int)) = true := by simp [hjl]
    have hwj := wj (j := j) (by omega)
    have hlw : t.get lw = some (.cells (ws.map .s) mw) := (ho lw (Ne.symm hne)).trans hw0
    have hcell : (ws.map D.s)[0 + j * 1]? = some (.s w) := by rw [Nat.zero_add,Nat.mul_one,List.getElem?_map,hj]; rfl
    simp only [sumW] at hr
    refine WL.more ?_
    unfold X34_L0
    cases j with
    | zero =>
      have h13 : decide (((0 : Nat) : Int) > 0) = false := rfl
      have a1 : acc.length + w.length ≤ maxN := by omega
      refine WX.seq ?_
      refine WX.region ?_
      refine WR.val gd_n rfl (A_ltI (rd_t h7) (rd_t h6) hlt') ?_
      refine WR.nil ?_
      refine thn_n ?_
      refine WX.seq ?_
      refine WX.condT (rd_t gh) ?_
      refine WX.skip ?_
      refine thn_n ?_
      refine WX.seq ?_
      refine WX.block ?_
      refine WX.seq ?_
      refine WX.region ?_
      refine WR.val gd_n rfl (A_mv (rd_t (gth rfl h7)) rfl) ?_
      refine WR.val gd_n rfl (A_iaddrSl (rd_t (gth rfl (gth rfl h5))) (rd_t (gth rfl (gth rfl h7))) hjl rfl) ?_
      refine WR.val gd_n rfl (A_ld1 (rd_t gh) hlw hcell) ?_
      refine WR.val gd_n rfl (A_mv (rd_t (g2 rfl gh)) rfl) ?_
      refine WR.val gd_n rfl (A_mv (rd_t (gth rfl gh)) rfl) ?_
      refine WR.nil ?_
      refine thn_n ?_
      refine WX.seq ?_
      refine WX.seq ?_
      refine WX.region ?_
      refine WR.val gd_n rfl (A_mv (rd_t (gth rfl gh)) rfl) ?_
      refine WR.val gd_n rfl (A_gtI (rd_t gh) rd_c h13) ?_
      refine WR.nil ?_
      refine thn_n ?_
      refine WX.condF (rd_t gh) ?_
      refine WX.skip ?_
      refine thn_n ?_
      refine WX.region ?_
      refine WR.val gd_n rfl (A_ld1 (rd_t (g4 rfl (g2 rfl (gth rfl (gth rfl h1))))) hs rfl) ?_
      refine WR.val gd_n rfl (A_mv (rd_t (g2 rfl (gth rfl gh))) rfl) ?_
      refine WR.val gd_n rfl (A_addS (rd_t (gth rfl gh)) (rd_t gh) a1 rfl) ?_
      refine WR.upd0 gd_n rfl (A_st (rd_t (g8 rfl (g2 rfl (gth rfl h1)))) (by first | exact hs | exact gh) (rd_t gh) rfl (Nat.le_refl _) rfl rfl) ?_
      refine WR.nil ?_
      refine blk_n ?_
      refine thn_n ?_
      refine WX.region ?_
      refine WR.val gd_n rfl (A_add (rd_t (g8 rfl (g2 rfl (gth rfl h7)))) rd_c hwj) ?_
      refine WR.val gd_n rfl (A_mv (rd_t gh) rfl) ?_
      refine WR.nil ?_
      refine lop_n (loop34 hw0 hne hws r 1 (acc ++ w) _ _ _ Q ⟨gh,fun l hl => (Tr.get_there hl (ho l hl)),rfl,(g8 rfl (g4 rfl (gth rfl h1))),(g8 rfl (g4 rfl (gth rfl h5))),(g8 rfl (g4 rfl (gth rfl h6))),gh⟩ hd'.symm (by rw [List.length_append]; omega) hQ)
    | succ j =>
      have h13 : decide (((j + 1 : Nat) : Int) > 0) = true := decide_eq_true (by omega)
      have a0 : acc.length + [(32 : UInt8)].length ≤ maxN := by rw [List.length_singleton]; omega
      have a1 : (acc ++ [32]).length + w.length ≤ maxN := by rw [List.length_append,List.length_singleton]; omega
      refine WX.seq ?_
      refine WX.region ?_
      refine WR.val gd_n rfl (A_ltI (rd_t h7) (rd_t h6) hlt') ?_
      refine WR.nil ?_
      refine thn_n ?_
      refine WX.seq ?_
      refine WX.condT (rd_t gh) ?_
      refine WX.skip ?_
      refine thn_n ?_
      refine WX.seq ?_
      refine WX.block ?_
      refine WX.seq ?_
      refine WX.region ?_
      refine WR.val gd_n rfl (A_mv (rd_t (gth rfl h7)) rfl) ?_
      refine WR.val gd_n rfl (A_iaddrSl (rd_t (gth rfl (gth rfl h5))) (rd_t (gth rfl (gth rfl h7))) hjl rfl) ?_
      refine WR.val gd_n rfl (A_ld1 (rd_t gh) hlw hcell) ?_
      refine WR.val gd_n rfl (A_mv (rd_t (g2 rfl gh)) rfl) ?_
      refine WR.val gd_n rfl (A_mv (rd_t (gth rfl gh)) rfl) ?_
      refine WR.nil ?_
      refine thn_n ?_
      refine WX.seq ?_
      refine WX.seq ?_
      refine WX.region ?_
      refine WR.val gd_n rfl (A_mv (rd_t (gth rfl gh)) rfl) ?_
      refine WR.val gd_n rfl (A_gtI (rd_t gh) rd_c h13) ?_
      refine WR.nil ?_
      refine thn_n ?_
      refine WX.condT (rd_t gh) ?_
      refine WX.region ?_
      refine WR.val gd_n rfl (A_ld1 (rd_t (g4 rfl (g2 rfl (gth rfl (gth rfl h1))))) hs rfl) ?_
      refine WR.val gd_n rfl (A_addS (rd_t gh) rd_c a0 rfl) ?_
      refine WR.upd0 gd_n rfl (A_st (rd_t (g8 rfl (gth rfl (gth rfl h1)))) (by first | exact gh | exact hs) (rd_t gh) rfl (Nat.le_refl _) rfl rfl) ?_
      refine WR.nil ?_
      refine thn_n ?_
      refine WX.region ?_
      refine WR.val gd_n rfl (A_ld1 (rd_t (g8 rfl (gth rfl (gth rfl h1)))) gh rfl) ?_
      refine WR.val gd_n rfl (A_mv (rd_t (g4 rfl (gth rfl gh))) rfl) ?_
      refine WR.val gd_n rfl (A_addS (rd_t (gth rfl gh)) (rd_t gh) a1 rfl) ?_
      refine WR.upd0 gd_n rfl (A_st (rd_t (g8 rfl (g4 rfl (gth rfl h1)))) (by first | exact gh | exact hs) (rd_t gh) rfl (Nat.le_refl _) rfl rfl) ?_
      refine WR.nil ?_
      refine blk_n ?_
      refine thn_n ?_
      refine WX.region ?_
      refine WR.val gd_n rfl (A_add (rd_t (g8 rfl (g4 rfl (gth rfl h7)))) rd_c hwj) ?_
      refine WR.val gd_n rfl (A_mv (rd_t gh) rfl) ?_
      refine WR.nil ?_
      refine lop_n (loop34 hw0 hne hws r (j + 2) (acc ++ [32] ++ w) _ _ _ Q ⟨gh,fun l hl => (Tr.get_there hl (Tr.get_there hl (ho l hl))),rfl,(g8 rfl (g4 rfl (g2 rfl (gth rfl h1)))),(g8 rfl (g4 rfl (g2 rfl (gth rfl h5)))),(g8 rfl (g4 rfl (g2 rfl (gth rfl h6)))),gh⟩ hd'.symm (by rw [List.length_append,List.length_append,List.length_singleton]; omega) hQ)

set_option maxHeartbeats 20000000 in
theorem cx_line {t : Tr AObj} {n ls lw ms mw : Nat} {acc : List UInt8} {ws : List (List UInt8)} (hs : t.get ls = some (.cells [.s acc] ms)) (hw : t.get lw = some (.cells (ws.map .s) mw)) (hne : ls ≠ lw) (hws : ws.length ≤ 1000) (hl : acc.length + sumW ws + 1 ≤ maxN) :
    CX Tryz.prog G 34 [.sl 1 lw 0 ws.length,.ptr ls 0] (S.mk t n).h (.tup []) (S.mk (t.set ls (some (.cells [.s (addW 0 acc ws ++ [10])] ms))) n).h := by
  have hlen := addW_len ws 0 acc
  have a2 : (addW 0 acc ws).length + [(10 : UInt8)].length ≤ maxN := by rw [List.length_singleton]; omega
  have key := CX.ofWX (P := Tryz.prog) (Γ := G) (t := t) (n := n) (f := 34) (args := [.sl 1 lw 0 ws.length,.ptr ls 0]) Tryz.func34 X34_eq (by kernel_rfl) (by kernel_rfl) (by rfl) (R := fun d' t' n' => d' = .tup [] ∧ (∀ l,t'.get l = (t.set ls (some (.cells [.s (addW 0 acc ws ++ [10])] ms))).get l) ∧ n' = n) (by
    show WX _ _ X34.body ((Tr.e.set 0 (some (.sl 1 lw 0 ws.length))).set 1 (some (.ptr ls 0))) _ _ _
    unfold X34
    refine WX.seq ?_
    refine WX.seq ?_
    refine WX.region ?_
    refine WR.val gd_n rfl (A_mv (rd_t (gth rfl gh)) rfl) ?_
    refine WR.val gd_n rfl (A_lenSl (rd_t gh)) ?_
    refine WR.val gd_n rfl (A_mv rd_c rfl) ?_
    refine WR.nil ?_
    refine thn_n ?_
    refine WX.block ?_
    refine WX.loop ?_
    refine loop34 hw hne hws ws 0 acc _ _ _ _ ⟨hs,fun _ _ => rfl,rfl,(g2 rfl (gth rfl gh)),(g2 rfl gh),(gth rfl gh),gh⟩ rfl hl fun T2 t2 k1 k2 h1 => ?_
    refine blk_x ?_
    refine thn_n ?_
    refine WX.region ?_
    refine WR.val gd_n rfl (A_ld1 (rd_t h1) k1 rfl) ?_
    refine WR.val gd_n rfl (A_addS (rd_t gh) rd_c a2 rfl) ?_
    refine WR.upd0 gd_n rfl (A_st (rd_t (gth rfl (gth rfl h1))) k1 (rd_t gh) rfl (Nat.le_refl _) rfl rfl) ?_
    refine WR.nil ?_
    refine ⟨.inl rfl,rfl,rfl,fun l => ?_,rfl⟩
    rw [Tr.get_set,Tr.get_set]
    split
    · rfl
    · rename_i hl; exact k2 l hl)
  obtain ⟨d',t',n',hx,rfl,hg,rfl⟩ := key
  have e : (S.mk t' n').h = (S.mk (t.set ls (some (.cells [.s (addW 0 acc ws ++ [10])] ms))) n').h := AHeap.eq hg rfl
  rw [← e]; exact hx
end
end Go.Proofs.YtelnkadnphephaaGreatDoor.T
end
noncomputable section
namespace Go.Proofs.YtelnkadnphephaaGreatDoor.T
open Go Go.Abs
noncomputable section

theorem QC.at {f : FuncId} {args : List D} {d : D} (h : QC f args d) {t : Tr AObj} {n m : Nat} (hf : Fr t n) (hm : n ≤ m) : ∃ n',m ≤ n' ∧ CX Tryz.prog G f args (S.mk t m).h d (S.mk t n').h := h t m (hf.up hm)

theorem itoa_len {m : Int} (h0 : -9223372036854775808 ≤ m) (h1 : m ≤ 9223372036854775807) : (Lib.itoa m).length ≤ 21 := by
  unfold Lib.itoa
  split
  · have := dec_len (u := m.natAbs) (by omega)
    rw [List.length_cons]; omega
  · have := dec_len (u := m.toNat) (by omega)
    omega

def momL (done next line : Int) (pat hold : List UInt8) (dq : D) (over : Bool) (stop code : Int) : List D :=
  [.i .i64 done,.i .i64 next,.i .i64 line,.s pat,.s hold,dq,.b over,.i .u8 stop,.i .i64 code]

structure PM (pc : List D) (ds dq : D) (sl ql : Nat) (done next line : Int) (pat hold : List UInt8) (stop code : Int) : Prop where
  p0 : pc[0]? = some ds
  okq : dq.ok = true
  oks : ds.ok = true
  lq : ∀ {get : Nat → Option AObj} {n : Nat} {ev : Opd → D} {x : Opd},ev x = dq → aop get n ev (.lenL x) = .val (.i .i64 (ql : Nat))
  ls : ∀ {get : Nat → Option AObj} {n : Nat} {ev : Opd → D} {x : Opd},ev x = ds → aop get n ev (.lenL x) = .val (.i .i64 (sl : Nat))
  step : ∀ j : Nat,j < sl → ∃ (cs : List D) (c : UInt8),(∀ {get : Nat → Option AObj} {n : Nat} {ev : Opd → D} {x y : Opd} {k : IntKind},ev x = ds → ev y = .i k (j : Nat) → aop get n ev (.iaddr 55 x y) = .val (.fptr cs)) ∧ 32 ≤ cs.length ∧ cs[32]? = some (byteD c)
  bd : -9223372036854775808 ≤ done ∧ done ≤ 9223372036854775807
  bn : -9223372036854775808 ≤ next ∧ next ≤ 9223372036854775807
  bl : -9223372036854775808 ≤ line ∧ line ≤ 9223372036854775807
  bc : -9223372036854775808 ≤ code ∧ code ≤ 9223372036854775807
  bs : 0 ≤ stop ∧ stop ≤ 255
  szs : sl ≤ 1048576
  szq : ql ≤ 1048576
  szp : pat.length ≤ 1048576
  szh : hold.length ≤ 1048576

def tailL (line done : Int) (pat hold : List UInt8) (ql : Nat) (over : Bool) (stop code : Int) : List UInt8 :=
  bs [10,108,105,110,101,32] ++ Lib.itoa line ++ bs [10,112,97,116,116,101,114,110,32] ++ quoteL pat ++ bs [10,104,111,108,100,32] ++ quoteL hold ++ bs [10,113,117,101,117,101,32] ++ Lib.itoa (ql : Int) ++ bs [10,100,111,110,101,32] ++ Lib.itoa done ++ bs [10] ++
    (if over then bs [111,118,101,114,32] ++ Lib.itoa stop ++ bs [32] ++ Lib.itoa code ++ bs [10] else [])

def F18 (f : FuncId) (args : List D) (t : Tr AObj) : Option (D × Tr AObj) :=
  match f,args with
  | 37,[.i .i64 n] => some (.s (Lib.itoa n),t)
  | 38,[.s x] => some (.s (quoteL x),t)
  | _,_ => none

theorem tail_f {acc : List UInt8} {line done : Int} {pat hold : List UInt8} {ql : Nat} {stop code : Int} : acc ++ tailL line done pat hold ql false stop code = acc ++ bs [10,108,105,110,101,32] ++ Lib.itoa line ++ bs [10,112,97,116,116,101,114,110,32] ++ quoteL pat ++ bs [10,104,111,108,100,32] ++ quoteL hold ++ bs [10,113,117,101,117,101,32] ++ Lib.itoa (ql : Int) ++ bs [10,100,111,110,101,32] ++ Lib.itoa done ++ bs [10] := by
  simp [tailL]
theorem tail_t {acc : List UInt8} {line done : Int} {pat hold : List UInt8} {ql : Nat} {stop code : Int} : acc ++ tailL line done pat hold ql true stop code = acc ++ bs [10,108,105,110,101,32] ++ Lib.itoa line ++ bs [10,112,97,116,116,101,114,110,32] ++ quoteL pat ++ bs [10,104,111,108,100,32] ++ quoteL hold ++ bs [10,113,117,101,117,101,32] ++ Lib.itoa (ql : Int) ++ bs [10,100,111,110,101,32] ++ Lib.itoa done ++ bs [10] ++ bs [111,118,101,114,32] ++ Lib.itoa stop ++ bs [32] ++ Lib.itoa code ++ bs [10] := by
  simp [tailL]

attribute [local irreducible] aop evT tm guardX Tr.get Tr.set WR WD WP WX WL thn blk lop View Gr Fr

set_option maxHeartbeats 40000000 in
theorem tail18 {pc : List D} {ds dq : D} {sl ql : Nat} {done next line : Int} {pat hold : List UInt8} {over : Bool} {stop code : Int} (M : PM pc ds dq sl ql done next line pat hold stop code) {t : Tr AObj} {n l3 : Nat} {T : Tr D} {acc : List UInt8} (hf : Fr t n) (hl3 : l3 < n) (hm : t.get l3 = some (.cells (momL done next line pat hold dq over stop code) 0)) (hacc : acc.length ≤ 8388608)
    (h3 : T.get 3 = some (.ptr l3 0)) (h5 : T.get 5 = some (.s acc)) {Q : QX} (hQ : ∀ T' n',n ≤ n' → T'.get 4 = some (.s (acc ++ tailL line done pat hold ql over stop code)) → Q .ret T' t n') : WX Tryz.prog G X18_T T t n Q := by
  obtain ⟨_,okq,_,lq,_,_,bd,bn,bl,bc,bst,szs,szq,szp,szh⟩ := M
  have il := itoa_len bl.1 bl.2
  have id := itoa_len bd.1 bd.2
  have iq := itoa_len (m := (ql : Int)) (by omega) (by omega)
  have is := itoa_len (m := stop) (by omega) (by omega)
  have ic := itoa_len bc.1 bc.2
  have qp := quote_len pat
  have qh := quote_len hold
  have hw : IntKind.i64.wrap stop = stop := by rw [IntKind.wrap_i64]; omega
  have hst : ∀ n',n ≤ n' → ∀ q ∈ [(l3,AObj.cells (momL done next line pat hold dq over stop code) 0)],q.1 < n' ∧ t.get q.1 = some q.2 := by
    intro n' hn q hq
    rw [List.mem_singleton] at hq
    subst hq
    exact ⟨Nat.lt_of_lt_of_le hl3 hn,hm⟩
  unfold X18_T
  cases over with
  | false =>
    refine WX.seq ?_
    refine WX.drawP (mkCall_ok (F := F18)) mixedS [] [(l3,AObj.cells (momL done next line pat hold dq false stop code) 0)] (by rfl) (by rfl) (by rfl) (hst n (Nat.le_refl _)) hf ?_
    intro nb35 hlb35 hle35
    refine WP.val gd_n rfl rfl rfl rfl (fun _ _ => A_mv (rd_t h5) rfl) ?_
    refine WP.val gd_n rfl rfl rfl rfl (fun _ _ => A_addS (rd_t gh) rd_c (by (simp only [List.length_append,bs,List.length_map,List.length_cons,List.length_nil,maxN]; omega)) rfl) ?_
    refine WP.val gd_n rfl rfl rfl rfl (fun _ _ => A_faddr (rd_t (gth rfl (gth rfl h3)))) ?_
    refine WP.ld gd_n rfl rfl rfl rfl rfl (fun get m hs => A_ld1 (rd_t gh) (by (first | exact hs.1 _ (.head _) | exact hs.1 _ (.tail _ (.head _)) | exact hs.1 _ (.tail _ (.tail _ (.head _))) | exact hs.2 _ (.head _) rfl)) rfl) ?_
    refine WP.callq t [] [] rfl rfl rfl gd_n rd_f (args_cons (rd_t gh) args_nil) rfl rfl rfl (QC.at (qc_number line bl.1 bl.2) hf hle35) rfl ?_
    intro n39 hn39
    replace hlb35 := Nat.le_trans hlb35 hn39
    replace hle35 := Nat.le_trans hle35 hn39
    refine WP.val gd_n rfl rfl rfl rfl (fun _ _ => A_addS (rd_t (Go.Abs.g2 rfl (gth rfl gh))) (rd_t gh) (by (simp only [List.length_append,bs,List.length_map,List.length_cons,List.length_nil,maxN]; omega)) rfl) ?_
    refine WP.val gd_n rfl rfl rfl rfl (fun _ _ => A_addS (rd_t gh) rd_c (by (simp only [List.length_append,bs,List.length_map,List.length_cons,List.length_nil,maxN]; omega)) rfl) ?_
    refine WP.val gd_n rfl rfl rfl rfl (fun _ _ => A_faddr (rd_t (Go.Abs.g4 rfl (Go.Abs.g2 rfl (gth rfl h3))))) ?_
    refine WP.ld gd_n rfl rfl rfl rfl rfl (fun get m hs => A_ld1 (rd_t gh) (by (first | exact hs.1 _ (.head _) | exact hs.1 _ (.tail _ (.head _)) | exact hs.1 _ (.tail _ (.tail _ (.head _))) | exact hs.2 _ (.head _) rfl)) rfl) ?_
    refine WP.callq t [] [] rfl rfl rfl gd_n rd_f (args_cons (rd_t gh) args_nil) rfl rfl rfl (QC.at (qc_Quote pat szp) hf hle35) rfl ?_
    intro n44 hn44
    replace hlb35 := Nat.le_trans hlb35 hn44
    replace hle35 := Nat.le_trans hle35 hn44
    refine WP.val gd_n rfl rfl rfl rfl (fun _ _ => A_addS (rd_t (Go.Abs.g2 rfl (gth rfl gh))) (rd_t gh) (by (simp only [List.length_append,bs,List.length_map,List.length_cons,List.length_nil,maxN]; omega)) rfl) ?_
    refine WP.val gd_n rfl rfl rfl rfl (fun _ _ => A_addS (rd_t gh) rd_c (by (simp only [List.length_append,bs,List.length_map,List.length_cons,List.length_nil,maxN]; omega)) rfl) ?_
    refine WP.val gd_n rfl rfl rfl rfl (fun _ _ => A_faddr (rd_t (Go.Abs.g8 rfl (Go.Abs.g2 rfl (gth rfl (gth rfl h3)))))) ?_
    refine WP.ld gd_n rfl rfl rfl rfl rfl (fun get m hs => A_ld1 (rd_t gh) (by (first | exact hs.1 _ (.head _) | exact hs.1 _ (.tail _ (.head _)) | exact hs.1 _ (.tail _ (.tail _ (.head _))) | exact hs.2 _ (.head _) rfl)) rfl) ?_
    refine WP.callq t [] [] rfl rfl rfl gd_n rd_f (args_cons (rd_t gh) args_nil) rfl rfl rfl (QC.at (qc_Quote hold szh) hf hle35) rfl ?_
    intro n49 hn49
    replace hlb35 := Nat.le_trans hlb35 hn49
    replace hle35 := Nat.le_trans hle35 hn49
    refine WP.val gd_n rfl rfl rfl rfl (fun _ _ => A_addS (rd_t (Go.Abs.g2 rfl (gth rfl gh))) (rd_t gh) (by (simp only [List.length_append,bs,List.length_map,List.length_cons,List.length_nil,maxN]; omega)) rfl) ?_
    refine WP.val gd_n rfl rfl rfl rfl (fun _ _ => A_addS (rd_t gh) rd_c (by (simp only [List.length_append,bs,List.length_map,List.length_cons,List.length_nil,maxN]; omega)) rfl) ?_
    refine WP.val gd_n rfl rfl rfl rfl (fun _ _ => A_faddr (rd_t (Go.Abs.g8 rfl (Go.Abs.g8 rfl (gth rfl h3))))) ?_
    refine WP.ld gd_n rfl rfl rfl rfl rfl (fun get m hs => A_ld1 (rd_t gh) (by (first | exact hs.1 _ (.head _) | exact hs.1 _ (.tail _ (.head _)) | exact hs.1 _ (.tail _ (.tail _ (.head _))) | exact hs.2 _ (.head _) rfl)) rfl) ?_
    refine WP.val gd_n rfl rfl rfl rfl (fun _ _ => lq (rd_t gh)) ?_
    refine WP.callq t [] [] rfl rfl rfl gd_n rd_f (args_cons (rd_t gh) args_nil) rfl rfl rfl (QC.at (qc_number (ql : Int) (by omega) (by omega)) hf hle35) rfl ?_
    intro n55 hn55
    replace hlb35 := Nat.le_trans hlb35 hn55
    replace hle35 := Nat.le_trans hle35 hn55
    refine WP.val gd_n rfl rfl rfl rfl (fun _ _ => A_addS (rd_t (Go.Abs.g4 rfl gh)) (rd_t gh) (by (simp only [List.length_append,bs,List.length_map,List.length_cons,List.length_nil,maxN]; omega)) rfl) ?_
    refine WP.val gd_n rfl rfl rfl rfl (fun _ _ => A_addS (rd_t gh) rd_c (by (simp only [List.length_append,bs,List.length_map,List.length_cons,List.length_nil,maxN]; omega)) rfl) ?_
    refine WP.val gd_n rfl rfl rfl rfl (fun _ _ => A_faddr (rd_t (Go.Abs.g8 rfl (Go.Abs.g8 rfl (Go.Abs.g4 rfl (Go.Abs.g2 rfl (gth rfl h3))))))) ?_
    refine WP.ld gd_n rfl rfl rfl rfl rfl (fun get m hs => A_ld1 (rd_t gh) (by (first | exact hs.1 _ (.head _) | exact hs.1 _ (.tail _ (.head _)) | exact hs.1 _ (.tail _ (.tail _ (.head _))) | exact hs.2 _ (.head _) rfl)) rfl) ?_
    refine WP.callq t [] [] rfl rfl rfl gd_n rd_f (args_cons (rd_t gh) args_nil) rfl rfl rfl (QC.at (qc_number done bd.1 bd.2) hf hle35) rfl ?_
    intro n60 hn60
    replace hlb35 := Nat.le_trans hlb35 hn60
    replace hle35 := Nat.le_trans hle35 hn60
    refine WP.val gd_n rfl rfl rfl rfl (fun _ _ => A_addS (rd_t (Go.Abs.g2 rfl (gth rfl gh))) (rd_t gh) (by (simp only [List.length_append,bs,List.length_map,List.length_cons,List.length_nil,maxN]; omega)) rfl) ?_
    refine WP.val gd_n rfl rfl rfl rfl (fun _ _ => A_addS (rd_t gh) rd_c (by (simp only [List.length_append,bs,List.length_map,List.length_cons,List.length_nil,maxN]; omega)) rfl) ?_
    refine WP.val gd_n rfl rfl rfl rfl (fun _ _ => A_mv (rd_t gh) rfl) ?_
    refine WP.nil ⟨fun j hj => by simp at hj,?_⟩
    refine thn_n ?_
    refine WX.seq ?_
    refine WX.seq ?_
    refine WX.region ?_
    refine WR.val gd_n rfl (A_faddr (rd_t (Go.Abs.g8 rfl (Go.Abs.g8 rfl (Go.Abs.g8 rfl (Go.Abs.g4 rfl (gth rfl h3))))))) ?_
    refine WR.val gd_n rfl (A_ld1 (rd_t gh) hm rfl) ?_
    refine WR.nil ?_
    refine thn_n ?_
    refine WX.condF (rd_t gh) ?_
    refine WX.skip ?_
    refine thn_n ?_
    refine WX.seq ?_
    refine WX.region ?_
    refine WR.val gd_n rfl (A_mv (rd_t (Go.Abs.g2 rfl gh)) rfl) ?_
    refine WR.val gd_n rfl (A_mv (rd_t gh) rfl) ?_
    refine WR.nil ?_
    refine thn_n ?_
    refine WX.ret ?_
    refine hQ _ _ hle35 ?_
    rw [tail_f]
    exact gh
  | true =>
    refine WX.seq ?_
    refine WX.drawP (mkCall_ok (F := F18)) mixedS [] [(l3,AObj.cells (momL done next line pat hold dq true stop code) 0)] (by rfl) (by rfl) (by rfl) (hst n (Nat.le_refl _)) hf ?_
    intro nb35 hlb35 hle35
    refine WP.val gd_n rfl rfl rfl rfl (fun _ _ => A_mv (rd_t h5) rfl) ?_
    refine WP.val gd_n rfl rfl rfl rfl (fun _ _ => A_addS (rd_t gh) rd_c (by (simp only [List.length_append,bs,List.length_map,List.length_cons,List.length_nil,maxN]; omega)) rfl) ?_
    refine WP.val gd_n rfl rfl rfl rfl (fun _ _ => A_faddr (rd_t (gth rfl (gth rfl h3)))) ?_
    refine WP.ld gd_n rfl rfl rfl rfl rfl (fun get m hs => A_ld1 (rd_t gh) (by (first | exact hs.1 _ (.head _) | exact hs.1 _ (.tail _ (.head _)) | exact hs.1 _ (.tail _ (.tail _ (.head _))) | exact hs.2 _ (.head _) rfl)) rfl) ?_
    refine WP.callq t [] [] rfl rfl rfl gd_n rd_f (args_cons (rd_t gh) args_nil) rfl rfl rfl (QC.at (qc_number line bl.1 bl.2) hf hle35) rfl ?_
    intro n39 hn39
    replace hlb35 := Nat.le_trans hlb35 hn39
    replace hle35 := Nat.le_trans hle35 hn39
    refine WP.val gd_n rfl rfl rfl rfl (fun _ _ => A_addS (rd_t (Go.Abs.g2 rfl (gth rfl gh))) (rd_t gh) (by (simp only [List.length_append,bs,List.length_map,List.length_cons,List.length_nil,maxN]; omega)) rfl) ?_
    refine WP.val gd_n rfl rfl rfl rfl (fun _ _ => A_addS (rd_t gh) rd_c (by (simp only [List.length_append,bs,List.length_map,List.length_cons,List.length_nil,maxN]; omega)) rfl) ?_
    refine WP.val gd_n rfl rfl rfl rfl (fun _ _ => A_faddr (rd_t (Go.Abs.g4 rfl (Go.Abs.g2 rfl (gth rfl h3))))) ?_
    refine WP.ld gd_n rfl rfl rfl rfl rfl (fun get m hs => A_ld1 (rd_t gh) (by (first | exact hs.1 _ (.head _) | exact hs.1 _ (.tail _ (.head _)) | exact hs.1 _ (.tail _ (.tail _ (.head _))) | exact hs.2 _ (.head _) rfl)) rfl) ?_
    refine WP.callq t [] [] rfl rfl rfl gd_n rd_f (args_cons (rd_t gh) args_nil) rfl rfl rfl (QC.at (qc_Quote pat szp) hf hle35) rfl ?_
    intro n44 hn44
    replace hlb35 := Nat.le_trans hlb35 hn44
    replace hle35 := Nat.le_trans hle35 hn44
    refine WP.val gd_n rfl rfl rfl rfl (fun _ _ => A_addS (rd_t (Go.Abs.g2 rfl (gth rfl gh))) (rd_t gh) (by (simp only [List.length_append,bs,List.length_map,List.length_cons,List.length_nil,maxN]; omega)) rfl) ?_
    refine WP.val gd_n rfl rfl rfl rfl (fun _ _ => A_addS (rd_t gh) rd_c (by (simp only [List.length_append,bs,List.length_map,List.length_cons,List.length_nil,maxN]; omega)) rfl) ?_
    refine WP.val gd_n rfl rfl rfl rfl (fun _ _ => A_faddr (rd_t (Go.Abs.g8 rfl (Go.Abs.g2 rfl (gth rfl (gth rfl h3)))))) ?_
    refine WP.ld gd_n rfl rfl rfl rfl rfl (fun get m hs => A_ld1 (rd_t gh) (by (first | exact hs.1 _ (.head _) | exact hs.1 _ (.tail _ (.head _)) | exact hs.1 _ (.tail _ (.tail _ (.head _))) | exact hs.2 _ (.head _) rfl)) rfl) ?_
    refine WP.callq t [] [] rfl rfl rfl gd_n rd_f (args_cons (rd_t gh) args_nil) rfl rfl rfl (QC.at (qc_Quote hold szh) hf hle35) rfl ?_
    intro n49 hn49
    replace hlb35 := Nat.le_trans hlb35 hn49
    replace hle35 := Nat.le_trans hle35 hn49
    refine WP.val gd_n rfl rfl rfl rfl (fun _ _ => A_addS (rd_t (Go.Abs.g2 rfl (gth rfl gh))) (rd_t gh) (by (simp only [List.length_append,bs,List.length_map,List.length_cons,List.length_nil,maxN]; omega)) rfl) ?_
    refine WP.val gd_n rfl rfl rfl rfl (fun _ _ => A_addS (rd_t gh) rd_c (by (simp only [List.length_append,bs,List.length_map,List.length_cons,List.length_nil,maxN]; omega)) rfl) ?_
    refine WP.val gd_n rfl rfl rfl rfl (fun _ _ => A_faddr (rd_t (Go.Abs.g8 rfl (Go.Abs.g8 rfl (gth rfl h3))))) ?_
    refine WP.ld gd_n rfl rfl rfl rfl rfl (fun get m hs => A_ld1 (rd_t gh) (by (first | exact hs.1 _ (.head _) | exact hs.1 _ (.tail _ (.head _)) | exact hs.1 _ (.tail _ (.tail _ (.head _))) | exact hs.2 _ (.head _) rfl)) rfl) ?_
    refine WP.val gd_n rfl rfl rfl rfl (fun _ _ => lq (rd_t gh)) ?_
    refine WP.callq t [] [] rfl rfl rfl gd_n rd_f (args_cons (rd_t gh) args_nil) rfl rfl rfl (QC.at (qc_number (ql : Int) (by omega) (by omega)) hf hle35) rfl ?_
    intro n55 hn55
    replace hlb35 := Nat.le_trans hlb35 hn55
    replace hle35 := Nat.le_trans hle35 hn55
    refine WP.val gd_n rfl rfl rfl rfl (fun _ _ => A_addS (rd_t (Go.Abs.g4 rfl gh)) (rd_t gh) (by (simp only [List.length_append,bs,List.length_map,List.length_cons,List.length_nil,maxN]; omega)) rfl) ?_
    refine WP.val gd_n rfl rfl rfl rfl (fun _ _ => A_addS (rd_t gh) rd_c (by (simp only [List.length_append,bs,List.length_map,List.length_cons,List.length_nil,maxN]; omega)) rfl) ?_
    refine WP.val gd_n rfl rfl rfl rfl (fun _ _ => A_faddr (rd_t (Go.Abs.g8 rfl (Go.Abs.g8 rfl (Go.Abs.g4 rfl (Go.Abs.g2 rfl (gth rfl h3))))))) ?_
    refine WP.ld gd_n rfl rfl rfl rfl rfl (fun get m hs => A_ld1 (rd_t gh) (by (first | exact hs.1 _ (.head _) | exact hs.1 _ (.tail _ (.head _)) | exact hs.1 _ (.tail _ (.tail _ (.head _))) | exact hs.2 _ (.head _) rfl)) rfl) ?_
    refine WP.callq t [] [] rfl rfl rfl gd_n rd_f (args_cons (rd_t gh) args_nil) rfl rfl rfl (QC.at (qc_number done bd.1 bd.2) hf hle35) rfl ?_
    intro n60 hn60
    replace hlb35 := Nat.le_trans hlb35 hn60
    replace hle35 := Nat.le_trans hle35 hn60
    refine WP.val gd_n rfl rfl rfl rfl (fun _ _ => A_addS (rd_t (Go.Abs.g2 rfl (gth rfl gh))) (rd_t gh) (by (simp only [List.length_append,bs,List.length_map,List.length_cons,List.length_nil,maxN]; omega)) rfl) ?_
    refine WP.val gd_n rfl rfl rfl rfl (fun _ _ => A_addS (rd_t gh) rd_c (by (simp only [List.length_append,bs,List.length_map,List.length_cons,List.length_nil,maxN]; omega)) rfl) ?_
    refine WP.val gd_n rfl rfl rfl rfl (fun _ _ => A_mv (rd_t gh) rfl) ?_
    refine WP.nil ⟨fun j hj => by simp at hj,?_⟩
    refine thn_n ?_
    refine WX.seq ?_
    refine WX.seq ?_
    refine WX.region ?_
    refine WR.val gd_n rfl (A_faddr (rd_t (Go.Abs.g8 rfl (Go.Abs.g8 rfl (Go.Abs.g8 rfl (Go.Abs.g4 rfl (gth rfl h3))))))) ?_
    refine WR.val gd_n rfl (A_ld1 (rd_t gh) hm rfl) ?_
    refine WR.nil ?_
    refine thn_n ?_
    refine WX.condT (rd_t gh) ?_
    refine WX.drawP (mkCall_ok (F := F18)) mixedS [] [(l3,AObj.cells (momL done next line pat hold dq true stop code) 0)] (by rfl) (by rfl) (by rfl) (hst n60 hle35) (Fr.up hf hle35) ?_
    intro nb65 hlb65 hle65
    refine WP.val gd_n rfl rfl rfl rfl (fun _ _ => A_mv (rd_t (Go.Abs.g2 rfl gh)) rfl) ?_
    refine WP.val gd_n rfl rfl rfl rfl (fun _ _ => A_addS (rd_t gh) rd_c (by (simp only [List.length_append,bs,List.length_map,List.length_cons,List.length_nil,maxN]; omega)) rfl) ?_
    refine WP.val gd_n rfl rfl rfl rfl (fun _ _ => A_faddr (rd_t (Go.Abs.g8 rfl (Go.Abs.g8 rfl (Go.Abs.g8 rfl (Go.Abs.g8 rfl (gth rfl h3))))))) ?_
    refine WP.ld gd_n rfl rfl rfl rfl rfl (fun get m hs => A_ld1 (rd_t gh) (by (first | exact hs.1 _ (.head _) | exact hs.1 _ (.tail _ (.head _)) | exact hs.1 _ (.tail _ (.tail _ (.head _))) | exact hs.2 _ (.head _) rfl)) rfl) ?_
    refine WP.val gd_n rfl rfl rfl rfl (fun _ _ => A_convI (rd_t gh) hw) ?_
    refine WP.callq t [] [] rfl rfl rfl gd_n rd_f (args_cons (rd_t gh) args_nil) rfl rfl rfl (QC.at (qc_number stop (by omega) (by omega)) hf (Nat.le_trans hle35 hle65)) rfl ?_
    intro n70 hn70
    replace hlb65 := Nat.le_trans hlb65 hn70
    replace hle65 := Nat.le_trans hle65 hn70
    refine WP.val gd_n rfl rfl rfl rfl (fun _ _ => A_addS (rd_t (Go.Abs.g4 rfl gh)) (rd_t gh) (by (simp only [List.length_append,bs,List.length_map,List.length_cons,List.length_nil,maxN]; omega)) rfl) ?_
    refine WP.val gd_n rfl rfl rfl rfl (fun _ _ => A_addS (rd_t gh) rd_c (by (simp only [List.length_append,bs,List.length_map,List.length_cons,List.length_nil,maxN]; omega)) rfl) ?_
    refine WP.val gd_n rfl rfl rfl rfl (fun _ _ => A_faddr (rd_t (Go.Abs.g8 rfl (Go.Abs.g8 rfl (Go.Abs.g8 rfl (Go.Abs.g8 rfl (Go.Abs.g4 rfl (Go.Abs.g2 rfl (gth rfl h3))))))))) ?_
    refine WP.ld gd_n rfl rfl rfl rfl rfl (fun get m hs => A_ld1 (rd_t gh) (by (first | exact hs.1 _ (.head _) | exact hs.1 _ (.tail _ (.head _)) | exact hs.1 _ (.tail _ (.tail _ (.head _))) | exact hs.2 _ (.head _) rfl)) rfl) ?_
    refine WP.callq t [] [] rfl rfl rfl gd_n rd_f (args_cons (rd_t gh) args_nil) rfl rfl rfl (QC.at (qc_number code bc.1 bc.2) hf (Nat.le_trans hle35 hle65)) rfl ?_
    intro n75 hn75
    replace hlb65 := Nat.le_trans hlb65 hn75
    replace hle65 := Nat.le_trans hle65 hn75
    refine WP.val gd_n rfl rfl rfl rfl (fun _ _ => A_addS (rd_t (Go.Abs.g2 rfl (gth rfl gh))) (rd_t gh) (by (simp only [List.length_append,bs,List.length_map,List.length_cons,List.length_nil,maxN]; omega)) rfl) ?_
    refine WP.val gd_n rfl rfl rfl rfl (fun _ _ => A_addS (rd_t gh) rd_c (by (simp only [List.length_append,bs,List.length_map,List.length_cons,List.length_nil,maxN]; omega)) rfl) ?_
    refine WP.val gd_n rfl rfl rfl rfl (fun _ _ => A_mv (rd_t gh) rfl) ?_
    refine WP.nil ⟨fun j hj => by simp at hj,?_⟩
    refine thn_n ?_
    refine WX.seq ?_
    refine WX.region ?_
    refine WR.val gd_n rfl (A_mv (rd_t gh) rfl) ?_
    refine WR.val gd_n rfl (A_mv (rd_t gh) rfl) ?_
    refine WR.nil ?_
    refine thn_n ?_
    refine WX.ret ?_
    refine hQ _ _ (Nat.le_trans hle35 hle65) ?_
    rw [tail_t]
    exact gh

def headL (next : Int) (x : List UInt8) : List UInt8 := bs [115,116,101,112,32] ++ Lib.itoa next ++ x

set_option maxHeartbeats 40000000 in
theorem said_out {pc : List D} {ds dq : D} {sl ql : Nat} {done next line : Int} {pat hold : List UInt8} {over : Bool} {stop code : Int} (M : PM pc ds dq sl ql done next line pat hold stop code) (ho : ¬ (0 ≤ next ∧ next < (sl : Int))) : QC 18 [.agg pc,.agg (momL done next line pat hold dq over stop code)] (.s (headL next [] ++ tailL line done pat hold ql over stop code)) := QC.of fun t n hf => by
  have hf2 : Fr ((t.set n (some (.cells pc 0))).set (n + 1) (some (.cells (momL done next line pat hold dq over stop code) 0))) (n + 1 + 1) := (Fr.new hf).new
  have il := itoa_len M.bn.1 M.bn.2
  obtain ⟨n8,g8,c8⟩ := qc_number next M.bn.1 M.bn.2 _ _ hf2
  have a9 : (bs [115,116,101,112,32]).length + (Lib.itoa next).length ≤ maxN := by simp only [bs,List.length_map,List.length_cons,List.length_nil,maxN]; omega
  have hac : (bs [115,116,101,112,32] ++ Lib.itoa next).length ≤ 8388608 := by simp only [List.length_append,bs,List.length_map,List.length_cons,List.length_nil]; omega
  have key := CX.ofWX (P := Tryz.prog) (Γ := G) (t := t) (n := n) (f := 18) (args := [.agg pc,.agg (momL done next line pat hold dq over stop code)]) Tryz.func18 X18_eq (by kernel_rfl) (by kernel_rfl) (by rfl) (R := fun d' t' n' => d' = .s (headL next [] ++ tailL line done pat hold ql over stop code) ∧ Gr t n t' n') (by
    show WX _ _ X18.body ((Tr.e.set 0 (some (.agg pc))).set 1 (some (.agg (momL done next line pat hold dq over stop code)))) _ _ _
    unfold X18
    by_cases hn : 0 ≤ next
    · have b12 : decide (next ≥ 0) = true := decide_eq_true hn
      have b19 : decide (next < (sl : Int)) = false := decide_eq_false (fun h => ho ⟨hn,h⟩)
      refine WX.seq ?_
      refine WX.region ?_
      refine WR.new gd_n rfl (A_box (rd_t (gth rfl gh)) rfl) ?_
      refine WR.new gd_n rfl (A_box (rd_t (gth rfl gh)) rfl) ?_
      refine WR.val gd_n rfl (A_mv rd_c rfl) ?_
      refine WR.nil ?_
      refine thn_n ?_
      refine WX.seq ?_
      refine WX.region ?_
      refine WR.val gd_n rfl (A_faddr (rd_t (gth rfl gh))) ?_
      refine WR.val gd_n rfl (A_ld1 (rd_t gh) (by (first | exact gh | assumption | ((repeat refine Tr.get_there (by first | decide | omega) ?_); first | exact gh | assumption))) rfl) ?_
      refine WR.call gd_n (args_cons (rd_t gh) args_nil) rfl c8 ?_
      refine WR.val gd_n rfl (A_addS rd_c (rd_t gh) a9 rfl) ?_
      refine WR.val gd_n rfl (A_mv (rd_t gh) rfl) ?_
      refine WR.nil ?_
      refine thn_n ?_
      refine WX.seq ?_
      refine WX.seq ?_
      refine WX.region ?_
      refine WR.val gd_n rfl (A_faddr (rd_t (Go.Abs.g4 rfl (Go.Abs.g2 rfl gh)))) ?_
      refine WR.val gd_n rfl (A_ld1 (rd_t gh) (by (first | exact gh | assumption | ((repeat refine Tr.get_there (by first | decide | omega) ?_); first | exact gh | assumption))) rfl) ?_
      refine WR.val gd_n rfl (A_geI (rd_t gh) rd_c b12) ?_
      refine WR.val gd_n rfl (A_mv (rd_t gh) rfl) ?_
      refine WR.val (gd_t gh) rfl (A_faddr (rd_t (Go.Abs.g8 rfl (Go.Abs.g2 rfl gh)))) ?_
      refine WR.val (gd_t (gth rfl gh)) rfl (A_ld1 (rd_t gh) (by (first | exact gh | assumption | ((repeat refine Tr.get_there (by first | decide | omega) ?_); first | exact gh | assumption))) rfl) ?_
      refine WR.val (gd_t (Go.Abs.g2 rfl gh)) rfl (A_faddr (rd_t (Go.Abs.g8 rfl (Go.Abs.g4 rfl (gth rfl gh))))) ?_
      refine WR.val (gd_t (Go.Abs.g2 rfl (gth rfl gh))) rfl (A_ld1 (rd_t gh) (by (first | exact gh | assumption | ((repeat refine Tr.get_there (by first | decide | omega) ?_); first | exact gh | assumption))) M.p0) ?_
      refine WR.val (gd_t (Go.Abs.g4 rfl gh)) rfl (M.ls (rd_t gh)) ?_
      refine WR.val (gd_t (Go.Abs.g4 rfl (gth rfl gh))) rfl (A_ltI (rd_t (Go.Abs.g2 rfl (gth rfl gh))) (rd_t gh) b19) ?_
      refine WR.val gd_n rfl (A_pickT (rd_t (Go.Abs.g4 rfl (Go.Abs.g2 rfl gh))) (rd_t gh) rfl) ?_
      refine WR.nil ?_
      refine thn_n ?_
      refine WX.condF (rd_t gh) ?_
      refine WX.skip ?_
      refine thn_n ?_
      refine tail18 (l3 := n + 1) M (hf2.up g8) (by omega) gh hac (Go.Abs.g8 rfl (Go.Abs.g8 rfl (gth rfl gh))) (Go.Abs.g8 rfl (Go.Abs.g2 rfl (gth rfl gh))) fun T' n' hn' h4 => ?_
      exact retQ_r (res_t h4 res_nil) rfl ⟨by simp only [headL,List.append_assoc,List.append_nil]; rfl,(by (repeat refine Gr.set ?_ (by omega)); exact Gr.refl.up (by omega))⟩
    · have b12 : decide (next ≥ 0) = false := decide_eq_false hn
      refine WX.seq ?_
      refine WX.region ?_
      refine WR.new gd_n rfl (A_box (rd_t (gth rfl gh)) rfl) ?_
      refine WR.new gd_n rfl (A_box (rd_t (gth rfl gh)) rfl) ?_
      refine WR.val gd_n rfl (A_mv rd_c rfl) ?_
      refine WR.nil ?_
      refine thn_n ?_
      refine WX.seq ?_
      refine WX.region ?_
      refine WR.val gd_n rfl (A_faddr (rd_t (gth rfl gh))) ?_
      refine WR.val gd_n rfl (A_ld1 (rd_t gh) (by (first | exact gh | assumption | ((repeat refine Tr.get_there (by first | decide | omega) ?_); first | exact gh | assumption))) rfl) ?_
      refine WR.call gd_n (args_cons (rd_t gh) args_nil) rfl c8 ?_
      refine WR.val gd_n rfl (A_addS rd_c (rd_t gh) a9 rfl) ?_
      refine WR.val gd_n rfl (A_mv (rd_t gh) rfl) ?_
      refine WR.nil ?_
      refine thn_n ?_
      refine WX.seq ?_
      refine WX.seq ?_
      refine WX.region ?_
      refine WR.val gd_n rfl (A_faddr (rd_t (Go.Abs.g4 rfl (Go.Abs.g2 rfl gh)))) ?_
      refine WR.val gd_n rfl (A_ld1 (rd_t gh) (by (first | exact gh | assumption | ((repeat refine Tr.get_there (by first | decide | omega) ?_); first | exact gh | assumption))) rfl) ?_
      refine WR.val gd_n rfl (A_geI (rd_t gh) rd_c b12) ?_
      refine WR.val gd_n rfl (A_mv (rd_t gh) rfl) ?_
      refine WR.skip (gd_tf gh) ?_
      refine WR.skip (gd_tf (gth rfl gh)) ?_
      refine WR.skip (gd_tf (Go.Abs.g2 rfl gh)) ?_
      refine WR.skip (gd_tf (Go.Abs.g2 rfl (gth rfl gh))) ?_
      refine WR.skip (gd_tf (Go.Abs.g4 rfl gh)) ?_
      refine WR.skip (gd_tf (Go.Abs.g4 rfl (gth rfl gh))) ?_
      refine WR.val gd_n rfl (A_pickF (rd_t (Go.Abs.g4 rfl (Go.Abs.g2 rfl gh))) rd_c rfl) ?_
      refine WR.nil ?_
      refine thn_n ?_
      refine WX.condF (rd_t gh) ?_
      refine WX.skip ?_
      refine thn_n ?_
      refine tail18 (l3 := n + 1) M (hf2.up g8) (by omega) gh hac (Go.Abs.g8 rfl (Go.Abs.g8 rfl (gth rfl gh))) (Go.Abs.g8 rfl (Go.Abs.g2 rfl (gth rfl gh))) fun T' n' hn' h4 => ?_
      exact retQ_r (res_t h4 res_nil) rfl ⟨by simp only [headL,List.append_assoc,List.append_nil]; rfl,(by (repeat refine Gr.set ?_ (by omega)); exact Gr.refl.up (by omega))⟩)
  obtain ⟨d',t',n',hx,rfl,g⟩ := key
  exact ⟨t',n',hx,g⟩

set_option maxHeartbeats 40000000 in
theorem said_in {pc : List D} {ds dq : D} {sl ql : Nat} {done next line : Int} {pat hold : List UInt8} {over : Bool} {stop code : Int} (M : PM pc ds dq sl ql done next line pat hold stop code) {j : Nat} {cs : List D} {c : UInt8} (hnext : next = (j : Int)) (hj : j < sl) (hi : ∀ {get : Nat → Option AObj} {n : Nat} {ev : Opd → D} {x y : Opd} {k : IntKind},ev x = ds → ev y = .i k (j : Nat) → aop get n ev (.iaddr 55 x y) = .val (.fptr cs)) (h32' : 32 ≤ cs.length) (hb' : cs[32]? = some (byteD c)) :
    QC 18 [.agg pc,.agg (momL done next line pat hold dq over stop code)] (.s (headL next (bs [32] ++ quoteL [c]) ++ tailL line done pat hold ql over stop code)) := QC.of fun t n hf => by
  subst hnext
  have hf2 : Fr ((t.set n (some (.cells pc 0))).set (n + 1) (some (.cells (momL done (j : Int) line pat hold dq over stop code) 0))) (n + 1 + 1) := (Fr.new hf).new
  have il := itoa_len M.bn.1 M.bn.2
  obtain ⟨n8,g8,c8⟩ := qc_number (j : Int) M.bn.1 M.bn.2 _ _ hf2
  have a9 : (bs [115,116,101,112,32]).length + (Lib.itoa (j : Int)).length ≤ maxN := by simp only [bs,List.length_map,List.length_cons,List.length_nil,maxN]; omega
  have h32 : 32 ≤ (cs.drop 0).length := by rw [List.drop_zero]; exact h32'
  have hb : ((cs.drop 0).drop 32)[0]? = some (byteD c) := by rw [List.drop_zero,List.getElem?_drop]; exact hb'
  have hm1 : [c].length ≤ maxN := by simp only [List.length_singleton,maxN]; omega
  have hf3 : Fr (((t.set n (some (.cells pc 0))).set (n + 1) (some (.cells (momL done (j : Int) line pat hold dq over stop code) 0))).set n8 (some (.cells [byteD c] 1))) (n8 + 1) := Fr.new (hf2.up g8)
  obtain ⟨n33,g33,c33⟩ := qc_Quote [c] (by rw [List.length_singleton]; decide) _ _ hf3
  have hq := quote_len [c]
  rw [List.length_singleton] at hq
  have b12 : decide ((j : Int) ≥ 0) = true := decide_eq_true (by omega)
  have b19 : decide ((j : Int) < (sl : Int)) = true := decide_eq_true (by omega)
  have a22 : (bs [115,116,101,112,32] ++ Lib.itoa (j : Int)).length + (bs [32]).length ≤ maxN := by simp only [List.length_append,bs,List.length_map,List.length_cons,List.length_nil,maxN]; omega
  have a34 : (bs [115,116,101,112,32] ++ Lib.itoa (j : Int) ++ bs [32]).length + (quoteL [c]).length ≤ maxN := by simp only [List.length_append,bs,List.length_map,List.length_cons,List.length_nil,maxN]; omega
  have hac : (bs [115,116,101,112,32] ++ Lib.itoa (j : Int) ++ bs [32] ++ quoteL [c]).length ≤ 8388608 := by simp only [List.length_append,bs,List.length_map,List.length_cons,List.length_nil]; omega
  have key := CX.ofWX (P := Tryz.prog) (Γ := G) (t := t) (n := n) (f := 18) (args := [.agg pc,.agg (momL done (j : Int) line pat hold dq over stop code)]) Tryz.func18 X18_eq (by kernel_rfl) (by kernel_rfl) (by rfl) (R := fun d' t' n' => d' = .s (headL (j : Int) (bs [32] ++ quoteL [c]) ++ tailL line done pat hold ql over stop code) ∧ Gr t n t' n') (by
    show WX _ _ X18.body ((Tr.e.set 0 (some (.agg pc))).set 1 (some (.agg (momL done (j : Int) line pat hold dq over stop code)))) _ _ _
    unfold X18
    refine WX.seq ?_
    refine WX.region ?_
    refine WR.new gd_n rfl (A_box (rd_t (gth rfl gh)) rfl) ?_
    refine WR.new gd_n rfl (A_box (rd_t (gth rfl gh)) rfl) ?_
    refine WR.val gd_n rfl (A_mv rd_c rfl) ?_
    refine WR.nil ?_
    refine thn_n ?_
    refine WX.seq ?_
    refine WX.region ?_
    refine WR.val gd_n rfl (A_faddr (rd_t (gth rfl gh))) ?_
    refine WR.val gd_n rfl (A_ld1 (rd_t gh) (by (first | exact gh | assumption | ((repeat refine Tr.get_there (by first | decide | omega) ?_); first | exact gh | assumption))) rfl) ?_
    refine WR.call gd_n (args_cons (rd_t gh) args_nil) rfl c8 ?_
    refine WR.val gd_n rfl (A_addS rd_c (rd_t gh) a9 rfl) ?_
    refine WR.val gd_n rfl (A_mv (rd_t gh) rfl) ?_
    refine WR.nil ?_
    refine thn_n ?_
    refine WX.seq ?_
    refine WX.seq ?_
    refine WX.region ?_
    refine WR.val gd_n rfl (A_faddr (rd_t (Go.Abs.g4 rfl (Go.Abs.g2 rfl gh)))) ?_
    refine WR.val gd_n rfl (A_ld1 (rd_t gh) (by (first | exact gh | assumption | ((repeat refine Tr.get_there (by first | decide | omega) ?_); first | exact gh | assumption))) rfl) ?_
    refine WR.val gd_n rfl (A_geI (rd_t gh) rd_c b12) ?_
    refine WR.val gd_n rfl (A_mv (rd_t gh) rfl) ?_
    refine WR.val (gd_t gh) rfl (A_faddr (rd_t (Go.Abs.g8 rfl (Go.Abs.g2 rfl gh)))) ?_
    refine WR.val (gd_t (gth rfl gh)) rfl (A_ld1 (rd_t gh) (by (first | exact gh | assumption | ((repeat refine Tr.get_there (by first | decide | omega) ?_); first | exact gh | assumption))) rfl) ?_
    refine WR.val (gd_t (Go.Abs.g2 rfl gh)) rfl (A_faddr (rd_t (Go.Abs.g8 rfl (Go.Abs.g4 rfl (gth rfl gh))))) ?_
    refine WR.val (gd_t (Go.Abs.g2 rfl (gth rfl gh))) rfl (A_ld1 (rd_t gh) (by (first | exact gh | assumption | ((repeat refine Tr.get_there (by first | decide | omega) ?_); first | exact gh | assumption))) M.p0) ?_
    refine WR.val (gd_t (Go.Abs.g4 rfl gh)) rfl (M.ls (rd_t gh)) ?_
    refine WR.val (gd_t (Go.Abs.g4 rfl (gth rfl gh))) rfl (A_ltI (rd_t (Go.Abs.g2 rfl (gth rfl gh))) (rd_t gh) b19) ?_
    refine WR.val gd_n rfl (A_pickT (rd_t (Go.Abs.g4 rfl (Go.Abs.g2 rfl gh))) (rd_t gh) rfl) ?_
    refine WR.nil ?_
    refine thn_n ?_
    refine WX.condT (rd_t gh) ?_
    refine WX.region ?_
    refine WR.val gd_n rfl (A_mv (rd_t (Go.Abs.g8 rfl (Go.Abs.g2 rfl (gth rfl gh)))) rfl) ?_
    refine WR.val gd_n rfl (A_addS (rd_t gh) rd_c a22 rfl) ?_
    refine WR.val gd_n rfl (A_faddr (rd_t (Go.Abs.g8 rfl (Go.Abs.g8 rfl (Go.Abs.g4 rfl gh))))) ?_
    refine WR.val gd_n rfl (A_ld1 (rd_t gh) (by (first | exact gh | assumption | ((repeat refine Tr.get_there (by first | decide | omega) ?_); first | exact gh | assumption))) M.p0) ?_
    refine WR.val gd_n rfl (A_faddr (rd_t (Go.Abs.g8 rfl (Go.Abs.g8 rfl (Go.Abs.g4 rfl (gth rfl gh)))))) ?_
    refine WR.val gd_n rfl (A_ld1 (rd_t gh) (by (first | exact gh | assumption | ((repeat refine Tr.get_there (by first | decide | omega) ?_); first | exact gh | assumption))) rfl) ?_
    refine WR.val gd_n rfl (hi (rd_t (Go.Abs.g2 rfl gh)) (rd_t gh)) ?_
    refine WR.val gd_n rfl (A_fad (rd_t gh) (Nat.zero_le _)) ?_
    refine WR.val gd_n rfl (A_fad (rd_t gh) h32) ?_
    refine WR.val gd_n rfl (A_ldf1 (rd_t gh) hb rfl) ?_
    refine WR.new gd_n rfl (A_bs1 (ds := [byteD c]) (rd_t gh) rfl rfl) ?_
    refine WR.val gd_n rfl (A_convBS (t := [c]) (rd_t gh) gh (Nat.le_refl 1) rfl hm1) ?_
    refine WR.call gd_n (args_cons (rd_t gh) args_nil) rfl c33 ?_
    refine WR.val gd_n rfl (A_addS (rd_t (Go.Abs.g8 rfl (Go.Abs.g2 rfl (gth rfl gh)))) (rd_t gh) a34 rfl) ?_
    refine WR.val gd_n rfl (A_mv (rd_t gh) rfl) ?_
    refine WR.nil ?_
    refine thn_n ?_
    refine tail18 (l3 := n + 1) M (hf3.up g33) (by omega) (Tr.get_there (by omega) gh) hac (Go.Abs.g8 rfl (Go.Abs.g8 rfl (Go.Abs.g8 rfl (Go.Abs.g8 rfl gh)))) gh fun T' n' hn' h4 => ?_
    exact retQ_r (res_t h4 res_nil) rfl ⟨by simp only [headL,List.append_assoc,List.append_nil]; rfl,(by (repeat refine Gr.set ?_ (by omega)); exact Gr.refl.up (by omega))⟩)
  obtain ⟨d',t',n',hx,rfl,g⟩ := key
  exact ⟨t',n',hx,g⟩
end
end Go.Proofs.YtelnkadnphephaaGreatDoor.T
end
noncomputable section
namespace Go.Proofs.YtelnkadnphephaaGreatDoor.T
open Go Go.Abs
noncomputable section

theorem Fr.put {t : Tr AObj} {n l m : Nat} {o : Option AObj} (h : Fr t n) (hl : l < m) (hm : n ≤ m) : Fr (t.set l o) m := fun k hk => by rw [Tr.get_set,if_neg (by omega)]; exact h k (by omega)

theorem Fr.get {t : Tr AObj} {n l : Nat} (h : Fr t n) (hl : n ≤ l) : t.get l = none := h l hl

theorem lineS {t : Tr AObj} {n ls l3 n1 : Nat} {acc w y : List UInt8} {o3 : AObj} (hf : Fr t n) (hls : ls < n) (hl3 : l3 < n) (hne : ls ≠ l3) (hs : t.get ls = some (.cells [.s acc] 0)) (hm : t.get l3 = some o3) (h1 : n ≤ n1) (hl : acc.length + w.length + y.length + 3 ≤ maxN) :
    CX Tryz.prog G 34 [.sl 1 n1 0 2,.ptr ls 0] (S.mk (t.set n1 (some (.cells [.s w,.s y] 0))) (n1 + 1)).h (.tup []) (S.mk ((t.set n1 (some (.cells [.s w,.s y] 0))).set ls (some (.cells [.s (acc ++ w ++ [32] ++ y ++ [10])] 0))) (n1 + 1)).h ∧
      Fr ((t.set n1 (some (.cells [.s w,.s y] 0))).set ls (some (.cells [.s (acc ++ w ++ [32] ++ y ++ [10])] 0))) (n1 + 1) ∧
      ((t.set n1 (some (.cells [.s w,.s y] 0))).set ls (some (.cells [.s (acc ++ w ++ [32] ++ y ++ [10])] 0))).get ls = some (.cells [.s (acc ++ w ++ [32] ++ y ++ [10])] 0) ∧
      ((t.set n1 (some (.cells [.s w,.s y] 0))).set ls (some (.cells [.s (acc ++ w ++ [32] ++ y ++ [10])] 0))).get l3 = some o3 := by
  refine ⟨?_,(Fr.put hf (Nat.lt_succ_self _) (by omega)).upd (by omega),gh,Tr.get_there (Ne.symm hne) (Tr.get_there (by omega) hm)⟩
  exact cx_line (ws := [w,y]) (Tr.get_there (by omega) hs) gh (by omega) (Nat.le_of_ble_eq_true rfl) (by simp only [sumW]; omega)

theorem lineS3 {t : Tr AObj} {ls n1 m : Nat} {acc w y z : List UInt8} (hls : ls < n1) (hs : t.get ls = some (.cells [.s acc] 0)) (hl : acc.length + w.length + y.length + z.length + 4 ≤ maxN) :
    CX Tryz.prog G 34 [.sl 1 n1 0 3,.ptr ls 0] (S.mk (t.set n1 (some (.cells [.s w,.s y,.s z] 0))) m).h (.tup []) (S.mk ((t.set n1 (some (.cells [.s w,.s y,.s z] 0))).set ls (some (.cells [.s (acc ++ w ++ [32] ++ y ++ [32] ++ z ++ [10])] 0))) m).h := by
  exact cx_line (ws := [w,y,z]) (Tr.get_there (by omega) hs) gh (by omega) (Nat.le_of_ble_eq_true rfl) (by simp only [sumW]; omega)

def F17 (tt : Tr AObj) (f : FuncId) (args : List D) (t : Tr AObj) : Option (D × Tr AObj) :=
  match f,args with
  | 35,[.i .i64 n] => some (.s (Lib.itoa n),t)
  | 36,[.s x] => some (.s (quoteL x),t)
  | 34,_ => some (.tup [],tt)
  | _,_ => none

theorem obs10 {o : AObj} : ∀ j : Nat,(([none,none,none,none,none,none,none,none,none,none,some o] : List (Option AObj)).getD j none).isSome = true → ([10] : List Nat).contains j = true
  | 10,_ => rfl
  | 0,h | 1,h | 2,h | 3,h | 4,h | 5,h | 6,h | 7,h | 8,h | 9,h => by cases h
  | j + 11,h => by cases h

def lastL (line done : Int) (pat hold : List UInt8) (ql : Nat) (over : Bool) (stop code : Int) : List UInt8 :=
  bs [108,105,110,101] ++ [32] ++ Lib.itoa line ++ [10] ++ bs [112,97,116,116,101,114,110] ++ [32] ++ quoteL pat ++ [10] ++ bs [104,111,108,100] ++ [32] ++ quoteL hold ++ [10] ++ bs [113,117,101,117,101] ++ [32] ++ Lib.itoa (ql : Int) ++ [10] ++ bs [100,111,110,101] ++ [32] ++ Lib.itoa done ++ [10] ++
    (if over then bs [111,118,101,114] ++ [32] ++ Lib.itoa stop ++ [32] ++ Lib.itoa code ++ [10] else [])

theorem last_f {acc : List UInt8} {line done : Int} {pat hold : List UInt8} {ql : Nat} {stop code : Int} : acc ++ lastL line done pat hold ql false stop code = acc ++ bs [108,105,110,101] ++ [32] ++ Lib.itoa line ++ [10] ++ bs [112,97,116,116,101,114,110] ++ [32] ++ quoteL pat ++ [10] ++ bs [104,111,108,100] ++ [32] ++ quoteL hold ++ [10] ++ bs [113,117,101,117,101] ++ [32] ++ Lib.itoa (ql : Int) ++ [10] ++ bs [100,111,110,101] ++ [32] ++ Lib.itoa done ++ [10] := by
  delta lastL; simp only [Bool.false_eq_true,if_false,List.append_nil,List.append_assoc]
theorem last_t {acc : List UInt8} {line done : Int} {pat hold : List UInt8} {ql : Nat} {stop code : Int} : acc ++ lastL line done pat hold ql true stop code = acc ++ bs [108,105,110,101] ++ [32] ++ Lib.itoa line ++ [10] ++ bs [112,97,116,116,101,114,110] ++ [32] ++ quoteL pat ++ [10] ++ bs [104,111,108,100] ++ [32] ++ quoteL hold ++ [10] ++ bs [113,117,101,117,101] ++ [32] ++ Lib.itoa (ql : Int) ++ [10] ++ bs [100,111,110,101] ++ [32] ++ Lib.itoa done ++ [10] ++ bs [111,118,101,114] ++ [32] ++ Lib.itoa stop ++ [32] ++ Lib.itoa code ++ [10] := by
  delta lastL; simp only [if_true,List.append_assoc]

attribute [local irreducible] aop evT tm guardX Tr.get Tr.set WR WD WP WX WL thn blk lop View Gr Fr

set_option maxHeartbeats 40000000 in
theorem tail17 {pc : List D} {ds dq : D} {sl ql : Nat} {done next line : Int} {pat hold : List UInt8} {over : Bool} {stop code : Int} (M : PM pc ds dq sl ql done next line pat hold stop code) {t0 t : Tr AObj} {n0 n l3 ls : Nat} {T : Tr D} {acc : List UInt8} (hg : Gr t0 n0 t n) (hf : Fr t n) (hl3 : l3 < n) (hls : ls < n) (hls0 : n0 ≤ ls) (hne : ls ≠ l3) (hm : t.get l3 = some (.cells (momL done next line pat hold dq over stop code) 0)) (hs : t.get ls = some (.cells [.s acc] 0)) (hacc : acc.length ≤ 8388608)
    (h3 : T.get 3 = some (.ptr l3 0)) (h5 : T.get 5 = some (.ptr ls 0)) (h6 : T.get 6 = some (.fn (.func 34) [] [.ptr ls 0])) (h7 : T.get 7 = some (.fn (.func 35) [] [])) {Q : QX} (hQ : ∀ T' t' n',Gr t0 n0 t' n' → T'.get 4 = some (.s (acc ++ lastL line done pat hold ql over stop code)) → Q .ret T' t' n') : WX Tryz.prog G X17_T T t n Q := by
  have hn0 := Gr.low hg
  have il := itoa_len M.bl.1 M.bl.2
  have id := itoa_len M.bd.1 M.bd.2
  have iq := itoa_len (m := (ql : Int)) (by have := M.szq; omega) (by have := M.szq; omega)
  have is := itoa_len (m := stop) (by have := M.bs; omega) (by have := M.bs; omega)
  have ic := itoa_len M.bc.1 M.bc.2
  have qp := quote_len pat
  have qh := quote_len hold
  have szp := M.szp
  have szh := M.szh
  obtain ⟨n49,g49,c49⟩ := (QC.at (qc_itoa line M.bl.1 M.bl.2) hf (Nat.le_refl _))
  obtain ⟨e49,f49,s49,m49⟩ := lineS (w := bs [108,105,110,101]) (y := Lib.itoa line) hf hls hl3 hne hs hm g49 (by simp only [List.length_append,bs,List.length_map,List.length_cons,List.length_nil,maxN]; omega)
  have a49 : ls < n49 + 1 := by omega
  have b49 : l3 < n49 + 1 := by omega
  obtain ⟨n55,g55,c55⟩ := (QC.at (qc_quote pat M.szp) f49 (Nat.le_refl _))
  obtain ⟨e55,f55,s55,m55⟩ := lineS (w := bs [112,97,116,116,101,114,110]) (y := quoteL pat) f49 a49 b49 hne s49 m49 g55 (by simp only [List.length_append,bs,List.length_map,List.length_cons,List.length_nil,maxN]; omega)
  have a55 : ls < n55 + 1 := by omega
  have b55 : l3 < n55 + 1 := by omega
  obtain ⟨n61,g61,c61⟩ := (QC.at (qc_quote hold M.szh) f55 (Nat.le_refl _))
  obtain ⟨e61,f61,s61,m61⟩ := lineS (w := bs [104,111,108,100]) (y := quoteL hold) f55 a55 b55 hne s55 m55 g61 (by simp only [List.length_append,bs,List.length_map,List.length_cons,List.length_nil,maxN]; omega)
  have a61 : ls < n61 + 1 := by omega
  have b61 : l3 < n61 + 1 := by omega
  obtain ⟨n69,g69,c69⟩ := (QC.at (qc_itoa (ql : Int) (by have := M.szq; omega) (by have := M.szq; omega)) f61 (Nat.le_refl _))
  obtain ⟨e69,f69,s69,m69⟩ := lineS (w := bs [113,117,101,117,101]) (y := Lib.itoa (ql : Int)) f61 a61 b61 hne s61 m61 g69 (by simp only [List.length_append,bs,List.length_map,List.length_cons,List.length_nil,maxN]; omega)
  have a69 : ls < n69 + 1 := by omega
  have b69 : l3 < n69 + 1 := by omega
  obtain ⟨n76,g76,c76⟩ := (QC.at (qc_itoa done M.bd.1 M.bd.2) f69 (Nat.le_refl _))
  obtain ⟨e76,f76,s76,m76⟩ := lineS (w := bs [100,111,110,101]) (y := Lib.itoa done) f69 a69 b69 hne s69 m69 g76 (by simp only [List.length_append,bs,List.length_map,List.length_cons,List.length_nil,maxN]; omega)
  have a76 : ls < n76 + 1 := by omega
  have b76 : l3 < n76 + 1 := by omega
  have hw : IntKind.i64.wrap stop = stop := by have := M.bs; rw [IntKind.wrap_i64]; omega
  let TT : Tr AObj := ((((((((((t.set n49 (some (.cells [.s (bs [108,105,110,101]),.s (Lib.itoa line)] 0))).set ls (some (.cells [.s (acc ++ bs [108,105,110,101] ++ [32] ++ Lib.itoa line ++ [10])] 0))).set n55 (some (.cells [.s (bs [112,97,116,116,101,114,110]),.s (quoteL pat)] 0))).set ls (some (.cells [.s (acc ++ bs [108,105,110,101] ++ [32] ++ Lib.itoa line ++ [10] ++ bs [112,97,116,116,101,114,110] ++ [32] ++ quoteL pat ++ [10])] 0))).set n61 (some (.cells [.s (bs [104,111,108,100]),.s (quoteL hold)] 0))).set ls (some (.cells [.s (acc ++ bs [108,105,110,101] ++ [32] ++ Lib.itoa line ++ [10] ++ bs [112,97,116,116,101,114,110] ++ [32] ++ quoteL pat ++ [10] ++ bs [104,111,108,100] ++ [32] ++ quoteL hold ++ [10])] 0))).set n69 (some (.cells [.s (bs [113,117,101,117,101]),.s (Lib.itoa (ql : Int))] 0))).set ls (some (.cells [.s (acc ++ bs [108,105,110,101] ++ [32] ++ Lib.itoa line ++ [10] ++ bs [112,97,116,116,101,114,110] ++ [32] ++ quoteL pat ++ [10] ++ bs [104,111,108,100] ++ [32] ++ quoteL hold ++ [10] ++ bs [113,117,101,117,101] ++ [32] ++ Lib.itoa (ql : Int) ++ [10])] 0))).set n76 (some (.cells [.s (bs [100,111,110,101]),.s (Lib.itoa done)] 0))).set ls (some (.cells [.s (acc ++ bs [108,105,110,101] ++ [32] ++ Lib.itoa line ++ [10] ++ bs [112,97,116,116,101,114,110] ++ [32] ++ quoteL pat ++ [10] ++ bs [104,111,108,100] ++ [32] ++ quoteL hold ++ [10] ++ bs [113,117,101,117,101] ++ [32] ++ Lib.itoa (ql : Int) ++ [10] ++ bs [100,111,110,101] ++ [32] ++ Lib.itoa done ++ [10])] 0)))
  have hgF : Gr t0 n0 TT (n76 + 1) := by show Gr t0 n0 ((((((((((t.set n49 (some (.cells [.s (bs [108,105,110,101]),.s (Lib.itoa line)] 0))).set ls (some (.cells [.s (acc ++ bs [108,105,110,101] ++ [32] ++ Lib.itoa line ++ [10])] 0))).set n55 (some (.cells [.s (bs [112,97,116,116,101,114,110]),.s (quoteL pat)] 0))).set ls (some (.cells [.s (acc ++ bs [108,105,110,101] ++ [32] ++ Lib.itoa line ++ [10] ++ bs [112,97,116,116,101,114,110] ++ [32] ++ quoteL pat ++ [10])] 0))).set n61 (some (.cells [.s (bs [104,111,108,100]),.s (quoteL hold)] 0))).set ls (some (.cells [.s (acc ++ bs [108,105,110,101] ++ [32] ++ Lib.itoa line ++ [10] ++ bs [112,97,116,116,101,114,110] ++ [32] ++ quoteL pat ++ [10] ++ bs [104,111,108,100] ++ [32] ++ quoteL hold ++ [10])] 0))).set n69 (some (.cells [.s (bs [113,117,101,117,101]),.s (Lib.itoa (ql : Int))] 0))).set ls (some (.cells [.s (acc ++ bs [108,105,110,101] ++ [32] ++ Lib.itoa line ++ [10] ++ bs [112,97,116,116,101,114,110] ++ [32] ++ quoteL pat ++ [10] ++ bs [104,111,108,100] ++ [32] ++ quoteL hold ++ [10] ++ bs [113,117,101,117,101] ++ [32] ++ Lib.itoa (ql : Int) ++ [10])] 0))).set n76 (some (.cells [.s (bs [100,111,110,101]),.s (Lib.itoa done)] 0))).set ls (some (.cells [.s (acc ++ bs [108,105,110,101] ++ [32] ++ Lib.itoa line ++ [10] ++ bs [112,97,116,116,101,114,110] ++ [32] ++ quoteL pat ++ [10] ++ bs [104,111,108,100] ++ [32] ++ quoteL hold ++ [10] ++ bs [113,117,101,117,101] ++ [32] ++ Lib.itoa (ql : Int) ++ [10] ++ bs [100,111,110,101] ++ [32] ++ Lib.itoa done ++ [10])] 0))) (n76 + 1); (repeat refine Gr.set ?_ (by omega)); exact hg.up (by omega)
  unfold X17_T
  cases over with
  | false =>
    refine WX.seq ?_
    refine WX.region ?_
    refine WR.val gd_n rfl (A_mv (rd_t h6) rfl) ?_
    refine WR.val gd_n rfl (A_mv (rd_t (gth rfl h7)) rfl) ?_
    refine WR.val gd_n rfl (A_faddr (rd_t (gth rfl (gth rfl h3)))) ?_
    refine WR.val gd_n rfl (A_ld1 (rd_t gh) hm rfl) ?_
    refine WR.callv gd_n (rd_t (g2 rfl gh)) (args_cons (rd_t gh) args_nil) rfl c49 ?_
    refine WR.new gd_n rfl (A_bs2 (ds := [.s (bs [108,105,110,101]),.s (Lib.itoa line)]) rd_c (rd_t gh) rfl rfl) ?_
    refine WR.callv gd_n (rd_t (g4 rfl (gth rfl gh))) (args_cons (rd_t gh) args_nil) rfl e49 ?_
    refine WR.nil ?_
    refine thn_n ?_
    refine WX.seq ?_
    refine WX.region ?_
    refine WR.val gd_n rfl (A_mv (rd_t (g4 rfl (g2 rfl (gth rfl h6)))) rfl) ?_
    refine WR.val gd_n rfl (A_faddr (rd_t (g4 rfl (g2 rfl (gth rfl (gth rfl h3)))))) ?_
    refine WR.val gd_n rfl (A_ld1 (rd_t gh) m49 rfl) ?_
    refine WR.call gd_n (args_cons (rd_t gh) args_nil) rfl c55 ?_
    refine WR.new gd_n rfl (A_bs2 (ds := [.s (bs [112,97,116,116,101,114,110]),.s (quoteL pat)]) rd_c (rd_t gh) rfl rfl) ?_
    refine WR.callv gd_n (rd_t (g4 rfl gh)) (args_cons (rd_t gh) args_nil) rfl e55 ?_
    refine WR.nil ?_
    refine thn_n ?_
    refine WX.seq ?_
    refine WX.region ?_
    refine WR.val gd_n rfl (A_mv (rd_t (g8 rfl (g4 rfl (gth rfl h6)))) rfl) ?_
    refine WR.val gd_n rfl (A_faddr (rd_t (g8 rfl (g4 rfl (gth rfl (gth rfl h3)))))) ?_
    refine WR.val gd_n rfl (A_ld1 (rd_t gh) m55 rfl) ?_
    refine WR.call gd_n (args_cons (rd_t gh) args_nil) rfl c61 ?_
    refine WR.new gd_n rfl (A_bs2 (ds := [.s (bs [104,111,108,100]),.s (quoteL hold)]) rd_c (rd_t gh) rfl rfl) ?_
    refine WR.callv gd_n (rd_t (g4 rfl gh)) (args_cons (rd_t gh) args_nil) rfl e61 ?_
    refine WR.nil ?_
    refine thn_n ?_
    refine WX.seq ?_
    refine WX.region ?_
    refine WR.val gd_n rfl (A_mv (rd_t (g8 rfl (g8 rfl (g2 rfl (gth rfl h6))))) rfl) ?_
    refine WR.val gd_n rfl (A_mv (rd_t (g8 rfl (g8 rfl (g2 rfl (gth rfl (gth rfl h7)))))) rfl) ?_
    refine WR.val gd_n rfl (A_faddr (rd_t (g8 rfl (g8 rfl (g4 rfl (gth rfl h3)))))) ?_
    refine WR.val gd_n rfl (A_ld1 (rd_t gh) m61 rfl) ?_
    refine WR.val gd_n rfl (M.lq (rd_t gh)) ?_
    refine WR.callv gd_n (rd_t (g2 rfl (gth rfl gh))) (args_cons (rd_t gh) args_nil) rfl c69 ?_
    refine WR.new gd_n rfl (A_bs2 (ds := [.s (bs [113,117,101,117,101]),.s (Lib.itoa (ql : Int))]) rd_c (rd_t gh) rfl rfl) ?_
    refine WR.callv gd_n (rd_t (g4 rfl (g2 rfl gh))) (args_cons (rd_t gh) args_nil) rfl e69 ?_
    refine WR.nil ?_
    refine thn_n ?_
    refine WX.seq ?_
    refine WX.region ?_
    refine WR.val gd_n rfl (A_mv (rd_t (g8 rfl (g8 rfl (g8 rfl (g2 rfl (gth rfl h6)))))) rfl) ?_
    refine WR.val gd_n rfl (A_mv (rd_t (g8 rfl (g8 rfl (g8 rfl (g2 rfl (gth rfl (gth rfl h7))))))) rfl) ?_
    refine WR.val gd_n rfl (A_faddr (rd_t (g8 rfl (g8 rfl (g8 rfl (g4 rfl (gth rfl h3))))))) ?_
    refine WR.val gd_n rfl (A_ld1 (rd_t gh) m69 rfl) ?_
    refine WR.callv gd_n (rd_t (g2 rfl gh)) (args_cons (rd_t gh) args_nil) rfl c76 ?_
    refine WR.new gd_n rfl (A_bs2 (ds := [.s (bs [100,111,110,101]),.s (Lib.itoa done)]) rd_c (rd_t gh) rfl rfl) ?_
    refine WR.callv gd_n (rd_t (g4 rfl (gth rfl gh))) (args_cons (rd_t gh) args_nil) rfl e76 ?_
    refine WR.nil ?_
    refine thn_n ?_
    refine WX.seq ?_
    refine WX.seq ?_
    refine WX.region ?_
    refine WR.val gd_n rfl (A_faddr (rd_t (g8 rfl (g8 rfl (g8 rfl (g8 rfl (gth rfl (gth rfl h3)))))))) ?_
    refine WR.val gd_n rfl (A_ld1 (rd_t gh) m76 rfl) ?_
    refine WR.nil ?_
    refine thn_n ?_
    refine WX.condF (rd_t gh) ?_
    refine WX.skip ?_
    refine thn_n ?_
    refine WX.seq ?_
    refine WX.region ?_
    refine WR.val gd_n rfl (A_ld1 (rd_t (g8 rfl (g8 rfl (g8 rfl (g8 rfl (g2 rfl (gth rfl (gth rfl h5)))))))) s76 rfl) ?_
    refine WR.val gd_n rfl (A_mv (rd_t gh) rfl) ?_
    refine WR.nil ?_
    refine thn_n ?_
    refine WX.ret ?_
    refine hQ _ _ _ hgF ?_
    rw [last_f]
    exact gh
  | true =>
    have hst : ∀ q ∈ [(l3,AObj.cells (momL done next line pat hold dq true stop code) 0)],q.1 < n76 + 1 ∧ TT.get q.1 = some q.2 := by
      intro q hq
      rw [List.mem_singleton] at hq
      subst hq
      exact ⟨b76,m76⟩
    have hgs : ∀ n',GS1 [(l3,AObj.cells (momL done next line pat hold dq true stop code) 0)] (n76 + 1) ⟨((TT.set (n76 + 1 + 10) (some (.cells [.s (bs [111,118,101,114]),.s (Lib.itoa stop),.s (Lib.itoa code)] 0))).set ls (some (.cells [.s (acc ++ bs [108,105,110,101] ++ [32] ++ Lib.itoa line ++ [10] ++ bs [112,97,116,116,101,114,110] ++ [32] ++ quoteL pat ++ [10] ++ bs [104,111,108,100] ++ [32] ++ quoteL hold ++ [10] ++ bs [113,117,101,117,101] ++ [32] ++ Lib.itoa (ql : Int) ++ [10] ++ bs [100,111,110,101] ++ [32] ++ Lib.itoa done ++ [10] ++ bs [111,118,101,114] ++ [32] ++ Lib.itoa stop ++ [32] ++ Lib.itoa code ++ [10])] 0))),n'⟩ [10] := by
      intro n'
      refine ⟨fun q hq => ?_,fun j => ?_⟩
      · rw [List.mem_singleton] at hq
        subst hq
        exact Tr.get_there (Ne.symm hne) (Tr.get_there (by omega) m76)
      · by_cases hj : j = 10
        · subst hj; exact .inl rfl
        · right
          show (Tr.set _ _ _).get _ = _
          rw [Tr.get_set,if_neg (by omega),Tr.get_set,if_neg (by omega)]
          exact Fr.get f76 (by omega)
    have e92 : ∀ m,CX Tryz.prog G 34 [.sl 1 (n76 + 1 + 10) 0 3,.ptr ls 0] (S.mk (TT.set (n76 + 1 + 10) (some (.cells [.s (bs [111,118,101,114]),.s (Lib.itoa stop),.s (Lib.itoa code)] 0))) m).h (.tup []) (S.mk ((TT.set (n76 + 1 + 10) (some (.cells [.s (bs [111,118,101,114]),.s (Lib.itoa stop),.s (Lib.itoa code)] 0))).set ls (some (.cells [.s (acc ++ bs [108,105,110,101] ++ [32] ++ Lib.itoa line ++ [10] ++ bs [112,97,116,116,101,114,110] ++ [32] ++ quoteL pat ++ [10] ++ bs [104,111,108,100] ++ [32] ++ quoteL hold ++ [10] ++ bs [113,117,101,117,101] ++ [32] ++ Lib.itoa (ql : Int) ++ [10] ++ bs [100,111,110,101] ++ [32] ++ Lib.itoa done ++ [10] ++ bs [111,118,101,114] ++ [32] ++ Lib.itoa stop ++ [32] ++ Lib.itoa code ++ [10])] 0))) m).h := fun m =>
      lineS3 (by omega) s76 (by simp only [List.length_append,bs,List.length_map,List.length_cons,List.length_nil,maxN]; omega)
    refine WX.seq ?_
    refine WX.region ?_
    refine WR.val gd_n rfl (A_mv (rd_t h6) rfl) ?_
    refine WR.val gd_n rfl (A_mv (rd_t (gth rfl h7)) rfl) ?_
    refine WR.val gd_n rfl (A_faddr (rd_t (gth rfl (gth rfl h3)))) ?_
    refine WR.val gd_n rfl (A_ld1 (rd_t gh) hm rfl) ?_
    refine WR.callv gd_n (rd_t (g2 rfl gh)) (args_cons (rd_t gh) args_nil) rfl c49 ?_
    refine WR.new gd_n rfl (A_bs2 (ds := [.s (bs [108,105,110,101]),.s (Lib.itoa line)]) rd_c (rd_t gh) rfl rfl) ?_
    refine WR.callv gd_n (rd_t (g4 rfl (gth rfl gh))) (args_cons (rd_t gh) args_nil) rfl e49 ?_
    refine WR.nil ?_
    refine thn_n ?_
    refine WX.seq ?_
    refine WX.region ?_
    refine WR.val gd_n rfl (A_mv (rd_t (g4 rfl (g2 rfl (gth rfl h6)))) rfl) ?_
    refine WR.val gd_n rfl (A_faddr (rd_t (g4 rfl (g2 rfl (gth rfl (gth rfl h3)))))) ?_
    refine WR.val gd_n rfl (A_ld1 (rd_t gh) m49 rfl) ?_
    refine WR.call gd_n (args_cons (rd_t gh) args_nil) rfl c55 ?_
    refine WR.new gd_n rfl (A_bs2 (ds := [.s (bs [112,97,116,116,101,114,110]),.s (quoteL pat)]) rd_c (rd_t gh) rfl rfl) ?_
    refine WR.callv gd_n (rd_t (g4 rfl gh)) (args_cons (rd_t gh) args_nil) rfl e55 ?_
    refine WR.nil ?_
    refine thn_n ?_
    refine WX.seq ?_
    refine WX.region ?_
    refine WR.val gd_n rfl (A_mv (rd_t (g8 rfl (g4 rfl (gth rfl h6)))) rfl) ?_
    refine WR.val gd_n rfl (A_faddr (rd_t (g8 rfl (g4 rfl (gth rfl (gth rfl h3)))))) ?_
    refine WR.val gd_n rfl (A_ld1 (rd_t gh) m55 rfl) ?_
    refine WR.call gd_n (args_cons (rd_t gh) args_nil) rfl c61 ?_
    refine WR.new gd_n rfl (A_bs2 (ds := [.s (bs [104,111,108,100]),.s (quoteL hold)]) rd_c (rd_t gh) rfl rfl) ?_
    refine WR.callv gd_n (rd_t (g4 rfl gh)) (args_cons (rd_t gh) args_nil) rfl e61 ?_
    refine WR.nil ?_
    refine thn_n ?_
    refine WX.seq ?_
    refine WX.region ?_
    refine WR.val gd_n rfl (A_mv (rd_t (g8 rfl (g8 rfl (g2 rfl (gth rfl h6))))) rfl) ?_
    refine WR.val gd_n rfl (A_mv (rd_t (g8 rfl (g8 rfl (g2 rfl (gth rfl (gth rfl h7)))))) rfl) ?_
    refine WR.val gd_n rfl (A_faddr (rd_t (g8 rfl (g8 rfl (g4 rfl (gth rfl h3)))))) ?_
    refine WR.val gd_n rfl (A_ld1 (rd_t gh) m61 rfl) ?_
    refine WR.val gd_n rfl (M.lq (rd_t gh)) ?_
    refine WR.callv gd_n (rd_t (g2 rfl (gth rfl gh))) (args_cons (rd_t gh) args_nil) rfl c69 ?_
    refine WR.new gd_n rfl (A_bs2 (ds := [.s (bs [113,117,101,117,101]),.s (Lib.itoa (ql : Int))]) rd_c (rd_t gh) rfl rfl) ?_
    refine WR.callv gd_n (rd_t (g4 rfl (g2 rfl gh))) (args_cons (rd_t gh) args_nil) rfl e69 ?_
    refine WR.nil ?_
    refine thn_n ?_
    refine WX.seq ?_
    refine WX.region ?_
    refine WR.val gd_n rfl (A_mv (rd_t (g8 rfl (g8 rfl (g8 rfl (g2 rfl (gth rfl h6)))))) rfl) ?_
    refine WR.val gd_n rfl (A_mv (rd_t (g8 rfl (g8 rfl (g8 rfl (g2 rfl (gth rfl (gth rfl h7))))))) rfl) ?_
    refine WR.val gd_n rfl (A_faddr (rd_t (g8 rfl (g8 rfl (g8 rfl (g4 rfl (gth rfl h3))))))) ?_
    refine WR.val gd_n rfl (A_ld1 (rd_t gh) m69 rfl) ?_
    refine WR.callv gd_n (rd_t (g2 rfl gh)) (args_cons (rd_t gh) args_nil) rfl c76 ?_
    refine WR.new gd_n rfl (A_bs2 (ds := [.s (bs [100,111,110,101]),.s (Lib.itoa done)]) rd_c (rd_t gh) rfl rfl) ?_
    refine WR.callv gd_n (rd_t (g4 rfl (gth rfl gh))) (args_cons (rd_t gh) args_nil) rfl e76 ?_
    refine WR.nil ?_
    refine thn_n ?_
    refine WX.seq ?_
    refine WX.seq ?_
    refine WX.region ?_
    refine WR.val gd_n rfl (A_faddr (rd_t (g8 rfl (g8 rfl (g8 rfl (g8 rfl (gth rfl (gth rfl h3)))))))) ?_
    refine WR.val gd_n rfl (A_ld1 (rd_t gh) m76 rfl) ?_
    refine WR.nil ?_
    refine thn_n ?_
    refine WX.condT (rd_t gh) ?_
    refine WX.drawP (mkCall_ok (F := F17 ((TT.set (n76 + 1 + 10) (some (.cells [.s (bs [111,118,101,114]),.s (Lib.itoa stop),.s (Lib.itoa code)] 0))).set ls (some (.cells [.s (acc ++ bs [108,105,110,101] ++ [32] ++ Lib.itoa line ++ [10] ++ bs [112,97,116,116,101,114,110] ++ [32] ++ quoteL pat ++ [10] ++ bs [104,111,108,100] ++ [32] ++ quoteL hold ++ [10] ++ bs [113,117,101,117,101] ++ [32] ++ Lib.itoa (ql : Int) ++ [10] ++ bs [100,111,110,101] ++ [32] ++ Lib.itoa done ++ [10] ++ bs [111,118,101,114] ++ [32] ++ Lib.itoa stop ++ [32] ++ Lib.itoa code ++ [10])] 0))))) mixedS [none,none,none,none,none,none,none,none,none,none,some (AObj.cells [.s (bs [111,118,101,114]),.s (Lib.itoa stop),.s (Lib.itoa code)] 0)] [(l3,AObj.cells (momL done next line pat hold dq true stop code) 0)] (by rfl) (by rfl) (by rfl) hst f76 ?_
    intro nb81 hlb81 hle81
    refine WP.val gd_n rfl rfl rfl rfl (fun _ _ => A_mv (rd_t (g8 rfl (g8 rfl (g8 rfl (g8 rfl (g2 rfl (gth rfl (gth rfl h6)))))))) rfl) ?_
    refine WP.val gd_n rfl rfl rfl rfl (fun _ _ => A_mv (rd_t (g8 rfl (g8 rfl (g8 rfl (g8 rfl (g4 rfl (gth rfl h7))))))) rfl) ?_
    refine WP.val gd_n rfl rfl rfl rfl (fun _ _ => A_faddr (rd_t (g8 rfl (g8 rfl (g8 rfl (g8 rfl (g4 rfl (gth rfl (gth rfl h3))))))))) ?_
    refine WP.ld gd_n rfl rfl rfl rfl rfl (fun get m hs => A_ld1 (rd_t gh) (by (first | exact hs.1 _ (.head _) | exact hs.1 _ (.tail _ (.head _)) | exact hs.1 _ (.tail _ (.tail _ (.head _))) | exact hs.1 _ (.tail _ (.tail _ (.tail _ (.head _)))) | exact hs.1 _ (.tail _ (.tail _ (.tail _ (.tail _ (.head _))))) | exact hs.2 _ (.head _) rfl)) rfl) ?_
    refine WP.val gd_n rfl rfl rfl rfl (fun _ _ => A_convI (rd_t gh) hw) ?_
    refine WP.callq TT [] [] rfl rfl rfl gd_n (rd_t (g2 rfl (gth rfl gh))) (args_cons (rd_t gh) args_nil) rfl rfl rfl (QC.at (qc_itoa stop (by have := M.bs; omega) (by have := M.bs; omega)) f76 hle81) rfl ?_
    intro n86 hn86
    replace hlb81 := Nat.le_trans hlb81 hn86
    replace hle81 := Nat.le_trans hle81 hn86
    refine WP.val gd_n rfl rfl rfl rfl (fun _ _ => A_mv (rd_t (g8 rfl (g8 rfl (g8 rfl (g8 rfl (g8 rfl (gth rfl (gth rfl h7)))))))) rfl) ?_
    refine WP.val gd_n rfl rfl rfl rfl (fun _ _ => A_faddr (rd_t (g8 rfl (g8 rfl (g8 rfl (g8 rfl (g8 rfl (g2 rfl (gth rfl h3))))))))) ?_
    refine WP.ld gd_n rfl rfl rfl rfl rfl (fun get m hs => A_ld1 (rd_t gh) (by (first | exact hs.1 _ (.head _) | exact hs.1 _ (.tail _ (.head _)) | exact hs.1 _ (.tail _ (.tail _ (.head _))) | exact hs.1 _ (.tail _ (.tail _ (.tail _ (.head _)))) | exact hs.1 _ (.tail _ (.tail _ (.tail _ (.tail _ (.head _))))) | exact hs.2 _ (.head _) rfl)) rfl) ?_
    refine WP.callq TT [] [] rfl rfl rfl gd_n (rd_t (g2 rfl gh)) (args_cons (rd_t gh) args_nil) rfl rfl rfl (QC.at (qc_itoa code M.bc.1 M.bc.2) f76 hle81) rfl ?_
    intro n90 hn90
    replace hlb81 := Nat.le_trans hlb81 hn90
    replace hle81 := Nat.le_trans hle81 hn90
    refine WP.new gd_n rfl rfl rfl rfl rfl (A_bs3 (ds := [.s (bs [111,118,101,114]),.s (Lib.itoa stop),.s (Lib.itoa code)]) rd_c (rd_t (g4 rfl gh)) (rd_t gh) rfl rfl) ?_
    refine WP.callx (TT.set ((n76 + 1) + 10) (some (AObj.cells [.s (bs [111,118,101,114]),.s (Lib.itoa stop),.s (Lib.itoa code)] 0))) [] [10] rfl rfl rfl gd_n (rd_t (g8 rfl (g2 rfl gh))) (args_cons (rd_t gh) args_nil) rfl rfl rfl ⟨_,Nat.le_refl _,e92 _⟩ hgs rfl ?_
    intro n92 hn92
    replace hlb81 := Nat.le_trans hlb81 hn92
    replace hle81 := Nat.le_trans hle81 hn92
    refine WP.nil ⟨obs10,?_⟩
    refine thn_n ?_
    refine WX.seq ?_
    refine WX.region ?_
    refine WR.val gd_n rfl (A_ld1 (rd_t (g8 rfl (g8 rfl (g8 rfl (g8 rfl (g8 rfl (g4 rfl (g2 rfl (gth rfl (gth rfl h5)))))))))) gh rfl) ?_
    refine WR.val gd_n rfl (A_mv (rd_t gh) rfl) ?_
    refine WR.nil ?_
    refine thn_n ?_
    refine WX.ret ?_
    refine hQ _ _ _ (Gr.set (Gr.set hgF (by omega)) (by omega) |>.up (Nat.le_trans (by omega) hle81)) ?_
    rw [last_t]
    exact gh
end
end Go.Proofs.YtelnkadnphephaaGreatDoor.T
end
noncomputable section
namespace Go.Proofs.YtelnkadnphephaaGreatDoor.T
open Go Go.Abs
noncomputable section

theorem say_eq0 {next line done : Int} {pat hold : List UInt8} {ql : Nat} {over : Bool} {stop code : Int} : (bs [] ++ bs [115,116,101,112] ++ [32] ++ Lib.itoa next ++ [10]) ++ lastL line done pat hold ql over stop code = headL next [] ++ tailL line done pat hold ql over stop code := by
  cases over with
  | false => delta lastL headL tailL; simp only [Bool.false_eq_true,if_false,List.append_nil,List.append_assoc]; rfl
  | true => delta lastL headL tailL; simp only [if_true,List.append_nil,List.append_assoc]; rfl
theorem say_eq1 {next line done : Int} {pat hold : List UInt8} {ql : Nat} {over : Bool} {stop code : Int} {c : UInt8} : (bs [] ++ bs [115,116,101,112] ++ [32] ++ Lib.itoa next ++ [32] ++ quoteL [c] ++ [10]) ++ lastL line done pat hold ql over stop code = headL next (bs [32] ++ quoteL [c]) ++ tailL line done pat hold ql over stop code := by
  cases over with
  | false => delta lastL headL tailL; simp only [Bool.false_eq_true,if_false,List.append_nil,List.append_assoc]; rfl
  | true => delta lastL headL tailL; simp only [if_true,List.append_nil,List.append_assoc]; rfl

theorem obs16 {a b : AObj} : ∀ j : Nat,(([none,none,none,none,none,none,none,none,none,none,none,none,none,some a,none,none,some b] : List (Option AObj)).getD j none).isSome = true → ([16,13] : List Nat).contains j = true
  | 13,_ => rfl
  | 16,_ => rfl
  | 0,h | 1,h | 2,h | 3,h | 4,h | 5,h | 6,h | 7,h | 8,h | 9,h | 10,h | 11,h | 12,h | 14,h | 15,h => by cases h
  | j + 17,h => by cases h

attribute [local irreducible] aop evT tm guardX Tr.get Tr.set WR WD WP WX WL thn blk lop View Gr Fr quoteL

set_option maxHeartbeats 40000000 in
theorem say_out {pc : List D} {ds dq : D} {sl ql : Nat} {done next line : Int} {pat hold : List UInt8} {over : Bool} {stop code : Int} (M : PM pc ds dq sl ql done next line pat hold stop code) (ho : ¬ (0 ≤ next ∧ next < (sl : Int))) : QC 17 [.agg pc,.agg (momL done next line pat hold dq over stop code)] (.s (headL next [] ++ tailL line done pat hold ql over stop code)) := QC.of fun t n hf => by
  let T0 : Tr AObj := ((((t.set n (some (.cells pc 0))).set (n + 1) (some (.cells (momL done next line pat hold dq over stop code) 0))).set (n + 1 + 1) (some (.cells [.s (bs [])] 0))).set (n + 1 + 1) (some (.cells [.s (bs [])] 0)))
  have hf0 : Fr T0 (n + 1 + 1 + 1) := ((((Fr.new hf).new).new).upd (Nat.lt_succ_self _))
  have s0 : T0.get (n + 1 + 1) = some (.cells [.s (bs [])] 0) := gh
  have m0 : T0.get (n + 1) = some (.cells (momL done next line pat hold dq over stop code) 0) := Tr.get_there (by omega) (Tr.get_there (by omega) gh)
  have p0 : T0.get n = some (.cells pc 0) := Tr.get_there (by omega) (Tr.get_there (by omega) (Tr.get_there (by omega) gh))
  have hg0 : Gr t n T0 (n + 1 + 1 + 1) := by show Gr t n ((((t.set n (some (.cells pc 0))).set (n + 1) (some (.cells (momL done next line pat hold dq over stop code) 0))).set (n + 1 + 1) (some (.cells [.s (bs [])] 0))).set (n + 1 + 1) (some (.cells [.s (bs [])] 0))) (n + 1 + 1 + 1); (repeat refine Gr.set ?_ (by omega)); exact Gr.refl.up (by omega)
  have il := itoa_len M.bn.1 M.bn.2
  obtain ⟨n42,g42,c42⟩ := QC.at (qc_itoa next M.bn.1 M.bn.2) hf0 (Nat.le_refl _)
  obtain ⟨e42,f42,s42,m42⟩ := lineS (w := bs [115,116,101,112]) (y := Lib.itoa next) hf0 (Nat.lt_succ_self _) (by omega) (by omega) s0 m0 g42 (by simp only [bs,List.length_map,List.length_cons,List.length_nil,maxN]; omega)
  have hac : (bs [] ++ bs [115,116,101,112] ++ [32] ++ Lib.itoa next ++ [10]).length ≤ 8388608 := by simp only [List.length_append,bs,List.length_map,List.length_cons,List.length_nil]; omega
  have key := CX.ofWX (P := Tryz.prog) (Γ := G) (t := t) (n := n) (f := 17) (args := [.agg pc,.agg (momL done next line pat hold dq over stop code)]) Tryz.func17 X17_eq (by kernel_rfl) (by kernel_rfl) (by rfl) (R := fun d' t' n' => d' = .s (headL next [] ++ tailL line done pat hold ql over stop code) ∧ Gr t n t' n') (by
    show WX _ _ X17.body ((Tr.e.set 0 (some (.agg pc))).set 1 (some (.agg (momL done next line pat hold dq over stop code)))) _ _ _
    unfold X17
    by_cases hn : 0 ≤ next
    · have b12 : decide (next ≥ 0) = true := decide_eq_true hn
      have b19 : decide (next < (sl : Int)) = false := decide_eq_false (fun h => ho ⟨hn,h⟩)
      refine WX.seq ?_
      refine WX.region ?_
      refine WR.new gd_n rfl (A_box (rd_t (gth rfl gh)) rfl) ?_
      refine WR.new gd_n rfl (A_box (rd_t (gth rfl gh)) rfl) ?_
      refine WR.val gd_n rfl (A_mv rd_c rfl) ?_
      refine WR.nil ?_
      refine thn_n ?_
      refine WX.seq ?_
      refine WX.region ?_
      refine WR.new gd_n rfl (A_alloc) ?_
      refine WR.upd0 gd_n rfl (A_st (rd_t gh) gh rd_c rfl (Nat.le_refl 1) rfl rfl) ?_
      refine WR.nil ?_
      refine thn_n ?_
      refine WX.seq ?_
      refine WX.region ?_
      refine WR.val gd_n rfl (A_mkfn args_nil (args_cons (rd_t gh) args_nil) rfl rfl) ?_
      refine WR.val gd_n rfl (A_mv (rd_t gh) rfl) ?_
      refine WR.nil ?_
      refine thn_n ?_
      refine WX.seq ?_
      refine WX.region ?_
      refine WR.val gd_n rfl (A_mv rd_f rfl) ?_
      refine WR.nil ?_
      refine thn_n ?_
      refine WX.seq ?_
      refine WX.seq ?_
      refine WX.region ?_
      refine WR.val gd_n rfl (A_faddr (rd_t (g4 rfl (gth rfl gh)))) ?_
      refine WR.val gd_n rfl (A_ld1 (rd_t gh) m0 rfl) ?_
      refine WR.val gd_n rfl (A_geI (rd_t gh) rd_c b12) ?_
      refine WR.val gd_n rfl (A_mv (rd_t gh) rfl) ?_
      refine WR.val (gd_t gh) rfl (A_faddr (rd_t (g8 rfl (gth rfl gh)))) ?_
      refine WR.val (gd_t (gth rfl gh)) rfl (A_ld1 (rd_t gh) m0 rfl) ?_
      refine WR.val (gd_t (g2 rfl gh)) rfl (A_faddr (rd_t (g8 rfl (g4 rfl gh)))) ?_
      refine WR.val (gd_t (g2 rfl (gth rfl gh))) rfl (A_ld1 (rd_t gh) p0 M.p0) ?_
      refine WR.val (gd_t (g4 rfl gh)) rfl (M.ls (rd_t gh)) ?_
      refine WR.val (gd_t (g4 rfl (gth rfl gh))) rfl (A_ltI (rd_t (g2 rfl (gth rfl gh))) (rd_t gh) b19) ?_
      refine WR.val gd_n rfl (A_pickT (rd_t (g4 rfl (g2 rfl gh))) (rd_t gh) rfl) ?_
      refine WR.nil ?_
      refine thn_n ?_
      refine WX.condF (rd_t gh) ?_
      refine WX.region ?_
      refine WR.val gd_n rfl (A_mv (rd_t (g8 rfl (g4 rfl gh))) rfl) ?_
      refine WR.val gd_n rfl (A_mv (rd_t (g8 rfl (g4 rfl gh))) rfl) ?_
      refine WR.val gd_n rfl (A_faddr (rd_t (g8 rfl (g8 rfl (g2 rfl gh))))) ?_
      refine WR.val gd_n rfl (A_ld1 (rd_t gh) m0 rfl) ?_
      refine WR.callv gd_n (rd_t (g2 rfl gh)) (args_cons (rd_t gh) args_nil) rfl c42 ?_
      refine WR.new gd_n rfl (A_bs2 (ds := [.s (bs [115,116,101,112]),.s (Lib.itoa next)]) rd_c (rd_t gh) rfl rfl) ?_
      refine WR.callv gd_n (rd_t (g4 rfl (gth rfl gh))) (args_cons (rd_t gh) args_nil) rfl e42 ?_
      refine WR.nil ?_
      refine thn_n ?_
      refine tail17 (l3 := n + 1) (ls := n + 1 + 1) M (Gr.up (Gr.set (Gr.set hg0 (by omega)) (by omega)) (by omega)) f42 (by omega) (by omega) (by omega) (by omega) m42 s42 hac (g8 rfl (g8 rfl (g4 rfl (g2 rfl (gth rfl gh))))) (g8 rfl (g8 rfl (g4 rfl (gth rfl gh)))) (g8 rfl (g8 rfl (g2 rfl (gth rfl gh)))) (g8 rfl (g8 rfl (g2 rfl gh))) fun T' t' n' g' h4 => ?_
      exact retQ_r (res_t h4 res_nil) rfl ⟨by rw [say_eq0]; rfl,g'⟩
    · have b12 : decide (next ≥ 0) = false := decide_eq_false hn
      refine WX.seq ?_
      refine WX.region ?_
      refine WR.new gd_n rfl (A_box (rd_t (gth rfl gh)) rfl) ?_
      refine WR.new gd_n rfl (A_box (rd_t (gth rfl gh)) rfl) ?_
      refine WR.val gd_n rfl (A_mv rd_c rfl) ?_
      refine WR.nil ?_
      refine thn_n ?_
      refine WX.seq ?_
      refine WX.region ?_
      refine WR.new gd_n rfl (A_alloc) ?_
      refine WR.upd0 gd_n rfl (A_st (rd_t gh) gh rd_c rfl (Nat.le_refl 1) rfl rfl) ?_
      refine WR.nil ?_
      refine thn_n ?_
      refine WX.seq ?_
      refine WX.region ?_
      refine WR.val gd_n rfl (A_mkfn args_nil (args_cons (rd_t gh) args_nil) rfl rfl) ?_
      refine WR.val gd_n rfl (A_mv (rd_t gh) rfl) ?_
      refine WR.nil ?_
      refine thn_n ?_
      refine WX.seq ?_
      refine WX.region ?_
      refine WR.val gd_n rfl (A_mv rd_f rfl) ?_
      refine WR.nil ?_
      refine thn_n ?_
      refine WX.seq ?_
      refine WX.seq ?_
      refine WX.region ?_
      refine WR.val gd_n rfl (A_faddr (rd_t (g4 rfl (gth rfl gh)))) ?_
      refine WR.val gd_n rfl (A_ld1 (rd_t gh) m0 rfl) ?_
      refine WR.val gd_n rfl (A_geI (rd_t gh) rd_c b12) ?_
      refine WR.val gd_n rfl (A_mv (rd_t gh) rfl) ?_
      refine WR.skip (gd_tf gh) ?_
      refine WR.skip (gd_tf (gth rfl gh)) ?_
      refine WR.skip (gd_tf (g2 rfl gh)) ?_
      refine WR.skip (gd_tf (g2 rfl (gth rfl gh))) ?_
      refine WR.skip (gd_tf (g4 rfl gh)) ?_
      refine WR.skip (gd_tf (g4 rfl (gth rfl gh))) ?_
      refine WR.val gd_n rfl (A_pickF (rd_t (g4 rfl (g2 rfl gh))) rd_c rfl) ?_
      refine WR.nil ?_
      refine thn_n ?_
      refine WX.condF (rd_t gh) ?_
      refine WX.region ?_
      refine WR.val gd_n rfl (A_mv (rd_t (g8 rfl (g4 rfl gh))) rfl) ?_
      refine WR.val gd_n rfl (A_mv (rd_t (g8 rfl (g4 rfl gh))) rfl) ?_
      refine WR.val gd_n rfl (A_faddr (rd_t (g8 rfl (g8 rfl (g2 rfl gh))))) ?_
      refine WR.val gd_n rfl (A_ld1 (rd_t gh) m0 rfl) ?_
      refine WR.callv gd_n (rd_t (g2 rfl gh)) (args_cons (rd_t gh) args_nil) rfl c42 ?_
      refine WR.new gd_n rfl (A_bs2 (ds := [.s (bs [115,116,101,112]),.s (Lib.itoa next)]) rd_c (rd_t gh) rfl rfl) ?_
      refine WR.callv gd_n (rd_t (g4 rfl (gth rfl gh))) (args_cons (rd_t gh) args_nil) rfl e42 ?_
      refine WR.nil ?_
      refine thn_n ?_
      refine tail17 (l3 := n + 1) (ls := n + 1 + 1) M (Gr.up (Gr.set (Gr.set hg0 (by omega)) (by omega)) (by omega)) f42 (by omega) (by omega) (by omega) (by omega) m42 s42 hac (g8 rfl (g8 rfl (g4 rfl (g2 rfl (gth rfl gh))))) (g8 rfl (g8 rfl (g4 rfl (gth rfl gh)))) (g8 rfl (g8 rfl (g2 rfl (gth rfl gh)))) (g8 rfl (g8 rfl (g2 rfl gh))) fun T' t' n' g' h4 => ?_
      exact retQ_r (res_t h4 res_nil) rfl ⟨by rw [say_eq0]; rfl,g'⟩)
  obtain ⟨d',t',n',hx,rfl,g⟩ := key
  exact ⟨t',n',hx,g⟩

set_option maxHeartbeats 40000000 in
theorem say_in {pc : List D} {ds dq : D} {sl ql : Nat} {done next line : Int} {pat hold : List UInt8} {over : Bool} {stop code : Int} (M : PM pc ds dq sl ql done next line pat hold stop code) {j : Nat} {cs : List D} {c : UInt8} (hnext : next = (j : Int)) (hj : j < sl) (hi : ∀ {get : Nat → Option AObj} {n : Nat} {ev : Opd → D} {x y : Opd} {k : IntKind},ev x = ds → ev y = .i k (j : Nat) → aop get n ev (.iaddr 55 x y) = .val (.fptr cs)) (h32' : 32 ≤ cs.length) (hb' : cs[32]? = some (byteD c)) :
    QC 17 [.agg pc,.agg (momL done next line pat hold dq over stop code)] (.s (headL next (bs [32] ++ quoteL [c]) ++ tailL line done pat hold ql over stop code)) := QC.of fun t n hf => by
  let T0 : Tr AObj := ((((t.set n (some (.cells pc 0))).set (n + 1) (some (.cells (momL done next line pat hold dq over stop code) 0))).set (n + 1 + 1) (some (.cells [.s (bs [])] 0))).set (n + 1 + 1) (some (.cells [.s (bs [])] 0)))
  have hf0 : Fr T0 (n + 1 + 1 + 1) := ((((Fr.new hf).new).new).upd (Nat.lt_succ_self _))
  have s0 : T0.get (n + 1 + 1) = some (.cells [.s (bs [])] 0) := gh
  have m0 : T0.get (n + 1) = some (.cells (momL done next line pat hold dq over stop code) 0) := Tr.get_there (by omega) (Tr.get_there (by omega) gh)
  have p0 : T0.get n = some (.cells pc 0) := Tr.get_there (by omega) (Tr.get_there (by omega) (Tr.get_there (by omega) gh))
  have hg0 : Gr t n T0 (n + 1 + 1 + 1) := by show Gr t n ((((t.set n (some (.cells pc 0))).set (n + 1) (some (.cells (momL done next line pat hold dq over stop code) 0))).set (n + 1 + 1) (some (.cells [.s (bs [])] 0))).set (n + 1 + 1) (some (.cells [.s (bs [])] 0))) (n + 1 + 1 + 1); (repeat refine Gr.set ?_ (by omega)); exact Gr.refl.up (by omega)
  have il := itoa_len M.bn.1 M.bn.2
  let T1 : Tr AObj := (T0.set ((n + 1 + 1 + 1) + 13) (some (AObj.cells [byteD c] 1)))
  let T2 : Tr AObj := (T1.set ((n + 1 + 1 + 1) + 16) (some (AObj.cells [.s (bs [115,116,101,112]),.s (Lib.itoa next),.s (quoteL [c])] 0)))
  let T3 : Tr AObj := (T2.set (n + 1 + 1) (some (.cells [.s (bs [] ++ bs [115,116,101,112] ++ [32] ++ Lib.itoa next ++ [32] ++ quoteL [c] ++ [10])] 0)))
  have h32 : 32 ≤ (cs.drop 0).length := by rw [List.drop_zero]; exact h32'
  have hb : ((cs.drop 0).drop 32)[0]? = some (byteD c) := by rw [List.drop_zero,List.getElem?_drop]; exact hb'
  have hm1 : [c].length ≤ maxN := by simp only [List.length_singleton,maxN]; omega
  have hc1 : [c].length ≤ 1048576 := by rw [List.length_singleton]; decide
  have hq := quote_len [c]
  rw [List.length_singleton] at hq
  have b12 : decide (next ≥ 0) = true := decide_eq_true (by omega)
  have b19 : decide (next < (sl : Int)) = true := decide_eq_true (by omega)
  have hac : (bs [] ++ bs [115,116,101,112] ++ [32] ++ Lib.itoa next ++ [32] ++ quoteL [c] ++ [10]).length ≤ 8388608 := by simp only [List.length_append,bs,List.length_map,List.length_cons,List.length_nil]; omega
  have hst : ∀ q ∈ [(n,AObj.cells pc 0),(n + 1,AObj.cells (momL done next line pat hold dq over stop code) 0)],q.1 < (n + 1 + 1 + 1) ∧ T0.get q.1 = some q.2 := by
    intro q hq
    rcases List.mem_cons.1 hq with h | h
    · subst h; exact ⟨by show n < _; omega,p0⟩
    · rw [List.mem_singleton] at h
      subst h; exact ⟨by show n + 1 < _; omega,m0⟩
  have hf13 : Fr T1 ((n + 1 + 1 + 1) + 18) := Fr.put hf0 (by omega) (by omega)
  have hf16 : Fr T2 ((n + 1 + 1 + 1) + 18) := Fr.put hf13 (by omega) (by omega)
  have hf17 : Fr T3 ((n + 1 + 1 + 1) + 18) := hf16.upd (by omega)
  have m17 : T3.get (n + 1) = some (.cells (momL done next line pat hold dq over stop code) 0) := Tr.get_there (by omega) (Tr.get_there (by omega) (Tr.get_there (by omega) m0))
  have p17 : T3.get n = some (.cells pc 0) := Tr.get_there (by omega) (Tr.get_there (by omega) (Tr.get_there (by omega) p0))
  have hg17 : Gr t n T3 ((n + 1 + 1 + 1) + 18) := Gr.up (Gr.set (Gr.set (Gr.set hg0 (by omega)) (by omega)) (by omega)) (by omega)
  have e37 : ∀ m,CX Tryz.prog G 34 [.sl 1 ((n + 1 + 1 + 1) + 16) 0 3,.ptr (n + 1 + 1) 0] (S.mk T2 m).h (.tup []) (S.mk T3 m).h := fun m =>
    lineS3 (t := T1) (by omega) (Tr.get_there (by omega) s0) (by simp only [bs,List.length_map,List.length_cons,List.length_nil,maxN]; omega)
  have hgs : ∀ n',GS1 [(n,AObj.cells pc 0),(n + 1,AObj.cells (momL done next line pat hold dq over stop code) 0)] (n + 1 + 1 + 1) ⟨T3,n'⟩ [16,13] := by
    intro n'
    refine ⟨fun q hq => ?_,fun j => ?_⟩
    · rcases List.mem_cons.1 hq with h | h
      · subst h; exact p17
      · rw [List.mem_singleton] at h
        subst h; exact m17
    · by_cases hj : j = 13
      · subst hj; exact .inl rfl
      · by_cases hj2 : j = 16
        · subst hj2; exact .inl rfl
        · right
          show (Tr.set _ _ _).get _ = _
          rw [Tr.get_set,if_neg (by omega),Tr.get_set,if_neg (by omega),Tr.get_set,if_neg (by omega)]
          exact Fr.get hf0 (by omega)
  have key := CX.ofWX (P := Tryz.prog) (Γ := G) (t := t) (n := n) (f := 17) (args := [.agg pc,.agg (momL done next line pat hold dq over stop code)]) Tryz.func17 X17_eq (by kernel_rfl) (by kernel_rfl) (by rfl) (R := fun d' t' n' => d' = .s (headL next (bs [32] ++ quoteL [c]) ++ tailL line done pat hold ql over stop code) ∧ Gr t n t' n') (by
    show WX _ _ X17.body ((Tr.e.set 0 (some (.agg pc))).set 1 (some (.agg (momL done next line pat hold dq over stop code)))) _ _ _
    unfold X17
    refine WX.seq ?_
    refine WX.region ?_
    refine WR.new gd_n rfl (A_box (rd_t (gth rfl gh)) rfl) ?_
    refine WR.new gd_n rfl (A_box (rd_t (gth rfl gh)) rfl) ?_
    refine WR.val gd_n rfl (A_mv rd_c rfl) ?_
    refine WR.nil ?_
    refine thn_n ?_
    refine WX.seq ?_
    refine WX.region ?_
    refine WR.new gd_n rfl (A_alloc) ?_
    refine WR.upd0 gd_n rfl (A_st (rd_t gh) gh rd_c rfl (Nat.le_refl 1) rfl rfl) ?_
    refine WR.nil ?_
    refine thn_n ?_
    refine WX.seq ?_
    refine WX.region ?_
    refine WR.val gd_n rfl (A_mkfn args_nil (args_cons (rd_t gh) args_nil) rfl rfl) ?_
    refine WR.val gd_n rfl (A_mv (rd_t gh) rfl) ?_
    refine WR.nil ?_
    refine thn_n ?_
    refine WX.seq ?_
    refine WX.region ?_
    refine WR.val gd_n rfl (A_mv rd_f rfl) ?_
    refine WR.nil ?_
    refine thn_n ?_
    refine WX.seq ?_
    refine WX.seq ?_
    refine WX.region ?_
    refine WR.val gd_n rfl (A_faddr (rd_t (g4 rfl (gth rfl gh)))) ?_
    refine WR.val gd_n rfl (A_ld1 (rd_t gh) m0 rfl) ?_
    refine WR.val gd_n rfl (A_geI (rd_t gh) rd_c b12) ?_
    refine WR.val gd_n rfl (A_mv (rd_t gh) rfl) ?_
    refine WR.val (gd_t gh) rfl (A_faddr (rd_t (g8 rfl (gth rfl gh)))) ?_
    refine WR.val (gd_t (gth rfl gh)) rfl (A_ld1 (rd_t gh) m0 rfl) ?_
    refine WR.val (gd_t (g2 rfl gh)) rfl (A_faddr (rd_t (g8 rfl (g4 rfl gh)))) ?_
    refine WR.val (gd_t (g2 rfl (gth rfl gh))) rfl (A_ld1 (rd_t gh) p0 M.p0) ?_
    refine WR.val (gd_t (g4 rfl gh)) rfl (M.ls (rd_t gh)) ?_
    refine WR.val (gd_t (g4 rfl (gth rfl gh))) rfl (A_ltI (rd_t (g2 rfl (gth rfl gh))) (rd_t gh) b19) ?_
    refine WR.val gd_n rfl (A_pickT (rd_t (g4 rfl (g2 rfl gh))) (rd_t gh) rfl) ?_
    refine WR.nil ?_
    refine thn_n ?_
    refine WX.condT (rd_t gh) ?_
    refine WX.drawP (mkCall_ok (F := F17 T3)) mixedS [none,none,none,none,none,none,none,none,none,none,none,none,none,some (AObj.cells [byteD c] 1),none,none,some (AObj.cells [.s (bs [115,116,101,112]),.s (Lib.itoa next),.s (quoteL [c])] 0)] [(n,AObj.cells pc 0),(n + 1,AObj.cells (momL done next line pat hold dq over stop code) 0)] (by rfl) (by rfl) (by rfl) hst hf0 ?_
    intro nb20 hlb20 hle20
    refine WP.val gd_n rfl rfl rfl rfl (fun _ _ => A_mv (rd_t (g8 rfl (g4 rfl gh))) rfl) ?_
    refine WP.val gd_n rfl rfl rfl rfl (fun _ _ => A_mv (rd_t (g8 rfl (g4 rfl gh))) rfl) ?_
    refine WP.val gd_n rfl rfl rfl rfl (fun _ _ => A_faddr (rd_t (g8 rfl (g8 rfl (g2 rfl gh))))) ?_
    refine WP.ld gd_n rfl rfl rfl rfl rfl (fun get m hs => A_ld1 (rd_t gh) (by (first | exact hs.1 _ (.head _) | exact hs.1 _ (.tail _ (.head _)) | exact hs.1 _ (.tail _ (.tail _ (.head _))) | exact hs.1 _ (.tail _ (.tail _ (.tail _ (.head _)))) | exact hs.1 _ (.tail _ (.tail _ (.tail _ (.tail _ (.head _))))) | exact hs.2 _ (.head _) rfl)) rfl) ?_
    refine WP.callq T0 [] [] rfl rfl rfl gd_n (rd_t (g2 rfl gh)) (args_cons (rd_t gh) args_nil) rfl rfl rfl (QC.at (qc_itoa next M.bn.1 M.bn.2) hf0 hle20) rfl ?_
    intro n24 hn24
    replace hlb20 := Nat.le_trans hlb20 hn24
    replace hle20 := Nat.le_trans hle20 hn24
    refine WP.val gd_n rfl rfl rfl rfl (fun _ _ => A_faddr (rd_t (g8 rfl (g8 rfl (g4 rfl (g2 rfl gh)))))) ?_
    refine WP.ld gd_n rfl rfl rfl rfl rfl (fun get m hs => A_ld1 (rd_t gh) (by (first | exact hs.1 _ (.head _) | exact hs.1 _ (.tail _ (.head _)) | exact hs.1 _ (.tail _ (.tail _ (.head _))) | exact hs.1 _ (.tail _ (.tail _ (.tail _ (.head _)))) | exact hs.1 _ (.tail _ (.tail _ (.tail _ (.tail _ (.head _))))) | exact hs.2 _ (.head _) rfl)) M.p0) ?_
    refine WP.val gd_n rfl rfl rfl rfl (fun _ _ => A_faddr (rd_t (g8 rfl (g8 rfl (g4 rfl (g2 rfl (gth rfl gh))))))) ?_
    refine WP.ld gd_n rfl rfl rfl rfl rfl (fun get m hs => A_ld1 (rd_t gh) (by (first | exact hs.1 _ (.head _) | exact hs.1 _ (.tail _ (.head _)) | exact hs.1 _ (.tail _ (.tail _ (.head _))) | exact hs.1 _ (.tail _ (.tail _ (.tail _ (.head _)))) | exact hs.1 _ (.tail _ (.tail _ (.tail _ (.tail _ (.head _))))) | exact hs.2 _ (.head _) rfl)) rfl) ?_
    refine WP.val gd_n rfl rfl rfl rfl (fun _ _ => hi (rd_t (g2 rfl gh)) (by rw [(rd_t gh),hnext])) ?_
    refine WP.val gd_n rfl rfl rfl rfl (fun _ _ => A_fad (rd_t gh) (Nat.zero_le _)) ?_
    refine WP.val gd_n rfl rfl rfl rfl (fun _ _ => A_fad (rd_t gh) h32) ?_
    refine WP.ld gd_n rfl rfl rfl rfl rfl (fun get m hs => A_ldf1 (rd_t gh) hb rfl) ?_
    refine WP.new gd_n rfl rfl rfl rfl rfl (A_bs1 (ds := [byteD c]) (rd_t gh) rfl rfl) ?_
    refine WP.ld gd_n rfl rfl rfl rfl rfl (fun get m hs => A_convBS (t := [c]) (rd_t gh) (hs.2 _ (.head _) rfl) (Nat.le_refl 1) rfl hm1) ?_
    refine WP.callq (T0.set ((n + 1 + 1 + 1) + 13) (some (AObj.cells [byteD c] 1))) [] [13] rfl rfl rfl gd_n rd_f (args_cons (rd_t gh) args_nil) rfl rfl rfl (QC.at (qc_quote [c] hc1) hf13 hlb20) rfl ?_
    intro n35 hn35
    replace hlb20 := Nat.le_trans hlb20 hn35
    replace hle20 := Nat.le_trans hle20 hn35
    refine WP.new gd_n rfl rfl rfl rfl rfl (A_bs3 (ds := [.s (bs [115,116,101,112]),.s (Lib.itoa next),.s (quoteL [c])]) rd_c (rd_t (g8 rfl (g2 rfl (gth rfl gh)))) (rd_t gh) rfl rfl) ?_
    refine WP.callx ((T0.set ((n + 1 + 1 + 1) + 13) (some (AObj.cells [byteD c] 1))).set ((n + 1 + 1 + 1) + 16) (some (AObj.cells [.s (bs [115,116,101,112]),.s (Lib.itoa next),.s (quoteL [c])] 0))) [] [16,13] rfl rfl rfl gd_n (rd_t (g8 rfl (g8 rfl gh))) (args_cons (rd_t gh) args_nil) rfl rfl rfl ⟨_,Nat.le_refl _,e37 _⟩ hgs rfl ?_
    intro n37 hn37
    replace hlb20 := Nat.le_trans hlb20 hn37
    replace hle20 := Nat.le_trans hle20 hn37
    refine WP.nil ⟨obs16,?_⟩
    refine thn_n ?_
    refine tail17 (l3 := n + 1) (ls := n + 1 + 1) M (Gr.up hg17 hlb20) (Fr.up hf17 hlb20) (Nat.lt_of_lt_of_le (by omega) hlb20) (Nat.lt_of_lt_of_le (by omega) hlb20) (by omega) (by omega) m17 gh hac (g8 rfl (g8 rfl (g8 rfl (g8 rfl (g2 rfl gh))))) (g8 rfl (g8 rfl (g8 rfl (g8 rfl gh)))) (g8 rfl (g8 rfl (g8 rfl (g4 rfl (g2 rfl gh))))) (g8 rfl (g8 rfl (g8 rfl (g4 rfl (gth rfl gh))))) fun T' t' n' g' h4 => ?_
    exact retQ_r (res_t h4 res_nil) rfl ⟨by rw [say_eq1]; rfl,g'⟩)
  obtain ⟨d',t',n',hx,rfl,g⟩ := key
  exact ⟨t',n',hx,g⟩
end
end Go.Proofs.YtelnkadnphephaaGreatDoor.T
end
noncomputable section
namespace Go.Proofs.YtelnkadnphephaaGreatDoor.T
open Go Go.Abs
noncomputable section

def momZ : List D := [.i .i64 (.ofNat 0),.i .i64 (.ofNat 0),.i .i64 (.ofNat 0),.s (bs []),.s (bs []),.nils,.b false,.i .u8 (.ofNat 0),.i .i64 (.ofNat 0)]

/-! A nil debugger's answers. -/
theorem run15 : (runTop Tryz.prog tabT G qs 100000 2000 15 [.nilp,.i .i64 (.ofNat 1)] ⟨.e,0⟩).map (·.1) = some (.tup [.agg momZ,.i .i64 (.ofNat 1)]) := by kernel_rfl
theorem run16 : (runTop Tryz.prog tabT G qs 100000 2000 16 [.nilp,.i .i64 (.ofNat 0)] ⟨.e,0⟩).map (·.1) = some (.tup [.agg momZ,.i .i64 (.ofNat 1)]) := by kernel_rfl
theorem run20 : (runTop Tryz.prog tabT G qs 100000 2000 20 [.nilp] ⟨.e,0⟩).map (·.1) = some (.agg momZ) := by kernel_rfl
theorem run21 : (runTop Tryz.prog tabT G qs 100000 2000 21 [.nilp,.i .i64 (.ofNat 0)] ⟨.e,0⟩).map (·.1) = some (.i .i64 (.ofNat 1)) := by kernel_rfl
theorem run22 : (runTop Tryz.prog tabT G qs 100000 2000 22 [.nilp,.i .i64 (.ofNat 0)] ⟨.e,0⟩).map (·.1) = some (.i .i64 (.ofNat 1)) := by kernel_rfl
theorem run23 : (runTop Tryz.prog tabT G qs 100000 2000 23 [.nilp] ⟨.e,0⟩).map (·.1) = some .nils := by kernel_rfl
theorem run19 : (runTop Tryz.prog tabT G qs 100000 2000 19 [.agg momZ,.agg momZ] ⟨.e,0⟩).map (·.1) = some (.b true) := by kernel_rfl
theorem cz15 (h : AHeap) : CX Tryz.prog G 15 [.nilp,.i .i64 (.ofNat 1)] h (.tup [.agg momZ,.i .i64 (.ofNat 1)]) h := closed_run tabOk run15 (by kernel_rfl) (by kernel_rfl) h
theorem cz16 (h : AHeap) : CX Tryz.prog G 16 [.nilp,.i .i64 (.ofNat 0)] h (.tup [.agg momZ,.i .i64 (.ofNat 1)]) h := closed_run tabOk run16 (by kernel_rfl) (by kernel_rfl) h
theorem cz20 (h : AHeap) : CX Tryz.prog G 20 [.nilp] h (.agg momZ) h := closed_run tabOk run20 (by kernel_rfl) (by kernel_rfl) h
theorem cz21 (h : AHeap) : CX Tryz.prog G 21 [.nilp,.i .i64 (.ofNat 0)] h (.i .i64 (.ofNat 1)) h := closed_run tabOk run21 (by kernel_rfl) (by kernel_rfl) h
theorem cz22 (h : AHeap) : CX Tryz.prog G 22 [.nilp,.i .i64 (.ofNat 0)] h (.i .i64 (.ofNat 1)) h := closed_run tabOk run22 (by kernel_rfl) (by kernel_rfl) h
theorem cz23 (h : AHeap) : CX Tryz.prog G 23 [.nilp] h .nils h := closed_run tabOk run23 (by kernel_rfl) (by kernel_rfl) h
theorem cz19 (h : AHeap) : CX Tryz.prog G 19 [.agg momZ,.agg momZ] h (.b true) h := closed_run tabOk run19 (by kernel_rfl) (by kernel_rfl) h

def F5 (out : List UInt8) (f : FuncId) (_ : List D) (t : Tr AObj) : Option (D × Tr AObj) :=
  match f with
  | 17 => some (.s out,t)
  | 18 => some (.s out,t)
  | 19 => some (.b true,t)
  | 20 => some (.agg momZ,t)
  | 21 => some (.i .i64 (.ofNat 1),t)
  | 22 => some (.i .i64 (.ofNat 1),t)
  | 23 => some (.nils,t)
  | _ => none

theorem both {pc : List D} {ds dq : D} {sl ql : Nat} {done next line : Int} {pat hold : List UInt8} {over : Bool} {stop code : Int} (M : PM pc ds dq sl ql done next line pat hold stop code) : ∃ out,QC 17 [.agg pc,.agg (momL done next line pat hold dq over stop code)] (.s out) ∧ QC 18 [.agg pc,.agg (momL done next line pat hold dq over stop code)] (.s out) := by
  by_cases h : 0 ≤ next ∧ next < (sl : Int)
  · obtain ⟨j,hj⟩ : ∃ j : Nat,next = j := ⟨next.toNat,by omega⟩
    obtain ⟨cs,c,h1,h2,h3⟩ := M.step j (by omega)
    exact ⟨_,say_in M hj (by omega) h1 h2 h3,said_in M hj (by omega) h1 h2 h3⟩
  · exact ⟨_,say_out M h,said_out M h⟩

attribute [local irreducible] aop evT tm guardX Tr.get Tr.set WR WD WP WX WL thn blk lop View Gr Fr quoteL

set_option maxHeartbeats 80000000 in
theorem qc5 {pc : List D} {ds dq : D} {sl ql : Nat} {done next line : Int} {pat hold : List UInt8} {over : Bool} {stop code : Int} (M : PM pc ds dq sl ql done next line pat hold stop code) (hpl : pc.length = 3) : QC 5 [.agg pc,.agg (momL done next line pat hold dq over stop code)] (.b true) := QC.of fun t n hf => by
  obtain ⟨out,q17,q18⟩ := both (over := over) M
  have m0 : ((t.set n (some (.cells pc 0))).set (n + 1) (some (.cells (momL done next line pat hold dq over stop code) 0))).get (n + 1) = some (.cells (momL done next line pat hold dq over stop code) 0) := gh
  let TT : Tr AObj := ((((((((t.set n (some (.cells pc 0))).set (n + 1) (some (.cells (momL done next line pat hold dq over stop code) 0))).set (n + 1 + 1) (some (.cells momZ 0))).set (n + 1 + 1) (some (.cells momZ 0))).set (n + 1 + 1 + 1) (some (.cells momZ 0))).set (n + 1 + 1 + 1) (some (.cells momZ 0))).set (n + 1 + 1 + 1 + 1) (some (.cells momZ 0))).set (n + 1 + 1 + 1 + 1) (some (.cells momZ 0)))
  have hk3 : 0 + 3 ≤ pc.length := by omega
  have ht3 : (pc.drop 0).take 3 = pc := by rw [List.drop_zero,List.take_of_length_le (by omega)]
  have hout : (out == out) = true := by simp
  have hf0 : Fr TT (n + 1 + 1 + 1 + 1 + 1) := ((((((((Fr.new hf).new).new).upd (Nat.lt_succ_self _)).new).upd (Nat.lt_succ_self _)).new).upd (Nat.lt_succ_self _))
  have g0 : Gr t n TT (n + 1 + 1 + 1 + 1 + 1) := by show Gr t n ((((((((t.set n (some (.cells pc 0))).set (n + 1) (some (.cells (momL done next line pat hold dq over stop code) 0))).set (n + 1 + 1) (some (.cells momZ 0))).set (n + 1 + 1) (some (.cells momZ 0))).set (n + 1 + 1 + 1) (some (.cells momZ 0))).set (n + 1 + 1 + 1) (some (.cells momZ 0))).set (n + 1 + 1 + 1 + 1) (some (.cells momZ 0))).set (n + 1 + 1 + 1 + 1) (some (.cells momZ 0))) (n + 1 + 1 + 1 + 1 + 1); (repeat refine Gr.set ?_ (by omega)); exact Gr.refl.up (by omega)
  have hst : ∀ q ∈ [(n,AObj.cells pc 0),(n + 1,AObj.cells (momL done next line pat hold dq over stop code) 0),(n + 1 + 1,AObj.cells momZ 0),(n + 1 + 1 + 1,AObj.cells momZ 0),(n + 1 + 1 + 1 + 1,AObj.cells momZ 0)],q.1 < (n + 1 + 1 + 1 + 1 + 1) ∧ TT.get q.1 = some q.2 := by
    intro q hq
    simp only [List.mem_cons,List.mem_nil_iff,or_false] at hq
    rcases hq with rfl | rfl | rfl | rfl | rfl
    · exact ⟨by show n < _; omega,by repeat (first | exact gh | refine Tr.get_there (by show n ≠ _; omega) ?_)⟩
    · exact ⟨by show n + 1 < _; omega,by repeat (first | exact gh | refine Tr.get_there (by show n + 1 ≠ _; omega) ?_)⟩
    · exact ⟨by show n + 1 + 1 < _; omega,by repeat (first | exact gh | refine Tr.get_there (by show n + 1 + 1 ≠ _; omega) ?_)⟩
    · exact ⟨by show n + 1 + 1 + 1 < _; omega,by repeat (first | exact gh | refine Tr.get_there (by show n + 1 + 1 + 1 ≠ _; omega) ?_)⟩
    · exact ⟨Nat.lt_succ_self _,gh⟩
  have key := CX.ofWX (P := Tryz.prog) (Γ := G) (t := t) (n := n) (f := 5) (args := [.agg pc,.agg (momL done next line pat hold dq over stop code)]) Tryz.func5 X5_eq (by kernel_rfl) (by kernel_rfl) (by rfl) (R := fun d' t' n' => d' = .b true ∧ Gr t n t' n') (by
    show WX _ _ X5.body ((Tr.e.set 0 (some (.agg pc))).set 1 (some (.agg (momL done next line pat hold dq over stop code)))) _ _ _
    unfold X5
    by_cases h1 : next = -9223372036854775808
    · have e1 : (next == .negSucc 9223372036854775807) = true := by subst h1; rfl
      refine WX.seq ?_
      refine WX.region ?_
      refine WR.new gd_n rfl (A_box (rd_t (gth rfl gh)) rfl) ?_
      refine WR.new gd_n rfl (A_box (rd_t (gth rfl gh)) rfl) ?_
      refine WR.val gd_n rfl (A_mv rd_c rfl) ?_
      refine WR.nil ?_
      refine thn_n ?_
      refine WX.seq ?_
      refine WX.seq ?_
      refine WX.region ?_
      refine WR.call gd_n args_nil rfl (cx_lives _) ?_
      refine WR.val gd_n rfl (A_not (rd_t gh) rfl) ?_
      refine WR.nil ?_
      refine thn_n ?_
      refine WX.condF (rd_t gh) ?_
      refine WX.skip ?_
      refine thn_n ?_
      refine WX.seq ?_
      refine WX.seq ?_
      refine WX.region ?_
      refine WR.val gd_n rfl (A_faddr (rd_t (g2 rfl (gth rfl gh)))) ?_
      refine WR.val gd_n rfl (A_ld1 (rd_t gh) m0 rfl) ?_
      refine WR.val gd_n rfl (A_eqI (rd_t gh) rd_c e1) ?_
      refine WR.val gd_n rfl (A_mv (rd_t gh) rfl) ?_
      refine WR.skip (gd_ft gh) ?_
      refine WR.skip (gd_ft (gth rfl gh)) ?_
      refine WR.skip (gd_ft (g2 rfl gh)) ?_
      refine WR.val gd_n rfl (A_pickT (rd_t (g2 rfl (gth rfl gh))) rd_c rfl) ?_
      refine WR.val gd_n rfl (A_mv (rd_t gh) rfl) ?_
      refine WR.skip (gd_ft gh) ?_
      refine WR.skip (gd_ft (gth rfl gh)) ?_
      refine WR.skip (gd_ft (g2 rfl gh)) ?_
      refine WR.val gd_n rfl (A_pickT (rd_t (g2 rfl (gth rfl gh))) rd_c rfl) ?_
      refine WR.val gd_n rfl (A_mv (rd_t gh) rfl) ?_
      refine WR.skip (gd_ft gh) ?_
      refine WR.skip (gd_ft (gth rfl gh)) ?_
      refine WR.skip (gd_ft (g2 rfl gh)) ?_
      refine WR.val gd_n rfl (A_pickT (rd_t (g2 rfl (gth rfl gh))) rd_c rfl) ?_
      refine WR.nil ?_
      refine thn_n ?_
      refine WX.condT (rd_t gh) ?_
      refine WX.seq ?_
      refine WX.region ?_
      refine WR.val gd_n rfl (A_mv rd_c rfl) ?_
      refine WR.nil ?_
      refine thn_n ?_
      refine WX.ret ?_
      refine thn_r ?_
      exact retQ_r (res_t gh res_nil) rfl ⟨rfl,(by (repeat refine Gr.set ?_ (by omega)); exact Gr.refl.up (by omega))⟩
    have e1 : (next == .negSucc 9223372036854775807) = false := by simp only [beq_eq_false_iff_ne]; exact h1
    by_cases h2 : line = -9223372036854775808
    · have e2 : (line == .negSucc 9223372036854775807) = true := by subst h2; rfl
      refine WX.seq ?_
      refine WX.region ?_
      refine WR.new gd_n rfl (A_box (rd_t (gth rfl gh)) rfl) ?_
      refine WR.new gd_n rfl (A_box (rd_t (gth rfl gh)) rfl) ?_
      refine WR.val gd_n rfl (A_mv rd_c rfl) ?_
      refine WR.nil ?_
      refine thn_n ?_
      refine WX.seq ?_
      refine WX.seq ?_
      refine WX.region ?_
      refine WR.call gd_n args_nil rfl (cx_lives _) ?_
      refine WR.val gd_n rfl (A_not (rd_t gh) rfl) ?_
      refine WR.nil ?_
      refine thn_n ?_
      refine WX.condF (rd_t gh) ?_
      refine WX.skip ?_
      refine thn_n ?_
      refine WX.seq ?_
      refine WX.seq ?_
      refine WX.region ?_
      refine WR.val gd_n rfl (A_faddr (rd_t (g2 rfl (gth rfl gh)))) ?_
      refine WR.val gd_n rfl (A_ld1 (rd_t gh) m0 rfl) ?_
      refine WR.val gd_n rfl (A_eqI (rd_t gh) rd_c e1) ?_
      refine WR.val gd_n rfl (A_mv (rd_t gh) rfl) ?_
      refine WR.val (gd_t gh) rfl (A_faddr (rd_t (g4 rfl (g2 rfl (gth rfl gh))))) ?_
      refine WR.val (gd_t (gth rfl gh)) rfl (A_ld1 (rd_t gh) m0 rfl) ?_
      refine WR.val (gd_t (g2 rfl gh)) rfl (A_eqI (rd_t gh) rd_c e2) ?_
      refine WR.val gd_n rfl (A_pickF (rd_t (g2 rfl (gth rfl gh))) (rd_t gh) rfl) ?_
      refine WR.val gd_n rfl (A_mv (rd_t gh) rfl) ?_
      refine WR.skip (gd_ft gh) ?_
      refine WR.skip (gd_ft (gth rfl gh)) ?_
      refine WR.skip (gd_ft (g2 rfl gh)) ?_
      refine WR.val gd_n rfl (A_pickT (rd_t (g2 rfl (gth rfl gh))) rd_c rfl) ?_
      refine WR.val gd_n rfl (A_mv (rd_t gh) rfl) ?_
      refine WR.skip (gd_ft gh) ?_
      refine WR.skip (gd_ft (gth rfl gh)) ?_
      refine WR.skip (gd_ft (g2 rfl gh)) ?_
      refine WR.val gd_n rfl (A_pickT (rd_t (g2 rfl (gth rfl gh))) rd_c rfl) ?_
      refine WR.nil ?_
      refine thn_n ?_
      refine WX.condT (rd_t gh) ?_
      refine WX.seq ?_
      refine WX.region ?_
      refine WR.val gd_n rfl (A_mv rd_c rfl) ?_
      refine WR.nil ?_
      refine thn_n ?_
      refine WX.ret ?_
      refine thn_r ?_
      exact retQ_r (res_t gh res_nil) rfl ⟨rfl,(by (repeat refine Gr.set ?_ (by omega)); exact Gr.refl.up (by omega))⟩
    have e2 : (line == .negSucc 9223372036854775807) = false := by simp only [beq_eq_false_iff_ne]; exact h2
    by_cases h3 : done = -9223372036854775808
    · have e3 : (done == .negSucc 9223372036854775807) = true := by subst h3; rfl
      refine WX.seq ?_
      refine WX.region ?_
      refine WR.new gd_n rfl (A_box (rd_t (gth rfl gh)) rfl) ?_
      refine WR.new gd_n rfl (A_box (rd_t (gth rfl gh)) rfl) ?_
      refine WR.val gd_n rfl (A_mv rd_c rfl) ?_
      refine WR.nil ?_
      refine thn_n ?_
      refine WX.seq ?_
      refine WX.seq ?_
      refine WX.region ?_
      refine WR.call gd_n args_nil rfl (cx_lives _) ?_
      refine WR.val gd_n rfl (A_not (rd_t gh) rfl) ?_
      refine WR.nil ?_
      refine thn_n ?_
      refine WX.condF (rd_t gh) ?_
      refine WX.skip ?_
      refine thn_n ?_
      refine WX.seq ?_
      refine WX.seq ?_
      refine WX.region ?_
      refine WR.val gd_n rfl (A_faddr (rd_t (g2 rfl (gth rfl gh)))) ?_
      refine WR.val gd_n rfl (A_ld1 (rd_t gh) m0 rfl) ?_
      refine WR.val gd_n rfl (A_eqI (rd_t gh) rd_c e1) ?_
      refine WR.val gd_n rfl (A_mv (rd_t gh) rfl) ?_
      refine WR.val (gd_t gh) rfl (A_faddr (rd_t (g4 rfl (g2 rfl (gth rfl gh))))) ?_
      refine WR.val (gd_t (gth rfl gh)) rfl (A_ld1 (rd_t gh) m0 rfl) ?_
      refine WR.val (gd_t (g2 rfl gh)) rfl (A_eqI (rd_t gh) rd_c e2) ?_
      refine WR.val gd_n rfl (A_pickF (rd_t (g2 rfl (gth rfl gh))) (rd_t gh) rfl) ?_
      refine WR.val gd_n rfl (A_mv (rd_t gh) rfl) ?_
      refine WR.val (gd_t gh) rfl (A_faddr (rd_t (g8 rfl (g4 rfl gh)))) ?_
      refine WR.val (gd_t (gth rfl gh)) rfl (A_ld1 (rd_t gh) m0 rfl) ?_
      refine WR.val (gd_t (g2 rfl gh)) rfl (A_eqI (rd_t gh) rd_c e3) ?_
      refine WR.val gd_n rfl (A_pickF (rd_t (g2 rfl (gth rfl gh))) (rd_t gh) rfl) ?_
      refine WR.val gd_n rfl (A_mv (rd_t gh) rfl) ?_
      refine WR.skip (gd_ft gh) ?_
      refine WR.skip (gd_ft (gth rfl gh)) ?_
      refine WR.skip (gd_ft (g2 rfl gh)) ?_
      refine WR.val gd_n rfl (A_pickT (rd_t (g2 rfl (gth rfl gh))) rd_c rfl) ?_
      refine WR.nil ?_
      refine thn_n ?_
      refine WX.condT (rd_t gh) ?_
      refine WX.seq ?_
      refine WX.region ?_
      refine WR.val gd_n rfl (A_mv rd_c rfl) ?_
      refine WR.nil ?_
      refine thn_n ?_
      refine WX.ret ?_
      refine thn_r ?_
      exact retQ_r (res_t gh res_nil) rfl ⟨rfl,(by (repeat refine Gr.set ?_ (by omega)); exact Gr.refl.up (by omega))⟩
    have e3 : (done == .negSucc 9223372036854775807) = false := by simp only [beq_eq_false_iff_ne]; exact h3
    by_cases h4 : code = -9223372036854775808
    · have e4 : (code == .negSucc 9223372036854775807) = true := by subst h4; rfl
      refine WX.seq ?_
      refine WX.region ?_
      refine WR.new gd_n rfl (A_box (rd_t (gth rfl gh)) rfl) ?_
      refine WR.new gd_n rfl (A_box (rd_t (gth rfl gh)) rfl) ?_
      refine WR.val gd_n rfl (A_mv rd_c rfl) ?_
      refine WR.nil ?_
      refine thn_n ?_
      refine WX.seq ?_
      refine WX.seq ?_
      refine WX.region ?_
      refine WR.call gd_n args_nil rfl (cx_lives _) ?_
      refine WR.val gd_n rfl (A_not (rd_t gh) rfl) ?_
      refine WR.nil ?_
      refine thn_n ?_
      refine WX.condF (rd_t gh) ?_
      refine WX.skip ?_
      refine thn_n ?_
      refine WX.seq ?_
      refine WX.seq ?_
      refine WX.region ?_
      refine WR.val gd_n rfl (A_faddr (rd_t (g2 rfl (gth rfl gh)))) ?_
      refine WR.val gd_n rfl (A_ld1 (rd_t gh) m0 rfl) ?_
      refine WR.val gd_n rfl (A_eqI (rd_t gh) rd_c e1) ?_
      refine WR.val gd_n rfl (A_mv (rd_t gh) rfl) ?_
      refine WR.val (gd_t gh) rfl (A_faddr (rd_t (g4 rfl (g2 rfl (gth rfl gh))))) ?_
      refine WR.val (gd_t (gth rfl gh)) rfl (A_ld1 (rd_t gh) m0 rfl) ?_
      refine WR.val (gd_t (g2 rfl gh)) rfl (A_eqI (rd_t gh) rd_c e2) ?_
      refine WR.val gd_n rfl (A_pickF (rd_t (g2 rfl (gth rfl gh))) (rd_t gh) rfl) ?_
      refine WR.val gd_n rfl (A_mv (rd_t gh) rfl) ?_
      refine WR.val (gd_t gh) rfl (A_faddr (rd_t (g8 rfl (g4 rfl gh)))) ?_
      refine WR.val (gd_t (gth rfl gh)) rfl (A_ld1 (rd_t gh) m0 rfl) ?_
      refine WR.val (gd_t (g2 rfl gh)) rfl (A_eqI (rd_t gh) rd_c e3) ?_
      refine WR.val gd_n rfl (A_pickF (rd_t (g2 rfl (gth rfl gh))) (rd_t gh) rfl) ?_
      refine WR.val gd_n rfl (A_mv (rd_t gh) rfl) ?_
      refine WR.val (gd_t gh) rfl (A_faddr (rd_t (g8 rfl (g8 rfl (gth rfl gh))))) ?_
      refine WR.val (gd_t (gth rfl gh)) rfl (A_ld1 (rd_t gh) m0 rfl) ?_
      refine WR.val (gd_t (g2 rfl gh)) rfl (A_eqI (rd_t gh) rd_c e4) ?_
      refine WR.val gd_n rfl (A_pickF (rd_t (g2 rfl (gth rfl gh))) (rd_t gh) rfl) ?_
      refine WR.nil ?_
      refine thn_n ?_
      refine WX.condT (rd_t gh) ?_
      refine WX.seq ?_
      refine WX.region ?_
      refine WR.val gd_n rfl (A_mv rd_c rfl) ?_
      refine WR.nil ?_
      refine thn_n ?_
      refine WX.ret ?_
      refine thn_r ?_
      exact retQ_r (res_t gh res_nil) rfl ⟨rfl,(by (repeat refine Gr.set ?_ (by omega)); exact Gr.refl.up (by omega))⟩
    have e4 : (code == .negSucc 9223372036854775807) = false := by simp only [beq_eq_false_iff_ne]; exact h4
    refine WX.seq ?_
    refine WX.region ?_
    refine WR.new gd_n rfl (A_box (rd_t (gth rfl gh)) rfl) ?_
    refine WR.new gd_n rfl (A_box (rd_t (gth rfl gh)) rfl) ?_
    refine WR.val gd_n rfl (A_mv rd_c rfl) ?_
    refine WR.nil ?_
    refine thn_n ?_
    refine WX.seq ?_
    refine WX.seq ?_
    refine WX.region ?_
    refine WR.call gd_n args_nil rfl (cx_lives _) ?_
    refine WR.val gd_n rfl (A_not (rd_t gh) rfl) ?_
    refine WR.nil ?_
    refine thn_n ?_
    refine WX.condF (rd_t gh) ?_
    refine WX.skip ?_
    refine thn_n ?_
    refine WX.seq ?_
    refine WX.seq ?_
    refine WX.region ?_
    refine WR.val gd_n rfl (A_faddr (rd_t (g2 rfl (gth rfl gh)))) ?_
    refine WR.val gd_n rfl (A_ld1 (rd_t gh) m0 rfl) ?_
    refine WR.val gd_n rfl (A_eqI (rd_t gh) rd_c e1) ?_
    refine WR.val gd_n rfl (A_mv (rd_t gh) rfl) ?_
    refine WR.val (gd_t gh) rfl (A_faddr (rd_t (g4 rfl (g2 rfl (gth rfl gh))))) ?_
    refine WR.val (gd_t (gth rfl gh)) rfl (A_ld1 (rd_t gh) m0 rfl) ?_
    refine WR.val (gd_t (g2 rfl gh)) rfl (A_eqI (rd_t gh) rd_c e2) ?_
    refine WR.val gd_n rfl (A_pickF (rd_t (g2 rfl (gth rfl gh))) (rd_t gh) rfl) ?_
    refine WR.val gd_n rfl (A_mv (rd_t gh) rfl) ?_
    refine WR.val (gd_t gh) rfl (A_faddr (rd_t (g8 rfl (g4 rfl gh)))) ?_
    refine WR.val (gd_t (gth rfl gh)) rfl (A_ld1 (rd_t gh) m0 rfl) ?_
    refine WR.val (gd_t (g2 rfl gh)) rfl (A_eqI (rd_t gh) rd_c e3) ?_
    refine WR.val gd_n rfl (A_pickF (rd_t (g2 rfl (gth rfl gh))) (rd_t gh) rfl) ?_
    refine WR.val gd_n rfl (A_mv (rd_t gh) rfl) ?_
    refine WR.val (gd_t gh) rfl (A_faddr (rd_t (g8 rfl (g8 rfl (gth rfl gh))))) ?_
    refine WR.val (gd_t (gth rfl gh)) rfl (A_ld1 (rd_t gh) m0 rfl) ?_
    refine WR.val (gd_t (g2 rfl gh)) rfl (A_eqI (rd_t gh) rd_c e4) ?_
    refine WR.val gd_n rfl (A_pickF (rd_t (g2 rfl (gth rfl gh))) (rd_t gh) rfl) ?_
    refine WR.nil ?_
    refine thn_n ?_
    refine WX.condF (rd_t gh) ?_
    refine WX.skip ?_
    refine thn_n ?_
    refine WX.seq ?_
    refine WX.region ?_
    refine WR.val gd_n rfl (A_mv rd_c rfl) ?_
    refine WR.nil ?_
    refine thn_n ?_
    refine WX.seq ?_
    refine WX.region ?_
    refine WR.val gd_n rfl (A_mv (rd_t gh) rfl) ?_
    refine WR.call gd_n (args_cons (rd_t gh) (args_cons rd_c args_nil)) rfl (cz15 _) ?_
    refine WR.val gd_n rfl (A_mv (rd_t gh) rfl) ?_
    refine WR.val gd_n rfl (A_ext (rd_t gh) rfl rfl) ?_
    refine WR.val gd_n rfl (A_ext (rd_t (gth rfl gh)) rfl rfl) ?_
    refine WR.new gd_n rfl (A_alloc) ?_
    refine WR.upd0 gd_n rfl (A_st (cs' := momZ) (rd_t gh) gh (rd_t (g2 rfl gh)) rfl (Nat.le_of_ble_eq_true rfl) rfl rfl) ?_
    refine WR.val gd_n rfl (A_mv (rd_t (gth rfl gh)) rfl) ?_
    refine WR.nil ?_
    refine thn_n ?_
    refine WX.seq ?_
    refine WX.region ?_
    refine WR.val gd_n rfl (A_mv (rd_t (g4 rfl (g2 rfl (gth rfl gh)))) rfl) ?_
    refine WR.call gd_n (args_cons (rd_t gh) (args_cons rd_c args_nil)) rfl (cz16 _) ?_
    refine WR.val gd_n rfl (A_mv (rd_t gh) rfl) ?_
    refine WR.val gd_n rfl (A_ext (rd_t gh) rfl rfl) ?_
    refine WR.val gd_n rfl (A_ext (rd_t (gth rfl gh)) rfl rfl) ?_
    refine WR.new gd_n rfl (A_alloc) ?_
    refine WR.upd0 gd_n rfl (A_st (cs' := momZ) (rd_t gh) gh (rd_t (g2 rfl gh)) rfl (Nat.le_of_ble_eq_true rfl) rfl rfl) ?_
    refine WR.val gd_n rfl (A_mv (rd_t (gth rfl gh)) rfl) ?_
    refine WR.nil ?_
    refine thn_n ?_
    refine WX.seq ?_
    refine WX.region ?_
    refine WR.val gd_n rfl (A_build rfl) ?_
    refine WR.new gd_n rfl (A_alloc) ?_
    refine WR.upd0 gd_n rfl (A_st (cs' := momZ) (rd_t gh) gh (rd_t (gth rfl gh)) rfl (Nat.le_of_ble_eq_true rfl) rfl rfl) ?_
    refine WR.nil ?_
    refine thn_n ?_
    refine WX.seq ?_
    refine WX.drawP (mkCall_ok (F := F5 out)) mixedS [] [(n,AObj.cells pc 0),(n + 1,AObj.cells (momL done next line pat hold dq over stop code) 0),(n + 1 + 1,AObj.cells momZ 0),(n + 1 + 1 + 1,AObj.cells momZ 0),(n + 1 + 1 + 1 + 1,AObj.cells momZ 0)] (by rfl) (by rfl) (by rfl) hst hf0 ?_
    intro nb42 hlb42 hle42
    refine WP.ld gd_n rfl rfl rfl rfl rfl (fun get m hs => A_ldA (rd_t (g8 rfl (g8 rfl (g8 rfl (g8 rfl (g4 rfl (g2 rfl (gth rfl gh)))))))) (by (first | exact hs.1 _ (.head _) | exact hs.1 _ (.tail _ (.head _)) | exact hs.1 _ (.tail _ (.tail _ (.head _))) | exact hs.1 _ (.tail _ (.tail _ (.tail _ (.head _)))) | exact hs.1 _ (.tail _ (.tail _ (.tail _ (.tail _ (.head _))))) | exact hs.2 _ (.head _) rfl)) hk3 ht3) ?_
    refine WP.ld gd_n rfl rfl rfl rfl rfl (fun get m hs => A_ldA (ds := (momL done next line pat hold dq over stop code)) (rd_t (g8 rfl (g8 rfl (g8 rfl (g8 rfl (g4 rfl (g2 rfl (gth rfl gh)))))))) (by (first | exact hs.1 _ (.head _) | exact hs.1 _ (.tail _ (.head _)) | exact hs.1 _ (.tail _ (.tail _ (.head _))) | exact hs.1 _ (.tail _ (.tail _ (.tail _ (.head _)))) | exact hs.1 _ (.tail _ (.tail _ (.tail _ (.tail _ (.head _))))) | exact hs.2 _ (.head _) rfl)) (Nat.le_of_ble_eq_true rfl) rfl) ?_
    refine WP.callq TT [] [] rfl rfl rfl gd_n rd_f (args_cons (rd_t (gth rfl gh)) (args_cons (rd_t gh) args_nil)) rfl rfl rfl (QC.at q17 hf0 hle42) rfl ?_
    intro n44 hn44
    replace hlb42 := Nat.le_trans hlb42 hn44
    replace hle42 := Nat.le_trans hle42 hn44
    refine WP.ld gd_n rfl rfl rfl rfl rfl (fun get m hs => A_ldA (rd_t (g8 rfl (g8 rfl (g8 rfl (g8 rfl (g8 rfl (g2 rfl gh))))))) (by (first | exact hs.1 _ (.head _) | exact hs.1 _ (.tail _ (.head _)) | exact hs.1 _ (.tail _ (.tail _ (.head _))) | exact hs.1 _ (.tail _ (.tail _ (.tail _ (.head _)))) | exact hs.1 _ (.tail _ (.tail _ (.tail _ (.tail _ (.head _))))) | exact hs.2 _ (.head _) rfl)) hk3 ht3) ?_
    refine WP.ld gd_n rfl rfl rfl rfl rfl (fun get m hs => A_ldA (ds := (momL done next line pat hold dq over stop code)) (rd_t (g8 rfl (g8 rfl (g8 rfl (g8 rfl (g8 rfl (g2 rfl gh))))))) (by (first | exact hs.1 _ (.head _) | exact hs.1 _ (.tail _ (.head _)) | exact hs.1 _ (.tail _ (.tail _ (.head _))) | exact hs.1 _ (.tail _ (.tail _ (.tail _ (.head _)))) | exact hs.1 _ (.tail _ (.tail _ (.tail _ (.tail _ (.head _))))) | exact hs.2 _ (.head _) rfl)) (Nat.le_of_ble_eq_true rfl) rfl) ?_
    refine WP.callq TT [] [] rfl rfl rfl gd_n rd_f (args_cons (rd_t (gth rfl gh)) (args_cons (rd_t gh) args_nil)) rfl rfl rfl (QC.at q18 hf0 hle42) rfl ?_
    intro n47 hn47
    replace hlb42 := Nat.le_trans hlb42 hn47
    replace hle42 := Nat.le_trans hle42 hn47
    refine WP.val gd_n rfl rfl rfl rfl (fun _ _ => A_eqS (rd_t (g2 rfl (gth rfl gh))) (rd_t gh) hout) ?_
    refine WP.val gd_n rfl rfl rfl rfl (fun _ _ => A_mv (rd_t gh) rfl) ?_
    refine WP.val (gd_t gh) rfl rfl rfl rfl (fun _ _ => A_mv (rd_t (g8 rfl (g8 rfl (gth rfl gh)))) rfl) ?_
    refine WP.val (gd_t (gth rfl gh)) rfl rfl rfl rfl (fun _ _ => A_eqI (rd_t gh) rd_c rfl) ?_
    refine WP.val gd_n rfl rfl rfl rfl (fun _ _ => A_pickT (rd_t (g2 rfl gh)) (rd_t gh) rfl) ?_
    refine WP.val gd_n rfl rfl rfl rfl (fun _ _ => A_mv (rd_t gh) rfl) ?_
    refine WP.val (gd_t gh) rfl rfl rfl rfl (fun _ _ => A_mv (rd_t (g8 rfl (g4 rfl (g2 rfl gh)))) rfl) ?_
    refine WP.val (gd_t (gth rfl gh)) rfl rfl rfl rfl (fun _ _ => A_eqI (rd_t gh) rd_c rfl) ?_
    refine WP.val gd_n rfl rfl rfl rfl (fun _ _ => A_pickT (rd_t (g2 rfl gh)) (rd_t gh) rfl) ?_
    refine WP.val gd_n rfl rfl rfl rfl (fun _ _ => A_mv (rd_t gh) rfl) ?_
    refine WP.ld (gd_t gh) rfl rfl rfl rfl rfl (fun get m hs => A_ldA (ds := momZ) (rd_t (g8 rfl (g8 rfl (g8 rfl (g2 rfl gh))))) (by (first | exact hs.1 _ (.head _) | exact hs.1 _ (.tail _ (.head _)) | exact hs.1 _ (.tail _ (.tail _ (.head _))) | exact hs.1 _ (.tail _ (.tail _ (.tail _ (.head _)))) | exact hs.1 _ (.tail _ (.tail _ (.tail _ (.tail _ (.head _))))) | exact hs.2 _ (.head _) rfl)) (Nat.le_of_ble_eq_true rfl) rfl) ?_
    refine WP.ld (gd_t (gth rfl gh)) rfl rfl rfl rfl rfl (fun get m hs => A_ldA (ds := momZ) (rd_t (g8 rfl (g8 rfl (gth rfl gh)))) (by (first | exact hs.1 _ (.head _) | exact hs.1 _ (.tail _ (.head _)) | exact hs.1 _ (.tail _ (.tail _ (.head _))) | exact hs.1 _ (.tail _ (.tail _ (.tail _ (.head _)))) | exact hs.1 _ (.tail _ (.tail _ (.tail _ (.tail _ (.head _))))) | exact hs.2 _ (.head _) rfl)) (Nat.le_of_ble_eq_true rfl) rfl) ?_
    refine WP.callq TT [] [] rfl rfl rfl (gd_t (g2 rfl gh)) rd_f (args_cons (rd_t (gth rfl gh)) (args_cons (rd_t gh) args_nil)) rfl rfl rfl ⟨_,Nat.le_refl _,cz19 _⟩ rfl ?_
    intro n60 hn60
    replace hlb42 := Nat.le_trans hlb42 hn60
    replace hle42 := Nat.le_trans hle42 hn60
    refine WP.val gd_n rfl rfl rfl rfl (fun _ _ => A_pickT (rd_t (g2 rfl (gth rfl gh))) (rd_t gh) rfl) ?_
    refine WP.val gd_n rfl rfl rfl rfl (fun _ _ => A_mv (rd_t gh) rfl) ?_
    refine WP.ld (gd_t gh) rfl rfl rfl rfl rfl (fun get m hs => A_ldA (ds := momZ) (rd_t (g8 rfl (g8 rfl (g8 rfl gh)))) (by (first | exact hs.1 _ (.head _) | exact hs.1 _ (.tail _ (.head _)) | exact hs.1 _ (.tail _ (.tail _ (.head _))) | exact hs.1 _ (.tail _ (.tail _ (.tail _ (.head _)))) | exact hs.1 _ (.tail _ (.tail _ (.tail _ (.tail _ (.head _))))) | exact hs.2 _ (.head _) rfl)) (Nat.le_of_ble_eq_true rfl) rfl) ?_
    refine WP.ld (gd_t (gth rfl gh)) rfl rfl rfl rfl rfl (fun get m hs => A_ldA (ds := momZ) (rd_t (g8 rfl (g8 rfl (g4 rfl (g2 rfl gh))))) (by (first | exact hs.1 _ (.head _) | exact hs.1 _ (.tail _ (.head _)) | exact hs.1 _ (.tail _ (.tail _ (.head _))) | exact hs.1 _ (.tail _ (.tail _ (.tail _ (.head _)))) | exact hs.1 _ (.tail _ (.tail _ (.tail _ (.tail _ (.head _))))) | exact hs.2 _ (.head _) rfl)) (Nat.le_of_ble_eq_true rfl) rfl) ?_
    refine WP.callq TT [] [] rfl rfl rfl (gd_t (g2 rfl gh)) rd_f (args_cons (rd_t (gth rfl gh)) (args_cons (rd_t gh) args_nil)) rfl rfl rfl ⟨_,Nat.le_refl _,cz19 _⟩ rfl ?_
    intro n65 hn65
    replace hlb42 := Nat.le_trans hlb42 hn65
    replace hle42 := Nat.le_trans hle42 hn65
    refine WP.val gd_n rfl rfl rfl rfl (fun _ _ => A_pickT (rd_t (g2 rfl (gth rfl gh))) (rd_t gh) rfl) ?_
    refine WP.val gd_n rfl rfl rfl rfl (fun _ _ => A_mv (rd_t gh) rfl) ?_
    refine WP.val (gd_t gh) rfl rfl rfl rfl (fun _ _ => A_mv (rd_t (g8 rfl (g8 rfl (g8 rfl (g8 rfl (g8 rfl (g2 rfl gh))))))) rfl) ?_
    refine WP.callq TT [] [] rfl rfl rfl (gd_t (gth rfl gh)) rd_f (args_cons (rd_t gh) args_nil) rfl rfl rfl ⟨_,Nat.le_refl _,cz20 _⟩ rfl ?_
    intro n69 hn69
    replace hlb42 := Nat.le_trans hlb42 hn69
    replace hle42 := Nat.le_trans hle42 hn69
    refine WP.ld (gd_t (g2 rfl gh)) rfl rfl rfl rfl rfl (fun get m hs => A_ldA (ds := momZ) (rd_t (g8 rfl (g8 rfl (g8 rfl (g4 rfl gh))))) (by (first | exact hs.1 _ (.head _) | exact hs.1 _ (.tail _ (.head _)) | exact hs.1 _ (.tail _ (.tail _ (.head _))) | exact hs.1 _ (.tail _ (.tail _ (.tail _ (.head _)))) | exact hs.1 _ (.tail _ (.tail _ (.tail _ (.tail _ (.head _))))) | exact hs.2 _ (.head _) rfl)) (Nat.le_of_ble_eq_true rfl) rfl) ?_
    refine WP.callq TT [] [] rfl rfl rfl (gd_t (g2 rfl (gth rfl gh))) rd_f (args_cons (rd_t (gth rfl gh)) (args_cons (rd_t gh) args_nil)) rfl rfl rfl ⟨_,Nat.le_refl _,cz19 _⟩ rfl ?_
    intro n71 hn71
    replace hlb42 := Nat.le_trans hlb42 hn71
    replace hle42 := Nat.le_trans hle42 hn71
    refine WP.val gd_n rfl rfl rfl rfl (fun _ _ => A_pickT (rd_t (g4 rfl gh)) (rd_t gh) rfl) ?_
    refine WP.val gd_n rfl rfl rfl rfl (fun _ _ => A_mv (rd_t gh) rfl) ?_
    refine WP.val (gd_t gh) rfl rfl rfl rfl (fun _ _ => A_mv (rd_t (g8 rfl (g8 rfl (g8 rfl (g8 rfl (g8 rfl (g8 rfl gh))))))) rfl) ?_
    refine WP.callq TT [] [] rfl rfl rfl (gd_t (gth rfl gh)) rd_f (args_cons (rd_t gh) (args_cons rd_c args_nil)) rfl rfl rfl ⟨_,Nat.le_refl _,cz21 _⟩ rfl ?_
    intro n75 hn75
    replace hlb42 := Nat.le_trans hlb42 hn75
    replace hle42 := Nat.le_trans hle42 hn75
    refine WP.val (gd_t (g2 rfl gh)) rfl rfl rfl rfl (fun _ _ => A_eqI (rd_t gh) rd_c rfl) ?_
    refine WP.val gd_n rfl rfl rfl rfl (fun _ _ => A_pickT (rd_t (g2 rfl (gth rfl gh))) (rd_t gh) rfl) ?_
    refine WP.val gd_n rfl rfl rfl rfl (fun _ _ => A_mv (rd_t gh) rfl) ?_
    refine WP.val (gd_t gh) rfl rfl rfl rfl (fun _ _ => A_mv (rd_t (g8 rfl (g8 rfl (g8 rfl (g8 rfl (g8 rfl (g8 rfl (g4 rfl (gth rfl gh))))))))) rfl) ?_
    refine WP.callq TT [] [] rfl rfl rfl (gd_t (gth rfl gh)) rd_f (args_cons (rd_t gh) (args_cons rd_c args_nil)) rfl rfl rfl ⟨_,Nat.le_refl _,cz22 _⟩ rfl ?_
    intro n80 hn80
    replace hlb42 := Nat.le_trans hlb42 hn80
    replace hle42 := Nat.le_trans hle42 hn80
    refine WP.val (gd_t (g2 rfl gh)) rfl rfl rfl rfl (fun _ _ => A_eqI (rd_t gh) rd_c rfl) ?_
    refine WP.val gd_n rfl rfl rfl rfl (fun _ _ => A_pickT (rd_t (g2 rfl (gth rfl gh))) (rd_t gh) rfl) ?_
    refine WP.val gd_n rfl rfl rfl rfl (fun _ _ => A_mv (rd_t gh) rfl) ?_
    refine WP.val (gd_t gh) rfl rfl rfl rfl (fun _ _ => A_mv (rd_t (g8 rfl (g8 rfl (g8 rfl (g8 rfl (g8 rfl (g8 rfl (g8 rfl (g2 rfl gh))))))))) rfl) ?_
    refine WP.callq TT [] [] rfl rfl rfl (gd_t (gth rfl gh)) rd_f (args_cons (rd_t gh) args_nil) rfl rfl rfl ⟨_,Nat.le_refl _,cz23 _⟩ rfl ?_
    intro n85 hn85
    replace hlb42 := Nat.le_trans hlb42 hn85
    replace hle42 := Nat.le_trans hle42 hn85
    refine WP.val (gd_t (g2 rfl gh)) rfl rfl rfl rfl (fun _ _ => A_lenNil (rd_t gh)) ?_
    refine WP.val (gd_t (g2 rfl (gth rfl gh))) rfl rfl rfl rfl (fun _ _ => A_eqI (rd_t gh) rd_c rfl) ?_
    refine WP.val gd_n rfl rfl rfl rfl (fun _ _ => A_pickT (rd_t (g4 rfl gh)) (rd_t gh) rfl) ?_
    refine WP.val gd_n rfl rfl rfl rfl (fun _ _ => A_mv (rd_t gh) rfl) ?_
    refine WP.nil ⟨fun j hj => by simp at hj,?_⟩
    refine thn_n ?_
    refine WX.ret ?_
    exact retQ_r (res_t gh res_nil) rfl ⟨rfl,Gr.up g0 hle42⟩)
  obtain ⟨d',t',n',hx,rfl,g⟩ := key
  exact ⟨t',n',hx,g⟩
end
end Go.Proofs.YtelnkadnphephaaGreatDoor.T
end
noncomputable section
namespace Go.Abs
open Go

theorem offs_get {fs : List Field} : ∀ {l : List (List D)} {off : Nat},offsOk fs l off = true → ∀ (i : Nat) (f : Field) (ds : List D),fs[i]? = some f → l[i]? = some ds → off ≤ f.offset ∧ ∀ j,j < ds.length → l.flatten[f.offset - off + j]? = ds[j]? := by
  induction fs with
  | nil => intro l off h i f ds hf; simp at hf
  | cons g fs ih =>
    intro l off h i f ds hf hl
    cases l with
    | nil => simp at hl
    | cons d l =>
      simp only [offsOk,Bool.and_eq_true] at h
      have ho := Nat.eq_of_beq_eq_true h.1
      cases i with
      | zero =>
        simp only [List.getElem?_cons_zero,Option.some.injEq] at hf hl
        subst hf hl
        refine ⟨by omega,fun j hj => ?_⟩
        rw [ho,Nat.sub_self,Nat.zero_add,List.flatten_cons,List.getElem?_append_left hj]
      | succ i =>
        obtain ⟨h1,h2⟩ := ih h.2 i f ds (by simpa using hf) (by simpa using hl)
        refine ⟨by omega,fun j hj => ?_⟩
        rw [List.flatten_cons,List.getElem?_append_right (by omega),← h2 j hj]
        congr 1; omega

section
variable {H : Type} {enc : TypeId × Value → H} {P : Program} {w : World} {base : Nat} {spare : Nat → Bool} {held : Bool} {fuel : Nat} {t : TypeId} {cs : List Value} {d : DataW H} {ps : List MemPlace} {Ds : List D}

theorem fieldT {fs : Array Field} (hu : P.underlying t = some (.struct fs)) (ht : DataW.trod enc P w base spare held fuel t cs = some (d,ps)) (hd : dcs P fuel t d = some Ds) :
    ∃ (parts : List (DataW H)),d = .agg parts ∧ ∀ (i : Nat) (f : Field),fs[i]? = some f → ∃ (m : Nat) (c : List Value) (x : DataW H) (p : List MemPlace) (Di : List D),DataW.trod enc P w base spare held m f.type c = some (x,p) ∧ parts[i]? = some x ∧ dcs P m f.type x = some Di ∧ ∀ j,j < Di.length → Ds[f.offset + j]? = Di[j]? := by
  obtain ⟨xs,m,hm,hx,hcs,hxl,hxf⟩ := DataW.trod_struct hu ht
  subst hm
  simp only [Prod.mk.injEq] at hx
  obtain ⟨rfl,_⟩ := hx
  unfold dcs at hd
  rw [hu] at hd
  simp only [Option.bind_eq_some_iff] at hd
  obtain ⟨l,hl,hc⟩ := hd
  split at hc
  · rename_i hcond
    simp only [Option.some.injEq] at hc
    subst hc
    obtain ⟨hsz,hoff,_⟩ := hcond
    obtain ⟨hll,hlg⟩ := mapM_get hl
    refine ⟨xs.map (·.1),rfl,fun i f hf => ?_⟩
    have hi : i < xs.length := by
      obtain ⟨hlt,_⟩ := Array.getElem?_eq_some_iff.1 hf
      omega
    have h3 := hxf i f hf
    rw [List.getElem?_eq_getElem hi] at h3
    obtain ⟨Di,g1,g2⟩ := hlg i (f,xs[i].1) (by rw [List.getElem?_zip_eq_some]; exact ⟨by simpa using hf,by simp [hi]⟩)
    refine ⟨m,_,xs[i].1,xs[i].2,Di,h3,by simp [hi],g2,?_⟩
    have := (offs_get hoff i f Di (by simpa using hf) g1).2
    simpa using this
  · cases hc

theorem intT {k : IntKind} (hu : P.underlying t = some (.int k)) (ht : DataW.trod enc P w base spare held fuel t cs = some (d,ps)) (hd : dcs P fuel t d = some Ds) : ∃ n,Ds = [.i k n] ∧ (Lit.int k n).wf = true := by
  obtain ⟨n,_,hx,hw⟩ := DataW.trod_int hu ht
  simp only [Prod.mk.injEq] at hx
  obtain ⟨rfl,_⟩ := hx
  cases fuel with
  | zero => simp [dcs] at hd
  | succ m => simp [dcs,hu] at hd; exact ⟨n,hd.symm,hw⟩

theorem boolT (hu : P.underlying t = some .bool) (ht : DataW.trod enc P w base spare held fuel t cs = some (d,ps)) (hd : dcs P fuel t d = some Ds) : ∃ b,Ds = [.b b] := by
  obtain ⟨b,_,hx⟩ := DataW.trod_bool hu ht
  simp only [Prod.mk.injEq] at hx
  obtain ⟨rfl,_⟩ := hx
  cases fuel with
  | zero => simp [dcs] at hd
  | succ m => simp [dcs,hu] at hd; exact ⟨b,hd.symm⟩

theorem strT (hu : P.underlying t = some .string) (ht : DataW.trod enc P w base spare held fuel t cs = some (d,ps)) (hd : dcs P fuel t d = some Ds) : ∃ s,Ds = [.s s] ∧ d = .lit (.string s) := by
  obtain ⟨s,_,hx,_⟩ := DataW.trod_string hu ht
  simp only [Prod.mk.injEq] at hx
  obtain ⟨rfl,_⟩ := hx
  cases fuel with
  | zero => simp [dcs] at hd
  | succ m => simp [dcs,hu] at hd; exact ⟨_,hd.symm,rfl⟩

theorem sliceT {e : TypeId} (hu : P.underlying t = some (.slice e)) (ht : DataW.trod enc P w base spare held fuel t cs = some (d,ps)) (hd : dcs P fuel t d = some Ds) :
    Ds = [.nils] ∨ ∃ (els rest : List (DataW H)) (r : List (List D)),d = .slice els rest ∧ Ds = [.fz (P.cellsOf e) (r.map .agg)] ∧ r.length = els.length ∧ ∀ (i : Nat) (Di : List D),r[i]? = some Di → ∃ (m : Nat) (c : List Value) (x : DataW H) (p : List MemPlace),DataW.trod enc P w base spare held m e c = some (x,p) ∧ dcs P m e x = some Di := by
  rcases DataW.trod_slice hu ht with ⟨_,hx⟩ | ⟨a,len,cap,elems,rest,m,hm,_,hx,_,_,_,hlen,hel,_⟩
  · simp only [Prod.mk.injEq] at hx
    obtain ⟨rfl,_⟩ := hx
    cases fuel with
    | zero => simp [dcs] at hd
    | succ m => simp [dcs,hu] at hd; exact .inl hd.symm
  · subst hm
    simp only [Prod.mk.injEq] at hx
    obtain ⟨rfl,_⟩ := hx
    unfold dcs at hd
    rw [hu] at hd
    simp only at hd
    split at hd
    · cases hd
    · obtain ⟨r,hr,hD⟩ := Option.map_eq_some_iff.1 hd
      subst hD
      obtain ⟨hll,hlg⟩ := mapM_get hr
      refine .inr ⟨elems.map (·.1),rest.map (·.1),r,rfl,rfl,hll,fun i Di hi => ?_⟩
      obtain ⟨hlt,_⟩ := List.getElem?_eq_some_iff.1 hi
      rw [List.length_map] at hll
      have hi2 : i < elems.length := by omega
      obtain ⟨b,g1,g2⟩ := hlg i (elems[i].1) (by simp [hi2])
      rw [hi] at g1
      simp only [Option.some.injEq] at g1
      subst g1
      have h3 := hel i (by omega)
      rw [List.getElem?_eq_getElem hi2] at h3
      obtain ⟨c,_,h5⟩ := Option.bind_eq_some_iff.1 h3
      exact ⟨m,c,elems[i].1,elems[i].2,h5,g2⟩
end
end Go.Abs
end
noncomputable section
namespace Go.Proofs.YtelnkadnphephaaGreatDoor.T
open Go Go.Abs
noncomputable section

def tyS : List TypeId := [39,43,36,4,37,3,9,40,41,119,122,117,120,112,5,110,115,101,108,113,102,105,106,244,103,242]
theorem tyS_ok : tyS.all (okTy Tryz.prog tyS) = true := by kernel_rfl
theorem cells119 : Tryz.prog.cellsOf 119 = 55 := by kernel_rfl
theorem cells39 : Tryz.prog.cellsOf 39 = 3 := by kernel_rfl
theorem cells43 : Tryz.prog.cellsOf 43 = 9 := by kernel_rfl

section
variable {H : Type}
theorem bulk_part {parts : List (DataW H)} {i : Nat} {x : DataW H} (h : parts[i]? = some x) : Rows.uptoBulk x ≤ Rows.uptoBulkAll parts := by
  induction parts generalizing i with
  | nil => simp at h
  | cons y r ih =>
    cases i with
    | zero => simp only [List.getElem?_cons_zero,Option.some.injEq] at h; subst h; rw [Rows.uptoBulkAll]; omega
    | succ i => have := ih (i := i) (by simpa using h); rw [Rows.uptoBulkAll]; omega
theorem bulk_one (d : DataW H) : 1 ≤ Rows.uptoBulk d := by
  cases d with
  | lit l => cases l <;> simp [Rows.uptoBulk]
  | _ => simp [Rows.uptoBulk]
theorem bulk_len : ∀ (l : List (DataW H)),l.length ≤ Rows.uptoBulkAll l
  | [] => Nat.zero_le _
  | d :: r => by
    have := bulk_len r
    have := bulk_one d
    rw [Rows.uptoBulkAll,List.length_cons]; omega
theorem bulk_agg (parts : List (DataW H)) : Rows.uptoBulkAll parts ≤ Rows.uptoBulk (.agg parts) := by rw [Rows.uptoBulk]; omega
theorem bulk_slice (els rest : List (DataW H)) : els.length ≤ Rows.uptoBulk (.slice els rest) := by
  have := bulk_len els
  rw [Rows.uptoBulk]; omega
theorem bulk_str (s : List UInt8) : s.length ≤ Rows.uptoBulk (DataW.lit (H := H) (.string s)) := by rw [Rows.uptoBulk]; omega
end

theorem wf64 {n : Int} (h : (Lit.int .i64 n).wf = true) : -9223372036854775808 ≤ n ∧ n ≤ 9223372036854775807 := by
  simpa [Lit.wf,IntKind.min,IntKind.max,IntKind.signed,IntKind.bits] using h
theorem wf8 {n : Int} (h : (Lit.int .u8 n).wf = true) : 0 ≤ n ∧ n ≤ 255 := by
  simpa [Lit.wf,IntKind.min,IntKind.max,IntKind.signed,IntKind.bits] using h

theorem slice_len {e : Nat} {r : List (List D)} {get : Nat → Option AObj} {n : Nat} {ev : Opd → D} {x : Opd} (h : ev x = .fz e (r.map .agg)) : aop get n ev (.lenL x) = .val (.i .i64 (r.length : Nat)) := by
  rw [A_lenFz h,List.length_map]

section
variable {H : Type} {enc : TypeId × Value → H} {w : World} {base : Nat} {spare : Nat → Bool} {held : Bool}

theorem pm_of {f0 f1 : Nat} {c0 c1 : List Value} {d0 d1 : DataW H} {p0 p1 : List MemPlace} {Ds0 Ds1 : List D} (t0 : DataW.trod enc Tryz.prog w base spare held f0 39 c0 = some (d0,p0)) (e0 : dcs Tryz.prog f0 39 d0 = some Ds0) (t1 : DataW.trod enc Tryz.prog w base spare held f1 43 c1 = some (d1,p1)) (e1 : dcs Tryz.prog f1 43 d1 = some Ds1) (l1 : Ds1.length = 9)
    (hb0 : Rows.uptoBulk d0 ≤ 1048576) (hb1 : Rows.uptoBulk d1 ≤ 1048576) :
    ∃ (ds dq : D) (sl ql : Nat) (done next line : Int) (pat hold : List UInt8) (over : Bool) (stop code : Int),Ds1 = momL done next line pat hold dq over stop code ∧ PM Ds0 ds dq sl ql done next line pat hold stop code := by
  -- the program's steps
  obtain ⟨parts0,rfl,F0⟩ := fieldT Tryz.underlying39 t0 e0
  obtain ⟨m,c,x,p,Di,a1,a2,a3,a4⟩ := F0 0 _ rfl
  have hx0 := Nat.le_trans (bulk_part a2) (bulk_agg _)
  have S : ∃ (ds : D) (sl : Nat),Ds0[0]? = some ds ∧ ds.ok = true ∧ (∀ {get : Nat → Option AObj} {n : Nat} {ev : Opd → D} {x : Opd},ev x = ds → aop get n ev (.lenL x) = .val (.i .i64 (sl : Nat))) ∧ sl ≤ 1048576 ∧
      ∀ j : Nat,j < sl → ∃ (cs : List D) (c : UInt8),(∀ {get : Nat → Option AObj} {n : Nat} {ev : Opd → D} {x y : Opd} {k : IntKind},ev x = ds → ev y = .i k (j : Nat) → aop get n ev (.iaddr 55 x y) = .val (.fptr cs)) ∧ 32 ≤ cs.length ∧ cs[32]? = some (byteD c) := by
    rcases sliceT Tryz.underlying36 a1 a3 with rfl | ⟨els,rest,r,rfl,rfl,hrl,hel⟩
    · exact ⟨.nils,0,by simpa using a4 0 (by simp),rfl,fun h => A_lenNil h,Nat.zero_le _,fun j hj => absurd hj (by omega)⟩
    · refine ⟨_,r.length,by simpa using a4 0 (by simp),rfl,fun h => slice_len h,?_,fun j hj => ?_⟩
      · have := bulk_slice els rest
        omega
      · obtain ⟨m2,c2,x2,p2,b1,b2⟩ := hel j r[j] (by simp [hj])
        obtain ⟨_,_,F2⟩ := fieldT Tryz.underlying119 b1 b2
        obtain ⟨m3,c3,x3,p3,D3,g1,_,g3,g4⟩ := F2 0 _ rfl
        obtain ⟨_,_,F3⟩ := fieldT Tryz.underlying117 g1 g3
        obtain ⟨m4,c4,x4,p4,D4,k1,_,k3,k4⟩ := F3 4 _ rfl
        obtain ⟨n,rfl,hwf⟩ := intT Tryz.underlying5 k1 k3
        have h4 := k4 0 (by simp)
        have hlt : 32 < D3.length := by
          have := (List.getElem?_eq_some_iff.1 h4).1
          exact this
        have h3 := g4 32 hlt
        have hn := wf8 hwf
        have h32 : (r[j])[32]? = some (.i .u8 n) := by
          have e : (r[j])[0 + 32]? = some (.i .u8 n) := h3.trans h4
          exact e
        refine ⟨r[j],UInt8.ofNat n.toNat,fun {get n ev x y k} h1 h2 => ?_,?_,?_⟩
        · rw [cells119] at h1
          exact A_iaddrFz h1 h2 (by rw [List.getElem?_map,List.getElem?_eq_getElem hj]; rfl)
        · have := (List.getElem?_eq_some_iff.1 h32).1
          omega
        · rw [h32]
          have : ((UInt8.ofNat n.toNat).toNat : Int) = n := by rw [UInt8.toNat_ofNat']; omega
          simp only [byteD,this]
  obtain ⟨ds,sl,hs0,hsok,hsl,hss,hst⟩ := S
  -- the moment
  obtain ⟨parts1,rfl,F1⟩ := fieldT Tryz.underlying43 t1 e1
  obtain ⟨_,_,_,_,_,u1,_,u3,u4⟩ := F1 0 _ rfl
  obtain ⟨done,rfl,wd⟩ := intT Tryz.underlying3 u1 u3
  obtain ⟨_,_,_,_,_,v1,_,v3,v4⟩ := F1 1 _ rfl
  obtain ⟨next,rfl,wn⟩ := intT Tryz.underlying3 v1 v3
  obtain ⟨_,_,_,_,_,w1,_,w3,w4⟩ := F1 2 _ rfl
  obtain ⟨line,rfl,wl⟩ := intT Tryz.underlying3 w1 w3
  obtain ⟨_,_,_,_,_,x1,x2,x3,x4⟩ := F1 3 _ rfl
  obtain ⟨pat,rfl,rfl⟩ := strT Tryz.underlying9 x1 x3
  obtain ⟨_,_,_,_,_,y1,y2,y3,y4⟩ := F1 4 _ rfl
  obtain ⟨hold,rfl,rfl⟩ := strT Tryz.underlying9 y1 y3
  obtain ⟨_,_,_,_,Dq,z1,z2,z3,z4⟩ := F1 5 _ rfl
  obtain ⟨_,_,_,_,_,q1,_,q3,q4⟩ := F1 6 _ rfl
  obtain ⟨over,rfl⟩ := boolT Tryz.underlying4 q1 q3
  obtain ⟨_,_,_,_,_,r1,_,r3,r4⟩ := F1 7 _ rfl
  obtain ⟨stop,rfl,ws⟩ := intT Tryz.underlying41 r1 r3
  obtain ⟨_,_,_,_,_,s1,_,s3,s4⟩ := F1 8 _ rfl
  obtain ⟨code,rfl,wc⟩ := intT Tryz.underlying3 s1 s3
  have Q : ∃ (dq : D) (ql : Nat),Dq = [dq] ∧ dq.ok = true ∧ (∀ {get : Nat → Option AObj} {n : Nat} {ev : Opd → D} {x : Opd},ev x = dq → aop get n ev (.lenL x) = .val (.i .i64 (ql : Nat))) ∧ ql ≤ 1048576 := by
    rcases sliceT Tryz.underlying40 z1 z3 with rfl | ⟨els,rest,r,rfl,rfl,hrl,hel⟩
    · exact ⟨.nils,0,rfl,rfl,fun h => A_lenNil h,Nat.zero_le _⟩
    · refine ⟨_,r.length,rfl,rfl,fun h => slice_len h,?_⟩
      have := bulk_slice els rest
      have := Nat.le_trans (bulk_part z2) (bulk_agg _)
      omega
  obtain ⟨dq,ql,rfl,hqok,hql,hqs⟩ := Q
  have hp := Nat.le_trans (Nat.le_trans (bulk_str (H := H) pat) (bulk_part x2)) (bulk_agg _)
  have hh := Nat.le_trans (Nat.le_trans (bulk_str (H := H) hold) (bulk_part y2)) (bulk_agg _)
  refine ⟨ds,dq,sl,ql,done,next,line,pat,hold,over,stop,code,?_,⟨hs0,hqok,hsok,hql,hsl,hst,wf64 wd,wf64 wn,wf64 wl,wf64 wc,wf8 ws,hss,hqs,by omega,by omega⟩⟩
  have a0 := u4 0 (by simp)
  have a1 := v4 0 (by simp)
  have a2 := w4 0 (by simp)
  have a3 := x4 0 (by simp)
  have a4 := y4 0 (by simp)
  have a5 := z4 0 (by simp)
  have a6 := q4 0 (by simp)
  have a7 := r4 0 (by simp)
  have a8 := s4 0 (by simp)
  match Ds1,l1 with
  | [b0,b1,b2,b3,b4,b5,b6,b7,b8],_ =>
    simp at a0 a1 a2 a3 a4 a5 a6 a7 a8
    subst a0 a1 a2 a3 a4 a5 a6 a7 a8
    rfl
end
end
end Go.Proofs.YtelnkadnphephaaGreatDoor.T
end
noncomputable section
namespace Go.Proofs.YtelnkadnphephaaGreatDoor.T
open Go Go.Abs Go.ChangeShapes Go.WideShapes Go.RowKit
noncomputable section

section
variable {P : Program} {w : World} {I : Nat → Prop} {μ : Emb}

theorem laid_R (hI : ∀ b,b < w.heap.size → I b) {f : Nat} {n : String} {d : DataW Unit} {g t : Nat} {Ds : List D} (hg : P.globalNamed n = some g) (ht : (P.globals[g]?).map (·.type) = some t) (hd : dcs P f t d = some Ds) :
    ∀ (laid : List (String × DataW Unit)) (ps : List MemPlace),DataW.LaidVars P w laid ps → (n,d) ∈ laid → R I μ w (.fptr Ds) (.pointer (some ⟨g,0,none⟩))
  | [],_,_,hm => by cases hm
  | (n',d') :: r,ps,h,hm => by
    obtain ⟨g',t',cs,fuel,p,q,h1,h2,h3,h4,h5,_⟩ := h
    rcases List.mem_cons.1 hm with hm | hm
    · cases hm
      obtain rfl := Option.some.inj (hg.symm.trans h1)
      obtain rfl := Option.some.inj (ht.symm.trans h2)
      obtain ⟨k1,k2⟩ := R_of_trod (I := I) (μ := μ) hI f fuel t _ d p Ds h4 hd
      have hblk : ∃ el fr,w.heap[g]? = some (.cells cs el fr) := by
        unfold World.var? at h3
        rw [h1] at h3
        simp only [Option.bind_some] at h3
        split at h3
        · rename_i c el fr hb
          cases h3
          exact ⟨el,fr,hb⟩
        · cases h3
      obtain ⟨el,fr,hb⟩ := hblk
      have hlt := (Array.getElem?_eq_some_iff.1 hb).1
      refine .fptr Ds g 0 (fun j => cs.toList.getD j undef) (hI g hlt) k2 (fun j hj => ?_) (fun j hj => ?_)
      · obtain ⟨v,hv,_⟩ := Rl_get k1 j Ds[j] (by simp [hj])
        have : w.cell? ⟨g,0 + j,none⟩ = cs[j]? := by simp [World.cell?,hb]
        rw [this]
        have e : cs[j]? = some v := by simpa using hv
        rw [e,List.getD_eq_getElem?_getD,hv]; rfl
      · obtain ⟨v,hv,hr⟩ := Rl_get k1 j Ds[j] (by simp [hj])
        rw [List.getD_eq_getElem?_getD,hv]; exact hr
    · exact laid_R hI hg ht hd r q h5 hm

theorem below_of {w w' : World} {μ' : Emb} {H' : AHeap} (E : ExtN I μ empty w μ' H' w') : Below w.heap.size w w' :=
  ⟨E.1.os,E.1.tape,E.1.output,E.1.size,fun k hk => E.1.frame k hk (fun l o base hg => by simp [empty] at hg)⟩

theorem kept_of {w w' : World} (hb : Below w.heap.size w w') (may : MemPlace → Prop) : w.keptBut w' may := by
  refine ⟨hb.os,hb.output,fun i hi => ?_⟩
  rw [hb.block i hi]
  cases w.heap[i]? with
  | none => rfl
  | some o => cases o <;> simp

theorem trodAll_below {H : Type} {enc : TypeId × Value → H} (hl : laidOutB P = true) {W W' : World} (hb : Below W.heap.size W W') : ∀ {ts : List TypeId} {vs : List Value} {ds : List (DataW H)} {ps : List MemPlace},(∀ t ∈ ts,P.readableRec t = true ∧ t < P.types.size) → DataW.TrodAll enc P W 0 (fun _ => true) true ts vs ds ps → (∀ x ∈ ps,x.block < W.heap.size) →
    DataW.TrodAll enc P W' 0 (fun b => decide (b < W.heap.size)) true ts vs ds ps
  | [],[],[],_,_,h,_ => h
  | t :: ts,v :: vs,d :: ds,ps,hT,⟨p,q,h1,h2,e⟩,hlt => by
    subst e
    have ht := hT t (by simp)
    exact ⟨p,q,Below.trod hl ht.1 ht.2 h1 hb (fun x hx => hlt x (by simp [hx])),trodAll_below hl hb (fun t ht => hT t (by simp [ht])) h2 (fun x hx => hlt x (by simp [hx])),rfl⟩
end

theorem glob_ok {W : World} {I : Nat → Prop} {μ : Emb} (hI : ∀ b,b < W.heap.size → I b) {laid : List (String × DataW Unit)} {ps : List MemPlace} (hL : DataW.LaidVars Tryz.prog W laid ps)
    (h0 : ("paddock/lines.short",Rows.laid_paddock_lines_short) ∈ laid) (h2 : ("internal/strconv.uint64pow10",Rows.laid_internal_strconv_uint64pow10) ∈ laid) (h3 : ("paddock/posix.none",Rows.laid_paddock_posix_none) ∈ laid) (h8 : ("paddock/match.none",Rows.laid_paddock_match_none) ∈ laid) (h9 : ("paddock/posix.left",Rows.laid_paddock_posix_left) ∈ laid) :
    ∀ g,G g = .bad ∨ R I μ W (G g) (.pointer (some ⟨g,0,none⟩)) := by
  intro g
  unfold G
  split
  · exact .inr (laid_R (f := 5) hI (by kernel_rfl) (t := 193) (by kernel_rfl) (by kernel_rfl) laid ps hL h0)
  · exact .inr (laid_R (f := 5) hI (by kernel_rfl) (t := 301) (by kernel_rfl) (by kernel_rfl) laid ps hL h2)
  · exact .inr (laid_R (f := 5) hI (by kernel_rfl) (t := 313) (by kernel_rfl) (by kernel_rfl) laid ps hL h3)
  · exact .inr (laid_R (f := 5) hI (by kernel_rfl) (t := 313) (by kernel_rfl) (by kernel_rfl) laid ps hL h8)
  · exact .inr (laid_R (f := 5) hI (by kernel_rfl) (t := 313) (by kernel_rfl) (by kernel_rfl) laid ps hL h9)
  · exact .inl rfl
end
end Go.Proofs.YtelnkadnphephaaGreatDoor.T
end
