/- P4: The package variables that are read; calls whose arguments hold no memory. No condition.
XS: Functions of the program as the abstract machine has them, part 0: printed by a program of this claim's. No condition.
S1: Lists of effects, as they are handed to functions; the document's Text. No condition.
S2: A strings.Builder, and the program's Text. No condition.
Abs55: The abstract machine, part 55: more single operations; drawn regions towards what shall hold behind them. No condition.
D1: Each int's decimal numeral: the library's strconv.Itoa, the program's own number. No condition.
D2: The document's decimal numerals, and the law's number: those of strconv.Itoa. No condition. -/
import Derived.Test.YtelnkadnphephaaGreatDoorB07
import Derived.Test.YtelnkadnphephaaGreatDoorProg
set_option linter.unusedVariables false
set_option linter.unusedSimpArgs false
noncomputable section
namespace Go.Proofs.YtelnkadnphephaaGreatDoor.T
open Go Go.Abs
noncomputable section
def G (g : Nat) : D :=
  match g with
  | 0 => .fptr [.i .u8 (.ofNat 0),.i .u8 (.ofNat 0),.i .u8 (.ofNat 0),.i .u8 (.ofNat 0),.i .u8 (.ofNat 0),.i .u8 (.ofNat 0),.i .u8 (.ofNat 0),.i .u8 (.ofNat 97),.i .u8 (.ofNat 98),.i .u8 (.ofNat 116),.i .u8 (.ofNat 110),.i .u8 (.ofNat 118),.i .u8 (.ofNat 102),.i .u8 (.ofNat 114)]
  | 2 => .fptr ([1,10,100,1000,10000,100000,1000000,10000000,100000000,1000000000,10000000000,100000000000,1000000000000,10000000000000,100000000000000,1000000000000000,10000000000000000,100000000000000000,1000000000000000000,10000000000000000000].map fun n => .i .u64 (.ofNat n))
  | 3 => .fptr [.i .i64 (.negSucc 0),.i .i64 (.negSucc 0)]
  | 8 => .fptr [.i .i64 (.negSucc 0),.i .i64 (.negSucc 0)]
  | 9 => .fptr [.i .i64 (.negSucc 1),.i .i64 (.negSucc 1)]
  | _ => .bad

theorem mixed : Tryz.prog.follows .mixedOrders = true := by kernel_rfl

theorem G_closed (g : Nat) : G g = .bad ∨ (G g).closed 20 = true := by
  unfold G
  split <;> first | exact .inl rfl | exact .inr (by kernel_rfl)

theorem closed_run {tab : Tr CEnt} (hT : TabOk Tryz.prog G tab) {f : FuncId} {args : List D} {d : D} (h : (runTop Tryz.prog tab G qs 100000 2000 f args ⟨.e,0⟩).map (·.1) = some d) (ha : (args.all (D.closed 20)) = true) (hd : d.closed 20 = true) (hS : AHeap) : CX Tryz.prog G f args hS d hS := by
  obtain ⟨⟨d',s'⟩,hr,hdd⟩ := Option.map_eq_some_iff.1 h
  simp only at hdd
  subst hdd
  exact CX.closed G_closed (runTop_sound hT qsOk mixed hr) ha hd hS

end
end Go.Proofs.YtelnkadnphephaaGreatDoor.T
end
noncomputable section
namespace Go.Proofs.YtelnkadnphephaaGreatDoor.T
open Go Go.Abs
noncomputable def X28 : XFn := { ntmps := 19,res := [.t 4,.t 5],body := .seq (.region [⟨(some 4),.mv (.c (.i .i64 (.ofNat 0))),none⟩,⟨(some 5),.mv (.c .nili),none⟩]) (.seq (.region [⟨(some 6),.mv (.t 0),none⟩,⟨(some 7),.call (.f 46) [(.t 6)],none⟩]) (.seq (.region [⟨(some 8),.mv (.t 0),none⟩,⟨(some 9),.mv (.t 0),none⟩,⟨(some 10),.nilchk (.t 9),none⟩,⟨(some 11),.faddr 1 (.t 10),none⟩,⟨(some 12),.ld false 1 (.t 11),none⟩,⟨(some 13),.mv (.t 1),none⟩,⟨(some 14),.appS 13 (.t 12) (.t 13),none⟩,⟨(some 15),.nilchk (.t 8),none⟩,⟨(some 16),.faddr 1 (.t 15),none⟩,⟨none,.st 1 (.t 16) (.t 14),none⟩]) (.seq (.region [⟨(some 17),.mv (.t 1),none⟩,⟨(some 18),.lenS (.t 17),none⟩,⟨(some 4),.mv (.t 18),none⟩,⟨(some 5),.mv (.c .nili),none⟩]) (.ret)))) }
theorem X28_eq : xfn Tryz.prog Tryz.f28 = some X28 := by kernel_rfl
end Go.Proofs.YtelnkadnphephaaGreatDoor.T
end
noncomputable section
namespace Go.Proofs.YtelnkadnphephaaGreatDoor.T
open Go Go.Abs
noncomputable section

structure Ef where
  k : Int
  nm : List UInt8
  tx : List UInt8

def Ef.cs (e : Ef) : List D := [.i .u8 e.k,.s e.nm,.s e.tx]
def Ef.d (e : Ef) : D := .agg e.cs

def View (t : Tr AObj) (n : Nat) (d : D) (es : List Ef) : Prop :=
  d = .fz 3 (es.map Ef.d) ∨ (es = [] ∧ d = .nils) ∨ ∃ l m,l < n ∧ d = .sl 3 l 0 es.length ∧ t.get l = some (.cells (es.flatMap Ef.cs) m)

def Gr (t : Tr AObj) (n : Nat) (t' : Tr AObj) (n' : Nat) : Prop := n ≤ n' ∧ ∀ l,l < n → t'.get l = t.get l

theorem Gr.refl {t : Tr AObj} {n : Nat} : Gr t n t n := ⟨Nat.le_refl _,fun _ _ => rfl⟩
theorem Gr.set {t t1 : Tr AObj} {n n1 l : Nat} {o : Option AObj} (a : Gr t n t1 n1) (h : n ≤ l) : Gr t n (t1.set l o) n1 := ⟨a.1,fun m hm => by rw [Tr.get_set,if_neg (by omega)]; exact a.2 m hm⟩
theorem Gr.up {t t1 : Tr AObj} {n n1 n2 : Nat} (a : Gr t n t1 n1) (h : n1 ≤ n2) : Gr t n t1 n2 := ⟨Nat.le_trans a.1 h,a.2⟩

variable {Γ : Nat → D}

attribute [local irreducible] aop evT tm guardX Tr.get Tr.set WR WD WX WL thn blk lop View Gr


structure I10 (T : Tr D) (t : Tr AObj) (n : Nat) (d : D) (es : List Ef) (k : Int) (nm acc : List UInt8) (j : Nat) : Prop where
  v : View t n d es
  h1 : T.get 1 = some (.i .u8 k)
  h2 : T.get 2 = some (.s nm)
  h7 : T.get 7 = some (.s acc)
  h10 : T.get 10 = some d
  h11 : T.get 11 = some (.i .i64 es.length)
  h12 : T.get 12 = some (.i .i64 (j : Nat))

end
end Go.Proofs.YtelnkadnphephaaGreatDoor.T
end
noncomputable section
namespace Go.Proofs.YtelnkadnphephaaGreatDoor.T
open Go Go.Abs
noncomputable section

structure BV (n0 : Nat) (t : Tr AObj) (n : Nat) (lb : Nat) (acc : List UInt8) : Prop where
  lo : n0 ≤ lb
  hi : lb < n
  v : ∃ p s,t.get lb = some (.cells [p,s] 148) ∧ (p = .nilp ∨ p = .ptr lb 0) ∧ ((s = .nils ∧ acc = []) ∨ ∃ lg,n0 ≤ lg ∧ lg < n ∧ lg ≠ lb ∧ s = .sl 1 lg 0 acc.length ∧ acc ≠ [] ∧ t.get lg = some (.cells (acc.map byteD) 13))

attribute [local irreducible] aop evT tm guardX Tr.get Tr.set WR WD WX WL thn blk lop View Gr

variable {Γ : Nat → D}

theorem bytesD_map : ∀ (l : List UInt8),bytesD (l.map byteD) = some l
  | [] => rfl
  | c :: r => by
    have hc : c.toNat < 256 := c.toNat_lt
    simp only [List.map_cons,byteD,bytesD,bytesD_map r]
    rw [if_pos ⟨by omega,by omega⟩]
    congr 1
    simp

theorem cx_check {t : Tr AObj} {n lb : Nat} {p s : D} (hg : t.get lb = some (.cells [p,s] 148)) (hp : p = .nilp ∨ p = .ptr lb 0) :
    ∃ t1,CX Tryz.prog Γ 46 [.ptr lb 0] (S.mk t n).h (.tup []) (S.mk t1 n).h ∧ t1.get lb = some (.cells [.ptr lb 0,s] 148) ∧ (∀ l,l ≠ lb → t1.get l = t.get l) := by
  rcases hp with rfl | rfl
  · refine ⟨t.set lb (some (.cells [.ptr lb 0,s] 148)),?_,gh,fun l hl => by rw [Tr.get_set,if_neg hl]⟩
    rw [set_heap t n lb _ n]
    exact cx_copyCheck_fresh hg
  · exact ⟨t,cx_copyCheck_used hg,hg,fun _ _ => rfl⟩

set_option maxHeartbeats 20000000 in
theorem cx_write {n0 n lb : Nat} {t : Tr AObj} {acc x : List UInt8} (h : BV n0 t n lb acc) (hr : acc.length + x.length ≤ room) :
    ∃ t' n',CX Tryz.prog Γ 28 [.ptr lb 0,.s x] (S.mk t n).h (.tup [.i .i64 x.length,.nili]) (S.mk t' n').h ∧ BV n0 t' n' lb (acc ++ x) ∧ n ≤ n' ∧ ∀ l,l < n0 → t'.get l = t.get l := by
  obtain ⟨hlo,hhi,p,s,hg,hp,hs⟩ := h
  obtain ⟨t1,hc,hg1,hsame⟩ := cx_check (Γ := Γ) (n := n) hg hp
  suffices hsuf : ∃ d t' n',CX Tryz.prog Γ 28 [.ptr lb 0,.s x] (S.mk t n).h d (S.mk t' n').h ∧ (d = .tup [.i .i64 x.length,.nili] ∧ BV n0 t' n' lb (acc ++ x) ∧ n ≤ n' ∧ ∀ l,l < n0 → t'.get l = t.get l) by
    obtain ⟨d',t',n',hx,rfl,k1,k2,k3⟩ := hsuf
    exact ⟨t',n',hx,k1,k2,k3⟩
  refine CX.ofWX (f := 28) (args := [.ptr lb 0,.s x]) Tryz.func28 X28_eq (by kernel_rfl) (by kernel_rfl) (by rfl) ?_
  show WX _ _ X28.body ((Tr.e.set 0 (some (.ptr lb 0))).set 1 (some (.s x))) _ _ _
  unfold X28
  rcases hs with ⟨rfl,rfl⟩ | ⟨lg,hlg0,hlgn,hne,rfl,hacc,hgg⟩
  · by_cases hx : x = []
    · subst hx
      refine WX.seq ?_
      refine WX.region ?_
      refine WR.val gd_n rfl (A_mv rd_c rfl) ?_
      refine WR.val gd_n rfl (A_mv rd_c rfl) ?_
      refine WR.nil ?_
      refine thn_n ?_
      refine WX.seq ?_
      refine WX.region ?_
      refine WR.val gd_n rfl (A_mv (rd_t (g2 rfl (gth rfl gh))) rfl) ?_
      refine WR.call gd_n (args_cons (rd_t gh) args_nil) rfl hc ?_
      refine WR.nil ?_
      refine thn_n ?_
      refine WX.seq ?_
      refine WX.region ?_
      refine WR.val gd_n rfl (A_mv (rd_t (g4 rfl (gth rfl gh))) rfl) ?_
      refine WR.val gd_n rfl (A_mv (rd_t (g4 rfl (g2 rfl gh))) rfl) ?_
      refine WR.val gd_n rfl (A_nilchk (rd_t gh)) ?_
      refine WR.val gd_n rfl (A_faddr (rd_t gh)) ?_
      refine WR.val gd_n rfl (A_ld1 (rd_t gh) (by (first | exact gh | assumption | ((repeat refine Tr.get_there (by first | decide | omega) ?_); first | exact gh | assumption))) rfl) ?_
      refine WR.val gd_n rfl (A_mv (rd_t (g8 rfl (gth rfl gh))) rfl) ?_
      refine WR.val gd_n rfl (A_appS0n (rd_t (gth rfl gh)) (rd_t gh)) ?_
      refine WR.val gd_n rfl (A_nilchk (rd_t (g4 rfl (g2 rfl gh)))) ?_
      refine WR.val gd_n rfl (A_faddr (rd_t gh)) ?_
      refine WR.upd0 gd_n rfl (A_st (rd_t gh) (by (first | exact gh | assumption | ((repeat refine Tr.get_there (by first | decide | omega) ?_); first | exact gh | assumption))) (rd_t (g2 rfl gh)) rfl (Nat.le_of_ble_eq_true rfl) rfl rfl) ?_
      refine WR.nil ?_
      refine thn_n ?_
      refine WX.seq ?_
      refine WX.region ?_
      refine WR.val gd_n rfl (A_mv (rd_t (g8 rfl (g4 rfl (gth rfl gh)))) rfl) ?_
      refine WR.val gd_n rfl (A_lenS (rd_t gh)) ?_
      refine WR.val gd_n rfl (A_mv (rd_t gh) rfl) ?_
      refine WR.val gd_n rfl (A_mv rd_c rfl) ?_
      refine WR.nil ?_
      refine thn_n ?_
      refine WX.ret ?_
      refine retQ_r (res_t (gth rfl gh) (res_t gh res_nil)) rfl ⟨rfl,⟨hlo,hhi,.ptr lb 0,.nils,gh,.inr rfl,.inl ⟨rfl,rfl⟩⟩,Nat.le_refl _,fun l hl => ?_⟩
      rw [Tr.get_set,if_neg (by omega)]; exact hsame l (by omega)
    · have hx0 : x.length ≠ 0 := fun h => hx (List.eq_nil_of_length_eq_zero h)
      have hrm : x.length * 1 ≤ room := by simpa using hr
      have hgn : (t1.set n (some (.cells (x.map byteD) 13))).get lb = some (.cells [.ptr lb 0,.nils] 148) := Tr.get_there (by omega) hg1
      refine WX.seq ?_
      refine WX.region ?_
      refine WR.val gd_n rfl (A_mv rd_c rfl) ?_
      refine WR.val gd_n rfl (A_mv rd_c rfl) ?_
      refine WR.nil ?_
      refine thn_n ?_
      refine WX.seq ?_
      refine WX.region ?_
      refine WR.val gd_n rfl (A_mv (rd_t (g2 rfl (gth rfl gh))) rfl) ?_
      refine WR.call gd_n (args_cons (rd_t gh) args_nil) rfl hc ?_
      refine WR.nil ?_
      refine thn_n ?_
      refine WX.seq ?_
      refine WX.region ?_
      refine WR.val gd_n rfl (A_mv (rd_t (g4 rfl (gth rfl gh))) rfl) ?_
      refine WR.val gd_n rfl (A_mv (rd_t (g4 rfl (g2 rfl gh))) rfl) ?_
      refine WR.val gd_n rfl (A_nilchk (rd_t gh)) ?_
      refine WR.val gd_n rfl (A_faddr (rd_t gh)) ?_
      refine WR.val gd_n rfl (A_ld1 (rd_t gh) (by (first | exact gh | assumption | ((repeat refine Tr.get_there (by first | decide | omega) ?_); first | exact gh | assumption))) rfl) ?_
      refine WR.val gd_n rfl (A_mv (rd_t (g8 rfl (gth rfl gh))) rfl) ?_
      refine WR.new gd_n rfl (A_appSNil (rd_t (gth rfl gh)) (rd_t gh) hx0 hrm) ?_
      refine WR.val gd_n rfl (A_nilchk (rd_t (g4 rfl (g2 rfl gh)))) ?_
      refine WR.val gd_n rfl (A_faddr (rd_t gh)) ?_
      refine WR.upd0 gd_n rfl (A_st (rd_t gh) (by (first | exact gh | assumption | ((repeat refine Tr.get_there (by first | decide | omega) ?_); first | exact gh | assumption))) (rd_t (g2 rfl gh)) rfl (Nat.le_of_ble_eq_true rfl) rfl rfl) ?_
      refine WR.nil ?_
      refine thn_n ?_
      refine WX.seq ?_
      refine WX.region ?_
      refine WR.val gd_n rfl (A_mv (rd_t (g8 rfl (g4 rfl (gth rfl gh)))) rfl) ?_
      refine WR.val gd_n rfl (A_lenS (rd_t gh)) ?_
      refine WR.val gd_n rfl (A_mv (rd_t gh) rfl) ?_
      refine WR.val gd_n rfl (A_mv rd_c rfl) ?_
      refine WR.nil ?_
      refine thn_n ?_
      refine WX.ret ?_
      refine retQ_r (res_t (gth rfl gh) (res_t gh res_nil)) rfl ⟨rfl,⟨hlo,by omega,.ptr lb 0,_,gh,.inr rfl,.inr ⟨n,by omega,by omega,by omega,rfl,by simpa using hx,?_⟩⟩,Nat.le_succ _,fun l hl => ?_⟩
      · rw [Tr.get_set,if_neg (by omega)]; exact gh
      · rw [Tr.get_set,if_neg (by omega),Tr.get_set,if_neg (by omega)]; exact hsame l (by omega)
  · have hgg1 : t1.get lg = some (.cells (acc.map byteD) 13) := (hsame lg hne).trans hgg
    by_cases hx : x = []
    · subst hx
      refine WX.seq ?_
      refine WX.region ?_
      refine WR.val gd_n rfl (A_mv rd_c rfl) ?_
      refine WR.val gd_n rfl (A_mv rd_c rfl) ?_
      refine WR.nil ?_
      refine thn_n ?_
      refine WX.seq ?_
      refine WX.region ?_
      refine WR.val gd_n rfl (A_mv (rd_t (g2 rfl (gth rfl gh))) rfl) ?_
      refine WR.call gd_n (args_cons (rd_t gh) args_nil) rfl hc ?_
      refine WR.nil ?_
      refine thn_n ?_
      refine WX.seq ?_
      refine WX.region ?_
      refine WR.val gd_n rfl (A_mv (rd_t (g4 rfl (gth rfl gh))) rfl) ?_
      refine WR.val gd_n rfl (A_mv (rd_t (g4 rfl (g2 rfl gh))) rfl) ?_
      refine WR.val gd_n rfl (A_nilchk (rd_t gh)) ?_
      refine WR.val gd_n rfl (A_faddr (rd_t gh)) ?_
      refine WR.val gd_n rfl (A_ld1 (rd_t gh) (by (first | exact gh | assumption | ((repeat refine Tr.get_there (by first | decide | omega) ?_); first | exact gh | assumption))) rfl) ?_
      refine WR.val gd_n rfl (A_mv (rd_t (g8 rfl (gth rfl gh))) rfl) ?_
      refine WR.val gd_n rfl (A_appS0s (rd_t (gth rfl gh)) (rd_t gh)) ?_
      refine WR.val gd_n rfl (A_nilchk (rd_t (g4 rfl (g2 rfl gh)))) ?_
      refine WR.val gd_n rfl (A_faddr (rd_t gh)) ?_
      refine WR.upd0 gd_n rfl (A_st (rd_t gh) (by (first | exact gh | assumption | ((repeat refine Tr.get_there (by first | decide | omega) ?_); first | exact gh | assumption))) (rd_t (g2 rfl gh)) rfl (Nat.le_of_ble_eq_true rfl) rfl rfl) ?_
      refine WR.nil ?_
      refine thn_n ?_
      refine WX.seq ?_
      refine WX.region ?_
      refine WR.val gd_n rfl (A_mv (rd_t (g8 rfl (g4 rfl (gth rfl gh)))) rfl) ?_
      refine WR.val gd_n rfl (A_lenS (rd_t gh)) ?_
      refine WR.val gd_n rfl (A_mv (rd_t gh) rfl) ?_
      refine WR.val gd_n rfl (A_mv rd_c rfl) ?_
      refine WR.nil ?_
      refine thn_n ?_
      refine WX.ret ?_
      refine retQ_r (res_t (gth rfl gh) (res_t gh res_nil)) rfl ⟨rfl,⟨hlo,hhi,.ptr lb 0,_,gh,.inr rfl,.inr ⟨lg,hlg0,hlgn,hne,by rw [List.append_nil],by simpa using hacc,?_⟩⟩,Nat.le_refl _,fun l hl => ?_⟩
      · rw [Tr.get_set,if_neg (by omega),List.append_nil]; exact hgg1
      · rw [Tr.get_set,if_neg (by omega)]; exact hsame l (by omega)
    · have hx0 : x.length ≠ 0 := fun h => hx (List.eq_nil_of_length_eq_zero h)
      have hrm : (acc.length + x.length) * 1 ≤ room := by simpa using hr
      have hcs : ((acc.map byteD).drop 0).take (acc.length * 1) ++ x.map byteD = (acc ++ x).map byteD := by rw [List.drop_zero,List.take_of_length_le (by simp),List.map_append]
      have hgn : ((t1.set lg none).set n (some (.cells ((acc ++ x).map byteD) 13))).get lb = some (.cells [.ptr lb 0,.sl 1 lg 0 acc.length] 148) := Tr.get_there (by omega) (Tr.get_there (by omega) hg1)
      have hsz : 0 + acc.length * 1 ≤ (acc.map byteD).length := by simp
      refine WX.seq ?_
      refine WX.region ?_
      refine WR.val gd_n rfl (A_mv rd_c rfl) ?_
      refine WR.val gd_n rfl (A_mv rd_c rfl) ?_
      refine WR.nil ?_
      refine thn_n ?_
      refine WX.seq ?_
      refine WX.region ?_
      refine WR.val gd_n rfl (A_mv (rd_t (g2 rfl (gth rfl gh))) rfl) ?_
      refine WR.call gd_n (args_cons (rd_t gh) args_nil) rfl hc ?_
      refine WR.nil ?_
      refine thn_n ?_
      refine WX.seq ?_
      refine WX.region ?_
      refine WR.val gd_n rfl (A_mv (rd_t (g4 rfl (gth rfl gh))) rfl) ?_
      refine WR.val gd_n rfl (A_mv (rd_t (g4 rfl (g2 rfl gh))) rfl) ?_
      refine WR.val gd_n rfl (A_nilchk (rd_t gh)) ?_
      refine WR.val gd_n rfl (A_faddr (rd_t gh)) ?_
      refine WR.val gd_n rfl (A_ld1 (rd_t gh) (by (first | exact gh | assumption | ((repeat refine Tr.get_there (by first | decide | omega) ?_); first | exact gh | assumption))) rfl) ?_
      refine WR.val gd_n rfl (A_mv (rd_t (g8 rfl (gth rfl gh))) rfl) ?_
      refine WR.app gd_n rfl (A_appSSl (rd_t (gth rfl gh)) (rd_t gh) hx0 hgg1 hsz hrm (.inr ⟨rfl,rfl⟩) hcs) ?_
      refine WR.val gd_n rfl (A_nilchk (rd_t (g4 rfl (g2 rfl gh)))) ?_
      refine WR.val gd_n rfl (A_faddr (rd_t gh)) ?_
      refine WR.upd0 gd_n rfl (A_st (rd_t gh) (by (first | exact gh | assumption | ((repeat refine Tr.get_there (by first | decide | omega) ?_); first | exact gh | assumption))) (rd_t (g2 rfl gh)) rfl (Nat.le_of_ble_eq_true rfl) rfl rfl) ?_
      refine WR.nil ?_
      refine thn_n ?_
      refine WX.seq ?_
      refine WX.region ?_
      refine WR.val gd_n rfl (A_mv (rd_t (g8 rfl (g4 rfl (gth rfl gh)))) rfl) ?_
      refine WR.val gd_n rfl (A_lenS (rd_t gh)) ?_
      refine WR.val gd_n rfl (A_mv (rd_t gh) rfl) ?_
      refine WR.val gd_n rfl (A_mv rd_c rfl) ?_
      refine WR.nil ?_
      refine thn_n ?_
      refine WX.ret ?_
      refine retQ_r (res_t (gth rfl gh) (res_t gh res_nil)) rfl ⟨rfl,⟨hlo,by omega,.ptr lb 0,_,gh,.inr rfl,.inr ⟨n,by omega,by omega,by omega,by rw [List.length_append],by simp [hx],?_⟩⟩,Nat.le_succ _,fun l hl => ?_⟩
      · rw [Tr.get_set,if_neg (by omega)]; exact gh
      · rw [Tr.get_set,if_neg (by omega),Tr.get_set,if_neg (by omega),Tr.get_set,if_neg (by omega)]; exact hsame l (by omega)

end
end Go.Proofs.YtelnkadnphephaaGreatDoor.T
end
noncomputable section
namespace Go.Abs
open Go

section
variable {get : Nat → Option AObj} {n : Nat} {ev : Opd → D} {x y z : Opd} {d e : D} {l off : Nat} {cs : List D} {m : Nat}

theorem A_box (h : ev x = d) (hv : d.val = true) : aop get n ev (.box x) = .new (.cells d.cells 0) (.ptr n 0) := by subst h; simp only [aop,hv,if_true]
theorem A_build {zs cs : List D} {ps : List (Nat × Nat × Opd)} (h : fillD zs (ps.map fun p => (p.1,p.2.1,ev p.2.2)) = some cs) : aop get n ev (.build zs ps) = .val (.agg cs) := by simp only [aop,h]
theorem A_bs1 {sz len mk o k : Nat} {zs ds : List D} (hx : ev x = d) (h : fillD zs [(o,k,d)] = some ds) (hm : zMark zs = mk) : aop get n ev (.bslice sz zs [(o,k,x)] len) = .new (.cells ds mk) (.sl sz n 0 len) := by
  subst hx hm
  show (match fillD zs [(o,k,ev x)] with | some cs => AR.new (.cells cs (zMark zs)) (.sl sz n 0 len) | none => .bad) = _
  rw [h]
theorem A_bs2 {sz len mk o k o2 k2 : Nat} {zs ds : List D} (hx : ev x = d) (hy : ev y = e) (h : fillD zs [(o,k,d),(o2,k2,e)] = some ds) (hm : zMark zs = mk) : aop get n ev (.bslice sz zs [(o,k,x),(o2,k2,y)] len) = .new (.cells ds mk) (.sl sz n 0 len) := by
  subst hx hy hm
  show (match fillD zs [(o,k,ev x),(o2,k2,ev y)] with | some cs => AR.new (.cells cs (zMark zs)) (.sl sz n 0 len) | none => .bad) = _
  rw [h]
theorem A_bs3 {sz len mk o k o2 k2 o3 k3 : Nat} {d3 : D} {zs ds : List D} (hx : ev x = d) (hy : ev y = e) (hz : ev z = d3) (h : fillD zs [(o,k,d),(o2,k2,e),(o3,k3,d3)] = some ds) (hm : zMark zs = mk) : aop get n ev (.bslice sz zs [(o,k,x),(o2,k2,y),(o3,k3,z)] len) = .new (.cells ds mk) (.sl sz n 0 len) := by
  subst hx hy hz hm
  show (match fillD zs [(o,k,ev x),(o2,k2,ev y),(o3,k3,ev z)] with | some cs => AR.new (.cells cs (zMark zs)) (.sl sz n 0 len) | none => .bad) = _
  rw [h]
theorem A_geI {k : IntKind} {a b : Int} {r : Bool} (h : ev x = .i k a) (h1 : ev y = .i k b) (hr : decide (a ≥ b) = r) : aop get n ev (.bin .geq x y) = .val (.b r) := by
  subst hr; simp [aop,h,h1,binD,abin,ofO]
theorem A_leI {k : IntKind} {a b : Int} {r : Bool} (h : ev x = .i k a) (h1 : ev y = .i k b) (hr : decide (a ≤ b) = r) : aop get n ev (.bin .leq x y) = .val (.b r) := by
  subst hr; simp [aop,h,h1,binD,abin,ofO]
theorem A_quo {k : IntKind} {a b c : Int} (h : ev x = .i k a) (h1 : ev y = .i k b) (h0 : b ≠ 0) (hc : k.wrap (a.tdiv b) = c) : aop get n ev (.bin .quo x y) = .val (.i k c) := by
  subst hc; simp [aop,h,h1,binD,abin,ofO,h0]
theorem A_rem {k : IntKind} {a b c : Int} (h : ev x = .i k a) (h1 : ev y = .i k b) (h0 : b ≠ 0) (hc : a.tmod b = c) : aop get n ev (.bin .rem x y) = .val (.i k c) := by
  subst hc; simp [aop,h,h1,binD,abin,ofO,h0]
theorem A_neg {k : IntKind} {a c : Int} (h : ev x = .i k a) (hc : k.wrap (0 - a) = c) : aop get n ev (.un .neg x) = .val (.i k c) := by
  subst hc; simp [aop,h,unD,ofO]
theorem A_not {b r : Bool} (h : ev x = .b b) (hr : (!b) = r) : aop get n ev (.un .not x) = .val (.b r) := by
  subst hr; simp [aop,h,unD,ofO]
theorem A_convI {k k' : IntKind} {a c : Int} (h : ev x = .i k' a) (hc : k.wrap a = c) : aop get n ev (.convI k x) = .val (.i k c) := by
  subst hc; simp only [aop,h]
theorem A_idxS {k : IntKind} {t : List UInt8} {j : Nat} {c : UInt8} (h : ev x = .s t) (h1 : ev y = .i k (j : Nat)) (hj : t[j]? = some c) : aop get n ev (.idxS x y) = .val (byteD c) := by
  simp only [aop,h,h1,Int.toNat_natCast,hj]
  rw [if_pos (Int.natCast_nonneg _)]
theorem A_ext {i : Nat} {ds : List D} (h : ev x = .tup ds) (hd : ds[i]? = some d) (hk : d.ok = true) : aop get n ev (.ext x i) = .val d := by
  simp only [aop,h,hd]
  cases d <;> first | rfl | (simp [D.ok] at hk)
theorem A_fad {o : Nat} (h : ev x = .fptr cs) (ho : o ≤ cs.length) : aop get n ev (.faddr o x) = .val (.fptr (cs.drop o)) := by simp only [aop,h,if_pos ho]
theorem A_ldf1 (h : ev x = .fptr cs) (hd : cs[0]? = some d) (hk : d.ok = true) : aop get n ev (.ld false 1 x) = .val d := by
  cases cs with
  | nil => simp at hd
  | cons a r =>
    simp only [List.getElem?_cons_zero,Option.some.injEq] at hd
    subst hd
    simp only [aop,h,ldCells]
    cases a <;> first | rfl | (simp [D.ok] at hk)
theorem A_iaddrAf {k : IntKind} {len sz j : Nat} (h : ev x = .fptr cs) (h1 : ev y = .i k (j : Nat)) (hj : j < len) (hl : j * sz ≤ cs.length) : aop get n ev (.iaddrA len sz x y) = .val (.fptr (cs.drop (j * sz))) := by
  simp only [aop,h,h1,Int.toNat_natCast]
  rw [if_pos ⟨Int.natCast_nonneg _,by omega,hl⟩]
theorem A_iaddrAp {k : IntKind} {len sz j : Nat} (h : ev x = .ptr l off) (h1 : ev y = .i k (j : Nat)) (hj : j < len) : aop get n ev (.iaddrA len sz x y) = .val (.ptr l (off + j * sz)) := by
  simp only [aop,h,h1,Int.toNat_natCast]
  rw [if_pos ⟨Int.natCast_nonneg _,by omega⟩]
theorem A_slcA {N sz : Nat} {lo hi : Option Opd} {a b : Nat} (h : ev x = .ptr l off) (h1 : optI (lo.map ev) 0 = some (a : Int)) (h2 : optI (hi.map ev) N = some (b : Int)) (hg : get l = some (.cells cs m)) (hab : a ≤ b) (hb : b ≤ N) (hN : N ≤ maxN) (hc : off + N * sz ≤ cs.length) :
    aop get n ev (.slcA N sz x lo hi) = .val (.sl sz l (off + a * sz) (b - a)) := by
  simp only [aop,h,h1,h2,hg,Int.toNat_natCast]
  rw [if_pos ⟨Int.natCast_nonneg _,by omega,by omega,hN,hc⟩]
theorem C_sl {sz len mm : Nat} {new : List D} (hg : get l = some (.cells cs mm)) (h : off + len * sz ≤ cs.length) (hn : (cs.drop off).take (len * sz) = new) : slCells get sz (.sl sz l off len) = some (new,len,some l) := by
  subst hn
  simp only [slCells,hg,h,and_self,if_true]
theorem A_apN {sz bytes mk m0 : Nat} {ly : Option Nat} {new : List D} (h : ev x = .nils) (hy : ev y = d) (h1 : slCells get sz d = some (new,m0,ly)) (h0 : m0 ≠ 0) (hr : m0 * bytes ≤ room) : aop get n ev (.app sz bytes mk x y) = .new (.cells new mk) (.sl sz n 0 m0) := A_appNil h (by rw [hy]; exact h1) h0 hr
theorem A_apS {sz bytes mk m0 len m : Nat} {ly : Option Nat} {new cs cs' : List D} (h : ev x = .sl sz l off len) (hy : ev y = d) (h1 : slCells get sz d = some (new,m0,ly)) (h0 : m0 ≠ 0) (hl : ly ≠ some l) (hg : get l = some (.cells cs m)) (h2 : off + len * sz ≤ cs.length) (hr : (len + m0) * bytes ≤ room) (hm : m ≤ 1 ∨ (m = mk ∧ off = 0))
    (hc : (cs.drop off).take (len * sz) ++ new = cs') : aop get n ev (.app sz bytes mk x y) = .app l (.cells cs' m) (.sl sz n 0 (len + m0)) := A_appSl h (by rw [hy]; exact h1) h0 hl hg h2 hr hm hc
theorem opt_s {k : IntKind} {a zz : Int} (h : ev y = .i k a) : optI ((some y).map ev) zz = some a := by rw [Option.map_some,h]; rfl
theorem opt_n {zz : Int} : optI ((none : Option Opd).map ev) zz = some zz := rfl
theorem A_convBS {len : Nat} {t : List UInt8} (h : ev x = .sl 1 l off len) (hg : get l = some (.cells cs m)) (hl : off + len ≤ cs.length) (hb : (cs.drop off).take len = t.map byteD) (ht : t.length ≤ maxN) : aop get n ev (.convBS x) = .val (.s t) := by
  have hm : (t.map byteD).mapM byteOf? = some t := by
    induction t with
    | nil => rfl
    | cons a r ih =>
      rw [List.map_cons,List.mapM_cons]
      have : byteOf? (byteD a) = some a := by simp [byteOf?,byteD]
      rw [this]
      have ih' : (r.map byteD).mapM byteOf? = some r := by
        clear ih hb ht
        induction r with
        | nil => rfl
        | cons b q ih2 =>
          rw [List.map_cons,List.mapM_cons,ih2]
          have : byteOf? (byteD b) = some b := by simp [byteOf?,byteD]
          rw [this]; rfl
      rw [ih']; rfl
  have hs : slCells get 1 (ev x) = some (t.map byteD,len,some l) := by
    rw [h]
    simp only [slCells,hg]
    rw [if_pos ⟨by omega,trivial⟩,Nat.mul_one,hb]
  simp only [aop,hs,hm,if_pos ht]
theorem A_mkfn {f : Fn} {a c : List Opd} {as' cs' : List D} (ha : a.map ev = as') (hc : c.map ev = cs') (h1 : (as'.all D.ok) = true) (h2 : (cs'.all D.ok) = true) : aop get n ev (.mkfn f a c) = .val (.fn f as' cs') := by
  subst ha hc
  rw [List.all_map] at h1 h2
  simp only [aop]
  rw [if_pos ⟨h1,h2⟩]
end

section
variable {P : Program} {Γ : Nat → D} {T : Tr D} {t : Tr AObj} {n : Nat} {g : Option (Nat × Bool)} {xs : List XOper} {i : Nat} {d : D} {Q : QR}

theorem rd_f {f : Nat} : evT Γ (tm T) (.f f) = .fn (.func f) [] [] := rfl
theorem rd_g {i : Nat} {d : D} (h : Γ i = d) : evT Γ (tm T) (.g i) = d := h

theorem WR.callv {fo : Opd} {f : FuncId} {args : List Opd} {first caps aa : List D} {t1 : Tr AObj} {n1 : Nat} (hg : guardX (tm T) g = some true) (hf : evT Γ (tm T) fo = .fn (.func f) first caps) (ha : args.map (evT Γ (tm T)) = aa) (hok : (aa.all D.ok) = true)
    (hx : CX P Γ f (first ++ aa ++ caps) (S.mk t n).h d (S.mk t1 n1).h) (hr : WR P Γ xs (T.set i (some d)) t1 n1 Q) : WR P Γ (⟨some i,.call fo args,g⟩ :: xs) T t n Q := by
  obtain ⟨T',t',n',h',q⟩ := hr
  refine ⟨T',t',n',.cons (.inr ⟨hg,d,rfl,.inr (.inl ⟨fo,args,f,first,caps,rfl,hf,?_,?_⟩)⟩) h',q⟩
  · subst ha; rw [List.all_map] at hok; exact hok
  · subst ha; exact hx
end

/-! ### Drawn regions -/

abbrev QP := Tr D → Tr AObj → Nat → List Nat → Prop

def WP (Γ : Nat → D) (call : CallF) (base : Nat) (PL : List PlanE) (obs : List (Option AObj)) (stab : List (Nat × AObj)) (xs : List XOper) (pl : List PlanE) (i k : Nat) (T : Tr D) (t : Tr AObj) (n : Nat) (nw : List (Nat × AObj)) (ab : List Nat) (Q : QP) : Prop :=
  ∃ T' t' n' ab',RunP Γ call base PL obs stab xs pl i k T ⟨t,n⟩ nw ab T' ⟨t',n'⟩ ab' ∧ Q T' t' n' ab'

noncomputable def mkCall (P : Program) (Γ : Nat → D) (F : FuncId → List D → Tr AObj → Option (D × Tr AObj)) : CallF := fun f args s =>
  match F f args s.t with
  | none => none
  | some (d,t') => @dite _ (∃ n',s.n ≤ n' ∧ CX P Γ f args s.h d (S.mk t' n').h) (Classical.propDecidable _) (fun h => some (d,⟨t',h.choose⟩)) fun _ => none

section
variable {P : Program} {Γ : Nat → D} {F : FuncId → List D → Tr AObj → Option (D × Tr AObj)}

theorem mkCall_ok : CallOk P Γ (mkCall P Γ F) := by
  intro f args s d s' h
  unfold mkCall at h
  split at h
  · cases h
  · rename_i d' t' hF
    split at h
    · rename_i hx
      simp only [Option.some.injEq,Prod.mk.injEq] at h
      obtain ⟨rfl,rfl⟩ := h
      exact hx.choose_spec.2
    · cases h

theorem mkCall_eq {f : FuncId} {args : List D} {s : S} {d : D} {t' : Tr AObj} (hF : F f args s.t = some (d,t')) (hx : ∃ n',s.n ≤ n' ∧ CX P Γ f args s.h d (S.mk t' n').h) : ∃ n',s.n ≤ n' ∧ mkCall P Γ F f args s = some (d,⟨t',n'⟩) := by
  refine ⟨hx.choose,hx.choose_spec.1,?_⟩
  unfold mkCall
  rw [hF]
  simp only
  rw [dif_pos hx]
end

section
variable {P : Program} {Γ : Nat → D} {F : FuncId → List D → Tr AObj → Option (D × Tr AObj)} {base : Nat} {PL : List PlanE} {obs : List (Option AObj)} {stab : List (Nat × AObj)} {xs : List XOper} {p : PlanE} {pl : List PlanE} {i k j : Nat} {T : Tr D} {t : Tr AObj} {n : Nat} {nw : List (Nat × AObj)} {ab : List Nat} {Q : QP} {op : XOp} {g : Option (Nat × Bool)} {d : D} {call : CallF}

theorem WP.nil (h : Q T t n ab) : WP Γ call base PL obs stab [] pl i k T t n nw ab Q := ⟨T,t,n,ab,.nil _ _ _ _ _ _ _,h⟩
theorem WP.val (hg : guardX (tm T) g = some true) (hw : op.writes = false) (hi : insOf op = none) (hm : op.mem = false) (ho : obs.getD i none = none) (h : ∀ get m,aop get m (evT Γ (tm T)) op = .val d) (hr : WP Γ call base PL obs stab xs pl (i + 1) k (T.set j (some d)) t n nw ab Q) : WP Γ call base PL obs stab (⟨some j,op,g⟩ :: xs) (p :: pl) i k T t n nw ab Q :=
  let ⟨T',t',n',ab',h',q⟩ := hr; ⟨T',t',n',ab',.val hg hw hi hm ho h h',q⟩
theorem WP.ld (hg : guardX (tm T) g = some true) (hw : op.writes = false) (hi : insOf op = none) (hm : op.mem = true) (ho : obs.getD i none = none) (hh : (nw.all fun q => !p.pre.contains q.1 || Nat.ble p.hi (PL.getD q.1 default).hi) = true) (h : ∀ get m,StX stab base nw p.pre get → aop get m (evT Γ (tm T)) op = .val d)
    (hr : WP Γ call base PL obs stab xs pl (i + 1) k (T.set j (some d)) t n nw ab Q) : WP Γ call base PL obs stab (⟨some j,op,g⟩ :: xs) (p :: pl) i k T t n nw ab Q :=
  let ⟨T',t',n',ab',h',q⟩ := hr; ⟨T',t',n',ab',.ld hg hw hi ho hh hm h h',q⟩
theorem WP.new {o : AObj} (hg : guardX (tm T) g = some true) (hw : op.writes = false) (hi : insOf op = none) (hm : op.mem = false) (hk : isMk op = false) (ho : obs.getD i none = some o) (h : aop t.get (base + i) (evT Γ (tm T)) op = .new o d)
    (hr : WP Γ call base PL obs stab xs pl (i + 1) k (T.set j (some d)) t n ((i,o) :: nw) ab Q) : WP Γ call base PL obs stab (⟨some j,op,g⟩ :: xs) (p :: pl) i k T t n nw ab Q :=
  let ⟨T',t',n',ab',h',q⟩ := hr; ⟨T',t',n',ab',.new hg hw hi hm hk ho h h',q⟩
theorem WP.callq {fo : Opd} {args : List Opd} {f : FuncId} {first caps aa : List D} (t1 : Tr AObj) (nw1 : List (Nat × AObj)) (ab1 : List Nat) (he : absorbT base p.pre nw t = t1) (hnw : nwL p.pre nw = nw1) (hab1 : absL p.pre nw ab = ab1) (hg : guardX (tm T) g = some true) (hf : evT Γ (tm T) fo = .fn (.func f) first caps) (ha : args.map (evT Γ (tm T)) = aa) (hok : (aa.all D.ok) = true) (ho : obs.getD i none = none)
    (hF : F f (first ++ aa ++ caps) t1 = some (d,t1)) (hx : ∃ n',n ≤ n' ∧ CX P Γ f (first ++ aa ++ caps) (S.mk t1 n).h d (S.mk t1 n').h)
    (hab : (ab1.all fun j => Nat.blt (PL.getD j default).hi (k + 1)) = true)
    (hr : ∀ n',n ≤ n' → WP Γ (mkCall P Γ F) base PL obs stab xs pl (i + 1) (k + 1) (T.set j (some d)) t1 n' nw1 ab1 Q) :
    WP Γ (mkCall P Γ F) base PL obs stab (⟨some j,.call fo args,g⟩ :: xs) (p :: pl) i k T t n nw ab Q := by
  subst he hnw hab1
  obtain ⟨n1,h1,h2⟩ := mkCall_eq (s := ⟨absorbT base p.pre nw t,n⟩) hF hx
  obtain ⟨T',t',n',ab',h',q⟩ := hr n1 h1
  subst ha
  rw [List.all_map] at hok
  exact ⟨T',t',n',ab',.callq hg rfl hf hok ho h2 h1 hab h',q⟩
theorem WP.callx {fo : Opd} {args : List Opd} {f : FuncId} {first caps aa : List D} {t2 : Tr AObj} (t1 : Tr AObj) (nw1 : List (Nat × AObj)) (ab1 : List Nat) (he : absorbT base p.pre nw t = t1) (hnw : nwL p.pre nw = nw1) (hab1 : absL p.pre nw ab = ab1) (hg : guardX (tm T) g = some true) (hf : evT Γ (tm T) fo = .fn (.func f) first caps) (ha : args.map (evT Γ (tm T)) = aa) (hok : (aa.all D.ok) = true) (ho : obs.getD i none = none)
    (hF : F f (first ++ aa ++ caps) t1 = some (d,t2)) (hx : ∃ n',n ≤ n' ∧ CX P Γ f (first ++ aa ++ caps) (S.mk t1 n).h d (S.mk t2 n').h)
    (hs : ∀ n',GS1 stab base ⟨t2,n'⟩ ab1) (hab : (ab1.all fun j => Nat.blt (PL.getD j default).hi (k + 1)) = true)
    (hr : ∀ n',n ≤ n' → WP Γ (mkCall P Γ F) base PL obs stab xs pl (i + 1) (k + 1) (T.set j (some d)) t2 n' nw1 ab1 Q) :
    WP Γ (mkCall P Γ F) base PL obs stab (⟨some j,.call fo args,g⟩ :: xs) (p :: pl) i k T t n nw ab Q := by
  subst he hnw hab1
  obtain ⟨n1,h1,h2⟩ := mkCall_eq (s := ⟨absorbT base p.pre nw t,n⟩) hF hx
  obtain ⟨T',t',n',ab',h',q⟩ := hr n1 h1
  subst ha
  rw [List.all_map] at hok
  exact ⟨T',t',n',ab',.callx hg rfl hf hok ho h2 h1 (hs n1) hab h',q⟩

theorem WX.drawP (hc : CallOk P Γ call) (hm : P.follows .mixedOrders = true) {ops : List XOper} {plan : List PlanE} (obs : List (Option AObj)) (stab : List (Nat × AObj))
    (hmk : (ops.all fun x => !isMk x.op) = true) (hhi : (plan.all fun p => Nat.ble p.hi (ops.filter fun x => x.op.writes).length) = true) (hob : Nat.ble obs.length ops.length = true)
    (hst : ∀ q ∈ stab,q.1 < n ∧ t.get q.1 = some q.2) (hfr : Fr t n) {Q : QX} (h : ∀ m,n + ops.length ≤ m → n ≤ m → WP Γ call n plan obs stab ops plan 0 0 T t m [] [] (fun T t n ab => (∀ j,(obs.getD j none).isSome = true → ab.contains j = true) ∧ Q .norm T t n)) : WX P Γ (.draw ops plan) T t n Q := by
  obtain ⟨T',t',n',ab',h',habs,q⟩ := h _ (Nat.le_refl _) (Nat.le_add_right _ _)
  exact ⟨_,T',t',n',XE.drawP hc hm obs stab hmk hhi hob hst hfr h' habs,q⟩
end
end Go.Abs
end
noncomputable section
namespace Go.Proofs.YtelnkadnphephaaGreatDoor.T
open Go Go.Abs
noncomputable section

theorem mixedS : Tryz.prog.follows .mixedOrders = true := by kernel_rfl

def QC (f : FuncId) (args : List D) (d : D) : Prop := ∀ (t : Tr AObj) (n : Nat),Fr t n → ∃ n',n ≤ n' ∧ CX Tryz.prog G f args (S.mk t n).h d (S.mk t n').h

theorem QC.of {f : FuncId} {args : List D} {d : D} (h : ∀ (t : Tr AObj) (n : Nat),Fr t n → ∃ t' n',CX Tryz.prog G f args (S.mk t n).h d (S.mk t' n').h ∧ Gr t n t' n') : QC f args d := fun t n hf => by
  obtain ⟨t',n',hx,g⟩ := h t n hf
  refine ⟨n',g.1,hx.drop (fun l o hl => ?_) (Nat.le_refl _)⟩
  have hl' : t.get l = some o := hl
  by_cases hlt : l < n
  · show t'.get l = some o
    rw [g.2 l hlt]; exact hl'
  · rw [hf l (by omega)] at hl'; cases hl'

theorem wrapN {k : IntKind} {m : Nat} (h : m ≤ kMax k) : k.wrap ((m : Nat) : Int) = ((m : Nat) : Int) := Go.Abs.wrap_small h

attribute [local irreducible] aop evT tm guardX Tr.get Tr.set WR WD WP WX WL thn blk lop

def powN : List Nat := [1,10,100,1000,10000,100000,1000000,10000000,100000000,1000000000,10000000000,100000000000,1000000000000,10000000000000,100000000000000,1000000000000000,10000000000000000,100000000000000000,1000000000000000000,10000000000000000000]
theorem pow_fin : ∀ j : Fin 20,powN[j.val]? = some (10 ^ j.val) := by decide +kernel
theorem pow_at {j : Nat} (hj : j < 20) : ((powN.map fun n => D.i .u64 (.ofNat n)).drop (j * 1))[0]? = some (.i .u64 ((10 ^ j : Nat) : Int)) := by
  rw [List.getElem?_drop,Nat.mul_one,Nat.add_zero,List.getElem?_map,pow_fin ⟨j,hj⟩]; rfl
theorem pow_len {j : Nat} (hj : j < 20) : j * 1 ≤ (powN.map fun n => D.i .u64 (.ofNat n)).length := by
  rw [Nat.mul_one]; exact Nat.le_of_lt hj

set_option maxHeartbeats 20000000 in
theorem cx_200 {t : Tr AObj} {n : Nat} (u : Nat) (h1 : 1 ≤ u) (hu : u < 18446744073709551616) : CX Tryz.prog G 200 [.i .u64 (u : Nat)] (S.mk t n).h (.i .i64 (Lib.nDigits u : Nat)) (S.mk t n).h := by
  obtain ⟨e1,e2⟩ := Lib.numDigits_eq u h1 hu
  have hb64 : Lib.bitLen u ≤ 64 := by
    obtain ⟨a,b,c⟩ := Lib.bitLenAux_bounds 64 u (by omega) (by omega)
    by_cases h : Lib.bitLenAux 64 u ≤ 64
    · exact h
    · have : 2 ^ 64 ≤ 2 ^ (Lib.bitLenAux 64 u - 1) := Nat.pow_le_pow_right (by decide) (by omega)
      omega
  generalize hL : Lib.l10 (Lib.bitLen u) = L at e1 e2
  have c1 : CX Tryz.prog G 247 [.i .u64 (u : Nat)] (S.mk t n).h (.i .i64 (Lib.bitLen u : Nat)) (S.mk t n).h := cx_len64 u hu
  have c2 : CX Tryz.prog G 246 [.i .i64 (Lib.bitLen u : Nat)] (S.mk t n).h (.i .i64 (L : Nat)) (S.mk t n).h := by rw [← hL]; exact cx_log10 _ hb64
  have hL20 : L < 20 := by omega
  have hld := pow_at hL20
  have key := CX.ofWX (P := Tryz.prog) (Γ := G) (t := t) (n := n) (f := 200) (args := [.i .u64 (u : Nat)]) Tryz.func200 X200_eq (by kernel_rfl) (by kernel_rfl) (by rfl) (R := fun d' t' n' => d' = .i .i64 (Lib.nDigits u : Nat) ∧ t' = t ∧ n' = n) (by
    show WX _ _ X200.body (Tr.e.set 0 (some (.i .u64 (u : Nat)))) _ _ _
    unfold X200
    by_cases hc : 10 ^ L ≤ u
    · rw [if_pos hc] at e1
      have hge : decide (((u : Nat) : Int) ≥ ((10 ^ L : Nat) : Int)) = true := decide_eq_true (by exact_mod_cast hc)
      have c3 : CX Tryz.prog G 248 [.b true] (S.mk t n).h (.i .i64 1) (S.mk t n).h := cx_bool2 true
      have hadd : IntKind.wrap .i64 ((L : Nat) + 1) = ((Lib.nDigits u : Nat) : Int) := by rw [← e1]; exact wrapN (k := .i64) (m := L + 1) (by show L + 1 ≤ 9223372036854775807; omega)
      refine WX.seq ?_
      refine WX.region ?_
      refine WR.val gd_n rfl (A_mv rd_c rfl) ?_
      refine WR.nil ?_
      refine thn_n ?_
      refine WX.seq ?_
      refine WX.region ?_
      refine WR.val gd_n rfl (A_mv (rd_t (gth rfl gh)) rfl) ?_
      refine WR.call gd_n (args_cons (rd_t gh) args_nil) rfl c1 ?_
      refine WR.call gd_n (args_cons (rd_t gh) args_nil) rfl c2 ?_
      refine WR.val gd_n rfl (A_mv (rd_t gh) rfl) ?_
      refine WR.nil ?_
      refine thn_n ?_
      refine WX.seq ?_
      refine WX.region ?_
      refine WR.val gd_n rfl (A_mv (rd_t gh) rfl) ?_
      refine WR.val gd_n rfl (A_mv (rd_t (g4 rfl (g2 rfl gh))) rfl) ?_
      refine WR.val gd_n rfl (A_mv (rd_t (g2 rfl gh)) rfl) ?_
      refine WR.val gd_n rfl (A_iaddrAf (rd_g rfl) (rd_t gh) (by omega) (pow_len hL20)) ?_
      refine WR.val gd_n rfl (A_ldf1 (rd_t gh) hld rfl) ?_
      refine WR.val gd_n rfl (A_geI (rd_t (g2 rfl (gth rfl gh))) (rd_t gh) hge) ?_
      refine WR.call gd_n (args_cons (rd_t gh) args_nil) rfl c3 ?_
      refine WR.val gd_n rfl (A_add (rd_t (g4 rfl (g2 rfl gh))) (rd_t gh) hadd) ?_
      refine WR.val gd_n rfl (A_mv (rd_t gh) rfl) ?_
      refine WR.nil ?_
      refine thn_n ?_
      refine WX.ret ?_
      exact retQ_r (res_t gh res_nil) rfl ⟨rfl,rfl,rfl⟩
    · rw [if_neg hc] at e1
      have hge : decide (((u : Nat) : Int) ≥ ((10 ^ L : Nat) : Int)) = false := decide_eq_false (by intro h; exact hc (by exact_mod_cast h))
      have c3 : CX Tryz.prog G 248 [.b false] (S.mk t n).h (.i .i64 0) (S.mk t n).h := cx_bool2 false
      have hadd : IntKind.wrap .i64 ((L : Nat) + 0) = ((Lib.nDigits u : Nat) : Int) := by rw [← e1]; exact wrapN (k := .i64) (m := L) (by show L ≤ 9223372036854775807; omega)
      refine WX.seq ?_
      refine WX.region ?_
      refine WR.val gd_n rfl (A_mv rd_c rfl) ?_
      refine WR.nil ?_
      refine thn_n ?_
      refine WX.seq ?_
      refine WX.region ?_
      refine WR.val gd_n rfl (A_mv (rd_t (gth rfl gh)) rfl) ?_
      refine WR.call gd_n (args_cons (rd_t gh) args_nil) rfl c1 ?_
      refine WR.call gd_n (args_cons (rd_t gh) args_nil) rfl c2 ?_
      refine WR.val gd_n rfl (A_mv (rd_t gh) rfl) ?_
      refine WR.nil ?_
      refine thn_n ?_
      refine WX.seq ?_
      refine WX.region ?_
      refine WR.val gd_n rfl (A_mv (rd_t gh) rfl) ?_
      refine WR.val gd_n rfl (A_mv (rd_t (g4 rfl (g2 rfl gh))) rfl) ?_
      refine WR.val gd_n rfl (A_mv (rd_t (g2 rfl gh)) rfl) ?_
      refine WR.val gd_n rfl (A_iaddrAf (rd_g rfl) (rd_t gh) (by omega) (pow_len hL20)) ?_
      refine WR.val gd_n rfl (A_ldf1 (rd_t gh) hld rfl) ?_
      refine WR.val gd_n rfl (A_geI (rd_t (g2 rfl (gth rfl gh))) (rd_t gh) hge) ?_
      refine WR.call gd_n (args_cons (rd_t gh) args_nil) rfl c3 ?_
      refine WR.val gd_n rfl (A_add (rd_t (g4 rfl (g2 rfl gh))) (rd_t gh) hadd) ?_
      refine WR.val gd_n rfl (A_mv (rd_t gh) rfl) ?_
      refine WR.nil ?_
      refine thn_n ?_
      refine WX.ret ?_
      exact retQ_r (res_t gh res_nil) rfl ⟨rfl,rfl,rfl⟩)
  obtain ⟨d',t',n',hx,rfl,rfl,rfl⟩ := key
  exact hx

def z24 : List D := List.replicate 24 (.i .u8 (.ofNat 0))

theorem splice_took {cs new : List D} {off : Nat} (h : off + new.length ≤ cs.length) : ((splice cs off new).drop off).take new.length = new := by
  apply List.ext_getElem?
  intro k
  rw [List.getElem?_take]
  split
  · rename_i hk
    rw [List.getElem?_drop,splice_get h,if_pos ⟨by omega,by omega⟩,show off + k - off = k by omega]
  · rename_i hk
    rw [List.getElem?_eq_none (by omega)]

theorem cx_fmt' {t : Tr AObj} {n l u : Nat} (hg : t.get l = some (.cells z24 0)) (hnd : 1 + Lib.nDigits u ≤ 24) (hu : u < 18446744073709551616) :
    CX Tryz.prog G 201 [.sl 1 l 1 (Lib.nDigits u),.i .u64 (u : Nat)] (S.mk t n).h (.tup []) (S.mk (t.set l (some (.cells (splice z24 1 ((Lib.decDigits u).map byteD)) 0))) n).h := by
  rw [set_heap t n l _ n]
  refine cx_fmt hg (by show 1 + Lib.nDigits u ≤ 24; exact hnd) (fun j hj => ⟨0,?_⟩) hu
  rw [z24,List.getElem?_replicate,if_pos (by omega)]; rfl

theorem st_first {new : List D} (h : 1 + new.length ≤ 24) : ((splice (splice z24 1 new) 0 [D.i .u8 45]).drop 0).take (1 + new.length) = D.i .u8 45 :: new := by
  have hl : (splice z24 1 new).length = 24 := splice_length (by show 1 + new.length ≤ 24; exact h)
  have h0 : 0 + [D.i .u8 45].length ≤ (splice z24 1 new).length := by rw [hl]; decide
  apply List.ext_getElem?
  intro k
  rw [List.drop_zero,List.getElem?_take]
  split
  · rename_i hk
    rw [splice_get h0]
    cases k with
    | zero => rfl
    | succ k =>
      rw [if_neg (by simp),splice_get (by show 1 + new.length ≤ 24; exact h),if_pos ⟨by omega,by omega⟩]
      simp
  · rename_i hk
    rw [List.getElem?_eq_none (by simp; omega)]

theorem nd20 {u : Nat} (h1 : 1 ≤ u) (hu : u < 18446744073709551616) : Lib.nDigits u ≤ 20 := by
  obtain ⟨h2,h3⟩ := Lib.numDigits_eq u h1 hu
  split at h2 <;> omega

set_option maxHeartbeats 40000000 in
theorem cx_112 {t : Tr AObj} {n : Nat} (m : Int) (h0 : -9223372036854775808 ≤ m) (h1 : m ≤ 9223372036854775807) : ∃ t' n',CX Tryz.prog G 112 [.i .i64 m,.i .i64 10] (S.mk t n).h (.s (Lib.itoa m)) (S.mk t' n').h ∧ Gr t n t' n' := by
  have key := CX.ofWX (P := Tryz.prog) (Γ := G) (t := t) (n := n) (f := 112) (args := [.i .i64 m,.i .i64 10]) Tryz.func112 X112_eq (by kernel_rfl) (by kernel_rfl) (by rfl) (R := fun d' t' n' => d' = .s (Lib.itoa m) ∧ Gr t n t' n') (by
    show WX _ _ X112.body ((Tr.e.set 0 (some (.i .i64 m))).set 1 (some (.i .i64 10))) _ _ _
    unfold X112
    by_cases hs : 0 ≤ m ∧ m < 100
    · obtain ⟨i,rfl⟩ : ∃ i : Nat,m = i := ⟨m.toNat,by omega⟩
      have hi : i < 100 := by omega
      have b1 : decide ((0 : Int) ≤ (i : Int)) = true := decide_eq_true hs.1
      have b2 : decide ((i : Int) < 100) = true := decide_eq_true hs.2
      have c1 : CX Tryz.prog G 199 [.i .i64 (i : Nat)] (S.mk t n).h (.s (Lib.decDigits i)) (S.mk t n).h := cx_small i hi
      refine WX.seq ?_
      refine WX.region ?_
      refine WR.val gd_n rfl (A_mv rd_c rfl) ?_
      refine WR.nil ?_
      refine thn_n ?_
      refine WX.seq ?_
      refine WX.seq ?_
      refine WX.region ?_
      refine WR.val gd_n rfl (A_mv (rd_t (gth rfl gh)) rfl) ?_
      refine WR.val gd_n rfl (A_eqI (rd_t gh) rd_c rfl) ?_
      refine WR.nil ?_
      refine thn_n ?_
      refine WX.condT (rd_t gh) ?_
      refine WX.seq ?_
      refine WX.seq ?_
      refine WX.region ?_
      refine WR.val gd_n rfl (A_mv (rd_t (g4 rfl gh)) rfl) ?_
      refine WR.val gd_n rfl (A_leI rd_c (rd_t gh) b1) ?_
      refine WR.val gd_n rfl (A_mv (rd_t gh) rfl) ?_
      refine WR.val (gd_t gh) rfl (A_mv (rd_t (g4 rfl (g2 rfl (gth rfl gh)))) rfl) ?_
      refine WR.val (gd_t (gth rfl gh)) rfl (A_ltI (rd_t gh) rd_c b2) ?_
      refine WR.val gd_n rfl (A_pickT (rd_t (g2 rfl gh)) (rd_t gh) rfl) ?_
      refine WR.nil ?_
      refine thn_n ?_
      refine WX.condT (rd_t gh) ?_
      refine WX.seq ?_
      refine WX.region ?_
      refine WR.val gd_n rfl (A_mv (rd_t (g8 rfl (g2 rfl gh))) rfl) ?_
      refine WR.call gd_n (args_cons (rd_t gh) args_nil) rfl c1 ?_
      refine WR.val gd_n rfl (A_mv (rd_t gh) rfl) ?_
      refine WR.nil ?_
      refine thn_n ?_
      refine WX.ret ?_
      refine thn_r ?_
      refine thn_r ?_
      exact retQ_r (res_t gh res_nil) rfl ⟨by rw [Lib.itoa_nonneg]; rfl,Gr.refl⟩
    · by_cases hneg : m < 0
      · obtain ⟨u,rfl⟩ : ∃ u : Nat,m = -(u : Int) := ⟨m.natAbs,by omega⟩
        have hu1 : 1 ≤ u := by omega
        have hu64 : u < 18446744073709551616 := by omega
        have hnd := nd20 hu1 hu64
        have hl := Lib.decDigits_length u
        have b1 : decide ((0 : Int) ≤ -(u : Int)) = false := decide_eq_false (by omega)
        have b3 : decide (-(u : Int) < 0) = true := decide_eq_true hneg
        have w1 : IntKind.u64.wrap (0 - IntKind.u64.wrap (-(u : Int))) = ((u : Nat) : Int) := by rw [IntKind.wrap_u64,IntKind.wrap_u64]; omega
        have w2 : IntKind.i64.wrap (1 + ((Lib.nDigits u : Nat) : Int)) = ((1 + Lib.nDigits u : Nat) : Int) := by
          have := wrapN (k := .i64) (m := 1 + Lib.nDigits u) (by show 1 + Lib.nDigits u ≤ 9223372036854775807; omega)
          rw [← this]; rfl
        have c1 : CX Tryz.prog G 200 [.i .u64 (u : Nat)] (S.mk (t.set n (some (.cells z24 0))) (n + 1)).h (.i .i64 (Lib.nDigits u : Nat)) (S.mk (t.set n (some (.cells z24 0))) (n + 1)).h := cx_200 u hu1 hu64
        have c2 : CX Tryz.prog G 201 [.sl 1 n (0 + 1 * 1) (1 + Lib.nDigits u - 1),.i .u64 (u : Nat)] (S.mk (t.set n (some (.cells z24 0))) (n + 1)).h (.tup []) (S.mk ((t.set n (some (.cells z24 0))).set n (some (.cells (splice z24 1 ((Lib.decDigits u).map byteD)) 0))) (n + 1)).h := by
          rw [show 1 + Lib.nDigits u - 1 = Lib.nDigits u by omega]
          exact cx_fmt' gh (by omega) hu64
        have hlen : (splice z24 1 ((Lib.decDigits u).map byteD)).length = 24 := splice_length (by rw [List.length_map,hl]; show 1 + Lib.nDigits u ≤ 24; omega)
        have hst : 0 + 0 * 1 + 1 ≤ (splice z24 1 ((Lib.decDigits u).map byteD)).length := by rw [hlen]; decide
        have hl2 : (splice (splice z24 1 ((Lib.decDigits u).map byteD)) (0 + 0 * 1) [D.i .u8 45]).length = 24 := by rw [splice_length (by exact hst),hlen]
        have htk : ((splice (splice z24 1 ((Lib.decDigits u).map byteD)) (0 + 0 * 1) [D.i .u8 45]).drop (0 + 0 * 1)).take (1 + Lib.nDigits u - 0) = (45 :: Lib.decDigits u).map byteD := by
          have := st_first (new := (Lib.decDigits u).map byteD) (by rw [List.length_map,hl]; omega)
          rw [List.length_map,hl] at this
          exact this
        have hsl : 0 + 0 * 1 + (1 + Lib.nDigits u - 0) ≤ (splice (splice z24 1 ((Lib.decDigits u).map byteD)) (0 + 0 * 1) [D.i .u8 45]).length := by rw [hl2]; omega
        have hmx : (45 :: Lib.decDigits u).length ≤ maxN := by rw [List.length_cons,hl]; unfold maxN; omega
        refine WX.seq ?_
        refine WX.region ?_
        refine WR.val gd_n rfl (A_mv rd_c rfl) ?_
        refine WR.nil ?_
        refine thn_n ?_
        refine WX.seq ?_
        refine WX.seq ?_
        refine WX.region ?_
        refine WR.val gd_n rfl (A_mv (rd_t (gth rfl gh)) rfl) ?_
        refine WR.val gd_n rfl (A_eqI (rd_t gh) rd_c rfl) ?_
        refine WR.nil ?_
        refine thn_n ?_
        refine WX.condT (rd_t gh) ?_
        refine WX.seq ?_
        refine WX.seq ?_
        refine WX.region ?_
        refine WR.val gd_n rfl (A_mv (rd_t (g4 rfl gh)) rfl) ?_
        refine WR.val gd_n rfl (A_leI rd_c (rd_t gh) b1) ?_
        refine WR.val gd_n rfl (A_mv (rd_t gh) rfl) ?_
        refine WR.skip (gd_tf gh) ?_
        refine WR.skip (gd_tf (gth rfl gh)) ?_
        refine WR.val gd_n rfl (A_pickF (rd_t (g2 rfl gh)) rd_c rfl) ?_
        refine WR.nil ?_
        refine thn_n ?_
        refine WX.condF (rd_t gh) ?_
        refine WX.skip ?_
        refine thn_n ?_
        refine WX.seq ?_
        refine WX.region ?_
        refine WR.new gd_n rfl (A_alloc) ?_
        refine WR.nil ?_
        refine thn_n ?_
        refine WX.seq ?_
        refine WX.region ?_
        refine WR.val gd_n rfl (A_mv (rd_t (g8 rfl (g2 rfl (gth rfl gh)))) rfl) ?_
        refine WR.val gd_n rfl (A_convI (rd_t gh) rfl) ?_
        refine WR.val gd_n rfl (A_mv (rd_t gh) rfl) ?_
        refine WR.nil ?_
        refine thn_n ?_
        refine WX.seq ?_
        refine WX.seq ?_
        refine WX.region ?_
        refine WR.val gd_n rfl (A_mv (rd_t (g8 rfl (g4 rfl (g2 rfl gh)))) rfl) ?_
        refine WR.val gd_n rfl (A_ltI (rd_t gh) rd_c b3) ?_
        refine WR.nil ?_
        refine thn_n ?_
        refine WX.condT (rd_t gh) ?_
        refine WX.region ?_
        refine WR.val gd_n rfl (A_mv (rd_t (g2 rfl gh)) rfl) ?_
        refine WR.val gd_n rfl (A_neg (rd_t gh) w1) ?_
        refine WR.val gd_n rfl (A_mv (rd_t gh) rfl) ?_
        refine WR.nil ?_
        refine thn_n ?_
        refine WX.seq ?_
        refine WX.region ?_
        refine WR.val gd_n rfl (A_mv (rd_t gh) rfl) ?_
        refine WR.call gd_n (args_cons (rd_t gh) args_nil) rfl c1 ?_
        refine WR.val gd_n rfl (A_mv (rd_t gh) rfl) ?_
        refine WR.nil ?_
        refine thn_n ?_
        refine WX.seq ?_
        refine WX.region ?_
        refine WR.val gd_n rfl (A_mv (rd_t gh) rfl) ?_
        refine WR.val gd_n rfl (A_add rd_c (rd_t gh) w2) ?_
        refine WR.val gd_n rfl (A_slcA (a := 1) (b := 1 + Lib.nDigits u) (rd_t (g8 rfl (g4 rfl (gth rfl gh)))) (opt_s rd_c) (opt_s (rd_t gh)) gh (by omega) (by omega) (by decide) (by decide)) ?_
        refine WR.val gd_n rfl (A_mv (rd_t (g4 rfl (g2 rfl gh))) rfl) ?_
        refine WR.call gd_n (args_cons (rd_t (gth rfl gh)) (args_cons (rd_t gh) args_nil)) rfl c2 ?_
        refine WR.nil ?_
        refine thn_n ?_
        refine WX.seq ?_
        refine WX.seq ?_
        refine WX.region ?_
        refine WR.val gd_n rfl (A_mv (rd_t (g8 rfl (g8 rfl (g8 rfl (g2 rfl (gth rfl gh)))))) rfl) ?_
        refine WR.val gd_n rfl (A_ltI (rd_t gh) rd_c b3) ?_
        refine WR.nil ?_
        refine thn_n ?_
        refine WX.condT (rd_t gh) ?_
        refine WX.seq ?_
        refine WX.region ?_
        refine WR.val gd_n rfl (A_iaddrAp (j := 0) (rd_t (g8 rfl (g8 rfl (g2 rfl gh)))) rd_c (by decide)) ?_
        refine WR.upd0 gd_n rfl (A_st (rd_t gh) gh rd_c rfl hst rfl rfl) ?_
        refine WR.nil ?_
        refine thn_n ?_
        refine WX.seq ?_
        refine WX.region ?_
        refine WR.val gd_n rfl (A_mv (rd_t (g8 rfl gh)) rfl) ?_
        refine WR.val gd_n rfl (A_add rd_c (rd_t gh) w2) ?_
        refine WR.val gd_n rfl (A_slcA (a := 0) (b := 1 + Lib.nDigits u) (rd_t (g8 rfl (g8 rfl (g4 rfl (gth rfl gh))))) opt_n (opt_s (rd_t gh)) gh (by omega) (by omega) (by decide) (Nat.le_of_eq hl2.symm)) ?_
        refine WR.val gd_n rfl (A_convBS (rd_t gh) gh hsl htk hmx) ?_
        refine WR.val gd_n rfl (A_mv (rd_t gh) rfl) ?_
        refine WR.nil ?_
        refine thn_n ?_
        refine WX.ret ?_
        refine thn_r ?_
        refine thn_r ?_
        exact retQ_r (res_t gh res_nil) rfl ⟨by rw [Lib.itoa_neg u hu1]; rfl,(by (repeat refine Gr.set ?_ (by omega)); exact Gr.refl.up (by omega))⟩
      · obtain ⟨u,rfl⟩ : ∃ u : Nat,m = u := ⟨m.toNat,by omega⟩
        have hu1 : 1 ≤ u := by omega
        have hu64 : u < 18446744073709551616 := by omega
        have hnd := nd20 hu1 hu64
        have hl := Lib.decDigits_length u
        have b1 : decide ((0 : Int) ≤ (u : Int)) = true := decide_eq_true (by omega)
        have b2 : decide ((u : Int) < 100) = false := decide_eq_false (by omega)
        have b3 : decide ((u : Int) < 0) = false := decide_eq_false hneg
        have w1 : IntKind.u64.wrap (u : Int) = ((u : Nat) : Int) := wrapN (k := .u64) (m := u) (by show u ≤ 18446744073709551615; omega)
        have w2 : IntKind.i64.wrap (1 + ((Lib.nDigits u : Nat) : Int)) = ((1 + Lib.nDigits u : Nat) : Int) := by
          have := wrapN (k := .i64) (m := 1 + Lib.nDigits u) (by show 1 + Lib.nDigits u ≤ 9223372036854775807; omega)
          rw [← this]; rfl
        have c1 : CX Tryz.prog G 200 [.i .u64 (u : Nat)] (S.mk (t.set n (some (.cells z24 0))) (n + 1)).h (.i .i64 (Lib.nDigits u : Nat)) (S.mk (t.set n (some (.cells z24 0))) (n + 1)).h := cx_200 u hu1 hu64
        have c2 : CX Tryz.prog G 201 [.sl 1 n (0 + 1 * 1) (1 + Lib.nDigits u - 1),.i .u64 (u : Nat)] (S.mk (t.set n (some (.cells z24 0))) (n + 1)).h (.tup []) (S.mk ((t.set n (some (.cells z24 0))).set n (some (.cells (splice z24 1 ((Lib.decDigits u).map byteD)) 0))) (n + 1)).h := by
          rw [show 1 + Lib.nDigits u - 1 = Lib.nDigits u by omega]
          exact cx_fmt' gh (by omega) hu64
        have hlen : (splice z24 1 ((Lib.decDigits u).map byteD)).length = 24 := splice_length (by rw [List.length_map,hl]; show 1 + Lib.nDigits u ≤ 24; omega)
        have htk : ((splice z24 1 ((Lib.decDigits u).map byteD)).drop (0 + 1 * 1)).take (1 + Lib.nDigits u - 1) = (Lib.decDigits u).map byteD := by
          have := splice_took (cs := z24) (new := (Lib.decDigits u).map byteD) (off := 1) (by rw [List.length_map,hl]; show 1 + Lib.nDigits u ≤ 24; omega)
          rw [List.length_map,hl] at this
          rw [show 1 + Lib.nDigits u - 1 = Lib.nDigits u by omega]
          exact this
        have hsl : 0 + 1 * 1 + (1 + Lib.nDigits u - 1) ≤ (splice z24 1 ((Lib.decDigits u).map byteD)).length := by rw [hlen]; omega
        have hmx : (Lib.decDigits u).length ≤ maxN := by rw [hl]; unfold maxN; omega
        refine WX.seq ?_
        refine WX.region ?_
        refine WR.val gd_n rfl (A_mv rd_c rfl) ?_
        refine WR.nil ?_
        refine thn_n ?_
        refine WX.seq ?_
        refine WX.seq ?_
        refine WX.region ?_
        refine WR.val gd_n rfl (A_mv (rd_t (gth rfl gh)) rfl) ?_
        refine WR.val gd_n rfl (A_eqI (rd_t gh) rd_c rfl) ?_
        refine WR.nil ?_
        refine thn_n ?_
        refine WX.condT (rd_t gh) ?_
        refine WX.seq ?_
        refine WX.seq ?_
        refine WX.region ?_
        refine WR.val gd_n rfl (A_mv (rd_t (g4 rfl gh)) rfl) ?_
        refine WR.val gd_n rfl (A_leI rd_c (rd_t gh) b1) ?_
        refine WR.val gd_n rfl (A_mv (rd_t gh) rfl) ?_
        refine WR.val (gd_t gh) rfl (A_mv (rd_t (g4 rfl (g2 rfl (gth rfl gh)))) rfl) ?_
        refine WR.val (gd_t (gth rfl gh)) rfl (A_ltI (rd_t gh) rd_c b2) ?_
        refine WR.val gd_n rfl (A_pickT (rd_t (g2 rfl gh)) (rd_t gh) rfl) ?_
        refine WR.nil ?_
        refine thn_n ?_
        refine WX.condF (rd_t gh) ?_
        refine WX.skip ?_
        refine thn_n ?_
        refine WX.seq ?_
        refine WX.region ?_
        refine WR.new gd_n rfl (A_alloc) ?_
        refine WR.nil ?_
        refine thn_n ?_
        refine WX.seq ?_
        refine WX.region ?_
        refine WR.val gd_n rfl (A_mv (rd_t (g8 rfl (g2 rfl (gth rfl gh)))) rfl) ?_
        refine WR.val gd_n rfl (A_convI (rd_t gh) w1) ?_
        refine WR.val gd_n rfl (A_mv (rd_t gh) rfl) ?_
        refine WR.nil ?_
        refine thn_n ?_
        refine WX.seq ?_
        refine WX.seq ?_
        refine WX.region ?_
        refine WR.val gd_n rfl (A_mv (rd_t (g8 rfl (g4 rfl (g2 rfl gh)))) rfl) ?_
        refine WR.val gd_n rfl (A_ltI (rd_t gh) rd_c b3) ?_
        refine WR.nil ?_
        refine thn_n ?_
        refine WX.condF (rd_t gh) ?_
        refine WX.skip ?_
        refine thn_n ?_
        refine WX.seq ?_
        refine WX.region ?_
        refine WR.val gd_n rfl (A_mv (rd_t (g2 rfl gh)) rfl) ?_
        refine WR.call gd_n (args_cons (rd_t gh) args_nil) rfl c1 ?_
        refine WR.val gd_n rfl (A_mv (rd_t gh) rfl) ?_
        refine WR.nil ?_
        refine thn_n ?_
        refine WX.seq ?_
        refine WX.region ?_
        refine WR.val gd_n rfl (A_mv (rd_t gh) rfl) ?_
        refine WR.val gd_n rfl (A_add rd_c (rd_t gh) w2) ?_
        refine WR.val gd_n rfl (A_slcA (a := 1) (b := 1 + Lib.nDigits u) (rd_t (g8 rfl (g2 rfl gh))) (opt_s rd_c) (opt_s (rd_t gh)) gh (by omega) (by omega) (by decide) (by decide)) ?_
        refine WR.val gd_n rfl (A_mv (rd_t (g8 rfl gh)) rfl) ?_
        refine WR.call gd_n (args_cons (rd_t (gth rfl gh)) (args_cons (rd_t gh) args_nil)) rfl c2 ?_
        refine WR.nil ?_
        refine thn_n ?_
        refine WX.seq ?_
        refine WX.seq ?_
        refine WX.region ?_
        refine WR.val gd_n rfl (A_mv (rd_t (g8 rfl (g8 rfl (g8 rfl gh)))) rfl) ?_
        refine WR.val gd_n rfl (A_ltI (rd_t gh) rd_c b3) ?_
        refine WR.nil ?_
        refine thn_n ?_
        refine WX.condF (rd_t gh) ?_
        refine WX.skip ?_
        refine thn_n ?_
        refine WX.seq ?_
        refine WX.region ?_
        refine WR.val gd_n rfl (A_mv (rd_t (g4 rfl (g2 rfl (gth rfl gh)))) rfl) ?_
        refine WR.val gd_n rfl (A_add rd_c (rd_t gh) w2) ?_
        refine WR.val gd_n rfl (A_slcA (a := 1) (b := 1 + Lib.nDigits u) (rd_t (g8 rfl (g8 rfl (gth rfl gh)))) (opt_s rd_c) (opt_s (rd_t gh)) gh (by omega) (by omega) (by decide) (Nat.le_of_eq hlen.symm)) ?_
        refine WR.val gd_n rfl (A_convBS (rd_t gh) gh hsl htk hmx) ?_
        refine WR.val gd_n rfl (A_mv (rd_t gh) rfl) ?_
        refine WR.nil ?_
        refine thn_n ?_
        refine WX.ret ?_
        refine thn_r ?_
        exact retQ_r (res_t gh res_nil) rfl ⟨by rw [Lib.itoa_nonneg]; rfl,(by (repeat refine Gr.set ?_ (by omega)); exact Gr.refl.up (by omega))⟩)
  obtain ⟨d',t',n',hx,rfl,g⟩ := key
  exact ⟨t',n',hx,g⟩

theorem cx_62 {t : Tr AObj} {n : Nat} (m : Int) (h0 : -9223372036854775808 ≤ m) (h1 : m ≤ 9223372036854775807) : ∃ t' n',CX Tryz.prog G 62 [.i .i64 m] (S.mk t n).h (.s (Lib.itoa m)) (S.mk t' n').h ∧ Gr t n t' n' := by
  obtain ⟨t1,n1,c1,g1⟩ := cx_112 (t := t) (n := n) m h0 h1
  have key := CX.ofWX (P := Tryz.prog) (Γ := G) (t := t) (n := n) (f := 62) (args := [.i .i64 m]) Tryz.func62 X62_eq (by kernel_rfl) (by kernel_rfl) (by rfl) (R := fun d' t' n' => d' = .s (Lib.itoa m) ∧ Gr t n t' n') (by
    show WX _ _ X62.body (Tr.e.set 0 (some (.i .i64 m))) _ _ _
    unfold X62
    refine WX.seq ?_
    refine WX.region ?_
    refine WR.val gd_n rfl (A_mv rd_c rfl) ?_
    refine WR.nil ?_
    refine thn_n ?_
    refine WX.seq ?_
    refine WX.region ?_
    refine WR.val gd_n rfl (A_mv (rd_t (gth rfl gh)) rfl) ?_
    refine WR.call gd_n (args_cons (rd_t gh) (args_cons rd_c args_nil)) rfl c1 ?_
    refine WR.val gd_n rfl (A_mv (rd_t gh) rfl) ?_
    refine WR.nil ?_
    refine thn_n ?_
    refine WX.ret ?_
    exact retQ_r (res_t gh res_nil) rfl ⟨rfl,g1⟩)
  obtain ⟨d',t',n',hx,rfl,g⟩ := key
  exact ⟨t',n',hx,g⟩

theorem qc_itoa (m : Int) (h0 : -9223372036854775808 ≤ m) (h1 : m ≤ 9223372036854775807) : QC 35 [.i .i64 m] (.s (Lib.itoa m)) := QC.of fun t n _ => by
  obtain ⟨t1,n1,c1,g1⟩ := cx_62 (t := t) (n := n) m h0 h1
  have key := CX.ofWX (P := Tryz.prog) (Γ := G) (t := t) (n := n) (f := 35) (args := [.i .i64 m]) Tryz.func35 X35_eq (by kernel_rfl) (by kernel_rfl) (by rfl) (R := fun d' t' n' => d' = .s (Lib.itoa m) ∧ Gr t n t' n') (by
    show WX _ _ X35.body (Tr.e.set 0 (some (.i .i64 m))) _ _ _
    unfold X35
    refine WX.seq ?_
    refine WX.region ?_
    refine WR.val gd_n rfl (A_mv rd_c rfl) ?_
    refine WR.nil ?_
    refine thn_n ?_
    refine WX.seq ?_
    refine WX.region ?_
    refine WR.val gd_n rfl (A_mv (rd_t (gth rfl gh)) rfl) ?_
    refine WR.call gd_n (args_cons (rd_t gh) args_nil) rfl c1 ?_
    refine WR.val gd_n rfl (A_mv (rd_t gh) rfl) ?_
    refine WR.nil ?_
    refine thn_n ?_
    refine WX.ret ?_
    exact retQ_r (res_t gh res_nil) rfl ⟨rfl,g1⟩)
  obtain ⟨d',t',n',hx,rfl,g⟩ := key
  exact ⟨t',n',hx,g⟩
end
end Go.Proofs.YtelnkadnphephaaGreatDoor.T
end
noncomputable section
namespace Go.Proofs.YtelnkadnphephaaGreatDoor.T
open Go Go.Abs
noncomputable section

def dig (v : Nat) : UInt8 := UInt8.ofNat (48 + v % 10)

theorem Gr.low {n0 n : Nat} {t0 t : Tr AObj} (g : Gr t0 n0 t n) : n0 ≤ n := g.1
theorem dec_small {v : Nat} (h : v < 10) : Lib.decDigits v = [dig v] := by rw [Lib.decDigits_one h,dig,Nat.mod_eq_of_lt h]
theorem dec_big {v : Nat} (h : ¬ v < 10) : Lib.decDigits v = Lib.decDigits (v / 10) ++ [dig v] := by rw [Lib.decDigits,dif_neg h,dig]

theorem dec_len {u : Nat} (hu : u < 18446744073709551616) : (Lib.decDigits u).length ≤ 20 := by
  rw [Lib.decDigits_length]
  by_cases h : 1 ≤ u
  · exact nd20 h hu
  · have : u = 0 := by omega
    subst this
    rw [Lib.nDigits_small (by decide)]; decide

theorem w_dig (v : Nat) : IntKind.u8.wrap ((48 + v % 10 : Nat) : Int) = ((dig v).toNat : Int) := by
  have h1 : (dig v).toNat = 48 + v % 10 := by
    unfold dig
    rw [UInt8.toNat_ofNat']
    omega
  rw [h1]
  exact wrapN (k := .u8) (m := 48 + v % 10) (by show 48 + v % 10 ≤ 255; omega)

attribute [local irreducible] aop evT tm guardX Tr.get Tr.set WR WD WP WX WL thn blk lop Gr dig

set_option maxHeartbeats 40000000 in
theorem loop65 {t0 : Tr AObj} {n0 : Nat} {tgt : List UInt8} (htg : tgt.length ≤ 20) : ∀ (v : Nat) (s : List UInt8) (T : Tr D) (t : Tr AObj) (n : Nat) (Q : QX),v < 9223372036854775808 → Gr t0 n0 t n → T.get 0 = some (.i .i64 (v : Nat)) → T.get 3 = some (.s s) →
    (v = 0 → s = tgt) → (v ≠ 0 → Lib.decDigits v ++ s = tgt) → (∀ T' t' n',Gr t0 n0 t' n' → T'.get 3 = some (.s tgt) → Q (.exit 0) T' t' n') → WL Tryz.prog G X65_L0 T t n Q := by
  intro v
  induction v using Nat.strongRecOn with
  | _ v ih =>
    intro s T t n Q hv hg h0 h3 hz hp hQ
    by_cases hv0 : v = 0
    · subst hv0
      have b7 : decide (((0 : Nat) : Int) > 0) = false := rfl
      obtain rfl := hz rfl
      refine WL.more ?_
      unfold X65_L0
      refine WX.seq ?_
      refine WX.seq ?_
      refine WX.region ?_
      refine WR.val gd_n rfl (A_mv (rd_t h0) rfl) ?_
      refine WR.val gd_n rfl (A_gtI (rd_t gh) rd_c b7) ?_
      refine WR.nil ?_
      refine thn_n ?_
      refine WX.condF (rd_t gh) ?_
      refine WX.exit ?_
      refine thn_x ?_
      exact lop_x (hQ _ _ _ hg (gth rfl (gth rfl h3)))
    · have b7 : decide ((v : Int) > 0) = true := decide_eq_true (by omega)
      have hcat := hp hv0
      have hsl : s.length ≤ 20 := by rw [← hcat,List.length_append] at htg; omega
      have r9 : (v : Int).tmod 10 = ((v % 10 : Nat) : Int) := by rw [Int.tmod_eq_emod_of_nonneg (by omega)]; rfl
      have r10 : IntKind.i64.wrap (48 + ((v % 10 : Nat) : Int)) = ((48 + v % 10 : Nat) : Int) := by
        have := wrapN (k := .i64) (m := 48 + v % 10) (by show 48 + v % 10 ≤ 9223372036854775807; omega)
        rw [← this]; rfl
      have r11 := w_dig v
      have r17 : IntKind.i64.wrap ((v : Int).tdiv 10) = ((v / 10 : Nat) : Int) := by
        rw [Int.tdiv_eq_ediv_of_nonneg (by omega)]
        exact wrapN (k := .i64) (m := v / 10) (by show v / 10 ≤ 9223372036854775807; omega)
      have hadd : [dig v].length + s.length ≤ maxN := by simp only [List.length_singleton]; unfold maxN; omega
      have hm1 : [dig v].length ≤ maxN := by rw [List.length_singleton]; unfold maxN; omega
      refine WL.more ?_
      unfold X65_L0
      refine WX.seq ?_
      refine WX.seq ?_
      refine WX.region ?_
      refine WR.val gd_n rfl (A_mv (rd_t h0) rfl) ?_
      refine WR.val gd_n rfl (A_gtI (rd_t gh) rd_c b7) ?_
      refine WR.nil ?_
      refine thn_n ?_
      refine WX.condT (rd_t gh) ?_
      refine WX.skip ?_
      refine thn_n ?_
      refine WX.block ?_
      refine WX.seq ?_
      refine WX.region ?_
      refine WR.val gd_n rfl (A_mv (rd_t (gth rfl (gth rfl h0))) rfl) ?_
      refine WR.val gd_n rfl (A_rem (rd_t gh) rd_c (by decide) r9) ?_
      refine WR.val gd_n rfl (A_add rd_c (rd_t gh) r10) ?_
      refine WR.val gd_n rfl (A_convI (rd_t gh) r11) ?_
      refine WR.new gd_n rfl (A_bs1 (rd_t gh) rfl rfl) ?_
      refine WR.val gd_n rfl (A_convBS (t := [dig v]) (rd_t gh) gh (Nat.le_refl 1) rfl hm1) ?_
      refine WR.val gd_n rfl (A_mv (rd_t (Go.Abs.g4 rfl (Go.Abs.g2 rfl (gth rfl (gth rfl h3))))) rfl) ?_
      refine WR.val gd_n rfl (A_addS (rd_t (gth rfl gh)) (rd_t gh) hadd rfl) ?_
      refine WR.val gd_n rfl (A_mv (rd_t gh) rfl) ?_
      refine WR.nil ?_
      refine thn_n ?_
      refine WX.region ?_
      refine WR.val gd_n rfl (A_mv (rd_t (Go.Abs.g8 rfl (Go.Abs.g2 rfl (gth rfl h0)))) rfl) ?_
      refine WR.val gd_n rfl (A_quo (rd_t gh) rd_c (by decide) r17) ?_
      refine WR.val gd_n rfl (A_mv (rd_t gh) rfl) ?_
      refine WR.nil ?_
      refine blk_n ?_
      refine lop_n (ih (v / 10) (by omega) ([dig v] ++ s) _ _ _ Q (by omega) ((hg.set (Gr.low hg)).up (Nat.le_succ _)) gh (Go.Abs.g2 rfl (gth rfl gh)) (fun hz' => ?_) (fun hp' => ?_) hQ)
      · rw [dec_small (by omega)] at hcat; exact hcat
      · rw [dec_big (by omega),List.append_assoc] at hcat; exact hcat

set_option maxHeartbeats 40000000 in
theorem qc_digits (u : Nat) (hu : u < 9223372036854775808) : QC 65 [.i .i64 (u : Nat)] (.s (Lib.decDigits u)) := QC.of fun t n _ => by
  have hlen := dec_len (u := u) (by omega)
  have key := CX.ofWX (P := Tryz.prog) (Γ := G) (t := t) (n := n) (f := 65) (args := [.i .i64 (u : Nat)]) Tryz.func65 X65_eq (by kernel_rfl) (by kernel_rfl) (by rfl) (R := fun d' t' n' => d' = .s (Lib.decDigits u) ∧ Gr t n t' n') (by
    show WX _ _ X65.body (Tr.e.set 0 (some (.i .i64 (u : Nat)))) _ _ _
    unfold X65
    by_cases h0 : u = 0
    · subst h0
      have b5 : (((0 : Nat) : Int) == 0) = true := rfl
      refine WX.seq ?_
      refine WX.region ?_
      refine WR.val gd_n rfl (A_mv rd_c rfl) ?_
      refine WR.nil ?_
      refine thn_n ?_
      refine WX.seq ?_
      refine WX.seq ?_
      refine WX.region ?_
      refine WR.val gd_n rfl (A_mv (rd_t (gth rfl gh)) rfl) ?_
      refine WR.val gd_n rfl (A_eqI (rd_t gh) rd_c b5) ?_
      refine WR.nil ?_
      refine thn_n ?_
      refine WX.condT (rd_t gh) ?_
      refine WX.seq ?_
      refine WX.region ?_
      refine WR.val gd_n rfl (A_mv rd_c rfl) ?_
      refine WR.nil ?_
      refine thn_n ?_
      refine WX.ret ?_
      refine thn_r ?_
      exact retQ_r (res_t gh res_nil) rfl ⟨by rw [Lib.decDigits_one (by decide)]; rfl,Gr.refl⟩
    · have b5 : ((u : Int) == 0) = false := by simp; omega
      refine WX.seq ?_
      refine WX.region ?_
      refine WR.val gd_n rfl (A_mv rd_c rfl) ?_
      refine WR.nil ?_
      refine thn_n ?_
      refine WX.seq ?_
      refine WX.seq ?_
      refine WX.region ?_
      refine WR.val gd_n rfl (A_mv (rd_t (gth rfl gh)) rfl) ?_
      refine WR.val gd_n rfl (A_eqI (rd_t gh) rd_c b5) ?_
      refine WR.nil ?_
      refine thn_n ?_
      refine WX.condF (rd_t gh) ?_
      refine WX.skip ?_
      refine thn_n ?_
      refine WX.seq ?_
      refine WX.region ?_
      refine WR.val gd_n rfl (A_mv rd_c rfl) ?_
      refine WR.nil ?_
      refine thn_n ?_
      refine WX.seq ?_
      refine WX.block ?_
      refine WX.loop ?_
      refine loop65 hlen u [] _ _ _ _ hu Gr.refl (Go.Abs.g4 rfl gh) gh (fun h => absurd h h0) (fun _ => List.append_nil _) fun T' t' n' g' h3 => ?_
      refine blk_x ?_
      refine thn_n ?_
      refine WX.seq ?_
      refine WX.region ?_
      refine WR.val gd_n rfl (A_mv (rd_t h3) rfl) ?_
      refine WR.val gd_n rfl (A_mv (rd_t gh) rfl) ?_
      refine WR.nil ?_
      refine thn_n ?_
      refine WX.ret ?_
      exact retQ_r (res_t gh res_nil) rfl ⟨rfl,g'⟩)
  obtain ⟨d',t',n',hx,rfl,g⟩ := key
  exact ⟨t',n',hx,g⟩

set_option maxHeartbeats 40000000 in
theorem qc_number (m : Int) (h0 : -9223372036854775808 ≤ m) (h1 : m ≤ 9223372036854775807) : QC 37 [.i .i64 m] (.s (Lib.itoa m)) := fun t n hf => by
  by_cases hm : 0 ≤ m
  · obtain ⟨u,rfl⟩ : ∃ u : Nat,m = u := ⟨m.toNat,by omega⟩
    have b5 : decide ((u : Int) ≥ 0) = true := decide_eq_true hm
    obtain ⟨n1,g1,c1⟩ := qc_digits u (by omega) t n hf
    have key := CX.ofWX (P := Tryz.prog) (Γ := G) (t := t) (n := n) (f := 37) (args := [.i .i64 (u : Nat)]) Tryz.func37 X37_eq (by kernel_rfl) (by kernel_rfl) (by rfl) (R := fun d' t' n' => d' = .s (Lib.itoa (u : Int)) ∧ t' = t ∧ n ≤ n') (by
      show WX _ _ X37.body (Tr.e.set 0 (some (.i .i64 (u : Nat)))) _ _ _
      unfold X37
      refine WX.seq ?_
      refine WX.region ?_
      refine WR.val gd_n rfl (A_mv rd_c rfl) ?_
      refine WR.nil ?_
      refine thn_n ?_
      refine WX.seq ?_
      refine WX.seq ?_
      refine WX.region ?_
      refine WR.val gd_n rfl (A_mv (rd_t (gth rfl gh)) rfl) ?_
      refine WR.val gd_n rfl (A_geI (rd_t gh) rd_c b5) ?_
      refine WR.nil ?_
      refine thn_n ?_
      refine WX.condT (rd_t gh) ?_
      refine WX.seq ?_
      refine WX.region ?_
      refine WR.val gd_n rfl (A_mv (rd_t (Go.Abs.g2 rfl (gth rfl gh))) rfl) ?_
      refine WR.call gd_n (args_cons (rd_t gh) args_nil) rfl c1 ?_
      refine WR.val gd_n rfl (A_mv (rd_t gh) rfl) ?_
      refine WR.nil ?_
      refine thn_n ?_
      refine WX.ret ?_
      refine thn_r ?_
      exact retQ_r (res_t gh res_nil) rfl ⟨by rw [Lib.itoa_nonneg]; rfl,rfl,g1⟩)
    obtain ⟨d',t',n',hx,rfl,rfl,g⟩ := key
    exact ⟨n',g,hx⟩
  · obtain ⟨u,rfl⟩ : ∃ u : Nat,m = -(u : Int) := ⟨m.natAbs,by omega⟩
    have hu1 : 1 ≤ u := by omega
    have b5 : decide (-(u : Int) ≥ 0) = false := decide_eq_false (by omega)
    have r9 : (-(u : Int)).tmod 10 = -((u % 10 : Nat) : Int) := by rw [Int.neg_tmod,Int.tmod_eq_emod_of_nonneg (by omega)]; rfl
    have r10 : IntKind.i64.wrap (0 - -((u % 10 : Nat) : Int)) = ((u % 10 : Nat) : Int) := by
      rw [show (0 : Int) - -((u % 10 : Nat) : Int) = ((u % 10 : Nat) : Int) by omega]
      exact wrapN (k := .i64) (m := u % 10) (by show u % 10 ≤ 9223372036854775807; omega)
    have q13 : (-(u : Int)).tdiv 10 = -((u / 10 : Nat) : Int) := by rw [Int.neg_tdiv,Int.tdiv_eq_ediv_of_nonneg (by omega)]; rfl
    have r13 : IntKind.i64.wrap ((-(u : Int)).tdiv 10) = -((u / 10 : Nat) : Int) := by
      rw [q13,IntKind.wrap_i64]; omega
    have r17 : IntKind.i64.wrap (0 - -((u / 10 : Nat) : Int)) = ((u / 10 : Nat) : Int) := by
      rw [show (0 : Int) - -((u / 10 : Nat) : Int) = ((u / 10 : Nat) : Int) by omega]
      exact wrapN (k := .i64) (m := u / 10) (by show u / 10 ≤ 9223372036854775807; omega)
    have hdl := dec_len (u := u) (by omega)
    have hl1 : (Lib.decDigits (u % 10)).length ≤ 20 := dec_len (by omega)
    have hl2 : (Lib.decDigits (u / 10)).length ≤ 20 := dec_len (by omega)
    have hadd1 : (Lib.decDigits (u / 10)).length + (Lib.decDigits (u % 10)).length ≤ maxN := by unfold maxN; omega
    have hone : Lib.decDigits (u % 10) = [dig u] := by rw [dec_small (by omega)]; unfold dig; rw [Nat.mod_mod]
    obtain ⟨n1,g1,c1⟩ := qc_digits (u % 10) (by omega) t n hf
    obtain ⟨n2,g2,c2⟩ := qc_digits (u / 10) (by omega) t n1 (hf.up g1)
    have key := CX.ofWX (P := Tryz.prog) (Γ := G) (t := t) (n := n) (f := 37) (args := [.i .i64 (-(u : Int))]) Tryz.func37 X37_eq (by kernel_rfl) (by kernel_rfl) (by rfl) (R := fun d' t' n' => d' = .s (Lib.itoa (-(u : Int))) ∧ t' = t ∧ n ≤ n') (by
      show WX _ _ X37.body (Tr.e.set 0 (some (.i .i64 (-(u : Int))))) _ _ _
      unfold X37
      by_cases hb : u < 10
      · have b14 : (-((u / 10 : Nat) : Int) != 0) = false := by rw [show u / 10 = 0 by omega]; rfl
        have hadd2 : [(45 : UInt8)].length + (Lib.decDigits (u % 10)).length ≤ maxN := by rw [List.length_singleton]; unfold maxN; omega
        refine WX.seq ?_
        refine WX.region ?_
        refine WR.val gd_n rfl (A_mv rd_c rfl) ?_
        refine WR.nil ?_
        refine thn_n ?_
        refine WX.seq ?_
        refine WX.seq ?_
        refine WX.region ?_
        refine WR.val gd_n rfl (A_mv (rd_t (gth rfl gh)) rfl) ?_
        refine WR.val gd_n rfl (A_geI (rd_t gh) rd_c b5) ?_
        refine WR.nil ?_
        refine thn_n ?_
        refine WX.condF (rd_t gh) ?_
        refine WX.skip ?_
        refine thn_n ?_
        refine WX.seq ?_
        refine WX.region ?_
        refine WR.val gd_n rfl (A_mv (rd_t (Go.Abs.g2 rfl (gth rfl gh))) rfl) ?_
        refine WR.val gd_n rfl (A_rem (rd_t gh) rd_c (by decide) r9) ?_
        refine WR.val gd_n rfl (A_neg (rd_t gh) r10) ?_
        refine WR.call gd_n (args_cons (rd_t gh) args_nil) rfl c1 ?_
        refine WR.val gd_n rfl (A_mv (rd_t gh) rfl) ?_
        refine WR.nil ?_
        refine thn_n ?_
        refine WX.seq ?_
        refine WX.seq ?_
        refine WX.region ?_
        refine WR.val gd_n rfl (A_mv (rd_t (Go.Abs.g8 rfl gh)) rfl) ?_
        refine WR.val gd_n rfl (A_quo (rd_t gh) rd_c (by decide) r13) ?_
        refine WR.val gd_n rfl (A_neI (rd_t gh) rd_c b14) ?_
        refine WR.nil ?_
        refine thn_n ?_
        refine WX.condF (rd_t gh) ?_
        refine WX.skip ?_
        refine thn_n ?_
        refine WX.seq ?_
        refine WX.region ?_
        refine WR.val gd_n rfl (A_mv (rd_t (Go.Abs.g2 rfl (gth rfl gh))) rfl) ?_
        refine WR.val gd_n rfl (A_addS rd_c (rd_t gh) hadd2 rfl) ?_
        refine WR.val gd_n rfl (A_mv (rd_t gh) rfl) ?_
        refine WR.nil ?_
        refine thn_n ?_
        refine WX.ret ?_
        exact retQ_r (res_t gh res_nil) rfl ⟨by rw [Lib.itoa_neg u hu1,dec_small hb,hone]; rfl,rfl,g1⟩
      · have b14 : (-((u / 10 : Nat) : Int) != 0) = true := by simp; omega
        have hadd2 : [(45 : UInt8)].length + (Lib.decDigits (u / 10) ++ Lib.decDigits (u % 10)).length ≤ maxN := by rw [List.length_singleton,List.length_append]; unfold maxN; omega
        refine WX.seq ?_
        refine WX.region ?_
        refine WR.val gd_n rfl (A_mv rd_c rfl) ?_
        refine WR.nil ?_
        refine thn_n ?_
        refine WX.seq ?_
        refine WX.seq ?_
        refine WX.region ?_
        refine WR.val gd_n rfl (A_mv (rd_t (gth rfl gh)) rfl) ?_
        refine WR.val gd_n rfl (A_geI (rd_t gh) rd_c b5) ?_
        refine WR.nil ?_
        refine thn_n ?_
        refine WX.condF (rd_t gh) ?_
        refine WX.skip ?_
        refine thn_n ?_
        refine WX.seq ?_
        refine WX.region ?_
        refine WR.val gd_n rfl (A_mv (rd_t (Go.Abs.g2 rfl (gth rfl gh))) rfl) ?_
        refine WR.val gd_n rfl (A_rem (rd_t gh) rd_c (by decide) r9) ?_
        refine WR.val gd_n rfl (A_neg (rd_t gh) r10) ?_
        refine WR.call gd_n (args_cons (rd_t gh) args_nil) rfl c1 ?_
        refine WR.val gd_n rfl (A_mv (rd_t gh) rfl) ?_
        refine WR.nil ?_
        refine thn_n ?_
        refine WX.seq ?_
        refine WX.seq ?_
        refine WX.region ?_
        refine WR.val gd_n rfl (A_mv (rd_t (Go.Abs.g8 rfl gh)) rfl) ?_
        refine WR.val gd_n rfl (A_quo (rd_t gh) rd_c (by decide) r13) ?_
        refine WR.val gd_n rfl (A_neI (rd_t gh) rd_c b14) ?_
        refine WR.nil ?_
        refine thn_n ?_
        refine WX.condT (rd_t gh) ?_
        refine WX.region ?_
        refine WR.val gd_n rfl (A_mv (rd_t (Go.Abs.g8 rfl (Go.Abs.g2 rfl (gth rfl gh)))) rfl) ?_
        refine WR.val gd_n rfl (A_quo (rd_t gh) rd_c (by decide) r13) ?_
        refine WR.val gd_n rfl (A_neg (rd_t gh) r17) ?_
        refine WR.call gd_n (args_cons (rd_t gh) args_nil) rfl c2 ?_
        refine WR.val gd_n rfl (A_mv (rd_t (Go.Abs.g4 rfl (Go.Abs.g2 rfl (gth rfl gh)))) rfl) ?_
        refine WR.val gd_n rfl (A_addS (rd_t (gth rfl gh)) (rd_t gh) hadd1 rfl) ?_
        refine WR.val gd_n rfl (A_mv (rd_t gh) rfl) ?_
        refine WR.nil ?_
        refine thn_n ?_
        refine WX.seq ?_
        refine WX.region ?_
        refine WR.val gd_n rfl (A_mv (rd_t gh) rfl) ?_
        refine WR.val gd_n rfl (A_addS rd_c (rd_t gh) hadd2 rfl) ?_
        refine WR.val gd_n rfl (A_mv (rd_t gh) rfl) ?_
        refine WR.nil ?_
        refine thn_n ?_
        refine WX.ret ?_
        exact retQ_r (res_t gh res_nil) rfl ⟨by rw [Lib.itoa_neg u hu1,dec_big hb,hone]; rfl,rfl,Nat.le_trans g1 g2⟩)
    obtain ⟨d',t',n',hx,rfl,rfl,g⟩ := key
    exact ⟨n',g,hx⟩
end
end Go.Proofs.YtelnkadnphephaaGreatDoor.T
end
