/- Abs43: The abstract machine, part 43: operations in order, for the kernel. No condition.
Abs46: The abstract machine, part 46: a range over a function, and its rounds. No condition.
Abs47: The abstract machine, part 47: the statement of a range over a function. No condition.
Abs44: The abstract machine, part 44: code and functions, for the kernel. No condition.
Abs45: The abstract machine, part 45: calls that are proved by hand. No condition.
Abs48: The abstract machine, part 48: big steps of compiled code, for proofs by hand. No condition.
Abs49: The abstract machine, part 49: what single operations come to, for proofs by hand. No condition.
Abs50: The abstract machine, part 50: big steps of compiled code towards what shall hold behind them. No condition.
XS: Functions of the program as the abstract machine has them, part 0: printed by a program of this claim's. No condition.
S1: Lists of effects, as they are handed to functions; the document's Text. No condition. -/
import Derived.Test.YtelnkadnphephaaGreatDoorQ02
import Derived.Test.YtelnkadnphephaaGreatDoorProg
set_option linter.unusedVariables false
set_option linter.unusedSimpArgs false
noncomputable section
namespace Go.Abs
open Go

/-- What a call of yield does. -/
def YX (P : Program) (Γ : Nat → D) (l : Nat) (args : List D) (h : AHeap) (d : D) (h' : AHeap) : Prop :=
  ∀ I μ w b (vals : List Value), HR Γ I μ h w → Rl I μ w args vals → μ l = some (b, 0) → ∃ f tmps assign body, (Instr.yield b vals.toArray).run P w = .ok (.round b f tmps assign body) w ∧
    RoundIn (Fl none) 0 P b f tmps assign body w fun e w' => ∃ v, e = .returned v ∧ ∃ μ', ExtN I μ h w μ' h' w' ∧ HR Γ I μ' h' w' ∧ R I μ' w' d v

theorem yield_wp {P : Program} {Γ : Nat → D} {I : Nat → Prop} {μ : Emb} {T : Nat → D} {h : AHeap} {N : Nat} {w : World} {a : Act} {ro : Option Nat} (S : St Γ I μ T h N w a) {o : Oper} {c : Call} (ho : o.op = .call c) {fo : Operand} (hc : c.callee = .value fo) {l : Nat} (hf : evT Γ T (xopd fo) = .yld l)
    (hargs : ((c.args.toList.map xopd).all fun y => (evT Γ T y).ok) = true) {h' : AHeap} {d : D} (hyx : YX P Γ l ((c.args.toList.map xopd).map (evT Γ T)) h d h') (hd : ∀ y, o.dst = some y → y < N) {K : Act → World → Prop} {Q : Exit → Act → World → Prop}
    (hK : ∀ a' w' μ', ExtN I μ h w μ' h' w' → St Γ I μ' (setT T o.dst d) h' N w' a' → a'.defers = a.defers → K a' w') : o.wpIn (Fl ro) 0 P a w K Q := by
  have rf := S.ev fo (by rw [hf]; rfl)
  rw [hf] at rf
  obtain ⟨b, hv, hm⟩ : ∃ b, a.eval fo = .func (.yield b) #[] #[] ∧ μ l = some (b, 0) := by
    generalize a.eval fo = v at rf
    cases rf with
    | yld _ b hm => exact ⟨b, rfl, hm⟩
  have ra := S.ev.list c.args.toList hargs
  have harr : (c.args.toList.map a.eval).toArray = c.args.map a.eval := by
    apply Array.toList_inj.1; simp
  have hex : (execOp a.eval o).run P w = (Instr.yield b (c.args.map a.eval)).run P w := by
    obtain ⟨dst, op, ty, pos, aft, gu⟩ := o
    simp only at ho
    subst ho
    simp [execOp, resolve, hc, hv, Deferred.ofValue, invoke]
  obtain ⟨f, tmps, assign, body, h1, h2⟩ := hyx I μ w b _ S.hr ra hm
  rw [harr] at h1
  refine ⟨fun _ _ => trivial, ?_⟩
  rw [Oper.semAt_eq _ _ _ (fun c' hc' => by rw [ho] at hc'; cases hc'), hex, h1]
  refine ⟨fun hd => (by cases hd), ?_⟩
  refine RoundIn.mono (F := Fl ro) h2 fun e w' he => ?_
  obtain ⟨v, rfl, μ', E, H', r⟩ := he
  exact hK _ _ μ' E (S.put E.1 H' hd r) (put_defers' _ _ _)

theorem RX.yield {P : Program} {ro : Option Nat} {Γ : Nat → D} {T : Nat → D} {h : AHeap} {N : Nat} {ops : Array Oper} {l : List Nat} {i : Nat} {o : Oper} (ho : ops[i]? = some o) (hN : N ≤ 100000) (hg : guardX T (xoper P ops o).guard = some true) (hgl : ∀ j x, (xoper P ops o).guard = some (j, x) → j < N)
    (hd : ∀ y, o.dst = some y → y < N) {c : Call} (hop : o.op = .call c) {fo : Operand} (hc : c.callee = .value fo) {ll : Nat} (hf : evT Γ T (xopd fo) = .yld ll)
    (hargs : ((c.args.toList.map xopd).all fun y => (evT Γ T y).ok) = true) {h1 : AHeap} {d : D} (hyx : YX P Γ ll ((c.args.toList.map xopd).map (evT Γ T)) h d h1) {T2 : Nat → D} {h2 : AHeap}
    (hr : RX P Γ ro N ops l (setT T o.dst d) h1 T2 h2) : RX P Γ ro N ops (i :: l) T h T2 h2 := by
  intro I μ w a S
  rw [wpOpsIn_cons]
  unfold wpOpIn
  simp only [ho, guard_sound S hN ops o hg hgl, if_true]
  exact (yield_wp S hop hc hf hargs hyx hd fun a' w' μ' E S' hdf => hr.of E S' hdf)

theorem xop_defer {P : Program} {o : Oper} {f : Opd} {args : List Opd} (h : xop P o = some (.defer f args)) : ∃ c fo, o.op = .defer c ∧ c.callee = .value fo ∧ f = xopd fo ∧ args = c.args.toList.map xopd := by
  obtain ⟨dst, op, ty, pos, aft, gu⟩ := o
  cases op
  case defer c =>
    obtain ⟨cal, aa, ats⟩ := c
    cases cal with
    | value fo =>
      simp only [xop, Option.pure_def, Option.some.injEq, XOp.defer.injEq] at h
      exact ⟨_, fo, rfl, rfl, h.1.symm, h.2.symm⟩
    | invoke y n => simp [xop] at h
    | builtin b => simp [xop] at h
  case call c =>
    exfalso
    obtain ⟨cal, aa, ats⟩ := c
    cases cal with
    | value fo => simp [xop] at h
    | invoke y n => simp [xop] at h
    | builtin b =>
      cases b <;> simp only [xop, Option.bind_eq_bind] at h
      all_goals first
        | (simp at h; done)
        | (repeat (first | contradiction | (simp at h; done) | (obtain ⟨_, h0, _⟩ := h; cases h0; done) | (obtain ⟨_, _, h⟩ := h) | (simp only [Option.bind_eq_some_iff] at h; obtain ⟨_, _, h⟩ := h) | split at h))
  all_goals (exfalso; simp only [xop, Option.bind_eq_bind] at h)
  all_goals first
    | (simp at h; done)
    | (repeat (first | contradiction | (simp at h; done) | (obtain ⟨_, h0, _⟩ := h; cases h0; done) | (obtain ⟨_, _, h⟩ := h) | (simp only [Option.bind_eq_some_iff] at h; obtain ⟨_, _, h⟩ := h) | split at h))

/-- What one operation comes to. -/
def OpR (P : Program) (Γ : Nat → D) (tp : Bool) (T : Tr D) (s : S) (op : XOp) (d : D) (s' : S) : Prop :=
  (callOf op = none ∧ (aop s.t.get s.n (evT Γ (tm T)) op).onQ s.t s.n = some (d, s')) ∨
  (∃ fo args f first caps, op = .call fo args ∧ evT Γ (tm T) fo = .fn (.func f) first caps ∧ (args.all fun y => (evT Γ (tm T) y).ok) = true ∧ CX P Γ f (first ++ args.map (evT Γ (tm T)) ++ caps) s.h d s'.h) ∨
  (∃ fo args l, op = .call fo args ∧ evT Γ (tm T) fo = .yld l ∧ (args.all fun y => (evT Γ (tm T) y).ok) = true ∧ YX P Γ l (args.map (evT Γ (tm T))) s.h d s'.h) ∨
  (tp = true ∧ ∃ fo f c0 c1 c2, op = .defer fo [] ∧ evT Γ (tm T) fo = .fn (.func f) [] [c0, c1, c2] ∧ bodied P f = true ∧ QuietD P f ∧ d = .tup [] ∧ s' = s)

def StepR (P : Program) (Γ : Nat → D) (tp : Bool) (x : XOper) (T : Tr D) (s : S) (T' : Tr D) (s' : S) : Prop :=
  (guardX (tm T) x.guard = some false ∧ T' = putT T x.dst (.tup []) ∧ s' = s) ∨ (guardX (tm T) x.guard = some true ∧ ∃ d, T' = putT T x.dst d ∧ OpR P Γ tp T s x.op d s')

inductive RunR (P : Program) (Γ : Nat → D) (tp : Bool) : List XOper → Tr D → S → Tr D → S → Prop
  | nil (T : Tr D) (s : S) : RunR P Γ tp [] T s T s
  | cons {x : XOper} {xs : List XOper} {T T1 T2 : Tr D} {s s1 s2 : S} : StepR P Γ tp x T s T1 s1 → RunR P Γ tp xs T1 s1 T2 s2 → RunR P Γ tp (x :: xs) T s T2 s2

section
variable {P : Program} {Γ : Nat → D} {N : Nat} {ro : Option Nat}

theorem RX.runR {tp : Bool} (htp : tp = true → ro = none) (hN : N ≤ 100000) {ops : Array Oper} : ∀ (l : List Nat) (xs : List XOper) (T : Tr D) (s : S) (T' : Tr D) (s' : S), l.map (fun i => (ops[i]?).map (xoper P ops)) = xs.map some → (xs.all (wfOp N)) = true →
    RunR P Γ tp xs T s T' s' → RX P Γ ro N ops l (tm T) s.h (tm T') s'.h
  | [], xs, T, s, T', s', hm, _, hr => by
    have : xs = [] := by simpa using hm.symm
    subst this
    cases hr
    exact RX.nil
  | i :: l, [], T, s, T', s', hm, _, _ => by simp at hm
  | i :: l, x :: xs, T, s, T', s', hm, hw, hr => by
    simp only [List.map_cons, List.cons.injEq] at hm
    obtain ⟨hi, hm⟩ := hm
    obtain ⟨o, ho, hox⟩ := Option.map_eq_some_iff.1 hi
    subst hox
    simp only [List.all_cons, Bool.and_eq_true] at hw
    obtain ⟨hd, hgl⟩ := wfOp_spec hw.1
    have hd' : ∀ y, o.dst = some y → y < N := fun y hy => hd y hy
    have hdst : (xoper P ops o).dst = o.dst := rfl
    cases hr with
    | @cons _ _ _ T1 _ _ s1 _ hs hr =>
      have ih := RX.runR htp hN l xs _ _ _ _ hm hw.2 hr
      rcases hs with ⟨hg, rfl, rfl⟩ | ⟨hg, d, rfl, hop⟩
      · rw [tm_put, hdst] at ih
        exact RX.skip ho hN hg hgl hd' ih
      · rw [tm_put, hdst] at ih
        have hopx : (xoper P ops o).op = (xop P o).getD .bad := rfl
        rw [hopx] at hop
        cases hx : xop P o with
        | none =>
          rw [hx] at hop
          rcases hop with ⟨_, h⟩ | ⟨_, _, _, _, _, h, _⟩ | ⟨_, _, _, h, _⟩ | ⟨_, _, _, _, _, _, h, _⟩
          · simp [aop, AR.onQ] at h
          · cases h
          · cases h
          · cases h
        | some x =>
          rw [hx] at hop
          simp only [Option.getD_some] at hop
          rcases hop with ⟨hc, h⟩ | ⟨fo, args, f, first, caps, rfl, h1, h2, h3⟩ | ⟨fo, args, l', rfl, h1, h2, h3⟩ | ⟨htt, fo, f, c0, c1, c2, rfl, h1, h2, h3, rfl, rfl⟩
          · rw [onQ_eq] at h
            obtain ⟨h1, h2, h3, h4⟩ := onS_spec h s.h rfl
            have e2 : (aop s.h.get s.h.next (evT Γ (tm T)) x).d = d := h2
            cases hq : (aop s.h.get s.h.next (evT Γ (tm T)) x).quiet with
            | true =>
              have e : (aop s.h.get s.h.next (evT Γ (tm T)) x).heap s.h s.h.next s.h.next = s1.h := by
                rw [h3]
                unfold AR.nx
                rw [if_pos (show (aop s.t.get s.n (evT Γ (tm T)) x).quiet = true from hq)]; rfl
              exact RX.opq ho hx hN hg hgl hd' h1 hq (by rw [e, e2]; exact ih)
            | false =>
              have e : (aop s.h.get s.h.next (evT Γ (tm T)) x).heap s.h s.h.next (s.h.next + 1) = s1.h := by
                rw [h3]
                unfold AR.nx
                rw [if_neg (by rw [show (aop s.t.get s.n (evT Γ (tm T)) x).quiet = false from hq]; simp)]; rfl
              exact RX.op ho hx hN hg hgl hd' h1 (by rw [e, e2]; exact ih)
          · obtain ⟨cc, fo', hoc, hcal, rfl, rfl⟩ := xop_call hx
            exact RX.call ho hN hg hgl hd' hoc hcal h1 h2 h3 ih
          · obtain ⟨cc, fo', hoc, hcal, rfl, rfl⟩ := xop_call hx
            exact RX.yield ho hN hg hgl hd' hoc hcal h1 h2 h3 ih
          · obtain ⟨cc, fo', hoc, hcal, rfl, hca⟩ := xop_defer hx
            have := htp htt
            subst this
            exact RX.defer ho hN hg hgl hd' hoc hcal (by simpa using hca.symm) h1 h2 h3 ih

theorem EX.runR {tp : Bool} (htp : tp = true → ro = none) (hN : N ≤ 100000) {id : Nat} {ops : Array Oper} {xs : List XOper} (hxs : xs = ops.toList.map (xoper P ops)) (hw : (xs.all (wfOp N)) = true) {T T' : Tr D} {s s' : S} (hr : RunR P Γ tp xs T s T' s') :
    EX P Γ ro N (.region id ops false) (tm T) s.h .norm (tm T') s'.h := by
  refine EX.region (RX.runR htp hN _ xs T s T' s' ?_ hw hr)
  rw [hxs, List.map_map]
  apply List.ext_getElem?
  intro i
  simp only [List.getElem?_map, List.getElem?_range]
  by_cases hi : i < ops.size
  · simp [hi]
  · simp [hi]
end

noncomputable section

abbrev RR := Tr D → (D → Ans) → Ans
abbrev QQ := Tr D → Tr AObj → Nat → (Tr D → Tr AObj → Nat → Ans) → Ans
abbrev OPc := QQ → QQ
abbrev YldK := Nat → List D → Tr AObj → Nat → (D → Tr AObj → Nat → Ans) → Ans
abbrev CallK := FuncId → List D → Tr AObj → Nat → (D → Tr AObj → Nat → Ans) → Ans

def rt (n : Nat) : RR := fun T c => T.getC n c
def rc (d : D) : RR := fun _ c => c d
def rd (Γ : Nat → D) (y : Opd) : RR :=
  match y with
  | .t n => rt n
  | .c d => rc d
  | .g n => rc (Γ n)
  | .f n => rc (.fn (.func n) [] [])

theorem rd_some {Γ : Nat → D} {y : Opd} {T : Tr D} {c : D → Ans} {r : D × S} (h : rd Γ y T c = some r) : c (evT Γ (tm T) y) = some r := by
  cases y with
  | t n =>
    obtain ⟨a, h1, h2⟩ := Tr.getC_some (c := c) h
    have : tm T n = a := by simp only [tm, h1, Option.getD_some]
    show c (tm T n) = _
    rw [this]; exact h2
  | _ => exact h

/-- Operands one behind another, each of which is something. -/
def rdL (rs : List RR) (T : Tr D) : (List D → Ans) → Ans := List.rec (motive := fun _ => (List D → Ans) → Ans) (fun c => c []) (fun r _ ih c => r T fun d => d.okC (ih fun l => c (d :: l))) rs

theorem rdL_some {Γ : Nat → D} {T : Tr D} {r : D × S} : ∀ {ys : List Opd} {c : List D → Ans}, rdL (ys.map (rd Γ)) T c = some r → (ys.all fun y => (evT Γ (tm T) y).ok) = true ∧ c (ys.map (evT Γ (tm T))) = some r
  | [], c, h => ⟨rfl, h⟩
  | y :: ys, c, h => by
    have h1 := rd_some (y := y) (c := fun d => d.okC (rdL (ys.map (rd Γ)) T fun l => c (d :: l))) h
    obtain ⟨h2, h3⟩ := D.okC_some h1
    obtain ⟨h4, h5⟩ := rdL_some (ys := ys) h3
    exact ⟨by simp [h2, h4], h5⟩

def SoundOp (P : Program) (Γ : Nat → D) (tp : Bool) (op : XOp) (dst : Option Nat) (o : OPc) : Prop :=
  ∀ (rest : QQ) (T : Tr D) (t : Tr AObj) (n : Nat) (k : Tr D → Tr AObj → Nat → Ans) (r : D × S), o rest T t n k = some r → ∃ d s', OpR P Γ tp T ⟨t, n⟩ op d s' ∧ rest (putT T dst d) s'.t s'.n k = some r

variable {P : Program} {Γ : Nat → D} {tp : Bool}

theorem OpR.val {T : Tr D} {t : Tr AObj} {n : Nat} {op : XOp} {d : D} (h1 : callOf op = none) (h : aop t.get n (evT Γ (tm T)) op = .val d) : OpR P Γ tp T ⟨t, n⟩ op d ⟨t, n⟩ := .inl ⟨h1, by rw [h]; rfl⟩
theorem OpR.upd {T : Tr D} {t : Tr AObj} {n : Nat} {op : XOp} {l : Nat} {o : AObj} {d : D} (h1 : callOf op = none) (h : aop t.get n (evT Γ (tm T)) op = .upd l o d) : OpR P Γ tp T ⟨t, n⟩ op d ⟨t.set l (some o), n⟩ := .inl ⟨h1, by rw [h]; rfl⟩
theorem OpR.new {T : Tr D} {t : Tr AObj} {n : Nat} {op : XOp} {o : AObj} {d : D} (h1 : callOf op = none) (h : aop t.get n (evT Γ (tm T)) op = .new o d) : OpR P Γ tp T ⟨t, n⟩ op d ⟨t.set n (some o), n + 1⟩ := .inl ⟨h1, by rw [h]; rfl⟩

/-! ### Moves -/

def qMv (dst : Option Nat) (r : RR) : OPc := fun rest T t n k => r T fun d => d.okC (pd dst d T fun T => rest T t n k)

theorem qMv_sound {dst : Option Nat} {x : Opd} : SoundOp P Γ tp (.mv x) dst (qMv dst (rd Γ x)) := by
  intro rest T t n k r h
  unfold qMv at h
  have h0 := rd_some h
  obtain ⟨h1, h2⟩ := D.okC_some h0
  rw [pd_eq] at h2
  exact ⟨_, ⟨t, n⟩, .val rfl (by simp only [aop, h1, if_true]), h2⟩

def qPick (dst : Option Nat) (rc ra rb : RR) : OPc := fun rest T t n k => rc T fun c => c.onB fun b => Bool.rec (motive := fun _ => Ans) (rb T fun d => d.okC (pd dst d T fun T => rest T t n k)) (ra T fun d => d.okC (pd dst d T fun T => rest T t n k)) b

theorem qPick_sound {dst : Option Nat} {c a b : Opd} : SoundOp P Γ tp (.pick c a b) dst (qPick dst (rd Γ c) (rd Γ a) (rd Γ b)) := by
  intro rest T t n k r h
  unfold qPick at h
  have h0 := rd_some h
  obtain ⟨x, h1, h2⟩ := D.onB_some h0
  cases x with
  | true =>
    have h2' : rd Γ a T (fun d => d.okC (pd dst d T fun T => rest T t n k)) = some r := h2
    have h3 := rd_some h2'
    obtain ⟨h3, h4⟩ := D.okC_some h3
    rw [pd_eq] at h4
    exact ⟨_, ⟨t, n⟩, .val rfl (by simp only [aop, h1, h3, if_true]), h4⟩
  | false =>
    have h2' : rd Γ b T (fun d => d.okC (pd dst d T fun T => rest T t n k)) = some r := h2
    have h3 := rd_some h2'
    obtain ⟨h3, h4⟩ := D.okC_some h3
    rw [pd_eq] at h4
    exact ⟨_, ⟨t, n⟩, .val rfl (by simp only [aop, h1, h3, if_true]), h4⟩

/-! ### Two operands -/

def iEq (x y : Int) : Bool := Int.rec (motive := fun _ => Bool) (fun m => Int.rec (motive := fun _ => Bool) (fun m' => Nat.beq m m') (fun _ => false) y) (fun m => Int.rec (motive := fun _ => Bool) (fun _ => false) (fun m' => Nat.beq m m') y) x
theorem iEq_eq (x y : Int) : iEq x y = (x == y) := by
  cases x <;> cases y <;> simp only [iEq] <;> rw [Bool.eq_iff_iff] <;> simp [Nat.beq_eq]
  omega
def iLt (x y : Int) : Bool := Int.rec (motive := fun _ => Bool) (fun m => Int.rec (motive := fun _ => Bool) (fun m' => Nat.ble (m + 1) m') (fun _ => false) y) (fun m => Int.rec (motive := fun _ => Bool) (fun _ => true) (fun m' => Nat.ble (m' + 1) m) y) x
theorem iLt_eq (x y : Int) : iLt x y = decide (x < y) := by
  cases x <;> cases y <;> simp only [iLt] <;> rw [Bool.eq_iff_iff] <;> simp only [Nat.ble_eq, decide_eq_true_eq, Bool.false_eq_true, false_iff, true_iff, Int.ofNat_eq_natCast] <;> omega

abbrev BI := IntKind → IntKind → Int → Int → (D → Ans) → Ans
abbrev BS := List UInt8 → List UInt8 → (D → Ans) → Ans

def kC (k k' : IntKind) (a : Ans) : Ans := Bool.rec (motive := fun _ => Ans) none a (Nat.beq (kIx k) (kIx k'))
theorem kC_some {k k' : IntKind} {a : Ans} {r : D × S} (h : kC k k' a = some r) : k = k' ∧ a = some r := by
  unfold kC at h
  cases hb : Nat.beq (kIx k) (kIx k') with
  | true => rw [hb] at h; exact ⟨kIx_inj hb, h⟩
  | false => rw [hb] at h; cases h

def biGen (op : BinOp) : BI := fun k k' x y c => Option.rec (motive := fun _ => Ans) none (fun d => fD d c) (binD op (.i k x) (.i k' y))
def biAdd : BI := fun k k' x y c => kC k k' (wrapC k (x + y) fun z => c (.i k z))
def biSub : BI := fun k k' x y c => kC k k' (wrapC k (x - y) fun z => c (.i k z))
def biEql : BI := fun k k' x y c => kC k k' (fB (iEq x y) fun b => c (.b b))
def biNeq : BI := fun k k' x y c => kC k k' (Bool.rec (motive := fun _ => Ans) (c (.b true)) (c (.b false)) (iEq x y))
def biLss : BI := fun k k' x y c => kC k k' (fB (iLt x y) fun b => c (.b b))
def biGtr : BI := fun k k' x y c => kC k k' (fB (iLt y x) fun b => c (.b b))
def biLeq : BI := fun k k' x y c => kC k k' (Bool.rec (motive := fun _ => Ans) (c (.b true)) (c (.b false)) (iLt y x))
def biGeq : BI := fun k k' x y c => kC k k' (Bool.rec (motive := fun _ => Ans) (c (.b true)) (c (.b false)) (iLt x y))

def biOf (op : BinOp) : BI :=
  match op with
  | .add => biAdd | .sub => biSub | .eql => biEql | .neq => biNeq | .lss => biLss | .gtr => biGtr | .leq => biLeq | .geq => biGeq
  | op => biGen op

def bsOf (op : BinOp) : BS := fun x y c => Option.rec (motive := fun _ => Ans) none (fun d => fD d c) (astr op x y)

theorem biGen_some {op : BinOp} {k k' : IntKind} {x y : Int} {c : D → Ans} {r : D × S} (h : biGen op k k' x y c = some r) : ∃ d, binD op (.i k x) (.i k' y) = some d ∧ c d = some r := by
  unfold biGen at h
  cases hb : binD op (.i k x) (.i k' y) with
  | none => rw [hb] at h; cases h
  | some d =>
    rw [hb] at h
    exact ⟨d, rfl, by rw [← fD_eq d c]; exact h⟩

theorem biOf_some {op : BinOp} {k k' : IntKind} {x y : Int} {c : D → Ans} {r : D × S} (h : biOf op k k' x y c = some r) : ∃ d, binD op (.i k x) (.i k' y) = some d ∧ c d = some r := by
  cases op <;> simp only [biOf] at h
  case add =>
    obtain ⟨hk, hh⟩ := kC_some (by simpa only [biAdd, biSub, biEql, biNeq, biLss, biGtr, biLeq, biGeq] using h)
    subst hk
    clear h
    have h := hh
    clear hh
    rw [wrapC_eq] at h
    exact ⟨_, by simp only [binD, if_true, abin], h⟩
  case sub =>
    obtain ⟨hk, hh⟩ := kC_some (by simpa only [biAdd, biSub, biEql, biNeq, biLss, biGtr, biLeq, biGeq] using h)
    subst hk
    clear h
    have h := hh
    clear hh
    rw [wrapC_eq] at h
    exact ⟨_, by simp only [binD, if_true, abin], h⟩
  case eql =>
    obtain ⟨hk, hh⟩ := kC_some (by simpa only [biAdd, biSub, biEql, biNeq, biLss, biGtr, biLeq, biGeq] using h)
    subst hk
    clear h
    have h := hh
    clear hh
    rw [fB_eq, iEq_eq] at h
    exact ⟨_, by simp only [binD, if_true, abin], h⟩
  case neq =>
    obtain ⟨hk, hh⟩ := kC_some (by simpa only [biAdd, biSub, biEql, biNeq, biLss, biGtr, biLeq, biGeq] using h)
    subst hk
    clear h
    have h := hh
    clear hh
    refine ⟨.b (x != y), by simp only [binD, if_true, abin], ?_⟩
    rw [iEq_eq] at h
    unfold bne
    revert h
    cases x == y <;> exact fun h => h
  case lss =>
    obtain ⟨hk, hh⟩ := kC_some (by simpa only [biAdd, biSub, biEql, biNeq, biLss, biGtr, biLeq, biGeq] using h)
    subst hk
    clear h
    have h := hh
    clear hh
    rw [fB_eq, iLt_eq] at h
    exact ⟨_, by simp only [binD, if_true, abin], h⟩
  case gtr =>
    obtain ⟨hk, hh⟩ := kC_some (by simpa only [biAdd, biSub, biEql, biNeq, biLss, biGtr, biLeq, biGeq] using h)
    subst hk
    clear h
    have h := hh
    clear hh
    rw [fB_eq, iLt_eq] at h
    exact ⟨_, by simp only [binD, if_true, abin], h⟩
  case leq =>
    obtain ⟨hk, hh⟩ := kC_some (by simpa only [biAdd, biSub, biEql, biNeq, biLss, biGtr, biLeq, biGeq] using h)
    subst hk
    clear h
    have h := hh
    clear hh
    refine ⟨.b (decide (x ≤ y)), by simp only [binD, if_true, abin], ?_⟩
    have e : decide (x ≤ y) = !iLt y x := by rw [iLt_eq, Bool.eq_iff_iff]; simp
    rw [e]
    revert h
    cases iLt y x <;> exact fun h => h
  case geq =>
    obtain ⟨hk, hh⟩ := kC_some (by simpa only [biAdd, biSub, biEql, biNeq, biLss, biGtr, biLeq, biGeq] using h)
    subst hk
    clear h
    have h := hh
    clear hh
    refine ⟨.b (decide (x ≥ y)), by simp only [binD, if_true, abin], ?_⟩
    have e : decide (x ≥ y) = !iLt x y := by rw [iLt_eq, Bool.eq_iff_iff]; simp
    rw [e]
    revert h
    cases iLt x y <;> exact fun h => h
  all_goals exact biGen_some h

def qBin (dst : Option Nat) (bi : BI) (bs : BS) (r1 r2 : RR) : OPc := fun rest T t n k => r1 T fun a => r2 T fun b =>
  a.onIS (fun kd x => b.onI fun kd' y => bi kd kd' x y fun d => pd dst d T fun T => rest T t n k) (fun x => b.onS fun y => bs x y fun d => pd dst d T fun T => rest T t n k)

theorem qBin_sound {dst : Option Nat} {op : BinOp} {x y : Opd} : SoundOp P Γ tp (.bin op x y) dst (qBin dst (biOf op) (bsOf op) (rd Γ x) (rd Γ y)) := by
  intro rest T t n k r h
  unfold qBin at h
  have h0 := rd_some h
  have h1 := rd_some h0
  rcases D.onIS_some h1 with ⟨kd, a, e1, h2⟩ | ⟨a, e1, h2⟩
  · obtain ⟨kd', b, e2, h3⟩ := D.onI_some h2
    obtain ⟨d, h4, h5⟩ := biOf_some h3
    rw [pd_eq] at h5
    exact ⟨d, ⟨t, n⟩, .val rfl (by simp only [aop, e1, e2, h4, ofO]), h5⟩
  · obtain ⟨b, e2, h3⟩ := D.onS_some h2
    unfold bsOf at h3
    cases hb : astr op a b with
    | none => rw [hb] at h3; cases h3
    | some d =>
      rw [hb] at h3
      have h4 : fD d (fun d => pd dst d T fun T => rest T t n k) = some r := h3
      rw [fD_eq, pd_eq] at h4
      exact ⟨d, ⟨t, n⟩, .val rfl (by simp only [aop, e1, e2, binD, hb, ofO]), h4⟩

/-! ### Memory -/

def qLd1 (dst : Option Nat) (r : RR) : OPc := fun rest T t n k => r T fun a =>
  a.onP (fun l off => t.getC l fun o => o.onC fun cs _ => nthC cs off fun d => pd dst d T fun T => rest T t n k) (fun cs => nthC cs 0 fun d => pd dst d T fun T => rest T t n k)

theorem qLd1_sound {dst : Option Nat} {x : Opd} : SoundOp P Γ tp (.ld false 1 x) dst (qLd1 dst (rd Γ x)) := by
  intro rest T t n k r h
  unfold qLd1 at h
  have h0 := rd_some h
  rcases D.onP_some h0 with ⟨l, off, e, h1⟩ | ⟨cs, e, h1⟩
  · obtain ⟨o, h2, h3⟩ := Tr.getC_some h1
    obtain ⟨cs, odd, rfl, h4⟩ := AObj.onC_some h3
    obtain ⟨d, h5, h6⟩ := nthC_some h4
    rw [pd_eq] at h6
    refine ⟨d, ⟨t, n⟩, .val rfl ?_, h6⟩
    have hlt := (List.getElem?_eq_some_iff.1 h5).1
    simp only [aop, e, ldCells, h2, if_pos (show off + 1 ≤ cs.length from hlt), Bool.false_eq_true, if_false]
    rw [List.getElem?_take_of_lt (by omega), List.getElem?_drop, Nat.add_zero, h5]; rfl
  · obtain ⟨d, h5, h6⟩ := nthC_some h1
    rw [pd_eq] at h6
    refine ⟨d, ⟨t, n⟩, .val rfl ?_, h6⟩
    have hlt := (List.getElem?_eq_some_iff.1 h5).1
    simp only [aop, e, ldCells, if_pos (show 1 ≤ cs.length from hlt), Bool.false_eq_true, if_false]
    rw [List.getElem?_take_of_lt (by omega), h5]; rfl

def qLdA (dst : Option Nat) (m : Nat) (r : RR) : OPc := fun rest T t n k => r T fun a =>
  a.onP (fun l off => t.getC l fun o => o.onC fun cs _ => dropC off cs fun cs => takeC m cs fun cs => pd dst (.agg cs) T fun T => rest T t n k) (fun cs => takeC m cs fun cs => pd dst (.agg cs) T fun T => rest T t n k)

theorem qLdA_sound {dst : Option Nat} {m : Nat} {x : Opd} : SoundOp P Γ tp (.ld true m x) dst (qLdA dst m (rd Γ x)) := by
  intro rest T t n k r h
  unfold qLdA at h
  have h0 := rd_some h
  rcases D.onP_some h0 with ⟨l, off, e, h1⟩ | ⟨cs, e, h1⟩
  · obtain ⟨o, h2, h3⟩ := Tr.getC_some h1
    obtain ⟨cs, odd, rfl, h4⟩ := AObj.onC_some h3
    obtain ⟨h5, h6⟩ := dropC_some h4
    obtain ⟨h7, h8⟩ := takeC_some h6
    rw [pd_eq] at h8
    refine ⟨_, ⟨t, n⟩, .val rfl ?_, h8⟩
    rw [List.length_drop] at h7
    simp only [aop, e, ldCells, h2, if_pos (show off + m ≤ cs.length by omega), if_true]
  · obtain ⟨h7, h8⟩ := takeC_some h1
    rw [pd_eq] at h8
    refine ⟨_, ⟨t, n⟩, .val rfl ?_, h8⟩
    simp only [aop, e, ldCells, if_pos h7, if_true]

def qSt (dst : Option Nat) (m : Nat) (r1 r2 : RR) : OPc := fun rest T t n k => r1 T fun a => r2 T fun v =>
  a.onP (fun l off => t.getC l fun o => o.onC fun cs odd => v.onC fun ds => Bool.rec (motive := fun _ => Ans) none (splC ds off cs fun cs => t.putC l (some (.cells cs odd)) fun t => pd dst (.tup []) T fun T => rest T t n k) (Nat.beq ds.length m)) (fun _ => none)

theorem qSt_sound {dst : Option Nat} {m : Nat} {x y : Opd} : SoundOp P Γ tp (.st m x y) dst (qSt dst m (rd Γ x) (rd Γ y)) := by
  intro rest T t n k r h
  unfold qSt at h
  have h00 := rd_some h
  have h0 := rd_some h00
  rcases D.onP_some h0 with ⟨l, off, e, h1⟩ | ⟨cs, e, h1⟩
  · obtain ⟨o, h2, h3⟩ := Tr.getC_some h1
    obtain ⟨cs, odd, rfl, h4⟩ := AObj.onC_some h3
    obtain ⟨h5, h6⟩ := D.onC_some h4
    cases hb : Nat.beq (evT Γ (tm T) y).cells.length m with
    | false => rw [hb] at h6; cases h6
    | true =>
      rw [hb] at h6
      have hm := Nat.eq_of_beq_eq_true hb
      obtain ⟨h7, h8⟩ := splC_some h6
      rw [Tr.putC_eq, pd_eq] at h8
      refine ⟨_, ⟨t.set l (some (.cells (splice cs off (evT Γ (tm T) y).cells) odd)), n⟩, .upd rfl ?_, h8⟩
      simp only [aop, e, h2]
      rw [if_pos ⟨hm, by omega, h5⟩]
  · cases h1

def qFaddr (dst : Option Nat) (off : Nat) (r : RR) : OPc := fun rest T t n k => r T fun a =>
  a.onP (fun l o => fN (o + off) fun o => pd dst (.ptr l o) T fun T => rest T t n k) (fun cs => dropC off cs fun cs => pd dst (.fptr cs) T fun T => rest T t n k)

theorem qFaddr_sound {dst : Option Nat} {off : Nat} {x : Opd} : SoundOp P Γ tp (.faddr off x) dst (qFaddr dst off (rd Γ x)) := by
  intro rest T t n k r h
  unfold qFaddr at h
  have h0 := rd_some h
  rcases D.onP_some h0 with ⟨l, o, e, h1⟩ | ⟨cs, e, h1⟩
  · rw [fN_eq, pd_eq] at h1
    exact ⟨_, ⟨t, n⟩, .val rfl (by simp only [aop, e]), h1⟩
  · obtain ⟨h2, h3⟩ := dropC_some h1
    rw [pd_eq] at h3
    exact ⟨_, ⟨t, n⟩, .val rfl (by simp only [aop, e, if_pos h2]), h3⟩

/-- A number that is no less than nothing. -/
def iNat (i : Int) (f : Nat → Ans) : Ans := Int.rec (motive := fun _ => Ans) f (fun _ => none) i
theorem iNat_some {i : Int} {f : Nat → Ans} {r : D × S} (h : iNat i f = some r) : ∃ m, i = Int.ofNat m ∧ f m = some r := by
  cases i with
  | ofNat m => exact ⟨m, rfl, h⟩
  | negSucc m => cases h

def ltC (m len : Nat) (a : Ans) : Ans := Bool.rec (motive := fun _ => Ans) none a (Nat.ble (m + 1) len)
theorem ltC_some {m len : Nat} {a : Ans} {r : D × S} (h : ltC m len a = some r) : m < len ∧ a = some r := by
  unfold ltC at h
  cases hb : Nat.ble (m + 1) len with
  | true => rw [hb] at h; exact ⟨Nat.le_of_ble_eq_true hb, h⟩
  | false => rw [hb] at h; cases h

def qIaddrA (dst : Option Nat) (len sz : Nat) (r1 r2 : RR) : OPc := fun rest T t n k => r1 T fun a => r2 T fun i => i.onI fun _ i => iNat i fun m => ltC m len
  (a.onP (fun l o => fN (o + m * sz) fun o => pd dst (.ptr l o) T fun T => rest T t n k) (fun cs => dropC (m * sz) cs fun cs => pd dst (.fptr cs) T fun T => rest T t n k))

theorem qIaddrA_sound {dst : Option Nat} {len sz : Nat} {x y : Opd} : SoundOp P Γ tp (.iaddrA len sz x y) dst (qIaddrA dst len sz (rd Γ x) (rd Γ y)) := by
  intro rest T t n k r h
  unfold qIaddrA at h
  have h00 := rd_some h
  have h0 := rd_some h00
  obtain ⟨kd, i, e1, h1⟩ := D.onI_some h0
  obtain ⟨m, rfl, h2⟩ := iNat_some h1
  obtain ⟨h3, h4⟩ := ltC_some h2
  have hm : (0 : Int) ≤ Int.ofNat m ∧ Int.ofNat m < (len : Int) := ⟨Int.natCast_nonneg m, by show (m : Int) < len; omega⟩
  rcases D.onP_some h4 with ⟨l, o, e, h5⟩ | ⟨cs, e, h5⟩
  · rw [fN_eq, pd_eq] at h5
    refine ⟨_, ⟨t, n⟩, .val rfl ?_, h5⟩
    simp only [aop, e, e1, if_pos hm]
    rfl
  · obtain ⟨h6, h7⟩ := dropC_some h5
    rw [pd_eq] at h7
    refine ⟨_, ⟨t, n⟩, .val rfl ?_, h7⟩
    simp only [aop, e, e1]
    rw [if_pos ⟨hm.1, hm.2, h6⟩]
    rfl

def qConvI (dst : Option Nat) (kd : IntKind) (r : RR) : OPc := fun rest T t n k => r T fun a => a.onI fun _ x => wrapC kd x fun x => pd dst (.i kd x) T fun T => rest T t n k

theorem qConvI_sound {dst : Option Nat} {kd : IntKind} {x : Opd} : SoundOp P Γ tp (.convI kd x) dst (qConvI dst kd (rd Γ x)) := by
  intro rest T t n k r h
  unfold qConvI at h
  have h0 := rd_some h
  obtain ⟨kd', i, e1, h1⟩ := D.onI_some h0
  rw [wrapC_eq, pd_eq] at h1
  exact ⟨_, ⟨t, n⟩, .val rfl (by simp only [aop, e1]), h1⟩

def qAlloc (dst : Option Nat) (z : List D) (m : Nat) : OPc := fun rest T t n k => t.putC n (some (.cells z m)) fun t => pd dst (.ptr n 0) T fun T => fN (n + 1) fun n => rest T t n k

theorem qAlloc_sound {dst : Option Nat} {z : List D} {m : Nat} : SoundOp P Γ tp (.alloc z m) dst (qAlloc dst z m) := by
  intro rest T t n k r h
  unfold qAlloc at h
  rw [Tr.putC_eq, pd_eq, fN_eq] at h
  exact ⟨_, ⟨t.set n (some (.cells z m)), n + 1⟩, .new rfl (by simp only [aop]), h⟩

def qBox (dst : Option Nat) (r : RR) : OPc := fun rest T t n k => r T fun v => v.onC fun cs => t.putC n (some (.cells cs 0)) fun t => pd dst (.ptr n 0) T fun T => fN (n + 1) fun n => rest T t n k

theorem qBox_sound {dst : Option Nat} {x : Opd} : SoundOp P Γ tp (.box x) dst (qBox dst (rd Γ x)) := by
  intro rest T t n k r h
  unfold qBox at h
  have h0 := rd_some h
  obtain ⟨h1, h2⟩ := D.onC_some h0
  rw [Tr.putC_eq, pd_eq, fN_eq] at h2
  exact ⟨_, ⟨t.set n (some (.cells (evT Γ (tm T) x).cells 0)), n + 1⟩, .new rfl (by simp only [aop, h1, if_true]), h2⟩

def qNil (dst : Option Nat) (r : RR) : OPc := fun rest T t n k => r T fun d => d.nnC (pd dst d T fun T => rest T t n k)

theorem qNil_sound {dst : Option Nat} {x : Opd} : SoundOp P Γ tp (.nilchk x) dst (qNil dst (rd Γ x)) := by
  intro rest T t n k r h
  unfold qNil at h
  have h1 := rd_some h
  have key : aop t.get n (evT Γ (tm T)) (.nilchk x) = .val (evT Γ (tm T) x) ∧ pd dst (evT Γ (tm T) x) T (fun T => rest T t n k) = some r := by
    simp only [aop]
    revert h1
    generalize evT Γ (tm T) x = d
    intro h1
    cases d
    case fn f a c =>
      cases f with
      | func m => exact ⟨rfl, h1⟩
      | _ => cases h1
    all_goals first | exact ⟨rfl, h1⟩ | cases h1
  rw [pd_eq] at key
  exact ⟨_, ⟨t, n⟩, .val rfl key.1, key.2⟩

/-! ### Calls, and all others -/

/-- What is asked of a call. -/
def KOk (P : Program) (Γ : Nat → D) (call : CallK) : Prop :=
  ∀ (f : FuncId) (args : List D) (t : Tr AObj) (n : Nat) (k : D → Tr AObj → Nat → Ans) (r : D × S), call f args t n k = some r → ∃ (d : D) (s' : S), CX P Γ f args (S.mk t n).h d s'.h ∧ k d s'.t s'.n = some r

def appC (a b : List D) : List D := List.rec (motive := fun _ => List D) b (fun x _ ih => x :: ih) a

def YOk (P : Program) (Γ : Nat → D) (yl : YldK) : Prop :=
  ∀ (l : Nat) (args : List D) (t : Tr AObj) (n : Nat) (k : D → Tr AObj → Nat → Ans) (r : D × S), yl l args t n k = some r → ∃ (d : D) (s' : S), YX P Γ l args (S.mk t n).h d s'.h ∧ k d s'.t s'.n = some r

def qCall (call : CallK) (yl : YldK) (dst : Option Nat) (rf : RR) (rs : List RR) : OPc := fun rest T t n k => rf T fun f => f.onFY (fun f first caps => rdL rs T fun args => fLg (fun d k => k d) (first ++ args ++ caps) fun args => call f args t n fun d t n => pd dst d T fun T => rest T t n k)
  (fun l => rdL rs T fun args => yl l args t n fun d t n => pd dst d T fun T => rest T t n k)

theorem qCall_sound {call : CallK} {yl : YldK} (hc : KOk P Γ call) (hy : YOk P Γ yl) {dst : Option Nat} {fo : Opd} {args : List Opd} : SoundOp P Γ tp (.call fo args) dst (qCall call yl dst (rd Γ fo) (args.map (rd Γ))) := by
  intro rest T t n k r h
  unfold qCall at h
  have h0 := rd_some h
  rcases D.onFY_some h0 with ⟨f, first, caps, e1, h1⟩ | ⟨l, e1, h1⟩
  · obtain ⟨h2, h3⟩ := rdL_some h1
    rw [fLg_eq (fun _ _ => rfl)] at h3
    obtain ⟨d, s', h4, h5⟩ := hc _ _ _ _ _ _ h3
    rw [pd_eq] at h5
    exact ⟨d, s', .inr (.inl ⟨fo, args, f, first, caps, rfl, e1, h2, h4⟩), h5⟩
  · obtain ⟨h2, h3⟩ := rdL_some h1
    obtain ⟨d, s', h4, h5⟩ := hy _ _ _ _ _ _ h3
    rw [pd_eq] at h5
    exact ⟨d, s', .inr (.inr (.inl ⟨fo, args, l, rfl, e1, h2, h4⟩)), h5⟩

/-- Quiet functions. -/
def QsOk (P : Program) (tp : Bool) (qs : Nat → Bool) : Prop := ∀ f, qs f = true → tp = true ∧ bodied P f = true ∧ QuietD P f

def qDefer (qs : Nat → Bool) (dst : Option Nat) (rf : RR) : OPc := fun rest T t n k => rf T fun f => f.onF fun f first caps => match first, caps with | [], [_, _, _] => Bool.rec (motive := fun _ => Ans) none (pd dst (.tup []) T fun T => rest T t n k) (qs f) | _, _ => none

theorem qDefer_sound {qs : Nat → Bool} (hq : QsOk P tp qs) {dst : Option Nat} {fo : Opd} : SoundOp P Γ tp (.defer fo []) dst (qDefer qs dst (rd Γ fo)) := by
  intro rest T t n k r h
  unfold qDefer at h
  have h0 := rd_some h
  obtain ⟨f, first, caps, e1, h1⟩ := D.onF_some h0
  split at h1
  · cases hb : qs f with
    | false => rw [hb] at h1; cases h1
    | true =>
      rw [hb] at h1
      have h2 : pd dst (.tup []) T (fun T => rest T t n k) = some r := h1
      rw [pd_eq] at h2
      obtain ⟨q1, q2, q3⟩ := hq f hb
      exact ⟨_, ⟨t, n⟩, .inr (.inr (.inr ⟨q1, fo, f, _, _, _, rfl, e1, q2, q3, rfl, rfl⟩)), h2⟩
  · cases h1

def gVal (dst : Option Nat) (T : Tr D) (t : Tr AObj) (n : Nat) (rest : QQ) (k : Tr D → Tr AObj → Nat → Ans) (d : D) : Ans := fD d fun d => pd dst d T fun T => rest T t n k
def gUpd (dst : Option Nat) (T : Tr D) (t : Tr AObj) (n : Nat) (rest : QQ) (k : Tr D → Tr AObj → Nat → Ans) (l : Nat) (o : AObj) (d : D) : Ans := fN l fun l => fO o fun o => fD d fun d => t.putC l (some o) fun t => pd dst d T fun T => rest T t n k
def gNew (dst : Option Nat) (T : Tr D) (t : Tr AObj) (n : Nat) (rest : QQ) (k : Tr D → Tr AObj → Nat → Ans) (o : AObj) (d : D) : Ans := fO o fun o => fD d fun d => t.putC n (some o) fun t => pd dst d T fun T => fN (n + 1) fun n => rest T t n k
def gApp (dst : Option Nat) (T : Tr D) (t : Tr AObj) (n : Nat) (rest : QQ) (k : Tr D → Tr AObj → Nat → Ans) (l : Nat) (o : AObj) (d : D) : Ans := fN l fun l => fO o fun o => fD d fun d => t.putC l none fun t => t.putC n (some o) fun t => pd dst d T fun T => fN (n + 1) fun n => rest T t n k

def qGen (Γ : Nat → D) (dst : Option Nat) (act : (Nat → Option AObj) → Nat → (Opd → D) → AR) : OPc := fun rest T t n k =>
  AR.rec (motive := fun _ => Ans) (gVal dst T t n rest k) (gUpd dst T t n rest k) (gNew dst T t n rest k) (gApp dst T t n rest k) (fun _ => none) none (act t.get n (evT Γ (tm T)))

theorem qGen_sound {dst : Option Nat} {op : XOp} (hop : callOf op = none) : SoundOp P Γ tp op dst (qGen Γ dst fun g n e => aopF g n e op) := by
  intro rest T t n k r h
  unfold qGen at h
  simp only [aopF_eq] at h
  cases ha : aop t.get n (evT Γ (tm T)) op with
  | val d =>
    rw [ha] at h
    have h1 : fD d (fun d => pd dst d T fun T => rest T t n k) = some r := h
    rw [fD_eq, pd_eq] at h1
    exact ⟨d, ⟨t, n⟩, .val hop ha, h1⟩
  | upd l o d =>
    rw [ha] at h
    have h1 : fN l (fun l => fO o fun o => fD d fun d => t.putC l (some o) fun t => pd dst d T fun T => rest T t n k) = some r := h
    rw [fN_eq, fO_eq, fD_eq, Tr.putC_eq, pd_eq] at h1
    exact ⟨d, ⟨t.set l (some o), n⟩, .upd hop ha, h1⟩
  | new o d =>
    rw [ha] at h
    have h1 : fO o (fun o => fD d fun d => t.putC n (some o) fun t => pd dst d T fun T => fN (n + 1) fun n => rest T t n k) = some r := h
    rw [fO_eq, fD_eq, Tr.putC_eq, pd_eq, fN_eq] at h1
    exact ⟨d, ⟨t.set n (some o), n + 1⟩, .new hop ha, h1⟩
  | app l o d =>
    rw [ha] at h
    have h1 : fN l (fun l => fO o fun o => fD d fun d => t.putC l none fun t => t.putC n (some o) fun t => pd dst d T fun T => fN (n + 1) fun n => rest T t n k) = some r := h
    rw [fN_eq, fO_eq, fD_eq, Tr.putC_eq, Tr.putC_eq, pd_eq, fN_eq] at h1
    exact ⟨d, ⟨(t.set l none).set n (some o), n + 1⟩, .inl ⟨hop, by rw [ha]; rfl⟩, h1⟩
  | panic d => rw [ha] at h; cases h
  | bad => rw [ha] at h; cases h

/-- How an operation is run. -/
def denX (Γ : Nat → D) (call : CallK) (yl : YldK) (qs : Nat → Bool) (dst : Option Nat) (op : XOp) : OPc :=
  match op with
  | .mv x => qMv dst (rd Γ x)
  | .pick c a b => qPick dst (rd Γ c) (rd Γ a) (rd Γ b)
  | .bin op x y => qBin dst (biOf op) (bsOf op) (rd Γ x) (rd Γ y)
  | .ld false 1 x => qLd1 dst (rd Γ x)
  | .ld true m x => qLdA dst m (rd Γ x)
  | .st m x y => qSt dst m (rd Γ x) (rd Γ y)
  | .faddr off x => qFaddr dst off (rd Γ x)
  | .iaddrA len sz x y => qIaddrA dst len sz (rd Γ x) (rd Γ y)
  | .convI kd x => qConvI dst kd (rd Γ x)
  | .alloc z m => qAlloc dst z m
  | .box x => qBox dst (rd Γ x)
  | .nilchk x => qNil dst (rd Γ x)
  | .call fo args => qCall call yl dst (rd Γ fo) (args.map (rd Γ))
  | .defer fo [] => qDefer qs dst (rd Γ fo)
  | op => qGen Γ dst fun g n e => aopF g n e op

theorem denX_sound {call : CallK} {yl : YldK} (hc : KOk P Γ call) (hy : YOk P Γ yl) {qs : Nat → Bool} (hq : QsOk P tp qs) (dst : Option Nat) (op : XOp) : SoundOp P Γ tp op dst (denX Γ call yl qs dst op) := by
  unfold denX
  split
  · exact qMv_sound
  · exact qPick_sound
  · exact qBin_sound
  · exact qLd1_sound
  · exact qLdA_sound
  · exact qSt_sound
  · exact qFaddr_sound
  · exact qIaddrA_sound
  · exact qConvI_sound
  · exact qAlloc_sound
  · exact qBox_sound
  · exact qNil_sound
  · exact qCall_sound hc hy
  · exact qDefer_sound hq
  · rename_i opx h1 h2 h3 h4 h5 h6 h7 h8 h9 h10 h11 h12 h13 h14
    refine qGen_sound ?_
    cases hh : callOf op with
    | none => rfl
    | some p => exact absurd (callOf_eq (f := p.1) (args := p.2) hh) (h13 _ _)

def qSkip (dst : Option Nat) : OPc := fun rest T t n k => pd dst (.tup []) T fun T => rest T t n k

def qG (j : Nat) (w : Bool) (dst : Option Nat) (o : OPc) : OPc := fun rest T t n k => T.getC j fun d => d.onG (fun x => Bool.rec (motive := fun _ => Ans) (qSkip dst rest T t n k) (o rest T t n k) (x == w)) (qSkip dst rest T t n k)

def denO (Γ : Nat → D) (call : CallK) (yl : YldK) (qs : Nat → Bool) (x : XOper) : OPc :=
  match x.guard with
  | none => denX Γ call yl qs x.dst x.op
  | some (j, w) => qG j w x.dst (denX Γ call yl qs x.dst x.op)

theorem denO_sound {call : CallK} {yl : YldK} (hc : KOk P Γ call) (hy : YOk P Γ yl) {qs : Nat → Bool} (hq : QsOk P tp qs) (x : XOper) {rest : QQ} {T : Tr D} {t : Tr AObj} {n : Nat} {k : Tr D → Tr AObj → Nat → Ans} {r : D × S} (h : denO Γ call yl qs x rest T t n k = some r) :
    ∃ T' s', StepR P Γ tp x T ⟨t, n⟩ T' s' ∧ rest T' s'.t s'.n k = some r := by
  obtain ⟨dst, op, guard⟩ := x
  cases guard with
  | none =>
    obtain ⟨d, s', h1, h2⟩ := denX_sound hc hy hq dst op rest T t n k r h
    exact ⟨_, s', .inr ⟨rfl, d, rfl, h1⟩, h2⟩
  | some p =>
    obtain ⟨j, w⟩ := p
    obtain ⟨d, h1, h2⟩ := Tr.getC_some (t := T) (n := j) h
    have htm : tm T j = d := by simp only [tm, h1, Option.getD_some]
    have skip : ∀ (hg : guardX (tm T) (some (j, w)) = some false), qSkip dst rest T t n k = some r → ∃ T' s', StepR P Γ tp ⟨dst, op, some (j, w)⟩ T ⟨t, n⟩ T' s' ∧ rest T' s'.t s'.n k = some r := fun hg h3 => by
      unfold qSkip at h3
      rw [pd_eq] at h3
      exact ⟨_, ⟨t, n⟩, .inl ⟨hg, rfl, rfl⟩, h3⟩
    rcases D.onG_some h2 with ⟨x, rfl, h3⟩ | ⟨rfl, h3⟩
    · have hg : guardX (tm T) (some (j, w)) = some (x == w) := by simp only [guardX, htm]
      revert h3
      cases hx : x == w with
      | false => intro h3; exact skip (hx ▸ hg) h3
      | true =>
        intro h3
        obtain ⟨d, s', h4, h5⟩ := denX_sound hc hy hq dst op rest T t n k r h3
        exact ⟨_, s', .inr ⟨hx ▸ hg, d, rfl, h4⟩, h5⟩
    · exact skip (by simp only [guardX, htm]) h3

def qReg (os : List OPc) : QQ := List.rec (motive := fun _ => QQ) (fun T t n k => k T t n) (fun o _ ih => o ih) os

theorem qReg_sound {call : CallK} {yl : YldK} (hc : KOk P Γ call) (hy : YOk P Γ yl) {qs : Nat → Bool} (hq : QsOk P tp qs) : ∀ (xs : List XOper) {T : Tr D} {t : Tr AObj} {n : Nat} {k : Tr D → Tr AObj → Nat → Ans} {r : D × S}, qReg (xs.map (denO Γ call yl qs)) T t n k = some r →
    ∃ T' s', RunR P Γ tp xs T ⟨t, n⟩ T' s' ∧ k T' s'.t s'.n = some r
  | [], T, t, n, k, r, h => ⟨T, ⟨t, n⟩, .nil _ _, h⟩
  | x :: xs, T, t, n, k, r, h => by
    obtain ⟨T1, s1, h1, h2⟩ := denO_sound hc hy hq x (rest := qReg (xs.map (denO Γ call yl qs))) h
    obtain ⟨T2, s2, h3, h4⟩ := qReg_sound hc hy hq xs h2
    exact ⟨T2, s2, .cons h1 h3, h4⟩

end
end Go.Abs
end
noncomputable section
namespace Go.Abs
open Go

section
variable {P : Program} {Γ : Nat → D} {I : Nat → Prop} {μ : Emb} {h : AHeap} {w : World} {T : Nat → D} {N : Nat} {a : Act}

/-- A world that differs in one block of ours. -/
theorem upd_step (H : HR Γ I μ h w) {w' : World} {l : Nat} {o o0 : AObj} {b base : Nat} (hg : h.get l = some o0) (hm : μ l = some (b, base)) (O : Only b w w') (ho : ObjR I μ w' o b base) :
    ∃ μ', ExtN I μ h w μ' { get := fun m => if m = l then some o else h.get m, next := h.next } w' ∧ HR Γ I μ' { get := fun m => if m = l then some o else h.get m, next := h.next } w' ∧ ∀ l, l < h.next → μ' l = μ l := by
  have hr : Res I μ h w h.next (.ok (.value undef) w') (.upd l o (.tup [])) := ⟨_, _, w', b, base, rfl, .inl rfl, hm, by simp [hg], O, ho, tup0⟩
  obtain ⟨n, v, w1, μ', e1, _, E, K, _, hmu⟩ := hr.step H (Nat.le_refl _) (H.fresh _ (Nat.le_refl _)) (.inl rfl) rfl
  cases e1
  exact ⟨μ', ⟨E, fun l hl => hmu l (Nat.ne_of_lt hl)⟩, K, fun l hl => hmu l (Nat.ne_of_lt hl)⟩

/-- A block of ours is given up. -/
theorem kill_step (H : HR Γ I μ h w) {w' : World} {l : Nat} {o0 : AObj} {b base : Nat} (hg : h.get l = some o0) (hm : μ l = some (b, base)) (O : Only b w w') :
    ExtN I μ h w μ { get := fun m => if m = l then none else h.get m, next := h.next } w' ∧ HR Γ I μ { get := fun m => if m = l then none else h.get m, next := h.next } w' := by
  obtain ⟨b0, base0, k1, k2, k3⟩ := H.live l o0 hg
  rw [hm] at k1
  simp only [Option.some.injEq, Prod.mk.injEq] at k1
  obtain ⟨rfl, rfl⟩ := k1
  refine ⟨⟨⟨by rw [O.size]; exact Nat.le_refl _, O.os, O.tape, O.output, O.rows, fun _ x => x, fun _ _ x => x, Nat.le_refl _, fun c _ hc2 => O.same c (fun e => hc2 l o0 base hg (e ▸ hm)), ?_⟩, fun _ _ => rfl⟩,
    ⟨fun c hc => by rw [O.size]; exact H.frz c hc, ?_, ?_, fun l' hl => H.fresh l' hl, fun g => (H.glob g).imp _root_.id (fun r => O.keepR k2 r)⟩⟩
  · intro l' o' b' base' hg' hm'
    simp only at hg'
    split at hg'
    · cases hg'
    · exact .inr ⟨l', o', base', hg', hm'⟩
  · intro l' o' hg'
    simp only at hg'
    split at hg'
    · cases hg'
    · rename_i hl
      obtain ⟨b', base', j1, j2, j3⟩ := H.live l' o' hg'
      have hne : b' ≠ b := fun e => hl (H.inj l' l o' o0 b base' base hg' hg (e ▸ j1) hm)
      exact ⟨b', base', j1, j2, j3.mono (fun _ x => x) (fun _ _ x => x) (fun c hc => O.same c (fun e => k2 (e ▸ hc))) O.rows (O.same b' hne)⟩
  · intro l1 l2 o1 o2 b' base1 base2 hg1 hg2 hm1 hm2
    simp only at hg1 hg2
    split at hg1
    · cases hg1
    · split at hg2
      · cases hg2
      · exact H.inj l1 l2 o1 o2 b' base1 base2 hg1 hg2 hm1 hm2

/-- The world grows by a block that is not ours. -/
theorem HR.grow (H : HR Γ I μ h w) {w' : World} (g : Grew w w') : HR Γ I μ h w' ∧ ExtN I μ h w μ h w' := by
  refine ⟨⟨fun b hb => by rw [g.size]; have := H.frz b hb; omega, fun l o hg => ?_, H.inj, H.fresh, fun x => (H.glob x).imp _root_.id (fun r => g.keepR H (fun _ _ x => x) r)⟩, ⟨by rw [g.size]; omega, g.os, g.tape, g.output, g.rows, fun _ x => x, fun _ _ x => x, Nat.le_refl _, fun c hc _ => g.same c hc, fun l o b base hg hm => .inr ⟨l, o, base, hg, hm⟩⟩, fun _ _ => rfl⟩
  obtain ⟨b, base, j1, j2, j3⟩ := H.live l o hg
  exact ⟨b, base, j1, j2, j3.mono (fun _ x => x) (fun _ _ x => x) (fun c hc => g.same c (H.frz c hc)) g.rows (g.same b j3.lt)⟩

/-- The world grows by a block that is ours. -/
theorem new_step (H : HR Γ I μ h w) {w' : World} (g : Grew w w') {o : AObj} (hob : ∀ μ' : Emb, (∀ l p, μ l = some p → μ' l = some p) → μ' h.next = some (w.heap.size, 0) → ObjR I μ' w' o w.heap.size 0) :
    ∃ μ', μ' h.next = some (w.heap.size, 0) ∧ ExtN I μ h w μ' { get := fun m => if m = h.next then some o else h.get m, next := h.next + 1 } w' ∧ HR Γ I μ' { get := fun m => if m = h.next then some o else h.get m, next := h.next + 1 } w' := by
  have hid := H.fresh h.next (Nat.le_refl _)
  have hr : Res I μ h w h.next (.ok (.value undef) w') (.new o (.tup [])) := ⟨_, _, w', rfl, .inl rfl, g, fun μ' hm hi => ⟨hob μ' hm hi, tup0⟩⟩
  obtain ⟨n, v, w1, μ', e1, _, E, K, _, hmu⟩ := hr.step H (Nat.le_succ _) hid (.inr (Nat.lt_succ_self _)) rfl
  cases e1
  obtain ⟨b, base, k1, k2, k3⟩ := K.live h.next o (by simp [AR.heap])
  have hlt := k3.lt
  rw [g.size] at hlt
  have hb : b = w.heap.size := by
    rcases E.back h.next o b base (by simp [AR.heap]) k1 with hh | ⟨l0, o0, base0, g0, m0⟩
    · omega
    · exfalso
      have hne : l0 ≠ h.next := fun e => by rw [e, hid] at m0; cases m0
      have := K.inj l0 h.next o0 o b base0 base (by simp [AR.heap, hne, g0]) (by simp [AR.heap]) (by rw [hmu l0 hne]; exact m0) k1
      exact hne this
  subst hb
  -- its base
  let μ1 : Emb := fun m => if m = h.next then some (w.heap.size, 0) else μ m
  have hm1 : ∀ l p, μ l = some p → μ1 l = some p := fun l p hl => by
    have : l ≠ h.next := fun e => by rw [e, hid] at hl; cases hl
    simp only [μ1, if_neg this]; exact hl
  have hgr := H.grow g
  refine ⟨μ1, by simp [μ1], ⟨⟨hgr.2.1.size, g.os, g.tape, g.output, g.rows, fun _ x => x, hm1, Nat.le_succ _, fun c hc _ => g.same c hc, fun l o' b' base' hg hm' => ?_⟩, fun l hl => by simp [μ1, Nat.ne_of_lt hl]⟩, ⟨hgr.1.frz, fun l o' hg => ?_, fun l1 l2 o1 o2 b' base1 base2 hg1 hg2 hm1' hm2' => ?_, fun l hl => ?_, fun x => (H.glob x).imp _root_.id (fun r => g.keepR H hm1 r)⟩⟩
  · simp only at hg
    by_cases hl : l = h.next
    · subst hl
      simp only [μ1, if_true, Option.some.injEq, Prod.mk.injEq] at hm'
      exact .inl (by omega)
    · rw [if_neg hl] at hg
      simp only [μ1, if_neg hl] at hm'
      exact .inr ⟨l, o', base', hg, hm'⟩
  · simp only at hg
    by_cases hl : l = h.next
    · subst hl
      rw [if_pos rfl] at hg
      simp only [Option.some.injEq] at hg
      subst hg
      exact ⟨w.heap.size, 0, by simp [μ1], fun hI => Nat.lt_irrefl _ (H.frz _ hI), hob μ1 hm1 (by simp [μ1])⟩
    · rw [if_neg hl] at hg
      obtain ⟨b', base', j1, j2, j3⟩ := H.live l o' hg
      exact ⟨b', base', hm1 _ _ j1, j2, j3.mono (fun _ x => x) hm1 (fun c hc => g.same c (H.frz c hc)) g.rows (g.same b' j3.lt)⟩
  · simp only at hg1 hg2
    have lt_of : ∀ l o', l ≠ h.next → h.get l = some o' → ∀ b' base', μ1 l = some (b', base') → b' < w.heap.size := fun l o' hl hg b' base' hm => by
      obtain ⟨b2, base2, j1, _, j3⟩ := H.live l o' hg
      simp only [μ1, if_neg hl] at hm
      rw [j1] at hm
      simp only [Option.some.injEq, Prod.mk.injEq] at hm
      rw [← hm.1]; exact j3.lt
    by_cases e1 : l1 = h.next
    · by_cases e2 : l2 = h.next
      · rw [e1, e2]
      · exfalso
        rw [if_neg e2] at hg2
        have := lt_of l2 o2 e2 hg2 _ _ hm2'
        subst e1
        simp only [μ1, if_true, Option.some.injEq, Prod.mk.injEq] at hm1'
        omega
    · rw [if_neg e1] at hg1
      by_cases e2 : l2 = h.next
      · exfalso
        have := lt_of l1 o1 e1 hg1 _ _ hm1'
        subst e2
        simp only [μ1, if_true, Option.some.injEq, Prod.mk.injEq] at hm2'
        omega
      · rw [if_neg e2] at hg2
        simp only [μ1, if_neg e1] at hm1'
        simp only [μ1, if_neg e2] at hm2'
        exact H.inj l1 l2 o1 o2 b' base1 base2 hg1 hg2 hm1' hm2'
  · have : l ≠ h.next := fun e => by have hl' : h.next + 1 ≤ l := hl; omega
    simp only [μ1, if_neg this]
    exact H.fresh l (by have hl' : h.next + 1 ≤ l := hl; omega)

theorem Grew.alloc' (w : World) (o : Obj) : Grew w (w.alloc o) := Grew.alloc w o

/-- A block of ours is turned to another object of the same kind, no cells. -/
theorem Only.putObj {w : World} {b : Nat} {o o' : Obj} (hb : w.heap[b]? = some o) (hn : ∀ n, rowSize w b = some n → False) : Only b w (w.putObj b o') :=
  ⟨by simp [World.putObj], rfl, rfl, rfl, fun c n hc => by
    by_cases h : c = b
    · subst h; exact (hn n hc).elim
    · unfold rowSize at hc ⊢; rw [World.putObj_heap_other h]; exact hc, fun c hc => World.putObj_heap_other hc⟩

/-- What yield hands back. -/
def okO : O → Bool
  | .norm => true
  | _ => false

/-- How a round is left. -/
def outC : O → Option Code
  | .norm => none
  | .ret => some .ret
  | .exit i => some (.exit i)

def stOf (o : O) : LSt :=
  match outC o with
  | none => .ready
  | some c => .done c

/-- The temporaries of a round. -/
def putPs : List Nat → List D → Tr D → Tr D
  | p :: ps, d :: ds, T => putPs ps ds (T.set p (some d))
  | _, _, T => T

theorem putPs_spec (H : HR Γ I μ h w) : ∀ (ps : List Nat) (ds : List D) (vals : List Value) (T : Tr D) (tmps : Array Value), Rl I μ w ds vals → (ps.all fun p => Nat.blt p N) = true → N ≤ tmps.size → (∀ n, (tm T n).ok = true → R I μ w (tm T n) (tmps.getD n undef)) →
    N ≤ ((ps.zip vals).foldl (fun t (p, v) => t.setIfInBounds p v) tmps).size ∧ ∀ n, (tm (putPs ps ds T) n).ok = true → R I μ w (tm (putPs ps ds T) n) (((ps.zip vals).foldl (fun t (p, v) => t.setIfInBounds p v) tmps).getD n undef)
  | [], ds, vals, T, tmps, hl, _, hN, hT => by cases ds <;> exact ⟨by simpa using hN, fun n hn => by simpa [putPs] using hT n hn⟩
  | p :: ps, ds, vals, T, tmps, hl, hp, hN, hT => by
    cases hl with
    | nil => exact ⟨by simpa using hN, fun n hn => by simpa [putPs] using hT n hn⟩
    | @cons d v ds vals r hl =>
      simp only [List.all_cons, Bool.and_eq_true, Nat.blt_eq] at hp
      have := putPs_spec H ps ds vals (T.set p (some d)) (tmps.setIfInBounds p v) hl hp.2 (by simpa using hN) (fun n hn => by
        have e : tm (T.set p (some d)) n = if n = p then d else tm T n := by simp only [tm, Tr.get_set]; split <;> rfl
        rw [e] at hn ⊢
        have hpt : p < tmps.size := by omega
        by_cases hnp : n = p
        · subst hnp
          rw [if_pos rfl]
          simpa [hpt] using r
        · rw [if_neg hnp] at hn ⊢
          have := hT n hn
          rw [Array.getD_eq_getD_getElem?] at this ⊢
          rw [Array.getElem?_setIfInBounds_ne (Ne.symm hnp)]
          exact this)
      simpa [putPs] using this

/-- One round. -/
theorem YX.run {l : Nat} {args : List D} {T T' : Tr D} {ps : List Nat} {assign body : Code} {T2 T3 : Nat → D} {o : O} {h2 : AHeap} {N' : Nat} {ps' : List Nat} {as' body' : Code}
    (hg : h.get l = some (.loop T N ps assign body .ready)) (hlen : args.length = ps.length) (hps : (ps.all fun p => Nat.blt p N) = true)
    (ha : ∀ b, EX P Γ (some b) N assign (tm (putPs ps args T)) h .norm T2 h)
    (hx : ∀ b, EX P Γ (some b) N body T2 { get := fun m => if m = l then some (.loop T N ps assign body .busy) else h.get m, next := h.next } o T3 h2)
    (hg2 : h2.get l = some (.loop T' N' ps' as' body' .busy)) :
    YX P Γ l args h (.b (okO o)) { get := fun m => if m = l then some (.loop T' N' ps' as' body' (stOf o)) else h2.get m, next := h2.next } := by
  intro I μ w b vals H hl hm
  have hvl : vals.length = args.length := by
    clear hlen hx ha
    induction hl with
    | nil => rfl
    | cons _ _ ih => simp [ih]
  obtain ⟨b0, base0, k1, k2, k3⟩ := H.live l _ hg
  rw [hm] at k1
  simp only [Option.some.injEq, Prod.mk.injEq] at k1
  obtain ⟨rfl, rfl⟩ := k1
  obtain ⟨_, r0, hr0, r1, r2, r3, r4, r5, r6, r7⟩ := k3
  have hsz : vals.toArray.size = r0.params.size := by rw [r1]; simp; omega
  refine ⟨_, _, _, _, run_yield hr0 hsz, roundIn_of_wpIn trivial ?_⟩
  rw [r2, r3]
  have hps' : ((r0.params.zip vals.toArray).foldl (fun tmps (t, a) => tmps.setIfInBounds t a) r0.tmps) = ((ps.zip vals).foldl (fun t (p, v) => t.setIfInBounds p v) r0.tmps) := by
    rw [r1, ← Array.foldl_toList]
    simp
  obtain ⟨q1, q2⟩ := putPs_spec H ps args vals T r0.tmps hl hps r4 r5
  have S0 : St Γ I μ (tm (putPs ps args T)) h N w { tmps := (r0.params.zip vals.toArray).foldl (fun tmps (t, a) => tmps.setIfInBounds t a) r0.tmps, defers := [] } := by
    rw [hps']
    exact ⟨H, q2, q1⟩
  refine wpIn_mono (F := (Fl none).inRound b) (ha b I μ w _ S0) fun e0 a0 w0 hp0 => ?_
  obtain ⟨p0, μ0, E0, S0', _, _, _⟩ := hp0
  cases e0 <;> try (exact p0.elim)
  have hm0 : μ0 l = some (b, 0) := E0.1.musub _ _ hm
  obtain ⟨b1, base1, m1, m2, m3⟩ := S0'.hr.live l _ hg
  rw [hm0] at m1
  simp only [Option.some.injEq, Prod.mk.injEq] at m1
  obtain ⟨rfl, rfl⟩ := m1
  obtain ⟨_, r, hr, n1, n2, n3, n4, n5, n6, n7⟩ := m3
  refine ⟨_, run_beginRound hr n6, ?_⟩
  -- the record is busy
  have hnr : ∀ n, rowSize w0 b = some n → False := fun n hn => by unfold rowSize at hn; rw [hr] at hn; cases hn
  have O1 : Only b w0 (w0.putObj b (.loop { r with state := .busy })) := Only.putObj hr hnr
  have hlt : b < w0.heap.size := (Array.getElem?_eq_some_iff.1 hr).1
  obtain ⟨μ1, E1', K1, _⟩ := upd_step S0'.hr hg hm0 O1 (o := .loop T N ps assign body .busy) ⟨rfl, { r with state := .busy }, World.putObj_heap_same hlt, n1, n2, n3, n4, fun n hn => O1.keepR m2 (n5 n hn), rfl⟩
  have E1 := E0.trans E1'
  have S1 : St Γ I μ1 T2 { get := fun m => if m = l then some (.loop T N ps assign body .busy) else h.get m, next := h.next } N (w0.putObj b (.loop { r with state := .busy })) a0 :=
    ⟨K1, fun n hn => E1'.1.r S0'.hr (S0'.tm n hn), S0'.sz⟩
  refine wpIn_mono (F := (Fl none).inRound b) (hx b I μ1 _ _ S1) fun e a' w' hp => ?_
  obtain ⟨p1, μ2, E2, S2, ex, p2, C⟩ := hp
  have hm2 : μ2 l = some (b, 0) := E2.1.musub _ _ (E1.1.musub _ _ hm)
  obtain ⟨b2, base2, j1, j2, j3⟩ := S2.hr.live l _ hg2
  rw [hm2] at j1
  simp only [Option.some.injEq, Prod.mk.injEq] at j1
  obtain ⟨rfl, rfl⟩ := j1
  obtain ⟨_, r', hr', s1, s2, s3, s4, s5, s6⟩ := j3
  have hnr' : ∀ n, rowSize w' b = some n → False := fun n hn => by unfold rowSize at hn; rw [hr'] at hn; cases hn
  have hlt' : b < w'.heap.size := (Array.getElem?_eq_some_iff.1 hr').1
  have fin : ∀ (jump : Option Code), jump = outC o → ∃ v w3, (Instr.endRound b jump).run P w' = .ok v w3 ∧ ∃ v', Ending.returned v = .returned v' ∧ ∃ μ', ExtN I μ h w μ' { get := fun m => if m = l then some (.loop T' N' ps' as' body' (stOf o)) else h2.get m, next := h2.next } w3 ∧ HR Γ I μ' { get := fun m => if m = l then some (.loop T' N' ps' as' body' (stOf o)) else h2.get m, next := h2.next } w3 ∧ R I μ' w3 (.b (okO o)) v' := by
    rintro jump rfl
    have O3 : Only b w' (w'.putObj b (.loop { r' with state := if (outC o).isNone then .ready else .done, pending := outC o })) := Only.putObj hr' hnr'
    obtain ⟨μ3, E3, K3, _⟩ := upd_step S2.hr hg2 hm2 O3 (o := .loop T' N' ps' as' body' (stOf o)) ⟨rfl, _, World.putObj_heap_same hlt', s1, s2, s3, s4, fun n hn => O3.keepR j2 (s5 n hn), by cases o <;> exact ⟨rfl, rfl⟩⟩
    refine ⟨_, _, run_endRound (outC o) hr', _, rfl, μ3, (E1.trans E2).trans E3, K3, ?_⟩
    cases o <;> exact .b _
  cases o with
  | norm =>
    cases e <;> first | exact p1.elim | skip
    exact fin none rfl
  | ret =>
    cases e <;> first | exact p1.elim | skip
    exact fin (some .ret) rfl
  | exit i =>
    cases e <;> first | exact p1.elim | skip
    rename_i j
    have hij : i = j := p1
    subst hij
    exact fin (some (.exit i)) rfl

end
end Go.Abs
end
noncomputable section
namespace Go.Abs
open Go

section
variable {P : Program} {Γ : Nat → D} {N : Nat}

theorem EX.rangeFunc {TT : Tr D} {h : AHeap} {g : Operand} {ps : Array Tmp} {assign body : Code} {f : FuncId} {first caps : List D} {d : D} {h2 : AHeap} {T' : Tr D} {N' : Nat} {ps' : List Nat} {as' body' : Code} {o : O}
    (hg : evT Γ (tm TT) (xopd g) = .fn (.func f) first caps) (hb : bodied P f = true)
    (hx : CX P Γ f (first ++ [.yld h.next] ++ caps) { get := fun m => if m = h.next then some (.loop TT N ps.toList assign body .ready) else h.get m, next := h.next + 1 } d h2)
    (hg2 : h2.get h.next = some (.loop T' N' ps' as' body' (stOf o))) :
    EX P Γ none N (.rangeFunc g ps assign body) (tm TT) h o (tm TT) { get := fun m => if m = h.next then none else h2.get m, next := h2.next } := by
  intro I μ w a S
  have rg := S.ev g (by rw [hg]; rfl)
  rw [hg] at rg
  obtain ⟨xs, ys, hv, ra, rb⟩ := R_fn rg
  refine wpIn_rangeFunc fun fn _ => ?_
  -- the two blocks
  obtain ⟨K1, E1⟩ := S.hr.grow (Grew.alloc' w (.deferred (some [])))
  have St1 : ∀ n, (tm TT n).ok = true → R I μ (w.alloc (.deferred (some []))) (tm TT n) (a.tmps.getD n undef) := fun n hn => E1.1.r S.hr (S.tm n hn)
  let rec0 : Loop := { state := .ready, pending := none, fn, tmps := a.tmps, params := ps, assign, body, defers := w.heap.size }
  have g2 : Grew (w.alloc (.deferred (some []))) ((w.alloc (.deferred (some []))).alloc (.loop rec0)) := Grew.alloc' _ _
  obtain ⟨μ2, hm2, E2, K2⟩ := new_step K1 g2 (o := .loop TT N ps.toList assign body .ready) (fun μ' hmm _ => ⟨rfl, rec0, World.alloc_heap_new _ _, by simp [rec0], rfl, rfl, S.sz, fun n hn => g2.keepR K1 hmm (St1 n hn), rfl, rfl⟩)
  have hsz1 : (w.alloc (.deferred (some []))).heap.size = w.heap.size + 1 := by simp
  rw [hsz1] at hm2
  have E := E1.trans E2
  have hallv : Rl I μ2 ((w.alloc (.deferred (some []))).alloc (.loop rec0)) (first ++ [.yld h.next] ++ caps) (xs.toList ++ [Value.func (Fn.yield (w.heap.size + 1)) #[] #[]] ++ ys.toList) :=
    ((ra.mono (fun _ x => x) E.1.musub (fun b hb => (E.1.keep S.hr) b hb) E.1.rows).append (.cons (.yld _ _ hm2) .nil)).append (rb.mono (fun _ x => x) E.1.musub (fun b hb => (E.1.keep S.hr) b hb) E.1.rows)
  have harr : (xs.toList ++ [Value.func (Fn.yield (w.heap.size + 1)) #[] #[]] ++ ys.toList).toArray = xs ++ #[Value.func (Fn.yield (w.heap.size + 1)) #[] #[]] ++ ys := by
    apply Array.toList_inj.1; simp
  have hcall := hx I μ2 _ _ K2 hallv
  rw [harr] at hcall
  refine ⟨w.heap.size + 1, [markD w.heap.size], (w.alloc (.deferred (some []))).alloc (.loop rec0), { target := .fn (.func f) ys, args := xs ++ #[Value.func (Fn.yield (w.heap.size + 1)) #[] #[]] }, (w.alloc (.deferred (some []))).alloc (.loop rec0), f, xs ++ #[Value.func (Fn.yield (w.heap.size + 1)) #[] #[]] ++ ys, (w.alloc (.deferred (some []))).alloc (.loop rec0), run_enterLoop_outer fn a.tmps ps assign body, ?_, fun _ _ => trivial, ?_, fun hd => (by cases hd), ?_⟩
  · simp [resolve, rangeCall, hv, Deferred.ofValue]
    rfl
  · show (callFunc f (xs ++ #[Value.func (Fn.yield (w.heap.size + 1)) #[] #[]] ++ ys)).run P _ = _
    exact bodied_enter hb _ _
  · have hcalls : Calls P f (xs ++ #[Value.func (Fn.yield (w.heap.size + 1)) #[] #[]] ++ ys) ((w.alloc (.deferred (some []))).alloc (.loop rec0)) fun e w' => match e, w' with | .returned v, w' => ∃ μ', ExtN I μ2 { get := fun m => if m = h.next then some (.loop TT N ps.toList assign body .ready) else h.get m, next := h.next + 1 } ((w.alloc (.deferred (some []))).alloc (.loop rec0)) μ' h2 w' ∧ HR Γ I μ' h2 w' ∧ R I μ' w' d v | _, _ => False := by
      rcases hcall with ⟨_, hc⟩ | ⟨v, w', hen, _⟩
      · exact hc
      · rw [bodied_enter hb] at hen; cases hen
    refine CallsIn.mono ((callsIn_wide (n := 0)).2 hcalls) fun e w3 he => ?_
    cases e with
    | panicked _ => exact he.elim
    | outgrown => exact he.elim
    | returned v =>
      obtain ⟨μ3, E3, K3, _⟩ := he
      have hm3 : μ3 h.next = some (w.heap.size + 1, 0) := E3.1.musub _ _ hm2
      obtain ⟨b, base, j1, j2, j3⟩ := K3.live h.next _ hg2
      rw [hm3] at j1
      simp only [Option.some.injEq, Prod.mk.injEq] at j1
      obtain ⟨rfl, rfl⟩ := j1
      obtain ⟨_, r, hr, s1, s2, s3, s4, s5, s6⟩ := j3
      have hst : r.state ≠ .busy ∧ r.pending = outC o := by
        cases o <;> (obtain ⟨x1, x2⟩ := s6; exact ⟨by rw [x1]; simp, x2⟩)
      have hnr : ∀ n, rowSize w3 (w.heap.size + 1) = some n → False := fun n hn => by unfold rowSize at hn; rw [hr] at hn; cases hn
      have O4 : Only (w.heap.size + 1) w3 (w3.putObj (w.heap.size + 1) (.loop { r with state := .exhausted })) := Only.putObj hr hnr
      obtain ⟨E4, K4⟩ := kill_step K3 hg2 hm3 O4
      have EE := (E.trans E3).trans E4
      -- the mark's block
      have hD : ((w.alloc (.deferred (some []))).alloc (.loop rec0)).heap[w.heap.size]? = some (.deferred (some [])) := by
        rw [g2.same w.heap.size (by simp)]
        exact World.alloc_heap_new _ _
      have hno : ∀ l o base, ({ get := fun m => if m = h.next then some (.loop TT N ps.toList assign body .ready) else h.get m, next := h.next + 1 } : AHeap).get l = some o → μ2 l ≠ some (w.heap.size, base) := fun l o base hgl hml => by
        simp only at hgl
        by_cases hl : l = h.next
        · subst hl; rw [hm2] at hml; simp at hml
        · rw [if_neg hl] at hgl
          obtain ⟨b, base', y1, _, y3⟩ := S.hr.live l o hgl
          have := E.1.musub _ _ y1
          rw [this] at hml
          simp only [Option.some.injEq, Prod.mk.injEq] at hml
          have := y3.lt
          omega
      have C0 : Coll P w.heap.size μ2 { get := fun m => if m = h.next then some (.loop TT N ps.toList assign body .ready) else h.get m, next := h.next + 1 } ((w.alloc (.deferred (some []))).alloc (.loop rec0)) [markD w.heap.size] :=
        ⟨by simp [markOf, markD], fun d hdm => by
          have : d = markD w.heap.size := by simpa using hdm
          exact .inl ⟨w.heap.size, this, Nat.le_refl _, hD, hno⟩⟩
      have C4 := (C0.ext E3).ext E4
      have S4 : St Γ I μ3 (tm TT) { get := fun m => if m = h.next then none else h2.get m, next := h2.next } N (w3.putObj (w.heap.size + 1) (.loop { r with state := .exhausted })) { a with defers := [markD w.heap.size] ++ a.defers } :=
        ⟨K4, fun n hn => EE.1.r S.hr (S.tm n hn), S.sz⟩
      refine ⟨outC o, w3.putObj (w.heap.size + 1) (.loop { r with state := .exhausted }), (run_endLoop hr hst.1).trans (congrArg (fun x => Result.ok x (w3.putObj (w.heap.size + 1) (.loop { r with state := .exhausted }))) hst.2), ?_⟩
      cases o with
      | norm => exact ⟨trivial, μ3, EE, S4, [markD w.heap.size], rfl, C4⟩
      | ret => exact wpIn_ret ⟨trivial, μ3, EE, S4, [markD w.heap.size], rfl, C4⟩
      | exit i => exact wpIn_exit ⟨rfl, μ3, EE, S4, [markD w.heap.size], rfl, C4⟩

end
end Go.Abs
end
noncomputable section
namespace Go.Abs
open Go

noncomputable section

abbrev KK := Tr D → Tr AObj → Nat → Ans
abbrev MM := Tr D → Tr AObj → Nat → KK → (O → KK) → Ans

def mSkip : MM := fun T t n kn _ => kn T t n
def mOps (q : QQ) : MM := fun T t n kn _ => q T t n kn
def callD (call : CallK) : CallF := fun f args s => call f args s.t s.n fun d t n => some (d, ⟨t, n⟩)
def mDraw (Γ : Nat → D) (call : CallK) (xs : List XOper) (plan : List PlanE) : MM := fun T t n kn _ =>
  Option.rec (motive := fun _ => Ans) none (fun p => fN p.2.n fun n => kn p.1 p.2.t n) (runDraw (callD call) Γ xs plan T ⟨t, n⟩)
def mSeq (a b : MM) : MM := fun T t n kn ke => a T t n (fun T t n => b T t n kn ke) ke
def mCond (r : RR) (a b : MM) : MM := fun T t n kn ke => r T fun d => d.onB fun x => Bool.rec (motive := fun _ => Ans) (b T t n kn ke) (a T t n kn ke) x
def blkE (id : Nat) (kn : KK) (ke : O → KK) (o : O) : KK := fun T t n => O.rec (motive := fun _ => Ans) (ke o T t n) (ke o T t n) (fun i => Bool.rec (motive := fun _ => Ans) (ke o T t n) (kn T t n) (Nat.beq i id)) o
def mBlock (id : Nat) (a : MM) : MM := fun T t n kn ke => a T t n kn (blkE id kn ke)
def mLoop (N : Nat) (a : MM) : MM := Nat.rec (motive := fun _ => MM) (fun _ _ _ _ _ => none) (fun _ ih T t n kn ke => a T t n (fun T t n => ih T t n kn ke) ke) N
def mExit (id : Nat) : MM := fun T t n _ ke => ke (.exit id) T t n
def mRet : MM := fun T t n _ ke => ke .ret T t n
def mBad : MM := fun _ _ _ _ _ => none

def mRange (P : Program) (call : CallK) (N : Nat) (r : RR) (ps : List Nat) (assign body : Code) : MM := fun T t n kn ke => r T fun g => g.onF fun f first caps => Bool.rec (motive := fun _ => Ans) none
  (t.putC n (some (.loop T N ps assign body .ready)) fun t => fLg (fun d k => k d) (first ++ [.yld n] ++ caps) fun args => fN (n + 1) fun n1 => call f args t n1 fun _ t2 n2 => t2.getC n fun o => o.onL fun _ _ _ _ _ st => t2.putC n none fun t3 =>
    match st with
    | .ready => kn T t3 n2
    | .done .ret => ke .ret T t3 n2
    | .done (.exit i) => ke (.exit i) T t3 n2
    | _ => none) (bodied P f)

def den (P : Program) (Γ : Nat → D) (call : CallK) (yl : YldK) (qs : Nat → Bool) (L N : Nat) (top : Bool) : XC → MM
  | .skip => mSkip
  | .region ops => mOps (qReg (ops.map (denO Γ call yl qs)))
  | .draw ops plan => mDraw Γ call ops plan
  | .seq a b => mSeq (den P Γ call yl qs L N top a) (den P Γ call yl qs L N top b)
  | .cond c a b => mCond (rd Γ c) (den P Γ call yl qs L N top a) (den P Γ call yl qs L N top b)
  | .block id c => mBlock id (den P Γ call yl qs L N top c)
  | .loop c => mLoop L (den P Γ call yl qs L N top c)
  | .exit id => mExit id
  | .label _ => mSkip
  | .ret => mRet
  | .rangef f ps _ _ ca cb => (match top with | true => mRange P call N (rd Γ f) ps ca cb | false => mBad)
  | _ => mBad

section
variable {P : Program} {Γ : Nat → D} {N : Nat} {call : CallK} {yl : YldK} {qs : Nat → Bool}

theorem callD_ok (hc : KOk P Γ call) : CallOk P Γ (callD call) := by
  intro f args s d s' h
  obtain ⟨d1, s1, h1, h2⟩ := hc _ _ _ _ _ _ h
  simp only [Option.some.injEq, Prod.mk.injEq] at h2
  obtain ⟨rfl, rfl⟩ := h2
  exact h1

/-- In whatever round, or in none. -/
def EXt (P : Program) (Γ : Nat → D) (tp : Bool) (N : Nat) (c : Code) (T : Nat → D) (h : AHeap) (o : O) (T' : Nat → D) (h' : AHeap) : Prop := ∀ ro, (tp = true → ro = none) → EX P Γ ro N c T h o T' h'

def SoundM (P : Program) (Γ : Nat → D) (tp : Bool) (N : Nat) (c : Code) (m : MM) : Prop :=
  ∀ (T : Tr D) (t : Tr AObj) (n : Nat) (kn : KK) (ke : O → KK) (r : D × S), m T t n kn ke = some r →
    (∃ (T' : Tr D) (s' : S), EXt P Γ tp N c (tm T) (S.mk t n).h .norm (tm T') s'.h ∧ kn T' s'.t s'.n = some r) ∨ (∃ (o : O) (T' : Tr D) (s' : S), o ≠ .norm ∧ EXt P Γ tp N c (tm T) (S.mk t n).h o (tm T') s'.h ∧ ke o T' s'.t s'.n = some r)

theorem set_heap (t : Tr AObj) (n l : Nat) (o : Option AObj) (m : Nat) : (S.mk (t.set l o) m).h = { get := fun x => if x = l then o else t.get x, next := m } :=
  AHeap.eq (fun x => by simp only [S.h, Tr.get_set]) rfl

theorem mRange_sound (hc : KOk P Γ call) (g : Operand) (ps : Array Tmp) (ca cb : Code) : SoundM P Γ true N (.rangeFunc g ps ca cb) (mRange P call N (rd Γ (xopd g)) ps.toList ca cb) := by
  intro T t n kn ke r h
  unfold mRange at h
  have h0 := rd_some h
  obtain ⟨f, first, caps, e1, h1⟩ := D.onF_some h0
  cases hb : bodied P f with
  | false => rw [hb] at h1; cases h1
  | true =>
    rw [hb] at h1
    have h2 : (t.putC n (some (.loop T N ps.toList ca cb .ready)) fun t => fLg (fun d k => k d) (first ++ [.yld n] ++ caps) fun args => fN (n + 1) fun n1 => call f args t n1 fun _ t2 n2 => t2.getC n fun o => o.onL fun _ _ _ _ _ st => t2.putC n none fun t3 =>
      match st with
      | .ready => kn T t3 n2
      | .done .ret => ke .ret T t3 n2
      | .done (.exit i) => ke (.exit i) T t3 n2
      | _ => none) = some r := h1
    rw [Tr.putC_eq, fLg_eq (fun _ _ => rfl), fN_eq] at h2
    obtain ⟨d, s2, h3, h4⟩ := hc _ _ _ _ _ _ h2
    obtain ⟨o, h5, h6⟩ := Tr.getC_some h4
    obtain ⟨T', N', ps', as', bo', st, rfl, h7⟩ := AObj.onL_some h6
    rw [Tr.putC_eq] at h7
    rw [set_heap t n n (some (.loop T N ps.toList ca cb .ready)) (n + 1)] at h3
    have fin : ∀ o, st = stOf o → EXt P Γ true N (.rangeFunc g ps ca cb) (tm T) (S.mk t n).h o (tm T) (S.mk (s2.t.set n none) s2.n).h := fun o ho ro hro => by
      subst ho
      have := hro rfl
      subst this
      have hxr := EX.rangeFunc (P := P) (Γ := Γ) (N := N) (TT := T) (h := (S.mk t n).h) (g := g) (ps := ps) (assign := ca) (body := cb) e1 hb h3 (o := o) h5
      rw [set_heap s2.t n n none s2.n]
      exact hxr
    split at h7
    · exact .inl ⟨T, ⟨s2.t.set n none, s2.n⟩, fin .norm rfl, h7⟩
    · exact .inr ⟨.ret, T, ⟨s2.t.set n none, s2.n⟩, by simp, fin .ret rfl, h7⟩
    · exact .inr ⟨.exit _, T, ⟨s2.t.set n none, s2.n⟩, by simp, fin (.exit _) rfl, h7⟩
    · cases h7

theorem den_sound {tp : Bool} (hc : KOk P Γ call) (hy : YOk P Γ yl) (hq : QsOk P tp qs) (hm : P.follows .mixedOrders = true) (hN : N ≤ 100000) (L : Nat) {top : Bool} (htop : top = true → tp = true) : ∀ (c : Code), (xcode P c).wf N = true → SoundM P Γ tp N c (den P Γ call yl qs L N top (xcode P c))
  | .skip, _ => fun T t n kn ke r h => .inl ⟨T, ⟨t, n⟩, fun _ _ => EX.skip, h⟩
  | .region id ops false, hw => fun T t n kn ke r h => by
    simp only [xcode, XC.wf] at hw
    obtain ⟨T', s', h1, h2⟩ := qReg_sound hc hy hq _ (show qReg ((ops.toList.map (xoper P ops)).map (denO Γ call yl qs)) T t n kn = some r from h)
    exact .inl ⟨T', s', fun ro hro => EX.runR hro hN rfl hw h1, h2⟩
  | .region id ops true, hw => fun T t n kn ke r h => by
    simp only [xcode] at hw h
    split at h
    · rename_i hp
      rw [if_pos hp] at hw
      have h' : Option.rec (motive := fun _ => Ans) none (fun p => fN p.2.n fun n => kn p.1 p.2.t n) (runDraw (callD call) Γ _ _ T ⟨t, n⟩) = some r := h
      cases hd : runDraw (callD call) Γ (ops.toList.map (xoper P ops)) (mkPlan (ops.toList.map (xoper P ops)) (ops.toList.map fun o => (o.after.toList.filter (Region.binds .any ·)).map (·.on))) T ⟨t, n⟩ with
      | none => rw [hd] at h'; cases h'
      | some p =>
        rw [hd] at h'
        have h2 : fN p.2.n (fun n => kn p.1 p.2.t n) = some r := h'
        rw [fN_eq] at h2
        exact .inl ⟨p.1, p.2, fun ro _ => EX.drawn (callD_ok hc) hm hN rfl rfl (planOk_spec hp) (by simpa [XC.wf] using hw) hd, h2⟩
    · cases h
  | .seq a b, hw => fun T t n kn ke r h => by
    simp only [xcode, XC.wf, Bool.and_eq_true] at hw
    rcases den_sound hc hy hq hm hN L htop a hw.1 T t n _ _ r h with ⟨T1, s1, h1, h2⟩ | ⟨o, T1, s1, h0, h1, h2⟩
    · rcases den_sound hc hy hq hm hN L htop b hw.2 T1 s1.t s1.n _ _ r h2 with ⟨T2, s2, h3, h4⟩ | ⟨o, T2, s2, h0, h3, h4⟩
      · exact .inl ⟨T2, s2, fun ro hro => EX.seq (h1 ro hro) (h3 ro hro), h4⟩
      · exact .inr ⟨o, T2, s2, h0, fun ro hro => EX.seq (h1 ro hro) (h3 ro hro), h4⟩
    · exact .inr ⟨o, T1, s1, h0, fun ro hro => EX.seq_out (h1 ro hro) h0, h2⟩
  | .cond c a b, hw => fun T t n kn ke r h => by
    simp only [xcode, XC.wf, Bool.and_eq_true] at hw
    have h' : rd Γ (xopd c) T (fun d => d.onB fun x => Bool.rec (motive := fun _ => Ans) (den P Γ call yl qs L N top (xcode P b) T t n kn ke) (den P Γ call yl qs L N top (xcode P a) T t n kn ke) x) = some r := h
    have h0 := rd_some h'
    obtain ⟨x, hx, h1⟩ := D.onB_some h0
    cases x with
    | true =>
      rcases den_sound hc hy hq hm hN L htop a hw.1 T t n kn ke r h1 with ⟨T1, s1, h1, h2⟩ | ⟨o, T1, s1, h0, h1, h2⟩
      · exact .inl ⟨T1, s1, fun ro hro => EX.cond hx (by simpa using h1 ro hro), h2⟩
      · exact .inr ⟨o, T1, s1, h0, fun ro hro => EX.cond hx (by simpa using h1 ro hro), h2⟩
    | false =>
      rcases den_sound hc hy hq hm hN L htop b hw.2 T t n kn ke r h1 with ⟨T1, s1, h1, h2⟩ | ⟨o, T1, s1, h0, h1, h2⟩
      · exact .inl ⟨T1, s1, fun ro hro => EX.cond hx (by simpa using h1 ro hro), h2⟩
      · exact .inr ⟨o, T1, s1, h0, fun ro hro => EX.cond hx (by simpa using h1 ro hro), h2⟩
  | .block id c, hw => fun T t n kn ke r h => by
    simp only [xcode, XC.wf] at hw
    rcases den_sound hc hy hq hm hN L htop c hw T t n kn (blkE id kn ke) r h with ⟨T1, s1, h1, h2⟩ | ⟨o, T1, s1, h0, h1, h2⟩
    · exact .inl ⟨T1, s1, fun ro hro => EX.block (id := id) (h1 ro hro), h2⟩
    · have hb : ∀ ro, (tp = true → ro = none) → EX P Γ ro N (.block id c) (tm T) (S.mk t n).h (o.inBlock id) (tm T1) s1.h := fun ro hro => EX.block (id := id) (h1 ro hro)
      cases o with
      | norm => exact absurd rfl h0
      | ret => exact .inr ⟨.ret, T1, s1, by simp, hb, h2⟩
      | exit i =>
        have h3 : Bool.rec (motive := fun _ => Ans) (ke (.exit i) T1 s1.t s1.n) (kn T1 s1.t s1.n) (Nat.beq i id) = some r := h2
        simp only [O.inBlock] at hb
        cases hi : Nat.beq i id with
        | true =>
          rw [hi] at h3
          rw [if_pos (Nat.eq_of_beq_eq_true hi)] at hb
          exact .inl ⟨T1, s1, hb, h3⟩
        | false =>
          rw [hi] at h3
          rw [if_neg (fun e => by rw [e, Nat.beq_refl] at hi; cases hi)] at hb
          exact .inr ⟨.exit i, T1, s1, by simp, hb, h3⟩
  | .loop c, hw => fun T t n kn ke r h => by
    simp only [xcode, XC.wf] at hw
    have key : ∀ (L' : Nat) (T : Tr D) (t : Tr AObj) (n : Nat), mLoop L' (den P Γ call yl qs L N top (xcode P c)) T t n kn ke = some r →
        ∃ (o : O) (T' : Tr D) (s' : S), o ≠ .norm ∧ (∀ ro, (tp = true → ro = none) → LX P Γ ro N c L' (tm T) (S.mk t n).h o (tm T') s'.h) ∧ ke o T' s'.t s'.n = some r := by
      intro L'
      induction L' with
      | zero => intro T t n h; cases h
      | succ L' ih =>
        intro T t n h
        have h' : den P Γ call yl qs L N top (xcode P c) T t n (fun T t n => mLoop L' (den P Γ call yl qs L N top (xcode P c)) T t n kn ke) ke = some r := h
        rcases den_sound hc hy hq hm hN L htop c hw T t n _ _ r h' with ⟨T1, s1, h1, h2⟩ | ⟨o, T1, s1, h0, h1, h2⟩
        · obtain ⟨o, T2, s2, h3, h4, h5⟩ := ih T1 s1.t s1.n h2
          exact ⟨o, T2, s2, h3, fun ro hro => LX.more (h1 ro hro) (h4 ro hro), h5⟩
        · exact ⟨o, T1, s1, h0, fun ro hro => LX.out (h1 ro hro) h0 L', h2⟩
    obtain ⟨o, T', s', h1, h2, h3⟩ := key L T t n h
    exact .inr ⟨o, T', s', h1, fun ro hro => EX.loop (h2 ro hro), h3⟩
  | .exit id, _ => fun T t n kn ke r h => .inr ⟨.exit id, T, ⟨t, n⟩, by simp, fun _ _ => EX.exit, h⟩
  | .label l, _ => fun T t n kn ke r h => .inl ⟨T, ⟨t, n⟩, fun _ _ => EX.label, h⟩
  | .ret, _ => fun T t n kn ke r h => .inr ⟨.ret, T, ⟨t, n⟩, by simp, fun _ _ => EX.ret, h⟩
  | .rangeFunc f ps a b, _ => by
    cases top with
    | false => intro T t n kn ke r h; cases h
    | true =>
      have := htop rfl
      subst this
      exact mRange_sound hc f ps a b
  | .scope c, _ => fun T t n kn ke r h => by cases h
  | .goto l, _ => fun T t n kn ke r h => by cases h
  | .refuse r', _ => fun T t n kn ke r h => by cases h
end

/-! ### Rounds -/

/-- The assignment to a loop's variables: nothing, or one move. -/
def asgC (P : Program) (Γ : Nat → D) (assign : Code) (N : Nat) (T : Tr D) (c : Tr D → Ans) : Ans :=
  match xcode P assign with
  | .skip => c T
  | .region [⟨some x, .mv y, none⟩] => Bool.rec (motive := fun _ => Ans) none (rd Γ y T fun d => d.okC (T.putC x (some d) c)) (Nat.blt x N)
  | _ => none

def busyK (P : Program) (Γ : Nat → D) (call : CallK) (yl : YldK) (L : Nat) (l : Nat) (T : Tr D) (N : Nat) (ps : List Nat) (assign body : Code) (args : List D) (t : Tr AObj) (n : Nat) (k : D → Tr AObj → Nat → Ans) : Ans :=
  asgC P Γ assign N (putPs ps args T) fun T2 => t.putC l (some (.loop T N ps assign body .busy)) fun t => den P Γ call yl (fun _ => false) L N false (xcode P body) T2 t n
    (fun _ t n => t.getC l fun o => o.onL fun T N ps a b st => match st with | .busy => t.putC l (some (.loop T N ps a b .ready)) fun t => k (.b true) t n | _ => none)
    (fun o _ t n => t.getC l fun ob => ob.onL fun T N ps a b st => match st, o with | .busy, .ret => t.putC l (some (.loop T N ps a b (.done .ret))) fun t => k (.b false) t n | .busy, .exit i => t.putC l (some (.loop T N ps a b (.done (.exit i)))) fun t => k (.b false) t n | _, _ => none)

def runY (P : Program) (Γ : Nat → D) (call : CallK) (yl : YldK) (L : Nat) : YldK := fun l args t n k => t.getC l fun o => o.onL fun T N ps assign body st =>
  match st with
  | .ready => Bool.rec (motive := fun _ => Ans) none (busyK P Γ call yl L l T N ps assign body args t n k) (Nat.beq args.length ps.length && (ps.all fun p => Nat.blt p N) && (xcode P body).wf N && Nat.ble N 100000)
  | _ => none

theorem asgC_sound {P : Program} {Γ : Nat → D} {assign : Code} {N : Nat} {T : Tr D} {c : Tr D → Ans} {r : D × S} (hN : N ≤ 100000) (h : asgC P Γ assign N T c = some r) (s : S) : ∃ T2, (∀ ro, EX P Γ ro N assign (tm T) s.h .norm (tm T2) s.h) ∧ c T2 = some r := by
  unfold asgC at h
  split at h
  · rename_i hx
    cases assign with
    | skip => exact ⟨T, fun _ => EX.skip, h⟩
    | region id ops b => cases b <;> simp only [xcode] at hx <;> first | (split at hx <;> cases hx) | cases hx
    | _ => simp [xcode] at hx
  · rename_i x y hx
    cases assign with
    | region id ops b =>
      cases b with
      | true => simp only [xcode] at hx; split at hx <;> cases hx
      | false =>
        simp only [xcode, XC.region.injEq] at hx
        cases hb : Nat.blt x N with
        | false => rw [hb] at h; cases h
        | true =>
          rw [hb] at h
          have h1 : rd Γ y T (fun d => d.okC (T.putC x (some d) c)) = some r := h
          have h2 := rd_some h1
          obtain ⟨h3, h4⟩ := D.okC_some h2
          rw [Tr.putC_eq] at h4
          refine ⟨T.set x (some (evT Γ (tm T) y)), fun ro => ?_, h4⟩
          refine EX.runR (tp := false) (fun h => by cases h) hN (xs := [⟨some x, .mv y, none⟩]) hx.symm (by simp [wfOp, hb]) (.cons (.inr ⟨rfl, _, rfl, OpR.val (P := P) (t := s.t) (n := s.n) rfl (by simp only [aop, h3, if_true])⟩) (.nil _ _))
    | _ => simp [xcode] at hx
  · cases h

section
variable {P : Program} {Γ : Nat → D} {call : CallK} {yl : YldK}

theorem runY_sound (hc : KOk P Γ call) (hy : YOk P Γ yl) (hm : P.follows .mixedOrders = true) (L : Nat) : YOk P Γ (runY P Γ call yl L) := by
  intro l args t n k r h
  unfold runY at h
  obtain ⟨o, hg, h1⟩ := Tr.getC_some h
  obtain ⟨T, N, ps, assign, body, st, rfl, h2⟩ := AObj.onL_some h1
  split at h2
  · cases hb : (Nat.beq args.length ps.length && (ps.all fun p => Nat.blt p N) && (xcode P body).wf N && Nat.ble N 100000) with
    | false => rw [hb] at h2; cases h2
    | true =>
      rw [hb] at h2
      have h3 : busyK P Γ call yl L l T N ps assign body args t n k = some r := h2
      simp only [Bool.and_eq_true] at hb
      obtain ⟨⟨⟨b1, b2⟩, b3⟩, b4⟩ := hb
      have hlen := Nat.eq_of_beq_eq_true b1
      have hN := Nat.le_of_ble_eq_true b4
      unfold busyK at h3
      obtain ⟨T2, hasg, h3⟩ := asgC_sound hN h3 ⟨t, n⟩
      rw [Tr.putC_eq] at h3
      have hgh : (S.mk t n).h.get l = some (.loop T N ps assign body .ready) := hg
      have run : SoundM P Γ false N body (den P Γ call yl (fun _ => false) L N false (xcode P body)) := den_sound hc hy (fun f hf => by cases hf) hm hN L (fun h => by cases h) body b3
      have key : ∀ (o : O) (T3 : Tr D) (s3 : S), EXt P Γ false N body (tm T2) (S.mk (t.set l (some (.loop T N ps assign body .busy))) n).h o (tm T3) s3.h → ∀ T' N' ps' as' bo', s3.t.get l = some (.loop T' N' ps' as' bo' .busy) →
          YX P Γ l args (S.mk t n).h (.b (okO o)) (S.mk (s3.t.set l (some (.loop T' N' ps' as' bo' (stOf o)))) s3.n).h := by
        intro o T3 s3 hx T' N' ps' as' bo' hg3
        have := YX.run (P := P) (Γ := Γ) (h := (S.mk t n).h) (o := o) (h2 := s3.h) (T3 := tm T3) hgh hlen b2 (fun b => hasg (some b)) (fun b => by
          have := hx (some b) (fun h => by cases h)
          rw [set_heap t n l _ n] at this
          exact this) (hg2 := hg3)
        rw [set_heap s3.t s3.n l _ s3.n]
        exact this
      rcases run _ _ _ _ _ _ h3 with ⟨T3, s3, hx, h4⟩ | ⟨o, T3, s3, h0, hx, h4⟩
      · obtain ⟨ob, h5, h6⟩ := Tr.getC_some h4
        obtain ⟨T', N', ps', as', bo', st', rfl, h7⟩ := AObj.onL_some h6
        split at h7
        · rw [Tr.putC_eq] at h7
          exact ⟨_, _, key .norm T3 s3 hx T' N' ps' as' bo' h5, h7⟩
        · cases h7
      · obtain ⟨ob, h5, h6⟩ := Tr.getC_some h4
        obtain ⟨T', N', ps', as', bo', st', rfl, h7⟩ := AObj.onL_some h6
        split at h7
        · rw [Tr.putC_eq] at h7
          exact ⟨_, _, key .ret T3 s3 hx T' N' ps' as' bo' h5, h7⟩
        · rw [Tr.putC_eq] at h7
          exact ⟨_, _, key (.exit _) T3 s3 hx T' N' ps' as' bo' h5, h7⟩
        · cases h7
  · cases h2

end

/-! ### Functions -/

structure CFn where
  ntmps : Nat
  res : List XRes
  body : Program → (Nat → D) → CallK → YldK → (Nat → Bool) → Nat → MM

abbrev Prim := List D → Tr AObj → Nat → (D → Tr AObj → Nat → Ans) → Ans

inductive CEnt where
  | code (c : CFn)
  | prim (p : Prim)

/-- The loops over functions of a code, with what they assign and their bodies. -/
def rangesOf : Code → List (Code × Code)
  | .seq a b => rangesOf a ++ rangesOf b
  | .cond _ a b => rangesOf a ++ rangesOf b
  | .block _ c => rangesOf c
  | .loop c => rangesOf c
  | .rangeFunc _ _ a b => [(a, b)]
  | _ => []
def rgA (fn : Func) (k : Nat) : Code := (((fn.body.map rangesOf).getD []).getD k (.skip, .skip)).1
def rgB (fn : Func) (k : Nat) : Code := (((fn.body.map rangesOf).getD []).getD k (.skip, .skip)).2

def compX (x : XFn) : CFn := ⟨x.ntmps, x.res, fun P Γ call yl qs L => den P Γ call yl qs L x.ntmps true x.body⟩

def okL (ds : List D) (a : Ans) : Ans := List.rec (motive := fun _ => Ans) a (fun d _ ih => d.okC ih) ds
def resC (ds : List D) (c : D → Ans) : Ans := List.rec (motive := fun _ => Ans) (c (.tup ds)) (fun d l _ => List.rec (motive := fun _ => Ans) (c d) (fun _ _ _ => c (.tup ds)) l) ds
def qRes (res : List XRes) (k : D → Tr AObj → Nat → Ans) : KK := fun T t n => fLg fD (res.map (resX t.get (tm T))) fun ds => okL ds (resC ds fun d => k d t n)
def outE (res : List XRes) (k : D → Tr AObj → Nat → Ans) (o : O) : KK := fun T t n => O.rec (motive := fun _ => Ans) none (qRes res k T t n) (fun _ => none) o
def putAC (args : List D) : Nat → Tr D → (Tr D → Ans) → Ans := List.rec (motive := fun _ => Nat → Tr D → (Tr D → Ans) → Ans) (fun _ T c => c T) (fun d _ ih i T c => T.putC i (some d) fun T => ih (i + 1) T c) args
def runC (P : Program) (Γ : Nat → D) (call : CallK) (yl : YldK) (qs : Nat → Bool) (L : Nat) (c : CFn) : Prim := fun args t n k =>
  Bool.rec (motive := fun _ => Ans) none (putAC args 0 .e fun T => c.body P Γ call yl qs L T t n (qRes c.res k) (outE c.res k)) (Nat.ble args.length c.ntmps)
def runE (P : Program) (Γ : Nat → D) (call : CallK) (yl : YldK) (qs : Nat → Bool) (L : Nat) (e : CEnt) : Prim := CEnt.rec (motive := fun _ => Prim) (fun c => runC P Γ call yl qs L c) (fun p => p) e
def kyC (P : Program) (tab : Tr CEnt) (Γ : Nat → D) (qs : Nat → Bool) (L : Nat) (fuel : Nat) : CallK × YldK :=
  Nat.rec (motive := fun _ => CallK × YldK) (fun _ _ _ _ _ => none, fun _ _ _ _ _ => none) (fun _ ih => (fun f args t n k => tab.getC f fun e => runE P Γ ih.1 ih.2 qs L e args t n k, runY P Γ ih.1 ih.2 L)) fuel

/-- What is asked of an entry. -/
def EntOk (P : Program) (Γ : Nat → D) (f : FuncId) (e : CEnt) : Prop :=
  match e with
  | .code c => ∃ fn x, P.funcs[f]? = some fn ∧ xfn P fn = some x ∧ fn.name ≠ "runtime.NumGoroutine" ∧ x.body.wf x.ntmps = true ∧ x.ntmps ≤ 100000 ∧ compX x = c
  | .prim p => ∀ (args : List D) (t : Tr AObj) (n : Nat) (k : D → Tr AObj → Nat → Ans) (r : D × S), p args t n k = some r → ∃ (d : D) (s' : S), CX P Γ f args (S.mk t n).h d s'.h ∧ k d s'.t s'.n = some r

def TabOk (P : Program) (Γ : Nat → D) (tab : Tr CEnt) : Prop := ∀ f e, tab.get f = some e → EntOk P Γ f e

theorem putAC_eq : ∀ (args : List D) (i : Nat) (T : Tr D) (c : Tr D → Ans), putAC args i T c = c (putArgs args i T)
  | [], _, _, _ => rfl
  | d :: ds, i, T, c => by
    show T.putC i (some d) (fun T => putAC ds (i + 1) T c) = _
    rw [Tr.putC_eq, putAC_eq ds]; rfl

theorem okL_some {r : D × S} {a : Ans} : ∀ {ds : List D}, okL ds a = some r → ds.all D.ok = true ∧ a = some r
  | [], h => ⟨rfl, h⟩
  | d :: ds, h => by
    obtain ⟨h1, h2⟩ := D.okC_some (d := d) (a := okL ds a) h
    obtain ⟨h3, h4⟩ := okL_some h2
    exact ⟨by simp [h1, h3], h4⟩

theorem resC_eq (ds : List D) (c : D → Ans) : resC ds c = c (resD ds) := by
  match ds with
  | [] => rfl
  | [d] => rfl
  | d :: e :: l => rfl

section
variable {P : Program} {Γ : Nat → D} {tab : Tr CEnt}

theorem kyC_sound (hT : TabOk P Γ tab) {qs : Nat → Bool} (hq : QsOk P true qs) (hm : P.follows .mixedOrders = true) (L : Nat) : ∀ fuel, KOk P Γ (kyC P tab Γ qs L fuel).1 ∧ YOk P Γ (kyC P tab Γ qs L fuel).2
  | 0 => ⟨fun f args t n k r h => (by cases h), fun f args t n k r h => (by cases h)⟩
  | fuel + 1 => by
    obtain ⟨ih, ihy⟩ := kyC_sound hT hq hm L fuel
    refine ⟨?_, runY_sound ih ihy hm L⟩
    intro f args t n k r h
    have h' : tab.getC f (fun e => runE P Γ (kyC P tab Γ qs L fuel).1 (kyC P tab Γ qs L fuel).2 qs L e args t n k) = some r := h
    obtain ⟨e, he, h1⟩ := Tr.getC_some h'
    have hE := hT f e he
    cases e with
    | prim p => exact hE args t n k r h1
    | code c =>
      obtain ⟨fn, x, e1, e2, e3, e4, e5, rfl⟩ := hE
      have h2 : Bool.rec (motive := fun _ => Ans) none (putAC args 0 .e fun T => den P Γ (kyC P tab Γ qs L fuel).1 (kyC P tab Γ qs L fuel).2 qs L x.ntmps true x.body T t n (qRes x.res k) (outE x.res k)) (Nat.ble args.length x.ntmps) = some r := h1
      cases hb : Nat.ble args.length x.ntmps with
      | false => rw [hb] at h2; cases h2
      | true =>
        rw [hb] at h2
        have h3 : putAC args 0 .e (fun T => den P Γ (kyC P tab Γ qs L fuel).1 (kyC P tab Γ qs L fuel).2 qs L x.ntmps true x.body T t n (qRes x.res k) (outE x.res k)) = some r := h2
        rw [putAC_eq] at h3
        have hla := Nat.le_of_ble_eq_true hb
        simp only [xfn, Option.bind_eq_bind, Option.bind_eq_some_iff, Option.pure_def, Option.some.injEq] at e2
        obtain ⟨b, hbody, rs, hrs, rfl⟩ := e2
        simp only at e4 e5 h3 hla
        have eT : tm (putArgs args 0 .e) = argT args := by
          funext m
          rw [tm_putArgs]
          simp only [argT, Nat.zero_le, true_and, Nat.zero_add, Nat.sub_zero]
          split
          · rfl
          · rename_i hn
            have e1 : tm .e m = .bad := rfl
            rw [e1, List.getD_eq_getElem?_getD, List.getElem?_eq_none (by omega)]; rfl
        have fin : ∀ (o : O) (T' : Tr D) (s1 : S), (o = .norm ∨ o = .ret) → EX P Γ none fn.ntmps b (tm (putArgs args 0 .e)) (S.mk t n).h o (tm T') s1.h → qRes rs k T' s1.t s1.n = some r → ∃ (d : D) (s' : S), CX P Γ f args (S.mk t n).h d s'.h ∧ k d s'.t s'.n = some r := by
          intro o T' s1 ho hex hres
          unfold qRes at hres
          rw [fLg_eq fD_eq] at hres
          obtain ⟨hok, h5⟩ := okL_some hres
          rw [resC_eq] at h5
          rw [eT] at hex
          refine ⟨_, s1, CX.of e1 hbody e3 hla hrs ho hex ?_, h5⟩
          rw [List.all_map] at hok
          exact hok
        rcases den_sound ih ihy hq hm e5 L (fun h => h) b e4 _ t n _ _ r h3 with ⟨T1, s1, h4, h5⟩ | ⟨o, T1, s1, h0, h4, h5⟩
        · exact fin .norm T1 s1 (.inl rfl) (h4 none (fun _ => rfl)) h5
        · cases o with
          | norm => exact absurd rfl h0
          | ret => exact fin .ret T1 s1 (.inr rfl) (h4 none (fun _ => rfl)) h5
          | exit i => cases h5

/-- The run of a call. -/
def runTop (P : Program) (tab : Tr CEnt) (Γ : Nat → D) (qs : Nat → Bool) (L fuel : Nat) (f : FuncId) (args : List D) (s : S) : Ans := (kyC P tab Γ qs L fuel).1 f args s.t s.n fun d t n => some (d, ⟨t, n⟩)

theorem runTop_sound (hT : TabOk P Γ tab) {qs : Nat → Bool} (hq : QsOk P true qs) (hm : P.follows .mixedOrders = true) {L fuel : Nat} {f : FuncId} {args : List D} {s : S} {d : D} {s' : S} (h : runTop P tab Γ qs L fuel f args s = some (d, s')) : CX P Γ f args s.h d s'.h := by
  obtain ⟨d1, s1, h1, h2⟩ := (kyC_sound hT hq hm L fuel).1 _ _ _ _ _ _ h
  simp only [Option.some.injEq, Prod.mk.injEq] at h2
  obtain ⟨rfl, rfl⟩ := h2
  exact h1

end
end
end Go.Abs
end
noncomputable section
namespace Go.Abs
open Go

section
variable {P : Program} {Γ : Nat → D} {I : Nat → Prop} {μ : Emb} {h : AHeap} {w : World}

/-- A function with a body. -/
theorem CX.body {f : FuncId} {fn : Func} (hf : P.funcs[f]? = some fn) (hb : fn.body.isSome = true) (hname : (fn.name == "runtime.NumGoroutine") = false) {args : List D} {d : D} {h' : AHeap}
    (hx : ∀ I μ w (vals : List Value), HR Γ I μ h w → Rl I μ w args vals → Calls P f vals.toArray w fun e w' => ∃ v, e = .returned v ∧ ∃ μ', ExtN I μ h w μ' h' w' ∧ HR Γ I μ' h' w' ∧ R I μ' w' d v) : CX P Γ f args h d h' := by
  intro I μ w vals H hl
  obtain ⟨c, hc⟩ := Option.isSome_iff_exists.1 hb
  refine .inl ⟨?_, (hx I μ w vals H hl).mono fun e w' he => ?_⟩
  · simp [callFunc, hf, by simpa using hname, hc]
  · obtain ⟨v, rfl, k⟩ := he
    exact k

/-- A function of the model's own. -/
theorem CX.ext {f : FuncId} {args : List D} {d : D}
    (hx : ∀ I μ w (vals : List Value), HR Γ I μ h w → Rl I μ w args vals → ∃ v, (callFunc f vals.toArray).run P w = .ok (.value v) w ∧ R I μ w d v) : CX P Γ f args h d h := by
  intro I μ w vals H hl
  obtain ⟨v, h1, h2⟩ := hx I μ w vals H hl
  exact .inr ⟨v, w, h1, μ, ExtN.refl _ _ _ _, H, h2⟩

theorem Rl_nil {vals : List Value} (h : Rl I μ w [] vals) : vals = [] := by cases h; rfl
theorem Rl_cons {d : D} {ds : List D} {vals : List Value} (h : Rl I μ w (d :: ds) vals) : ∃ v vs, vals = v :: vs ∧ R I μ w d v ∧ Rl I μ w ds vs := by
  cases h with
  | cons a b => exact ⟨_, _, rfl, a, b⟩

theorem R_ptr {l off : Nat} {v : Value} (h : R I μ w (.ptr l off) v) : ∃ b base, μ l = some (b, base) ∧ v = .pointer (some ⟨b, base + off, none⟩) := by
  cases h with
  | ptr _ _ b base hm => exact ⟨b, base, hm, rfl⟩

theorem Only.drew {b : Nat} (w : World) : Only b w w.drew := ⟨rfl, rfl, rfl, rfl, fun _ _ x => x, fun _ _ => rfl⟩

theorem Only.trans' {b : Nat} {w w1 w2 : World} (A : Only b w w1) (B : Only b w1 w2) : Only b w w2 :=
  ⟨B.size.trans A.size, B.os.trans A.os, B.tape.trans A.tape, B.output.trans A.output, fun c n x => B.rows c n (A.rows c n x), fun c hc => (B.same c hc).trans (A.same c hc)⟩

theorem Only.freeze {w : World} {b : Nat} {c : Array Value} {elem : TypeId} {lo hi : Nat} (hb : w.heap[b]? = some (.cells c elem (lo, hi))) (o n : Nat) : Only b w (w.freeze ⟨b, o, none⟩ n) := by
  by_cases hn0 : n = 0
  · subst hn0
    exact ⟨rfl, rfl, rfl, rfl, fun _ _ x => x, fun _ _ => rfl⟩
  refine ⟨by simp [World.freeze, hn0], by simp [World.freeze, hn0], by simp [World.freeze, hn0], by simp [World.freeze, hn0], fun x m hn => ?_, fun x hx => by simp [World.freeze, hn0, Array.getElem?_modify, Ne.symm hx]⟩
  by_cases hx : x = b
  · subst hx
    rw [rowSize_cells hb] at hn
    simp [rowSize, World.freeze, hn0, Array.getElem?_modify, hb] at hn ⊢
    exact hn
  · unfold rowSize at hn ⊢
    simpa [World.freeze, hn0, Array.getElem?_modify, Ne.symm hx] using hn

end

/-- The bytes of cells. -/
def bytesD : List D → Option (List UInt8)
  | [] => some []
  | .i .u8 n :: r =>
    match bytesD r with
    | some l => if 0 ≤ n ∧ n < 256 then some (UInt8.ofNat n.toNat :: l) else none
    | none => none
  | _ => none

theorem bytesD_spec : ∀ {cs : List D} {l : List UInt8}, bytesD cs = some l → cs = l.map byteD
  | [], l, h => by
    simp only [bytesD, Option.some.injEq] at h
    subst h; rfl
  | d :: r, l, h => by
    unfold bytesD at h
    split at h
    · cases ‹d :: r = []›
    · rename_i n r' heq
      cases heq
      split at h
      · rename_i l' hl'
        split at h
        · rename_i hn
          simp only [Option.some.injEq] at h
          subst h
          have ih := bytesD_spec hl'
          rw [List.map_cons, ← ih]
          congr 1
          unfold byteD
          congr 1
          have : n.toNat < 256 := by omega
          show n = ((UInt8.ofNat n.toNat).toNat : Int)
          rw [UInt8.toNat_ofNat_of_lt' (by simpa using this)]
          omega
        · cases h
      · cases h
    · cases h

/-! ### Tables -/

theorem EntOk.ofMap {P : Program} {Γ : Nat → D} {f : FuncId} {fn : Func} {c : CFn} (hf : P.funcs[f]? = some fn) (he : (xfn P fn).map compX = some c) (hw : (xfn P fn).map (fun x => x.body.wf x.ntmps && Nat.ble x.ntmps 100000) = some true) (hn : (fn.name == "runtime.NumGoroutine") = false) : EntOk P Γ f (.code c) := by
  obtain ⟨x, hx, hc⟩ := Option.map_eq_some_iff.1 he
  rw [hx] at hw
  simp only [Option.map_some, Option.some.injEq, Bool.and_eq_true] at hw
  exact ⟨fn, x, hf, hx, by simpa using hn, hw.1, Nat.le_of_ble_eq_true hw.2, hc⟩

def TrAll {α : Type} (Q : Nat → α → Prop) : Tr α → (Nat → Nat) → Prop
  | .e, _ => True
  | .n l v r, p => (∀ a, v = some a → Q (p 0) a) ∧ TrAll Q l (fun j => p (2 * j + 1)) ∧ TrAll Q r (fun j => p (2 * j + 2))

theorem TrAll.get {α : Type} {Q : Nat → α → Prop} : ∀ {t : Tr α} {p : Nat → Nat}, TrAll Q t p → ∀ {k : Nat} {a : α}, t.get k = some a → Q (p k) a
  | .e, _, _, k, a, h => by cases h
  | .n l v r, p, hq, 0, a, h => hq.1 a h
  | .n l v r, p, hq, q + 1, a, h => by
    rw [Tr.get_ns] at h
    by_cases hb : Nat.beq (q % 2) 0 = true
    · rw [if_pos hb] at h
      have := TrAll.get hq.2.1 h
      have e : 2 * (q / 2) + 1 = q + 1 := by have := Nat.eq_of_beq_eq_true hb; omega
      rw [e] at this; exact this
    · rw [if_neg hb] at h
      have := TrAll.get hq.2.2 h
      have e : 2 * (q / 2) + 2 = q + 1 := by
        have h1 : q % 2 ≠ 0 := fun h0 => hb (by rw [h0]; rfl)
        omega
      rw [e] at this; exact this

theorem someQ {α : Type} {Q : α → Prop} {a : α} (h : Q a) : ∀ b, some a = some b → Q b := fun b e => by cases e; exact h
theorem noneQ {α : Type} {Q : α → Prop} : ∀ b, (none : Option α) = some b → Q b := fun b e => by cases e

end Go.Abs
end
noncomputable section
namespace Go.Abs
open Go

/-- A region whose order is drawn, in which nothing is made anew. -/
inductive RunD (Γ : Nat → D) (call : CallF) : List XOper → Tr D → S → Tr D → S → Prop
  | nil (T : Tr D) (s : S) : RunD Γ call [] T s T s
  | skip {x : XOper} {xs : List XOper} {T T2 : Tr D} {s s2 : S} : guardX (tm T) x.guard = some false → RunD Γ call xs (putT T x.dst (.tup [])) s T2 s2 → RunD Γ call (x :: xs) T s T2 s2
  | val {x : XOper} {xs : List XOper} {T T2 : Tr D} {s s2 : S} {d : D} : guardX (tm T) x.guard = some true → x.op.writes = false → insOf x.op = none → (∀ m, aop s.t.get m (evT Γ (tm T)) x.op = .val d) → RunD Γ call xs (putT T x.dst d) s T2 s2 → RunD Γ call (x :: xs) T s T2 s2
  | upd {x : XOper} {xs : List XOper} {T T2 : Tr D} {s s2 : S} {d : D} {l : Nat} {o : AObj} : guardX (tm T) x.guard = some true → x.op.writes = true → callOf x.op = none → (∀ m, aop s.t.get m (evT Γ (tm T)) x.op = .upd l o d) → RunD Γ call xs (putT T x.dst d) ⟨s.t.set l (some o), s.n + 1⟩ T2 s2 → RunD Γ call (x :: xs) T s T2 s2
  | call {x : XOper} {xs : List XOper} {T T2 : Tr D} {s s1 s2 : S} {d : D} {fo : Opd} {args : List Opd} {f : FuncId} {first caps : List D} : guardX (tm T) x.guard = some true → x.op = .call fo args → evT Γ (tm T) fo = .fn (.func f) first caps → (args.all fun y => (evT Γ (tm T) y).ok) = true →
      call f (first ++ args.map (evT Γ (tm T)) ++ caps) s = some (d, s1) → s.n ≤ s1.n → RunD Γ call xs (putT T x.dst d) s1 T2 s2 → RunD Γ call (x :: xs) T s T2 s2

section
variable {P : Program} {Γ : Nat → D} {call : CallF}

/-- What a pass over such a region hands back. -/
def PlainOut (R : Out) (T' : Tr D) (s s' : S) : Prop :=
  R.T = T' ∧ R.s = s' ∧ (∀ o ∈ R.obs, o = none) ∧ (∀ g ∈ R.gs, g.2 = [] ∧ s.n ≤ g.1.n) ∧ R.lits = [] ∧ R.fls = [] ∧ R.ab = [] ∧ s.n ≤ s'.n

theorem writes_call {x : XOp} {fo : Opd} {args : List Opd} (h : x = .call fo args) : x.writes = true := by subst h; rfl

theorem headD_eq (plan : List PlanE) (hp : (plan.all fun p => Nat.beq p.lo p.hi) = true) : Nat.beq (plan.headD default).lo (plan.headD default).hi = true := by
  cases plan with
  | nil => rfl
  | cons p r => simp only [List.all_cons, Bool.and_eq_true] at hp; exact hp.1

theorem tail_eq (plan : List PlanE) (hp : (plan.all fun p => Nat.beq p.lo p.hi) = true) : (plan.tail.all fun p => Nat.beq p.lo p.hi) = true := by
  cases plan with
  | nil => rfl
  | cons p r => simp only [List.all_cons, Bool.and_eq_true] at hp; exact hp.2



theorem pass_plain {base : Nat} : ∀ {xs : List XOper} {plan : List PlanE} {i : Nat} {T T' : Tr D} {s s' : S}, RunD Γ call xs T s T' s' → (plan.all fun p => Nat.beq p.lo p.hi) = true →
    ∃ R, pass call Γ base xs plan i T s [] [] = some R ∧ PlainOut R T' s s' := by
  intro xs plan i T T' s s' hr
  induction hr generalizing plan i with
  | nil T s => intro _; exact ⟨_, rfl, rfl, rfl, by simp, by simp, rfl, rfl, rfl, Nat.le_refl _⟩
  | @skip x xs T T2 s s2 hg _ ih =>
    intro hp
    obtain ⟨R, h1, h2⟩ := ih (plan := plan.tail) (i := i + 1) (tail_eq _ hp)
    have ho : one call Γ base x (plan.headD default) i T s [] [] = some ⟨.tup [], none, none, false, s, [], []⟩ := by simp only [one, hg]
    refine ⟨Out.cons ⟨.tup [], none, none, false, s, [], []⟩ x (plan.headD default) i T R, by simp only [pass, ho, h1], ?_⟩
    obtain ⟨a1, a2, a3, a4, a5, a6, a7, a8⟩ := h2
    refine ⟨a1, a2, ?_, ?_, a5, a6, a7, a8⟩
    · intro o ho; rcases List.mem_cons.1 ho with h | h
      · exact h
      · exact a3 o h
    · intro g hg
      simp only [Out.cons] at hg
      split at hg
      · rcases List.mem_cons.1 hg with h | h
        · subst h; exact ⟨rfl, Nat.le_refl _⟩
        · exact a4 g h
      · exact a4 g hg
  | @val x xs T T2 s s2 d hg hw hi ha _ ih =>
    intro hp
    obtain ⟨R, h1, h2⟩ := ih (plan := plan.tail) (i := i + 1) (tail_eq _ hp)
    have hh := headD_eq _ hp
    have hget : (if x.op.mem = true then see s.t base (plan.headD default).pre [] else s.t.get) = s.t.get := by
      split
      · rfl
      · rfl
    have ho : one call Γ base x (plan.headD default) i T s [] [] = some ⟨d, none, none, false, s, [], []⟩ := by
      simp only [one, hg, hw, hi, Bool.false_eq_true, if_false, hget, ha (base + i), hh, Bool.not_true, Bool.and_false]
    refine ⟨Out.cons ⟨d, none, none, false, s, [], []⟩ x (plan.headD default) i T R, by simp only [pass, ho, h1], ?_⟩
    obtain ⟨a1, a2, a3, a4, a5, a6, a7, a8⟩ := h2
    refine ⟨a1, a2, ?_, ?_, a5, a6, a7, a8⟩
    · intro o ho; rcases List.mem_cons.1 ho with h | h
      · exact h
      · exact a3 o h
    · intro g hg
      simp only [Out.cons, hw, Bool.false_eq_true, if_false] at hg
      exact a4 g hg
  | @upd x xs T T2 s s2 d l o hg hw hc ha _ ih =>
    intro hp
    obtain ⟨R, h1, h2⟩ := ih (plan := plan.tail) (i := i + 1) (tail_eq _ hp)
    have hs : stepS call Γ T ⟨absorbT base (plan.headD default).pre [] s.t, s.n⟩ x.op = some (d, ⟨s.t.set l (some o), s.n + 1⟩) := by
      have : absorbT base (plan.headD default).pre [] s.t = s.t := rfl
      rw [this, stepS_op hc]
      simp only [ha, AR.onS]
    have ho : one call Γ base x (plan.headD default) i T s [] [] = some ⟨d, none, none, false, ⟨s.t.set l (some o), s.n + 1⟩, [], []⟩ := by
      have hle : Nat.ble s.n (s.n + 1) = true := Nat.ble_eq_true_of_le (Nat.le_succ _)
      simp only [one, hg, hw, if_true, hs, hle, List.filter_nil, List.map_nil, List.append_nil]
    refine ⟨Out.cons ⟨d, none, none, false, ⟨s.t.set l (some o), s.n + 1⟩, [], []⟩ x (plan.headD default) i T R, by simp only [pass, ho, h1], ?_⟩
    obtain ⟨a1, a2, a3, a4, a5, a6, a7, a8⟩ := h2
    simp only at a4 a8
    refine ⟨a1, a2, ?_, ?_, a5, a6, a7, by omega⟩
    · intro o ho; rcases List.mem_cons.1 ho with h | h
      · exact h
      · exact a3 o h
    · intro g hg
      simp only [Out.cons, hw, if_true] at hg
      rcases List.mem_cons.1 hg with h | h
      · subst h; exact ⟨rfl, Nat.le_succ _⟩
      · exact ⟨(a4 g h).1, by have := (a4 g h).2; omega⟩
  | @call x xs T T2 s s1 s2 d fo args f first caps hg hop hf hok hcall hle _ ih =>
    intro hp
    obtain ⟨R, h1, h2⟩ := ih (plan := plan.tail) (i := i + 1) (tail_eq _ hp)
    have hw := writes_call hop
    have hs : stepS call Γ T ⟨absorbT base (plan.headD default).pre [] s.t, s.n⟩ x.op = some (d, s1) := by
      have : absorbT base (plan.headD default).pre [] s.t = s.t := rfl
      rw [this, hop]
      simp only [stepS, callOf, hf, hok, if_true, hcall]
    have ho : one call Γ base x (plan.headD default) i T s [] [] = some ⟨d, none, none, false, s1, [], []⟩ := by
      have hle' : Nat.ble s.n s1.n = true := Nat.ble_eq_true_of_le hle
      simp only [one, hg, hw, if_true, hs, hle', List.filter_nil, List.map_nil, List.append_nil]
    refine ⟨Out.cons ⟨d, none, none, false, s1, [], []⟩ x (plan.headD default) i T R, by simp only [pass, ho, h1], ?_⟩
    obtain ⟨a1, a2, a3, a4, a5, a6, a7, a8⟩ := h2
    refine ⟨a1, a2, ?_, ?_, a5, a6, a7, by omega⟩
    · intro o ho; rcases List.mem_cons.1 ho with h | h
      · exact h
      · exact a3 o h
    · intro g hg
      simp only [Out.cons, hw, if_true] at hg
      rcases List.mem_cons.1 hg with h | h
      · subst h; exact ⟨rfl, hle⟩
      · exact ⟨(a4 g h).1, by have := (a4 g h).2; omega⟩

theorem chkMask_none {base : Nat} {g : S × List Nat} : ∀ {obs : List (Option AObj)} {j : Nat}, (∀ o ∈ obs, o = none) → chkMask base g obs j = true
  | [], _, _ => rfl
  | o :: r, j, h => by
    have : o = none := h o (by simp)
    subst this
    exact chkMask_none (obs := r) (j := j + 1) fun o ho => h o (by simp [ho])

theorem chkHi_nil {plan : List PlanE} : ∀ {gs : List (S × List Nat)} {k : Nat}, (∀ g ∈ gs, g.2 = []) → chkHi plan gs k = true
  | [], _, _ => rfl
  | g :: r, k, h => by
    simp only [chkHi, h g (by simp), List.all_nil, Bool.true_and]
    exact chkHi_nil fun g hg => h g (by simp [hg])

theorem finT_none {base : Nat} {lits : List Lit} {OBS : List (Option AObj)} {ab : List Nat} : ∀ {r : List (Option AObj)} {j : Nat} {t : Tr AObj}, (∀ o ∈ r, o = none) → finT base lits OBS ab r j t = t
  | [], _, _, _ => rfl
  | o :: r, j, t, h => by
    have : o = none := h o (by simp)
    subst this
    exact finT_none (r := r) (j := j + 1) fun o ho => h o (by simp [ho])

theorem runDraw_plain {xs : List XOper} {plan : List PlanE} {T T' : Tr D} {s s' : S} (hp : (plan.all fun p => Nat.beq p.lo p.hi) = true) (hr : RunD Γ call xs T ⟨s.t, s.n + xs.length⟩ T' s') : runDraw call Γ xs plan T s = some (T', s') := by
  obtain ⟨R, h1, a1, a2, a3, a4, a5, a6, a7, a8⟩ := pass_plain (base := s.n) (i := 0) hr hp
  unfold runDraw
  rw [h1]
  have hc : check Γ xs plan s.n ((⟨s.t, s.n + xs.length⟩, []) :: R.gs) R = true := by
    have hall : ∀ g ∈ ((⟨s.t, s.n + xs.length⟩, []) :: R.gs : List (S × List Nat)), g.2 = [] ∧ s.n + xs.length ≤ g.1.n := by
      intro g hg
      rcases List.mem_cons.1 hg with h | h
      · subst h; exact ⟨rfl, Nat.le_refl _⟩
      · exact a4 g h
    simp only [check, Bool.and_eq_true]
    refine ⟨⟨⟨?_, chkHi_nil fun g hg => (hall g hg).1⟩, ?_⟩, ?_⟩
    · rw [List.all_eq_true]
      intro g hg
      rw [Bool.and_eq_true]
      exact ⟨Nat.ble_eq_true_of_le (hall g hg).2, chkMask_none a3⟩
    · rw [a5]; rfl
    · rw [a6]; rfl
  simp only [hc, if_true, finT_none a3, a1, a2]

/-! ### Code -/

def XE (P : Program) (Γ : Nat → D) (x : XC) (T : Tr D) (s : S) (o : O) (T' : Tr D) (s' : S) : Prop :=
  ∀ c N, xcode P c = x → x.wf N = true → N ≤ 100000 → EX P Γ none N c (tm T) s.h o (tm T') s'.h

/-- Rounds of a loop. -/
def XL (P : Program) (Γ : Nat → D) (x : XC) (T : Tr D) (s : S) (o : O) (T' : Tr D) (s' : S) : Prop :=
  ∀ c N, xcode P c = x → x.wf N = true → N ≤ 100000 → ∃ L, LX P Γ none N c L (tm T) s.h o (tm T') s'.h

section
variable {T T1 T2 : Tr D} {s s1 s2 : S} {o : O} {a b x : XC}

theorem xcode_draw {c : Code} {ops : List XOper} {plan : List PlanE} (h : xcode P c = .draw ops plan) : ∃ id os, c = .region id os true ∧ ops = os.toList.map (xoper P os) ∧
    plan = mkPlan ops (os.toList.map fun o => (o.after.toList.filter (Region.binds .any ·)).map (·.on)) ∧ planOk ops (os.toList.map fun o => (o.after.toList.filter (Region.binds .any ·)).map (·.on)) plan = true := by
  cases c with
  | region id os d =>
    cases d with
    | false => cases h
    | true =>
      simp only [xcode] at h
      split at h
      · rename_i hp
        cases h
        exact ⟨id, os, rfl, rfl, rfl, hp⟩
      · cases h
  | _ => cases h

theorem xcode_region {c : Code} {ops : List XOper} (h : xcode P c = .region ops) : ∃ id os, c = .region id os false ∧ ops = os.toList.map (xoper P os) := by
  cases c with
  | region id os d =>
    cases d with
    | false => cases h; exact ⟨id, os, rfl, rfl⟩
    | true => simp only [xcode] at h; split at h <;> cases h
  | _ => cases h

theorem xcode_seq {c : Code} (h : xcode P c = .seq a b) : ∃ ca cb, c = .seq ca cb ∧ xcode P ca = a ∧ xcode P cb = b := by
  cases c with
  | seq ca cb => cases h; exact ⟨ca, cb, rfl, rfl, rfl⟩
  | region id os d => cases d <;> simp only [xcode] at h <;> first | (cases h; done) | (split at h <;> cases h)
  | _ => cases h

theorem xcode_cond {c : Code} {y : Opd} (h : xcode P c = .cond y a b) : ∃ cy ca cb, c = .cond cy ca cb ∧ xopd cy = y ∧ xcode P ca = a ∧ xcode P cb = b := by
  cases c with
  | cond cy ca cb => cases h; exact ⟨cy, ca, cb, rfl, rfl, rfl, rfl⟩
  | region id os d => cases d <;> simp only [xcode] at h <;> first | (cases h; done) | (split at h <;> cases h)
  | _ => cases h

theorem xcode_block {c : Code} {id : Nat} (h : xcode P c = .block id a) : ∃ ca, c = .block id ca ∧ xcode P ca = a := by
  cases c with
  | block i ca => cases h; exact ⟨ca, rfl, rfl⟩
  | region id os d => cases d <;> simp only [xcode] at h <;> first | (cases h; done) | (split at h <;> cases h)
  | _ => cases h

theorem xcode_loop {c : Code} (h : xcode P c = .loop a) : ∃ ca, c = .loop ca ∧ xcode P ca = a := by
  cases c with
  | loop ca => cases h; exact ⟨ca, rfl, rfl⟩
  | region id os d => cases d <;> simp only [xcode] at h <;> first | (cases h; done) | (split at h <;> cases h)
  | _ => cases h

theorem xcode_exit {c : Code} {id : Nat} (h : xcode P c = .exit id) : c = .exit id := by
  cases c with
  | exit i => cases h; rfl
  | region id os d => cases d <;> simp only [xcode] at h <;> first | (cases h; done) | (split at h <;> cases h)
  | _ => cases h

theorem xcode_skip {c : Code} (h : xcode P c = .skip) : c = .skip := by
  cases c with
  | skip => rfl
  | region id os d => cases d <;> simp only [xcode] at h <;> first | (cases h; done) | (split at h <;> cases h)
  | _ => cases h

theorem xcode_ret {c : Code} (h : xcode P c = .ret) : c = .ret := by
  cases c with
  | ret => rfl
  | region id os d => cases d <;> simp only [xcode] at h <;> first | (cases h; done) | (split at h <;> cases h)
  | _ => cases h

theorem XE.skip : XE P Γ .skip T s .norm T s := fun c N h _ _ => by rw [xcode_skip h]; exact EX.skip
theorem XE.ret : XE P Γ .ret T s .ret T s := fun c N h _ _ => by rw [xcode_ret h]; exact EX.ret
theorem XE.exit {id : Nat} : XE P Γ (.exit id) T s (.exit id) T s := fun c N h _ _ => by rw [xcode_exit h]; exact EX.exit

theorem XE.region {ops : List XOper} (hr : RunR P Γ true ops T s T1 s1) : XE P Γ (.region ops) T s .norm T1 s1 := fun c N h hw hN => by
  obtain ⟨id, os, rfl, hx⟩ := xcode_region h
  exact EX.runR (fun _ => rfl) hN hx (by simpa [XC.wf] using hw) hr

theorem XE.draw (hc : CallOk P Γ call) (hm : P.follows .mixedOrders = true) {ops : List XOper} {plan : List PlanE} (hp : (plan.all fun p => Nat.beq p.lo p.hi) = true) (hr : RunD Γ call ops T ⟨s.t, s.n + ops.length⟩ T1 s1) : XE P Γ (.draw ops plan) T s .norm T1 s1 := fun c N h hw hN => by
  obtain ⟨id, os, rfl, hx, hpl, hok⟩ := xcode_draw h
  exact EX.drawn hc hm hN hx rfl (planOk_spec hok) (by simpa [XC.wf] using hw) (runDraw_plain hp hr)

theorem XE.seq (h1 : XE P Γ a T s .norm T1 s1) (h2 : XE P Γ b T1 s1 o T2 s2) : XE P Γ (.seq a b) T s o T2 s2 := fun c N h hw hN => by
  obtain ⟨ca, cb, rfl, ha, hb⟩ := xcode_seq h
  simp only [XC.wf, Bool.and_eq_true] at hw
  exact EX.seq (h1 ca N ha hw.1 hN) (h2 cb N hb hw.2 hN)

theorem XE.out (h1 : XE P Γ a T s o T1 s1) (ho : o ≠ .norm) : XE P Γ (.seq a b) T s o T1 s1 := fun c N h hw hN => by
  obtain ⟨ca, cb, rfl, ha, hb⟩ := xcode_seq h
  simp only [XC.wf, Bool.and_eq_true] at hw
  exact EX.seq_out (h1 ca N ha hw.1 hN) ho

theorem XE.condT {y : Opd} (hy : evT Γ (tm T) y = .b true) (h1 : XE P Γ a T s o T1 s1) : XE P Γ (.cond y a b) T s o T1 s1 := fun c N h hw hN => by
  obtain ⟨cy, ca, cb, rfl, rfl, ha, hb⟩ := xcode_cond h
  simp only [XC.wf, Bool.and_eq_true] at hw
  exact EX.cond hy (by simpa using h1 ca N ha hw.1 hN)

theorem XE.condF {y : Opd} (hy : evT Γ (tm T) y = .b false) (h1 : XE P Γ b T s o T1 s1) : XE P Γ (.cond y a b) T s o T1 s1 := fun c N h hw hN => by
  obtain ⟨cy, ca, cb, rfl, rfl, ha, hb⟩ := xcode_cond h
  simp only [XC.wf, Bool.and_eq_true] at hw
  exact EX.cond hy (by simpa using h1 cb N hb hw.2 hN)

theorem XE.block {id : Nat} {o' : O} (h1 : XE P Γ a T s o T1 s1) (ho : o.inBlock id = o') : XE P Γ (.block id a) T s o' T1 s1 := fun c N h hw hN => by
  obtain ⟨ca, rfl, ha⟩ := xcode_block h
  rw [← ho]
  exact EX.block (h1 ca N ha (by simpa [XC.wf] using hw) hN)

theorem XL.more (h1 : XE P Γ a T s .norm T1 s1) (h2 : XL P Γ a T1 s1 o T2 s2) : XL P Γ a T s o T2 s2 := fun c N h hw hN => by
  obtain ⟨L, h3⟩ := h2 c N h hw hN
  exact ⟨L + 1, LX.more (h1 c N h hw hN) h3⟩

theorem XL.over (h1 : XE P Γ a T s o T1 s1) (ho : o ≠ .norm) : XL P Γ a T s o T1 s1 := fun c N h hw hN => ⟨1, LX.out (h1 c N h hw hN) ho 0⟩

theorem XE.loop (h1 : XL P Γ a T s o T1 s1) : XE P Γ (.loop a) T s o T1 s1 := fun c N h hw hN => by
  obtain ⟨ca, rfl, ha⟩ := xcode_loop h
  obtain ⟨L, h2⟩ := h1 ca N ha (by simpa [XC.wf] using hw) hN
  exact EX.loop h2

/-- A function. -/
theorem CX.ofXE {f : FuncId} {fn : Func} {x : XFn} (hf : P.funcs[f]? = some fn) (hx : xfn P fn = some x) (hw : (x.body.wf x.ntmps && Nat.ble x.ntmps 100000) = true) (hn : (fn.name == "runtime.NumGoroutine") = false) {args : List D} (hla : Nat.ble args.length x.ntmps = true)
    (h : XE P Γ x.body (putArgs args 0 .e) s o T1 s1) (ho : o = .norm ∨ o = .ret) {d : D} (hok : (x.res.all fun r => (resX s1.t.get (tm T1) r).ok) = true) (hd : resD (x.res.map (resX s1.t.get (tm T1))) = d) : CX P Γ f args s.h d s1.h := by
  subst hd
  simp only [xfn, Option.bind_eq_bind, Option.bind_eq_some_iff, Option.pure_def, Option.some.injEq] at hx
  obtain ⟨b, hbody, rs, hrs, rfl⟩ := hx
  rw [Bool.and_eq_true] at hw
  have eT : tm (putArgs args 0 .e) = argT args := by
    funext m
    rw [tm_putArgs]
    simp only [argT, Nat.zero_le, true_and, Nat.zero_add, Nat.sub_zero]
    split
    · rfl
    · rename_i hn
      have e1 : tm .e m = .bad := rfl
      rw [e1, List.getD_eq_getElem?_getD, List.getElem?_eq_none (by omega)]; rfl
  have hx := h b fn.ntmps rfl hw.1 (Nat.le_of_ble_eq_true hw.2)
  rw [eT] at hx
  exact CX.of hf hbody (by simpa using hn) (Nat.le_of_ble_eq_true hla) hrs ho hx hok

end
end

/-! ### Reading -/

theorem Tr.get_here {α : Type} {t : Tr α} {k : Nat} {x : Option α} : (t.set k x).get k = x := by rw [Tr.get_set, if_pos rfl]
theorem Tr.get_there {α : Type} {t : Tr α} {k m : Nat} {x y : Option α} (h : m ≠ k) (h2 : t.get m = y) : (t.set k x).get m = y := by rw [Tr.get_set, if_neg h]; exact h2

theorem gth {α : Type} {t : Tr α} {k m : Nat} {x y : Option α} (h : Nat.beq m k = false) (h2 : t.get m = y) : (t.set k x).get m = y := Tr.get_there (fun e => by rw [e, Nat.beq_refl] at h; cases h) h2
theorem g2 {α : Type} {t : Tr α} {m a b : Nat} {x y z : Option α} (h : (Nat.beq m a || Nat.beq m b) = false) (h2 : t.get m = y) : ((t.set a x).set b z).get m = y :=
  gth (Bool.or_eq_false_iff.1 h).2 (gth (Bool.or_eq_false_iff.1 h).1 h2)
theorem g4 {α : Type} {t : Tr α} {m a b c d : Nat} {x y z u v : Option α} (h : ((Nat.beq m a || Nat.beq m b) || (Nat.beq m c || Nat.beq m d)) = false) (h2 : t.get m = y) : ((((t.set a x).set b z).set c u).set d v).get m = y :=
  g2 (Bool.or_eq_false_iff.1 h).2 (g2 (Bool.or_eq_false_iff.1 h).1 h2)
theorem g8 {α : Type} {t : Tr α} {m a b c d a' b' c' d' : Nat} {x y z u v x' z' u' v' : Option α} (h : (((Nat.beq m a || Nat.beq m b) || (Nat.beq m c || Nat.beq m d)) || ((Nat.beq m a' || Nat.beq m b') || (Nat.beq m c' || Nat.beq m d'))) = false) (h2 : t.get m = y) :
    ((((((((t.set a x).set b z).set c u).set d v).set a' x').set b' z').set c' u').set d' v').get m = y :=
  g4 (Bool.or_eq_false_iff.1 h).2 (g4 (Bool.or_eq_false_iff.1 h).1 h2)

section
variable {Γ : Nat → D} {T : Tr D}
theorem rd_t {i : Nat} {d : D} (h : T.get i = some d) : evT Γ (tm T) (.t i) = d := by simp only [evT, tm, h, Option.getD_some]
theorem rd_c {d : D} : evT Γ (tm T) (.c d) = d := rfl
theorem gd_t {j : Nat} {x : Bool} (h : T.get j = some (.b x)) : guardX (tm T) (some (j, x)) = some true := by simp [guardX, tm, h]
theorem gd_tf {j : Nat} (h : T.get j = some (.b false)) : guardX (tm T) (some (j, true)) = some false := by simp [guardX, tm, h]
theorem gd_ft {j : Nat} (h : T.get j = some (.b true)) : guardX (tm T) (some (j, false)) = some false := by simp [guardX, tm, h]
theorem gd_u {j : Nat} {x : Bool} (h : T.get j = some (.tup [])) : guardX (tm T) (some (j, x)) = some false := by simp [guardX, tm, h]
end

end Go.Abs
end
noncomputable section
namespace Go.Abs
open Go

def zMark (zs : List D) : Nat := match zs with | .i .u8 _ :: _ => 1 | _ => 0

section
variable {P : Program} {Γ : Nat → D} {T T' : Tr D} {t : Tr AObj} {n : Nat} {s' : S} {op : XOp} {g : Option (Nat × Bool)} {xs : List XOper} {i : Nat} {d : D}

theorem gd_n : guardX (tm T) none = some true := rfl

theorem RunR.skip (hg : guardX (tm T) g = some false) (hr : RunR P Γ true xs (T.set i (some (.tup []))) ⟨t, n⟩ T' s') : RunR P Γ true (⟨some i, op, g⟩ :: xs) T ⟨t, n⟩ T' s' := .cons (.inl ⟨hg, rfl, rfl⟩) hr
theorem RunR.val (hg : guardX (tm T) g = some true) (hc : callOf op = none) (h : aop t.get n (evT Γ (tm T)) op = .val d) (hr : RunR P Γ true xs (T.set i (some d)) ⟨t, n⟩ T' s') : RunR P Γ true (⟨some i, op, g⟩ :: xs) T ⟨t, n⟩ T' s' := .cons (.inr ⟨hg, _, rfl, OpR.val hc h⟩) hr
theorem RunR.upd {l : Nat} {o : AObj} (hg : guardX (tm T) g = some true) (hc : callOf op = none) (h : aop t.get n (evT Γ (tm T)) op = .upd l o d) (hr : RunR P Γ true xs (T.set i (some d)) ⟨t.set l (some o), n⟩ T' s') : RunR P Γ true (⟨some i, op, g⟩ :: xs) T ⟨t, n⟩ T' s' := .cons (.inr ⟨hg, _, rfl, OpR.upd hc h⟩) hr
theorem RunR.upd0 {l : Nat} {o : AObj} (hg : guardX (tm T) g = some true) (hc : callOf op = none) (h : aop t.get n (evT Γ (tm T)) op = .upd l o d) (hr : RunR P Γ true xs T ⟨t.set l (some o), n⟩ T' s') : RunR P Γ true (⟨none, op, g⟩ :: xs) T ⟨t, n⟩ T' s' := .cons (.inr ⟨hg, _, rfl, OpR.upd hc h⟩) hr
theorem RunR.new {o : AObj} (hg : guardX (tm T) g = some true) (hc : callOf op = none) (h : aop t.get n (evT Γ (tm T)) op = .new o d) (hr : RunR P Γ true xs (T.set i (some d)) ⟨t.set n (some o), n + 1⟩ T' s') : RunR P Γ true (⟨some i, op, g⟩ :: xs) T ⟨t, n⟩ T' s' := .cons (.inr ⟨hg, _, rfl, OpR.new hc h⟩) hr
theorem RunR.app {l : Nat} {o : AObj} (hg : guardX (tm T) g = some true) (hc : callOf op = none) (h : aop t.get n (evT Γ (tm T)) op = .app l o d) (hr : RunR P Γ true xs (T.set i (some d)) ⟨(t.set l none).set n (some o), n + 1⟩ T' s') : RunR P Γ true (⟨some i, op, g⟩ :: xs) T ⟨t, n⟩ T' s' :=
  .cons (.inr ⟨hg, _, rfl, .inl ⟨hc, by rw [h]; rfl⟩⟩) hr
theorem RunR.call {f : FuncId} {args : List Opd} {aa : List D} {t1 : Tr AObj} {n1 : Nat} (hg : guardX (tm T) g = some true) (ha : args.map (evT Γ (tm T)) = aa) (hok : (aa.all D.ok) = true) (hx : CX P Γ f aa (S.mk t n).h d (S.mk t1 n1).h) (hr : RunR P Γ true xs (T.set i (some d)) ⟨t1, n1⟩ T' s') :
    RunR P Γ true (⟨some i, .call (.f f) args, g⟩ :: xs) T ⟨t, n⟩ T' s' := by
  subst ha
  refine .cons (.inr ⟨hg, d, rfl, .inr (.inl ⟨.f f, args, f, [], [], rfl, rfl, ?_, ?_⟩)⟩) hr
  · rw [List.all_map] at hok; exact hok
  · simpa using hx

variable {call : CallF}
theorem RunD.skip' (hg : guardX (tm T) g = some false) (hr : RunD Γ call xs (T.set i (some (.tup []))) ⟨t, n⟩ T' s') : RunD Γ call (⟨some i, op, g⟩ :: xs) T ⟨t, n⟩ T' s' := .skip hg hr
theorem RunD.val' (hg : guardX (tm T) g = some true) (hw : op.writes = false) (hi : insOf op = none) (h : ∀ m, aop t.get m (evT Γ (tm T)) op = .val d) (hr : RunD Γ call xs (T.set i (some d)) ⟨t, n⟩ T' s') : RunD Γ call (⟨some i, op, g⟩ :: xs) T ⟨t, n⟩ T' s' := .val hg hw hi h hr
theorem RunD.upd0 {l : Nat} {o : AObj} (hg : guardX (tm T) g = some true) (hw : op.writes = true) (hc : callOf op = none) (h : ∀ m, aop t.get m (evT Γ (tm T)) op = .upd l o d) (hr : RunD Γ call xs T ⟨t.set l (some o), n + 1⟩ T' s') : RunD Γ call (⟨none, op, g⟩ :: xs) T ⟨t, n⟩ T' s' := .upd hg hw hc h hr

theorem args_nil : ([] : List Opd).map (evT Γ (tm T)) = [] := rfl
theorem args_cons {y : Opd} {ys : List Opd} {e : D} {es : List D} (h : evT Γ (tm T) y = e) (hs : ys.map (evT Γ (tm T)) = es) : (y :: ys).map (evT Γ (tm T)) = e :: es := by rw [List.map_cons, h, hs]
end

section
variable {get : Nat → Option AObj} {n : Nat} {ev : Opd → D} {x y z : Opd} {d e : D} {l off : Nat} {cs : List D} {m : Nat}

theorem A_mv (h : ev x = d) (hk : d.ok = true) : aop get n ev (.mv x) = .val d := by subst h; simp only [aop, hk, if_true]
theorem A_pickT (h : ev x = .b true) (h1 : ev y = d) (hk : d.ok = true) : aop get n ev (.pick x y z) = .val d := by subst h1; simp only [aop, h, hk, if_true]
theorem A_pickF (h : ev x = .b false) (h1 : ev z = d) (hk : d.ok = true) : aop get n ev (.pick x y z) = .val d := by subst h1; simp only [aop, h, hk, if_true]
theorem A_alloc {zs : List D} : aop get n ev (.alloc zs m) = .new (.cells zs m) (.ptr n 0) := rfl
theorem A_ld1 (h : ev x = .ptr l off) (hg : get l = some (.cells cs m)) (hd : cs[off]? = some d) : aop get n ev (.ld false 1 x) = .val d := by
  obtain ⟨hlt, he⟩ := List.getElem?_eq_some_iff.1 hd
  have h2 : ((cs.drop off).take 1)[0]? = some d := by
    rw [List.getElem?_take_of_lt (by decide), List.getElem?_drop, Nat.add_zero]; exact hd
  simp only [aop, h, ldCells, hg, show off + 1 ≤ cs.length from hlt, if_true, Bool.false_eq_true, if_false, h2, ofO]
theorem A_ldA {k : Nat} {ds : List D} (h : ev x = .ptr l off) (hg : get l = some (.cells cs m)) (hk : off + k ≤ cs.length) (hd : (cs.drop off).take k = ds) : aop get n ev (.ld true k x) = .val (.agg ds) := by
  simp only [aop, h, ldCells, hg, hk, if_true, hd]
theorem A_ldAf {k : Nat} {ds : List D} (h : ev x = .fptr cs) (hk : k ≤ cs.length) (hd : cs.take k = ds) : aop get n ev (.ld true k x) = .val (.agg ds) := by
  simp only [aop, h, ldCells, hk, if_true, hd]
theorem A_st {k : Nat} {cs' : List D} (h : ev x = .ptr l off) (hg : get l = some (.cells cs m)) (hv : ev y = d) (h1 : d.cells.length = k) (h2 : off + k ≤ cs.length) (h3 : d.val = true) (h4 : splice cs off d.cells = cs') : aop get n ev (.st k x y) = .upd l (.cells cs' m) (.tup []) := by
  subst hv h4; simp only [aop, h, hg, h1, h2, h3, and_self, if_true]
theorem A_faddr {o : Nat} (h : ev x = .ptr l off) : aop get n ev (.faddr o x) = .val (.ptr l (off + o)) := by simp only [aop, h]
theorem A_nilchk (h : ev x = .ptr l off) : aop get n ev (.nilchk x) = .val (.ptr l off) := by simp only [aop, h]
theorem A_lenS {t : List UInt8} (h : ev x = .s t) : aop get n ev (.lenS x) = .val (.i .i64 t.length) := by simp only [aop, h]
theorem A_add {k : IntKind} {a b c : Int} (h : ev x = .i k a) (h1 : ev y = .i k b) (hc : k.wrap (a + b) = c) : aop get n ev (.bin .add x y) = .val (.i k c) := by
  subst hc; simp only [aop, h, h1, binD, if_true, abin, ofO]
theorem A_sub {k : IntKind} {a b c : Int} (h : ev x = .i k a) (h1 : ev y = .i k b) (hc : k.wrap (a - b) = c) : aop get n ev (.bin .sub x y) = .val (.i k c) := by
  subst hc; simp only [aop, h, h1, binD, if_true, abin, ofO]
theorem A_eqI {k : IntKind} {a b : Int} {r : Bool} (h : ev x = .i k a) (h1 : ev y = .i k b) (hr : (a == b) = r) : aop get n ev (.bin .eql x y) = .val (.b r) := by
  subst hr; simp only [aop, h, h1, binD, if_true, abin, ofO]
theorem A_neI {k : IntKind} {a b : Int} {r : Bool} (h : ev x = .i k a) (h1 : ev y = .i k b) (hr : (a != b) = r) : aop get n ev (.bin .neq x y) = .val (.b r) := by
  subst hr; simp only [aop, h, h1, binD, if_true, abin, ofO]
theorem A_ltI {k : IntKind} {a b : Int} {r : Bool} (h : ev x = .i k a) (h1 : ev y = .i k b) (hr : decide (a < b) = r) : aop get n ev (.bin .lss x y) = .val (.b r) := by
  subst hr; simp only [aop, h, h1, binD, if_true, abin, ofO]
theorem A_gtI {k : IntKind} {a b : Int} {r : Bool} (h : ev x = .i k a) (h1 : ev y = .i k b) (hr : decide (a > b) = r) : aop get n ev (.bin .gtr x y) = .val (.b r) := by
  subst hr; simp only [aop, h, h1, binD, if_true, abin, ofO]
theorem A_eqS {a b : List UInt8} {r : Bool} (h : ev x = .s a) (h1 : ev y = .s b) (hr : (a == b) = r) : aop get n ev (.bin .eql x y) = .val (.b r) := by
  subst hr; simp only [aop, h, h1, binD, astr, ofO]
theorem A_addS {a b c : List UInt8} (h : ev x = .s a) (h1 : ev y = .s b) (hl : a.length + b.length ≤ maxN) (hr : a ++ b = c) : aop get n ev (.bin .add x y) = .val (.s c) := by
  subst hr; simp only [aop, h, h1, binD, astr, hl, if_true, ofO]
theorem A_eq {neg : Bool} {te : TEq} {r r' : Bool} (h : ev x = d) (h1 : ev y = e) (hr : eqD get te d e = some r) (hr' : (if neg then !r else r) = r') : aop get n ev (.eq neg te x y) = .val (.b r') := by
  subst h h1 hr'; simp only [aop, hr]
theorem A_lenNil (h : ev x = .nils) : aop get n ev (.lenL x) = .val (.i .i64 0) := by simp only [aop, h]
theorem A_lenSl {sz len : Nat} (h : ev x = .sl sz l off len) : aop get n ev (.lenL x) = .val (.i .i64 len) := by simp only [aop, h]
theorem A_lenFz {sz : Nat} {es : List D} (h : ev x = .fz sz es) : aop get n ev (.lenL x) = .val (.i .i64 es.length) := by simp only [aop, h]
theorem A_iaddrSl {k : IntKind} {sz len j o : Nat} (h : ev x = .sl sz l off len) (h1 : ev y = .i k (j : Nat)) (hj : j < len) (ho : off + j * sz = o) : aop get n ev (.iaddr sz x y) = .val (.ptr l o) := by
  subst ho
  simp only [aop, h, h1, Int.toNat_natCast]
  rw [if_pos ⟨Int.natCast_nonneg _, by omega, trivial⟩]
theorem A_iaddrFz {k : IntKind} {sz j : Nat} {es : List D} (h : ev x = .fz sz es) (h1 : ev y = .i k (j : Nat)) (hj : es[j]? = some d) : aop get n ev (.iaddr sz x y) = .val (.fptr d.cells) := by
  obtain ⟨hlt, _⟩ := List.getElem?_eq_some_iff.1 hj
  simp only [aop, h, h1, Int.toNat_natCast]
  rw [if_pos ⟨Int.natCast_nonneg _, by omega, trivial⟩, hj]
theorem A_bslice1 {sz len : Nat} {zs ds : List D} {o k : Nat} (h : fillD zs [(o, k, ev x)] = some ds) (hm : zMark zs = m) : aop get n ev (.bslice sz zs [(o, k, x)] len) = .new (.cells ds m) (.sl sz n 0 len) := by
  subst hm
  show (match fillD zs [(o, k, ev x)] with | some cs => AR.new (.cells cs (zMark zs)) (.sl sz n 0 len) | none => .bad) = _
  rw [h]
theorem appD_0 {bytes sz mk : Nat} {ly : Option Nat} {new : List D} : appD get bytes sz mk n d new 0 ly = (match d with | .nils | .sl _ _ _ _ | .fz _ _ => .val d | _ => .bad) := rfl
theorem appD_nils {bytes sz mk m0 : Nat} {ly : Option Nat} {new : List D} (h0 : m0 ≠ 0) (hr : m0 * bytes ≤ room) : appD get bytes sz mk n .nils new m0 ly = .new (.cells new mk) (.sl sz n 0 m0) := by
  show (if m0 = 0 then _ else if m0 * bytes ≤ room then AR.new (.cells new mk) (.sl sz n 0 m0) else AR.bad) = _
  rw [if_neg h0, if_pos hr]
theorem appD_sl {bytes sz mk m0 len : Nat} {ly : Option Nat} {new cs' : List D} (h0 : m0 ≠ 0) (hl : ly ≠ some l) (hg : get l = some (.cells cs m)) (h2 : off + len * sz ≤ cs.length) (hr : (len + m0) * bytes ≤ room) (hm : m ≤ 1 ∨ (m = mk ∧ off = 0)) (hc : (cs.drop off).take (len * sz) ++ new = cs') :
    appD get bytes sz mk n (.sl sz l off len) new m0 ly = .app l (.cells cs' m) (.sl sz n 0 (len + m0)) := by
  subst hc
  show (if m0 = 0 then _ else if ly = some l then AR.bad else match get l with
    | some (.cells cs odd) => if off + len * sz ≤ cs.length ∧ sz = sz ∧ (len + m0) * bytes ≤ room ∧ (odd ≤ 1 ∨ (odd = mk ∧ off = 0)) then AR.app l (.cells ((cs.drop off).take (len * sz) ++ new) odd) (.sl sz n 0 (len + m0)) else AR.bad
    | _ => AR.bad) = _
  rw [if_neg h0, if_neg hl, hg]
  simp only []
  rw [if_pos ⟨h2, trivial, hr, hm⟩]
theorem A_appNil {sz bytes mk m0 : Nat} {ly : Option Nat} {new : List D} (h : ev x = .nils) (h1 : slCells get sz (ev y) = some (new, m0, ly)) (h0 : m0 ≠ 0) (hr : m0 * bytes ≤ room) : aop get n ev (.app sz bytes mk x y) = .new (.cells new mk) (.sl sz n 0 m0) := by
  simp only [aop, h1, h]; exact appD_nils h0 hr
theorem A_appNil0 {sz bytes mk : Nat} {ly : Option Nat} {new : List D} (h : ev x = .nils) (h1 : slCells get sz (ev y) = some (new, 0, ly)) : aop get n ev (.app sz bytes mk x y) = .val .nils := by
  simp only [aop, h1, h]; rfl
theorem A_appSl {sz bytes mk m0 len : Nat} {ly : Option Nat} {new cs' : List D} (h : ev x = .sl sz l off len) (h1 : slCells get sz (ev y) = some (new, m0, ly)) (h0 : m0 ≠ 0) (hl : ly ≠ some l) (hg : get l = some (.cells cs m)) (h2 : off + len * sz ≤ cs.length) (hr : (len + m0) * bytes ≤ room) (hm : m ≤ 1 ∨ (m = mk ∧ off = 0))
    (hc : (cs.drop off).take (len * sz) ++ new = cs') : aop get n ev (.app sz bytes mk x y) = .app l (.cells cs' m) (.sl sz n 0 (len + m0)) := by
  simp only [aop, h1, h]; exact appD_sl h0 hl hg h2 hr hm hc
theorem A_appSNil {mk : Nat} {t : List UInt8} (h : ev x = .nils) (h1 : ev y = .s t) (h0 : t.length ≠ 0) (hr : t.length * 1 ≤ room) : aop get n ev (.appS mk x y) = .new (.cells (t.map byteD) mk) (.sl 1 n 0 t.length) := by
  simp only [aop, h1, h]; exact appD_nils h0 hr
theorem A_appS0n {mk : Nat} (h : ev x = .nils) (h1 : ev y = .s []) : aop get n ev (.appS mk x y) = .val .nils := by
  simp only [aop, h1, h]; rfl
theorem A_appS0s {mk sz len : Nat} (h : ev x = .sl sz l off len) (h1 : ev y = .s []) : aop get n ev (.appS mk x y) = .val (.sl sz l off len) := by
  simp only [aop, h1, h]; rfl
theorem A_appSSl {mk len : Nat} {t : List UInt8} {cs' : List D} (h : ev x = .sl 1 l off len) (h1 : ev y = .s t) (h0 : t.length ≠ 0) (hg : get l = some (.cells cs m)) (h2 : off + len * 1 ≤ cs.length) (hr : (len + t.length) * 1 ≤ room) (hm : m ≤ 1 ∨ (m = mk ∧ off = 0))
    (hc : (cs.drop off).take (len * 1) ++ t.map byteD = cs') : aop get n ev (.appS mk x y) = .app l (.cells cs' m) (.sl 1 n 0 (len + t.length)) := by
  simp only [aop, h1, h]; exact appD_sl h0 (by simp) hg h2 hr hm hc
end
end Go.Abs
end
noncomputable section
namespace Go.Abs
open Go

abbrev QR := Tr D → Tr AObj → Nat → Prop
abbrev QX := O → Tr D → Tr AObj → Nat → Prop

def WR (P : Program) (Γ : Nat → D) (xs : List XOper) (T : Tr D) (t : Tr AObj) (n : Nat) (Q : QR) : Prop := ∃ T' t' n', RunR P Γ true xs T ⟨t, n⟩ T' ⟨t', n'⟩ ∧ Q T' t' n'
def WD (Γ : Nat → D) (call : CallF) (xs : List XOper) (T : Tr D) (t : Tr AObj) (n : Nat) (Q : QR) : Prop := ∃ T' t' n', RunD Γ call xs T ⟨t, n⟩ T' ⟨t', n'⟩ ∧ Q T' t' n'
def WX (P : Program) (Γ : Nat → D) (x : XC) (T : Tr D) (t : Tr AObj) (n : Nat) (Q : QX) : Prop := ∃ o T' t' n', XE P Γ x T ⟨t, n⟩ o T' ⟨t', n'⟩ ∧ Q o T' t' n'
def WL (P : Program) (Γ : Nat → D) (x : XC) (T : Tr D) (t : Tr AObj) (n : Nat) (Q : QX) : Prop := ∃ o T' t' n', XL P Γ x T ⟨t, n⟩ o T' ⟨t', n'⟩ ∧ Q o T' t' n'

section
variable {P : Program} {Γ : Nat → D} {T : Tr D} {t : Tr AObj} {n : Nat} {op : XOp} {g : Option (Nat × Bool)} {xs : List XOper} {i : Nat} {d : D} {Q : QR}

theorem WR.nil (h : Q T t n) : WR P Γ [] T t n Q := ⟨T, t, n, .nil _ _, h⟩
theorem WR.skip (hg : guardX (tm T) g = some false) (hr : WR P Γ xs (T.set i (some (.tup []))) t n Q) : WR P Γ (⟨some i, op, g⟩ :: xs) T t n Q :=
  let ⟨T', t', n', h, q⟩ := hr; ⟨T', t', n', RunR.skip hg h, q⟩
theorem WR.val (hg : guardX (tm T) g = some true) (hc : callOf op = none) (h : aop t.get n (evT Γ (tm T)) op = .val d) (hr : WR P Γ xs (T.set i (some d)) t n Q) : WR P Γ (⟨some i, op, g⟩ :: xs) T t n Q :=
  let ⟨T', t', n', h', q⟩ := hr; ⟨T', t', n', RunR.val hg hc h h', q⟩
theorem WR.upd {l : Nat} {o : AObj} (hg : guardX (tm T) g = some true) (hc : callOf op = none) (h : aop t.get n (evT Γ (tm T)) op = .upd l o d) (hr : WR P Γ xs (T.set i (some d)) (t.set l (some o)) n Q) : WR P Γ (⟨some i, op, g⟩ :: xs) T t n Q :=
  let ⟨T', t', n', h', q⟩ := hr; ⟨T', t', n', RunR.upd hg hc h h', q⟩
theorem WR.upd0 {l : Nat} {o : AObj} (hg : guardX (tm T) g = some true) (hc : callOf op = none) (h : aop t.get n (evT Γ (tm T)) op = .upd l o d) (hr : WR P Γ xs T (t.set l (some o)) n Q) : WR P Γ (⟨none, op, g⟩ :: xs) T t n Q :=
  let ⟨T', t', n', h', q⟩ := hr; ⟨T', t', n', RunR.upd0 hg hc h h', q⟩
theorem WR.new {o : AObj} (hg : guardX (tm T) g = some true) (hc : callOf op = none) (h : aop t.get n (evT Γ (tm T)) op = .new o d) (hr : WR P Γ xs (T.set i (some d)) (t.set n (some o)) (n + 1) Q) : WR P Γ (⟨some i, op, g⟩ :: xs) T t n Q :=
  let ⟨T', t', n', h', q⟩ := hr; ⟨T', t', n', RunR.new hg hc h h', q⟩
theorem WR.app {l : Nat} {o : AObj} (hg : guardX (tm T) g = some true) (hc : callOf op = none) (h : aop t.get n (evT Γ (tm T)) op = .app l o d) (hr : WR P Γ xs (T.set i (some d)) ((t.set l none).set n (some o)) (n + 1) Q) : WR P Γ (⟨some i, op, g⟩ :: xs) T t n Q :=
  let ⟨T', t', n', h', q⟩ := hr; ⟨T', t', n', RunR.app hg hc h h', q⟩
theorem WR.call {f : FuncId} {args : List Opd} {aa : List D} {t1 : Tr AObj} {n1 : Nat} (hg : guardX (tm T) g = some true) (ha : args.map (evT Γ (tm T)) = aa) (hok : (aa.all D.ok) = true) (hx : CX P Γ f aa (S.mk t n).h d (S.mk t1 n1).h) (hr : WR P Γ xs (T.set i (some d)) t1 n1 Q) :
    WR P Γ (⟨some i, .call (.f f) args, g⟩ :: xs) T t n Q :=
  let ⟨T', t', n', h', q⟩ := hr; ⟨T', t', n', RunR.call hg ha hok hx h', q⟩

variable {call : CallF}
theorem WD.nil (h : Q T t n) : WD Γ call [] T t n Q := ⟨T, t, n, .nil _ _, h⟩
theorem WD.skip (hg : guardX (tm T) g = some false) (hr : WD Γ call xs (T.set i (some (.tup []))) t n Q) : WD Γ call (⟨some i, op, g⟩ :: xs) T t n Q :=
  let ⟨T', t', n', h, q⟩ := hr; ⟨T', t', n', RunD.skip' hg h, q⟩
theorem WD.val (hg : guardX (tm T) g = some true) (hw : op.writes = false) (hi : insOf op = none) (h : ∀ m, aop t.get m (evT Γ (tm T)) op = .val d) (hr : WD Γ call xs (T.set i (some d)) t n Q) : WD Γ call (⟨some i, op, g⟩ :: xs) T t n Q :=
  let ⟨T', t', n', h', q⟩ := hr; ⟨T', t', n', RunD.val' hg hw hi h h', q⟩
theorem WD.upd0 {l : Nat} {o : AObj} (hg : guardX (tm T) g = some true) (hw : op.writes = true) (hc : callOf op = none) (h : ∀ m, aop t.get m (evT Γ (tm T)) op = .upd l o d) (hr : WD Γ call xs T (t.set l (some o)) (n + 1) Q) : WD Γ call (⟨none, op, g⟩ :: xs) T t n Q :=
  let ⟨T', t', n', h', q⟩ := hr; ⟨T', t', n', RunD.upd0 hg hw hc h h', q⟩
end

/-! ### Code -/

def thn (P : Program) (Γ : Nat → D) (b : XC) (Q : QX) : QX := fun o T t n => match o with | .norm => WX P Γ b T t n Q | o => Q o T t n
def blk (id : Nat) (Q : QX) : QX := fun o T t n => Q (o.inBlock id) T t n
def lop (P : Program) (Γ : Nat → D) (b : XC) (Q : QX) : QX := fun o T t n => match o with | .norm => WL P Γ b T t n Q | o => Q o T t n

section
variable {P : Program} {Γ : Nat → D} {T : Tr D} {t : Tr AObj} {n : Nat} {Q : QX} {a b : XC} {id i : Nat}

theorem thn_n (h : WX P Γ b T t n Q) : thn P Γ b Q .norm T t n := h
theorem thn_x (h : Q (.exit i) T t n) : thn P Γ b Q (.exit i) T t n := h
theorem thn_r (h : Q .ret T t n) : thn P Γ b Q .ret T t n := h
theorem blk_n (h : Q .norm T t n) : blk id Q .norm T t n := h
theorem blk_r (h : Q .ret T t n) : blk id Q .ret T t n := h
theorem blk_x (h : Q .norm T t n) : blk id Q (.exit id) T t n := by simpa [blk, O.inBlock] using h
theorem blk_y (hi : i ≠ id) (h : Q (.exit i) T t n) : blk id Q (.exit i) T t n := by simpa [blk, O.inBlock, hi] using h
theorem lop_n (h : WL P Γ b T t n Q) : lop P Γ b Q .norm T t n := h
theorem lop_x (h : Q (.exit i) T t n) : lop P Γ b Q (.exit i) T t n := h
theorem lop_r (h : Q .ret T t n) : lop P Γ b Q .ret T t n := h

theorem WX.skip (h : Q .norm T t n) : WX P Γ .skip T t n Q := ⟨_, _, _, _, XE.skip, h⟩
theorem WX.ret (h : Q .ret T t n) : WX P Γ .ret T t n Q := ⟨_, _, _, _, XE.ret, h⟩
theorem WX.exit (h : Q (.exit id) T t n) : WX P Γ (.exit id) T t n Q := ⟨_, _, _, _, XE.exit, h⟩
theorem WX.region {ops : List XOper} (h : WR P Γ ops T t n (fun T t n => Q .norm T t n)) : WX P Γ (.region ops) T t n Q :=
  let ⟨T', t', n', h', q⟩ := h; ⟨_, T', t', n', XE.region h', q⟩
theorem WX.draw {call : CallF} (hc : CallOk P Γ call) (hm : P.follows .mixedOrders = true) {ops : List XOper} {plan : List PlanE} (hp : (plan.all fun p => Nat.beq p.lo p.hi) = true) (h : WD Γ call ops T t (n + ops.length) (fun T t n => Q .norm T t n)) : WX P Γ (.draw ops plan) T t n Q :=
  let ⟨T', t', n', h', q⟩ := h; ⟨_, T', t', n', XE.draw hc hm hp h', q⟩
theorem WX.seq (h : WX P Γ a T t n (thn P Γ b Q)) : WX P Γ (.seq a b) T t n Q := by
  obtain ⟨o, T1, t1, n1, h1, q⟩ := h
  cases o with
  | norm =>
    obtain ⟨o2, T2, t2, n2, h2, q2⟩ := (q : WX P Γ b T1 t1 n1 Q)
    exact ⟨o2, T2, t2, n2, XE.seq h1 h2, q2⟩
  | ret => exact ⟨_, T1, t1, n1, XE.out h1 (by simp), q⟩
  | exit i => exact ⟨_, T1, t1, n1, XE.out h1 (by simp), q⟩
theorem WX.condT {y : Opd} (hy : evT Γ (tm T) y = .b true) (h : WX P Γ a T t n Q) : WX P Γ (.cond y a b) T t n Q :=
  let ⟨o, T', t', n', h', q⟩ := h; ⟨o, T', t', n', XE.condT hy h', q⟩
theorem WX.condF {y : Opd} (hy : evT Γ (tm T) y = .b false) (h : WX P Γ b T t n Q) : WX P Γ (.cond y a b) T t n Q :=
  let ⟨o, T', t', n', h', q⟩ := h; ⟨o, T', t', n', XE.condF hy h', q⟩
theorem WX.block (h : WX P Γ a T t n (blk id Q)) : WX P Γ (.block id a) T t n Q :=
  let ⟨_, T', t', n', h', q⟩ := h; ⟨_, T', t', n', XE.block h' rfl, q⟩
theorem WX.loop (h : WL P Γ a T t n Q) : WX P Γ (.loop a) T t n Q :=
  let ⟨_, T', t', n', h', q⟩ := h; ⟨_, T', t', n', XE.loop h', q⟩
theorem WL.more (h : WX P Γ a T t n (lop P Γ a Q)) : WL P Γ a T t n Q := by
  obtain ⟨o, T1, t1, n1, h1, q⟩ := h
  cases o with
  | norm =>
    obtain ⟨o2, T2, t2, n2, h2, q2⟩ := (q : WL P Γ a T1 t1 n1 Q)
    exact ⟨o2, T2, t2, n2, XL.more h1 h2, q2⟩
  | ret => exact ⟨_, T1, t1, n1, XL.over h1 (by simp), q⟩
  | exit i => exact ⟨_, T1, t1, n1, XL.over h1 (by simp), q⟩
theorem WX.mono {Q' : QX} (h : WX P Γ a T t n Q) (hq : ∀ o T t n, Q o T t n → Q' o T t n) : WX P Γ a T t n Q' :=
  let ⟨o, T', t', n', h', q⟩ := h; ⟨o, T', t', n', h', hq _ _ _ _ q⟩

/-- What is handed back. -/
def retQ (res : List XRes) (R : D → Tr AObj → Nat → Prop) : QX := fun o T t n => (o = .norm ∨ o = .ret) ∧ ((res.all fun r => (resX t.get (tm T) r).ok) = true) ∧ R (resD (res.map (resX t.get (tm T)))) t n

theorem retQ_r {res : List XRes} {R : D → Tr AObj → Nat → Prop} {ds : List D} (h : res.map (resX t.get (tm T)) = ds) (hok : (ds.all D.ok) = true) (hr : R (resD ds) t n) : retQ res R .ret T t n := by
  subst h
  rw [List.all_map] at hok
  exact ⟨.inr rfl, hok, hr⟩

theorem res_nil : ([] : List XRes).map (resX t.get (tm T)) = [] := rfl
theorem res_t {d : D} {r : List XRes} {ds : List D} (h : T.get i = some d) (hs : r.map (resX t.get (tm T)) = ds) : (XRes.t i :: r).map (resX t.get (tm T)) = d :: ds := by
  subst hs
  simp only [List.map_cons, resX, tm, h, Option.getD_some]

theorem CX.ofWX {f : FuncId} {fn : Func} {x : XFn} (hf : P.funcs[f]? = some fn) (hx : xfn P fn = some x) (hw : (x.body.wf x.ntmps && Nat.ble x.ntmps 100000) = true) (hn : (fn.name == "runtime.NumGoroutine") = false) {args : List D} (hla : Nat.ble args.length x.ntmps = true)
    {R : D → Tr AObj → Nat → Prop} (h : WX P Γ x.body (putArgs args 0 .e) t n (retQ x.res R)) : ∃ d t' n', CX P Γ f args (S.mk t n).h d (S.mk t' n').h ∧ R d t' n' := by
  obtain ⟨o, T', t', n', h', ho, hok, hr⟩ := h
  exact ⟨_, t', n', CX.ofXE hf hx hw hn hla h' ho hok rfl, hr⟩
end
end Go.Abs
end
noncomputable section
namespace Go.Proofs.YtelnkadnphephaaGreatDoor.T
open Go Go.Abs
noncomputable def X4_T : XC := .seq (.region [⟨(some 11), .call (.f 6) [], none⟩, ⟨(some 12), .mv (.t 11), none⟩, ⟨(some 13), .mv (.t 7), some (12, true)⟩, ⟨(some 14), .mv (.t 1), some (12, true)⟩, ⟨(some 15), .mv (.t 2), some (12, true)⟩, ⟨(some 16), .call (.f 9) [(.t 13), (.t 14), (.t 15)], some (12, true)⟩, ⟨(some 17), .mv (.t 0), some (12, true)⟩, ⟨(some 18), .mv (.t 1), some (12, true)⟩, ⟨(some 19), .mv (.t 2), some (12, true)⟩, ⟨(some 20), .call (.f 10) [(.t 17), (.t 18), (.t 19)], some (12, true)⟩, ⟨(some 21), .bin .eql (.t 16) (.t 20), some (12, true)⟩, ⟨(some 22), .pick (.t 12) (.t 21) (.c (.b false)), none⟩, ⟨(some 23), .mv (.t 22), none⟩, ⟨(some 24), .mv (.t 7), some (23, true)⟩, ⟨(some 25), .call (.f 12) [(.t 24)], some (23, true)⟩, ⟨(some 26), .mv (.t 0), some (23, true)⟩, ⟨(some 27), .call (.f 13) [(.t 26)], some (23, true)⟩, ⟨(some 28), .call (.f 11) [(.t 25), (.t 27)], some (23, true)⟩, ⟨(some 29), .pick (.t 23) (.t 28) (.c (.b false)), none⟩, ⟨(some 30), .mv (.t 29), none⟩, ⟨(some 31), .mv (.t 7), some (30, true)⟩, ⟨(some 32), .mv (.t 0), some (30, true)⟩, ⟨(some 33), .call (.f 11) [(.t 31), (.t 32)], some (30, true)⟩, ⟨(some 34), .pick (.t 30) (.t 33) (.c (.b false)), none⟩, ⟨(some 35), .mv (.t 34), none⟩, ⟨(some 36), .mv (.t 7), some (35, true)⟩, ⟨(some 37), .call (.f 12) [(.t 36)], some (35, true)⟩, ⟨(some 38), .mv (.t 1), some (35, true)⟩, ⟨(some 39), .mv (.t 2), some (35, true)⟩, ⟨(some 40), .call (.f 9) [(.t 37), (.t 38), (.t 39)], some (35, true)⟩, ⟨(some 41), .mv (.t 7), some (35, true)⟩, ⟨(some 42), .mv (.t 1), some (35, true)⟩, ⟨(some 43), .mv (.t 2), some (35, true)⟩, ⟨(some 44), .call (.f 9) [(.t 41), (.t 42), (.t 43)], some (35, true)⟩, ⟨(some 45), .bin .eql (.t 40) (.t 44), some (35, true)⟩, ⟨(some 46), .pick (.t 35) (.t 45) (.c (.b false)), none⟩, ⟨(some 6), .mv (.t 46), none⟩]) (.ret)
noncomputable def X4 : XFn := { ntmps := 47, res := [.t 6], body := .seq (.region [⟨(some 6), .mv (.c (.b false)), none⟩]) (.seq (.region [⟨(some 7), .mv (.c .nils), none⟩]) (.seq (.region [⟨(some 8), .mv (.t 7), none⟩, ⟨(some 9), .mv (.t 0), none⟩, ⟨(some 10), .app 3 40 0 (.t 8) (.t 9), none⟩, ⟨(some 7), .mv (.t 10), none⟩]) X4_T)) }
theorem X4_eq : xfn Tryz.prog Tryz.f4 = some X4 := by kernel_rfl
noncomputable def X9_L0 : XC := .seq (.region [⟨(some 13), .bin .lss (.t 12) (.t 11), none⟩]) (.seq (.cond (.t 13) (.skip) (.exit 0)) (.seq (.block 1 (.seq (.region [⟨(some 14), .iaddr 3 (.t 10) (.t 12), none⟩, ⟨(some 15), .ld true 3 (.t 14), none⟩, ⟨(some 9), .alloc [(.i .u8 (.ofNat 0)), (.s (bs [])), (.s (bs []))] 0, none⟩, ⟨none, .st 3 (.t 9) (.t 15), none⟩]) (.seq (.region [⟨(some 16), .faddr 0 (.t 9), none⟩, ⟨(some 17), .ld false 1 (.t 16), none⟩, ⟨(some 18), .mv (.t 1), none⟩, ⟨(some 19), .bin .eql (.t 17) (.t 18), none⟩, ⟨(some 20), .mv (.t 19), none⟩, ⟨(some 21), .faddr 1 (.t 9), some (20, true)⟩, ⟨(some 22), .ld false 1 (.t 21), some (20, true)⟩, ⟨(some 23), .mv (.t 2), some (20, true)⟩, ⟨(some 24), .bin .eql (.t 22) (.t 23), some (20, true)⟩, ⟨(some 25), .pick (.t 20) (.t 24) (.c (.b false)), none⟩]) (.cond (.t 25) (.region [⟨(some 26), .faddr 2 (.t 9), none⟩, ⟨(some 27), .ld false 1 (.t 26), none⟩, ⟨(some 28), .call (.f 28) [(.t 7), (.t 27)], none⟩]) (.skip))))) (.region [⟨(some 29), .bin .add (.t 12) (.c (.i .i64 (.ofNat 1))), none⟩, ⟨(some 12), .mv (.t 29), none⟩])))
noncomputable def X9 : XFn := { ntmps := 31, res := [.t 6], body := .seq (.region [⟨(some 6), .mv (.c (.s (bs []))), none⟩]) (.seq (.region [⟨(some 7), .alloc [.nilp, .nils] 148, none⟩]) (.seq (.seq (.region [⟨(some 10), .mv (.t 0), none⟩, ⟨(some 11), .lenL (.t 10), none⟩, ⟨(some 12), .mv (.c (.i .i64 (.ofNat 0))), none⟩]) (.block 0 (.loop X9_L0))) (.seq (.region [⟨(some 30), .call (.f 29) [(.t 7)], none⟩, ⟨(some 6), .mv (.t 30), none⟩]) (.ret)))) }
theorem X9_eq : xfn Tryz.prog Tryz.f9 = some X9 := by kernel_rfl
noncomputable def X10_L0 : XC := .seq (.region [⟨(some 13), .bin .lss (.t 12) (.t 11), none⟩]) (.seq (.cond (.t 13) (.skip) (.exit 0)) (.seq (.block 1 (.seq (.region [⟨(some 14), .iaddr 3 (.t 10) (.t 12), none⟩, ⟨(some 15), .ld true 3 (.t 14), none⟩, ⟨(some 9), .alloc [(.i .u8 (.ofNat 0)), (.s (bs [])), (.s (bs []))] 0, none⟩, ⟨none, .st 3 (.t 9) (.t 15), none⟩]) (.seq (.region [⟨(some 16), .faddr 0 (.t 9), none⟩, ⟨(some 17), .ld false 1 (.t 16), none⟩, ⟨(some 18), .mv (.t 1), none⟩, ⟨(some 19), .bin .eql (.t 17) (.t 18), none⟩, ⟨(some 20), .mv (.t 19), none⟩, ⟨(some 21), .faddr 1 (.t 9), some (20, true)⟩, ⟨(some 22), .ld false 1 (.t 21), some (20, true)⟩, ⟨(some 23), .mv (.t 2), some (20, true)⟩, ⟨(some 24), .bin .eql (.t 22) (.t 23), some (20, true)⟩, ⟨(some 25), .pick (.t 20) (.t 24) (.c (.b false)), none⟩]) (.cond (.t 25) (.region [⟨(some 26), .mv (.t 7), none⟩, ⟨(some 27), .faddr 2 (.t 9), none⟩, ⟨(some 28), .ld false 1 (.t 27), none⟩, ⟨(some 29), .bin .add (.t 26) (.t 28), none⟩, ⟨(some 7), .mv (.t 29), none⟩]) (.skip))))) (.region [⟨(some 30), .bin .add (.t 12) (.c (.i .i64 (.ofNat 1))), none⟩, ⟨(some 12), .mv (.t 30), none⟩])))
noncomputable def X10 : XFn := { ntmps := 32, res := [.t 6], body := .seq (.region [⟨(some 6), .mv (.c (.s (bs []))), none⟩]) (.seq (.region [⟨(some 7), .mv (.c (.s (bs []))), none⟩]) (.seq (.seq (.region [⟨(some 10), .mv (.t 0), none⟩, ⟨(some 11), .lenL (.t 10), none⟩, ⟨(some 12), .mv (.c (.i .i64 (.ofNat 0))), none⟩]) (.block 0 (.loop X10_L0))) (.seq (.region [⟨(some 31), .mv (.t 7), none⟩, ⟨(some 6), .mv (.t 31), none⟩]) (.ret)))) }
theorem X10_eq : xfn Tryz.prog Tryz.f10 = some X10 := by kernel_rfl
noncomputable def X11_L0 : XC := .seq (.region [⟨(some 14), .bin .lss (.t 13) (.t 12), none⟩]) (.seq (.cond (.t 14) (.skip) (.exit 0)) (.seq (.block 1 (.seq (.region [⟨(some 15), .mv (.t 13), none⟩, ⟨(some 5), .mv (.t 15), none⟩]) (.seq (.draw [⟨(some 16), .mv (.t 0), none⟩, ⟨(some 17), .mv (.t 5), none⟩, ⟨(some 18), .iaddr 3 (.t 16) (.t 17), none⟩, ⟨(some 19), .ld true 3 (.t 18), none⟩, ⟨(some 20), .mv (.t 1), none⟩, ⟨(some 21), .mv (.t 5), none⟩, ⟨(some 22), .iaddr 3 (.t 20) (.t 21), none⟩, ⟨(some 23), .ld true 3 (.t 22), none⟩, ⟨(some 24), .eq true (.cells 3 [(0, .i), (1, .s), (2, .s)]) (.t 19) (.t 23), none⟩] [⟨[], 0, 0⟩, ⟨[], 0, 0⟩, ⟨[0, 1], 0, 0⟩, ⟨[2, 0, 1], 0, 0⟩, ⟨[], 0, 0⟩, ⟨[], 0, 0⟩, ⟨[4, 5], 0, 0⟩, ⟨[6, 4, 5], 0, 0⟩, ⟨[3, 7, 2, 0, 1, 6, 4, 5], 0, 0⟩]) (.cond (.t 24) (.seq (.region [⟨(some 4), .mv (.c (.b false)), none⟩]) (.ret)) (.skip))))) (.region [⟨(some 25), .bin .add (.t 13) (.c (.i .i64 (.ofNat 1))), none⟩, ⟨(some 13), .mv (.t 25), none⟩])))
noncomputable def X11 : XFn := { ntmps := 26, res := [.t 4], body := .seq (.region [⟨(some 4), .mv (.c (.b false)), none⟩]) (.seq (.seq (.region [⟨(some 6), .mv (.t 0), none⟩, ⟨(some 7), .lenL (.t 6), none⟩, ⟨(some 8), .mv (.t 1), none⟩, ⟨(some 9), .lenL (.t 8), none⟩, ⟨(some 10), .bin .neq (.t 7) (.t 9), none⟩]) (.cond (.t 10) (.seq (.region [⟨(some 4), .mv (.c (.b false)), none⟩]) (.ret)) (.skip))) (.seq (.seq (.region [⟨(some 11), .mv (.t 0), none⟩, ⟨(some 12), .lenL (.t 11), none⟩, ⟨(some 13), .mv (.c (.i .i64 (.ofNat 0))), none⟩]) (.block 0 (.loop X11_L0))) (.seq (.region [⟨(some 4), .mv (.c (.b true)), none⟩]) (.ret)))) }
theorem X11_eq : xfn Tryz.prog Tryz.f11 = some X11 := by kernel_rfl
noncomputable def X12_L0 : XC := .seq (.region [⟨(some 10), .bin .lss (.t 9) (.t 8), none⟩]) (.seq (.cond (.t 10) (.skip) (.exit 0)) (.seq (.block 1 (.seq (.region [⟨(some 11), .iaddr 3 (.t 7) (.t 9), none⟩, ⟨(some 12), .ld true 3 (.t 11), none⟩, ⟨(some 5), .alloc [(.i .u8 (.ofNat 0)), (.s (bs [])), (.s (bs []))] 0, none⟩, ⟨none, .st 3 (.t 5) (.t 12), none⟩]) (.seq (.region [⟨(some 13), .mv (.t 3), none⟩, ⟨(some 14), .lenL (.t 13), none⟩, ⟨(some 6), .mv (.t 14), none⟩]) (.block 2 (.seq (.region [⟨(some 20), .faddr 2 (.t 5), none⟩, ⟨(some 21), .ld false 1 (.t 20), none⟩, ⟨(some 22), .bin .eql (.t 21) (.c (.s (bs []))), none⟩, ⟨(some 19), .mv (.t 22), none⟩]) (.cond (.t 19) (.skip) (.seq (.draw [⟨(some 24), .mv (.t 6), none⟩, ⟨(some 25), .bin .gtr (.t 24) (.c (.i .i64 (.ofNat 0))), none⟩, ⟨(some 26), .mv (.t 25), none⟩, ⟨(some 27), .mv (.t 3), some (26, true)⟩, ⟨(some 28), .mv (.t 6), some (26, true)⟩, ⟨(some 29), .bin .sub (.t 28) (.c (.i .i64 (.ofNat 1))), some (26, true)⟩, ⟨(some 30), .iaddr 3 (.t 27) (.t 29), some (26, true)⟩, ⟨(some 31), .faddr 0 (.t 30), some (26, true)⟩, ⟨(some 32), .ld false 1 (.t 31), some (26, true)⟩, ⟨(some 33), .faddr 0 (.t 5), some (26, true)⟩, ⟨(some 34), .ld false 1 (.t 33), some (26, true)⟩, ⟨(some 35), .bin .eql (.t 32) (.t 34), some (26, true)⟩, ⟨(some 36), .pick (.t 26) (.t 35) (.c (.b false)), none⟩, ⟨(some 37), .mv (.t 36), none⟩, ⟨(some 38), .mv (.t 3), some (37, true)⟩, ⟨(some 39), .mv (.t 6), some (37, true)⟩, ⟨(some 40), .bin .sub (.t 39) (.c (.i .i64 (.ofNat 1))), some (37, true)⟩, ⟨(some 41), .iaddr 3 (.t 38) (.t 40), some (37, true)⟩, ⟨(some 42), .faddr 1 (.t 41), some (37, true)⟩, ⟨(some 43), .ld false 1 (.t 42), some (37, true)⟩, ⟨(some 44), .faddr 1 (.t 5), some (37, true)⟩, ⟨(some 45), .ld false 1 (.t 44), some (37, true)⟩, ⟨(some 46), .bin .eql (.t 43) (.t 45), some (37, true)⟩, ⟨(some 47), .pick (.t 37) (.t 46) (.c (.b false)), none⟩, ⟨(some 23), .mv (.t 47), none⟩] [⟨[], 0, 0⟩, ⟨[0], 0, 0⟩, ⟨[1, 0], 0, 0⟩, ⟨[2, 1, 0], 0, 0⟩, ⟨[2, 1, 0], 0, 0⟩, ⟨[4, 2, 1, 0], 0, 0⟩, ⟨[3, 5, 2, 1, 0, 4], 0, 0⟩, ⟨[6, 2, 3, 5, 1, 0, 4], 0, 0⟩, ⟨[7, 2, 6, 3, 5, 1, 0, 4], 0, 0⟩, ⟨[2, 1, 0], 0, 0⟩, ⟨[9, 2, 1, 0], 0, 0⟩, ⟨[8, 10, 2, 7, 6, 3, 5, 1, 0, 4, 9], 0, 0⟩, ⟨[2, 11, 1, 0, 8, 10, 7, 6, 3, 5, 4, 9], 0, 0⟩, ⟨[12, 2, 11, 1, 0, 8, 10, 7, 6, 3, 5, 4, 9], 0, 0⟩, ⟨[13, 12, 2, 11, 1, 0, 8, 10, 7, 6, 3, 5, 4, 9], 0, 0⟩, ⟨[13, 12, 2, 11, 1, 0, 8, 10, 7, 6, 3, 5, 4, 9], 0, 0⟩, ⟨[15, 13, 12, 2, 11, 1, 0, 8, 10, 7, 6, 3, 5, 4, 9], 0, 0⟩, ⟨[14, 16, 13, 12, 2, 11, 1, 0, 8, 10, 7, 6, 3, 5, 4, 9, 15], 0, 0⟩, ⟨[17, 13, 14, 16, 12, 2, 11, 1, 0, 8, 10, 7, 6, 3, 5, 4, 9, 15], 0, 0⟩, ⟨[18, 13, 17, 14, 16, 12, 2, 11, 1, 0, 8, 10, 7, 6, 3, 5, 4, 9, 15], 0, 0⟩, ⟨[13, 12, 2, 11, 1, 0, 8, 10, 7, 6, 3, 5, 4, 9], 0, 0⟩, ⟨[20, 13, 12, 2, 11, 1, 0, 8, 10, 7, 6, 3, 5, 4, 9], 0, 0⟩, ⟨[19, 21, 13, 18, 17, 14, 16, 12, 2, 11, 1, 0, 8, 10, 7, 6, 3, 5, 4, 9, 15, 20], 0, 0⟩, ⟨[13, 22, 12, 2, 11, 1, 0, 8, 10, 7, 6, 3, 5, 4, 9, 19, 21, 18, 17, 14, 16, 15, 20], 0, 0⟩, ⟨[23, 13, 22, 12, 2, 11, 1, 0, 8, 10, 7, 6, 3, 5, 4, 9, 19, 21, 18, 17, 14, 16, 15, 20], 0, 0⟩]) (.cond (.t 23) (.draw [⟨(some 48), .mv (.t 3), none⟩, ⟨(some 49), .mv (.t 6), none⟩, ⟨(some 50), .bin .sub (.t 49) (.c (.i .i64 (.ofNat 1))), none⟩, ⟨(some 51), .iaddr 3 (.t 48) (.t 50), none⟩, ⟨(some 52), .faddr 2 (.t 51), none⟩, ⟨(some 53), .ld false 1 (.t 52), none⟩, ⟨(some 54), .faddr 2 (.t 5), none⟩, ⟨(some 55), .ld false 1 (.t 54), none⟩, ⟨(some 56), .bin .add (.t 53) (.t 55), none⟩, ⟨(some 57), .iaddr 3 (.t 48) (.t 50), none⟩, ⟨(some 58), .faddr 2 (.t 57), none⟩, ⟨none, .st 1 (.t 58) (.t 56), none⟩] [⟨[], 0, 0⟩, ⟨[], 0, 0⟩, ⟨[1], 0, 0⟩, ⟨[0, 2, 1], 0, 0⟩, ⟨[3, 0, 2, 1], 0, 0⟩, ⟨[4, 3, 0, 2, 1], 0, 0⟩, ⟨[], 0, 0⟩, ⟨[6], 0, 0⟩, ⟨[5, 7, 4, 3, 0, 2, 1, 6], 0, 0⟩, ⟨[0, 2, 1, 3, 4, 5, 6, 7, 8], 0, 0⟩, ⟨[9, 0, 1, 2, 3, 4, 5, 6, 7, 8], 0, 0⟩, ⟨[10, 8, 0, 1, 2, 3, 4, 5, 6, 7, 9], 0, 0⟩]) (.region [⟨(some 15), .mv (.t 3), none⟩, ⟨(some 16), .ld true 3 (.t 5), none⟩, ⟨(some 17), .bslice 3 [(.i .u8 (.ofNat 0)), (.s (bs [])), (.s (bs []))] [(0, 3, (.t 16))] 1, none⟩, ⟨(some 18), .app 3 40 0 (.t 15) (.t 17), none⟩, ⟨(some 3), .mv (.t 18), none⟩]))))))))) (.region [⟨(some 59), .bin .add (.t 9) (.c (.i .i64 (.ofNat 1))), none⟩, ⟨(some 9), .mv (.t 59), none⟩])))
noncomputable def X12 : XFn := { ntmps := 61, res := [.t 2], body := .seq (.region [⟨(some 2), .mv (.c .nils), none⟩]) (.seq (.region [⟨(some 3), .mv (.c .nils), none⟩]) (.seq (.seq (.region [⟨(some 7), .mv (.t 0), none⟩, ⟨(some 8), .lenL (.t 7), none⟩, ⟨(some 9), .mv (.c (.i .i64 (.ofNat 0))), none⟩]) (.block 0 (.loop X12_L0))) (.seq (.region [⟨(some 60), .mv (.t 3), none⟩, ⟨(some 2), .mv (.t 60), none⟩]) (.ret)))) }
theorem X12_eq : xfn Tryz.prog Tryz.f12 = some X12 := by kernel_rfl
noncomputable def X13_L0 : XC := .seq (.region [⟨(some 10), .bin .lss (.t 9) (.t 8), none⟩]) (.seq (.cond (.t 10) (.skip) (.exit 0)) (.seq (.block 1 (.seq (.region [⟨(some 11), .iaddr 3 (.t 7) (.t 9), none⟩, ⟨(some 12), .ld true 3 (.t 11), none⟩, ⟨(some 5), .alloc [(.i .u8 (.ofNat 0)), (.s (bs [])), (.s (bs []))] 0, none⟩, ⟨none, .st 3 (.t 5) (.t 12), none⟩]) (.seq (.region [⟨(some 13), .mv (.t 3), none⟩, ⟨(some 14), .lenL (.t 13), none⟩, ⟨(some 6), .mv (.t 14), none⟩]) (.block 2 (.seq (.region [⟨(some 20), .faddr 2 (.t 5), none⟩, ⟨(some 21), .ld false 1 (.t 20), none⟩, ⟨(some 22), .bin .eql (.t 21) (.c (.s (bs []))), none⟩, ⟨(some 19), .mv (.t 22), none⟩]) (.cond (.t 19) (.skip) (.seq (.draw [⟨(some 24), .mv (.t 6), none⟩, ⟨(some 25), .bin .gtr (.t 24) (.c (.i .i64 (.ofNat 0))), none⟩, ⟨(some 26), .mv (.t 25), none⟩, ⟨(some 27), .mv (.t 3), some (26, true)⟩, ⟨(some 28), .mv (.t 6), some (26, true)⟩, ⟨(some 29), .bin .sub (.t 28) (.c (.i .i64 (.ofNat 1))), some (26, true)⟩, ⟨(some 30), .iaddr 3 (.t 27) (.t 29), some (26, true)⟩, ⟨(some 31), .faddr 0 (.t 30), some (26, true)⟩, ⟨(some 32), .ld false 1 (.t 31), some (26, true)⟩, ⟨(some 33), .faddr 0 (.t 5), some (26, true)⟩, ⟨(some 34), .ld false 1 (.t 33), some (26, true)⟩, ⟨(some 35), .bin .eql (.t 32) (.t 34), some (26, true)⟩, ⟨(some 36), .pick (.t 26) (.t 35) (.c (.b false)), none⟩, ⟨(some 37), .mv (.t 36), none⟩, ⟨(some 38), .mv (.t 3), some (37, true)⟩, ⟨(some 39), .mv (.t 6), some (37, true)⟩, ⟨(some 40), .bin .sub (.t 39) (.c (.i .i64 (.ofNat 1))), some (37, true)⟩, ⟨(some 41), .iaddr 3 (.t 38) (.t 40), some (37, true)⟩, ⟨(some 42), .faddr 1 (.t 41), some (37, true)⟩, ⟨(some 43), .ld false 1 (.t 42), some (37, true)⟩, ⟨(some 44), .faddr 1 (.t 5), some (37, true)⟩, ⟨(some 45), .ld false 1 (.t 44), some (37, true)⟩, ⟨(some 46), .bin .eql (.t 43) (.t 45), some (37, true)⟩, ⟨(some 47), .pick (.t 37) (.t 46) (.c (.b false)), none⟩, ⟨(some 23), .mv (.t 47), none⟩] [⟨[], 0, 0⟩, ⟨[0], 0, 0⟩, ⟨[1, 0], 0, 0⟩, ⟨[2, 1, 0], 0, 0⟩, ⟨[2, 1, 0], 0, 0⟩, ⟨[4, 2, 1, 0], 0, 0⟩, ⟨[3, 5, 2, 1, 0, 4], 0, 0⟩, ⟨[6, 2, 3, 5, 1, 0, 4], 0, 0⟩, ⟨[7, 2, 6, 3, 5, 1, 0, 4], 0, 0⟩, ⟨[2, 1, 0], 0, 0⟩, ⟨[9, 2, 1, 0], 0, 0⟩, ⟨[8, 10, 2, 7, 6, 3, 5, 1, 0, 4, 9], 0, 0⟩, ⟨[2, 11, 1, 0, 8, 10, 7, 6, 3, 5, 4, 9], 0, 0⟩, ⟨[12, 2, 11, 1, 0, 8, 10, 7, 6, 3, 5, 4, 9], 0, 0⟩, ⟨[13, 12, 2, 11, 1, 0, 8, 10, 7, 6, 3, 5, 4, 9], 0, 0⟩, ⟨[13, 12, 2, 11, 1, 0, 8, 10, 7, 6, 3, 5, 4, 9], 0, 0⟩, ⟨[15, 13, 12, 2, 11, 1, 0, 8, 10, 7, 6, 3, 5, 4, 9], 0, 0⟩, ⟨[14, 16, 13, 12, 2, 11, 1, 0, 8, 10, 7, 6, 3, 5, 4, 9, 15], 0, 0⟩, ⟨[17, 13, 14, 16, 12, 2, 11, 1, 0, 8, 10, 7, 6, 3, 5, 4, 9, 15], 0, 0⟩, ⟨[18, 13, 17, 14, 16, 12, 2, 11, 1, 0, 8, 10, 7, 6, 3, 5, 4, 9, 15], 0, 0⟩, ⟨[13, 12, 2, 11, 1, 0, 8, 10, 7, 6, 3, 5, 4, 9], 0, 0⟩, ⟨[20, 13, 12, 2, 11, 1, 0, 8, 10, 7, 6, 3, 5, 4, 9], 0, 0⟩, ⟨[19, 21, 13, 18, 17, 14, 16, 12, 2, 11, 1, 0, 8, 10, 7, 6, 3, 5, 4, 9, 15, 20], 0, 0⟩, ⟨[13, 22, 12, 2, 11, 1, 0, 8, 10, 7, 6, 3, 5, 4, 9, 19, 21, 18, 17, 14, 16, 15, 20], 0, 0⟩, ⟨[23, 13, 22, 12, 2, 11, 1, 0, 8, 10, 7, 6, 3, 5, 4, 9, 19, 21, 18, 17, 14, 16, 15, 20], 0, 0⟩]) (.cond (.t 23) (.draw [⟨(some 48), .mv (.t 3), none⟩, ⟨(some 49), .mv (.t 6), none⟩, ⟨(some 50), .bin .sub (.t 49) (.c (.i .i64 (.ofNat 1))), none⟩, ⟨(some 51), .mv (.t 3), none⟩, ⟨(some 52), .mv (.t 6), none⟩, ⟨(some 53), .bin .sub (.t 52) (.c (.i .i64 (.ofNat 1))), none⟩, ⟨(some 54), .iaddr 3 (.t 51) (.t 53), none⟩, ⟨(some 55), .faddr 2 (.t 54), none⟩, ⟨(some 56), .ld false 1 (.t 55), none⟩, ⟨(some 57), .faddr 2 (.t 5), none⟩, ⟨(some 58), .ld false 1 (.t 57), none⟩, ⟨(some 59), .bin .add (.t 56) (.t 58), none⟩, ⟨(some 60), .iaddr 3 (.t 48) (.t 50), none⟩, ⟨(some 61), .faddr 2 (.t 60), none⟩, ⟨none, .st 1 (.t 61) (.t 59), none⟩] [⟨[], 0, 0⟩, ⟨[], 0, 0⟩, ⟨[1], 0, 0⟩, ⟨[], 0, 0⟩, ⟨[], 0, 0⟩, ⟨[4], 0, 0⟩, ⟨[3, 5, 4], 0, 0⟩, ⟨[6, 3, 5, 4], 0, 0⟩, ⟨[7, 6, 3, 5, 4], 0, 0⟩, ⟨[], 0, 0⟩, ⟨[9], 0, 0⟩, ⟨[8, 10, 7, 6, 3, 5, 4, 9], 0, 0⟩, ⟨[0, 2, 1, 3, 4, 5, 6, 7, 8, 9, 10, 11], 0, 0⟩, ⟨[12, 0, 1, 2, 3, 4, 5, 6, 7, 8, 9, 10, 11], 0, 0⟩, ⟨[13, 11, 0, 1, 2, 3, 4, 5, 6, 7, 8, 9, 10, 12], 0, 0⟩]) (.region [⟨(some 15), .mv (.t 3), none⟩, ⟨(some 16), .ld true 3 (.t 5), none⟩, ⟨(some 17), .bslice 3 [(.i .u8 (.ofNat 0)), (.s (bs [])), (.s (bs []))] [(0, 3, (.t 16))] 1, none⟩, ⟨(some 18), .app 3 40 0 (.t 15) (.t 17), none⟩, ⟨(some 3), .mv (.t 18), none⟩]))))))))) (.region [⟨(some 62), .bin .add (.t 9) (.c (.i .i64 (.ofNat 1))), none⟩, ⟨(some 9), .mv (.t 62), none⟩])))
noncomputable def X13 : XFn := { ntmps := 64, res := [.t 2], body := .seq (.region [⟨(some 2), .mv (.c .nils), none⟩]) (.seq (.region [⟨(some 3), .mv (.c .nils), none⟩]) (.seq (.seq (.region [⟨(some 7), .mv (.t 0), none⟩, ⟨(some 8), .lenL (.t 7), none⟩, ⟨(some 9), .mv (.c (.i .i64 (.ofNat 0))), none⟩]) (.block 0 (.loop X13_L0))) (.seq (.region [⟨(some 63), .mv (.t 3), none⟩, ⟨(some 2), .mv (.t 63), none⟩]) (.ret)))) }
theorem X13_eq : xfn Tryz.prog Tryz.f13 = some X13 := by kernel_rfl
noncomputable def X28 : XFn := { ntmps := 19, res := [.t 4, .t 5], body := .seq (.region [⟨(some 4), .mv (.c (.i .i64 (.ofNat 0))), none⟩, ⟨(some 5), .mv (.c .nili), none⟩]) (.seq (.region [⟨(some 6), .mv (.t 0), none⟩, ⟨(some 7), .call (.f 46) [(.t 6)], none⟩]) (.seq (.region [⟨(some 8), .mv (.t 0), none⟩, ⟨(some 9), .mv (.t 0), none⟩, ⟨(some 10), .nilchk (.t 9), none⟩, ⟨(some 11), .faddr 1 (.t 10), none⟩, ⟨(some 12), .ld false 1 (.t 11), none⟩, ⟨(some 13), .mv (.t 1), none⟩, ⟨(some 14), .appS 13 (.t 12) (.t 13), none⟩, ⟨(some 15), .nilchk (.t 8), none⟩, ⟨(some 16), .faddr 1 (.t 15), none⟩, ⟨none, .st 1 (.t 16) (.t 14), none⟩]) (.seq (.region [⟨(some 17), .mv (.t 1), none⟩, ⟨(some 18), .lenS (.t 17), none⟩, ⟨(some 4), .mv (.t 18), none⟩, ⟨(some 5), .mv (.c .nili), none⟩]) (.ret)))) }
theorem X28_eq : xfn Tryz.prog Tryz.f28 = some X28 := by kernel_rfl
end Go.Proofs.YtelnkadnphephaaGreatDoor.T
end
noncomputable section
namespace Go.Proofs.YtelnkadnphephaaGreatDoor.T
open Go Go.Abs
noncomputable section

/-- An effect: its kind, name and text. -/
structure Ef where
  k : Int
  nm : List UInt8
  tx : List UInt8

def Ef.cs (e : Ef) : List D := [.i .u8 e.k, .s e.nm, .s e.tx]
def Ef.d (e : Ef) : D := .agg e.cs

/-- A slice of effects reads as a list. -/
def View (t : Tr AObj) (n : Nat) (d : D) (es : List Ef) : Prop :=
  d = .fz 3 (es.map Ef.d) ∨ (es = [] ∧ d = .nils) ∨ ∃ l m, l < n ∧ d = .sl 3 l 0 es.length ∧ t.get l = some (.cells (es.flatMap Ef.cs) m)

/-- Memory has grown. -/
def Gr (t : Tr AObj) (n : Nat) (t' : Tr AObj) (n' : Nat) : Prop := n ≤ n' ∧ ∀ l, l < n → t'.get l = t.get l

theorem Gr.refl {t : Tr AObj} {n : Nat} : Gr t n t n := ⟨Nat.le_refl _, fun _ _ => rfl⟩
theorem Gr.trans {t t1 t2 : Tr AObj} {n n1 n2 : Nat} (a : Gr t n t1 n1) (b : Gr t1 n1 t2 n2) : Gr t n t2 n2 := ⟨Nat.le_trans a.1 b.1, fun l hl => (b.2 l (Nat.lt_of_lt_of_le hl a.1)).trans (a.2 l hl)⟩
theorem Gr.set {t t1 : Tr AObj} {n n1 l : Nat} {o : Option AObj} (a : Gr t n t1 n1) (h : n ≤ l) : Gr t n (t1.set l o) n1 := ⟨a.1, fun m hm => by rw [Tr.get_set, if_neg (by omega)]; exact a.2 m hm⟩
theorem Gr.up {t t1 : Tr AObj} {n n1 n2 : Nat} (a : Gr t n t1 n1) (h : n1 ≤ n2) : Gr t n t1 n2 := ⟨Nat.le_trans a.1 h, a.2⟩

theorem View.mono {t t' : Tr AObj} {n n' : Nat} {d : D} {es : List Ef} (h : View t n d es) (g : Gr t n t' n') : View t' n' d es := by
  rcases h with h | h | ⟨l, m, hl, hd, hg⟩
  · exact .inl h
  · exact .inr (.inl h)
  · exact .inr (.inr ⟨l, m, Nat.lt_of_lt_of_le hl g.1, hd, (g.2 l hl).trans hg⟩)

theorem View.ok {t : Tr AObj} {n : Nat} {d : D} {es : List Ef} (h : View t n d es) : d.ok = true := by
  rcases h with rfl | ⟨_, rfl⟩ | ⟨l, m, hl, rfl, hg⟩ <;> rfl

theorem View.len {t : Tr AObj} {n : Nat} {d : D} {es : List Ef} (h : View t n d es) {get : Nat → Option AObj} {m : Nat} {ev : Opd → D} {x : Opd} (hx : ev x = d) : aop get m ev (.lenL x) = .val (.i .i64 es.length) := by
  rcases h with rfl | ⟨rfl, rfl⟩ | ⟨l, m, hl, rfl, hg⟩
  · rw [A_lenFz hx, List.length_map]
  · rw [A_lenNil hx]; rfl
  · rw [A_lenSl hx]

theorem flat_drop : ∀ (es : List Ef) (j : Nat) (e : Ef), es[j]? = some e → j * 3 + 3 ≤ (es.flatMap Ef.cs).length ∧ ((es.flatMap Ef.cs).drop (j * 3)).take 3 = e.cs
  | [], j, e, h => by simp at h
  | a :: r, 0, e, h => by
    simp only [List.getElem?_cons_zero, Option.some.injEq] at h
    subst h
    simp [Ef.cs]
  | a :: r, j + 1, e, h => by
    obtain ⟨h1, h2⟩ := flat_drop r j e (by simpa using h)
    have e1 : ((a :: r).flatMap Ef.cs) = a.cs ++ r.flatMap Ef.cs := by simp
    have e2 : (j + 1) * 3 = a.cs.length + j * 3 := by simp [Ef.cs]; omega
    constructor
    · rw [e1, List.length_append, e2]
      have : a.cs.length = 3 := rfl
      omega
    · rw [e1, e2, ← List.drop_drop, List.drop_left]
      exact h2

theorem View.fz {t : Tr AObj} {n : Nat} {es : List Ef} : View t n (.fz 3 (es.map Ef.d)) es := .inl rfl
theorem View.nil {t : Tr AObj} {n : Nat} : View t n .nils [] := .inr (.inl ⟨rfl, rfl⟩)
theorem View.sl {t : Tr AObj} {n l m : Nat} {es : List Ef} (h : l < n) (hg : t.get l = some (.cells (es.flatMap Ef.cs) m)) : View t n (.sl 3 l 0 es.length) es := .inr (.inr ⟨l, m, h, rfl, hg⟩)

/-- An element is reached, and read. -/
theorem View.at {t : Tr AObj} {n : Nat} {d : D} {es : List Ef} (h : View t n d es) {j : Nat} {e : Ef} (hj : es[j]? = some e) :
    ∃ a, a.ok = true ∧ (∀ (get : Nat → Option AObj) (m : Nat) (ev : Opd → D) (x y : Opd), ev x = d → ev y = .i .i64 (j : Nat) → aop get m ev (.iaddr 3 x y) = .val a) ∧ (∀ t' n', Gr t n t' n' → ∀ (m : Nat) (ev : Opd → D) (x : Opd), ev x = a → aop t'.get m ev (.ld true 3 x) = .val e.d) := by
  rcases h with rfl | ⟨rfl, rfl⟩ | ⟨l, m, hl, rfl, hg⟩
  · refine ⟨.fptr e.d.cells, rfl, fun get m ev x y hx hy => A_iaddrFz hx hy (by simp [hj]), fun t' n' _ m ev x hx => A_ldAf hx (by simp [Ef.d, Ef.cs, D.cells]) rfl⟩
  · simp at hj
  · obtain ⟨hlt, _⟩ := List.getElem?_eq_some_iff.1 hj
    obtain ⟨h1, h2⟩ := flat_drop es j e hj
    exact ⟨.ptr l (0 + j * 3), rfl, fun get m ev x y hx hy => A_iaddrSl hx hy hlt rfl, fun t' n' g m ev x hx => A_ldA hx ((g.2 l hl).trans hg) (by omega) (by rw [Nat.zero_add]; exact h2)⟩

/-- What of the effects goes to one place. -/
def textOf (k : Int) (nm : List UInt8) : List Ef → List UInt8
  | [] => []
  | e :: r => if e.k = k ∧ e.nm = nm then e.tx ++ textOf k nm r else textOf k nm r

def lenOf : List Ef → Nat
  | [] => 0
  | e :: r => e.tx.length + lenOf r

theorem textOf_len (k : Int) (nm : List UInt8) : ∀ es, (textOf k nm es).length ≤ lenOf es
  | [] => Nat.le_refl _
  | e :: r => by
    have := textOf_len k nm r
    simp only [textOf, lenOf]
    split
    · rw [List.length_append]; omega
    · omega

theorem wrap1 {j : Nat} (h : j ≤ 1048576) : IntKind.wrap .i64 ((j : Int) + 1) = ((j + 1 : Nat) : Int) := by
  have := wrap_small (k := .i64) (m := j + 1) (by show j + 1 ≤ 9223372036854775807; omega)
  exact this

variable {Γ : Nat → D}

attribute [local irreducible] aop evT tm guardX Tr.get Tr.set WR WD WX WL thn blk lop View Gr


/-- What holds between the rounds of the document's Text. -/
structure I10 (T : Tr D) (t : Tr AObj) (n : Nat) (d : D) (es : List Ef) (k : Int) (nm acc : List UInt8) (j : Nat) : Prop where
  v : View t n d es
  h1 : T.get 1 = some (.i .u8 k)
  h2 : T.get 2 = some (.s nm)
  h7 : T.get 7 = some (.s acc)
  h10 : T.get 10 = some d
  h11 : T.get 11 = some (.i .i64 es.length)
  h12 : T.get 12 = some (.i .i64 (j : Nat))

set_option maxHeartbeats 20000000 in
theorem step10 {T : Tr D} {t : Tr AObj} {n j : Nat} {d : D} {es : List Ef} {e : Ef} {k : Int} {nm acc : List UInt8} (h : I10 T t n d es k nm acc j) (hj : es[j]? = some e) (hjl : j ≤ 1048576) (hacc : acc.length + e.tx.length ≤ maxN)
    {Q : QX} (hQ : ∀ T' t' n', I10 T' t' n' d es k nm (if e.k = k ∧ e.nm = nm then acc ++ e.tx else acc) (j + 1) → Gr t n t' n' → Q .norm T' t' n') : WX Tryz.prog Γ X10_L0 T t n Q := by
  obtain ⟨hV, h1, h2, h7, h10, h11, h12⟩ := h
  obtain ⟨a, ha, hi, hld⟩ := hV.at hj
  obtain ⟨hlt, _⟩ := List.getElem?_eq_some_iff.1 hj
  have hlt' : decide ((j : Int) < (es.length : Int)) = true := by simp [hlt]
  have hw := wrap1 hjl
  have hg0 : Gr t n t n := Gr.refl
  unfold X10_L0
  by_cases hk : e.k = k
  · have hkb : (e.k == k) = true := by simp [hk]
    by_cases hn : e.nm = nm
    · have hnb : (e.nm == nm) = true := by simp [hn]
      rw [if_pos ⟨hk, hn⟩] at hQ
      refine WX.seq ?_
      refine WX.region ?_
      refine WR.val gd_n rfl (A_ltI (rd_t h12) (rd_t h11) hlt') ?_
      refine WR.nil ?_
      refine thn_n ?_
      refine WX.seq ?_
      refine WX.condT (rd_t Tr.get_here) ?_
      refine WX.skip ?_
      refine thn_n ?_
      refine WX.seq ?_
      refine WX.block ?_
      refine WX.seq ?_
      refine WX.region ?_
      refine WR.val gd_n rfl (hi _ _ _ _ _ (rd_t (gth rfl h10)) (rd_t (gth rfl h12))) ?_
      refine WR.val gd_n rfl (hld _ _ hg0 _ _ _ (rd_t Tr.get_here)) ?_
      refine WR.new gd_n rfl (A_alloc) ?_
      refine WR.upd0 gd_n rfl (A_st (rd_t Tr.get_here) (by (first | exact Tr.get_here | assumption | ((repeat refine Tr.get_there (by first | decide | omega) ?_); first | exact Tr.get_here | assumption))) (rd_t (gth rfl Tr.get_here)) rfl (Nat.le_of_ble_eq_true rfl) rfl rfl) ?_
      refine WR.nil ?_
      refine thn_n ?_
      refine WX.seq ?_
      refine WX.region ?_
      refine WR.val gd_n rfl (A_faddr (rd_t Tr.get_here)) ?_
      refine WR.val gd_n rfl (A_ld1 (rd_t Tr.get_here) (by (first | exact Tr.get_here | assumption | ((repeat refine Tr.get_there (by first | decide | omega) ?_); first | exact Tr.get_here | assumption))) rfl) ?_
      refine WR.val gd_n rfl (A_mv (rd_t (Go.Abs.g4 rfl (gth rfl (gth rfl h1)))) rfl) ?_
      refine WR.val gd_n rfl (A_eqI (rd_t (gth rfl Tr.get_here)) (rd_t Tr.get_here) hkb) ?_
      refine WR.val gd_n rfl (A_mv (rd_t Tr.get_here) rfl) ?_
      refine WR.val (gd_t Tr.get_here) rfl (A_faddr (rd_t (Go.Abs.g4 rfl (gth rfl Tr.get_here)))) ?_
      refine WR.val (gd_t (gth rfl Tr.get_here)) rfl (A_ld1 (rd_t Tr.get_here) (by (first | exact Tr.get_here | assumption | ((repeat refine Tr.get_there (by first | decide | omega) ?_); first | exact Tr.get_here | assumption))) rfl) ?_
      refine WR.val (gd_t (Go.Abs.g2 rfl Tr.get_here)) rfl (A_mv (rd_t (Go.Abs.g8 rfl (Go.Abs.g2 rfl (gth rfl h2)))) rfl) ?_
      refine WR.val (gd_t (Go.Abs.g2 rfl (gth rfl Tr.get_here))) rfl (A_eqS (rd_t (gth rfl Tr.get_here)) (rd_t Tr.get_here) hnb) ?_
      refine WR.val gd_n rfl (A_pickT (rd_t (Go.Abs.g4 rfl Tr.get_here)) (rd_t Tr.get_here) rfl) ?_
      refine WR.nil ?_
      refine thn_n ?_
      refine WX.condT (rd_t Tr.get_here) ?_
      refine WX.region ?_
      refine WR.val gd_n rfl (A_mv (rd_t (Go.Abs.g8 rfl (Go.Abs.g4 rfl (gth rfl (gth rfl h7))))) rfl) ?_
      refine WR.val gd_n rfl (A_faddr (rd_t (Go.Abs.g8 rfl (Go.Abs.g2 rfl (gth rfl Tr.get_here))))) ?_
      refine WR.val gd_n rfl (A_ld1 (rd_t Tr.get_here) (by (first | exact Tr.get_here | assumption | ((repeat refine Tr.get_there (by first | decide | omega) ?_); first | exact Tr.get_here | assumption))) rfl) ?_
      refine WR.val gd_n rfl (A_addS (rd_t (Go.Abs.g2 rfl Tr.get_here)) (rd_t Tr.get_here) hacc rfl) ?_
      refine WR.val gd_n rfl (A_mv (rd_t Tr.get_here) rfl) ?_
      refine WR.nil ?_
      refine blk_n ?_
      refine thn_n ?_
      refine WX.region ?_
      refine WR.val gd_n rfl (A_add (rd_t (Go.Abs.g8 rfl (Go.Abs.g8 rfl (Go.Abs.g2 rfl (gth rfl h12))))) rd_c hw) ?_
      refine WR.val gd_n rfl (A_mv (rd_t Tr.get_here) rfl) ?_
      refine WR.nil ?_
      exact hQ _ _ _ ⟨hV.mono (by (repeat refine Gr.set ?_ (by omega)); exact Gr.refl.up (by omega)), (Go.Abs.g8 rfl (Go.Abs.g8 rfl (Go.Abs.g4 rfl (gth rfl h1)))), (Go.Abs.g8 rfl (Go.Abs.g8 rfl (Go.Abs.g4 rfl (gth rfl h2)))), (Go.Abs.g2 rfl Tr.get_here), (Go.Abs.g8 rfl (Go.Abs.g8 rfl (Go.Abs.g4 rfl (gth rfl h10)))), (Go.Abs.g8 rfl (Go.Abs.g8 rfl (Go.Abs.g4 rfl (gth rfl h11)))), Tr.get_here⟩ (by (repeat refine Gr.set ?_ (by omega)); exact Gr.refl.up (by omega))
    · have hnb : (e.nm == nm) = false := by simp [hn]
      rw [if_neg (fun hh => hn hh.2)] at hQ
      refine WX.seq ?_
      refine WX.region ?_
      refine WR.val gd_n rfl (A_ltI (rd_t h12) (rd_t h11) hlt') ?_
      refine WR.nil ?_
      refine thn_n ?_
      refine WX.seq ?_
      refine WX.condT (rd_t Tr.get_here) ?_
      refine WX.skip ?_
      refine thn_n ?_
      refine WX.seq ?_
      refine WX.block ?_
      refine WX.seq ?_
      refine WX.region ?_
      refine WR.val gd_n rfl (hi _ _ _ _ _ (rd_t (gth rfl h10)) (rd_t (gth rfl h12))) ?_
      refine WR.val gd_n rfl (hld _ _ hg0 _ _ _ (rd_t Tr.get_here)) ?_
      refine WR.new gd_n rfl (A_alloc) ?_
      refine WR.upd0 gd_n rfl (A_st (rd_t Tr.get_here) (by (first | exact Tr.get_here | assumption | ((repeat refine Tr.get_there (by first | decide | omega) ?_); first | exact Tr.get_here | assumption))) (rd_t (gth rfl Tr.get_here)) rfl (Nat.le_of_ble_eq_true rfl) rfl rfl) ?_
      refine WR.nil ?_
      refine thn_n ?_
      refine WX.seq ?_
      refine WX.region ?_
      refine WR.val gd_n rfl (A_faddr (rd_t Tr.get_here)) ?_
      refine WR.val gd_n rfl (A_ld1 (rd_t Tr.get_here) (by (first | exact Tr.get_here | assumption | ((repeat refine Tr.get_there (by first | decide | omega) ?_); first | exact Tr.get_here | assumption))) rfl) ?_
      refine WR.val gd_n rfl (A_mv (rd_t (Go.Abs.g4 rfl (gth rfl (gth rfl h1)))) rfl) ?_
      refine WR.val gd_n rfl (A_eqI (rd_t (gth rfl Tr.get_here)) (rd_t Tr.get_here) hkb) ?_
      refine WR.val gd_n rfl (A_mv (rd_t Tr.get_here) rfl) ?_
      refine WR.val (gd_t Tr.get_here) rfl (A_faddr (rd_t (Go.Abs.g4 rfl (gth rfl Tr.get_here)))) ?_
      refine WR.val (gd_t (gth rfl Tr.get_here)) rfl (A_ld1 (rd_t Tr.get_here) (by (first | exact Tr.get_here | assumption | ((repeat refine Tr.get_there (by first | decide | omega) ?_); first | exact Tr.get_here | assumption))) rfl) ?_
      refine WR.val (gd_t (Go.Abs.g2 rfl Tr.get_here)) rfl (A_mv (rd_t (Go.Abs.g8 rfl (Go.Abs.g2 rfl (gth rfl h2)))) rfl) ?_
      refine WR.val (gd_t (Go.Abs.g2 rfl (gth rfl Tr.get_here))) rfl (A_eqS (rd_t (gth rfl Tr.get_here)) (rd_t Tr.get_here) hnb) ?_
      refine WR.val gd_n rfl (A_pickT (rd_t (Go.Abs.g4 rfl Tr.get_here)) (rd_t Tr.get_here) rfl) ?_
      refine WR.nil ?_
      refine thn_n ?_
      refine WX.condF (rd_t Tr.get_here) ?_
      refine WX.skip ?_
      refine blk_n ?_
      refine thn_n ?_
      refine WX.region ?_
      refine WR.val gd_n rfl (A_add (rd_t (Go.Abs.g8 rfl (Go.Abs.g4 rfl (gth rfl (gth rfl h12))))) rd_c hw) ?_
      refine WR.val gd_n rfl (A_mv (rd_t Tr.get_here) rfl) ?_
      refine WR.nil ?_
      exact hQ _ _ _ ⟨hV.mono (by (repeat refine Gr.set ?_ (by omega)); exact Gr.refl.up (by omega)), (Go.Abs.g8 rfl (Go.Abs.g4 rfl (Go.Abs.g2 rfl (gth rfl (gth rfl h1))))), (Go.Abs.g8 rfl (Go.Abs.g4 rfl (Go.Abs.g2 rfl (gth rfl (gth rfl h2))))), (Go.Abs.g8 rfl (Go.Abs.g4 rfl (Go.Abs.g2 rfl (gth rfl (gth rfl h7))))), (Go.Abs.g8 rfl (Go.Abs.g4 rfl (Go.Abs.g2 rfl (gth rfl (gth rfl h10))))), (Go.Abs.g8 rfl (Go.Abs.g4 rfl (Go.Abs.g2 rfl (gth rfl (gth rfl h11))))), Tr.get_here⟩ (by (repeat refine Gr.set ?_ (by omega)); exact Gr.refl.up (by omega))
  · have hkb : (e.k == k) = false := by simp [hk]
    rw [if_neg (fun hh => hk hh.1)] at hQ
    refine WX.seq ?_
    refine WX.region ?_
    refine WR.val gd_n rfl (A_ltI (rd_t h12) (rd_t h11) hlt') ?_
    refine WR.nil ?_
    refine thn_n ?_
    refine WX.seq ?_
    refine WX.condT (rd_t Tr.get_here) ?_
    refine WX.skip ?_
    refine thn_n ?_
    refine WX.seq ?_
    refine WX.block ?_
    refine WX.seq ?_
    refine WX.region ?_
    refine WR.val gd_n rfl (hi _ _ _ _ _ (rd_t (gth rfl h10)) (rd_t (gth rfl h12))) ?_
    refine WR.val gd_n rfl (hld _ _ hg0 _ _ _ (rd_t Tr.get_here)) ?_
    refine WR.new gd_n rfl (A_alloc) ?_
    refine WR.upd0 gd_n rfl (A_st (rd_t Tr.get_here) (by (first | exact Tr.get_here | assumption | ((repeat refine Tr.get_there (by first | decide | omega) ?_); first | exact Tr.get_here | assumption))) (rd_t (gth rfl Tr.get_here)) rfl (Nat.le_of_ble_eq_true rfl) rfl rfl) ?_
    refine WR.nil ?_
    refine thn_n ?_
    refine WX.seq ?_
    refine WX.region ?_
    refine WR.val gd_n rfl (A_faddr (rd_t Tr.get_here)) ?_
    refine WR.val gd_n rfl (A_ld1 (rd_t Tr.get_here) (by (first | exact Tr.get_here | assumption | ((repeat refine Tr.get_there (by first | decide | omega) ?_); first | exact Tr.get_here | assumption))) rfl) ?_
    refine WR.val gd_n rfl (A_mv (rd_t (Go.Abs.g4 rfl (gth rfl (gth rfl h1)))) rfl) ?_
    refine WR.val gd_n rfl (A_eqI (rd_t (gth rfl Tr.get_here)) (rd_t Tr.get_here) hkb) ?_
    refine WR.val gd_n rfl (A_mv (rd_t Tr.get_here) rfl) ?_
    refine WR.skip (gd_tf Tr.get_here) ?_
    refine WR.skip (gd_tf (gth rfl Tr.get_here)) ?_
    refine WR.skip (gd_tf (Go.Abs.g2 rfl Tr.get_here)) ?_
    refine WR.skip (gd_tf (Go.Abs.g2 rfl (gth rfl Tr.get_here))) ?_
    refine WR.val gd_n rfl (A_pickF (rd_t (Go.Abs.g4 rfl Tr.get_here)) rd_c rfl) ?_
    refine WR.nil ?_
    refine thn_n ?_
    refine WX.condF (rd_t Tr.get_here) ?_
    refine WX.skip ?_
    refine blk_n ?_
    refine thn_n ?_
    refine WX.region ?_
    refine WR.val gd_n rfl (A_add (rd_t (Go.Abs.g8 rfl (Go.Abs.g4 rfl (gth rfl (gth rfl h12))))) rd_c hw) ?_
    refine WR.val gd_n rfl (A_mv (rd_t Tr.get_here) rfl) ?_
    refine WR.nil ?_
    exact hQ _ _ _ ⟨hV.mono (by (repeat refine Gr.set ?_ (by omega)); exact Gr.refl.up (by omega)), (Go.Abs.g8 rfl (Go.Abs.g4 rfl (Go.Abs.g2 rfl (gth rfl (gth rfl h1))))), (Go.Abs.g8 rfl (Go.Abs.g4 rfl (Go.Abs.g2 rfl (gth rfl (gth rfl h2))))), (Go.Abs.g8 rfl (Go.Abs.g4 rfl (Go.Abs.g2 rfl (gth rfl (gth rfl h7))))), (Go.Abs.g8 rfl (Go.Abs.g4 rfl (Go.Abs.g2 rfl (gth rfl (gth rfl h10))))), (Go.Abs.g8 rfl (Go.Abs.g4 rfl (Go.Abs.g2 rfl (gth rfl (gth rfl h11))))), Tr.get_here⟩ (by (repeat refine Gr.set ?_ (by omega)); exact Gr.refl.up (by omega))

set_option maxHeartbeats 20000000 in
theorem loop10 {d : D} {es : List Ef} {k : Int} {nm : List UInt8} (hes : es.length ≤ 1048576) : ∀ (rest : List Ef) (j : Nat) (acc : List UInt8) (T : Tr D) (t : Tr AObj) (n : Nat) (Q : QX), I10 T t n d es k nm acc j → es.drop j = rest → acc.length + lenOf rest ≤ maxN →
    (∀ T' t' n', T'.get 7 = some (.s (acc ++ textOf k nm rest)) → Gr t n t' n' → Q (.exit 0) T' t' n') → WL Tryz.prog Γ X10_L0 T t n Q
  | [], j, acc, T, t, n, Q, h, hd, hl, hQ => by
    have hge : es.length ≤ j := List.drop_eq_nil_iff.1 hd
    obtain ⟨hV, h1, h2, h7, h10, h11, h12⟩ := h
    have hlt' : decide ((j : Int) < (es.length : Int)) = false := by simp; omega
    refine WL.more ?_
    unfold X10_L0
    refine WX.seq ?_
    refine WX.region ?_
    refine WR.val gd_n rfl (A_ltI (rd_t h12) (rd_t h11) hlt') ?_
    refine WR.nil ?_
    refine thn_n ?_
    refine WX.seq ?_
    refine WX.condF (rd_t Tr.get_here) ?_
    refine WX.exit ?_
    refine thn_x ?_
    refine lop_x (hQ _ _ _ ?_ (by (repeat refine Gr.set ?_ (by omega)); exact Gr.refl.up (by omega)))
    rw [textOf, List.append_nil]
    exact (gth rfl h7)
  | e :: r, j, acc, T, t, n, Q, h, hd, hl, hQ => by
    obtain ⟨h1, h2, h3, _⟩ := drop_cons hd.symm
    rw [lenOf] at hl
    refine WL.more (step10 h h2 (by omega) (by omega) fun T' t' n' h' g => lop_n ?_)
    refine loop10 hes r (j + 1) _ T' t' n' Q h' h3.symm ?_ fun T2 t2 n2 h7 g2 => hQ T2 t2 n2 ?_ (g.trans g2)
    · split
      · rw [List.length_append]; omega
      · omega
    · rw [h7, textOf]
      split
      · rw [List.append_assoc]
      · rfl

set_option maxHeartbeats 20000000 in
/-- The document's Text. -/
theorem cx_rText {t : Tr AObj} {n : Nat} {d : D} {es : List Ef} (hV : View t n d es) (hes : es.length ≤ 1048576) (hl : lenOf es ≤ maxN) (k : Int) (nm : List UInt8) :
    ∃ t' n', CX Tryz.prog Γ 10 [d, .i .u8 k, .s nm] (S.mk t n).h (.s (textOf k nm es)) (S.mk t' n').h ∧ Gr t n t' n' := by
  have hok := hV.ok
  have key := CX.ofWX (P := Tryz.prog) (Γ := Γ) (t := t) (n := n) (f := 10) (args := [d, .i .u8 k, .s nm]) Tryz.func10 X10_eq (by kernel_rfl) (by kernel_rfl) (by rfl) (R := fun d' t' n' => d' = .s (textOf k nm es) ∧ Gr t n t' n') (by
    show WX _ _ X10.body (((Tr.e.set 0 (some d)).set 1 (some (.i .u8 k))).set 2 (some (.s nm))) _ _ _
    unfold X10
    refine WX.seq ?_
    refine WX.region ?_
    refine WR.val gd_n rfl (A_mv rd_c rfl) ?_
    refine WR.nil ?_
    refine thn_n ?_
    refine WX.seq ?_
    refine WX.region ?_
    refine WR.val gd_n rfl (A_mv rd_c rfl) ?_
    refine WR.nil ?_
    refine thn_n ?_
    refine WX.seq ?_
    refine WX.seq ?_
    refine WX.region ?_
    refine WR.val gd_n rfl (A_mv (rd_t (Go.Abs.g4 rfl Tr.get_here)) hok) ?_
    refine WR.val gd_n rfl (hV.len (rd_t Tr.get_here)) ?_
    refine WR.val gd_n rfl (A_mv rd_c rfl) ?_
    refine WR.nil ?_
    refine thn_n ?_
    refine WX.block ?_
    refine WX.loop ?_
    refine loop10 hes es 0 [] _ _ _ _ ⟨hV, (by (first | exact Tr.get_here | assumption | ((repeat refine Tr.get_there (by first | decide | omega) ?_); first | exact Tr.get_here | assumption))), (by (first | exact Tr.get_here | assumption | ((repeat refine Tr.get_there (by first | decide | omega) ?_); first | exact Tr.get_here | assumption))), (by (first | exact Tr.get_here | assumption | ((repeat refine Tr.get_there (by first | decide | omega) ?_); first | exact Tr.get_here | assumption))), (by (first | exact Tr.get_here | assumption | ((repeat refine Tr.get_there (by first | decide | omega) ?_); first | exact Tr.get_here | assumption))), (by (first | exact Tr.get_here | assumption | ((repeat refine Tr.get_there (by first | decide | omega) ?_); first | exact Tr.get_here | assumption))), (by (first | exact Tr.get_here | assumption | ((repeat refine Tr.get_there (by first | decide | omega) ?_); first | exact Tr.get_here | assumption)))⟩ rfl (by simpa using hl) fun T' t' n' h7 g => ?_
    rw [List.nil_append] at h7
    refine blk_x ?_
    refine thn_n ?_
    refine WX.seq ?_
    refine WX.region ?_
    refine WR.val gd_n rfl (A_mv (rd_t h7) rfl) ?_
    refine WR.val gd_n rfl (A_mv (rd_t Tr.get_here) rfl) ?_
    refine WR.nil ?_
    refine thn_n ?_
    refine WX.ret ?_
    exact retQ_r (res_t Tr.get_here res_nil) rfl ⟨rfl, g⟩)
  obtain ⟨d', t', n', hx, rfl, hg⟩ := key
  exact ⟨t', n', hx, hg⟩
end
end Go.Proofs.YtelnkadnphephaaGreatDoor.T
end
