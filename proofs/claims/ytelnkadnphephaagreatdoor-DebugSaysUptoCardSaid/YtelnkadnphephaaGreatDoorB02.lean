/- Abs19: The abstract machine, part 19: one operation, from state to state. No condition.
Abs20: The abstract machine, part 20: states, code and calls. No condition.
Abs21: The abstract machine, part 21: less memory is enough. No condition.
Abs22: The abstract machine, part 22: calls whose arguments and result hold no memory. No condition.
Abs23: The abstract machine, part 23: regions whose order is drawn. No condition.
Abs24: The abstract machine, part 24: one operation of a region whose order is drawn. No condition.
Abs25: The abstract machine, part 25: an operation looks at its operands alone. No condition.
Abs26: The abstract machine, part 26: the memory in a region whose order is drawn. No condition.
Abs27: The abstract machine, part 27: what the plan of a region says. No condition.
Abs28: The abstract machine, part 28: a region whose order is drawn, by its plan. No condition.
Abs29: The abstract machine, part 29: the order of a map's entries does not matter. No condition.
Abs30: The abstract machine, part 30: objects made in a region, map literals among them. No condition.
Abs31: The abstract machine, part 31: a region whose order is drawn, by its plan, with map literals. No condition.
Abs32: The abstract machine, part 32: an insert of a map literal. No condition.
Abs33: The abstract machine, part 33: a region whose order is drawn, with map literals and their inserts. No condition.
Fast: What an operation does to data, one small definition for each operation. No condition.
Abs34: The abstract machine, part 34: memory as tries; regions in order. No condition.
Abs35: The abstract machine, part 35: operations that don't look at memory; equality of data. No condition.
Abs36: The abstract machine, part 36: a region whose order is drawn, as it is run. No condition.
Abs37: The abstract machine, part 37: what is run of a region whose order is drawn is what it does. No condition.
Abs38: The abstract machine, part 38: each operation of a region whose order is drawn, as it is run. No condition.
Abs39: The abstract machine, part 39: a region whose order is drawn, as it is run, is what it does. No condition.
Abs40: The abstract machine, part 40: a region whose order is drawn, run and checked. No condition.
Abs41: The abstract machine, part 41: code and calls, as they are run. No condition.
Abs42: The abstract machine, part 42: views of data, forcing, and tries, for the kernel. No condition.
Abs43: The abstract machine, part 43: operations in order, for the kernel. No condition. -/
import Derived.Test.YtelnkadnphephaaGreatDoorB01
import Derived.LoopNIn
import Derived.OrdersIn
import Derived.RangeFuncLeaves
import Derived.RangeFuncRecord
set_option linter.unusedVariables false
set_option linter.unusedSimpArgs false
noncomputable section
namespace Go.Abs
open Go

def AR.heap (r : AR) (h : AHeap) (id nx : Nat) : AHeap :=
  match r with
  | .upd l o _ => { get := fun m => if m = l then some o else h.get m,next := nx }
  | .new o _ => { get := fun m => if m = id then some o else h.get m,next := nx }
  | .app l o _ => { get := fun m => if m = id then some o else if m = l then none else h.get m,next := nx }
  | _ => { get := h.get,next := nx }

def AR.d : AR → D
  | .val d | .upd _ _ d | .new _ d | .app _ _ d => d
  | _ => .bad

def AR.quiet : AR → Bool
  | .val _ | .upd _ _ _ => true
  | _ => false

def AR.on : AR → Bool
  | .val _ | .upd _ _ _ | .new _ _ | .app _ _ _ => true
  | _ => false

section
variable {P : Program} {Γ : Nat → D} {I : Nat → Prop} {μ : Emb} {h : AHeap} {w : World} {id : Nat}

theorem HR.up (H : HR Γ I μ h w) {nx : Nat} (hn : h.next ≤ nx) : HR Γ I μ { h with next := nx } w :=
  ⟨H.frz,H.live,H.inj,fun l hl => H.fresh l (Nat.le_trans hn hl),H.glob⟩

theorem Only.keepR {b : Nat} {w' : World} (o : Only b w w') (hb : ¬ I b) {d : D} {v : Value} (r : R I μ w d v) : R I μ w' d v :=
  r.mono (fun _ x => x) (fun _ _ x => x) (fun c hc => o.same c (fun e => hb (e ▸ hc))) o.rows

theorem Grew.keepR {w' : World} (H : HR Γ I μ h w) (g : Grew w w') {μ' : Emb} (hm : ∀ l p,μ l = some p → μ' l = some p) {d : D} {v : Value} (r : R I μ w d v) : R I μ' w' d v :=
  r.mono (fun _ x => x) hm (fun c hc => g.same c (H.frz c hc)) g.rows

theorem Res.step (H : HR Γ I μ h w) {nx : Nat} (hn : h.next ≤ nx) (hid : μ id = none) {r : Result Next} {ar : AR} (hlt : ar.quiet = true ∨ id < nx) (hr : Res I μ h w id r ar) (hon : ar.on = true) :
    ∃ n v w' μ',r = .ok n w' ∧ NextIs n v ∧ Ext I μ h w I μ' (ar.heap h id nx) w' ∧ HR Γ I μ' (ar.heap h id nx) w' ∧ R I μ' w' ar.d v ∧ (∀ l,l ≠ id → μ' l = μ l) := by
  cases ar with
  | bad => simp [AR.on] at hon
  | panic d => simp [AR.on] at hon
  | val d =>
    obtain ⟨n,v,rfl,h1,h2⟩ := hr
    exact ⟨n,v,w,μ,rfl,h1,⟨Nat.le_refl _,rfl,rfl,rfl,fun _ _ x => x,fun _ x => x,fun _ _ x => x,hn,fun _ _ _ => rfl,fun l o b base hg hm => .inr ⟨l,o,base,hg,hm⟩⟩,H.up hn,h2,fun _ _ => rfl⟩
  | upd l o d =>
    obtain ⟨n,v,w',b,base,rfl,h1,h2,h3,h4,h5,h6⟩ := hr
    obtain ⟨o0,hg0⟩ := Option.isSome_iff_exists.1 h3
    obtain ⟨b0,base0,k1,k2,k3⟩ := H.live l o0 hg0
    rw [h2] at k1
    simp only [Option.some.injEq,Prod.mk.injEq] at k1
    obtain ⟨rfl,rfl⟩ := k1
    refine ⟨n,v,w',μ,rfl,h1,?_,?_,h6,fun _ _ => rfl⟩
    · refine ⟨by rw [h4.size]; exact Nat.le_refl _,h4.os,h4.tape,h4.output,h4.rows,fun _ x => x,fun _ _ x => x,hn,fun c _ hc2 => h4.same c (fun e => hc2 l o0 base hg0 (e ▸ h2)),?_⟩
      intro l' o' b' base' hg hm
      simp only [AR.heap] at hg
      by_cases hl : l' = l
      · subst hl; exact .inr ⟨l',o0,base',hg0,hm⟩
      · rw [if_neg hl] at hg; exact .inr ⟨l',o',base',hg,hm⟩
    · refine ⟨fun c hc => by rw [h4.size]; exact H.frz c hc,?_,?_,fun l' hl => H.fresh l' (Nat.le_trans hn hl),fun g => (H.glob g).imp _root_.id (fun r => h4.keepR k2 r)⟩
      · intro l' o' hg
        simp only [AR.heap] at hg
        by_cases hl : l' = l
        · subst hl
          rw [if_pos rfl] at hg
          simp only [Option.some.injEq] at hg
          subst hg
          exact ⟨b,base,h2,k2,h5⟩
        · rw [if_neg hl] at hg
          obtain ⟨b',base',j1,j2,j3⟩ := H.live l' o' hg
          have hne : b' ≠ b := fun e => hl (H.inj l' l o' o0 b base' base hg hg0 (e ▸ j1) h2)
          exact ⟨b',base',j1,j2,j3.mono (fun _ x => x) (fun _ _ x => x) (fun c hc => h4.same c (fun e => k2 (e ▸ hc))) h4.rows (h4.same b' hne)⟩
      · intro l1 l2 o1 o2 b' base1 base2 hg1 hg2 hm1 hm2
        have get' : ∀ l' o',(AR.heap (.upd l o d) h id nx).get l' = some o' → ∃ o'',h.get l' = some o'' := by
          intro l' o' hg
          simp only [AR.heap] at hg
          by_cases hl : l' = l
          · subst hl; exact ⟨o0,hg0⟩
          · rw [if_neg hl] at hg; exact ⟨o',hg⟩
        obtain ⟨p1,hp1⟩ := get' l1 o1 hg1
        obtain ⟨p2,hp2⟩ := get' l2 o2 hg2
        exact H.inj l1 l2 p1 p2 b' base1 base2 hp1 hp2 hm1 hm2
  | new o d =>
    have hlt := hlt.resolve_left (by simp [AR.quiet])
    obtain ⟨n,v,w',rfl,h1,g,hh⟩ := hr
    let μ' : Emb := fun m => if m = id then some (w.heap.size,0) else μ m
    have hm : ∀ l p,μ l = some p → μ' l = some p := fun l p hl => by
      have : l ≠ id := fun e => by rw [e,hid] at hl; cases hl
      simp [μ',this,hl]
    obtain ⟨h5,h6⟩ := hh μ' hm (by simp [μ'])
    have hnI : ¬ I w.heap.size := fun hI => Nat.lt_irrefl _ (H.frz _ hI)
    have old : ∀ l' o',h.get l' = some o' → ∃ b base,μ l' = some (b,base) ∧ ¬ I b ∧ ObjR I μ w o' b base ∧ b < w.heap.size ∧ l' ≠ id := by
      intro l' o' hg
      obtain ⟨b,base,j1,j2,j3⟩ := H.live l' o' hg
      exact ⟨b,base,j1,j2,j3,j3.lt,fun e => by rw [e,hid] at j1; cases j1⟩
    refine ⟨n,v,w',μ',rfl,h1,?_,?_,h6,fun l hl => by simp [μ',hl]⟩
    · refine ⟨by rw [g.size]; omega,g.os,g.tape,g.output,g.rows,fun _ x => x,hm,hn,fun c hc _ => g.same c hc,?_⟩
      intro l' o' b' base' hg hm'
      simp only [AR.heap] at hg
      by_cases hl : l' = id
      · subst hl
        simp only [μ',if_pos,Option.some.injEq,Prod.mk.injEq] at hm'
        exact .inl (by omega)
      · rw [if_neg hl] at hg
        simp only [μ',if_neg hl] at hm'
        exact .inr ⟨l',o',base',hg,hm'⟩
    · refine ⟨fun c hc => by rw [g.size]; have := H.frz c hc; omega,?_,?_,?_,fun x => (H.glob x).imp _root_.id (fun r => g.keepR H hm r)⟩
      · intro l' o' hg
        simp only [AR.heap] at hg
        by_cases hl : l' = id
        · subst hl
          rw [if_pos rfl] at hg
          simp only [Option.some.injEq] at hg
          subst hg
          exact ⟨w.heap.size,0,by simp [μ'],hnI,h5⟩
        · rw [if_neg hl] at hg
          obtain ⟨b,base,j1,j2,j3,j4,j5⟩ := old l' o' hg
          exact ⟨b,base,hm _ _ j1,j2,j3.mono (fun _ x => x) hm (fun c hc => g.same c (H.frz c hc)) g.rows (g.same b j4)⟩
      · intro l1 l2 o1 o2 b' base1 base2 hg1 hg2 hm1 hm2
        simp only [AR.heap] at hg1 hg2
        by_cases e1 : l1 = id
        · by_cases e2 : l2 = id
          · rw [e1,e2]
          · rw [if_neg e2] at hg2
            obtain ⟨b,base,j1,_,_,j4,_⟩ := old l2 o2 hg2
            simp only [μ',e1,if_pos,Option.some.injEq,Prod.mk.injEq] at hm1
            simp only [μ',if_neg e2,j1,Option.some.injEq,Prod.mk.injEq] at hm2
            omega
        · rw [if_neg e1] at hg1
          obtain ⟨b,base,j1,_,_,j4,_⟩ := old l1 o1 hg1
          simp only [μ',if_neg e1] at hm1
          by_cases e2 : l2 = id
          · simp only [μ',e2,if_pos,Option.some.injEq,Prod.mk.injEq] at hm2
            simp only [j1,Option.some.injEq,Prod.mk.injEq] at hm1
            omega
          · rw [if_neg e2] at hg2
            simp only [μ',if_neg e2] at hm2
            exact H.inj l1 l2 o1 o2 b' base1 base2 hg1 hg2 hm1 hm2
      · intro l hl
        have h1 := H.fresh l (Nat.le_trans hn hl)
        have : l ≠ id := by intro e; rw [e] at hl; exact absurd hlt (Nat.not_lt.2 hl)
        simp [μ',this,h1]
  | app l o d =>
    have hlt := hlt.resolve_left (by simp [AR.quiet])
    obtain ⟨n,v,w',b,base,b',base',rfl,h1,h2,h3,hg,hh⟩ := hr
    obtain ⟨o0,hg0⟩ := Option.isSome_iff_exists.1 h3
    obtain ⟨b0,base0,k1,k2,k3⟩ := H.live l o0 hg0
    rw [h2] at k1
    simp only [Option.some.injEq,Prod.mk.injEq] at k1
    obtain ⟨rfl,rfl⟩ := k1
    let μ' : Emb := fun m => if m = id then some (b',base') else μ m
    have hm : ∀ l p,μ l = some p → μ' l = some p := fun l p hl => by
      have : l ≠ id := fun e => by rw [e,hid] at hl; cases hl
      simp [μ',this,hl]
    obtain ⟨h5,h6⟩ := hh μ' hm (by simp [μ'])
    have hbl : b < w.heap.size := k3.lt
    have hnI : ¬ I b' := by
      rcases hg with ⟨rfl,_⟩ | ⟨rfl,_⟩
      · exact k2
      · exact fun hI => Nat.lt_irrefl _ (H.frz _ hI)
    have hsz : w.heap.size ≤ w'.heap.size := by
      rcases hg with ⟨_,o1⟩ | ⟨_,g1⟩
      · rw [o1.size]; exact Nat.le_refl _
      · rw [g1.size]; omega
    have hrows : ∀ c n,rowSize w c = some n → rowSize w' c = some n := by
      rcases hg with ⟨_,o1⟩ | ⟨_,g1⟩
      · exact o1.rows
      · exact g1.rows
    have hos : w'.os = w.os ∧ w'.tape = w.tape ∧ w'.output = w.output := by
      rcases hg with ⟨_,o1⟩ | ⟨_,g1⟩
      · exact ⟨o1.os,o1.tape,o1.output⟩
      · exact ⟨g1.os,g1.tape,g1.output⟩
    have hsame : ∀ c,c < w.heap.size → c ≠ b → w'.heap[c]? = w.heap[c]? := by
      rcases hg with ⟨_,o1⟩ | ⟨_,g1⟩
      · exact fun c _ hc => o1.same c hc
      · exact fun c hc _ => g1.same c hc
    have hIs : ∀ c,I c → w'.heap[c]? = w.heap[c]? := fun c hc => hsame c (H.frz c hc) (fun e => k2 (e ▸ hc))
    have old : ∀ l' o',h.get l' = some o' → ∃ b1 base1,μ l' = some (b1,base1) ∧ ¬ I b1 ∧ ObjR I μ w o' b1 base1 ∧ b1 < w.heap.size ∧ l' ≠ id := by
      intro l' o' hg
      obtain ⟨b1,base1,j1,j2,j3⟩ := H.live l' o' hg
      exact ⟨b1,base1,j1,j2,j3,j3.lt,fun e => by rw [e,hid] at j1; cases j1⟩
    refine ⟨n,v,w',μ',rfl,h1,?_,?_,h6,fun l hl => by simp [μ',hl]⟩
    · refine ⟨hsz,hos.1,hos.2.1,hos.2.2,hrows,fun _ x => x,hm,hn,fun c hc hc2 => hsame c hc (fun e => hc2 l o0 base hg0 (e ▸ h2)),?_⟩
      intro l' o' b1 base1 hg' hm'
      simp only [AR.heap] at hg'
      by_cases hl : l' = id
      · subst hl
        simp only [μ',if_pos,Option.some.injEq,Prod.mk.injEq] at hm'
        rcases hg with ⟨e,_⟩ | ⟨e,_⟩
        · exact .inr ⟨l,o0,base,hg0,by rw [h2,← hm'.1,e]⟩
        · exact .inl (by omega)
      · rw [if_neg hl] at hg'
        simp only [μ',if_neg hl] at hm'
        by_cases hl2 : l' = l
        · rw [if_pos hl2] at hg'; cases hg'
        · rw [if_neg hl2] at hg'
          exact .inr ⟨l',o',base1,hg',hm'⟩
    · refine ⟨fun c hc => Nat.lt_of_lt_of_le (H.frz c hc) hsz,?_,?_,?_,fun x => (H.glob x).imp _root_.id (fun r => r.mono (fun _ x => x) hm hIs hrows)⟩
      · intro l' o' hg'
        simp only [AR.heap] at hg'
        by_cases hl : l' = id
        · subst hl
          rw [if_pos rfl] at hg'
          simp only [Option.some.injEq] at hg'
          subst hg'
          exact ⟨b',base',by simp [μ'],hnI,h5⟩
        · rw [if_neg hl] at hg'
          by_cases hl2 : l' = l
          · rw [if_pos hl2] at hg'; cases hg'
          · rw [if_neg hl2] at hg'
            obtain ⟨b1,base1,j1,j2,j3,j4,j5⟩ := old l' o' hg'
            have hne : b1 ≠ b := fun e => hl2 (H.inj l' l o' o0 b base1 base hg' hg0 (e ▸ j1) h2)
            exact ⟨b1,base1,hm _ _ j1,j2,j3.mono (fun _ x => x) hm hIs hrows (hsame b1 j4 hne)⟩
      · have lone : ∀ l2 o2 base2,l2 ≠ id → (AR.heap (.app l o d) h id nx).get l2 = some o2 → μ' l2 = some (b',base2) → False := by
          intro l2 o2 base2 e2 hg2 hm2
          simp only [AR.heap] at hg2
          rw [if_neg e2] at hg2
          by_cases hl2 : l2 = l
          · rw [if_pos hl2] at hg2; cases hg2
          · rw [if_neg hl2] at hg2
            simp only [μ',if_neg e2] at hm2
            obtain ⟨b1,base1,j1,_,_,j4,_⟩ := old l2 o2 hg2
            rcases hg with ⟨e,_⟩ | ⟨e,_⟩
            · exact hl2 (H.inj l2 l o2 o0 b base2 base hg2 hg0 (e ▸ hm2) h2)
            · rw [hm2] at j1
              simp only [Option.some.injEq,Prod.mk.injEq] at j1
              omega
        intro l1 l2 o1 o2 bb base1 base2 hg1 hg2 hm1 hm2
        by_cases e1 : l1 = id
        · by_cases e2 : l2 = id
          · rw [e1,e2]
          · have : bb = b' := by simp only [μ',e1,if_pos,Option.some.injEq,Prod.mk.injEq] at hm1; exact hm1.1.symm
            exact (lone l2 o2 base2 e2 hg2 (this ▸ hm2)).elim
        · by_cases e2 : l2 = id
          · have : bb = b' := by simp only [μ',e2,if_pos,Option.some.injEq,Prod.mk.injEq] at hm2; exact hm2.1.symm
            exact (lone l1 o1 base1 e1 hg1 (this ▸ hm1)).elim
          · simp only [AR.heap] at hg1 hg2
            rw [if_neg e1] at hg1
            rw [if_neg e2] at hg2
            by_cases hl1 : l1 = l
            · rw [if_pos hl1] at hg1; cases hg1
            · rw [if_neg hl1] at hg1
              by_cases hl2 : l2 = l
              · rw [if_pos hl2] at hg2; cases hg2
              · rw [if_neg hl2] at hg2
                simp only [μ',if_neg e1] at hm1
                simp only [μ',if_neg e2] at hm2
                exact H.inj l1 l2 o1 o2 bb base1 base2 hg1 hg2 hm1 hm2
      · intro l' hl
        have h1 := H.fresh l' (Nat.le_trans hn hl)
        have : l' ≠ id := by intro e; rw [e] at hl; exact absurd hlt (Nat.not_lt.2 hl)
        simp [μ',this,h1]

end
end Go.Abs
end
noncomputable section
namespace Go.Abs
open Go

structure St (Γ : Nat → D) (I : Nat → Prop) (μ : Emb) (T : Nat → D) (h : AHeap) (N : Nat) (w : World) (a : Act) : Prop where
  hr : HR Γ I μ h w
  tm : ∀ n,(T n).ok = true → R I μ w (T n) (a.tmps.getD n undef)
  sz : N ≤ a.tmps.size

inductive O where
  | norm | ret
  | exit (id : Nat)
  deriving DecidableEq

def O.is : O → Exit → Prop
  | .norm,.normal => True
  | .ret,.ret => True
  | .exit i,.exit j => i = j
  | _,_ => False

def evT (Γ : Nat → D) (T : Nat → D) : Opd → D
  | .t n => T n
  | .c d => d
  | .g n => Γ n
  | .f n => .fn (.func n) [] []

def setT (T : Nat → D) (x : Option Nat) (d : D) : Nat → D :=
  match x with
  | some x => fun n => if n = x then d else T n
  | none => T

def ExtN (I : Nat → Prop) (μ : Emb) (h : AHeap) (w : World) (μ' : Emb) (h' : AHeap) (w' : World) : Prop := Ext I μ h w I μ' h' w' ∧ ∀ l,l < h.next → μ' l = μ l

theorem ExtN.refl (I : Nat → Prop) (μ : Emb) (h : AHeap) (w : World) : ExtN I μ h w μ h w := ⟨Ext.refl _ _ _ _,fun _ _ => rfl⟩

theorem ExtN.trans {I : Nat → Prop} {μ μ' μ'' : Emb} {h h' h'' : AHeap} {w w' w'' : World} (A : ExtN I μ h w μ' h' w') (B : ExtN I μ' h' w' μ'' h'' w'') : ExtN I μ h w μ'' h'' w'' :=
  ⟨A.1.trans B.1,fun l hl => (B.2 l (Nat.lt_of_lt_of_le hl A.1.next)).trans (A.2 l hl)⟩

def Fl (ro : Option Nat) : Fence := { fn := fun _ => True,depth := none,alive := false,round := ro }

def QuietD (P : Program) (f : FuncId) : Prop :=
  ∀ (v0 v1 v2 : Value) (w : World),CallsDIn (Fl none) 0 P f #[v0,v1,v2] .returning w fun e u' w' => u' = .returning ∧ (∃ v,e = .returned v) ∧ w' = w

def QuietDef (P : Program) (d : Deferred) : Prop := ∃ f v0 v1 v2,d.target = .fn (.func f) #[v0,v1,v2] ∧ (∀ w,(invoke d.target d.args).run P w = .ok (.enter f #[v0,v1,v2]) w) ∧ QuietD P f

def markD (D : Nat) : Deferred := { target := .collected D,args := #[] }

def markOf (d : Deferred) : Option Nat :=
  match d.target with
  | .collected D => some D
  | _ => none

def Coll (P : Program) (b0 : Nat) (μ : Emb) (h : AHeap) (w : World) (ex : List Deferred) : Prop :=
  (ex.filterMap markOf).Nodup ∧ ∀ d ∈ ex,(∃ D,d = markD D ∧ b0 ≤ D ∧ w.heap[D]? = some (.deferred (some [])) ∧ ∀ l o base,h.get l = some o → μ l ≠ some (D,base)) ∨ QuietDef P d

section
variable {P : Program}

theorem Coll.nil {b0 : Nat} {μ : Emb} {h : AHeap} {w : World} : Coll P b0 μ h w [] := ⟨.nil,fun d hd => by cases hd⟩

theorem Coll.mark {b0 : Nat} {μ : Emb} {h : AHeap} {w : World} {ex : List Deferred} (C : Coll P b0 μ h w ex) {D : Nat} (hD : D ∈ ex.filterMap markOf) : b0 ≤ D ∧ w.heap[D]? = some (.deferred (some [])) ∧ ∀ l o base,h.get l = some o → μ l ≠ some (D,base) := by
  obtain ⟨d,hd,hm⟩ := List.mem_filterMap.1 hD
  rcases C.2 d hd with ⟨D',rfl,h1⟩ | ⟨f,v0,v1,v2,ht,_⟩
  · have : D' = D := by simpa [markOf,markD] using hm
    subst this; exact h1
  · simp [markOf,ht] at hm

theorem Coll.lt {b0 : Nat} {μ : Emb} {h : AHeap} {w : World} {ex : List Deferred} (C : Coll P b0 μ h w ex) {D : Nat} (hD : D ∈ ex.filterMap markOf) : D < w.heap.size := (Array.getElem?_eq_some_iff.1 (C.mark hD).2.1).1

theorem Coll.ext {b0 : Nat} {I : Nat → Prop} {μ μ' : Emb} {h h' : AHeap} {w w' : World} {ex : List Deferred} (C : Coll P b0 μ h w ex) (E : ExtN I μ h w μ' h' w') : Coll P b0 μ' h' w' ex := by
  refine ⟨C.1,fun d hd => (C.2 d hd).imp (fun ⟨D,hdD,h0,h1,h2⟩ => ?_) _root_.id⟩
  have hlt : D < w.heap.size := (Array.getElem?_eq_some_iff.1 h1).1
  refine ⟨D,hdD,h0,(E.1.frame D hlt h2).trans h1,fun l o base hg hm => ?_⟩
  rcases E.1.back l o D base hg hm with hh | ⟨l0,o0,base0,g0,m0⟩
  · omega
  · exact h2 l0 o0 base0 g0 m0

theorem Coll.append {b0 b1 : Nat} {μ : Emb} {h : AHeap} {w : World} {ex ex' : List Deferred} (A : Coll P b1 μ h w ex') (B : Coll P b0 μ h w ex) (hlt : ∀ D ∈ ex.filterMap markOf,D < b1) (hb : b0 ≤ b1) : Coll P b0 μ h w (ex' ++ ex) := by
  refine ⟨?_,fun d hd => ?_⟩
  · rw [List.filterMap_append]
    refine List.nodup_append.2 ⟨A.1,B.1,fun x hx y hy e => ?_⟩
    have := (A.mark hx).1
    have := hlt y hy
    omega
  · rcases List.mem_append.1 hd with hd | hd
    · exact (A.2 d hd).imp (fun ⟨D,e,h0,h1⟩ => ⟨D,e,by omega,h1⟩) _root_.id
    · exact B.2 d hd

end

def Post (P : Program) (Γ : Nat → D) (I : Nat → Prop) (μ : Emb) (h : AHeap) (w : World) (N : Nat) (df : List Deferred) (o : O) (T' : Nat → D) (h' : AHeap) (e : Exit) (a' : Act) (w' : World) : Prop :=
  o.is e ∧ ∃ μ',ExtN I μ h w μ' h' w' ∧ St Γ I μ' T' h' N w' a' ∧ ∃ ex,a'.defers = ex ++ df ∧ Coll P w.heap.size μ' h' w' ex

def EX (P : Program) (Γ : Nat → D) (ro : Option Nat) (N : Nat) (c : Code) (T : Nat → D) (h : AHeap) (o : O) (T' : Nat → D) (h' : AHeap) : Prop :=
  ∀ I μ w a,St Γ I μ T h N w a → c.wpIn (Fl ro) 0 P (Post P Γ I μ h w N a.defers o T' h') a w

def CallR (P : Program) (f : FuncId) (vals : Array Value) (w : World) (K : Value → World → Prop) : Prop :=
  ((callFunc f vals).run P w = .ok (.enter f vals) w ∧ Calls P f vals w fun | .returned v,w' => K v w' | _,_ => False) ∨
  (∃ v w',(callFunc f vals).run P w = .ok (.value v) w' ∧ K v w')

def CX (P : Program) (Γ : Nat → D) (f : FuncId) (args : List D) (h : AHeap) (d : D) (h' : AHeap) : Prop :=
  ∀ I μ w (vals : List Value),HR Γ I μ h w → Rl I μ w args vals → CallR P f vals.toArray w fun v w' => ∃ μ',ExtN I μ h w μ' h' w' ∧ HR Γ I μ' h' w' ∧ R I μ' w' d v

section
variable {P : Program} {Γ : Nat → D} {I : Nat → Prop} {μ : Emb} {T : Nat → D} {h : AHeap} {N : Nat} {w : World} {a : Act} {ro : Option Nat}

theorem tup0 : R I μ w (.tup []) undef := .tup [] #[] rfl (fun j hj => by simp at hj)

theorem St.ev (S : St Γ I μ T h N w a) : Ev I μ w a (evT Γ T) := by
  intro y hy
  cases y with
  | tmp t => exact S.tm t hy
  | const v =>
    simp only [xopd,evT] at hy ⊢
    split at hy
    · rename_i hg
      rw [if_pos hg]
      exact dOf_R w 20 20 v hg
    · simp [D.ok] at hy
  | global g =>
    rcases S.hr.glob g with hb | hr
    · simp [xopd,evT,hb,D.ok] at hy
    · exact hr
  | func f => exact .fn (.func f) [] [] #[] #[] rfl rfl (fun j hj => by simp at hj) (fun j hj => by simp at hj)

theorem put_getD (a : Act) (dst : Option Nat) (v : Value) (hd : ∀ x,dst = some x → x < a.tmps.size) (n : Nat) :
    (a.put dst v).tmps.getD n undef = if dst = some n then v else a.tmps.getD n undef := by
  cases dst with
  | none => simp [Act.put]
  | some x =>
    have := hd x rfl
    by_cases hx : x = n
    · subst hx; simp [Act.put,this]
    · simp [Act.put,Array.getElem?_setIfInBounds,hx]

theorem St.put (S : St Γ I μ T h N w a) {μ' : Emb} {h' : AHeap} {w' : World} (E : Ext I μ h w I μ' h' w') (H' : HR Γ I μ' h' w') {dst : Option Nat} (hd : ∀ x,dst = some x → x < N) {d : D} {v : Value} (hr : R I μ' w' d v) :
    St Γ I μ' (setT T dst d) h' N w' (a.put dst v) := by
  have hd' : ∀ x,dst = some x → x < a.tmps.size := fun x hx => Nat.lt_of_lt_of_le (hd x hx) S.sz
  refine ⟨H',fun n hn => ?_,?_⟩
  · rw [put_getD a dst v hd']
    unfold setT at hn ⊢
    cases dst with
    | none => simpa using E.r S.hr (S.tm n hn)
    | some x =>
      simp only at hn ⊢
      by_cases hx : n = x
      · subst hx; simpa using hr
      · rw [if_neg hx] at hn ⊢
        rw [if_neg (by simp; exact fun e => hx e.symm)]
        exact E.r S.hr (S.tm n hn)
  · cases dst with
    | none => exact S.sz
    | some x => simp [Act.put]; exact S.sz

theorem put_defers' (a : Act) (dst : Option Nat) (v : Value) : (a.put dst v).defers = a.defers := by cases dst <;> rfl

def guardX (T : Nat → D) (g : Option (Nat × Bool)) : Option Bool :=
  match g with
  | none => some true
  | some (j,w) =>
    match T j with
    | .b x => some (x == w)
    | .tup [] => some false
    | _ => none

theorem R_b {x : Bool} {v : Value} (h : R I μ w (.b x) v) : v = .bool x := by cases h; rfl
theorem R_tup0 {v : Value} (h : R I μ w (.tup []) v) : v = undef := by
  cases h with
  | tup cs xs h1 _ =>
    have : xs = #[] := Array.eq_empty_of_size_eq_zero h1.symm
    subst this; rfl

theorem guard_sound (S : St Γ I μ T h N w a) (hN : N ≤ 100000) (ops : Array Oper) (o : Oper) {b : Bool} (hg : guardX T (xoper P ops o).guard = some b) (hlt : ∀ j x,(xoper P ops o).guard = some (j,x) → j < N) : Region.wanted o (yielded ops a.tmps) = b := by
  unfold Region.wanted
  cases hog : o.guard with
  | none => simp [xoper,hog,guardX] at hg; simp [hg]
  | some jw =>
    obtain ⟨j,want⟩ := jw
    simp only [xoper,hog,Option.map_some,guardX] at hg
    simp only [yielded]
    cases hd : (ops[j]?).bind (·.dst) with
    | none =>
      have h1 := hlt 100000 want (by simp [xoper,hog,hd])
      omega
    | some t =>
      rw [hd] at hg
      simp only [Option.getD_some] at hg
      have ht := hlt t want (by simp [xoper,hog,hd])
      have hts : t < a.tmps.size := Nat.lt_of_lt_of_le ht S.sz
      have hgd : a.tmps[t]? = some (a.tmps.getD t undef) := by simp [hts]
      simp only [Option.bind_some,hgd]
      split at hg
      · rename_i x hx
        have := S.tm t (by rw [hx]; rfl)
        rw [hx] at this
        rw [R_b this]
        simpa using hg
      · rename_i hx
        have := S.tm t (by rw [hx]; rfl)
        rw [hx] at this
        rw [R_tup0 this]
        simp only [Option.some.injEq] at hg
        subst hg
        simp [undef]
      · simp at hg

theorem xop_nodefer {o : Oper} {x : XOp} (hx : xop P o = some x) {get : Nat → Option AObj} {n : Nat} {ev : Opd → D} (hon : (aop get n ev x).on = true) : ∀ c,o.op ≠ .defer c := by
  intro c hc
  unfold xop at hx
  rw [hc] at hx
  simp only at hx
  split at hx
  · simp only [Option.pure_def,Option.some.injEq] at hx
    subst hx
    simp [aop,AR.on] at hon
  · cases hx

theorem oper_wp (S : St Γ I μ T h N w a) {o : Oper} {x : XOp} (hx : xop P o = some x) {id nx : Nat} (hn : h.next ≤ nx) (hid : μ id = none) (hlt : (aop h.get id (evT Γ T) x).quiet = true ∨ id < nx) (hon : (aop h.get id (evT Γ T) x).on = true)
    (hd : ∀ y,o.dst = some y → y < N) {K : Act → World → Prop} {Q : Exit → Act → World → Prop}
    (hK : ∀ a' w' μ',Ext I μ h w I μ' ((aop h.get id (evT Γ T) x).heap h id nx) w' → St Γ I μ' (setT T o.dst (aop h.get id (evT Γ T) x).d) ((aop h.get id (evT Γ T) x).heap h id nx) N w' a' → a'.defers = a.defers → (∀ l,l ≠ id → μ' l = μ l) → K a' w') :
    o.wpIn (Fl ro) 0 P a w K Q := by
  obtain ⟨n,v,w',μ',hr,hnv,E,H',r,hm⟩ := (aop_sound (id := id) S.hr S.ev o hx).step S.hr hn hid hlt hon
  refine ⟨fun _ _ => trivial,?_⟩
  rw [Oper.semAt_eq _ _ _ (xop_nodefer hx hon),hr]
  rcases hnv with rfl | ⟨rfl,rfl⟩
  · exact hK _ _ μ' E (S.put E H' hd r) (put_defers' _ _ _) hm
  · exact hK _ _ μ' E (S.put E H' hd r) (put_defers' _ _ _) hm

theorem Rl_of {ds : List D} {vs : List Value} (hl : ds.length = vs.length) (hr : ∀ j (h1 : j < ds.length) (h2 : j < vs.length),R I μ w ds[j] vs[j]) : Rl I μ w ds vs := by
  induction ds generalizing vs with
  | nil =>
    have : vs = [] := List.eq_nil_of_length_eq_zero hl.symm
    subst this; exact .nil
  | cons d ds ih =>
    cases vs with
    | nil => simp at hl
    | cons v vs => exact .cons (hr 0 (by simp) (by simp)) (ih (by simpa using hl) (fun j h1 h2 => hr (j + 1) (by simpa using h1) (by simpa using h2)))

theorem Rl.append {ds es : List D} {vs us : List Value} (h1 : Rl I μ w ds vs) (h2 : Rl I μ w es us) : Rl I μ w (ds ++ es) (vs ++ us) := by
  induction h1 with
  | nil => exact h2
  | cons a _ ih => exact .cons a ih

theorem R_fn {f : Fn} {aa cs : List D} {v : Value} (h : R I μ w (.fn f aa cs) v) : ∃ xs ys,v = .func f xs ys ∧ Rl I μ w aa xs.toList ∧ Rl I μ w cs ys.toList := by
  cases h with
  | fn _ _ _ xs ys h1 h2 h3 h4 =>
    exact ⟨xs,ys,rfl,Rl_of (by simpa using h1) (fun j k1 k2 => by simpa using h3 j k1),Rl_of (by simpa using h2) (fun j k1 k2 => by simpa using h4 j k1)⟩

theorem call_wp (S : St Γ I μ T h N w a) {o : Oper} {c : Call} (ho : o.op = .call c) {fo : Operand} (hc : c.callee = .value fo) {f : FuncId} {first caps : List D} (hf : evT Γ T (xopd fo) = .fn (.func f) first caps)
    (hargs : ((c.args.toList.map xopd).all fun y => (evT Γ T y).ok) = true) {h' : AHeap} {d : D} (hcx : CX P Γ f (first ++ (c.args.toList.map xopd).map (evT Γ T) ++ caps) h d h') (hd : ∀ y,o.dst = some y → y < N) {K : Act → World → Prop} {Q : Exit → Act → World → Prop}
    (hK : ∀ a' w' μ',ExtN I μ h w μ' h' w' → St Γ I μ' (setT T o.dst d) h' N w' a' → a'.defers = a.defers → K a' w') : o.wpIn (Fl ro) 0 P a w K Q := by
  have rf := S.ev fo (by rw [hf]; rfl)
  rw [hf] at rf
  obtain ⟨xs,ys,hv,r1,r2⟩ := R_fn rf
  have ra := S.ev.list c.args.toList hargs
  have hall := (r1.append ra).append r2
  have harr : (xs.toList ++ c.args.toList.map a.eval ++ ys.toList).toArray = xs ++ c.args.map a.eval ++ ys := by
    apply Array.toList_inj.1; simp
  have hex : (execOp a.eval o).run P w = (callFunc f (xs ++ c.args.map a.eval ++ ys)).run P w := by
    obtain ⟨dst,op,ty,pos,aft,gu⟩ := o
    simp only at ho
    subst ho
    simp [execOp,resolve,hc,hv,Deferred.ofValue,invoke]
  have hcall := hcx I μ w _ S.hr hall
  rw [harr] at hcall
  refine ⟨fun _ _ => trivial,?_⟩
  rw [Oper.semAt_eq _ _ _ (fun c' hc' => by rw [ho] at hc'; cases hc'),hex]
  rcases hcall with ⟨hen,hcalls⟩ | ⟨v,w',hen,μ',E,H',r⟩
  · rw [hen]
    refine ⟨fun hd => (by cases hd),?_⟩
    refine CallsIn.mono ((callsIn_wide (n := 0)).2 hcalls) fun e w' he => ?_
    cases e with
    | returned v =>
      obtain ⟨μ',E,H',r⟩ := he
      exact hK _ _ μ' E (S.put E.1 H' hd r) (put_defers' _ _ _)
    | panicked _ => exact he.elim
    | outgrown => exact he.elim
  · rw [hen]
    exact hK _ _ μ' E (S.put E.1 H' hd r) (put_defers' _ _ _)

/-! ### Pieces of code -/

theorem Post.mono {μ' : Emb} {h1 : AHeap} {w1 : World} {df : List Deferred} {ex : List Deferred} {o : O} {T' : Nat → D} {h' : AHeap} (E : ExtN I μ h w μ' h1 w1) (C : Coll P w.heap.size μ' h1 w1 ex) {e : Exit} {a' : Act} {w' : World} (hp : Post P Γ I μ' h1 w1 N (ex ++ df) o T' h' e a' w') :
    Post P Γ I μ h w N df o T' h' e a' w' := by
  obtain ⟨p1,μ2,E2,S2,ex2,p2,C2⟩ := hp
  exact ⟨p1,μ2,E.trans E2,S2,ex2 ++ ex,by rw [p2,List.append_assoc],C2.append (C.ext E2) (fun D hD => C.lt hD) E.1.size⟩

theorem St.take (S : St Γ I μ T h N w a) {D : Nat} (hI : ¬ I D) (hD : w.heap[D]? = some (.deferred (some []))) (hno : ∀ l o base,h.get l = some o → μ l ≠ some (D,base)) :
    St Γ I μ T h N (w.putObj D (.deferred none)) a ∧ ∀ D',D' ≠ D → (w.putObj D (.deferred none)).heap[D']? = w.heap[D']? := by
  have same : ∀ c,c ≠ D → (w.putObj D (.deferred none)).heap[c]? = w.heap[c]? := fun c hc => World.putObj_heap_other hc
  have rows : ∀ b n,rowSize w b = some n → rowSize (w.putObj D (.deferred none)) b = some n := fun b n hn => by
    by_cases hb : b = D
    · subst hb; unfold rowSize at hn; rw [hD] at hn; cases hn
    · unfold rowSize at hn ⊢; rw [same b hb]; exact hn
  have keep : ∀ {d v},R I μ w d v → R I μ (w.putObj D (.deferred none)) d v := fun r => r.mono (fun _ x => x) (fun _ _ x => x) (fun c hc => same c (fun e => hI (e ▸ hc))) rows
  refine ⟨⟨⟨fun b hb => ?_,fun l o hg => ?_,S.hr.inj,S.hr.fresh,fun g => (S.hr.glob g).imp _root_.id keep⟩,fun n hn => keep (S.tm n hn),S.sz⟩,same⟩
  · have := S.hr.frz b hb
    simpa [World.putObj] using this
  · obtain ⟨b,base,j1,j2,j3⟩ := S.hr.live l o hg
    have hne : b ≠ D := fun e => hno l o base hg (e ▸ j1)
    exact ⟨b,base,j1,j2,j3.mono (fun _ x => x) (fun _ _ x => x) (fun c hc => same c (fun e => hI (e ▸ hc))) rows (same b hne)⟩

theorem leaves_marks {fn : Func} {R : Ending → World → Prop} {b0 : Nat} (hI : ∀ b,I b → b < b0) : ∀ (ex : List Deferred) (w : World),St Γ I μ T h N w a → Coll P b0 μ h w ex →
    (∀ w',St Γ I μ T h N w' a → (∀ c,c < b0 ∨ (∃ l o base,h.get l = some o ∧ μ l = some (c,base)) → w'.heap[c]? = w.heap[c]?) → w'.heap.size = w.heap.size → w'.os = w.os → w'.tape = w.tape → w'.output = w.output → (∀ b n,rowSize w b = some n → rowSize w' b = some n) → ∃ v,(results fn a.tmps).run P w' = .ok v w' ∧ R (.returned v) w') →
    LeavesInM (Fl none) 0 P fn a.tmps R ex .returning w
  | [],w,S,C,k => by
    obtain ⟨v,h1,h2⟩ := k w S (fun _ _ => rfl) rfl rfl rfl rfl (fun _ _ x => x)
    exact ⟨v,h1,h2⟩
  | d :: ex,w,S,C,k => by
    have Ctl : (ex.filterMap markOf).Nodup := by
      have := C.1
      rw [List.filterMap_cons] at this
      split at this
      · exact this
      · exact (List.nodup_cons.1 this).2
    rcases C.2 d (by simp) with ⟨D,rfl,h0,h1,h2⟩ | ⟨f,v0,v1,v2,ht,hinv,hq⟩
    · have hnI : ¬ I D := fun hd => by have := hI D hd; omega
      obtain ⟨S',same⟩ := S.take hnI h1 h2
      have hnd : D ∉ ex.filterMap markOf := by
        have := C.1
        rw [List.filterMap_cons] at this
        simp only [markOf,markD] at this
        exact (List.nodup_cons.1 this).1
      have rows : ∀ b n,rowSize w b = some n → rowSize (w.putObj D (.deferred none)) b = some n := fun b n hn => by
        by_cases hb : b = D
        · subst hb; unfold rowSize at hn; rw [h1] at hn; cases hn
        · unfold rowSize at hn ⊢; rw [same b hb]; exact hn
      have Ct : Coll P b0 μ h (w.putObj D (.deferred none)) ex := by
        refine ⟨Ctl,fun d' hd' => ?_⟩
        rcases C.2 d' (by simp [hd']) with ⟨D',e,x0,x1,x2⟩ | hq
        · have hne : D' ≠ D := fun e' => by
            subst e'
            exact hnd (List.mem_filterMap.2 ⟨d',hd',by rw [e]; rfl⟩)
          exact .inl ⟨D',e,x0,(same D' hne).trans x1,x2⟩
        · exact .inr hq
      refine ⟨by simp,.inl ⟨D,_,rfl,run_takeDeferred h1,leaves_marks hI ex _ S' Ct fun w' S2 f1 f2 f3 f4 f5 f6 => k w' S2 (fun c hc => (f1 c hc).trans (same c fun e => ?_)) (by rw [f2]; simp [World.putObj]) f3 f4 f5 (fun b n hn => f6 b n (rows b n hn))⟩⟩
      rcases hc with hc | ⟨l,o,base,hg,hm⟩
      · omega
      · exact h2 l o base hg (e ▸ hm)
    · refine ⟨by simp,.inr ⟨fun hd => (by cases hd),.func f,#[v0,v1,v2],f,#[v0,v1,v2],ht,hinv w,fun _ _ => trivial,(hq v0 v1 v2 w).mono fun e u' w' hh => ?_⟩⟩
      obtain ⟨rfl,⟨v,rfl⟩,rfl⟩ := hh
      exact leaves_marks hI ex w' S ⟨Ctl,fun d' hd' => C.2 d' (by simp [hd'])⟩ k

theorem EX.skip : EX P Γ ro N .skip T h .norm T h := fun I μ w a S => wpIn_skip ⟨trivial,μ,ExtN.refl _ _ _ _,S,[],rfl,Coll.nil⟩
theorem EX.label {l : Nat} : EX P Γ ro N (.label l) T h .norm T h := fun I μ w a S => wpIn_label ⟨trivial,μ,ExtN.refl _ _ _ _,S,[],rfl,Coll.nil⟩
theorem EX.exit {i : Nat} : EX P Γ ro N (.exit i) T h (.exit i) T h := fun I μ w a S => wpIn_exit ⟨rfl,μ,ExtN.refl _ _ _ _,S,[],rfl,Coll.nil⟩
theorem EX.ret : EX P Γ ro N .ret T h .ret T h := fun I μ w a S => wpIn_ret ⟨trivial,μ,ExtN.refl _ _ _ _,S,[],rfl,Coll.nil⟩

theorem EX.seq {x y : Code} {T1 T2 : Nat → D} {h1 h2 : AHeap} {o : O} (hx : EX P Γ ro N x T h .norm T1 h1) (hy : EX P Γ ro N y T1 h1 o T2 h2) : EX P Γ ro N (.seq x y) T h o T2 h2 := by
  intro I μ w a S
  refine wpIn_seq (wpIn_mono (hx I μ w a S) fun e a' w' hp => ?_)
  obtain ⟨p1,μ',E,S',ex,p2,C⟩ := hp
  cases e <;> try (exact p1.elim)
  exact wpIn_mono (hy I μ' w' a' S') fun e a2 w2 hq => Post.mono E C (p2 ▸ hq)

theorem EX.seq_out {x y : Code} {T1 : Nat → D} {h1 : AHeap} {o : O} (hx : EX P Γ ro N x T h o T1 h1) (ho : o ≠ .norm) : EX P Γ ro N (.seq x y) T h o T1 h1 := by
  intro I μ w a S
  refine wpIn_seq (wpIn_mono (hx I μ w a S) fun e a' w' hp => ?_)
  cases e with
  | normal => cases o <;> first | exact absurd rfl ho | exact hp.1.elim
  | _ => exact hp

theorem EX.cond {c : Operand} {x y : Code} {b : Bool} {T1 : Nat → D} {h1 : AHeap} {o : O} (hc : evT Γ T (xopd c) = .b b) (hx : EX P Γ ro N (if b then x else y) T h o T1 h1) : EX P Γ ro N (.cond c x y) T h o T1 h1 := by
  intro I μ w a S
  have r := S.ev c (by rw [hc]; rfl)
  rw [hc] at r
  exact wpIn_cond (R_b r) (hx I μ w a S)

def O.inBlock (id : Nat) : O → O
  | .exit i => if i = id then .norm else .exit i
  | o => o

theorem EX.block {id : Nat} {c : Code} {T1 : Nat → D} {h1 : AHeap} {o : O} (hx : EX P Γ ro N c T h o T1 h1) : EX P Γ ro N (.block id c) T h (o.inBlock id) T1 h1 := by
  intro I μ w a S
  refine wpIn_block (wpIn_mono (hx I μ w a S) fun e a' w' hp => ?_)
  obtain ⟨p1,p2⟩ := hp
  cases o with
  | norm => cases e <;> first | exact ⟨trivial,p2⟩ | exact p1.elim
  | ret => cases e <;> first | exact ⟨trivial,p2⟩ | exact p1.elim
  | exit i =>
    cases e <;> try (exact p1.elim)
    rename_i j
    have hij : i = j := p1
    subst hij
    simp only [Exit.inBlock,O.inBlock]
    by_cases hi : i = id
    · rw [if_pos hi,if_pos hi]; exact ⟨trivial,p2⟩
    · rw [if_neg hi,if_neg hi]; exact ⟨rfl,p2⟩

theorem rounds_mono {c : Code} {Q Q' : Exit → Act → World → Prop} (hq : ∀ e a w,Q e a w → Q' e a w) : ∀ (n : Nat) (a : Act) (w : World),Code.roundsIn (Fl ro) 0 P c Q n a w → Code.roundsIn (Fl ro) 0 P c Q' n a w
  | 0,_,_,hh => hh
  | n + 1,a,w,hh => wpIn_mono hh fun e a' w' h2 => by
    cases e with
    | normal => exact rounds_mono hq n a' w' h2
    | _ => exact hq _ _ _ h2

def LX (P : Program) (Γ : Nat → D) (ro : Option Nat) (N : Nat) (c : Code) (n : Nat) (T : Nat → D) (h : AHeap) (o : O) (T' : Nat → D) (h' : AHeap) : Prop :=
  ∀ I μ w a,St Γ I μ T h N w a → Code.roundsIn (Fl ro) 0 P c (Post P Γ I μ h w N a.defers o T' h') n a w

theorem LX.out {c : Code} {T1 : Nat → D} {h1 : AHeap} {o : O} (hx : EX P Γ ro N c T h o T1 h1) (ho : o ≠ .norm) (n : Nat) : LX P Γ ro N c (n + 1) T h o T1 h1 := by
  intro I μ w a S
  refine wpIn_mono (hx I μ w a S) fun e a' w' hp => ?_
  cases e with
  | normal => cases o <;> first | exact absurd rfl ho | exact hp.1.elim
  | _ => exact hp

theorem LX.more {c : Code} {T1 T2 : Nat → D} {h1 h2 : AHeap} {o : O} {n : Nat} (hx : EX P Γ ro N c T h .norm T1 h1) (hy : LX P Γ ro N c n T1 h1 o T2 h2) : LX P Γ ro N c (n + 1) T h o T2 h2 := by
  intro I μ w a S
  refine wpIn_mono (hx I μ w a S) fun e a' w' hp => ?_
  obtain ⟨p1,μ',E,S',ex,p2,C⟩ := hp
  cases e <;> try (exact p1.elim)
  exact rounds_mono (fun e a2 w2 hq => Post.mono E C (p2 ▸ hq)) n a' w' (hy I μ' w' a' S')

theorem EX.loop {c : Code} {T1 : Nat → D} {h1 : AHeap} {o : O} {n : Nat} (hx : LX P Γ ro N c n T h o T1 h1) : EX P Γ ro N (.loop c) T h o T1 h1 :=
  fun I μ w a S => wpIn_loop_rounds n (hx I μ w a S)

/-! ### Regions in order -/

def RX (P : Program) (Γ : Nat → D) (ro : Option Nat) (N : Nat) (ops : Array Oper) (l : List Nat) (T : Nat → D) (h : AHeap) (T' : Nat → D) (h' : AHeap) : Prop :=
  ∀ I μ w a,St Γ I μ T h N w a → wpOpsIn (Fl ro) 0 P ops (Post P Γ I μ h w N a.defers .norm T' h') l a w

theorem wpOps_mono {ops : Array Oper} {Q Q' : Exit → Act → World → Prop} (hq : ∀ e a w,Q e a w → Q' e a w) : ∀ (l : List Nat) (a : Act) (w : World),wpOpsIn (Fl ro) 0 P ops Q l a w → wpOpsIn (Fl ro) 0 P ops Q' l a w := by
  have letsOut : LetsOut Q → LetsOut Q' := fun ⟨a,w,h⟩ => ⟨a,w,hq _ _ _ h⟩
  have upon : ∀ (o : Oper) (a : Act) (w : World) (K K' : Act → World → Prop),(∀ a w,K a w → K' a w) → o.wpIn (Fl ro) 0 P a w K Q → o.wpIn (Fl ro) 0 P a w K' Q' := by
    intro o a w K K' hK hh
    refine ⟨hh.1,?_⟩
    replace hh := hh.2
    generalize (o.semAt (Fl ro).round a.eval).run P w = r at *
    cases r with
    | ok n w' =>
      cases n <;> simp only [Oper.uponIn] at hh ⊢ <;>
        first
          | exact hK _ _ hh
          | exact ⟨hh.1,CallsIn.mono hh.2 (fun e w'' he => by cases e <;> first | exact hK _ _ he | exact hq _ _ _ he | exact letsOut he)⟩
          | exact ⟨hh.1,RowsIn.mono hh.2 (fun _ _ he => hK _ _ he)⟩
          | exact ⟨hh.1,RoundIn.mono hh.2 (fun e w'' he => by cases e <;> first | exact hK _ _ he | exact hq _ _ _ he | exact letsOut he)⟩
    | halt x w' => cases x <;> simp only [Oper.uponIn] at hh ⊢ <;> first | exact hh | exact hq _ _ _ hh
  intro l
  induction l with
  | nil => intro a w hh; exact hq _ _ _ hh
  | cons i l ih =>
    intro a w hh
    rw [wpOpsIn_cons] at hh ⊢
    unfold wpOpIn at *
    split
    · rename_i ho
      simp only [ho] at hh
      exact ih _ _ hh
    · rename_i o ho
      simp only [ho] at hh
      split
      · rename_i hw
        simp only [hw,if_true] at hh
        exact upon o a w _ _ (fun a w => ih a w) hh
      · rename_i hw
        rw [if_neg hw] at hh
        exact ⟨hh.1,ih _ _ hh.2⟩

theorem RX.nil {ops : Array Oper} : RX P Γ ro N ops [] T h T h := fun I μ w a S => ⟨trivial,μ,ExtN.refl _ _ _ _,S,[],rfl,Coll.nil⟩

theorem EX.region {id : Nat} {ops : Array Oper} {T1 : Nat → D} {h1 : AHeap} (hx : RX P Γ ro N ops (List.range ops.size) T h T1 h1) : EX P Γ ro N (.region id ops false) T h .norm T1 h1 :=
  fun I μ w a S => wpIn_region (hx I μ w a S)

theorem RX.of {ops : Array Oper} {l : List Nat} {T1 T2 : Nat → D} {h1 h2 : AHeap} (hr : RX P Γ ro N ops l T1 h1 T2 h2) {μ' : Emb} {w' : World} {a' : Act} (E : ExtN I μ h w μ' h1 w') (S' : St Γ I μ' T1 h1 N w' a') (hdf : a'.defers = a.defers) :
    wpOpsIn (Fl ro) 0 P ops (Post P Γ I μ h w N a.defers .norm T2 h2) l a' w' :=
  wpOps_mono (fun _ _ _ hq => Post.mono (ex := []) E Coll.nil (hdf ▸ hq)) l a' w' (hr I μ' w' a' S')

theorem RX.op {ops : Array Oper} {l : List Nat} {i : Nat} {o : Oper} (ho : ops[i]? = some o) {x : XOp} (hx : xop P o = some x) (hN : N ≤ 100000) (hg : guardX T (xoper P ops o).guard = some true) (hgl : ∀ j x,(xoper P ops o).guard = some (j,x) → j < N)
    (hd : ∀ y,o.dst = some y → y < N) (hon : (aop h.get h.next (evT Γ T) x).on = true) {T2 : Nat → D} {h2 : AHeap}
    (hr : RX P Γ ro N ops l (setT T o.dst (aop h.get h.next (evT Γ T) x).d) ((aop h.get h.next (evT Γ T) x).heap h h.next (h.next + 1)) T2 h2) : RX P Γ ro N ops (i :: l) T h T2 h2 := by
  intro I μ w a S
  rw [wpOpsIn_cons]
  unfold wpOpIn
  simp only [ho,guard_sound S hN ops o hg hgl,if_true]
  exact (oper_wp S hx (Nat.le_succ _) (S.hr.fresh _ (Nat.le_refl _)) (.inr (Nat.lt_succ_self _)) hon hd fun a' w' μ' E S' hdf hm => hr.of ⟨E,fun l hl => hm l (Nat.ne_of_lt hl)⟩ S' hdf)

theorem RX.opq {ops : Array Oper} {l : List Nat} {i : Nat} {o : Oper} (ho : ops[i]? = some o) {x : XOp} (hx : xop P o = some x) (hN : N ≤ 100000) (hg : guardX T (xoper P ops o).guard = some true) (hgl : ∀ j x,(xoper P ops o).guard = some (j,x) → j < N)
    (hd : ∀ y,o.dst = some y → y < N) (hon : (aop h.get h.next (evT Γ T) x).on = true) (hq : (aop h.get h.next (evT Γ T) x).quiet = true) {T2 : Nat → D} {h2 : AHeap}
    (hr : RX P Γ ro N ops l (setT T o.dst (aop h.get h.next (evT Γ T) x).d) ((aop h.get h.next (evT Γ T) x).heap h h.next h.next) T2 h2) : RX P Γ ro N ops (i :: l) T h T2 h2 := by
  intro I μ w a S
  rw [wpOpsIn_cons]
  unfold wpOpIn
  simp only [ho,guard_sound S hN ops o hg hgl,if_true]
  exact (oper_wp S hx (Nat.le_refl _) (S.hr.fresh _ (Nat.le_refl _)) (.inl hq) hon hd fun a' w' μ' E S' hdf hm => hr.of ⟨E,fun l hl => hm l (Nat.ne_of_lt hl)⟩ S' hdf)

theorem RX.skip {ops : Array Oper} {l : List Nat} {i : Nat} {o : Oper} (ho : ops[i]? = some o) (hN : N ≤ 100000) (hg : guardX T (xoper P ops o).guard = some false) (hgl : ∀ j x,(xoper P ops o).guard = some (j,x) → j < N)
    (hd : ∀ y,o.dst = some y → y < N) {T2 : Nat → D} {h2 : AHeap} (hr : RX P Γ ro N ops l (setT T o.dst (.tup [])) h T2 h2) : RX P Γ ro N ops (i :: l) T h T2 h2 := by
  intro I μ w a S
  rw [wpOpsIn_cons]
  unfold wpOpIn
  simp only [ho,guard_sound S hN ops o hg hgl,Bool.false_eq_true,if_false]
  exact ⟨fun _ _ => trivial,hr.of (ExtN.refl _ _ _ _) (S.put (Ext.refl _ _ _ _) S.hr hd tup0) (put_defers' _ _ _)⟩

theorem RX.call {ops : Array Oper} {l : List Nat} {i : Nat} {o : Oper} (ho : ops[i]? = some o) (hN : N ≤ 100000) (hg : guardX T (xoper P ops o).guard = some true) (hgl : ∀ j x,(xoper P ops o).guard = some (j,x) → j < N)
    (hd : ∀ y,o.dst = some y → y < N) {c : Call} (hop : o.op = .call c) {fo : Operand} (hc : c.callee = .value fo) {f : FuncId} {first caps : List D} (hf : evT Γ T (xopd fo) = .fn (.func f) first caps)
    (hargs : ((c.args.toList.map xopd).all fun y => (evT Γ T y).ok) = true) {h1 : AHeap} {d : D} (hcx : CX P Γ f (first ++ (c.args.toList.map xopd).map (evT Γ T) ++ caps) h d h1) {T2 : Nat → D} {h2 : AHeap}
    (hr : RX P Γ ro N ops l (setT T o.dst d) h1 T2 h2) : RX P Γ ro N ops (i :: l) T h T2 h2 := by
  intro I μ w a S
  rw [wpOpsIn_cons]
  unfold wpOpIn
  simp only [ho,guard_sound S hN ops o hg hgl,if_true]
  exact (call_wp S hop hc hf hargs hcx hd fun a' w' μ' E S' hdf => hr.of E S' hdf)

def bodied (P : Program) (f : FuncId) : Bool :=
  match P.funcs[f]? with
  | some fn => fn.body.isSome && !(fn.name == "runtime.NumGoroutine")
  | none => false

theorem bodied_enter {f : FuncId} (hb : bodied P f = true) (vals : Array Value) (w : World) : (callFunc f vals).run P w = .ok (.enter f vals) w := by
  unfold bodied at hb
  split at hb
  · rename_i fn hf
    rw [Bool.and_eq_true,Bool.not_eq_true'] at hb
    obtain ⟨c,hc⟩ := Option.isSome_iff_exists.1 hb.1
    have hn : fn.name ≠ "runtime.NumGoroutine" := by simpa using hb.2
    simp [callFunc,hf,hn,hc]
  · cases hb

theorem RX.defer {ops : Array Oper} {l : List Nat} {i : Nat} {o : Oper} (ho : ops[i]? = some o) (hN : N ≤ 100000) (hg : guardX T (xoper P ops o).guard = some true) (hgl : ∀ j x,(xoper P ops o).guard = some (j,x) → j < N)
    (hd : ∀ y,o.dst = some y → y < N) {c : Call} (hop : o.op = .defer c) {fo : Operand} (hc : c.callee = .value fo) (hca : c.args = #[]) {f : FuncId} {c0 c1 c2 : D} (hf : evT Γ T (xopd fo) = .fn (.func f) [] [c0,c1,c2]) (hb : bodied P f = true) (hq : QuietD P f) {T2 : Nat → D} {h2 : AHeap}
    (hr : RX P Γ none N ops l (setT T o.dst (.tup [])) h T2 h2) : RX P Γ none N ops (i :: l) T h T2 h2 := by
  intro I μ w a S
  rw [wpOpsIn_cons]
  unfold wpOpIn
  simp only [ho,guard_sound S hN ops o hg hgl,if_true]
  have rf := S.ev fo (by rw [hf]; rfl)
  rw [hf] at rf
  obtain ⟨xs,ys,hv,q1,q2⟩ := R_fn rf
  obtain ⟨v0,v1,v2,hxs,hys⟩ : ∃ v0 v1 v2,xs = #[] ∧ ys = #[v0,v1,v2] := by
    obtain ⟨xs⟩ := xs
    obtain ⟨ys⟩ := ys
    cases q1
    cases q2 with
    | cons _ q2 => cases q2 with
      | cons _ q2 => cases q2 with
        | cons _ q2 => cases q2; exact ⟨_,_,_,rfl,rfl⟩
  subst hxs
  subst hys
  have hex : (execOp a.eval o).run P w = .ok (.defer { target := .fn (.func f) #[v0,v1,v2],args := #[] }) w := by
    obtain ⟨dst,op,ty,pos,aft,gu⟩ := o
    simp only at hop
    subst hop
    simp [execOp,resolve,hc,hv,hca,Deferred.ofValue]
  refine ⟨fun _ _ => trivial,?_⟩
  show o.uponIn (Fl none) 0 P a _ _ ((execOp a.eval o).run P w)
  rw [hex]
  have S1 : St Γ I μ (setT T o.dst (.tup [])) h N w ({ a with defers := { target := .fn (.func f) #[v0,v1,v2],args := #[] } :: a.defers }.put o.dst undef) :=
    St.put (a := { a with defers := { target := .fn (.func f) #[v0,v1,v2],args := #[] } :: a.defers }) ⟨S.hr,S.tm,S.sz⟩ (Ext.refl _ _ _ _) S.hr hd tup0
  have hdf := put_defers' { a with defers := { target := .fn (.func f) #[v0,v1,v2],args := #[] } :: a.defers } o.dst undef
  have hC : Coll P w.heap.size μ h w [{ target := .fn (.func f) #[v0,v1,v2],args := #[] }] := by
    refine ⟨by simp [List.filterMap_cons,markOf],fun d hdm => ?_⟩
    have : d = { target := .fn (.func f) #[v0,v1,v2],args := #[] } := by simpa using hdm
    subst this
    exact .inr ⟨f,v0,v1,v2,rfl,fun w => bodied_enter hb _ w,hq⟩
  have hh := hr I μ w _ S1
  rw [hdf] at hh
  exact wpOps_mono (fun _ _ _ hp => Post.mono (ex := [{ target := .fn (.func f) #[v0,v1,v2],args := #[] }]) (ExtN.refl _ _ _ _) hC hp) l _ w hh

/-! ### Functions -/

def argT (args : List D) : Nat → D := fun n => args.getD n .bad

def resX (get : Nat → Option AObj) (T : Nat → D) : XRes → D
  | .t n => T n
  | .cell t agg n =>
    match ldCells get n (T t) with
    | some cs => if agg then .agg cs else cs.getD 0 .bad
    | none => .bad

def resD (ds : List D) : D :=
  match ds with
  | [d] => d
  | ds => .tup ds

theorem St.args {args : List D} {vals : List Value} (H : HR Γ I μ h w) (hl : Rl I μ w args vals) (n : Nat) (hn : vals.length ≤ n) :
    St Γ I μ (argT args) h n w { tmps := vals.toArray ++ Array.replicate (n - vals.toArray.size) undef,defers := [] } := by
  refine ⟨H,fun k hk => ?_,by simp; omega⟩
  have key : ∀ {args : List D} {vals : List Value},Rl I μ w args vals → ∀ k,(args.getD k .bad).ok = true → ∃ v,vals[k]? = some v ∧ R I μ w (args.getD k .bad) v := by
    intro args vals hl
    induction hl with
    | nil => intro k hk; simp [D.ok] at hk
    | cons hr _ ih =>
      intro k hk
      cases k with
      | zero => exact ⟨_,rfl,by simpa using hr⟩
      | succ k => simpa using ih k (by simpa using hk)
  obtain ⟨v,hv,hr⟩ := key hl k hk
  have hlt : k < vals.length := (List.getElem?_eq_some_iff.1 hv).1
  have : (vals.toArray ++ Array.replicate (n - vals.toArray.size) undef).getD k undef = v := by
    rw [Array.getD_eq_getD_getElem?,Array.getElem?_append_left (by simpa using hlt)]
    simp [hv]
  rw [this]; exact hr

def resRun (tmps : Array Value) : ResultVar → Sem Value
  | .tmp t => pure (tmps.getD t undef)
  | .cell b t => do loadVar t (← asAddr (tmps.getD b undef))

theorem results_eq (fn : Func) (tmps : Array Value) : results fn tmps = (do let vs ← fn.results.mapM (resRun tmps); pure (if h : vs.size = 1 then vs[0] else .tuple vs)) := by
  unfold results
  congr 1

theorem res_one (S : St Γ I μ T h N w a) {r : ResultVar} {x : XRes} (hx : xres P r = some x) (hok : (resX h.get T x).ok = true) :
    ∃ v,(resRun a.tmps r).run P w = .ok v w ∧ R I μ w (resX h.get T x) v := by
  cases r with
  | tmp t =>
    simp only [xres,Option.some.injEq] at hx
    subst hx
    exact ⟨_,rfl,S.tm t hok⟩
  | cell b t =>
    simp only [xres,Option.bind_eq_bind,Option.bind_eq_some_iff,Option.pure_def,Option.some.injEq] at hx
    obtain ⟨⟨g,n⟩,ha,rfl⟩ := hx
    simp only [resX] at hok ⊢
    cases hl : ldCells h.get n (T b) with
    | none => rw [hl] at hok; simp [D.ok] at hok
    | some cs =>
      have hTb : (T b).ok = true := by
        cases hT : T b <;> first | rfl | (rw [hT] at hl; simp [ldCells] at hl)
      obtain ⟨bb,oo,vs,e1,e2,e3,e4,e5,e6⟩ := ldCells_sound S.hr (S.tm b hTb) hl
      obtain ⟨u,hu,hrun⟩ := run_loadVar (P := P) ha ⟨bb,oo,none⟩ vs e3 e5
      simp only
      refine ⟨u,by simp [resRun,e1,asAddr,hrun],?_⟩
      cases g with
      | true =>
        simp only [if_true,Option.some.injEq] at hu
        subst hu
        exact .agg cs vs.toArray (by simp [e2,e3]) e4 (fun j hj => by simpa using e6 j hj (by omega))
      | false =>
        simp only [Bool.false_eq_true,if_false] at hu ⊢
        obtain ⟨h0,rfl⟩ := List.getElem?_eq_some_iff.1 hu
        have h0' : 0 < cs.length := by omega
        have := e6 0 h0' h0
        simpa [List.getD,h0'] using this

theorem res_all (S : St Γ I μ T h N w a) : ∀ (l : List ResultVar) (rs : List XRes),l.mapM (xres P) = some rs → (rs.all fun r => (resX h.get T r).ok) = true →
    ∃ vs : List Value,(l.mapM (resRun a.tmps)).run P w = .ok vs w ∧ Rl I μ w (rs.map (resX h.get T)) vs
  | [],rs,hm,_ => by
    have : rs = [] := by simpa using hm.symm
    subst this
    exact ⟨[],rfl,.nil⟩
  | r :: l,rs,hm,hok => by
    obtain ⟨x,rs',hx,hm',rfl⟩ := mapM_cons_some hm
    simp only [List.all_cons,Bool.and_eq_true] at hok
    obtain ⟨v,hv,rv⟩ := res_one S hx hok.1
    obtain ⟨vs,hvs,rvs⟩ := res_all S l rs' hm' hok.2
    refine ⟨v :: vs,?_,.cons rv rvs⟩
    rw [List.mapM_cons]
    simp only [Sem.run_bind,hv,Result.andThen_ok,hvs,Sem.run_pure]

theorem CX.of {f : FuncId} {fn : Func} {c : Code} (hf : P.funcs[f]? = some fn) (hb : fn.body = some c) (hname : fn.name ≠ "runtime.NumGoroutine") {args : List D} (hla : args.length ≤ fn.ntmps) {rs : List XRes} (hrs : fn.results.toList.mapM (xres P) = some rs) {o : O} (ho : o = .norm ∨ o = .ret) {T1 : Nat → D} {h1 : AHeap}
    (hx : EX P Γ none fn.ntmps c (argT args) h o T1 h1) (hok : (rs.all fun r => (resX h1.get T1 r).ok) = true) : CX P Γ f args h (resD (rs.map (resX h1.get T1))) h1 := by
  intro I μ w vals H hl
  have hlen : vals.length = args.length := by
    clear hla hx H
    induction hl with
    | nil => rfl
    | cons _ _ ih => simp [ih]
  refine .inl ⟨?_,?_⟩
  · simp [callFunc,hf,hname,hb]
  · refine callsIn_wide.1 (callsIn_of_wp_marks (F := Fl none) (n := 0) hf hb trivial ?_)
    have S0 := St.args H hl fn.ntmps (by omega)
    refine wpIn_mono (hx I μ w _ S0) fun e a' w1 hp => ?_
    obtain ⟨p1,μ',E,S1,ex,p2,C⟩ := hp
    have hres : ∀ w',St Γ I μ' T1 h1 fn.ntmps w' a' → ∃ v,(results fn a'.tmps).run P w' = .ok v w' ∧ R I μ' w' (resD (rs.map (resX h1.get T1))) v := by
      intro w' S'
      obtain ⟨vs,hvs,rvs⟩ := res_all S' fn.results.toList rs hrs hok
      have hlen2 : ∀ {ds : List D} {us : List Value},Rl I μ' w' ds us → ds.length = us.length := by
        intro ds us hh
        induction hh with
        | nil => rfl
        | cons _ _ ih => simp [ih]
      have hrun : (results fn a'.tmps).run P w' = .ok (if hh : vs.toArray.size = 1 then vs.toArray[0] else .tuple vs.toArray) w' := by
        rw [results_eq,Array.mapM_eq_mapM_toList]
        simp only [Sem.run_bind,Sem.run_map,hvs,Result.andThen_ok,Sem.run_pure]
      refine ⟨_,hrun,?_⟩
      have hl3 := hlen2 rvs
      generalize rs.map (resX h1.get T1) = ds at rvs hl3
      cases rvs with
      | nil => simp only [resD]; exact .tup [] #[] rfl (fun j hj => by simp at hj)
      | cons h1 h2 =>
        cases h2 with
        | nil => simpa [resD] using h1
        | cons h3 h4 =>
          have hall : Rl I μ' w' _ _ := .cons h1 (.cons h3 h4)
          simp only [resD]
          rw [dif_neg (by simp)]
          have key : ∀ {ds : List D} {us : List Value},Rl I μ' w' ds us → ∀ j (k1 : j < ds.length) (k2 : j < us.length),R I μ' w' ds[j] us[j] := by
            intro ds us hh
            induction hh with
            | nil => intro j k1; simp at k1
            | cons a _ ih =>
              intro j k1 k2
              cases j with
              | zero => exact a
              | succ j => exact ih j (by simpa using k1) (by simpa using k2)
          exact .tup _ _ (by simpa using hlen2 hall) (fun j hj => by simpa using key hall j hj (by rw [← hlen2 hall]; exact hj))
    have fin : LeavesInM (Fl none) 0 P fn a'.tmps (fun | .returned v,w' => ∃ μ',ExtN I μ h w μ' h1 w' ∧ HR Γ I μ' h1 w' ∧ R I μ' w' (resD (rs.map (resX h1.get T1))) v | _,_ => False) a'.defers .returning w1 := by
      have p2' : a'.defers = ex := by simpa using p2
      rw [p2']
      refine leaves_marks (fun b hb => H.frz b hb) ex w1 S1 C fun w' S' f1 f2 f3 f4 f5 f6 => ?_
      obtain ⟨v,hv,hr⟩ := hres w' S'
      refine ⟨v,hv,μ',⟨⟨by rw [f2]; exact E.1.size,f3.trans E.1.os,f4.trans E.1.tape,f5.trans E.1.output,fun b n hn => f6 b n (E.1.rows b n hn),E.1.isub,E.1.musub,E.1.next,fun b hb hno => (f1 b (.inl hb)).trans (E.1.frame b hb hno),E.1.back⟩,E.2⟩,S'.hr,hr⟩
    rcases ho with rfl | rfl
    · cases e <;> first | exact fin | exact p1.elim
    · cases e <;> first | exact fin | exact p1.elim

end
end Go.Abs
end
noncomputable section
namespace Go.Abs
open Go

def Sub (a b : AHeap) : Prop := ∀ l o,a.get l = some o → b.get l = some o

section
variable {P : Program} {Γ : Nat → D} {I : Nat → Prop} {μ : Emb} {h : AHeap} {w : World}

theorem HR.sub (H : HR Γ I μ h w) {h' : AHeap} (hs : Sub h' h) (hn : h.next ≤ h'.next) : HR Γ I μ h' w :=
  ⟨H.frz,fun l o hg => H.live l o (hs l o hg),fun l l' o o' b base base' h1 h2 => H.inj l l' o o' b base base' (hs _ _ h1) (hs _ _ h2),fun l hl => H.fresh l (Nat.le_trans hn hl),H.glob⟩

theorem Ext.sub {μ' : Emb} {h1 h2 : AHeap} {w' : World} (E : Ext I μ h w I μ' h1 w') (hs : Sub h2 h1) (hn : h1.next ≤ h2.next) : Ext I μ h w I μ' h2 w' :=
  { E with next := Nat.le_trans E.next hn,back := fun l o b base hg hm => E.back l o b base (hs _ _ hg) hm }

def rest (hS Hm H' : AHeap) : AHeap :=
  { get := fun l => match H'.get l with
      | some o => some o
      | none => match Hm.get l with
        | some _ => none
        | none => hS.get l
    next := H'.next }

theorem rest_cases {hS Hm H' : AHeap} {l : Nat} {o : AObj} (hg : (rest hS Hm H').get l = some o) : H'.get l = some o ∨ (H'.get l = none ∧ Hm.get l = none ∧ hS.get l = some o) := by
  simp only [rest] at hg
  cases h1 : H'.get l with
  | some o' => rw [h1] at hg; exact .inl hg
  | none =>
    rw [h1] at hg
    simp only at hg
    cases h2 : Hm.get l with
    | some o' => rw [h2] at hg; cases hg
    | none => rw [h2] at hg; exact .inr ⟨rfl,rfl,hg⟩

theorem frame {hS Hm H' : AHeap} (H : HR Γ I μ hS w) (hs : Sub Hm hS) (hn : Hm.next = hS.next) {μ' : Emb} {w' : World} (E : Ext I μ Hm w I μ' H' w') (K : HR Γ I μ' H' w')
    (hdis : ∀ l o,hS.get l = some o → Hm.get l = none → H'.get l = none) : HR Γ I μ' (rest hS Hm H') w' ∧ Ext I μ hS w I μ' (rest hS Hm H') w' := by
  have Hm' : HR Γ I μ Hm w := H.sub hs (by omega)
  have other : ∀ l o,Hm.get l = none → hS.get l = some o → ∃ b base,μ l = some (b,base) ∧ μ' l = some (b,base) ∧ ¬ I b ∧ ObjR I μ w o b base ∧ b < w.heap.size ∧ w'.heap[b]? = w.heap[b]? := by
    intro l o hl hg
    obtain ⟨b,base,j1,j2,j3⟩ := H.live l o hg
    refine ⟨b,base,j1,E.musub _ _ j1,j2,j3,j3.lt,E.frame b j3.lt fun l0 o0 base0 hg0 hm0 => ?_⟩
    have := H.inj l l0 o o0 b base base0 hg (hs _ _ hg0) j1 hm0
    subst this
    rw [hl] at hg0; cases hg0
  refine ⟨⟨K.frz,?_,?_,fun l hl => K.fresh l hl,K.glob⟩,?_⟩
  · intro l o hg
    rcases rest_cases hg with h1 | ⟨_,h2,h3⟩
    · exact K.live l o h1
    · obtain ⟨b,base,_,j2,j3,j4,j5,j6⟩ := other l o h2 h3
      exact ⟨b,base,j2,j3,j4.mono (fun _ x => x) E.musub (E.keep Hm') E.rows j6⟩
  · have mixed : ∀ l1 l2 o1 o2 b base1 base2,H'.get l1 = some o1 → Hm.get l2 = none → hS.get l2 = some o2 → μ' l1 = some (b,base1) → μ' l2 = some (b,base2) → False := by
      intro l1 l2 o1 o2 b base1 base2 h1 h2 h3 m1 m2
      obtain ⟨b2,base2',k1,k2,_,_,k5,_⟩ := other l2 o2 h2 h3
      rw [k2] at m2
      simp only [Option.some.injEq,Prod.mk.injEq] at m2
      obtain ⟨rfl,rfl⟩ := m2
      rcases E.back l1 o1 b2 base1 h1 m1 with hh | ⟨l0,o0,base0,g0,m0⟩
      · omega
      · have := H.inj l0 l2 o0 o2 b2 base0 base2' (hs _ _ g0) h3 m0 k1
        subst this
        rw [h2] at g0; cases g0
    intro l1 l2 o1 o2 b base1 base2 hg1 hg2 m1 m2
    rcases rest_cases hg1 with h1 | ⟨_,h1,h1'⟩
    · rcases rest_cases hg2 with h2 | ⟨_,h2,h2'⟩
      · exact K.inj l1 l2 o1 o2 b base1 base2 h1 h2 m1 m2
      · exact (mixed l1 l2 o1 o2 b base1 base2 h1 h2 h2' m1 m2).elim
    · rcases rest_cases hg2 with h2 | ⟨_,h2,h2'⟩
      · exact (mixed l2 l1 o2 o1 b base2 base1 h2 h1 h1' m2 m1).elim
      · obtain ⟨b1,c1,k1,k2,_⟩ := other l1 o1 h1 h1'
        obtain ⟨b2,c2,j1,j2,_⟩ := other l2 o2 h2 h2'
        rw [k2] at m1
        rw [j2] at m2
        simp only [Option.some.injEq,Prod.mk.injEq] at m1 m2
        exact H.inj l1 l2 o1 o2 b c1 c2 h1' h2' (m1.1 ▸ k1) (m2.1 ▸ j1)
  · refine ⟨E.size,E.os,E.tape,E.output,E.rows,E.isub,E.musub,by simp only [rest]; rw [← hn]; exact E.next,fun b hb hno => E.frame b hb fun l o base hg => hno l o base (hs _ _ hg),?_⟩
    intro l o b base hg hm
    rcases rest_cases hg with h1 | ⟨_,h2,h3⟩
    · rcases E.back l o b base h1 hm with hh | ⟨l0,o0,base0,g0,m0⟩
      · exact .inl hh
      · exact .inr ⟨l0,o0,base0,hs _ _ g0,m0⟩
    · obtain ⟨b1,c1,k1,k2,_⟩ := other l o h2 h3
      rw [k2] at hm
      simp only [Option.some.injEq,Prod.mk.injEq] at hm
      exact .inr ⟨l,o,c1,h3,by rw [k1,hm.1]⟩

theorem CX.drop {f : FuncId} {args : List D} {H' H2 : AHeap} {d : D} (hx : CX P Γ f args h d H') (hs : Sub H2 H') (hn : H'.next ≤ H2.next) : CX P Γ f args h d H2 := by
  intro I μ w vals H hl
  have conv : ∀ v w',(∃ μ',ExtN I μ h w μ' H' w' ∧ HR Γ I μ' H' w' ∧ R I μ' w' d v) → ∃ μ',ExtN I μ h w μ' H2 w' ∧ HR Γ I μ' H2 w' ∧ R I μ' w' d v :=
    fun v w' ⟨μ',E,K,r⟩ => ⟨μ',⟨E.1.sub hs hn,E.2⟩,K.sub hs hn,r⟩
  rcases hx I μ w vals H hl with ⟨h1,h2⟩ | ⟨v,w',h1,h2⟩
  · refine .inl ⟨h1,h2.mono fun e w' he => ?_⟩
    cases e with
    | returned v => exact conv v w' he
    | panicked _ => exact he
    | outgrown => exact he
  · exact .inr ⟨v,w',h1,conv v w' h2⟩

end
end Go.Abs
end
noncomputable section
namespace Go.Abs
open Go

def D.closed : Nat → D → Bool
  | 0,_ => false
  | _,.ptr _ _ | _,.sl _ _ _ _ | _,.mp _ | _,.yld _ => false
  | n + 1,.fptr cs => cs.all (D.closed n)
  | n + 1,.fz _ es => (es.flatMap D.cells).all (D.closed n)
  | n + 1,.fn _ aa cs => aa.all (D.closed n) && cs.all (D.closed n)
  | n + 1,.ifc _ d => D.closed n d
  | n + 1,.agg cs | n + 1,.tup cs => cs.all (D.closed n)
  | _,_ => true

section
variable {P : Program} {Γ : Nat → D} {I : Nat → Prop} {μ : Emb} {h : AHeap} {w : World}

theorem R.closed {d : D} {v : Value} (hr : R I μ w d v) (μ' : Emb) : ∀ n,d.closed n = true → R I μ' w d v := by
  induction hr with
  | b x => intro n _; exact .b x
  | i k m => intro n _; exact .i k m
  | s x hx => intro n _; exact .s x hx
  | nilp => intro n _; exact .nilp
  | ptr => intro n hn; cases n <;> simp [D.closed] at hn
  | fptr cs b o vs hb h1 hc _ ih =>
    intro n hn
    cases n with
    | zero => simp [D.closed] at hn
    | succ n =>
      simp only [D.closed,List.all_eq_true] at hn
      exact .fptr cs b o vs hb h1 hc (fun j hj => ih j hj n (hn _ (List.getElem_mem hj)))
  | nils => intro n _; exact .nils
  | sl => intro n hn; cases n <;> simp [D.closed] at hn
  | sl0 => intro n hn; cases n <;> simp [D.closed] at hn
  | fz sz es b o cap vs h0 hb h1 h2 h3 h4 hc _ ih =>
    intro n hn
    cases n with
    | zero => simp [D.closed] at hn
    | succ n =>
      simp only [D.closed,List.all_eq_true] at hn
      exact .fz sz es b o cap vs h0 hb h1 h2 h3 h4 hc (fun j hj => ih j hj n (hn _ (List.getElem_mem hj)))
  | fz0 sz a cap hc => intro n _; exact .fz0 sz a cap hc
  | nilm => intro n _; exact .nilm
  | mp => intro n hn; cases n <;> simp [D.closed] at hn
  | fn f aa cs xs ys h1 h2 _ _ ih1 ih2 =>
    intro n hn
    cases n with
    | zero => simp [D.closed] at hn
    | succ n =>
      simp only [D.closed,Bool.and_eq_true,List.all_eq_true] at hn
      exact .fn f aa cs xs ys h1 h2 (fun j hj => ih1 j hj n (hn.1 _ (List.getElem_mem hj))) (fun j hj => ih2 j hj n (hn.2 _ (List.getElem_mem hj)))
  | nilf => intro n _; exact .nilf
  | yld => intro n hn; cases n <;> simp [D.closed] at hn
  | ifc t d v h0 _ ih =>
    intro n hn
    cases n with
    | zero => simp [D.closed] at hn
    | succ n => exact .ifc t d v h0 (ih n (by simpa [D.closed] using hn))
  | nili => intro n _; exact .nili
  | agg cs xs h1 h2 _ ih =>
    intro n hn
    cases n with
    | zero => simp [D.closed] at hn
    | succ n =>
      simp only [D.closed,List.all_eq_true] at hn
      exact .agg cs xs h1 h2 (fun j hj => ih j hj n (hn _ (List.getElem_mem hj)))
  | tup cs xs h1 _ ih =>
    intro n hn
    cases n with
    | zero => simp [D.closed] at hn
    | succ n =>
      simp only [D.closed,List.all_eq_true] at hn
      exact .tup cs xs h1 (fun j hj => ih j hj n (hn _ (List.getElem_mem hj)))

theorem Rl.closed {ds : List D} {vs : List Value} (hr : Rl I μ w ds vs) (μ' : Emb) {n : Nat} (hn : (ds.all (D.closed n)) = true) : Rl I μ' w ds vs := by
  induction hr with
  | nil => exact .nil
  | cons a _ ih =>
    simp only [List.all_cons,Bool.and_eq_true] at hn
    exact .cons (a.closed μ' n hn.1) (ih hn.2)

def empty : AHeap := { get := fun _ => none,next := 0 }

theorem CX.closed (hΓ : ∀ g,Γ g = .bad ∨ (Γ g).closed 20 = true) {f : FuncId} {args : List D} {d : D} {H' : AHeap} (hx : CX P Γ f args empty d H') {n : Nat} (ha : (args.all (D.closed n)) = true) (hd : d.closed n = true) (hS : AHeap) : CX P Γ f args hS d hS := by
  intro I μ w vals H hl
  have H0 : HR Γ I (fun _ => none) empty w := by
    refine ⟨H.frz,fun l o hg => by simp [empty] at hg,fun l l' o o' b base base' hg => by simp [empty] at hg,fun _ _ => rfl,fun g => ?_⟩
    rcases H.glob g with hb | hr
    · exact .inl hb
    · rcases hΓ g with hb | hc
      · exact .inl hb
      · exact .inr (hr.closed _ _ hc)
  have conv : ∀ v w',(∃ μ',ExtN I (fun _ => none) empty w μ' H' w' ∧ HR Γ I μ' H' w' ∧ R I μ' w' d v) → ∃ μ',ExtN I μ hS w μ' hS w' ∧ HR Γ I μ' hS w' ∧ R I μ' w' d v := by
    rintro v w' ⟨μ',⟨E,_⟩,K,r⟩
    have same : ∀ b,b < w.heap.size → w'.heap[b]? = w.heap[b]? := fun b hb => E.frame b hb (fun l o base hg => by simp [empty] at hg)
    have hI : ∀ b,I b → w'.heap[b]? = w.heap[b]? := fun b hb => same b (H.frz b hb)
    refine ⟨μ,⟨⟨E.size,E.os,E.tape,E.output,E.rows,fun _ x => x,fun _ _ x => x,Nat.le_refl _,fun b hb _ => same b hb,fun l o b base hg hm => .inr ⟨l,o,base,hg,hm⟩⟩,fun _ _ => rfl⟩,?_,r.closed μ n hd⟩
    refine ⟨K.frz,fun l o hg => ?_,H.inj,H.fresh,fun g => ?_⟩
    · obtain ⟨b,base,j1,j2,j3⟩ := H.live l o hg
      exact ⟨b,base,j1,j2,j3.mono (fun _ x => x) (fun _ _ x => x) hI E.rows (same b j3.lt)⟩
    · exact (H.glob g).imp _root_.id (fun r => r.mono (fun _ x => x) (fun _ _ x => x) hI E.rows)
  rcases hx I (fun _ => none) w vals H0 (hl.closed _ ha) with ⟨h1,h2⟩ | ⟨v,w',h1,h2⟩
  · refine .inl ⟨h1,h2.mono fun e w' he => ?_⟩
    cases e with
    | returned v => exact conv v w' he
    | panicked _ => exact he
    | outgrown => exact he
  · exact .inr ⟨v,w',h1,conv v w' h2⟩

end
end Go.Abs
end
noncomputable section
namespace Go.Abs
open Go

section
variable {P : Program} {Γ : Nat → D} {I : Nat → Prop} {μ : Emb} {h : AHeap} {w : World} {T : Nat → D} {N : Nat} {a : Act} {ro : Option Nat}

theorem HR.drawn (H : HR Γ I μ h w) (n : Nat) : HR Γ I μ h { w with drawn := n } := by
  have key : ∀ (d : D) (v : Value),R I μ w d v → R I μ { w with drawn := n } d v := fun d v r => r.mono (w := w) (w' := { w with drawn := n }) (fun _ x => x) (fun _ _ x => x) (fun _ _ => rfl) (fun _ _ x => x)
  refine ⟨H.frz,fun l o hg => ?_,H.inj,H.fresh,fun g => (H.glob g).imp _root_.id (fun r => key _ _ r)⟩
  obtain ⟨b,base,j1,j2,j3⟩ := H.live l o hg
  exact ⟨b,base,j1,j2,j3.mono (w := w) (w' := { w with drawn := n }) (fun _ x => x) (fun _ _ x => x) (fun _ _ => rfl) (fun _ _ x => x) rfl⟩

theorem St.drawn (S : St Γ I μ T h N w a) (n : Nat) : St Γ I μ T h N { w with drawn := n } a :=
  ⟨S.hr.drawn n,fun k hk => (S.tm k hk).mono (w := w) (w' := { w with drawn := n }) (fun _ x => x) (fun _ _ x => x) (fun _ _ => rfl) (fun _ _ x => x),S.sz⟩

theorem St.up (S : St Γ I μ T h N w a) {nx : Nat} (hn : h.next ≤ nx) : St Γ I μ T { h with next := nx } N w a := ⟨S.hr.up hn,S.tm,S.sz⟩

theorem Ext.drawn (n nx : Nat) (hn : h.next ≤ nx) : Ext I μ h w I μ { h with next := nx } { w with drawn := n } :=
  ⟨Nat.le_refl _,rfl,rfl,rfl,fun _ _ x => x,fun _ x => x,fun _ _ x => x,hn,fun _ _ _ => rfl,fun l o b base hg hm => .inr ⟨l,o,base,hg,hm⟩⟩

def addS (S : Nat → Bool) (i : Nat) : Nat → Bool := fun j => j == i || S j

def Closed (pre : Nat → List Nat) (S : Nat → Bool) : Prop := ∀ i,S i = true → ∀ j ∈ pre i,S j = true

def StepOK (P : Program) (Γ : Nat → D) (N base : Nat) (ops : Array Oper) (TS : (Nat → Bool) → Nat → D) (HS : (Nat → Bool) → AHeap) (Fr : (Nat → Bool) → Emb → Prop) (S : Nat → Bool) (i : Nat) : Prop :=
  ∀ (ro : Option Nat) (I : Nat → Prop) (μ : Emb) (w : World) (a : Act) (K : Act → World → Prop) (Q : Exit → Act → World → Prop),St Γ I μ (TS S) (HS S) N w a → Fr S μ →
    (∀ a' w' μ',Ext I μ (HS S) w I μ' (HS (addS S i)) w' → (∀ l,l < base → μ' l = μ l) → St Γ I μ' (TS (addS S i)) (HS (addS S i)) N w' a' → a'.defers = a.defers → Fr (addS S i) μ' → K a' w') → wpOpIn (Fl ro) 0 P ops Q i K a w

theorem addS_of (listed : Array Bool) (i : Nat) (hi : i < listed.size) : (fun j => (listed.setIfInBounds i true).getD j false) = addS (fun j => listed.getD j false) i := by
  funext j
  by_cases hj : j = i
  · subst hj; simp [addS,hi]
  · rw [getD_set_ne false (Ne.symm hj)]
    simp [addS,hj]

theorem all_listed {ops : Array Oper} (hlt : ∀ i o,ops[i]? = some o → ∀ e ∈ o.after,Region.binds .any e = true → e.on < i) {listed : Array Bool} (hs : listed.size = ops.size) (hr : Region.ready .any ops listed = []) : ∀ i,i < ops.size → listed.getD i false = true := by
  intro i
  induction i using Nat.strongRecOn with
  | _ i ih =>
    intro hi
    cases hl : listed.getD i false with
    | true => rfl
    | false =>
      exfalso
      have hi' : i < listed.size := by omega
      have : i ∈ Region.ready .any ops listed := by
        rw [mem_ready]
        refine ⟨by simpa [hi'] using hl,ops[i],by simp [hi],fun e he hb => ?_⟩
        have := hlt i ops[i] (by simp [hi]) e he hb
        exact ih e.on this (by omega)
      rw [hr] at this
      cases this

theorem S_all {listed : Array Bool} {n : Nat} (hs : listed.size = n) (hall : ∀ i,i < n → listed.getD i false = true) : (fun j => listed.getD j false) = fun i => decide (i < n) := by
  funext j
  by_cases hj : j < n
  · rw [hall j hj]; simp [hj]
  · simp only [hj,decide_false]
    simp [show ¬ j < listed.size by omega]

theorem filter_less {l : List Nat} {p : Nat → Bool} {i : Nat} (hi : i ∈ l) (hp : p i = true) : (l.filter fun j => p j && !(j == i)).length < (l.filter p).length := by
  have e : (l.filter fun j => p j && !(j == i)) = (l.filter p).filter fun j => !(j == i) := by
    rw [List.filter_filter]
    congr 1
    funext j
    exact Bool.and_comm _ _
  rw [e]
  exact List.length_filter_lt_length_iff_exists.2 ⟨i,List.mem_filter.2 ⟨hi,hp⟩,by simp⟩

theorem wpAny_of {ops : Array Oper} {pre : Nat → List Nat} (hedge : ∀ i o,ops[i]? = some o → ∀ j ∈ pre i,∃ e ∈ o.after,Region.binds .any e = true ∧ (e.on = j ∨ j ∈ pre e.on)) (hlt : ∀ i o,ops[i]? = some o → ∀ e ∈ o.after,Region.binds .any e = true → e.on < i)
    {h0 : AHeap} {TS : (Nat → Bool) → Nat → D} {HS : (Nat → Bool) → AHeap} {Fr : (Nat → Bool) → Emb → Prop}
    (step : ∀ S i,Closed pre S → i < ops.size → S i = false → (∀ j ∈ pre i,S j = true) → StepOK P Γ N h0.next ops TS HS Fr S i) {df : List Deferred} {μ0 : Emb} {w0 : World} :
    ∀ (fuel : Nat) (listed : Array Bool) (μ : Emb) (w : World) (a : Act),listed.size = ops.size → ((List.range ops.size).filter fun i => !listed.getD i false).length ≤ fuel → Closed pre (fun j => listed.getD j false) →
      ExtN I μ0 h0 w0 μ (HS (fun j => listed.getD j false)) w → St Γ I μ (TS (fun j => listed.getD j false)) (HS (fun j => listed.getD j false)) N w a → Fr (fun j => listed.getD j false) μ → a.defers = df →
      wpAnyIn (Fl ro) 0 P .any ops (Post P Γ I μ0 h0 w0 N df .norm (TS fun i => decide (i < ops.size)) (HS fun i => decide (i < ops.size))) fuel listed a w := by
  have fin : ∀ (listed : Array Bool) (μ : Emb) (w : World) (a : Act),listed.size = ops.size → ExtN I μ0 h0 w0 μ (HS (fun j => listed.getD j false)) w → St Γ I μ (TS (fun j => listed.getD j false)) (HS (fun j => listed.getD j false)) N w a → a.defers = df →
      (∀ i,i < ops.size → listed.getD i false = true) → Post P Γ I μ0 h0 w0 N df .norm (TS fun i => decide (i < ops.size)) (HS fun i => decide (i < ops.size)) .normal a w := by
    intro listed μ w a hs E S hdf hall
    rw [S_all hs hall] at E S
    exact ⟨trivial,μ,E,S,[],hdf,Coll.nil⟩
  intro fuel
  induction fuel with
  | zero =>
    intro listed μ w a hs hf hcl E S hfr hdf
    have hall : ∀ i,i < ops.size → listed.getD i false = true := by
      intro i hi
      cases hl : listed.getD i false with
      | true => rfl
      | false =>
        have : i ∈ (List.range ops.size).filter fun i => !listed.getD i false := List.mem_filter.2 ⟨List.mem_range.2 hi,by simp only [hl,Bool.not_false]⟩
        rw [List.eq_nil_of_length_eq_zero (Nat.le_zero.1 hf)] at this
        cases this
    refine ⟨?_,fin listed μ w a hs E S hdf hall⟩
    refine List.eq_nil_iff_forall_not_mem.2 fun j hj => ?_
    obtain ⟨h1,o,ho,_⟩ := mem_ready.1 hj
    have hj' : j < ops.size := (Array.getElem?_eq_some_iff.1 ho).1
    have h2 := hall j hj'
    have hj2 : j < listed.size := by omega
    simp [hj2] at h1 h2
    rw [h1] at h2; cases h2
  | succ fuel ih =>
    intro listed μ w a hs hf hcl E S hfr hdf
    refine ⟨fun hr => fin listed μ w a hs E S hdf (all_listed hlt hs hr),fun i hi => ?_⟩
    obtain ⟨h1,o,ho,hall⟩ := mem_ready.1 hi
    have hin : i < ops.size := (Array.getElem?_eq_some_iff.1 ho).1
    have hil : i < listed.size := by omega
    have hSi : listed.getD i false = false := by simpa [hil] using h1
    have hpre : ∀ j ∈ pre i,listed.getD j false = true := by
      intro j hj
      obtain ⟨e,he,hb,hor⟩ := hedge i o ho j hj
      have h2 := hall e he hb
      rcases hor with rfl | hor
      · exact h2
      · exact hcl e.on h2 j hor
    refine step (fun j => listed.getD j false) i hcl hin hSi hpre ro I μ w a _ _ S hfr fun a' w' μ' E' hμ S' hdf' hfr' => ?_
    have eS := addS_of listed i hil
    rw [← eS] at E' S' hfr'
    refine ih (listed.setIfInBounds i true) μ' w' a' (by simp [hs]) ?_ ?_ ⟨E.1.trans E',fun l hl => (hμ l hl).trans (E.2 l hl)⟩ S' hfr' (hdf'.trans hdf)
    · have hp : (fun j => !(listed.setIfInBounds i true).getD j false) = fun j => (!listed.getD j false) && !(j == i) := by
        funext j
        have := congrFun eS j
        simp only [addS] at this
        rw [this]
        cases listed.getD j false <;> cases (j == i) <;> rfl
      rw [hp]
      have := filter_less (l := List.range ops.size) (p := fun j => !listed.getD j false) (i := i) (List.mem_range.2 hin) (by simp only [hSi,Bool.not_false])
      omega
    · rw [eS]
      intro j hj k hk
      simp only [addS,Bool.or_eq_true,beq_iff_eq] at hj ⊢
      rcases hj with rfl | hj
      · exact .inr (hpre k hk)
      · exact .inr (hcl j hj k hk)

theorem EX.draw {id : Nat} {ops : Array Oper} (hm : P.follows .mixedOrders = true) {pre : Nat → List Nat} (hedge : ∀ i o,ops[i]? = some o → ∀ j ∈ pre i,∃ e ∈ o.after,Region.binds .any e = true ∧ (e.on = j ∨ j ∈ pre e.on)) (hlt : ∀ i o,ops[i]? = some o → ∀ e ∈ o.after,Region.binds .any e = true → e.on < i)
    {TS : (Nat → Bool) → Nat → D} {HS : (Nat → Bool) → AHeap} {Fr : (Nat → Bool) → Emb → Prop} (hT : TS (fun _ => false) = T) {nx : Nat} (hn : h.next ≤ nx) (hH : Sub (HS (fun _ => false)) h) (hnx : (HS (fun _ => false)).next = nx)
    (hF : ∀ (I : Nat → Prop) (μ : Emb) (w : World),HR Γ I μ h w → Fr (fun _ => false) μ)
    (step : ∀ S i,Closed pre S → i < ops.size → S i = false → (∀ j ∈ pre i,S j = true) → StepOK P Γ N h.next ops TS HS Fr S i) :
    EX P Γ ro N (.region id ops true) T h .norm (TS fun i => decide (i < ops.size)) (HS fun i => decide (i < ops.size)) := by
  intro I μ w a S
  refine wpIn_region_any hm ?_
  have e0 : (fun j => (Array.replicate ops.size false).getD j false) = fun _ => false := by
    funext j
    by_cases hj : j < ops.size <;> simp [hj]
  refine wpAny_of hedge hlt step ops.size (Array.replicate ops.size false) μ _ a (by simp) ?_ ?_ ?_ ?_ ?_ rfl
  · exact Nat.le_trans (List.length_filter_le _ _) (by simp)
  · rw [e0]; intro i hi; simp at hi
  · rw [e0]; exact ⟨(Ext.drawn _ nx hn).sub (h1 := { h with next := nx }) hH (by rw [hnx]; exact Nat.le_refl _),fun _ _ => rfl⟩
  · rw [e0,hT]
    have S1 := (S.drawn (w.drawn + 1)).up hn
    exact ⟨S1.hr.sub hH (by rw [hnx]; exact Nat.le_refl _),S1.tm,S1.sz⟩
  · rw [e0]; exact hF I μ w S.hr

end
end Go.Abs
end
noncomputable section
namespace Go.Abs
open Go

def Free (n base : Nat) (S : Nat → Bool) (μ : Emb) : Prop := ∀ j,j < n → S j = false → μ (base + j) = none

section
variable {P : Program} {Γ : Nat → D} {I : Nat → Prop} {μ : Emb} {h : AHeap} {w : World} {T : Nat → D} {N : Nat} {a : Act}

theorem St.sub (S : St Γ I μ T h N w a) {h' : AHeap} (hs : Sub h' h) (hn : h.next ≤ h'.next) : St Γ I μ T h' N w a := ⟨S.hr.sub hs hn,S.tm,S.sz⟩

theorem Free.add {n base : Nat} {S : Nat → Bool} {i : Nat} {μ μ' : Emb} (hf : Free n base S μ) (hm : ∀ j,j < n → j ≠ i → μ' (base + j) = μ (base + j)) : Free n base (addS S i) μ' := by
  intro j hj hs
  simp only [addS,Bool.or_eq_false_iff,beq_eq_false_iff_ne] at hs
  rw [hm j hj hs.1]
  exact hf j hj hs.2

theorem StepOK.op {n base : Nat} {ops : Array Oper} {TS : (Nat → Bool) → Nat → D} {HS : (Nat → Bool) → AHeap} {S : Nat → Bool} {i : Nat} {o : Oper} {x : XOp} {Hm : AHeap} {id nx : Nat}
    (ho : ops[i]? = some o) (hx : xop P o = some x) (hN : N ≤ 100000) (hg : guardX (TS S) (xoper P ops o).guard = some true) (hgl : ∀ j x,(xoper P ops o).guard = some (j,x) → j < N) (hd : ∀ y,o.dst = some y → y < N)
    (hs : Sub Hm (HS S)) (hnx : Hm.next = (HS S).next) (hnx2 : Hm.next ≤ nx) (hidlt : id < nx) (hin : i < n) (hSi : S i = false) (hid : id = base + i ∨ (id = Hm.next ∧ base + n ≤ id)) (hbase : base ≤ id)
    (hon : (aop Hm.get id (evT Γ (TS S)) x).on = true) {H2 : AHeap} (h2 : Sub H2 ((aop Hm.get id (evT Γ (TS S)) x).heap Hm id nx)) (h2n : nx ≤ H2.next) (hdis : ∀ l o,(HS S).get l = some o → Hm.get l = none → H2.get l = none)
    (hH : HS (addS S i) = rest (HS S) Hm H2) (hT : TS (addS S i) = setT (TS S) o.dst (aop Hm.get id (evT Γ (TS S)) x).d) :
    StepOK P Γ N base ops TS HS (Free n base) S i := by
  intro ro I μ w a K Q St0 hf hK
  unfold wpOpIn
  simp only [ho,guard_sound St0 hN ops o hg hgl,if_true]
  have hfree : μ id = none := by
    rcases hid with rfl | ⟨rfl,_⟩
    · exact hf i hin hSi
    · exact St0.hr.fresh _ (by omega)
  refine (oper_wp (St0.sub hs (by omega)) hx hnx2 hfree (.inr hidlt) hon hd fun a' w' μ' E S' hdf hm => ?_)
  have hnx3 : ((aop Hm.get id (evT Γ (TS S)) x).heap Hm id nx).next = nx := by
    cases aop Hm.get id (evT Γ (TS S)) x <;> rfl
  obtain ⟨k1,k2⟩ := Go.Abs.frame St0.hr hs hnx (E.sub h2 (by omega)) (S'.hr.sub h2 (by omega)) hdis
  refine hK a' w' μ' (hH ▸ k2) (fun l hl => hm l (by omega)) ⟨hH ▸ k1,hT ▸ S'.tm,S'.sz⟩ hdf (hf.add fun j hj hji => hm _ ?_)
  rcases hid with rfl | ⟨rfl,hb⟩ <;> omega

theorem StepOK.call {n base : Nat} {ops : Array Oper} {TS : (Nat → Bool) → Nat → D} {HS : (Nat → Bool) → AHeap} {S : Nat → Bool} {i : Nat} {o : Oper} {Hm H' : AHeap} {d : D}
    (ho : ops[i]? = some o) (hN : N ≤ 100000) (hg : guardX (TS S) (xoper P ops o).guard = some true) (hgl : ∀ j x,(xoper P ops o).guard = some (j,x) → j < N) (hd : ∀ y,o.dst = some y → y < N)
    {c : Call} (hop : o.op = .call c) {fo : Operand} (hc : c.callee = .value fo) {f : FuncId} {first caps : List D} (hfn : evT Γ (TS S) (xopd fo) = .fn (.func f) first caps)
    (hargs : ((c.args.toList.map xopd).all fun y => (evT Γ (TS S) y).ok) = true) (hcx : CX P Γ f (first ++ (c.args.toList.map xopd).map (evT Γ (TS S)) ++ caps) Hm d H')
    (hs : Sub Hm (HS S)) (hnx : Hm.next = (HS S).next) (hbn : base + n ≤ Hm.next)
    {H2 : AHeap} (h2 : Sub H2 H') (h2n : H'.next ≤ H2.next) (hdis : ∀ l o,(HS S).get l = some o → Hm.get l = none → H2.get l = none) (hH : HS (addS S i) = rest (HS S) Hm H2) (hT : TS (addS S i) = setT (TS S) o.dst d) :
    StepOK P Γ N base ops TS HS (Free n base) S i := by
  intro ro I μ w a K Q St0 hf hK
  unfold wpOpIn
  simp only [ho,guard_sound St0 hN ops o hg hgl,if_true]
  refine (call_wp (St0.sub hs (by omega)) hop hc hfn hargs (hcx.drop h2 h2n) hd fun a' w' μ' E S' hdf => ?_)
  obtain ⟨k1,k2⟩ := Go.Abs.frame St0.hr hs hnx E.1 S'.hr hdis
  exact hK a' w' μ' (hH ▸ k2) (fun l hl => E.2 l (by omega)) ⟨hH ▸ k1,hT ▸ S'.tm,S'.sz⟩ hdf (hf.add fun j hj _ => E.2 _ (by omega))

theorem StepOK.skip {n base : Nat} {ops : Array Oper} {TS : (Nat → Bool) → Nat → D} {HS : (Nat → Bool) → AHeap} {S : Nat → Bool} {i : Nat} {o : Oper}
    (ho : ops[i]? = some o) (hN : N ≤ 100000) (hg : guardX (TS S) (xoper P ops o).guard = some false) (hgl : ∀ j x,(xoper P ops o).guard = some (j,x) → j < N) (hd : ∀ y,o.dst = some y → y < N)
    (hH : HS (addS S i) = HS S) (hT : TS (addS S i) = setT (TS S) o.dst (.tup [])) :
    StepOK P Γ N base ops TS HS (Free n base) S i := by
  intro ro I μ w a K Q St0 hf hK
  unfold wpOpIn
  simp only [ho,guard_sound St0 hN ops o hg hgl,Bool.false_eq_true,if_false]
  have S' := St0.put (Ext.refl _ _ _ _) St0.hr hd tup0
  refine ⟨fun _ _ => trivial,?_⟩
  refine hK _ _ μ (hH ▸ Ext.refl _ _ _ _) (fun _ _ => rfl) ?_ (put_defers' _ _ _) (hf.add fun _ _ _ => rfl)
  rw [hH,hT]
  exact S'

/-! ### What the temporaries hold, whatever has been done -/

section plan
variable (T0 : Nat → D) (dst : Nat → Option Nat) (d : Nat → D)

def TSn (S : Nat → Bool) : Nat → Nat → D
  | 0 => T0
  | m + 1 => if S m then setT (TSn S m) (dst m) (d m) else TSn S m

theorem TSn_congr {S S' : Nat → Bool} : ∀ m,(∀ j,j < m → S j = S' j) → TSn T0 dst d S m = TSn T0 dst d S' m
  | 0,_ => rfl
  | m + 1,h => by simp only [TSn,h m (Nat.lt_succ_self m),TSn_congr m (fun j hj => h j (Nat.lt_succ_of_lt hj))]

theorem setT_comm {T : Nat → D} {x y : Option Nat} {u v : D} (h : ∀ t,x = some t → y ≠ some t) : setT (setT T x u) y v = setT (setT T y v) x u := by
  cases x with
  | none => rfl
  | some x =>
    cases y with
    | none => rfl
    | some y =>
      have hne : y ≠ x := fun e => h x rfl (by rw [e])
      funext n
      simp only [setT]
      by_cases h1 : n = y
      · rw [if_pos h1,if_neg (by omega),if_pos h1]
      · rw [if_neg h1]
        by_cases h2 : n = x
        · rw [if_pos h2,if_pos h2]
        · rw [if_neg h2,if_neg h2,if_neg h1]

theorem TSn_add {S : Nat → Bool} {i : Nat} (hSi : S i = false) : ∀ m,i < m → (∀ j,i < j → j < m → S j = true → ∀ t,dst i = some t → dst j ≠ some t) →
    TSn T0 dst d (addS S i) m = setT (TSn T0 dst d S m) (dst i) (d i)
  | 0,hm,_ => absurd hm (Nat.not_lt_zero _)
  | m + 1,hm,hno => by
    by_cases hi : i = m
    · subst hi
      have e : TSn T0 dst d (addS S i) i = TSn T0 dst d S i := TSn_congr T0 dst d i fun j hj => by simp [addS,Nat.ne_of_lt hj]
      have h1 : addS S i i = true := by simp [addS]
      simp only [TSn,h1,hSi,if_true,Bool.false_eq_true,if_false,e]
    · have ih := TSn_add hSi m (by omega) (fun j h1 h2 => hno j h1 (by omega))
      have hmi : addS S i m = S m := by simp [addS,show m ≠ i by omega]
      simp only [TSn,hmi,ih]
      cases hSm : S m with
      | false => rfl
      | true =>
        simp only [if_true]
        exact setT_comm fun t ht => hno m (by omega) (by omega) hSm t ht

theorem TSn_read {S : Nat → Bool} {i t : Nat} (hlow : ∀ j,j < i → dst j = some t → S j = true) : ∀ m,i ≤ m → (∀ j,i ≤ j → j < m → S j = true → dst j ≠ some t) →
    TSn T0 dst d S m t = TSn T0 dst d (fun _ => true) i t := by
  have low : ∀ m,m ≤ i → TSn T0 dst d S m t = TSn T0 dst d (fun _ => true) m t := by
    intro m
    induction m with
    | zero => intro _; rfl
    | succ m ih =>
      intro hm
      have ih := ih (by omega)
      simp only [TSn,if_true]
      by_cases hd : dst m = some t
      · rw [hlow m (by omega) hd]
        simp [setT,hd]
      · have key : ∀ T' : Nat → D,setT T' (dst m) (d m) t = T' t := by
          intro T'
          cases hdm : dst m with
          | none => rfl
          | some y =>
            have : t ≠ y := fun e => hd (by rw [hdm,e])
            simp [setT,this]
        rw [key]
        cases S m with
        | true => simp only [if_true]; rw [key]; exact ih
        | false => exact ih
  intro m
  induction m with
  | zero => intro hm _; have : i = 0 := by omega
            subst this; rfl
  | succ m ih =>
    intro hm hno
    by_cases hi : i = m + 1
    · subst hi; exact low _ (Nat.le_refl _)
    · have ih := ih (by omega) (fun j h1 h2 => hno j h1 (by omega))
      simp only [TSn]
      cases hS : S m with
      | false => simpa using ih
      | true =>
        have hd := hno m (by omega) (by omega) hS
        have : setT (TSn T0 dst d S m) (dst m) (d m) t = TSn T0 dst d S m t := by
          cases hdm : dst m with
          | none => rfl
          | some y =>
            have : t ≠ y := fun e => hd (by rw [hdm,e])
            simp [setT,this]
        simp only [if_true]
        rw [this]; exact ih
end plan

end
end Go.Abs
end
noncomputable section
namespace Go.Abs
open Go

theorem opt_congr {ev ev' : Opd → D} {o : Option Opd} (h : ∀ y ∈ o.toList,ev y = ev' y) : o.map ev = o.map ev' := by
  cases o with
  | none => rfl
  | some y => simp [h y (by simp)]

theorem all_congr {ev ev' : Opd → D} {l : List Opd} (h : ∀ y ∈ l,ev y = ev' y) : (l.all fun y => (ev y).ok) = l.all fun y => (ev' y).ok := by
  induction l with
  | nil => rfl
  | cons a l ih => simp only [List.all_cons]; rw [h a (by simp),ih (fun y hy => h y (by simp [hy]))]

theorem parts_congr {ev ev' : Opd → D} {ps : List (Nat × Nat × Opd)} (h : ∀ y ∈ ps.map (·.2.2),ev y = ev' y) : (ps.map fun p => (p.1,p.2.1,ev p.2.2)) = ps.map fun p => (p.1,p.2.1,ev' p.2.2) :=
  List.map_congr_left fun p hp => by rw [h p.2.2 (List.mem_map.2 ⟨p,hp,rfl⟩)]

theorem aop_congr {get : Nat → Option AObj} {next : Nat} {ev ev' : Opd → D} (x : XOp) (h : ∀ y ∈ x.opds,ev y = ev' y) : aop get next ev x = aop get next ev' x := by
  cases x
  case mv x => simp only [aop,h x (by simp [XOp.opds])]
  case pick c a b => simp only [aop,h c (by simp [XOp.opds]),h a (by simp [XOp.opds]),h b (by simp [XOp.opds])]
  case alloc => rfl
  case box x => simp only [aop,h x (by simp [XOp.opds])]
  case build z ps => simp only [aop,parts_congr (ev := ev) (ev' := ev') (ps := ps) (fun y hy => h y (by simpa [XOp.opds] using hy))]
  case bslice sz z ps n => simp only [aop,parts_congr (ev := ev) (ev' := ev') (ps := ps) (fun y hy => h y (by simpa [XOp.opds] using hy))]
  case ld g n a => simp only [aop,h a (by simp [XOp.opds])]
  case st n a v => simp only [aop,h a (by simp [XOp.opds]),h v (by simp [XOp.opds])]
  case nilchk x => simp only [aop,h x (by simp [XOp.opds])]
  case bin op x y => simp only [aop,h x (by simp [XOp.opds]),h y (by simp [XOp.opds])]
  case eq n te x y => simp only [aop,h x (by simp [XOp.opds]),h y (by simp [XOp.opds])]
  case un op x => simp only [aop,h x (by simp [XOp.opds])]
  case convI k x => simp only [aop,h x (by simp [XOp.opds])]
  case convS x => simp only [aop,h x (by simp [XOp.opds])]
  case convBS x => simp only [aop,h x (by simp [XOp.opds])]
  case convSB x => rfl
  case mrk x => simp only [aop,h x (by simp [XOp.opds])]
  case mkif t x => simp only [aop,h x (by simp [XOp.opds])]
  case mkfn f a c =>
    have h1 : ∀ y ∈ a,ev y = ev' y := fun y hy => h y (by simp [XOp.opds,hy])
    have h2 : ∀ y ∈ c,ev y = ev' y := fun y hy => h y (by simp [XOp.opds,hy])
    simp only [aop,all_congr h1,all_congr h2,List.map_congr_left h1,List.map_congr_left h2]
  case mkmap => rfl
  case mkslice b z l c => simp only [aop,h l (by simp [XOp.opds]),h c (by simp [XOp.opds])]
  case slcS x lo hi => simp only [aop,h x (by simp [XOp.opds]),opt_congr (ev := ev) (ev' := ev') (o := lo) (fun y hy => h y (by simp [XOp.opds] at hy ⊢; simp [hy])),opt_congr (ev := ev) (ev' := ev') (o := hi) (fun y hy => h y (by simp [XOp.opds] at hy ⊢; simp [hy]))]
  case slc z x lo hi => simp only [aop,h x (by simp [XOp.opds]),opt_congr (ev := ev) (ev' := ev') (o := lo) (fun y hy => h y (by simp [XOp.opds] at hy ⊢; simp [hy])),opt_congr (ev := ev) (ev' := ev') (o := hi) (fun y hy => h y (by simp [XOp.opds] at hy ⊢; simp [hy]))]
  case slcA n z x lo hi => simp only [aop,h x (by simp [XOp.opds]),opt_congr (ev := ev) (ev' := ev') (o := lo) (fun y hy => h y (by simp [XOp.opds] at hy ⊢; simp [hy])),opt_congr (ev := ev) (ev' := ev') (o := hi) (fun y hy => h y (by simp [XOp.opds] at hy ⊢; simp [hy]))]
  case faddr o x => simp only [aop,h x (by simp [XOp.opds])]
  case fld g o n x => simp only [aop,h x (by simp [XOp.opds])]
  case iaddrA n z x i => simp only [aop,h x (by simp [XOp.opds]),h i (by simp [XOp.opds])]
  case iaddr z x i => simp only [aop,h x (by simp [XOp.opds]),h i (by simp [XOp.opds])]
  case idxA n z g x i => simp only [aop,h x (by simp [XOp.opds]),h i (by simp [XOp.opds])]
  case idxS x i => simp only [aop,h x (by simp [XOp.opds]),h i (by simp [XOp.opds])]
  case look te z ok m k => simp only [aop,h m (by simp [XOp.opds]),h k (by simp [XOp.opds])]
  case mupd te m k v => simp only [aop,h m (by simp [XOp.opds]),h k (by simp [XOp.opds]),h v (by simp [XOp.opds])]
  case ins te m k v => simp only [aop,h m (by simp [XOp.opds]),h k (by simp [XOp.opds]),h v (by simp [XOp.opds])]
  case ment te z m k => simp only [aop,h m (by simp [XOp.opds]),h k (by simp [XOp.opds])]
  case estore m s v => simp only [aop,h m (by simp [XOp.opds]),h s (by simp [XOp.opds]),h v (by simp [XOp.opds])]
  case ext x i => simp only [aop,h x (by simp [XOp.opds])]
  case call f a => rfl
  case inv x n a => rfl
  case lenS x => simp only [aop,h x (by simp [XOp.opds])]
  case lenA n => rfl
  case lenL x => simp only [aop,h x (by simp [XOp.opds])]
  case lenM x => simp only [aop,h x (by simp [XOp.opds])]
  case app z b x y => simp only [aop,h x (by simp [XOp.opds]),h y (by simp [XOp.opds])]
  case appS mk x y => simp only [aop,h x (by simp [XOp.opds]),h y (by simp [XOp.opds])]
  case cpy z x y => simp only [aop,h x (by simp [XOp.opds]),h y (by simp [XOp.opds])]
  case del te m k => rfl
  case mn xs =>
    have h1 : ∀ y ∈ xs,ev y = ev' y := fun y hy => h y (by simp [XOp.opds,hy])
    simp only [aop,all_congr h1,List.map_congr_left h1]
  case mx xs =>
    have h1 : ∀ y ∈ xs,ev y = ev' y := fun y hy => h y (by simp [XOp.opds,hy])
    simp only [aop,all_congr h1,List.map_congr_left h1]
  case clr z x => simp only [aop,h x (by simp [XOp.opds])]
  case recov => rfl
  case defer f a => rfl
  case panic x => simp only [aop,h x (by simp [XOp.opds])]
  case rng x => simp only [aop,h x (by simp [XOp.opds])]
  case nxt x => simp only [aop,h x (by simp [XOp.opds])]
  case tassert t z ok x => simp only [aop,h x (by simp [XOp.opds])]
  case bad => rfl

theorem evT_congr {Γ : Nat → D} {T T' : Nat → D} {x : XOp} (h : ∀ t ∈ x.opds.flatMap Opd.tmps,T t = T' t) : ∀ y ∈ x.opds,evT Γ T y = evT Γ T' y := by
  intro y hy
  cases y with
  | t n => exact h n (List.mem_flatMap.2 ⟨.t n,hy,by simp [Opd.tmps]⟩)
  | _ => rfl

theorem guardX_congr {T T' : Nat → D} {g : Option (Nat × Bool)} (h : ∀ t ∈ (match g with | some (j,_) => [j] | none => []),T t = T' t) : guardX T g = guardX T' g := by
  cases g with
  | none => rfl
  | some p => obtain ⟨j,w⟩ := p; simp only [guardX,h j (by simp)]

end Go.Abs
end
noncomputable section
namespace Go.Abs
open Go

section
variable (n base : Nat) (W : Nat → Bool) (G : Nat → AHeap) (A : Nat → Nat → Bool) (obj : Nat → (Nat → Bool) → Option AObj)

theorem AHeap.eq {a b : AHeap} (h : ∀ l,a.get l = b.get l) (hn : a.next = b.next) : a = b := by
  obtain ⟨g,x⟩ := a
  obtain ⟨g',y⟩ := b
  have : g = g' := funext h
  subst this
  simp only at hn
  subst hn; rfl

def kS (S : Nat → Bool) : Nat → Nat
  | 0 => 0
  | m + 1 => kS S m + (if W m && S m then 1 else 0)

def msk (k l : Nat) : Bool := decide (base ≤ l ∧ l < base + n) && !A k (l - base)

def HSk (k : Nat) (S : Nat → Bool) : AHeap :=
  { get := fun l => if msk n base A k l then (if S (l - base) then obj (l - base) S else none) else (G k).get l,next := (G k).next }

def Hmin (k : Nat) (pm : Nat → Bool) (ob : Nat → Option AObj) : AHeap :=
  { get := fun l => if msk n base A k l then (if pm (l - base) then ob (l - base) else none) else (G k).get l,next := (G k).next }

variable {n base W G A obj}

theorem kS_mono (S : Nat → Bool) {a b : Nat} (h : a ≤ b) : kS W S a ≤ kS W S b := by
  induction h with
  | refl => exact Nat.le_refl _
  | step _ ih => simp only [kS]; omega

theorem kS_congr {S S' : Nat → Bool} : ∀ m,(∀ j,j < m → W j = true → S j = S' j) → kS W S m = kS W S' m
  | 0,_ => rfl
  | m + 1,h => by
    have ih := kS_congr m (fun j hj => h j (by omega))
    simp only [kS,ih]
    cases hw : W m with
    | false => rfl
    | true => rw [h m (by omega) hw]

theorem kS_add {S : Nat → Bool} {i : Nat} (hSi : S i = false) : ∀ m,i < m → kS W (addS S i) m = kS W S m + (if W i then 1 else 0)
  | 0,h => absurd h (Nat.not_lt_zero _)
  | m + 1,h => by
    by_cases hi : i = m
    · subst hi
      have e : kS W (addS S i) i = kS W S i := kS_congr i fun j hj _ => by simp [addS,Nat.ne_of_lt hj]
      have h1 : addS S i i = true := by simp [addS]
      simp only [kS,e,h1,hSi,Bool.and_true,Bool.and_false,Bool.false_eq_true,if_false,Nat.add_zero]
    · have ih := kS_add hSi m (by omega)
      have hmi : addS S i m = S m := by simp [addS,show m ≠ i by omega]
      simp only [kS,ih,hmi]
      omega

theorem kS_done {S : Nat → Bool} {m j : Nat} (hj : j < m) (hw : W j = true) (hs : S j = true) (hch : ∀ i,i < j → W i = true → S i = true) : kS W (fun _ => true) j < kS W S m := by
  have h1 : kS W S j = kS W (fun _ => true) j := kS_congr j fun i hi hw => by rw [hch i hi hw]
  have h2 : kS W S (j + 1) = kS W S j + 1 := by simp [kS,hw,hs]
  have h3 := kS_mono (W := W) S (show j + 1 ≤ m from hj)
  omega

theorem kS_undone {S : Nat → Bool} {m j : Nat} (hj : j < m) (hs : S j = false) (hch : ∀ i,j < i → i < m → W i = true → S i = false) : kS W S m ≤ kS W (fun _ => true) j := by
  have h1 : ∀ m',j + 1 ≤ m' → m' ≤ m → kS W S m' = kS W S j := by
    intro m' h1
    induction h1 with
    | refl => intro _; simp [kS,hs]
    | @step m' h1 ih =>
      intro h2
      have h1' : j + 1 ≤ m' := h1
      have h2' : m' + 1 ≤ m := h2
      simp only [kS,ih (by omega)]
      cases hw : W m' with
      | false => simp
      | true => rw [hch m' (by omega) (by omega) hw]; simp
  rw [h1 m hj (Nat.le_refl _)]
  have : ∀ m',kS W S m' ≤ kS W (fun _ => true) m' := by
    intro m'
    induction m' with
    | zero => exact Nat.le_refl _
    | succ m' ih =>
      simp only [kS]
      cases W m' <;> cases S m' <;> simp <;> omega
  exact this j

theorem Hmin_sub {k : Nat} {S pm : Nat → Bool} {ob : Nat → Option AObj} (hob : ∀ j o,pm j = true → ob j = some o → S j = true ∧ obj j S = some o) : Sub (Hmin n base G A k pm ob) (HSk n base G A obj k S) := by
  intro l o hg
  simp only [Hmin] at hg
  simp only [HSk]
  split at hg
  · rename_i hm
    split at hg
    · rename_i hp
      obtain ⟨h1,h2⟩ := hob _ _ hp hg
      rw [if_pos hm,if_pos h1,h2]
    · simp at hg
  · rename_i hm
    rw [if_neg hm]; exact hg

theorem heap_same {k : Nat} {S pm : Nat → Bool} {ob : Nat → Option AObj} {i : Nat} {H2 : AHeap} (hs : Sub (Hmin n base G A k pm ob) (HSk n base G A obj k S)) (hSi : S i = false) (h2 : H2.get = (Hmin n base G A k pm ob).get) (h2n : H2.next = (G k).next)
    (ho : ∀ S,obj i S = none) (hob : ∀ j,j ≠ i → S j = true → obj j (addS S i) = obj j S) :
    HSk n base G A obj k (addS S i) = rest (HSk n base G A obj k S) (Hmin n base G A k pm ob) H2 := by
  have key : ∀ l,(HSk n base G A obj k (addS S i)).get l = (HSk n base G A obj k S).get l := by
    intro l
    simp only [HSk]
    by_cases hm : msk n base A k l = true
    · rw [if_pos hm,if_pos hm]
      by_cases hl : l - base = i
      · rw [hl,hSi]; simp [ho]
      · have : addS S i (l - base) = S (l - base) := by simp [addS,hl]
        rw [this]
        cases hS : S (l - base) with
        | false => rfl
        | true => simp only [if_true]; exact hob _ hl hS
    · rw [if_neg hm,if_neg hm]
  refine AHeap.eq (fun l => ?_) h2n.symm
  rw [key]
  simp only [rest,h2]
  cases hg : (Hmin n base G A k pm ob).get l with
  | none => simp only
  | some o => simp only; exact hs l o hg

theorem heap_new {k : Nat} {S pm : Nat → Bool} {ob : Nat → Option AObj} {i : Nat} {o : AObj} {H2 : AHeap} (hs : Sub (Hmin n base G A k pm ob) (HSk n base G A obj k S)) (hSi : S i = false) (hi : i < n) (hA : A k i = false)
    (h2 : H2.get = fun m => if m = base + i then some o else (Hmin n base G A k pm ob).get m) (h2n : H2.next = (G k).next) (ho : obj i (addS S i) = some o) (hob : ∀ j,j ≠ i → S j = true → obj j (addS S i) = obj j S) :
    HSk n base G A obj k (addS S i) = rest (HSk n base G A obj k S) (Hmin n base G A k pm ob) H2 := by
  refine AHeap.eq (fun l => ?_) h2n.symm
  simp only [rest,h2]
  by_cases hl : l = base + i
  · subst hl
    have hm : msk n base A k (base + i) = true := by simp [msk,hA,hi]
    simp only [HSk]
    rw [if_pos hm]
    simp [addS,ho]
  · rw [if_neg hl]
    have hne : msk n base A k l = true → l - base ≠ i := fun hm he => by
      simp [msk] at hm; omega
    have e1 : (if msk n base A k l then (if addS S i (l - base) then obj (l - base) (addS S i) else none) else (G k).get l) = if msk n base A k l then (if S (l - base) then obj (l - base) S else none) else (G k).get l := by
      by_cases hm : msk n base A k l = true
      · rw [if_pos hm,if_pos hm]
        have := hne hm
        have e2 : addS S i (l - base) = S (l - base) := by simp [addS,this]
        rw [e2]
        cases hS : S (l - base) with
        | false => rfl
        | true => simp only [if_true]; exact hob _ this hS
      · rw [if_neg hm,if_neg hm]
    have e3 : (HSk n base G A obj k (addS S i)).get l = (HSk n base G A obj k S).get l := e1
    rw [e3]
    cases hg : (Hmin n base G A k pm ob).get l with
    | none => simp only
    | some o' => simp only; exact hs l o' hg

theorem heap_write {k : Nat} {S pm : Nat → Bool} {ob : Nat → Option AObj} {i : Nat} {H2 : AHeap} (hs : Sub (Hmin n base G A k pm ob) (HSk n base G A obj k S)) (hSi : S i = false)
    (hA : ∀ j,A (k + 1) j = (A k j || (pm j && (ob j).isSome))) (h2 : H2.get = fun l => if msk n base A (k + 1) l then none else (G (k + 1)).get l) (h2n : H2.next = (G (k + 1)).next)
    (ho : ∀ S,obj i S = none) (hob : ∀ j,j ≠ i → S j = true → obj j (addS S i) = obj j S) :
    HSk n base G A obj (k + 1) (addS S i) = rest (HSk n base G A obj k S) (Hmin n base G A k pm ob) H2 ∧
      ∀ l o,(HSk n base G A obj k S).get l = some o → (Hmin n base G A k pm ob).get l = none → H2.get l = none := by
  have mono : ∀ l,msk n base A (k + 1) l = true → msk n base A k l = true ∧ (pm (l - base) && (ob (l - base)).isSome) = false := by
    intro l hm
    simp only [msk,hA,Bool.and_eq_true,Bool.not_eq_true',Bool.or_eq_false_iff] at hm ⊢
    exact ⟨⟨hm.1,hm.2.1⟩,hm.2.2⟩
  have dis : ∀ l o,(HSk n base G A obj k S).get l = some o → (Hmin n base G A k pm ob).get l = none → msk n base A (k + 1) l = true := by
    intro l o h1 h3
    simp only [HSk] at h1
    simp only [Hmin] at h3
    by_cases hm : msk n base A k l = true
    · rw [if_pos hm] at h1 h3
      have : (pm (l - base) && (ob (l - base)).isSome) = false := by
        cases hp : pm (l - base) with
        | false => rfl
        | true => rw [hp] at h3; simp only [if_true] at h3; rw [h3]; rfl
      simp only [msk,hA,Bool.and_eq_true,Bool.not_eq_true',Bool.or_eq_false_iff] at hm ⊢
      exact ⟨hm.1,hm.2,this⟩
    · rw [if_neg hm] at h1 h3
      rw [h1] at h3; cases h3
  refine ⟨?_,fun l o h1 h3 => by rw [h2]; simp only [dis l o h1 h3,if_true]⟩
  refine AHeap.eq (fun l => ?_) h2n.symm
  simp only [rest,h2]
  by_cases hm : msk n base A (k + 1) l = true
  · have e0 : (HSk n base G A obj (k + 1) (addS S i)).get l = if addS S i (l - base) then obj (l - base) (addS S i) else none := by simp only [HSk]; rw [if_pos hm]
    rw [e0,if_pos hm]
    obtain ⟨hmk,hp⟩ := mono l hm
    have hmin : (Hmin n base G A k pm ob).get l = none := by
      simp only [Hmin]
      rw [if_pos hmk]
      cases hpm : pm (l - base) with
      | false => rfl
      | true => rw [hpm] at hp; simp only [Bool.true_and] at hp; simp only [if_true]; cases hob : ob (l - base) <;> simp [hob] at hp ⊢
    rw [hmin]
    simp only [HSk]
    rw [if_pos hmk]
    by_cases hl : l - base = i
    · rw [hl,hSi]; simp [ho]
    · have e2 : addS S i (l - base) = S (l - base) := by simp [addS,hl]
      rw [e2]
      cases hS : S (l - base) with
      | false => rfl
      | true => simp only [if_true]; exact hob _ hl hS
  · have e0 : (HSk n base G A obj (k + 1) (addS S i)).get l = (G (k + 1)).get l := by simp only [HSk]; rw [if_neg hm]
    rw [e0,if_neg hm]
    cases hg : (G (k + 1)).get l with
    | some o => rfl
    | none =>
      simp only
      cases hmin : (Hmin n base G A k pm ob).get l with
      | some o => rfl
      | none =>
        simp only
        cases hh : (HSk n base G A obj k S).get l with
        | none => rfl
        | some o => exact absurd (dis l o hh hmin) hm

end
end Go.Abs
end
noncomputable section
namespace Go.Abs
open Go

section
variable {xs : List XOper} {after : List (List Nat)} {plan : List PlanE}

def preOf (plan : List PlanE) (i : Nat) : List Nat := (plan.getD i default).pre
def opOf (xs : List XOper) (i : Nat) : XOper := xs.getD i default
def wOf (xs : List XOper) (i : Nat) : Bool := (opOf xs i).op.writes

structure PlanP (xs : List XOper) (after : List (List Nat)) (plan : List PlanE) : Prop where
  s1 : ∀ i,i < xs.length → ∀ j ∈ preOf plan i,∃ e ∈ after.getD i [],e = j ∨ j ∈ preOf plan e
  s2 : ∀ i,i < xs.length → ∀ e ∈ after.getD i [],e < i
  s3 : ∀ i,i < xs.length → ∀ j,j < xs.length → j ≠ i → j ∈ preOf plan i ∨ i ∈ preOf plan j ∨ ∀ t,(opOf xs j).dst = some t → t ∉ (opOf xs i).reads ∧ (opOf xs i).dst ≠ some t
  s4 : ∀ i,i < xs.length → wOf xs i = true → (plan.getD i default).lo = rankW xs i ∧ (plan.getD i default).hi = rankW xs i ∧ ∀ j,j < i → wOf xs j = true → j ∈ preOf plan i
  s5 : ∀ i,i < xs.length → wOf xs i = false → ((plan.getD i default).lo = 0 ∨ ∃ j ∈ preOf plan i,wOf xs j = true ∧ (plan.getD i default).lo ≤ rankW xs j + 1) ∧
    (rankW xs xs.length ≤ (plan.getD i default).hi ∨ ∃ j,j < xs.length ∧ wOf xs j = true ∧ i ∈ preOf plan j ∧ rankW xs j ≤ (plan.getD i default).hi)

theorem planOk_spec (h : planOk xs after plan = true) : PlanP xs after plan := by
  unfold planOk at h
  simp only [Bool.and_eq_true,List.all_eq_true,List.mem_range] at h
  obtain ⟨_,h⟩ := h
  refine ⟨fun i hi j hj => ?_,fun i hi e he => ?_,fun i hi j hj hne => ?_,fun i hi hw => ?_,fun i hi hw => ?_⟩
  · have := (h i hi).1.1.1 j hj
    rw [List.any_eq_true] at this
    obtain ⟨e,he,h2⟩ := this
    simp only [Bool.or_eq_true,beq_iff_eq,List.contains_iff_mem] at h2
    exact ⟨e,he,h2⟩
  · have := (h i hi).1.1.2 e he
    rwa [Nat.blt_eq] at this
  · have := (h i hi).1.2 j hj
    simp only [Bool.or_eq_true,beq_iff_eq,List.contains_iff_mem] at this
    rcases this with ((h1 | h1) | h1) | h1
    · exact absurd h1 hne
    · exact .inl h1
    · exact .inr (.inl h1)
    · refine .inr (.inr fun t ht => ?_)
      have ht' : (xs.getD j default).dst = some t := ht
      rw [ht'] at h1
      simp only [Bool.and_eq_true,Bool.not_eq_true',bne_iff_ne] at h1
      exact ⟨by simpa [opOf] using h1.1,h1.2⟩
  · have := (h i hi).2
    have hw' : (xs.getD i default).op.writes = true := hw
    simp only [hw',if_true,Bool.and_eq_true,beq_iff_eq,List.all_eq_true,List.mem_range,Bool.or_eq_true,Bool.not_eq_true',List.contains_iff_mem] at this
    refine ⟨this.1.1,this.1.2,fun j hj hwj => ?_⟩
    rcases this.2 j hj with h1 | h1
    · rw [show (xs.getD j default).op.writes = true from hwj] at h1; cases h1
    · exact h1
  · have := (h i hi).2
    have hw' : (xs.getD i default).op.writes = false := hw
    simp only [hw',Bool.false_eq_true,if_false,Bool.and_eq_true,Bool.or_eq_true,beq_iff_eq,List.any_eq_true,List.mem_range,List.contains_iff_mem] at this
    obtain ⟨a,b⟩ := this
    refine ⟨a.imp id fun ⟨j,h1,h2,h3⟩ => ⟨j,h1,h2,Nat.le_of_ble_eq_true h3⟩,b.imp Nat.le_of_ble_eq_true fun ⟨j,h1,⟨h2,h3⟩,h4⟩ => ⟨j,h1,h2,h3,Nat.le_of_ble_eq_true h4⟩⟩

theorem rankW_kS (xs : List XOper) : ∀ i,i ≤ xs.length → rankW xs i = kS (wOf xs) (fun _ => true) i
  | 0,_ => by simp [rankW,kS]
  | i + 1,hi => by
    have ih := rankW_kS xs i (by omega)
    have hlt : i < xs.length := by omega
    have e1 : xs.take (i + 1) = xs.take i ++ [xs[i]] := by rw [List.take_add_one,List.getElem?_eq_getElem hlt]; rfl
    have e2 : opOf xs i = xs[i] := by simp [opOf,hlt]
    unfold rankW at ih ⊢
    rw [e1,List.filter_append,List.length_append,ih]
    simp only [kS,wOf,e2,Bool.and_true]
    cases hw : xs[i].op.writes <;> simp [hw]

theorem plan_bounds (p : PlanP xs after plan) {S : Nat → Bool} (hcl : Closed (preOf plan) S) {i : Nat} (hi : i < xs.length) (hSi : S i = false) (hpre : ∀ j ∈ preOf plan i,S j = true) :
    (plan.getD i default).lo ≤ kS (wOf xs) S xs.length ∧ kS (wOf xs) S xs.length ≤ (plan.getD i default).hi := by
  have lt_of : ∀ i,i < xs.length → ∀ j ∈ preOf plan i,j < i := by
    intro i
    induction i using Nat.strongRecOn with
    | _ i ih =>
      intro hi j hj
      obtain ⟨e,he,h1⟩ := p.s1 i hi j hj
      have hei := p.s2 i hi e he
      rcases h1 with rfl | h1
      · exact hei
      · exact Nat.lt_trans (ih e hei (by omega) j h1) hei
  have done : ∀ j,j < xs.length → wOf xs j = true → S j = true → rankW xs j < kS (wOf xs) S xs.length := by
    intro j hj hw hs
    rw [rankW_kS xs j (by omega)]
    exact kS_done hj hw hs fun k hk hwk => hcl j hs k ((p.s4 j hj hw).2.2 k hk hwk)
  have undone : ∀ j,j < xs.length → wOf xs j = true → S j = false → kS (wOf xs) S xs.length ≤ rankW xs j := by
    intro j hj hw hs
    rw [rankW_kS xs j (by omega)]
    refine kS_undone hj hs fun k h1 h2 hwk => ?_
    cases hk : S k with
    | false => rfl
    | true =>
      have := hcl k hk j ((p.s4 k h2 hwk).2.2 j h1 hw)
      rw [hs] at this; cases this
  cases hw : wOf xs i with
  | true =>
    obtain ⟨h1,h2,h3⟩ := p.s4 i hi hw
    have hle := undone i hi hw hSi
    have hge : rankW xs i ≤ kS (wOf xs) S xs.length := by
      rw [rankW_kS xs i (by omega)]
      have : kS (wOf xs) S i = kS (wOf xs) (fun _ => true) i := kS_congr i fun j hj hwj => hpre j (h3 j hj hwj)
      rw [← this]
      exact kS_mono S (by omega)
    rw [h1,h2]; exact ⟨hge,hle⟩
  | false =>
    obtain ⟨h1,h2⟩ := p.s5 i hi hw
    constructor
    · rcases h1 with h1 | ⟨j,hj,hwj,h1⟩
      · omega
      · have := done j (by have := lt_of i hi j hj; omega) hwj (hpre j hj)
        omega
    · rcases h2 with h2 | ⟨j,hj,hwj,hij,h2⟩
      · refine Nat.le_trans ?_ h2
        rw [rankW_kS xs _ (Nat.le_refl _)]
        have : ∀ m,kS (wOf xs) S m ≤ kS (wOf xs) (fun _ => true) m := by
          intro m
          induction m with
          | zero => exact Nat.le_refl _
          | succ m ih =>
            simp only [kS]
            cases wOf xs m <;> cases S m <;> simp <;> omega
        exact this _
      · have hsj : S j = false := by
          cases hs : S j with
          | false => rfl
          | true =>
            have := hcl j hs i hij
            rw [hSi] at this; cases this
        exact Nat.le_trans (undone j hj hwj hsj) h2

end
end Go.Abs
end
noncomputable section
namespace Go.Abs
open Go

section
variable {P : Program} {Γ : Nat → D} {N : Nat} {ro : Option Nat}

theorem xop_call {o : Oper} {f : Opd} {args : List Opd} (h : xop P o = some (.call f args)) : ∃ c fo,o.op = .call c ∧ c.callee = .value fo ∧ f = xopd fo ∧ args = c.args.toList.map xopd := by
  obtain ⟨dst,op,ty,pos,aft,gu⟩ := o
  have no : ∀ {α : Type} (x : Option α) (g : α → XOp),(∀ a,g a ≠ .call f args) → x.map g ≠ some (.call f args) := by
    intro α x g hg hx
    obtain ⟨a,_,ha⟩ := Option.map_eq_some_iff.1 hx
    exact hg a ha
  cases op
  case call c =>
    obtain ⟨cal,aa,ats⟩ := c
    cases cal with
    | value fo =>
      simp only [xop,Option.pure_def,Option.some.injEq,XOp.call.injEq] at h
      exact ⟨_,fo,rfl,rfl,h.1.symm,h.2.symm⟩
    | invoke y n => simp [xop] at h
    | builtin b =>
      exfalso
      cases b <;> simp only [xop,Option.bind_eq_bind] at h
      all_goals first
        | (simp at h; done)
        | (repeat (first | contradiction | (simp at h; done) | (obtain ⟨_,h0,_⟩ := h; cases h0; done) | (obtain ⟨_,_,h⟩ := h) | (simp only [Option.bind_eq_some_iff] at h; obtain ⟨_,_,h⟩ := h) | split at h))
  all_goals (exfalso; simp only [xop,Option.bind_eq_bind] at h)
  all_goals first
    | (simp at h; done)
    | (repeat (first | contradiction | (simp at h; done) | (obtain ⟨_,h0,_⟩ := h; cases h0; done) | (obtain ⟨_,_,h⟩ := h) | (simp only [Option.bind_eq_some_iff] at h; obtain ⟨_,_,h⟩ := h) | split at h))

inductive Cond (P : Program) (Γ : Nat → D) (xs : List XOper) (Ti : Nat → D) (n base : Nat) (G : Nat → AHeap) (A : Nat → Nat → Bool) (pm : Nat → Bool) (ob : Nat → Option AObj) (d : D) (k i : Nat) : Prop
  | skip : guardX Ti (opOf xs i).guard = some false → d = .tup [] → ob i = none → (wOf xs i = true → G (k + 1) = G k ∧ ∀ j,A (k + 1) j = A k j) → Cond P Γ xs Ti n base G A pm ob d k i
  | quiet (ar : AR) : guardX Ti (opOf xs i).guard = some true → wOf xs i = false → ob i = none → base + n ≤ (G k).next → aop (Hmin n base G A k pm ob).get (base + i) (evT Γ Ti) (opOf xs i).op = ar →
      (ar = .val d ∨ ∃ l o,ar = .upd l o d ∧ (Hmin n base G A k pm ob).get l = some o) → Cond P Γ xs Ti n base G A pm ob d k i
  | new (o : AObj) : guardX Ti (opOf xs i).guard = some true → wOf xs i = false → ob i = some o → base + n ≤ (G k).next → aop (Hmin n base G A k pm ob).get (base + i) (evT Γ Ti) (opOf xs i).op = .new o d → Cond P Γ xs Ti n base G A pm ob d k i
  | write (ar : AR) : guardX Ti (opOf xs i).guard = some true → wOf xs i = true → ob i = none → base + n ≤ (G k).next → aop (Hmin n base G A k pm ob).get (G k).next (evT Γ Ti) (opOf xs i).op = ar → ar.on = true → ar.d = d →
      G (k + 1) = ar.heap (Hmin n base G A k pm ob) (G k).next ((G k).next + 1) → (∀ j,A (k + 1) j = (A k j || (pm j && (ob j).isSome))) → Cond P Γ xs Ti n base G A pm ob d k i
  | call (f : FuncId) (first caps : List D) (fo : Opd) (args : List Opd) : guardX Ti (opOf xs i).guard = some true → wOf xs i = true → ob i = none → base + n ≤ (G k).next → (opOf xs i).op = .call fo args → evT Γ Ti fo = .fn (.func f) first caps →
      (args.all fun y => (evT Γ Ti y).ok) = true → CX P Γ f (first ++ args.map (evT Γ Ti) ++ caps) (Hmin n base G A k pm ob) d (G (k + 1)) → (∀ j,A (k + 1) j = (A k j || (pm j && (ob j).isSome))) → Cond P Γ xs Ti n base G A pm ob d k i

end
end Go.Abs
end
noncomputable section
namespace Go.Abs
open Go

section
variable {P : Program} {Γ : Nat → D} {I : Nat → Prop} {μ : Emb} {h : AHeap} {w : World}

theorem ents_perm {es es' : List (D × D × Option Nat)} (p : es.Perm es') : ∀ {l : List MapEntry},Ents I μ w es l → ∃ l',l.Perm l' ∧ Ents I μ w es' l' := by
  induction p with
  | nil => intro l E; exact ⟨l,List.Perm.refl _,E⟩
  | cons x _ ih =>
    intro l E
    cases E with
    | cons a b =>
      obtain ⟨l',p',E'⟩ := ih b
      exact ⟨_ :: l',p'.cons _,.cons a E'⟩
  | swap x y l0 =>
    intro l E
    cases E with
    | cons a b =>
      cases b with
      | cons c d => exact ⟨_,List.Perm.swap _ _ _,.cons c (.cons a d)⟩
  | trans _ _ ih1 ih2 =>
    intro l E
    obtain ⟨l1,p1,E1⟩ := ih1 E
    obtain ⟨l2,p2,E2⟩ := ih2 E1
    exact ⟨l2,p1.trans p2,E2⟩

theorem ObjR.perm {es es' : List (D × D × Option Nat)} {ck : Option Nat} {b base : Nat} (hh : ObjR I μ w (.map es ck) b base) (p : es.Perm es') : ObjR I μ w (.map es' ck) b base := by
  obtain ⟨h0,xs,c,l,h1,h2,h3,h4,h5,h6⟩ := hh
  obtain ⟨l',p',E'⟩ := ents_perm p h3
  exact ⟨h0,xs,c,l',h1,h2.trans p',E',h4,fun x hx => h5 x (p'.symm.subset hx),p'.pairwise h6 (fun hh => Ne.symm hh)⟩

def reorder (h : AHeap) (l : Nat) (o : AObj) : AHeap := { get := fun m => if m = l then some o else h.get m,next := h.next }

theorem HR.reorder (H : HR Γ I μ h w) {l : Nat} {es es' : List (D × D × Option Nat)} {ck : Option Nat} (hg : h.get l = some (.map es ck)) (p : es.Perm es') : HR Γ I μ (reorder h l (.map es' ck)) w := by
  have dom : ∀ m o,(Go.Abs.reorder h l (.map es' ck)).get m = some o → ∃ o',h.get m = some o' := by
    intro m o hm
    simp only [Go.Abs.reorder] at hm
    by_cases e : m = l
    · subst e; exact ⟨_,hg⟩
    · rw [if_neg e] at hm; exact ⟨o,hm⟩
  refine ⟨H.frz,fun m o hm => ?_,fun l1 l2 o1 o2 b base base' h1 h2 => ?_,H.fresh,H.glob⟩
  · simp only [Go.Abs.reorder] at hm
    by_cases e : m = l
    · subst e
      rw [if_pos rfl] at hm
      simp only [Option.some.injEq] at hm
      subst hm
      obtain ⟨b,base,j1,j2,j3⟩ := H.live m _ hg
      exact ⟨b,base,j1,j2,j3.perm p⟩
    · rw [if_neg e] at hm; exact H.live m o hm
  · obtain ⟨p1,h1'⟩ := dom l1 o1 h1
    obtain ⟨p2,h2'⟩ := dom l2 o2 h2
    exact H.inj l1 l2 p1 p2 b base base' h1' h2'

end
end Go.Abs
end
noncomputable section
namespace Go.Abs
open Go

abbrev Entry := D × D × Option Nat

def objS (ob : Nat → Option AObj) (lit : Nat → List (Nat × Entry)) (j : Nat) (S : Nat → Bool) : Option AObj :=
  match ob j with
  | none => none
  | some o =>
    match lit j with
    | [] => some o
    | ls =>
      match ls.filterMap fun q => if S q.1 then some q.2 else none with
      | [] => some (.map [] (some 0))
      | es => some (.map es none)

theorem fm_congr {α β : Type} {f g : α → Option β} : ∀ {l : List α},(∀ a ∈ l,f a = g a) → l.filterMap f = l.filterMap g
  | [],_ => rfl
  | a :: l,h => by
    have ih := fm_congr (l := l) (fun b hb => h b (by simp [hb]))
    simp only [List.filterMap_cons,h a (by simp),ih]

variable {ob : Nat → Option AObj} {lit : Nat → List (Nat × Entry)}

theorem objS_none {j : Nat} {S : Nat → Bool} (h : ob j = none) : objS ob lit j S = none := by simp [objS,h]

theorem objS_plain {j : Nat} {S : Nat → Bool} {o : AObj} (h : ob j = some o) (hl : lit j = []) : objS ob lit j S = some o := by simp [objS,h,hl]

theorem objS_add {i j : Nat} {S : Nat → Bool} (h : ∀ q ∈ lit j,q.1 ≠ i) : objS ob lit j (addS S i) = objS ob lit j S := by
  have e : ((lit j).filterMap fun q => if addS S i q.1 then some q.2 else none) = (lit j).filterMap fun q => if S q.1 then some q.2 else none :=
    fm_congr fun q hq => by
      have : addS S i q.1 = S q.1 := by simp [addS,h q hq]
      rw [this]
  unfold objS
  cases ob j with
  | none => rfl
  | some o =>
    simp only
    revert e
    cases lit j with
    | nil => intro _; rfl
    | cons q ls => intro e; simp only; rw [e]

theorem objS_full {j : Nat} {S : Nat → Bool} (hf : lit j ≠ [] → ob j = some (.map ((lit j).map (·.2)) none)) (hall : ∀ q ∈ lit j,S q.1 = true) {o : AObj} (ho : ob j = some o) : objS ob lit j S = some o := by
  by_cases hl : lit j = []
  · exact objS_plain ho hl
  · have e : ((lit j).filterMap fun q => if S q.1 then some q.2 else none) = (lit j).map (·.2) := by
      rw [← List.filterMap_eq_map]
      exact fm_congr fun q hq => by simp [hall q hq]
    have h1 := hf hl
    rw [ho] at h1
    unfold objS
    rw [ho]
    simp only
    cases hlj : lit j with
    | nil => exact absurd hlj hl
    | cons q ls =>
      rw [hlj] at e h1
      rw [e]
      simp only [List.map_cons] at h1 ⊢
      exact h1.symm

theorem objS_empty {j : Nat} {S : Nat → Bool} {o : AObj} (ho : ob j = some o) (hl : lit j ≠ []) (hno : ∀ q ∈ lit j,S q.1 = false) : objS ob lit j S = some (.map [] (some 0)) := by
  have e : ((lit j).filterMap fun q => if S q.1 then some q.2 else none) = [] := by
    rw [List.filterMap_eq_nil_iff]
    intro q hq
    simp [hno q hq]
  unfold objS
  rw [ho]
  simp only
  cases hlj : lit j with
  | nil => exact absurd hlj hl
  | cons q ls => rw [hlj] at e; rw [e]

end Go.Abs
end
noncomputable section
namespace Go.Abs
open Go

def pmOf (plan : List PlanE) (lit : Nat → List (Nat × Entry)) (i j : Nat) : Bool := (preOf plan i).contains j && (lit j).all fun q => (preOf plan i).contains q.1

section
variable {P : Program} {Γ : Nat → D} {N : Nat} {ro : Option Nat}

inductive CondL (P : Program) (Γ : Nat → D) (xs : List XOper) (Ti : Nat → D) (n base : Nat) (G : Nat → AHeap) (A : Nat → Nat → Bool) (pm : Nat → Bool) (ob : Nat → Option AObj) (lit : Nat → List (Nat × Entry)) (d : D) (k i : Nat) : Prop
  | skip : guardX Ti (opOf xs i).guard = some false → d = .tup [] → ob i = none → (wOf xs i = true → G (k + 1) = G k ∧ ∀ j,A (k + 1) j = A k j) → CondL P Γ xs Ti n base G A pm ob lit d k i
  | quiet (ar : AR) : guardX Ti (opOf xs i).guard = some true → wOf xs i = false → ob i = none → base + n ≤ (G k).next → aop (Hmin n base G A k pm ob).get (base + i) (evT Γ Ti) (opOf xs i).op = ar →
      (ar = .val d ∨ ∃ l o,ar = .upd l o d ∧ (Hmin n base G A k pm ob).get l = some o) → CondL P Γ xs Ti n base G A pm ob lit d k i
  | new (o : AObj) : guardX Ti (opOf xs i).guard = some true → wOf xs i = false → (∀ S,(∀ q ∈ lit i,S q.1 = false) → objS ob lit i S = some o) → (ob i).isSome = true → base + n ≤ (G k).next → aop (Hmin n base G A k pm ob).get (base + i) (evT Γ Ti) (opOf xs i).op = .new o d → CondL P Γ xs Ti n base G A pm ob lit d k i
  | write (ar : AR) : guardX Ti (opOf xs i).guard = some true → wOf xs i = true → ob i = none → base + n ≤ (G k).next → aop (Hmin n base G A k pm ob).get (G k).next (evT Γ Ti) (opOf xs i).op = ar → ar.on = true → ar.d = d →
      G (k + 1) = ar.heap (Hmin n base G A k pm ob) (G k).next ((G k).next + 1) → (∀ j,A (k + 1) j = (A k j || (pm j && (ob j).isSome))) → CondL P Γ xs Ti n base G A pm ob lit d k i
  | call (f : FuncId) (first caps : List D) (fo : Opd) (args : List Opd) : guardX Ti (opOf xs i).guard = some true → wOf xs i = true → ob i = none → base + n ≤ (G k).next → (opOf xs i).op = .call fo args → evT Γ Ti fo = .fn (.func f) first caps →
      (args.all fun y => (evT Γ Ti y).ok) = true → CX P Γ f (first ++ args.map (evT Γ Ti) ++ caps) (Hmin n base G A k pm ob) d (G (k + 1)) → (∀ j,A (k + 1) j = (A k j || (pm j && (ob j).isSome))) → CondL P Γ xs Ti n base G A pm ob lit d k i

end
end Go.Abs
end
noncomputable section
namespace Go.Abs
open Go

section
variable {P : Program} {Γ : Nat → D} {I : Nat → Prop} {μ : Emb} {h : AHeap} {w : World} {N : Nat}

theorem StepOK.ins {n base : Nat} {ops : Array Oper} {TS : (Nat → Bool) → Nat → D} {HS : (Nat → Bool) → AHeap} {S : Nat → Bool} {i l : Nat} {o : Oper} {x : XOp} {es es' : List Entry}
    (ho : ops[i]? = some o) (hx : xop P o = some x) (hN : N ≤ 100000) (hg : guardX (TS S) (xoper P ops o).guard = some true) (hgl : ∀ j x,(xoper P ops o).guard = some (j,x) → j < N) (hd : ∀ y,o.dst = some y → y < N)
    (hin : i < n) (hSi : S i = false) (hbn : base + n ≤ (HS S).next)
    (ha : aop (HS S).get (base + i) (evT Γ (TS S)) x = .upd l (.map es none) (.tup [])) (hp : es.Perm es')
    (hH : HS (addS S i) = { get := fun m => if m = l then some (.map es' none) else (HS S).get m,next := (HS S).next }) (hT : TS (addS S i) = setT (TS S) o.dst (.tup [])) :
    StepOK P Γ N base ops TS HS (Free n base) S i := by
  intro ro I μ w a K Q St0 hf hK
  unfold wpOpIn
  simp only [ho,guard_sound St0 hN ops o hg hgl,if_true]
  refine (oper_wp (id := base + i) (nx := (HS S).next) St0 hx (Nat.le_refl _) (hf i hin hSi) (by omega) (by rw [ha]; rfl) hd fun a' w' μ' E S' hdf hm => ?_)
  rw [ha] at E S'
  have hget : ((AR.upd l (.map es none) (.tup [])).heap (HS S) (base + i) (HS S).next).get l = some (.map es none) := by simp [AR.heap]
  have H2 := S'.hr.reorder hget hp
  have e : HS (addS S i) = reorder ((AR.upd l (.map es none) (.tup [])).heap (HS S) (base + i) (HS S).next) l (.map es' none) := by
    rw [hH]
    refine AHeap.eq (fun m => ?_) rfl
    simp only [reorder,AR.heap]
    by_cases hml : m = l
    · rw [if_pos hml,if_pos hml]
    · rw [if_neg hml,if_neg hml,if_neg hml]
  have E2 : Ext I μ (HS S) w I μ' (HS (addS S i)) w' := by
    rw [e]
    refine { E with back := fun m o' b b0 hgm hmm => ?_ }
    simp only [reorder] at hgm
    by_cases hml : m = l
    · subst hml; exact E.back m _ b b0 hget hmm
    · rw [if_neg hml] at hgm; exact E.back m o' b b0 hgm hmm
  exact hK a' w' μ' E2 (fun l hl => hm l (by omega)) ⟨e ▸ H2,hT ▸ S'.tm,S'.sz⟩ hdf (hf.add fun j hj hji => hm _ (by omega))

theorem mfind_none {get : Nat → Option AObj} {te : TEq} {k : D} : ∀ {es : List Entry} {i : Nat},(∀ e ∈ es,eqD get te k e.1 = some false) → mfind get te k es i = some none
  | [],_,_ => rfl
  | (k',v,b) :: es,i,h => by
    simp only [mfind,h (k',v,b) (by simp),mfind_none (es := es) (fun e he => h e (by simp [he]))]

theorem lit_perm {ls : List (Nat × Entry)} {S : Nat → Bool} {i : Nat} {e : Entry} {l1 l2 : List (Nat × Entry)} (hl : ls = l1 ++ (i,e) :: l2) (h1 : ∀ q ∈ l1,q.1 ≠ i) (h2 : ∀ q ∈ l2,q.1 ≠ i) (hS : S i = false) :
    ((ls.filterMap fun q => if S q.1 then some q.2 else none) ++ [e]).Perm (ls.filterMap fun q => if addS S i q.1 then some q.2 else none) := by
  have e1 : ∀ l : List (Nat × Entry),(∀ q ∈ l,q.1 ≠ i) → (l.filterMap fun q => if addS S i q.1 then some q.2 else none) = l.filterMap fun q => if S q.1 then some q.2 else none := fun l hh => fm_congr fun q hq => by
    have : addS S i q.1 = S q.1 := by simp [addS,hh q hq]
    rw [this]
  subst hl
  have hi : addS S i i = true := by simp [addS]
  simp only [List.filterMap_append,List.filterMap_cons,e1 l1 h1,e1 l2 h2,hi,hS,if_true,Bool.false_eq_true,if_false]
  rw [List.append_assoc]
  exact List.Perm.append_left _ (List.perm_append_singleton _ _)

theorem objS_lit {ob : Nat → Option AObj} {lit : Nat → List (Nat × Entry)} {j : Nat} {S : Nat → Bool} (ho : (ob j).isSome = true) (hl : lit j ≠ []) :
    (∃ ck,objS ob lit j S = some (.map ((lit j).filterMap fun q => if S q.1 then some q.2 else none) ck)) ∧
    (((lit j).filterMap fun q => if S q.1 then some q.2 else none) ≠ [] → objS ob lit j S = some (.map ((lit j).filterMap fun q => if S q.1 then some q.2 else none) none)) := by
  obtain ⟨o,ho⟩ := Option.isSome_iff_exists.1 ho
  unfold objS
  rw [ho]
  simp only
  cases hlj : lit j with
  | nil => exact absurd hlj hl
  | cons q ls =>
    cases hf : (q :: ls).filterMap fun q => if S q.1 then some q.2 else none with
    | nil => exact ⟨⟨some 0,rfl⟩,fun h => absurd rfl h⟩
    | cons e es => exact ⟨⟨none,rfl⟩,fun _ => rfl⟩

end
end Go.Abs
end
noncomputable section
namespace Go.Abs
open Go

section
variable {P : Program} {Γ : Nat → D} {N : Nat} {ro : Option Nat}

structure CondI (P : Program) (Γ : Nat → D) (xs : List XOper) (Ti : Nat → D) (n base : Nat) (G : Nat → AHeap) (A : Nat → Nat → Bool) (pre : List Nat) (ob : Nat → Option AObj) (lit : Nat → List (Nat × Entry)) (d : D) (k i : Nat) : Prop where
  g : guardX Ti (opOf xs i).guard = some true
  nw : wOf xs i = false
  no : ob i = none
  room : base + n ≤ (G k).next
  dd : d = .tup []
  rest : ∃ m te mo ko vo key val l1 l2,(opOf xs i).op = .ins te mo ko vo ∧ evT Γ Ti mo = .mp (base + m) ∧ evT Γ Ti ko = key ∧ evT Γ Ti vo = val ∧ key.val = true ∧ val.val = true ∧ keyOk te key = true ∧ m < n ∧ m ∈ pre ∧ (ob m).isSome = true ∧ A k m = false ∧
    lit m = l1 ++ (i,(key,val,none)) :: l2 ∧ (∀ q ∈ l1,q.1 ≠ i) ∧ (∀ q ∈ l2,q.1 ≠ i) ∧ (∀ j,j ≠ m → ∀ q ∈ lit j,q.1 ≠ i) ∧ (∀ get : Nat → Option AObj,∀ q ∈ l1 ++ l2,eqD get te key q.2.1 = some false)

theorem EX.planM {id : Nat} {ops : Array Oper} {T : Nat → D} {h : AHeap} (hm : P.follows .mixedOrders = true) (hN : N ≤ 100000) {xs : List XOper} (hxs : xs = ops.toList.map (xoper P ops)) {after : List (List Nat)}
    (haf : after = ops.toList.map fun o => (o.after.toList.filter (Region.binds .any ·)).map (·.on)) {plan : List PlanE} (p : PlanP xs after plan) (hwf : ∀ i,i < xs.length → (∀ y,(opOf xs i).dst = some y → y < N) ∧ ∀ j x,(opOf xs i).guard = some (j,x) → j < N)
    {dF : Nat → D} {G : Nat → AHeap} {A : Nat → Nat → Bool} {ob : Nat → Option AObj} {lit : Nat → List (Nat × Entry)} {pm : Nat → Nat → Bool} (hpm : ∀ i j,pm i j = true → pmOf plan lit i j = true) (hfull : ∀ j,lit j ≠ [] → ob j = some (.map ((lit j).map (·.2)) none)) (hlit : ∀ j,∀ q ∈ lit j,q.1 < xs.length ∧ j ∈ preOf plan q.1) (hG0 : G 0 = { h with next := h.next + xs.length }) (hA0 : ∀ j,A 0 j = (ob j).isNone)
    (hAi : ∀ i,i < xs.length → (ob i).isSome = true → ∀ k,k ≤ (plan.getD i default).hi → A k i = false)
    (cond : ∀ i,i < xs.length → ∀ k,(plan.getD i default).lo ≤ k → k ≤ (plan.getD i default).hi →
      CondL P Γ xs (TSn T (fun j => (opOf xs j).dst) dF (fun _ => true) i) xs.length h.next G A (pm i) ob lit (dF i) k i ∧ (∀ j,∀ q ∈ lit j,q.1 ≠ i) ∨ CondI P Γ xs (TSn T (fun j => (opOf xs j).dst) dF (fun _ => true) i) xs.length h.next G A (preOf plan i) ob lit (dF i) k i) :
    EX P Γ ro N (.region id ops true) T h .norm (TSn T (fun j => (opOf xs j).dst) dF (fun i => decide (i < ops.size)) xs.length)
      (HSk xs.length h.next G A (objS ob lit) (kS (wOf xs) (fun i => decide (i < ops.size)) xs.length) (fun i => decide (i < ops.size))) := by
  have hlen : xs.length = ops.size := by rw [hxs]; simp
  have hop : ∀ i o,ops[i]? = some o → opOf xs i = xoper P ops o := by
    intro i o ho
    obtain ⟨hi,rfl⟩ := Array.getElem?_eq_some_iff.1 ho
    simp [opOf,hxs,hi]
  have haft : ∀ i o,ops[i]? = some o → after.getD i [] = (o.after.toList.filter (Region.binds .any ·)).map (·.on) := by
    intro i o ho
    obtain ⟨hi,rfl⟩ := Array.getElem?_eq_some_iff.1 ho
    simp [haf,hi]
  have lt_of : ∀ i,i < xs.length → ∀ j ∈ preOf plan i,j < i := by
    intro i
    induction i using Nat.strongRecOn with
    | _ i ih =>
      intro hi j hj
      obtain ⟨e,he,h1⟩ := p.s1 i hi j hj
      have hei := p.s2 i hi e he
      rcases h1 with rfl | h1
      · exact hei
      · exact Nat.lt_trans (ih e hei (by omega) j h1) hei
  refine EX.draw (pre := preOf plan) (TS := fun S => TSn T (fun j => (opOf xs j).dst) dF S xs.length) (HS := fun S => HSk xs.length h.next G A (objS ob lit) (kS (wOf xs) S xs.length) S) (Fr := Free xs.length h.next) (nx := h.next + xs.length) hm ?_ ?_ ?_ (by omega) ?_ ?_ ?_ ?_
  · intro i o ho j hj
    have hi : i < xs.length := by rw [hlen]; exact (Array.getElem?_eq_some_iff.1 ho).1
    obtain ⟨e,he,h1⟩ := p.s1 i hi j hj
    rw [haft i o ho] at he
    obtain ⟨ed,hed,rfl⟩ := List.mem_map.1 he
    obtain ⟨h2,h3⟩ := List.mem_filter.1 hed
    exact ⟨ed,by simpa using h2,h3,h1⟩
  · intro i o ho e he hb
    have hi : i < xs.length := by rw [hlen]; exact (Array.getElem?_eq_some_iff.1 ho).1
    refine p.s2 i hi e.on ?_
    rw [haft i o ho]
    exact List.mem_map.2 ⟨e,List.mem_filter.2 ⟨by simpa using he,hb⟩,rfl⟩
  · have : ∀ m,TSn T (fun j => (opOf xs j).dst) dF (fun _ => false) m = T := by
      intro m
      induction m with
      | zero => rfl
      | succ m ih => simp [TSn,ih]
    exact this _
  · have : ∀ m,kS (wOf xs) (fun _ => false) m = 0 := by
      intro m
      induction m with
      | zero => rfl
      | succ m ih => simp [kS,ih]
    rw [this]
    intro l o hg
    simp only [HSk] at hg
    split at hg
    · simp at hg
    · rw [hG0] at hg; exact hg
  · simp only [HSk]
    have : ∀ m,kS (wOf xs) (fun _ => false) m = 0 := by
      intro m
      induction m with
      | zero => rfl
      | succ m ih => simp [kS,ih]
    rw [this,hG0]
  · intro I μ w H j hj _
    exact H.fresh _ (by omega)
  · intro S i hcl hi hSi hpre
    rw [← hlen] at hi
    obtain ⟨o,ho⟩ : ∃ o,ops[i]? = some o := ⟨ops[i]'(by omega),by simp [show i < ops.size by omega]⟩
    obtain ⟨hb1,hb2⟩ := plan_bounds p hcl hi hSi hpre
    have hoi := hop i o ho
    have hdst : (opOf xs i).dst = o.dst := by rw [hoi]; rfl
    have hopx : (opOf xs i).op = (xop P o).getD .bad := by rw [hoi]; rfl
    have hgd : (xoper P ops o).guard = (opOf xs i).guard := by rw [hoi]
    -- what it reads
    have hread : ∀ t ∈ (opOf xs i).reads,TSn T (fun j => (opOf xs j).dst) dF S xs.length t = TSn T (fun j => (opOf xs j).dst) dF (fun _ => true) i t := by
      intro t ht
      refine TSn_read T _ dF (fun j hj hd => ?_) xs.length (by omega) fun j h1 h2 hs hd => ?_
      · rcases p.s3 i hi j (by omega) (by omega) with h3 | h3 | h3
        · exact hpre j h3
        · have := lt_of j (by omega) i h3; omega
        · exact absurd ht (h3 t hd).1
      · by_cases hji : j = i
        · subst hji; rw [hSi] at hs; cases hs
        · rcases p.s3 i hi j h2 hji with h3 | h3 | h3
          · have := lt_of i hi j h3; omega
          · have := hcl j hs i h3; rw [hSi] at this; cases this
          · exact absurd ht (h3 t hd).1
    have hev : ∀ y ∈ (opOf xs i).op.opds,evT Γ (TSn T (fun j => (opOf xs j).dst) dF S xs.length) y = evT Γ (TSn T (fun j => (opOf xs j).dst) dF (fun _ => true) i) y :=
      evT_congr fun t ht => hread t (List.mem_append_left _ ht)
    have hgx : guardX (TSn T (fun j => (opOf xs j).dst) dF S xs.length) (opOf xs i).guard = guardX (TSn T (fun j => (opOf xs j).dst) dF (fun _ => true) i) (opOf xs i).guard :=
      guardX_congr fun t ht => hread t (List.mem_append_right _ ht)
    have hT : TSn T (fun j => (opOf xs j).dst) dF (addS S i) xs.length = setT (TSn T (fun j => (opOf xs j).dst) dF S xs.length) o.dst (dF i) := by
      rw [← hdst]
      refine TSn_add T (fun j => (opOf xs j).dst) dF hSi xs.length hi fun j h1 h2 hs t ht hd => ?_
      rcases p.s3 i hi j h2 (by omega) with h3 | h3 | h3
      · have := lt_of i hi j h3; omega
      · have := hcl j hs i h3; rw [hSi] at this; cases this
      · exact (h3 t hd).2 ht
    have hk : kS (wOf xs) (addS S i) xs.length = kS (wOf xs) S xs.length + (if wOf xs i then 1 else 0) := kS_add hSi xs.length hi
    have hsub : Sub (Hmin xs.length h.next G A (kS (wOf xs) S xs.length) (pm i) ob) (HSk xs.length h.next G A (objS ob lit) (kS (wOf xs) S xs.length) S) :=
      Hmin_sub fun j o hj0 ho => by
        have hj := hpm i j hj0
        simp only [pmOf,Bool.and_eq_true,List.all_eq_true,List.contains_iff_mem] at hj
        exact ⟨hpre j hj.1,objS_full (hfull j) (fun q hq => hpre _ (hj.2 q hq)) ho⟩
    have hgl : ∀ j x,(xoper P ops o).guard = some (j,x) → j < N := fun j x hj => (hwf i hi).2 j x (hgd ▸ hj)
    have hd : ∀ y,o.dst = some y → y < N := fun y hy => (hwf i hi).1 y (hdst.trans hy)
    have c := cond i hi _ hb1 hb2
    generalize hkk : kS (wOf xs) S xs.length = k at c hk hsub
    have hxop : ∀ nx ar,aop (Hmin xs.length h.next G A k (pm i) ob).get nx (evT Γ (TSn T (fun j => (opOf xs j).dst) dF (fun _ => true) i)) (opOf xs i).op = ar → ar.on = true →
        ∃ x,xop P o = some x ∧ aop (Hmin xs.length h.next G A k (pm i) ob).get nx (evT Γ (TSn T (fun j => (opOf xs j).dst) dF S xs.length)) x = ar := by
      intro nx ar har hon
      cases hx : xop P o with
      | none => rw [hopx,hx] at har; subst har; simp [aop,AR.on] at hon
      | some x =>
        have e : (opOf xs i).op = x := by rw [hopx,hx]; rfl
        refine ⟨x,rfl,?_⟩
        rw [← har,e]
        exact aop_congr x (e ▸ hev)
    have hHS : ∀ S',kS (wOf xs) S' xs.length = k → HSk xs.length h.next G A (objS ob lit) (kS (wOf xs) S' xs.length) S' = HSk xs.length h.next G A (objS ob lit) k S' := fun S' e => by rw [e]
    rcases c with ⟨c,hnl⟩ | c
    rotate_left
    · obtain ⟨m,te,mo,ko,vo,key,val,l1,l2,c1,c2,c3,c4,c5,c6,c7,c8,c9,c10,c11,c12,c13,c14,c15,c16⟩ := c.rest
      have hxo : xop P o = some (.ins te mo ko vo) := by
        cases hx : xop P o with
        | none => rw [hopx,hx] at c1; cases c1
        | some x => rw [hopx,hx] at c1; rw [← c1]; rfl
      have hw : kS (wOf xs) (addS S i) xs.length = k := by rw [hk,c.nw]; simp
      rw [c1] at hev
      have e1 := (hev mo (by simp [XOp.opds])).trans c2
      have e2 := (hev ko (by simp [XOp.opds])).trans c3
      have e3 := (hev vo (by simp [XOp.opds])).trans c4
      have hlm : lit m ≠ [] := by rw [c12]; simp
      obtain ⟨⟨ck,o1⟩,_⟩ := objS_lit (S := S) c10 hlm
      obtain ⟨_,o2⟩ := objS_lit (S := addS S i) c10 hlm
      have hperm := lit_perm (S := S) c12 c13 c14 hSi
      have hne : ((lit m).filterMap fun q => if addS S i q.1 then some q.2 else none) ≠ [] := fun h0 => by
        rw [h0] at hperm
        have := hperm.length_eq
        simp at this
      have hmsk : msk xs.length h.next A k (h.next + m) = true := by simp [msk,c11,c8]
      have hgm : (HSk xs.length h.next G A (objS ob lit) k S).get (h.next + m) = some (.map ((lit m).filterMap fun q => if S q.1 then some q.2 else none) ck) := by
        simp only [HSk]
        rw [if_pos hmsk]
        simp only [Nat.add_sub_cancel_left,hpre m c9,if_true]
        exact o1
      have hmf : mfind (HSk xs.length h.next G A (objS ob lit) k S).get te key ((lit m).filterMap fun q => if S q.1 then some q.2 else none) 0 = some none := by
        refine mfind_none fun e he => ?_
        obtain ⟨q,hq,hqe⟩ := List.mem_filterMap.1 he
        rw [c12] at hq
        by_cases hqs : S q.1 = true
        · rw [if_pos hqs] at hqe
          simp only [Option.some.injEq] at hqe
          subst hqe
          rcases List.mem_append.1 hq with h1 | h1
          · exact c16 _ q (List.mem_append_left _ h1)
          · rcases List.mem_cons.1 h1 with rfl | h1
            · simp only at hqs; rw [hSi] at hqs; cases hqs
            · exact c16 _ q (List.mem_append_right _ h1)
        · rw [if_neg hqs] at hqe; cases hqe
      refine StepOK.ins (l := h.next + m) (es := ((lit m).filterMap fun q => if S q.1 then some q.2 else none) ++ [(key,val,none)]) ho hxo hN (by rw [hgd]; exact hgx.trans c.g) hgl hd hi hSi ?_ ?_ hperm ?_ (by rw [← c.dd]; exact hT)
      · try simp only
        rw [hkk]; exact c.room
      · try simp only
        rw [hkk]
        simp only [aop,e1,e2,e3,hgm,c5,c6,c7,hmf,and_self,if_true]
      · try simp only
        rw [hw,hkk]
        refine AHeap.eq (fun l => ?_) rfl
        by_cases hl : l = h.next + m
        · subst hl
          simp only [HSk]
          rw [if_pos hmsk]
          simp only [Nat.add_sub_cancel_left,if_true]
          have : addS S i m = true := by simp [addS,hpre m c9]
          rw [if_pos this]
          exact o2 hne
        · simp only [HSk]
          rw [if_neg hl]
          by_cases hm' : msk xs.length h.next A k l = true
          · rw [if_pos hm',if_pos hm']
            have hlm' : l - h.next ≠ m := fun e => by simp [msk] at hm'; omega
            by_cases hli : l - h.next = i
            · rw [hli,objS_none c.no,hSi]; simp
            · rw [objS_add (c15 _ hlm')]; simp [addS,hli]
          · rw [if_neg hm',if_neg hm']
    cases c with
    | skip h1 h2 h3 h4 =>
      refine StepOK.skip ho hN (by rw [hgd]; exact hgx.trans h1) hgl hd ?_ (by rw [← h2]; exact hT)
      try simp only
      rw [hkk,hk]
      have e : ∀ k',G k' = G k → (∀ j,A k' j = A k j) → HSk xs.length h.next G A (objS ob lit) k' (addS S i) = HSk xs.length h.next G A (objS ob lit) k S := by
        intro k' e1 e2
        refine AHeap.eq (fun l => ?_) (by simp only [HSk]; rw [e1])
        have em : msk xs.length h.next A k' l = msk xs.length h.next A k l := by simp only [msk,e2]
        simp only [HSk,em,e1]
        by_cases hl : l - h.next = i
        · rw [hl,objS_none h3,hSi]; simp
        · rw [objS_add (hnl _)]; simp [addS,hl]
      cases hw : wOf xs i with
      | true => simp only [if_true]; exact e (k + 1) (h4 hw).1 (h4 hw).2
      | false => simp only [Bool.false_eq_true,if_false,Nat.add_zero]; exact e k rfl (fun _ => rfl)
    | quiet ar h1 h2 h3 hgn h4 h5 =>
      have hon : ar.on = true := by rcases h5 with rfl | ⟨l,o,rfl,_⟩ <;> rfl
      have hdd : ar.d = dF i := by rcases h5 with rfl | ⟨l,o,rfl,_⟩ <;> rfl
      obtain ⟨x,hx,hax⟩ := hxop _ ar h4 hon
      have hw : kS (wOf xs) (addS S i) xs.length = k := by rw [hk,h2]; simp
      refine StepOK.op (Hm := Hmin xs.length h.next G A k (pm i) ob) (id := h.next + i) (nx := (G k).next) (H2 := Hmin xs.length h.next G A k (pm i) ob)
        ho hx hN (by rw [hgd]; exact hgx.trans h1) hgl hd ?_ ?_ (Nat.le_refl _) (by omega) hi hSi (.inl rfl) (by omega) ?_ ?_ (Nat.le_refl _) ?_ ?_ ?_
      · (try simp only); rw [hkk]; exact hsub
      · (try simp only); rw [hkk]; rfl
      · (try simp only); rw [hax]; exact hon
      · (try simp only); rw [hax]
        rcases h5 with rfl | ⟨l,o',rfl,hl⟩
        · exact fun _ _ hh => hh
        · intro m o2 hh
          simp only [AR.heap]
          by_cases hm : m = l
          · subst hm; rw [hl] at hh; rw [if_pos rfl]; exact hh
          · rw [if_neg hm]; exact hh
      · intro l o' _ h7; exact h7
      · try simp only
        rw [hw,hkk]
        exact heap_same hsub hSi rfl rfl (fun _ => objS_none h3) (fun j _ _ => objS_add (hnl j))
      · (try simp only); rw [hax,hdd]; exact hT
    | new ob' h1 h2 h3 h3' hgn h4 =>
      obtain ⟨x,hx,hax⟩ := hxop _ _ h4 rfl
      have hw : kS (wOf xs) (addS S i) xs.length = k := by rw [hk,h2]; simp
      have hAk : A k i = false := hAi i hi h3' k (hkk ▸ hb2)
      refine StepOK.op (Hm := Hmin xs.length h.next G A k (pm i) ob) (id := h.next + i) (nx := (G k).next)
        (H2 := AR.heap (.new ob' (dF i)) (Hmin xs.length h.next G A k (pm i) ob) (h.next + i) (G k).next)
        ho hx hN (by rw [hgd]; exact hgx.trans h1) hgl hd ?_ ?_ (Nat.le_refl _) (by omega) hi hSi (.inl rfl) (by omega) ?_ ?_ (Nat.le_refl _) ?_ ?_ ?_
      · (try simp only); rw [hkk]; exact hsub
      · (try simp only); rw [hkk]; rfl
      · (try simp only); rw [hax]; rfl
      · (try simp only); rw [hax]; exact fun _ _ hh => hh
      · intro l o' h6 h7
        try simp only at h6
        rw [hkk] at h6
        simp only [AR.heap]
        by_cases hl : l = h.next + i
        · exfalso
          subst hl
          simp only [HSk] at h6
          have hm : msk xs.length h.next A k (h.next + i) = true := by simp [msk,hAk,hi]
          rw [if_pos hm] at h6
          simp [hSi] at h6
        · rw [if_neg hl]; exact h7
      · try simp only
        rw [hw,hkk]
        exact heap_new hsub hSi hi hAk rfl rfl (h3 _ fun q hq => by
          have hne := hnl i q hq
          simp only [addS,Bool.or_eq_false_iff,beq_eq_false_iff_ne]
          refine ⟨hne,?_⟩
          cases hs : S q.1 with
          | false => rfl
          | true => have := hcl q.1 hs i (hlit i q hq).2; rw [hSi] at this; cases this) (fun j _ _ => objS_add (hnl j))
      · (try simp only); rw [hax]; exact hT
    | write ar h1 h2 h3 hgn h4 h5 h6 h7 h8 =>
      obtain ⟨x,hx,hax⟩ := hxop _ ar h4 h5
      have hw : kS (wOf xs) (addS S i) xs.length = k + 1 := by rw [hk,h2]; simp
      have hwr := heap_write (G := G) (i := i) (H2 := { get := fun l => if msk xs.length h.next A (k + 1) l then none else (G (k + 1)).get l,next := (G (k + 1)).next }) hsub hSi h8 rfl rfl (fun _ => objS_none h3) (fun j _ _ => objS_add (hnl j))
      refine StepOK.op (Hm := Hmin xs.length h.next G A k (pm i) ob) (id := (G k).next) (nx := (G k).next + 1)
        (H2 := { get := fun l => if msk xs.length h.next A (k + 1) l then none else (G (k + 1)).get l,next := (G (k + 1)).next })
        ho hx hN (by rw [hgd]; exact hgx.trans h1) hgl hd ?_ ?_ (Nat.le_succ _) (Nat.lt_succ_self _) hi hSi (.inr ⟨rfl,hgn⟩) (by omega) ?_ ?_ ?_ ?_ ?_ ?_
      · (try simp only); rw [hkk]; exact hsub
      · (try simp only); rw [hkk]; rfl
      · (try simp only); rw [hax]; exact h5
      · (try simp only); rw [hax,← h7]
        intro l o' hh
        simp only at hh
        split at hh
        · simp at hh
        · exact hh
      · (try simp only); rw [h7]; cases ar <;> exact Nat.le_refl _
      · (try simp only); rw [hkk]; exact hwr.2
      · (try simp only); rw [hw,hkk]; exact hwr.1
      · (try simp only); rw [hax,h6]; exact hT
    | call f first caps fo args h1 h2 h3 hgn h4 h5 h6 h7 h8 =>
      have hxo : xop P o = some (.call fo args) := by
        cases hx : xop P o with
        | none => rw [hopx,hx] at h4; cases h4
        | some x => rw [hopx,hx] at h4; rw [← h4]; rfl
      obtain ⟨cc,fo',hoc,hcal,rfl,rfl⟩ := xop_call hxo
      have hw : kS (wOf xs) (addS S i) xs.length = k + 1 := by rw [hk,h2]; simp
      have hwr := heap_write (G := G) (i := i) (H2 := { get := fun l => if msk xs.length h.next A (k + 1) l then none else (G (k + 1)).get l,next := (G (k + 1)).next }) hsub hSi h8 rfl rfl (fun _ => objS_none h3) (fun j _ _ => objS_add (hnl j))
      rw [h4] at hev
      have hev1 := hev (xopd fo') (by simp [XOp.opds])
      have hev2 : ∀ y ∈ cc.args.toList.map xopd,evT Γ (TSn T (fun j => (opOf xs j).dst) dF S xs.length) y = evT Γ (TSn T (fun j => (opOf xs j).dst) dF (fun _ => true) i) y := fun y hy => hev y (by simp [XOp.opds] at hy ⊢; exact .inr hy)
      refine StepOK.call (Hm := Hmin xs.length h.next G A k (pm i) ob) (H' := G (k + 1)) (d := dF i) (first := first) (caps := caps) (f := f)
        (H2 := { get := fun l => if msk xs.length h.next A (k + 1) l then none else (G (k + 1)).get l,next := (G (k + 1)).next })
        ho hN (by rw [hgd]; exact hgx.trans h1) hgl hd hoc hcal ?_ ?_ ?_ ?_ ?_ hgn ?_ (Nat.le_refl _) ?_ ?_ hT
      · (try simp only); rw [hev1]; exact h5
      · (try simp only); rw [all_congr hev2]; exact h6
      · (try simp only); rw [List.map_congr_left hev2]; exact h7
      · (try simp only); rw [hkk]; exact hsub
      · (try simp only); rw [hkk]; rfl
      · intro l o' hh
        simp only at hh
        split at hh
        · simp at hh
        · exact hh
      · (try simp only); rw [hkk]; exact hwr.2
      · (try simp only); rw [hw,hkk]; exact hwr.1

end
end Go.Abs
end
noncomputable section
namespace Go.Abs
open Go
section
variable (get : Nat → Option AObj) (next : Nat) (ev : Opd → D)

def q_mv (x : Opd) : AR :=
  if (ev x).ok then .val (ev x) else .bad

def q_pick (c : Opd) (a : Opd) (b : Opd) : AR :=
    match ev c with
    | .b true => if (ev a).ok then .val (ev a) else .bad
    | .b false => if (ev b).ok then .val (ev b) else .bad
    | _ => .bad
def q_alloc (z : List D) (m : Nat) : AR :=
  .new (.cells z m) (.ptr next 0)

def q_box (x : Opd) : AR :=
  if (ev x).val then .new (.cells (ev x).cells 0) (.ptr next 0) else .bad

def q_build (z : List D) (ps : List (Nat × Nat × Opd)) : AR :=
    match fillD z (ps.map fun p => (p.1,p.2.1,ev p.2.2)) with
    | some cs => .val (.agg cs)
    | none => .bad
def q_bslice (sz : Nat) (z : List D) (ps : List (Nat × Nat × Opd)) (len : Nat) : AR :=
    match fillD z (ps.map fun p => (p.1,p.2.1,ev p.2.2)) with
    | some cs => .new (.cells cs (match z with | .i .u8 _ :: _ => 1 | _ => 0)) (.sl sz next 0 len)
    | none => .bad
def q_ld (agg : Bool) (n : Nat) (a : Opd) : AR :=
    match ldCells get n (ev a) with
    | some cs => if agg then .val (.agg cs) else ofO cs[0]?
    | none => .bad
def q_st (n : Nat) (a : Opd) (v : Opd) : AR :=
    match ev a with
    | .ptr l off =>
      match get l with
      | some (.cells cs odd) =>
        if (ev v).cells.length = n ∧ off + n ≤ cs.length ∧ (ev v).val = true then .upd l (.cells (splice cs off (ev v).cells) odd) (.tup []) else .bad
      | _ => .bad
    | _ => .bad
def q_nilchk (x : Opd) : AR :=
    match ev x with
    | .ptr l o => .val (.ptr l o)
    | .fptr cs => .val (.fptr cs)
    | .fn (.func f) a c => .val (.fn (.func f) a c)
    | .yld l => .val (.yld l)
    | .ifc t d => .val (.ifc t d)
    | _ => .bad
def q_bin (op : BinOp) (x : Opd) (y : Opd) : AR :=
  ofO (binD op (ev x) (ev y))

def q_eq (neg : Bool) (te : TEq) (x : Opd) (y : Opd) : AR :=
    match eqD get te (ev x) (ev y) with
    | some r => .val (.b (if neg then !r else r))
    | none => .bad
def q_un (op : UnOp) (x : Opd) : AR :=
  ofO (unD op (ev x))

def q_convI (k : IntKind) (x : Opd) : AR :=
    match ev x with
    | .i _ n => .val (.i k (k.wrap n))
    | _ => .bad
def q_convS (x : Opd) : AR :=
    match ev x with
    | .s t => .val (.s t)
    | _ => .bad
def q_convBS (x : Opd) : AR :=
    match slCells get 1 (ev x) with
    | some (cs,_,_) =>
      match cs.mapM byteOf? with
      | some bs => if bs.length ≤ maxN then .val (.s bs) else .bad
      | none => .bad
    | none => .bad
def q_mrk (x : Opd) : AR :=
    match ev x with
    | .sl z l off len =>
      match get l with
      | some (.cells cs 1) => if len = 0 then .bad else .upd l (.cells cs 1) (.sl z l off len)
      | _ => .bad
    | _ => .bad
def q_mkif (t : Nat) (x : Opd) : AR :=
  if (ev x).val then .val (.ifc t (ev x)) else .bad

def q_mkfn (f : Fn) (a : List Opd) (c : List Opd) : AR :=
  if a.all (fun y => (ev y).ok) ∧ c.all (fun y => (ev y).ok) then .val (.fn f (a.map ev) (c.map ev)) else .bad

def q_mkmap  : AR :=
  .new (.map [] (some 0)) (.mp next)

def q_mkslice (bytes : Nat) (z : List D) (len : Opd) (cap : Opd) : AR :=
    match ev len,ev cap with
    | .i _ l,.i _ c =>
      if 0 ≤ l ∧ l ≤ c ∧ c ≤ 281474976710656 ∧ (bytes : Int) * c ≤ 281474976710656 then .new (.cells (List.replicate l.toNat z).flatten 0) (.sl z.length next 0 l.toNat) else .bad
    | _,_ => .bad
def q_slcS (x : Opd) (lo : Option Opd) (hi : Option Opd) : AR :=
    match ev x,optI (lo.map ev) 0 with
    | .s t,some l =>
      match optI (hi.map ev) t.length with
      | some h => if 0 ≤ l ∧ l ≤ h ∧ h ≤ t.length then .val (.s ((t.drop l.toNat).take (h.toNat - l.toNat))) else .bad
      | none => .bad
    | _,_ => .bad
def q_slc (sz : Nat) (x : Opd) (lo : Option Opd) (hi : Option Opd) : AR :=
    match ev x,optI (lo.map ev) 0 with
    | .nils,some l =>
      match optI (hi.map ev) 0 with
      | some h => if l = 0 ∧ h = 0 then .val .nils else .bad
      | none => .bad
    | .sl z m off len,some l =>
      match optI (hi.map ev) len with
      | some h => if 0 ≤ l ∧ l ≤ h ∧ h ≤ len ∧ z = sz then .val (.sl z m (off + l.toNat * sz) (h.toNat - l.toNat)) else .bad
      | none => .bad
    | .fz sz' es,some l =>
      match optI (hi.map ev) es.length with
      | some h => if 0 ≤ l ∧ l ≤ h ∧ h ≤ es.length ∧ sz' = sz then .val (.fz sz ((es.drop l.toNat).take (h.toNat - l.toNat))) else .bad
      | none => .bad
    | _,_ => .bad
def q_slcA (n : Nat) (sz : Nat) (x : Opd) (lo : Option Opd) (hi : Option Opd) : AR :=
    match ev x,optI (lo.map ev) 0,optI (hi.map ev) n with
    | .ptr m off,some l,some h =>
      match get m with
      | some (.cells cs _) => if 0 ≤ l ∧ l ≤ h ∧ h ≤ n ∧ n ≤ maxN ∧ off + n * sz ≤ cs.length then .val (.sl sz m (off + l.toNat * sz) (h.toNat - l.toNat)) else .bad
      | _ => .bad
    | _,_,_ => .bad
def q_faddr (off : Nat) (x : Opd) : AR :=
    match ev x with
    | .ptr l o => .val (.ptr l (o + off))
    | .fptr cs => if off ≤ cs.length then .val (.fptr (cs.drop off)) else .bad
    | _ => .bad
def q_fld (agg : Bool) (off : Nat) (n : Nat) (x : Opd) : AR :=
    match ev x with
    | .agg cs => ofO (partD agg off n cs)
    | _ => .bad
def q_iaddrA (len : Nat) (sz : Nat) (x : Opd) (i : Opd) : AR :=
    match ev x,ev i with
    | .ptr l o,.i _ n => if 0 ≤ n ∧ n < len then .val (.ptr l (o + n.toNat * sz)) else .bad
    | .fptr cs,.i _ n => if 0 ≤ n ∧ n < len ∧ n.toNat * sz ≤ cs.length then .val (.fptr (cs.drop (n.toNat * sz))) else .bad
    | _,_ => .bad
def q_iaddr (sz : Nat) (x : Opd) (i : Opd) : AR :=
    match ev x,ev i with
    | .sl z l o len,.i _ n => if 0 ≤ n ∧ n < len ∧ z = sz then .val (.ptr l (o + n.toNat * sz)) else .bad
    | .fz sz' es,.i _ n =>
      if 0 ≤ n ∧ n < es.length ∧ sz' = sz then (match es[n.toNat]? with | some e => .val (.fptr e.cells) | none => .bad) else .bad
    | _,_ => .bad
def q_idxA (len : Nat) (sz : Nat) (agg : Bool) (x : Opd) (i : Opd) : AR :=
    match ev x,ev i with
    | .agg cs,.i _ n => if 0 ≤ n ∧ n < len then ofO (partD agg (n.toNat * sz) sz cs) else .bad
    | _,_ => .bad
def q_idxS (x : Opd) (i : Opd) : AR :=
    match ev x,ev i with
    | .s t,.i _ n =>
      if 0 ≤ n then (match t[n.toNat]? with | some c => .val (byteD c) | none => .bad) else .bad
    | _,_ => .bad
def q_look (te : TEq) (z : D) (ok : Bool) (m : Opd) (k : Opd) : AR :=
    match (match ev m with
      | .nilm => some []
      | .mp l => (match get l with | some (.map es _) => some es | _ => none)
      | _ => none) with
    | some es =>
      if keyOk te (ev k) ∧ (ev k).ok then
        match mfind get te (ev k) es 0 with
        | some (some (_,v,_)) => .val (if ok then .tup [v,.b true] else v)
        | some none => .val (if ok then .tup [z,.b false] else z)
        | none => .bad
      else .bad
    | none => .bad
def q_mupd (te : TEq) (m : Opd) (k : Opd) (v : Opd) : AR :=
    match ev m with
    | .mp l =>
      match get l with
      | some (.map es clock) =>
        if (ev k).val ∧ (ev v).val ∧ keyOk te (ev k) then
          match mfind get te (ev k) es 0 with
          | some (some (i,_,b)) => .upd l (.map (es.set i (ev k,ev v,b)) clock) (.tup [])
          | some none => .upd l (.map (es ++ [(ev k,ev v,clock)]) (clock.map (· + 1))) (.tup [])
          | none => .bad
        else .bad
      | _ => .bad
    | _ => .bad
def q_ins (te : TEq) (m : Opd) (k : Opd) (v : Opd) : AR :=
    match ev m with
    | .mp l =>
      match get l with
      | some (.map es _) =>
        if (ev k).val ∧ (ev v).val ∧ keyOk te (ev k) then
          match mfind get te (ev k) es 0 with
          | some none => .upd l (.map (es ++ [(ev k,ev v,none)]) none) (.tup [])
          | _ => .bad
        else .bad
      | _ => .bad
    | _ => .bad
def q_ment (te : TEq) (z : D) (m : Opd) (k : Opd) : AR :=
    match ev m with
    | .mp l =>
      match get l with
      | some (.map es clock) =>
        if (ev k).val ∧ keyOk te (ev k) then
          match mfind get te (ev k) es 0 with
          | some (some (i,v,some b)) => .upd l (.map (es.set i (ev k,v,some b)) clock) (.tup [v,.i .i64 b])
          | some none =>
            match clock with
            | some c => .upd l (.map (es ++ [(ev k,z,some c)]) (some (c + 1))) (.tup [z,.i .i64 c])
            | none => .bad
          | _ => .bad
        else .bad
      | _ => .bad
    | _ => .bad
def q_estore (m : Opd) (st : Opd) (v : Opd) : AR :=
    match ev m,ev st with
    | .mp l,.i _ n =>
      match get l with
      | some (.map es clock) =>
        if (ev v).val then
          match es.findIdx? (fun e => match e.2.2 with | some b => (b : Int) == n | none => false) with
          | some i => (match es[i]? with | some (k,_,b) => .upd l (.map (es.set i (k,ev v,b)) clock) (.tup []) | none => .bad)
          | none => .bad
        else .bad
      | _ => .bad
    | _,_ => .bad
def q_ext (x : Opd) (i : Nat) : AR :=
    match ev x with
    | .tup ds => ofO ds[i]?
    | _ => .bad
def q_lenS (x : Opd) : AR :=
    match ev x with
    | .s t => .val (.i .i64 t.length)
    | _ => .bad
def q_lenA (n : Nat) : AR :=
  .val (.i .i64 n)

def q_lenL (x : Opd) : AR :=
    match ev x with
    | .nils => .val (.i .i64 0)
    | .sl _ _ _ len => .val (.i .i64 len)
    | .fz _ es => .val (.i .i64 es.length)
    | _ => .bad
def q_lenM (x : Opd) : AR :=
    match ev x with
    | .nilm => .val (.i .i64 0)
    | .mp l => (match get l with | some (.map es _) => .val (.i .i64 es.length) | _ => .bad)
    | _ => .bad
def q_app (sz : Nat) (bytes : Nat) (mk : Nat) (x : Opd) (y : Opd) : AR :=
    match slCells get sz (ev y) with
    | some (new,m,ly) => appD get bytes sz mk next (ev x) new m ly
    | none => .bad
def q_appS (mk : Nat) (x : Opd) (y : Opd) : AR :=
    match ev y with
    | .s t => appD get 1 1 mk next (ev x) (t.map byteD) t.length none
    | _ => .bad
def q_cpy (sz : Nat) (x : Opd) (y : Opd) : AR :=
    match slCells get sz (ev y) with
    | some (src,m,_) =>
      match ev x with
      | .nils => .val (.i .i64 0)
      | .sl z l off len =>
        match get l with
        | some (.cells cs odd) =>
          if off + len * sz ≤ cs.length ∧ z = sz then .upd l (.cells (splice cs off (src.take (min m len * sz))) odd) (.i .i64 (min m len : Nat)) else .bad
        | _ => .bad
      | _ => .bad
    | none => .bad
def q_mn (xs : List Opd) : AR :=
  if xs.all (fun y => (ev y).ok) then ofO (foldD minD (xs.map ev)) else .bad

def q_mx (xs : List Opd) : AR :=
  if xs.all (fun y => (ev y).ok) then ofO (foldD maxD (xs.map ev)) else .bad

def q_clr (z : List D) (x : Opd) : AR :=
    match ev x with
    | .nils => .val (.tup [])
    | .sl y l off len =>
      if len = 0 then .val (.tup []) else
      match get l with
      | some (.cells cs odd) =>
        if off + len * z.length ≤ cs.length ∧ y = z.length then .upd l (.cells (splice cs off (List.replicate len z).flatten) odd) (.tup []) else .bad
      | _ => .bad
    | _ => .bad
def q_panic (x : Opd) : AR :=
    match ev x with
    | .ifc t d => .panic (.ifc t d)
    | _ => .bad
def q_rng (x : Opd) : AR :=
    match ev x with
    | .s t => .new (.iter t 0) (.ptr next 0)
    | _ => .bad
def q_nxt (x : Opd) : AR :=
    match ev x with
    | .ptr l 0 =>
      match get l with
      | some (.iter t pos) =>
        if pos < t.length then .upd l (.iter t (pos + (Utf8.decode ⟨t.toArray⟩ pos).2)) (.tup [.b true,.i .i64 pos,.i .i32 (Utf8.decode ⟨t.toArray⟩ pos).1])
        else .val (.tup [.b false])
      | _ => .bad
    | _ => .bad
def q_tassert (t : Nat) (z : D) (ok : Bool) (x : Opd) : AR :=
    match ev x with
    | .ifc t' d => if t' = t then .val (if ok then .tup [d,.b true] else d) else if ok then .val (.tup [z,.b false]) else .bad
    | .nili => if ok then .val (.tup [z,.b false]) else .bad
    | _ => .bad
def aopF (op : XOp) : AR :=
  match op with
  | .mv x => q_mv ev x
  | .pick c a b => q_pick ev c a b
  | .alloc z m => q_alloc next z m
  | .box x => q_box next ev x
  | .build z ps => q_build ev z ps
  | .bslice sz z ps len => q_bslice next ev sz z ps len
  | .ld agg n a => q_ld get ev agg n a
  | .st n a v => q_st get ev n a v
  | .nilchk x => q_nilchk ev x
  | .bin op x y => q_bin ev op x y
  | .eq neg te x y => q_eq get ev neg te x y
  | .un op x => q_un ev op x
  | .convI k x => q_convI ev k x
  | .convS x => q_convS ev x
  | .convBS x => q_convBS get ev x
  | .mrk x => q_mrk get ev x
  | .mkif t x => q_mkif ev t x
  | .mkfn f a c => q_mkfn ev f a c
  | .mkmap  => q_mkmap next
  | .mkslice bytes z len cap => q_mkslice next ev bytes z len cap
  | .slcS x lo hi => q_slcS ev x lo hi
  | .slc sz x lo hi => q_slc ev sz x lo hi
  | .slcA n sz x lo hi => q_slcA get ev n sz x lo hi
  | .faddr off x => q_faddr ev off x
  | .fld agg off n x => q_fld ev agg off n x
  | .iaddrA len sz x i => q_iaddrA ev len sz x i
  | .iaddr sz x i => q_iaddr ev sz x i
  | .idxA len sz agg x i => q_idxA ev len sz agg x i
  | .idxS x i => q_idxS ev x i
  | .look te z ok m k => q_look get ev te z ok m k
  | .mupd te m k v => q_mupd get ev te m k v
  | .ins te m k v => q_ins get ev te m k v
  | .ment te z m k => q_ment get ev te z m k
  | .estore m st v => q_estore get ev m st v
  | .ext x i => q_ext ev x i
  | .lenS x => q_lenS ev x
  | .lenA n => q_lenA n
  | .lenL x => q_lenL ev x
  | .lenM x => q_lenM get ev x
  | .app sz bytes mk x y => q_app get next ev sz bytes mk x y
  | .appS mk x y => q_appS get next ev mk x y
  | .cpy sz x y => q_cpy get ev sz x y
  | .mn xs => q_mn ev xs
  | .mx xs => q_mx ev xs
  | .clr z x => q_clr get ev z x
  | .panic x => q_panic ev x
  | .rng x => q_rng next ev x
  | .nxt x => q_nxt get ev x
  | .tassert t z ok x => q_tassert ev t z ok x
  | _ => .bad

theorem aopF_eq (op : XOp) : aopF get next ev op = aop get next ev op := by cases op <;> rfl
end
end Go.Abs
end
noncomputable section
namespace Go.Abs
open Go

structure S where
  t : Tr AObj
  n : Nat

def S.h (s : S) : AHeap := { get := s.t.get,next := s.n }

def putT (T : Tr D) (x : Option Nat) (d : D) : Tr D :=
  match x with
  | some x => T.set x (some d)
  | none => T

theorem tm_put (T : Tr D) (x : Option Nat) (d : D) : tm (putT T x d) = setT (tm T) x d := by
  cases x with
  | none => rfl
  | some x =>
    funext n
    simp only [tm,putT,setT,Tr.get_set]
    split <;> rfl

def AR.nx (r : AR) (n : Nat) : Nat := if r.quiet then n else n + 1

def AR.onS (r : AR) (t : Tr AObj) (id nx : Nat) : Option (D × S) :=
  match r with
  | .val d => some (d,⟨t,nx⟩)
  | .upd l o d => some (d,⟨t.set l (some o),nx⟩)
  | .new o d => some (d,⟨t.set id (some o),nx⟩)
  | .app l o d => some (d,⟨(t.set l none).set id (some o),nx⟩)
  | _ => none

theorem onS_spec {r : AR} {t : Tr AObj} {id nx : Nat} {d : D} {s' : S} (h : r.onS t id nx = some (d,s')) (H : AHeap) (hH : H.get = t.get) : r.on = true ∧ r.d = d ∧ s'.h = r.heap H id nx ∧ s'.n = nx := by
  cases r <;> simp only [AR.onS,Option.some.injEq,Prod.mk.injEq,reduceCtorEq] at h
  all_goals obtain ⟨rfl,rfl⟩ := h
  all_goals refine ⟨rfl,rfl,?_,rfl⟩
  · simp only [S.h,AR.heap,hH]
  all_goals
    simp only [S.h,AR.heap,hH]
    refine AHeap.eq (fun m => ?_) rfl
    simp only [Tr.get_set]

def AR.onQ (r : AR) (t : Tr AObj) (n : Nat) : Option (D × S) :=
  match r with
  | .val d => some (d,⟨t,n⟩)
  | .upd l o d => some (d,⟨t.set l (some o),n⟩)
  | .new o d => some (d,⟨t.set n (some o),n + 1⟩)
  | .app l o d => some (d,⟨(t.set l none).set n (some o),n + 1⟩)
  | _ => none

theorem onQ_eq (r : AR) (t : Tr AObj) (n : Nat) : r.onQ t n = r.onS t n (r.nx n) := by cases r <;> rfl

abbrev CallF := FuncId → List D → S → Option (D × S)

def CallOk (P : Program) (Γ : Nat → D) (call : CallF) : Prop := ∀ f args s d s',call f args s = some (d,s') → CX P Γ f args s.h d s'.h

def callOf : XOp → Option (Opd × List Opd)
  | .call f args => some (f,args)
  | _ => none

theorem callOf_eq {x : XOp} {f : Opd} {args : List Opd} (h : callOf x = some (f,args)) : x = .call f args := by
  cases x <;> simp [callOf] at h
  obtain ⟨rfl,rfl⟩ := h; rfl

def stepS (call : CallF) (Γ : Nat → D) (T : Tr D) (s : S) (x : XOp) : Option (D × S) :=
  match callOf x with
  | some (fo,args) =>
    match evT Γ (tm T) fo with
    | .fn (.func f) first caps => if (args.all fun y => (evT Γ (tm T) y).ok) = true then call f (first ++ args.map (evT Γ (tm T)) ++ caps) s else none
    | _ => none
  | none => (aop s.t.get s.n (evT Γ (tm T)) x).onS s.t s.n (s.n + 1)

def wfOp (N : Nat) (o : XOper) : Bool :=
  (match o.dst with | some y => Nat.blt y N | none => true) && (match o.guard with | some (j,_) => Nat.blt j N | none => true)

theorem wfOp_spec {N : Nat} {o : XOper} (h : wfOp N o = true) : (∀ y,o.dst = some y → y < N) ∧ ∀ j x,o.guard = some (j,x) → j < N := by
  unfold wfOp at h
  rw [Bool.and_eq_true] at h
  refine ⟨fun y hy => ?_,fun j x hj => ?_⟩
  · rw [hy] at h; simpa [Nat.blt_eq] using h.1
  · rw [hj] at h; simpa [Nat.blt_eq] using h.2

section
variable {P : Program} {Γ : Nat → D} {N : Nat} {call : CallF} {ro : Option Nat}

theorem stepS_call {T : Tr D} {s s' : S} {d : D} {fo : Opd} {args : List Opd} (h : stepS call Γ T s (.call fo args) = some (d,s')) :
    ∃ f first caps,evT Γ (tm T) fo = .fn (.func f) first caps ∧ (args.all fun y => (evT Γ (tm T) y).ok) = true ∧ call f (first ++ args.map (evT Γ (tm T)) ++ caps) s = some (d,s') := by
  simp only [stepS,callOf] at h
  split at h
  · rename_i f first caps hf
    split at h
    · rename_i hok
      exact ⟨f,first,caps,hf,hok,h⟩
    · simp at h
  · simp at h

theorem stepS_op {T : Tr D} {s : S} {x : XOp} (hx : callOf x = none) : stepS call Γ T s x = (aop s.t.get s.n (evT Γ (tm T)) x).onS s.t s.n (s.n + 1) := by
  simp only [stepS,hx]

end
end Go.Abs
end
noncomputable section
namespace Go.Abs
open Go

def XOp.mem : XOp → Bool
  | .ld .. | .convBS .. | .mrk .. | .slcA .. | .look .. | .lenM .. => true
  | .eq _ te _ _ => (match te with | .leaf .p => true | .leaf _ => false | _ => true)
  | o => o.writes || (match o with | .ins .. => true | _ => false)

theorem leafEq_nomem {get get' : Nat → Option AObj} {k : Leaf} (hk : k ≠ .p) (a b : D) : leafEq get k a b = leafEq get' k a b := by
  cases k with
  | p => exact absurd rfl hk
  | ifc sf => cases sf <;> cases a <;> first | rfl | (cases b <;> rfl)
  | sl =>
    cases a with
    | fz sz es => cases es <;> cases b <;> rfl
    | nils => cases b with
      | fz sz es => cases es <;> rfl
      | _ => rfl
    | _ => first | rfl | (cases b <;> rfl)
  | _ => cases a <;> first | rfl | (cases b <;> rfl)

theorem aop_nomem {get get' : Nat → Option AObj} {next : Nat} {ev : Opd → D} {x : XOp} (h : x.mem = false) : aop get next ev x = aop get' next ev x := by
  cases x <;> first | rfl | (simp [XOp.mem,XOp.writes] at h; done) | skip
  rename_i neg te x y
  cases te with
  | no => rfl
  | cells n l => simp [XOp.mem] at h
  | leaf k =>
    have : eqD get (.leaf k) (ev x) (ev y) = eqD get' (.leaf k) (ev x) (ev y) := by
      show leafEq get k (ev x) (ev y) = leafEq get' k (ev x) (ev y)
      refine leafEq_nomem ?_ _ _
      rintro rfl
      simp [XOp.mem] at h
    simp only [aop,this]

theorem aop_mrk {get : Nat → Option AObj} {next : Nat} {ev : Opd → D} {x : Opd} {l : Nat} {o : AObj} {d : D} (h : aop get next ev (.mrk x) = .upd l o d) : get l = some o := by
  simp only [aop] at h
  split at h
  · split at h
    · rename_i hg
      split at h
      · cases h
      · cases h; exact hg
    · cases h
  · cases h

def listEq {α : Type} (f : α → α → Bool) : List α → List α → Bool
  | [],[] => true
  | a :: aa,b :: bs => f a b && listEq f aa bs
  | _,_ => false

theorem listEq_eq {α : Type} {f : α → α → Bool} (hf : ∀ a b,f a b = true → a = b) : ∀ {aa bs : List α},listEq f aa bs = true → aa = bs
  | [],[],_ => rfl
  | [],_ :: _,h => by simp [listEq] at h
  | _ :: _,[],h => by simp [listEq] at h
  | a :: aa,b :: bs,h => by
    simp only [listEq,Bool.and_eq_true] at h
    rw [hf a b h.1,listEq_eq hf h.2]

def kindEq : IntKind → IntKind → Bool := fun a b => decide (a = b)

def D.eqb : Nat → D → D → Bool
  | 0,_,_ => false
  | n + 1,u,v =>
    match u,v with
    | .b x,.b y => x == y
    | .i k x,.i k' y => kindEq k k' && decide (x = y)
    | .s x,.s y => listEq (fun c e => decide (c = e)) x y
    | .nilp,.nilp | .nils,.nils | .nilm,.nilm | .nilf,.nilf | .nili,.nili => true
    | .ptr l o,.ptr l' o' => Nat.beq l l' && Nat.beq o o'
    | .fptr cs,.fptr ds => listEq (D.eqb n) cs ds
    | .sl z l o m,.sl z' l' o' m' => Nat.beq z z' && Nat.beq l l' && Nat.beq o o' && Nat.beq m m'
    | .fz z cs,.fz z' ds => Nat.beq z z' && listEq (D.eqb n) cs ds
    | .mp l,.mp l' => Nat.beq l l'
    | .fn (.func f) aa c,.fn (.func f') as' c' => Nat.beq f f' && listEq (D.eqb n) aa as' && listEq (D.eqb n) c c'
    | .yld l,.yld l' => Nat.beq l l'
    | .ifc t d,.ifc t' d' => Nat.beq t t' && D.eqb n d d'
    | .agg cs,.agg ds => listEq (D.eqb n) cs ds
    | .tup cs,.tup ds => listEq (D.eqb n) cs ds
    | _,_ => false

theorem D.eqb_eq : ∀ (n : Nat) {u v : D},D.eqb n u v = true → u = v
  | 0,u,v,h => by simp [D.eqb] at h
  | n + 1,u,v,h => by
    unfold D.eqb at h
    split at h
    all_goals try simp only [Bool.and_eq_true,beq_iff_eq,decide_eq_true_eq,kindEq,Nat.beq_eq,reduceCtorEq] at h
    all_goals first
      | rfl
      | (subst h; rfl)
      | (rw [listEq_eq (fun _ _ => of_decide_eq_true) h])
      | (rw [listEq_eq (fun _ _ => D.eqb_eq n) h])
      | (rw [h.1,h.2])
      | (rw [h.1,listEq_eq (fun _ _ => D.eqb_eq n) h.2])
      | (rw [h.1,D.eqb_eq n h.2])
      | (rw [h.1.1.1,h.1.1.2,h.1.2,h.2])
      | (rw [h.1.1,listEq_eq (fun _ _ => D.eqb_eq n) h.1.2,listEq_eq (fun _ _ => D.eqb_eq n) h.2])

end Go.Abs
end
noncomputable section
namespace Go.Abs
open Go

structure Lit where
  m : Nat
  i : Nat
  te : TEq
  key : D
  val : D

structure FL where
  i : Nat
  o : XOp
  T : Tr D
  p : PlanE
  d : D

structure Out where
  ds : List D
  obs : List (Option AObj)
  gs : List (S × List Nat)
  lits : List Lit
  fls : List FL
  T : Tr D
  s : S
  ab : List Nat

structure One where
  d : D
  ob : Option AObj
  lit : Option Lit
  fl : Bool
  s : S
  nw : List (Nat × AObj)
  ab : List Nat

def isMk : XOp → Bool
  | .mkmap => true
  | _ => false

def isMrk : XOp → Bool
  | .mrk _ => true
  | _ => false

def insOf : XOp → Option (TEq × Opd × Opd × Opd)
  | .ins te m k v => some (te,m,k,v)
  | _ => none

theorem insOf_eq {x : XOp} {te : TEq} {m k v : Opd} (h : insOf x = some (te,m,k,v)) : x = .ins te m k v := by
  cases x <;> simp [insOf] at h
  obtain ⟨rfl,rfl,rfl,rfl⟩ := h; rfl

theorem isMrk_eq {x : XOp} (h : isMrk x = true) : ∃ y,x = .mrk y := by
  cases x <;> simp [isMrk] at h
  exact ⟨_,rfl⟩

theorem isMk_eq {x : XOp} (h : isMk x = true) : x = .mkmap := by
  cases x <;> simp [isMk] at h
  rfl

def see (t : Tr AObj) (base : Nat) (pre : List Nat) : List (Nat × AObj) → Nat → Option AObj
  | [],l => t.get l
  | (j,o) :: r,l => if Nat.beq (base + j) l then (if pre.contains j then some o else none) else see t base pre r l

def absorbT (base : Nat) (pre : List Nat) : List (Nat × AObj) → Tr AObj → Tr AObj
  | [],t => t
  | (j,o) :: r,t => if pre.contains j then (absorbT base pre r t).set (base + j) (some o) else absorbT base pre r t

def one (call : CallF) (Γ : Nat → D) (base : Nat) (o : XOper) (p : PlanE) (i : Nat) (T : Tr D) (s : S) (nw : List (Nat × AObj)) (ab : List Nat) : Option One :=
  match guardX (tm T) o.guard with
  | none => none
  | some false => some ⟨.tup [],none,none,false,s,nw,ab⟩
  | some true =>
    if o.op.writes then
      match stepS call Γ T ⟨absorbT base p.pre nw s.t,s.n⟩ o.op with
      | some (d,s') => if Nat.ble s.n s'.n then some ⟨d,none,none,false,s',nw.filter (fun q => !p.pre.contains q.1),(nw.filter fun q => p.pre.contains q.1).map (·.1) ++ ab⟩ else none
      | none => none
    else
      match insOf o.op with
      | some (te,m,k,v) =>
        match evT Γ (tm T) m with
        | .mp l => if base ≤ l ∧ p.pre.contains (l - base) = true ∧ (evT Γ (tm T) k).val = true ∧ (evT Γ (tm T) v).val = true ∧ keyOk te (evT Γ (tm T) k) = true then some ⟨.tup [],none,some ⟨l - base,i,te,evT Γ (tm T) k,evT Γ (tm T) v⟩,false,s,nw,ab⟩ else none
        | _ => none
      | none =>
        match aop (if o.op.mem then see s.t base p.pre nw else s.t.get) (base + i) (evT Γ (tm T)) o.op with
        | .val d => some ⟨d,none,none,o.op.mem && !Nat.beq p.lo p.hi,s,nw,ab⟩
        | .upd _ _ d => if isMrk o.op then some ⟨d,none,none,!Nat.beq p.lo p.hi,s,nw,ab⟩ else none
        | .new o' d => if o.op.mem then none else some ⟨d,some o',none,false,s,if isMk o.op then nw else (i,o') :: nw,ab⟩
        | _ => none

def Out.cons (q : One) (o : XOper) (p : PlanE) (i : Nat) (T : Tr D) (R : Out) : Out :=
  { ds := q.d :: R.ds,obs := q.ob :: R.obs,gs := if o.op.writes then (q.s,q.ab) :: R.gs else R.gs,lits := (match q.lit with | some x => x :: R.lits | none => R.lits),
    fls := if q.fl then ⟨i,o.op,T,p,q.d⟩ :: R.fls else R.fls,T := R.T,s := R.s,ab := R.ab }

def pass (call : CallF) (Γ : Nat → D) (base : Nat) : List XOper → List PlanE → Nat → Tr D → S → List (Nat × AObj) → List Nat → Option Out
  | [],_,_,T,s,_,ab => some ⟨[],[],[],[],[],T,s,ab⟩
  | o :: r,pl,i,T,s,nw,ab =>
    match one call Γ base o (pl.headD default) i T s nw ab with
    | none => none
    | some q =>
      match pass call Γ base r pl.tail (i + 1) (putT T o.dst q.d) q.s q.nw q.ab with
      | none => none
      | some R => some (R.cons q o (pl.headD default) i T)

/-! ### What the lists say -/

def litOf (lits : List Lit) (j : Nat) : List (Nat × Entry) := (lits.filter fun x => Nat.beq x.m j).map fun x => (x.i,(x.key,x.val,none))

def obOf (lits : List Lit) (obs : List (Option AObj)) (j : Nat) : Option AObj :=
  match obs.getD j none with
  | none => none
  | some o =>
    match litOf lits j with
    | [] => some o
    | l => some (.map (l.map (·.2)) none)

section
variable {t : Tr AObj} {base : Nat} {pre : List Nat}

theorem see_hit : ∀ {nw : List (Nat × AObj)} {j : Nat} {o : AObj},(j,o) ∈ nw → (∀ o',(j,o') ∈ nw → o' = o) → see t base pre nw (base + j) = if pre.contains j then some o else none
  | [],j,o,h,_ => by simp at h
  | (j',o') :: r,j,o,h,hu => by
    simp only [see]
    by_cases hj : Nat.beq (base + j') (base + j) = true
    · rw [if_pos hj]
      have : base + j' = base + j := Nat.eq_of_beq_eq_true hj
      have hjj : j' = j := by omega
      subst hjj
      rw [hu o' (by simp)]
    · rw [if_neg hj]
      have hne : j' ≠ j := fun e => hj (by rw [e]; exact Nat.beq_refl _)
      refine see_hit ?_ fun o'' h2 => hu o'' (by simp [h2])
      rcases List.mem_cons.1 h with h2 | h2
      · cases h2; exact absurd rfl hne
      · exact h2

theorem see_miss : ∀ {nw : List (Nat × AObj)} {l : Nat},(∀ q ∈ nw,base + q.1 ≠ l) → see t base pre nw l = t.get l
  | [],l,_ => rfl
  | (j',o') :: r,l,hu => by
    simp only [see]
    rw [if_neg (fun h => hu (j',o') (by simp) (Nat.eq_of_beq_eq_true h))]
    exact see_miss fun q hq => hu q (by simp [hq])

theorem absorb_hit : ∀ {nw : List (Nat × AObj)} {j : Nat} {o : AObj},(j,o) ∈ nw → (∀ o',(j,o') ∈ nw → o' = o) → pre.contains j = true → (absorbT base pre nw t).get (base + j) = some o
  | [],j,o,h,_,_ => by simp at h
  | (j',o') :: r,j,o,h,hu,hp => by
    simp only [absorbT]
    by_cases hj : j' = j
    · subst hj
      rw [if_pos hp,Tr.get_set,if_pos rfl,hu o' (by simp)]
    · have ih : (absorbT base pre r t).get (base + j) = some o := by
        refine absorb_hit ?_ (fun o'' h2 => hu o'' (by simp [h2])) hp
        rcases List.mem_cons.1 h with h2 | h2
        · cases h2; exact absurd rfl hj
        · exact h2
      split
      · rw [Tr.get_set,if_neg (by omega)]; exact ih
      · exact ih

theorem absorb_miss : ∀ {nw : List (Nat × AObj)} {l : Nat},(∀ q ∈ nw,pre.contains q.1 = true → base + q.1 ≠ l) → (absorbT base pre nw t).get l = t.get l
  | [],l,_ => rfl
  | (j',o') :: r,l,hu => by
    simp only [absorbT]
    have ih : (absorbT base pre r t).get l = t.get l := absorb_miss fun q hq => hu q (by simp [hq])
    split
    · rename_i hp
      rw [Tr.get_set,if_neg (fun e => hu (j',o') (by simp) hp e.symm)]; exact ih
    · exact ih

end

theorem drop_cons {α : Type} {L l : List α} {a : α} {i : Nat} (h : a :: l = L.drop i) : i < L.length ∧ L[i]? = some a ∧ l = L.drop (i + 1) ∧ ∀ d,L.getD i d = a := by
  have hi : i < L.length := by
    by_cases hi : i < L.length
    · exact hi
    · rw [List.drop_eq_nil_of_le (by omega)] at h; cases h
  rw [List.drop_eq_getElem_cons hi] at h
  simp only [List.cons.injEq] at h
  exact ⟨hi,by rw [List.getElem?_eq_getElem hi,h.1],h.2,fun d => by simp [hi,h.1]⟩

end Go.Abs
end
noncomputable section
namespace Go.Abs
open Go

theorem kS_all (W : Nat → Bool) (i : Nat) : kS W (fun _ => true) (i + 1) = kS W (fun _ => true) i + (if W i then 1 else 0) := by
  simp [kS]

structure Told (xs : List XOper) (plan : List PlanE) (n base : Nat) (G : Nat → AHeap) (A : Nat → Nat → Bool) (abk : Nat → List Nat) (ob : Nat → Option AObj) (lits : List Lit) : Prop where
  hA : ∀ k j,A k j = ((ob j).isNone || (abk k).contains j)
  mask : ∀ k j,(ob j).isSome = true → (abk k).contains j = false → (G k).get (base + j) = none
  next : ∀ k,base + n ≤ (G k).next
  obn : ∀ j,(ob j).isSome = true → j < n
  pre : ∀ i,i < n → ∀ j ∈ preOf plan i,j < i
  mks : ∀ j,litOf lits j ≠ [] → isMk (opOf xs j).op = true

def pmX (xs : List XOper) (plan : List PlanE) (i j : Nat) : Bool := (preOf plan i).contains j && !isMk (opOf xs j).op

def NWI (xs : List XOper) (A : Nat → Nat → Bool) (ob : Nat → Option AObj) (i k : Nat) (nw : List (Nat × AObj)) : Prop :=
  ∀ j o,(j,o) ∈ nw ↔ (j < i ∧ ob j = some o ∧ A k j = false ∧ isMk (opOf xs j).op = false)

section
variable {xs : List XOper} {plan : List PlanE} {n base : Nat} {G : Nat → AHeap} {A : Nat → Nat → Bool} {abk : Nat → List Nat} {ob : Nat → Option AObj} {lits : List Lit}

theorem Hmin_hit (F : Told xs plan n base G A abk ob lits) {k i j : Nat} {o : AObj} (ho : ob j = some o) (hA : A k j = false) : (Hmin n base G A k (pmX xs plan i) ob).get (base + j) = if pmX xs plan i j then some o else none := by
  have hj := F.obn j (by rw [ho]; rfl)
  have hm : msk n base A k (base + j) = true := by simp [msk,hj,hA]
  simp only [Hmin]
  rw [if_pos hm,Nat.add_sub_cancel_left,ho]

theorem Hmin_miss {k i l : Nat} (h : ∀ j,base + j = l → j < n → A k j = true) : (Hmin n base G A k (pmX xs plan i) ob).get l = (G k).get l := by
  simp only [Hmin]
  rw [if_neg]
  intro hm
  simp only [msk,Bool.and_eq_true,decide_eq_true_eq,Bool.not_eq_true'] at hm
  have := h (l - base) (by omega) (by omega)
  rw [hm.2] at this; cases this

theorem sees (F : Told xs plan n base G A abk ob lits) {k i : Nat} (hi : i < n) {s : S} (hG : G k = s.h) {nw : List (Nat × AObj)} (H : NWI xs A ob i k nw) (f : Nat → Option AObj)
    (hit : ∀ j o,(j,o) ∈ nw → f (base + j) = if (preOf plan i).contains j then some o else none) (miss : ∀ l,(∀ q ∈ nw,base + q.1 ≠ l) → f l = s.t.get l) (l : Nat) :
    f l = (Hmin n base G A k (pmX xs plan i) ob).get l := by
  by_cases hl : ∃ j,base + j = l ∧ A k j = false ∧ j < n
  · obtain ⟨j,rfl,hA,hj⟩ := hl
    cases ho : ob j with
    | none => rw [F.hA,ho] at hA; simp at hA
    | some o =>
      rw [Hmin_hit F ho hA]
      by_cases hm : isMk (opOf xs j).op = false ∧ j < i
      · rw [hit j o ((H j o).2 ⟨hm.2,ho,hA,hm.1⟩)]
        simp [pmX,hm.1]
      · have e1 : pmX xs plan i j = false := by
          unfold pmX
          by_cases h1 : isMk (opOf xs j).op = false
          · have h2 : ¬ j < i := fun h => hm ⟨h1,h⟩
            have : (preOf plan i).contains j = false := by
              cases hc : (preOf plan i).contains j with
              | false => rfl
              | true => exact absurd (F.pre i hi j (by simpa [List.contains_iff_mem] using hc)) h2
            rw [this]; rfl
          · simp only [Bool.not_eq_false] at h1
            rw [h1]; simp
        rw [e1]
        simp only [Bool.false_eq_true,if_false]
        rw [miss _ fun q hq e => ?_]
        · have := F.mask k j (by rw [ho]; rfl) (by rw [F.hA,ho] at hA; simpa using hA)
          rw [hG] at this; exact this
        · obtain ⟨j',o'⟩ := q
          have := (H j' o').1 hq
          have hjj : j' = j := by simp only at e; omega
          subst hjj
          exact hm ⟨this.2.2.2,this.1⟩
  · have h1 : ∀ j,base + j = l → j < n → A k j = true := fun j hj hjn => by
      cases hA : A k j with
      | true => rfl
      | false => exact absurd ⟨j,hj,hA,hjn⟩ hl
    rw [Hmin_miss h1,hG,miss l]
    · rfl
    · intro q hq e
      obtain ⟨j',o'⟩ := q
      have := (H j' o').1 hq
      have h2 := h1 j' e (by omega)
      rw [this.2.2.1] at h2; cases h2

theorem see_eq (F : Told xs plan n base G A abk ob lits) {k i : Nat} (hi : i < n) {s : S} (hG : G k = s.h) {nw : List (Nat × AObj)} (H : NWI xs A ob i k nw) : see s.t base (preOf plan i) nw = (Hmin n base G A k (pmX xs plan i) ob).get :=
  funext fun l => sees F hi hG H _ (fun j o hj => see_hit hj fun o' ho' => by
    have h1 := ((H j o).1 hj).2.1
    have h2 := ((H j o').1 ho').2.1
    rw [h1] at h2; exact (Option.some.inj h2).symm) (fun l hl => see_miss hl) l

theorem absorb_eq (F : Told xs plan n base G A abk ob lits) {k i : Nat} (hi : i < n) {s : S} (hG : G k = s.h) {nw : List (Nat × AObj)} (H : NWI xs A ob i k nw) : (⟨absorbT base (preOf plan i) nw s.t,s.n⟩ : S).h = Hmin n base G A k (pmX xs plan i) ob := by
  refine AHeap.eq (fun l => sees F hi hG H _ (fun j o hj => ?_) (fun l hl => absorb_miss fun q hq _ => hl q hq) l) (by rw [show (Hmin n base G A k (pmX xs plan i) ob).next = (G k).next from rfl,hG]; rfl)
  have h0 := (H j o).1 hj
  by_cases hp : (preOf plan i).contains j = true
  · rw [if_pos hp]
    refine absorb_hit hj (fun o' ho' => ?_) hp
    have h2 := ((H j o').1 ho').2.1
    rw [h0.2.1] at h2; exact (Option.some.inj h2).symm
  · rw [if_neg hp,absorb_miss fun q hq hq2 e => ?_]
    · have h3 := h0.2.2.1
      rw [F.hA,h0.2.1] at h3
      have := F.mask k j (by rw [h0.2.1]; rfl) (by simpa using h3)
      rw [hG] at this; exact this
    · have : q.1 = j := by omega
      rw [this] at hq2; exact hp hq2

end
end Go.Abs
end
noncomputable section
namespace Go.Abs
open Go

theorem kS_pre (W : Nat → Bool) (i m : Nat) (h : i ≤ m) : kS W (fun j => decide (j < i)) m = kS W (fun _ => true) i := by
  have h1 : kS W (fun j => decide (j < i)) i = kS W (fun _ => true) i := kS_congr i fun j hj _ => by simp [hj]
  rw [← h1]
  induction h with
  | refl => rfl
  | @step m hm ih =>
    have : i ≤ m := hm
    simp only [kS,ih]
    simp [show ¬ m < i by omega]

section
variable {xs : List XOper} {after : List (List Nat)} {plan : List PlanE}

theorem PlanP.lt_of (p : PlanP xs after plan) : ∀ i,i < xs.length → ∀ j ∈ preOf plan i,j < i := by
  intro i
  induction i using Nat.strongRecOn with
  | _ i ih =>
    intro hi j hj
    obtain ⟨e,he,h1⟩ := p.s1 i hi j hj
    have hei := p.s2 i hi e he
    rcases h1 with rfl | h1
    · exact hei
    · exact Nat.lt_trans (ih e hei (by omega) j h1) hei

theorem PlanP.at_rank (p : PlanP xs after plan) {i : Nat} (hi : i < xs.length) : (plan.getD i default).lo ≤ rankW xs i ∧ rankW xs i ≤ (plan.getD i default).hi := by
  have key := plan_bounds (S := fun j => decide (j < i)) p ?_ hi (by simp) (fun j hj => by simpa using p.lt_of i hi j hj)
  · rwa [kS_pre _ i _ (by omega),← rankW_kS xs i (by omega)] at key
  · intro j hj l hl
    simp only [decide_eq_true_eq] at hj ⊢
    have := p.lt_of j (by omega) l hl
    omega
end

section
variable {P : Program} {Γ : Nat → D} {N : Nat} {call : CallF}
variable {xs : List XOper} {after : List (List Nat)} {plan : List PlanE} {base : Nat} {G : Nat → AHeap} {A : Nat → Nat → Bool} {abk : Nat → List Nat} {obs : List (Option AObj)} {lits : List Lit} {T0 : Nat → D} {dF : Nat → D}

def CC (P : Program) (Γ : Nat → D) (xs : List XOper) (plan : List PlanE) (base : Nat) (G : Nat → AHeap) (A : Nat → Nat → Bool) (obs : List (Option AObj)) (lits : List Lit) (T0 dF : Nat → D) (i k : Nat) : Prop :=
  CondL P Γ xs (TSn T0 (fun j => (opOf xs j).dst) dF (fun _ => true) i) xs.length base G A (pmX xs plan i) (obOf lits obs) (litOf lits) (dF i) k i ∧ (∀ j,∀ q ∈ litOf lits j,q.1 ≠ i) ∨
  CondI P Γ xs (TSn T0 (fun j => (opOf xs j).dst) dF (fun _ => true) i) xs.length base G A (preOf plan i) (obOf lits obs) (litOf lits) (dF i) k i

def FLok (Γ : Nat → D) (xs : List XOper) (plan : List PlanE) (base : Nat) (G : Nat → AHeap) (A : Nat → Nat → Bool) (ob : Nat → Option AObj) (f : FL) : Prop :=
  ∀ k,f.p.lo ≤ k → k ≤ f.p.hi → aop (Hmin xs.length base G A k (pmX xs plan f.i) ob).get (base + f.i) (evT Γ (tm f.T)) f.o = .val f.d ∨
    (isMrk f.o = true ∧ ∃ l o,aop (Hmin xs.length base G A k (pmX xs plan f.i) ob).get (base + f.i) (evT Γ (tm f.T)) f.o = .upd l o f.d)

structure LitsOk (xs : List XOper) (plan : List PlanE) (abk : Nat → List Nat) (ob : Nat → Option AObj) (lits : List Lit) : Prop where
  some : ∀ x ∈ lits,(ob x.m).isSome = true
  ab : ∀ x ∈ lits,∀ k,(abk k).contains x.m = false
  apart : ∀ l1 x l2,lits = l1 ++ x :: l2 → ∀ y ∈ l1 ++ l2,y.i ≠ x.i ∧ (y.m = x.m → ∀ get : Nat → Option AObj,eqD get x.te x.key y.key = .some false)

theorem obOf_none {j : Nat} (h : obs.getD j none = none) : obOf lits obs j = none := by unfold obOf; rw [h]

theorem obOf_isSome {j : Nat} {o : AObj} (h : obs.getD j none = some o) : (obOf lits obs j).isSome = true := by
  unfold obOf; rw [h]; simp only; split <;> rfl

theorem obOf_plain {j : Nat} {o : AObj} (h : obs.getD j none = some o) (hl : litOf lits j = []) : obOf lits obs j = some o := by
  unfold obOf; rw [h,hl]

theorem obOf_lit {j : Nat} (h : (obOf lits obs j).isSome = true) (hl : litOf lits j ≠ []) : obOf lits obs j = some (.map ((litOf lits j).map (·.2)) none) := by
  unfold obOf at h ⊢
  cases ho : obs.getD j none with
  | none => rw [ho] at h; simp at h
  | some o =>
    revert hl
    cases litOf lits j with
    | nil => intro hl; exact absurd rfl hl
    | cons a l => intro _; rfl

theorem mem_litOf {j : Nat} {q : Nat × Entry} (h : q ∈ litOf lits j) : ∃ x ∈ lits,x.m = j ∧ q = (x.i,(x.key,x.val,none)) := by
  obtain ⟨x,hx,rfl⟩ := List.mem_map.1 h
  obtain ⟨h1,h2⟩ := List.mem_filter.1 hx
  exact ⟨x,h1,Nat.eq_of_beq_eq_true h2,rfl⟩

theorem one_sound (hc : CallOk P Γ call) (p : PlanP xs after plan) (F : Told xs plan xs.length base G A abk (obOf lits obs) lits) (LO : LitsOk xs plan abk (obOf lits obs) lits)
    (hAi : ∀ j k,(obOf lits obs j).isSome = true → k ≤ (plan.getD j default).hi → (abk k).contains j = false)
    {i k : Nat} (hi : i < xs.length) {T : Tr D} {s : S} {nw : List (Nat × AObj)} {ab : List Nat} {q : One} (h1 : one call Γ base (opOf xs i) (plan.getD i default) i T s nw ab = some q)
    (hT : tm T = TSn T0 (fun j => (opOf xs j).dst) dF (fun _ => true) i) (hG : G k = s.h) (hab : abk k = ab) (hk : k = rankW xs i) (H : NWI xs A (obOf lits obs) i k nw)
    (hd : dF i = q.d) (hob : obs.getD i none = q.ob) (hw : wOf xs i = true → G (k + 1) = q.s.h ∧ abk (k + 1) = q.ab) (hl : ∀ x ∈ lits,x.i = i → q.lit = some x) (hl2 : ∀ x,q.lit = some x → x ∈ lits)
    (hfl : q.fl = true → FLok Γ xs plan base G A (obOf lits obs) ⟨i,(opOf xs i).op,T,plan.getD i default,q.d⟩) :
    (∀ k',(plan.getD i default).lo ≤ k' → k' ≤ (plan.getD i default).hi → CC P Γ xs plan base G A obs lits T0 dF i k') ∧
      NWI xs A (obOf lits obs) (i + 1) (k + if wOf xs i then 1 else 0) q.nw ∧ (wOf xs i = false → q.s = s ∧ q.ab = ab) := by
  obtain ⟨hb1,hb2⟩ := p.at_rank hi
  have hwk : wOf xs i = true → ∀ k',(plan.getD i default).lo ≤ k' → k' ≤ (plan.getD i default).hi → k' = k := fun hw' k' a b => by
    obtain ⟨e1,e2,_⟩ := p.s4 i hi hw'
    omega
  have nolit : q.lit = none → ∀ j,∀ r ∈ litOf lits j,r.1 ≠ i := fun h0 j r hr e => by
    obtain ⟨x,hx,_,rfl⟩ := mem_litOf hr
    have := hl x hx e
    rw [h0] at this; cases this
  -- nothing new is made
  have same : obOf lits obs i = none → NWI xs A (obOf lits obs) (i + 1) k nw := fun h0 j o => by
    rw [H j o]
    constructor
    · rintro ⟨a,b⟩; exact ⟨by omega,b⟩
    · rintro ⟨a,b,c⟩
      refine ⟨?_,b,c⟩
      rcases Nat.lt_succ_iff_lt_or_eq.1 a with h2 | h2
      · exact h2
      · subst h2; rw [h0] at b; cases b
  have hsee : see s.t base (plan.getD i default).pre nw = (Hmin xs.length base G A k (pmX xs plan i) (obOf lits obs)).get := see_eq F hi hG H
  have habs : (⟨absorbT base (plan.getD i default).pre nw s.t,s.n⟩ : S).h = Hmin xs.length base G A k (pmX xs plan i) (obOf lits obs) := absorb_eq F hi hG H
  unfold one at h1
  rw [hT] at h1
  split at h1
  · cases h1
  · -- skipped
    rename_i hg
    simp only [Option.some.injEq] at h1
    subst h1
    have ho : obOf lits obs i = none := obOf_none hob
    refine ⟨fun k' a b => .inl ⟨.skip hg hd ho fun hw' => ?_,nolit rfl⟩,?_,fun _ => ⟨rfl,rfl⟩⟩
    · have := hwk hw' k' a b
      subst this
      obtain ⟨e1,e2⟩ := hw hw'
      exact ⟨by rw [e1,hG],fun j => by rw [F.hA,F.hA,e2,hab]⟩
    · simp only
      cases hw' : wOf xs i with
      | false => simpa using same ho
      | true =>
        simp only [if_true]
        obtain ⟨e1,e2⟩ := hw hw'
        intro j o
        rw [same ho j o,F.hA,F.hA,e2,hab]
  · rename_i hg
    split at h1
    · -- a writer
      rename_i hw'
      have hw'' : wOf xs i = true := hw'
      split at h1
      · rename_i d s' hstep
        split at h1
        · simp only [Option.some.injEq] at h1
          subst h1
          have ho : obOf lits obs i = none := obOf_none hob
          obtain ⟨e1,e2⟩ := hw hw''
          simp only at e1 e2 hd
          have hAk : ∀ j,A (k + 1) j = (A k j || (pmX xs plan i j && (obOf lits obs j).isSome)) := by
            intro j
            rw [F.hA,F.hA,e2,hab]
            cases hoj : obOf lits obs j with
            | none => simp
            | some o =>
              simp only [Option.isNone_some,Bool.false_or,Option.isSome_some,Bool.and_true]
              cases habj : ab.contains j with
              | true => simp only [Bool.true_or]; rw [List.contains_iff_mem]; rw [List.contains_iff_mem] at habj; exact List.mem_append_right _ habj
              | false =>
                simp only [Bool.false_or]
                have hAj : A k j = false := by rw [F.hA,hab,habj,hoj]; rfl
                have hmem := H j o
                cases hp : pmX xs plan i j with
                | true =>
                  simp only [pmX,Bool.and_eq_true,Bool.not_eq_true'] at hp
                  rw [List.contains_iff_mem]
                  refine List.mem_append_left _ (List.mem_map.2 ⟨(j,o),List.mem_filter.2 ⟨hmem.2 ⟨F.pre i hi j (by simpa [List.contains_iff_mem] using hp.1),hoj,hAj,hp.2⟩,hp.1⟩,rfl⟩)
                | false =>
                  have hcon : ¬ j ∈ (nw.filter fun q => (plan.getD i default).pre.contains q.1).map (·.1) ++ ab := by
                    intro hm
                    rcases List.mem_append.1 hm with h3 | h3
                    · obtain ⟨⟨j',o'⟩,h4,h5⟩ := List.mem_map.1 h3
                      simp only at h5
                      subst h5
                      obtain ⟨h6,h7⟩ := List.mem_filter.1 h4
                      have h8 := (H j' o').1 h6
                      have h9 : (preOf plan i).contains j' = true := h7
                      unfold pmX at hp
                      rw [h9,h8.2.2.2] at hp
                      simp at hp
                    · have : ab.contains j = true := by rw [List.contains_iff_mem]; exact h3
                      rw [this] at habj; cases habj
                  rw [Bool.eq_false_iff]
                  intro hh
                  exact hcon (by rwa [List.contains_iff_mem] at hh)
          refine ⟨fun k' a b => .inl ⟨?_,nolit rfl⟩,?_,fun h0 => by rw [hw''] at h0; cases h0⟩
          · have := hwk hw'' k' a b
            subst this
            cases hcx : callOf (opOf xs i).op with
            | some pr =>
              obtain ⟨fo,args⟩ := pr
              have hop := callOf_eq hcx
              rw [hop] at hstep
              obtain ⟨f,first,caps,j1,j2,j3⟩ := stepS_call hstep
              rw [hT] at j1 j2 j3
              have j4 := hc _ _ _ _ _ j3
              rw [habs,← e1] at j4
              exact .call f first caps fo args hg hw'' ho (F.next _) hop j1 j2 (hd ▸ j4) hAk
            | none =>
              rw [stepS_op hcx,hT] at hstep
              have hgt : (⟨absorbT base (plan.getD i default).pre nw s.t,s.n⟩ : S).t.get = (Hmin xs.length base G A k' (pmX xs plan i) (obOf lits obs)).get := congrArg AHeap.get habs
              have hnx : s.n = (G k').next := by rw [hG]; rfl
              obtain ⟨j1,j2,j3,j4⟩ := onS_spec hstep (Hmin xs.length base G A k' (pmX xs plan i) (obOf lits obs)) hgt.symm
              rw [hgt] at j1 j2 j3
              simp only [hnx] at j1 j2 j3
              exact .write _ hg hw'' ho (F.next _) rfl j1 (j2.trans hd.symm) (by rw [e1,j3]) hAk
          · rw [hw'']
            simp only [if_true]
            intro j o
            rw [List.mem_filter,H j o,hAk j]
            constructor
            · rintro ⟨⟨a,b,c,d'⟩,e⟩
              refine ⟨by omega,b,?_,d'⟩
              have : pmX xs plan i j = false := by
                unfold pmX
                have : (preOf plan i).contains j = false := by
                  have e' : (!(preOf plan i).contains j) = true := e
                  simpa only [Bool.not_eq_true'] using e'
                rw [this]; rfl
              rw [c,this]; rfl
            · rintro ⟨a,b,c,d'⟩
              rw [Bool.or_eq_false_iff,b] at c
              have hp : pmX xs plan i j = false := by simpa using c.2
              have hp2 : (preOf plan i).contains j = false := by
                unfold pmX at hp
                rw [d'] at hp
                simpa using hp
              refine ⟨⟨?_,b,c.1,d'⟩,by rw [show (plan.getD i default).pre.contains (j,o).1 = (preOf plan i).contains j from rfl,hp2]; rfl⟩
              rcases Nat.lt_succ_iff_lt_or_eq.1 a with h2 | h2
              · exact h2
              · subst h2; rw [ho] at b; cases b
        · cases h1
      · cases h1
    · -- no writer
      rename_i hnw
      have hw' : wOf xs i = false := by simpa [wOf] using hnw
      have hAki : ∀ k',k' ≤ (plan.getD i default).hi → (obOf lits obs i).isSome = true → A k' i = false := fun k' hk' hs => by
        rw [F.hA,hAi i k' hs hk']
        simpa using hs
      split at h1
      · -- an entry of a map literal
        rename_i te m ko vo hins
        have hop := insOf_eq hins
        split at h1
        · rename_i l hm
          split at h1
          · rename_i hcond
            obtain ⟨c1,c2,c3,c4,c5⟩ := hcond
            simp only [Option.some.injEq] at h1
            subst h1
            have ho : obOf lits obs i = none := obOf_none hob
            refine ⟨fun k' a b => .inr ?_,by rw [hw']; simpa using same ho,fun _ => ⟨rfl,rfl⟩⟩
            have hx := hl2 _ rfl
            generalize hxx : (⟨l - base,i,te,_,_⟩ : Lit) = x at hx
            have hl' : ∀ y ∈ lits,y.i = i → y = x := fun y hy hyi => by
              have := hl y hy hyi
              simp only [Option.some.injEq] at this
              rw [← hxx]; exact this.symm
            obtain ⟨l1,l2,hsplit⟩ := List.append_of_mem hx
            have hap := LO.apart l1 x l2 hsplit
            have hmpre : l - base ∈ preOf plan i := by simpa [preOf,List.contains_iff_mem] using c2
            have hmi := F.pre i hi _ hmpre
            have xm : x.m = l - base := by rw [← hxx]
            have xi : x.i = i := by rw [← hxx]
            have filt : ∀ (la : List Lit) (r : Nat × Entry),r ∈ ((la.filter fun y => Nat.beq y.m (l - base)).map fun y => ((y.i,(y.key,y.val,none)) : Nat × Entry)) → ∃ y ∈ la,y.m = l - base ∧ r = (y.i,(y.key,y.val,none)) := fun la r hr => by
              obtain ⟨y,hy,rfl⟩ := List.mem_map.1 hr
              obtain ⟨h2,h3⟩ := List.mem_filter.1 hy
              exact ⟨y,h2,Nat.eq_of_beq_eq_true h3,rfl⟩
            refine ⟨hg,hw',ho,F.next k',hd,l - base,te,m,ko,vo,_,_,((l1.filter fun y => Nat.beq y.m (l - base)).map fun y => ((y.i,(y.key,y.val,none)) : Nat × Entry)),((l2.filter fun y => Nat.beq y.m (l - base)).map fun y => ((y.i,(y.key,y.val,none)) : Nat × Entry)),hop,?_,rfl,rfl,c3,c4,c5,by omega,hmpre,?_,?_,?_,?_,?_,?_,?_⟩
            · rw [hm]; congr 1; omega
            · rw [← xm]; exact LO.some x hx
            · rw [F.hA,← xm,LO.ab x hx k']
              have := LO.some x hx
              simpa using this
            · show litOf lits (l - base) = _
              unfold litOf
              rw [hsplit,List.filter_append,List.map_append,List.filter_cons,if_pos (by rw [xm]; exact Nat.beq_refl _),List.map_cons,← hxx]
            · intro r hr
              obtain ⟨y,hy,_,rfl⟩ := filt l1 r hr
              rw [← xi]; exact (hap y (List.mem_append_left _ hy)).1
            · intro r hr
              obtain ⟨y,hy,_,rfl⟩ := filt l2 r hr
              rw [← xi]; exact (hap y (List.mem_append_right _ hy)).1
            · intro j hj r hr e
              obtain ⟨y,hy,hyj,rfl⟩ := mem_litOf hr
              have := hl' y hy e
              rw [this,xm] at hyj
              exact hj hyj.symm
            · intro get r hr
              have : ∃ y ∈ l1 ++ l2,y.m = l - base ∧ r = (y.i,(y.key,y.val,none)) := by
                rcases List.mem_append.1 hr with h3 | h3
                · obtain ⟨y,hy,e⟩ := filt l1 r h3; exact ⟨y,List.mem_append_left _ hy,e⟩
                · obtain ⟨y,hy,e⟩ := filt l2 r h3; exact ⟨y,List.mem_append_right _ hy,e⟩
              obtain ⟨y,hy,hym,rfl⟩ := this
              have := (hap y hy).2 (hym.trans xm.symm) get
              rw [← hxx] at this
              exact this
          · cases h1
        · cases h1
      · split at h1
        · -- a value
          rename_i d har
          simp only [Option.some.injEq] at h1
          subst h1
          have ho : obOf lits obs i = none := obOf_none hob
          refine ⟨fun k' a b => .inl ⟨?_,nolit rfl⟩,by rw [hw']; simpa using same ho,fun _ => ⟨rfl,rfl⟩⟩
          simp only at hd hfl
          cases hmem : (opOf xs i).op.mem with
          | false =>
            rw [hmem] at har
            simp only [Bool.false_eq_true,if_false] at har
            exact .quiet _ hg hw' ho (F.next k') ((aop_nomem hmem).trans har) (.inl (by rw [hd]))
          | true =>
            rw [hmem,if_pos rfl,hsee] at har
            by_cases hlh : (plan.getD i default).lo = (plan.getD i default).hi
            · have : k' = k := by omega
              subst this
              exact .quiet _ hg hw' ho (F.next k') har (.inl (by rw [hd]))
            · have hf := hfl (by rw [hmem]; simp only [Bool.true_and,Bool.not_eq_true']; rw [Bool.eq_false_iff]; exact fun e => hlh (Nat.eq_of_beq_eq_true e)) k' a b
              simp only [hT] at hf
              rcases hf with hf | ⟨hmr,l,o',hf⟩
              · exact .quiet _ hg hw' ho (F.next k') hf (.inl (by rw [hd]))
              · refine .quiet _ hg hw' ho (F.next k') hf (.inr ⟨l,o',by rw [hd],?_⟩)
                obtain ⟨y,hy⟩ := isMrk_eq hmr
                rw [hy] at hf
                exact aop_mrk hf
        · -- a byte slice is marked
          rename_i l o' d har
          split at h1
          · rename_i hmr
            simp only [Option.some.injEq] at h1
            subst h1
            have ho : obOf lits obs i = none := obOf_none hob
            obtain ⟨y,hy⟩ := isMrk_eq hmr
            have hmem : (opOf xs i).op.mem = true := by rw [hy]; rfl
            refine ⟨fun k' a b => .inl ⟨?_,nolit rfl⟩,by rw [hw']; simpa using same ho,fun _ => ⟨rfl,rfl⟩⟩
            simp only at hd hfl
            rw [hmem,if_pos rfl,hsee] at har
            by_cases hlh : (plan.getD i default).lo = (plan.getD i default).hi
            · have : k' = k := by omega
              subst this
              refine .quiet _ hg hw' ho (F.next k') har (.inr ⟨l,o',by rw [hd],?_⟩)
              rw [hy] at har
              exact aop_mrk har
            · have hf := hfl (by simp only [Bool.not_eq_true']; rw [Bool.eq_false_iff]; exact fun e => hlh (Nat.eq_of_beq_eq_true e)) k' a b
              simp only [hT] at hf
              rcases hf with hf | ⟨_,l,o',hf⟩
              · exact .quiet _ hg hw' ho (F.next k') hf (.inl (by rw [hd]))
              · refine .quiet _ hg hw' ho (F.next k') hf (.inr ⟨l,o',by rw [hd],?_⟩)
                rw [hy] at hf
                exact aop_mrk hf
          · cases h1
        · -- something new
          rename_i o' d har
          split at h1
          · cases h1
          · rename_i hmem
            simp only [Bool.not_eq_true] at hmem
            simp only [Option.some.injEq] at h1
            subst h1
            simp only at hob hd
            have hsm := obOf_isSome (lits := lits) hob
            rw [hmem] at har
            simp only [Bool.false_eq_true,if_false] at har
            have hmko : isMk (opOf xs i).op = true → o' = .map [] (some 0) := fun hmk => by
              rw [isMk_eq hmk] at har
              simp only [aop,AR.new.injEq] at har
              exact har.1.symm
            refine ⟨fun k' a b => .inl ⟨.new o' hg hw' (fun S hS => ?_) hsm (F.next k') ?_,nolit rfl⟩,?_,fun _ => ⟨rfl,rfl⟩⟩
            · by_cases hli : litOf lits i = []
              · exact objS_plain (obOf_plain hob hli) hli
              · rw [hmko (F.mks i hli)]
                exact objS_empty (obOf_lit hsm hli) hli hS
            · rw [hd,← har]; exact aop_nomem hmem
            · rw [hw']
              simp only [Bool.false_eq_true,if_false,Nat.add_zero]
              cases hmk : isMk (opOf xs i).op with
              | true =>
                simp only [if_true]
                intro j o
                rw [H j o]
                constructor
                · rintro ⟨a,b⟩; exact ⟨by omega,b⟩
                · rintro ⟨a,b,c,d'⟩
                  refine ⟨?_,b,c,d'⟩
                  rcases Nat.lt_succ_iff_lt_or_eq.1 a with h2 | h2
                  · exact h2
                  · subst h2; rw [hmk] at d'; cases d'
              | false =>
                simp only [Bool.false_eq_true,if_false]
                have hli : litOf lits i = [] := by
                  by_cases hli : litOf lits i = []
                  · exact hli
                  · have := F.mks i hli; rw [hmk] at this; cases this
                have hoi := obOf_plain hob hli
                intro j o
                rw [List.mem_cons,H j o]
                constructor
                · rintro (e | ⟨a,b⟩)
                  · cases e
                    exact ⟨by omega,hoi,hAki k (by omega) hsm,hmk⟩
                  · exact ⟨by omega,b⟩
                · rintro ⟨a,b,c⟩
                  rcases Nat.lt_succ_iff_lt_or_eq.1 a with h2 | h2
                  · exact .inr ⟨h2,b,c⟩
                  · subst h2
                    rw [hoi] at b
                    exact .inl (by rw [Option.some.inj b])
        · cases h1

end
end Go.Abs
end
noncomputable section
namespace Go.Abs
open Go

theorem drop_tail {α : Type} {L pl : List α} {i : Nat} (h : pl = L.drop i) (d : α) : pl.headD d = L.getD i d ∧ pl.tail = L.drop (i + 1) := by
  subst h
  refine ⟨?_,by rw [List.tail_drop]⟩
  by_cases hi : i < L.length
  · rw [List.drop_eq_getElem_cons hi]; simp [hi]
  · rw [List.drop_eq_nil_of_le (by omega)]; simp [List.getElem?_eq_none (by omega : L.length ≤ i)]

section
variable {P : Program} {Γ : Nat → D} {N : Nat} {call : CallF}
variable {xs : List XOper} {after : List (List Nat)} {plan : List PlanE} {base : Nat} {G : Nat → AHeap} {A : Nat → Nat → Bool} {abk : Nat → List Nat} {OBS : List (Option AObj)} {lits : List Lit} {T0 : Nat → D} {DS : List D} {GS : List (S × List Nat)} {gl : S × List Nat}

theorem one_lit {o : XOper} {p : PlanE} {i : Nat} {T : Tr D} {s : S} {nw : List (Nat × AObj)} {ab : List Nat} {q : One} (h : one call Γ base o p i T s nw ab = some q) {x : Lit} (hx : q.lit = some x) : x.i = i := by
  unfold one at h
  repeat' split at h
  all_goals try (cases h; done)
  all_goals
    simp only [Option.some.injEq] at h
    subst h
    simp only [Option.some.injEq,reduceCtorEq] at hx
  subst hx; rfl

theorem pass_lits : ∀ (r : List XOper) (pl : List PlanE) (i : Nat) (T : Tr D) (s : S) (nw : List (Nat × AObj)) (ab : List Nat) (R : Out),pass call Γ base r pl i T s nw ab = some R → R.obs.length = r.length ∧ R.ds.length = r.length ∧ ∀ x ∈ R.lits,i ≤ x.i
  | [],_,_,_,_,_,_,R,h => by
    simp only [pass,Option.some.injEq] at h
    subst h; simp
  | o :: r,pl,i,T,s,nw,ab,R,h => by
    simp only [pass] at h
    split at h
    · cases h
    · rename_i q hq
      split at h
      · cases h
      · rename_i R' hR'
        obtain ⟨h1,h2,h3⟩ := pass_lits r _ _ _ _ _ _ R' hR'
        simp only [Option.some.injEq] at h
        subst h
        refine ⟨by simp [Out.cons,h1],by simp [Out.cons,h2],fun x hx => ?_⟩
        simp only [Out.cons] at hx
        split at hx
        · rename_i y hy
          rcases List.mem_cons.1 hx with rfl | hx
          · rw [one_lit hq hy]; exact Nat.le_refl _
          · have := h3 x hx; omega
        · have := h3 x hx; omega

theorem pass_sound (hc : CallOk P Γ call) (p : PlanP xs after plan) (F : Told xs plan xs.length base G A abk (obOf lits OBS) lits) (LO : LitsOk xs plan abk (obOf lits OBS) lits)
    (hAi : ∀ j k,(obOf lits OBS j).isSome = true → k ≤ (plan.getD j default).hi → (abk k).contains j = false) (hG : ∀ k,G k = (GS.getD k gl).1.h) (hab : ∀ k,abk k = (GS.getD k gl).2) :
    ∀ (r : List XOper) (pl : List PlanE) (i k : Nat) (T : Tr D) (s : S) (nw : List (Nat × AObj)) (ab : List Nat) (R : Out),r = xs.drop i → pl = plan.drop i → i ≤ xs.length → k = rankW xs i → pass call Γ base r pl i T s nw ab = some R →
      tm T = TSn T0 (fun j => (opOf xs j).dst) (fun i => DS.getD i .bad) (fun _ => true) i → R.ds = DS.drop i → R.obs = OBS.drop i → (s,ab) :: R.gs = GS.drop k → NWI xs A (obOf lits OBS) i k nw →
      (∀ x ∈ lits,i ≤ x.i → x ∈ R.lits) → (∀ x ∈ R.lits,x ∈ lits) → (∀ f ∈ R.fls,FLok Γ xs plan base G A (obOf lits OBS) f) →
      (∀ i',i ≤ i' → i' < xs.length → ∀ k',(plan.getD i' default).lo ≤ k' → k' ≤ (plan.getD i' default).hi → CC P Γ xs plan base G A OBS lits T0 (fun i => DS.getD i .bad) i' k') ∧
        tm R.T = TSn T0 (fun j => (opOf xs j).dst) (fun i => DS.getD i .bad) (fun _ => true) xs.length ∧ [(R.s,R.ab)] = GS.drop (rankW xs xs.length)
  | [],pl,i,k,T,s,nw,ab,R,hr,hpl,hi,hk,h,hT,hds,hobs,hgs,H,hl1,hl2,hfl => by
    simp only [pass,Option.some.injEq] at h
    have hin : xs.length ≤ i := by
      have := congrArg List.length hr
      simp at this; omega
    have : i = xs.length := by omega
    subst this
    subst h
    exact ⟨fun i' a b => by omega,hT,by rw [← hk]; exact hgs⟩
  | o :: r,pl,i,k,T,s,nw,ab,R,hr,hpl,hi,hk,h,hT,hds,hobs,hgs,H,hl1,hl2,hfl => by
    obtain ⟨hin,_,hr',hop⟩ := drop_cons hr
    obtain ⟨hp1,hp2⟩ := drop_tail hpl default
    have hopi : opOf xs i = o := hop default
    simp only [pass] at h
    split at h
    · cases h
    · rename_i q hq
      split at h
      · cases h
      · rename_i R' hR'
        simp only [Option.some.injEq] at h
        subst h
        simp only [Out.cons] at hds hobs hgs hl1 hl2 hfl
        obtain ⟨_,_,hds',hd⟩ := drop_cons hds
        obtain ⟨_,_,hobs',hob⟩ := drop_cons hobs
        obtain ⟨_,_,hgs',hg⟩ := drop_cons hgs
        have hgk := hg gl
        obtain ⟨_,_,hlits⟩ := pass_lits r _ _ _ _ _ _ R' hR'
        rw [hp1] at hq hfl
        have hw : wOf xs i = true → G (k + 1) = q.s.h ∧ abk (k + 1) = q.ab := fun hw => by
          have hw' : o.op.writes = true := by rw [← hopi]; exact hw
          rw [if_pos hw'] at hgs'
          obtain ⟨_,_,_,h5⟩ := drop_cons hgs'
          rw [hG,hab,h5 gl]
          exact ⟨rfl,rfl⟩
        have S1 := one_sound (k := k) (dF := fun i => DS.getD i .bad) (obs := OBS) (T0 := T0) hc p F LO hAi hin (hopi ▸ hq) hT (by rw [hG,hgk]) (by rw [hab,hgk]) hk H (hd .bad) (hob none) hw
          (fun x hx e => by
            have := hl1 x hx (by omega)
            split at this
            · rename_i y hy
              rcases List.mem_cons.1 this with rfl | h6
              · exact hy
              · have := hlits x h6; omega
            · have := hlits x this; omega)
          (fun x hx => hl2 x (by rw [hx]; exact List.mem_cons_self ..))
          (fun hf => hopi ▸ hfl _ (by rw [if_pos hf]; exact List.mem_cons_self ..))
        obtain ⟨s1,s2,s3⟩ := S1
        have hrk : rankW xs (i + 1) = k + if wOf xs i then 1 else 0 := by
          rw [rankW_kS xs (i + 1) (by omega),kS_all,← rankW_kS xs i (by omega),← hk]
        have hT' : tm (putT T o.dst q.d) = TSn T0 (fun j => (opOf xs j).dst) (fun i => DS.getD i .bad) (fun _ => true) (i + 1) := by
          rw [tm_put,hT]
          simp only [TSn,if_true,hopi]
          rw [show DS.getD i .bad = q.d from hd .bad]
        have ih := pass_sound hc p F LO hAi hG hab r pl.tail (i + 1) (k + if wOf xs i then 1 else 0) _ _ _ _ R' hr' hp2 (by omega) hrk.symm hR' hT' hds' hobs' ?_ s2
          (fun x hx e => by
            have := hl1 x hx (by omega)
            split at this
            · rename_i y hy
              rcases List.mem_cons.1 this with rfl | h6
              · have := one_lit hq hy; omega
              · exact h6
            · exact this)
          (fun x hx => hl2 x (by split <;> first | exact List.mem_cons_of_mem _ hx | exact hx))
          (fun f hf => hfl f (by split <;> first | exact List.mem_cons_of_mem _ hf | exact hf))
        · obtain ⟨i1,i2,i3⟩ := ih
          refine ⟨fun i' a b k' c d => ?_,i2,i3⟩
          rcases Nat.lt_or_eq_of_le a with h7 | h7
          · exact i1 i' h7 b k' c d
          · subst h7; exact s1 k' c d
        · cases hw' : wOf xs i with
          | true =>
            have hw'' : o.op.writes = true := by rw [← hopi]; exact hw'
            rw [if_pos hw''] at hgs'
            simpa using hgs'
          | false =>
            have hw'' : o.op.writes = false := by rw [← hopi]; exact hw'
            obtain ⟨e1,e2⟩ := s3 hw'
            rw [hw''] at hgs
            simp only [Bool.false_eq_true,if_false,Nat.add_zero] at hgs ⊢
            rw [e1,e2]; exact hgs

end
end Go.Abs
end
noncomputable section
namespace Go.Abs
open Go

def chkMask (base : Nat) (g : S × List Nat) : List (Option AObj) → Nat → Bool
  | [],_ => true
  | none :: r,j => chkMask base g r (j + 1)
  | some _ :: r,j => (g.2.contains j || (g.1.t.get (base + j)).isNone) && chkMask base g r (j + 1)

def chkHi (plan : List PlanE) : List (S × List Nat) → Nat → Bool
  | [],_ => true
  | g :: r,k => (g.2.all fun j => Nat.blt (plan.getD j default).hi k) && chkHi plan r (k + 1)

def keyNe (te : TEq) (a b : D) : Bool :=
  match te,a,b with
  | .leaf .i,.i k x,.i k' y => decide (k = k') && !(x == y)
  | .leaf .s,.s x,.s y => !(x == y)
  | _,_,_ => false

def chkPw : List Lit → Bool
  | [] => true
  | x :: r => (r.all fun y => !Nat.beq y.i x.i && (!Nat.beq y.m x.m || (keyNe x.te x.key y.key && keyNe y.te y.key x.key))) && chkPw r

def chkLits (xs : List XOper) (plan : List PlanE) (obs : List (Option AObj)) (GS : List (S × List Nat)) (lits : List Lit) : Bool :=
  chkPw lits && lits.all fun x => (obs.getD x.m none).isSome && isMk (opOf xs x.m).op && Nat.blt x.i xs.length && (preOf plan x.i).contains x.m && GS.all fun g => !g.2.contains x.m

def seeK (xs : List XOper) (plan : List PlanE) (base : Nat) (obs : List (Option AObj)) (lits : List Lit) (g : S × List Nat) (i l : Nat) : Option AObj :=
  if (decide (base ≤ l ∧ l < base + xs.length) && !((obOf lits obs (l - base)).isNone || g.2.contains (l - base))) = true then (if pmX xs plan i (l - base) = true then obOf lits obs (l - base) else none) else g.1.t.get l

def nullG (n : Nat) : S × List Nat := (⟨.e,n⟩,[])

def chkFL (Γ : Nat → D) (xs : List XOper) (plan : List PlanE) (base : Nat) (obs : List (Option AObj)) (lits : List Lit) (GS : List (S × List Nat)) (f : FL) : Nat → Bool
  | 0 => true
  | m + 1 => (Nat.blt m f.p.lo || (match aop (seeK xs plan base obs lits (GS.getD m (nullG (base + xs.length))) f.i) (base + f.i) (evT Γ (tm f.T)) f.o with
    | .val d => D.eqb 30 d f.d
    | .upd _ _ d => isMrk f.o && D.eqb 30 d f.d
    | _ => false)) && chkFL Γ xs plan base obs lits GS f m

def finT (base : Nat) (lits : List Lit) (OBS : List (Option AObj)) (ab : List Nat) : List (Option AObj) → Nat → Tr AObj → Tr AObj
  | [],_,t => t
  | none :: r,j,t => finT base lits OBS ab r (j + 1) t
  | some _ :: r,j,t => if ab.contains j then finT base lits OBS ab r (j + 1) t else (finT base lits OBS ab r (j + 1) t).set (base + j) (obOf lits OBS j)

def check (Γ : Nat → D) (xs : List XOper) (plan : List PlanE) (base : Nat) (GS : List (S × List Nat)) (R : Out) : Bool :=
  (GS.all fun g => Nat.ble (base + xs.length) g.1.n && chkMask base g R.obs 0) && chkHi plan GS 0 && chkLits xs plan R.obs GS R.lits && R.fls.all fun f => chkFL Γ xs plan base R.obs R.lits GS f (f.p.hi + 1)

def runDraw (call : CallF) (Γ : Nat → D) (xs : List XOper) (plan : List PlanE) (T : Tr D) (s : S) : Option (Tr D × S) :=
  match pass call Γ s.n xs plan 0 T ⟨s.t,s.n + xs.length⟩ [] [] with
  | none => none
  | some R => if check Γ xs plan s.n ((⟨s.t,s.n + xs.length⟩,[]) :: R.gs) R = true then some (R.T,⟨finT s.n R.lits R.obs R.ab R.obs 0 R.s.t,R.s.n⟩) else none

theorem keyNe_eq {te : TEq} {u v : D} (h : keyNe te u v = true) (get : Nat → Option AObj) : eqD get te u v = some false := by
  unfold keyNe at h
  split at h
  · simp only [Bool.and_eq_true,decide_eq_true_eq,Bool.not_eq_true'] at h
    simp only [eqD,leafEq,h.1,h.2,if_true]
  · simp only [Bool.not_eq_true'] at h
    simp only [eqD,leafEq,h]
  · cases h

theorem chkMask_spec {base : Nat} {g : S × List Nat} : ∀ {obs : List (Option AObj)} {j0 : Nat},chkMask base g obs j0 = true → ∀ m,(obs.getD m none).isSome = true → g.2.contains (j0 + m) = false → g.1.t.get (base + (j0 + m)) = none
  | [],_,_,m,h,_ => by simp at h
  | none :: r,j0,hc,m,h,hn => by
    cases m with
    | zero => simp at h
    | succ m =>
      have := chkMask_spec (obs := r) (j0 := j0 + 1) hc m (by simpa using h) (by rw [← hn]; congr 1; omega)
      rw [← this]; congr 1; omega
  | some o :: r,j0,hc,m,h,hn => by
    simp only [chkMask,Bool.and_eq_true,Bool.or_eq_true] at hc
    cases m with
    | zero =>
      rw [Nat.add_zero] at hn ⊢
      rcases hc.1 with h1 | h1
      · rw [hn] at h1; cases h1
      · simpa using h1
    | succ m =>
      have := chkMask_spec (obs := r) (j0 := j0 + 1) hc.2 m (by simpa using h) (by rw [← hn]; congr 1; omega)
      rw [← this]; congr 1; omega

theorem chkHi_spec {plan : List PlanE} : ∀ {GS : List (S × List Nat)} {k0 : Nat},chkHi plan GS k0 = true → ∀ k d,d.2 = [] → ∀ j ∈ (GS.getD k d).2,(plan.getD j default).hi < k0 + k
  | [],_,_,k,d,hd,j,hj => by simp [hd] at hj
  | g :: r,k0,hc,k,d,hd,j,hj => by
    simp only [chkHi,Bool.and_eq_true,List.all_eq_true] at hc
    cases k with
    | zero =>
      have := hc.1 j (by simpa using hj)
      rw [Nat.blt_eq] at this
      exact this
    | succ k =>
      have := chkHi_spec (GS := r) (k0 := k0 + 1) hc.2 k d hd j (by simpa using hj)
      omega

theorem chkPw_spec : ∀ {lits : List Lit},chkPw lits = true → lits.Pairwise fun x y => y.i ≠ x.i ∧ (y.m = x.m → keyNe x.te x.key y.key = true ∧ keyNe y.te y.key x.key = true)
  | [],_ => .nil
  | x :: r,h => by
    simp only [chkPw,Bool.and_eq_true,List.all_eq_true,Bool.not_eq_true',Bool.or_eq_true] at h
    refine List.pairwise_cons.2 ⟨fun y hy => ?_,chkPw_spec h.2⟩
    obtain ⟨h1,h2⟩ := h.1 y hy
    refine ⟨fun e => (by rw [e,Nat.beq_refl] at h1; cases h1),fun e => ?_⟩
    rcases h2 with h2 | h2
    · rw [e,Nat.beq_refl] at h2; cases h2
    · exact h2

theorem finT_spec {base : Nat} {lits : List Lit} {OBS : List (Option AObj)} {ab : List Nat} {t : Tr AObj} : ∀ {r : List (Option AObj)} {j : Nat},r = OBS.drop j → ∀ l,
    (finT base lits OBS ab r j t).get l = if base + j ≤ l ∧ (obOf lits OBS (l - base)).isSome = true ∧ ab.contains (l - base) = false then obOf lits OBS (l - base) else t.get l
  | [],j,h,l => by
    simp only [finT]
    rw [if_neg]
    rintro ⟨h1,h2,_⟩
    have hlen : OBS.length ≤ j := by
      have := congrArg List.length h
      simp at this; omega
    have hn : OBS.getD (l - base) none = none := by simp [List.getElem?_eq_none (by omega : OBS.length ≤ l - base)]
    rw [obOf_none hn] at h2; cases h2
  | none :: r,j,h,l => by
    obtain ⟨_,_,h1,h2⟩ := drop_cons h
    simp only [finT]
    rw [finT_spec h1 l]
    by_cases hl : l = base + j
    · subst hl
      rw [if_neg (by omega),if_neg]
      rintro ⟨_,h3,_⟩
      rw [Nat.add_sub_cancel_left,obOf_none (h2 none)] at h3; cases h3
    · have : (base + (j + 1) ≤ l) = (base + j ≤ l) := by apply propext; omega
      simp only [this]
  | some o :: r,j,h,l => by
    obtain ⟨_,_,h1,h2⟩ := drop_cons h
    simp only [finT]
    by_cases hl : l = base + j
    · subst hl
      by_cases hc : ab.contains j = true
      · rw [if_pos hc,finT_spec h1,if_neg (by omega),if_neg]
        rintro ⟨_,_,h3⟩
        rw [Nat.add_sub_cancel_left,hc] at h3; cases h3
      · rw [if_neg hc,Tr.get_set,if_pos rfl,if_pos]
        · rw [Nat.add_sub_cancel_left]
        · rw [Nat.add_sub_cancel_left]
          exact ⟨Nat.le_refl _,obOf_isSome (h2 none),by simpa using hc⟩
    · have : (base + (j + 1) ≤ l) = (base + j ≤ l) := by apply propext; omega
      split
      · rw [finT_spec h1 l]; simp only [this]
      · rw [Tr.get_set,if_neg hl,finT_spec h1 l]; simp only [this]

section
variable {P : Program} {Γ : Nat → D} {N : Nat} {call : CallF} {ro : Option Nat}

theorem EX.drawn (hc : CallOk P Γ call) (hm : P.follows .mixedOrders = true) (hN : N ≤ 100000) {id : Nat} {ops : Array Oper} {xs : List XOper} (hxs : xs = ops.toList.map (xoper P ops)) {after : List (List Nat)}
    (haf : after = ops.toList.map fun o => (o.after.toList.filter (Region.binds .any ·)).map (·.on)) {plan : List PlanE} (p : PlanP xs after plan) (hw : (xs.all (wfOp N)) = true) {T T' : Tr D} {s s' : S} (hr : runDraw call Γ xs plan T s = some (T',s')) :
    EX P Γ ro N (.region id ops true) (tm T) s.h .norm (tm T') s'.h := by
  unfold runDraw at hr
  split at hr
  · cases hr
  · rename_i R hR
    split at hr
    · rename_i hck
      simp only [Option.some.injEq,Prod.mk.injEq] at hr
      obtain ⟨rfl,rfl⟩ := hr
      obtain ⟨hol,hdl,_⟩ := pass_lits _ _ _ _ _ _ _ R hR
      have hsz : xs.length = ops.size := by rw [hxs]; simp
      generalize hbase : s.n = base at hR hck ⊢
      generalize hGS : ((⟨s.t,base + xs.length⟩,[]) :: R.gs : List (S × List Nat)) = GS at hck
      simp only [check,Bool.and_eq_true,List.all_eq_true] at hck
      obtain ⟨⟨⟨c1,c2⟩,c3⟩,c4⟩ := hck
      simp only [chkLits,Bool.and_eq_true,List.all_eq_true,Bool.not_eq_true'] at c3
      obtain ⟨c3,c5⟩ := c3
      have memGS : ∀ k,GS.getD k (nullG (base + xs.length)) ∈ GS ∨ GS.getD k (nullG (base + xs.length)) = nullG (base + xs.length) := fun k => by
        by_cases hk : k < GS.length
        · left; simp [hk]
        · right; simp [List.getElem?_eq_none (by omega : GS.length ≤ k)]
      have hobs : ∀ j,(obOf R.lits R.obs j).isSome = true → (R.obs.getD j none).isSome = true := fun j h => by
        cases ho : R.obs.getD j none with
        | none => rw [obOf_none ho] at h; cases h
        | some o => rfl
      have F : Told xs plan xs.length base (fun k => (GS.getD k (nullG (base + xs.length))).1.h) (fun k j => (obOf R.lits R.obs j).isNone || (GS.getD k (nullG (base + xs.length))).2.contains j) (fun k => (GS.getD k (nullG (base + xs.length))).2) (obOf R.lits R.obs) R.lits := by
        refine ⟨fun k j => rfl,fun k j ho hn => ?_,fun k => ?_,fun j ho => ?_,p.lt_of,fun j hj => ?_⟩
        · rcases memGS k with h | h
          · have := chkMask_spec (c1 _ h).2 j (hobs j ho) (by rw [Nat.zero_add]; exact hn)
            rw [Nat.zero_add] at this
            exact this
          · simp only [h]; rfl
        · rcases memGS k with h | h
          · exact Nat.le_of_ble_eq_true (c1 _ h).1
          · simp only [h]; exact Nat.le_refl _
        · have := hobs j ho
          by_cases hj : j < R.obs.length
          · omega
          · simp [List.getElem?_eq_none (by omega : R.obs.length ≤ j)] at this
        · obtain ⟨q,hq⟩ := List.exists_mem_of_ne_nil _ hj
          obtain ⟨x,hx,rfl,_⟩ := mem_litOf hq
          exact (c5 x hx).1.1.1.2
      have LO : LitsOk xs plan (fun k => (GS.getD k (nullG (base + xs.length))).2) (obOf R.lits R.obs) R.lits := by
        refine ⟨fun x hx => ?_,fun x hx k => ?_,fun l1 x l2 hs y hy => ?_⟩
        · obtain ⟨o,ho⟩ := Option.isSome_iff_exists.1 (c5 x hx).1.1.1.1
          exact obOf_isSome ho
        · rcases memGS k with h | h
          · exact (c5 x hx).2 _ h
          · simp only [h]; rfl
        · have hp := chkPw_spec c3
          rw [hs,List.pairwise_append] at hp
          obtain ⟨_,h2,h3⟩ := hp
          rcases List.mem_append.1 hy with h4 | h4
          · obtain ⟨h5,h6⟩ := h3 y h4 x (by simp)
            exact ⟨fun e => h5 e.symm,fun e => keyNe_eq (h6 e.symm).2⟩
          · obtain ⟨h5,h6⟩ := (List.pairwise_cons.1 h2).1 y h4
            exact ⟨h5,fun e => keyNe_eq (h6 e).1⟩
      have hAi : ∀ j k,(obOf R.lits R.obs j).isSome = true → k ≤ (plan.getD j default).hi → ((GS.getD k (nullG (base + xs.length))).2).contains j = false := fun j k _ hk => by
        rw [Bool.eq_false_iff]
        intro hh
        rw [List.contains_iff_mem] at hh
        have := chkHi_spec c2 k (nullG (base + xs.length)) rfl j hh
        omega
      have hHmin : ∀ k i,seeK xs plan base R.obs R.lits (GS.getD k (nullG (base + xs.length))) i = (Hmin xs.length base (fun k => (GS.getD k (nullG (base + xs.length))).1.h) (fun k j => (obOf R.lits R.obs j).isNone || (GS.getD k (nullG (base + xs.length))).2.contains j) k (pmX xs plan i) (obOf R.lits R.obs)).get := fun k i => by
        funext l
        rfl
      have hFL : ∀ f ∈ R.fls,FLok Γ xs plan base (fun k => (GS.getD k (nullG (base + xs.length))).1.h) (fun k j => (obOf R.lits R.obs j).isNone || (GS.getD k (nullG (base + xs.length))).2.contains j) (obOf R.lits R.obs) f := by
        intro f hf k h1 h2
        have key : ∀ m,chkFL Γ xs plan base R.obs R.lits GS f m = true → k < m → (match aop (seeK xs plan base R.obs R.lits (GS.getD k (nullG (base + xs.length))) f.i) (base + f.i) (evT Γ (tm f.T)) f.o with
            | .val d => D.eqb 30 d f.d
            | .upd _ _ d => isMrk f.o && D.eqb 30 d f.d
            | _ => false) = true := by
          intro m
          induction m with
          | zero => intro _ h; omega
          | succ m ih =>
            intro h3 h4
            simp only [chkFL,Bool.and_eq_true,Bool.or_eq_true] at h3
            by_cases hkm : k = m
            · subst hkm
              rcases h3.1 with h5 | h5
              · rw [Nat.blt_eq] at h5; omega
              · exact h5
            · exact ih h3.2 (by omega)
        have := key _ (c4 f hf) (by omega)
        rw [hHmin] at this
        split at this
        · rename_i d hd
          rw [hd,D.eqb_eq 30 this]; exact .inl rfl
        · rename_i l o d hd
          rw [Bool.and_eq_true] at this
          rw [hd,D.eqb_eq 30 this.2]; exact .inr ⟨this.1,l,o,rfl⟩
        · cases this
      have S1 := pass_sound (T0 := tm T) (DS := R.ds) (OBS := R.obs) (GS := GS) (gl := nullG (base + xs.length)) hc p F LO hAi (fun _ => rfl) (fun _ => rfl) xs plan 0 0 T ⟨s.t,base + xs.length⟩ [] [] R rfl rfl (Nat.zero_le _) (by simp [rankW]) hR rfl rfl rfl hGS
        (fun j o => by simp) (fun x hx _ => hx) (fun x hx => hx) hFL
      obtain ⟨s1,s2,s3⟩ := S1
      obtain ⟨_,_,_,s4⟩ := drop_cons s3
      have hfull : ∀ j,litOf R.lits j ≠ [] → obOf R.lits R.obs j = some (.map ((litOf R.lits j).map (·.2)) none) := fun j hj => by
        obtain ⟨q,hq⟩ := List.exists_mem_of_ne_nil _ hj
        obtain ⟨x,hx,rfl,_⟩ := mem_litOf hq
        exact obOf_lit (LO.some x hx) hj
      have hlit : ∀ j,∀ q ∈ litOf R.lits j,q.1 < xs.length ∧ j ∈ preOf plan q.1 := fun j q hq => by
        obtain ⟨x,hx,rfl,rfl⟩ := mem_litOf hq
        refine ⟨?_,?_⟩
        · have := (c5 x hx).1.1.2
          rwa [Nat.blt_eq] at this
        · have := (c5 x hx).1.2
          rwa [List.contains_iff_mem] at this
      have main := EX.planM (ro := ro) (Γ := Γ) (T := tm T) (h := s.h) (id := id) hm hN hxs haf p (fun i hi => wfOp_spec (by
          rw [List.all_eq_true] at hw
          exact hw _ (by simp [opOf,hi]))) (dF := fun i => R.ds.getD i .bad) (G := fun k => (GS.getD k (nullG (base + xs.length))).1.h)
        (A := fun k j => (obOf R.lits R.obs j).isNone || (GS.getD k (nullG (base + xs.length))).2.contains j) (ob := obOf R.lits R.obs) (lit := litOf R.lits) (pm := pmX xs plan)
        (fun i j hp => by
          simp only [pmX,Bool.and_eq_true,Bool.not_eq_true'] at hp
          have hl : litOf R.lits j = [] := by
            by_cases hl : litOf R.lits j = []
            · exact hl
            · have := F.mks j hl; rw [hp.2] at this; cases this
          simp only [pmOf,hl,hp.1,List.all_nil,Bool.and_true])
        hfull hlit (by simp only [← hGS,← hbase]; rfl) (fun j => by simp [← hGS])
        (fun i hi ho k hk => by rw [hAi i k ho hk]; simpa using ho)
        (fun i hi k a b => by
          have := s1 i (Nat.zero_le _) hi k a b
          rw [show s.h.next = base from hbase]
          exact this)
      have eT : tm R.T = TSn (tm T) (fun j => (opOf xs j).dst) (fun i => R.ds.getD i .bad) (fun i => decide (i < ops.size)) xs.length := by
        rw [s2]
        exact TSn_congr _ _ _ _ fun j hj => by simp; omega
      have eH : (⟨finT base R.lits R.obs R.ab R.obs 0 R.s.t,R.s.n⟩ : S).h = HSk xs.length s.h.next (fun k => (GS.getD k (nullG (base + xs.length))).1.h) (fun k j => (obOf R.lits R.obs j).isNone || (GS.getD k (nullG (base + xs.length))).2.contains j)
          (objS (obOf R.lits R.obs) (litOf R.lits)) (kS (wOf xs) (fun i => decide (i < ops.size)) xs.length) (fun i => decide (i < ops.size)) := by
        subst hbase
        have ek : kS (wOf xs) (fun i => decide (i < ops.size)) xs.length = rankW xs xs.length := by
          rw [rankW_kS xs _ (Nat.le_refl _)]
          exact kS_congr _ fun j hj _ => by simp; omega
        rw [ek]
        have eg := s4 (nullG (s.n + xs.length))
        refine AHeap.eq (fun l => ?_) ?_
        · simp only [S.h,HSk,msk,eg]
          rw [finT_spec (List.drop_zero ..).symm l]
          rcases ho : obOf R.lits R.obs (l - s.n) with _ | o
          · simp
          · have hlt := F.obn (l - s.n) (by rw [ho]; rfl)
            have hob : objS (obOf R.lits R.obs) (litOf R.lits) (l - s.n) (fun i => decide (i < ops.size)) = some o := objS_full (hfull _) (fun q hq => by
              have := (hlit _ q hq).1
              simp; omega) ho
            by_cases hb : s.n ≤ l
            · have h1 : l < s.n + xs.length := by omega
              have h2 : l - s.n < ops.size := by omega
              cases hab : R.ab.contains (l - s.n) with
              | true => simp
              | false => simp [hb,h1,h2,hob]
            · simp [hb]
        · simp only [S.h,HSk,eg]
      rw [eT,eH]
      exact main
    · cases hr

end
end Go.Abs
end
noncomputable section
namespace Go.Abs
open Go

def bs (l : List Nat) : List UInt8 := l.map UInt8.ofNat

def XC.wf (N : Nat) : XC → Bool
  | .region ops => ops.all (wfOp N)
  | .draw ops _ => ops.all (wfOp N)
  | .seq a b => a.wf N && b.wf N
  | .cond _ a b => a.wf N && b.wf N
  | .block _ c => c.wf N
  | .loop c => c.wf N
  | _ => true

def putArgs : List D → Nat → Tr D → Tr D
  | [],_,T => T
  | d :: ds,i,T => putArgs ds (i + 1) (T.set i (some d))

theorem tm_putArgs : ∀ (ds : List D) (i : Nat) (T : Tr D) (n : Nat),tm (putArgs ds i T) n = if i ≤ n ∧ n < i + ds.length then ds.getD (n - i) .bad else tm T n
  | [],i,T,n => by
    rw [if_neg (by intro h; have := h.2; simp at this; omega)]; rfl
  | d :: ds,i,T,n => by
    simp only [putArgs]
    rw [tm_putArgs ds (i + 1) _ n]
    have e : tm (T.set i (some d)) n = if n = i then d else tm T n := by
      simp only [tm,Tr.get_set]; split <;> rfl
    by_cases hn : n = i
    · subst hn
      rw [if_neg (by omega),e,if_pos rfl,if_pos (by simp)]
      rw [Nat.sub_self]; rfl
    · by_cases h2 : i + 1 ≤ n ∧ n < i + 1 + ds.length
      · rw [if_pos h2,if_pos (by simp; omega)]
        obtain ⟨m,rfl⟩ : ∃ m,n = i + 1 + m := ⟨n - (i + 1),by omega⟩
        have e1 : i + 1 + m - (i + 1) = m := by omega
        have e2 : i + 1 + m - i = m + 1 := by omega
        rw [e1,e2]
        simp
      · rw [if_neg h2,e,if_neg hn,if_neg (by simp; omega)]

end Go.Abs
end
noncomputable section
namespace Go.Abs
open Go

abbrev Ans := Option (D × S)

noncomputable section

def D.onI (d : D) (f : IntKind → Int → Ans) : Ans :=
  D.rec (motive_1 := fun _ => Ans) (motive_2 := fun _ => PUnit.{1}) (fun _ => none) f (fun _ => none) none (fun _ _ => none) (fun _ _ => none) none (fun _ _ _ _ => none) (fun _ _ _ => none) none (fun _ => none) (fun _ _ _ _ _ => none) (fun _ => none) none (fun _ _ _ => none) none (fun _ _ => none) (fun _ _ => none) none ⟨⟩ (fun _ _ _ _ => ⟨⟩) d

def D.onB (d : D) (f : Bool → Ans) : Ans :=
  D.rec (motive_1 := fun _ => Ans) (motive_2 := fun _ => PUnit.{1}) f (fun _ _ => none) (fun _ => none) none (fun _ _ => none) (fun _ _ => none) none (fun _ _ _ _ => none) (fun _ _ _ => none) none (fun _ => none) (fun _ _ _ _ _ => none) (fun _ => none) none (fun _ _ _ => none) none (fun _ _ => none) (fun _ _ => none) none ⟨⟩ (fun _ _ _ _ => ⟨⟩) d

def D.onS (d : D) (f : List UInt8 → Ans) : Ans :=
  D.rec (motive_1 := fun _ => Ans) (motive_2 := fun _ => PUnit.{1}) (fun _ => none) (fun _ _ => none) f none (fun _ _ => none) (fun _ _ => none) none (fun _ _ _ _ => none) (fun _ _ _ => none) none (fun _ => none) (fun _ _ _ _ _ => none) (fun _ => none) none (fun _ _ _ => none) none (fun _ _ => none) (fun _ _ => none) none ⟨⟩ (fun _ _ _ _ => ⟨⟩) d

def D.onIS (d : D) (f : IntKind → Int → Ans) (g : List UInt8 → Ans) : Ans :=
  D.rec (motive_1 := fun _ => Ans) (motive_2 := fun _ => PUnit.{1}) (fun _ => none) f g none (fun _ _ => none) (fun _ _ => none) none (fun _ _ _ _ => none) (fun _ _ _ => none) none (fun _ => none) (fun _ _ _ _ _ => none) (fun _ => none) none (fun _ _ _ => none) none (fun _ _ => none) (fun _ _ => none) none ⟨⟩ (fun _ _ _ _ => ⟨⟩) d

def D.onP (d : D) (f : Nat → Nat → Ans) (g : List D → Ans) : Ans :=
  D.rec (motive_1 := fun _ => Ans) (motive_2 := fun _ => PUnit.{1}) (fun _ => none) (fun _ _ => none) (fun _ => none) none f (fun cs _ => g cs) none (fun _ _ _ _ => none) (fun _ _ _ => none) none (fun _ => none) (fun _ _ _ _ _ => none) (fun _ => none) none (fun _ _ _ => none) none (fun _ _ => none) (fun _ _ => none) none ⟨⟩ (fun _ _ _ _ => ⟨⟩) d

def D.onC (d : D) (f : List D → Ans) : Ans :=
  D.rec (motive_1 := fun _ => Ans) (motive_2 := fun _ => PUnit.{1}) (fun _ => f [d]) (fun _ _ => f [d]) (fun _ => f [d]) (f [d]) (fun _ _ => f [d]) (fun _ _ => f [d]) (f [d]) (fun _ _ _ _ => f [d]) (fun _ _ _ => f [d]) (f [d]) (fun _ => f [d]) (fun _ _ _ _ _ => f [d]) (fun _ => f [d]) (f [d]) (fun _ _ _ => f [d]) (f [d]) (fun cs _ => f cs) (fun _ _ => none) none ⟨⟩ (fun _ _ _ _ => ⟨⟩) d

def D.okC (d : D) (a : Ans) : Ans :=
  D.rec (motive_1 := fun _ => Ans) (motive_2 := fun _ => PUnit.{1}) (fun _ => a) (fun _ _ => a) (fun _ => a) a (fun _ _ => a) (fun _ _ => a) a (fun _ _ _ _ => a) (fun _ _ _ => a) a (fun _ => a) (fun _ _ _ _ _ => a) (fun _ => a) a (fun _ _ _ => a) a (fun _ _ => a) (fun _ _ => a) none ⟨⟩ (fun _ _ _ _ => ⟨⟩) d

def D.nnC (d : D) (a : Ans) : Ans :=
  D.rec (motive_1 := fun _ => Ans) (motive_2 := fun _ => PUnit.{1}) (fun _ => none) (fun _ _ => none) (fun _ => none) none (fun _ _ => a) (fun _ _ => a) none (fun _ _ _ _ => none) (fun _ _ _ => none) none (fun _ => none) (fun f _ _ _ _ => match f with | .func _ => a | _ => none) (fun _ => a) none (fun _ _ _ => a) none (fun _ _ => none) (fun _ _ => none) none ⟨⟩ (fun _ _ _ _ => ⟨⟩) d

def D.onG (d : D) (f : Bool → Ans) (z : Ans) : Ans :=
  D.rec (motive_1 := fun _ => Ans) (motive_2 := fun _ => PUnit.{1}) f (fun _ _ => none) (fun _ => none) none (fun _ _ => none) (fun _ _ => none) none (fun _ _ _ _ => none) (fun _ _ _ => none) none (fun _ => none) (fun _ _ _ _ _ => none) (fun _ => none) none (fun _ _ _ => none) none (fun _ _ => none) (fun cs _ => match cs with | [] => z | _ => none) none ⟨⟩ (fun _ _ _ _ => ⟨⟩) d

def D.onFY (d : D) (f : Nat → List D → List D → Ans) (g : Nat → Ans) : Ans :=
  D.rec (motive_1 := fun _ => Ans) (motive_2 := fun _ => PUnit.{1}) (fun _ => none) (fun _ _ => none) (fun _ => none) none (fun _ _ => none) (fun _ _ => none) none (fun _ _ _ _ => none) (fun _ _ _ => none) none (fun _ => none) (fun h a c _ _ => match h with | .func n => f n a c | _ => none) g none (fun _ _ _ => none) none (fun _ _ => none) (fun _ _ => none) none ⟨⟩ (fun _ _ _ _ => ⟨⟩) d

def D.onF (d : D) (f : Nat → List D → List D → Ans) : Ans :=
  D.rec (motive_1 := fun _ => Ans) (motive_2 := fun _ => PUnit.{1}) (fun _ => none) (fun _ _ => none) (fun _ => none) none (fun _ _ => none) (fun _ _ => none) none (fun _ _ _ _ => none) (fun _ _ _ => none) none (fun _ => none) (fun g a c _ _ => match g with | .func n => f n a c | _ => none) (fun _ => none) none (fun _ _ _ => none) none (fun _ _ => none) (fun _ _ => none) none ⟨⟩ (fun _ _ _ _ => ⟨⟩) d

def AObj.onL (o : AObj) (f : Tr D → Nat → List Nat → Code → Code → LSt → Ans) : Ans := AObj.rec (motive := fun _ => Ans) (fun _ _ => none) (fun _ _ => none) (fun _ _ => none) f o

theorem AObj.onL_some {o : AObj} {f : Tr D → Nat → List Nat → Code → Code → LSt → Ans} {r : D × S} (h : o.onL f = some r) : ∃ T N ps assign body st,o = .loop T N ps assign body st ∧ f T N ps assign body st = some r := by
  cases o <;> first | exact ⟨_,_,_,_,_,_,rfl,h⟩ | cases h

def AObj.onC (o : AObj) (f : List D → Nat → Ans) : Ans := AObj.rec (motive := fun _ => Ans) f (fun _ _ => none) (fun _ _ => none) (fun _ _ _ _ _ _ => none) o

section
variable {d : D} {r : D × S}

theorem D.onI_some {f : IntKind → Int → Ans} (h : d.onI f = some r) : ∃ k n,d = .i k n ∧ f k n = some r := by
  cases d <;> first | exact ⟨_,_,rfl,h⟩ | cases h
theorem D.onB_some {f : Bool → Ans} (h : d.onB f = some r) : ∃ b,d = .b b ∧ f b = some r := by
  cases d <;> first | exact ⟨_,rfl,h⟩ | cases h
theorem D.onS_some {f : List UInt8 → Ans} (h : d.onS f = some r) : ∃ b,d = .s b ∧ f b = some r := by
  cases d <;> first | exact ⟨_,rfl,h⟩ | cases h
theorem D.onIS_some {f : IntKind → Int → Ans} {g : List UInt8 → Ans} (h : d.onIS f g = some r) : (∃ k n,d = .i k n ∧ f k n = some r) ∨ ∃ b,d = .s b ∧ g b = some r := by
  cases d <;> first | exact .inl ⟨_,_,rfl,h⟩ | exact .inr ⟨_,rfl,h⟩ | cases h
theorem D.onP_some {f : Nat → Nat → Ans} {g : List D → Ans} (h : d.onP f g = some r) : (∃ l o,d = .ptr l o ∧ f l o = some r) ∨ ∃ cs,d = .fptr cs ∧ g cs = some r := by
  cases d <;> first | exact .inl ⟨_,_,rfl,h⟩ | exact .inr ⟨_,rfl,h⟩ | cases h
theorem D.onC_some {f : List D → Ans} (h : d.onC f = some r) : d.val = true ∧ f d.cells = some r := by
  cases d <;> first | exact ⟨rfl,h⟩ | cases h
theorem D.okC_some {a : Ans} (h : d.okC a = some r) : d.ok = true ∧ a = some r := by
  cases d <;> first | exact ⟨rfl,h⟩ | cases h
theorem D.onG_some {f : Bool → Ans} {z : Ans} (h : d.onG f z = some r) : (∃ b,d = .b b ∧ f b = some r) ∨ (d = .tup [] ∧ z = some r) := by
  cases d
  case b b => exact .inl ⟨b,rfl,h⟩
  case tup cs =>
    cases cs with
    | nil => exact .inr ⟨rfl,h⟩
    | cons a l => cases h
  all_goals cases h
theorem D.onF_some {f : Nat → List D → List D → Ans} (h : d.onF f = some r) : ∃ n a c,d = .fn (.func n) a c ∧ f n a c = some r := by
  cases d
  case fn g a c =>
    cases g with
    | func n => exact ⟨n,a,c,rfl,h⟩
    | _ => cases h
  all_goals cases h
theorem D.onFY_some {f : Nat → List D → List D → Ans} {g : Nat → Ans} (h : d.onFY f g = some r) : (∃ n a c,d = .fn (.func n) a c ∧ f n a c = some r) ∨ ∃ l,d = .yld l ∧ g l = some r := by
  cases d
  case fn g a c =>
    cases g with
    | func n => exact .inl ⟨n,a,c,rfl,h⟩
    | _ => cases h
  case yld l => exact .inr ⟨l,rfl,h⟩
  all_goals cases h
theorem AObj.onC_some {o : AObj} {f : List D → Nat → Ans} (h : o.onC f = some r) : ∃ cs odd,o = .cells cs odd ∧ f cs odd = some r := by
  cases o <;> first | exact ⟨_,_,rfl,h⟩ | cases h
end

/-! ### Forcing -/

def fN (n : Nat) (k : Nat → Ans) : Ans := Nat.rec (motive := fun _ => Ans) (k 0) (fun p _ => k (Nat.succ p)) n
theorem fN_eq (n : Nat) (k : Nat → Ans) : fN n k = k n := by cases n <;> rfl

def fI (n : Int) (k : Int → Ans) : Ans := Int.rec (motive := fun _ => Ans) (fun m => fN m fun m => k (.ofNat m)) (fun m => fN m fun m => k (.negSucc m)) n
theorem fI_eq (n : Int) (k : Int → Ans) : fI n k = k n := by
  cases n with
  | ofNat m => exact fN_eq m fun m => k (.ofNat m)
  | negSucc m => exact fN_eq m fun m => k (.negSucc m)

def fL {α : Type} (l : List α) : (List α → Ans) → Ans := List.rec (motive := fun _ => (List α → Ans) → Ans) (fun k => k []) (fun a _ ih k => ih fun r => k (a :: r)) l
theorem fL_eq {α : Type} : ∀ (l : List α) (k : List α → Ans),fL l k = k l
  | [],_ => rfl
  | a :: l,k => fL_eq l fun r => k (a :: r)

def fLg (g : D → (D → Ans) → Ans) (l : List D) : (List D → Ans) → Ans := List.rec (motive := fun _ => (List D → Ans) → Ans) (fun k => k []) (fun a _ ih k => g a fun a => ih fun r => k (a :: r)) l
theorem fLg_eq {g : D → (D → Ans) → Ans} (hg : ∀ d k,g d k = k d) : ∀ (l : List D) (k : List D → Ans),fLg g l k = k l
  | [],_ => rfl
  | a :: l,k => by
    show g a (fun a => fLg g l fun r => k (a :: r)) = _
    rw [hg,fLg_eq hg l]

def fB (b : Bool) (k : Bool → Ans) : Ans := Bool.rec (motive := fun _ => Ans) (k false) (k true) b
theorem fB_eq (b : Bool) (k : Bool → Ans) : fB b k = k b := by cases b <;> rfl

def fStep (g : D → (D → Ans) → Ans) (k : D → Ans) (d : D) : Ans :=
  D.rec (motive_1 := fun _ => Ans) (motive_2 := fun _ => PUnit.{1}) (fun x => fB x fun x => k (.b x)) (fun t n => fI n fun n => k (.i t n)) (fun x => fL x fun x => k (.s x)) (k .nilp) (fun l o => fN l fun l => fN o fun o => k (.ptr l o)) (fun cs _ => fLg g cs fun cs => k (.fptr cs)) (k .nils)
    (fun z l o n => fN l fun l => fN o fun o => fN n fun n => k (.sl z l o n)) (fun z es _ => fLg g es fun es => k (.fz z es)) (k .nilm) (fun l => fN l fun l => k (.mp l)) (fun f a c _ _ => fLg g a fun a => fLg g c fun c => k (.fn f a c)) (fun l => k (.yld l)) (k .nilf) (fun t d _ => g d fun d => k (.ifc t d)) (k .nili)
    (fun cs _ => fLg g cs fun cs => k (.agg cs)) (fun cs _ => fLg g cs fun cs => k (.tup cs)) (k .bad) ⟨⟩ (fun _ _ _ _ => ⟨⟩) d

theorem fStep_eq {g : D → (D → Ans) → Ans} (hg : ∀ d k,g d k = k d) (k : D → Ans) (d : D) : fStep g k d = k d := by
  cases d
  case b x => exact fB_eq x fun x => k (.b x)
  case i t n => exact fI_eq n fun n => k (.i t n)
  case s x => exact fL_eq x fun x => k (.s x)
  case ptr l o => show fN l (fun l => fN o fun o => k (.ptr l o)) = _; rw [fN_eq,fN_eq]
  case fptr cs => exact fLg_eq hg cs fun cs => k (.fptr cs)
  case sl z l o n => show fN l (fun l => fN o fun o => fN n fun n => k (.sl z l o n)) = _; rw [fN_eq,fN_eq,fN_eq]
  case fz z es => exact fLg_eq hg es fun es => k (.fz z es)
  case mp l => exact fN_eq l fun l => k (.mp l)
  case fn f a c => show fLg g a (fun a => fLg g c fun c => k (.fn f a c)) = _; rw [fLg_eq hg,fLg_eq hg]
  case ifc t d => exact hg d fun d => k (.ifc t d)
  case agg cs => exact fLg_eq hg cs fun cs => k (.agg cs)
  case tup cs => exact fLg_eq hg cs fun cs => k (.tup cs)
  all_goals rfl

def f0 (d : D) (k : D → Ans) : Ans := fStep (fun d k => k d) k d
theorem f0_eq (d : D) (k : D → Ans) : f0 d k = k d := fStep_eq (fun _ _ => rfl) k d
def f1 (d : D) (k : D → Ans) : Ans := fStep f0 k d
theorem f1_eq (d : D) (k : D → Ans) : f1 d k = k d := fStep_eq f0_eq k d
def fD (d : D) (k : D → Ans) : Ans := fStep f1 k d
theorem fD_eq (d : D) (k : D → Ans) : fD d k = k d := fStep_eq f1_eq k d

def fE (es : List (D × D × Option Nat)) : (List (D × D × Option Nat) → Ans) → Ans :=
  List.rec (motive := fun _ => (List (D × D × Option Nat) → Ans) → Ans) (fun k => k []) (fun a _ ih k => fD a.1 fun x => fD a.2.1 fun y => ih fun r => k ((x,y,a.2.2) :: r)) es
theorem fE_eq : ∀ (l : List (D × D × Option Nat)) (k : List (D × D × Option Nat) → Ans),fE l k = k l
  | [],_ => rfl
  | a :: l,k => by
    show fD a.1 (fun x => fD a.2.1 fun y => fE l fun r => k ((x,y,a.2.2) :: r)) = _
    rw [fD_eq,fD_eq,fE_eq l]

def fO (o : AObj) (k : AObj → Ans) : Ans := AObj.rec (motive := fun _ => Ans) (fun cs odd => fLg f1 cs fun cs => fN odd fun odd => k (.cells cs odd)) (fun es c => fE es fun es => k (.map es c)) (fun x p => fN p fun p => k (.iter x p)) (fun T N ps assign body st => k (.loop T N ps assign body st)) o
theorem fO_eq (o : AObj) (k : AObj → Ans) : fO o k = k o := by
  cases o with
  | cells cs odd => show fLg f1 cs (fun cs => fN odd fun odd => k (.cells cs odd)) = _; rw [fLg_eq f1_eq,fN_eq]
  | map es c => exact fE_eq es fun es => k (.map es c)
  | iter x p => exact fN_eq p fun p => k (.iter x p)
  | loop T N ps assign body st => rfl

/-! ### Tries -/

def Tr.getC {α : Type} (t : Tr α) (n : Nat) (c : α → Ans) : Ans :=
  Tr.rec (motive := fun _ => Nat → Ans) (fun _ => none)
    (fun _ v _ gl gr k => Nat.rec (motive := fun _ => Ans) (Option.rec (motive := fun _ => Ans) none c v) (fun p _ => Bool.rec (motive := fun _ => Ans) (gr (p / 2)) (gl (p / 2)) (Nat.beq (p % 2) 0)) k) t n

theorem Tr.getC_some {α : Type} {c : α → Ans} {r : D × S} : ∀ {t : Tr α} {n : Nat},t.getC n c = some r → ∃ a,t.get n = some a ∧ c a = some r
  | Tr.e,m,h => by cases h
  | Tr.n l v rr,0,h => by
    cases v with
    | none => cases h
    | some a => exact ⟨a,rfl,h⟩
  | Tr.n l v rr,p + 1,h => by
    have h' : Bool.rec (motive := fun _ => Ans) (rr.getC (p / 2) c) (l.getC (p / 2) c) (Nat.beq (p % 2) 0) = some r := h
    rw [get_ns]
    revert h'
    cases Nat.beq (p % 2) 0 with
    | true => intro h'; exact Tr.getC_some (t := l) h'
    | false => intro h'; exact Tr.getC_some (t := rr) h'

def Tr.ins1 {α : Type} (x : Option α) (rec : Tr α → Nat → (Tr α → Ans) → Ans) (c : Tr α → Ans) (l : Tr α) (v : Option α) (r : Tr α) (k : Nat) : Ans :=
  Nat.rec (motive := fun _ => Ans) (c (.n l x r)) (fun p _ => Bool.rec (motive := fun _ => Ans) (rec r (p / 2) fun r => c (.n l v r)) (rec l (p / 2) fun l => c (.n l v r)) (Nat.beq (p % 2) 0)) k

def Tr.putF {α : Type} (x : Option α) (f : Nat) : Tr α → Nat → (Tr α → Ans) → Ans :=
  Nat.rec (motive := fun _ => Tr α → Nat → (Tr α → Ans) → Ans) (fun t _ c => c t)
    (fun _ rec t k c => Tr.rec (motive := fun _ => Ans) (Tr.ins1 x rec c .e none .e k) (fun l v r _ _ => Tr.ins1 x rec c l v r k) t) f

def Tr.putC {α : Type} (t : Tr α) (k : Nat) (x : Option α) (c : Tr α → Ans) : Ans := Tr.putF x (k + 1) t k c

theorem Tr.putF_eq {α : Type} (x : Option α) : ∀ (f : Nat) (t : Tr α) (k : Nat) (c : Tr α → Ans),Tr.putF x f t k c = c (Tr.put f t k x)
  | 0,t,k,c => rfl
  | f + 1,t,k,c => by
    have key : ∀ l v r,Tr.ins1 x (Tr.putF x f) c l v r k = c (Tr.put (f + 1) (.n l v r) k x) := by
      intro l v r
      cases k with
      | zero => rfl
      | succ p =>
        rw [Tr.put_s]
        show Bool.rec (motive := fun _ => Ans) (Tr.putF x f r (p / 2) fun r => c (.n l v r)) (Tr.putF x f l (p / 2) fun l => c (.n l v r)) (Nat.beq (p % 2) 0) = _
        cases Nat.beq (p % 2) 0 with
        | true => exact Tr.putF_eq x f l (p / 2) fun l => c (.n l v r)
        | false => exact Tr.putF_eq x f r (p / 2) fun r => c (.n l v r)
    cases t with
    | n l v r => exact key l v r
    | e =>
      have e1 : Tr.put (f + 1) (.e : Tr α) k x = Tr.put (f + 1) (.n .e none .e) k x := by
        cases k with
        | zero => rfl
        | succ p => rw [Tr.put_s,Tr.put_s]; rfl
      rw [e1]; exact key .e none .e

theorem Tr.putC_eq {α : Type} (t : Tr α) (k : Nat) (x : Option α) (c : Tr α → Ans) : t.putC k x c = c (t.set k x) := Tr.putF_eq x (k + 1) t k c

def pd (dst : Option Nat) (d : D) (T : Tr D) (c : Tr D → Ans) : Ans := Option.rec (motive := fun _ => Ans) (c T) (fun x => T.putC x (some d) c) dst
theorem pd_eq (dst : Option Nat) (d : D) (T : Tr D) (c : Tr D → Ans) : pd dst d T c = c (putT T dst d) := by
  cases dst with
  | none => rfl
  | some x => exact Tr.putC_eq T x (some d) c

/-! ### Lists -/

def nthC (cs : List D) (i : Nat) (c : D → Ans) : Ans :=
  List.rec (motive := fun _ => Nat → Ans) (fun _ => none) (fun d _ ih i => Nat.rec (motive := fun _ => Ans) (c d) (fun p _ => ih p) i) cs i
theorem nthC_some {c : D → Ans} {r : D × S} : ∀ {cs : List D} {i : Nat},nthC cs i c = some r → ∃ d,cs[i]? = some d ∧ c d = some r
  | [],i,h => by cases h
  | d :: cs,0,h => ⟨d,rfl,h⟩
  | d :: cs,i + 1,h => nthC_some (cs := cs) (i := i) h

def takeC (n : Nat) : List D → (List D → Ans) → Ans :=
  Nat.rec (motive := fun _ => List D → (List D → Ans) → Ans) (fun _ c => c []) (fun _ ih cs c => List.rec (motive := fun _ => Ans) none (fun d tl _ => ih tl fun l => c (d :: l)) cs) n
theorem takeC_some {r : D × S} : ∀ {n : Nat} {cs : List D} {c : List D → Ans},takeC n cs c = some r → n ≤ cs.length ∧ c (cs.take n) = some r
  | 0,cs,c,h => ⟨Nat.zero_le _,h⟩
  | n + 1,[],c,h => by cases h
  | n + 1,d :: cs,c,h => by
    obtain ⟨h1,h2⟩ := takeC_some (n := n) (cs := cs) (c := fun l => c (d :: l)) h
    exact ⟨Nat.succ_le_succ h1,h2⟩

def dropC (n : Nat) : List D → (List D → Ans) → Ans :=
  Nat.rec (motive := fun _ => List D → (List D → Ans) → Ans) (fun cs c => c cs) (fun _ ih cs c => List.rec (motive := fun _ => Ans) none (fun _ tl _ => ih tl c) cs) n
theorem dropC_some {r : D × S} {c : List D → Ans} : ∀ {n : Nat} {cs : List D},dropC n cs c = some r → n ≤ cs.length ∧ c (cs.drop n) = some r
  | 0,cs,h => ⟨Nat.zero_le _,h⟩
  | n + 1,[],h => by cases h
  | n + 1,d :: cs,h => by
    obtain ⟨h1,h2⟩ := dropC_some (n := n) (cs := cs) h
    exact ⟨Nat.succ_le_succ h1,h2⟩

def repC (ds : List D) : List D → (List D → Ans) → Ans :=
  List.rec (motive := fun _ => List D → (List D → Ans) → Ans) (fun cs c => c cs) (fun d _ ih cs c => List.rec (motive := fun _ => Ans) none (fun _ tl _ => ih tl fun l => c (d :: l)) cs) ds
theorem repC_some {r : D × S} : ∀ {ds cs : List D} {c : List D → Ans},repC ds cs c = some r → ds.length ≤ cs.length ∧ c (ds ++ cs.drop ds.length) = some r
  | [],cs,c,h => ⟨Nat.zero_le _,h⟩
  | d :: ds,[],c,h => by cases h
  | d :: ds,e :: cs,c,h => by
    obtain ⟨h1,h2⟩ := repC_some (ds := ds) (cs := cs) (c := fun l => c (d :: l)) h
    exact ⟨Nat.succ_le_succ h1,h2⟩

def splC (ds : List D) (off : Nat) : List D → (List D → Ans) → Ans :=
  Nat.rec (motive := fun _ => List D → (List D → Ans) → Ans) (fun cs c => repC ds cs c) (fun _ ih cs c => List.rec (motive := fun _ => Ans) none (fun d tl _ => ih tl fun l => c (d :: l)) cs) off
theorem splC_some {ds : List D} {r : D × S} : ∀ {off : Nat} {cs : List D} {c : List D → Ans},splC ds off cs c = some r → off + ds.length ≤ cs.length ∧ c (splice cs off ds) = some r
  | 0,cs,c,h => by
    obtain ⟨h1,h2⟩ := repC_some h
    exact ⟨by omega,by simpa [splice] using h2⟩
  | off + 1,[],c,h => by cases h
  | off + 1,d :: cs,c,h => by
    obtain ⟨h1,h2⟩ := splC_some (off := off) (cs := cs) (c := fun l => c (d :: l)) h
    refine ⟨by simp; omega,?_⟩
    have : splice (d :: cs) (off + 1) ds = d :: splice cs off ds := by
      simp only [splice,List.take_succ_cons,List.cons_append,show off + 1 + ds.length = off + ds.length + 1 by omega,List.drop_succ_cons]
    rw [this]; exact h2

/-! ### Numbers -/

def kIx (k : IntKind) : Nat := IntKind.rec (motive := fun _ => Nat) 0 1 2 3 4 5 6 7 k
theorem kIx_inj {a b : IntKind} (h : Nat.beq (kIx a) (kIx b) = true) : a = b := by
  cases a <;> cases b <;> first | rfl | cases h

def kMax (k : IntKind) : Nat := IntKind.rec (motive := fun _ => Nat) 127 32767 2147483647 9223372036854775807 255 65535 4294967295 18446744073709551615 k

theorem wrap_small {k : IntKind} {m : Nat} (h : m ≤ kMax k) : k.wrap (Int.ofNat m) = Int.ofNat m := by
  have h0 : (Int.ofNat m : Int) < (2 ^ k.bits : Int) := by
    cases k
    · show (m : Int) < 2 ^ 8; have : m ≤ 127 := h; omega
    · show (m : Int) < 2 ^ 16; have : m ≤ 32767 := h; omega
    · show (m : Int) < 2 ^ 32; have : m ≤ 2147483647 := h; omega
    · show (m : Int) < 2 ^ 64; have : m ≤ 9223372036854775807 := h; omega
    · show (m : Int) < 2 ^ 8; have : m ≤ 255 := h; omega
    · show (m : Int) < 2 ^ 16; have : m ≤ 65535 := h; omega
    · show (m : Int) < 2 ^ 32; have : m ≤ 4294967295 := h; omega
    · show (m : Int) < 2 ^ 64; have : m ≤ 18446744073709551615 := h; omega
  have h1 : (Int.ofNat m : Int) % (2 ^ k.bits : Int) = Int.ofNat m := Int.emod_eq_of_lt (Int.natCast_nonneg m) h0
  have h2 : k.signed = true → ¬ (Int.ofNat m : Int) ≥ (2 ^ (k.bits - 1) : Int) := by
    intro hs
    cases k <;> first | (cases hs; done) | skip
    · show ¬ (m : Int) ≥ 2 ^ 7; have : m ≤ 127 := h; omega
    · show ¬ (m : Int) ≥ 2 ^ 15; have : m ≤ 32767 := h; omega
    · show ¬ (m : Int) ≥ 2 ^ 31; have : m ≤ 2147483647 := h; omega
    · show ¬ (m : Int) ≥ 2 ^ 63; have : m ≤ 9223372036854775807 := h; omega
  unfold IntKind.wrap
  simp only [h1]
  rw [if_neg]
  intro hc
  rw [Bool.and_eq_true] at hc
  exact h2 hc.1 (of_decide_eq_true hc.2)

def wrapC (k : IntKind) (z : Int) (c : Int → Ans) : Ans :=
  Int.rec (motive := fun _ => Ans) (fun m => Bool.rec (motive := fun _ => Ans) (fI (k.wrap z) c) (fN m fun m => c (.ofNat m)) (Nat.ble m (kMax k))) (fun _ => fI (k.wrap z) c) z
theorem wrapC_eq (k : IntKind) (z : Int) (c : Int → Ans) : wrapC k z c = c (k.wrap z) := by
  cases z with
  | negSucc m => exact fI_eq _ c
  | ofNat m =>
    show Bool.rec (motive := fun _ => Ans) (fI (k.wrap (.ofNat m)) c) (fN m fun m => c (.ofNat m)) (Nat.ble m (kMax k)) = _
    cases h : Nat.ble m (kMax k) with
    | false => exact fI_eq _ c
    | true => rw [wrap_small (Nat.le_of_ble_eq_true h)]; exact fN_eq m fun m => c (.ofNat m)

end
end Go.Abs
end
noncomputable section
namespace Go.Abs
open Go

def YX (P : Program) (Γ : Nat → D) (l : Nat) (args : List D) (h : AHeap) (d : D) (h' : AHeap) : Prop :=
  ∀ I μ w b (vals : List Value),HR Γ I μ h w → Rl I μ w args vals → μ l = some (b,0) → ∃ f tmps assign body,(Instr.yield b vals.toArray).run P w = .ok (.round b f tmps assign body) w ∧
    RoundIn (Fl none) 0 P b f tmps assign body w fun e w' => ∃ v,e = .returned v ∧ ∃ μ',ExtN I μ h w μ' h' w' ∧ HR Γ I μ' h' w' ∧ R I μ' w' d v

theorem yield_wp {P : Program} {Γ : Nat → D} {I : Nat → Prop} {μ : Emb} {T : Nat → D} {h : AHeap} {N : Nat} {w : World} {a : Act} {ro : Option Nat} (S : St Γ I μ T h N w a) {o : Oper} {c : Call} (ho : o.op = .call c) {fo : Operand} (hc : c.callee = .value fo) {l : Nat} (hf : evT Γ T (xopd fo) = .yld l)
    (hargs : ((c.args.toList.map xopd).all fun y => (evT Γ T y).ok) = true) {h' : AHeap} {d : D} (hyx : YX P Γ l ((c.args.toList.map xopd).map (evT Γ T)) h d h') (hd : ∀ y,o.dst = some y → y < N) {K : Act → World → Prop} {Q : Exit → Act → World → Prop}
    (hK : ∀ a' w' μ',ExtN I μ h w μ' h' w' → St Γ I μ' (setT T o.dst d) h' N w' a' → a'.defers = a.defers → K a' w') : o.wpIn (Fl ro) 0 P a w K Q := by
  have rf := S.ev fo (by rw [hf]; rfl)
  rw [hf] at rf
  obtain ⟨b,hv,hm⟩ : ∃ b,a.eval fo = .func (.yield b) #[] #[] ∧ μ l = some (b,0) := by
    generalize a.eval fo = v at rf
    cases rf with
    | yld _ b hm => exact ⟨b,rfl,hm⟩
  have ra := S.ev.list c.args.toList hargs
  have harr : (c.args.toList.map a.eval).toArray = c.args.map a.eval := by
    apply Array.toList_inj.1; simp
  have hex : (execOp a.eval o).run P w = (Instr.yield b (c.args.map a.eval)).run P w := by
    obtain ⟨dst,op,ty,pos,aft,gu⟩ := o
    simp only at ho
    subst ho
    simp [execOp,resolve,hc,hv,Deferred.ofValue,invoke]
  obtain ⟨f,tmps,assign,body,h1,h2⟩ := hyx I μ w b _ S.hr ra hm
  rw [harr] at h1
  refine ⟨fun _ _ => trivial,?_⟩
  rw [Oper.semAt_eq _ _ _ (fun c' hc' => by rw [ho] at hc'; cases hc'),hex,h1]
  refine ⟨fun hd => (by cases hd),?_⟩
  refine RoundIn.mono (F := Fl ro) h2 fun e w' he => ?_
  obtain ⟨v,rfl,μ',E,H',r⟩ := he
  exact hK _ _ μ' E (S.put E.1 H' hd r) (put_defers' _ _ _)

theorem RX.yield {P : Program} {ro : Option Nat} {Γ : Nat → D} {T : Nat → D} {h : AHeap} {N : Nat} {ops : Array Oper} {l : List Nat} {i : Nat} {o : Oper} (ho : ops[i]? = some o) (hN : N ≤ 100000) (hg : guardX T (xoper P ops o).guard = some true) (hgl : ∀ j x,(xoper P ops o).guard = some (j,x) → j < N)
    (hd : ∀ y,o.dst = some y → y < N) {c : Call} (hop : o.op = .call c) {fo : Operand} (hc : c.callee = .value fo) {ll : Nat} (hf : evT Γ T (xopd fo) = .yld ll)
    (hargs : ((c.args.toList.map xopd).all fun y => (evT Γ T y).ok) = true) {h1 : AHeap} {d : D} (hyx : YX P Γ ll ((c.args.toList.map xopd).map (evT Γ T)) h d h1) {T2 : Nat → D} {h2 : AHeap}
    (hr : RX P Γ ro N ops l (setT T o.dst d) h1 T2 h2) : RX P Γ ro N ops (i :: l) T h T2 h2 := by
  intro I μ w a S
  rw [wpOpsIn_cons]
  unfold wpOpIn
  simp only [ho,guard_sound S hN ops o hg hgl,if_true]
  exact (yield_wp S hop hc hf hargs hyx hd fun a' w' μ' E S' hdf => hr.of E S' hdf)

theorem xop_defer {P : Program} {o : Oper} {f : Opd} {args : List Opd} (h : xop P o = some (.defer f args)) : ∃ c fo,o.op = .defer c ∧ c.callee = .value fo ∧ f = xopd fo ∧ args = c.args.toList.map xopd := by
  obtain ⟨dst,op,ty,pos,aft,gu⟩ := o
  cases op
  case defer c =>
    obtain ⟨cal,aa,ats⟩ := c
    cases cal with
    | value fo =>
      simp only [xop,Option.pure_def,Option.some.injEq,XOp.defer.injEq] at h
      exact ⟨_,fo,rfl,rfl,h.1.symm,h.2.symm⟩
    | invoke y n => simp [xop] at h
    | builtin b => simp [xop] at h
  case call c =>
    exfalso
    obtain ⟨cal,aa,ats⟩ := c
    cases cal with
    | value fo => simp [xop] at h
    | invoke y n => simp [xop] at h
    | builtin b =>
      cases b <;> simp only [xop,Option.bind_eq_bind] at h
      all_goals first
        | (simp at h; done)
        | (repeat (first | contradiction | (simp at h; done) | (obtain ⟨_,h0,_⟩ := h; cases h0; done) | (obtain ⟨_,_,h⟩ := h) | (simp only [Option.bind_eq_some_iff] at h; obtain ⟨_,_,h⟩ := h) | split at h))
  all_goals (exfalso; simp only [xop,Option.bind_eq_bind] at h)
  all_goals first
    | (simp at h; done)
    | (repeat (first | contradiction | (simp at h; done) | (obtain ⟨_,h0,_⟩ := h; cases h0; done) | (obtain ⟨_,_,h⟩ := h) | (simp only [Option.bind_eq_some_iff] at h; obtain ⟨_,_,h⟩ := h) | split at h))

def OpR (P : Program) (Γ : Nat → D) (tp : Bool) (T : Tr D) (s : S) (op : XOp) (d : D) (s' : S) : Prop :=
  (callOf op = none ∧ (aop s.t.get s.n (evT Γ (tm T)) op).onQ s.t s.n = some (d,s')) ∨
  (∃ fo args f first caps,op = .call fo args ∧ evT Γ (tm T) fo = .fn (.func f) first caps ∧ (args.all fun y => (evT Γ (tm T) y).ok) = true ∧ CX P Γ f (first ++ args.map (evT Γ (tm T)) ++ caps) s.h d s'.h) ∨
  (∃ fo args l,op = .call fo args ∧ evT Γ (tm T) fo = .yld l ∧ (args.all fun y => (evT Γ (tm T) y).ok) = true ∧ YX P Γ l (args.map (evT Γ (tm T))) s.h d s'.h) ∨
  (tp = true ∧ ∃ fo f c0 c1 c2,op = .defer fo [] ∧ evT Γ (tm T) fo = .fn (.func f) [] [c0,c1,c2] ∧ bodied P f = true ∧ QuietD P f ∧ d = .tup [] ∧ s' = s)

def StepR (P : Program) (Γ : Nat → D) (tp : Bool) (x : XOper) (T : Tr D) (s : S) (T' : Tr D) (s' : S) : Prop :=
  (guardX (tm T) x.guard = some false ∧ T' = putT T x.dst (.tup []) ∧ s' = s) ∨ (guardX (tm T) x.guard = some true ∧ ∃ d,T' = putT T x.dst d ∧ OpR P Γ tp T s x.op d s')

inductive RunR (P : Program) (Γ : Nat → D) (tp : Bool) : List XOper → Tr D → S → Tr D → S → Prop
  | nil (T : Tr D) (s : S) : RunR P Γ tp [] T s T s
  | cons {x : XOper} {xs : List XOper} {T T1 T2 : Tr D} {s s1 s2 : S} : StepR P Γ tp x T s T1 s1 → RunR P Γ tp xs T1 s1 T2 s2 → RunR P Γ tp (x :: xs) T s T2 s2

section
variable {P : Program} {Γ : Nat → D} {N : Nat} {ro : Option Nat}

theorem RX.runR {tp : Bool} (htp : tp = true → ro = none) (hN : N ≤ 100000) {ops : Array Oper} : ∀ (l : List Nat) (xs : List XOper) (T : Tr D) (s : S) (T' : Tr D) (s' : S),l.map (fun i => (ops[i]?).map (xoper P ops)) = xs.map some → (xs.all (wfOp N)) = true →
    RunR P Γ tp xs T s T' s' → RX P Γ ro N ops l (tm T) s.h (tm T') s'.h
  | [],xs,T,s,T',s',hm,_,hr => by
    have : xs = [] := by simpa using hm.symm
    subst this
    cases hr
    exact RX.nil
  | i :: l,[],T,s,T',s',hm,_,_ => by simp at hm
  | i :: l,x :: xs,T,s,T',s',hm,hw,hr => by
    simp only [List.map_cons,List.cons.injEq] at hm
    obtain ⟨hi,hm⟩ := hm
    obtain ⟨o,ho,hox⟩ := Option.map_eq_some_iff.1 hi
    subst hox
    simp only [List.all_cons,Bool.and_eq_true] at hw
    obtain ⟨hd,hgl⟩ := wfOp_spec hw.1
    have hd' : ∀ y,o.dst = some y → y < N := fun y hy => hd y hy
    have hdst : (xoper P ops o).dst = o.dst := rfl
    cases hr with
    | @cons _ _ _ T1 _ _ s1 _ hs hr =>
      have ih := RX.runR htp hN l xs _ _ _ _ hm hw.2 hr
      rcases hs with ⟨hg,rfl,rfl⟩ | ⟨hg,d,rfl,hop⟩
      · rw [tm_put,hdst] at ih
        exact RX.skip ho hN hg hgl hd' ih
      · rw [tm_put,hdst] at ih
        have hopx : (xoper P ops o).op = (xop P o).getD .bad := rfl
        rw [hopx] at hop
        cases hx : xop P o with
        | none =>
          rw [hx] at hop
          rcases hop with ⟨_,h⟩ | ⟨_,_,_,_,_,h,_⟩ | ⟨_,_,_,h,_⟩ | ⟨_,_,_,_,_,_,h,_⟩
          · simp [aop,AR.onQ] at h
          · cases h
          · cases h
          · cases h
        | some x =>
          rw [hx] at hop
          simp only [Option.getD_some] at hop
          rcases hop with ⟨hc,h⟩ | ⟨fo,args,f,first,caps,rfl,h1,h2,h3⟩ | ⟨fo,args,l',rfl,h1,h2,h3⟩ | ⟨htt,fo,f,c0,c1,c2,rfl,h1,h2,h3,rfl,rfl⟩
          · rw [onQ_eq] at h
            obtain ⟨h1,h2,h3,h4⟩ := onS_spec h s.h rfl
            have e2 : (aop s.h.get s.h.next (evT Γ (tm T)) x).d = d := h2
            cases hq : (aop s.h.get s.h.next (evT Γ (tm T)) x).quiet with
            | true =>
              have e : (aop s.h.get s.h.next (evT Γ (tm T)) x).heap s.h s.h.next s.h.next = s1.h := by
                rw [h3]
                unfold AR.nx
                rw [if_pos (show (aop s.t.get s.n (evT Γ (tm T)) x).quiet = true from hq)]; rfl
              exact RX.opq ho hx hN hg hgl hd' h1 hq (by rw [e,e2]; exact ih)
            | false =>
              have e : (aop s.h.get s.h.next (evT Γ (tm T)) x).heap s.h s.h.next (s.h.next + 1) = s1.h := by
                rw [h3]
                unfold AR.nx
                rw [if_neg (by rw [show (aop s.t.get s.n (evT Γ (tm T)) x).quiet = false from hq]; simp)]; rfl
              exact RX.op ho hx hN hg hgl hd' h1 (by rw [e,e2]; exact ih)
          · obtain ⟨cc,fo',hoc,hcal,rfl,rfl⟩ := xop_call hx
            exact RX.call ho hN hg hgl hd' hoc hcal h1 h2 h3 ih
          · obtain ⟨cc,fo',hoc,hcal,rfl,rfl⟩ := xop_call hx
            exact RX.yield ho hN hg hgl hd' hoc hcal h1 h2 h3 ih
          · obtain ⟨cc,fo',hoc,hcal,rfl,hca⟩ := xop_defer hx
            have := htp htt
            subst this
            exact RX.defer ho hN hg hgl hd' hoc hcal (by simpa using hca.symm) h1 h2 h3 ih

theorem EX.runR {tp : Bool} (htp : tp = true → ro = none) (hN : N ≤ 100000) {id : Nat} {ops : Array Oper} {xs : List XOper} (hxs : xs = ops.toList.map (xoper P ops)) (hw : (xs.all (wfOp N)) = true) {T T' : Tr D} {s s' : S} (hr : RunR P Γ tp xs T s T' s') :
    EX P Γ ro N (.region id ops false) (tm T) s.h .norm (tm T') s'.h := by
  refine EX.region (RX.runR htp hN _ xs T s T' s' ?_ hw hr)
  rw [hxs,List.map_map]
  apply List.ext_getElem?
  intro i
  simp only [List.getElem?_map,List.getElem?_range]
  by_cases hi : i < ops.size
  · simp [hi]
  · simp [hi]
end

noncomputable section

abbrev RR := Tr D → (D → Ans) → Ans
abbrev QQ := Tr D → Tr AObj → Nat → (Tr D → Tr AObj → Nat → Ans) → Ans
abbrev OPc := QQ → QQ
abbrev YldK := Nat → List D → Tr AObj → Nat → (D → Tr AObj → Nat → Ans) → Ans
abbrev CallK := FuncId → List D → Tr AObj → Nat → (D → Tr AObj → Nat → Ans) → Ans

def rt (n : Nat) : RR := fun T c => T.getC n c
def rc (d : D) : RR := fun _ c => c d
def rd (Γ : Nat → D) (y : Opd) : RR :=
  match y with
  | .t n => rt n
  | .c d => rc d
  | .g n => rc (Γ n)
  | .f n => rc (.fn (.func n) [] [])

theorem rd_some {Γ : Nat → D} {y : Opd} {T : Tr D} {c : D → Ans} {r : D × S} (h : rd Γ y T c = some r) : c (evT Γ (tm T) y) = some r := by
  cases y with
  | t n =>
    obtain ⟨a,h1,h2⟩ := Tr.getC_some (c := c) h
    have : tm T n = a := by simp only [tm,h1,Option.getD_some]
    show c (tm T n) = _
    rw [this]; exact h2
  | _ => exact h

def rdL (rs : List RR) (T : Tr D) : (List D → Ans) → Ans := List.rec (motive := fun _ => (List D → Ans) → Ans) (fun c => c []) (fun r _ ih c => r T fun d => d.okC (ih fun l => c (d :: l))) rs

theorem rdL_some {Γ : Nat → D} {T : Tr D} {r : D × S} : ∀ {ys : List Opd} {c : List D → Ans},rdL (ys.map (rd Γ)) T c = some r → (ys.all fun y => (evT Γ (tm T) y).ok) = true ∧ c (ys.map (evT Γ (tm T))) = some r
  | [],c,h => ⟨rfl,h⟩
  | y :: ys,c,h => by
    have h1 := rd_some (y := y) (c := fun d => d.okC (rdL (ys.map (rd Γ)) T fun l => c (d :: l))) h
    obtain ⟨h2,h3⟩ := D.okC_some h1
    obtain ⟨h4,h5⟩ := rdL_some (ys := ys) h3
    exact ⟨by simp [h2,h4],h5⟩

def SoundOp (P : Program) (Γ : Nat → D) (tp : Bool) (op : XOp) (dst : Option Nat) (o : OPc) : Prop :=
  ∀ (rest : QQ) (T : Tr D) (t : Tr AObj) (n : Nat) (k : Tr D → Tr AObj → Nat → Ans) (r : D × S),o rest T t n k = some r → ∃ d s',OpR P Γ tp T ⟨t,n⟩ op d s' ∧ rest (putT T dst d) s'.t s'.n k = some r

variable {P : Program} {Γ : Nat → D} {tp : Bool}

theorem OpR.val {T : Tr D} {t : Tr AObj} {n : Nat} {op : XOp} {d : D} (h1 : callOf op = none) (h : aop t.get n (evT Γ (tm T)) op = .val d) : OpR P Γ tp T ⟨t,n⟩ op d ⟨t,n⟩ := .inl ⟨h1,by rw [h]; rfl⟩
theorem OpR.upd {T : Tr D} {t : Tr AObj} {n : Nat} {op : XOp} {l : Nat} {o : AObj} {d : D} (h1 : callOf op = none) (h : aop t.get n (evT Γ (tm T)) op = .upd l o d) : OpR P Γ tp T ⟨t,n⟩ op d ⟨t.set l (some o),n⟩ := .inl ⟨h1,by rw [h]; rfl⟩
theorem OpR.new {T : Tr D} {t : Tr AObj} {n : Nat} {op : XOp} {o : AObj} {d : D} (h1 : callOf op = none) (h : aop t.get n (evT Γ (tm T)) op = .new o d) : OpR P Γ tp T ⟨t,n⟩ op d ⟨t.set n (some o),n + 1⟩ := .inl ⟨h1,by rw [h]; rfl⟩

/-! ### Moves -/

def qMv (dst : Option Nat) (r : RR) : OPc := fun rest T t n k => r T fun d => d.okC (pd dst d T fun T => rest T t n k)

theorem qMv_sound {dst : Option Nat} {x : Opd} : SoundOp P Γ tp (.mv x) dst (qMv dst (rd Γ x)) := by
  intro rest T t n k r h
  unfold qMv at h
  have h0 := rd_some h
  obtain ⟨h1,h2⟩ := D.okC_some h0
  rw [pd_eq] at h2
  exact ⟨_,⟨t,n⟩,.val rfl (by simp only [aop,h1,if_true]),h2⟩

def qPick (dst : Option Nat) (rc ra rb : RR) : OPc := fun rest T t n k => rc T fun c => c.onB fun b => Bool.rec (motive := fun _ => Ans) (rb T fun d => d.okC (pd dst d T fun T => rest T t n k)) (ra T fun d => d.okC (pd dst d T fun T => rest T t n k)) b

theorem qPick_sound {dst : Option Nat} {c a b : Opd} : SoundOp P Γ tp (.pick c a b) dst (qPick dst (rd Γ c) (rd Γ a) (rd Γ b)) := by
  intro rest T t n k r h
  unfold qPick at h
  have h0 := rd_some h
  obtain ⟨x,h1,h2⟩ := D.onB_some h0
  cases x with
  | true =>
    have h2' : rd Γ a T (fun d => d.okC (pd dst d T fun T => rest T t n k)) = some r := h2
    have h3 := rd_some h2'
    obtain ⟨h3,h4⟩ := D.okC_some h3
    rw [pd_eq] at h4
    exact ⟨_,⟨t,n⟩,.val rfl (by simp only [aop,h1,h3,if_true]),h4⟩
  | false =>
    have h2' : rd Γ b T (fun d => d.okC (pd dst d T fun T => rest T t n k)) = some r := h2
    have h3 := rd_some h2'
    obtain ⟨h3,h4⟩ := D.okC_some h3
    rw [pd_eq] at h4
    exact ⟨_,⟨t,n⟩,.val rfl (by simp only [aop,h1,h3,if_true]),h4⟩

/-! ### Two operands -/

def iEq (x y : Int) : Bool := Int.rec (motive := fun _ => Bool) (fun m => Int.rec (motive := fun _ => Bool) (fun m' => Nat.beq m m') (fun _ => false) y) (fun m => Int.rec (motive := fun _ => Bool) (fun _ => false) (fun m' => Nat.beq m m') y) x
theorem iEq_eq (x y : Int) : iEq x y = (x == y) := by
  cases x <;> cases y <;> simp only [iEq] <;> rw [Bool.eq_iff_iff] <;> simp [Nat.beq_eq]
  omega
def iLt (x y : Int) : Bool := Int.rec (motive := fun _ => Bool) (fun m => Int.rec (motive := fun _ => Bool) (fun m' => Nat.ble (m + 1) m') (fun _ => false) y) (fun m => Int.rec (motive := fun _ => Bool) (fun _ => true) (fun m' => Nat.ble (m' + 1) m) y) x
theorem iLt_eq (x y : Int) : iLt x y = decide (x < y) := by
  cases x <;> cases y <;> simp only [iLt] <;> rw [Bool.eq_iff_iff] <;> simp only [Nat.ble_eq,decide_eq_true_eq,Bool.false_eq_true,false_iff,true_iff,Int.ofNat_eq_natCast] <;> omega

abbrev BI := IntKind → IntKind → Int → Int → (D → Ans) → Ans
abbrev BS := List UInt8 → List UInt8 → (D → Ans) → Ans

def kC (k k' : IntKind) (a : Ans) : Ans := Bool.rec (motive := fun _ => Ans) none a (Nat.beq (kIx k) (kIx k'))
theorem kC_some {k k' : IntKind} {a : Ans} {r : D × S} (h : kC k k' a = some r) : k = k' ∧ a = some r := by
  unfold kC at h
  cases hb : Nat.beq (kIx k) (kIx k') with
  | true => rw [hb] at h; exact ⟨kIx_inj hb,h⟩
  | false => rw [hb] at h; cases h

def biGen (op : BinOp) : BI := fun k k' x y c => Option.rec (motive := fun _ => Ans) none (fun d => fD d c) (binD op (.i k x) (.i k' y))
def biAdd : BI := fun k k' x y c => kC k k' (wrapC k (x + y) fun z => c (.i k z))
def biSub : BI := fun k k' x y c => kC k k' (wrapC k (x - y) fun z => c (.i k z))
def biEql : BI := fun k k' x y c => kC k k' (fB (iEq x y) fun b => c (.b b))
def biNeq : BI := fun k k' x y c => kC k k' (Bool.rec (motive := fun _ => Ans) (c (.b true)) (c (.b false)) (iEq x y))
def biLss : BI := fun k k' x y c => kC k k' (fB (iLt x y) fun b => c (.b b))
def biGtr : BI := fun k k' x y c => kC k k' (fB (iLt y x) fun b => c (.b b))
def biLeq : BI := fun k k' x y c => kC k k' (Bool.rec (motive := fun _ => Ans) (c (.b true)) (c (.b false)) (iLt y x))
def biGeq : BI := fun k k' x y c => kC k k' (Bool.rec (motive := fun _ => Ans) (c (.b true)) (c (.b false)) (iLt x y))

def biOf (op : BinOp) : BI :=
  match op with
  | .add => biAdd | .sub => biSub | .eql => biEql | .neq => biNeq | .lss => biLss | .gtr => biGtr | .leq => biLeq | .geq => biGeq
  | op => biGen op

def bsOf (op : BinOp) : BS := fun x y c => Option.rec (motive := fun _ => Ans) none (fun d => fD d c) (astr op x y)

theorem biGen_some {op : BinOp} {k k' : IntKind} {x y : Int} {c : D → Ans} {r : D × S} (h : biGen op k k' x y c = some r) : ∃ d,binD op (.i k x) (.i k' y) = some d ∧ c d = some r := by
  unfold biGen at h
  cases hb : binD op (.i k x) (.i k' y) with
  | none => rw [hb] at h; cases h
  | some d =>
    rw [hb] at h
    exact ⟨d,rfl,by rw [← fD_eq d c]; exact h⟩

theorem biOf_some {op : BinOp} {k k' : IntKind} {x y : Int} {c : D → Ans} {r : D × S} (h : biOf op k k' x y c = some r) : ∃ d,binD op (.i k x) (.i k' y) = some d ∧ c d = some r := by
  cases op <;> simp only [biOf] at h
  case add =>
    obtain ⟨hk,hh⟩ := kC_some (by simpa only [biAdd,biSub,biEql,biNeq,biLss,biGtr,biLeq,biGeq] using h)
    subst hk
    clear h
    have h := hh
    clear hh
    rw [wrapC_eq] at h
    exact ⟨_,by simp only [binD,if_true,abin],h⟩
  case sub =>
    obtain ⟨hk,hh⟩ := kC_some (by simpa only [biAdd,biSub,biEql,biNeq,biLss,biGtr,biLeq,biGeq] using h)
    subst hk
    clear h
    have h := hh
    clear hh
    rw [wrapC_eq] at h
    exact ⟨_,by simp only [binD,if_true,abin],h⟩
  case eql =>
    obtain ⟨hk,hh⟩ := kC_some (by simpa only [biAdd,biSub,biEql,biNeq,biLss,biGtr,biLeq,biGeq] using h)
    subst hk
    clear h
    have h := hh
    clear hh
    rw [fB_eq,iEq_eq] at h
    exact ⟨_,by simp only [binD,if_true,abin],h⟩
  case neq =>
    obtain ⟨hk,hh⟩ := kC_some (by simpa only [biAdd,biSub,biEql,biNeq,biLss,biGtr,biLeq,biGeq] using h)
    subst hk
    clear h
    have h := hh
    clear hh
    refine ⟨.b (x != y),by simp only [binD,if_true,abin],?_⟩
    rw [iEq_eq] at h
    unfold bne
    revert h
    cases x == y <;> exact fun h => h
  case lss =>
    obtain ⟨hk,hh⟩ := kC_some (by simpa only [biAdd,biSub,biEql,biNeq,biLss,biGtr,biLeq,biGeq] using h)
    subst hk
    clear h
    have h := hh
    clear hh
    rw [fB_eq,iLt_eq] at h
    exact ⟨_,by simp only [binD,if_true,abin],h⟩
  case gtr =>
    obtain ⟨hk,hh⟩ := kC_some (by simpa only [biAdd,biSub,biEql,biNeq,biLss,biGtr,biLeq,biGeq] using h)
    subst hk
    clear h
    have h := hh
    clear hh
    rw [fB_eq,iLt_eq] at h
    exact ⟨_,by simp only [binD,if_true,abin],h⟩
  case leq =>
    obtain ⟨hk,hh⟩ := kC_some (by simpa only [biAdd,biSub,biEql,biNeq,biLss,biGtr,biLeq,biGeq] using h)
    subst hk
    clear h
    have h := hh
    clear hh
    refine ⟨.b (decide (x ≤ y)),by simp only [binD,if_true,abin],?_⟩
    have e : decide (x ≤ y) = !iLt y x := by rw [iLt_eq,Bool.eq_iff_iff]; simp
    rw [e]
    revert h
    cases iLt y x <;> exact fun h => h
  case geq =>
    obtain ⟨hk,hh⟩ := kC_some (by simpa only [biAdd,biSub,biEql,biNeq,biLss,biGtr,biLeq,biGeq] using h)
    subst hk
    clear h
    have h := hh
    clear hh
    refine ⟨.b (decide (x ≥ y)),by simp only [binD,if_true,abin],?_⟩
    have e : decide (x ≥ y) = !iLt x y := by rw [iLt_eq,Bool.eq_iff_iff]; simp
    rw [e]
    revert h
    cases iLt x y <;> exact fun h => h
  all_goals exact biGen_some h

def qBin (dst : Option Nat) (bi : BI) (bs : BS) (r1 r2 : RR) : OPc := fun rest T t n k => r1 T fun a => r2 T fun b =>
  a.onIS (fun kd x => b.onI fun kd' y => bi kd kd' x y fun d => pd dst d T fun T => rest T t n k) (fun x => b.onS fun y => bs x y fun d => pd dst d T fun T => rest T t n k)

theorem qBin_sound {dst : Option Nat} {op : BinOp} {x y : Opd} : SoundOp P Γ tp (.bin op x y) dst (qBin dst (biOf op) (bsOf op) (rd Γ x) (rd Γ y)) := by
  intro rest T t n k r h
  unfold qBin at h
  have h0 := rd_some h
  have h1 := rd_some h0
  rcases D.onIS_some h1 with ⟨kd,a,e1,h2⟩ | ⟨a,e1,h2⟩
  · obtain ⟨kd',b,e2,h3⟩ := D.onI_some h2
    obtain ⟨d,h4,h5⟩ := biOf_some h3
    rw [pd_eq] at h5
    exact ⟨d,⟨t,n⟩,.val rfl (by simp only [aop,e1,e2,h4,ofO]),h5⟩
  · obtain ⟨b,e2,h3⟩ := D.onS_some h2
    unfold bsOf at h3
    cases hb : astr op a b with
    | none => rw [hb] at h3; cases h3
    | some d =>
      rw [hb] at h3
      have h4 : fD d (fun d => pd dst d T fun T => rest T t n k) = some r := h3
      rw [fD_eq,pd_eq] at h4
      exact ⟨d,⟨t,n⟩,.val rfl (by simp only [aop,e1,e2,binD,hb,ofO]),h4⟩

/-! ### Memory -/

def qLd1 (dst : Option Nat) (r : RR) : OPc := fun rest T t n k => r T fun a =>
  a.onP (fun l off => t.getC l fun o => o.onC fun cs _ => nthC cs off fun d => pd dst d T fun T => rest T t n k) (fun cs => nthC cs 0 fun d => pd dst d T fun T => rest T t n k)

theorem qLd1_sound {dst : Option Nat} {x : Opd} : SoundOp P Γ tp (.ld false 1 x) dst (qLd1 dst (rd Γ x)) := by
  intro rest T t n k r h
  unfold qLd1 at h
  have h0 := rd_some h
  rcases D.onP_some h0 with ⟨l,off,e,h1⟩ | ⟨cs,e,h1⟩
  · obtain ⟨o,h2,h3⟩ := Tr.getC_some h1
    obtain ⟨cs,odd,rfl,h4⟩ := AObj.onC_some h3
    obtain ⟨d,h5,h6⟩ := nthC_some h4
    rw [pd_eq] at h6
    refine ⟨d,⟨t,n⟩,.val rfl ?_,h6⟩
    have hlt := (List.getElem?_eq_some_iff.1 h5).1
    simp only [aop,e,ldCells,h2,if_pos (show off + 1 ≤ cs.length from hlt),Bool.false_eq_true,if_false]
    rw [List.getElem?_take_of_lt (by omega),List.getElem?_drop,Nat.add_zero,h5]; rfl
  · obtain ⟨d,h5,h6⟩ := nthC_some h1
    rw [pd_eq] at h6
    refine ⟨d,⟨t,n⟩,.val rfl ?_,h6⟩
    have hlt := (List.getElem?_eq_some_iff.1 h5).1
    simp only [aop,e,ldCells,if_pos (show 1 ≤ cs.length from hlt),Bool.false_eq_true,if_false]
    rw [List.getElem?_take_of_lt (by omega),h5]; rfl

def qLdA (dst : Option Nat) (m : Nat) (r : RR) : OPc := fun rest T t n k => r T fun a =>
  a.onP (fun l off => t.getC l fun o => o.onC fun cs _ => dropC off cs fun cs => takeC m cs fun cs => pd dst (.agg cs) T fun T => rest T t n k) (fun cs => takeC m cs fun cs => pd dst (.agg cs) T fun T => rest T t n k)

theorem qLdA_sound {dst : Option Nat} {m : Nat} {x : Opd} : SoundOp P Γ tp (.ld true m x) dst (qLdA dst m (rd Γ x)) := by
  intro rest T t n k r h
  unfold qLdA at h
  have h0 := rd_some h
  rcases D.onP_some h0 with ⟨l,off,e,h1⟩ | ⟨cs,e,h1⟩
  · obtain ⟨o,h2,h3⟩ := Tr.getC_some h1
    obtain ⟨cs,odd,rfl,h4⟩ := AObj.onC_some h3
    obtain ⟨h5,h6⟩ := dropC_some h4
    obtain ⟨h7,h8⟩ := takeC_some h6
    rw [pd_eq] at h8
    refine ⟨_,⟨t,n⟩,.val rfl ?_,h8⟩
    rw [List.length_drop] at h7
    simp only [aop,e,ldCells,h2,if_pos (show off + m ≤ cs.length by omega),if_true]
  · obtain ⟨h7,h8⟩ := takeC_some h1
    rw [pd_eq] at h8
    refine ⟨_,⟨t,n⟩,.val rfl ?_,h8⟩
    simp only [aop,e,ldCells,if_pos h7,if_true]

def qSt (dst : Option Nat) (m : Nat) (r1 r2 : RR) : OPc := fun rest T t n k => r1 T fun a => r2 T fun v =>
  a.onP (fun l off => t.getC l fun o => o.onC fun cs odd => v.onC fun ds => Bool.rec (motive := fun _ => Ans) none (splC ds off cs fun cs => t.putC l (some (.cells cs odd)) fun t => pd dst (.tup []) T fun T => rest T t n k) (Nat.beq ds.length m)) (fun _ => none)

theorem qSt_sound {dst : Option Nat} {m : Nat} {x y : Opd} : SoundOp P Γ tp (.st m x y) dst (qSt dst m (rd Γ x) (rd Γ y)) := by
  intro rest T t n k r h
  unfold qSt at h
  have h00 := rd_some h
  have h0 := rd_some h00
  rcases D.onP_some h0 with ⟨l,off,e,h1⟩ | ⟨cs,e,h1⟩
  · obtain ⟨o,h2,h3⟩ := Tr.getC_some h1
    obtain ⟨cs,odd,rfl,h4⟩ := AObj.onC_some h3
    obtain ⟨h5,h6⟩ := D.onC_some h4
    cases hb : Nat.beq (evT Γ (tm T) y).cells.length m with
    | false => rw [hb] at h6; cases h6
    | true =>
      rw [hb] at h6
      have hm := Nat.eq_of_beq_eq_true hb
      obtain ⟨h7,h8⟩ := splC_some h6
      rw [Tr.putC_eq,pd_eq] at h8
      refine ⟨_,⟨t.set l (some (.cells (splice cs off (evT Γ (tm T) y).cells) odd)),n⟩,.upd rfl ?_,h8⟩
      simp only [aop,e,h2]
      rw [if_pos ⟨hm,by omega,h5⟩]
  · cases h1

def qFaddr (dst : Option Nat) (off : Nat) (r : RR) : OPc := fun rest T t n k => r T fun a =>
  a.onP (fun l o => fN (o + off) fun o => pd dst (.ptr l o) T fun T => rest T t n k) (fun cs => dropC off cs fun cs => pd dst (.fptr cs) T fun T => rest T t n k)

theorem qFaddr_sound {dst : Option Nat} {off : Nat} {x : Opd} : SoundOp P Γ tp (.faddr off x) dst (qFaddr dst off (rd Γ x)) := by
  intro rest T t n k r h
  unfold qFaddr at h
  have h0 := rd_some h
  rcases D.onP_some h0 with ⟨l,o,e,h1⟩ | ⟨cs,e,h1⟩
  · rw [fN_eq,pd_eq] at h1
    exact ⟨_,⟨t,n⟩,.val rfl (by simp only [aop,e]),h1⟩
  · obtain ⟨h2,h3⟩ := dropC_some h1
    rw [pd_eq] at h3
    exact ⟨_,⟨t,n⟩,.val rfl (by simp only [aop,e,if_pos h2]),h3⟩

def iNat (i : Int) (f : Nat → Ans) : Ans := Int.rec (motive := fun _ => Ans) f (fun _ => none) i
theorem iNat_some {i : Int} {f : Nat → Ans} {r : D × S} (h : iNat i f = some r) : ∃ m,i = Int.ofNat m ∧ f m = some r := by
  cases i with
  | ofNat m => exact ⟨m,rfl,h⟩
  | negSucc m => cases h

def ltC (m len : Nat) (a : Ans) : Ans := Bool.rec (motive := fun _ => Ans) none a (Nat.ble (m + 1) len)
theorem ltC_some {m len : Nat} {a : Ans} {r : D × S} (h : ltC m len a = some r) : m < len ∧ a = some r := by
  unfold ltC at h
  cases hb : Nat.ble (m + 1) len with
  | true => rw [hb] at h; exact ⟨Nat.le_of_ble_eq_true hb,h⟩
  | false => rw [hb] at h; cases h

def qIaddrA (dst : Option Nat) (len sz : Nat) (r1 r2 : RR) : OPc := fun rest T t n k => r1 T fun a => r2 T fun i => i.onI fun _ i => iNat i fun m => ltC m len
  (a.onP (fun l o => fN (o + m * sz) fun o => pd dst (.ptr l o) T fun T => rest T t n k) (fun cs => dropC (m * sz) cs fun cs => pd dst (.fptr cs) T fun T => rest T t n k))

theorem qIaddrA_sound {dst : Option Nat} {len sz : Nat} {x y : Opd} : SoundOp P Γ tp (.iaddrA len sz x y) dst (qIaddrA dst len sz (rd Γ x) (rd Γ y)) := by
  intro rest T t n k r h
  unfold qIaddrA at h
  have h00 := rd_some h
  have h0 := rd_some h00
  obtain ⟨kd,i,e1,h1⟩ := D.onI_some h0
  obtain ⟨m,rfl,h2⟩ := iNat_some h1
  obtain ⟨h3,h4⟩ := ltC_some h2
  have hm : (0 : Int) ≤ Int.ofNat m ∧ Int.ofNat m < (len : Int) := ⟨Int.natCast_nonneg m,by show (m : Int) < len; omega⟩
  rcases D.onP_some h4 with ⟨l,o,e,h5⟩ | ⟨cs,e,h5⟩
  · rw [fN_eq,pd_eq] at h5
    refine ⟨_,⟨t,n⟩,.val rfl ?_,h5⟩
    simp only [aop,e,e1,if_pos hm]
    rfl
  · obtain ⟨h6,h7⟩ := dropC_some h5
    rw [pd_eq] at h7
    refine ⟨_,⟨t,n⟩,.val rfl ?_,h7⟩
    simp only [aop,e,e1]
    rw [if_pos ⟨hm.1,hm.2,h6⟩]
    rfl

def qConvI (dst : Option Nat) (kd : IntKind) (r : RR) : OPc := fun rest T t n k => r T fun a => a.onI fun _ x => wrapC kd x fun x => pd dst (.i kd x) T fun T => rest T t n k

theorem qConvI_sound {dst : Option Nat} {kd : IntKind} {x : Opd} : SoundOp P Γ tp (.convI kd x) dst (qConvI dst kd (rd Γ x)) := by
  intro rest T t n k r h
  unfold qConvI at h
  have h0 := rd_some h
  obtain ⟨kd',i,e1,h1⟩ := D.onI_some h0
  rw [wrapC_eq,pd_eq] at h1
  exact ⟨_,⟨t,n⟩,.val rfl (by simp only [aop,e1]),h1⟩

def qAlloc (dst : Option Nat) (z : List D) (m : Nat) : OPc := fun rest T t n k => t.putC n (some (.cells z m)) fun t => pd dst (.ptr n 0) T fun T => fN (n + 1) fun n => rest T t n k

theorem qAlloc_sound {dst : Option Nat} {z : List D} {m : Nat} : SoundOp P Γ tp (.alloc z m) dst (qAlloc dst z m) := by
  intro rest T t n k r h
  unfold qAlloc at h
  rw [Tr.putC_eq,pd_eq,fN_eq] at h
  exact ⟨_,⟨t.set n (some (.cells z m)),n + 1⟩,.new rfl (by simp only [aop]),h⟩

def qBox (dst : Option Nat) (r : RR) : OPc := fun rest T t n k => r T fun v => v.onC fun cs => t.putC n (some (.cells cs 0)) fun t => pd dst (.ptr n 0) T fun T => fN (n + 1) fun n => rest T t n k

theorem qBox_sound {dst : Option Nat} {x : Opd} : SoundOp P Γ tp (.box x) dst (qBox dst (rd Γ x)) := by
  intro rest T t n k r h
  unfold qBox at h
  have h0 := rd_some h
  obtain ⟨h1,h2⟩ := D.onC_some h0
  rw [Tr.putC_eq,pd_eq,fN_eq] at h2
  exact ⟨_,⟨t.set n (some (.cells (evT Γ (tm T) x).cells 0)),n + 1⟩,.new rfl (by simp only [aop,h1,if_true]),h2⟩

def qNil (dst : Option Nat) (r : RR) : OPc := fun rest T t n k => r T fun d => d.nnC (pd dst d T fun T => rest T t n k)

theorem qNil_sound {dst : Option Nat} {x : Opd} : SoundOp P Γ tp (.nilchk x) dst (qNil dst (rd Γ x)) := by
  intro rest T t n k r h
  unfold qNil at h
  have h1 := rd_some h
  have key : aop t.get n (evT Γ (tm T)) (.nilchk x) = .val (evT Γ (tm T) x) ∧ pd dst (evT Γ (tm T) x) T (fun T => rest T t n k) = some r := by
    simp only [aop]
    revert h1
    generalize evT Γ (tm T) x = d
    intro h1
    cases d
    case fn f a c =>
      cases f with
      | func m => exact ⟨rfl,h1⟩
      | _ => cases h1
    all_goals first | exact ⟨rfl,h1⟩ | cases h1
  rw [pd_eq] at key
  exact ⟨_,⟨t,n⟩,.val rfl key.1,key.2⟩

/-! ### Calls, and all others -/

def KOk (P : Program) (Γ : Nat → D) (call : CallK) : Prop :=
  ∀ (f : FuncId) (args : List D) (t : Tr AObj) (n : Nat) (k : D → Tr AObj → Nat → Ans) (r : D × S),call f args t n k = some r → ∃ (d : D) (s' : S),CX P Γ f args (S.mk t n).h d s'.h ∧ k d s'.t s'.n = some r

def YOk (P : Program) (Γ : Nat → D) (yl : YldK) : Prop :=
  ∀ (l : Nat) (args : List D) (t : Tr AObj) (n : Nat) (k : D → Tr AObj → Nat → Ans) (r : D × S),yl l args t n k = some r → ∃ (d : D) (s' : S),YX P Γ l args (S.mk t n).h d s'.h ∧ k d s'.t s'.n = some r

def qCall (call : CallK) (yl : YldK) (dst : Option Nat) (rf : RR) (rs : List RR) : OPc := fun rest T t n k => rf T fun f => f.onFY (fun f first caps => rdL rs T fun args => fLg (fun d k => k d) (first ++ args ++ caps) fun args => call f args t n fun d t n => pd dst d T fun T => rest T t n k)
  (fun l => rdL rs T fun args => yl l args t n fun d t n => pd dst d T fun T => rest T t n k)

theorem qCall_sound {call : CallK} {yl : YldK} (hc : KOk P Γ call) (hy : YOk P Γ yl) {dst : Option Nat} {fo : Opd} {args : List Opd} : SoundOp P Γ tp (.call fo args) dst (qCall call yl dst (rd Γ fo) (args.map (rd Γ))) := by
  intro rest T t n k r h
  unfold qCall at h
  have h0 := rd_some h
  rcases D.onFY_some h0 with ⟨f,first,caps,e1,h1⟩ | ⟨l,e1,h1⟩
  · obtain ⟨h2,h3⟩ := rdL_some h1
    rw [fLg_eq (fun _ _ => rfl)] at h3
    obtain ⟨d,s',h4,h5⟩ := hc _ _ _ _ _ _ h3
    rw [pd_eq] at h5
    exact ⟨d,s',.inr (.inl ⟨fo,args,f,first,caps,rfl,e1,h2,h4⟩),h5⟩
  · obtain ⟨h2,h3⟩ := rdL_some h1
    obtain ⟨d,s',h4,h5⟩ := hy _ _ _ _ _ _ h3
    rw [pd_eq] at h5
    exact ⟨d,s',.inr (.inr (.inl ⟨fo,args,l,rfl,e1,h2,h4⟩)),h5⟩

def QsOk (P : Program) (tp : Bool) (qs : Nat → Bool) : Prop := ∀ f,qs f = true → tp = true ∧ bodied P f = true ∧ QuietD P f

def qDefer (qs : Nat → Bool) (dst : Option Nat) (rf : RR) : OPc := fun rest T t n k => rf T fun f => f.onF fun f first caps => match first,caps with | [],[_,_,_] => Bool.rec (motive := fun _ => Ans) none (pd dst (.tup []) T fun T => rest T t n k) (qs f) | _,_ => none

theorem qDefer_sound {qs : Nat → Bool} (hq : QsOk P tp qs) {dst : Option Nat} {fo : Opd} : SoundOp P Γ tp (.defer fo []) dst (qDefer qs dst (rd Γ fo)) := by
  intro rest T t n k r h
  unfold qDefer at h
  have h0 := rd_some h
  obtain ⟨f,first,caps,e1,h1⟩ := D.onF_some h0
  split at h1
  · cases hb : qs f with
    | false => rw [hb] at h1; cases h1
    | true =>
      rw [hb] at h1
      have h2 : pd dst (.tup []) T (fun T => rest T t n k) = some r := h1
      rw [pd_eq] at h2
      obtain ⟨q1,q2,q3⟩ := hq f hb
      exact ⟨_,⟨t,n⟩,.inr (.inr (.inr ⟨q1,fo,f,_,_,_,rfl,e1,q2,q3,rfl,rfl⟩)),h2⟩
  · cases h1

def gVal (dst : Option Nat) (T : Tr D) (t : Tr AObj) (n : Nat) (rest : QQ) (k : Tr D → Tr AObj → Nat → Ans) (d : D) : Ans := fD d fun d => pd dst d T fun T => rest T t n k
def gUpd (dst : Option Nat) (T : Tr D) (t : Tr AObj) (n : Nat) (rest : QQ) (k : Tr D → Tr AObj → Nat → Ans) (l : Nat) (o : AObj) (d : D) : Ans := fN l fun l => fO o fun o => fD d fun d => t.putC l (some o) fun t => pd dst d T fun T => rest T t n k
def gNew (dst : Option Nat) (T : Tr D) (t : Tr AObj) (n : Nat) (rest : QQ) (k : Tr D → Tr AObj → Nat → Ans) (o : AObj) (d : D) : Ans := fO o fun o => fD d fun d => t.putC n (some o) fun t => pd dst d T fun T => fN (n + 1) fun n => rest T t n k
def gApp (dst : Option Nat) (T : Tr D) (t : Tr AObj) (n : Nat) (rest : QQ) (k : Tr D → Tr AObj → Nat → Ans) (l : Nat) (o : AObj) (d : D) : Ans := fN l fun l => fO o fun o => fD d fun d => t.putC l none fun t => t.putC n (some o) fun t => pd dst d T fun T => fN (n + 1) fun n => rest T t n k

def qGen (Γ : Nat → D) (dst : Option Nat) (act : (Nat → Option AObj) → Nat → (Opd → D) → AR) : OPc := fun rest T t n k =>
  AR.rec (motive := fun _ => Ans) (gVal dst T t n rest k) (gUpd dst T t n rest k) (gNew dst T t n rest k) (gApp dst T t n rest k) (fun _ => none) none (act t.get n (evT Γ (tm T)))

theorem qGen_sound {dst : Option Nat} {op : XOp} (hop : callOf op = none) : SoundOp P Γ tp op dst (qGen Γ dst fun g n e => aopF g n e op) := by
  intro rest T t n k r h
  unfold qGen at h
  simp only [aopF_eq] at h
  cases ha : aop t.get n (evT Γ (tm T)) op with
  | val d =>
    rw [ha] at h
    have h1 : fD d (fun d => pd dst d T fun T => rest T t n k) = some r := h
    rw [fD_eq,pd_eq] at h1
    exact ⟨d,⟨t,n⟩,.val hop ha,h1⟩
  | upd l o d =>
    rw [ha] at h
    have h1 : fN l (fun l => fO o fun o => fD d fun d => t.putC l (some o) fun t => pd dst d T fun T => rest T t n k) = some r := h
    rw [fN_eq,fO_eq,fD_eq,Tr.putC_eq,pd_eq] at h1
    exact ⟨d,⟨t.set l (some o),n⟩,.upd hop ha,h1⟩
  | new o d =>
    rw [ha] at h
    have h1 : fO o (fun o => fD d fun d => t.putC n (some o) fun t => pd dst d T fun T => fN (n + 1) fun n => rest T t n k) = some r := h
    rw [fO_eq,fD_eq,Tr.putC_eq,pd_eq,fN_eq] at h1
    exact ⟨d,⟨t.set n (some o),n + 1⟩,.new hop ha,h1⟩
  | app l o d =>
    rw [ha] at h
    have h1 : fN l (fun l => fO o fun o => fD d fun d => t.putC l none fun t => t.putC n (some o) fun t => pd dst d T fun T => fN (n + 1) fun n => rest T t n k) = some r := h
    rw [fN_eq,fO_eq,fD_eq,Tr.putC_eq,Tr.putC_eq,pd_eq,fN_eq] at h1
    exact ⟨d,⟨(t.set l none).set n (some o),n + 1⟩,.inl ⟨hop,by rw [ha]; rfl⟩,h1⟩
  | panic d => rw [ha] at h; cases h
  | bad => rw [ha] at h; cases h

def denX (Γ : Nat → D) (call : CallK) (yl : YldK) (qs : Nat → Bool) (dst : Option Nat) (op : XOp) : OPc :=
  match op with
  | .mv x => qMv dst (rd Γ x)
  | .pick c a b => qPick dst (rd Γ c) (rd Γ a) (rd Γ b)
  | .bin op x y => qBin dst (biOf op) (bsOf op) (rd Γ x) (rd Γ y)
  | .ld false 1 x => qLd1 dst (rd Γ x)
  | .ld true m x => qLdA dst m (rd Γ x)
  | .st m x y => qSt dst m (rd Γ x) (rd Γ y)
  | .faddr off x => qFaddr dst off (rd Γ x)
  | .iaddrA len sz x y => qIaddrA dst len sz (rd Γ x) (rd Γ y)
  | .convI kd x => qConvI dst kd (rd Γ x)
  | .alloc z m => qAlloc dst z m
  | .box x => qBox dst (rd Γ x)
  | .nilchk x => qNil dst (rd Γ x)
  | .call fo args => qCall call yl dst (rd Γ fo) (args.map (rd Γ))
  | .defer fo [] => qDefer qs dst (rd Γ fo)
  | op => qGen Γ dst fun g n e => aopF g n e op

theorem denX_sound {call : CallK} {yl : YldK} (hc : KOk P Γ call) (hy : YOk P Γ yl) {qs : Nat → Bool} (hq : QsOk P tp qs) (dst : Option Nat) (op : XOp) : SoundOp P Γ tp op dst (denX Γ call yl qs dst op) := by
  unfold denX
  split
  · exact qMv_sound
  · exact qPick_sound
  · exact qBin_sound
  · exact qLd1_sound
  · exact qLdA_sound
  · exact qSt_sound
  · exact qFaddr_sound
  · exact qIaddrA_sound
  · exact qConvI_sound
  · exact qAlloc_sound
  · exact qBox_sound
  · exact qNil_sound
  · exact qCall_sound hc hy
  · exact qDefer_sound hq
  · rename_i opx h1 h2 h3 h4 h5 h6 h7 h8 h9 h10 h11 h12 h13 h14
    refine qGen_sound ?_
    cases hh : callOf op with
    | none => rfl
    | some p => exact absurd (callOf_eq (f := p.1) (args := p.2) hh) (h13 _ _)

def qSkip (dst : Option Nat) : OPc := fun rest T t n k => pd dst (.tup []) T fun T => rest T t n k

def qG (j : Nat) (w : Bool) (dst : Option Nat) (o : OPc) : OPc := fun rest T t n k => T.getC j fun d => d.onG (fun x => Bool.rec (motive := fun _ => Ans) (qSkip dst rest T t n k) (o rest T t n k) (x == w)) (qSkip dst rest T t n k)

def denO (Γ : Nat → D) (call : CallK) (yl : YldK) (qs : Nat → Bool) (x : XOper) : OPc :=
  match x.guard with
  | none => denX Γ call yl qs x.dst x.op
  | some (j,w) => qG j w x.dst (denX Γ call yl qs x.dst x.op)

theorem denO_sound {call : CallK} {yl : YldK} (hc : KOk P Γ call) (hy : YOk P Γ yl) {qs : Nat → Bool} (hq : QsOk P tp qs) (x : XOper) {rest : QQ} {T : Tr D} {t : Tr AObj} {n : Nat} {k : Tr D → Tr AObj → Nat → Ans} {r : D × S} (h : denO Γ call yl qs x rest T t n k = some r) :
    ∃ T' s',StepR P Γ tp x T ⟨t,n⟩ T' s' ∧ rest T' s'.t s'.n k = some r := by
  obtain ⟨dst,op,guard⟩ := x
  cases guard with
  | none =>
    obtain ⟨d,s',h1,h2⟩ := denX_sound hc hy hq dst op rest T t n k r h
    exact ⟨_,s',.inr ⟨rfl,d,rfl,h1⟩,h2⟩
  | some p =>
    obtain ⟨j,w⟩ := p
    obtain ⟨d,h1,h2⟩ := Tr.getC_some (t := T) (n := j) h
    have htm : tm T j = d := by simp only [tm,h1,Option.getD_some]
    have skip : ∀ (hg : guardX (tm T) (some (j,w)) = some false),qSkip dst rest T t n k = some r → ∃ T' s',StepR P Γ tp ⟨dst,op,some (j,w)⟩ T ⟨t,n⟩ T' s' ∧ rest T' s'.t s'.n k = some r := fun hg h3 => by
      unfold qSkip at h3
      rw [pd_eq] at h3
      exact ⟨_,⟨t,n⟩,.inl ⟨hg,rfl,rfl⟩,h3⟩
    rcases D.onG_some h2 with ⟨x,rfl,h3⟩ | ⟨rfl,h3⟩
    · have hg : guardX (tm T) (some (j,w)) = some (x == w) := by simp only [guardX,htm]
      revert h3
      cases hx : x == w with
      | false => intro h3; exact skip (hx ▸ hg) h3
      | true =>
        intro h3
        obtain ⟨d,s',h4,h5⟩ := denX_sound hc hy hq dst op rest T t n k r h3
        exact ⟨_,s',.inr ⟨hx ▸ hg,d,rfl,h4⟩,h5⟩
    · exact skip (by simp only [guardX,htm]) h3

def qReg (os : List OPc) : QQ := List.rec (motive := fun _ => QQ) (fun T t n k => k T t n) (fun o _ ih => o ih) os

theorem qReg_sound {call : CallK} {yl : YldK} (hc : KOk P Γ call) (hy : YOk P Γ yl) {qs : Nat → Bool} (hq : QsOk P tp qs) : ∀ (xs : List XOper) {T : Tr D} {t : Tr AObj} {n : Nat} {k : Tr D → Tr AObj → Nat → Ans} {r : D × S},qReg (xs.map (denO Γ call yl qs)) T t n k = some r →
    ∃ T' s',RunR P Γ tp xs T ⟨t,n⟩ T' s' ∧ k T' s'.t s'.n = some r
  | [],T,t,n,k,r,h => ⟨T,⟨t,n⟩,.nil _ _,h⟩
  | x :: xs,T,t,n,k,r,h => by
    obtain ⟨T1,s1,h1,h2⟩ := denO_sound hc hy hq x (rest := qReg (xs.map (denO Γ call yl qs))) h
    obtain ⟨T2,s2,h3,h4⟩ := qReg_sound hc hy hq xs h2
    exact ⟨T2,s2,.cons h1 h3,h4⟩

end
end Go.Abs
end
