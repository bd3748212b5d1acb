/- Abs1: The abstract machine, part 1: data, operations with their types resolved, and what an operation does to data. No condition.
Abs2: The abstract machine, part 2: what an operation does to data; the weakest condition of a code. No condition.
Trie: Tries: what is put in comes out. No condition.
Abs3: The abstract machine, part 3: how data stand to the model's values and worlds. No condition.
Abs4: The abstract machine, part 4: each operation does to values what it does to data. No condition.
Abs5: The abstract machine, part 5: each operation, one by one. No condition.
Abs6: The abstract machine, part 6: more operations. No condition.
Abs7: The abstract machine, part 7: equality. No condition.
Abs8: The abstract machine, part 8: equality of aggregates, and keys. No condition.
Abs9: The abstract machine, part 9: more operations. No condition.
Abs10: The abstract machine, part 10: operations on values. No condition.
Abs11: The abstract machine, part 11: slices, lengths, iterators, assertions, literals. No condition.
Abs12: The abstract machine, part 12: slicing, bytes and strings, literals. No condition.
Abs13: The abstract machine, part 13: literals, copies, appends. No condition.
Abs14: The abstract machine, part 14: appends, copies, bytes. No condition.
Abs15: The abstract machine, part 15: bytes, function values, and the keys of maps. No condition.
Abs16: The abstract machine, part 16: maps. No condition.
Abs17: The abstract machine, part 17: what is done with maps. No condition.
Abs18: The abstract machine, part 18: every operation does to values what it does to data. No condition. -/
import Derived.Recover
import Derived.Scope
import Derived.KernelRfl
import Derived.Laws.Sem
import Derived.Laws.Entries
import Derived.Laws.Cells
import Derived.Laws.Append
import Derived.Laws.IdiomCopy
import Derived.Laws.StructEq
import Derived.ChangeKeysEq
import Derived.Laws.BytesString
set_option linter.unusedVariables false
set_option linter.unusedSimpArgs false
noncomputable section
namespace Go.Abs
open Go

inductive D where
  | b (x : Bool)
  | i (k : IntKind) (n : Int)
  | s (x : List UInt8)
  | nilp
  | ptr (l off : Nat)
  | fptr (cs : List D)
  | nils
  | sl (sz l off len : Nat)
  | fz (sz : Nat) (es : List D)
  | nilm
  | mp (l : Nat)
  | fn (f : Fn) (first caps : List D)
  | yld (l : Nat)
  | nilf
  | ifc (t : Nat) (d : D)
  | nili
  | agg (cs : List D)
  | tup (cs : List D)
  | bad
  deriving Inhabited

def D.cells : D → List D
  | .agg cs => cs
  | d => [d]

def D.one : D → Bool
  | .agg _ | .tup _ | .bad => false
  | _ => true

def D.val : D → Bool
  | .tup _ | .bad => false
  | _ => true

def D.ok : D → Bool
  | .bad => false
  | _ => true

inductive Opd where
  | t (n : Nat)
  | c (d : D)
  | g (n : Nat)
  | f (n : Nat)
  deriving Inhabited

inductive Leaf where
  | b | i | s | p | sl | m | f
  | ifc (safe : Bool)
  deriving Inhabited

inductive TEq where
  | leaf (k : Leaf)
  | cells (n : Nat) (l : List (Nat × Leaf))
  | no
  deriving Inhabited

inductive XOp where
  | mv (x : Opd)
  | pick (c a b : Opd)
  | alloc (z : List D) (m : Nat)
  | box (x : Opd)
  | build (z : List D) (ps : List (Nat × Nat × Opd))
  | bslice (sz : Nat) (z : List D) (ps : List (Nat × Nat × Opd)) (len : Nat)
  | ld (agg : Bool) (n : Nat) (a : Opd)
  | st (n : Nat) (a v : Opd)
  | nilchk (x : Opd)
  | bin (op : BinOp) (x y : Opd)
  | eq (neg : Bool) (te : TEq) (x y : Opd)
  | un (op : UnOp) (x : Opd)
  | convI (k : IntKind) (x : Opd)
  | convS (x : Opd)
  | convBS (x : Opd)
  | convSB (x : Opd)
  | mrk (x : Opd)
  | mkif (t : Nat) (x : Opd)
  | mkfn (f : Fn) (first caps : List Opd)
  | mkmap
  | mkslice (bytes : Nat) (z : List D) (len cap : Opd)
  | slcS (x : Opd) (lo hi : Option Opd)
  | slc (sz : Nat) (x : Opd) (lo hi : Option Opd)
  | slcA (n sz : Nat) (x : Opd) (lo hi : Option Opd)
  | faddr (off : Nat) (x : Opd)
  | fld (agg : Bool) (off n : Nat) (x : Opd)
  | iaddrA (len sz : Nat) (x i : Opd)
  | iaddr (sz : Nat) (x i : Opd)
  | idxA (len sz : Nat) (agg : Bool) (x i : Opd)
  | idxS (x i : Opd)
  | look (te : TEq) (z : D) (ok : Bool) (m k : Opd)
  | mupd (te : TEq) (m k v : Opd)
  | ins (te : TEq) (m k v : Opd)
  | ment (te : TEq) (z : D) (m k : Opd)
  | estore (m st v : Opd)
  | ext (x : Opd) (i : Nat)
  | call (f : Opd) (args : List Opd)
  | inv (x : Opd) (name : String) (args : List Opd)
  | lenS (x : Opd)
  | lenA (n : Nat)
  | lenL (x : Opd)
  | lenM (x : Opd)
  | app (sz bytes mk : Nat) (x y : Opd)
  | appS (mk : Nat) (x y : Opd)
  | cpy (sz : Nat) (x y : Opd)
  | del (te : TEq) (m k : Opd)
  | mn (xs : List Opd)
  | mx (xs : List Opd)
  | clr (z : List D) (x : Opd)
  | recov
  | defer (f : Opd) (args : List Opd)
  | panic (x : Opd)
  | rng (x : Opd)
  | nxt (x : Opd)
  | tassert (t : Nat) (z : D) (ok : Bool) (x : Opd)
  | bad
  deriving Inhabited

structure XOper where
  dst : Option Nat
  op : XOp
  guard : Option (Nat × Bool)
  deriving Inhabited

def XOp.opds : XOp → List Opd
  | .mv x | .box x | .nilchk x | .un _ x | .convI _ x | .convS x | .convBS x | .convSB x | .mrk x | .mkif _ x | .faddr _ x | .fld _ _ _ x | .ext x _
  | .lenS x | .lenL x | .lenM x | .clr _ x | .panic x | .rng x | .nxt x | .tassert _ _ _ x | .ld _ _ x => [x]
  | .pick c a b => [c,a,b]
  | .build _ ps | .bslice _ _ ps _ => ps.map (·.2.2)
  | .st _ a v | .bin _ a v | .eq _ _ a v | .mkslice _ _ a v | .iaddrA _ _ a v | .iaddr _ a v | .idxA _ _ _ a v | .idxS a v | .look _ _ _ a v
  | .ment _ _ a v | .app _ _ _ a v | .appS _ a v | .cpy _ a v | .del _ a v => [a,v]
  | .mupd _ m k v | .ins _ m k v | .estore m k v => [m,k,v]
  | .mkfn _ a c => a ++ c
  | .slcS x l h | .slc _ x l h | .slcA _ _ x l h => x :: (l.toList ++ h.toList)
  | .call f args | .defer f args => f :: args
  | .inv x _ args => x :: args
  | .mn xs | .mx xs => xs
  | .alloc .. | .mkmap | .lenA _ | .recov | .bad => []

def Opd.tmps : Opd → List Nat
  | .t n => [n]
  | _ => []

def XOper.reads (o : XOper) : List Nat := o.op.opds.flatMap Opd.tmps ++ (match o.guard with | some (j,_) => [j] | none => [])

def XOp.writes : XOp → Bool
  | .st .. | .mupd .. | .ment .. | .estore .. | .cpy .. | .clr .. | .nxt .. | .call .. | .app .. | .appS .. | .inv .. | .recov | .defer .. | .panic .. | .del .. | .bad | .convSB .. => true
  | _ => false

structure PlanE where
  pre : List Nat
  lo : Nat
  hi : Nat
  deriving Inhabited

inductive XC where
  | skip
  | region (ops : List XOper)
  | draw (ops : List XOper) (plan : List PlanE)
  | seq (a b : XC)
  | cond (c : Opd) (a b : XC)
  | block (id : Nat) (c : XC)
  | loop (c : XC)
  | rangef (f : Opd) (params : List Nat) (assign body : XC) (ca cb : Code)
  | exit (id : Nat)
  | scope (c : XC)
  | label (l : Nat)
  | goto (l : Nat)
  | ret
  | bad
  deriving Inhabited

inductive XRes where
  | t (n : Nat)
  | cell (t : Nat) (agg : Bool) (n : Nat)
  deriving Inhabited

structure XFn where
  ntmps : Nat
  res : List XRes
  body : XC
  deriving Inhabited

inductive Tr (α : Type) where
  | e
  | n (l : Tr α) (v : Option α) (r : Tr α)

inductive LSt where
  | ready | busy
  | done (c : Code)

inductive AObj where
  | cells (cs : List D) (odd : Nat)
  | map (es : List (D × D × Option Nat)) (clock : Option Nat)
  | iter (x : List UInt8) (pos : Nat)
  | loop (T : Tr D) (N : Nat) (ps : List Nat) (assign body : Code) (st : LSt)
  deriving Inhabited

inductive AR where
  | val (d : D)
  | upd (l : Nat) (o : AObj) (d : D)
  | new (o : AObj) (d : D)
  | app (l : Nat) (o : AObj) (d : D)
  | panic (d : D)
  | bad

/-! ### Constants of the program as data -/

def dOf : Nat → Value → D
  | 0,_ => .bad
  | _,.bool x => .b x
  | _,.int k n => .i k n
  | _,.string s => .s s.data.toList
  | _,.pointer none => .nilp
  | _,.slice none 0 0 => .nils
  | _,.map none => .nilm
  | _,.nilFunc => .nilf
  | _,.nilIface => .nili
  | n + 1,.iface t v => .ifc t (dOf n v)
  | n + 1,.agg cs => .agg (cs.toList.map (dOf n))
  | n + 1,.tuple cs => .tup (cs.toList.map (dOf n))
  | n + 1,.func (.func f) a c => .fn (.func f) (a.toList.map (dOf n)) (c.toList.map (dOf n))
  | _,_ => .bad

def D.good : Nat → D → Bool
  | 0,_ => false
  | _,.bad => false
  | n + 1,.ifc _ d => D.good n d && d.one
  | n + 1,.agg cs => cs.all fun c => D.good n c && c.one
  | n + 1,.tup cs => cs.all (D.good n)
  | _,.s x => decide (x.length ≤ 9223372036854775807)
  | _,.b _ | _,.i _ _ | _,.nilp | _,.nils | _,.nilm | _,.nilf | _,.nili => true
  | _,.fn (.func _) [] [] => true
  | _,_ => false

def xopd : Operand → Opd
  | .tmp t => .t t
  | .const v => .c (if (dOf 20 v).good 20 then dOf 20 v else .bad)
  | .global g => .g g
  | .func f => .f f

section compile
variable (P : Program)

def isAggD : TypeDesc → Bool
  | .struct _ | .array _ _ => true
  | _ => false

def aggSize (t : TypeId) : Option (Bool × Nat) := do
  let d ← P.underlying t
  let i ← P.info? t
  if i.size = 0 then none
  pure (isAggD d,i.size)

def zeroOf (t : TypeId) : Option D := do
  let i ← P.info? t
  let z ← i.zero
  let d := dOf 20 z
  if d.good 20 && d.cells.length == i.size && i.size != 0 && d.val then pure d else none

def leafOf (isNilCmp : Bool) (t : TypeId) : Option Leaf := do
  match ← P.underlying t with
  | .bool => pure .b
  | .int _ => pure .i
  | .string => pure .s
  | .pointer e => do if (← P.info? e).size = 0 then none else pure .p
  | .slice _ => pure .sl
  | .map _ _ => pure .m
  | .func _ _ _ => pure .f
  | .interface ms => pure (.ifc (isNilCmp || ms.isEmpty))
  | _ => none

def leaves : Nat → TypeId → Nat → Option (List (Nat × Leaf))
  | 0,_,_ => none
  | fuel + 1,t,off => do
    match ← P.underlying t with
    | .struct fs => do
      let it ← P.info? t
      if P.stoodInHeld t then none
      let ls ← fs.toList.mapM fun f => do
        let i ← P.info? f.type
        if f.name = "_" ∨ i.size = 0 ∨ f.offset + i.size > it.size then none
        leaves fuel f.type (off + f.offset)
      pure ls.flatten
    | .array n e => do
      let it ← P.info? t
      let i ← P.info? e
      if i.size = 0 ∨ n = 0 ∨ n * i.size > it.size then none
      let ls ← (List.range n).mapM fun k => leaves fuel e (off + k * i.size)
      pure ls.flatten
    | .interface _ => none
    | _ => do pure [(off,← leafOf P false t)]

def teqOf (nilCmp : Bool) (t : TypeId) : TEq :=
  match P.underlying t with
  | some (.struct _) | some (.array _ _) =>
    match leaves P 20 t 0,P.info? t with
    | some l,some i => if i.size = 0 then .no else .cells i.size l
    | _,_ => .no
  | some _ => match leafOf P nilCmp t with
    | some k => .leaf k
    | none => .no
  | none => .no

def isConstOpd : Operand → Bool
  | .const _ => true
  | _ => false

def placesOf (t : TypeId) : Option (List (Nat × Nat)) := do
  match ← P.underlying t with
  | .struct fs => fs.toList.mapM fun f => do pure (f.offset,(← P.info? f.type).size)
  | .array n e => do
    let i ← P.info? e
    pure ((List.range n).map fun k => (k * i.size,i.size))
  | _ => none

def xparts (places : List (Nat × Nat)) (ps : List (Nat × Operand)) : Option (List (Nat × Nat × Opd)) :=
  ps.mapM fun p => do
    let (o,n) ← places[p.1]?
    pure (o,n,xopd p.2)

def Leaf.key : Leaf → Bool
  | .b | .i | .s | .p => true
  | _ => false

def TEq.key : TEq → Bool
  | .leaf k => k.key
  | .cells n l => l.all (fun p => p.2.key) && l.map (·.1) == List.range n
  | .no => false

def knownMap (t : TypeId) : Option (TEq × D) := do
  let .map k e ← P.underlying t | none
  let z ← zeroOf P e
  let te := teqOf P false k
  if te.key then pure (te,z) else none

def tagOf (e : TypeId) : Nat :=
  match P.info? e with
  | some { desc := .named "strings.Builder" _,.. } => 2 * e + 2
  | _ => 0

def rowTag (e : TypeId) : Nat :=
  match P.underlying e with
  | some (.int .u8) => 2 * e + 3
  | _ => 0

def xop (o : Oper) : Option XOp := do
  match o.op with
  | .move x | .assign x => pure (.mv (xopd x))
  | .pick c a b => pure (.pick (xopd c) (xopd a) (xopd b))
  | .alloc e => do pure (.alloc (← zeroOf P e).cells (tagOf P e))
  | .box e x => do let _ ← aggSize P e; pure (.box (xopd x))
  | .build t ps => do
    let z ← zeroOf P t
    let (a,_) ← aggSize P t
    if !a then none
    pure (.build z.cells (← xparts (← placesOf P t) ps.toList))
  | .buildSlice t n ps => do
    let .slice e ← P.underlying t | none
    let z ← zeroOf P e
    let sz := z.cells.length
    if n * sz > 2 ^ 24 then none
    pure (.bslice sz ((List.replicate n z.cells).flatten) (← xparts ((List.range n).map fun k => (k * sz,sz)) ps.toList) n)
  | .insert t m k v => do let (te,_) ← knownMap P t; pure (.ins te (xopd m) (xopd k) (xopd v))
  | .load t a => do let (g,n) ← aggSize P t; pure (.ld g n (xopd a))
  | .store t a v => do let (_,n) ← aggSize P t; pure (.st n (xopd a) (xopd v))
  | .nilCheck x => pure (.nilchk (xopd x))
  | .binOp op t x y _ =>
    match P.underlying t,op with
    | some (.int _),_ | some .string,_ => pure (.bin op (xopd x) (xopd y))
    | _,.eql => pure (.eq false (teqOf P (isConstOpd x || isConstOpd y) t) (xopd x) (xopd y))
    | _,.neq => pure (.eq true (teqOf P (isConstOpd x || isConstOpd y) t) (xopd x) (xopd y))
    | _,_ => none
  | .unOp op _ x => pure (.un op (xopd x))
  | .convert s t x => do
    match ← P.underlying s,← P.underlying t with
    | .int _,.int k => pure (.convI k (xopd x))
    | .string,.string => pure (.convS (xopd x))
    | .slice e,.string => do
      let .int .u8 ← P.underlying e | none
      pure (.convBS (xopd x))
    | .string,.slice e => do
      let .int .u8 ← P.underlying e | none
      pure (.convSB (xopd x))
    | .slice _,.slice e => do
      let .int .u8 ← P.underlying e | none
      if s == t then pure (.mrk (xopd x)) else none
    | _,_ => none
  | .makeInterface t x => do
    match ← P.underlying t with
    | .interface _ => none
    | _ => pure (.mkif t (xopd x))
  | .makeFunc f a c => pure (.mkfn f (a.toList.map xopd) (c.toList.map xopd))
  | .makeMap t r => do
    let _ ← knownMap P t
    if r.isSome then none
    pure .mkmap
  | .makeSlice t l c => do
    let .slice e ← P.underlying t | none
    let z ← zeroOf P e
    pure (.mkslice (← P.info? e).bytes z.cells (xopd l) (xopd c))
  | .slice t x lo hi mx => do
    if mx.isSome then none
    match ← P.underlying t with
    | .string => pure (.slcS (xopd x) (lo.map xopd) (hi.map xopd))
    | .slice e => do let (_,n) ← aggSize P e; pure (.slc n (xopd x) (lo.map xopd) (hi.map xopd))
    | .array n e => do let (_,sz) ← aggSize P e; pure (.slcA n sz (xopd x) (lo.map xopd) (hi.map xopd))
    | _ => none
  | .fieldAddr t x f => do
    let .struct fs ← P.underlying t | none
    let fd ← fs[f]?
    let _ ← aggSize P fd.type
    pure (.faddr fd.offset (xopd x))
  | .field t x f => do
    let .struct fs ← P.underlying t | none
    let fd ← fs[f]?
    let (g,n) ← aggSize P fd.type
    pure (.fld g fd.offset n (xopd x))
  | .indexAddr t x i => do
    match ← P.underlying t with
    | .array n e => do let (_,sz) ← aggSize P e; pure (.iaddrA n sz (xopd x) (xopd i))
    | .slice e => do let (_,sz) ← aggSize P e; pure (.iaddr sz (xopd x) (xopd i))
    | _ => none
  | .index t x i => do
    match ← P.underlying t with
    | .array n e => do let (g,sz) ← aggSize P e; pure (.idxA n sz g (xopd x) (xopd i))
    | .string => pure (.idxS (xopd x) (xopd i))
    | _ => none
  | .lookup t x i ok => do let (te,z) ← knownMap P t; pure (.look te z ok (xopd x) (xopd i))
  | .mapUpdate t m k v => do let (te,_) ← knownMap P t; pure (.mupd te (xopd m) (xopd k) (xopd v))
  | .mapEntry t m k => do let (te,z) ← knownMap P t; pure (.ment te z (xopd m) (xopd k))
  | .entryStore _ m st v => pure (.estore (xopd m) (xopd st) (xopd v))
  | .range t x => do
    let .string ← P.underlying t | none
    pure (.rng (xopd x))
  | .next it isString => if isString then pure (.nxt (xopd it)) else none
  | .typeAssert x _ t ok => do
    match ← P.underlying t with
    | .interface _ => none
    | _ => pure (.tassert t (← zeroOf P t) ok (xopd x))
  | .extract x i => pure (.ext (xopd x) i)
  | .panic x => pure (.panic (xopd x))
  | .defer c => do
    match c.callee with
    | .value f => pure (.defer (xopd f) (c.args.toList.map xopd))
    | _ => none
  | .call c =>
    match c.callee with
    | .value f => pure (.call (xopd f) (c.args.toList.map xopd))
    | .invoke x name => pure (.inv (xopd x) name (c.args.toList.map xopd))
    | .builtin .len => do
      let [x] := c.args.toList | none
      let t ← c.argTypes[0]?
      match ← P.underlying t with
      | .string => pure (.lenS (xopd x))
      | .array n _ => pure (.lenA n)
      | .pointer a => do
        let .array n _ ← P.underlying a | none
        pure (.lenA n)
      | .slice _ => pure (.lenL (xopd x))
      | .map _ _ => pure (.lenM (xopd x))
      | _ => none
    | .builtin .append => do
      let [x,y] := c.args.toList | none
      let [s,t] := c.argTypes.toList | none
      let .slice e ← P.underlying s | none
      let i ← P.info? e
      let _ ← zeroOf P e
      if i.bytes = 0 then none
      match ← P.underlying t with
      | .string => if i.size = 1 ∧ i.bytes = 1 then pure (.appS (rowTag P e) (xopd x) (xopd y)) else none
      | .slice _ => pure (.app i.size i.bytes (rowTag P e) (xopd x) (xopd y))
      | _ => none
    | .builtin .copy => do
      let [x,y] := c.args.toList | none
      let [s,t] := c.argTypes.toList | none
      let .slice e ← P.underlying s | none
      let (_,sz) ← aggSize P e
      match ← P.underlying t with
      | .slice _ => pure (.cpy sz (xopd x) (xopd y))
      | _ => none
    | .builtin .delete => do
      let [x,y] := c.args.toList | none
      let t ← c.argTypes[0]?
      let (te,_) ← knownMap P t
      pure (.del te (xopd x) (xopd y))
    | .builtin .min => pure (.mn (c.args.toList.map xopd))
    | .builtin .max => pure (.mx (c.args.toList.map xopd))
    | .builtin .clear => do
      let [x] := c.args.toList | none
      let t ← c.argTypes[0]?
      let .slice e ← P.underlying t | none
      pure (.clr (← zeroOf P e).cells (xopd x))
    | .builtin .recover => pure .recov
    | _ => none
  | _ => none

def xoper (ops : Array Oper) (o : Oper) : XOper :=
  { dst := o.dst,op := (xop P o).getD .bad,
    guard := o.guard.map fun (j,w) => (((ops[j]?).bind (·.dst)).getD 100000,w) }

def closePre : List (List Nat) → List (List Nat) → List (List Nat)
  | [],acc => acc
  | es :: r,acc => closePre r (acc ++ [(es ++ es.flatMap fun e => acc.getD e []).eraseDups])

def rankW (ops : List XOper) (i : Nat) : Nat := ((ops.take i).filter fun o => o.op.writes).length

def mkPlan (ops : List XOper) (after : List (List Nat)) : List PlanE :=
  let pre := closePre after []
  let ws := (List.range ops.length).filter fun i => (ops.getD i default).op.writes
  (List.range ops.length).map fun i =>
    let p := pre.getD i []
    if (ops.getD i default).op.writes then ⟨p,rankW ops i,rankW ops i⟩ else
    ⟨p,(ws.filter fun w => p.contains w).length,(ws.filter fun w => !(pre.getD w []).contains i).length⟩

def planOk (ops : List XOper) (after : List (List Nat)) (plan : List PlanE) : Bool :=
  let n := ops.length
  let op (i : Nat) := ops.getD i default
  let pre (i : Nat) := (plan.getD i default).pre
  let nW := rankW ops n
  plan.length == n && after.length == n && (List.range n).all fun i =>
    let af := after.getD i []
    let o := op i
    let p := plan.getD i default
    (p.pre.all fun j => af.any fun e => e == j || (pre e).contains j) &&
    (af.all fun e => Nat.blt e i) &&
    ((List.range n).all fun j => j == i || p.pre.contains j || (pre j).contains i || (match (op j).dst with | some t => !o.reads.contains t && o.dst != some t | none => true)) &&
    (if o.op.writes then p.lo == rankW ops i && p.hi == rankW ops i && ((List.range i).all fun j => !(op j).op.writes || p.pre.contains j)
      else (p.lo == 0 || p.pre.any fun j => (op j).op.writes && Nat.ble p.lo (rankW ops j + 1)) && (Nat.ble nW p.hi || (List.range n).any fun j => (op j).op.writes && (pre j).contains i && Nat.ble (rankW ops j) p.hi))

def xcode : Code → XC
  | .skip => .skip
  | .region _ ops false => .region (ops.toList.map (xoper P ops))
  | .region _ ops true =>
    let xs := ops.toList.map (xoper P ops)
    let after := ops.toList.map fun o => (o.after.toList.filter (Region.binds .any ·)).map (·.on)
    if planOk xs after (mkPlan xs after) then .draw xs (mkPlan xs after) else .bad
  | .seq a b => .seq (xcode a) (xcode b)
  | .cond c a b => .cond (xopd c) (xcode a) (xcode b)
  | .block id c => .block id (xcode c)
  | .loop c => .loop (xcode c)
  | .rangeFunc f ps a b => .rangef (xopd f) ps.toList (xcode a) (xcode b) a b
  | .exit id => .exit id
  | .scope c => .scope (xcode c)
  | .label l => .label l
  | .goto l => .goto l
  | .ret => .ret
  | .refuse _ => .bad

def xres : ResultVar → Option XRes
  | .tmp t => some (.t t)
  | .cell a t => do let (g,n) ← aggSize P t; pure (.cell a g n)

def xfn (f : Func) : Option XFn := do
  let b ← f.body
  pure { ntmps := f.ntmps,res := ← f.results.toList.mapM (xres P),body := xcode P b }

end compile
end Go.Abs
end
noncomputable section
namespace Go.Abs
open Go

def maxN : Nat := 9223372036854775807
def room : Nat := 140737488355328

def splice (cs : List D) (off : Nat) (new : List D) : List D := cs.take off ++ new ++ cs.drop (off + new.length)

def fillD : List D → List (Nat × Nat × D) → Option (List D)
  | zs,[] => some zs
  | zs,(off,n,d) :: ps => if d.cells.length = n ∧ off + n ≤ zs.length ∧ d.val = true then fillD (splice zs off d.cells) ps else none

def partD (agg : Bool) (off n : Nat) (cs : List D) : Option D :=
  if off + n ≤ cs.length then (if agg then some (.agg ((cs.drop off).take n)) else cs[off]?) else none

def byteD (x : UInt8) : D := .i .u8 x.toNat

def byteOf? : D → Option UInt8
  | .i .u8 n => some (UInt8.ofNat n.toNat)
  | _ => none

def abin (op : BinOp) (k : IntKind) (a b : Int) : Option D :=
  match op with
  | .add => some (.i k (k.wrap (a + b)))
  | .sub => some (.i k (k.wrap (a - b)))
  | .mul => some (.i k (k.wrap (a * b)))
  | .quo => if b = 0 then none else some (.i k (k.wrap (a.tdiv b)))
  | .rem => if b = 0 then none else some (.i k (a.tmod b))
  | .and => some (.i k (k.wrap (BitVec.ofInt k.bits a &&& BitVec.ofInt k.bits b).toNat))
  | .or => some (.i k (k.wrap (BitVec.ofInt k.bits a ||| BitVec.ofInt k.bits b).toNat))
  | .xor => some (.i k (k.wrap (BitVec.ofInt k.bits a ^^^ BitVec.ofInt k.bits b).toNat))
  | .andNot => some (.i k (k.wrap (BitVec.ofInt k.bits a &&& ~~~(BitVec.ofInt k.bits b)).toNat))
  | .eql => some (.b (a == b))
  | .neq => some (.b (a != b))
  | .lss => some (.b (decide (a < b)))
  | .leq => some (.b (decide (a ≤ b)))
  | .gtr => some (.b (decide (a > b)))
  | .geq => some (.b (decide (a ≥ b)))
  | _ => none

def ashift (op : BinOp) (k : IntKind) (a b : Int) : Option D :=
  if b < 0 then none else
  match op with
  | .shl => some (.i k (k.wrap (a * 2 ^ (min b.toNat k.bits))))
  | .shr => some (.i k (a.fdiv (2 ^ (min b.toNat k.bits))))
  | _ => none

def astr (op : BinOp) (x y : List UInt8) : Option D :=
  match op with
  | .add => if x.length + y.length ≤ maxN then some (.s (x ++ y)) else none
  | .eql => some (.b (x == y))
  | .neq => some (.b (!(x == y)))
  | .lss => some (.b (Op.bytesLess x y))
  | .leq => some (.b (Op.bytesLess x y || x == y))
  | .gtr => some (.b (!(Op.bytesLess x y || x == y)))
  | .geq => some (.b (!Op.bytesLess x y))
  | _ => none

def binD (op : BinOp) : D → D → Option D
  | .i k a,.i k' b =>
    match op with
    | .shl | .shr => ashift op k a b
    | _ => if k = k' then abin op k a b else none
  | .s x,.s y => astr op x y
  | _,_ => none

def unD : UnOp → D → Option D
  | .neg,.i k n => some (.i k (k.wrap (0 - n)))
  | .xor,.i k n => some (.i k (k.wrap (BitVec.ofInt k.bits (if k.signed then -1 else k.max) ^^^ BitVec.ofInt k.bits n).toNat))
  | .not,.b x => some (.b (!x))
  | _,_ => none

section
variable (get : Nat → Option AObj)

def leafEq : Leaf → D → D → Option Bool
  | .b,.b x,.b y => some (x == y)
  | .i,.i k a,.i k' b => if k = k' then some (a == b) else none
  | .s,.s x,.s y => some (x == y)
  | .p,.nilp,.nilp => some true
  | .p,.nilp,.ptr _ _ | .p,.nilp,.fptr _ | .p,.ptr _ _,.nilp | .p,.fptr _,.nilp => some false
  | .p,.ptr l o,.ptr l' o' =>
    if l = l' then some (o == o') else
    match get l,get l' with
    | some (.cells _ 0),some (.cells _ 0) => some false
    | _,_ => none
  | .sl,.nils,.nils => some true
  | .sl,.nils,.sl _ _ _ _ | .sl,.sl _ _ _ _,.nils | .sl,.nils,.fz _ (_ :: _) | .sl,.fz _ (_ :: _),.nils => some false
  | .m,.nilm,.nilm => some true
  | .m,.nilm,.mp _ | .m,.mp _,.nilm => some false
  | .f,.nilf,.nilf => some true
  | .f,.nilf,.fn _ _ _ | .f,.fn _ _ _,.nilf => some false
  | .ifc true,.nili,.nili => some true
  | .ifc _,.nili,.ifc _ _ | .ifc _,.ifc _ _,.nili => some false
  | _,_,_ => none

def leavesEq (cs ds : List D) : List (Nat × Leaf) → Option Bool
  | [] => some true
  | (o,k) :: r =>
    match cs[o]?,ds[o]? with
    | some c,some d =>
      match leafEq get k c d with
      | some true => leavesEq cs ds r
      | some false => some false
      | none => none
    | _,_ => none

def eqD : TEq → D → D → Option Bool
  | .leaf k,c,d => leafEq get k c d
  | .cells n l,.agg cs,.agg ds => if cs.length = n ∧ ds.length = n then leavesEq get cs ds l else none
  | _,_,_ => none

def keyOk : TEq → D → Bool
  | .leaf _,_ => true
  | .cells n _,.agg cs => decide (cs.length = n)
  | _,_ => false

def mfind (te : TEq) (k : D) : List (D × D × Option Nat) → Nat → Option (Option (Nat × D × Option Nat))
  | [],_ => some none
  | (k',v,b) :: es,i =>
    match eqD get te k k',mfind te k es (i + 1) with
    | some false,r => r
    | some true,some none => some (some (i,v,b))
    | _,_ => none

def ldCells (n : Nat) : D → Option (List D)
  | .ptr l off =>
    match get l with
    | some (.cells cs _) => if off + n ≤ cs.length then some ((cs.drop off).take n) else none
    | _ => none
  | .fptr cs => if n ≤ cs.length then some (cs.take n) else none
  | _ => none

def slCells (sz : Nat) : D → Option (List D × Nat × Option Nat)
  | .nils => some ([],0,none)
  | .sl z l off len =>
    match get l with
    | some (.cells cs _) => if off + len * sz ≤ cs.length ∧ z = sz then some ((cs.drop off).take (len * sz),len,some l) else none
    | _ => none
  | .fz sz' es => if sz' = sz then some (es.flatMap D.cells,es.length,none) else none
  | _ => none

def appD (bytes sz mk : Nat) (next : Nat) (x : D) (new : List D) (m : Nat) (ly : Option Nat) : AR :=
  if m = 0 then (match x with | .nils | .sl _ _ _ _ | .fz _ _ => .val x | _ => .bad) else
  match x with
  | .nils => if m * bytes ≤ room then .new (.cells new mk) (.sl sz next 0 m) else .bad
  | .sl z l off len =>
    if ly = some l then .bad else
    match get l with
    | some (.cells cs odd) =>
      if off + len * sz ≤ cs.length ∧ z = sz ∧ (len + m) * bytes ≤ room ∧ (odd ≤ 1 ∨ (odd = mk ∧ off = 0)) then .app l (.cells ((cs.drop off).take (len * sz) ++ new) odd) (.sl sz next 0 (len + m)) else .bad
    | _ => .bad
  | _ => .bad

def optI : Option D → Int → Option Int
  | none,d => some d
  | some (.i _ n),_ => some n
  | _,_ => none

def minD : D → D → Option D
  | .i k x,.i _ y => some (.i k (if y < x then y else x))
  | _,_ => none

def maxD : D → D → Option D
  | .i k x,.i _ y => some (.i k (if y > x then y else x))
  | _,_ => none

def foldD (f : D → D → Option D) : List D → Option D
  | [] => none
  | x :: xs => xs.foldl (fun a y => a.bind fun a => f a y) (some x)

def ofO (d : Option D) : AR :=
  match d with
  | some d => .val d
  | none => .bad

variable (next : Nat) (ev : Opd → D)

def aop (op : XOp) : AR :=
  match op with
  | .mv x => if (ev x).ok then .val (ev x) else .bad
  | .pick c a b =>
    match ev c with
    | .b true => if (ev a).ok then .val (ev a) else .bad
    | .b false => if (ev b).ok then .val (ev b) else .bad
    | _ => .bad
  | .alloc z m => .new (.cells z m) (.ptr next 0)
  | .box x => if (ev x).val then .new (.cells (ev x).cells 0) (.ptr next 0) else .bad
  | .build z ps =>
    match fillD z (ps.map fun p => (p.1,p.2.1,ev p.2.2)) with
    | some cs => .val (.agg cs)
    | none => .bad
  | .bslice sz z ps len =>
    match fillD z (ps.map fun p => (p.1,p.2.1,ev p.2.2)) with
    | some cs => .new (.cells cs (match z with | .i .u8 _ :: _ => 1 | _ => 0)) (.sl sz next 0 len)
    | none => .bad
  | .ld agg n a =>
    match ldCells get n (ev a) with
    | some cs => if agg then .val (.agg cs) else ofO cs[0]?
    | none => .bad
  | .st n a v =>
    match ev a with
    | .ptr l off =>
      match get l with
      | some (.cells cs odd) =>
        if (ev v).cells.length = n ∧ off + n ≤ cs.length ∧ (ev v).val = true then .upd l (.cells (splice cs off (ev v).cells) odd) (.tup []) else .bad
      | _ => .bad
    | _ => .bad
  | .nilchk x =>
    match ev x with
    | .ptr l o => .val (.ptr l o)
    | .fptr cs => .val (.fptr cs)
    | .fn (.func f) a c => .val (.fn (.func f) a c)
    | .yld l => .val (.yld l)
    | .ifc t d => .val (.ifc t d)
    | _ => .bad
  | .bin op x y => ofO (binD op (ev x) (ev y))
  | .eq neg te x y =>
    match eqD get te (ev x) (ev y) with
    | some r => .val (.b (if neg then !r else r))
    | none => .bad
  | .un op x => ofO (unD op (ev x))
  | .convI k x =>
    match ev x with
    | .i _ n => .val (.i k (k.wrap n))
    | _ => .bad
  | .convS x =>
    match ev x with
    | .s t => .val (.s t)
    | _ => .bad
  | .convBS x =>
    match slCells get 1 (ev x) with
    | some (cs,_,_) =>
      match cs.mapM byteOf? with
      | some bs => if bs.length ≤ maxN then .val (.s bs) else .bad
      | none => .bad
    | none => .bad
  | .convSB _ => .bad
  | .mrk x =>
    match ev x with
    | .sl z l off len =>
      match get l with
      | some (.cells cs 1) => if len = 0 then .bad else .upd l (.cells cs 1) (.sl z l off len)
      | _ => .bad
    | _ => .bad
  | .mkif t x => if (ev x).val then .val (.ifc t (ev x)) else .bad
  | .mkfn f a c => if a.all (fun y => (ev y).ok) ∧ c.all (fun y => (ev y).ok) then .val (.fn f (a.map ev) (c.map ev)) else .bad
  | .mkmap => .new (.map [] (some 0)) (.mp next)
  | .mkslice bytes z len cap =>
    match ev len,ev cap with
    | .i _ l,.i _ c =>
      if 0 ≤ l ∧ l ≤ c ∧ c ≤ 281474976710656 ∧ (bytes : Int) * c ≤ 281474976710656 then .new (.cells (List.replicate l.toNat z).flatten 0) (.sl z.length next 0 l.toNat) else .bad
    | _,_ => .bad
  | .slcS x lo hi =>
    match ev x,optI (lo.map ev) 0 with
    | .s t,some l =>
      match optI (hi.map ev) t.length with
      | some h => if 0 ≤ l ∧ l ≤ h ∧ h ≤ t.length then .val (.s ((t.drop l.toNat).take (h.toNat - l.toNat))) else .bad
      | none => .bad
    | _,_ => .bad
  | .slc sz x lo hi =>
    match ev x,optI (lo.map ev) 0 with
    | .nils,some l =>
      match optI (hi.map ev) 0 with
      | some h => if l = 0 ∧ h = 0 then .val .nils else .bad
      | none => .bad
    | .sl z m off len,some l =>
      match optI (hi.map ev) len with
      | some h => if 0 ≤ l ∧ l ≤ h ∧ h ≤ len ∧ z = sz then .val (.sl z m (off + l.toNat * sz) (h.toNat - l.toNat)) else .bad
      | none => .bad
    | .fz sz' es,some l =>
      match optI (hi.map ev) es.length with
      | some h => if 0 ≤ l ∧ l ≤ h ∧ h ≤ es.length ∧ sz' = sz then .val (.fz sz ((es.drop l.toNat).take (h.toNat - l.toNat))) else .bad
      | none => .bad
    | _,_ => .bad
  | .slcA n sz x lo hi =>
    match ev x,optI (lo.map ev) 0,optI (hi.map ev) n with
    | .ptr m off,some l,some h =>
      match get m with
      | some (.cells cs _) => if 0 ≤ l ∧ l ≤ h ∧ h ≤ n ∧ n ≤ maxN ∧ off + n * sz ≤ cs.length then .val (.sl sz m (off + l.toNat * sz) (h.toNat - l.toNat)) else .bad
      | _ => .bad
    | _,_,_ => .bad
  | .faddr off x =>
    match ev x with
    | .ptr l o => .val (.ptr l (o + off))
    | .fptr cs => if off ≤ cs.length then .val (.fptr (cs.drop off)) else .bad
    | _ => .bad
  | .fld agg off n x =>
    match ev x with
    | .agg cs => ofO (partD agg off n cs)
    | _ => .bad
  | .iaddrA len sz x i =>
    match ev x,ev i with
    | .ptr l o,.i _ n => if 0 ≤ n ∧ n < len then .val (.ptr l (o + n.toNat * sz)) else .bad
    | .fptr cs,.i _ n => if 0 ≤ n ∧ n < len ∧ n.toNat * sz ≤ cs.length then .val (.fptr (cs.drop (n.toNat * sz))) else .bad
    | _,_ => .bad
  | .iaddr sz x i =>
    match ev x,ev i with
    | .sl z l o len,.i _ n => if 0 ≤ n ∧ n < len ∧ z = sz then .val (.ptr l (o + n.toNat * sz)) else .bad
    | .fz sz' es,.i _ n =>
      if 0 ≤ n ∧ n < es.length ∧ sz' = sz then (match es[n.toNat]? with | some e => .val (.fptr e.cells) | none => .bad) else .bad
    | _,_ => .bad
  | .idxA len sz agg x i =>
    match ev x,ev i with
    | .agg cs,.i _ n => if 0 ≤ n ∧ n < len then ofO (partD agg (n.toNat * sz) sz cs) else .bad
    | _,_ => .bad
  | .idxS x i =>
    match ev x,ev i with
    | .s t,.i _ n =>
      if 0 ≤ n then (match t[n.toNat]? with | some c => .val (byteD c) | none => .bad) else .bad
    | _,_ => .bad
  | .look te z ok m k =>
    match (match ev m with
      | .nilm => some []
      | .mp l => (match get l with | some (.map es _) => some es | _ => none)
      | _ => none) with
    | some es =>
      if keyOk te (ev k) ∧ (ev k).ok then
        match mfind get te (ev k) es 0 with
        | some (some (_,v,_)) => .val (if ok then .tup [v,.b true] else v)
        | some none => .val (if ok then .tup [z,.b false] else z)
        | none => .bad
      else .bad
    | none => .bad
  | .mupd te m k v =>
    match ev m with
    | .mp l =>
      match get l with
      | some (.map es clock) =>
        if (ev k).val ∧ (ev v).val ∧ keyOk te (ev k) then
          match mfind get te (ev k) es 0 with
          | some (some (i,_,b)) => .upd l (.map (es.set i (ev k,ev v,b)) clock) (.tup [])
          | some none => .upd l (.map (es ++ [(ev k,ev v,clock)]) (clock.map (· + 1))) (.tup [])
          | none => .bad
        else .bad
      | _ => .bad
    | _ => .bad
  | .ins te m k v =>
    match ev m with
    | .mp l =>
      match get l with
      | some (.map es _) =>
        if (ev k).val ∧ (ev v).val ∧ keyOk te (ev k) then
          match mfind get te (ev k) es 0 with
          | some none => .upd l (.map (es ++ [(ev k,ev v,none)]) none) (.tup [])
          | _ => .bad
        else .bad
      | _ => .bad
    | _ => .bad
  | .ment te z m k =>
    match ev m with
    | .mp l =>
      match get l with
      | some (.map es clock) =>
        if (ev k).val ∧ keyOk te (ev k) then
          match mfind get te (ev k) es 0 with
          | some (some (i,v,some b)) => .upd l (.map (es.set i (ev k,v,some b)) clock) (.tup [v,.i .i64 b])
          | some none =>
            match clock with
            | some c => .upd l (.map (es ++ [(ev k,z,some c)]) (some (c + 1))) (.tup [z,.i .i64 c])
            | none => .bad
          | _ => .bad
        else .bad
      | _ => .bad
    | _ => .bad
  | .estore m st v =>
    match ev m,ev st with
    | .mp l,.i _ n =>
      match get l with
      | some (.map es clock) =>
        if (ev v).val then
          match es.findIdx? (fun e => match e.2.2 with | some b => (b : Int) == n | none => false) with
          | some i => (match es[i]? with | some (k,_,b) => .upd l (.map (es.set i (k,ev v,b)) clock) (.tup []) | none => .bad)
          | none => .bad
        else .bad
      | _ => .bad
    | _,_ => .bad
  | .ext x i =>
    match ev x with
    | .tup ds => ofO ds[i]?
    | _ => .bad
  | .lenS x =>
    match ev x with
    | .s t => .val (.i .i64 t.length)
    | _ => .bad
  | .lenA n => .val (.i .i64 n)
  | .lenL x =>
    match ev x with
    | .nils => .val (.i .i64 0)
    | .sl _ _ _ len => .val (.i .i64 len)
    | .fz _ es => .val (.i .i64 es.length)
    | _ => .bad
  | .lenM x =>
    match ev x with
    | .nilm => .val (.i .i64 0)
    | .mp l => (match get l with | some (.map es _) => .val (.i .i64 es.length) | _ => .bad)
    | _ => .bad
  | .app sz bytes mk x y =>
    match slCells get sz (ev y) with
    | some (new,m,ly) => appD get bytes sz mk next (ev x) new m ly
    | none => .bad
  | .appS mk x y =>
    match ev y with
    | .s t => appD get 1 1 mk next (ev x) (t.map byteD) t.length none
    | _ => .bad
  | .cpy sz x y =>
    match slCells get sz (ev y) with
    | some (src,m,_) =>
      match ev x with
      | .nils => .val (.i .i64 0)
      | .sl z l off len =>
        match get l with
        | some (.cells cs odd) =>
          if off + len * sz ≤ cs.length ∧ z = sz then .upd l (.cells (splice cs off (src.take (min m len * sz))) odd) (.i .i64 (min m len : Nat)) else .bad
        | _ => .bad
      | _ => .bad
    | none => .bad
  | .del _ _ _ => .bad
  | .mn xs => if xs.all (fun y => (ev y).ok) then ofO (foldD minD (xs.map ev)) else .bad
  | .mx xs => if xs.all (fun y => (ev y).ok) then ofO (foldD maxD (xs.map ev)) else .bad
  | .clr z x =>
    match ev x with
    | .nils => .val (.tup [])
    | .sl y l off len =>
      if len = 0 then .val (.tup []) else
      match get l with
      | some (.cells cs odd) =>
        if off + len * z.length ≤ cs.length ∧ y = z.length then .upd l (.cells (splice cs off (List.replicate len z).flatten) odd) (.tup []) else .bad
      | _ => .bad
    | _ => .bad
  | .panic x =>
    match ev x with
    | .ifc t d => .panic (.ifc t d)
    | _ => .bad
  | .rng x =>
    match ev x with
    | .s t => .new (.iter t 0) (.ptr next 0)
    | _ => .bad
  | .nxt x =>
    match ev x with
    | .ptr l 0 =>
      match get l with
      | some (.iter t pos) =>
        if pos < t.length then .upd l (.iter t (pos + (Utf8.decode ⟨t.toArray⟩ pos).2)) (.tup [.b true,.i .i64 pos,.i .i32 (Utf8.decode ⟨t.toArray⟩ pos).1])
        else .val (.tup [.b false])
      | _ => .bad
    | _ => .bad
  | .tassert t z ok x =>
    match ev x with
    | .ifc t' d => if t' = t then .val (if ok then .tup [d,.b true] else d) else if ok then .val (.tup [z,.b false]) else .bad
    | .nili => if ok then .val (.tup [z,.b false]) else .bad
    | _ => .bad
  | .call .. | .inv .. | .recov | .defer .. | .bad => .bad
end
end Go.Abs
end
noncomputable section
namespace Go.Abs
open Go

namespace Tr
variable {α : Type}

def getI : Tr α → Nat → Option α
  | .e,_ => none
  | .n l v r,k =>
    match k with
    | 0 => v
    | p + 1 => if Nat.beq (p % 2) 0 then l.getI (p / 2) else r.getI (p / 2)

noncomputable def get (t : Tr α) : Nat → Option α :=
  Tr.rec (motive := fun _ => Nat → Option α) (fun _ => .none)
    (fun _ v _ gl gr k => Nat.rec (motive := fun _ => Option α) v (fun p _ => Bool.rec (motive := fun _ => Option α) (gr (p / 2)) (gl (p / 2)) (Nat.beq (p % 2) 0)) k) t

def kids : Tr α → Tr α × Option α × Tr α
  | .e => (.e,none,.e)
  | .n l v r => (l,v,r)

def putI : Nat → Tr α → Nat → Option α → Tr α
  | 0,t,_,_ => t
  | f + 1,t,k,x =>
    match t.kids with
    | (l,v,r) =>
      match k with
      | 0 => .n l x r
      | p + 1 => if Nat.beq (p % 2) 0 then .n (putI f l (p / 2) x) v r else .n l v (putI f r (p / 2) x)

noncomputable def put1 (x : Option α) (rec : Tr α → Nat → Tr α) (l : Tr α) (v : Option α) (r : Tr α) (k : Nat) : Tr α :=
  Nat.rec (motive := fun _ => Tr α) (.n l x r) (fun p _ => Bool.rec (motive := fun _ => Tr α) (.n l v (rec r (p / 2))) (.n (rec l (p / 2)) v r) (Nat.beq (p % 2) 0)) k

noncomputable def put (f : Nat) (t : Tr α) (k : Nat) (x : Option α) : Tr α :=
  Nat.rec (motive := fun _ => Tr α → Nat → Tr α) (fun t _ => t)
    (fun _ rec t k => Tr.rec (motive := fun _ => Tr α) (put1 x rec .e .none .e k) (fun l v r _ _ => put1 x rec l v r k) t) f t k

theorem get_n0 (l : Tr α) (v : Option α) (r : Tr α) : (Tr.n l v r).get 0 = v := rfl
theorem get_ns (l : Tr α) (v : Option α) (r : Tr α) (p : Nat) : (Tr.n l v r).get (p + 1) = if Nat.beq (p % 2) 0 = true then l.get (p / 2) else r.get (p / 2) := by
  show Bool.rec (motive := fun _ => Option α) (r.get (p / 2)) (l.get (p / 2)) (Nat.beq (p % 2) 0) = _
  cases Nat.beq (p % 2) 0 <;> rfl

theorem put_e (f : Nat) (t : Tr α) (x : Option α) : put (f + 1) t 0 x = .n t.kids.1 x t.kids.2.2 := by
  cases t <;> rfl

theorem put_s (f : Nat) (t : Tr α) (p : Nat) (x : Option α) : put (f + 1) t (p + 1) x = if Nat.beq (p % 2) 0 = true then .n (put f t.kids.1 (p / 2) x) t.kids.2.1 t.kids.2.2 else .n t.kids.1 t.kids.2.1 (put f t.kids.2.2 (p / 2) x) := by
  cases t with
  | e =>
    show Bool.rec (motive := fun _ => Tr α) (.n .e .none (put f .e (p / 2) x)) (.n (put f .e (p / 2) x) .none .e) (Nat.beq (p % 2) 0) = _
    cases Nat.beq (p % 2) 0 <;> rfl
  | n l v r =>
    show Bool.rec (motive := fun _ => Tr α) (.n l v (put f r (p / 2) x)) (.n (put f l (p / 2) x) v r) (Nat.beq (p % 2) 0) = _
    cases Nat.beq (p % 2) 0 <;> rfl

def set (t : Tr α) (k : Nat) (x : Option α) : Tr α := put (k + 1) t k x

theorem get_kids (t : Tr α) (j : Nat) : t.get j = (Tr.n t.kids.1 t.kids.2.1 t.kids.2.2).get j := by
  cases t with
  | n l v r => rfl
  | e =>
    cases j with
    | zero => rfl
    | succ p => rw [get_ns]; split <;> rfl

theorem get_put : ∀ (f : Nat) (t : Tr α) (k : Nat) (x : Option α),k < f → ∀ j,(put f t k x).get j = if j = k then x else t.get j
  | 0,t,k,x,h,j => absurd h (Nat.not_lt_zero _)
  | f + 1,t,k,x,h,j => by
    rw [get_kids t j]
    cases k with
    | zero =>
      rw [put_e]
      cases j with
      | zero => simp [get_n0]
      | succ p => simp [get_ns]
    | succ q =>
      rw [put_s]
      have hq : q / 2 < f := by omega
      by_cases hb : Nat.beq (q % 2) 0 = true
      · rw [if_pos hb]
        have hq0 : q % 2 = 0 := Nat.eq_of_beq_eq_true hb
        cases j with
        | zero => simp [get_n0]
        | succ p =>
          rw [get_ns,get_ns]
          by_cases hp : Nat.beq (p % 2) 0 = true
          · rw [if_pos hp,if_pos hp,get_put f _ (q / 2) x hq]
            have hp0 : p % 2 = 0 := Nat.eq_of_beq_eq_true hp
            by_cases hpq : p / 2 = q / 2
            · have : p = q := by omega
              subst this; simp
            · rw [if_neg hpq,if_neg (by omega)]
          · rw [if_neg hp,if_neg hp,if_neg]
            intro e
            have : p = q := by omega
            subst this; exact hp hb
      · rw [if_neg hb]
        cases j with
        | zero => simp [get_n0]
        | succ p =>
          rw [get_ns,get_ns]
          by_cases hp : Nat.beq (p % 2) 0 = true
          · rw [if_pos hp,if_pos hp,if_neg]
            intro e
            have : p = q := by omega
            subst this; exact hb hp
          · rw [if_neg hp,if_neg hp,get_put f _ (q / 2) x hq]
            by_cases hpq : p / 2 = q / 2
            · have h1 : p % 2 ≠ 0 := fun h => hp (by rw [h]; rfl)
              have h2 : q % 2 ≠ 0 := fun h => hb (by rw [h]; rfl)
              have : p = q := by omega
              subst this; simp
            · rw [if_neg hpq,if_neg (by omega)]

theorem get_set (t : Tr α) (k : Nat) (x : Option α) (j : Nat) : (t.set k x).get j = if j = k then x else t.get j := get_put (k + 1) t k x (Nat.lt_succ_self k) j

end Tr

def tm (T : Tr D) (n : Nat) : D := (T.get n).getD .bad

end Go.Abs
end
noncomputable section
namespace Go.Abs
open Go

abbrev Emb := Nat → Option (Nat × Nat)

def rowSize (w : World) (b : Nat) : Option Nat :=
  match w.heap[b]? with
  | some (.cells c _ _) => some c.size
  | _ => none

inductive R (I : Nat → Prop) (μ : Emb) (w : World) : D → Value → Prop
  | b (x : Bool) : R I μ w (.b x) (.bool x)
  | i (k : IntKind) (n : Int) : R I μ w (.i k n) (.int k n)
  | s (x : List UInt8) : x.length ≤ maxN → R I μ w (.s x) (.string ⟨x.toArray⟩)
  | nilp : R I μ w .nilp (.pointer none)
  | ptr (l off b base : Nat) : μ l = some (b,base) → R I μ w (.ptr l off) (.pointer (some ⟨b,base + off,none⟩))
  | fptr (cs : List D) (b o : Nat) (vs : Nat → Value) : I b → (∀ c ∈ cs,c.one = true) →
      (∀ j,j < cs.length → w.cell? ⟨b,o + j,none⟩ = some (vs j)) → (∀ j (h : j < cs.length),R I μ w cs[j] (vs j)) →
      R I μ w (.fptr cs) (.pointer (some ⟨b,o,none⟩))
  | nils : R I μ w .nils (.slice none 0 0)
  | sl (sz l off len cap b base n : Nat) : μ l = some (b,base) → len ≤ cap → cap ≤ maxN → rowSize w b = some n → base + off + cap * sz ≤ n → R I μ w (.sl sz l off len) (.slice (some ⟨b,base + off,none⟩) len cap)
  | sl0 (sz l off : Nat) (b base : Nat) (a : Addr) : μ l = some (b,base) → R I μ w (.sl sz l off 0) (.slice (some a) 0 0)
  | fz (sz : Nat) (es : List D) (b o cap : Nat) (vs : Nat → Value) : es ≠ [] → I b → es.length ≤ cap → cap ≤ maxN →
      (∀ e ∈ es,e.cells.length = sz ∧ e.val = true) → (∀ c ∈ es.flatMap D.cells,c.one = true) →
      (∀ j,j < (es.flatMap D.cells).length → w.cell? ⟨b,o + j,none⟩ = some (vs j)) →
      (∀ j (h : j < (es.flatMap D.cells).length),R I μ w (es.flatMap D.cells)[j] (vs j)) →
      R I μ w (.fz sz es) (.slice (some ⟨b,o,none⟩) es.length cap)
  | fz0 (sz : Nat) (a : Option Addr) (cap : Nat) : cap ≤ maxN → R I μ w (.fz sz []) (.slice a 0 cap)
  | nilm : R I μ w .nilm (.map none)
  | mp (l b base : Nat) : μ l = some (b,base) → R I μ w (.mp l) (.map (some b))
  | fn (f : Fn) (aa cs : List D) (xs ys : Array Value) (h1 : aa.length = xs.size) (h2 : cs.length = ys.size) :
      (∀ j (h : j < aa.length),R I μ w aa[j] (xs[j]'(h1 ▸ h))) → (∀ j (h : j < cs.length),R I μ w cs[j] (ys[j]'(h2 ▸ h))) →
      R I μ w (.fn f aa cs) (.func f xs ys)
  | nilf : R I μ w .nilf .nilFunc
  | yld (l b : Nat) : μ l = some (b,0) → R I μ w (.yld l) (.func (.yield b) #[] #[])
  | ifc (t : Nat) (d : D) (v : Value) : d.val = true → R I μ w d v → R I μ w (.ifc t d) (.iface t v)
  | nili : R I μ w .nili .nilIface
  | agg (cs : List D) (xs : Array Value) (h1 : cs.length = xs.size) : (∀ c ∈ cs,c.one = true) → (∀ j (h : j < cs.length),R I μ w cs[j] (xs[j]'(h1 ▸ h))) → R I μ w (.agg cs) (.agg xs)
  | tup (cs : List D) (xs : Array Value) (h1 : cs.length = xs.size) : (∀ j (h : j < cs.length),R I μ w cs[j] (xs[j]'(h1 ▸ h))) → R I μ w (.tup cs) (.tuple xs)

inductive Rl (I : Nat → Prop) (μ : Emb) (w : World) : List D → List Value → Prop
  | nil : Rl I μ w [] []
  | cons {d v ds vs} : R I μ w d v → Rl I μ w ds vs → Rl I μ w (d :: ds) (v :: vs)

structure AHeap where
  get : Nat → Option AObj
  next : Nat

def EntR (I : Nat → Prop) (μ : Emb) (w : World) (e : D × D × Option Nat) (x : MapEntry) : Prop :=
  e.1.val = true ∧ e.2.1.val = true ∧ R I μ w e.1 x.key ∧ R I μ w e.2.1 x.val ∧ (∀ n,e.2.2 = some n → x.born = n)

inductive Ents (I : Nat → Prop) (μ : Emb) (w : World) : List (D × D × Option Nat) → List MapEntry → Prop
  | nil : Ents I μ w [] []
  | cons {e x es xs} : EntR I μ w e x → Ents I μ w es xs → Ents I μ w (e :: es) (x :: xs)

def Mk (odd elem base lo hi sz len : Nat) : Prop := (odd ≠ 1 → lo = 0 ∧ hi = 0) ∧ (∀ t : Nat,odd = 2 * t + 2 → elem = t ∧ base = 0 ∧ sz = len) ∧ ∀ t : Nat,odd = 2 * t + 3 → elem = t ∧ base = 0

def StR : LSt → Loop → Prop
  | .ready,r => r.state = .ready ∧ r.pending = none
  | .busy,r => r.state = .busy
  | .done c,r => r.state = .done ∧ r.pending = some c

def LoopR (I : Nat → Prop) (μ : Emb) (w : World) (T : Tr D) (N : Nat) (ps : List Nat) (assign body : Code) (st : LSt) (r : Loop) : Prop :=
  r.params = ps.toArray ∧ r.assign = assign ∧ r.body = body ∧ N ≤ r.tmps.size ∧ (∀ n,(tm T n).ok = true → R I μ w (tm T n) (r.tmps.getD n undef)) ∧ StR st r

def ObjR (I : Nat → Prop) (μ : Emb) (w : World) (o : AObj) (b base : Nat) : Prop :=
  match o with
  | .cells cs odd => ∃ c elem lo hi,w.heap[b]? = some (.cells c elem (lo,hi)) ∧ base + cs.length ≤ c.size ∧ (c.size ≤ lo ∨ (lo = 0 ∧ hi = 0)) ∧ Mk odd elem base lo hi c.size cs.length ∧
      (∀ d ∈ cs,d.one = true) ∧ ∀ j (h : j < cs.length),∃ v,c[base + j]? = some v ∧ R I μ w cs[j] v
  | .map es clock => base = 0 ∧ ∃ xs ck l,w.heap[b]? = some (.map xs ck) ∧ xs.toList.Perm l ∧ Ents I μ w es l ∧ (∀ n,clock = some n → ck = n) ∧
      (∀ x ∈ l,x.born < ck) ∧ l.Pairwise (fun x y => x.born ≠ y.born)
  | .iter x pos => base = 0 ∧ x.length ≤ maxN ∧ w.heap[b]? = some (.stringIter ⟨x.toArray⟩ pos)
  | .loop T N ps assign body st => base = 0 ∧ ∃ r : Loop,w.heap[b]? = some (.loop r) ∧ LoopR I μ w T N ps assign body st r

structure HR (Γ : Nat → D) (I : Nat → Prop) (μ : Emb) (h : AHeap) (w : World) : Prop where
  frz : ∀ b,I b → b < w.heap.size
  live : ∀ l o,h.get l = some o → ∃ b base,μ l = some (b,base) ∧ ¬ I b ∧ ObjR I μ w o b base
  inj : ∀ l l' o o' b base base',h.get l = some o → h.get l' = some o' → μ l = some (b,base) → μ l' = some (b,base') → l = l'
  fresh : ∀ l,h.next ≤ l → μ l = none
  glob : ∀ g,Γ g = .bad ∨ R I μ w (Γ g) (.pointer (some ⟨g,0,none⟩))

structure Ext (I : Nat → Prop) (μ : Emb) (h : AHeap) (w : World) (I' : Nat → Prop) (μ' : Emb) (h' : AHeap) (w' : World) : Prop where
  size : w.heap.size ≤ w'.heap.size
  os : w'.os = w.os
  tape : w'.tape = w.tape
  output : w'.output = w.output
  rows : ∀ b n,rowSize w b = some n → rowSize w' b = some n
  isub : ∀ b,I b → I' b
  musub : ∀ l p,μ l = some p → μ' l = some p
  next : h.next ≤ h'.next
  frame : ∀ b,b < w.heap.size → (∀ l o base,h.get l = some o → μ l ≠ some (b,base)) → w'.heap[b]? = w.heap[b]?
  back : ∀ l o b base,h'.get l = some o → μ' l = some (b,base) → w.heap.size ≤ b ∨ ∃ l0 o0 base0,h.get l0 = some o0 ∧ μ l0 = some (b,base0)

theorem cell?_of_block {w w' : World} {a : Addr} (h : w'.heap[a.block]? = w.heap[a.block]?) : w'.cell? a = w.cell? a := by
  unfold World.cell?; rw [h]

theorem R.mono {I I' : Nat → Prop} {μ μ' : Emb} {w w' : World} (hi : ∀ b,I b → I' b) (hm : ∀ l p,μ l = some p → μ' l = some p)
    (hw : ∀ b,I b → w'.heap[b]? = w.heap[b]?) (hr : ∀ b n,rowSize w b = some n → rowSize w' b = some n) {d : D} {v : Value} (h : R I μ w d v) : R I' μ' w' d v := by
  induction h with
  | b x => exact .b x
  | i k n => exact .i k n
  | s x h => exact .s x h
  | nilp => exact .nilp
  | ptr l off b base h => exact .ptr l off b base (hm _ _ h)
  | fptr cs b o vs hb h1 hc _ ih => exact .fptr cs b o vs (hi _ hb) h1 (fun j hj => by rw [cell?_of_block (hw _ hb)]; exact hc j hj) ih
  | nils => exact .nils
  | sl sz l off len cap b base n h h1 h2 h3 h4 => exact .sl sz l off len cap b base n (hm _ _ h) h1 h2 (hr _ _ h3) h4
  | sl0 sz l off b base a h => exact .sl0 sz l off b base a (hm _ _ h)
  | fz sz es b o cap vs h0 hb h1 h2 h3 h4 hc _ ih => exact .fz sz es b o cap vs h0 (hi _ hb) h1 h2 h3 h4 (fun j hj => by rw [cell?_of_block (hw _ hb)]; exact hc j hj) ih
  | fz0 sz a cap h => exact .fz0 sz a cap h
  | nilm => exact .nilm
  | mp l b base h => exact .mp l b base (hm _ _ h)
  | fn f aa cs xs ys h1 h2 _ _ ih1 ih2 => exact .fn f aa cs xs ys h1 h2 ih1 ih2
  | nilf => exact .nilf
  | yld l b h => exact .yld l b (hm _ _ h)
  | ifc t d v h0 _ ih => exact .ifc t d v h0 ih
  | nili => exact .nili
  | agg cs xs h1 h2 _ ih => exact .agg cs xs h1 h2 ih
  | tup cs xs h1 _ ih => exact .tup cs xs h1 ih

theorem Rl.mono {I I' : Nat → Prop} {μ μ' : Emb} {w w' : World} (hi : ∀ b,I b → I' b) (hm : ∀ l p,μ l = some p → μ' l = some p)
    (hw : ∀ b,I b → w'.heap[b]? = w.heap[b]?) (hr : ∀ b n,rowSize w b = some n → rowSize w' b = some n) {ds : List D} {vs : List Value} (h : Rl I μ w ds vs) : Rl I' μ' w' ds vs := by
  induction h with
  | nil => exact .nil
  | cons h _ ih => exact .cons (h.mono hi hm hw hr) ih

theorem Ents.mono {I I' : Nat → Prop} {μ μ' : Emb} {w w' : World} (hi : ∀ b,I b → I' b) (hm : ∀ l p,μ l = some p → μ' l = some p)
    (hw : ∀ b,I b → w'.heap[b]? = w.heap[b]?) (hr : ∀ b n,rowSize w b = some n → rowSize w' b = some n) {es : List (D × D × Option Nat)} {xs : List MapEntry} (h : Ents I μ w es xs) : Ents I' μ' w' es xs := by
  induction h with
  | nil => exact .nil
  | cons h _ ih => exact .cons ⟨h.1,h.2.1,h.2.2.1.mono hi hm hw hr,h.2.2.2.1.mono hi hm hw hr,h.2.2.2.2⟩ ih

theorem ObjR.mono {I I' : Nat → Prop} {μ μ' : Emb} {w w' : World} (hi : ∀ b,I b → I' b) (hm : ∀ l p,μ l = some p → μ' l = some p)
    (hw : ∀ b,I b → w'.heap[b]? = w.heap[b]?) (hr : ∀ b n,rowSize w b = some n → rowSize w' b = some n) {o : AObj} {b base : Nat} (hb : w'.heap[b]? = w.heap[b]?) (h : ObjR I μ w o b base) : ObjR I' μ' w' o b base := by
  cases o with
  | cells cs odd =>
    obtain ⟨c,elem,lo,hi',h1,h2,h3,h4,h5,h6⟩ := h
    exact ⟨c,elem,lo,hi',hb.trans h1,h2,h3,h4,h5,fun j hj => let ⟨v,hv,hx⟩ := h6 j hj; ⟨v,hv,hx.mono hi hm hw hr⟩⟩
  | map es clock =>
    obtain ⟨h0,xs,ck,l,h1,h2,h3,h4,h5,h6⟩ := h
    exact ⟨h0,xs,ck,l,hb.trans h1,h2,h3.mono hi hm hw hr,h4,h5,h6⟩
  | iter x pos =>
    obtain ⟨h0,h1,h2⟩ := h
    exact ⟨h0,h1,hb.trans h2⟩
  | loop T N ps assign body st =>
    obtain ⟨h0,r,h1,h2,h3,h4,h5,h6,h7⟩ := h
    exact ⟨h0,r,hb.trans h1,h2,h3,h4,h5,fun n hn => (h6 n hn).mono hi hm hw hr,h7⟩

theorem ObjR.lt {I : Nat → Prop} {μ : Emb} {w : World} {o : AObj} {b base : Nat} (h : ObjR I μ w o b base) : b < w.heap.size := by
  have key : ∀ x,w.heap[b]? = some x → b < w.heap.size := fun x hx => (Array.getElem?_eq_some_iff.1 hx).1
  cases o with
  | cells cs odd => obtain ⟨c,elem,lo,hi,h1,_⟩ := h; exact key _ h1
  | map es clock => obtain ⟨_,xs,ck,l,h1,_⟩ := h; exact key _ h1
  | iter x pos => exact key _ h.2.2
  | loop T N ps assign body st => obtain ⟨_,r,h1,_⟩ := h; exact key _ h1

theorem HR.blk {Γ : Nat → D} {I : Nat → Prop} {μ : Emb} {h : AHeap} {w : World} (H : HR Γ I μ h w) {b : Nat} (hb : I b) :
    ∀ l o base,h.get l = some o → μ l ≠ some (b,base) := by
  intro l o base hg hm
  obtain ⟨b',base',h1,h2,_⟩ := H.live l o hg
  rw [hm] at h1
  simp only [Option.some.injEq,Prod.mk.injEq] at h1
  exact h2 (h1.1 ▸ hb)

theorem Ext.keep {Γ : Nat → D} {I I' : Nat → Prop} {μ μ' : Emb} {h h' : AHeap} {w w' : World} (H : HR Γ I μ h w) (E : Ext I μ h w I' μ' h' w') :
    ∀ b,I b → w'.heap[b]? = w.heap[b]? := fun b hb => E.frame b (H.frz b hb) (H.blk hb)

theorem Ext.r {Γ : Nat → D} {I I' : Nat → Prop} {μ μ' : Emb} {h h' : AHeap} {w w' : World} (E : Ext I μ h w I' μ' h' w') (H : HR Γ I μ h w) {d : D} {v : Value}
    (r : R I μ w d v) : R I' μ' w' d v := r.mono E.isub E.musub (E.keep H) E.rows

theorem Ext.refl (I : Nat → Prop) (μ : Emb) (h : AHeap) (w : World) : Ext I μ h w I μ h w :=
  ⟨Nat.le_refl _,rfl,rfl,rfl,fun _ _ x => x,fun _ x => x,fun _ _ x => x,Nat.le_refl _,fun _ _ _ => rfl,fun l o b base hg hm => .inr ⟨l,o,base,hg,hm⟩⟩

theorem Ext.trans {I I' I'' : Nat → Prop} {μ μ' μ'' : Emb} {h h' h'' : AHeap} {w w' w'' : World} (A : Ext I μ h w I' μ' h' w') (B : Ext I' μ' h' w' I'' μ'' h'' w'') :
    Ext I μ h w I'' μ'' h'' w'' where
  size := Nat.le_trans A.size B.size
  os := B.os.trans A.os
  tape := B.tape.trans A.tape
  output := B.output.trans A.output
  rows b n hn := B.rows b n (A.rows b n hn)
  isub b hb := B.isub b (A.isub b hb)
  musub l p hp := B.musub l p (A.musub l p hp)
  next := Nat.le_trans A.next B.next
  frame b hb hn := by
    rw [B.frame b (Nat.lt_of_lt_of_le hb A.size) ?_,A.frame b hb hn]
    intro l o base hg hm
    rcases A.back l o b base hg hm with hs | ⟨l0,o0,base0,h1,h2⟩
    · omega
    · exact hn l0 o0 base0 h1 h2
  back l o b base hg hm := by
    rcases B.back l o b base hg hm with hs | ⟨l0,o0,base0,h1,h2⟩
    · exact .inl (Nat.le_trans A.size hs)
    · exact A.back l0 o0 b base0 h1 h2

end Go.Abs
end
noncomputable section
namespace Go.Abs
open Go

def NextIs (n : Next) (v : Value) : Prop := n = .value v ∨ (n = .skip ∧ v = undef)

structure Only (b : Nat) (w w' : World) : Prop where
  size : w'.heap.size = w.heap.size
  os : w'.os = w.os
  tape : w'.tape = w.tape
  output : w'.output = w.output
  rows : ∀ c n,rowSize w c = some n → rowSize w' c = some n
  same : ∀ c,c ≠ b → w'.heap[c]? = w.heap[c]?

structure Grew (w w' : World) : Prop where
  size : w'.heap.size = w.heap.size + 1
  os : w'.os = w.os
  tape : w'.tape = w.tape
  output : w'.output = w.output
  same : ∀ c,c < w.heap.size → w'.heap[c]? = w.heap[c]?

def Res (I : Nat → Prop) (μ : Emb) (h : AHeap) (w : World) (id : Nat) (r : Result Next) : AR → Prop
  | .val d => ∃ n v,r = .ok n w ∧ NextIs n v ∧ R I μ w d v
  | .upd l o d => ∃ n v w' b base,r = .ok n w' ∧ NextIs n v ∧ μ l = some (b,base) ∧ (h.get l).isSome = true ∧ Only b w w' ∧ ObjR I μ w' o b base ∧ R I μ w' d v
  | .new o d => ∃ n v w',r = .ok n w' ∧ NextIs n v ∧ Grew w w' ∧
      ∀ μ' : Emb,(∀ l p,μ l = some p → μ' l = some p) → μ' id = some (w.heap.size,0) → ObjR I μ' w' o w.heap.size 0 ∧ R I μ' w' d v
  | .app l o d => ∃ n v w' b base b' base',r = .ok n w' ∧ NextIs n v ∧ μ l = some (b,base) ∧ (h.get l).isSome = true ∧
      ((b' = b ∧ Only b w w') ∨ (b' = w.heap.size ∧ Grew w w')) ∧
      ∀ μ' : Emb,(∀ l p,μ l = some p → μ' l = some p) → μ' id = some (b',base') → ObjR I μ' w' o b' base' ∧ R I μ' w' d v
  | .panic d => ∃ v,r = .halt (.panic v) w ∧ R I μ w d v
  | .bad => True

theorem Res.value {I : Nat → Prop} {μ : Emb} {h : AHeap} {w : World} {id : Nat} {d : D} {v : Value} (hr : R I μ w d v) :
    Res I μ h w id (.ok (.value v) w) (.val d) := ⟨_,_,rfl,.inl rfl,hr⟩

theorem Grew.alloc (w : World) (o : Obj) : Grew w { w with heap := w.heap.push o } :=
  ⟨by simp,rfl,rfl,rfl,fun c hc => by simp [Array.getElem?_push,Nat.ne_of_lt hc]⟩

theorem rowSize_lt {w : World} {b n : Nat} (hb : rowSize w b = some n) : b < w.heap.size := by
  unfold rowSize at hb
  split at hb
  · rename_i h1; exact (Array.getElem?_eq_some_iff.1 h1).1
  · simp at hb

theorem Grew.rows {w w' : World} (g : Grew w w') (b n : Nat) (hb : rowSize w b = some n) : rowSize w' b = some n := by
  have := g.same b (rowSize_lt hb)
  unfold rowSize at hb ⊢
  rw [this]; exact hb

theorem rowSize_cells {w : World} {b : Nat} {c : Array Value} {e : TypeId} {fr : Nat × Nat} (hb : w.heap[b]? = some (.cells c e fr)) : rowSize w b = some c.size := by
  simp [rowSize,hb]

theorem add_off (b o n : Nat) : (⟨b,o,none⟩ : Addr).add n = ⟨b,o + n,none⟩ := by
  unfold Addr.add; split <;> simp_all

section
variable {P : Program} {Γ : Nat → D} {I : Nat → Prop} {μ : Emb} {h : AHeap} {w : World} {id : Nat} {a : Act} {ev : Opd → D} {o : Oper} {x : XOp}

theorem one_cell {d : D} {v : Value} (hv : d.one = true) (hr : R I μ w d v) : v.oneCell' = true := by
  cases hr <;> simp_all [D.one,Value.oneCell']

theorem R.cells {d : D} {v : Value} (hv : d.val = true) (hr : R I μ w d v) :
    d.cells.length = v.cells.size ∧ (∀ c ∈ d.cells,c.one = true) ∧ ∀ j (hj : j < d.cells.length),∃ u,v.cells[j]? = some u ∧ R I μ w d.cells[j] u := by
  cases hr with
  | agg cs xs h1 h2 h3 => exact ⟨h1,h2,fun j hj => ⟨xs[j]'(h1 ▸ hj),by simp [Value.cells,h1 ▸ hj],h3 j hj⟩⟩
  | tup => simp [D.val] at hv
  | _ =>
    refine ⟨rfl,by simp [D.cells,D.one],fun j hj => ?_⟩
    have : j = 0 := by simpa [D.cells] using hj
    subst this
    exact ⟨_,rfl,by simp only [D.cells,List.getElem_cons_zero]; constructor <;> assumption⟩

theorem cells_oneCell {d : D} {v : Value} (hv : d.val = true) (hr : R I μ w d v) : ∀ u ∈ v.cells.toList,u.oneCell' = true := by
  obtain ⟨h1,h2,h3⟩ := hr.cells hv
  intro u hu
  obtain ⟨j,hj,rfl⟩ := List.getElem_of_mem hu
  have hj' : j < d.cells.length := by simpa [h1] using hj
  obtain ⟨u',hu',hr'⟩ := h3 j hj'
  have : v.cells.toList[j] = u' := by
    have hjs : j < v.cells.size := by simpa using hj
    simp only [Array.getElem?_eq_getElem hjs,Option.some.injEq] at hu'
    simpa using hu'
  rw [this]
  exact one_cell (h2 _ (List.getElem_mem hj')) hr'

/-! ### Types -/

theorem aggSize_spec {t : TypeId} {g : Bool} {n : Nat} (ha : aggSize P t = some (g,n)) :
    ∃ d i,P.underlying t = some d ∧ P.info? t = some i ∧ g = isAggD d ∧ n = i.size ∧ n ≠ 0 := by
  unfold aggSize at ha
  simp only [Option.bind_eq_bind,Option.bind_eq_some_iff] at ha
  obtain ⟨d,hd,i,hi,h1⟩ := ha
  split at h1
  · simp at h1
  · simp only [Option.pure_def,Option.some.injEq,Prod.mk.injEq] at h1
    exact ⟨d,i,hd,hi,h1.1.symm,h1.2.symm,by omega⟩

theorem run_isAgg {t : TypeId} {d : TypeDesc} (hd : P.underlying t = some d) (w : World) : (isAgg t).run P w = .ok (isAggD d) w := by
  unfold isAgg isAggD
  simp only [Sem.run_bind,run_underlying hd,Result.andThen_ok]
  split <;> first | rfl | (rename_i h1; split <;> first | rfl | (exfalso; simp_all))

theorem run_sizeOf {t : TypeId} {i : TypeInfo} (hi : P.info? t = some i) (w : World) : (sizeOf t).run P w = .ok i.size w := by
  simp [sizeOf,typeInfo,hi]

theorem run_loadVar {t : TypeId} {g : Bool} {n : Nat} (ha : aggSize P t = some (g,n)) (a : Addr) (vs : List Value) (hl : vs.length = n)
    (hc : ∀ j x,vs[j]? = some x → w.cell? (a.add j) = some x) : ∃ u,(if g then some (Value.agg vs.toArray) else vs[0]?) = some u ∧ (loadVar t a).run P w = .ok u w := by
  obtain ⟨d,i,hd,hi,rfl,rfl,h0⟩ := aggSize_spec ha
  have hlc := run_loadCells_list (P := P) w a vs hc
  rw [hl] at hlc
  cases hg : isAggD d with
  | true => exact ⟨_,rfl,by simp [loadVar,run_isAgg hd,hg,run_sizeOf hi,hlc]⟩
  | false =>
    obtain ⟨u,hu⟩ : ∃ u,vs[0]? = some u := ⟨vs[0]'(by omega),by simp [show 0 < vs.length by omega]⟩
    have h1 := hc 0 u hu
    rw [show a.add 0 = a by simp [Addr.add]] at h1
    exact ⟨u,by simpa using hu,by simp [loadVar,run_isAgg hd,hg,h1]⟩

/-! ### Cells that are written -/

def setArr (c : Array Value) (o : Nat) : List Value → Array Value
  | [] => c
  | v :: r => setArr (c.setIfInBounds o v) (o + 1) r

theorem setArr_size (c : Array Value) (o : Nat) (vs : List Value) : (setArr c o vs).size = c.size := by
  induction vs generalizing c o with
  | nil => rfl
  | cons v r ih => simp [setArr,ih]

theorem setArr_get (c : Array Value) (o : Nat) (vs : List Value) (hs : o + vs.length ≤ c.size) (k : Nat) :
    (setArr c o vs)[k]? = if o ≤ k ∧ k < o + vs.length then vs[k - o]? else c[k]? := by
  induction vs generalizing c o with
  | nil => simp [setArr]; intro h1 h2; omega
  | cons v r ih =>
    simp only [List.length_cons] at hs
    rw [setArr,ih _ _ (by simp; omega)]
    by_cases hk : k = o
    · subst hk
      rw [if_neg (by omega),if_pos (by simp)]
      simp [Array.getElem?_setIfInBounds]
      omega
    · by_cases h1 : o + 1 ≤ k ∧ k < o + 1 + r.length
      · rw [if_pos h1,if_pos (by simp; omega)]
        obtain ⟨m,rfl⟩ : ∃ m,k = o + 1 + m := ⟨k - (o + 1),by omega⟩
        simp [show o + 1 + m - o = m + 1 by omega]
      · rw [if_neg h1,if_neg (by simp; omega),Array.getElem?_setIfInBounds,if_neg (by omega)]

theorem setCells_heap (b : Nat) : ∀ (vs : List Value) (o : Nat) (w : World) (c : Array Value) (elem : TypeId) (fr : Nat × Nat),w.heap[b]? = some (.cells c elem fr) →
    (w.setCells b o vs).heap[b]? = some (.cells (setArr c o vs) elem fr) ∧ Only b w (w.setCells b o vs)
  | [],o,w,c,elem,fr,hb => ⟨hb,rfl,rfl,rfl,rfl,fun _ _ x => x,fun _ _ => rfl⟩
  | v :: r,o,w,c,elem,fr,hb => by
    have h1 : (w.setCell ⟨b,o,none⟩ v).heap[b]? = some (.cells (c.setIfInBounds o v) elem fr) := by
      simp only [World.setCell,Array.getElem?_modify,hb,if_true,Option.map_some]
      rfl
    obtain ⟨h2,h3⟩ := setCells_heap b r (o + 1) (w.setCell ⟨b,o,none⟩ v) _ elem fr h1
    refine ⟨h2,⟨by rw [World.setCells,h3.size]; simp [World.setCell],by rw [World.setCells,h3.os]; rfl,by rw [World.setCells,h3.tape]; rfl,by rw [World.setCells,h3.output]; rfl,?_,?_⟩⟩
    · intro x n hn
      refine h3.rows x n ?_
      by_cases hx : x = b
      · subst hx
        rw [rowSize_cells hb] at hn
        rw [rowSize_cells h1]; simpa using hn
      · unfold rowSize at hn ⊢
        rw [show (w.setCell ⟨b,o,none⟩ v).heap[x]? = w.heap[x]? by simp only [World.setCell,Array.getElem?_modify]; rw [if_neg (Ne.symm hx)]]
        exact hn
    · intro x hx
      rw [World.setCells,h3.same x hx]
      simp only [World.setCell,Array.getElem?_modify]
      rw [if_neg (Ne.symm hx)]

theorem cells_at (H : HR Γ I μ h w) {l : Nat} {cs : List D} {odd : Nat} (hg : h.get l = some (.cells cs odd)) :
    ∃ b base c elem lo hi,μ l = some (b,base) ∧ ¬ I b ∧ w.heap[b]? = some (.cells c elem (lo,hi)) ∧ base + cs.length ≤ c.size ∧ (c.size ≤ lo ∨ (lo = 0 ∧ hi = 0)) ∧
      Mk odd elem base lo hi c.size cs.length ∧ (∀ d ∈ cs,d.one = true) ∧ ∀ j (hj : j < cs.length),∃ v,c[base + j]? = some v ∧ R I μ w cs[j] v := by
  obtain ⟨b,base,h1,h2,c,elem,lo,hi,h3⟩ := H.live l _ hg
  exact ⟨b,base,c,elem,lo,hi,h1,h2,h3⟩

theorem cell?_of_cells {w : World} {b o : Nat} {c : Array Value} {elem : TypeId} {fr : Nat × Nat} (hb : w.heap[b]? = some (.cells c elem fr)) : w.cell? ⟨b,o,none⟩ = c[o]? := by
  simp [World.cell?,hb]

theorem frozen?_of_cells {w : World} {b o : Nat} {c : Array Value} {elem : TypeId} {lo hi : Nat} (hb : w.heap[b]? = some (.cells c elem (lo,hi)))
    (hf : c.size ≤ lo ∨ (lo = 0 ∧ hi = 0)) (ho : o < c.size) : w.frozen? ⟨b,o,none⟩ = false := by
  simp [World.frozen?,hb]
  omega

theorem ldCells_sound (H : HR Γ I μ h w) {d : D} {v : Value} (hr : R I μ w d v) {n : Nat} {cs : List D} (hl : ldCells h.get n d = some cs) :
    ∃ (b o : Nat) (vs : List Value),v = .pointer (some ⟨b,o,none⟩) ∧ cs.length = n ∧ vs.length = n ∧ (∀ c ∈ cs,c.one = true) ∧
      (∀ j x,vs[j]? = some x → w.cell? (Addr.add ⟨b,o,none⟩ j) = some x) ∧ ∀ j (h1 : j < cs.length) (h2 : j < vs.length),R I μ w cs[j] vs[j] := by
  cases hr with
  | ptr l off b base hm =>
    simp only [ldCells] at hl
    split at hl <;> try (simp at hl; done)
    rename_i cs0 odd hg
    split at hl <;> try (simp at hl; done)
    rename_i hle
    simp only [Option.some.injEq] at hl
    subst hl
    obtain ⟨b',base',c,elem,lo,hi,h1,h2,h3,h4,h5,h6,h7,h8⟩ := cells_at H hg
    rw [hm] at h1
    simp only [Option.some.injEq,Prod.mk.injEq] at h1
    obtain ⟨rfl,rfl⟩ := h1
    refine ⟨b,base + off,(List.range n).map fun j => c.getD (base + off + j) undef,rfl,by simp; omega,by simp,?_,?_,?_⟩
    · exact fun c hc => h7 c (List.mem_of_mem_drop (List.mem_of_mem_take hc))
    · intro j x hx
      have hj : j < n := by
        have := (List.getElem?_eq_some_iff.1 hx).1
        simpa using this
      simp [hj] at hx
      rw [add_off,cell?_of_cells h3]
      have : base + off + j < c.size := by omega
      simp [this] at hx ⊢
      exact hx
    · intro j hj1 hj2
      simp only [List.length_take,List.length_drop] at hj1
      obtain ⟨u,hu,hr⟩ := h8 (off + j) (by omega)
      have : base + off + j < c.size := by omega
      have hu' : c[base + off + j]'this = u := by
        rw [← Nat.add_assoc] at hu
        simpa [this] using hu
      simp only [List.getElem_take,List.getElem_drop,List.getElem_map,List.getElem_range,Array.getD,dif_pos this]
      rw [show c.getInternal (base + off + j) this = c[base + off + j]'this from rfl,hu']
      exact hr
  | fptr cs0 b o vs hb h1 hc hrr =>
    simp only [ldCells] at hl
    split at hl <;> try (simp at hl; done)
    rename_i hle
    simp only [Option.some.injEq] at hl
    subst hl
    refine ⟨b,o,(List.range n).map vs,rfl,by simp; omega,by simp,fun c hc => h1 c (List.mem_of_mem_take hc),?_,?_⟩
    · intro j x hx
      have hj : j < n := by
        have := (List.getElem?_eq_some_iff.1 hx).1
        simpa using this
      simp [hj] at hx
      rw [add_off,hc j (by omega),hx]
    · intro j hj1 hj2
      simp only [List.length_take] at hj1
      simp only [List.getElem_take,List.getElem_map,List.getElem_range]
      exact hrr j (by omega)
  | _ => simp [ldCells] at hl

end
end Go.Abs
end
noncomputable section
namespace Go.Abs
open Go

section
variable {P : Program} {Γ : Nat → D} {I : Nat → Prop} {μ : Emb} {h : AHeap} {w : World} {id : Nat}

abbrev vv (s : Sem Value) : Sem Next := do pure (.value (← s))
abbrev uu (s : Sem Unit) : Sem Next := do s; pure .skip

theorem run_vv {s : Sem Value} {v : Value} {w w' : World} (hs : s.run P w = .ok v w') : (vv s).run P w = .ok (.value v) w' := by simp [vv,hs]
theorem run_uu {s : Sem Unit} {w w' : World} (hs : s.run P w = .ok () w') : (uu s).run P w = .ok .skip w' := by simp [uu,hs]

theorem Res.val_of {s : Sem Value} {v : Value} {d : D} (hs : s.run P w = .ok v w) (hr : R I μ w d v) : Res I μ h w id ((vv s).run P w) (.val d) := by
  rw [run_vv hs]; exact Res.value hr

theorem s_ld (H : HR Γ I μ h w) {t : TypeId} {g : Bool} {n : Nat} (ha : aggSize P t = some (g,n)) {d : D} {v : Value} (hr : R I μ w d v) :
    Res I μ h w id ((vv (Instr.loadAt t v)).run P w) (match (generalizing := false) ldCells h.get n d with | some cs => if g then .val (.agg cs) else ofO cs[0]? | none => .bad) := by
  cases hl : ldCells h.get n d with
  | none => trivial
  | some cs =>
    obtain ⟨b,o,vs,rfl,h1,h2,h3,h4,h5⟩ := ldCells_sound H hr hl
    obtain ⟨u,hu,hrun⟩ := run_loadVar ha ⟨b,o,none⟩ vs h2 h4
    have hs : (Instr.loadAt t (.pointer (some ⟨b,o,none⟩))).run P w = .ok u w := by simp [Instr.loadAt,Instr.sureAddr,hrun]
    simp only
    cases g with
    | true =>
      simp only [if_true,Option.some.injEq] at hu
      subst hu
      exact Res.val_of hs (.agg _ _ (by simp; omega) h3 fun j hj => by simpa using h5 j hj (by omega))
    | false =>
      simp only [Bool.false_eq_true,if_false] at hu
      cases cs with
      | nil => trivial
      | cons c r =>
        cases vs with
        | nil => simp at hu
        | cons x y =>
          simp at hu
          subst hu
          exact Res.val_of hs (h5 0 (by simp) (by simp))

theorem splice_length {cs : List D} {off : Nat} {new : List D} (hle : off + new.length ≤ cs.length) : (splice cs off new).length = cs.length := by
  simp [splice]; omega

theorem splice_get {cs : List D} {off : Nat} {new : List D} (hle : off + new.length ≤ cs.length) (k : Nat) :
    (splice cs off new)[k]? = if off ≤ k ∧ k < off + new.length then new[k - off]? else cs[k]? := by
  unfold splice
  by_cases h1 : k < off
  · rw [if_neg (by omega),List.append_assoc,List.getElem?_append_left (by simp; omega),List.getElem?_take,if_pos h1]
  · by_cases h2 : k < off + new.length
    · rw [if_pos ⟨by omega,h2⟩,List.getElem?_append_left (by simp; omega),List.getElem?_append_right (by simp; omega)]
      congr 1; simp; omega
    · rw [if_neg (by omega),List.getElem?_append_right (by simp; omega),List.getElem?_drop]
      congr 1; simp; omega

theorem objR_splice (H : HR Γ I μ h w) {l : Nat} {cs : List D} {odd : Nat} (hg : h.get l = some (.cells cs odd)) {off : Nat} {new : List D} {us : List Value} {b base : Nat}
    (hm : μ l = some (b,base)) (hlen : new.length = us.length) (hle : off + new.length ≤ cs.length) (h1 : ∀ c ∈ new,c.one = true)
    (hr : ∀ j (hj : j < new.length),∃ u,us[j]? = some u ∧ R I μ w new[j] u) :
    Only b w (w.setCells b (base + off) us) ∧ ObjR I μ (w.setCells b (base + off) us) (.cells (splice cs off new) odd) b base := by
  obtain ⟨b',base',c,elem,lo,hi,e1,e2,e3,e4,e5,e6,e7,e8⟩ := cells_at H hg
  rw [hm] at e1
  simp only [Option.some.injEq,Prod.mk.injEq] at e1
  obtain ⟨rfl,rfl⟩ := e1
  obtain ⟨k1,k2⟩ := setCells_heap b us (base + off) w c elem (lo,hi) e3
  have mono : ∀ {d v},R I μ w d v → R I μ (w.setCells b (base + off) us) d v := fun r =>
    r.mono (fun _ x => x) (fun _ _ x => x) (fun c hc => k2.same c (fun e => e2 (e ▸ hc))) k2.rows
  refine ⟨k2,setArr c (base + off) us,elem,lo,hi,k1,by rw [setArr_size,splice_length hle]; exact e4,by rw [setArr_size]; exact e5,⟨e6.1,fun t ht => by
    obtain ⟨q1,q2,q3⟩ := e6.2.1 t ht
    refine ⟨q1,q2,?_⟩
    rw [setArr_size,q3]
    simp [splice]; omega,e6.2.2⟩,?_,?_⟩
  · intro d hd
    unfold splice at hd
    simp only [List.mem_append] at hd
    rcases hd with (hd | hd) | hd
    · exact e7 d (List.mem_of_mem_take hd)
    · exact h1 d hd
    · exact e7 d (List.mem_of_mem_drop hd)
  · intro j hj
    rw [splice_length hle] at hj
    have hget := splice_get hle j
    rw [List.getElem?_eq_getElem (by rw [splice_length hle]; exact hj)] at hget
    rw [setArr_get _ _ _ (by omega)]
    by_cases hin : off ≤ j ∧ j < off + new.length
    · rw [if_pos hin] at hget
      rw [if_pos (by omega)]
      obtain ⟨u,hu,hru⟩ := hr (j - off) (by omega)
      refine ⟨u,by rw [show base + j - (base + off) = j - off by omega]; exact hu,?_⟩
      rw [List.getElem?_eq_getElem (by omega)] at hget
      simp only [Option.some.injEq] at hget
      rw [hget]
      exact mono hru
    · rw [if_neg hin] at hget
      rw [if_neg (by omega)]
      obtain ⟨u,hu,hru⟩ := e8 j hj
      refine ⟨u,hu,?_⟩
      rw [List.getElem?_eq_getElem hj] at hget
      simp only [Option.some.injEq] at hget
      rw [hget]
      exact mono hru

theorem s_st (H : HR Γ I μ h w) {t : TypeId} {g : Bool} {n : Nat} (ha : aggSize P t = some (g,n)) {d e : D} {v u : Value} (hr : R I μ w d v) (hre : R I μ w e u) :
    Res I μ h w id ((uu (Instr.storeAt t v u)).run P w) (match (generalizing := false) d with
      | .ptr l off => (match (generalizing := false) h.get l with
        | some (.cells cs odd) => if e.cells.length = n ∧ off + n ≤ cs.length ∧ e.val = true then .upd l (.cells (splice cs off e.cells) odd) (.tup []) else .bad
        | _ => .bad)
      | _ => .bad) := by
  cases hr with
  | ptr l off b base hm =>
    simp only
    split <;> try trivial
    rename_i cs odd hg
    split <;> try trivial
    rename_i hc
    obtain ⟨c1,c2,c3⟩ := hc
    obtain ⟨dd,i,hd,hi,_,rfl,_⟩ := aggSize_spec ha
    obtain ⟨r1,r2,r3⟩ := hre.cells c3
    obtain ⟨b',base',c,elem,lo,hi',e1,e2,e3,e4,e5,e6,e7,e8⟩ := cells_at H hg
    rw [hm] at e1
    simp only [Option.some.injEq,Prod.mk.injEq] at e1
    obtain ⟨rfl,rfl⟩ := e1
    obtain ⟨k1,k2⟩ := objR_splice (off := off) (new := e.cells) (us := u.cells.toList) H hg hm (by simp [r1]) (by omega) r2 (fun j hj => by
      obtain ⟨x,hx,hrx⟩ := r3 j hj
      exact ⟨x,by simpa using hx,hrx⟩)
    have hst := run_storeCells_cells (P := P) b (base + off) u.cells.toList 0 w
      (fun j hj => by
        rw [Nat.add_zero,cell?_of_cells e3,Array.getElem?_eq_getElem (by simp at hj; omega)]; rfl)
      (fun j hj => by
        have hb : base + off + j < c.size := by simp at hj; omega
        rw [Nat.add_zero]; exact frozen?_of_cells e3 e5 hb)
      (cells_oneCell c3 hre)
    rw [Nat.add_zero] at hst
    have hrun : (Instr.storeAt t (.pointer (some ⟨b,base + off,none⟩)) u).run P w = .ok () (w.setCells b (base + off) u.cells.toList) := by
      simp [Instr.storeAt,Instr.sureAddr,storeVar,run_sizeOf hi,← r1,c1,hst]
    rw [run_uu hrun]
    exact ⟨_,undef,_,b,base,rfl,.inr ⟨rfl,rfl⟩,hm,by simp [hg],k1,k2,.tup [] #[] rfl (fun j hj => by simp at hj)⟩
  | _ => trivial

theorem objR_newM {m : Nat} {cs : List D} {us : Array Value} {elem : TypeId} {w' : World} (hw : w'.heap = w.heap) (H : HR Γ I μ h w) (hlen : cs.length ≤ us.size) (h1 : ∀ c ∈ cs,c.one = true)
    (hr : ∀ j (hj : j < cs.length),∃ u,us[j]? = some u ∧ R I μ w cs[j] u) (hmk : (∀ t,m = 2 * t + 2 → elem = t ∧ us.size = cs.length) ∧ ∀ t,m = 2 * t + 3 → elem = t) {μ' : Emb} (hm : ∀ l p,μ l = some p → μ' l = some p) :
    ObjR I μ' { w' with heap := w'.heap.push (.cells us elem) } (.cells cs m) w.heap.size 0 := by
  refine ⟨us,elem,0,0,by simp [hw],by omega,.inr ⟨rfl,rfl⟩,⟨fun _ => ⟨rfl,rfl⟩,fun t ht => ⟨(hmk.1 t ht).1,rfl,(hmk.1 t ht).2⟩,fun t ht => ⟨hmk.2 t ht,rfl⟩⟩,h1,fun j hj => ?_⟩
  obtain ⟨u,hu,hru⟩ := hr j hj
  have hheap : ({ w' with heap := w'.heap.push (.cells us elem) } : World).heap = w.heap.push (.cells us elem) := by simp [hw]
  refine ⟨u,by simpa using hu,hru.mono (fun _ x => x) hm (fun b hb => ?_) (fun b n hn => ?_)⟩
  case refine_2 =>
    have := rowSize_lt hn
    unfold rowSize at hn ⊢
    rw [hheap,Array.getElem?_push,if_neg (Nat.ne_of_lt this)]; exact hn
  have := H.frz b hb
  rw [show ({ w' with heap := w'.heap.push (.cells us elem) } : World).heap = w.heap.push (.cells us elem) by simp [hw]]
  simp [Array.getElem?_push,Nat.ne_of_lt this]

theorem objR_new {cs : List D} {us : Array Value} {elem : TypeId} {w' : World} (hw : w'.heap = w.heap) (H : HR Γ I μ h w) (hlen : cs.length ≤ us.size) (h1 : ∀ c ∈ cs,c.one = true)
    (hr : ∀ j (hj : j < cs.length),∃ u,us[j]? = some u ∧ R I μ w cs[j] u) {μ' : Emb} (hm : ∀ l p,μ l = some p → μ' l = some p) :
    ObjR I μ' { w' with heap := w'.heap.push (.cells us elem) } (.cells cs 0) w.heap.size 0 := objR_newM hw H hlen h1 hr ⟨fun t ht => absurd ht (by omega),fun t ht => absurd ht (by omega)⟩ hm

theorem s_new_ptr {m : Nat} (H : HR Γ I μ h w) {cs : List D} {us : Array Value} {elem : TypeId} (hlen : cs.length ≤ us.size) (h1 : ∀ c ∈ cs,c.one = true)
    (hr : ∀ j (hj : j < cs.length),∃ u,us[j]? = some u ∧ R I μ w cs[j] u) (hmk : (∀ t,m = 2 * t + 2 → elem = t ∧ us.size = cs.length) ∧ ∀ t,m = 2 * t + 3 → elem = t) :
    Res I μ h w id (.ok (.value (.pointer (some ⟨w.heap.size,0,none⟩))) { w with heap := w.heap.push (.cells us elem) }) (.new (.cells cs m) (.ptr id 0)) :=
  ⟨_,_,_,rfl,.inl rfl,Grew.alloc w _,fun μ' hm hid => ⟨objR_newM rfl H hlen h1 hr hmk hm,.ptr _ _ _ _ hid⟩⟩

theorem dOf_R (w : World) : ∀ (n m : Nat) (v : Value),(dOf n v).good m = true → R I μ w (dOf n v) v := by
  intro n
  induction n with
  | zero => intro m v hg; cases m <;> simp [dOf,D.good] at hg
  | succ n ih =>
    intro m v hg
    cases m with
    | zero => simp [D.good] at hg
    | succ m =>
      cases v with
      | bool x => exact .b x
      | int k x => exact .i k x
      | string s =>
        simp only [dOf,D.good,decide_eq_true_eq] at hg
        exact .s _ hg
      | pointer p => cases p <;> first | exact .nilp | simp [dOf,D.good] at hg
      | slice p a b =>
        rcases p with _ | p
        · rcases a with _ | a
          · rcases b with _ | b
            · exact .nils
            · simp [dOf,D.good] at hg
          · simp [dOf,D.good] at hg
        · simp [dOf,D.good] at hg
      | map p => cases p <;> first | exact .nilm | simp [dOf,D.good] at hg
      | nilFunc => exact .nilf
      | nilIface => exact .nili
      | iface t v =>
        simp only [dOf,D.good,Bool.and_eq_true] at hg
        refine .ifc _ _ _ ?_ (ih m v hg.1)
        revert hg; cases dOf n v <;> simp [D.one,D.val]
      | agg cs =>
        simp only [dOf,D.good,List.all_eq_true,Bool.and_eq_true] at hg
        refine .agg _ _ (by simp) (fun c hc => (hg c hc).2) fun j hj => ?_
        simp only [List.getElem_map,Array.getElem_toList]
        have hj' : j < cs.size := by simpa using hj
        exact ih m _ (by simpa using (hg (dOf n cs[j]) (List.mem_map.2 ⟨cs[j],by simp,rfl⟩)).1)
      | tuple cs =>
        simp only [dOf,D.good,List.all_eq_true] at hg
        refine .tup _ _ (by simp) fun j hj => ?_
        simp only [List.getElem_map,Array.getElem_toList]
        have hj' : j < cs.size := by simpa using hj
        exact ih m _ (by simpa using hg (dOf n cs[j]) (List.mem_map.2 ⟨cs[j],by simp,rfl⟩))
      | func f a c =>
        cases f with
        | func k =>
          simp only [dOf] at hg ⊢
          have h1 : a = #[] ∧ c = #[] := by
            revert hg
            rcases ha : a.toList with _ | ⟨x,y⟩ <;> rcases hc : c.toList with _ | ⟨x',y'⟩ <;> simp_all [D.good]
          obtain ⟨rfl,rfl⟩ := h1
          exact .fn _ _ _ _ _ rfl rfl (fun j hj => by simp at hj) (fun j hj => by simp at hj)
        | _ => simp [dOf,D.good] at hg
      | _ => simp [dOf,D.good] at hg

end
end Go.Abs
end
noncomputable section
namespace Go.Abs
open Go

section
variable {P : Program} {Γ : Nat → D} {I : Nat → Prop} {μ : Emb} {h : AHeap} {w : World} {id : Nat}

theorem zeroOf_spec {t : TypeId} {z : D} (hz : zeroOf P t = some z) :
    ∃ i v,P.info? t = some i ∧ i.zero = some v ∧ z = dOf 20 v ∧ z.good 20 = true ∧ z.cells.length = i.size ∧ i.size ≠ 0 := by
  unfold zeroOf at hz
  simp only [Option.bind_eq_bind,Option.bind_eq_some_iff] at hz
  obtain ⟨i,hi,v,hv,h1⟩ := hz
  split at h1
  · rename_i hc
    simp only [Option.pure_def,Option.some.injEq] at h1
    subst h1
    simp only [Bool.and_eq_true,beq_iff_eq,bne_iff_ne] at hc
    exact ⟨i,v,hi,hv,rfl,hc.1.1.1,hc.1.1.2,hc.1.2⟩
  · simp at h1

theorem zeroOf_val {t : TypeId} {z : D} (hz : zeroOf P t = some z) : z.val = true := by
  unfold zeroOf at hz
  simp only [Option.bind_eq_bind,Option.bind_eq_some_iff] at hz
  obtain ⟨i,hi,v,hv,h1⟩ := hz
  split at h1
  · rename_i hc
    simp only [Option.pure_def,Option.some.injEq] at h1
    subst h1
    simp only [Bool.and_eq_true] at hc
    exact hc.2
  · simp at h1

theorem zero_R {t : TypeId} {z : D} (hz : zeroOf P t = some z) (w : World) : ∃ v,(zeroValue t).run P w = .ok v w ∧ R I μ w z v := by
  obtain ⟨i,v,hi,hv,rfl,hg,_⟩ := zeroOf_spec hz
  exact ⟨v,by simp [zeroValue,typeInfo,hi,hv],dOf_R w 20 20 v hg⟩

structure ZeroOk (P : Program) (t : TypeId) (z : D) : Prop where
  eq : zeroOf P t = some z
  nt : z.val = true

theorem s_alloc {m : Nat} (H : HR Γ I μ h w) {t : TypeId} {z : D} (hz : zeroOf P t = some z) (hv : z.val = true) (hmk : (∀ t',m = 2 * t' + 2 → t = t') ∧ ∀ t',m ≠ 2 * t' + 3) :
    Res I μ h w id ((vv (Instr.alloc t true (.tuple #[]))).run P w) (.new (.cells z.cells m) (.ptr id 0)) := by
  obtain ⟨v,hrun,hr⟩ := zero_R (I := I) (μ := μ) hz w
  obtain ⟨r1,r2,r3⟩ := hr.cells hv
  have : (Instr.alloc t true (.tuple #[])).run P w = .ok (.pointer (some ⟨w.heap.size,0,none⟩)) { w with heap := w.heap.push (.cells v.cells t) } := by
    simp [Instr.alloc,hrun,newVar,newRow]
  rw [run_vv this]
  exact s_new_ptr H (by omega) r2 r3 ⟨fun t' ht => ⟨hmk.1 t' ht,by omega⟩,fun t' ht => absurd ht (hmk.2 t')⟩

theorem s_box (H : HR Γ I μ h w) {t : TypeId} {d : D} {v : Value} (hr : R I μ w d v) :
    Res I μ h w id ((vv (Instr.box t v)).run P w) (if d.val then .new (.cells d.cells 0) (.ptr id 0) else .bad) := by
  split
  · rename_i hv
    obtain ⟨r1,r2,r3⟩ := hr.cells hv
    have : (Instr.box t v).run P w = .ok (.pointer (some ⟨w.heap.size,0,none⟩)) { w with heap := w.heap.push (.cells v.cells t) } := by
      simp [Instr.box,newVar,newRow]
    rw [run_vv this]
    exact s_new_ptr H (by omega) r2 r3 ⟨fun t ht => absurd ht (by omega),fun t ht => absurd ht (by omega)⟩
  · trivial

theorem s_nilchk {d : D} {v : Value} (hr : R I μ w d v) :
    Res I μ h w id ((match (generalizing := false) v with
      | .pointer none | .nilIface | .nilFunc => runtimePanic .nilDeref
      | .func (.method name) first captured =>
        match (generalizing := false) (first[0]? : Option Value) with
        | some .nilIface => runtimePanic .nilDeref
        | some (.iface t w) => do
          if (← nilAhead ((← program).types.size + Made.depth) t w name) != some false then
            unsupported (.noEntry "op/nilCheck.the method's receiver behind this interface value is a nil pointer, or cannot be seen to be none, and the arguments act or may panic (ledger 612)")
          pure (.value (.func (.method name) first captured))
        | _ => pure (.value (.func (.method name) first captured))
      | x => pure (.value x) : Sem Next).run P w) (match (generalizing := false) d with
      | .ptr l o => .val (.ptr l o)
      | .fptr cs => .val (.fptr cs)
      | .fn (.func f) a c => .val (.fn (.func f) a c)
      | .yld l => .val (.yld l)
      | .ifc t d => .val (.ifc t d)
      | _ => .bad) := by
  cases hr with
  | ptr l off b base hm => exact Res.value (.ptr _ _ _ _ hm)
  | fptr cs b o vs h1 h2 h3 h4 => exact Res.value (.fptr _ _ _ _ h1 h2 h3 h4)
  | fn f aa cs xs ys h1 h2 h3 h4 =>
    cases f with
    | func f => exact Res.value (.fn _ _ _ _ _ h1 h2 h3 h4)
    | _ => trivial
  | ifc t d v h0 hr => exact Res.value (.ifc _ _ _ h0 hr)
  | yld l b hm => exact Res.value (.yld _ _ hm)
  | _ => trivial

theorem abin_eq {op : BinOp} {k : IntKind} {a b : Int} {d : D} (hd : abin op k a b = some d) (w : World) :
    ∃ v,R I μ w d v ∧ (match op with
      | .add | .sub | .mul => Op.intArith op k a b
      | .quo | .rem => Op.intDiv op k a b
      | .and | .or | .xor | .andNot => Op.intBits op k a b
      | _ => Op.intCmp op a b).run P w = .ok v w := by
  cases op <;> simp only [abin] at hd <;> first
    | (simp only [Option.some.injEq] at hd; subst hd; exact ⟨_,by constructor,rfl⟩)
    | (split at hd; · simp at hd
       · rename_i hb
         simp only [Option.some.injEq] at hd; subst hd
         exact ⟨_,by constructor,by simp [Op.intDiv,hb]⟩)
    | (simp at hd)

theorem ashift_eq {op : BinOp} {k k' : IntKind} {a b : Int} {d : D} (hd : ashift op k a b = some d) (w : World) :
    ∃ v,R I μ w d v ∧ (Op.shift op k a k' b).run P w = .ok v w := by
  unfold ashift at hd
  split at hd
  · simp at hd
  · rename_i hb
    cases op <;> simp only [reduceCtorEq,Option.some.injEq] at hd
    all_goals subst hd; exact ⟨_,by constructor,by simp [Op.shift,hb]⟩

theorem toList_mk (x : List UInt8) : (ByteArray.mk x.toArray).toList = x := by
  have : ∀ (b : ByteArray),b.toList = b.data.toList := by
    intro b
    have key : ∀ (n i : Nat) (r : List UInt8),b.size - i = n → ByteArray.toList.loop b i r = r.reverse ++ b.data.toList.drop i := by
      intro n
      induction n with
      | zero =>
        intro i r hn
        have hge : b.size ≤ i := by omega
        unfold ByteArray.toList.loop
        rw [if_neg (by omega),List.drop_eq_nil_of_le (by simpa using hge)]
        simp
      | succ n ih =>
        intro i r hn
        have hlt : i < b.size := by omega
        unfold ByteArray.toList.loop
        rw [if_pos hlt,ih (i + 1) _ (by omega)]
        have hlt' : i < b.data.toList.length := by simpa using hlt
        rw [List.drop_eq_getElem_cons hlt']
        simp only [List.reverse_cons,List.append_assoc,List.singleton_append]
        congr 2
        simp [ByteArray.get!,hlt]
    simpa [ByteArray.toList] using key b.size 0 [] (by omega)
  rw [this]

theorem astr_eq {op : BinOp} {x y : List UInt8} {d : D} (hd : astr op x y = some d) (w : World) :
    ∃ v,R I μ w d v ∧ (Op.stringOp op ⟨x.toArray⟩ ⟨y.toArray⟩).run P w = .ok v w := by
  have hs : ∀ z : List UInt8,(ByteArray.mk z.toArray).size = z.length := fun z => by simp [ByteArray.size]
  by_cases ho : op = .add
  · subst ho
    simp only [astr,Option.ite_none_right_eq_some,Option.some.injEq] at hd
    obtain ⟨hl,hd⟩ := hd
    subst hd
    refine ⟨_,.s _ (by simpa using hl),?_⟩
    have : ¬ (((ByteArray.mk x.toArray).size + (ByteArray.mk y.toArray).size : Nat) : Int) > IntKind.i64.max := by
      rw [hs,hs]
      have : IntKind.i64.max = 9223372036854775807 := by decide
      rw [this]; unfold maxN at hl; omega
    simp only [Op.stringOp,if_neg this,Sem.run_pure]
    congr 2
  · cases op <;> simp only [astr,reduceCtorEq,Option.some.injEq] at hd <;> first
      | (exact absurd rfl ho)
      | (subst hd; exact ⟨_,by constructor,by simp [Op.stringOp,toList_mk]⟩)

theorem eqGuard_scalar (op : BinOp) (t : TypeId) (x y : Operand) {a b : Value} (ha : (∃ k n,a = .int k n) ∨ ∃ s,a = .string s) (w : World) :
    (eqGuard op t x y a b).run P w = .ok () w := by
  unfold eqGuard
  rcases ha with ⟨k,n,rfl⟩ | ⟨s,rfl⟩ <;> (split <;> simp)

theorem binD_eq {op : BinOp} {t : TypeId} {x y : D} {u v : Value} (hx : R I μ w x u) (hy : R I μ w y v) {d : D} (hd : binD op x y = some d) :
    ∃ r,R I μ w d r ∧ (binOp op t u v).run P w = .ok r w ∧ ((∃ k n,u = .int k n) ∨ ∃ s,u = .string s) := by
  unfold binD at hd
  split at hd
  · rename_i k a k' b
    cases hx; cases hy
    by_cases hsh : op = .shl ∨ op = .shr
    · have hd' : ashift op k a b = some d := by rcases hsh with rfl | rfl <;> exact hd
      obtain ⟨r,h1,h2⟩ := ashift_eq (I := I) (μ := μ) (P := P) (k' := k') hd' w
      refine ⟨r,h1,?_,.inl ⟨_,_,rfl⟩⟩
      rcases hsh with rfl | rfl <;> exact h2
    · have hd' : (if k = k' then abin op k a b else none) = some d := by cases op <;> simp_all
      by_cases hk : k = k'
      · subst hk
        rw [if_pos rfl] at hd'
        obtain ⟨r,h1,h2⟩ := abin_eq (I := I) (μ := μ) (P := P) hd' w
        refine ⟨r,h1,?_,.inl ⟨_,_,rfl⟩⟩
        rw [← h2]
        cases op <;> simp_all [binOp]
      · rw [if_neg hk] at hd'; simp at hd'
  · cases hx; cases hy
    obtain ⟨r,h1,h2⟩ := astr_eq (I := I) (μ := μ) (P := P) hd w
    refine ⟨r,h1,?_,.inr ⟨_,rfl⟩⟩
    rw [← h2]
    cases op <;> rfl
  · simp at hd

theorem s_bin {op : BinOp} {t : TypeId} {p q : Operand} {x y : D} {u v : Value} (hx : R I μ w x u) (hy : R I μ w y v) :
    Res I μ h w id ((vv (do eqGuard op t p q u v; binOp op t u v)).run P w) (ofO (binD op x y)) := by
  cases hd : binD op x y with
  | none => trivial
  | some d =>
    obtain ⟨r,h1,h2,h3⟩ := binD_eq (P := P) (t := t) hx hy hd
    exact Res.val_of (by simp [eqGuard_scalar op t p q h3 w,h2]) h1

theorem s_un {op : UnOp} {x : D} {u : Value} (hx : R I μ w x u) : Res I μ h w id ((vv (Op.unary op u)).run P w) (ofO (unD op x)) := by
  cases hd : unD op x with
  | none => trivial
  | some d =>
    unfold unD at hd
    split at hd <;> first | (simp at hd; done) | (cases hx; simp only [Option.some.injEq] at hd; subst hd; exact Res.val_of rfl (by constructor))

end
end Go.Abs
end
noncomputable section
namespace Go.Abs
open Go

section
variable {P : Program} {Γ : Nat → D} {I : Nat → Prop} {μ : Emb} {h : AHeap} {w : World} {id : Nat}

theorem leafOf_spec {nc : Bool} {t : TypeId} {k : Leaf} (hk : leafOf P nc t = some k) :
    ∃ d,P.underlying t = some d ∧ (match k with
      | .b => d = .bool
      | .i => ∃ kk,d = .int kk
      | .s => d = .string
      | .p => ∃ e i,d = .pointer e ∧ P.info? e = some i ∧ i.size ≠ 0
      | .sl => ∃ e,d = .slice e
      | .m => ∃ a b,d = .map a b
      | .f => ∃ a b c,d = .func a b c
      | .ifc s => ∃ ms,d = .interface ms ∧ s = (nc || ms.isEmpty)) ∧ isAggD d = false := by
  unfold leafOf at hk
  simp only [Option.bind_eq_bind,Option.bind_eq_some_iff] at hk
  obtain ⟨d,hd,h1⟩ := hk
  refine ⟨d,hd,?_⟩
  cases d <;> simp only [Option.pure_def,Option.some.injEq,reduceCtorEq,Option.bind_eq_bind,Option.bind_eq_some_iff] at h1
  all_goals first | (subst h1; simp [isAggD]; done) | skip
  obtain ⟨i,hi,h2⟩ := h1
  split at h2
  · simp at h2
  · rename_i e hn
    simp only [Option.some.injEq] at h2
    subst h2
    exact ⟨⟨e,i,rfl,hi,hn⟩,rfl⟩

theorem sameAddr_one (b o o' : Nat) (w : World) : (sameAddr ⟨b,o,none⟩ ⟨b,o',none⟩).run P w = .ok (o == o') w := by
  simp only [sameAddr,beq_self_eq_true,if_true,Sem.run_pure]
  congr 1
  rw [Bool.eq_iff_iff]
  simp

theorem sameAddr_two {b b' o o' : Nat} {w : World} {c c' : Array Value} {e e' : TypeId} (hne : b ≠ b') (h1 : w.heap[b]? = some (.cells c e (0,0)))
    (h2 : w.heap[b']? = some (.cells c' e' (0,0))) : (sameAddr ⟨b,o,none⟩ ⟨b',o',none⟩).run P w = .ok false w := by
  have s1 : w.shape? b = some (e,c.size) := by simp [World.shape?,h1]
  have s2 : w.shape? b' = some (e',c'.size) := by simp [World.shape?,h2]
  have f1 : ∀ k,w.frozen? ⟨b,k,none⟩ = false := fun k => by simp [World.frozen?,h1]
  have f2 : ∀ k,w.frozen? ⟨b',k,none⟩ = false := fun k => by simp [World.frozen?,h2]
  simp [sameAddr,hne,f1,f2,noView,viewAt,s1,s2,mayBeOne,stringish]

theorem eq_ptr (H : HR Γ I μ h w) {t e : TypeId} {i : TypeInfo} (hd : P.underlying t = some (.pointer e)) (hi : P.info? e = some i) (hn : i.size ≠ 0)
    {l o l' o' : Nat} {u v : Value} (hx : R I μ w (.ptr l o) u) (hy : R I μ w (.ptr l' o') v) {r : Bool}
    (he : leafEq h.get .p (.ptr l o) (.ptr l' o') = some r) (d : Nat) : (Op.equalIn (d + 1) t u v).run P w = .ok r w := by
  cases hx with | ptr _ _ b base h1 => ?_
  cases hy with | ptr _ _ b' base' h2 => ?_
  have hsz : (sizeOf e).run P w = .ok i.size w := run_sizeOf hi w
  simp only [leafEq] at he
  split at he
  · rename_i hll
    subst hll
    rw [h1] at h2
    simp only [Option.some.injEq,Prod.mk.injEq] at h2
    obtain ⟨rfl,rfl⟩ := h2
    simp only [Option.some.injEq] at he
    subst he
    simp only [Op.equalIn,Sem.run_bind,run_underlying hd,Result.andThen_ok,hsz,hn,ne_eq,not_false_eq_true,if_true,sameAddr_one]
    congr 1
    rw [Bool.eq_iff_iff]; simp
  · rename_i hll
    split at he <;> try (simp at he; done)
    rename_i c1 c2 g1 g2
    simp only [Option.some.injEq] at he
    subst he
    obtain ⟨x1,x2,c,elem,lo,hi',e1,e2,e3,_,_,e6,_⟩ := cells_at H g1
    obtain ⟨y1,y2,c',elem',lo',hi'',k1,k2,k3,_,_,k6,_⟩ := cells_at H g2
    rw [h1] at e1; rw [h2] at k1
    simp only [Option.some.injEq,Prod.mk.injEq] at e1 k1
    obtain ⟨rfl,rfl⟩ := e1
    obtain ⟨rfl,rfl⟩ := k1
    obtain ⟨rfl,rfl⟩ := e6.1 (by decide)
    obtain ⟨rfl,rfl⟩ := k6.1 (by decide)
    have hne : b ≠ b' := fun hb => hll (H.inj _ _ _ _ b base base' g1 g2 h1 (hb ▸ h2))
    simp only [Op.equalIn,Sem.run_bind,run_underlying hd,Result.andThen_ok,hsz,hn,ne_eq,not_false_eq_true,if_true,sameAddr_two hne e3 k3]

set_option maxHeartbeats 4000000 in
theorem leafEq_sound (H : HR Γ I μ h w) {nc : Bool} {t : TypeId} {k : Leaf} (hk : leafOf P nc t = some k) {x y : D} {u v : Value} (hx : R I μ w x u) (hy : R I μ w y v) {r : Bool}
    (he : leafEq h.get k x y = some r) (d : Nat) : (Op.equalIn (d + 1) t u v).run P w = .ok r w := by
  obtain ⟨ds,hd,hkd,_⟩ := leafOf_spec hk
  have he0 := he
  unfold leafEq at he
  split at he
  · subst hkd; cases hx; cases hy; simp only [Option.some.injEq] at he; subst he; simp [Op.equalIn,run_underlying hd]
  · obtain ⟨kk,rfl⟩ := hkd
    cases hx; cases hy
    split at he
    · rename_i hkk; subst hkk
      simp only [Option.some.injEq] at he
      subst he; simp [Op.equalIn,run_underlying hd]
    · simp at he
  · subst hkd; cases hx; cases hy; simp only [Option.some.injEq] at he; subst he
    rw [run_equalIn_string w d t _ _ hd,toList_mk,toList_mk]
  · obtain ⟨e,i,rfl,hi,hn⟩ := hkd; cases hx; cases hy; simp only [Option.some.injEq] at he; subst he; simp [Op.equalIn,run_underlying hd]
  · obtain ⟨e,i,rfl,hi,hn⟩ := hkd; cases hx; cases hy; simp only [Option.some.injEq] at he; subst he; simp [Op.equalIn,run_underlying hd]
  · obtain ⟨e,i,rfl,hi,hn⟩ := hkd; cases hx; cases hy; simp only [Option.some.injEq] at he; subst he; simp [Op.equalIn,run_underlying hd]
  · obtain ⟨e,i,rfl,hi,hn⟩ := hkd; cases hx; cases hy; simp only [Option.some.injEq] at he; subst he; simp [Op.equalIn,run_underlying hd]
  · obtain ⟨e,i,rfl,hi,hn⟩ := hkd; cases hx; cases hy; simp only [Option.some.injEq] at he; subst he; simp [Op.equalIn,run_underlying hd]
  · obtain ⟨e,i,rfl,hi,hn⟩ := hkd; exact eq_ptr H hd hi hn hx hy he0 d
  · obtain ⟨e,rfl⟩ := hkd; cases hx; cases hy; simp only [Option.some.injEq] at he; subst he; simp [Op.equalIn,run_underlying hd]
  · obtain ⟨e,rfl⟩ := hkd; simp only [Option.some.injEq] at he; subst he; cases hx; cases hy <;> simp [Op.equalIn,run_underlying hd]
  · obtain ⟨e,rfl⟩ := hkd; simp only [Option.some.injEq] at he; subst he; cases hy; cases hx <;> simp [Op.equalIn,run_underlying hd]
  · obtain ⟨e,rfl⟩ := hkd; simp only [Option.some.injEq] at he; subst he; cases hx; cases hy; simp [Op.equalIn,run_underlying hd]
  · obtain ⟨e,rfl⟩ := hkd; simp only [Option.some.injEq] at he; subst he; cases hy; cases hx; simp [Op.equalIn,run_underlying hd]
  · obtain ⟨a,b,rfl⟩ := hkd; simp only [Option.some.injEq] at he; subst he; cases hx; cases hy; simp [Op.equalIn,run_underlying hd]
  · obtain ⟨a,b,rfl⟩ := hkd; simp only [Option.some.injEq] at he; subst he; cases hx; cases hy; simp [Op.equalIn,run_underlying hd]
  · obtain ⟨a,b,rfl⟩ := hkd; simp only [Option.some.injEq] at he; subst he; cases hx; cases hy; simp [Op.equalIn,run_underlying hd]
  · obtain ⟨a,b,c,rfl⟩ := hkd; simp only [Option.some.injEq] at he; subst he; cases hx; cases hy; simp [Op.equalIn,run_underlying hd]
  · obtain ⟨a,b,c,rfl⟩ := hkd; simp only [Option.some.injEq] at he; subst he; cases hx; cases hy; simp [Op.equalIn,run_underlying hd]
  · obtain ⟨a,b,c,rfl⟩ := hkd; simp only [Option.some.injEq] at he; subst he; cases hx; cases hy; simp [Op.equalIn,run_underlying hd]
  · obtain ⟨ms,rfl,hs⟩ := hkd; simp only [Option.some.injEq] at he; subst he; cases hx; cases hy; simp [Op.equalIn,run_underlying hd]
  · obtain ⟨ms,rfl,hs⟩ := hkd; simp only [Option.some.injEq] at he; subst he; cases hx; cases hy; simp [Op.equalIn,run_underlying hd]
  · obtain ⟨ms,rfl,hs⟩ := hkd; simp only [Option.some.injEq] at he; subst he; cases hx; cases hy; simp [Op.equalIn,run_underlying hd]
  · simp at he

end
end Go.Abs
end
noncomputable section
namespace Go.Abs
open Go

section
variable {P : Program} {Γ : Nat → D} {I : Nat → Prop} {μ : Emb} {h : AHeap} {w : World} {id : Nat}

def partV (g : Bool) (n off : Nat) (xs : Array Value) : Option Value := if g then some (.agg (xs.extract off (off + n))) else xs[off]?

theorem run_part {t : TypeId} {d : TypeDesc} {i : TypeInfo} (hd : P.underlying t = some d) (hi : P.info? t = some i) {xs : Array Value} {off : Nat} {v : Value}
    (hp : partV (isAggD d) i.size off xs = some v) (w : World) : (part t xs off).run P w = .ok v w := by
  unfold partV at hp
  cases hg : isAggD d with
  | true =>
    rw [hg] at hp; simp only [if_true,Option.some.injEq] at hp
    simp [part,run_isAgg hd,hg,run_sizeOf hi,hp]
  | false =>
    rw [hg] at hp; simp only [Bool.false_eq_true,if_false] at hp
    simp [part,run_isAgg hd,hg,hp]

theorem partV_some {g : Bool} {n off : Nat} {xs : Array Value} (h0 : n ≠ 0) (hle : off + n ≤ xs.size) : ∃ v,partV g n off xs = some v := by
  unfold partV
  cases g
  · exact ⟨xs[off],by simp [show off < xs.size by omega]⟩
  · exact ⟨_,rfl⟩

theorem partV_extract {g : Bool} {n off o N : Nat} {xs : Array Value} (hn : o + n ≤ N) (hle : off + N ≤ xs.size) (h0 : n ≠ 0) :
    partV g n o (xs.extract off (off + N)) = partV g n (off + o) xs := by
  unfold partV
  cases g
  · simp [Array.getElem?_extract]
    rw [Nat.min_eq_left hle]
    intro hh; omega
  · simp only [if_true,Option.some.injEq,Value.agg.injEq]
    apply Array.ext
    · simp; omega
    · intro k h1 h2
      simp [Nat.add_assoc]

theorem leavesEq_append (get : Nat → Option AObj) (cs ds : List D) (a b : List (Nat × Leaf)) (r : Bool) (he : leavesEq get cs ds (a ++ b) = some r) :
    (leavesEq get cs ds a = some false ∧ r = false) ∨ (leavesEq get cs ds a = some true ∧ leavesEq get cs ds b = some r) := by
  induction a with
  | nil => exact .inr ⟨rfl,he⟩
  | cons x a ih =>
    obtain ⟨o,k⟩ := x
    simp only [List.cons_append,leavesEq] at he ⊢
    split at he
    · split at he
      · rename_i h3
        exact ih he
      · rename_i h3
        simp only [Option.some.injEq] at he
        exact .inl ⟨rfl,he.symm⟩
      · simp at he
    · simp at he

structure Agg (I : Nat → Prop) (μ : Emb) (w : World) (cs : List D) (xs : Array Value) : Prop where
  size : cs.length = xs.size
  one : ∀ c ∈ cs,c.one = true
  r : ∀ j (hj : j < cs.length),R I μ w cs[j] (xs[j]'(size ▸ hj))

theorem Agg.get {cs : List D} {xs : Array Value} (A : Agg I μ w cs xs) {o : Nat} {c : D} (hc : cs[o]? = some c) : ∃ x,xs[o]? = some x ∧ R I μ w c x := by
  obtain ⟨ho,rfl⟩ := List.getElem?_eq_some_iff.1 hc
  have := A.size ▸ ho
  exact ⟨xs[o],by simp [this],A.r o ho⟩

theorem mapM_cons_some {α β : Type} {f : α → Option β} {a : α} {l : List α} {r : List β} (hm : (a :: l).mapM f = some r) :
    ∃ b r',f a = some b ∧ l.mapM f = some r' ∧ r = b :: r' := by
  rw [List.mapM_cons] at hm
  simp only [bind,Option.bind_eq_some_iff,pure,Option.some.injEq] at hm
  obtain ⟨b,hb,r',hr,rfl⟩ := hm
  exact ⟨b,r',hb,hr,rfl⟩

theorem leaves_leaf {fuel : Nat} {t : TypeId} {off : Nat} {l : List (Nat × Leaf)} (hl : leaves P (fuel + 1) t off = some l) {d : TypeDesc} (hd : P.underlying t = some d)
    (hg : isAggD d = false) : ∃ k,leafOf P false t = some k ∧ l = [(off,k)] := by
  unfold leaves at hl
  simp only [Option.bind_eq_bind,hd,Option.bind_some] at hl
  cases d <;> simp only [isAggD,Bool.true_eq_false] at hg
  all_goals simp only [Option.bind_eq_some_iff,Option.pure_def,Option.some.injEq,reduceCtorEq] at hl
  all_goals
    obtain ⟨k,hk,rfl⟩ := hl
    exact ⟨k,hk,rfl⟩

theorem leaves_struct {fuel : Nat} {t : TypeId} {off : Nat} {l : List (Nat × Leaf)} (hl : leaves P (fuel + 1) t off = some l) {fs : Array Field} (hd : P.underlying t = some (.struct fs)) :
    ∃ it ls,P.info? t = some it ∧ P.stoodInHeld t = false ∧ l = ls.flatten ∧ fs.toList.mapM (fun f => do
        let i ← P.info? f.type
        if f.name = "_" ∨ i.size = 0 ∨ f.offset + i.size > it.size then none
        leaves P fuel f.type (off + f.offset)) = some ls := by
  unfold leaves at hl
  simp only [Option.bind_eq_bind,hd,Option.bind_some,Option.bind_eq_some_iff] at hl
  obtain ⟨it,hit,hl⟩ := hl
  split at hl
  · simp at hl
  · rename_i hs
    simp only [Option.bind_eq_some_iff,Option.pure_def,Option.some.injEq] at hl
    obtain ⟨ls,h1,h2⟩ := hl
    exact ⟨it,ls,hit,by simpa using hs,h2.symm,h1⟩

theorem leaves_array {fuel : Nat} {t : TypeId} {off : Nat} {l : List (Nat × Leaf)} (hl : leaves P (fuel + 1) t off = some l) {n : Nat} {e : TypeId} (hd : P.underlying t = some (.array n e)) :
    ∃ it i ls,P.info? t = some it ∧ P.info? e = some i ∧ i.size ≠ 0 ∧ n ≠ 0 ∧ n * i.size ≤ it.size ∧ l = ls.flatten ∧
      (List.range n).mapM (fun k => leaves P fuel e (off + k * i.size)) = some ls := by
  unfold leaves at hl
  simp only [Option.bind_eq_bind,hd,Option.bind_some,Option.bind_eq_some_iff] at hl
  obtain ⟨it,hit,i,hi,hl⟩ := hl
  split at hl
  · simp at hl
  · rename_i hs
    simp only [Option.bind_eq_some_iff,Option.pure_def,Option.some.injEq] at hl
    obtain ⟨ls,h1,h2⟩ := hl
    exact ⟨it,i,ls,hit,hi,by omega,by omega,by omega,h2.symm,h1⟩

theorem field_info {fuel off : Nat} {it : TypeInfo} {f : Field} {lf : List (Nat × Leaf)} (hf : (do
        let i ← P.info? f.type
        if f.name = "_" ∨ i.size = 0 ∨ f.offset + i.size > it.size then none
        leaves P fuel f.type (off + f.offset) : Option (List (Nat × Leaf))) = some lf) :
    ∃ i,P.info? f.type = some i ∧ f.name ≠ "_" ∧ i.size ≠ 0 ∧ f.offset + i.size ≤ it.size ∧ leaves P fuel f.type (off + f.offset) = some lf := by
  simp only [Option.bind_eq_bind,Option.bind_eq_some_iff] at hf
  obtain ⟨i,hi,hf⟩ := hf
  split at hf
  · simp at hf
  · rename_i hn
    exact ⟨i,hi,by simp at hn; exact hn.1,by omega,by omega,hf⟩

theorem leaves_under {fuel : Nat} {t : TypeId} {off : Nat} {l : List (Nat × Leaf)} (hl : leaves P fuel t off = some l) : ∃ f d,fuel = f + 1 ∧ P.underlying t = some d := by
  cases fuel with
  | zero => simp [leaves] at hl
  | succ f =>
    unfold leaves at hl
    simp only [Option.bind_eq_bind,Option.bind_eq_some_iff] at hl
    obtain ⟨d,hd,_⟩ := hl
    exact ⟨f,d,rfl,hd⟩

theorem leaves_sound (H : HR Γ I μ h w) {cs ds : List D} {xs ys : Array Value} (A : Agg I μ w cs xs) (B : Agg I μ w ds ys) : ∀ (fuel : Nat) (t : TypeId) (off : Nat) (l : List (Nat × Leaf)) (dd : TypeDesc) (i : TypeInfo),
    leaves P fuel t off = some l → P.underlying t = some dd → P.info? t = some i → i.size ≠ 0 → off + i.size ≤ xs.size → off + i.size ≤ ys.size → ∀ (r : Bool),leavesEq h.get cs ds l = some r →
    ∀ d,fuel ≤ d → ∀ u v,partV (isAggD dd) i.size off xs = some u → partV (isAggD dd) i.size off ys = some v → (Op.equalIn d t u v).run P w = .ok r w := by
  intro fuel
  induction fuel with
  | zero => intro t off l dd i hl; simp [leaves] at hl
  | succ fuel ih =>
    intro t off l dd i hl hd hi h0 hx hy r hr d hdle u v hu hv
    obtain ⟨d,rfl⟩ : ∃ k,d = k + 1 := ⟨d - 1,by omega⟩
    cases hg : isAggD dd with
    | false =>
      obtain ⟨k,hk,rfl⟩ := leaves_leaf hl hd hg
      simp only [partV,hg,Bool.false_eq_true,if_false] at hu hv
      simp only [leavesEq] at hr
      split at hr <;> try (simp at hr; done)
      rename_i c e h1 h2
      obtain ⟨x,hx1,rx⟩ := A.get h1
      obtain ⟨y,hy1,ry⟩ := B.get h2
      rw [hu] at hx1; rw [hv] at hy1
      simp only [Option.some.injEq] at hx1 hy1
      subst hx1; subst hy1
      have : leafEq h.get k c e = some r := by
        revert hr
        cases leafEq h.get k c e with
        | none => simp
        | some q => cases q <;> simp
      exact leafEq_sound H hk rx ry this d
    | true =>
      simp only [partV,hg,if_true,Option.some.injEq] at hu hv
      subst hu; subst hv
      cases dd <;> simp only [isAggD,Bool.false_eq_true] at hg
      case struct fs =>
        obtain ⟨it,ls,hit,hst,rfl,hm⟩ := leaves_struct hl hd
        rw [hi] at hit
        simp only [Option.some.injEq] at hit
        subst hit
        have hfo : P.fieldsOf t = fs := by simp [Program.fieldsOf,hd]
        rw [run_equalIn_struct w d t _ _ (by rw [hfo]; exact hd) hst,hfo]
        generalize fs.toList = fl at hm
        clear hl hd hfo
        induction fl generalizing ls r with
        | nil =>
          have : ls = [] := by simpa using hm.symm
          subst this
          simp only [List.flatten_nil,leavesEq,Option.some.injEq] at hr
          subst hr
          simp [Op.eqFields]
        | cons f fl ih2 =>
          obtain ⟨lf,ls',hf,hm',rfl⟩ := mapM_cons_some hm
          obtain ⟨fi,hfi,hname,hf0,hfle,hlf⟩ := field_info hf
          obtain ⟨_,fd,_,hfd⟩ := leaves_under hlf
          obtain ⟨ux,hux⟩ := partV_some (g := isAggD fd) (xs := xs) (off := off + f.offset) hf0 (by omega)
          obtain ⟨uy,huy⟩ := partV_some (g := isAggD fd) (xs := ys) (off := off + f.offset) hf0 (by omega)
          have p1 := run_part hfd hfi (off := f.offset) (xs := xs.extract off (off + i.size)) (v := ux) (by rw [partV_extract hfle hx hf0]; exact hux) w
          have p2 := run_part hfd hfi (off := f.offset) (xs := ys.extract off (off + i.size)) (v := uy) (by rw [partV_extract hfle hy hf0]; exact huy) w
          simp only [List.flatten_cons] at hr
          have key : ∀ q,leavesEq h.get cs ds lf = some q → (Op.equalIn d f.type ux uy).run P w = .ok q w := fun q hq =>
            ih f.type (off + f.offset) lf fd fi hlf hfd hfi hf0 (by omega) (by omega) q hq d (by omega) ux uy hux huy
          simp only [Op.eqFields,hname,ne_eq,not_false_eq_true,if_true,Sem.run_bind,p1,p2,Result.andThen_ok]
          rcases leavesEq_append h.get cs ds lf ls'.flatten r hr with ⟨e1,rfl⟩ | ⟨e1,e2⟩
          · rw [key false e1]; simp
          · rw [key true e1]
            simpa using ih2 r ls' e2 hm'
      case array n e =>
        obtain ⟨it,ei,ls,hit,hei,he0,_,hnle,rfl,hm⟩ := leaves_array hl hd
        rw [hi] at hit
        simp only [Option.some.injEq] at hit
        subst hit
        rw [run_equalIn_array w d _ _ hd hei]
        have hcell : P.cellsOf e = ei.size := by simp [Program.cellsOf,hei]
        rw [hcell]
        have hlt : ∀ k ∈ List.range n,k < n := fun k hk => List.mem_range.1 hk
        generalize List.range n = fl at hm hlt
        clear hl hd
        induction fl generalizing ls r with
        | nil =>
          have : ls = [] := by simpa using hm.symm
          subst this
          simp only [List.flatten_nil,leavesEq,Option.some.injEq] at hr
          subst hr
          simp [Op.eqItems]
        | cons f fl ih2 =>
          obtain ⟨lf,ls',hlf,hm',rfl⟩ := mapM_cons_some hm
          obtain ⟨_,fd,_,hfd⟩ := leaves_under hlf
          have hfn := hlt f (by simp)
          have hfle : f * ei.size + ei.size ≤ i.size := Nat.le_trans (by
            have := Nat.mul_le_mul_right ei.size (show f + 1 ≤ n from hfn)
            rw [Nat.add_mul] at this; omega) hnle
          obtain ⟨ux,hux⟩ := partV_some (g := isAggD fd) (xs := xs) (off := off + f * ei.size) he0 (by omega)
          obtain ⟨uy,huy⟩ := partV_some (g := isAggD fd) (xs := ys) (off := off + f * ei.size) he0 (by omega)
          have p1 := run_part hfd hei (off := f * ei.size) (xs := xs.extract off (off + i.size)) (v := ux) (by rw [partV_extract hfle hx he0]; exact hux) w
          have p2 := run_part hfd hei (off := f * ei.size) (xs := ys.extract off (off + i.size)) (v := uy) (by rw [partV_extract hfle hy he0]; exact huy) w
          simp only [List.flatten_cons] at hr
          have key : ∀ q,leavesEq h.get cs ds lf = some q → (Op.equalIn d e ux uy).run P w = .ok q w := fun q hq =>
            ih e (off + f * ei.size) lf fd ei hlf hfd hei he0 (by omega) (by omega) q hq d (by omega) ux uy hux huy
          simp only [Op.eqItems,Sem.run_bind,p1,p2,Result.andThen_ok]
          rcases leavesEq_append h.get cs ds lf ls'.flatten r hr with ⟨e1,rfl⟩ | ⟨e1,e2⟩
          · rw [key false e1]; simp
          · rw [key true e1]
            simpa using ih2 r ls' e2 hm' (fun k hk => hlt k (by simp [hk]))

theorem teqOf_agg {nc : Bool} {t : TypeId} {n : Nat} {l : List (Nat × Leaf)} (ht : teqOf P nc t = .cells n l) :
    ∃ d i,P.underlying t = some d ∧ P.info? t = some i ∧ isAggD d = true ∧ n = i.size ∧ i.size ≠ 0 ∧ leaves P 20 t 0 = some l := by
  unfold teqOf at ht
  cases hd : P.underlying t with
  | none => simp [hd] at ht
  | some d =>
    rw [hd] at ht
    cases d <;> simp only at ht
    case struct fs =>
      split at ht <;> try (simp at ht; done)
      rename_i l' i hl hi
      split at ht <;> try (simp at ht; done)
      rename_i h0
      simp only [TEq.cells.injEq] at ht
      obtain ⟨rfl,rfl⟩ := ht
      exact ⟨_,i,rfl,hi,rfl,rfl,h0,hl⟩
    case array a b =>
      split at ht <;> try (simp at ht; done)
      rename_i l' i hl hi
      split at ht <;> try (simp at ht; done)
      rename_i h0
      simp only [TEq.cells.injEq] at ht
      obtain ⟨rfl,rfl⟩ := ht
      exact ⟨_,i,rfl,hi,rfl,rfl,h0,hl⟩
    all_goals (split at ht <;> simp at ht)

theorem teqOf_leaf {nc : Bool} {t : TypeId} {k : Leaf} (ht : teqOf P nc t = .leaf k) : leafOf P nc t = some k := by
  unfold teqOf at ht
  cases hd : P.underlying t with
  | none => simp [hd] at ht
  | some d =>
    rw [hd] at ht
    cases d <;> simp only at ht
    case struct fs => (repeat' split at ht) <;> simp at ht
    case array a b => (repeat' split at ht) <;> simp at ht
    all_goals
      split at ht
      · rename_i k' hk
        simp only [TEq.leaf.injEq] at ht
        exact ht ▸ hk
      · simp at ht

theorem eqD_sound (H : HR Γ I μ h w) {nc : Bool} {t : TypeId} {x y : D} {u v : Value} (hx : R I μ w x u) (hy : R I μ w y v) {r : Bool}
    (he : eqD h.get (teqOf P nc t) x y = some r) : (Op.equal t u v).run P w = .ok r w := by
  unfold Op.equal Op.maxDepth
  cases hte : teqOf P nc t with
  | no => rw [hte] at he; simp [eqD] at he
  | leaf k =>
    rw [hte] at he
    exact leafEq_sound H (teqOf_leaf hte) hx hy he 9999
  | cells n l =>
    rw [hte] at he
    obtain ⟨d,i,hd,hi,hg,rfl,h0,hl⟩ := teqOf_agg hte
    cases hx <;> first | (simp [eqD] at he; done) | skip
    rename_i cs xs a1 a2 a3
    cases hy <;> first | (simp [eqD] at he; done) | skip
    rename_i ds ys b1 b2 b3
    simp only [eqD] at he
    split at he <;> try (simp at he; done)
    rename_i hlen
    obtain ⟨l1,l2⟩ := hlen
    have := leaves_sound (P := P) H ⟨a1,a2,a3⟩ ⟨b1,b2,b3⟩ 20 t 0 l d i hl hd hi h0 (by omega) (by omega) r he 10000 (by omega) (.agg (xs.extract 0 (0 + i.size))) (.agg (ys.extract 0 (0 + i.size)))
      (by simp [partV,hg]) (by simp [partV,hg])
    rw [show xs.extract 0 (0 + i.size) = xs by rw [Nat.zero_add,← l1,a1,Array.extract_size],show ys.extract 0 (0 + i.size) = ys by rw [Nat.zero_add,← l2,b1,Array.extract_size]] at this
    exact this

end
end Go.Abs
end
noncomputable section
namespace Go.Abs
open Go

section
variable {P : Program} {Γ : Nat → D} {I : Nat → Prop} {μ : Emb} {h : AHeap} {w : World} {id : Nat}

theorem mapM_mem {α β : Type} {f : α → Option β} : ∀ {l : List α} {r : List β},l.mapM f = some r → ∀ a ∈ l,∃ b ∈ r,f a = some b
  | [],_,_,a,ha => by simp at ha
  | x :: l,r,hm,a,ha => by
    obtain ⟨b,r',hb,hr,rfl⟩ := mapM_cons_some hm
    rcases List.mem_cons.1 ha with rfl | ha
    · exact ⟨b,by simp,hb⟩
    · obtain ⟨c,hc,hfc⟩ := mapM_mem hr a ha
      exact ⟨c,by simp [hc],hfc⟩

theorem leaves_noGuard : ∀ (fuel : Nat) (t : TypeId) (off : Nat) (l : List (Nat × Leaf)),leaves P fuel t off = some l → ∀ d,fuel ≤ d → P.eqGuardType d t = false := by
  intro fuel
  induction fuel with
  | zero => intro t off l hl; simp [leaves] at hl
  | succ fuel ih =>
    intro t off l hl d hd
    obtain ⟨d,rfl⟩ : ∃ k,d = k + 1 := ⟨d - 1,by omega⟩
    obtain ⟨_,dd,_,hu⟩ := leaves_under hl
    unfold Program.eqGuardType
    rw [hu]
    cases dd with
    | struct fs =>
      obtain ⟨it,ls,hit,hst,rfl,hm⟩ := leaves_struct hl hu
      simp only
      rw [Array.any_eq_false]
      intro i hi
      obtain ⟨lf,_,hf⟩ := mapM_mem hm fs[i] (by simp)
      obtain ⟨fi,_,_,_,_,hlf⟩ := field_info hf
      rw [ih _ _ _ hlf d (by omega)]; simp
    | array n e =>
      obtain ⟨it,ei,ls,hit,hei,he0,hn0,hnle,rfl,hm⟩ := leaves_array hl hu
      simp only
      obtain ⟨lf,_,hlf⟩ := mapM_mem hm 0 (by simp; omega)
      exact ih _ _ _ hlf d (by omega)
    | interface ms =>
      unfold leaves at hl
      simp [hu] at hl
    | _ => rfl

theorem depth_le (P : Program) : 20 ≤ P.depth := by unfold Program.depth Made.depth; omega

theorem eqGuardIn_nil {t : TypeId} {ms : Array (String × TypeId)} (hd : P.underlying t = some (.interface ms)) (d : Nat) (w : World) :
    (Op.eqGuardIn (d + 1) t .nilIface .nilIface).run P w = .ok (!ms.isEmpty) w := by
  simp [Op.eqGuardIn,run_underlying hd]

theorem s_eq (H : HR Γ I μ h w) {neg : Bool} {t : TypeId} {p q : Operand} {x y : D} {u v : Value} (hx : R I μ w x u) (hy : R I μ w y v)
    (hi : ∀ k,P.underlying t ≠ some (.int k)) (hs : P.underlying t ≠ some .string) :
    Res I μ h w id ((vv (do eqGuard (if neg then .neq else .eql) t p q u v; binOp (if neg then .neq else .eql) t u v)).run P w)
      (match (generalizing := false) eqD h.get (teqOf P (isConstOpd p || isConstOpd q) t) x y with | some r => .val (.b (if neg then !r else r)) | none => .bad) := by
  cases he : eqD h.get (teqOf P (isConstOpd p || isConstOpd q) t) x y with
  | none => trivial
  | some r =>
    have heq := eqD_sound H hx hy he
    simp only
    have hguard : (eqGuard (if neg then .neq else .eql) t p q u v).run P w = .ok () w := by
      have hop : eqGuard (if neg then .neq else .eql) t p q u v = eqGuard .eql t p q u v := by cases neg <;> rfl
      rw [hop]
      unfold eqGuard
      simp only [Bool.not_true,Bool.false_eq_true,if_false]
      cases hte : teqOf P (isConstOpd p || isConstOpd q) t with
      | no => rw [hte] at he; simp [eqD] at he
      | leaf k =>
        rw [hte] at he
        have hk := teqOf_leaf hte
        obtain ⟨ds,hd,hkd,hag⟩ := leafOf_spec hk
        simp only [eqD] at he
        have : ¬ (∃ a,u = .agg a) := by
          rintro ⟨a,rfl⟩
          cases hx; unfold leafEq at he; split at he <;> simp_all
        cases u <;> first | (exact absurd ⟨_,rfl⟩ this) | (cases v <;> simp; done) | skip
        cases v <;> try (simp; done)
        cases hx; cases hy
        simp only
        by_cases hcc : (isConstOpd p || isConstOpd q) = true
        · cases p <;> cases q <;> first | rfl | (simp [isConstOpd] at hcc; done)
        · obtain ⟨ms,hds,hms⟩ : ∃ ms,ds = .interface ms ∧ ms.isEmpty = true := by
            cases k <;> first | (exact absurd he (by unfold leafEq; simp)) | skip
            rename_i sf
            cases sf with
            | false => exact absurd he (by unfold leafEq; simp)
            | true =>
              obtain ⟨ms,h1,h2⟩ := hkd
              exact ⟨ms,h1,by simpa [hcc] using h2.symm⟩
          subst hds
          have hms' := hms
          have hrun := eqGuardIn_nil hd 9999 w
          rw [hms'] at hrun
          have hrun' : Sem.run P (Op.eqGuardIn Op.maxDepth t Value.nilIface Value.nilIface) w = .ok false w := hrun
          cases p <;> cases q <;> first | (simp [isConstOpd] at hcc; done) | (simp only [Sem.run_bind,hrun',Sem.run_ite]; rfl)
      | cells n l =>
        rw [hte] at he
        obtain ⟨d,i,hd,hi,hg,rfl,h0,hl⟩ := teqOf_agg hte
        have hG := leaves_noGuard 20 t 0 l hl P.depth (depth_le P)
        cases hx <;> first | (simp [eqD] at he; done) | skip
        cases hy <;> first | (simp [eqD] at he; done) | skip
        simp [hG]
    have hbin : ∀ op,(op = .eql ∨ op = .neq) → (binOp op t u v).run P w = .ok (.bool (if op = .neq then !r else r)) w := by
      intro op hop
      have base : binOp .eql t u v = (do pure (.bool (← Op.equal t u v))) ∧ binOp .neq t u v = (do pure (.bool (!(← Op.equal t u v)))) := by
        cases hte : teqOf P (isConstOpd p || isConstOpd q) t with
        | no => rw [hte] at he; simp [eqD] at he
        | leaf k =>
          rw [hte] at he
          obtain ⟨ds,hd,hkd,hag⟩ := leafOf_spec (teqOf_leaf hte)
          have hk1 : k ≠ .i := by rintro rfl; obtain ⟨kk,rfl⟩ := hkd; exact hi _ hd
          have hk2 : k ≠ .s := by rintro rfl; subst hkd; exact hs hd
          simp only [eqD] at he
          unfold leafEq at he
          split at he <;> first | (exact absurd rfl hk1) | (exact absurd rfl hk2) | (simp at he; done) | skip
          all_goals (cases hx <;> cases hy <;> exact ⟨rfl,rfl⟩)
        | cells n l =>
          rw [hte] at he
          cases hx <;> first | (simp [eqD] at he; done) | skip
          cases hy <;> first | (simp [eqD] at he; done) | skip
          exact ⟨rfl,rfl⟩
      rcases hop with rfl | rfl
      · rw [base.1]; simp [heq]
      · rw [base.2]; simp [heq]
    refine Res.val_of ?_ (.b _)
    rw [Sem.run_bind,hguard,Result.andThen_ok]
    cases neg
    · simpa using hbin .eql (.inl rfl)
    · simpa using hbin .neq (.inr rfl)

end
end Go.Abs
end
noncomputable section
namespace Go.Abs
open Go

section
variable {P : Program} {Γ : Nat → D} {I : Nat → Prop} {μ : Emb} {h : AHeap} {w : World} {id : Nat}

theorem s_mkif {t : TypeId} {ds : TypeDesc} (hd : P.underlying t = some ds) (hn : ∀ ms,ds ≠ .interface ms) {x : D} {u : Value} (hx : R I μ w x u) :
    Res I μ h w id ((vv (Instr.makeInterface t u)).run P w) (if x.val then .val (.ifc t x) else .bad) := by
  split
  · rename_i hv
    refine Res.val_of ?_ (.ifc _ _ _ hv hx)
    cases ds <;> first | (exact absurd rfl (hn _)) | simp [Instr.makeInterface,run_underlying hd]
  · trivial

theorem s_ext {x : D} {u : Value} (hx : R I μ w x u) (i : Nat) : Res I μ h w id ((vv (Instr.extract u i)).run P w) (match (generalizing := false) x with | .tup ds => ofO ds[i]? | _ => .bad) := by
  cases hx with
  | tup cs xs h1 h2 =>
    simp only
    cases hc : cs[i]? with
    | none => trivial
    | some c =>
      obtain ⟨hi,rfl⟩ := List.getElem?_eq_some_iff.1 hc
      have hi' : i < xs.size := h1 ▸ hi
      exact Res.val_of (by simp [Instr.extract,hi']) (h2 i hi)
  | _ => trivial

theorem s_faddr {s ft : TypeId} {fs : Array Field} {f : Nat} {fd : Field} {g : Bool} {n : Nat} (hd : P.underlying s = some (.struct fs)) (hf : fs[f]? = some fd)
    (ha : aggSize P fd.type = some (g,n)) {x : D} {u : Value} (hx : R I μ w x u) :
    Res I μ h w id ((vv (Instr.fieldAt s u f)).run P w) (match (generalizing := false) x with
      | .ptr l o => .val (.ptr l (o + fd.offset))
      | .fptr cs => if fd.offset ≤ cs.length then .val (.fptr (cs.drop fd.offset)) else .bad
      | _ => .bad) := by
  obtain ⟨d,i,hd',hi,_,rfl,h0⟩ := aggSize_spec ha
  have hrun : ∀ b o,(Instr.fieldAt s (.pointer (some ⟨b,o,none⟩)) f).run P w = .ok (.pointer (some ⟨b,o + fd.offset,none⟩)) w := fun b o => by
    simp [Instr.fieldAt,run_underlying hd,hf,Instr.sureAddr,fieldPlace,run_sizeOf hi,h0,add_off]
  cases hx with
  | ptr l off b base hm =>
    refine Res.val_of (hrun _ _) ?_
    rw [Nat.add_assoc]; exact .ptr _ _ _ _ hm
  | fptr cs b o vs h1 h2 h3 h4 =>
    simp only
    split
    · rename_i hle
      refine Res.val_of (hrun _ _) ?_
      refine .fptr _ _ _ (fun j => vs (fd.offset + j)) h1 (fun c hc => h2 c (List.mem_of_mem_drop hc)) (fun j hj => ?_) (fun j hj => ?_)
      · simp only [List.length_drop] at hj
        rw [Nat.add_assoc]; exact h3 _ (by omega)
      · simp only [List.length_drop] at hj
        simp only [List.getElem_drop]
        exact h4 _ (by omega)
    · trivial
  | _ => trivial

theorem partD_sound {t : TypeId} {g : Bool} {n : Nat} (ha : aggSize P t = some (g,n)) {cs : List D} {xs : Array Value} (A : Agg I μ w cs xs) {off : Nat} {r : D}
    (hp : partD g off n cs = some r) : ∃ v,(part t xs off).run P w = .ok v w ∧ R I μ w r v := by
  obtain ⟨d,i,hd,hi,rfl,rfl,h0⟩ := aggSize_spec ha
  unfold partD at hp
  split at hp <;> try (simp at hp; done)
  rename_i hle
  cases hg : isAggD d with
  | true =>
    rw [hg] at hp
    simp only [if_true,Option.some.injEq] at hp
    subst hp
    refine ⟨_,run_part hd hi (v := .agg (xs.extract off (off + i.size))) (by simp only [partV,hg,if_true]) w,?_⟩
    have := A.size
    refine .agg _ _ (by simp; omega) (fun c hc => A.one c (List.mem_of_mem_drop (List.mem_of_mem_take hc))) fun j hj => ?_
    simp only [List.length_take,List.length_drop] at hj
    simp only [List.getElem_take,List.getElem_drop,Array.getElem_extract]
    exact A.r (off + j) (by omega)
  | false =>
    rw [hg] at hp
    simp only [Bool.false_eq_true,if_false] at hp
    obtain ⟨x,hx,hr⟩ := A.get hp
    exact ⟨x,run_part hd hi (by simp only [partV,hg,Bool.false_eq_true,if_false]; exact hx) w,hr⟩

theorem s_fld {s : TypeId} {fs : Array Field} {f : Nat} {fd : Field} {g : Bool} {n : Nat} (hd : P.underlying s = some (.struct fs)) (hf : fs[f]? = some fd)
    (ha : aggSize P fd.type = some (g,n)) {x : D} {u : Value} (hx : R I μ w x u) :
    Res I μ h w id ((vv (Instr.field s u f)).run P w) (match (generalizing := false) x with | .agg cs => ofO (partD g fd.offset n cs) | _ => .bad) := by
  cases hx with
  | agg cs xs h1 h2 h3 =>
    simp only
    cases hp : partD g fd.offset n cs with
    | none => trivial
    | some r =>
      obtain ⟨v,hv,hr⟩ := partD_sound ha ⟨h1,h2,h3⟩ hp
      exact Res.val_of (by simp [Instr.field,run_underlying hd,hf,asAgg,hv]) hr
  | _ => trivial

theorem s_iaddrA {t e : TypeId} {len sz : Nat} {g : Bool} (hd : P.underlying t = some (.array len e)) (ha : aggSize P e = some (g,sz)) {x y : D} {u v : Value}
    (hx : R I μ w x u) (hy : R I μ w y v) :
    Res I μ h w id ((vv (Instr.indexAt t u v)).run P w) (match (generalizing := false) x,y with
      | .ptr l o,.i _ n => if 0 ≤ n ∧ n < len then .val (.ptr l (o + n.toNat * sz)) else .bad
      | .fptr cs,.i _ n => if 0 ≤ n ∧ n < len ∧ n.toNat * sz ≤ cs.length then .val (.fptr (cs.drop (n.toNat * sz))) else .bad
      | _,_ => .bad) := by
  obtain ⟨d,i,hd',hi,_,rfl,h0⟩ := aggSize_spec ha
  have hrun : ∀ b o k (n : Int),0 ≤ n ∧ n < len → (Instr.indexAt t (.pointer (some ⟨b,o,none⟩)) (.int k n)).run P w = .ok (.pointer (some ⟨b,o + n.toNat * i.size,none⟩)) w := fun b o k n hn => by
    simp [Instr.indexAt,run_underlying hd,asIntOf,Instr.sureAddr,hn,run_sizeOf hi,add_off]
  cases hx with
  | ptr l off b base hm =>
    cases hy <;> try trivial
    simp only
    split
    · rename_i hn
      refine Res.val_of (hrun _ _ _ _ hn) ?_
      rw [Nat.add_assoc]; exact .ptr _ _ _ _ hm
    · trivial
  | fptr cs b o vs h1 h2 h3 h4 =>
    cases hy <;> try trivial
    simp only
    split
    · rename_i k n hn
      refine Res.val_of (hrun _ _ _ _ ⟨hn.1,hn.2.1⟩) ?_
      refine .fptr _ _ _ (fun j => vs (n.toNat * i.size + j)) h1 (fun c hc => h2 c (List.mem_of_mem_drop hc)) (fun j hj => ?_) (fun j hj => ?_)
      · simp only [List.length_drop] at hj
        rw [Nat.add_assoc]; exact h3 _ (by omega)
      · simp only [List.length_drop] at hj
        simp only [List.getElem_drop]
        exact h4 _ (by omega)
    · trivial
  | _ => cases hy <;> trivial

theorem flat_get {sz : Nat} : ∀ {es : List D} (_ : ∀ e ∈ es,e.cells.length = sz) (k j : Nat) (hk : k < es.length),j < sz →
    (es.flatMap D.cells)[k * sz + j]? = (es[k]).cells[j]?
  | [],_,k,j,hk,_ => by simp at hk
  | e :: es,hs,0,j,_,hj => by
    simp only [List.flatMap_cons,Nat.zero_mul,Nat.zero_add,List.getElem_cons_zero]
    rw [List.getElem?_append_left (by rw [hs e (by simp)]; exact hj)]
  | e :: es,hs,k + 1,j,hk,hj => by
    have he := hs e (by simp)
    have ih := flat_get (sz := sz) (es := es) (fun x hx => hs x (by simp [hx])) k j (by simpa using hk) hj
    simp only [List.flatMap_cons,List.getElem_cons_succ]
    rw [List.getElem?_append_right (by rw [he,Nat.add_mul]; omega),he,← ih]
    congr 1
    rw [Nat.add_mul]; omega

theorem flat_len {sz : Nat} : ∀ {es : List D} (_ : ∀ e ∈ es,e.cells.length = sz),(es.flatMap D.cells).length = es.length * sz
  | [],_ => by simp
  | e :: es,hs => by
    have ih := flat_len (sz := sz) (es := es) (fun x hx => hs x (by simp [hx]))
    simp only [List.flatMap_cons,List.length_append,List.length_cons,hs e (by simp),ih,Nat.add_mul]
    omega

theorem s_iaddr {t e : TypeId} {sz : Nat} {g : Bool} (hd : P.underlying t = some (.slice e)) (ha : aggSize P e = some (g,sz)) {x y : D} {u v : Value}
    (hx : R I μ w x u) (hy : R I μ w y v) :
    Res I μ h w id ((vv (Instr.indexAt t u v)).run P w) (match (generalizing := false) x,y with
      | .sl z l o len,.i _ n => if 0 ≤ n ∧ n < len ∧ z = sz then .val (.ptr l (o + n.toNat * sz)) else .bad
      | .fz sz' es,.i _ n => if 0 ≤ n ∧ n < es.length ∧ sz' = sz then (match (generalizing := false) es[n.toNat]? with | some e => .val (.fptr e.cells) | none => .bad) else .bad
      | _,_ => .bad) := by
  obtain ⟨d,i,hd',hi,_,rfl,h0⟩ := aggSize_spec ha
  have hrun : ∀ b o k (n : Int) (len cap : Nat),0 ≤ n ∧ n < len → (Instr.indexAt t (.slice (some ⟨b,o,none⟩) len cap) (.int k n)).run P w = .ok (.pointer (some ⟨b,o + n.toNat * i.size,none⟩)) w := fun b o k n len cap hn => by
    simp [Instr.indexAt,run_underlying hd,asIntOf,hn,run_sizeOf hi,add_off]
  cases hx with
  | sl sz' l off len cap b base n' hm q1 q2 q3 q4 =>
    cases hy <;> try trivial
    simp only
    split
    · rename_i hn
      refine Res.val_of (hrun _ _ _ _ _ _ ⟨hn.1,hn.2.1⟩) ?_
      rw [Nat.add_assoc]; exact .ptr _ _ _ _ hm
    · trivial
  | sl0 sz' l off b base a hm =>
    cases hy <;> try trivial
    simp only
    split
    · rename_i hn; exfalso; omega
    · trivial
  | fz sz' es b o cap vs h1 h2 h3 h4 h5 h6 h7 h8 =>
    cases hy <;> try trivial
    simp only
    split
    · rename_i k n hn
      obtain ⟨n0,n1,rfl⟩ := hn
      have hlt : n.toNat < es.length := by omega
      rw [List.getElem?_eq_getElem hlt]
      simp only
      have hsz : ∀ e ∈ es,e.cells.length = i.size := fun e he => (h5 e he).1
      have hin : ∀ j,j < (es[n.toNat]).cells.length → n.toNat * i.size + j < (es.flatMap D.cells).length := fun j hj => by
        rw [flat_len hsz]
        have := hsz _ (List.getElem_mem hlt)
        have h9 := Nat.mul_le_mul_right i.size (show n.toNat + 1 ≤ es.length from hlt)
        rw [Nat.add_mul] at h9
        omega
      have hval : ∀ j (hj : j < (es[n.toNat]).cells.length),(es.flatMap D.cells)[n.toNat * i.size + j]'(hin j hj) = (es[n.toNat]).cells[j] := fun j hj => by
        have := flat_get hsz n.toNat j hlt (by rw [hsz _ (List.getElem_mem hlt)] at hj; exact hj)
        rw [List.getElem?_eq_getElem (hin j hj),List.getElem?_eq_getElem hj] at this
        simpa using this
      refine Res.val_of (hrun _ _ _ _ _ _ ⟨n0,by omega⟩) ?_
      refine .fptr _ _ _ (fun j => vs (n.toNat * i.size + j)) h2 (fun c hc => h6 c (List.mem_flatMap.2 ⟨_,List.getElem_mem hlt,hc⟩)) (fun j hj => ?_) (fun j hj => ?_)
      · rw [Nat.add_assoc]; exact h7 _ (hin j hj)
      · rw [← hval j hj]; exact h8 _ (hin j hj)
    · trivial
  | fz0 sz' a cap hc =>
    cases hy <;> try trivial
    simp only
    split
    · rename_i hn; simp at hn; omega
    · trivial
  | _ => cases hy <;> trivial

theorem s_idxA {t e : TypeId} {len sz : Nat} {g : Bool} (hd : P.underlying t = some (.array len e)) (ha : aggSize P e = some (g,sz)) {x y : D} {u v : Value}
    (hx : R I μ w x u) (hy : R I μ w y v) :
    Res I μ h w id ((vv (Instr.index t u v)).run P w) (match (generalizing := false) x,y with
      | .agg cs,.i _ n => if 0 ≤ n ∧ n < len then ofO (partD g (n.toNat * sz) sz cs) else .bad
      | _,_ => .bad) := by
  cases hx with
  | agg cs xs h1 h2 h3 =>
    cases hy <;> try trivial
    simp only
    split
    · rename_i k n hn
      cases hp : partD g (n.toNat * sz) sz cs with
      | none => trivial
      | some r =>
        obtain ⟨v,hv,hr⟩ := partD_sound ha ⟨h1,h2,h3⟩ hp
        obtain ⟨d,i,hd',hi,_,rfl,h0⟩ := aggSize_spec ha
        exact Res.val_of (by simp [Instr.index,run_underlying hd,asIntOf,hn,run_sizeOf hi,hv]) hr
    · trivial
  | _ => cases hy <;> trivial

theorem s_idxS {t : TypeId} (hd : P.underlying t = some .string) {x y : D} {u v : Value} (hx : R I μ w x u) (hy : R I μ w y v) :
    Res I μ h w id ((vv (Instr.index t u v)).run P w) (match (generalizing := false) x,y with
      | .s s,.i _ n => if 0 ≤ n then (match (generalizing := false) s[n.toNat]? with | some c => .val (byteD c) | none => .bad) else .bad
      | _,_ => .bad) := by
  cases hx with
  | s s hs =>
    cases hy <;> try trivial
    simp only
    split
    · rename_i k n hn
      cases hc : s[n.toNat]? with
      | none => trivial
      | some c =>
        have hget : (ByteArray.mk s.toArray)[n.toNat]? = some c := by
          obtain ⟨hl,rfl⟩ := List.getElem?_eq_some_iff.1 hc
          have : n.toNat < (ByteArray.mk s.toArray).size := by simpa [ByteArray.size] using hl
          rw [getElem?_pos (ByteArray.mk s.toArray) n.toNat this]
          rfl
        exact Res.val_of (by simp [Instr.index,run_underlying hd,asIntOf,hn,hget]) (.i _ _)
    · trivial
  | _ => cases hy <;> trivial

end
end Go.Abs
end
noncomputable section
namespace Go.Abs
open Go

section
variable {P : Program} {Γ : Nat → D} {I : Nat → Prop} {μ : Emb} {h : AHeap} {w : World} {id : Nat}

theorem bs_size (z : List UInt8) : (ByteArray.mk z.toArray).size = z.length := by simp [ByteArray.size]

theorem s_lenS {t ty : TypeId} (hd : P.underlying t = some .string) {x : D} {u : Value} (hx : R I μ w x u) :
    Res I μ h w id ((vv (Builtin.len_ #[t] ty #[u])).run P w) (match (generalizing := false) x with | .s s => .val (.i .i64 s.length) | _ => .bad) := by
  cases hx with
  | s s hs => exact Res.val_of (by simp [Builtin.len_,run_underlying hd,bs_size,goInt]) (.i _ _)
  | _ => trivial

theorem s_lenL {t e ty : TypeId} (hd : P.underlying t = some (.slice e)) {x : D} {u : Value} (hx : R I μ w x u) :
    Res I μ h w id ((vv (Builtin.len_ #[t] ty #[u])).run P w) (match (generalizing := false) x with
      | .nils => .val (.i .i64 0) | .sl _ _ _ len => .val (.i .i64 len) | .fz _ es => .val (.i .i64 es.length) | _ => .bad) := by
  have hrun : ∀ a (n c : Nat),(Builtin.len_ #[t] ty #[.slice a n c]).run P w = .ok (.int .i64 n) w := fun a n c => by simp [Builtin.len_,run_underlying hd,goInt]
  cases hx <;> first | trivial | (exact Res.val_of (hrun _ _ _) (.i _ _))

theorem s_lenM {t k e ty : TypeId} (hd : P.underlying t = some (.map k e)) (H : HR Γ I μ h w) {x : D} {u : Value} (hx : R I μ w x u) :
    Res I μ h w id ((vv (Builtin.len_ #[t] ty #[u])).run P w) (match (generalizing := false) x with
      | .nilm => .val (.i .i64 0) | .mp l => (match (generalizing := false) h.get l with | some (.map es _) => .val (.i .i64 es.length) | _ => .bad) | _ => .bad) := by
  cases hx with
  | nilm => exact Res.val_of (by simp [Builtin.len_,run_underlying hd,goInt]) (.i _ _)
  | mp l b base hm =>
    simp only
    split <;> try trivial
    rename_i es ck hg
    obtain ⟨b',base',h1,h2,hb0,xs,c,l',h3,h4,h5,_⟩ := H.live l _ hg
    rw [hm] at h1
    simp only [Option.some.injEq,Prod.mk.injEq] at h1
    obtain ⟨rfl,rfl⟩ := h1
    have hlen : xs.size = es.length := by
      have e1 : ∀ {es : List (D × D × Option Nat)} {l : List MapEntry},Ents I μ w es l → es.length = l.length := by
        intro es l hh; induction hh with
        | nil => rfl
        | cons _ _ ih => simp [ih]
      have := h4.length_eq
      rw [e1 h5]; simpa using this
    exact Res.val_of (by simp [Builtin.len_,run_underlying hd,getObj,Sem.run,h3,goInt,hlen]) (.i _ _)
  | _ => trivial

theorem s_convI {s t : TypeId} {sd : TypeDesc} {k : IntKind} (hs : P.underlying s = some sd) (ht : P.underlying t = some (.int k)) {x : D} {u : Value} (hx : R I μ w x u) :
    Res I μ h w id ((vv (convert s t u)).run P w) (match (generalizing := false) x with | .i _ n => .val (.i k (k.wrap n)) | _ => .bad) := by
  cases hx with
  | i kk n => exact Res.val_of (by simp [convert,run_underlying hs,run_underlying ht,Conv.intToInt]) (.i _ _)
  | _ => trivial

theorem s_convS {s t : TypeId} {sd : TypeDesc} (hs : P.underlying s = some sd) (hi : sd = .string) (ht : P.underlying t = some .string) {x : D} {u : Value} (hx : R I μ w x u) :
    Res I μ h w id ((vv (convert s t u)).run P w) (match (generalizing := false) x with | .s z => .val (.s z) | _ => .bad) := by
  subst hi
  cases hx with
  | s z hz => exact Res.val_of (by simp [convert,run_underlying hs,run_underlying ht]) (.s _ hz)
  | _ => trivial

theorem s_min {t ty : TypeId} {xs : List D} {us : List Value} (hl : Rl I μ w xs us) :
    Res I μ h w id ((vv (Builtin.min_ #[t] ty us.toArray)).run P w) (ofO (foldD minD xs)) := by
  cases hl with
  | nil => trivial
  | cons h1 h2 =>
    rename_i d v ds vs
    cases hf : foldD minD (d :: ds) with
    | none => trivial
    | some r =>
      suffices hs : ∀ (ds : List D) (vs : List Value),Rl I μ w ds vs → ∀ (d : D) (v : Value),R I μ w d v →
          ds.foldl (fun a y => a.bind fun a => minD a y) (some d) = some r → ∃ rv,(vs.foldlM Builtin.min2 v).run P w = .ok rv w ∧ R I μ w r rv by
        obtain ⟨rv,e1,e2⟩ := hs ds vs h2 d v h1 hf
        exact Res.val_of (by simp [Builtin.min_,e1]) e2
      intro ds vs hl
      induction hl with
      | nil => intro d v hr hf; simp only [List.foldl_nil,Option.some.injEq] at hf; subst hf; exact ⟨v,rfl,hr⟩
      | cons h1 h2 ih =>
        intro d v hr hf
        simp only [List.foldl_cons,Option.bind_some] at hf
        cases hm : minD d _ with
        | none =>
          rw [hm] at hf
          exfalso
          have : ∀ ys : List D,ys.foldl (fun a y => a.bind fun a => minD a y) none = none := fun ys => by induction ys <;> simp_all
          rw [this] at hf; simp at hf
        | some q =>
          rw [hm] at hf
          unfold minD at hm
          split at hm <;> try (simp at hm; done)
          cases hr; cases h1
          simp only [Option.some.injEq] at hm
          subst hm
          obtain ⟨rv,e1,e2⟩ := ih _ _ (.i _ _) hf
          exact ⟨rv,by simp [List.foldlM_cons,Builtin.min2,e1],e2⟩

theorem s_max {t ty : TypeId} {xs : List D} {us : List Value} (hl : Rl I μ w xs us) :
    Res I μ h w id ((vv (Builtin.max_ #[t] ty us.toArray)).run P w) (ofO (foldD maxD xs)) := by
  cases hl with
  | nil => trivial
  | cons h1 h2 =>
    rename_i d v ds vs
    cases hf : foldD maxD (d :: ds) with
    | none => trivial
    | some r =>
      suffices hs : ∀ (ds : List D) (vs : List Value),Rl I μ w ds vs → ∀ (d : D) (v : Value),R I μ w d v →
          ds.foldl (fun a y => a.bind fun a => maxD a y) (some d) = some r → ∃ rv,(vs.foldlM Builtin.max2 v).run P w = .ok rv w ∧ R I μ w r rv by
        obtain ⟨rv,e1,e2⟩ := hs ds vs h2 d v h1 hf
        exact Res.val_of (by simp [Builtin.max_,e1]) e2
      intro ds vs hl
      induction hl with
      | nil => intro d v hr hf; simp only [List.foldl_nil,Option.some.injEq] at hf; subst hf; exact ⟨v,rfl,hr⟩
      | cons h1 h2 ih =>
        intro d v hr hf
        simp only [List.foldl_cons,Option.bind_some] at hf
        cases hm : maxD d _ with
        | none =>
          rw [hm] at hf
          exfalso
          have : ∀ ys : List D,ys.foldl (fun a y => a.bind fun a => maxD a y) none = none := fun ys => by induction ys <;> simp_all
          rw [this] at hf; simp at hf
        | some q =>
          rw [hm] at hf
          unfold maxD at hm
          split at hm <;> try (simp at hm; done)
          cases hr; cases h1
          simp only [Option.some.injEq] at hm
          subst hm
          obtain ⟨rv,e1,e2⟩ := ih _ _ (.i _ _) hf
          exact ⟨rv,by simp [List.foldlM_cons,Builtin.max2,e1],e2⟩

theorem s_panic {x : D} {u : Value} (hx : R I μ w x u) : Res I μ h w id ((vv (Instr.panic u)).run P w) (match (generalizing := false) x with | .ifc t d => .panic (.ifc t d) | _ => .bad) := by
  cases hx with
  | ifc t d v h0 hr => exact ⟨_,by simp [vv,Instr.panic],.ifc _ _ _ h0 hr⟩
  | _ => trivial

theorem s_rng {t : TypeId} (hd : P.underlying t = some .string) {x : D} {u : Value} (hx : R I μ w x u) :
    Res I μ h w id ((vv (Instr.range t u)).run P w) (match (generalizing := false) x with | .s z => .new (.iter z 0) (.ptr id 0) | _ => .bad) := by
  cases hx with
  | s z hz =>
    have : (Instr.range t (.string ⟨z.toArray⟩)).run P w = .ok (.pointer (some ⟨w.heap.size,0,none⟩)) { w with heap := w.heap.push (.stringIter ⟨z.toArray⟩ 0) } := by
      simp [Instr.range,run_underlying hd]
    simp only
    rw [run_vv this]
    exact ⟨_,_,_,rfl,.inl rfl,Grew.alloc w _,fun μ' _ hid => ⟨⟨rfl,hz,by simp⟩,.ptr _ _ _ _ hid⟩⟩
  | _ => trivial

theorem only_setObj {w : World} {b : Nat} {o o' : Obj} (hb : w.heap[b]? = some o) (hn : ∀ c e fr,o ≠ .cells c e fr) : Only b w { w with heap := w.heap.setIfInBounds b o' } := by
  refine ⟨by simp,rfl,rfl,rfl,fun c n hc => ?_,fun c hc => by simp [Array.getElem?_setIfInBounds,Ne.symm hc]⟩
  by_cases hcb : c = b
  · subst hcb
    unfold rowSize at hc
    rw [hb] at hc
    cases o <;> simp at hc
    exact absurd rfl (hn _ _ _)
  · unfold rowSize at hc ⊢
    simpa [Array.getElem?_setIfInBounds,Ne.symm hcb] using hc

theorem s_nxt {ty : TypeId} (H : HR Γ I μ h w) {x : D} {u : Value} (hx : R I μ w x u) :
    Res I μ h w id ((vv (Instr.next u true ty)).run P w) (match (generalizing := false) x with
      | .ptr l 0 => (match (generalizing := false) h.get l with
        | some (.iter t pos) => if pos < t.length then .upd l (.iter t (pos + (Utf8.decode ⟨t.toArray⟩ pos).2)) (.tup [.b true,.i .i64 pos,.i .i32 (Utf8.decode ⟨t.toArray⟩ pos).1])
          else .val (.tup [.b false])
        | _ => .bad)
      | _ => .bad) := by
  cases hx with
  | ptr l off b base hm =>
    cases off with
    | succ n => trivial
    | zero =>
      simp only
      split <;> try trivial
      rename_i t pos hg
      obtain ⟨b',base',h1,h2,hb0,hlen,h3⟩ := H.live l _ hg
      rw [hm] at h1
      simp only [Option.some.injEq,Prod.mk.injEq] at h1
      obtain ⟨rfl,rfl⟩ := h1
      subst hb0
      split
      · rename_i hlt
        have hlt' : pos < (ByteArray.mk t.toArray).size := by rw [bs_size]; exact hlt
        have hrun : (Instr.next (.pointer (some ⟨b,0 + 0,none⟩)) true ty).run P w = .ok (.tuple #[.bool true,.int .i64 pos,.int .i32 (Utf8.decode ⟨t.toArray⟩ pos).1])
            { w with heap := w.heap.setIfInBounds b (.stringIter ⟨t.toArray⟩ (pos + (Utf8.decode ⟨t.toArray⟩ pos).2)) } := by
          simp [Instr.next,getObj,setObj,Sem.run,h3,hlt',goInt]
        have hb : b < w.heap.size := (Array.getElem?_eq_some_iff.1 h3).1
        rw [run_vv hrun]
        refine ⟨_,_,_,b,0,rfl,.inl rfl,hm,by simp [hg],only_setObj h3 (by simp),⟨rfl,hlen,by simp [hb]⟩,?_⟩
        refine .tup _ _ rfl fun j hj => ?_
        match j,hj with
        | 0,_ => exact .b _
        | 1,_ => exact .i _ _
        | 2,_ => exact .i _ _
      · rename_i hlt
        have hlt' : ¬ pos < (ByteArray.mk t.toArray).size := by rw [bs_size]; exact hlt
        refine Res.val_of (v := .tuple #[.bool false]) (by simp [Instr.next,getObj,Sem.run,h3,hlt']) ?_
        refine .tup _ _ rfl fun j hj => ?_
        match j,hj with
        | 0,_ => exact .b _
  | _ => trivial

theorem tup2 {a b : D} {u v : Value} (ha : R I μ w a u) (hb : R I μ w b v) : R I μ w (.tup [a,b]) (.tuple #[u,v]) :=
  .tup _ _ rfl fun j hj => match j,hj with
    | 0,_ => ha
    | 1,_ => hb

theorem s_tassert {t xt : TypeId} {ds : TypeDesc} {z : D} {ok : Bool} (hd : P.underlying t = some ds) (hn : ∀ ms,ds ≠ .interface ms) (hz : zeroOf P t = some z) {x : D} {u : Value} (hx : R I μ w x u) :
    Res I μ h w id ((vv (Instr.typeAssert u xt t ok)).run P w) (match (generalizing := false) x with
      | .ifc t' d => if t' = t then .val (if ok then .tup [d,.b true] else d) else if ok then .val (.tup [z,.b false]) else .bad
      | .nili => if ok then .val (.tup [z,.b false]) else .bad
      | _ => .bad) := by
  obtain ⟨zv,hzr,hzz⟩ := zero_R (I := I) (μ := μ) hz w
  cases hx with
  | ifc t' d v h0 hr =>
    simp only
    split
    · rename_i ht
      subst ht
      cases ok with
      | true =>
        refine Res.val_of (v := .tuple #[v,.bool true]) ?_ (tup2 hr (.b _))
        cases ds <;> first | (exact absurd rfl (hn _)) | simp [Instr.typeAssert,run_underlying hd]
      | false =>
        refine Res.val_of (v := v) ?_ hr
        cases ds <;> first | (exact absurd rfl (hn _)) | simp [Instr.typeAssert,run_underlying hd]
    · rename_i ht
      cases ok with
      | true =>
        refine Res.val_of (v := .tuple #[zv,.bool false]) ?_ (tup2 hzz (.b _))
        cases ds <;> first | (exact absurd rfl (hn _)) | simp [Instr.typeAssert,run_underlying hd,ht,hzr]
      | false => trivial
  | nili =>
    simp only
    cases ok with
    | true =>
      refine Res.val_of (v := .tuple #[zv,.bool false]) ?_ (tup2 hzz (.b _))
      cases ds <;> first | (exact absurd rfl (hn _)) | simp [Instr.typeAssert,run_underlying hd,hzr]
    | false => trivial
  | _ => trivial

theorem s_mkmap {t : TypeId} : Res I μ h w id ((vv (Instr.makeMap t none)).run P w) (.new (.map [] (some 0)) (.mp id)) := by
  have : (Instr.makeMap t none).run P w = .ok (.map (some w.heap.size)) { w with heap := w.heap.push (.map #[] 0) } := by simp [Instr.makeMap]
  rw [run_vv this]
  exact ⟨_,_,_,rfl,.inl rfl,Grew.alloc w _,fun μ' _ hid => ⟨⟨rfl,#[],0,[],by simp,.nil,.nil,by simp,by simp,.nil⟩,.mp _ _ _ hid⟩⟩

theorem replicate_flat {α : Type} (z : List α) (n k : Nat) (hk : k < n * z.length) : ((List.replicate n z).flatten)[k]? = z[k % z.length]? := by
  induction n generalizing k with
  | zero => simp at hk
  | succ n ih =>
    rw [List.replicate_succ,List.flatten_cons]
    by_cases h1 : k < z.length
    · rw [List.getElem?_append_left h1,Nat.mod_eq_of_lt h1]
    · rw [List.getElem?_append_right (by omega),ih (k - z.length) (by rw [Nat.add_mul] at hk; omega)]
      congr 1
      exact (Nat.mod_eq_sub_mod (by omega)).symm

theorem s_mkslice {t e : TypeId} {i : TypeInfo} {z : D} (hd : P.underlying t = some (.slice e)) (hi : P.info? e = some i) (hz : zeroOf P e = some z) (hzv : z.val = true)
    (H : HR Γ I μ h w) {x y : D} {u v : Value} (hx : R I μ w x u) (hy : R I μ w y v) :
    Res I μ h w id ((vv (Instr.makeSlice t u v)).run P w) (match (generalizing := false) x,y with
      | .i _ l,.i _ c =>
        if 0 ≤ l ∧ l ≤ c ∧ c ≤ 281474976710656 ∧ (i.bytes : Int) * c ≤ 281474976710656 then .new (.cells (List.replicate l.toNat z.cells).flatten 0) (.sl z.cells.length id 0 l.toNat) else .bad
      | _,_ => .bad) := by
  cases hx <;> try trivial
  cases hy <;> try trivial
  rename_i k l k' c
  simp only
  split <;> try trivial
  rename_i hc
  obtain ⟨h0,h1,h2,h3⟩ := hc
  obtain ⟨i',zv,hi',hzz,hzeq,hg,hlen,hn0⟩ := zeroOf_spec hz
  rw [hi] at hi'
  simp only [Option.some.injEq] at hi'
  subst hi'
  obtain ⟨zv',hzrun,hzR⟩ := zero_R (I := I) (μ := μ) hz w
  obtain ⟨r1,r2,r3⟩ := hzR.cells hzv
  have w1 : IntKind.i64.wrap l = l := by
    have : ∀ n : Int,0 ≤ n → n ≤ 281474976710656 → IntKind.i64.wrap n = n := by
      intro n hn1 hn2; unfold IntKind.wrap; simp [IntKind.bits,IntKind.signed]; omega
    exact this l h0 (by omega)
  have w2 : IntKind.i64.wrap c = c := by
    have : ∀ n : Int,0 ≤ n → n ≤ 281474976710656 → IntKind.i64.wrap n = n := by
      intro n hn1 hn2; unfold IntKind.wrap; simp [IntKind.bits,IntKind.signed]; omega
    exact this c (by omega) h2
  have b1 : (i.bytes : Int) * l ≤ 281474976710656 := Int.le_trans (Int.mul_le_mul_of_nonneg_left h1 (by omega)) h3
  have hrun : (Instr.makeSlice t (.int k l) (.int k' c)).run P w = .ok (.slice (some ⟨w.heap.size,0,none⟩) l.toNat c.toNat)
      { w with heap := w.heap.push (.cells ((Array.range (c.toNat * i.size)).map fun j => zv'.cells[j % zv'.cells.size]!) e) } := by
    have hcond : ¬ ((decide (c < 0) || decide ((i.bytes : Int) * c > 2 ^ 48)) || decide (l < 0) || decide (l > c)) = true := by simp; omega
    by_cases hcz : c.toNat * i.size = 0
    · simp [Instr.makeSlice,run_underlying hd,asInt,asIntOf,typeInfo,hi,w1,w2,sizeOf,newRow,hcz]
      rw [if_neg (by simp; omega)]
      simp
      have e0 : ∀ f : Nat → Value,Array.map f (Array.range 0) = #[] := fun f => Array.eq_empty_of_size_eq_zero (by simp)
      rw [e0,e0]
    · simp only [Instr.makeSlice,run_underlying hd,asInt,asIntOf,typeInfo,hi,w1,w2,Sem.run_bind,Result.andThen_ok,Sem.run_pure,run_program,Sem.run_ite]
      rw [if_neg (by simp; omega)]
      simp [run_sizeOf hi,hcz,hzrun,newRow]
  rw [run_vv hrun]
  refine ⟨_,_,_,rfl,.inl rfl,Grew.alloc w _,fun μ' hm hid => ⟨objR_new rfl H ?_ ?_ ?_ hm,?_⟩⟩
  · have e1 : (List.replicate l.toNat z.cells).flatten.length = l.toNat * z.cells.length := by simp
    rw [e1,hlen,Array.size_map,Array.size_range]
    exact Nat.mul_le_mul_right _ (by omega)
  · intro d hdm
    simp only [List.mem_flatten,List.mem_replicate] at hdm
    obtain ⟨q,⟨_,rfl⟩,hdq⟩ := hdm
    exact r2 d hdq
  · intro j hj
    have hj' : j < l.toNat * z.cells.length := by simpa using hj
    have hzp : 0 < z.cells.length := by omega
    have hm' : j % z.cells.length < z.cells.length := Nat.mod_lt _ hzp
    have hget := replicate_flat z.cells l.toNat j hj'
    rw [List.getElem?_eq_getElem hj,List.getElem?_eq_getElem hm'] at hget
    simp only [Option.some.injEq] at hget
    obtain ⟨q,hq,hqr⟩ := r3 _ hm'
    refine ⟨q,?_,by rw [hget]; exact hqr⟩
    have hjc : j < c.toNat * i.size := Nat.lt_of_lt_of_le hj' (by rw [hlen]; exact Nat.mul_le_mul_right _ (by omega))
    rw [← r1]
    simp [hjc]
    rw [r1] at hq ⊢
    have hm2 : j % zv'.cells.size < zv'.cells.size := by rw [← r1]; exact hm'
    simp [hm2] at hq ⊢
    exact hq
  · refine .sl _ _ 0 _ _ _ 0 _ hid (by omega) (by unfold maxN; omega) (rowSize_cells (c := (Array.range (c.toNat * i.size)).map fun j => zv'.cells[j % zv'.cells.size]!) (e := e) (fr := (0,0)) (by simp)) ?_
    rw [Array.size_map,Array.size_range,hlen]; omega

end
end Go.Abs
end
noncomputable section
namespace Go.Abs
open Go

section
variable {P : Program} {Γ : Nat → D} {I : Nat → Prop} {μ : Emb} {h : AHeap} {w : World} {id : Nat}

inductive OptR (I : Nat → Prop) (μ : Emb) (w : World) : Option D → Option Value → Prop
  | none : OptR I μ w none none
  | some {d v} : R I μ w d v → OptR I μ w (some d) (some v)

theorem run_sliceBounds {lo hi : Option D} {lov hiv : Option Value} (hlo : OptR I μ w lo lov) (hhi : OptR I μ w hi hiv) {len cap : Nat} {l hh : Int}
    (el : optI lo 0 = some l) (eh : optI hi len = some hh) (h0 : 0 ≤ l) (h1 : l ≤ hh) (h2 : hh ≤ len) (hc : len ≤ cap) (sl : Bool) (w : World) :
    (Instr.sliceBounds sl len cap lov hiv none).run P w = .ok (l.toNat,hh.toNat,cap) w := by
  have bound : ∀ (k : IntKind) (n : Int) (y : Nat) c,0 ≤ n → n ≤ y → (Instr.sliceBound (.int k n) y c).run P w = .ok n.toNat w := fun k n y c a b => by
    simp [Instr.sliceBound,asIntOf,a,b]
  cases hlo with
  | none =>
    simp only [optI,Option.some.injEq] at el
    subst el
    cases hhi with
    | none =>
      simp only [optI,Option.some.injEq] at eh
      subst eh
      simp [Instr.sliceBounds]
    | some hr =>
      cases hr <;> simp only [optI,reduceCtorEq,Option.some.injEq] at eh
      subst eh
      simp [Instr.sliceBounds,bound _ _ cap _ h1 (by omega)]
  | some hr' =>
    cases hr' <;> simp only [optI,reduceCtorEq,Option.some.injEq] at el
    subst el
    cases hhi with
    | none =>
      simp only [optI,Option.some.injEq] at eh
      subst eh
      simp [Instr.sliceBounds,bound _ _ len _ h0 (by omega)]
    | some hr =>
      cases hr <;> simp only [optI,reduceCtorEq,Option.some.injEq] at eh
      subst eh
      rename_i k1 n1 k2 n2
      simp [Instr.sliceBounds,bound k2 n2 cap _ (by omega) (by omega),bound k1 n1 n2.toNat _ h0 (by omega)]

theorem s_slcS {t : TypeId} (hd : P.underlying t = some .string) {x : D} {u : Value} (hx : R I μ w x u) {lo hi : Option D} {lov hiv : Option Value}
    (hlo : OptR I μ w lo lov) (hhi : OptR I μ w hi hiv) :
    Res I μ h w id ((vv (Instr.sliceAt t u lov hiv none)).run P w) (match (generalizing := false) x,optI lo 0 with
      | .s t,some l => (match (generalizing := false) optI hi t.length with
        | some h => if 0 ≤ l ∧ l ≤ h ∧ h ≤ t.length then .val (.s ((t.drop l.toNat).take (h.toNat - l.toNat))) else .bad
        | none => .bad)
      | _,_ => .bad) := by
  cases hx with
  | s z hz =>
    cases el : optI lo 0 with
    | none => trivial
    | some l =>
      simp only
      cases eh : optI hi z.length with
      | none => trivial
      | some hh =>
        simp only
        split
        · rename_i hc
          obtain ⟨h0,h1,h2⟩ := hc
          have hb := run_sliceBounds (P := P) hlo hhi el eh h0 h1 h2 (Nat.le_refl _) false w
          have e1 : (⟨z.toArray⟩ : ByteArray).extract l.toNat hh.toNat = ⟨((z.drop l.toNat).take (hh.toNat - l.toNat)).toArray⟩ := by
            apply ByteArray.ext
            simp [ByteArray.data_extract,List.extract_eq_take_drop]
          refine Res.val_of (v := .string ⟨((z.drop l.toNat).take (hh.toNat - l.toNat)).toArray⟩) ?_ (.s _ (by simp; omega))
          simp [Instr.sliceAt,run_underlying hd,Instr.slice,bs_size,hb,e1]
        · trivial
  | _ => cases optI lo 0 <;> trivial

theorem s_slc {t e : TypeId} {g : Bool} {sz : Nat} (hd : P.underlying t = some (.slice e)) (ha : aggSize P e = some (g,sz)) {x : D} {u : Value} (hx : R I μ w x u) {lo hi : Option D} {lov hiv : Option Value}
    (hlo : OptR I μ w lo lov) (hhi : OptR I μ w hi hiv) :
    Res I μ h w id ((vv (Instr.sliceAt t u lov hiv none)).run P w) (match (generalizing := false) x,optI lo 0 with
      | .nils,some l => (match (generalizing := false) optI hi 0 with
        | some h => if l = 0 ∧ h = 0 then .val .nils else .bad
        | none => .bad)
      | .sl z m off len,some l => (match (generalizing := false) optI hi len with
        | some h => if 0 ≤ l ∧ l ≤ h ∧ h ≤ len ∧ z = sz then .val (.sl z m (off + l.toNat * sz) (h.toNat - l.toNat)) else .bad
        | none => .bad)
      | .fz sz' es,some l => (match (generalizing := false) optI hi es.length with
        | some h => if 0 ≤ l ∧ l ≤ h ∧ h ≤ es.length ∧ sz' = sz then .val (.fz sz ((es.drop l.toNat).take (h.toNat - l.toNat))) else .bad
        | none => .bad)
      | _,_ => .bad) := by
  obtain ⟨d,i,hd',hi',_,rfl,hn0⟩ := aggSize_spec ha
  have hrun : ∀ (a : Option Addr) (len cap : Nat) (l hh : Int),(Instr.sliceBounds true len cap lov hiv none).run P w = .ok (l.toNat,hh.toNat,cap) w →
      (Instr.sliceAt t (.slice a len cap) lov hiv none).run P w = .ok (.slice (if cap = l.toNat then a else a.map (·.add (l.toNat * i.size))) (hh.toNat - l.toNat) (cap - l.toNat)) w := fun a len cap l hh hb => by
    simp [Instr.sliceAt,run_underlying hd,Instr.slice,hb,run_sizeOf hi']
  cases el : optI lo 0 with
  | none => cases x <;> trivial
  | some l =>
    cases hx with
    | nils =>
      simp only
      cases eh : optI hi 0 with
      | none => trivial
      | some hh =>
        simp only
        split
        · rename_i hc
          obtain ⟨rfl,rfl⟩ := hc
          have hb := run_sliceBounds (P := P) hlo hhi el (len := 0) (cap := 0) eh (by omega) (by omega) (by omega) (by omega) true w
          exact Res.val_of (by rw [hrun _ _ _ _ _ hb]; simp) .nils
        · trivial
    | sl sz' m off len cap b base nn hm h1 h2 h3 h4 =>
      simp only
      cases eh : optI hi len with
      | none => trivial
      | some hh =>
        simp only
        split
        · rename_i hc
          obtain ⟨c0,c1,c2,rfl⟩ := hc
          have hb := run_sliceBounds (P := P) hlo hhi el eh c0 c1 c2 h1 true w
          by_cases hcl : cap = l.toNat
          · have e1 : hh.toNat - l.toNat = 0 := by omega
            refine Res.val_of (by rw [hrun _ _ _ _ _ hb,if_pos hcl]) ?_
            rw [e1,show cap - l.toNat = 0 by omega]
            exact .sl0 _ _ _ _ _ _ hm
          · refine Res.val_of (by rw [hrun _ _ _ _ _ hb,if_neg hcl]) ?_
            simp only [Option.map_some,add_off,Nat.add_assoc]
            refine .sl _ _ _ _ _ _ _ _ hm (by omega) (by omega) h3 ?_
            have e9 : l.toNat * i.size + (cap - l.toNat) * i.size = cap * i.size := by rw [← Nat.add_mul]; congr 1; omega
            omega
        · trivial
    | sl0 sz' m off b base a hm =>
      simp only
      cases eh : optI hi (0 : Nat) with
      | none => trivial
      | some hh =>
        simp only
        split
        · rename_i hc
          obtain ⟨c0,c1,c2,rfl⟩ := hc
          have hb := run_sliceBounds (P := P) hlo hhi el eh c0 c1 c2 (Nat.le_refl _) true w
          have e1 : hh.toNat - l.toNat = 0 := by omega
          refine Res.val_of (by rw [hrun _ _ _ _ _ hb,if_pos (by omega)]) ?_
          rw [e1,show 0 - l.toNat = 0 by omega]
          exact .sl0 _ _ _ _ _ _ hm
        · trivial
    | fz sz' es b o cap vs q1 q2 q3 q4 q5 q6 q7 q8 =>
      simp only
      cases eh : optI hi es.length with
      | none => trivial
      | some hh =>
        simp only
        split
        · rename_i hc
          obtain ⟨c0,c1,c2,rfl⟩ := hc
          have hb := run_sliceBounds (P := P) hlo hhi el eh c0 c1 c2 q3 true w
          by_cases hne : hh.toNat - l.toNat = 0
          · refine Res.val_of (hrun _ _ _ _ _ hb) ?_
            rw [hne,List.take_zero]
            exact .fz0 _ _ _ (by omega)
          · have hsz : ∀ e ∈ es,e.cells.length = i.size := fun e he => (q5 e he).1
            have hlen : ((es.drop l.toNat).take (hh.toNat - l.toNat)).length = hh.toNat - l.toNat := by simp; omega
            have hsub : ∀ e ∈ (es.drop l.toNat).take (hh.toNat - l.toNat),e ∈ es := fun e he => List.mem_of_mem_drop (List.mem_of_mem_take he)
            have hsz2 : ∀ e ∈ (es.drop l.toNat).take (hh.toNat - l.toNat),e.cells.length = i.size := fun e he => hsz e (hsub e he)
            have hidx : ∀ j,j < (((es.drop l.toNat).take (hh.toNat - l.toNat)).flatMap D.cells).length →
                l.toNat * i.size + j < (es.flatMap D.cells).length ∧ (((es.drop l.toNat).take (hh.toNat - l.toNat)).flatMap D.cells)[j]? = (es.flatMap D.cells)[l.toNat * i.size + j]? := by
              intro j hj
              rw [flat_len hsz2,hlen] at hj
              have hpos : 0 < i.size := by omega
              have hk : j / i.size < hh.toNat - l.toNat := Nat.div_lt_of_lt_mul (by rw [Nat.mul_comm]; exact hj)
              have hr : j % i.size < i.size := Nat.mod_lt _ hpos
              have hdm : j / i.size * i.size + j % i.size = j := by rw [Nat.mul_comm]; exact Nat.div_add_mod j i.size
              have f1 := flat_get hsz2 (j / i.size) (j % i.size) (by rw [hlen]; exact hk) hr
              have f2 := flat_get hsz (l.toNat + j / i.size) (j % i.size) (by omega) hr
              rw [hdm] at f1
              rw [show (l.toNat + j / i.size) * i.size + j % i.size = l.toNat * i.size + j by rw [Nat.add_mul]; omega] at f2
              refine ⟨?_,?_⟩
              · rw [flat_len hsz]
                have := Nat.mul_le_mul_right i.size (show l.toNat + (hh.toNat - l.toNat) ≤ es.length by omega)
                rw [Nat.add_mul] at this
                omega
              · rw [f1,f2]
                congr 1
                simp
            refine Res.val_of (hrun _ _ _ _ _ hb) ?_
            rw [if_neg (by omega)]
            simp only [Option.map_some,add_off]
            have hcap : cap - l.toNat ≤ maxN := by omega
            rw [show Value.slice (some ⟨b,o + l.toNat * i.size,none⟩) (hh.toNat - l.toNat) (cap - l.toNat) = Value.slice (some ⟨b,o + l.toNat * i.size,none⟩) ((es.drop l.toNat).take (hh.toNat - l.toNat)).length (cap - l.toNat) by rw [hlen]]
            refine .fz _ _ _ _ _ (fun j => vs (l.toNat * i.size + j)) ?_ q2 (by rw [hlen]; omega) hcap (fun e he => q5 e (hsub e he)) ?_ ?_ ?_
            · intro hnil; rw [hnil] at hlen; simp at hlen; omega
            · intro c hc
              obtain ⟨e,he,hce⟩ := List.mem_flatMap.1 hc
              exact q6 c (List.mem_flatMap.2 ⟨e,hsub e he,hce⟩)
            · intro j hj
              rw [Nat.add_assoc]; exact q7 _ (hidx j hj).1
            · intro j hj
              have h9 := (hidx j hj).2
              rw [List.getElem?_eq_getElem hj,List.getElem?_eq_getElem (hidx j hj).1] at h9
              simp only [Option.some.injEq] at h9
              rw [h9]; exact q8 _ (hidx j hj).1
        · trivial
    | fz0 sz' a cap q1 =>
      simp only
      cases eh : optI hi (([] : List D).length) with
      | none => trivial
      | some hh =>
        simp only
        split
        · rename_i hc
          obtain ⟨c0,c1,c2,rfl⟩ := hc
          simp only [List.length_nil] at c2 eh
          have hb := run_sliceBounds (P := P) hlo hhi el (len := 0) (cap := cap) eh c0 c1 c2 (by omega) true w
          refine Res.val_of (hrun _ _ _ _ _ hb) ?_
          rw [show hh.toNat - l.toNat = 0 by omega]
          simp only [List.drop_nil,List.take_nil]
          exact .fz0 _ _ _ (by omega)
        · trivial
    | _ => trivial

theorem s_slcA (H : HR Γ I μ h w) {t e : TypeId} {g : Bool} {n sz : Nat} (hd : P.underlying t = some (.array n e)) (ha : aggSize P e = some (g,sz)) {x : D} {u : Value} (hx : R I μ w x u) {lo hi : Option D} {lov hiv : Option Value}
    (hlo : OptR I μ w lo lov) (hhi : OptR I μ w hi hiv) :
    Res I μ h w id ((vv (Instr.sliceAt t u lov hiv none)).run P w) (match (generalizing := false) x,optI lo 0,optI hi n with
      | .ptr m off,some l,some h' => (match (generalizing := false) h.get m with
        | some (.cells cs _) => if 0 ≤ l ∧ l ≤ h' ∧ h' ≤ n ∧ n ≤ maxN ∧ off + n * sz ≤ cs.length then .val (.sl sz m (off + l.toNat * sz) (h'.toNat - l.toNat)) else .bad
        | _ => .bad)
      | _,_,_ => .bad) := by
  obtain ⟨d,i,hd',hi',_,rfl,hn0⟩ := aggSize_spec ha
  cases hx with
  | ptr m off b base hm =>
    cases el : optI lo 0 with
    | none => trivial
    | some l =>
      cases eh : optI hi n with
      | none => trivial
      | some hh =>
        simp only
        split <;> try trivial
        rename_i cs odd hg
        split
        · rename_i hc
          obtain ⟨c0,c1,c2,c3,c4⟩ := hc
          obtain ⟨b',base',c,elem,lo',hi'',e1,e2,e3,e4,_⟩ := cells_at H hg
          rw [hm] at e1
          simp only [Option.some.injEq,Prod.mk.injEq] at e1
          obtain ⟨rfl,rfl⟩ := e1
          have hb := run_sliceBounds (P := P) hlo hhi el eh c0 c1 c2 (Nat.le_refl _) false w
          have hrun : (Instr.sliceAt t (.pointer (some ⟨b,base + off,none⟩)) lov hiv none).run P w =
              .ok (.slice (some (if n = l.toNat then ⟨b,base + off,none⟩ else (⟨b,base + off,none⟩ : Addr).add (l.toNat * i.size))) (hh.toNat - l.toNat) (n - l.toNat)) w := by
            simp [Instr.sliceAt,run_underlying hd,Instr.sureAddr,hb,run_sizeOf hi']
          refine Res.val_of hrun ?_
          by_cases hcl : n = l.toNat
          · rw [if_pos hcl,show hh.toNat - l.toNat = 0 by omega,show n - l.toNat = 0 by omega]
            exact .sl0 _ _ _ _ _ _ hm
          · rw [if_neg hcl,add_off,Nat.add_assoc]
            refine .sl _ _ _ _ _ _ _ _ hm (by omega) (by omega) (rowSize_cells e3) ?_
            have e9 : l.toNat * i.size + (n - l.toNat) * i.size = n * i.size := by rw [← Nat.add_mul]; congr 1; omega
            omega
        · trivial
  | _ => cases optI lo 0 <;> cases optI hi n <;> trivial

end
end Go.Abs
end
noncomputable section
namespace Go.Abs
open Go

section
variable {P : Program} {Γ : Nat → D} {I : Nat → Prop} {μ : Emb} {h : AHeap} {w : World} {id : Nat}

theorem foldl_set (vs : List Value) (c : Array Value) (off : Nat) (hle : off + vs.length ≤ c.size) :
    (vs.zipIdx.foldl (fun cs (x : Value × Nat) => cs.setIfInBounds (off + x.2) x.1) c) = setArr c off vs := by
  have key : ∀ (vs : List Value) (k : Nat) (c : Array Value),((vs.zipIdx k).foldl (fun cs (x : Value × Nat) => cs.setIfInBounds (off + x.2) x.1) c) = setArr c (off + k) vs := by
    intro vs
    induction vs with
    | nil => intro k c; rfl
    | cons v r ih =>
      intro k c
      rw [List.zipIdx_cons,List.foldl_cons,ih (k + 1)]
      rfl
  simpa using key vs 0 c

structure Row (I : Nat → Prop) (μ : Emb) (w : World) (cs : List D) (xs : Array Value) : Prop where
  size : cs.length = xs.size
  one : ∀ c ∈ cs,c.one = true
  r : ∀ j (hj : j < cs.length),∃ u,xs[j]? = some u ∧ R I μ w cs[j] u

theorem Row.agg {cs : List D} {xs : Array Value} (A : Row I μ w cs xs) : R I μ w (.agg cs) (.agg xs) :=
  .agg _ _ A.size A.one fun j hj => by
    obtain ⟨u,hu,hr⟩ := A.r j hj
    have hj' : j < xs.size := A.size ▸ hj
    have : xs[j] = u := by simpa [hj'] using hu
    rw [this]; exact hr

theorem Row.of_cells {d : D} {v : Value} (hv : d.val = true) (hr : R I μ w d v) : Row I μ w d.cells v.cells := by
  obtain ⟨h1,h2,h3⟩ := hr.cells hv
  exact ⟨h1,h2,h3⟩

theorem Row.splice {cs new : List D} {xs us : Array Value} (A : Row I μ w cs xs) (B : Row I μ w new us) {off : Nat} (hle : off + new.length ≤ cs.length) :
    Row I μ w (splice cs off new) (setArr xs off us.toList) := by
  have hsz : us.toList.length = new.length := by simp [B.size]
  have hA := A.size
  refine ⟨by rw [splice_length hle,setArr_size,A.size],?_,?_⟩
  · intro d hd
    unfold Abs.splice at hd
    simp only [List.mem_append] at hd
    rcases hd with (hd | hd) | hd
    · exact A.one d (List.mem_of_mem_take hd)
    · exact B.one d hd
    · exact A.one d (List.mem_of_mem_drop hd)
  · intro j hj
    rw [splice_length hle] at hj
    have hget := splice_get hle j
    rw [List.getElem?_eq_getElem (by rw [splice_length hle]; exact hj)] at hget
    rw [setArr_get _ _ _ (by omega)]
    by_cases hin : off ≤ j ∧ j < off + new.length
    · rw [if_pos hin] at hget
      rw [if_pos (by omega)]
      obtain ⟨u,hu,hru⟩ := B.r (j - off) (by omega)
      rw [List.getElem?_eq_getElem (by omega)] at hget
      simp only [Option.some.injEq] at hget
      exact ⟨u,by simpa using hu,by rw [hget]; exact hru⟩
    · rw [if_neg hin] at hget
      rw [if_neg (by omega)]
      obtain ⟨u,hu,hru⟩ := A.r j hj
      rw [List.getElem?_eq_getElem hj] at hget
      simp only [Option.some.injEq] at hget
      exact ⟨u,hu,by rw [hget]; exact hru⟩

theorem fill_sound (places : List (Nat × Nat)) (ev : Opd → D) (a : Act) : ∀ (ps : List (Nat × Operand)) (xs : List (Nat × Nat × Opd)),xparts places ps = some xs →
    (∀ y : Operand,xopd y ∈ xs.map (·.2.2) → R I μ w (ev (xopd y)) (a.eval y)) → ∀ (zs : List D) (vs : Array Value),Row I μ w zs vs → ∀ (cs : List D),
    fillD zs (xs.map fun p => (p.1,p.2.1,ev p.2.2)) = some cs →
    ∃ us,Instr.fill (places[·]?) vs (ps.map fun p => (p.1,a.eval p.2)) = some us ∧ Row I μ w cs us := by
  intro ps
  induction ps with
  | nil =>
    intro xs hx hops zs vs A cs hf
    have : xs = [] := by simpa [xparts] using hx.symm
    subst this
    simp only [List.map_nil,fillD,Option.some.injEq] at hf
    subst hf
    exact ⟨vs,rfl,A⟩
  | cons p ps ih =>
    intro xs hx hops zs vs A cs hf
    obtain ⟨i,y⟩ := p
    unfold xparts at hx
    obtain ⟨b,xs',hb,hr,rfl⟩ := mapM_cons_some hx
    simp only [Option.bind_eq_bind,Option.bind_eq_some_iff,Option.pure_def,Option.some.injEq] at hb
    obtain ⟨⟨o,n⟩,ho,rfl⟩ := hb
    simp only [List.map_cons,fillD,Option.ite_none_right_eq_some] at hf
    obtain ⟨⟨c1,c2,c3⟩,hf⟩ := hf
    have hyr := hops y (by simp)
    have B := Row.of_cells c3 hyr
    have h1 := B.size
    have h2 := A.size
    obtain ⟨us,e1,e2⟩ := ih xs' hr (fun z hz => hops z (by simp at hz ⊢; exact .inr hz)) _ _ (A.splice B (off := o) (by omega)) cs hf
    refine ⟨us,?_,e2⟩
    simp only [List.map_cons,Instr.fill,ho]
    rw [if_neg (by simp; omega),← e1]
    congr 1
    have := foldl_set (a.eval y).cells.toList vs o (by simp; omega)
    rw [← this]
    rw [← Array.foldl_toList,Array.toList_zipIdx]

theorem zero_row {t : TypeId} {z : D} (hz : zeroOf P t = some z) (hv : z.val = true) (w : World) : ∃ v,(zeroValue t).run P w = .ok v w ∧ Row I μ w z.cells v.cells := by
  obtain ⟨v,h1,h2⟩ := zero_R (I := I) (μ := μ) hz w
  exact ⟨v,h1,Row.of_cells hv h2⟩

theorem run_placesOf {t : TypeId} {places : List (Nat × Nat)} {fs : Array Field} (hd : P.underlying t = some (.struct fs)) (hp : placesOf P t = some places) (w : World) :
    (fs.mapM fun f => do pure (f.offset,← sizeOf f.type) : Sem (Array (Nat × Nat))).run P w = .ok places.toArray w := by
  unfold placesOf at hp
  simp only [Option.bind_eq_bind,hd,Option.bind_some] at hp
  have key : ∀ (l : List Field) (r : List (Nat × Nat)),l.mapM (fun f => (P.info? f.type).bind fun i => some (f.offset,i.size)) = some r →
      (l.mapM (fun f => do pure (f.offset,← sizeOf f.type) : Field → Sem (Nat × Nat))).run P w = .ok r w := by
    intro l
    induction l with
    | nil => intro r hr; have : r = [] := by simpa using hr.symm
             subst this; rfl
    | cons f l ih =>
      intro r hr
      obtain ⟨b,r',hb,hr',rfl⟩ := mapM_cons_some hr
      simp only [Option.bind_eq_some_iff,Option.some.injEq] at hb
      obtain ⟨i,hi,rfl⟩ := hb
      have ih' := ih r' hr'
      rw [List.mapM_cons]
      simp only [Sem.run_bind,run_sizeOf hi,Result.andThen_ok,Sem.run_pure,ih']
  have h2 := key fs.toList places hp
  rw [Array.mapM_eq_mapM_toList]
  simp only [Sem.run_map,h2,Result.andThen_ok]

theorem fill_mono {f g : Nat → Option (Nat × Nat)} (hfg : ∀ j x,f j = some x → g j = some x) : ∀ (l : List (Nat × Value)) (c u : Array Value),Instr.fill f c l = some u → Instr.fill g c l = some u
  | [],c,u,hh => hh
  | (j,q) :: l,c,u,hh => by
    simp only [Instr.fill] at hh ⊢
    cases hj : f j with
    | none => rw [hj] at hh; simp at hh
    | some x =>
      rw [hfg j x hj]
      rw [hj] at hh
      obtain ⟨o,n⟩ := x
      simp only at hh ⊢
      split
      · rename_i hc; rw [if_pos hc] at hh; simp at hh
      · rename_i hc; rw [if_neg hc] at hh
        exact fill_mono hfg l _ _ hh

theorem s_build {t : TypeId} {z : D} {places : List (Nat × Nat)} {ps : List (Nat × Operand)} {xs : List (Nat × Nat × Opd)} {n : Nat} {a : Act} {ev : Opd → D} (hz : zeroOf P t = some z) (hv : z.val = true)
    (hag : aggSize P t = some (true,n)) (hpl : placesOf P t = some places) (hx : xparts places ps = some xs) (hops : ∀ y : Operand,xopd y ∈ xs.map (·.2.2) → R I μ w (ev (xopd y)) (a.eval y)) :
    Res I μ h w id ((vv (Instr.build t (ps.map fun p => (p.1,a.eval p.2)).toArray)).run P w) (match (generalizing := false) fillD z.cells (xs.map fun p => (p.1,p.2.1,ev p.2.2)) with
      | some cs => .val (.agg cs) | none => .bad) := by
  cases hf : fillD z.cells (xs.map fun p => (p.1,p.2.1,ev p.2.2)) with
  | none => trivial
  | some cs =>
    obtain ⟨v,hzr,A⟩ := zero_row (I := I) (μ := μ) hz hv w
    obtain ⟨us,e1,B⟩ := fill_sound places ev a ps xs hx hops _ _ A cs hf
    obtain ⟨d,i,hd,hi,hg,_,_⟩ := aggSize_spec hag
    refine Res.val_of ?_ B.agg
    cases d <;> simp only [isAggD,Bool.true_eq_false,reduceCtorEq] at hg
    case struct fs =>
      have hp := run_placesOf hd hpl w
      simp only [Instr.build,Sem.run_bind,hzr,Result.andThen_ok,run_underlying hd,hp]
      simp [e1]
    case array k e =>
      unfold placesOf at hpl
      simp only [Option.bind_eq_bind,hd,Option.bind_some,Option.bind_eq_some_iff,Option.pure_def,Option.some.injEq] at hpl
      obtain ⟨ei,hei,rfl⟩ := hpl
      have e2 := fill_mono (g := fun j => some (j * ei.size,ei.size)) (fun j x hx => by
        simp only [List.getElem?_map,Option.map_eq_some_iff] at hx
        obtain ⟨q,hq,rfl⟩ := hx
        obtain ⟨_,rfl⟩ := List.getElem?_eq_some_iff.1 hq
        simp) _ _ _ e1
      simp [Instr.build,hzr,run_underlying hd,run_sizeOf hei,e2]

theorem ObjR.anyOdd {cs : List D} {b base : Nat} (h : ObjR I μ w (.cells cs 0) b base) {odd : Nat} (ho : odd ≤ 1) : ObjR I μ w (.cells cs odd) b base := by
  obtain ⟨c,elem,lo,hi,h1,h2,h3,h4,h5,h6⟩ := h
  exact ⟨c,elem,lo,hi,h1,h2,h3,⟨fun _ => h4.1 (by decide),fun t ht => by omega,fun t ht => by omega⟩,h5,h6⟩

theorem s_bslice {odd : Nat} (ho : odd ≤ 1) (H : HR Γ I μ h w) {t e : TypeId} {z : D} {len : Nat} {ps : List (Nat × Operand)} {xs : List (Nat × Nat × Opd)} {a : Act} {ev : Opd → D} (hd : P.underlying t = some (.slice e)) (hz : zeroOf P e = some z) (hv : z.val = true)
    (hbig : len * z.cells.length ≤ 2 ^ 24) (hx : xparts ((List.range len).map fun k => (k * z.cells.length,z.cells.length)) ps = some xs) (hops : ∀ y : Operand,xopd y ∈ xs.map (·.2.2) → R I μ w (ev (xopd y)) (a.eval y)) :
    Res I μ h w id ((vv (Instr.buildSlice t len (ps.map fun p => (p.1,a.eval p.2)).toArray)).run P w) (match (generalizing := false) fillD (List.replicate len z.cells).flatten (xs.map fun p => (p.1,p.2.1,ev p.2.2)) with
      | some cs => .new (.cells cs odd) (.sl z.cells.length id 0 len) | none => .bad) := by
  cases hf : fillD (List.replicate len z.cells).flatten (xs.map fun p => (p.1,p.2.1,ev p.2.2)) with
  | none => trivial
  | some cs =>
    obtain ⟨v,hzr,A⟩ := zero_row (I := I) (μ := μ) hz hv w
    obtain ⟨i,zv,hi,hzz,hzeq,hg,hlen,hn0⟩ := zeroOf_spec hz
    have hAs := A.size
    let base : Array Value := (Array.range (len * i.size)).map fun j => v.cells[j % v.cells.size]!
    have B : Row I μ w (List.replicate len z.cells).flatten base := by
      have e1 : (List.replicate len z.cells).flatten.length = len * z.cells.length := by simp
      refine ⟨by rw [e1]; simp [base,hlen],?_,?_⟩
      · intro d hdm
        simp only [List.mem_flatten,List.mem_replicate] at hdm
        obtain ⟨q,⟨_,rfl⟩,hdq⟩ := hdm
        exact A.one d hdq
      · intro j hj
        rw [e1] at hj
        have hm' : j % z.cells.length < z.cells.length := Nat.mod_lt _ (by omega)
        have hget := replicate_flat z.cells len j hj
        rw [List.getElem?_eq_getElem (by rw [e1]; exact hj),List.getElem?_eq_getElem hm'] at hget
        simp only [Option.some.injEq] at hget
        obtain ⟨q,hq,hqr⟩ := A.r _ hm'
        refine ⟨q,?_,by rw [hget]; exact hqr⟩
        have hm2 : j % v.cells.size < v.cells.size := by rw [← hAs]; exact hm'
        have hjc : j < len * i.size := by rw [← hlen]; exact hj
        simp only [base,Array.getElem?_map,Array.getElem?_range,hjc,if_true,Option.map_some]
        rw [hAs] at hq
        simp [hm2] at hq ⊢
        exact hq
    obtain ⟨us,e1,C⟩ := fill_sound _ ev a ps xs hx hops _ _ B cs hf
    have e2 := fill_mono (g := fun j => some (j * i.size,i.size)) (fun j x hx => by
        simp only [List.getElem?_map,Option.map_eq_some_iff] at hx
        obtain ⟨q,hq,rfl⟩ := hx
        obtain ⟨_,rfl⟩ := List.getElem?_eq_some_iff.1 hq
        simp [hlen]) _ _ _ e1
    have hlenmax : len ≤ maxN := by
      have := Nat.le_mul_of_pos_right len (show 0 < z.cells.length by omega)
      unfold maxN; omega
    have hrun : (Instr.buildSlice t len (ps.map fun p => (p.1,a.eval p.2)).toArray).run P w = .ok (.slice (some ⟨w.heap.size,0,none⟩) len len) { w with heap := w.heap.push (.cells us e) } := by
      have hb : ¬ (len * i.size > 2 ^ 24) := by rw [← hlen]; omega
      by_cases hcz : len * i.size = 0
      · have hbase : base = #[] := Array.eq_empty_of_size_eq_zero (by simp [base,hcz])
        have e0 : ∀ f : Nat → Value,Array.map f (Array.range 0) = #[] := fun f => Array.eq_empty_of_size_eq_zero (by simp)
        rw [hbase] at e2
        simp only [Instr.buildSlice,Sem.run_bind,run_underlying hd,Result.andThen_ok,run_sizeOf hi,if_neg hb,Sem.run_pure,hcz,if_true,Sem.run_ite]
        rw [if_neg (by omega)]
        simp only [Result.andThen_ok,e0,e2,newRow,Sem.run_bind,run_newObj,Sem.run_pure]
      · simp only [Instr.buildSlice,Sem.run_bind,run_underlying hd,Result.andThen_ok,run_sizeOf hi,if_neg hb,Sem.run_pure,if_neg hcz,hzr]
        have e3 : Array.map (fun x => v.cells[x % v.cells.size]!) (Array.range (len * i.size)) = base := rfl
        rw [e3]
        simp [e2,newRow]
    simp only
    rw [run_vv hrun]
    refine ⟨_,_,_,rfl,.inl rfl,Grew.alloc w _,fun μ' hm hid => ⟨(objR_new rfl H (by rw [C.size]; exact Nat.le_refl _) C.one C.r hm).anyOdd ho,?_⟩⟩
    refine .sl _ _ 0 _ _ _ 0 _ hid (Nat.le_refl _) hlenmax (rowSize_cells (c := us) (e := e) (fr := (0,0)) (by simp)) ?_
    have e1 := C.size
    have e4 := B.size
    have e5 : ∀ (zs : List D) (ps : List (Nat × Nat × D)) (r : List D),fillD zs ps = some r → r.length = zs.length := by
      intro zs ps
      induction ps generalizing zs with
      | nil => intro r hr; simp only [fillD,Option.some.injEq] at hr; rw [hr]
      | cons p ps ih =>
        intro r hr
        obtain ⟨o,n,d⟩ := p
        simp only [fillD,Option.ite_none_right_eq_some] at hr
        obtain ⟨⟨k1,k2,_⟩,hr⟩ := hr
        rw [ih _ _ hr,splice_length (by omega)]
    have e6 := e5 _ _ _ hf
    have e7 : (List.replicate len z.cells).flatten.length = len * z.cells.length := by simp
    omega

theorem slCells_sound (H : HR Γ I μ h w) {sz : Nat} {d : D} {v : Value} (hr : R I μ w d v) {cs : List D} {n : Nat} {ly : Option Nat} (hs : slCells h.get sz d = some (cs,n,ly)) :
    ∃ (a : Option Addr) (cap : Nat) (vs : List Value),v = .slice a n cap ∧ cs.length = n * sz ∧ vs.length = n * sz ∧ n ≤ cap ∧ cap ≤ maxN ∧ (∀ c ∈ cs,c.one = true) ∧
      (∀ j (h1 : j < cs.length) (h2 : j < vs.length),R I μ w cs[j] vs[j]) ∧
      (vs = [] ∨ ∃ b o,a = some ⟨b,o,none⟩ ∧ (∀ j x,vs[j]? = some x → w.cell? (Addr.add ⟨b,o,none⟩ j) = some x) ∧ (I b ∨ ∃ l base,ly = some l ∧ (h.get l).isSome = true ∧ μ l = some (b,base))) := by
  cases hr with
  | nils =>
    simp only [slCells,Option.some.injEq,Prod.mk.injEq] at hs
    obtain ⟨rfl,rfl,rfl⟩ := hs
    exact ⟨none,0,[],rfl,by simp,by simp,Nat.le_refl _,by unfold maxN; omega,by simp,by simp,.inl rfl⟩
  | sl sz' l off len cap b base nn hm h1 h2 h3 h4 =>
    simp only [slCells] at hs
    split at hs <;> try (simp at hs; done)
    rename_i cs0 odd hg
    split at hs <;> try (simp at hs; done)
    rename_i hle
    obtain ⟨hle,rfl⟩ := hle
    simp only [Option.some.injEq,Prod.mk.injEq] at hs
    obtain ⟨rfl,rfl,rfl⟩ := hs
    have hld : ldCells h.get (len * sz') (.ptr l off) = some ((cs0.drop off).take (len * sz')) := by simp [ldCells,hg,hle]
    obtain ⟨b',o',vs,e1,e2,e3,e4,e5,e6⟩ := ldCells_sound H (.ptr l off b base hm) hld
    simp only [Value.pointer.injEq,Option.some.injEq,Addr.mk.injEq,and_true] at e1
    obtain ⟨rfl,rfl⟩ := e1
    exact ⟨_,cap,vs,rfl,e2,e3,h1,h2,e4,e6,.inr ⟨b,base + off,rfl,e5,.inr ⟨l,base,rfl,by simp [hg],hm⟩⟩⟩
  | sl0 sz' l off b base a hm =>
    simp only [slCells] at hs
    split at hs <;> try (simp at hs; done)
    split at hs <;> try (simp at hs; done)
    simp only [Option.some.injEq,Prod.mk.injEq] at hs
    obtain ⟨rfl,rfl,rfl⟩ := hs
    exact ⟨_,0,[],rfl,by simp,by simp,Nat.le_refl _,by unfold maxN; omega,by simp,by simp,.inl rfl⟩
  | fz sz' es b o cap vs q1 q2 q3 q4 q5 q6 q7 q8 =>
    simp only [slCells] at hs
    split at hs <;> try (simp at hs; done)
    rename_i hsz
    subst hsz
    simp only [Option.some.injEq,Prod.mk.injEq] at hs
    obtain ⟨rfl,rfl,rfl⟩ := hs
    have hl := flat_len (sz := sz') (es := es) (fun e he => (q5 e he).1)
    refine ⟨_,cap,(List.range (es.length * sz')).map vs,rfl,hl,by simp,q3,q4,q6,?_,.inr ⟨b,o,rfl,?_,.inl q2⟩⟩
    · intro j h1 h2
      simp only [List.getElem_map,List.getElem_range]
      exact q8 j h1
    · intro j x hx
      have hj : j < es.length * sz' := by
        have := (List.getElem?_eq_some_iff.1 hx).1
        simpa using this
      simp [hj] at hx
      rw [add_off,q7 j (by omega),hx]
  | fz0 sz' a cap hc =>
    simp only [slCells] at hs
    split at hs <;> try (simp at hs; done)
    simp only [Option.some.injEq,Prod.mk.injEq] at hs
    obtain ⟨rfl,rfl,rfl⟩ := hs
    exact ⟨a,cap,[],rfl,by simp,by simp,by simp,hc,by simp,by simp,.inl rfl⟩
  | _ => simp [slCells] at hs

end
end Go.Abs
end
noncomputable section
namespace Go.Abs
open Go

section
variable {P : Program} {Γ : Nat → D} {I : Nat → Prop} {μ : Emb} {h : AHeap} {w : World} {id : Nat}

theorem run_append_in {t t2 ty e : TypeId} {i : TypeInfo} {d2 : TypeDesc} (ht : P.underlying t = some (.slice e)) (hi : P.info? e = some i) (ht2 : P.underlying t2 = some d2) (hd2 : ∀ k,d2 ≠ .int k)
    {x : Value} {m : Nat} {news : Array Value} (hlen : ∀ w,(Builtin.lenOf x).run P w = .ok m w) (hsrc : (Builtin.firstCells i.size m x).run P w = .ok news w)
    (a : Option Addr) (sLen sCap : Nat) (hroom : sLen + m ≤ sCap) {w' : World} (hst : ∀ b,a = some b → (storeCells (b.add (sLen * i.size)) news.toList).run P w = .ok () w') (hno : a = none → w' = w) :
    (Builtin.append_ #[t,t2] ty #[.slice a sLen sCap,x]).run P w = .ok (.slice a (sLen + m) sCap) w' := by
  have hz : (match d2 with | .int _ => true | _ => false) = false := by cases d2 <;> first | rfl | exact absurd rfl (hd2 _)
  cases a with
  | none =>
    obtain rfl := hno rfl
    simp [Builtin.append_,run_underlying ht,run_underlying ht2,run_sizeOf hi,hz,hlen,hroom,hsrc]
  | some b => simp [Builtin.append_,run_underlying ht,run_underlying ht2,run_sizeOf hi,hz,hlen,hroom,hsrc,hst b rfl]

theorem run_append_out {t t2 ty e : TypeId} {i : TypeInfo} {d2 : TypeDesc} {z : Value} (ht : P.underlying t = some (.slice e)) (hi : P.info? e = some i) (ht2 : P.underlying t2 = some d2) (hd2 : ∀ k,d2 ≠ .int k)
    (hz : i.zero = some z) {x : Value} {m : Nat} {news olds : Array Value} (hlen : ∀ w,(Builtin.lenOf x).run P w = .ok m w) (hsrc : ∀ w' : World,w'.heap = w.heap → (Builtin.firstCells i.size m x).run P w' = .ok news w')
    (a : Option Addr) (sLen sCap : Nat) (hold : ∀ w' : World,w'.heap = w.heap → (Builtin.firstCells i.size sLen (.slice a sLen sCap)).run P w' = .ok olds w') (hg : sCap < sLen + m)
    (hfit : (sLen + m) * i.bytes ≤ room) (hb : i.bytes ≠ 0) :
    (Builtin.append_ #[t,t2] ty #[.slice a sLen sCap,x]).run P w =
      .ok (.slice (some ⟨w.heap.size,0,none⟩) (sLen + m) (grownCap w (sLen + m) sCap e))
        (w.drew.alloc (.cells (olds ++ news ++ Builtin.zeroCells z.cells (grownCap w (sLen + m) sCap e - (sLen + m))) e)) := by
  have hz2 : (match d2 with | .int _ => true | _ => false) = false := by cases d2 <;> first | rfl | exact absurd rfl (hd2 _)
  have hn : ¬ (sLen + m ≤ sCap) := by omega
  have h48 := growslice_fits hg hfit
  have h48' : ¬ (281474976710656 < Builtin.nextslicecap (sLen + m) sCap * i.bytes) := by omega
  have hs1 := hsrc w.drew rfl
  have hs2 := hold w.drew rfl
  simp [Builtin.append_,run_underlying ht,run_underlying ht2,run_sizeOf hi,hz2,hlen,hn,hb,typeInfo,hi,h48',Question.forced,hs1,hs2,zeroValue,hz,newRow,grownCap]

theorem grownCap_le (w : World) (need old : Nat) (e : TypeId) (hn : need ≤ 140737488355328) : need ≤ grownCap w need old e ∧ grownCap w need old e ≤ maxN := by
  show need ≤ need + (w.tape w.drawn (Question.appendCap need old e)) % (2 ^ 63 - need) ∧ need + (w.tape w.drawn (Question.appendCap need old e)) % (2 ^ 63 - need) ≤ maxN
  unfold maxN
  have : (w.tape w.drawn (Question.appendCap need old e)) % (2 ^ 63 - need) < 2 ^ 63 - need := Nat.mod_lt _ (by omega)
  constructor <;> omega

theorem drewAlloc_heap (w : World) (o : Obj) : (w.drew.alloc o).heap = w.heap.push o := rfl

theorem drew_grew (w : World) (o : Obj) : Grew w (w.drew.alloc o) :=
  ⟨by rw [drewAlloc_heap]; simp,rfl,rfl,rfl,fun c hc => by rw [drewAlloc_heap]; simp [Array.getElem?_push,Nat.ne_of_lt hc]⟩

theorem objR_made (H : HR Γ I μ h w) {cs : List D} {us : Array Value} {elem : TypeId} {odd : Nat} (ho : odd ≤ 1 ∨ odd = 2 * elem + 3) (hlen : cs.length ≤ us.size) (h1 : ∀ c ∈ cs,c.one = true)
    (hr : ∀ j (hj : j < cs.length),∃ u,us[j]? = some u ∧ R I μ w cs[j] u) {μ' : Emb} (hm : ∀ l p,μ l = some p → μ' l = some p) :
    ObjR I μ' (w.drew.alloc (.cells us elem)) (.cells cs odd) w.heap.size 0 := by
  refine ⟨us,elem,0,0,by rw [drewAlloc_heap]; simp,by omega,.inr ⟨rfl,rfl⟩,⟨fun _ => ⟨rfl,rfl⟩,fun t ht => by omega,fun t ht => ⟨by omega,rfl⟩⟩,h1,fun j hj => ?_⟩
  obtain ⟨u,hu,hru⟩ := hr j hj
  refine ⟨u,by simpa using hu,hru.mono (fun _ x => x) hm (fun b hb => ?_) (drew_grew w _).rows⟩
  have := H.frz b hb
  rw [drewAlloc_heap]; simp [Array.getElem?_push,Nat.ne_of_lt this]

theorem appD_sound (H : HR Γ I μ h w) {t t2 ty e : TypeId} {i : TypeInfo} {d2 : TypeDesc} {z : D} (ht : P.underlying t = some (.slice e)) (hi : P.info? e = some i) (ht2 : P.underlying t2 = some d2) (hd2 : ∀ k,d2 ≠ .int k)
    (hzD : zeroOf P e = some z) (hzv' : z.val = true) (hb : i.bytes ≠ 0) {x : D} {u : Value} (hx : R I μ w x u) {v : Value} {m : Nat} {new : List D} {news : Array Value} {ly : Option Nat}
    (hlen : ∀ w,(Builtin.lenOf v).run P w = .ok m w) (hsrc : ∀ w' : World,w'.heap = w.heap → (Builtin.firstCells i.size m v).run P w' = .ok news w')
    (hrow : Row I μ w new news) (hml : new.length = m * i.size) {mk : Nat} (hmk : mk = 0 ∨ mk = 2 * e + 3)
    (hsep : ∀ l b base base',ly ≠ some l → (h.get l).isSome = true → μ l = some (b,base) → m ≠ 0 → ¬ (∃ ll,ly = some ll ∧ μ ll = some (b,base') ∧ (h.get ll).isSome = true)) :
    Res I μ h w id ((vv (Builtin.append_ #[t,t2] ty #[u,v])).run P w) (appD h.get i.bytes i.size mk id x new m ly) := by
  obtain ⟨i',zv,hi',hzz,hzeq,hg0,hzl,hn0⟩ := zeroOf_spec hzD
  rw [hi] at hi'
  simp only [Option.some.injEq] at hi'
  subst hi'
  have hzv : (dOf 20 zv).val = true := hzeq ▸ hzv'
  unfold appD
  by_cases hm0 : m = 0
  · rw [if_pos hm0]
    subst hm0
    have hnews : news = #[] := by
      have h2 := hrow.size
      rw [hml,Nat.zero_mul] at h2
      exact Array.eq_empty_of_size_eq_zero h2.symm
    subst hnews
    have key : ∀ a (n c : Nat),n ≤ c → (Builtin.append_ #[t,t2] ty #[.slice a n c,v]).run P w = .ok (.slice a n c) w := fun a n c hnc => by
      have := run_append_in (ty := ty) ht hi ht2 hd2 hlen (hsrc w rfl) a n c (by omega) (w' := w) (fun b _ => rfl) (fun _ => rfl)
      simpa using this
    cases hx with
    | nils => exact Res.val_of (key _ _ _ (Nat.le_refl _)) .nils
    | sl sz' l off len cap b base nn q1 q2 q3 q4 q5 => exact Res.val_of (key _ _ _ q2) (.sl _ _ _ _ _ _ _ _ q1 q2 q3 q4 q5)
    | sl0 sz' l off b base a q1 => exact Res.val_of (key _ _ _ (Nat.le_refl _)) (.sl0 _ _ _ _ _ _ q1)
    | fz sz' es b o cap vs q1 q2 q3 q4 q5 q6 q7 q8 => exact Res.val_of (key _ _ _ q3) (.fz _ _ _ _ _ _ q1 q2 q3 q4 q5 q6 q7 q8)
    | fz0 sz' a cap q1 => exact Res.val_of (key _ _ _ (by omega)) (.fz0 _ _ _ q1)
    | _ => trivial
  · rw [if_neg hm0]
    have hrs := hrow.size
    have grow : ∀ (a : Option Addr) (n c : Nat) (olds : Array Value) (old : List D),(∀ w' : World,w'.heap = w.heap → (Builtin.firstCells i.size n (.slice a n c)).run P w' = .ok olds w') →
        Row I μ w old olds → old.length = n * i.size → c < n + m → (n + m) * i.bytes ≤ room →
        ∃ w',(Builtin.append_ #[t,t2] ty #[.slice a n c,v]).run P w = .ok (.slice (some ⟨w.heap.size,0,none⟩) (n + m) (grownCap w (n + m) c e)) w' ∧ Grew w w' ∧
          n + m ≤ grownCap w (n + m) c e ∧ grownCap w (n + m) c e ≤ maxN ∧
          (∃ n',rowSize w' w.heap.size = some n' ∧ grownCap w (n + m) c e * i.size ≤ n') ∧
          ∀ (odd : Nat) (μ' : Emb),odd ≤ 1 ∨ odd = mk → (∀ l p,μ l = some p → μ' l = some p) → ObjR I μ' w' (.cells (old ++ new) odd) w.heap.size 0 := by
      intro a n c olds old hold A hol hc hfit
      have hos := A.size
      have hle : n + m ≤ 140737488355328 := by
        have := Nat.le_mul_of_pos_right (n + m) (show 0 < i.bytes by omega)
        unfold room at hfit; omega
      refine ⟨_,run_append_out (ty := ty) ht hi ht2 hd2 hzz hlen hsrc a n c hold hc hfit hb,drew_grew w _,(grownCap_le w _ c e hle).1,(grownCap_le w _ c e hle).2,⟨_,rowSize_cells (c := olds ++ news ++ Builtin.zeroCells zv.cells (grownCap w (n + m) c e - (n + m))) (e := e) (fr := (0,0)) (by rw [drewAlloc_heap]; simp),?_⟩,fun odd μ' ho hm => ?_⟩
      · have hzs : zv.cells.size = i.size := by
          rw [← hzl,hzeq]
          exact ((dOf_R (I := I) (μ := μ) w 20 20 zv (hzeq ▸ hg0)).cells hzv).1.symm
        have e8 : grownCap w (n + m) c e = (n + m) + (grownCap w (n + m) c e - (n + m)) := by have := (grownCap_le w (n + m) c e hle).1; omega
        simp only [Array.size_append,Builtin.zeroCells,Array.size_map,Array.size_range,hzs,← hos,← hrs,hol,hml]
        rw [← Nat.add_mul,← Nat.add_mul,← e8]
        exact Nat.le_refl _
      refine objR_made H (by omega) ?_ ?_ ?_ hm
      · simp; omega
      · intro d hd
        rcases List.mem_append.1 hd with hd | hd
        · exact A.one d hd
        · exact hrow.one d hd
      · intro j hj
        simp only [List.length_append] at hj
        by_cases h1 : j < old.length
        · obtain ⟨u,hu,hr⟩ := A.r j h1
          refine ⟨u,?_,by rw [List.getElem_append_left h1]; exact hr⟩
          rw [Array.append_assoc,Array.getElem?_append_left (by omega)]; exact hu
        · obtain ⟨u,hu,hr⟩ := hrow.r (j - old.length) (by omega)
          refine ⟨u,?_,by rw [List.getElem_append_right (by omega)]; exact hr⟩
          rw [Array.append_assoc,Array.getElem?_append_right (by omega),Array.getElem?_append_left (by omega),← hos]; exact hu
    cases hx with
    | nils =>
      simp only
      split <;> try trivial
      rename_i hfit
      obtain ⟨w',e1,e2,e3,e4,⟨n',e6,e7⟩,e5⟩ := grow none 0 0 #[] [] (fun w' _ => by simp [Builtin.firstCells]) ⟨rfl,by simp,by simp⟩ (by simp) (by omega) (by simpa using hfit)
      rw [run_vv e1]
      simp only [Nat.zero_add] at e3 e4 e7 ⊢
      exact ⟨_,_,_,rfl,.inl rfl,e2,fun μ' hm hid => ⟨by simpa using e5 mk μ' (.inr rfl) hm,.sl _ _ 0 _ _ _ 0 n' hid e3 e4 e6 (by omega)⟩⟩
    | sl sz' l off len cap b base nn q1 q2 q3 q4 q5 =>
      simp only
      split <;> try trivial
      rename_i hly
      split <;> try trivial
      rename_i cs0 odd hg
      split <;> try trivial
      rename_i hc
      obtain ⟨c0,rfl,c3,hodd⟩ := hc
      have c1 : ((cs0.drop off).take (len * i.size)).length = len * i.size := by rw [List.length_take,List.length_drop]; omega
      obtain ⟨b',base',c,elem,lo,hi',e1,e2,e3,e4,e5,e6,e7,e8⟩ := cells_at H hg
      rw [q1] at e1
      simp only [Option.some.injEq,Prod.mk.injEq] at e1
      obtain ⟨rfl,rfl⟩ := e1
      have hld : ldCells h.get (len * i.size) (.ptr l off) = some ((cs0.drop off).take (len * i.size)) := by
        simp only [ldCells,hg]
        rw [if_pos c0]
      obtain ⟨b2,o2,vs,k1,k2,k3,k4,k5,k6⟩ := ldCells_sound H (.ptr l off b base q1) hld
      simp only [Value.pointer.injEq,Option.some.injEq,Addr.mk.injEq,and_true] at k1
      obtain ⟨rfl,rfl⟩ := k1
      have A : Row I μ w ((cs0.drop off).take (len * i.size)) vs.toArray := ⟨by simp [k2,k3],k4,fun j hj => ⟨vs[j]'(by omega),by simp [show j < vs.length by omega],k6 j hj (by omega)⟩⟩
      by_cases hroom : len + m ≤ cap
      · rw [rowSize_cells e3] at q4
        simp only [Option.some.injEq] at q4
        subst q4
        have hcapm : (len + m) * i.size ≤ cap * i.size := Nat.mul_le_mul_right _ hroom
        rw [Nat.add_mul] at hcapm
        have hnl : news.toList.length = m * i.size := by simp [← hrs,hml]
        have hst := run_storeCells_cells (P := P) b (base + off + len * i.size) news.toList 0 w
          (fun j hj => by
            rw [Nat.add_zero,cell?_of_cells e3,Array.getElem?_eq_getElem (by omega)]; rfl)
          (fun j hj => by
            have hb2 : base + off + len * i.size + j < c.size := by omega
            rw [Nat.add_zero]; exact frozen?_of_cells e3 e5 hb2)
          (fun x hx => by
            obtain ⟨j,hj,rfl⟩ := List.getElem_of_mem hx
            have hj2 : j < new.length := by omega
            obtain ⟨y,hy,hry⟩ := hrow.r j hj2
            have hj3 : j < news.size := by simpa using hj
            have : news.toList[j] = y := by
              simp [hj3] at hy; simpa using hy
            rw [this]; exact one_cell (hrow.one _ (List.getElem_mem hj2)) hry)
        rw [Nat.add_zero] at hst
        obtain ⟨k1',k2'⟩ := setCells_heap b news.toList (base + off + len * i.size) w c elem (lo,hi') e3
        have hrun := run_append_in (ty := ty) ht hi ht2 hd2 hlen (hsrc w rfl) (some ⟨b,base + off,none⟩) len cap hroom (w' := w.setCells b (base + off + len * i.size) news.toList)
          (fun x hx => by
            simp only [Option.some.injEq] at hx
            subst hx
            rw [add_off]; exact hst) (fun hx => by simp at hx)
        rw [run_vv hrun]
        have keep : ∀ (μ' : Emb),(∀ l p,μ l = some p → μ' l = some p) → ∀ (d : D) (v : Value),R I μ w d v → R I μ' (w.setCells b (base + off + len * i.size) news.toList) d v :=
          fun μ' hM d v r => r.mono (fun _ x => x) hM (fun c hc => k2'.same c (fun e => e2 (e ▸ hc))) k2'.rows
        refine ⟨_,_,_,b,base,b,base + off,rfl,.inl rfl,q1,by simp [hg],.inl ⟨rfl,k2'⟩,fun μ' hm hid => ⟨?_,?_⟩⟩
        · refine ⟨setArr c (base + off + len * i.size) news.toList,elem,lo,hi',k1',?_,by rw [setArr_size]; exact e5,⟨e6.1,fun t ht => (by omega),fun t ht => (by
            have h0 := hodd.resolve_left (by omega)
            obtain ⟨y1,y2⟩ := e6.2.2 t ht
            exact ⟨y1,by omega⟩)⟩,?_,?_⟩
          · rw [setArr_size,List.length_append,c1,hml]; omega
          · intro d hd
            rcases List.mem_append.1 hd with hd | hd
            · exact A.one d hd
            · exact hrow.one d hd
          · intro j hj
            rw [List.length_append,c1,hml] at hj
            rw [setArr_get _ _ _ (by omega)]
            by_cases h1 : j < len * i.size
            · rw [if_neg (by omega)]
              obtain ⟨u,hu,hr⟩ := A.r j (by omega)
              rw [List.getElem_append_left (by omega)]
              refine ⟨u,?_,keep μ' hm _ _ hr⟩
              have hjv : j < vs.length := by omega
              have := k5 j u (by simpa using hu)
              rw [add_off,cell?_of_cells e3] at this
              exact this
            · rw [if_pos (by omega)]
              obtain ⟨u,hu,hr⟩ := hrow.r (j - len * i.size) (by omega)
              rw [List.getElem_append_right (by omega)]
              refine ⟨u,?_,?_⟩
              · rw [show base + off + j - (base + off + len * i.size) = j - len * i.size by omega]; simpa using hu
              · have e9 : j - ((cs0.drop off).take (len * i.size)).length = j - len * i.size := by rw [c1]
                simp only [e9]
                exact keep μ' hm _ _ hr
        · rw [show base + off = (base + off) + 0 by omega]
          exact .sl _ _ 0 _ _ _ (base + off) c.size hid hroom q3 (k2'.rows b _ (rowSize_cells e3)) (by omega)
      · have hold : ∀ w' : World,w'.heap = w.heap → (Builtin.firstCells i.size len (.slice (some ⟨b,base + off,none⟩) len cap)).run P w' = .ok vs.toArray w' := fun w' hw' => by
          refine run_firstCells_some w' i.size len _ len cap vs (by rw [k3]) (fun j x hx => ?_)
          rw [cell?_of_block (w := w) (by rw [hw'])]
          exact k5 j x hx
        obtain ⟨w',f1,f2,f3,f4,⟨n',f6,f7⟩,f5⟩ := grow _ len cap vs.toArray ((cs0.drop off).take (len * i.size)) hold A c1 (by omega) c3
        rw [run_vv f1]
        exact ⟨_,_,_,b,base,w.heap.size,0,rfl,.inl rfl,q1,by simp [hg],.inr ⟨rfl,f2⟩,fun μ' hm hid => ⟨f5 odd μ' (hodd.imp _root_.id (·.1)) hm,.sl _ _ 0 _ _ _ 0 n' hid f3 f4 f6 (by omega)⟩⟩
    | sl0 sz' l off b base a q1 =>
      simp only
      split <;> try trivial
      split <;> try trivial
      rename_i cs0 odd hg
      split <;> try trivial
      rename_i hc
      obtain ⟨c0,rfl,c3,hodd⟩ := hc
      have hnil : (cs0.drop off).take (0 * i.size) = [] := by simp
      obtain ⟨w',f1,f2,f3,f4,⟨n',f6,f7⟩,f5⟩ := grow (some a) 0 0 #[] [] (fun w' _ => by simp [Builtin.firstCells,loadCells,loadCellsFrom]) ⟨rfl,by simp,by simp⟩ (by simp) (by omega) (by simpa using c3)
      rw [run_vv f1,hnil]
      exact ⟨_,_,_,b,base,w.heap.size,0,rfl,.inl rfl,q1,by simp [hg],.inr ⟨rfl,f2⟩,fun μ' hm hid => ⟨f5 odd μ' (hodd.imp _root_.id (·.1)) hm,.sl _ _ 0 _ _ _ 0 n' hid f3 f4 f6 (by omega)⟩⟩
    | _ => trivial

theorem lenOf_slice (a : Option Addr) (n c : Nat) (w : World) : (Builtin.lenOf (.slice a n c)).run P w = .ok n w := by simp [Builtin.lenOf]

theorem s_app (H : HR Γ I μ h w) {t t2 ty e e2 : TypeId} {i : TypeInfo} {z : D} (ht : P.underlying t = some (.slice e)) (ht2 : P.underlying t2 = some (.slice e2)) (hi : P.info? e = some i)
    (hzD : zeroOf P e = some z) (hzv : z.val = true) (hb : i.bytes ≠ 0) {x y : D} {u v : Value} (hx : R I μ w x u) (hy : R I μ w y v) {mk : Nat} (hmk : mk = 0 ∨ mk = 2 * e + 3) :
    Res I μ h w id ((vv (Builtin.append_ #[t,t2] ty #[u,v])).run P w) (match (generalizing := false) slCells h.get i.size y with
      | some (new,m,ly) => appD h.get i.bytes i.size mk id x new m ly | none => .bad) := by
  cases hs : slCells h.get i.size y with
  | none => trivial
  | some q =>
    obtain ⟨new,m,ly⟩ := q
    obtain ⟨a,cap,vs,rfl,e1,e2,e3,e4,e5,e6,e7⟩ := slCells_sound H hy hs
    simp only
    refine appD_sound H ht hi ht2 (fun k hk => by cases hk) hzD hzv hb hx (fun w => lenOf_slice _ _ _ w) (news := vs.toArray) (fun w' hw' => ?_)
      ⟨by simp [e1,e2],e5,fun j hj => ⟨vs[j]'(by omega),by simp [show j < vs.length by omega],e6 j hj (by omega)⟩⟩ e1 hmk ?_
    · rcases e7 with rfl | ⟨b,o,rfl,h1,h2⟩
      · cases a with
        | none => simp [Builtin.firstCells]
        | some b =>
          have : m * i.size = 0 := by simpa using e2.symm
          simp [Builtin.firstCells,this,loadCells,loadCellsFrom]
      · refine run_firstCells_some w' i.size m _ m cap vs e2 (fun j x hx => ?_)
        rw [cell?_of_block (w := w) (by rw [hw'])]
        exact h1 j x hx
    · intro l b base base' hne hl hm _ ⟨ll,hll,hm2,hl2⟩
      have hin := H.inj
      obtain ⟨o1,h1⟩ := Option.isSome_iff_exists.1 hl
      obtain ⟨o2,h2⟩ := Option.isSome_iff_exists.1 hl2
      exact hne (by rw [hll,hin ll l o2 o1 b base' base h2 h1 hm2 hm])

theorem s_appS (H : HR Γ I μ h w) {t t2 ty e : TypeId} {i : TypeInfo} {z : D} (ht : P.underlying t = some (.slice e)) (ht2 : P.underlying t2 = some .string) (hi : P.info? e = some i) (hsz : i.size = 1) (hby : i.bytes = 1)
    (hzD : zeroOf P e = some z) (hzv : z.val = true) {x y : D} {u v : Value} (hx : R I μ w x u) (hy : R I μ w y v) {mk : Nat} (hmk : mk = 0 ∨ mk = 2 * e + 3) :
    Res I μ h w id ((vv (Builtin.append_ #[t,t2] ty #[u,v])).run P w) (match (generalizing := false) y with
      | .s s => appD h.get 1 1 mk id x (s.map byteD) s.length none | _ => .bad) := by
  cases hy with
  | s s hs =>
    simp only
    have hl : ∀ w,(Builtin.lenOf (.string ⟨s.toArray⟩)).run P w = .ok s.length w := fun w => by simp [Builtin.lenOf,bs_size]
    have := appD_sound (P := P) (id := id) (ty := ty) H ht hi ht2 (fun k hk => by cases hk) hzD hzv (by omega) hx (v := .string ⟨s.toArray⟩) (m := s.length) (new := s.map byteD) (news := (s.map fun c => Value.int .u8 c.toNat).toArray) (ly := none) hl
      (fun w' _ => by
        have : ByteArray.extract ⟨s.toArray⟩ 0 s.length = ⟨s.toArray⟩ := by apply ByteArray.ext; simp [ByteArray.data_extract]
        simp [Builtin.firstCells,this])
      ⟨by simp,by simp [byteD,D.one],fun j hj => by
        have hj' : j < s.length := by simpa using hj
        exact ⟨.int .u8 (s[j].toNat),by simp [hj'],by simp only [List.getElem_map]; exact .i _ _⟩⟩ (by simp [hsz]) hmk
      (fun l b base base' _ _ _ _ ⟨ll,hll,_⟩ => by simp at hll)
    rw [hsz,hby] at this
    exact this
  | _ => trivial

theorem s_cpy (H : HR Γ I μ h w) {t t2 ty e : TypeId} {g : Bool} {sz : Nat} (ht : P.underlying t = some (.slice e)) (ha : aggSize P e = some (g,sz)) {x y : D} {u v : Value} (hx : R I μ w x u) (hy : R I μ w y v) :
    Res I μ h w id ((vv (Builtin.copy_ #[t,t2] ty #[u,v])).run P w) (match (generalizing := false) slCells h.get sz y with
      | some (src,m,_) => (match (generalizing := false) x with
        | .nils => .val (.i .i64 0)
        | .sl z l off len => (match (generalizing := false) h.get l with
          | some (.cells cs odd) => if off + len * sz ≤ cs.length ∧ z = sz then .upd l (.cells (splice cs off (src.take (min m len * sz))) odd) (.i .i64 (min m len : Nat)) else .bad
          | _ => .bad)
        | _ => .bad)
      | none => .bad) := by
  obtain ⟨d,i,hd',hi,_,rfl,hn0⟩ := aggSize_spec ha
  cases hs : slCells h.get i.size y with
  | none => trivial
  | some q =>
    obtain ⟨src,m,ly⟩ := q
    obtain ⟨a,cap,vs,rfl,e1,e2,e3,e4,e5,e6,e7⟩ := slCells_sound H hy hs
    simp only
    have hload : ∀ n,n ≤ m → (Builtin.firstCells i.size n (.slice a m cap)).run P w = .ok (vs.take (n * i.size)).toArray w := by
      intro n hn
      rcases e7 with rfl | ⟨b,o,rfl,h1,h2⟩
      · cases a with
        | none => simp [Builtin.firstCells]
        | some b =>
          have : m * i.size = 0 := by simpa using e2.symm
          have : n * i.size = 0 := by have := Nat.mul_le_mul_right i.size hn; omega
          simp [Builtin.firstCells,this,loadCells,loadCellsFrom]
      · refine run_firstCells_some w i.size n _ m cap _ (by rw [List.length_take,e2,Nat.min_eq_left (Nat.mul_le_mul_right _ hn)]) (fun j x hx => ?_)
        refine h1 j x ?_
        simp only [List.getElem?_take] at hx
        split at hx
        · exact hx
        · simp at hx
    cases hx with
    | nils =>
      have h0 := hload 0 (by omega)
      simp only [Nat.zero_mul,List.take_zero] at h0
      exact Res.val_of (by simp [Builtin.copy_,run_underlying ht,lenOf_slice,run_sizeOf hi,h0,goInt]) (.i _ _)
    | sl z l off len cap' b base nn q1 q2 q3 q4 q5 =>
      simp only
      split <;> try trivial
      rename_i cs odd hg
      split <;> try trivial
      rename_i hc
      obtain ⟨c1,rfl⟩ := hc
      have hmin := Nat.min_le_left m len
      have hmin2 := Nat.min_le_right m len
      have hml := Nat.mul_le_mul_right i.size hmin
      have hml2 := Nat.mul_le_mul_right i.size hmin2
      have h0 := hload (min m len) hmin
      obtain ⟨b',base',c,elem,lo,hi',k1,k2,k3,k4,k5,k6,k7,k8⟩ := cells_at H hg
      rw [q1] at k1
      simp only [Option.some.injEq,Prod.mk.injEq] at k1
      obtain ⟨rfl,rfl⟩ := k1
      have hlen1 : (src.take (min m len * i.size)).length = min m len * i.size := by rw [List.length_take,e1,Nat.min_eq_left hml]
      have hlen2 : (vs.take (min m len * i.size)).length = min m len * i.size := by rw [List.length_take,e2,Nat.min_eq_left hml]
      obtain ⟨o1,o2⟩ := objR_splice (off := off) (new := src.take (min m len * i.size)) (us := vs.take (min m len * i.size)) H hg q1 (by rw [hlen1,hlen2]) (by rw [hlen1]; omega)
        (fun c hc => e5 c (List.mem_of_mem_take hc)) (fun j hj => by
          rw [hlen1] at hj
          refine ⟨vs[j]'(by omega),?_,?_⟩
          · simp [List.getElem?_take,hj,show j < vs.length by omega]
          · simp only [List.getElem_take]; exact e6 j (by omega) (by omega))
      have hst := run_storeCells_cells (P := P) b (base + off) (vs.take (min m len * i.size)) 0 w
        (fun j hj => by
          rw [hlen2] at hj
          rw [Nat.add_zero,cell?_of_cells k3,Array.getElem?_eq_getElem (by omega)]; rfl)
        (fun j hj => by
          rw [hlen2] at hj
          have hb2 : base + off + j < c.size := by omega
          rw [Nat.add_zero]; exact frozen?_of_cells k3 k5 hb2)
        (fun x hx => by
          obtain ⟨j,hj,rfl⟩ := List.getElem_of_mem (List.mem_of_mem_take hx)
          exact one_cell (e5 _ (List.getElem_mem (show j < src.length by omega))) (e6 j (by omega) hj))
      rw [Nat.add_zero] at hst
      have hrun : (Builtin.copy_ #[t,t2] ty #[.slice (some ⟨b,base + off,none⟩) len cap',.slice a m cap]).run P w = .ok (.int .i64 (min m len : Nat)) (w.setCells b (base + off) (vs.take (min m len * i.size))) := by
        have hmm : Nat.min m len = min m len := rfl
        simp [Builtin.copy_,run_underlying ht,lenOf_slice,run_sizeOf hi,hmm,h0,hst,goInt]
      rw [run_vv hrun]
      exact ⟨_,_,_,b,base,rfl,.inl rfl,q1,by simp [hg],o1,o2,.i _ _⟩
    | sl0 z l off b base a' q1 =>
      simp only
      split <;> try trivial
      rename_i cs odd hg
      split <;> try trivial
      rename_i hc
      obtain ⟨c1,rfl⟩ := hc
      have h0 := hload 0 (by omega)
      simp only [Nat.zero_mul,List.take_zero] at h0
      have hrun : (Builtin.copy_ #[t,t2] ty #[.slice (some a') 0 0,.slice a m cap]).run P w = .ok (.int .i64 (min m 0 : Nat)) w := by
        have hmm : Nat.min m 0 = 0 := Nat.min_zero m
        simp [Builtin.copy_,run_underlying ht,lenOf_slice,run_sizeOf hi,hmm,h0,goInt,storeCells]
      rw [run_vv hrun]
      have hsp : splice cs off (src.take (min m 0 * i.size)) = cs := by simp [splice]
      rw [hsp]
      obtain ⟨b',base',k1,k2,k3⟩ := H.live l _ hg
      rw [q1] at k1
      simp only [Option.some.injEq,Prod.mk.injEq] at k1
      obtain ⟨rfl,rfl⟩ := k1
      exact ⟨_,_,_,b,base,rfl,.inl rfl,q1,by simp [hg],⟨rfl,rfl,rfl,rfl,fun _ _ x => x,fun _ _ => rfl⟩,k3,.i _ _⟩
    | _ => trivial

end
end Go.Abs
end
noncomputable section
namespace Go.Abs
open Go

section
variable {P : Program} {Γ : Nat → D} {I : Nat → Prop} {μ : Emb} {h : AHeap} {w : World} {id : Nat}

theorem s_clr (H : HR Γ I μ h w) {t ty e : TypeId} {z : D} (ht : P.underlying t = some (.slice e)) (hz : zeroOf P e = some z) (hzv : z.val = true) {x : D} {u : Value} (hx : R I μ w x u) :
    Res I μ h w id ((vv (Builtin.clear_ #[t] ty #[u])).run P w) (match (generalizing := false) x with
      | .nils => .val (.tup [])
      | .sl y l off len => if len = 0 then .val (.tup []) else (match (generalizing := false) h.get l with
        | some (.cells cs odd) => if off + len * z.cells.length ≤ cs.length ∧ y = z.cells.length then .upd l (.cells (splice cs off (List.replicate len z.cells).flatten) odd) (.tup []) else .bad
        | _ => .bad)
      | _ => .bad) := by
  have un : R I μ w (.tup []) (.tuple #[]) := .tup [] #[] rfl (fun j hj => by simp at hj)
  cases hx with
  | nils => exact Res.val_of (v := .tuple #[]) (by simp [Builtin.clear_,run_underlying ht]) un
  | sl0 y l off b base a q1 =>
    simp only [if_true]
    exact Res.val_of (v := .tuple #[]) (by simp [Builtin.clear_,run_underlying ht]) un
  | sl y l off len cap b base nn q1 q2 q3 q4 q5 =>
    simp only
    split
    · rename_i h0
      subst h0
      exact Res.val_of (v := .tuple #[]) (by simp [Builtin.clear_,run_underlying ht]) un
    · rename_i h0
      split <;> try trivial
      rename_i cs odd hg
      split <;> try trivial
      rename_i hc
      obtain ⟨c1,rfl⟩ := hc
      obtain ⟨v,hzr,A⟩ := zero_row (I := I) (μ := μ) hz hzv w
      obtain ⟨i,zv,hi,hzz,hzeq,hg',hlen,hn0⟩ := zeroOf_spec hz
      have hAs := A.size
      obtain ⟨b',base',c,elem,lo,hi',k1,k2,k3,k4,k5,k6,k7,k8⟩ := cells_at H hg
      rw [q1] at k1
      simp only [Option.some.injEq,Prod.mk.injEq] at k1
      obtain ⟨rfl,rfl⟩ := k1
      have e1 : (List.replicate len z.cells).flatten.length = len * z.cells.length := by simp
      have e2 : (Builtin.zeroCells v.cells len).toList.length = len * z.cells.length := by simp [Builtin.zeroCells,hAs]
      have hget : ∀ j (hj : j < len * z.cells.length),∃ u,(Builtin.zeroCells v.cells len).toList[j]? = some u ∧ R I μ w ((List.replicate len z.cells).flatten[j]'(by rw [e1]; exact hj)) u := by
        intro j hj
        have hm' : j % z.cells.length < z.cells.length := Nat.mod_lt _ (by omega)
        have hget := replicate_flat z.cells len j hj
        rw [List.getElem?_eq_getElem (by rw [e1]; exact hj),List.getElem?_eq_getElem hm'] at hget
        simp only [Option.some.injEq] at hget
        obtain ⟨q,hq,hqr⟩ := A.r _ hm'
        refine ⟨q,?_,by rw [hget]; exact hqr⟩
        have hm2 : j % v.cells.size < v.cells.size := by rw [← hAs]; exact hm'
        rw [hAs] at hq
        have hjc : j < len * v.cells.size := by rw [← hAs]; exact hj
        simp [Builtin.zeroCells,hjc]
        simp [hm2] at hq ⊢
        exact hq
      have hone : ∀ c ∈ (List.replicate len z.cells).flatten,c.one = true := by
        intro d hdm
        simp only [List.mem_flatten,List.mem_replicate] at hdm
        obtain ⟨q,⟨_,rfl⟩,hdq⟩ := hdm
        exact A.one d hdq
      obtain ⟨o1,o2⟩ := objR_splice (off := off) (new := (List.replicate len z.cells).flatten) (us := (Builtin.zeroCells v.cells len).toList) H hg q1 (by rw [e1,e2]) (by rw [e1]; omega) hone
        (fun j hj => hget j (by rw [e1] at hj; exact hj))
      have hst := run_storeCells_cells (P := P) b (base + off) (Builtin.zeroCells v.cells len).toList 0 w
        (fun j hj => by
          rw [e2] at hj
          rw [Nat.add_zero,cell?_of_cells k3,Array.getElem?_eq_getElem (by omega)]; rfl)
        (fun j hj => by
          rw [e2] at hj
          have hb2 : base + off + j < c.size := by omega
          rw [Nat.add_zero]; exact frozen?_of_cells k3 k5 hb2)
        (fun x hx => by
          obtain ⟨j,hj,rfl⟩ := List.getElem_of_mem hx
          obtain ⟨y,hy,hry⟩ := hget j (by rw [e2] at hj; exact hj)
          rw [List.getElem?_eq_getElem hj] at hy
          simp only [Option.some.injEq] at hy
          rw [hy]
          exact one_cell (hone _ (List.getElem_mem _)) hry)
      rw [Nat.add_zero] at hst
      have hrun : (Builtin.clear_ #[t] ty #[.slice (some ⟨b,base + off,none⟩) len cap]).run P w = .ok (.tuple #[]) (w.setCells b (base + off) (Builtin.zeroCells v.cells len).toList) := by
        obtain ⟨k,rfl⟩ : ∃ k,len = k + 1 := ⟨len - 1,by omega⟩
        simp [Builtin.clear_,run_underlying ht,hzr,hst]
      rw [run_vv hrun]
      exact ⟨_,_,_,b,base,rfl,.inl rfl,q1,by simp [hg],o1,o2,.tup [] #[] rfl (fun j hj => by simp at hj)⟩
  | _ => trivial

theorem s_mkfn {f : Fn} {aa cs : List D} {us vs : List Value} (ha : Rl I μ w aa us) (hc : Rl I μ w cs vs) :
    Res I μ h w id ((vv (Instr.makeFunc f us.toArray vs.toArray)).run P w) (.val (.fn f aa cs)) := by
  have key : ∀ {aa : List D} {us : List Value},Rl I μ w aa us → ∃ hl : aa.length = us.toArray.size,∀ j (hj : j < aa.length),R I μ w aa[j] (us.toArray[j]'(hl ▸ hj)) := by
    intro aa us hr
    induction hr with
    | nil => exact ⟨rfl,fun j hj => by simp at hj⟩
    | cons h1 h2 ih =>
      obtain ⟨hl,hh⟩ := ih
      refine ⟨by simp at hl ⊢; exact hl,fun j hj => ?_⟩
      cases j with
      | zero => exact h1
      | succ j => simpa using hh j (by simpa using hj)
  obtain ⟨l1,r1⟩ := key ha
  obtain ⟨l2,r2⟩ := key hc
  exact Res.val_of rfl (.fn _ _ _ _ _ l1 l2 r1 r2)

theorem bytes_of : ∀ {cs : List D} {vs : List Value} {bs : List UInt8},cs.mapM byteOf? = some bs → cs.length = vs.length → (∀ j (h1 : j < cs.length) (h2 : j < vs.length),R I μ w cs[j] vs[j]) →
    ∃ ns : List Int,vs = ns.map (Value.int .u8) ∧ (ns.map fun n => UInt8.ofNat n.toNat) = bs
  | [],vs,bs,hb,hl,_ => by
    have : vs = [] := List.eq_nil_of_length_eq_zero hl.symm
    subst this
    exact ⟨[],rfl,by simpa using hb⟩
  | c :: cs,[],bs,hb,hl,_ => by simp at hl
  | c :: cs,v :: vs,bs,hb,hl,hr => by
    obtain ⟨x,bs',hx,hbs,rfl⟩ := mapM_cons_some hb
    obtain ⟨ns,rfl,hns⟩ := bytes_of hbs (by simpa using hl) (fun j h1 h2 => hr (j + 1) (by simpa using h1) (by simpa using h2))
    have h0 := hr 0 (by simp) (by simp)
    simp only [List.getElem_cons_zero] at h0
    cases h0 <;> first | (simp [byteOf?] at hx; done) | skip
    rename_i k n
    cases k <;> first | (simp [byteOf?] at hx; done) | skip
    simp only [byteOf?,Option.some.injEq] at hx
    exact ⟨n :: ns,rfl,by simp [hx,hns]⟩

theorem s_convBS (H : HR Γ I μ h w) {s t e : TypeId} (hs : P.underlying s = some (.slice e)) (ht : P.underlying t = some .string) (he : P.underlying e = some (.int .u8)) {x : D} {u : Value} (hx : R I μ w x u) :
    Res I μ h w id ((vv (convert s t u)).run P w) (match (generalizing := false) slCells h.get 1 x with
      | some (cs,_,_) => (match (generalizing := false) cs.mapM byteOf? with
        | some bs => if bs.length ≤ maxN then .val (.s bs) else .bad
        | none => .bad)
      | none => .bad) := by
  cases hsl : slCells h.get 1 x with
  | none => trivial
  | some q =>
    obtain ⟨cs,m,ly⟩ := q
    simp only
    cases hbs : cs.mapM byteOf? with
    | none => trivial
    | some bs =>
      simp only
      split <;> try trivial
      rename_i hlen
      obtain ⟨a,cap,vs,rfl,e1,e2,e3,e4,e5,e6,e7⟩ := slCells_sound H hx hsl
      obtain ⟨ns,rfl,hns⟩ := bytes_of hbs (by rw [e1,e2]) e6
      have hfold : ∀ (ns : List Int) (acc : ByteArray),ns.foldl (fun r n => r.push (UInt8.ofNat n.toNat)) acc = ⟨acc.data ++ (ns.map fun n => UInt8.ofNat n.toNat).toArray⟩ := by
        intro ns
        induction ns with
        | nil => intro acc; simp
        | cons n ns ih => intro acc; rw [List.foldl_cons,ih]; apply ByteArray.ext; simp [ByteArray.data_push]
      have hrun : (convert s t (.slice a m cap)).run P w = .ok (.string ⟨bs.toArray⟩) w := by
        rw [run_convert_bytes_string w s t e a m cap hs he ht]
        have e2' : ns.length = m := by simpa using e2
        have fin : ∀ b,(loadCells b m).run P w = .ok (ns.map (Value.int .u8)).toArray w → (Conv.bytesToString (.slice (some b) m cap)).run P w = .ok (.string ⟨bs.toArray⟩) w := fun b hb => by
          rw [run_bytesToString w b m cap ns hb,hfold,hns]
          congr 2
          apply ByteArray.ext
          simp
        rcases e7 with h0 | ⟨b,o,rfl,h1,_⟩
        · have hn0 : ns = [] := by simpa using h0
          subst hn0
          have hm0 : m = 0 := by simpa using e2'.symm
          subst hm0
          cases a with
          | none =>
            have : bs = [] := by simpa using hns.symm
            subst this
            simp only [Conv.bytesToString,Sem.run_pure]
            rfl
          | some b => exact fin b (by simp [loadCells,loadCellsFrom])
        · refine fin _ ?_
          have := run_loadCells_list (P := P) w ⟨b,o,none⟩ (ns.map (Value.int .u8)) h1
          rwa [List.length_map,e2'] at this
      exact Res.val_of hrun (.s _ hlen)

theorem s_mrk (H : HR Γ I μ h w) {t e : TypeId} (ht : P.underlying t = some (.slice e)) (he : P.underlying e = some (.int .u8)) {x : D} {u : Value} (hx : R I μ w x u) :
    Res I μ h w id ((vv (convert t t u)).run P w) (match (generalizing := false) x with
      | .sl z l off len => (match (generalizing := false) h.get l with
        | some (.cells cs 1) => if len = 0 then .bad else .upd l (.cells cs 1) (.sl z l off len)
        | _ => .bad)
      | _ => .bad) := by
  cases hx with
  | sl z l off len cap b base n q1 q2 q3 q4 q5 =>
    simp only
    split <;> try trivial
    rename_i cs hg
    split <;> try trivial
    rename_i hl0
    obtain ⟨b',base',c,elem,lo,hi,a1,a2,a3,a4,a5,a6,a7,a8⟩ := cells_at H hg
    rw [q1] at a1
    simp only [Option.some.injEq,Prod.mk.injEq] at a1
    obtain ⟨rfl,rfl⟩ := a1
    have hblt : b < w.heap.size := (Array.getElem?_eq_some_iff.1 a3).1
    have hsh : w.shape? b = some (elem,c.size) := by simp [World.shape?,a3]
    have hO : Only b w (w.freeze ⟨b,c.size,none⟩ 1) := by
      refine ⟨by simp [World.freeze],by simp [World.freeze],by simp [World.freeze],by simp [World.freeze],fun x n hn => ?_,fun x hx => by simp [World.freeze,Array.getElem?_modify,Ne.symm hx]⟩
      by_cases hx : x = b
      · subst hx
        rw [rowSize_cells a3] at hn
        simp [rowSize,World.freeze,Array.getElem?_modify,a3] at hn ⊢
        exact hn
      · unfold rowSize at hn ⊢
        simpa [World.freeze,Array.getElem?_modify,Ne.symm hx] using hn
    have keep : ∀ (d : D) (v : Value),R I μ w d v → R I μ (w.freeze ⟨b,c.size,none⟩ 1) d v := fun d v r =>
      r.mono (fun _ x => x) (fun _ _ x => x) (fun c hc => hO.same c (fun e => a2 (e ▸ hc))) hO.rows
    have hrun : (convert t t (.slice (some ⟨b,base + off,none⟩) len cap)).run P w = .ok (.slice (some ⟨b,base + off,none⟩) len cap) (w.freeze ⟨b,c.size,none⟩ 1) := by
      simp [convert,run_underlying ht,run_underlying he,markStringish,hsh]
    rw [run_vv hrun]
    refine ⟨_,_,_,b,base,rfl,.inl rfl,q1,by simp [hg],hO,?_,keep _ _ (.sl _ _ _ _ _ _ _ _ q1 q2 q3 q4 q5)⟩
    have hfr : ∃ lo' hi',(w.freeze ⟨b,c.size,none⟩ 1).heap[b]? = some (.cells c elem (lo',hi')) ∧ c.size ≤ lo' := by
      by_cases hlh : lo = hi
      · exact ⟨c.size,c.size + 1,by simp [World.freeze,Array.getElem?_modify,a3,hlh],Nat.le_refl _⟩
      · refine ⟨min lo c.size,max hi (c.size + 1),by simp [World.freeze,Array.getElem?_modify,a3,hlh],?_⟩
        rcases a5 with h | ⟨rfl,rfl⟩
        · omega
        · exact absurd rfl hlh
    obtain ⟨lo',hi',f1,f2⟩ := hfr
    exact ⟨c,elem,lo',hi',f1,a4,.inl f2,⟨fun hh => absurd rfl hh,fun t ht => by omega,fun t ht => by omega⟩,a7,fun j hj => let ⟨v,hv,hr⟩ := a8 j hj; ⟨v,hv,keep _ _ hr⟩⟩
  | sl0 z l off b base a q1 =>
    simp only
    split <;> try trivial
  | _ => trivial

end
end Go.Abs
end
noncomputable section
namespace Go.Abs
open Go

section
variable {P : Program} {Γ : Nat → D} {I : Nat → Prop} {μ : Emb} {h : AHeap} {w : World} {id : Nat}

/-! ### Keys are let in -/

theorem checkKey_leaf {t : TypeId} {d : TypeDesc} (hd : P.underlying t = some d) (hg : isAggD d = false) (hi : ∀ ms,d ≠ .interface ms) (em : Bool) (n : Nat) (v : Value) :
    (Instr.checkKey em (n + 1) t v).run P w = .ok () w := by
  unfold Instr.checkKey
  simp only [Sem.run_bind,run_underlying hd,Result.andThen_ok]
  cases d <;> simp_all [isAggD]

theorem leaves_noIface {fuel : Nat} {t : TypeId} {off : Nat} {l : List (Nat × Leaf)} (hl : leaves P (fuel + 1) t off = some l) {d : TypeDesc} (hd : P.underlying t = some d) : ∀ ms,d ≠ .interface ms := by
  intro ms hm
  subst hm
  simp [leaves,hd] at hl

theorem checkKey_sound {xs : Array Value} (em : Bool) : ∀ (fuel : Nat) (t : TypeId) (off : Nat) (l : List (Nat × Leaf)) (dd : TypeDesc) (i : TypeInfo),
    leaves P fuel t off = some l → P.underlying t = some dd → P.info? t = some i → i.size ≠ 0 → off + i.size ≤ xs.size →
    ∀ d,fuel ≤ d → ∀ u,partV (isAggD dd) i.size off xs = some u → (Instr.checkKey em d t u).run P w = .ok () w := by
  intro fuel
  induction fuel with
  | zero => intro t off l dd i hl; simp [leaves] at hl
  | succ fuel ih =>
    intro t off l dd i hl hd hi h0 hx d hdle u hu
    obtain ⟨d,rfl⟩ : ∃ k,d = k + 1 := ⟨d - 1,by omega⟩
    cases hg : isAggD dd with
    | false => exact checkKey_leaf hd hg (leaves_noIface hl hd) em d u
    | true =>
      simp only [partV,hg,if_true,Option.some.injEq] at hu
      subst hu
      cases dd <;> simp only [isAggD,Bool.false_eq_true] at hg
      case struct fs =>
        obtain ⟨it,ls,hit,hst,rfl,hm⟩ := leaves_struct hl hd
        rw [hi] at hit
        simp only [Option.some.injEq] at hit
        subst hit
        rw [Instr.checkKey]
        simp only [Sem.run_bind,run_underlying hd,Result.andThen_ok]
        rw [← Array.forIn_toList]
        generalize fs.toList = fl at hm
        clear hl hd
        induction fl generalizing ls with
        | nil => simp
        | cons f fl ih2 =>
          obtain ⟨lf,ls',hf,hm',rfl⟩ := mapM_cons_some hm
          obtain ⟨fi,hfi,hname,hf0,hfle,hlf⟩ := field_info hf
          obtain ⟨_,fd,_,hfd⟩ := leaves_under hlf
          obtain ⟨ux,hux⟩ := partV_some (g := isAggD fd) (xs := xs) (off := off + f.offset) hf0 (by omega)
          have p1 := run_part hfd hfi (off := f.offset) (xs := xs.extract off (off + i.size)) (v := ux) (by rw [partV_extract hfle hx hf0]; exact hux) w
          have key := ih f.type (off + f.offset) lf fd fi hlf hfd hfi hf0 (by omega) d (by omega) ux hux
          simp only [List.forIn_cons,hname,ne_eq,not_false_eq_true,if_true,Sem.run_bind,p1,key,Result.andThen_ok,Sem.run_pure]
          exact ih2 ls' hm'
      case array n e =>
        obtain ⟨it,ei,ls,hit,hei,he0,_,hnle,rfl,hm⟩ := leaves_array hl hd
        rw [hi] at hit
        simp only [Option.some.injEq] at hit
        subst hit
        rw [Instr.checkKey]
        simp only [Sem.run_bind,run_underlying hd,Result.andThen_ok]
        simp only [Std.Legacy.Range.forIn_eq_forIn_range',Std.Legacy.Range.size,Nat.sub_zero,Nat.add_one_sub_one,Nat.div_one]
        rw [List.range_eq_range'] at hm
        have hlt : ∀ k ∈ List.range' 0 n,k < n := fun k hk => by simpa using List.mem_range'_1.1 hk
        generalize List.range' 0 n = fl at hm hlt
        clear hl hd
        induction fl generalizing ls with
        | nil => simp
        | cons k fl ih2 =>
          obtain ⟨lf,ls',hf,hm',rfl⟩ := mapM_cons_some hm
          obtain ⟨_,fd,_,hfd⟩ := leaves_under hf
          have hk := hlt k (by simp)
          have hkle : k * ei.size + ei.size ≤ i.size := by
            have : (k + 1) * ei.size ≤ n * ei.size := Nat.mul_le_mul_right _ (by omega)
            rw [Nat.add_mul] at this; omega
          obtain ⟨ux,hux⟩ := partV_some (g := isAggD fd) (xs := xs) (off := off + k * ei.size) he0 (by omega)
          have p1 := run_part hfd hei (off := k * ei.size) (xs := xs.extract off (off + i.size)) (v := ux) (by rw [partV_extract hkle hx he0]; exact hux) w
          have key := ih e (off + k * ei.size) lf fd ei hf hfd hei he0 (by omega) d (by omega) ux hux
          simp only [List.forIn_cons,Sem.run_bind,run_sizeOf hei,Result.andThen_ok,p1,key,Sem.run_pure]
          exact ih2 ls' hm' (fun j hj => hlt j (by simp [hj]))

theorem checkKey_key {t : TypeId} (hk : (teqOf P false t).key = true) {d : D} {u : Value} (hx : R I μ w d u) (ho : keyOk (teqOf P false t) d = true) (em : Bool) :
    (Instr.checkKey em 10000 t u).run P w = .ok () w := by
  cases hte : teqOf P false t with
  | no => rw [hte] at hk; simp [TEq.key] at hk
  | leaf k =>
    rw [hte] at hk
    obtain ⟨d,hd,hl,hg⟩ := leafOf_spec (teqOf_leaf hte)
    refine checkKey_leaf hd hg (fun ms hm => ?_) em 9999 u
    subst hm
    cases k <;> simp [TEq.key,Leaf.key] at hk hl
  | cells n l =>
    rw [hte] at ho
    obtain ⟨dd,i,hd,hi,hg,rfl,h0,hl⟩ := teqOf_agg hte
    cases hx <;> first | (simp [keyOk] at ho; done) | skip
    rename_i cs xs a1 a2 a3
    simp only [keyOk,decide_eq_true_eq] at ho
    have := checkKey_sound (P := P) (w := w) (xs := xs) em 20 t 0 l dd i hl hd hi h0 (by omega) 10000 (by omega) (.agg (xs.extract 0 (0 + i.size))) (by simp [partV,hg])
    rw [show xs.extract 0 (0 + i.size) = xs by rw [Nat.zero_add,← ho,a1,Array.extract_size]] at this
    exact this

/-! ### The entry with a key -/

def findRes (q : MapEntry → Bool) : List MapEntry → Nat → Option (Nat × Value)
  | [],_ => none
  | e :: es,i => if q e then some (i,e.val) else findRes q es (i + 1)

theorem findRes_none {q : MapEntry → Bool} : ∀ {l : List MapEntry} {i : Nat},(∀ x ∈ l,q x = false) → findRes q l i = none
  | [],_,_ => rfl
  | e :: l,i,hq => by simp [findRes,hq e (by simp),findRes_none (l := l) (fun x hx => hq x (by simp [hx]))]

theorem findRes_some {q : MapEntry → Bool} {x : MapEntry} {m2 : List MapEntry} : ∀ {m1 : List MapEntry} {i : Nat},(∀ x ∈ m1,q x = false) → q x = true → findRes q (m1 ++ x :: m2) i = some (i + m1.length,x.val)
  | [],i,_,hx => by simp [findRes,hx]
  | e :: l,i,hq,hx => by
    simp only [List.cons_append,findRes,hq e (by simp),Bool.false_eq_true,if_false,findRes_some (m1 := l) (fun x hx => hq x (by simp [hx])) hx,List.length_cons]
    congr 2; omega

theorem sameNow_equalIn {kt : TypeId} {d : TypeDesc} (hd : P.underlying kt = some d) {u v : Value} {q : Bool} (hs : Instr.sameNow d u v = some q) (n : Nat) : (Op.equalIn (n + 1) kt u v).run P w = .ok q w := by
  unfold Instr.sameNow at hs
  split at hs
  · split at hs
    · rename_i hk
      subst hk
      simp only [Option.some.injEq] at hs
      subst hs
      simp [Op.equalIn,run_underlying hd]
    · simp at hs
  · simp only [Option.some.injEq] at hs
    subst hs
    rw [run_equalIn_string w n kt _ _ hd]
    rename_i a b
    congr 1
    have e1 : (a == b) = (a.data == b.data) := rfl
    have e2 : ∀ c : ByteArray,c.toList = c.data.toList := fun c => by
      have := toList_mk c.data.toList
      rwa [Array.toArray_toList] at this
    rw [e1,e2,e2]
    by_cases hab : a.data = b.data
    · simp [hab]
    · have h2 : a.data.toList ≠ b.data.toList := fun h2 => hab (Array.toList_inj.1 h2)
      rw [beq_eq_false_iff_ne.2 hab,beq_eq_false_iff_ne.2 h2]
  · simp only [Option.some.injEq] at hs
    subst hs
    simp [Op.equalIn,run_underlying hd]
  · simp at hs

theorem sameNow_equal {kt : TypeId} {d : TypeDesc} (hd : P.underlying kt = some d) {u v : Value} {q : Bool} (hs : Instr.sameNow d u v = some q) : (Op.equal kt u v).run P w = .ok q w :=
  sameNow_equalIn hd hs 9999

theorem findKey_sound {kt : TypeId} {d : TypeDesc} (hd : P.underlying kt = some d) {k : Value} {q : MapEntry → Bool} {l : List MapEntry}
    (hq : ∀ x ∈ l,(Op.equal kt k x.key).run P w = .ok (q x) w) : (Instr.findKey kt k l).run P w = .ok (findRes q l 0) w := by
  unfold Instr.findKey
  simp only [Sem.run_bind,run_underlying hd,Result.andThen_ok]
  have now : ∀ (l : List MapEntry) (i : Nat) (r : Option (Nat × Value)),(∀ x ∈ l,(Op.equal kt k x.key).run P w = .ok (q x) w) → Instr.findNow d k l i = some r → r = findRes q l i := by
    intro l
    induction l with
    | nil => intro i r _ hr; simpa [Instr.findNow,findRes] using hr.symm
    | cons e l ih =>
      intro i r hq hr
      simp only [Instr.findNow] at hr
      have he := hq e (by simp)
      split at hr
      · rename_i hs
        rw [sameNow_equal hd hs] at he
        simp only [Result.ok.injEq,and_true] at he
        simp only [Option.some.injEq] at hr
        simp [findRes,← he,hr.symm]
      · rename_i hs
        rw [sameNow_equal hd hs] at he
        simp only [Result.ok.injEq,and_true] at he
        simp only [findRes,← he,Bool.false_eq_true,if_false]
        exact ih (i + 1) r (fun x hx => hq x (by simp [hx])) hr
      · simp at hr
  have ask : ∀ (l : List MapEntry) (i : Nat),(∀ x ∈ l,(Op.equal kt k x.key).run P w = .ok (q x) w) → (Instr.findAsking kt k l i).run P w = .ok (findRes q l i) w := by
    intro l
    induction l with
    | nil => intro i _; simp [Instr.findAsking,findRes]
    | cons e l ih =>
      intro i hq
      simp only [Instr.findAsking,Sem.run_bind,hq e (by simp),Result.andThen_ok,findRes]
      cases q e with
      | true => simp
      | false => simpa using ih (i + 1) (fun x hx => hq x (by simp [hx]))
  split
  · rename_i r hr
    simp [now l 0 r hq hr]
  · exact ask l 0 hq

noncomputable def qOf (P : Program) (w : World) (kt : TypeId) (k : Value) (x : MapEntry) : Bool :=
  match (Op.equal kt k x.key).run P w with
  | .ok b _ => b
  | _ => false

theorem qOf_of {kt : TypeId} {k : Value} {x : MapEntry} {b : Bool} (hb : (Op.equal kt k x.key).run P w = .ok b w) : qOf P w kt k x = b := by simp [qOf,hb]

theorem mfind_sound (H : HR Γ I μ h w) {kt : TypeId} {kd : D} {kv : Value} (hk : R I μ w kd kv) : ∀ {es : List (D × D × Option Nat)} {l : List MapEntry} (_ : Ents I μ w es l) (i : Nat) {r : Option (Nat × D × Option Nat)},
    mfind h.get (teqOf P false kt) kd es i = some r →
    (r = none ∧ ∀ x ∈ l,(Op.equal kt kv x.key).run P w = .ok false w) ∨
    (∃ e1 k' v b e2 l1 x l2,r = some (i + e1.length,v,b) ∧ es = e1 ++ (k',v,b) :: e2 ∧ l = l1 ++ x :: l2 ∧ Ents I μ w e1 l1 ∧ EntR I μ w (k',v,b) x ∧ Ents I μ w e2 l2 ∧
      (∀ y ∈ l1 ++ l2,(Op.equal kt kv y.key).run P w = .ok false w) ∧ (Op.equal kt kv x.key).run P w = .ok true w ∧ eqD h.get (teqOf P false kt) kd k' = some true) := by
  intro es l E
  induction E with
  | nil =>
    intro i r hr
    simp only [mfind,Option.some.injEq] at hr
    exact .inl ⟨hr.symm,fun x hx => by simp at hx⟩
  | @cons e x es xs he _ ih =>
    intro i r hr
    obtain ⟨k',v,b⟩ := e
    simp only [mfind] at hr
    split at hr
    · rename_i h1
      have e0 := eqD_sound H hk he.2.2.1 h1
      rcases ih (i + 1) hr with ⟨rfl,h2⟩ | ⟨e1,k2,v2,b2,e2,l1,x2,l2,rfl,rfl,rfl,g1,g2,g3,g4,g5,g6⟩
      · exact .inl ⟨rfl,fun y hy => by
          rcases List.mem_cons.1 hy with rfl | hy
          · exact e0
          · exact h2 y hy⟩
      · refine .inr ⟨(k',v,b) :: e1,k2,v2,b2,e2,x :: l1,x2,l2,by simp; omega,by simp,by simp,.cons he g1,g2,g3,?_,g5,g6⟩
        intro y hy
        simp only [List.cons_append,List.mem_cons] at hy
        rcases hy with rfl | hy
        · exact e0
        · exact g4 y hy
    · rename_i h1 h2
      simp only [Option.some.injEq] at hr
      subst hr
      have e0 := eqD_sound H hk he.2.2.1 h1
      rcases ih (i + 1) h2 with ⟨_,h3⟩ | ⟨_,_,_,_,_,_,_,_,h3,_⟩
      · exact .inr ⟨[],k',v,b,es,[],x,xs,rfl,rfl,rfl,.nil,he,by assumption,fun y hy => h3 y (by simpa using hy),e0,h1⟩
      · simp at h3
    · simp at hr

theorem ents_append {e1 e2 : List (D × D × Option Nat)} {l1 l2 : List MapEntry} (h1 : Ents I μ w e1 l1) (h2 : Ents I μ w e2 l2) : Ents I μ w (e1 ++ e2) (l1 ++ l2) := by
  induction h1 with
  | nil => exact h2
  | cons a _ ih => exact .cons a ih

theorem perm_split {xs l1 l2 : List MapEntry} {x : MapEntry} (hp : xs.Perm (l1 ++ x :: l2)) : ∃ m1 m2,xs = m1 ++ x :: m2 ∧ (m1 ++ m2).Perm (l1 ++ l2) := by
  have hx : x ∈ xs := hp.symm.subset (by simp)
  obtain ⟨m1,m2,rfl⟩ := List.append_of_mem hx
  refine ⟨m1,m2,rfl,?_⟩
  have h1 : (x :: (m1 ++ m2)).Perm (x :: (l1 ++ l2)) := (List.perm_middle.symm).trans (hp.trans List.perm_middle)
  exact h1.cons_inv

theorem leaf_bits (H : HR Γ I μ h w) {k : Leaf} (hk : k.key = true) {x y : D} {u v : Value} (hx : R I μ w x u) (hy : R I μ w y v) (he : leafEq h.get k x y = some true) (n : Nat) : Instr.sameBits n v u = true := by
  cases k <;> simp [Leaf.key] at hk
  case b =>
    cases hx <;> first | (simp [leafEq] at he; done) | skip
    cases hy <;> first | (simp [leafEq] at he; done) | skip
    simp [leafEq] at he
    unfold Instr.sameBits; simp [he]
  case i =>
    cases hx <;> first | (simp [leafEq] at he; done) | skip
    cases hy <;> first | (simp [leafEq] at he; done) | skip
    simp [leafEq] at he
    unfold Instr.sameBits; simp [he]
  case s =>
    cases hx <;> first | (simp [leafEq] at he; done) | skip
    cases hy <;> first | (simp [leafEq] at he; done) | skip
    simp [leafEq] at he
    subst he
    unfold Instr.sameBits
    exact (show ((_ : Array UInt8) == _) = true from beq_self_eq_true _)
  case p =>
    cases hx <;> first | (simp [leafEq] at he; done) | skip
    all_goals cases hy <;> first | (simp [leafEq] at he; done) | skip
    · unfold Instr.sameBits; simp
    · rename_i l o b base hm l' o' b' base' hm'
      simp only [leafEq] at he
      split at he
      · rename_i hl
        subst hl
        rw [hm] at hm'
        simp only [Option.some.injEq,Prod.mk.injEq] at hm'
        obtain ⟨rfl,rfl⟩ := hm'
        simp at he
        subst he
        unfold Instr.sameBits; simp
      · split at he <;> simp at he

theorem leavesEq_all {get : Nat → Option AObj} {cs ds : List D} : ∀ {l : List (Nat × Leaf)},leavesEq get cs ds l = some true → ∀ p ∈ l,∃ c d,cs[p.1]? = some c ∧ ds[p.1]? = some d ∧ leafEq get p.2 c d = some true
  | [],_,p,hp => by simp at hp
  | (o,k) :: l,he,p,hp => by
    simp only [leavesEq] at he
    split at he <;> try (simp at he; done)
    rename_i c d h1 h2
    split at he <;> try (simp at he; done)
    rename_i h3
    rcases List.mem_cons.1 hp with rfl | hp
    · exact ⟨c,d,h1,h2,h3⟩
    · exact leavesEq_all he p hp

theorem key_bits (H : HR Γ I μ h w) {te : TEq} (hk : te.key = true) {x y : D} {u v : Value} (hx : R I μ w x u) (hy : R I μ w y v) (he : eqD h.get te x y = some true) : Instr.sameBits 10000 v u = true := by
  cases te with
  | no => simp [TEq.key] at hk
  | leaf k => exact leaf_bits H hk hx hy he 10000
  | cells n l =>
    simp only [TEq.key,Bool.and_eq_true,List.all_eq_true,beq_iff_eq] at hk
    cases hx <;> first | (simp [eqD] at he; done) | skip
    rename_i cs xs a1 a2 a3
    cases hy <;> first | (simp [eqD] at he; done) | skip
    rename_i ds ys b1 b2 b3
    simp only [eqD] at he
    split at he <;> try (simp at he; done)
    rename_i hlen
    obtain ⟨l1,l2⟩ := hlen
    have hall := leavesEq_all he
    unfold Instr.sameBits
    simp only [Bool.and_eq_true,beq_iff_eq,List.all_eq_true]
    refine ⟨by omega,?_⟩
    rintro ⟨b,a⟩ hab
    obtain ⟨j,hj,hjab⟩ := List.getElem_of_mem hab
    simp only [List.length_zip,Array.length_toList] at hj
    have hjn : j < n := by omega
    have hmem : j ∈ l.map (·.1) := by rw [hk.2]; exact List.mem_range.2 hjn
    obtain ⟨p,hp,rfl⟩ := List.mem_map.1 hmem
    obtain ⟨c,d,h1,h2,h3⟩ := hall p hp
    simp only [List.getElem_zip,Prod.mk.injEq,Array.getElem_toList] at hjab
    obtain ⟨rfl,rfl⟩ := hjab
    have hc : cs[p.1]'(by omega) = c := by simpa [show p.1 < cs.length by omega] using h1
    have hd : ds[p.1]'(by omega) = d := by simpa [show p.1 < ds.length by omega] using h2
    exact leaf_bits H (hk.1 p hp) (hc ▸ a3 p.1 (by omega)) (hd ▸ b3 p.1 (by omega)) h3 9999

end
end Go.Abs
end
noncomputable section
namespace Go.Abs
open Go

section
variable {P : Program} {Γ : Nat → D} {I : Nat → Prop} {μ : Emb} {h : AHeap} {w : World} {id : Nat}

theorem knownMap_spec {t : TypeId} {te : TEq} {z : D} (hk : knownMap P t = some (te,z)) :
    ∃ k e d,P.underlying t = some (.map k e) ∧ zeroOf P e = some z ∧ te = teqOf P false k ∧ te.key = true ∧ P.underlying k = some d := by
  unfold knownMap at hk
  simp only [Option.bind_eq_bind,Option.bind_eq_some_iff] at hk
  obtain ⟨td,htd,hk⟩ := hk
  cases td <;> first | (simp at hk; done) | skip
  rename_i k e
  replace hk : ((zeroOf P e).bind fun z => if (teqOf P false k).key = true then pure (teqOf P false k,z) else none) = some (te,z) := hk
  cases hz : zeroOf P e with
  | none => rw [hz] at hk; simp at hk
  | some z' =>
  rw [hz] at hk
  have hk2 : (if (teqOf P false k).key = true then some (teqOf P false k,z') else none) = some (te,z) := hk
  split at hk2 <;> simp only [Option.some.injEq,Prod.mk.injEq,reduceCtorEq] at hk2
  rename_i hkey
  obtain ⟨rfl,rfl⟩ := hk2
  have : ∃ d,P.underlying k = some d := by
    cases hu : P.underlying k with
    | none => unfold teqOf at hkey; simp [hu,TEq.key] at hkey
    | some d => exact ⟨d,rfl⟩
  obtain ⟨d,hd⟩ := this
  exact ⟨k,e,d,htd,hz,rfl,hkey,hd⟩

theorem run_getObj_map' {r : Nat} {es : Array MapEntry} {clock : Nat} (hb : w.heap[r]? = some (.map es clock)) : (getObj r).run P w = .ok (.map es clock) w := by
  simp [getObj,Sem.run,hb]

theorem map_at (H : HR Γ I μ h w) {l : Nat} {es : List (D × D × Option Nat)} {clock : Option Nat} (hg : h.get l = some (.map es clock)) :
    ∃ b xs ck lp,μ l = some (b,0) ∧ ¬ I b ∧ w.heap[b]? = some (.map xs ck) ∧ xs.toList.Perm lp ∧ Ents I μ w es lp ∧ (∀ n,clock = some n → ck = n) ∧
      (∀ x ∈ lp,x.born < ck) ∧ lp.Pairwise (fun x y => x.born ≠ y.born) := by
  obtain ⟨b,base,h1,h2,rfl,xs,ck,lp,h3,h4,h5,h6,h7,h8⟩ := H.live l _ hg
  exact ⟨b,xs,ck,lp,h1,h2,h3,h4,h5,h6,h7,h8⟩

theorem find_run (H : HR Γ I μ h w) {kt : TypeId} {d : TypeDesc} (hd : P.underlying kt = some d) {kd : D} {kv : Value} (hk : R I μ w kd kv) {es : List (D × D × Option Nat)} {lp xs : List MapEntry}
    (hE : Ents I μ w es lp) (hp : xs.Perm lp) {r : Option (Nat × D × Option Nat)} (hf : mfind h.get (teqOf P false kt) kd es 0 = some r) :
    (r = none ∧ (Instr.findKey kt kv xs).run P w = .ok none w) ∨
    (∃ e1 k' v b e2 l1 x l2 m1 m2,r = some (e1.length,v,b) ∧ es = e1 ++ (k',v,b) :: e2 ∧ lp = l1 ++ x :: l2 ∧ xs = m1 ++ x :: m2 ∧ (m1 ++ m2).Perm (l1 ++ l2) ∧ Ents I μ w e1 l1 ∧
      EntR I μ w (k',v,b) x ∧ Ents I μ w e2 l2 ∧ (Instr.findKey kt kv xs).run P w = .ok (some (m1.length,x.val)) w ∧ eqD h.get (teqOf P false kt) kd k' = some true) := by
  rcases mfind_sound (P := P) H hk hE 0 hf with ⟨rfl,h1⟩ | ⟨e1,k',v,b,e2,l1,x,l2,rfl,rfl,rfl,g1,g2,g3,g4,g5,g6⟩
  · refine .inl ⟨rfl,?_⟩
    have hq : ∀ x ∈ xs,(Op.equal kt kv x.key).run P w = .ok ((fun _ => false) x) w := fun x hx => h1 x (hp.subset hx)
    rw [findKey_sound hd hq,findRes_none (fun _ _ => rfl)]
  · obtain ⟨m1,m2,rfl,hm⟩ := perm_split hp
    refine .inr ⟨e1,k',v,b,e2,l1,x,l2,m1,m2,by simp,rfl,rfl,rfl,hm,g1,g2,g3,?_,g6⟩
    have hall : ∀ y ∈ m1 ++ m2,(Op.equal kt kv y.key).run P w = .ok false w := fun y hy => g4 y (hm.subset hy)
    have hq : ∀ y ∈ m1 ++ x :: m2,(Op.equal kt kv y.key).run P w = .ok (qOf P w kt kv y) w := fun y hy => by
      rcases List.mem_append.1 hy with hy | hy
      · rw [hall y (by simp [hy]),qOf_of (hall y (by simp [hy]))]
      · rcases List.mem_cons.1 hy with rfl | hy
        · rw [g5,qOf_of g5]
        · rw [hall y (by simp [hy]),qOf_of (hall y (by simp [hy]))]
    rw [findKey_sound hd hq,findRes_some (fun y hy => qOf_of (hall y (by simp [hy]))) (qOf_of g5)]
    simp

theorem s_look (H : HR Γ I μ h w) {t : TypeId} {te : TEq} {z : D} (hkm : knownMap P t = some (te,z)) {ok : Bool} {m k : D} {u v : Value} (hm : R I μ w m u) (hk : R I μ w k v) :
    Res I μ h w id ((vv (Instr.lookup t u v ok)).run P w) (match (generalizing := false) (match (generalizing := false) m with
      | .nilm => some []
      | .mp l => (match (generalizing := false) h.get l with | some (.map es _) => some es | _ => none)
      | _ => none) with
    | some es =>
      if keyOk te k then
        match (generalizing := false) mfind h.get te k es 0 with
        | some (some (_,v,_)) => .val (if ok then .tup [v,.b true] else v)
        | some none => .val (if ok then .tup [z,.b false] else z)
        | none => .bad
      else .bad
    | none => .bad) := by
  obtain ⟨kt,e,d,hd,hz,rfl,hkey,hdk⟩ := knownMap_spec hkm
  obtain ⟨zv,hzr,rz⟩ := zero_R (I := I) (μ := μ) hz w
  have fin : ∀ (x : D) (xv : Value) (b : Bool),R I μ w x xv → R I μ w (if ok then .tup [x,.b b] else x) (if ok then .tuple #[xv,.bool b] else xv) := by
    intro x xv b hr
    cases ok
    · exact hr
    · exact tup2 hr (.b b)
  cases hm with
  | nilm =>
    simp only
    split <;> try trivial
    rename_i hko
    simp only [mfind]
    have hck := checkKey_key (P := P) hkey hk hko true
    refine Res.val_of ?_ (fin z zv false rz)
    simp [Instr.lookup,run_underlying hd,hck,Instr.findKey,run_underlying hdk,Instr.findNow,hzr]
  | mp l b base hmu =>
    simp only
    cases hg : h.get l with
    | none => trivial
    | some o =>
      cases o with
      | map es clock =>
        simp only
        split <;> try trivial
        rename_i hko
        obtain ⟨b',xs,ck,lp,h1,h2,h3,h4,h5,h6⟩ := map_at H hg
        rw [hmu] at h1
        simp only [Option.some.injEq,Prod.mk.injEq] at h1
        obtain ⟨rfl,rfl⟩ := h1
        cases hf : mfind h.get (teqOf P false kt) k es 0 with
        | none => trivial
        | some r =>
          have hck := checkKey_key (P := P) hkey hk hko xs.isEmpty
          rcases find_run H hdk hk h5 h4 hf with ⟨rfl,hr⟩ | ⟨e1,k',x,bb,e2,l1,y,l2,m1,m2,rfl,rfl,rfl,g0,g1,g2,g3,g4,g5,g6⟩
          · refine Res.val_of ?_ (fin z zv false rz)
            simp [Instr.lookup,run_underlying hd,run_getObj_map' h3,hck,hr,hzr]
          · refine Res.val_of ?_ (fin x y.val true g3.2.2.2.1)
            simp [Instr.lookup,run_underlying hd,run_getObj_map' h3,hck,g5]
      | cells cs odd => trivial
      | iter x pos => trivial
      | loop _ _ _ _ _ _ => trivial
  | _ => trivial

theorem map_upd (H : HR Γ I μ h w) {l : Nat} {es es' : List (D × D × Option Nat)} {clock clock' : Option Nat} (hg : h.get l = some (.map es clock)) {b : Nat} {xs xs' : Array MapEntry} {ck ck' : Nat} (hb : w.heap[b]? = some (.map xs ck))
    (hI : ¬ I b) (hmu : μ l = some (b,0)) {lp : List MapEntry} (hp : xs'.toList.Perm lp) (hE : Ents I μ w es' lp) (hc : ∀ n,clock' = some n → ck' = n) (hlt : ∀ x ∈ lp,x.born < ck') (hpw : lp.Pairwise (fun x y => x.born ≠ y.born))
    {n : Next} {v : Value} {d : D} (hn : NextIs n v) (hd : R I μ w d v) {s : Sem Next} (hs : s.run P w = .ok n { w with heap := w.heap.setIfInBounds b (.map xs' ck') }) :
    Res I μ h w id (s.run P w) (.upd l (.map es' clock') d) := by
  have hO : Only b w { w with heap := w.heap.setIfInBounds b (.map xs' ck') } := only_setObj hb (fun c e fr hh => by cases hh)
  have hblt : b < w.heap.size := (Array.getElem?_eq_some_iff.1 hb).1
  rw [hs]
  refine ⟨n,v,_,b,0,rfl,hn,hmu,by simp [hg],hO,?_,hd.mono (fun _ x => x) (fun _ _ x => x) (fun c hc => hO.same c (fun e => hI (e ▸ hc))) hO.rows⟩
  exact ⟨rfl,xs',ck',lp,by simp [hblt],hp,hE.mono (fun _ x => x) (fun _ _ x => x) (fun c hc => hO.same c (fun e => hI (e ▸ hc))) hO.rows,hc,hlt,hpw⟩

theorem ents_snoc {es : List (D × D × Option Nat)} {l : List MapEntry} (hE : Ents I μ w es l) {e : D × D × Option Nat} {x : MapEntry} (he : EntR I μ w e x) : Ents I μ w (es ++ [e]) (l ++ [x]) :=
  ents_append hE (.cons he .nil)

theorem set_mid {α : Type} (e1 e2 : List α) (a b : α) : (e1 ++ a :: e2).set e1.length b = e1 ++ b :: e2 := by simp

theorem modify_mid {xs : Array MapEntry} {m1 m2 : List MapEntry} {x : MapEntry} (hx : xs.toList = m1 ++ x :: m2) (f : MapEntry → MapEntry) : (xs.modify m1.length f).toList = m1 ++ f x :: m2 := by
  rw [Array.toList_modify,hx]
  clear hx
  induction m1 with
  | nil => rfl
  | cons a m1 ih => simp [ih]

theorem get_mid {xs : Array MapEntry} {m1 m2 : List MapEntry} {x : MapEntry} (hx : xs.toList = m1 ++ x :: m2) : xs[m1.length]? = some x := by
  rw [← Array.getElem?_toList,hx]; simp

theorem pair_mid {l1 l2 : List MapEntry} {x y : MapEntry} (hb : y.born = x.born) (h : (l1 ++ x :: l2).Pairwise (fun x y => x.born ≠ y.born)) : (l1 ++ y :: l2).Pairwise (fun x y => x.born ≠ y.born) := by
  rw [List.pairwise_append] at h ⊢
  obtain ⟨a,b,c⟩ := h
  rw [List.pairwise_cons] at b ⊢
  refine ⟨a,⟨fun z hz => by rw [hb]; exact b.1 z hz,b.2⟩,fun z hz y' hy => ?_⟩
  rcases List.mem_cons.1 hy with rfl | hy
  · rw [hb]; exact c z hz x (by simp)
  · exact c z hz y' (by simp [hy])

theorem lt_mid {l1 l2 : List MapEntry} {x y : MapEntry} {ck : Nat} (hb : y.born = x.born) (h : ∀ z ∈ l1 ++ x :: l2,z.born < ck) : ∀ z ∈ l1 ++ y :: l2,z.born < ck := by
  intro z hz
  rcases List.mem_append.1 hz with hz | hz
  · exact h z (by simp [hz])
  · rcases List.mem_cons.1 hz with rfl | hz
    · rw [hb]; exact h x (by simp)
    · exact h z (by simp [hz])

theorem stays {old new : Value} (h : Instr.sameBits 10000 old new = true) (w : World) : (Instr.keyThatStays old new).run P w = .ok new w := by
  simp [Instr.keyThatStays,h]

theorem s_mupd (H : HR Γ I μ h w) {t : TypeId} {te : TEq} {z : D} (hkm : knownMap P t = some (te,z)) {m k x : D} {u v y : Value} (hm : R I μ w m u) (hk : R I μ w k v) (hx : R I μ w x y) :
    Res I μ h w id ((uu (Instr.mapUpdate t u v y)).run P w) (match (generalizing := false) m with
    | .mp l =>
      match (generalizing := false) h.get l with
      | some (.map es clock) =>
        if k.val ∧ x.val ∧ keyOk te k then
          match (generalizing := false) mfind h.get te k es 0 with
          | some (some (i,_,b)) => .upd l (.map (es.set i (k,x,b)) clock) (.tup [])
          | some none => .upd l (.map (es ++ [(k,x,clock)]) (clock.map (· + 1))) (.tup [])
          | none => .bad
        else .bad
      | _ => .bad
    | _ => .bad) := by
  obtain ⟨kt,e,d,hd,hz,rfl,hkey,hdk⟩ := knownMap_spec hkm
  cases hm with
  | mp l b base hmu =>
    simp only
    cases hg : h.get l with
    | none => trivial
    | some o =>
      cases o with
      | map es clock =>
        simp only
        split <;> try trivial
        rename_i hko
        obtain ⟨v1,v2,hko⟩ := hko
        obtain ⟨b',xs,ck,lp,h1,h2,h3,h4,h5,h6,h7,h8⟩ := map_at H hg
        rw [hmu] at h1
        simp only [Option.some.injEq,Prod.mk.injEq] at h1
        obtain ⟨rfl,rfl⟩ := h1
        cases hf : mfind h.get (teqOf P false kt) k es 0 with
        | none => trivial
        | some r =>
          have hck := checkKey_key (P := P) hkey hk hko false
          rcases find_run H hdk hk h5 h4 hf with ⟨rfl,hr⟩ | ⟨e1,k',x',bb,e2,l1,y',l2,m1,m2,rfl,rfl,rfl,g0,g1,g2,g3,g4,g5,g6⟩
          · refine map_upd (xs' := xs.push { key := v,val := y,born := ck }) (ck' := ck + 1) (lp := lp ++ [{ key := v,val := y,born := ck }]) H hg h3 h2 hmu ?_ (ents_snoc h5 ⟨v1,v2,hk,hx,fun n hn => h6 n hn⟩) ?_ ?_ ?_ (.inr ⟨rfl,rfl⟩) (.tup [] #[] rfl (fun j hj => by simp at hj)) ?_
            · rw [Array.toList_push]; exact h4.append_right _
            · intro n hn
              obtain ⟨c,hc,rfl⟩ := Option.map_eq_some_iff.1 hn
              rw [h6 c hc]
            · intro z hz
              rcases List.mem_append.1 hz with hz | hz
              · have := h7 z hz; omega
              · simp at hz; subst hz; simp
            · rw [List.pairwise_append]
              refine ⟨h8,by simp,fun a ha c hc => ?_⟩
              simp at hc; subst hc
              have := h7 a ha
              simp; omega
            · refine run_uu ?_
              simp [Instr.mapUpdate,run_underlying hd,run_getObj_map' h3,hck,hr,setObj,Sem.run,h3]
          · have hst := stays (P := P) (key_bits H hkey hk g3.2.2.1 g6) w
            refine map_upd (xs' := xs.modify m1.length fun e => { e with key := v,val := y }) (ck' := ck) (lp := l1 ++ { y' with key := v,val := y } :: l2) H hg h3 h2 hmu ?_ ?_ h6 (lt_mid (x := y') rfl h7) (pair_mid (x := y') rfl h8) (.inr ⟨rfl,rfl⟩) (.tup [] #[] rfl (fun j hj => by simp at hj)) ?_
            · rw [modify_mid g0]
              exact (List.perm_middle.trans (g1.cons _)).trans List.perm_middle.symm
            · rw [set_mid]
              exact ents_append g2 (.cons ⟨v1,v2,hk,hx,g3.2.2.2.2⟩ g4)
            · refine run_uu ?_
              simp [Instr.mapUpdate,run_underlying hd,run_getObj_map' h3,hck,g5,get_mid g0,hst,setObj,Sem.run,h3]
      | cells cs odd => trivial
      | iter x pos => trivial
      | loop _ _ _ _ _ _ => trivial
  | _ => trivial

theorem s_ins (H : HR Γ I μ h w) {t : TypeId} {te : TEq} {z : D} (hkm : knownMap P t = some (te,z)) {m k x : D} {u v y : Value} (hm : R I μ w m u) (hk : R I μ w k v) (hx : R I μ w x y) :
    Res I μ h w id ((uu (Instr.mapUpdate t u v y)).run P w) (match (generalizing := false) m with
    | .mp l =>
      match (generalizing := false) h.get l with
      | some (.map es _) =>
        if k.val ∧ x.val ∧ keyOk te k then
          match (generalizing := false) mfind h.get te k es 0 with
          | some none => .upd l (.map (es ++ [(k,x,none)]) none) (.tup [])
          | _ => .bad
        else .bad
      | _ => .bad
    | _ => .bad) := by
  have key := s_mupd (id := id) H hkm hm hk hx
  revert key
  cases m <;> simp only <;> try (intro _; trivial)
  rename_i l
  cases h.get l with
  | none => intro _; trivial
  | some o =>
    cases o with
    | map es clock =>
      simp only
      split <;> try (intro _; trivial)
      rename_i hko
      cases hf : mfind h.get te k es 0 with
      | none => intro _; trivial
      | some r =>
        cases r with
        | some q => intro _; trivial
        | none =>
          simp only
          rintro ⟨n,v',w',b,base,h1,h2,h3,h4,h5,h6,h7⟩
          refine ⟨n,v',w',b,base,h1,h2,h3,h4,h5,?_,h7⟩
          obtain ⟨a0,xs,ck,lp,a1,a2,a3,a4,a5,a6⟩ := h6
          refine ⟨a0,xs,ck,lp,a1,a2,?_,fun n hn => by simp at hn,a5,a6⟩
          have : ∀ {es : List (D × D × Option Nat)} {lp : List MapEntry},Ents I μ w' (es ++ [(k,x,clock)]) lp → Ents I μ w' (es ++ [(k,x,none)]) lp := by
            intro es
            induction es with
            | nil => intro lp hh; cases hh with | cons e1 e2 => exact .cons ⟨e1.1,e1.2.1,e1.2.2.1,e1.2.2.2.1,fun n hn => by simp at hn⟩ e2
            | cons a es ih => intro lp hh; cases hh with | cons e1 e2 => exact .cons e1 (ih e2)
          exact this a3
    | cells cs odd => intro _; trivial
    | iter x pos => intro _; trivial
    | loop _ _ _ _ _ _ => intro _; trivial

theorem s_ment (H : HR Γ I μ h w) {t : TypeId} {te : TEq} {z : D} (hkm : knownMap P t = some (te,z)) (hzv : z.val = true) {m k : D} {u v : Value} (hm : R I μ w m u) (hk : R I μ w k v) :
    Res I μ h w id ((vv (Instr.mapEntry t u v)).run P w) (match (generalizing := false) m with
    | .mp l =>
      match (generalizing := false) h.get l with
      | some (.map es clock) =>
        if k.val ∧ keyOk te k then
          match (generalizing := false) mfind h.get te k es 0 with
          | some (some (i,v,some b)) => .upd l (.map (es.set i (k,v,some b)) clock) (.tup [v,.i .i64 b])
          | some none =>
            match (generalizing := false) clock with
            | some c => .upd l (.map (es ++ [(k,z,some c)]) (some (c + 1))) (.tup [z,.i .i64 c])
            | none => .bad
          | _ => .bad
        else .bad
      | _ => .bad
    | _ => .bad) := by
  obtain ⟨kt,e,d,hd,hz,rfl,hkey,hdk⟩ := knownMap_spec hkm
  obtain ⟨zv,hzr,rz⟩ := zero_R (I := I) (μ := μ) hz w
  cases hm with
  | mp l b base hmu =>
    simp only
    cases hg : h.get l with
    | none => trivial
    | some o =>
      cases o with
      | map es clock =>
        simp only
        split <;> try trivial
        rename_i hko
        obtain ⟨v1,hko⟩ := hko
        obtain ⟨b',xs,ck,lp,h1,h2,h3,h4,h5,h6,h7,h8⟩ := map_at H hg
        rw [hmu] at h1
        simp only [Option.some.injEq,Prod.mk.injEq] at h1
        obtain ⟨rfl,rfl⟩ := h1
        cases hf : mfind h.get (teqOf P false kt) k es 0 with
        | none => trivial
        | some r =>
          have hck := checkKey_key (P := P) hkey hk hko false
          rcases find_run H hdk hk h5 h4 hf with ⟨rfl,hr⟩ | ⟨e1,k',x',bb,e2,l1,y',l2,m1,m2,rfl,rfl,rfl,g0,g1,g2,g3,g4,g5,g6⟩
          · cases clock with
            | none => trivial
            | some c =>
            obtain rfl := h6 c rfl
            refine map_upd (xs' := xs.push { key := v,val := zv,born := ck }) (ck' := ck + 1) (lp := lp ++ [{ key := v,val := zv,born := ck }]) H hg h3 h2 hmu ?_ (ents_snoc h5 ⟨v1,hzv,hk,rz,fun n hn => by simpa using hn⟩) ?_ ?_ ?_ (.inl rfl) (tup2 rz (.i .i64 ck)) ?_
            · rw [Array.toList_push]; exact h4.append_right _
            · intro n hn
              simpa using hn
            · intro z hz
              rcases List.mem_append.1 hz with hz | hz
              · have := h7 z hz; omega
              · simp at hz; subst hz; simp
            · rw [List.pairwise_append]
              refine ⟨h8,by simp,fun a ha c hc => ?_⟩
              simp at hc; subst hc
              have := h7 a ha
              simp; omega
            · refine run_vv ?_
              simp [Instr.mapEntry,run_underlying hd,run_getObj_map' h3,hck,hr,setObj,Sem.run,h3,hzr,goInt]
          · cases bb with
            | none => trivial
            | some bb =>
            have hst := stays (P := P) (key_bits H hkey hk g3.2.2.1 g6) w
            have hbo := g3.2.2.2.2 bb rfl
            refine map_upd (xs' := xs.modify m1.length fun e => { e with key := v }) (ck' := ck) (lp := l1 ++ { y' with key := v } :: l2) H hg h3 h2 hmu ?_ ?_ h6 (lt_mid (x := y') rfl h7) (pair_mid (x := y') rfl h8) (.inl rfl) (tup2 g3.2.2.2.1 (.i .i64 bb)) ?_
            · rw [modify_mid g0]
              exact (List.perm_middle.trans (g1.cons _)).trans List.perm_middle.symm
            · rw [set_mid]
              exact ents_append g2 (.cons ⟨v1,g3.2.1,hk,g3.2.2.2.1,g3.2.2.2.2⟩ g4)
            · refine run_vv ?_
              simp [Instr.mapEntry,run_underlying hd,run_getObj_map' h3,hck,g5,get_mid g0,hst,setObj,Sem.run,h3,goInt,hbo]
      | cells cs odd => trivial
      | iter x pos => trivial
      | loop _ _ _ _ _ _ => trivial
  | _ => trivial

theorem ents_split {e2 : List (D × D × Option Nat)} {e : D × D × Option Nat} : ∀ {e1 : List (D × D × Option Nat)} {lp : List MapEntry},Ents I μ w (e1 ++ e :: e2) lp →
    ∃ l1 x l2,lp = l1 ++ x :: l2 ∧ Ents I μ w e1 l1 ∧ EntR I μ w e x ∧ Ents I μ w e2 l2
  | [],lp,hh => by cases hh with | cons a b => exact ⟨[],_,_,rfl,.nil,a,b⟩
  | a :: e1,lp,hh => by
    cases hh with
    | cons c b =>
      obtain ⟨l1,x,l2,rfl,h1,h2,h3⟩ := ents_split b
      exact ⟨_ :: l1,x,l2,rfl,.cons c h1,h2,h3⟩

theorem findIdx_mid {p : MapEntry → Bool} {x : MapEntry} {m2 : List MapEntry} : ∀ {m1 : List MapEntry},(∀ y ∈ m1,p y = false) → p x = true → (m1 ++ x :: m2).findIdx? p = some m1.length
  | [],_,hx => by simp [List.findIdx?_cons,hx]
  | a :: m1,hq,hx => by
    have := findIdx_mid (m1 := m1) (m2 := m2) (fun y hy => hq y (by simp [hy])) hx
    simp [List.findIdx?_cons,hq a (by simp),this]

theorem s_estore (H : HR Γ I μ h w) {t : TypeId} {m k x : D} {u v y : Value} (hm : R I μ w m u) (hk : R I μ w k v) (hx : R I μ w x y) :
    Res I μ h w id ((uu (Instr.entryStore t u v y)).run P w) (match (generalizing := false) m,k with
    | .mp l,.i _ n =>
      match (generalizing := false) h.get l with
      | some (.map es clock) =>
        if x.val then
          match (generalizing := false) es.findIdx? (fun e => match (generalizing := false) e.2.2 with | some b => (b : Int) == n | none => false) with
          | some i => (match (generalizing := false) es[i]? with | some (k,_,b) => .upd l (.map (es.set i (k,x,b)) clock) (.tup []) | none => .bad)
          | none => .bad
        else .bad
      | _ => .bad
    | _,_ => .bad) := by
  cases hm with
  | mp l b base hmu =>
    cases hk with
    | i kk n =>
      simp only
      cases hg : h.get l with
      | none => trivial
      | some o =>
        cases o with
        | map es clock =>
          simp only
          split <;> try trivial
          rename_i hxv
          obtain ⟨b',xs,ck,lp,h1,h2,h3,h4,h5,h6,h7,h8⟩ := map_at H hg
          rw [hmu] at h1
          simp only [Option.some.injEq,Prod.mk.injEq] at h1
          obtain ⟨rfl,rfl⟩ := h1
          split <;> try trivial
          rename_i i hfi
          obtain ⟨hi,hpi,_⟩ := List.findIdx?_eq_some_iff_getElem.1 hfi
          have hei : es[i]? = some es[i] := by simp [hi]
          have hes : es = es.take i ++ es[i] :: es.drop (i + 1) := by simp
          generalize es[i] = e at hei hes hpi
          obtain ⟨k',v',bb⟩ := e
          rw [hei]
          simp only
          generalize es.drop (i + 1) = e2 at hes
          have hil : (es.take i).length = i := by simp; omega
          generalize es.take i = e1 at hes hil
          subst hes
          subst hil
          cases bb with
          | none => simp at hpi
          | some bb =>
            simp only [beq_iff_eq] at hpi
            obtain ⟨l1,z,l2,rfl,g1,g2,g3⟩ := ents_split h5
            have hzb := g2.2.2.2.2 bb rfl
            obtain ⟨m1,m2,hmx,hmp⟩ := perm_split h4
            have hpw : (m1 ++ z :: m2).Pairwise (fun x y => x.born ≠ y.born) := (hmx ▸ h4).symm.pairwise h8 (fun hh => Ne.symm hh)
            have hno : ∀ y ∈ m1,((y.born : Int) == n) = false := by
              intro y' hy'
              rw [List.pairwise_append] at hpw
              have := hpw.2.2 y' hy' z (by simp)
              simp only [beq_eq_false_iff_ne]
              omega
            have hfx : xs.findIdx? (fun e => (e.born : Int) == n) = some m1.length := by
              have hxa : xs = (m1 ++ z :: m2).toArray := by rw [← hmx]
              rw [hxa,List.findIdx?_toArray]
              exact findIdx_mid hno (by simp; omega)
            refine map_upd (xs' := xs.modify m1.length fun e => { e with val := y }) (ck' := ck) (lp := l1 ++ { z with val := y } :: l2) H hg h3 h2 hmu ?_ ?_ h6 (lt_mid (x := z) rfl h7) (pair_mid (x := z) rfl h8) (.inr ⟨rfl,rfl⟩) (.tup [] #[] rfl (fun j hj => by simp at hj)) ?_
            · rw [modify_mid hmx]
              exact (List.perm_middle.trans (hmp.cons _)).trans List.perm_middle.symm
            · rw [set_mid]
              exact ents_append g1 (.cons ⟨g2.1,hxv,g2.2.2.1,hx,g2.2.2.2.2⟩ g3)
            · refine run_uu ?_
              simp [Instr.entryStore,run_getObj_map' h3,asInt,asIntOf,hfx,setObj,Sem.run,h3]
        | cells cs odd => trivial
        | iter x pos => trivial
        | loop _ _ _ _ _ _ => trivial
    | _ => trivial
  | _ => trivial

end
end Go.Abs
end
noncomputable section
namespace Go.Abs
open Go

section
variable {P : Program} {Γ : Nat → D} {I : Nat → Prop} {μ : Emb} {h : AHeap} {w : World} {id : Nat} {a : Act} {ev : Opd → D}

def Ev (I : Nat → Prop) (μ : Emb) (w : World) (a : Act) (ev : Opd → D) : Prop := ∀ y : Operand,(ev (xopd y)).ok = true → R I μ w (ev (xopd y)) (a.eval y)

theorem ok_bad {d : D} (h : ¬ d.ok = true) : d = .bad := by cases d <;> simp [D.ok] at h ⊢

theorem Ev.or (he : Ev I μ w a ev) (y : Operand) : ev (xopd y) = .bad ∨ R I μ w (ev (xopd y)) (a.eval y) := by
  by_cases h : (ev (xopd y)).ok = true
  · exact .inr (he y h)
  · exact .inl (ok_bad h)

theorem Ev.list (he : Ev I μ w a ev) : ∀ (xs : List Operand),((xs.map xopd).all fun y => (ev y).ok) = true → Rl I μ w ((xs.map xopd).map ev) (xs.map a.eval)
  | [],_ => .nil
  | x :: xs,h => by
    simp only [List.map_cons,List.all_cons,Bool.and_eq_true] at h
    exact .cons (he x h.1) (Ev.list he xs h.2)

theorem Ev.opt (he : Ev I μ w a ev) (o : Option Operand) : (o.map xopd).map ev = some .bad ∨ OptR I μ w ((o.map xopd).map ev) (o.map a.eval) := by
  cases o with
  | none => exact .inr .none
  | some y =>
    rcases he.or y with h | h
    · exact .inl (by simp [h])
    · exact .inr (.some h)

theorem s_mv (he : Ev I μ w a ev) (y : Operand) : Res I μ h w id ((pure (.value (a.eval y)) : Sem Next).run P w) (if (ev (xopd y)).ok then .val (ev (xopd y)) else .bad) := by
  split
  · rename_i hb; exact ⟨_,_,rfl,.inl rfl,he y hb⟩
  · trivial

theorem s_pick (he : Ev I μ w a ev) (c x y : Operand) : Res I μ h w id ((do pure (.value (if ← asBool (a.eval c) then a.eval x else a.eval y)) : Sem Next).run P w) (match ev (xopd c) with
    | .b true => if (ev (xopd x)).ok then .val (ev (xopd x)) else .bad
    | .b false => if (ev (xopd y)).ok then .val (ev (xopd y)) else .bad
    | _ => .bad) := by
  rcases he.or c with hb | hr
  · rw [hb]; trivial
  · revert hr
    generalize a.eval c = u
    generalize ev (xopd c) = d
    intro hr
    cases hr <;> try trivial
    rename_i q
    cases q <;> simp only
    · split
      · rename_i hb
        exact ⟨_,_,by simp [asBool],.inl rfl,he y hb⟩
      · trivial
    · split
      · rename_i hb
        exact ⟨_,_,by simp [asBool],.inl rfl,he x hb⟩
      · trivial

theorem fillD_val : ∀ (zs : List D) (ps : List (Nat × Nat × D)) (r : List D),fillD zs ps = some r → ∀ p ∈ ps,p.2.2.val = true
  | _,[],_,_,p,hp => by simp at hp
  | zs,(off,n,d) :: ps,r,hr,p,hp => by
    simp only [fillD] at hr
    split at hr <;> try (simp at hr; done)
    rename_i hc
    rcases List.mem_cons.1 hp with rfl | hp
    · exact hc.2.2
    · exact fillD_val _ ps r hr p hp

theorem fill_ops (he : Ev I μ w a ev) {zs r : List D} {xs : List (Nat × Nat × Opd)} (hf : fillD zs (xs.map fun p => (p.1,p.2.1,ev p.2.2)) = some r) :
    ∀ y : Operand,xopd y ∈ xs.map (·.2.2) → R I μ w (ev (xopd y)) (a.eval y) := by
  intro y hy
  obtain ⟨p,hp,hpy⟩ := List.mem_map.1 hy
  have := fillD_val _ _ _ hf (p.1,p.2.1,ev p.2.2) (List.mem_map.2 ⟨p,hp,rfl⟩)
  refine he y ?_
  rw [← hpy]
  revert this
  cases ev p.2.2 <;> simp [D.val,D.ok]

variable {dst : Option Nat} {ty : TypeId} {pos : String} {aft : Array Edge} {gu : Option (Nat × Bool)}

theorem a_build (H : HR Γ I μ h w) (he : Ev I μ w a ev) {t : TypeId} {ps : Array (Nat × Operand)} {x : XOp} (hx : xop P ⟨dst,.build t ps,ty,pos,aft,gu⟩ = some x) :
    Res I μ h w id ((execOp a.eval ⟨dst,.build t ps,ty,pos,aft,gu⟩).run P w) (aop h.get id ev x) := by
  simp only [xop,Option.bind_eq_bind,Option.bind_eq_some_iff] at hx
  obtain ⟨z,hz,⟨g,n⟩,hg,hx⟩ := hx
  cases g with
  | false => simp at hx
  | true =>
  simp only [Bool.not_true,Bool.false_eq_true,if_false,Option.bind_eq_some_iff] at hx
  obtain ⟨pl,hpl,xs,hxs,hx⟩ := hx
  simp only [Option.pure_def,Option.some.injEq] at hx
  subst hx
  cases hf : fillD z.cells (xs.map fun p => (p.1,p.2.1,ev p.2.2)) with
  | none => simp only [aop,hf]; trivial
  | some cs =>
    have := s_build (id := id) (h := h) hz (zeroOf_val hz) hg hpl hxs (fill_ops he hf)
    simp only [aop]
    have e : (execOp a.eval ⟨dst,.build t ps,ty,pos,aft,gu⟩) = vv (Instr.build t (ps.toList.map fun p => (p.1,a.eval p.2)).toArray) := by
      simp only [execOp,vv]
      congr 2
      apply Array.toList_inj.1
      simp
    rw [e]; exact this

theorem a_bslice (H : HR Γ I μ h w) (he : Ev I μ w a ev) {t : TypeId} {n : Nat} {ps : Array (Nat × Operand)} {x : XOp} (hx : xop P ⟨dst,.buildSlice t n ps,ty,pos,aft,gu⟩ = some x) :
    Res I μ h w id ((execOp a.eval ⟨dst,.buildSlice t n ps,ty,pos,aft,gu⟩).run P w) (aop h.get id ev x) := by
  simp only [xop,Option.bind_eq_bind,Option.bind_eq_some_iff] at hx
  obtain ⟨td,htd,hx⟩ := hx
  cases td <;> first | (simp at hx; done) | skip
  rename_i e
  simp only [Option.bind_eq_some_iff] at hx
  obtain ⟨z,hz,hx⟩ := hx
  split at hx <;> try (simp at hx; done)
  rename_i hbig
  simp only [Option.bind_eq_some_iff,Option.pure_def,Option.some.injEq] at hx
  obtain ⟨xs,hxs,rfl⟩ := hx
  cases hf : fillD (List.replicate n z.cells).flatten (xs.map fun p => (p.1,p.2.1,ev p.2.2)) with
  | none => simp only [aop,hf]; trivial
  | some cs =>
    simp only [aop,hf]
    have := fun odd (ho : odd ≤ 1) => s_bslice (id := id) (odd := odd) ho H htd hz (zeroOf_val hz) (by omega) hxs (fill_ops he hf)
    simp only [hf] at this
    have e : (execOp a.eval ⟨dst,.buildSlice t n ps,ty,pos,aft,gu⟩) = vv (Instr.buildSlice t n (ps.toList.map fun p => (p.1,a.eval p.2)).toArray) := by
      simp only [execOp,vv]
      congr 2
      apply Array.toList_inj.1
      simp
    rw [e]; exact this _ (by split <;> decide)

theorem tagOf_spec (P : Program) (t : Nat) : (∀ t' : Nat,tagOf P t = 2 * t' + 2 → t = t') ∧ ∀ t' : Nat,tagOf P t ≠ 2 * t' + 3 := by
  have h : tagOf P t = 2 * t + 2 ∨ tagOf P t = 0 := by
    unfold tagOf
    split
    · exact .inl rfl
    · exact .inr rfl
  exact ⟨fun t' ht => by omega,fun t' ht => by omega⟩

theorem rowTag_spec (P : Program) (e : Nat) : rowTag P e = 0 ∨ rowTag P e = 2 * e + 3 := by
  unfold rowTag
  split
  · exact .inr rfl
  · exact .inl rfl

theorem a_mem (H : HR Γ I μ h w) (he : Ev I μ w a ev) {op : Op} {x : XOp} (hx : xop P ⟨dst,op,ty,pos,aft,gu⟩ = some x)
    (hop : (∃ t y,op = .load t y) ∨ (∃ t y z,op = .store t y z) ∨ (∃ t,op = .alloc t) ∨ (∃ t y,op = .box t y)) :
    Res I μ h w id ((execOp a.eval ⟨dst,op,ty,pos,aft,gu⟩).run P w) (aop h.get id ev x) := by
  rcases hop with ⟨t,y,rfl⟩ | ⟨t,y,z,rfl⟩ | ⟨t,rfl⟩ | ⟨t,y,rfl⟩
  · simp only [xop,Option.bind_eq_bind,Option.bind_eq_some_iff,Option.pure_def,Option.some.injEq] at hx
    obtain ⟨⟨g,n⟩,ha,rfl⟩ := hx
    rcases he.or y with hb | hr
    · simp only [aop,hb]; trivial
    · exact s_ld H ha hr
  · simp only [xop,Option.bind_eq_bind,Option.bind_eq_some_iff,Option.pure_def,Option.some.injEq] at hx
    obtain ⟨⟨g,n⟩,ha,rfl⟩ := hx
    rcases he.or y with hb | hr
    · simp only [aop,hb]; trivial
    · rcases he.or z with hb2 | hr2
      · simp only [aop,hb2]
        split <;> try trivial
        split <;> try trivial
        all_goals first | (simp [D.val]; done) | (simp [D.val]; trivial)
      · exact s_st H ha hr hr2
  · simp only [xop,Option.bind_eq_bind,Option.bind_eq_some_iff,Option.pure_def,Option.some.injEq] at hx
    obtain ⟨z,hz,rfl⟩ := hx
    exact s_alloc H hz (zeroOf_val hz) (tagOf_spec P t)
  · simp only [xop,Option.bind_eq_bind,Option.bind_eq_some_iff,Option.pure_def,Option.some.injEq] at hx
    obtain ⟨_,_,rfl⟩ := hx
    rcases he.or y with hb | hr
    · simp only [aop,hb,D.val]; trivial
    · exact s_box H hr

theorem a_val (H : HR Γ I μ h w) (he : Ev I μ w a ev) {op : Op} {x : XOp} (hx : xop P ⟨dst,op,ty,pos,aft,gu⟩ = some x)
    (hop : (∃ y,op = .nilCheck y) ∨ (∃ b t y z q,op = .binOp b t y z q) ∨ (∃ b t y,op = .unOp b t y) ∨ (∃ t y,op = .makeInterface t y) ∨ (∃ f b c,op = .makeFunc f b c) ∨ (∃ y i,op = .extract y i) ∨ (∃ y,op = .panic y)) :
    Res I μ h w id ((execOp a.eval ⟨dst,op,ty,pos,aft,gu⟩).run P w) (aop h.get id ev x) := by
  rcases hop with ⟨y,rfl⟩ | ⟨b,t,y,z,q,rfl⟩ | ⟨b,t,y,rfl⟩ | ⟨t,y,rfl⟩ | ⟨f,b,c,rfl⟩ | ⟨y,i,rfl⟩ | ⟨y,rfl⟩
  · simp only [xop,Option.pure_def,Option.some.injEq] at hx
    subst hx
    rcases he.or y with hb | hr
    · simp only [aop,hb]; trivial
    · exact s_nilchk hr
  · have bin : x = .bin b (xopd y) (xopd z) → Res I μ h w id ((execOp a.eval ⟨dst,.binOp b t y z q,ty,pos,aft,gu⟩).run P w) (aop h.get id ev x) := by
      rintro rfl
      rcases he.or y with hb | hr
      · simp only [aop,hb,binD,ofO]; trivial
      · rcases he.or z with hb2 | hr2
        · simp only [aop,hb2]
          cases ev (xopd y) <;> simp only [binD,ofO] <;> trivial
        · exact s_bin hr hr2
    have eqn : ∀ neg : Bool,b = (if neg then .neq else .eql) → (∀ k,P.underlying t ≠ some (.int k)) → P.underlying t ≠ some .string → x = .eq neg (teqOf P (isConstOpd y || isConstOpd z) t) (xopd y) (xopd z) →
        Res I μ h w id ((execOp a.eval ⟨dst,.binOp b t y z q,ty,pos,aft,gu⟩).run P w) (aop h.get id ev x) := by
      rintro neg rfl h1 h2 rfl
      rcases he.or y with hb | hr
      · have : eqD h.get (teqOf P (isConstOpd y || isConstOpd z) t) .bad (ev (xopd z)) = none := by
          cases teqOf P (isConstOpd y || isConstOpd z) t with
          | leaf k =>
            cases k with
            | ifc s => cases s <;> rfl
            | _ => rfl
          | _ => rfl
        simp only [aop,hb,this]; trivial
      · rcases he.or z with hb2 | hr2
        · have : eqD h.get (teqOf P (isConstOpd y || isConstOpd z) t) (ev (xopd y)) .bad = none := by
            cases teqOf P (isConstOpd y || isConstOpd z) t with
            | leaf k =>
              cases k with
              | ifc s => cases s <;> cases ev (xopd y) <;> rfl
              | _ => cases ev (xopd y) <;> first | rfl | simp [eqD,leafEq]
            | cells n l => cases ev (xopd y) <;> rfl
            | no => rfl
          simp only [aop,hb2,this]; trivial
        · exact s_eq H hr hr2 h1 h2
    simp only [xop] at hx
    split at hx
    · exact bin (by simpa using hx.symm)
    · exact bin (by simpa using hx.symm)
    · rename_i n1 n2
      exact eqn false rfl (fun k hk => n1 k hk) (fun hk => n2 hk) (by simpa using hx.symm)
    · rename_i n1 n2
      exact eqn true rfl (fun k hk => n1 k hk) (fun hk => n2 hk) (by simpa using hx.symm)
    · simp at hx
  · simp only [xop,Option.pure_def,Option.some.injEq] at hx
    subst hx
    rcases he.or y with hb | hr
    · simp only [aop,hb]
      cases b <;> simp only [unD,ofO] <;> trivial
    · exact s_un hr
  · simp only [xop,Option.bind_eq_bind,Option.bind_eq_some_iff] at hx
    obtain ⟨d,hd,hx⟩ := hx
    split at hx <;> try (simp at hx; done)
    rename_i hn
    simp only [Option.pure_def,Option.some.injEq] at hx
    subst hx
    rcases he.or y with hb | hr
    · simp only [aop,hb,D.val]; trivial
    · exact s_mkif hd (fun ms hm => hn ms hm) hr
  · simp only [xop,Option.pure_def,Option.some.injEq] at hx
    subst hx
    simp only [aop]
    split <;> try trivial
    rename_i hc
    have := s_mkfn (id := id) (h := h) (P := P) (f := f) (he.list b.toList hc.1) (he.list c.toList hc.2)
    have e : (execOp a.eval ⟨dst,.makeFunc f b c,ty,pos,aft,gu⟩) = vv (Instr.makeFunc f (b.toList.map a.eval).toArray (c.toList.map a.eval).toArray) := by
      simp only [execOp,vv]
      congr 2 <;> (apply Array.toList_inj.1; simp)
    rw [e]; exact this
  · simp only [xop,Option.pure_def,Option.some.injEq] at hx
    subst hx
    rcases he.or y with hb | hr
    · simp only [aop,hb]; trivial
    · exact s_ext hr i
  · simp only [xop,Option.pure_def,Option.some.injEq] at hx
    subst hx
    rcases he.or y with hb | hr
    · simp only [aop,hb]; trivial
    · exact s_panic hr

theorem a_conv (H : HR Γ I μ h w) (he : Ev I μ w a ev) {s t : TypeId} {y : Operand} {x : XOp} (hx : xop P ⟨dst,.convert s t y,ty,pos,aft,gu⟩ = some x) :
    Res I μ h w id ((execOp a.eval ⟨dst,.convert s t y,ty,pos,aft,gu⟩).run P w) (aop h.get id ev x) := by
  simp only [xop,Option.bind_eq_bind,Option.bind_eq_some_iff] at hx
  obtain ⟨sd,hs,td,ht,hx⟩ := hx
  split at hx
  · simp only [Option.pure_def,Option.some.injEq] at hx
    subst hx
    rcases he.or y with hb | hr
    · simp only [aop,hb]; trivial
    · exact s_convI hs ht hr
  · simp only [Option.pure_def,Option.some.injEq] at hx
    subst hx
    rcases he.or y with hb | hr
    · simp only [aop,hb]; trivial
    · exact s_convS hs rfl ht hr
  · simp only [Option.bind_eq_some_iff] at hx
    obtain ⟨ed,hed,hx⟩ := hx
    split at hx <;> try (simp at hx; done)
    simp only [Option.pure_def,Option.some.injEq] at hx
    subst hx
    rcases he.or y with hb | hr
    · simp only [aop,hb,slCells]; trivial
    · exact s_convBS H hs ht hed hr
  · simp only [Option.bind_eq_some_iff] at hx
    obtain ⟨ed,hed,hx⟩ := hx
    split at hx <;> try (simp at hx; done)
    simp only [Option.pure_def,Option.some.injEq] at hx
    subst hx
    trivial
  · simp only [Option.bind_eq_some_iff] at hx
    obtain ⟨ed,hed,hx⟩ := hx
    split at hx <;> try (simp at hx; done)
    split at hx <;> try (simp at hx; done)
    rename_i hst
    have hst' : s = t := by simpa using hst
    subst hst'
    simp only [Option.pure_def,Option.some.injEq] at hx
    subst hx
    rcases he.or y with hb | hr
    · simp only [aop,hb]; trivial
    · exact s_mrk H ht hed hr
  · simp at hx

theorem a_make (H : HR Γ I μ h w) (he : Ev I μ w a ev) {op : Op} {x : XOp} (hx : xop P ⟨dst,op,ty,pos,aft,gu⟩ = some x)
    (hop : (∃ t r,op = .makeMap t r) ∨ (∃ t l c,op = .makeSlice t l c) ∨ (∃ t y,op = .range t y) ∨ (∃ y b,op = .next y b) ∨ (∃ y xt t ok,op = .typeAssert y xt t ok)) :
    Res I μ h w id ((execOp a.eval ⟨dst,op,ty,pos,aft,gu⟩).run P w) (aop h.get id ev x) := by
  rcases hop with ⟨t,r,rfl⟩ | ⟨t,l,c,rfl⟩ | ⟨t,y,rfl⟩ | ⟨y,b,rfl⟩ | ⟨y,xt,t,ok,rfl⟩
  · simp only [xop,Option.bind_eq_bind,Option.bind_eq_some_iff] at hx
    obtain ⟨_,_,hx⟩ := hx
    split at hx <;> try (simp at hx; done)
    rename_i hr
    simp only [Option.pure_def,Option.some.injEq] at hx
    subst hx
    have : r = none := by cases r <;> simp at hr ⊢
    subst this
    exact s_mkmap
  · simp only [xop,Option.bind_eq_bind,Option.bind_eq_some_iff] at hx
    obtain ⟨td,htd,hx⟩ := hx
    split at hx <;> try (simp at hx; done)
    simp only [Option.bind_eq_some_iff,Option.pure_def,Option.some.injEq] at hx
    obtain ⟨z,hz,i,hi,rfl⟩ := hx
    rcases he.or l with hb | hr
    · simp only [aop,hb]; trivial
    · rcases he.or c with hb2 | hr2
      · simp only [aop,hb2]
        cases ev (xopd l) <;> trivial
      · exact s_mkslice htd hi hz (zeroOf_val hz) H hr hr2
  · simp only [xop,Option.bind_eq_bind,Option.bind_eq_some_iff] at hx
    obtain ⟨td,htd,hx⟩ := hx
    split at hx <;> try (simp at hx; done)
    simp only [Option.pure_def,Option.some.injEq] at hx
    subst hx
    rcases he.or y with hb | hr
    · simp only [aop,hb]; trivial
    · exact s_rng htd hr
  · simp only [xop] at hx
    split at hx <;> try (simp at hx; done)
    rename_i hbt
    simp only [Option.pure_def,Option.some.injEq] at hx
    subst hx
    subst hbt
    rcases he.or y with hb | hr
    · simp only [aop,hb]; trivial
    · exact s_nxt H hr
  · simp only [xop,Option.bind_eq_bind,Option.bind_eq_some_iff] at hx
    obtain ⟨td,htd,hx⟩ := hx
    split at hx <;> try (simp at hx; done)
    rename_i hn
    simp only [Option.bind_eq_some_iff,Option.pure_def,Option.some.injEq] at hx
    obtain ⟨z,hz,rfl⟩ := hx
    rcases he.or y with hb | hr
    · simp only [aop,hb]; trivial
    · exact s_tassert htd (fun ms hm => hn ms hm) hz hr

theorem a_addr (H : HR Γ I μ h w) (he : Ev I μ w a ev) {op : Op} {x : XOp} (hx : xop P ⟨dst,op,ty,pos,aft,gu⟩ = some x)
    (hop : (∃ t y f,op = .fieldAddr t y f) ∨ (∃ t y f,op = .field t y f) ∨ (∃ t y i,op = .indexAddr t y i) ∨ (∃ t y i,op = .index t y i)) :
    Res I μ h w id ((execOp a.eval ⟨dst,op,ty,pos,aft,gu⟩).run P w) (aop h.get id ev x) := by
  rcases hop with ⟨t,y,f,rfl⟩ | ⟨t,y,f,rfl⟩ | ⟨t,y,i,rfl⟩ | ⟨t,y,i,rfl⟩
  · simp only [xop,Option.bind_eq_bind,Option.bind_eq_some_iff] at hx
    obtain ⟨td,htd,hx⟩ := hx
    split at hx <;> try (simp at hx; done)
    simp only [Option.bind_eq_some_iff,Option.pure_def,Option.some.injEq] at hx
    obtain ⟨fd,hfd,⟨g,n⟩,ha,rfl⟩ := hx
    rcases he.or y with hb | hr
    · simp only [aop,hb]; trivial
    · exact s_faddr (ft := 0) htd hfd ha hr
  · simp only [xop,Option.bind_eq_bind,Option.bind_eq_some_iff] at hx
    obtain ⟨td,htd,hx⟩ := hx
    split at hx <;> try (simp at hx; done)
    simp only [Option.bind_eq_some_iff,Option.pure_def,Option.some.injEq] at hx
    obtain ⟨fd,hfd,⟨g,n⟩,ha,rfl⟩ := hx
    rcases he.or y with hb | hr
    · simp only [aop,hb]; trivial
    · exact s_fld htd hfd ha hr
  · simp only [xop,Option.bind_eq_bind,Option.bind_eq_some_iff] at hx
    obtain ⟨td,htd,hx⟩ := hx
    split at hx
    · simp only [Option.bind_eq_some_iff,Option.pure_def,Option.some.injEq] at hx
      obtain ⟨⟨g,n⟩,ha,rfl⟩ := hx
      rcases he.or y with hb | hr
      · simp only [aop,hb]; trivial
      · rcases he.or i with hb2 | hr2
        · simp only [aop,hb2]; cases ev (xopd y) <;> trivial
        · exact s_iaddrA htd ha hr hr2
    · simp only [Option.bind_eq_some_iff,Option.pure_def,Option.some.injEq] at hx
      obtain ⟨⟨g,n⟩,ha,rfl⟩ := hx
      rcases he.or y with hb | hr
      · simp only [aop,hb]; trivial
      · rcases he.or i with hb2 | hr2
        · simp only [aop,hb2]; cases ev (xopd y) <;> trivial
        · exact s_iaddr htd ha hr hr2
    · simp at hx
  · simp only [xop,Option.bind_eq_bind,Option.bind_eq_some_iff] at hx
    obtain ⟨td,htd,hx⟩ := hx
    split at hx
    · simp only [Option.bind_eq_some_iff,Option.pure_def,Option.some.injEq] at hx
      obtain ⟨⟨g,n⟩,ha,rfl⟩ := hx
      rcases he.or y with hb | hr
      · simp only [aop,hb]; trivial
      · rcases he.or i with hb2 | hr2
        · simp only [aop,hb2]; cases ev (xopd y) <;> trivial
        · exact s_idxA htd ha hr hr2
    · simp only [Option.pure_def,Option.some.injEq] at hx
      subst hx
      rcases he.or y with hb | hr
      · simp only [aop,hb]; trivial
      · rcases he.or i with hb2 | hr2
        · simp only [aop,hb2]; cases ev (xopd y) <;> trivial
        · exact s_idxS htd hr hr2
    · simp at hx

theorem a_maps (H : HR Γ I μ h w) (he : Ev I μ w a ev) {op : Op} {x : XOp} (hx : xop P ⟨dst,op,ty,pos,aft,gu⟩ = some x)
    (hop : (∃ t y i ok,op = .lookup t y i ok) ∨ (∃ t m k v,op = .mapUpdate t m k v) ∨ (∃ t m k v,op = .insert t m k v) ∨ (∃ t m k,op = .mapEntry t m k) ∨ (∃ t m k v,op = .entryStore t m k v)) :
    Res I μ h w id ((execOp a.eval ⟨dst,op,ty,pos,aft,gu⟩).run P w) (aop h.get id ev x) := by
  rcases hop with ⟨t,y,i,ok,rfl⟩ | ⟨t,m,k,v,rfl⟩ | ⟨t,m,k,v,rfl⟩ | ⟨t,m,k,rfl⟩ | ⟨t,m,k,v,rfl⟩
  · simp only [xop,Option.bind_eq_bind,Option.bind_eq_some_iff,Option.pure_def,Option.some.injEq] at hx
    obtain ⟨⟨te,z⟩,hk,rfl⟩ := hx
    rcases he.or y with hb | hr
    · simp only [aop,hb]; trivial
    · by_cases hok : (ev (xopd i)).ok = true
      · have := s_look (id := id) (ok := ok) H hk hr (he i hok)
        simp only [aop,hok,and_true]
        exact this
      · have hok' : (ev (xopd i)).ok = false := by simpa using hok
        simp only [aop,hok']
        split <;> try trivial
        rw [if_neg (by simp)]; trivial
  · simp only [xop,Option.bind_eq_bind,Option.bind_eq_some_iff,Option.pure_def,Option.some.injEq] at hx
    obtain ⟨⟨te,z⟩,hk,rfl⟩ := hx
    rcases he.or m with hb | hr
    · simp only [aop,hb]; trivial
    · rcases he.or k with hb2 | hr2
      · simp only [aop,hb2]
        split <;> try trivial
        split <;> try trivial
        all_goals first | (simp [D.val]; done) | (simp [D.val]; trivial)
      · rcases he.or v with hb3 | hr3
        · simp only [aop,hb3]
          split <;> try trivial
          split <;> try trivial
          all_goals first | (simp [D.val]; done) | (simp [D.val]; trivial)
        · exact s_mupd H hk hr hr2 hr3
  · simp only [xop,Option.bind_eq_bind,Option.bind_eq_some_iff,Option.pure_def,Option.some.injEq] at hx
    obtain ⟨⟨te,z⟩,hk,rfl⟩ := hx
    rcases he.or m with hb | hr
    · simp only [aop,hb]; trivial
    · rcases he.or k with hb2 | hr2
      · simp only [aop,hb2]
        split <;> try trivial
        split <;> try trivial
        all_goals first | (simp [D.val]; done) | (simp [D.val]; trivial)
      · rcases he.or v with hb3 | hr3
        · simp only [aop,hb3]
          split <;> try trivial
          split <;> try trivial
          all_goals first | (simp [D.val]; done) | (simp [D.val]; trivial)
        · exact s_ins H hk hr hr2 hr3
  · simp only [xop,Option.bind_eq_bind,Option.bind_eq_some_iff,Option.pure_def,Option.some.injEq] at hx
    obtain ⟨⟨te,z⟩,hk,rfl⟩ := hx
    rcases he.or m with hb | hr
    · simp only [aop,hb]; trivial
    · rcases he.or k with hb2 | hr2
      · simp only [aop,hb2]
        split <;> try trivial
        split <;> try trivial
        all_goals first | (simp [D.val]; done) | (simp [D.val]; trivial)
      · obtain ⟨_,_,_,_,hz,_⟩ := knownMap_spec hk
        exact s_ment H hk (zeroOf_val hz) hr hr2
  · simp only [xop,Option.pure_def,Option.some.injEq] at hx
    subst hx
    rcases he.or m with hb | hr
    · simp only [aop,hb]; trivial
    · rcases he.or k with hb2 | hr2
      · simp only [aop,hb2]
        cases ev (xopd m) <;> trivial
      · rcases he.or v with hb3 | hr3
        · simp only [aop,hb3]
          split <;> try trivial
          split <;> try trivial
          all_goals first | (simp [D.val]; done) | (simp [D.val]; trivial)
        · exact s_estore H hr hr2 hr3

theorem a_slice (H : HR Γ I μ h w) (he : Ev I μ w a ev) {t : TypeId} {y : Operand} {lo hi mx : Option Operand} {x : XOp} (hx : xop P ⟨dst,.slice t y lo hi mx,ty,pos,aft,gu⟩ = some x) :
    Res I μ h w id ((execOp a.eval ⟨dst,.slice t y lo hi mx,ty,pos,aft,gu⟩).run P w) (aop h.get id ev x) := by
  simp only [xop,Option.bind_eq_bind] at hx
  split at hx <;> try (simp at hx; done)
  rename_i hmx
  have : mx = none := by cases mx <;> simp at hmx ⊢
  subst this
  simp only [Option.bind_eq_some_iff] at hx
  obtain ⟨td,htd,hx⟩ := hx
  split at hx
  · simp only [Option.pure_def,Option.some.injEq] at hx
    subst hx
    rcases he.or y with hb | hr
    · simp only [aop,hb]; trivial
    · rcases he.opt lo with hl | hl
      · simp only [aop,hl,optI]
        split <;> first | trivial | (rename_i h1 h2; simp at h2)
      · rcases he.opt hi with hh | hh
        · simp only [aop,hh,optI]
          split <;> trivial
        · exact s_slcS htd hr hl hh
  · simp only [Option.bind_eq_some_iff,Option.pure_def,Option.some.injEq] at hx
    obtain ⟨⟨g,n⟩,ha,rfl⟩ := hx
    rcases he.or y with hb | hr
    · simp only [aop,hb]; trivial
    · rcases he.opt lo with hl | hl
      · simp only [aop,hl,optI]
        split <;> first | trivial | (rename_i h1 h2; simp at h2)
      · rcases he.opt hi with hh | hh
        · simp only [aop,hh,optI]
          split <;> trivial
        · exact s_slc htd ha hr hl hh
  · simp only [Option.bind_eq_some_iff,Option.pure_def,Option.some.injEq] at hx
    obtain ⟨⟨g,n⟩,ha,rfl⟩ := hx
    rcases he.or y with hb | hr
    · simp only [aop,hb]; trivial
    · rcases he.opt lo with hl | hl
      · simp only [aop,hl,optI]
        split <;> first | trivial | (rename_i h1 h2 h3; simp at h2)
      · rcases he.opt hi with hh | hh
        · simp only [aop,hh,optI]
          split <;> first | trivial | (rename_i h1 h2 h3; simp at h3)
        · exact s_slcA H htd ha hr hl hh
  · simp at hx

theorem lenA_run {t : TypeId} {n : Nat} {v : Value} (hd : (∃ e,P.underlying t = some (.array n e)) ∨ (∃ b e,P.underlying t = some (.pointer b) ∧ P.underlying b = some (.array n e))) :
    (Builtin.len_ #[t] ty #[v]).run P w = .ok (.int .i64 n) w := by
  rcases hd with ⟨e,hd⟩ | ⟨b,e,hd,hb⟩
  · cases v <;> simp [Builtin.len_,run_underlying hd,goInt]
  · cases v <;> simp [Builtin.len_,run_underlying hd,run_underlying hb,goInt]

theorem exec_builtin {b : Builtin} {args : Array Operand} {ats : Array TypeId} :
    execOp a.eval ⟨dst,.call ⟨.builtin b,args,ats⟩,ty,pos,aft,gu⟩ = builtin b ats ty (args.map fun | .const _ => true | _ => false) (args.map a.eval) := by
  simp [execOp,resolve,invoke]
  rfl

theorem arr_of_list {α : Type} {xs : Array α} {l : List α} (h : xs.toList = l) : xs = l.toArray := by rw [← h]

theorem a_len (H : HR Γ I μ h w) (he : Ev I μ w a ev) {args : Array Operand} {ats : Array TypeId} {x : XOp} (hx : xop P ⟨dst,.call ⟨.builtin .len,args,ats⟩,ty,pos,aft,gu⟩ = some x) :
    Res I μ h w id ((execOp a.eval ⟨dst,.call ⟨.builtin .len,args,ats⟩,ty,pos,aft,gu⟩).run P w) (aop h.get id ev x) := by
  rw [exec_builtin]
  simp only [xop,Option.bind_eq_bind] at hx
  split at hx <;> try (simp at hx; done)
  rename_i y hy
  have hy' := arr_of_list hy
  subst hy'
  simp only [Option.bind_eq_some_iff] at hx
  obtain ⟨t,ht,td,htd,hx⟩ := hx
  have len1 : (Builtin.len_ ats ty (#[y].map a.eval)).run P w = (Builtin.len_ #[t] ty #[a.eval y]).run P w := by
    simp [Builtin.len_,ht]
  have eq : (builtin .len ats ty (#[y].map fun | .const _ => true | _ => false) (#[y].map a.eval)).run P w = (vv (Builtin.len_ #[t] ty #[a.eval y])).run P w := by
    simp only [builtin,vv,Sem.run_bind,len1]
  rw [show [y].toArray = #[y] from rfl,eq]
  split at hx
  · simp only [Option.pure_def,Option.some.injEq] at hx
    subst hx
    rcases he.or y with hb | hr
    · simp only [aop,hb]; trivial
    · exact s_lenS htd hr
  · simp only [Option.pure_def,Option.some.injEq] at hx
    subst hx
    exact Res.val_of (lenA_run (.inl ⟨_,htd⟩)) (.i _ _)
  · simp only [Option.bind_eq_some_iff] at hx
    obtain ⟨bd,hbd,hx⟩ := hx
    split at hx <;> try (simp at hx; done)
    simp only [Option.pure_def,Option.some.injEq] at hx
    subst hx
    exact Res.val_of (lenA_run (.inr ⟨_,_,htd,hbd⟩)) (.i _ _)
  · simp only [Option.pure_def,Option.some.injEq] at hx
    subst hx
    rcases he.or y with hb | hr
    · simp only [aop,hb]; trivial
    · exact s_lenL htd hr
  · simp only [Option.pure_def,Option.some.injEq] at hx
    subst hx
    rcases he.or y with hb | hr
    · simp only [aop,hb]; trivial
    · exact s_lenM htd H hr
  · simp at hx

theorem a_append (H : HR Γ I μ h w) (he : Ev I μ w a ev) {args : Array Operand} {ats : Array TypeId} {x : XOp} (hx : xop P ⟨dst,.call ⟨.builtin .append,args,ats⟩,ty,pos,aft,gu⟩ = some x) :
    Res I μ h w id ((execOp a.eval ⟨dst,.call ⟨.builtin .append,args,ats⟩,ty,pos,aft,gu⟩).run P w) (aop h.get id ev x) := by
  rw [exec_builtin]
  simp only [xop,Option.bind_eq_bind] at hx
  split at hx <;> try (simp at hx; done)
  rename_i y z hy
  have hy' := arr_of_list hy
  subst hy'
  split at hx <;> try (simp at hx; done)
  rename_i s t hst
  have hst' := arr_of_list hst
  subst hst'
  simp only [Option.bind_eq_some_iff] at hx
  obtain ⟨sd,hsd,hx⟩ := hx
  split at hx <;> try (simp at hx; done)
  rename_i e
  simp only [Option.bind_eq_some_iff] at hx
  obtain ⟨i,hi,zz,hz,hx⟩ := hx
  split at hx <;> try (simp at hx; done)
  rename_i hb0
  simp only [Option.bind_eq_some_iff] at hx
  obtain ⟨td,htd,hx⟩ := hx
  have eq : (builtin .append [s,t].toArray ty ([y,z].toArray.map fun | .const _ => true | _ => false) ([y,z].toArray.map a.eval)) = (vv (Builtin.append_ #[s,t] ty #[a.eval y,a.eval z])) := by
    simp [builtin,vv]
  rw [eq]
  split at hx
  · split at hx <;> try (simp at hx; done)
    rename_i hs1
    simp only [Option.pure_def,Option.some.injEq] at hx
    subst hx
    rcases he.or z with hb | hr
    · simp only [aop,hb]; trivial
    · rcases he.or y with hb2 | hr2
      · simp only [aop,hb2]
        split <;> try trivial
        unfold appD
        split <;> trivial
      · exact s_appS H hsd htd hi hs1.1 hs1.2 hz (zeroOf_val hz) hr2 hr (rowTag_spec P _)
  · simp only [Option.pure_def,Option.some.injEq] at hx
    subst hx
    rcases he.or z with hb | hr
    · simp only [aop,hb,slCells]; trivial
    · rcases he.or y with hb2 | hr2
      · simp only [aop,hb2]
        split <;> try trivial
        unfold appD
        split <;> trivial
      · exact s_app H hsd htd hi hz (zeroOf_val hz) hb0 hr2 hr (rowTag_spec P _)
  · simp at hx

theorem a_builtin (H : HR Γ I μ h w) (he : Ev I μ w a ev) {b : Builtin} {args : Array Operand} {ats : Array TypeId} {x : XOp} (hx : xop P ⟨dst,.call ⟨.builtin b,args,ats⟩,ty,pos,aft,gu⟩ = some x)
    (hb : b = .copy ∨ b = .delete ∨ b = .min ∨ b = .max ∨ b = .clear ∨ b = .recover) :
    Res I μ h w id ((execOp a.eval ⟨dst,.call ⟨.builtin b,args,ats⟩,ty,pos,aft,gu⟩).run P w) (aop h.get id ev x) := by
  rw [exec_builtin]
  rcases hb with rfl | rfl | rfl | rfl | rfl | rfl
  · simp only [xop,Option.bind_eq_bind] at hx
    split at hx <;> try (simp at hx; done)
    rename_i y z hy
    have hy' := arr_of_list hy
    subst hy'
    split at hx <;> try (simp at hx; done)
    rename_i s t hst
    have hst' := arr_of_list hst
    subst hst'
    simp only [Option.bind_eq_some_iff] at hx
    obtain ⟨sd,hsd,hx⟩ := hx
    split at hx <;> try (simp at hx; done)
    simp only [Option.bind_eq_some_iff] at hx
    obtain ⟨⟨g,n⟩,ha,td,htd,hx⟩ := hx
    split at hx <;> try (simp at hx; done)
    simp only [Option.pure_def,Option.some.injEq] at hx
    subst hx
    have eq : (builtin .copy [s,t].toArray ty ([y,z].toArray.map fun | .const _ => true | _ => false) ([y,z].toArray.map a.eval)) = (vv (Builtin.copy_ #[s,t] ty #[a.eval y,a.eval z])) := by
      simp [builtin,vv]
    rw [eq]
    rcases he.or z with hb | hr
    · simp only [aop,hb,slCells]; trivial
    · rcases he.or y with hb2 | hr2
      · simp only [aop,hb2]
        split <;> trivial
      · exact s_cpy H hsd ha hr2 hr
  · simp only [xop,Option.bind_eq_bind] at hx
    split at hx <;> try (simp at hx; done)
    simp only [Option.bind_eq_some_iff,Option.pure_def,Option.some.injEq] at hx
    obtain ⟨_,_,_,_,rfl⟩ := hx
    trivial
  · simp only [xop,Option.pure_def,Option.some.injEq] at hx
    subst hx
    simp only [aop]
    split <;> try trivial
    rename_i hall
    have := s_min (id := id) (h := h) (P := P) (t := ats.getD 0 0) (ty := ty) (he.list args.toList hall)
    have eq : (builtin .min ats ty (args.map fun | .const _ => true | _ => false) (args.map a.eval)) = (vv (Builtin.min_ #[ats.getD 0 0] ty (args.toList.map a.eval).toArray)) := by
      have e1 : (args.toList.map a.eval).toArray = args.map a.eval := by apply Array.toList_inj.1; simp
      rw [e1]; rfl
    rw [eq]; exact this
  · simp only [xop,Option.pure_def,Option.some.injEq] at hx
    subst hx
    simp only [aop]
    split <;> try trivial
    rename_i hall
    have := s_max (id := id) (h := h) (P := P) (t := ats.getD 0 0) (ty := ty) (he.list args.toList hall)
    have eq : (builtin .max ats ty (args.map fun | .const _ => true | _ => false) (args.map a.eval)) = (vv (Builtin.max_ #[ats.getD 0 0] ty (args.toList.map a.eval).toArray)) := by
      have e1 : (args.toList.map a.eval).toArray = args.map a.eval := by apply Array.toList_inj.1; simp
      rw [e1]; rfl
    rw [eq]; exact this
  · simp only [xop,Option.bind_eq_bind] at hx
    split at hx <;> try (simp at hx; done)
    rename_i y hy
    have hy' := arr_of_list hy
    subst hy'
    simp only [Option.bind_eq_some_iff] at hx
    obtain ⟨t,ht,td,htd,hx⟩ := hx
    split at hx <;> try (simp at hx; done)
    simp only [Option.bind_eq_some_iff,Option.pure_def,Option.some.injEq] at hx
    obtain ⟨z,hz,rfl⟩ := hx
    rcases he.or y with hb | hr
    · simp only [aop,hb]; trivial
    · have := s_clr (id := id) (ty := ty) H htd hz (zeroOf_val hz) hr
      have eq : (builtin .clear ats ty ([y].toArray.map fun | .const _ => true | _ => false) ([y].toArray.map a.eval)).run P w = (vv (Builtin.clear_ #[t] ty #[a.eval y])).run P w := by
        simp [builtin,vv,Builtin.clear_,ht]
      rw [eq]; exact this
  · simp only [xop,Option.pure_def,Option.some.injEq] at hx
    subst hx
    trivial

theorem aop_sound (H : HR Γ I μ h w) (he : Ev I μ w a ev) (o : Oper) {x : XOp} (hx : xop P o = some x) : Res I μ h w id ((execOp a.eval o).run P w) (aop h.get id ev x) := by
  obtain ⟨dst,op,ty,pos,aft,gu⟩ := o
  cases op
  case move y => simp only [xop,Option.pure_def,Option.some.injEq] at hx; subst hx; exact s_mv he y
  case assign y => simp only [xop,Option.pure_def,Option.some.injEq] at hx; subst hx; exact s_mv he y
  case pick c y z => simp only [xop,Option.pure_def,Option.some.injEq] at hx; subst hx; exact s_pick he c y z
  case alloc t => exact a_mem H he hx (.inr (.inr (.inl ⟨t,rfl⟩)))
  case box t y => exact a_mem H he hx (.inr (.inr (.inr ⟨t,y,rfl⟩)))
  case build t ps => exact a_build H he hx
  case buildSlice t n ps => exact a_bslice H he hx
  case load t y => exact a_mem H he hx (.inl ⟨t,y,rfl⟩)
  case store t y z => exact a_mem H he hx (.inr (.inl ⟨t,y,z,rfl⟩))
  case nilCheck y => exact a_val H he hx (.inl ⟨y,rfl⟩)
  case binOp b t y z q => exact a_val H he hx (.inr (.inl ⟨b,t,y,z,q,rfl⟩))
  case unOp b t y => exact a_val H he hx (.inr (.inr (.inl ⟨b,t,y,rfl⟩)))
  case convert s t y => exact a_conv H he hx
  case makeInterface t y => exact a_val H he hx (.inr (.inr (.inr (.inl ⟨t,y,rfl⟩))))
  case makeFunc f b c => exact a_val H he hx (.inr (.inr (.inr (.inr (.inl ⟨f,b,c,rfl⟩)))))
  case makeMap t r => exact a_make H he hx (.inl ⟨t,r,rfl⟩)
  case makeSlice t l c => exact a_make H he hx (.inr (.inl ⟨t,l,c,rfl⟩))
  case slice t y lo hi mx => exact a_slice H he hx
  case fieldAddr t y f => exact a_addr H he hx (.inl ⟨t,y,f,rfl⟩)
  case field t y f => exact a_addr H he hx (.inr (.inl ⟨t,y,f,rfl⟩))
  case indexAddr t y i => exact a_addr H he hx (.inr (.inr (.inl ⟨t,y,i,rfl⟩)))
  case index t y i => exact a_addr H he hx (.inr (.inr (.inr ⟨t,y,i,rfl⟩)))
  case lookup t y i ok => exact a_maps H he hx (.inl ⟨t,y,i,ok,rfl⟩)
  case mapUpdate t m k v => exact a_maps H he hx (.inr (.inl ⟨t,m,k,v,rfl⟩))
  case insert t m k v => exact a_maps H he hx (.inr (.inr (.inl ⟨t,m,k,v,rfl⟩)))
  case mapEntry t m k => exact a_maps H he hx (.inr (.inr (.inr (.inl ⟨t,m,k,rfl⟩))))
  case entryStore t m k v => exact a_maps H he hx (.inr (.inr (.inr (.inr ⟨t,m,k,v,rfl⟩))))
  case range t y => exact a_make H he hx (.inr (.inr (.inl ⟨t,y,rfl⟩)))
  case next y b => exact a_make H he hx (.inr (.inr (.inr (.inl ⟨y,b,rfl⟩))))
  case typeAssert y xt t ok => exact a_make H he hx (.inr (.inr (.inr (.inr ⟨y,xt,t,ok,rfl⟩))))
  case extract y i => exact a_val H he hx (.inr (.inr (.inr (.inr (.inr (.inl ⟨y,i,rfl⟩))))))
  case panic y => exact a_val H he hx (.inr (.inr (.inr (.inr (.inr (.inr ⟨y,rfl⟩))))))
  case defer c =>
    simp only [xop] at hx
    split at hx <;> try (simp at hx; done)
    simp only [Option.pure_def,Option.some.injEq] at hx
    subst hx
    trivial
  case call c =>
    obtain ⟨cal,args,ats⟩ := c
    cases cal with
    | value f => simp only [xop,Option.pure_def,Option.some.injEq] at hx; subst hx; trivial
    | invoke y n => simp only [xop,Option.pure_def,Option.some.injEq] at hx; subst hx; trivial
    | builtin b =>
      cases b
      case len => exact a_len H he hx
      case append => exact a_append H he hx
      case copy => exact a_builtin H he hx (.inl rfl)
      case delete => exact a_builtin H he hx (.inr (.inl rfl))
      case min => exact a_builtin H he hx (.inr (.inr (.inl rfl)))
      case max => exact a_builtin H he hx (.inr (.inr (.inr (.inl rfl))))
      case clear => exact a_builtin H he hx (.inr (.inr (.inr (.inr (.inl rfl)))))
      case recover => exact a_builtin H he hx (.inr (.inr (.inr (.inr (.inr rfl)))))
      all_goals (simp [xop] at hx; done)
  all_goals (simp [xop] at hx; done)

end
end Go.Abs
end
