/- The abstract machine 'Sim': definitions. -/
import Derived.Below
import Derived.Orders
import Derived.KernelRfl
import Derived.Laws.World
import Derived.Laws.AppendOwn
namespace Go.Sim
open Go

/-- A block of the abstract memory. -/
inductive Blk where
  | cells (c : Array Value) (elem : TypeId)
  | map (es : Array MapEntry) (clock : Nat)
  | dead
  deriving Inhabited

/-- The memory: what lay there at the start (read only, odd block numbers), and new blocks (even ones). New blocks below 'floor' are read only. -/
structure Mem where
  base : Array Obj
  nb : Array Blk
  floor : Nat

def closedN : Nat → Value → Bool
  | 0, _ => false
  | n + 1, v => match v with
    | .bool _ | .int .. | .string _ | .pointer none | .slice none 0 0 | .map none | .nilFunc | .nilIface => true
    | .agg cs => cs.toList.all (closedN n)
    | .tuple vs => vs.toList.all (closedN n)
    | .func (.func _) f c => f.toList.all (closedN n) && c.toList.all (closedN n)
    | _ => false
def closed (v : Value) : Bool := closedN 4 v

/-- No address, not even a nil one. -/
def plainN : Nat → Value → Bool
  | 0, _ => false
  | n + 1, v => match v with
    | .bool _ | .int .. | .string _ => true
    | .agg cs => cs.toList.all (plainN n)
    | .tuple vs => vs.toList.all (plainN n)
    | _ => false
def plain (v : Value) : Bool := plainN 4 v

/-- A computation that asks nothing of the world. -/
def nw (P : Program) {α : Type} : Sem α → Option α
  | .pure a => some a
  | .program k => nw P (k P)
  | .mark _ k => nw P k
  | _ => none

/-- A value that lies in the old memory, as the machine sees it. -/
def embV : Value → Option Value
  | .bool b => some (.bool b)
  | .int k n => some (.int k n)
  | .string s => some (.string s)
  | .pointer none => some (.pointer none)
  | .pointer (some a) => if a.spot.isNone then some (.pointer (some ⟨2 * a.block + 1, a.off, none⟩)) else none
  | .slice none 0 0 => some (.slice none 0 0)
  | .slice (some a) l c =>
    if l = 0 then some (.slice (some ⟨1, 0, none⟩) 0 c)
    else if a.spot.isNone && l ≤ c then some (.slice (some ⟨2 * a.block + 1, a.off, none⟩) l c) else none
  | .nilFunc => some .nilFunc
  | .nilIface => some .nilIface
  | _ => none

def Mem.cell (M : Mem) (blk off : Nat) : Option Value :=
  if blk % 2 = 1 then
    match M.base[blk / 2]? with
    | some (.cells c _ _) => (c[off]?).bind embV
    | _ => none
  else match M.nb[blk / 2]? with
    | some (.cells c _) => c[off]?
    | _ => none

def Mem.cellsN (M : Mem) (blk off : Nat) : Nat → Option (List Value)
  | 0 => some []
  | n + 1 => (M.cell blk off).bind fun v => (M.cellsN blk (off + 1) n).bind fun r => some (v :: r)

def oneCell : Value → Bool
  | .agg _ | .tuple _ => false
  | _ => true

def Mem.put (M : Mem) (blk off : Nat) (v : Value) : Option Mem :=
  if blk % 2 = 1 then none
  else if blk / 2 < M.floor then none
  else if oneCell v then
    match M.nb[blk / 2]? with
    | some (.cells c t) => if off < c.size then some { M with nb := M.nb.setIfInBounds (blk / 2) (.cells (c.setIfInBounds off v) t) } else none
    | _ => none
  else none

def Mem.putN (M : Mem) (blk off : Nat) : List Value → Option Mem
  | [] => some M
  | v :: r => (M.put blk off v).bind fun M' => M'.putN blk (off + 1) r

def Mem.new (M : Mem) (b : Blk) : Mem := { M with nb := M.nb.push b }
def Mem.kill (M : Mem) (j : Nat) : Option Mem := if j < M.floor then none else some { M with nb := M.nb.setIfInBounds j .dead }

/-! ### Operations -/
def sizeP (P : Program) (t : TypeId) : Option Nat := (P.info? t).map (·.size)
def zeroP (P : Program) (t : TypeId) : Option Value := (P.info? t).bind fun i => i.zero.bind fun z => if closed z then some z else none
def isAggP (P : Program) (t : TypeId) : Option Bool := (P.underlying t).map fun | .struct _ | .array .. => true | _ => false

def partP (P : Program) (t : TypeId) (cs : Array Value) (off : Nat) : Option Value :=
  (isAggP P t).bind fun g => if g then (sizeP P t).map fun n => .agg (cs.extract off (off + n)) else cs[off]?

def loadP (P : Program) (t : TypeId) (M : Mem) (blk off : Nat) : Option Value :=
  (isAggP P t).bind fun g => if g then (sizeP P t).bind fun n => (M.cellsN blk off n).map fun l => .agg l.toArray else M.cell blk off

def bound (x : Option Value) (y d : Nat) : Option Nat :=
  match x with
  | none => some d
  | some (.int _ i) => if 0 ≤ i ∧ i ≤ y then some i.toNat else none
  | _ => none

def cut (size : Nat) (a : Addr) (len : Nat) (hasMax : Bool) (l h m : Nat) : Option Value :=
  if a.block % 2 = 1 then
    if h ≤ len then some (.slice (some (if m = l then a else ⟨a.block, a.off + l * size, none⟩)) (h - l) (m - l)) else none
  else if a.spot = none then some (.slice (some (if m = l then a else ⟨a.block, a.off + l * size, none⟩)) (h - l) (m - l))
  else if hasMax then some (.slice (some (if m = l then ⟨a.block, a.off, none⟩ else ⟨a.block, a.off + l * size, none⟩)) (h - l) (m - l))
  else some (.slice (some ⟨a.block, a.off + l * size, some 0⟩) (h - l) (m - l))

def sliceP (P : Program) (t : TypeId) (x : Value) (lo hi mx : Option Value) : Option Value :=
  match P.underlying t, x with
  | some (.slice e), .slice a len cap =>
    (bound mx cap cap).bind fun m => (if hi.isNone && mx.isSome then none else bound hi m len).bind fun h => (bound lo h 0).bind fun l => (sizeP P e).bind fun size =>
      match a with
      | none => if len = 0 ∧ cap = 0 then some (.slice none 0 0) else none
      | some a => cut size a len mx.isSome l h m
  | some (.array n e), .pointer (some a) =>
    (bound mx n n).bind fun m => (if hi.isNone && mx.isSome then none else bound hi m n).bind fun h => (bound lo h 0).bind fun l => (sizeP P e).bind fun size =>
      if a.block % 2 = 1 ∨ a.spot ≠ none then none else some (.slice (some (if m = l then a else ⟨a.block, a.off + l * size, none⟩)) (h - l) (m - l))
  | _, _ => none

def indexAddrP (P : Program) (t : TypeId) (x i : Value) : Option Value :=
  match P.underlying t, x, i with
  | some (.array len e), .pointer (some a), .int _ i => (sizeP P e).bind fun size => if 0 ≤ i ∧ i < len then some (.pointer (some ⟨a.block, a.off + i.toNat * size, none⟩)) else none
  | some (.slice e), .slice (some a) len _, .int _ i => (sizeP P e).bind fun size => if 0 ≤ i ∧ i < len then some (.pointer (some ⟨a.block, a.off + i.toNat * size, none⟩)) else none
  | _, _, _ => none

def fieldAddrP (P : Program) (t : TypeId) (x : Value) (f : Nat) : Option Value :=
  match P.underlying t, x with
  | some (.struct fs), .pointer (some a) => (fs[f]?).bind fun fd => (sizeP P fd.type).bind fun n => if n = 0 then none else some (.pointer (some ⟨a.block, a.off + fd.offset, none⟩))
  | _, _ => none

def fieldP (P : Program) (t : TypeId) (x : Value) (f : Nat) : Option Value :=
  match P.underlying t, x with
  | some (.struct fs), .agg cs => (fs[f]?).bind fun fd => partP P fd.type cs fd.offset
  | _, _ => none

def indexP (P : Program) (t : TypeId) (x i : Value) : Option Value :=
  match P.underlying t, x, i with
  | some (.array len e), .agg cs, .int _ i => if 0 ≤ i ∧ i < len then (sizeP P e).bind fun size => partP P e cs (i.toNat * size) else none
  | _, _, _ => none

def eqNil (P : Program) (t : TypeId) (x y : Value) : Option Bool :=
  match P.underlying t, x, y with
  | some (.pointer _), .pointer none, .pointer none => some true
  | some (.slice _), .slice none _ _, .slice none _ _ => some true
  | some (.func ..), .nilFunc, .nilFunc => some true
  | some (.pointer _), .pointer (some _), .pointer none => some false
  | some (.pointer _), .pointer none, .pointer (some _) => some false
  | some (.slice _), .slice (some _) _ _, .slice none _ _ => some false
  | some (.slice _), .slice none _ _, .slice (some _) _ _ => some false
  | some (.func ..), .func _ _ _, .nilFunc => some false
  | some (.func ..), .nilFunc, .func _ _ _ => some false
  | _, _, _ => none

/-- k cells of zeros, the zero's cells over and over. -/
def zeroRow (z : Array Value) (k : Nat) : Array Value := ((List.range k).map fun i => z.toList.getD (i % z.size) default).toArray
def setAll : List Value → Nat → List Value → List Value
  | [], _, cs => cs
  | v :: vs, i, cs => setAll vs (i + 1) (cs.set i v)
/-- 'Instr.fill' over lists. -/
def fillL (place : Nat → Option (Nat × Nat)) : List (Nat × Value) → List Value → Option (List Value)
  | [], cs => some cs
  | (i, v) :: rest, cs => match place i with
    | none => none
    | some (off, size) => if v.cells.size ≠ size || off + v.cells.size > cs.length then none else fillL place rest (setAll v.cells.toList off cs)
/-- The places of a struct's fields. -/
def placesP (P : Program) : List Field → Option (List (Nat × Nat))
  | [] => some []
  | f :: r => (sizeP P f.type).bind fun n => (placesP P r).bind fun l => some ((f.offset, n) :: l)

def buildP (P : Program) (t : TypeId) (parts : List (Nat × Value)) : Option Value :=
  (zeroP P t).bind fun z =>
  match P.underlying t with
  | some (.struct fs) => (placesP P fs.toList).bind fun ps => (fillL (ps[·]?) parts z.cells.toList).bind fun l => some (.agg l.toArray)
  | some (.array _ e) => (sizeP P e).bind fun n => (fillL (fun i => some (i * n, n)) parts z.cells.toList).bind fun l => some (.agg l.toArray)
  | _ => none

def nilV : Value → Option Value
  | .pointer (some a) => some (.pointer (some a))
  | .func (.func f) first captured => some (.func (.func f) first captured)
  | _ => none

/-- What takes an address and asks nothing of the memory. -/
def openOp (P : Program) (ρ : Operand → Value) : Op → Option Value
  | .pick c a b => match ρ c with | .bool t => some (if t then ρ a else ρ b) | _ => none
  | .build t parts => buildP P t (parts.toList.map fun p => (p.1, ρ p.2))
  | .nilCheck x => nilV (ρ x)
  | .binOp .eql t x y _ => (eqNil P t (ρ x) (ρ y)).map .bool
  | .binOp .neq t x y _ => (eqNil P t (ρ x) (ρ y)).map fun b => .bool !b
  | .makeFunc (.func f) first captured => some (.func (.func f) (first.map ρ) (captured.map ρ))
  | .slice t x lo hi mx => sliceP P t (ρ x) (lo.map ρ) (hi.map ρ) (mx.map ρ)
  | .fieldAddr t x f => fieldAddrP P t (ρ x) f
  | .field t x f => fieldP P t (ρ x) f
  | .indexAddr t x i => indexAddrP P t (ρ x) (ρ i)
  | .index t x i => indexP P t (ρ x) (ρ i)
  | .extract x i => match ρ x with | .tuple vs => vs[i]? | _ => none
  | .call { callee := .builtin .len, args, argTypes } =>
    match (argTypes[0]?).bind P.underlying, (args[0]?).map ρ with
    | some (.slice _), some (.slice _ n _) => some (.int .i64 n)
    | some (.array n _), some _ => some (.int .i64 n)
    | _, _ => none
  | _ => none

/-- The cells of a slice that is read. -/
def Mem.src (M : Mem) (sa : Option Addr) (cnt : Nat) : Option (List Value) :=
  match sa with
  | none => if cnt = 0 then some [] else none
  | some a => M.cellsN a.block a.off cnt
/-- A row that grows leaves its block. -/
def Mem.leave (M : Mem) (sa : Option Addr) (e : TypeId) (far : Nat) (new : List Value) : Option Mem :=
  match sa with
  | none => some M
  | some a =>
    if a.block % 2 = 1 ∨ a.spot = none then some M
    else match M.nb[a.block / 2]? with
      | some (.cells cs e') => if e' = e ∧ a.off + far ≤ cs.size ∧ new.all oneCell = true then M.kill (a.block / 2) else none
      | _ => none

def appendP (P : Program) (argTypes : Array TypeId) (s x : Value) (M : Mem) : Option (Value × Mem) :=
  match (argTypes[0]?).bind P.underlying, (argTypes[1]?).bind P.underlying, s, x with
  | some (.slice e), some (.slice _), .slice sa n c, .slice xa k _ =>
    (P.info? e).bind fun i => i.zero.bind fun z => if z.cells.size = i.size ∧ 0 < i.size ∧ 0 < i.bytes ∧ i.bytes ≤ 1048576 then
      (M.src xa (k * i.size)).bind fun new =>
      if n + k ≤ c then
        match sa with
        | none => if k = 0 then some (.slice none n c, M) else none
        | some a => (M.putN a.block (a.off + n * i.size) new).map fun M' => (.slice (some a) (n + k) c, M')
      else if (n + k) * i.bytes ≤ 140737488355328 then
        (M.src sa (n * i.size)).bind fun old =>
        (M.leave sa e (c * i.size) new).bind fun M' =>
        some (.slice (some ⟨2 * M.nb.size, 0, some 0⟩) (n + k) (n + k), M'.new (.cells (old ++ new).toArray e))
      else none
    else none
  | _, _, _, _ => none

def copyP (P : Program) (argTypes : Array TypeId) (d x : Value) (M : Mem) : Option (Value × Mem) :=
  match (argTypes[0]?).bind P.underlying, d, x with
  | some (.slice e), .slice (some a) n _, .slice (some b) k _ => (sizeP P e).bind fun size => (M.cellsN b.block b.off (Nat.min k n * size)).bind fun l => (M.putN a.block a.off l).map fun M' => (.int .i64 (Nat.min k n : Nat), M')
  | _, _, _ => none

def makeP (P : Program) (t : TypeId) (l c : Value) (M : Mem) : Option (Value × Mem) :=
  match P.underlying t, l, c with
  | some (.slice e), .int _ l, .int _ c => (P.info? e).bind fun i => i.zero.bind fun z =>
    if closed z ∧ z.cells.size = i.size ∧ 0 < i.size ∧ 0 < i.bytes ∧ 0 ≤ l ∧ l ≤ c ∧ c * i.bytes ≤ 281474976710656 then
      some (.slice (some ⟨2 * M.nb.size, 0, none⟩) l.toNat c.toNat, M.new (.cells (zeroRow z.cells (c.toNat * i.size)) e))
    else none
  | _, _, _ => none

inductive Did where
  | val (v : Value) (M : Mem)
  | call (f : FuncId) (args : Array Value)

def memOp (P : Program) (ρ : Operand → Value) (M : Mem) : Op → Option (Value × Mem)
  | .alloc t => (zeroP P t).map fun z => (.pointer (some ⟨2 * M.nb.size, 0, none⟩), M.new (.cells z.cells t))
  | .box t x => some (.pointer (some ⟨2 * M.nb.size, 0, none⟩), M.new (.cells (ρ x).cells t))
  | .buildSlice t len parts =>
    match P.underlying t with
    | some (.slice e) => (sizeP P e).bind fun size => (zeroP P e).bind fun z => if len * size ≤ 16777216 then
        (fillL (fun i => some (i * size, size)) (parts.toList.map fun p => (p.1, ρ p.2)) (zeroRow z.cells (len * size)).toList).bind fun cs =>
          some (.slice (some ⟨2 * M.nb.size, 0, none⟩) len len, M.new (.cells cs.toArray e))
      else none
    | _ => none
  | .load t a => match ρ a with
    | .pointer (some a) => (loadP P t M a.block a.off).map fun v => (v, M)
    | _ => none
  | .store t a x => match ρ a with
    | .pointer (some a) => (sizeP P t).bind fun n => if (ρ x).cells.size = n then (M.putN a.block a.off (ρ x).cells.toList).map fun M' => (undef, M') else none
    | _ => none
  | .makeSlice t l c => makeP P t (ρ l) (ρ c) M
  | .call { callee := .builtin .append, args, argTypes } =>
    match (args[0]?).map ρ, (args[1]?).map ρ with
    | some s, some x => appendP P argTypes s x M
    | _, _ => none
  | .call { callee := .builtin .copy, args, argTypes } =>
    match (args[0]?).map ρ, (args[1]?).map ρ with
    | some s, some x => copyP P argTypes s x M
    | _, _ => none
  | _ => none

/-- A call of a function value. -/
def callOp (P : Program) (ρ : Operand → Value) : Op → Option (FuncId × Array Value)
  | .call { callee := .value f, args, .. } =>
    match ρ f with
    | .func (.func g) first captured =>
      match P.funcs[g]? with
      | some fn => if fn.body.isSome then some (g, first ++ args.map ρ ++ captured) else none
      | none => none
    | _ => none
  | _ => none

/-- No function with a body is the one that the model answers itself. -/
def Named (P : Program) : Prop := ∀ (i : Nat) (fn : Func), P.funcs[i]? = some fn → fn.name ≠ "runtime.NumGoroutine"

inductive Class where
  | copy (x : Operand) | pure | mem | call
def Class.of : Op → Class
  | .move x | .assign x => .copy x
  | .alloc _ | .box .. | .buildSlice .. | .load .. | .store .. | .makeSlice .. => .mem
  | .call { callee := .builtin .append, .. } | .call { callee := .builtin .copy, .. } => .mem
  | .call { callee := .value _, .. } => .call
  | _ => .pure

def pureOp (P : Program) (ρ : Operand → Value) (o : Oper) : Option Value :=
  if o.op.operands.toList.all fun x => plain (ρ x) then
    match nw P (execOp ρ o) with
    | some (.value v) => if closed v then some v else none
    | _ => none
  else openOp P ρ o.op

/-- One operation that is wanted. -/
def op0 (P : Program) (ρ : Operand → Value) (o : Oper) (M : Mem) : Option Did :=
  match Class.of o.op with
  | .copy x => some (.val (ρ x) M)
  | .pure => (pureOp P ρ o).map fun v => .val v M
  | .mem => (memOp P ρ M o.op).map fun r => .val r.1 r.2
  | .call => (callOp P ρ o.op).map fun r => .call r.1 r.2

def evalT (t : Array Value) : Operand → Value
  | .tmp i => t.getD i undef
  | .const v => v
  | .global _ => undef
  | .func f => .func (.func f) #[] #[]
/-- Operands that the machine takes. -/
def okOperand : Operand → Bool
  | .const v => closed v
  | .global _ => false
  | _ => true
def putT (t : Array Value) (d : Option Tmp) (v : Value) : Array Value :=
  match d with
  | some d => t.setIfInBounds d v
  | none => t

abbrev CallM := FuncId → Array Value → Mem → Option (Value × Mem)
abbrev Run := Array Value → Mem → Option (Exit × Array Value × Mem)

/-- One operation comes up. -/
def stepOp (P : Program) (call : CallM) (ops : Array Oper) (o : Oper) (t : Array Value) (M : Mem) : Option (Array Value × Mem) :=
  if Region.wanted o (yielded ops t) then
    if o.op.operands.toList.all okOperand then
      (op0 P (evalT t) o M).bind fun
        | .val v M' => some (putT t o.dst v, M')
        | .call f args => (call f args M).bind fun r => some (putT t o.dst r.1, r.2)
    else none
  else some (putT t o.dst undef, M)

def runOps (P : Program) (call : CallM) (ops : Array Oper) : List Oper → Array Value → Mem → Option (Array Value × Mem)
  | [], t, M => some (t, M)
  | o :: r, t, M => (stepOp P call ops o t M).bind fun s => runOps P call ops r s.1 s.2

/-! ### Regions that draw their order -/
def isF (o : Oper) : Bool := match Class.of o.op with | .copy _ | .pure => true | _ => false
def isR (o : Oper) : Bool := match o.op with | .load .. => true | _ => false
def isE (o : Oper) : Bool := match o.op with | .alloc _ | .box .. | .buildSlice .. | .makeSlice .. => true | _ => false
def isC (o : Oper) : Bool := match Class.of o.op with | .call => true | _ => false
def reachN (ops : Array Oper) (p : Nat) : Nat → Nat → Bool
  | 0, _ => false
  | k + 1, i => ((ops[i]?).map fun o => o.after.toList.any fun e => Region.binds .any e && (e.on == p || reachN ops p k e.on)).getD false
/-- Is operation p ahead of operation i in every order? -/
def reach (ops : Array Oper) (i p : Nat) : Bool := reachN ops p ops.size i
/-- A load that nothing orders with operation i. -/
def floorFor (ops : Array Oper) (i : Nat) : Bool := (List.range ops.size).any fun p => ((ops[p]?).map isR).getD false && !reach ops i p && !reach ops p i
/-- What writes: a store, an append. -/
def isStore (o : Oper) : Bool := match o.op with | .store .. => true | _ => false
def isW (o : Oper) : Bool := match o.op with | .store .. => true | .call { callee := .builtin .append, .. } => true | _ => false
def unord (ops : Array Oper) (p i : Nat) : Bool := !reach ops i p && !reach ops p i
/-- Is the block that operation p reads, or makes, to be told from one that is written in no order to it? -/
def tracked (ops : Array Oper) (p : Nat) : Bool :=
  ((ops[p]?).map fun o => isR o || isE o).getD false && (List.range ops.size).any fun i => ((ops[i]?).map isW).getD false && unord ops p i
def blkOf : Value → Option Nat
  | .pointer A => A.map (·.block)
  | .slice A _ _ => A.map (·.block)
  | _ => none
def commOk (ops : Array Oper) (p i : Nat) : Bool :=
  match ops[p]?, ops[i]? with
  | some x, some y => x.apart ops y && (isF x || isF y || (isR x && isR y) || (isR x && isE y) || (isR x && isC y) || (tracked ops p && ((isR x && isW y) || (isE x && isStore y))))
  | _, _ => false
def notSelectB : Op → Bool
  | .select .. => false
  | _ => true
/-- Does nothing have to come ahead of operation i but what is listed? -/
def freeOf (ops : Array Oper) (done : List Nat) (i : Nat) : Bool := ((ops[i]?).map fun o => o.after.toList.all fun e => !Region.binds .any e || done.contains e.on).getD false
def early (ops : Array Oper) (i : Nat) : Bool := ((ops[i]?).map fun o => isF o || isR o).getD false
def earlyE (ops : Array Oper) (i : Nat) : Bool := ((ops[i]?).map isE).getD false
def pickN (ops : Array Oper) (done left : List Nat) : Option Nat :=
  match left.find? fun i => early ops i && freeOf ops done i with
  | some i => some i
  | none => match left.find? fun i => earlyE ops i && freeOf ops done i with
    | some i => some i
    | none => left.find? (freeOf ops done)
def ordN (ops : Array Oper) : Nat → List Nat → List Nat → List Nat
  | 0, _, _ => []
  | k + 1, done, left => match pickN ops done left with
    | some i => i :: ordN ops k (i :: done) (left.filter (· != i))
    | none => []
/-- The order in which the machine takes a region that draws its own: loads early, calls late. -/
def ordOf (ops : Array Oper) : List Nat := ordN ops ops.size [] (List.range ops.size)
/-- p stands ahead of i in the machine's order: may it be so, and may they change places if nothing orders them? -/
def pairOk (ops : Array Oper) (p i : Nat) : Bool :=
  p != i && !reach ops p i && ((ops[p]?).map fun o => o.after.toList.all fun e => !Region.binds .any e || e.on != i).getD true && (reach ops i p || commOk ops p i)
def pairsOk (ops : Array Oper) : List Nat → Bool
  | [] => true
  | p :: r => r.all (pairOk ops p) && pairsOk ops r
def drawOk (ops : Array Oper) : Bool :=
  (ops.toList.all fun o => notSelectB o.op) && (ops.toList.zipIdx.all fun x => x.1.after.toList.all fun e => !Region.binds .any e || (decide (e.on < ops.size) && e.on != x.2)) &&
  ((List.range ops.size).all fun i => (ordOf ops).contains i) && ((ordOf ops).all fun i => decide (i < ops.size)) && pairsOk ops (ordOf ops)
/-- A call that may not write to what was there. -/
def floored (call : CallM) : CallM := fun f args M => (call f args { M with floor := M.nb.size }).map fun r => (r.1, { r.2 with floor := M.floor })
def callAt (call : CallM) (ops : Array Oper) (i : Nat) : CallM := if floorFor ops i then floored call else call
/-- The block that an operation writes. -/
def wrBlk (t : Array Value) (o : Oper) : Option Nat :=
  match o.op with
  | .store _ a _ => blkOf (evalT t a)
  | .call { callee := .builtin .append, args, .. } => ((args[0]?).map (evalT t)).bind blkOf
  | _ => none
/-- The block that an operation reads or makes. -/
def rdBlk (t : Array Value) (M : Mem) (o : Oper) : Option Nat :=
  match o.op with
  | .load _ a => blkOf (evalT t a)
  | _ => some (2 * M.nb.size)
abbrev Seen := List (Nat × Option Nat)
def note (ops : Array Oper) (i : Nat) (o : Oper) (t : Array Value) (M : Mem) (rd : Seen) : Seen := if tracked ops i then (i, rdBlk t M o) :: rd else rd
/-- Is what it writes none of what was read, or made, in no order to it? -/
def wOk (ops : Array Oper) (i : Nat) (w : Option Nat) : Seen → Bool
  | [] => true
  | (p, b) :: rd => (!unord ops p i || !decide (w = b)) && wOk ops i w rd
def runIxs (P : Program) (call : CallM) (ops : Array Oper) : List Nat → Seen → Array Value → Mem → Option (Array Value × Mem)
  | [], _, t, M => some (t, M)
  | i :: r, rd, t, M => match ops[i]? with
    | some o => if !isW o || wOk ops i (wrBlk t o) rd then (stepOp P (callAt call ops i) ops o t M).bind fun s => runIxs P call ops r (note ops i o t M rd) s.1 s.2 else none
    | none => none

def runRegion (P : Program) (call : CallM) (ops : Array Oper) (draw : Bool) (t : Array Value) (M : Mem) : Option (Array Value × Mem) :=
  if draw then if drawOk ops then runIxs P call ops (ordOf ops) [] t M else none
  else runOps P call ops ops.toList t M

/-- A text of the model's code; 'self' goes on with a loop. -/
def runCode (P : Program) (call : CallM) (self : Code → Run) : Code → Run
  | .skip, t, M => some (.normal, t, M)
  | .label _, t, M => some (.normal, t, M)
  | .region _ ops draw, t, M => (runRegion P call ops draw t M).map fun r => (.normal, r.1, r.2)
  | .seq a b, t, M => (runCode P call self a t M).bind fun r => match r.1 with
    | .normal => runCode P call self b r.2.1 r.2.2
    | _ => some r
  | .cond c a b, t, M => if okOperand c then match evalT t c with
    | .bool true => runCode P call self a t M
    | .bool false => runCode P call self b t M
    | _ => none else none
  | .block id a, t, M => (runCode P call self a t M).map fun r => match r.1 with
    | .exit id' => if id' = id then (.normal, r.2.1, r.2.2) else r
    | _ => r
  | .loop a, t, M => (runCode P call self a t M).bind fun r => match r.1 with
    | .normal => self (.loop a) r.2.1 r.2.2
    | _ => some r
  | .scope a, t, M => (runCode P call self a t M).bind fun r => match r.1 with
    | .goto _ => none
    | _ => some r
  | .exit id, t, M => some (.exit id, t, M)
  | .ret, t, M => some (.ret, t, M)
  | _, _, _ => none

def resultP (P : Program) (t : Array Value) (M : Mem) (x : ResultVar) : Option Value :=
  match x with
  | .tmp i => some (t.getD i undef)
  | .cell a ty => match t.getD a undef with
    | .pointer (some a) => loadP P ty M a.block a.off
    | _ => none
def resultsL (P : Program) (t : Array Value) (M : Mem) : List ResultVar → Option (List Value)
  | [] => some []
  | x :: r => (resultP P t M x).bind fun v => (resultsL P t M r).bind fun vs => some (v :: vs)
def packed : List Value → Value
  | [v] => v
  | vs => .tuple vs.toArray
def resultsP (P : Program) (fn : Func) (t : Array Value) (M : Mem) : Option Value := (resultsL P t M fn.results.toList).map packed

def enter (P : Program) (self : Code → Run) (call : CallM) (f : FuncId) (args : Array Value) (M : Mem) : Option (Value × Mem) :=
  match P.funcs[f]? with
  | some fn => match fn.body with
    | some c => (runCode P call self c (args ++ Array.replicate (fn.ntmps - args.size) undef) M).bind fun r => match r.1 with
      | .normal | .ret => (resultsP P fn r.2.1 r.2.2).map fun v => (v, r.2.2)
      | _ => none
    | none => none
  | none => none

/-- Rounds of loops and depths of calls, counted together. -/
def lev (P : Program) : Nat → (Code → Run) × CallM
  | 0 => (fun _ _ _ => none, fun _ _ _ => none)
  | k + 1 => let r := lev P k; (runCode P r.2 r.1, enter P r.1 r.2)
/-- A call, k rounds and depths at most. -/
def call (P : Program) (k : Nat) : CallM := (lev P k).2

end Go.Sim
