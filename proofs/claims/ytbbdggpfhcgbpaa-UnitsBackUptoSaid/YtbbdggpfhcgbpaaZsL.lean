/- The abstract machine 'Sim', with what follows handed on: each step's value is told by its type. -/
import Derived.Test.YtbbdggpfhcgbpaaZsK
set_option linter.unusedSimpArgs false
set_option linter.unusedVariables false
namespace Go.Sim
open Go Go.RowKit

inductive Sc where
  | int (k : IntKind) | bool | ptr | sl | any
inductive Ty where
  | sc (s : Sc) | agg (l : List Sc) | tup (l : List (Sc ⊕ List Sc))

/-- The cells of a type, one behind the other. -/
def scs (P : Program) : Nat → TypeId → List Sc
  | 0, _ => [.any]
  | n + 1, t => match P.underlying t with
    | some (.int k) => [.int k]
    | some .bool => [.bool]
    | some (.pointer _) => [.ptr]
    | some (.slice _) => [.sl]
    | some (.struct fs) => fs.toList.flatMap fun f => scs P n f.type
    | some (.array k e) => (List.replicate k (scs P n e)).flatten
    | _ => [.any]
def ty1 (P : Program) (t : TypeId) : Sc ⊕ List Sc :=
  match P.underlying t with
  | some (.struct _) | some (.array ..) => .inr (scs P 6 t)
  | _ => .inl ((scs P 6 t).headD .any)
def tyOf (P : Program) (t : TypeId) : Ty :=
  match P.underlying t with
  | some (.tuple ts) => .tup (ts.toList.map (ty1 P))
  | _ => match ty1 P t with
    | .inl s => .sc s
    | .inr l => .agg l

def opTy (P : Program) (o : Oper) : Ty :=
  match o.op with
  | .indexAddr .. | .fieldAddr .. | .alloc _ | .box .. => .sc .ptr
  | _ => tyOf P o.type

abbrev R := Option (Value × Mem)
def asI (k : IntKind) : Value → Option Int
  | .int k' x => if k' = k then some x else none
  | _ => none
def asB : Value → Option Bool
  | .bool b => some b
  | _ => none
def asP : Value → Option (Option Addr)
  | .pointer a => some a
  | _ => none
def asS : Value → Option (Option Addr × Nat × Nat)
  | .slice a l c => some (a, l, c)
  | _ => none
def asA (n : Nat) : Value → Option (Array Value)
  | .agg cs => if cs.size = n then some cs else none
  | _ => none
def asU (n : Nat) : Value → Option (Array Value)
  | .tuple cs => if cs.size = n then some cs else none
  | _ => none
def asSc (s : Sc) (v : Value) (K : Value → R) : R :=
  match s with
  | .int k => (asI k v).bind fun x => K (.int k x)
  | .bool => (asB v).bind fun b => K (.bool b)
  | .ptr => (asP v).bind fun a => K (.pointer a)
  | .sl => (asS v).bind fun s => K (.slice s.1 s.2.1 s.2.2)
  | .any => K v
def asCells : List Sc → Nat → Array Value → (List Value → R) → R
  | [], _, _, K => K []
  | s :: r, i, cs, K => asSc s (cs.getD i undef) fun v => asCells r (i + 1) cs fun vs => K (v :: vs)
def as1 (s : Sc ⊕ List Sc) (v : Value) (K : Value → R) : R :=
  match s with
  | .inl s => asSc s v K
  | .inr l => (asA l.length v).bind fun cs => asCells l 0 cs fun vs => K (.agg vs.toArray)
def asTup : List (Sc ⊕ List Sc) → Nat → Array Value → (List Value → R) → R
  | [], _, _, K => K []
  | s :: r, i, cs, K => as1 s (cs.getD i undef) fun v => asTup r (i + 1) cs fun vs => K (v :: vs)
def asT (ty : Ty) (v : Value) (K : Value → R) : R :=
  match ty with
  | .sc s => asSc s v K
  | .agg l => as1 (.inr l) v K
  | .tup [] => K v
  | .tup l => (asU l.length v).bind fun cs => asTup l 0 cs fun vs => K (.tuple vs.toArray)

/-! Cells by their types. -/
def Mem.intAt (M : Mem) (k : IntKind) (blk off : Nat) : Option Int := (M.cell blk off).bind (asI k)
def Mem.boolAt (M : Mem) (blk off : Nat) : Option Bool := (M.cell blk off).bind asB
def Mem.ptrAt (M : Mem) (blk off : Nat) : Option (Option Addr) := (M.cell blk off).bind asP
def Mem.slAt (M : Mem) (blk off : Nat) : Option (Option Addr × Nat × Nat) := (M.cell blk off).bind asS
def loadSc (s : Sc) (M : Mem) (blk off : Nat) (K : Value → R) : R :=
  match s with
  | .int k => (M.intAt k blk off).bind fun x => K (.int k x)
  | .bool => (M.boolAt blk off).bind fun b => K (.bool b)
  | .ptr => (M.ptrAt blk off).bind fun a => K (.pointer a)
  | .sl => (M.slAt blk off).bind fun s => K (.slice s.1 s.2.1 s.2.2)
  | .any => (M.cell blk off).bind K
def loadCellsK : List Sc → Mem → Nat → Nat → (List Value → R) → R
  | [], _, _, _, K => K []
  | s :: r, M, blk, off, K => loadSc s M blk off fun v => loadCellsK r M blk (off + 1) fun vs => K (v :: vs)
def loadK (P : Program) (t : TypeId) (M : Mem) (blk off : Nat) (K : Value → R) : R :=
  match ty1 P t with
  | .inl s => if isAggP P t = some false then loadSc s M blk off K else none
  | .inr l => if isAggP P t = some true ∧ sizeP P t = some l.length then loadCellsK l M blk off fun vs => K (.agg vs.toArray) else none
def putK (M : Mem) (blk off : Nat) (l : List Value) (K : Mem → R) : R :=
  match l with
  | [] => K M
  | v :: r => (M.put blk off v).bind fun M' => putK M' blk (off + 1) r K
def ptrK (v : Value) (K : Addr → R) : R :=
  match v with
  | .pointer a => a.bind K
  | _ => none

def condK (v : Value) (a b : R) : R :=
  match v with
  | .bool t => cond t a b
  | _ => none

def isnilK (P : Program) (sl neg : Bool) (t : TypeId) (x : Value) (K : Value → R) : R :=
  match sl, P.underlying t, x with
  | false, some (.pointer _), .pointer A => K (.bool (cond neg A.isSome A.isNone))
  | true, some (.slice _), .slice A _ _ => K (.bool (cond neg A.isSome A.isNone))
  | _, _, _ => none
def nilK (v : Value) (K : Value → R) : R :=
  match v with
  | .pointer A => A.bind fun a => K (.pointer (some a))
  | .func (.func f) first captured => K (.func (.func f) first captured)
  | _ => none
/-- The address of a row's element. -/
def idxA (A : Option Addr) (len size : Nat) (i : Int) : Option Addr := if 0 ≤ i ∧ i < len then A.map fun a => ⟨a.block, a.off + i.toNat * size, none⟩ else none
def idxK (P : Program) (t : TypeId) (x i : Value) (K : Value → R) : R :=
  match P.underlying t, x, i with
  | some (.slice e), .slice A len _, .int _ i => (sizeP P e).bind fun size => (idxA A len size i).bind fun a => K (.pointer (some a))
  | some (.array len e), .pointer A, .int _ i => (sizeP P e).bind fun size => (idxA A len size i).bind fun a => K (.pointer (some a))
  | _, _, _ => none
def fldK (P : Program) (t : TypeId) (x : Value) (f : Nat) (K : Value → R) : R :=
  match P.underlying t, x with
  | some (.struct fs), .pointer A => (fs[f]?).bind fun fd => (sizeP P fd.type).bind fun n => if n = 0 then none else A.bind fun a => K (.pointer (some ⟨a.block, a.off + fd.offset, none⟩))
  | _, _ => none

inductive OpC where
  | isnil (sl neg : Bool) (t : TypeId) (x : Operand) | nil (x : Operand) | idx (t : TypeId) (x i : Operand) | fld (t : TypeId) (x : Operand) (f : Nat) | load (t : TypeId) (a : Operand) | store (t : TypeId) (a x : Operand) | copy (x : Operand) | pick (c a b : Operand) | pure | mem | call
def OpC.of (o : Op) : OpC :=
  match o with
  | .binOp .eql t x (.const (.pointer none)) _ => .isnil false false t x
  | .binOp .neq t x (.const (.pointer none)) _ => .isnil false true t x
  | .binOp .eql t x (.const (.slice none 0 0)) _ => .isnil true false t x
  | .binOp .neq t x (.const (.slice none 0 0)) _ => .isnil true true t x
  | .nilCheck x => .nil x
  | .indexAddr t x i => .idx t x i
  | .fieldAddr t x f => .fld t x f
  | .load t a => .load t a
  | .store t a x => .store t a x
  | .pick c a b => .pick c a b
  | o => match Class.of o with
    | .copy x => .copy x
    | .pure => .pure
    | .mem => .mem
    | .call => .call

/-- Is the operation wanted? What its guard holds is told once for all. -/
def guardK (ops : Array Oper) (o : Oper) (t : Array Value) (K : Bool → Array Value → R) : R :=
  match o.guard with
  | none => K true t
  | some (j, want) => match (ops[j]?).bind (·.dst) with
    | none => K false t
    | some d => match t[d]? with
      | some (.bool b) => cond b (K want (t.setIfInBounds d (.bool true))) (K (!want) (t.setIfInBounds d (.bool false)))
      | _ => K false t

def opK (P : Program) (call : CallM) (ops : Array Oper) (o : Oper) (t : Array Value) (M : Mem) (K : Array Value → Mem → R) : R :=
  guardK ops o t fun w t =>
  if w then
    if o.op.operands.toList.all okOperand then
      match OpC.of o.op with
      | .isnil sl g ty x => isnilK P sl g ty (evalT t x) fun v => K (putT t o.dst v) M
      | .nil x => nilK (evalT t x) fun v => K (putT t o.dst v) M
      | .idx ty x i => idxK P ty (evalT t x) (evalT t i) fun v => K (putT t o.dst v) M
      | .fld ty x f => fldK P ty (evalT t x) f fun v => K (putT t o.dst v) M
      | .load ty a => ptrK (evalT t a) fun a => loadK P ty M a.block a.off fun v => K (putT t o.dst v) M
      | .store ty a x => ptrK (evalT t a) fun a => if sizeP P ty = some (evalT t x).cells.size then putK M a.block a.off (evalT t x).cells.toList fun M' => K (putT t o.dst undef) M' else none
      | .copy x => K (putT t o.dst (evalT t x)) M
      | .pick c a b => condK (evalT t c) (K (putT t o.dst (evalT t a)) M) (K (putT t o.dst (evalT t b)) M)
      | .pure => (pureOp P (evalT t) o).bind fun v => asT (opTy P o) v fun v => K (putT t o.dst v) M
      | .mem => (memOp P (evalT t) M o.op).bind fun r => asT (opTy P o) r.1 fun v => K (putT t o.dst v) r.2
      | .call => (callOp P (evalT t) o.op).bind fun c => (call c.1 c.2 M).bind fun r => asT (opTy P o) r.1 fun v => K (putT t o.dst v) r.2
    else none
  else K (putT t o.dst undef) M
def opsK (P : Program) (call : Nat → CallM) (ops : Array Oper) : List Oper → Nat → Array Value → Mem → (Array Value → Mem → R) → R
  | [], _, t, M, K => K t M
  | o :: r, i, t, M, K => opK P (call i) ops o t M fun t M => opsK P call ops r (i + 1) t M K

def chkK (ops : Array Oper) (i : Nat) (w : Option Nat) : Seen → R → R
  | [], r => r
  | (p, b) :: rd, r => if unord ops p i then cond (decide (w = b)) none (chkK ops i w rd r) else chkK ops i w rd r
/-- Some operations of a region, by their numbers. -/
def opsI (P : Program) (call : Nat → CallM) (ops : Array Oper) : List Nat → Seen → Array Value → Mem → (Array Value → Mem → R) → R
  | [], _, t, M, K => K t M
  | i :: r, rd, t, M, K => match ops[i]? with
    | some o => if isW o then chkK ops i (wrBlk t o) rd (opK P (call i) ops o t M fun t' M' => opsI P call ops r (note ops i o t M rd) t' M' K)
      else opK P (call i) ops o t M fun t' M' => opsI P call ops r (note ops i o t M rd) t' M' K
    | none => none

def exitOf (id : Nat) : List Item → Option (List Item)
  | .inBlock id' :: k => if id' = id then some k else exitOf id k
  | _ :: k => exitOf id k
  | [] => none

def finish (P : Program) (fn : Func) (t : Array Value) (M : Mem) : R := (resultsP P fn t M).map fun v => (v, M)

def enterZ (P : Program) (z : Func → List Item → Array Value → Mem → R) : CallM := fun f args M =>
  match P.funcs[f]? with
  | some fn => match fn.body with
    | some c => z fn [.code c] (args ++ Array.replicate (fn.ntmps - args.size) undef) M
    | none => none
  | none => none

/-- Functions without arguments whose answer is known ahead: what they answer. -/
class Orc (P : Program) where
  tab : List (FuncId × Value)
def withO (tab : List (FuncId × Value)) (c : CallM) : CallM := fun f args M =>
  match tab.lookup f with
  | some v => if args.size = 0 then some (v, M) else none
  | none => c f args M

/-- The machine with its stack. -/
def zrun (P : Program) [Orc P] : Nat → Func → List Item → Array Value → Mem → R
  | 0, _, _, _, _ => none
  | n + 1, fn, stk, t, M =>
    match stk with
    | [] => finish P fn t M
    | .code .skip :: s => zrun P n fn s t M
    | .code (.label _) :: s => zrun P n fn s t M
    | .code (.region _ ops draw) :: s =>
      if draw then if drawOk ops then opsI P (callAt (withO (Orc.tab P) (enterZ P (zrun P n))) ops) ops (ordOf ops) [] t M (zrun P n fn s) else none
      else opsK P (fun _ => withO (Orc.tab P) (enterZ P (zrun P n))) ops ops.toList 0 t M (zrun P n fn s)
    | .code (.seq a b) :: s => zrun P n fn (.code a :: .code b :: s) t M
    | .code (.cond c a b) :: s => if okOperand c then condK (evalT t c) (zrun P n fn (.code a :: s) t M) (zrun P n fn (.code b :: s) t M) else none
    | .code (.block id a) :: s => zrun P n fn (.code a :: .inBlock id :: s) t M
    | .inBlock _ :: s => zrun P n fn s t M
    | .code (.loop a) :: s => zrun P n fn (.code a :: .inLoop a :: s) t M
    | .inLoop a :: s => zrun P n fn (.code a :: .inLoop a :: s) t M
    | .code (.scope a) :: s => zrun P n fn (.code a :: .inScope a :: s) t M
    | .inScope _ :: s => zrun P n fn s t M
    | .code (.exit id) :: s => match exitOf id s with
      | some s' => zrun P n fn s' t M
      | none => none
    | .code .ret :: _ => finish P fn t M
    | _ => none
def zcall (P : Program) [Orc P] (n : Nat) : CallM := withO (Orc.tab P) (enterZ P (zrun P n))

/-! ### Names for the printed equations -/
def subC : Code → List Nat → Code
  | c, [] => c
  | .seq a _, 0 :: p => subC a p
  | .seq _ b, _ :: p => subC b p
  | .cond _ a _, 0 :: p => subC a p
  | .cond _ _ b, _ :: p => subC b p
  | .block _ a, _ :: p => subC a p
  | .loop a, _ :: p => subC a p
  | .scope a, _ :: p => subC a p
  | _, _ => .skip
def codeOf (fn : Func) : Code := fn.body.getD .skip
def binV (P : Program) (op : BinOp) (t tb : TypeId) (a b : Value) : Option Value :=
  pureOp P (fun x => match x with | .tmp 0 => a | _ => b) ⟨none, .binOp op t (.tmp 0) (.tmp 1) tb, 0, "", #[], none⟩

/-! ### Soundness -/
section
variable {P : Program}

theorem asSc_sound {s : Sc} {v : Value} {K : Value → R} {r : Value × Mem} (h : asSc s v K = some r) : K v = some r := by
  cases s with
  | int k =>
    obtain ⟨x, hx, h⟩ := Option.bind_eq_some_iff.1 h
    unfold asI at hx
    split at hx
    · split at hx
      · rename_i hk; obtain rfl := Option.some.inj hx; rw [hk]; exact h
      · cases hx
    · cases hx
  | bool =>
    obtain ⟨x, hx, h⟩ := Option.bind_eq_some_iff.1 h
    unfold asB at hx
    split at hx
    · obtain rfl := Option.some.inj hx; exact h
    · cases hx
  | ptr =>
    obtain ⟨x, hx, h⟩ := Option.bind_eq_some_iff.1 h
    unfold asP at hx
    split at hx
    · obtain rfl := Option.some.inj hx; exact h
    · cases hx
  | sl =>
    obtain ⟨x, hx, h⟩ := Option.bind_eq_some_iff.1 h
    unfold asS at hx
    split at hx
    · obtain rfl := Option.some.inj hx; exact h
    · cases hx
  | any => exact h
theorem asCells_sound {cs : Array Value} : ∀ {l : List Sc} {i : Nat} {K : List Value → R} {r : Value × Mem}, i + l.length = cs.size → asCells l i cs K = some r → K (cs.toList.drop i) = some r
  | [], i, K, r, hl, h => by
    simp only [asCells] at h
    rw [List.drop_of_length_le (by simp at hl ⊢; omega)]; exact h
  | s :: l, i, K, r, hl, h => by
    simp only [asCells] at h
    have h1 := asSc_sound h
    have hlt : i < cs.toList.length := by simp at hl ⊢; omega
    have h2 := asCells_sound (l := l) (i := i + 1) (by simp at hl ⊢; omega) h1
    rw [List.drop_eq_getElem_cons hlt]
    have e : cs.getD i undef = cs.toList[i] := by
      have hlt2 : i < cs.size := by simpa using hlt
      simp [hlt2]
    rw [e] at h2; exact h2
theorem as1_sound {s : Sc ⊕ List Sc} {v : Value} {K : Value → R} {r : Value × Mem} (h : as1 s v K = some r) : K v = some r := by
  cases s with
  | inl s => exact asSc_sound h
  | inr l =>
    obtain ⟨cs, hcs, h⟩ := Option.bind_eq_some_iff.1 h
    unfold asA at hcs
    split at hcs
    · split at hcs
      · rename_i hn
        obtain rfl := Option.some.inj hcs
        have := asCells_sound (by omega) h
        simpa using this
      · cases hcs
    · cases hcs
theorem asTup_sound {cs : Array Value} : ∀ {l : List (Sc ⊕ List Sc)} {i : Nat} {K : List Value → R} {r : Value × Mem}, i + l.length = cs.size → asTup l i cs K = some r → K (cs.toList.drop i) = some r
  | [], i, K, r, hl, h => by
    simp only [asTup] at h
    rw [List.drop_of_length_le (by simp at hl ⊢; omega)]; exact h
  | s :: l, i, K, r, hl, h => by
    simp only [asTup] at h
    have h1 := as1_sound h
    have hlt : i < cs.toList.length := by simp at hl ⊢; omega
    have h2 := asTup_sound (l := l) (i := i + 1) (by simp at hl ⊢; omega) h1
    rw [List.drop_eq_getElem_cons hlt]
    have e : cs.getD i undef = cs.toList[i] := by
      have hlt2 : i < cs.size := by simpa using hlt
      simp [hlt2]
    rw [e] at h2; exact h2
theorem asT_sound {ty : Ty} {v : Value} {K : Value → R} {r : Value × Mem} (h : asT ty v K = some r) : K v = some r := by
  unfold asT at h
  split at h
  · exact asSc_sound h
  · exact as1_sound h
  · exact h
  · obtain ⟨cs, hcs, h⟩ := Option.bind_eq_some_iff.1 h
    unfold asU at hcs
    split at hcs
    · split at hcs
      · rename_i hn
        obtain rfl := Option.some.inj hcs
        have := asTup_sound (by omega) h
        simpa using this
      · cases hcs
    · cases hcs

theorem loadSc_sound {s : Sc} {M : Mem} {blk off : Nat} {K : Value → R} {r : Value × Mem} (h : loadSc s M blk off K = some r) : ∃ v, M.cell blk off = some v ∧ K v = some r := by
  have go : ∀ {α : Type} (f : Value → Option α) (g : α → Value) (hfg : ∀ v x, f v = some x → g x = v) {x : α}, (M.cell blk off).bind f = some x → K (g x) = some r → ∃ v, M.cell blk off = some v ∧ K v = some r := by
    intro α f g hfg x hx hK
    obtain ⟨v, hv, hf⟩ := Option.bind_eq_some_iff.1 hx
    exact ⟨v, hv, by rw [← hfg v x hf]; exact hK⟩
  cases s with
  | int k =>
    obtain ⟨x, hx, h⟩ := Option.bind_eq_some_iff.1 h
    refine go (asI k) (.int k) (fun v x hv => ?_) hx h
    unfold asI at hv
    split at hv
    · split at hv
      · rename_i hk; obtain rfl := Option.some.inj hv; rw [hk]
      · cases hv
    · cases hv
  | bool =>
    obtain ⟨x, hx, h⟩ := Option.bind_eq_some_iff.1 h
    refine go asB .bool (fun v x hv => ?_) hx h
    unfold asB at hv
    split at hv
    · obtain rfl := Option.some.inj hv; rfl
    · cases hv
  | ptr =>
    obtain ⟨x, hx, h⟩ := Option.bind_eq_some_iff.1 h
    refine go asP .pointer (fun v x hv => ?_) hx h
    unfold asP at hv
    split at hv
    · obtain rfl := Option.some.inj hv; rfl
    · cases hv
  | sl =>
    obtain ⟨x, hx, h⟩ := Option.bind_eq_some_iff.1 h
    refine go asS (fun s => .slice s.1 s.2.1 s.2.2) (fun v x hv => ?_) hx h
    unfold asS at hv
    split at hv
    · obtain rfl := Option.some.inj hv; rfl
    · cases hv
  | any =>
    obtain ⟨x, hx, h⟩ := Option.bind_eq_some_iff.1 h
    exact ⟨x, hx, h⟩
theorem loadCellsK_sound {M : Mem} {blk : Nat} : ∀ {l : List Sc} {off : Nat} {K : List Value → R} {r : Value × Mem}, loadCellsK l M blk off K = some r → ∃ vs, M.cellsN blk off l.length = some vs ∧ K vs = some r
  | [], off, K, r, h => ⟨[], rfl, h⟩
  | s :: l, off, K, r, h => by
    simp only [loadCellsK] at h
    obtain ⟨v, hv, h⟩ := loadSc_sound h
    obtain ⟨vs, hvs, h⟩ := loadCellsK_sound h
    exact ⟨v :: vs, by simp only [List.length_cons, Mem.cellsN, hv, Option.bind_some, hvs], h⟩
theorem loadK_sound {t : TypeId} {M : Mem} {blk off : Nat} {K : Value → R} {r : Value × Mem} (h : loadK P t M blk off K = some r) : ∃ v, loadP P t M blk off = some v ∧ K v = some r := by
  unfold loadK at h
  split at h
  · split at h
    · rename_i ha
      obtain ⟨v, hv, h⟩ := loadSc_sound h
      exact ⟨v, by unfold loadP; rw [ha]; simpa using hv, h⟩
    · cases h
  · split at h
    · rename_i ha
      obtain ⟨vs, hvs, h⟩ := loadCellsK_sound h
      exact ⟨.agg vs.toArray, by unfold loadP; rw [ha.1, ha.2]; simp [hvs], h⟩
    · cases h
theorem putK_sound {blk : Nat} : ∀ {l : List Value} {M : Mem} {off : Nat} {K : Mem → R} {r : Value × Mem}, putK M blk off l K = some r → ∃ M', M.putN blk off l = some M' ∧ K M' = some r
  | [], M, off, K, r, h => ⟨M, rfl, h⟩
  | v :: l, M, off, K, r, h => by
    simp only [putK] at h
    obtain ⟨M1, h1, h⟩ := Option.bind_eq_some_iff.1 h
    obtain ⟨M', hM', h⟩ := putK_sound h
    exact ⟨M', by simp only [Mem.putN, h1, Option.bind_some, hM'], h⟩

theorem guardK_sound {ops : Array Oper} {o : Oper} {t : Array Value} {K : Bool → Array Value → R} {r : Value × Mem} (h : guardK ops o t K = some r) : K (Region.wanted o (yielded ops t)) t = some r := by
  have set_same : ∀ {d : Nat} {v : Value}, t[d]? = some v → t.setIfInBounds d v = t := by
    intro d v hv
    apply Array.ext_getElem?
    intro i
    rw [Array.getElem?_setIfInBounds]
    split
    · rename_i hi
      subst hi
      rw [if_pos (Array.getElem?_eq_some_iff.1 hv).1, hv]
    · rfl
  unfold guardK at h
  unfold Region.wanted yielded
  cases hg : o.guard with
  | none => simp only [hg] at h; exact h
  | some jw =>
    obtain ⟨j, want⟩ := jw
    simp only [hg] at h ⊢
    cases hd : (ops[j]?).bind (·.dst) with
    | none => simp only [hd] at h; simpa using h
    | some d =>
      simp only [hd, Option.bind_some] at h ⊢
      cases ht : t[d]? with
      | none => simp only [ht] at h; simpa using h
      | some v =>
        rw [ht] at h
        cases v with
        | bool b =>
          cases b with
          | true =>
            have h' : K want (t.setIfInBounds d (.bool true)) = some r := h
            rw [set_same ht] at h'
            cases want <;> exact h'
          | false =>
            have h' : K (!want) (t.setIfInBounds d (.bool false)) = some r := h
            rw [set_same ht] at h'
            cases want <;> exact h'
        | _ => exact h

theorem pureOp_open {ρ : Operand → Value} {o : Oper} {x : Operand} (hx : x ∈ o.op.operands.toList) (hp : plain (ρ x) = false) {v : Value} (h : openOp P ρ o.op = some v) : pureOp P ρ o = some v := by
  unfold pureOp
  split
  · rename_i ha
    have := List.all_eq_true.1 ha x hx
    rw [hp] at this; cases this
  · exact h
theorem nilK_sound {v : Value} {K : Value → R} {r : Value × Mem} (h : nilK v K = some r) : ∃ u, nilV v = some u ∧ plain v = false ∧ K u = some r := by
  unfold nilK at h
  split at h
  · obtain ⟨a, rfl, h⟩ := Option.bind_eq_some_iff.1 h
    exact ⟨_, rfl, rfl, h⟩
  · exact ⟨_, rfl, rfl, h⟩
  · cases h
theorem idxK_sound {t : TypeId} {x i : Value} {K : Value → R} {r : Value × Mem} (h : idxK P t x i K = some r) : ∃ u, indexAddrP P t x i = some u ∧ plain x = false ∧ K u = some r := by
  unfold idxK at h
  split at h
  · rename_i hu
    obtain ⟨size, hs, h⟩ := Option.bind_eq_some_iff.1 h
    obtain ⟨a, ha, h⟩ := Option.bind_eq_some_iff.1 h
    unfold idxA at ha
    split at ha
    case isFalse => cases ha
    rename_i hc
    obtain ⟨b, rfl, rfl⟩ := Option.map_eq_some_iff.1 ha
    exact ⟨_, by unfold indexAddrP; simp only [hu, hs, Option.bind_some, if_pos hc], rfl, h⟩
  · rename_i hu
    obtain ⟨size, hs, h⟩ := Option.bind_eq_some_iff.1 h
    obtain ⟨a, ha, h⟩ := Option.bind_eq_some_iff.1 h
    unfold idxA at ha
    split at ha
    case isFalse => cases ha
    rename_i hc
    obtain ⟨b, rfl, rfl⟩ := Option.map_eq_some_iff.1 ha
    exact ⟨_, by unfold indexAddrP; simp only [hu, hs, Option.bind_some, if_pos hc], rfl, h⟩
  · cases h
theorem fldK_sound {t : TypeId} {x : Value} {f : Nat} {K : Value → R} {r : Value × Mem} (h : fldK P t x f K = some r) : ∃ u, fieldAddrP P t x f = some u ∧ plain x = false ∧ K u = some r := by
  unfold fldK at h
  split at h
  · rename_i hu
    obtain ⟨fd, hf, h⟩ := Option.bind_eq_some_iff.1 h
    obtain ⟨n, hn, h⟩ := Option.bind_eq_some_iff.1 h
    split at h
    · cases h
    rename_i h0
    obtain ⟨a, rfl, h⟩ := Option.bind_eq_some_iff.1 h
    exact ⟨_, by unfold fieldAddrP; simp only [hu, hf, hn, Option.bind_some, if_neg h0], rfl, h⟩
  · cases h

theorem isnilK_sound {sl neg : Bool} {t : TypeId} {x : Value} {K : Value → R} {r : Value × Mem} (h : isnilK P sl neg t x K = some r) :
    ∃ b, eqNil P t x (cond sl (.slice none 0 0) (.pointer none)) = some b ∧ plain x = false ∧ K (.bool (cond neg (!b) b)) = some r := by
  unfold isnilK at h
  split at h
  · rename_i A hu
    cases A with
    | none => exact ⟨true, by simp only [eqNil, hu, cond_false], rfl, by cases neg <;> exact h⟩
    | some a => exact ⟨false, by simp only [eqNil, hu, cond_false], rfl, by cases neg <;> exact h⟩
  · rename_i A _ _ hu
    cases A with
    | none => exact ⟨true, by simp only [eqNil, hu, cond_true], rfl, by cases neg <;> exact h⟩
    | some a => exact ⟨false, by simp only [eqNil, hu, cond_true], rfl, by cases neg <;> exact h⟩
  · cases h

theorem opK_sound {call : CallM} {ops : Array Oper} {o : Oper} {t : Array Value} {M : Mem} {K : Array Value → Mem → R} {r : Value × Mem} (h : opK P call ops o t M K = some r) :
    ∃ t1 M1, stepOp P call ops o t M = some (t1, M1) ∧ K t1 M1 = some r := by
  unfold opK at h
  replace h := guardK_sound h
  unfold stepOp
  split at h
  · rename_i hw
    rw [if_pos hw]
    split at h
    case isFalse => cases h
    rename_i hok
    rw [if_pos hok]
    obtain ⟨dst, op, type, pos, after, guard⟩ := o
    simp only at h hok ⊢
    have other : (∀ b t x y u, op ≠ .binOp b t x y u) → (∀ x, op ≠ .nilCheck x) → (∀ t x i, op ≠ .indexAddr t x i) → (∀ t x f, op ≠ .fieldAddr t x f) → (∀ t a, op ≠ .load t a) → (∀ t a x, op ≠ .store t a x) → (∀ c a b, op ≠ .pick c a b) → ∃ t1 M1, ((op0 P (evalT t) ⟨dst, op, type, pos, after, guard⟩ M).bind fun x => match x with
        | .val v M' => some (putT t dst v, M')
        | .call f args => (call f args M).bind fun r => some (putT t dst r.1, r.2)) = some (t1, M1) ∧ K t1 M1 = some r := by
      intro g0 g1 g2 g3 h1 h2 h3
      have hcls : OpC.of op = match Class.of op with | .copy x => .copy x | .pure => .pure | .mem => .mem | .call => .call := by
        unfold OpC.of
        split
        · exact absurd rfl (g0 _ _ _ _ _)
        · exact absurd rfl (g0 _ _ _ _ _)
        · exact absurd rfl (g0 _ _ _ _ _)
        · exact absurd rfl (g0 _ _ _ _ _)
        · exact absurd rfl (g1 _)
        · exact absurd rfl (g2 _ _ _)
        · exact absurd rfl (g3 _ _ _)
        · exact absurd rfl (h1 _ _)
        · exact absurd rfl (h2 _ _ _)
        · exact absurd rfl (h3 _ _ _)
        · rfl
      rw [hcls] at h
      unfold op0
      simp only
      cases hc : Class.of op with
      | copy x =>
        rw [hc] at h
        exact ⟨_, _, rfl, h⟩
      | pure =>
        rw [hc] at h
        obtain ⟨v, hv, h⟩ := Option.bind_eq_some_iff.1 h
        exact ⟨_, _, by simp only [hv, Option.map_some, Option.bind_some], asT_sound h⟩
      | mem =>
        rw [hc] at h
        obtain ⟨v, hv, h⟩ := Option.bind_eq_some_iff.1 h
        exact ⟨_, _, by simp only [hv, Option.map_some, Option.bind_some], asT_sound h⟩
      | call =>
        rw [hc] at h
        obtain ⟨c, hcl, h⟩ := Option.bind_eq_some_iff.1 h
        obtain ⟨v, hv, h⟩ := Option.bind_eq_some_iff.1 h
        exact ⟨_, _, by simp only [hcl, Option.map_some, Option.bind_some, hv], asT_sound h⟩
    cases op with
    | binOp bo ty x y u =>
      have pureCase : OpC.of (.binOp bo ty x y u) = .pure → ∃ t1 M1, ((op0 P (evalT t) ⟨dst, .binOp bo ty x y u, type, pos, after, guard⟩ M).bind fun x => match x with
          | .val v M' => some (putT t dst v, M')
          | .call f args => (call f args M).bind fun r => some (putT t dst r.1, r.2)) = some (t1, M1) ∧ K t1 M1 = some r := by
        intro e
        rw [e] at h
        obtain ⟨v, hv, h⟩ := Option.bind_eq_some_iff.1 h
        exact ⟨_, _, by simp only [op0, Class.of, hv, Option.map_some, Option.bind_some], asT_sound h⟩
      have nilCase : ∀ sl neg, OpC.of (.binOp bo ty x y u) = .isnil sl neg ty x → y = .const (cond sl (.slice none 0 0) (.pointer none)) → bo = cond neg .neq .eql → ∃ t1 M1, ((op0 P (evalT t) ⟨dst, .binOp bo ty x y u, type, pos, after, guard⟩ M).bind fun x => match x with
          | .val v M' => some (putT t dst v, M')
          | .call f args => (call f args M).bind fun r => some (putT t dst r.1, r.2)) = some (t1, M1) ∧ K t1 M1 = some r := by
        intro sl neg e hy hb
        rw [e] at h
        obtain ⟨b, hb2, hp, h⟩ := isnilK_sound h
        have key : pureOp P (evalT t) ⟨dst, .binOp bo ty x y u, type, pos, after, guard⟩ = some (.bool (cond neg (!b) b)) := by
          refine pureOp_open (x := x) (by simp [Op.operands]) hp ?_
          subst hy hb
          cases neg with
          | false => show (eqNil P ty (evalT t x) (cond sl (.slice none 0 0) (.pointer none))).map Value.bool = _; rw [hb2]; rfl
          | true => show (eqNil P ty (evalT t x) (cond sl (.slice none 0 0) (.pointer none))).map (fun b => Value.bool !b) = _; rw [hb2]; rfl
        exact ⟨_, _, by simp only [op0, Class.of, key, Option.map_some, Option.bind_some], h⟩
      generalize hoc : OpC.of (.binOp bo ty x y u) = oc at pureCase nilCase
      unfold OpC.of at hoc
      split at hoc
      all_goals first
        | (rename_i he; injection he with e1 e2 e3 e4 e5; subst e1 e2 e3 e4; exact nilCase false false hoc.symm rfl rfl)
        | (rename_i he; injection he with e1 e2 e3 e4 e5; subst e1 e2 e3 e4; exact nilCase false true hoc.symm rfl rfl)
        | (rename_i he; injection he with e1 e2 e3 e4 e5; subst e1 e2 e3 e4; exact nilCase true false hoc.symm rfl rfl)
        | (rename_i he; injection he with e1 e2 e3 e4 e5; subst e1 e2 e3 e4; exact nilCase true true hoc.symm rfl rfl)
        | (rename_i he; cases he; done)
        | exact pureCase hoc.symm
    | nilCheck x =>
      simp only [OpC.of] at h
      obtain ⟨u, hu, hp, h⟩ := nilK_sound h
      have key : pureOp P (evalT t) ⟨dst, .nilCheck x, type, pos, after, guard⟩ = some u := pureOp_open (x := x) (by simp [Op.operands]) hp hu
      exact ⟨_, _, by simp only [op0, Class.of, key, Option.map_some, Option.bind_some], h⟩
    | indexAddr ty x i =>
      simp only [OpC.of] at h
      obtain ⟨u, hu, hp, h⟩ := idxK_sound h
      have key : pureOp P (evalT t) ⟨dst, .indexAddr ty x i, type, pos, after, guard⟩ = some u := pureOp_open (x := x) (by simp [Op.operands]) hp hu
      exact ⟨_, _, by simp only [op0, Class.of, key, Option.map_some, Option.bind_some], h⟩
    | fieldAddr ty x f =>
      simp only [OpC.of] at h
      obtain ⟨u, hu, hp, h⟩ := fldK_sound h
      have key : pureOp P (evalT t) ⟨dst, .fieldAddr ty x f, type, pos, after, guard⟩ = some u := pureOp_open (x := x) (by simp [Op.operands]) hp hu
      exact ⟨_, _, by simp only [op0, Class.of, key, Option.map_some, Option.bind_some], h⟩
    | load ty a =>
      simp only [OpC.of] at h
      unfold ptrK at h
      split at h
      case h_2 => cases h
      rename_i ao hao
      obtain ⟨ad, rfl, h⟩ := Option.bind_eq_some_iff.1 h
      obtain ⟨v, hv, h⟩ := loadK_sound h
      exact ⟨_, _, by simp [op0, Class.of, memOp, hao, hv], h⟩
    | store ty a x =>
      simp only [OpC.of] at h
      unfold ptrK at h
      split at h
      case h_2 => cases h
      rename_i ao hao
      obtain ⟨ad, rfl, h⟩ := Option.bind_eq_some_iff.1 h
      split at h
      case isFalse => cases h
      rename_i hsz
      obtain ⟨M', hM', h⟩ := putK_sound h
      exact ⟨_, _, by simp [op0, Class.of, memOp, hao, hsz, hM'], h⟩
    | pick c a b =>
      simp only [OpC.of] at h
      unfold condK at h
      split at h
      case h_2 => cases h
      rename_i bb hb
      have key : pureOp P (evalT t) ⟨dst, .pick c a b, type, pos, after, guard⟩ = some (if bb then evalT t a else evalT t b) := by
        unfold pureOp
        split
        · rename_i hp
          have hpc : ∀ x, x ∈ [c, a, b] → closed (evalT t x) = true := fun x hx => closed_of_plain (List.all_eq_true.1 hp x (by simpa [Op.operands] using hx))
          have hrun : nw P (execOp (evalT t) ⟨dst, .pick c a b, type, pos, after, guard⟩) = some (.value (if bb then evalT t a else evalT t b)) := by
            simp only [execOp, hb, asBool]
            rfl
          rw [hrun]
          simp only
          have : closed (if bb then evalT t a else evalT t b) = true := by
            cases bb
            · exact hpc b (by simp)
            · exact hpc a (by simp)
          rw [if_pos this]
        · simp only [openOp, hb]
      cases bb with
      | true => exact ⟨_, _, by simp only [op0, Class.of, key, Option.map_some, Option.bind_some]; rfl, h⟩
      | false => exact ⟨_, _, by simp only [op0, Class.of, key, Option.map_some, Option.bind_some]; rfl, h⟩
    | _ => exact other (by simp) (by simp) (by simp) (by simp) (by simp) (by simp) (by simp)
  · rename_i hw
    rw [if_neg hw]
    exact ⟨_, _, rfl, h⟩

theorem chkK_sound {ops : Array Oper} {i : Nat} {w : Option Nat} {r : R} {x : Value × Mem} : ∀ {rd : Seen}, chkK ops i w rd r = some x → wOk ops i w rd = true ∧ r = some x
  | [], h => ⟨rfl, h⟩
  | (p, b) :: rd, h => by
    simp only [chkK] at h
    simp only [wOk]
    split at h
    · rename_i hu
      cases hd : decide (w = b) with
      | true => rw [hd] at h; cases h
      | false =>
        rw [hd] at h
        obtain ⟨h1, h2⟩ := chkK_sound (rd := rd) h
        exact ⟨by simp [h1], h2⟩
    · rename_i hu
      obtain ⟨h1, h2⟩ := chkK_sound (rd := rd) h
      exact ⟨by simp [hu, h1], h2⟩
theorem opsI_ixs {call : CallM} {ops : Array Oper} : ∀ (r : List Nat) {rd : Seen} {t : Array Value} {M : Mem} {K : Array Value → Mem → R} {x : Value × Mem}, opsI P (callAt call ops) ops r rd t M K = some x →
    ∃ t1 M1, runIxs P call ops r rd t M = some (t1, M1) ∧ K t1 M1 = some x
  | [], rd, t, M, K, x, h => ⟨t, M, rfl, h⟩
  | i :: r, rd, t, M, K, x, h => by
    simp only [opsI] at h
    split at h
    case h_2 => cases h
    rename_i o hok
    have key : (!isW o || wOk ops i (wrBlk t o) rd) = true ∧ opK P (callAt call ops i) ops o t M (fun t' M' => opsI P (callAt call ops) ops r (note ops i o t M rd) t' M' K) = some x := by
      split at h
      · obtain ⟨h1, h2⟩ := chkK_sound h
        exact ⟨by simp [h1], h2⟩
      · rename_i hw
        exact ⟨by simp [hw], h⟩
    obtain ⟨g, h⟩ := key
    obtain ⟨t1, M1, hs, h⟩ := opK_sound h
    obtain ⟨t2, M2, h2, h3⟩ := opsI_ixs r h
    exact ⟨t2, M2, by simp only [runIxs, hok, if_pos g, hs, Option.bind_some, h2], h3⟩
theorem opsK_ops {call : CallM} {ops : Array Oper} : ∀ (r : List Oper) (i : Nat) {t : Array Value} {M : Mem} {K : Array Value → Mem → R} {x : Value × Mem}, opsK P (fun _ => call) ops r i t M K = some x →
    ∃ t1 M1, runOps P call ops r t M = some (t1, M1) ∧ K t1 M1 = some x
  | [], i, t, M, K, x, h => ⟨t, M, rfl, h⟩
  | o :: r, i, t, M, K, x, h => by
    simp only [opsK] at h
    obtain ⟨t1, M1, hs, h⟩ := opK_sound h
    obtain ⟨t2, M2, h2, h3⟩ := opsK_ops r (i + 1) h
    exact ⟨t2, M2, by simp only [runOps, hs, Option.bind_some, h2], h3⟩

theorem region_sound {call : CallM} {ops : Array Oper} {draw : Bool} {t : Array Value} {M : Mem} {K : Array Value → Mem → R} {x : Value × Mem}
    (h : (if draw then if drawOk ops then opsI P (callAt call ops) ops (ordOf ops) [] t M K else none else opsK P (fun _ => call) ops ops.toList 0 t M K) = some x) :
    ∃ t1 M1, runRegion P call ops draw t M = some (t1, M1) ∧ K t1 M1 = some x := by
  unfold runRegion
  cases draw with
  | true =>
    simp only [if_true] at h ⊢
    split at h
    · rename_i hd
      rw [if_pos hd]
      exact opsI_ixs _ h
    · cases h
  | false =>
    simp only [Bool.false_eq_true, if_false] at h ⊢
    exact opsK_ops ops.toList 0 h

end
end Go.Sim
