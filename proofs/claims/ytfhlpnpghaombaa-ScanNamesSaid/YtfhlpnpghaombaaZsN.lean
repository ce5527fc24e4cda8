/- The abstract machine 'Sim': what a run comes to, told without its count of steps, and a rule for each form of code. -/
import Derived.Test.YtfhlpnpghaombaaZsM
set_option linter.unusedVariables false
namespace Go.Sim
open Go Go.RowKit

/-- From some count of steps on it comes to this. -/
def Ev (F : Nat → R) (v : Value) (M : Mem) : Prop := ∃ N, ∀ n, N ≤ n → F n = some (v, M)
def Reach (F : Nat → R) (Q : Value → Mem → Prop) : Prop := ∃ v M, Q v M ∧ Ev F v M
def Rn (P : Program) (fn : Func) (s : List Item) (T : Array Value) (M : Mem) (Q : Value → Mem → Prop) : Prop := Reach (fun n => zrun P n fn s T M) Q
def Cn (P : Program) (f : FuncId) (args : Array Value) (M : Mem) (Q : Value → Mem → Prop) : Prop := Reach (fun n => zcall P n f args M) Q

section
variable {P : Program} {fn : Func} {s : List Item} {T : Array Value} {M : Mem} {Q : Value → Mem → Prop} {F G : Nat → R}

theorem Reach.mono {Q' : Value → Mem → Prop} (h : Reach F Q) (hQ : ∀ v M, Q v M → Q' v M) : Reach F Q' := by
  obtain ⟨v, M, h1, h2⟩ := h
  exact ⟨v, M, hQ v M h1, h2⟩
theorem Cn.mono {Q' : Value → Mem → Prop} {f : FuncId} {args : Array Value} (h : Cn P f args M Q) (hQ : ∀ v M, Q v M → Q' v M) : Cn P f args M Q' := Reach.mono h hQ
theorem Rn.mono {Q' : Value → Mem → Prop} (h : Rn P fn s T M Q) (hQ : ∀ v M, Q v M → Q' v M) : Rn P fn s T M Q' := Reach.mono h hQ
theorem Reach.succ (h : Reach F Q) (he : ∀ n, G (n + 1) = F n) : Reach G Q := by
  obtain ⟨v, M, h1, N, h2⟩ := h
  refine ⟨v, M, h1, N + 1, fun n hn => ?_⟩
  obtain ⟨k, rfl⟩ : ∃ k, n = k + 1 := ⟨n - 1, by omega⟩
  rw [he]; exact h2 k (by omega)
theorem Reach.eq (h : Reach F Q) (he : ∀ n, G n = F n) : Reach G Q := by
  have : G = F := funext he
  rw [this]; exact h
theorem Rch.fin {v : Value} (h : Q v M) : Reach (fun _ => some (v, M)) Q := ⟨v, M, h, 0, fun _ _ => rfl⟩
theorem Rch.leaf (h : Rn P fn s T M Q) : Reach (fun n => zrun P n fn s T M) Q := h
theorem Rch.cB {b : Bool} (h1 : b = true → Reach F Q) (h2 : b = false → Reach G Q) : Reach (fun n => cond b (F n) (G n)) Q := by
  cases b
  · exact h2 rfl
  · exact h1 rfl
theorem Rch.cD {p : Prop} [Decidable p] (h1 : p → Reach F Q) (h2 : ¬p → Reach G Q) : Reach (fun n => cond (decide p) (F n) (G n)) Q :=
  Rch.cB (fun h => h1 (of_decide_eq_true h)) (fun h => h2 (of_decide_eq_false h))
theorem Rch.cE {x y : Int} (h1 : x = y → Reach F Q) (h2 : x ≠ y → Reach G Q) : Reach (fun n => cond (x == y) (F n) (G n)) Q :=
  Rch.cB (fun h => h1 (eq_of_beq h)) (fun h => h2 (fun e => by rw [e] at h; simp at h))
theorem Rch.cN {x y : Int} (h1 : x ≠ y → Reach F Q) (h2 : x = y → Reach G Q) : Reach (fun n => cond (x != y) (F n) (G n)) Q :=
  Rch.cB (fun h => h1 (fun e => by rw [e] at h; simp at h)) (fun h => h2 (by simpa using h))
theorem Rch.cT {b : Bool} (hb : b = true) (h1 : Reach F Q) : Reach (fun n => cond b (F n) (G n)) Q := by rw [hb]; exact h1
theorem Rch.cF {b : Bool} (hb : b = false) (h1 : Reach G Q) : Reach (fun n => cond b (F n) (G n)) Q := by rw [hb]; exact h1
theorem Rch.bind {α : Type} {e : Option α} {x : α} {H : α → Nat → R} (he : e = some x) (h : Reach (H x) Q) : Reach (fun n => e.bind fun x => H x n) Q := by
  rw [he]; exact h
theorem Rch.call {f : FuncId} {args : Array Value} {H : Value × Mem → Nat → R} {Q' : Value → Mem → Prop} (h : Cn P f args M Q') (hK : ∀ v M', Q' v M' → Reach (H (v, M')) Q) :
    Reach (fun n => (zcall P n f args M).bind fun r => H r n) Q := by
  obtain ⟨v, M', h1, N, h2⟩ := h
  obtain ⟨v2, M2, h3, N2, h4⟩ := hK v M' h1
  refine ⟨v2, M2, h3, max N N2, fun n hn => ?_⟩
  have e1 := h2 n (by omega)
  simp only [e1, Option.bind_some]
  exact h4 n (by omega)

theorem ne_of_bneT {α : Type} [BEq α] [LawfulBEq α] {x y : α} (h : (x != y) = true) : x ≠ y := fun e => by rw [e] at h; simp at h
theorem eq_of_bneF {α : Type} [BEq α] [LawfulBEq α] {x y : α} (h : (x != y) = false) : x = y := by simpa using h
/-- A string's byte. -/
def strV (P : Program) (t : TypeId) (a b : Value) : Option Value :=
  pureOp P (fun x => match x with | .tmp 0 => a | _ => b) ⟨none, .index t (.tmp 0) (.tmp 1), 0, "", #[], none⟩
def opsOf : Code → Array Oper
  | .region _ ops _ => ops
  | _ => #[]

theorem Rn.region {c : Code} {nm : _} {F : CallM → (Array Value → Mem → R) → R} (hc : c = .region nm (opsOf c) false)
    (he : ∀ call K, opsK P (fun _ => call) (opsOf c) (opsOf c).toList 0 T M K = F call K)
    (h : Reach (fun n => F (zcall P n) (zrun P n fn s)) Q) : Rn P fn (.code c :: s) T M Q := by
  refine Reach.succ h fun n => ?_
  generalize opsOf c = ops at hc he
  subst hc
  exact he _ _
theorem Rn.regionD {c : Code} {nm : _} {F : CallM → (Array Value → Mem → R) → R} (hc : c = .region nm (opsOf c) true ∧ drawOk (opsOf c) = true)
    (he : ∀ call K, opsK P (callAt call (opsOf c)) (opsOf c) (opsOf c).toList 0 T M K = F call K)
    (h : Reach (fun n => F (zcall P n) (zrun P n fn s)) Q) : Rn P fn (.code c :: s) T M Q := by
  obtain ⟨hc, hd⟩ := hc
  refine Reach.succ h fun n => ?_
  generalize opsOf c = ops at hc hd he
  subst hc
  simp only [zrun, if_true, hd]
  exact he _ _
theorem Rch.callF {f : FuncId} {args : Array Value} {H : Value × Mem → Nat → R} {Q' : Value → Mem → Prop} (h : Cn P f args { M with floor := M.nb.size } Q') (hK : ∀ v M', Q' v M' → Reach (H (v, { M' with floor := M.floor })) Q) :
    Reach (fun n => (floored (zcall P n) f args M).bind fun r => H r n) Q := by
  obtain ⟨v, M', h1, N, h2⟩ := h
  obtain ⟨v2, M2, h3, N2, h4⟩ := hK v M' h1
  refine ⟨v2, M2, h3, max N N2, fun n hn => ?_⟩
  have e1 := h2 n (by omega)
  simp only [floored, e1, Option.map_some, Option.bind_some]
  exact h4 n (by omega)
/-! Regions in pieces. -/
def callR (draw : Bool) (ops : Array Oper) (call : CallM) : Nat → CallM :=
  match draw with
  | true => callAt call ops
  | false => fun _ => call
def restK (P : Program) (fn : Func) (ops : Array Oper) (draw : Bool) (j : Nat) (s : List Item) (n : Nat) : Array Value → Mem → R :=
  fun T M => opsK P (callR draw ops (zcall P n)) ops (ops.toList.drop j) j T M (zrun P n fn s)
/-- The region's operations from j on, then the stack. -/
def Rg (P : Program) (fn : Func) (ops : Array Oper) (draw : Bool) (j : Nat) (s : List Item) (T : Array Value) (M : Mem) (Q : Value → Mem → Prop) : Prop := Reach (fun n => restK P fn ops draw j s n T M) Q
theorem opsK_append (call : Nat → CallM) (ops : Array Oper) : ∀ (l1 l2 : List Oper) (i : Nat) (T : Array Value) (M : Mem) (K : Array Value → Mem → R),
    opsK P call ops (l1 ++ l2) i T M K = opsK P call ops l1 i T M (fun T M => opsK P call ops l2 (i + l1.length) T M K)
  | [], l2, i, T, M, K => rfl
  | o :: l1, l2, i, T, M, K => by
    simp only [List.cons_append, opsK]
    congr 1
    funext T M
    rw [opsK_append call ops l1 l2 (i + 1) T M K]
    simp only [List.length_cons, Nat.add_assoc, Nat.add_comm 1]
theorem Rn.regionC {c : Code} {nm : _} {draw : Bool} (hc : c = .region nm (opsOf c) draw ∧ (!draw || drawOk (opsOf c)) = true) (h : Rg P fn (opsOf c) draw 0 s T M Q) : Rn P fn (.code c :: s) T M Q := by
  obtain ⟨hc, hd⟩ := hc
  refine Reach.succ h fun n => ?_
  generalize opsOf c = ops at hc hd
  subst hc
  cases draw with
  | false => rfl
  | true =>
    have hd : drawOk ops = true := by simpa using hd
    simp only [zrun, if_true, hd]
    rfl
theorem Rg.step {ops : Array Oper} {draw : Bool} {i d j : Nat} {F : CallM → (Array Value → Mem → R) → R}
    (he : ∀ call K, opsK P (callR draw ops call) ops ((ops.toList.drop i).take d) i T M K = F call K) (hd : Nat.ble j ops.size = true) (hj : i + d = j)
    (h : Reach (fun n => F (zcall P n) (restK P fn ops draw j s n)) Q) : Rg P fn ops draw i s T M Q := by
  subst hj
  refine Reach.eq h fun n => ?_
  rw [← he]
  unfold restK
  have e : ops.toList.drop i = (ops.toList.drop i).take d ++ ops.toList.drop (i + d) := by
    rw [← List.drop_drop, List.take_append_drop]
  conv => lhs; rw [e]
  rw [opsK_append]
  have hl : ((ops.toList.drop i).take d).length = d := by
    have := Nat.le_of_ble_eq_true hd
    simp; omega
  rw [hl]
theorem Rch.rest {ops : Array Oper} {draw : Bool} {j : Nat} (h : Rg P fn ops draw j s T M Q) : Reach (fun n => restK P fn ops draw j s n T M) Q := h
theorem Rg.done {ops : Array Oper} {draw : Bool} {j : Nat} (hj : Nat.ble ops.size j = true) (h : Rn P fn s T M Q) : Rg P fn ops draw j s T M Q := by
  refine Reach.eq h fun n => ?_
  unfold restK
  rw [List.drop_of_length_le (by have := Nat.le_of_ble_eq_true hj; simpa using this)]
  rfl
theorem Rn.seq {c a b : Code} (hc : c = .seq a b) (h : Rn P fn (.code a :: .code b :: s) T M Q) : Rn P fn (.code c :: s) T M Q := by
  subst hc; exact Reach.succ h fun n => rfl
theorem Rn.block {c a : Code} {id : _} (hc : c = .block id a) (h : Rn P fn (.code a :: .inBlock id :: s) T M Q) : Rn P fn (.code c :: s) T M Q := by
  subst hc; exact Reach.succ h fun n => rfl
theorem Rn.loop {c a : Code} (hc : c = .loop a) (h : Rn P fn (.code a :: .inLoop a :: s) T M Q) : Rn P fn (.code c :: s) T M Q := by
  subst hc; exact Reach.succ h fun n => rfl
theorem Rn.scope {c a : Code} (hc : c = .scope a) (h : Rn P fn (.code a :: .inScope a :: s) T M Q) : Rn P fn (.code c :: s) T M Q := by
  subst hc; exact Reach.succ h fun n => rfl
theorem Rn.skip {c : Code} (hc : c = .skip) (h : Rn P fn s T M Q) : Rn P fn (.code c :: s) T M Q := by
  subst hc; exact Reach.succ h fun n => rfl
theorem Rn.label {c : Code} {l : _} (hc : c = .label l) (h : Rn P fn s T M Q) : Rn P fn (.code c :: s) T M Q := by
  subst hc; exact Reach.succ h fun n => rfl
theorem Rn.exit {c : Code} {id : _} {s' : List Item} (hc : c = .exit id) (hs : exitOf id s = some s') (h : Rn P fn s' T M Q) : Rn P fn (.code c :: s) T M Q := by
  subst hc; exact Reach.succ h fun n => by simp only [zrun, hs]
theorem Rn.blk {id : _} (h : Rn P fn s T M Q) : Rn P fn (.inBlock id :: s) T M Q := Reach.succ h fun n => rfl
theorem Rn.scp {a : Code} (h : Rn P fn s T M Q) : Rn P fn (.inScope a :: s) T M Q := Reach.succ h fun n => rfl
theorem Rn.lp {a : Code} (h : Rn P fn (.code a :: .inLoop a :: s) T M Q) : Rn P fn (.inLoop a :: s) T M Q := Reach.succ h fun n => rfl
theorem Rn.cnd {c a b : Code} {x : Operand} {v : Bool} (hc : c = .cond x a b ∧ okOperand x = true ∧ evalT T x = .bool v)
    (h1 : v = true → Rn P fn (.code a :: s) T M Q) (h2 : v = false → Rn P fn (.code b :: s) T M Q) : Rn P fn (.code c :: s) T M Q := by
  obtain ⟨rfl, h3, h4⟩ := hc
  cases v
  · refine Reach.succ (h2 rfl) fun n => ?_
    simp only [zrun, h3, if_true, h4, condK, cond_false]
  · refine Reach.succ (h1 rfl) fun n => ?_
    simp only [zrun, h3, if_true, h4, condK, cond_true]
theorem Rn.fin {v : Value} (hf : finish P fn T M = some (v, M)) (h : Q v M) : Rn P fn [] T M Q := ⟨v, M, h, 1, fun n hn => by
  obtain ⟨k, rfl⟩ : ∃ k, n = k + 1 := ⟨n - 1, by omega⟩
  exact hf⟩
theorem Rn.ret {c : Code} {v : Value} (hc : c = .ret) (hf : finish P fn T M = some (v, M)) (h : Q v M) : Rn P fn (.code c :: s) T M Q := ⟨v, M, h, 1, fun n hn => by
  obtain ⟨k, rfl⟩ : ∃ k, n = k + 1 := ⟨n - 1, by omega⟩
  subst hc; exact hf⟩
theorem finish_of {v : Value} (h : resultsP P fn T M = some v) : finish P fn T M = some (v, M) := by rw [finish, h]; rfl

/-- A call enters its function. -/
theorem Cn.of {f : FuncId} {args : Array Value} (hf : P.funcs[f]? = some fn) {c : Code} (hc : fn.body = some c) {T : Array Value} (hT : args ++ Array.replicate (fn.ntmps - args.size) undef = T)
    (h : Rn P fn [.code c] T M Q) : Cn P f args M Q := by
  refine Reach.eq h fun n => ?_
  simp only [zcall, enterZ, hf, hc, hT]
end
end Go.Sim
