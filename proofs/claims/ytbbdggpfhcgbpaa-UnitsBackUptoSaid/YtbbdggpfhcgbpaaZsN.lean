/- The abstract machine 'Sim': what a run comes to, told without its count of steps, and a rule for each form of code. -/
import Derived.Test.YtbbdggpfhcgbpaaZsM
set_option linter.unusedVariables false
namespace Go.Sim
open Go Go.RowKit

abbrev withK {α : Type} (a : α) (f : α → R) : R := f a
/-- From some count of steps on it comes to this. -/
def Ev (F : Nat → R) (v : Value) (M : Mem) : Prop := ∃ N, ∀ n, N ≤ n → F n = some (v, M)
def Reach (F : Nat → R) (Q : Value → Mem → Prop) : Prop := ∃ v M, Q v M ∧ Ev F v M
def Rn (P : Program) [Orc P] (fn : Func) (s : List Item) (T : Array Value) (M : Mem) (Q : Value → Mem → Prop) : Prop := Reach (fun n => zrun P n fn s T M) Q
def Cn (P : Program) [Orc P] (f : FuncId) (args : Array Value) (M : Mem) (Q : Value → Mem → Prop) : Prop := Reach (fun n => zcall P n f args M) Q

section
theorem opsK_append {P : Program} (call : Nat → CallM) (ops : Array Oper) : ∀ (l1 l2 : List Oper) (i : Nat) (T : Array Value) (M : Mem) (K : Array Value → Mem → R),
    opsK P call ops (l1 ++ l2) i T M K = opsK P call ops l1 i T M (fun T M => opsK P call ops l2 (i + l1.length) T M K)
  | [], l2, i, T, M, K => rfl
  | o :: l1, l2, i, T, M, K => by
    simp only [List.cons_append, opsK]
    congr 1
    funext T M
    rw [opsK_append call ops l1 l2 (i + 1) T M K]
    simp only [List.length_cons, Nat.add_assoc, Nat.add_comm 1]
theorem finish_of {P : Program} {fn : Func} {T : Array Value} {M : Mem} {v : Value} (h : resultsP P fn T M = some v) : finish P fn T M = some (v, M) := by rw [finish, h]; rfl
def noTrack (ops : Array Oper) : Bool := (List.range ops.size).all fun i => !tracked ops i
theorem opsI_append {P : Program} (call : Nat → CallM) {ops : Array Oper} (hn : noTrack ops = true) : ∀ (l1 l2 : List Nat) (T : Array Value) (M : Mem) (K : Array Value → Mem → R),
    opsI P call ops (l1 ++ l2) [] T M K = opsI P call ops l1 [] T M (fun T M => opsI P call ops l2 [] T M K)
  | [], l2, T, M, K => rfl
  | i :: l1, l2, T, M, K => by
    simp only [List.cons_append, opsI]
    cases ho : ops[i]? with
    | none => rfl
    | some o =>
      have hi : tracked ops i = false := by
        have := List.all_eq_true.1 hn i (List.mem_range.2 (Array.getElem?_eq_some_iff.1 ho).1)
        simpa using this
      have e : ∀ T M, note ops i o T M [] = [] := fun T M => by unfold note; rw [hi]; rfl
      simp only [e]
      have e2 : (fun T M => opsI P call ops (l1 ++ l2) [] T M K) = fun T M => opsI P call ops l1 [] T M (fun T M => opsI P call ops l2 [] T M K) := by
        funext T M
        exact opsI_append call hn l1 l2 T M K
      rw [e2]
/-- The results of a function, handed on. -/
def resK (P : Program) (T : Array Value) (M : Mem) : List ResultVar → (List Value → R) → R
  | [], K => K []
  | .tmp i :: r, K => resK P T M r fun vs => K (T.getD i undef :: vs)
  | .cell a ty :: r, K => ptrK (T.getD a undef) fun ad => loadK P ty M ad.block ad.off fun v => resK P T M r fun vs => K (v :: vs)
theorem resK_sound {P : Program} {T : Array Value} {M : Mem} : ∀ {l : List ResultVar} {K : List Value → R} {r : Value × Mem}, resK P T M l K = some r → ∃ vs, resultsL P T M l = some vs ∧ K vs = some r
  | [], K, r, h => ⟨[], rfl, h⟩
  | .tmp i :: l, K, r, h => by
    simp only [resK] at h
    obtain ⟨vs, h1, h2⟩ := resK_sound h
    exact ⟨_, by simp only [resultsL, resultP, Option.bind_some, h1], h2⟩
  | .cell a ty :: l, K, r, h => by
    simp only [resK] at h
    unfold ptrK at h
    split at h
    case h_2 => cases h
    rename_i ao hao
    obtain ⟨ad, rfl, h⟩ := Option.bind_eq_some_iff.1 h
    obtain ⟨v, hv, h⟩ := loadK_sound h
    obtain ⟨vs, h1, h2⟩ := resK_sound h
    exact ⟨v :: vs, by simp only [resultsL, resultP, hao, hv, Option.bind_some, h1], h2⟩
theorem resK_finish {P : Program} {fn : Func} {T : Array Value} {M : Mem} {r : Value × Mem} (h : resK P T M fn.results.toList (fun vs => some (packed vs, M)) = some r) : finish P fn T M = some r := by
  obtain ⟨vs, h1, h2⟩ := resK_sound h
  simp only [finish, resultsP, h1, Option.map_some]
  exact h2
variable {P : Program} [Orc P] {fn : Func} {s : List Item} {T : Array Value} {M : Mem} {Q : Value → Mem → Prop} {F G : Nat → R}

theorem Reach.mono {Q' : Value → Mem → Prop} (h : Reach F Q) (hQ : ∀ v M, Q v M → Q' v M) : Reach F Q' := by
  obtain ⟨v, M, h1, h2⟩ := h
  exact ⟨v, M, hQ v M h1, h2⟩
theorem Cn.mono {Q' : Value → Mem → Prop} {f : FuncId} {args : Array Value} (h : Cn P f args M Q) (hQ : ∀ v M, Q v M → Q' v M) : Cn P f args M Q' := Reach.mono h hQ
theorem Rn.mono {Q' : Value → Mem → Prop} (h : Rn P fn s T M Q) (hQ : ∀ v M, Q v M → Q' v M) : Rn P fn s T M Q' := Reach.mono h hQ
theorem Reach.succ (h : Reach F Q) (he : ∀ n, G (n + 1) = F n) : Reach G Q := by
  obtain ⟨v, M, h1, N, h2⟩ := h
  refine ⟨v, M, h1, N + 1, fun n hn => ?_⟩
  obtain ⟨k, rfl⟩ : ∃ k, n = k + 1 := ⟨n - 1, by omega⟩
  rw [he]; exact h2 k (by omega)
theorem Reach.eq (h : Reach F Q) (he : ∀ n, G n = F n) : Reach G Q := by
  have : G = F := funext he
  rw [this]; exact h
theorem Rch.fin {v : Value} (h : Q v M) : Reach (fun _ => some (v, M)) Q := ⟨v, M, h, 0, fun _ _ => rfl⟩
theorem Rch.leaf (h : Rn P fn s T M Q) : Reach (fun n => zrun P n fn s T M) Q := h
theorem Rch.ex {α : Type} {e : Option α} {p : α → Prop} {H : α → Nat → R} (h : ∃ x, e = some x ∧ p x) (k : ∀ x, p x → Reach (H x) Q) : Reach (fun n => e.bind fun x => H x n) Q := by
  obtain ⟨x, rfl, hp⟩ := h
  exact k x hp
theorem Rch.cB {b : Bool} (h1 : b = true → Reach F Q) (h2 : b = false → Reach G Q) : Reach (fun n => cond b (F n) (G n)) Q := by
  cases b
  · exact h2 rfl
  · exact h1 rfl
theorem Rch.cD {p : Prop} [Decidable p] (h1 : p → Reach F Q) (h2 : ¬p → Reach G Q) : Reach (fun n => cond (decide p) (F n) (G n)) Q :=
  Rch.cB (fun h => h1 (of_decide_eq_true h)) (fun h => h2 (of_decide_eq_false h))
theorem Rch.cE {x y : Int} (h1 : x = y → Reach F Q) (h2 : x ≠ y → Reach G Q) : Reach (fun n => cond (x == y) (F n) (G n)) Q :=
  Rch.cB (fun h => h1 (eq_of_beq h)) (fun h => h2 (fun e => by rw [e] at h; simp at h))
theorem Rch.cN {x y : Int} (h1 : x ≠ y → Reach F Q) (h2 : x = y → Reach G Q) : Reach (fun n => cond (x != y) (F n) (G n)) Q :=
  Rch.cB (fun h => h1 (fun e => by rw [e] at h; simp at h)) (fun h => h2 (by simpa using h))
theorem Rch.cT {b : Bool} (hb : b = true) (h1 : Reach F Q) : Reach (fun n => cond b (F n) (G n)) Q := by rw [hb]; exact h1
theorem Rch.cF {b : Bool} (hb : b = false) (h1 : Reach G Q) : Reach (fun n => cond b (F n) (G n)) Q := by rw [hb]; exact h1
theorem Rch.bind {α : Type} {e : Option α} {x : α} {H : α → Nat → R} (he : e = some x) (h : Reach (H x) Q) : Reach (fun n => e.bind fun x => H x n) Q := by
  rw [he]; exact h
theorem Rch.call {f : FuncId} {args : Array Value} {H : Value × Mem → Nat → R} {Q' : Value → Mem → Prop} (h : Cn P f args M Q') (hK : ∀ v M', Q' v M' → Reach (H (v, M')) Q) :
    Reach (fun n => (zcall P n f args M).bind fun r => H r n) Q := by
  obtain ⟨v, M', h1, N, h2⟩ := h
  obtain ⟨v2, M2, h3, N2, h4⟩ := hK v M' h1
  refine ⟨v2, M2, h3, max N N2, fun n hn => ?_⟩
  have e1 := h2 n (by omega)
  simp only [e1, Option.bind_some]
  exact h4 n (by omega)

theorem ne_of_bneT {α : Type} [BEq α] [LawfulBEq α] {x y : α} (h : (x != y) = true) : x ≠ y := fun e => by rw [e] at h; simp at h
theorem eq_of_bneF {α : Type} [BEq α] [LawfulBEq α] {x y : α} (h : (x != y) = false) : x = y := by simpa using h
/-- A string's byte. -/
def strV (P : Program) (t : TypeId) (a b : Value) : Option Value :=
  pureOp P (fun x => match x with | .tmp 0 => a | _ => b) ⟨none, .index t (.tmp 0) (.tmp 1), 0, "", #[], none⟩
def opsOf : Code → Array Oper
  | .region _ ops _ => ops
  | _ => #[]

theorem Rn.region {c : Code} {nm : _} {F : CallM → (Array Value → Mem → R) → R} (hc : c = .region nm (opsOf c) false)
    (he : ∀ call K, opsK P (fun _ => call) (opsOf c) (opsOf c).toList 0 T M K = F call K)
    (h : Reach (fun n => F (zcall P n) (zrun P n fn s)) Q) : Rn P fn (.code c :: s) T M Q := by
  refine Reach.succ h fun n => ?_
  generalize opsOf c = ops at hc he
  subst hc
  exact he _ _
theorem Rn.regionD {c : Code} {nm : _} {F : CallM → (Array Value → Mem → R) → R} (hc : c = .region nm (opsOf c) true ∧ drawOk (opsOf c) = true)
    (he : ∀ call K, opsI P (callAt call (opsOf c)) (opsOf c) (ordOf (opsOf c)) [] T M K = F call K)
    (h : Reach (fun n => F (zcall P n) (zrun P n fn s)) Q) : Rn P fn (.code c :: s) T M Q := by
  obtain ⟨hc, hd⟩ := hc
  refine Reach.succ h fun n => ?_
  generalize opsOf c = ops at hc hd he
  subst hc
  simp only [zrun, if_true, hd]
  exact he _ _
theorem Rch.callF {f : FuncId} {args : Array Value} {H : Value × Mem → Nat → R} {Q' : Value → Mem → Prop} (h : Cn P f args { M with floor := M.nb.size } Q') (hK : ∀ v M', Q' v M' → Reach (H (v, { M' with floor := M.floor })) Q) :
    Reach (fun n => (floored (zcall P n) f args M).bind fun r => H r n) Q := by
  obtain ⟨v, M', h1, N, h2⟩ := h
  obtain ⟨v2, M2, h3, N2, h4⟩ := hK v M' h1
  refine ⟨v2, M2, h3, max N N2, fun n hn => ?_⟩
  have e1 := h2 n (by omega)
  simp only [floored, e1, Option.map_some, Option.bind_some]
  exact h4 n (by omega)
/-! Regions in pieces. -/
def lenR (draw : Bool) (ops : Array Oper) : Nat := match draw with | false => ops.size | true => (ordOf ops).length
def segK (P : Program) (draw : Bool) (call : CallM) (ops : Array Oper) (i d : Nat) (T : Array Value) (M : Mem) (K : Array Value → Mem → R) : R :=
  match draw with
  | false => opsK P (fun _ => call) ops ((ops.toList.drop i).take d) i T M K
  | true => opsI P (callAt call ops) ops (((ordOf ops).drop i).take d) [] T M K
def restK (P : Program) [Orc P] (fn : Func) (ops : Array Oper) (draw : Bool) (j : Nat) (s : List Item) (n : Nat) : Array Value → Mem → R :=
  match draw with
  | false => fun T M => opsK P (fun _ => zcall P n) ops (ops.toList.drop j) j T M (zrun P n fn s)
  | true => fun T M => opsI P (callAt (zcall P n) ops) ops ((ordOf ops).drop j) [] T M (zrun P n fn s)
/-- The region's operations from j on, then the stack. -/
def Rg (P : Program) [Orc P] (fn : Func) (ops : Array Oper) (draw : Bool) (j : Nat) (s : List Item) (T : Array Value) (M : Mem) (Q : Value → Mem → Prop) : Prop := Reach (fun n => restK P fn ops draw j s n T M) Q
theorem Rn.regionC {c : Code} {nm : _} {draw : Bool} (hc : c = .region nm (opsOf c) draw ∧ (!draw || drawOk (opsOf c)) = true) (h : Rg P fn (opsOf c) draw 0 s T M Q) : Rn P fn (.code c :: s) T M Q := by
  obtain ⟨hc, hd⟩ := hc
  refine Reach.succ h fun n => ?_
  generalize opsOf c = ops at hc hd
  subst hc
  cases draw with
  | false => rfl
  | true =>
    have hd : drawOk ops = true := by simpa using hd
    simp only [zrun, if_true, hd]
    rfl
theorem Rg.step {ops : Array Oper} {draw : Bool} {i d j : Nat} {F : CallM → (Array Value → Mem → R) → R}
    (he : ∀ call K, segK P draw call ops i d T M K = F call K) (hd : (Nat.ble j (lenR draw ops) && (!draw || noTrack ops)) = true) (hj : i + d = j)
    (h : Reach (fun n => F (zcall P n) (restK P fn ops draw j s n)) Q) : Rg P fn ops draw i s T M Q := by
  subst hj
  obtain ⟨hd, hn⟩ := Bool.and_eq_true_iff.1 hd
  refine Reach.eq h fun n => ?_
  rw [← he]
  cases draw with
  | false =>
    have e : ops.toList.drop i = (ops.toList.drop i).take d ++ ops.toList.drop (i + d) := by
      rw [← List.drop_drop, List.take_append_drop]
    have hl : ((ops.toList.drop i).take d).length = d := by
      have := Nat.le_of_ble_eq_true hd
      simp [lenR] at this ⊢; omega
    simp only [restK, segK]
    conv => lhs; rw [e]
    rw [opsK_append, hl]
  | true =>
    have e : (ordOf ops).drop i = ((ordOf ops).drop i).take d ++ (ordOf ops).drop (i + d) := by
      rw [← List.drop_drop, List.take_append_drop]
    simp only [restK, segK]
    conv => lhs; rw [e]
    rw [opsI_append _ (by simpa using hn)]
theorem Rch.rest {ops : Array Oper} {draw : Bool} {j : Nat} (h : Rg P fn ops draw j s T M Q) : Reach (fun n => restK P fn ops draw j s n T M) Q := h
theorem Rg.done {ops : Array Oper} {draw : Bool} {j : Nat} (hj : Nat.ble (lenR draw ops) j = true) (h : Rn P fn s T M Q) : Rg P fn ops draw j s T M Q := by
  refine Reach.eq h fun n => ?_
  have := Nat.le_of_ble_eq_true hj
  cases draw with
  | false =>
    simp only [restK]
    rw [List.drop_of_length_le (by simpa [lenR] using this)]
    rfl
  | true =>
    simp only [restK]
    rw [List.drop_of_length_le (by simpa [lenR] using this)]
    rfl
/-- The results, those that lie in cells too. -/
theorem Rn.retK {c : Code} {F : (List Value → R) → R} (hc : c = .ret) (he : ∀ K, resK P T M fn.results.toList K = F K) (h : Reach (fun _ => F fun vs => some (packed vs, M)) Q) : Rn P fn (.code c :: s) T M Q := by
  obtain ⟨v, M', hQ, N, hN⟩ := h
  refine ⟨v, M', hQ, 1, fun n hn => ?_⟩
  obtain ⟨k, rfl⟩ : ∃ k, n = k + 1 := ⟨n - 1, by omega⟩
  subst hc
  exact resK_finish (by rw [he]; exact hN N (Nat.le_refl _))
theorem Rn.finK {F : (List Value → R) → R} (he : ∀ K, resK P T M fn.results.toList K = F K) (h : Reach (fun _ => F fun vs => some (packed vs, M)) Q) : Rn P fn [] T M Q := by
  obtain ⟨v, M', hQ, N, hN⟩ := h
  refine ⟨v, M', hQ, 1, fun n hn => ?_⟩
  obtain ⟨k, rfl⟩ : ∃ k, n = k + 1 := ⟨n - 1, by omega⟩
  exact resK_finish (by rw [he]; exact hN N (Nat.le_refl _))
theorem Rn.seq {c a b : Code} (hc : c = .seq a b) (h : Rn P fn (.code a :: .code b :: s) T M Q) : Rn P fn (.code c :: s) T M Q := by
  subst hc; exact Reach.succ h fun n => rfl
theorem Rn.block {c a : Code} {id : _} (hc : c = .block id a) (h : Rn P fn (.code a :: .inBlock id :: s) T M Q) : Rn P fn (.code c :: s) T M Q := by
  subst hc; exact Reach.succ h fun n => rfl
theorem Rn.loop {c a : Code} (hc : c = .loop a) (h : Rn P fn (.code a :: .inLoop a :: s) T M Q) : Rn P fn (.code c :: s) T M Q := by
  subst hc; exact Reach.succ h fun n => rfl
theorem Rn.scope {c a : Code} (hc : c = .scope a) (h : Rn P fn (.code a :: .inScope a :: s) T M Q) : Rn P fn (.code c :: s) T M Q := by
  subst hc; exact Reach.succ h fun n => rfl
theorem Rn.skip {c : Code} (hc : c = .skip) (h : Rn P fn s T M Q) : Rn P fn (.code c :: s) T M Q := by
  subst hc; exact Reach.succ h fun n => rfl
theorem Rn.label {c : Code} {l : _} (hc : c = .label l) (h : Rn P fn s T M Q) : Rn P fn (.code c :: s) T M Q := by
  subst hc; exact Reach.succ h fun n => rfl
theorem Rn.exit {c : Code} {id : _} {s' : List Item} (hc : c = .exit id) (hs : exitOf id s = some s') (h : Rn P fn s' T M Q) : Rn P fn (.code c :: s) T M Q := by
  subst hc; exact Reach.succ h fun n => by simp only [zrun, hs]
theorem Rn.blk {id : _} (h : Rn P fn s T M Q) : Rn P fn (.inBlock id :: s) T M Q := Reach.succ h fun n => rfl
theorem Rn.scp {a : Code} (h : Rn P fn s T M Q) : Rn P fn (.inScope a :: s) T M Q := Reach.succ h fun n => rfl
theorem Rn.lp {a : Code} (h : Rn P fn (.code a :: .inLoop a :: s) T M Q) : Rn P fn (.inLoop a :: s) T M Q := Reach.succ h fun n => rfl
theorem Rn.cnd {c a b : Code} {x : Operand} {v : Bool} (hc : c = .cond x a b ∧ okOperand x = true ∧ evalT T x = .bool v)
    (h1 : v = true → Rn P fn (.code a :: s) T M Q) (h2 : v = false → Rn P fn (.code b :: s) T M Q) : Rn P fn (.code c :: s) T M Q := by
  obtain ⟨rfl, h3, h4⟩ := hc
  cases v
  · refine Reach.succ (h2 rfl) fun n => ?_
    simp only [zrun, h3, if_true, h4, condK, cond_false]
  · refine Reach.succ (h1 rfl) fun n => ?_
    simp only [zrun, h3, if_true, h4, condK, cond_true]
theorem Rn.fin {v : Value} (hf : finish P fn T M = some (v, M)) (h : Q v M) : Rn P fn [] T M Q := ⟨v, M, h, 1, fun n hn => by
  obtain ⟨k, rfl⟩ : ∃ k, n = k + 1 := ⟨n - 1, by omega⟩
  exact hf⟩
theorem Rn.ret {c : Code} {v : Value} (hc : c = .ret) (hf : finish P fn T M = some (v, M)) (h : Q v M) : Rn P fn (.code c :: s) T M Q := ⟨v, M, h, 1, fun n hn => by
  obtain ⟨k, rfl⟩ : ∃ k, n = k + 1 := ⟨n - 1, by omega⟩
  subst hc; exact hf⟩

/-- A call enters its function. -/
theorem Cn.of {f : FuncId} {args : Array Value} (hf : P.funcs[f]? = some fn ∧ (Orc.tab P).lookup f = none) {c : Code} (hc : fn.body = some c) {T : Array Value} (hT : args ++ Array.replicate (fn.ntmps - args.size) undef = T)
    (h : Rn P fn [.code c] T M Q) : Cn P f args M Q := by
  refine Reach.eq h fun n => ?_
  simp only [zcall, withO, hf.2, enterZ, hf.1, hc, hT]
/-- What is known ahead. -/
theorem Cn.known {f : FuncId} {v : Value} (hf : (Orc.tab P).lookup f = some v) (h : Q v M) : Cn P f #[] M Q := by
  refine Reach.eq (Rch.fin h) fun n => ?_
  simp only [zcall, withO, hf]
  rfl
end
end Go.Sim
