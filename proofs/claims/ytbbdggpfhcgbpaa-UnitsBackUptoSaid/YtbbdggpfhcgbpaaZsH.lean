/- The abstract machine 'Sim': regions in the order of the text, and code. -/
import Derived.Test.YtbbdggpfhcgbpaaZsG
set_option linter.unusedSimpArgs false
set_option linter.unusedVariables false
namespace Go.Sim
open Go Go.RowKit

section
variable {P : Program}

/-- Calls of the abstract machine are the model's. -/
def SimCall (P : Program) (call : CallM) : Prop := ∀ f args0 M v0 M', call f args0 M = some (v0, M') → ∀ (m : Nat → Loc) args w, HR P M m w → VRs M.nb.size m args0 args →
  Calls P f args w fun e w' => ∃ v m', e = .returned v ∧ VR M'.nb.size m' v0 v ∧ HR P M' m' w' ∧ Ext M M' m m' ∧ Below M.base.size w w'

/-- What the model's state is to the machine's, behind a step. -/
structure Next (P : Program) (M : Mem) (m : Nat → Loc) (a : Act) (w : World) (t1 : Array Value) (M1 : Mem) (a' : Act) (w' : World) (m' : Nat → Loc) : Prop where
  tmps : VRs M1.nb.size m' t1 a'.tmps
  defers : a'.defers = a.defers
  heap : HR P M1 m' w'
  ext : Ext M M1 m m'
  below : Below M.base.size w w'

theorem Next.trans {M M1 M2 : Mem} {m m1 m2 : Nat → Loc} {a a1 a2 : Act} {w w1 w2 : World} {t1 t2 : Array Value} (h : Next P M m a w t1 M1 a1 w1 m1) (k : Next P M1 m1 a1 w1 t2 M2 a2 w2 m2) : Next P M m a w t2 M2 a2 w2 m2 :=
  ⟨k.tmps, k.defers.trans h.defers, k.heap, h.ext.trans k.ext, h.below.trans (by rw [← h.ext.base]; exact k.below)⟩

theorem yielded_eq {n : Nat} {m : Nat → Loc} {t t' : Array Value} (h : VRs n m t t') (ops : Array Oper) : yielded ops t' = yielded ops t := by
  funext j
  unfold yielded
  cases hd : (ops[j]?).bind (·.dst) with
  | none => rfl
  | some d =>
    simp only [Option.bind_some]
    by_cases hlt : d < t.size
    · have h2 : d < t'.size := by rw [← h.1]; exact hlt
      have := h.2 d hlt h2
      rw [Array.getElem?_eq_getElem hlt, Array.getElem?_eq_getElem h2]
      generalize t[d] = u at this
      generalize t'[d] = v at this
      cases this <;> rfl
    · have h2 : ¬ d < t'.size := by rw [← h.1]; exact hlt
      rw [Array.getElem?_eq_none (Nat.le_of_not_lt hlt), Array.getElem?_eq_none (Nat.le_of_not_lt h2)]

theorem eval_sim {n : Nat} {m : Nat → Loc} {t : Array Value} {a : Act} (h : VRs n m t a.tmps) {x : Operand} (hx : okOperand x = true) : VR n m (evalT t x) (a.eval x) := by
  cases x with
  | tmp i => exact h.getD i
  | const v => exact VR.refl_of_closed hx
  | global g => cases hx
  | func f => exact VR.refl_of_closed rfl

theorem put_sim {n : Nat} {m : Nat → Loc} {t : Array Value} {a : Act} (h : VRs n m t a.tmps) (d : Option Tmp) {u v : Value} (hv : VR n m u v) : VRs n m (putT t d u) (a.put d v).tmps := by
  cases d with
  | none => exact h
  | some d => exact h.set d hv
theorem put_defers (a : Act) (d : Option Tmp) (v : Value) : (a.put d v).defers = a.defers := by cases d <;> rfl

theorem classPure {o : Op} (h : Class.of o = .pure) : notSelect o = true ∨ ∃ cs b, o = .select cs b := by
  cases o <;> first | exact .inl rfl | exact .inr ⟨_, _, rfl⟩

theorem pureOp_select {ρ : Operand → Value} {o : Oper} {cs : Array SelectCase} {b : Bool} (h : o.op = .select cs b) {u : Value} (hu : openOp P ρ o.op = some u) : False := by
  rw [h] at hu; simp [openOp] at hu

theorem class_copy {o : Op} {x : Operand} (h : Class.of o = .copy x) : o = .move x ∨ o = .assign x := by
  cases o with
  | move y => simp only [Class.of, Class.copy.injEq] at h; exact .inl (by rw [h])
  | assign y => simp only [Class.of, Class.copy.injEq] at h; exact .inr (by rw [h])
  | call c =>
    obtain ⟨callee, args, ats⟩ := c
    cases callee with
    | builtin b => cases b <;> simp [Class.of] at h
    | _ => simp [Class.of] at h
  | _ => simp [Class.of] at h

theorem step_wp (hN : Named P) {call : CallM} (hcall : SimCall P call) {ops : Array Oper} {o : Oper} (hsel : notSelect o.op = true) {M M1 : Mem} {m : Nat → Loc} {w : World} {t t1 : Array Value} {a : Act} (hT : VRs M.nb.size m t a.tmps) (hH : HR P M m w)
    (hs : stepOp P call ops o t M = some (t1, M1)) {Q : Exit → Act → World → Prop} {K : Act → World → Prop} (hK : ∀ a' w' m', Next P M m a w t1 M1 a' w' m' → K a' w') :
    if Region.wanted o (yielded ops a.tmps) = true then o.wp P a w K Q else K (a.put o.dst Go.undef) w := by
  unfold stepOp at hs
  rw [yielded_eq hT ops]
  by_cases hw : Region.wanted o (yielded ops t) = true
  · rw [if_pos hw] at hs ⊢
    by_cases hok : o.op.operands.toList.all okOperand = true
    case neg => rw [if_neg hok] at hs; cases hs
    rw [if_pos hok] at hs
    have hρ : ∀ x ∈ o.op.operands.toList, VR M.nb.size m (evalT t x) (a.eval x) := fun x hx => eval_sim hT (List.all_eq_true.1 hok x hx)
    obtain ⟨d, hd, hs⟩ := Option.bind_eq_some_iff.1 hs
    unfold op0 at hd
    unfold Oper.wp
    cases hc : Class.of o.op with
    | copy x =>
      simp only [hc, Option.some.injEq] at hd
      subst hd
      simp only [Option.some.injEq, Prod.mk.injEq] at hs
      obtain ⟨rfl, rfl⟩ := hs
      have hx : x ∈ o.op.operands.toList ∧ (execOp a.eval o).run P w = .ok (.value (a.eval x)) w := by
        rcases class_copy hc with h | h
        · refine ⟨by rw [h]; simp [Op.operands], ?_⟩
          unfold execOp; rw [h]; rfl
        · refine ⟨by rw [h]; simp [Op.operands], ?_⟩
          unfold execOp; rw [h]; rfl
      rw [hx.2]
      exact hK _ _ m ⟨put_sim hT _ (hρ x hx.1), put_defers .., hH, Ext.refl _ _, Below.refl _ _⟩
    | pure =>
      simp only [hc] at hd
      obtain ⟨u, hu, rfl⟩ := Option.map_eq_some_iff.1 hd
      simp only [Option.some.injEq, Prod.mk.injEq] at hs
      obtain ⟨rfl, rfl⟩ := hs
      obtain ⟨v, hv, hr⟩ := pureOp_sim o hsel hρ hu
      rw [hr w]
      exact hK _ _ m ⟨put_sim hT _ hv, put_defers .., hH, Ext.refl _ _, Below.refl _ _⟩
    | mem =>
      simp only [hc] at hd
      obtain ⟨r, hr, rfl⟩ := Option.map_eq_some_iff.1 hd
      simp only [Option.some.injEq, Prod.mk.injEq] at hs
      obtain ⟨rfl, rfl⟩ := hs
      obtain ⟨m', w', v, hrun, hv, hH', hE, hB⟩ := memOp_sim hH o hρ (u := r.1) (M' := r.2) hr
      have hn : Next P M m a w (putT t o.dst r.1) r.2 (a.put o.dst v) w' m' := ⟨put_sim (hT.ext hE) _ hv, put_defers .., hH', hE, hB⟩
      rcases hrun with hrun | ⟨hrun, rfl⟩
      · rw [hrun]; exact hK _ _ _ hn
      · rw [hrun]; exact hK _ _ _ hn
    | call =>
      simp only [hc] at hd
      obtain ⟨r, hr, rfl⟩ := Option.map_eq_some_iff.1 hd
      obtain ⟨r2, hr2, hs⟩ := Option.bind_eq_some_iff.1 hs
      simp only [Option.some.injEq, Prod.mk.injEq] at hs
      obtain ⟨rfl, rfl⟩ := hs
      obtain ⟨args', hargs, hrun⟩ := callOp_sim hN o hρ hr
      rw [hrun w]
      refine (hcall _ _ _ _ _ hr2 m args' w hH hargs).mono fun e w' he => ?_
      obtain ⟨v, m', rfl, hv, hH', hE, hB⟩ := he
      exact hK _ _ m' ⟨put_sim (hT.ext hE) _ hv, put_defers .., hH', hE, hB⟩
  · rw [if_neg hw] at hs ⊢
    simp only [Option.some.injEq, Prod.mk.injEq] at hs
    obtain ⟨rfl, rfl⟩ := hs
    exact hK _ _ m ⟨put_sim hT _ VR.undef, put_defers .., hH, Ext.refl _ _, Below.refl _ _⟩

theorem select_none {call : CallM} {ops : Array Oper} {o : Oper} (hsel : ¬ notSelect o.op = true) {t : Array Value} {M : Mem} {r : Array Value × Mem} (hs : stepOp P call ops o t M = some r) (hw : Region.wanted o (yielded ops t) = true) : False := by
  unfold stepOp at hs
  rw [if_pos hw] at hs
  split at hs
  · obtain ⟨d, hd, hs⟩ := Option.bind_eq_some_iff.1 hs
    obtain ⟨dst, op, type, pos, after, guard⟩ := o
    cases op <;> simp [notSelect] at hsel
    simp only [op0, Class.of] at hd
    obtain ⟨u, hu, rfl⟩ := Option.map_eq_some_iff.1 hd
    unfold pureOp at hu
    split at hu
    · rename_i hcl
      split at hu
      · rename_i v hv
        -- a select asks for its channels: no value comes of it
        simp only [execOp] at hv
        have : ∀ {α : Type} (s : Sem α) (f : α → Sem Go.Next) (hf : ∀ x, nw P (f x) ≠ some (.value v)), nw P (s >>= f) ≠ some (.value v) := by
          intro α s f hf
          induction s with
          | pure a => exact hf a
          | program k ih => exact ih P
          | mark mk k ih => exact ih
          | _ => intro h; cases h
        exact this _ _ (fun x h => by cases h) hv
      · cases hu
    · simp [openOp] at hu
  · cases hs

theorem region_wp (hN : Named P) {call : CallM} (hcall : SimCall P call) {ops : Array Oper} {Q : Exit → Act → World → Prop} : ∀ (r : List Oper) (k : Nat) (_ : ops.toList.drop k = r) {M M1 : Mem} {m : Nat → Loc} {w : World} {t t1 : Array Value} {a : Act}
    (_ : VRs M.nb.size m t a.tmps) (_ : HR P M m w) (_ : runOps P call ops r t M = some (t1, M1)) (_ : ∀ a' w' m', Next P M m a w t1 M1 a' w' m' → Q .normal a' w'), wpOps P ops Q (List.range' k r.length) a w
  | [], k, _, M, M1, m, w, t, t1, a, hT, hH, hr, hQ => by
    simp only [runOps, Option.some.injEq, Prod.mk.injEq] at hr
    obtain ⟨rfl, rfl⟩ := hr
    exact hQ a w m ⟨hT, rfl, hH, Ext.refl _ _, Below.refl _ _⟩
  | o :: r, k, hk, M, M1, m, w, t, t1, a, hT, hH, hr, hQ => by
    have hok : ops[k]? = some o := by
      have : (ops.toList.drop k)[0]? = some o := by rw [hk]; rfl
      simpa using this
    have hdrop : ops.toList.drop (k + 1) = r := by
      rw [← List.drop_drop, hk]; rfl
    simp only [runOps] at hr
    obtain ⟨s, hs, hr⟩ := Option.bind_eq_some_iff.1 hr
    simp only [List.length_cons, List.range'_succ, wpOps, hok]
    have go : ∀ a' w' m', Next P M m a w s.1 s.2 a' w' m' → wpOps P ops Q (List.range' (k + 1) r.length) a' w' := fun a' w' m' hn =>
      region_wp hN hcall r (k + 1) hdrop hn.tmps hn.heap hr fun a2 w2 m2 h2 => hQ a2 w2 m2 (hn.trans h2)
    by_cases hsel : notSelect o.op = true
    · have := step_wp hN hcall hsel hT hH (Q := Q) (t1 := s.1) (M1 := s.2) hs go
      by_cases hw : Region.wanted o (yielded ops a.tmps) = true
      · rw [if_pos hw] at this ⊢; exact .inl this
      · rw [if_neg hw] at this ⊢; exact this
    · have hyw : ¬ Region.wanted o (yielded ops a.tmps) = true := by
        rw [yielded_eq hT ops]
        exact fun hw => select_none hsel hs hw
      rw [if_neg hyw]
      have hw' : ¬ Region.wanted o (yielded ops t) = true := by rw [← yielded_eq hT ops]; exact hyw
      unfold stepOp at hs
      rw [if_neg hw'] at hs
      have : s = (putT t o.dst Go.undef, M) := by simpa using hs.symm
      subst this
      exact go _ _ m ⟨put_sim hT _ VR.undef, put_defers .., hH, Ext.refl _ _, Below.refl _ _⟩
end
end Go.Sim
