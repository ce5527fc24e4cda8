/- The abstract machine 'Sim': the machine with its stack is sound. -/
import Derived.Test.YtbbdggpfhcgbpaaZsL
set_option linter.unusedSimpArgs false
set_option linter.unusedVariables false
namespace Go.Sim
open Go Go.RowKit

section
variable {P : Program}

theorem exitOf_eq (id : Nat) : ∀ s, exitOf id s = exitTo id s
  | [] => rfl
  | x :: s => by
    cases x <;> simp only [exitOf, exitTo, exitOf_eq id s]
    rename_i id'
    by_cases h : id' = id
    · simp [h]
    · have : (id' == id) = false := by simpa using h
      simp [h, this]

def ZKept (P : Program) (z : Func → List Item → Array Value → Mem → R) : Prop := ∀ fn stk t M v M', M.floor ≤ M.nb.size → z fn stk t M = some (v, M') → FR M M'
theorem ZKept.enter {z : Func → List Item → Array Value → Mem → R} (h : ZKept P z) : Kept (enterZ P z) := by
  intro f args M v M' hf hc
  unfold enterZ at hc
  split at hc
  · split at hc
    · exact h _ _ _ _ _ _ hf hc
    · cases hc
  · cases hc

theorem Kept.withO {tab : List (FuncId × Value)} {c : CallM} (h : Kept c) : Kept (withO tab c) := by
  intro f args M v M' hf hc
  unfold Sim.withO at hc
  split at hc
  · split at hc
    · simp only [Option.some.injEq, Prod.mk.injEq] at hc
      obtain ⟨_, rfl⟩ := hc
      exact FR.refl _
    · cases hc
  · exact h f args M v M' hf hc
/-- What is known ahead is so. -/
def Known (P : Program) (tab : List (FuncId × Value)) : Prop := ∀ f v, tab.lookup f = some v → closed v = true ∧ ∀ w, Calls P f #[] w fun e w' => e = .returned v ∧ Below w.heap.size w w'
theorem SimCall.withO {tab : List (FuncId × Value)} {c : CallM} (h : SimCall P c) (hO : Known P tab) : SimCall P (withO tab c) := by
  intro f args0 M v M' hc
  unfold Sim.withO at hc
  split at hc
  · rename_i u hu
    split at hc
    case isFalse => cases hc
    rename_i hz
    simp only [Option.some.injEq, Prod.mk.injEq] at hc
    obtain ⟨rfl, rfl⟩ := hc
    obtain ⟨h1, h2⟩ := hO f u hu
    intro m args w hH hA
    have hz' : args = #[] := Array.eq_empty_of_size_eq_zero (by rw [← hA.1]; exact hz)
    subst hz'
    refine (h2 w).mono ?_
    rintro e w' ⟨rfl, hb⟩
    exact ⟨u, m, rfl, VR.refl_of_closed h1, hH.below hb, Ext.refl _ _, hb.mono hH.size⟩
  · exact h f args0 M v M' hc

theorem finish_kept {fn : Func} {t : Array Value} {M M' : Mem} {v : Value} (h : finish P fn t M = some (v, M')) : FR M M' := by
  obtain ⟨x, hx, h⟩ := Option.map_eq_some_iff.1 h
  simp only [Prod.mk.injEq] at h
  obtain ⟨_, rfl⟩ := h
  exact FR.refl _

theorem zrun_kept [Orc P] : ∀ n, ZKept P (zrun P n)
  | 0 => fun fn stk t M v M' hf h => by simp [zrun] at h
  | n + 1 => by
    have ih := zrun_kept n
    intro fn stk t M v M' hf h
    have reg : ∀ {ops : Array Oper} {draw : Bool} {s : List Item}, (if draw then if drawOk ops then opsI P (callAt (withO (Orc.tab P) (enterZ P (zrun P n))) ops) ops (ordOf ops) [] t M (zrun P n fn s) else none
        else opsK P (fun _ => withO (Orc.tab P) (enterZ P (zrun P n))) ops ops.toList 0 t M (zrun P n fn s)) = some (v, M') → FR M M' := by
      intro ops draw s h
      obtain ⟨t1, M1, h1, h2⟩ := region_sound h
      have k1 := FR.region (P := P) ih.enter.withO hf h1
      exact k1.trans (ih _ _ _ _ _ _ (by rw [k1.floor]; exact Nat.le_trans hf k1.size) h2)
    unfold zrun at h
    split at h
    · exact finish_kept h
    · exact ih _ _ _ _ _ _ hf h
    · exact ih _ _ _ _ _ _ hf h
    · exact reg h
    · exact ih _ _ _ _ _ _ hf h
    · split at h
      · unfold condK at h
        split at h
        · rename_i b _
          cases b
          · exact ih _ _ _ _ _ _ hf h
          · exact ih _ _ _ _ _ _ hf h
        · cases h
      · cases h
    · exact ih _ _ _ _ _ _ hf h
    · exact ih _ _ _ _ _ _ hf h
    · exact ih _ _ _ _ _ _ hf h
    · exact ih _ _ _ _ _ _ hf h
    · exact ih _ _ _ _ _ _ hf h
    · exact ih _ _ _ _ _ _ hf h
    · split at h
      · exact ih _ _ _ _ _ _ hf h
      · cases h
    · exact finish_kept h
    · cases h
theorem zcall_kept [Orc P] (n : Nat) : Kept (zcall P n) := (zrun_kept n).enter.withO

def ZOK (P : Program) (z : Func → List Item → Array Value → Mem → R) : Prop := ∀ fn stk t M v M', z fn stk t M = some (v, M') → ∀ (m : Nat → Loc) (a : Act) (w : World) (b : Frame) (cs : List Frame) (Q : Ending → World → Prop) (f : FuncId),
  P.funcs[f]? = some fn → b.fn = f → b.kind = .normal → VRs M.nb.size m t a.tmps → HR P M m w → a.defers = [] →
  (∀ v' w' m', VR M'.nb.size m' v v' → HR P M' m' w' → Ext M M' m m' → Below M.base.size w w' → Q (.returned v') w') →
  ∃ e w' fr, Q e w' ∧ Comes P (lone (b.at a stk) cs w) (lone fr cs w') e ∧ fr.fn = f ∧ fr.leaving P w' e

theorem ZOK.enter (hN : Named P) {z : Func → List Item → Array Value → Mem → R} (h : ZOK P z) : SimCall P (enterZ P z) := by
  intro f args0 M v0 M' hc m args w hH hA
  unfold enterZ at hc
  split at hc
  case h_2 => cases hc
  rename_i fn hf
  split at hc
  case h_2 => cases hc
  rename_i c hb
  intro cs
  have hT0 : VRs M.nb.size m (args0 ++ Array.replicate (fn.ntmps - args0.size) undef) (args ++ Array.replicate (fn.ntmps - args.size) Go.undef) := by
    rw [← hA.1]
    exact hA.append ⟨by simp, fun i h1 h2 => by simp only [Array.getElem_replicate]; exact VR.undef⟩
  let b : Frame := { (default : Frame) with fn := f, kind := .normal }
  have henter : Frame.enter P f args .normal = b.at { tmps := args ++ Array.replicate (fn.ntmps - args.size) Go.undef, defers := [] } [.code c] := by
    simp [Frame.enter, Frame.at, hf, hb, b]
  rw [henter]
  exact h fn [.code c] _ M v0 M' hc m { tmps := args ++ Array.replicate (fn.ntmps - args.size) Go.undef, defers := [] } w b cs _ f hf rfl rfl hT0 hH rfl fun v' w' m' h1 h2 h3 h4 => ⟨v', m', rfl, h1, h2, h3, h4⟩

theorem zrun_ok [Orc P] (hN : Named P) (hmix : P.follows .mixedOrders = true) (hO : Known P (Orc.tab P)) : ∀ n, ZOK P (zrun P n)
  | 0 => fun fn stk t M v M' h => by simp [zrun] at h
  | n + 1 => by
    have ih := zrun_ok hN hmix hO n
    intro fn stk t M v M' h m a w b cs Q f hf hbf hbk hT hH hd hQ
    -- the same state, one step on
    have same : ∀ {s s' : List Item}, step P (lone (b.at a s) cs w) = .next (lone (b.at a s') cs w) → zrun P n fn s' t M = some (v, M') →
        ∃ e w' fr, Q e w' ∧ Comes P (lone (b.at a s) cs w) (lone fr cs w') e ∧ fr.fn = f ∧ fr.leaving P w' e := by
      intro s s' hs hz
      obtain ⟨e, w', fr, h1, h2, h3, h4⟩ := ih fn s' t M v M' hz m a w b cs Q f hf hbf hbk hT hH hd hQ
      exact ⟨e, w', fr, h1, Comes.of_steps (.one hs) h2, h3, h4⟩
    have fin : ∀ {s : List Item}, step P (lone (b.at a s) cs w) = .next (lone { b.at a s with mode := .returning } cs w) → finish P fn t M = some (v, M') →
        ∃ e w' fr, Q e w' ∧ Comes P (lone (b.at a s) cs w) (lone fr cs w') e ∧ fr.fn = f ∧ fr.leaving P w' e := by
      intro s hs hz
      obtain ⟨x, hx, hz⟩ := Option.map_eq_some_iff.1 hz
      simp only [Prod.mk.injEq] at hz
      obtain ⟨rfl, rfl⟩ := hz
      obtain ⟨v', hv', hrun⟩ := results_sim hH hT hx
      exact ⟨.returned v', w, _, hQ v' w m hv' hH (Ext.refl _ _) (Below.refl _ _), Steps.one hs, hbf, rfl, hd, hbk, fn, by simp only [Frame.at, hbf]; exact hf, hrun⟩
    have reg : ∀ {id : Nat} {ops : Array Oper} {draw : Bool} {s : List Item}, (if draw then if drawOk ops then opsI P (callAt (withO (Orc.tab P) (enterZ P (zrun P n))) ops) ops (ordOf ops) [] t M (zrun P n fn s) else none
        else opsK P (fun _ => withO (Orc.tab P) (enterZ P (zrun P n))) ops ops.toList 0 t M (zrun P n fn s)) = some (v, M') →
        ∃ e w' fr, Q e w' ∧ Comes P (lone (b.at a (.code (.region id ops draw) :: s)) cs w) (lone fr cs w') e ∧ fr.fn = f ∧ fr.leaving P w' e := by
      intro id ops draw s h
      obtain ⟨t1, M1, h1, h2⟩ := region_sound h
      have hwp := region_sim (id := id) ((ih.enter hN).withO hO) (zrun_kept n).enter.withO hN hmix h1 hT hH (Q := fun e a' w' => e = .normal ∧ ∃ m', Sim.Next P M m a w t1 M1 a' w' m') (fun a' w' m' hn => ⟨rfl, m', hn⟩)
      obtain ⟨e, a', w', ⟨rfl, m', hn⟩, harr⟩ := hwp b s cs
      obtain ⟨e2, w2, fr, g1, g2, g3, g4⟩ := ih fn s t1 M1 v M' h2 m' a' w' b cs Q f hf hbf hbk hn.tmps hn.heap (by rw [hn.defers]; exact hd)
        (fun v' w2 m2 k1 k2 k3 k4 => hQ v' w2 m2 k1 k2 (hn.ext.trans k3) (hn.below.trans (by rw [← hn.ext.base]; exact k4)))
      exact ⟨e2, w2, fr, g1, Comes.of_steps harr g2, g3, g4⟩
    unfold zrun at h
    split at h
    · exact fin step_end h
    · exact same step_skip h
    · exact same step_label h
    · exact reg h
    · exact same step_seq h
    · split at h
      case isFalse => cases h
      rename_i hok
      have hv := eval_sim hT hok
      unfold condK at h
      split at h
      case h_2 => cases h
      rename_i bb hb
      rw [hb] at hv
      cases bb with
      | true => exact same (step_cond (bool_inv hv)) h
      | false => exact same (step_cond (bool_inv hv)) h
    · exact same step_block h
    · exact same step_inBlock h
    · exact same step_loop h
    · exact same step_inLoop h
    · exact same step_scope h
    · exact same step_inScope h
    · split at h
      case h_2 => cases h
      rename_i s' hs'
      rw [exitOf_eq] at hs'
      exact same (step_exit hs') h
    · exact fin step_ret h
    · cases h

theorem zcall_sim [Orc P] (hN : Named P) (hmix : P.follows .mixedOrders = true) (hO : Known P (Orc.tab P)) (n : Nat) : SimCall P (zcall P n) := ((zrun_ok hN hmix hO n).enter hN).withO hO

end
end Go.Sim
