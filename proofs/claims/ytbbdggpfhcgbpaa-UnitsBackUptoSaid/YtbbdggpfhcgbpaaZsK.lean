/- The abstract machine 'Sim': code and calls: what the machine computes, the model's program does. -/
import Derived.Test.YtbbdggpfhcgbpaaZsJ
import Derived.Deep.LoopGhost
import Derived.Scope
set_option linter.unusedSimpArgs false
set_option linter.unusedVariables false
namespace Go.Sim
open Go Go.RowKit

section
variable {P : Program}

theorem HR.floor {M : Mem} {m : Nat → Loc} {w : World} (h : HR P M m w) (f : Nat) : HR P { M with floor := f } m w := ⟨h.size, h.base, h.blk, h.inj⟩

theorem SimCall.floored {call : CallM} (h : SimCall P call) : SimCall P (floored call) := by
  intro f args0 M v0 M' hc m args w hH hA
  unfold Sim.floored at hc
  obtain ⟨r, hr, hc⟩ := Option.map_eq_some_iff.1 hc
  simp only [Prod.mk.injEq] at hc
  obtain ⟨rfl, rfl⟩ := hc
  refine (h f args0 { M with floor := M.nb.size } r.1 r.2 hr m args w (hH.floor _) hA).mono fun e w' he => ?_
  obtain ⟨v, m', rfl, hv, hH', hE, hB⟩ := he
  exact ⟨v, m', rfl, hv, hH'.floor _, ⟨hE.base, rfl, hE.size, hE.loc⟩, hB⟩
theorem SimCall.at_ {call : CallM} (h : SimCall P call) (ops : Array Oper) (i : Nat) : SimCall P (callAt call ops i) := by
  unfold callAt; split
  · exact h.floored
  · exact h

def CodeOK (P : Program) (c : Code) (run : Run) : Prop := ∀ t M e t' M', run t M = some (e, t', M') → ∀ (m : Nat → Loc) (a : Act) (w : World) (Q : Exit → Act → World → Prop),
  VRs M.nb.size m t a.tmps → HR P M m w → (∀ a' w' m', Next P M m a w t' M' a' w' m' → Q e a' w') → c.wp P Q a w

theorem ordN_len (ops : Array Oper) : ∀ k done left, (ordN ops k done left).length ≤ k
  | 0, _, _ => by simp [ordN]
  | k + 1, done, left => by
    unfold ordN
    split
    · simp only [List.length_cons]; exact Nat.succ_le_succ (ordN_len ops k _ _)
    · simp
theorem pairs_of {ops : Array Oper} : ∀ {l : List Nat}, pairsOk ops l = true → l.Pairwise fun p i => pairOk ops p i = true
  | [], _ => .nil
  | p :: l, h => by
    simp only [pairsOk, Bool.and_eq_true] at h
    exact .cons (fun i hi => List.all_eq_true.1 h.1 i hi) (pairs_of h.2)
theorem range_any {ops : Array Oper} (hd : drawOk ops = true) : ∀ j, j ∈ ordOf ops ↔ (j < ops.size ∧ (Array.replicate ops.size false).getD j true = false) := by
  intro j
  unfold drawOk at hd
  simp only [Bool.and_eq_true] at hd
  constructor
  · intro h
    have := of_decide_eq_true (List.all_eq_true.1 hd.1.2 j h)
    exact ⟨this, by simp [this]⟩
  · intro h
    have := List.all_eq_true.1 hd.1.1.2 j (List.mem_range.2 h.1)
    simpa using this

theorem region_sim {call : CallM} (hcall : SimCall P call) (hk : Kept call) (hN : Named P) (hmix : P.follows .mixedOrders = true) {id : Nat} {ops : Array Oper} {draw : Bool} {t t' : Array Value} {M M' : Mem} (h : runRegion P call ops draw t M = some (t', M'))
    {m : Nat → Loc} {a : Act} {w : World} {Q : Exit → Act → World → Prop} (hT : VRs M.nb.size m t a.tmps) (hH : HR P M m w) (hQ : ∀ a' w' m', Next P M m a w t' M' a' w' m' → Q .normal a' w') : (Code.region id ops draw).wp P Q a w := by
  unfold runRegion at h
  cases draw with
  | true =>
    simp only [if_true] at h
    split at h
    case isFalse => cases h
    rename_i hd
    refine wp_region_any hmix ?_
    have hB : Below M.base.size w { w with drawn := w.drawn + 1 } := ⟨rfl, rfl, rfl, Nat.le_refl _, fun _ _ => rfl⟩
    refine any_wp hN (fun i ops => hcall.at_ ops i) hk hd ops.size (ordOf ops) (Array.replicate ops.size false) (ordN_len _ _ _ _) (range_any hd) (pairs_of (by unfold drawOk at hd; simp only [Bool.and_eq_true] at hd; exact hd.2)) (by simp) ?_ hT (hH.drew _) h ?_
    · intro q o hq hl
      have hlt := (Array.getElem?_eq_some_iff.1 hq).1
      simp [hlt] at hl
    · intro a' w' m' hn
      exact hQ a' w' m' ⟨hn.tmps, hn.defers, hn.heap, hn.ext, hB.trans hn.below⟩
  | false =>
    simp only [Bool.false_eq_true, if_false] at h
    refine wp_region ?_
    have := region_wp hN hcall (ops := ops) (Q := Q) ops.toList 0 rfl hT hH h hQ
    rw [List.range_eq_range']
    simpa using this

theorem code_sim (hN : Named P) (hmix : P.follows .mixedOrders = true) {k : Nat} (hC : ∀ j, j ≤ k → SimCall P (lev P j).2) : ∀ c j, j ≤ k → CodeOK P c (runCode P (lev P j).2 (lev P j).1 c) := by
  intro c
  induction c with
  | skip =>
    intro j hj t M e t' M' h m a w Q hT hH hQ
    simp only [runCode, Option.some.injEq, Prod.mk.injEq] at h
    obtain ⟨rfl, rfl, rfl⟩ := h
    exact wp_skip (hQ a w m ⟨hT, rfl, hH, Ext.refl _ _, Below.refl _ _⟩)
  | label l =>
    intro j hj t M e t' M' h m a w Q hT hH hQ
    simp only [runCode, Option.some.injEq, Prod.mk.injEq] at h
    obtain ⟨rfl, rfl, rfl⟩ := h
    exact wp_label (hQ a w m ⟨hT, rfl, hH, Ext.refl _ _, Below.refl _ _⟩)
  | exit id =>
    intro j hj t M e t' M' h m a w Q hT hH hQ
    simp only [runCode, Option.some.injEq, Prod.mk.injEq] at h
    obtain ⟨rfl, rfl, rfl⟩ := h
    exact wp_exit (hQ a w m ⟨hT, rfl, hH, Ext.refl _ _, Below.refl _ _⟩)
  | ret =>
    intro j hj t M e t' M' h m a w Q hT hH hQ
    simp only [runCode, Option.some.injEq, Prod.mk.injEq] at h
    obtain ⟨rfl, rfl, rfl⟩ := h
    exact wp_ret (hQ a w m ⟨hT, rfl, hH, Ext.refl _ _, Below.refl _ _⟩)
  | region id ops draw =>
    intro j hj t M e t' M' h m a w Q hT hH hQ
    simp only [runCode] at h
    obtain ⟨r, hr, h⟩ := Option.map_eq_some_iff.1 h
    simp only [Prod.mk.injEq] at h
    obtain ⟨rfl, rfl, rfl⟩ := h
    exact region_sim (hC j hj) (lev_kept j).2 hN hmix (t' := r.1) (M' := r.2) hr hT hH hQ
  | seq x y ihx ihy =>
    intro j hj t M e t' M' h m a w Q hT hH hQ
    simp only [runCode] at h
    obtain ⟨r, hr, h⟩ := Option.bind_eq_some_iff.1 h
    refine wp_seq (ihx j hj t M r.1 r.2.1 r.2.2 hr m a w _ hT hH fun a' w' m' hn => ?_)
    obtain ⟨re, rt, rM⟩ := r
    simp only at h hn ⊢
    cases re with
    | normal => exact ihy j hj rt rM e t' M' h m' a' w' Q hn.tmps hn.heap fun a2 w2 m2 h2 => hQ a2 w2 m2 (hn.trans h2)
    | _ =>
      simp only [Option.some.injEq, Prod.mk.injEq] at h
      obtain ⟨rfl, rfl, rfl⟩ := h
      exact hQ a' w' m' hn
  | cond c x y ihx ihy =>
    intro j hj t M e t' M' h m a w Q hT hH hQ
    simp only [runCode] at h
    split at h
    case isFalse => cases h
    rename_i hok
    have hv := eval_sim hT hok
    split at h
    · rename_i hb
      rw [hb] at hv
      exact wp_cond_true (bool_inv hv) (ihx j hj t M e t' M' h m a w Q hT hH hQ)
    · rename_i hb
      rw [hb] at hv
      exact wp_cond_false (bool_inv hv) (ihy j hj t M e t' M' h m a w Q hT hH hQ)
    · cases h
  | block id x ihx =>
    intro j hj t M e t' M' h m a w Q hT hH hQ
    simp only [runCode] at h
    obtain ⟨r, hr, h⟩ := Option.map_eq_some_iff.1 h
    refine wp_block (ihx j hj t M r.1 r.2.1 r.2.2 hr m a w _ hT hH fun a' w' m' hn => ?_)
    obtain ⟨re, rt, rM⟩ := r
    simp only at h hn ⊢
    cases re with
    | exit id' =>
      simp only at h
      by_cases hid : id' = id
      · rw [if_pos hid] at h
        simp only [Prod.mk.injEq] at h
        obtain ⟨rfl, rfl, rfl⟩ := h
        simp only [Exit.inBlock, if_pos hid]
        exact hQ a' w' m' hn
      · rw [if_neg hid] at h
        simp only [Prod.mk.injEq] at h
        obtain ⟨rfl, rfl, rfl⟩ := h
        simp only [Exit.inBlock, if_neg hid]
        exact hQ a' w' m' hn
    | _ =>
      simp only [Prod.mk.injEq] at h
      obtain ⟨rfl, rfl, rfl⟩ := h
      exact hQ a' w' m' hn
  | loop x ihx =>
    intro j hj t M e t' M' h m a w Q hT hH hQ
    refine wp_loop_ghost (fun n a w => ∃ t M m, n ≤ k ∧ runCode P (lev P n).2 (lev P n).1 (.loop x) t M = some (e, t', M') ∧ VRs M.nb.size m t a.tmps ∧ HR P M m w ∧ (∀ a' w' m', Next P M m a w t' M' a' w' m' → Q e a' w')) j
      ⟨t, M, m, hj, h, hT, hH, hQ⟩ ?_
    clear h hT hH hQ
    intro n a w hI
    obtain ⟨t, M, m, hn, h, hT, hH, hQ⟩ := hI
    simp only [runCode] at h
    obtain ⟨r, hr, h⟩ := Option.bind_eq_some_iff.1 h
    refine ihx n hn t M r.1 r.2.1 r.2.2 hr m a w _ hT hH fun a' w' m' hnx => ?_
    obtain ⟨re, rt, rM⟩ := r
    simp only at h hnx ⊢
    cases re with
    | normal =>
      cases n with
      | zero => simp [lev] at h
      | succ n => exact ⟨n, Nat.lt_succ_self n, rt, rM, m', by omega, h, hnx.tmps, hnx.heap, fun a2 w2 m2 h2 => hQ a2 w2 m2 (hnx.trans h2)⟩
    | _ =>
      simp only [Option.some.injEq, Prod.mk.injEq] at h
      obtain ⟨rfl, rfl, rfl⟩ := h
      exact hQ a' w' m' hnx
  | rangeFunc => intro j hj t M e t' M' h; simp [runCode] at h
  | scope x ihx =>
    intro j hj t M e t' M' h m a w Q hT hH hQ
    simp only [runCode] at h
    obtain ⟨r, hr, h⟩ := Option.bind_eq_some_iff.1 h
    refine wp_scope_straight (ihx j hj t M r.1 r.2.1 r.2.2 hr m a w _ hT hH fun a' w' m' hn => ?_)
    obtain ⟨re, rt, rM⟩ := r
    simp only at h hn ⊢
    cases re with
    | goto l => cases h
    | _ =>
      simp only [Option.some.injEq, Prod.mk.injEq] at h
      obtain ⟨rfl, rfl, rfl⟩ := h
      exact hQ a' w' m' hn
  | goto => intro j hj t M e t' M' h; simp [runCode] at h
  | refuse => intro j hj t M e t' M' h; simp [runCode] at h

def resS (tmps : Array Value) (x : ResultVar) : Sem Value :=
  match x with
  | .tmp i => pure (tmps.getD i Go.undef)
  | .cell a ty => do loadVar ty (← asAddr (tmps.getD a Go.undef))

theorem resultP_sim {M : Mem} {m : Nat → Loc} {w : World} (h : HR P M m w) {t : Array Value} {tmps : Array Value} (hT : VRs M.nb.size m t tmps) {x : ResultVar} {u : Value} (hu : resultP P t M x = some u) :
    ∃ v, VR M.nb.size m u v ∧ (resS tmps x).run P w = .ok v w := by
  cases x with
  | tmp i =>
    simp only [resultP, Option.some.injEq] at hu
    subst hu
    exact ⟨_, hT.getD i, rfl⟩
  | cell a ty =>
    simp only [resultP] at hu
    have ha := hT.getD a
    split at hu
    · rename_i ad had
      rw [had] at ha
      obtain ⟨b, hb, hab, _⟩ := ptr_inv ha
      obtain ⟨v, hv, hvr⟩ := loadP_sim h hab hu
      exact ⟨v, hvr, by simp only [resS, hb, asAddr, Sem.run_bind, Sem.run_pure, Result.andThen, hv]⟩
    · cases hu

theorem resultsL_sim {M : Mem} {m : Nat → Loc} {w : World} (h : HR P M m w) {t tmps : Array Value} (hT : VRs M.nb.size m t tmps) : ∀ {l : List ResultVar} {us : List Value}, resultsL P t M l = some us →
    ∃ vs, VRl M.nb.size m us vs ∧ (l.mapM (resS tmps)).run P w = .ok vs w
  | [], us, hu => by
    simp only [resultsL, Option.some.injEq] at hu
    subst hu
    exact ⟨[], VRl.nil, by simp⟩
  | x :: l, us, hu => by
    simp only [resultsL] at hu
    obtain ⟨u, h1, hu⟩ := Option.bind_eq_some_iff.1 hu
    obtain ⟨us', h2, hu⟩ := Option.bind_eq_some_iff.1 hu
    obtain rfl := Option.some.inj hu
    obtain ⟨v, hv, hr⟩ := resultP_sim h hT h1
    obtain ⟨vs, hvs, hrs⟩ := resultsL_sim h hT h2
    refine ⟨v :: vs, VRl.cons hv hvs, ?_⟩
    rw [List.mapM_cons]
    simp only [Sem.run_bind, hr, Result.andThen, hrs, Sem.run_pure]

theorem results_sim {M : Mem} {m : Nat → Loc} {w : World} (h : HR P M m w) {t tmps : Array Value} (hT : VRs M.nb.size m t tmps) {fn : Func} {u : Value} (hu : resultsP P fn t M = some u) :
    ∃ v, VR M.nb.size m u v ∧ (results fn tmps).run P w = .ok v w := by
  unfold resultsP at hu
  obtain ⟨us, hus, rfl⟩ := Option.map_eq_some_iff.1 hu
  obtain ⟨vs, hvs, hr⟩ := resultsL_sim h hT hus
  have e : fn.results.mapM (resS tmps) = List.toArray <$> (fn.results.toList.mapM (resS tmps)) := by
    rw [Array.mapM_eq_mapM_toList]
  have hrun : (fn.results.mapM (resS tmps)).run P w = .ok vs.toArray w := by
    rw [e]; simp only [Sem.run_map, hr, Result.andThen]
  refine ⟨if h : vs.toArray.size = 1 then vs.toArray[0] else .tuple vs.toArray, ?_, ?_⟩
  · obtain ⟨hl, hV⟩ := hvs
    match us, vs, hl, hV with
    | [u], [v], _, hV => exact hV 0 (by simp) (by simp)
    | [], [], _, _ => exact VR.undef
    | u1 :: u2 :: us, v1 :: v2 :: vs, hl, hV =>
      have hv : VRl M.nb.size m (u1 :: u2 :: us) (v1 :: v2 :: vs) := ⟨hl, hV⟩
      have hn : ¬ (v1 :: v2 :: vs).toArray.size = 1 := by simp
      rw [dif_neg hn]
      exact .tuple _ _ hv.toArray.1 hv.toArray.2
  · show (do let vs ← fn.results.mapM (resS tmps); pure (if h : vs.size = 1 then vs[0] else .tuple vs) : Sem Value).run P w = _
    simp only [Sem.run_bind, hrun, Result.andThen]
    rfl

theorem enter_sim (hN : Named P) (hmix : P.follows .mixedOrders = true) {k : Nat} (hC : ∀ j, j ≤ k → SimCall P (lev P j).2) : SimCall P (enter P (lev P k).1 (lev P k).2) := by
  intro f args0 M v0 M' hc m args w hH hA
  unfold enter at hc
  split at hc
  case h_2 => cases hc
  rename_i fn hf
  split at hc
  case h_2 => cases hc
  rename_i c hb
  obtain ⟨r, hr, hc⟩ := Option.bind_eq_some_iff.1 hc
  have hT0 : VRs M.nb.size m (args0 ++ Array.replicate (fn.ntmps - args0.size) undef) (args ++ Array.replicate (fn.ntmps - args.size) Go.undef) := by
    rw [← hA.1]
    exact hA.append ⟨by simp, fun i h1 h2 => by simp only [Array.getElem_replicate]; exact VR.undef⟩
  refine calls_of_wp hf hb ?_
  refine code_sim hN hmix hC c k (Nat.le_refl k) _ M r.1 r.2.1 r.2.2 hr m _ w _ hT0 hH fun a' w' m' hn => ?_
  obtain ⟨re, rt, rM⟩ := r
  simp only at hc hn ⊢
  have fin : (resultsP P fn rt rM).map (fun v => (v, rM)) = some (v0, M') → bodyPost P fn (fun e w' => ∃ v m', e = .returned v ∧ VR M'.nb.size m' v0 v ∧ HR P M' m' w' ∧ Ext M M' m m' ∧ Below M.base.size w w') .ret a' w' := by
    intro h
    obtain ⟨u, hu, h⟩ := Option.map_eq_some_iff.1 h
    simp only [Prod.mk.injEq] at h
    obtain ⟨rfl, rfl⟩ := h
    obtain ⟨v, hv, hrr⟩ := results_sim hn.heap hn.tmps hu
    exact ⟨hn.defers, v, hrr, v, m', rfl, hv, hn.heap, hn.ext, hn.below⟩
  cases re with
  | normal => exact fin hc
  | ret => exact fin hc
  | _ => cases hc

theorem call_sim (hN : Named P) (hmix : P.follows .mixedOrders = true) (k : Nat) : SimCall P (lev P k).2 := by
  induction k using Nat.strongRecOn with
  | _ k ih =>
    cases k with
    | zero => intro f args0 M v0 M' hc; simp [lev] at hc
    | succ k => exact enter_sim hN hmix (fun j hj => ih j (by omega))

end
end Go.Sim
