/- The abstract machine 'Sim': operations that ask nothing of the memory. -/
import Derived.Test.YtbbdggpfhcgbpaaZsB
set_option linter.unusedSimpArgs false
set_option linter.unusedVariables false
namespace Go.Sim
open Go

section
variable {P : Program} {n : Nat} {m : Nat → Loc}

theorem sizeP_run {t : TypeId} {k : Nat} (h : sizeP P t = some k) (w : World) : (sizeOf t).run P w = .ok k w := by
  unfold sizeP at h
  obtain ⟨i, hi, rfl⟩ := Option.map_eq_some_iff.1 h
  simp [sizeOf, typeInfo, hi]
theorem zeroP_run {t : TypeId} {z : Value} (h : zeroP P t = some z) (w : World) : (zeroValue t).run P w = .ok z w ∧ closed z = true := by
  unfold zeroP at h
  replace h := Option.bind_eq_some_iff.1 h; obtain ⟨i, hi, h⟩ := h
  replace h := Option.bind_eq_some_iff.1 h; obtain ⟨z', hz, h⟩ := h
  split at h
  · rename_i hc
    obtain rfl := Option.some.inj h
    exact ⟨by simp [zeroValue, typeInfo, hi, hz], hc⟩
  · cases h
theorem isAggP_run {t : TypeId} {g : Bool} (h : isAggP P t = some g) (w : World) : (isAgg t).run P w = .ok g w := by
  unfold isAggP at h
  obtain ⟨d, hd, rfl⟩ := Option.map_eq_some_iff.1 h
  simp only [isAgg, Sem.run_bind, run_underlying hd, Result.andThen]
  cases d <;> rfl

theorem partP_sim {t : TypeId} {cs cs' : Array Value} {off : Nat} {u : Value} (hc : VRs n m cs cs') (h : partP P t cs off = some u) :
    ∃ v, VR n m u v ∧ ∀ w, (part t cs' off).run P w = .ok v w := by
  unfold partP at h
  replace h := Option.bind_eq_some_iff.1 h; obtain ⟨g, hg, h⟩ := h
  cases g with
  | true =>
    simp only [if_true] at h
    obtain ⟨k, hk, rfl⟩ := Option.map_eq_some_iff.1 h
    have := hc.extract off (off + k)
    exact ⟨_, .agg _ _ this.1 this.2, fun w => by simp [part, isAggP_run hg, sizeP_run hk, Result.andThen]⟩
  | false =>
    simp only [Bool.false_eq_true, if_false] at h
    obtain ⟨v, hv, hr⟩ := hc.get? h
    exact ⟨v, hr, fun w => by simp [part, isAggP_run hg, hv, Result.andThen]⟩

theorem int_inv {k : IntKind} {x : Int} {v : Value} (h : VR n m (.int k x) v) : v = .int k x := by cases h; rfl
theorem bool_inv {b : Bool} {v : Value} (h : VR n m (.bool b) v) : v = .bool b := by cases h; rfl
theorem agg_inv {cs : Array Value} {v : Value} (h : VR n m (.agg cs) v) : ∃ cs', v = .agg cs' ∧ VRs n m cs cs' := by
  cases h with | agg xs xs' hx hX => exact ⟨_, rfl, hx, hX⟩
theorem tuple_inv {cs : Array Value} {v : Value} (h : VR n m (.tuple cs) v) : ∃ cs', v = .tuple cs' ∧ VRs n m cs cs' := by
  cases h with | tuple xs xs' hx hX => exact ⟨_, rfl, hx, hX⟩

theorem fieldP_sim {t : TypeId} {x x' : Value} {f : Nat} {u : Value} (hx : VR n m x x') (h : fieldP P t x f = some u) :
    ∃ v, VR n m u v ∧ ∀ w, (Instr.field t x' f).run P w = .ok v w := by
  unfold fieldP at h
  split at h
  · rename_i fs cs hu
    replace h := Option.bind_eq_some_iff.1 h; obtain ⟨fd, hfd, h⟩ := h
    obtain ⟨cs', rfl, hcs⟩ := agg_inv hx
    obtain ⟨v, hv, hr⟩ := partP_sim hcs h
    exact ⟨v, hv, fun w => by simp [Instr.field, run_underlying hu, hfd, asAgg, hr, Result.andThen]⟩
  · cases h

theorem indexP_sim {t : TypeId} {x x' i i' : Value} {u : Value} (hx : VR n m x x') (hi : VR n m i i') (h : indexP P t x i = some u) :
    ∃ v, VR n m u v ∧ ∀ w, (Instr.index t x' i').run P w = .ok v w := by
  unfold indexP at h
  split at h
  · rename_i len e cs k j hu
    obtain ⟨cs', rfl, hcs⟩ := agg_inv hx
    obtain rfl := int_inv hi
    split at h
    · rename_i hj
      replace h := Option.bind_eq_some_iff.1 h; obtain ⟨size, hs, h⟩ := h
      obtain ⟨v, hv, hr⟩ := partP_sim hcs h
      exact ⟨v, hv, fun w => by simp [Instr.index, asIntOf, run_underlying hu, hj, sizeP_run hs, hr, Result.andThen]⟩
    · cases h
  · cases h

theorem indexAddrP_sim {t : TypeId} {x x' i i' : Value} {u : Value} (hx : VR n m x x') (hi : VR n m i i') (h : indexAddrP P t x i = some u) :
    ∃ v, VR n m u v ∧ ∀ w, (Instr.indexAt t x' i').run P w = .ok v w := by
  unfold indexAddrP at h
  split at h
  · rename_i len e a k j hu
    obtain ⟨b, rfl, hab, _⟩ := ptr_inv hx
    obtain rfl := int_inv hi
    replace h := Option.bind_eq_some_iff.1 h; obtain ⟨size, hs, h⟩ := h
    split at h
    · rename_i hj
      obtain rfl := Option.some.inj h
      refine ⟨_, (hab.add (j.toNat * size)).ptr, fun w => ?_⟩
      simp [Instr.indexAt, asIntOf, run_underlying hu, Instr.sureAddr, hj, sizeP_run hs, Result.andThen]
    · cases h
  · rename_i e a len c k j hu
    obtain rfl := int_inv hi
    replace h := Option.bind_eq_some_iff.1 h; obtain ⟨size, hs, h⟩ := h
    split at h
    · rename_i hj
      obtain rfl := Option.some.inj h
      have : ∃ b c', x' = .slice (some b) len c' ∧ AR n m a.block a.off b := by
        cases hx with
        | slNew j o l c hj' hl => exact ⟨_, _, rfl, .new _ _ hj'⟩
        | slOld b o l c hl => exact ⟨_, _, rfl, .old _ _⟩
        | slLoose j o l c hj' hl => exact ⟨_, _, rfl, .new _ _ hj'⟩
        | slOldE => omega
        | slE => omega
      obtain ⟨b, c', rfl, hab⟩ := this
      refine ⟨_, (hab.add (j.toNat * size)).ptr, fun w => ?_⟩
      simp [Instr.indexAt, asIntOf, run_underlying hu, hj, sizeP_run hs, Result.andThen]
    · cases h
  · cases h

theorem fieldAddrP_sim {t : TypeId} {x x' : Value} {f : Nat} {u : Value} (hx : VR n m x x') (h : fieldAddrP P t x f = some u) :
    ∃ v, VR n m u v ∧ ∀ w, (Instr.fieldAt t x' f).run P w = .ok v w := by
  unfold fieldAddrP at h
  split at h
  · rename_i fs a hu
    replace h := Option.bind_eq_some_iff.1 h; obtain ⟨fd, hfd, h⟩ := h
    replace h := Option.bind_eq_some_iff.1 h; obtain ⟨k, hk, h⟩ := h
    split at h
    · cases h
    · rename_i hk0
      obtain rfl := Option.some.inj h
      obtain ⟨b, rfl, hab, _⟩ := ptr_inv hx
      refine ⟨_, (hab.add fd.offset).ptr, fun w => ?_⟩
      simp [Instr.fieldAt, run_underlying hu, hfd, Instr.sureAddr, fieldPlace, sizeP_run hk, hk0, Result.andThen]
  · cases h

theorem bound_run {x x' : Option Value} {y d k : Nat} (hx : ∀ v, x = some v → ∃ v', x' = some v' ∧ VR n m v v') (hn : x = none → x' = none) (h : bound x y d = some k) :
    (x = none ∧ x' = none ∧ k = d) ∨ (∃ q i, x = some (.int q i) ∧ x' = some (.int q i) ∧ 0 ≤ i ∧ i ≤ y ∧ k = i.toNat) := by
  cases x with
  | none => exact .inl ⟨rfl, hn rfl, by simpa [bound] using h.symm⟩
  | some v =>
    obtain ⟨v', rfl, hv⟩ := hx v rfl
    unfold bound at h
    split at h
    · rename_i heq; cases heq
    · rename_i k' i heq
      obtain rfl := Option.some.inj heq
      obtain rfl := int_inv hv
      split at h
      · rename_i hi
        obtain rfl := Option.some.inj h
        exact .inr ⟨_, _, rfl, rfl, hi.1, hi.2, rfl⟩
      · cases h
    · cases h

/-- Bounds of a slice expression. -/
theorem bounds_run {lo hi mx lo' hi' mx' : Option Value} {isS : Bool} {len cap cap' l h m' : Nat}
    (h1 : ∀ v, lo = some v → ∃ v', lo' = some v' ∧ VR n m v v') (h1n : lo = none → lo' = none)
    (h2 : ∀ v, hi = some v → ∃ v', hi' = some v' ∧ VR n m v v') (h2n : hi = none → hi' = none)
    (h3 : ∀ v, mx = some v → ∃ v', mx' = some v' ∧ VR n m v v') (h3n : mx = none → mx' = none)
    (hcap : cap ≤ cap') (hm : bound mx cap cap = some m') (hh : (if hi.isNone && mx.isSome then none else bound hi m' len) = some h) (hl : bound lo h 0 = some l) :
    l ≤ h ∧ (h = len ∨ h ≤ m') ∧ m' ≤ cap ∧ (mx = none → m' = cap) ∧ (∀ w, (Instr.sliceBounds isS len cap' lo' hi' mx').run P w = .ok (l, h, if mx.isNone then cap' else m') w) := by
  have hm' : m' ≤ cap := by
    rcases bound_run h3 h3n hm with ⟨_, _, rfl⟩ | ⟨_, _, _, _, _, hk, rfl⟩ <;> omega
  have hle : l ≤ h := by
    rcases bound_run h1 h1n hl with ⟨_, _, rfl⟩ | ⟨_, _, _, _, _, hk, rfl⟩ <;> omega
  have hmn : mx = none → m' = cap := by
    intro e; subst e; simpa [bound] using hm.symm
  refine ⟨hle, ?_, hm', hmn, ?_⟩
  · split at hh
    · cases hh
    · rcases bound_run h2 h2n hh with ⟨_, _, rfl⟩ | ⟨_, _, _, _, _, hk, rfl⟩ <;> omega
  intro w
  cases mx with
  | none =>
    obtain rfl := h3n rfl
    obtain rfl := hmn rfl
    simp only [Option.isSome_none, Bool.and_false, Bool.false_eq_true, if_false] at hh
    rcases bound_run h2 h2n hh with ⟨rfl, rfl, rfl⟩ | ⟨q, i, rfl, rfl, hi0, hi1, rfl⟩
    · rcases bound_run h1 h1n hl with ⟨rfl, rfl, rfl⟩ | ⟨q', i', rfl, rfl, hi0', hi1', rfl⟩
      · simp [Instr.sliceBounds, Result.andThen]
      · simp [Instr.sliceBounds, Instr.sliceBound, asIntOf, hi0', hi1', Result.andThen]
    · have hc : i ≤ cap' := by omega
      rcases bound_run h1 h1n hl with ⟨rfl, rfl, rfl⟩ | ⟨q', i', rfl, rfl, hi0', hi1', rfl⟩
      · simp [Instr.sliceBounds, Instr.sliceBound, asIntOf, hi0, hc, Result.andThen]
      · have hi2 : i' ≤ i := by omega
        have hi3 : i' ≤ max i 0 := by omega
        simp [Instr.sliceBounds, Instr.sliceBound, asIntOf, hi0, hc, hi0', hi2, hi3, Result.andThen]
  | some mv =>
    rcases bound_run h3 h3n hm with ⟨h', _⟩ | ⟨q, i, h', rfl, hi0, hi1, rfl⟩
    · cases h'
    · obtain rfl := Option.some.inj h'
      have hc : i ≤ cap' := by omega
      split at hh
      · cases hh
      · rename_i hnn
        rcases bound_run h2 h2n hh with ⟨rfl, rfl, rfl⟩ | ⟨q2, i2, rfl, rfl, hi20, hi21, rfl⟩
        · simp at hnn
        · have h22 : i2 ≤ i := by omega
          have h23 : i2 ≤ max i 0 := by omega
          rcases bound_run h1 h1n hl with ⟨rfl, rfl, rfl⟩ | ⟨q', i', rfl, rfl, hi0', hi1', rfl⟩
          · simp [Instr.sliceBounds, Instr.sliceBound, asIntOf, hi0, hc, hi20, h22, h23, Result.andThen]
          · have hi2 : i' ≤ i2 := by omega
            have hi3 : i' ≤ max i2 0 := by omega
            simp [Instr.sliceBounds, Instr.sliceBound, asIntOf, hi0, hc, hi20, h22, h23, hi0', hi2, hi3, Result.andThen]

theorem sliceP_sim {t : TypeId} {x x' : Value} {lo hi mx lo' hi' mx' : Option Value} {u : Value} (hx : VR n m x x')
    (h1 : ∀ v, lo = some v → ∃ v', lo' = some v' ∧ VR n m v v') (h1n : lo = none → lo' = none)
    (h2 : ∀ v, hi = some v → ∃ v', hi' = some v' ∧ VR n m v v') (h2n : hi = none → hi' = none)
    (h3 : ∀ v, mx = some v → ∃ v', mx' = some v' ∧ VR n m v v') (h3n : mx = none → mx' = none)
    (h : sliceP P t x lo hi mx = some u) : ∃ v, VR n m u v ∧ ∀ w, (Instr.sliceAt t x' lo' hi' mx').run P w = .ok v w := by
  unfold sliceP at h
  split at h
  · rename_i e a len cap hu
    replace h := Option.bind_eq_some_iff.1 h; obtain ⟨m', hm', h⟩ := h
    replace h := Option.bind_eq_some_iff.1 h; obtain ⟨hh, hhh, h⟩ := h
    replace h := Option.bind_eq_some_iff.1 h; obtain ⟨l, hl, h⟩ := h
    replace h := Option.bind_eq_some_iff.1 h; obtain ⟨size, hs, h⟩ := h
    -- the run, whatever the address and the capacity are
    have key : ∀ (A : Option Addr) (cap' : Nat), cap ≤ cap' → ∀ w, (Instr.sliceAt t (.slice A len cap') lo' hi' mx').run P w =
        .ok (.slice (if (if mx.isNone then cap' else m') = l then A else A.map (·.add (l * size))) (hh - l) ((if mx.isNone then cap' else m') - l)) w := by
      intro A cap' hcap w
      have hb := (bounds_run (P := P) (isS := true) h1 h1n h2 h2n h3 h3n hcap hm' hhh hl).2.2.2.2 w
      simp [Instr.sliceAt, Instr.slice, run_underlying hu, hb, sizeP_run hs, Result.andThen]
    have hb := bounds_run (P := P) (isS := true) h1 h1n h2 h2n h3 h3n (Nat.le_refl cap) hm' hhh hl
    obtain ⟨hle, hhm, hmc, hmn, _⟩ := hb
    cases hx with
    | slNil =>
      have e0 : m' = 0 := by omega
      have e1 : hh = 0 := by omega
      have e2 : l = 0 := by omega
      subst e0; subst e1; subst e2
      simp only [and_self, if_true, Option.some.injEq] at h
      subst h
      refine ⟨_, .slNil, fun w => ?_⟩
      rw [key none 0 (Nat.le_refl _) w]
      simp
    | slNew j o _ _ hj hlc =>
      have hhm' : hh ≤ m' ∨ hh = len := by omega
      simp only [cut, show ¬ (2 * j) % 2 = 1 by omega, if_false, if_true] at h
      obtain rfl := Option.some.inj h
      refine ⟨_, ?_, fun w => key _ cap (Nat.le_refl _) w⟩
      have em : (if mx.isNone then cap else m') = m' := by
        cases mx with
        | none => simp [hmn rfl]
        | some _ => simp
      rw [em]
      have hml : hh ≤ m' := by
        rcases hhm with rfl | h'
        · rcases mx with _ | mv
          · rw [hmn rfl]; exact hlc
          · have := hhh
            rcases hi with _ | hv
            · simp at this
            · simp only [Option.isNone_some, Bool.false_and, Bool.false_eq_true, if_false] at this
              rcases bound_run h2 h2n this with ⟨h', _⟩ | ⟨_, _, _, _, _, hk, _⟩
              · cases h'
              · omega
        · exact h'
      by_cases hml' : m' = l
      · simp only [hml', if_true]; exact .slNew _ _ _ _ hj (by omega)
      · simp only [hml', if_false, Option.map_some]
        have := (AR.new (m := m) j o hj).add (l * size)
        rw [show (⟨(m j).B, o + (m j).s, none⟩ : Addr).add (l * size) = ⟨(m j).B, o + l * size + (m j).s, none⟩ by unfold Addr.add; split <;> simp_all <;> omega]
        exact .slNew _ _ _ _ hj (by omega)
    | slOld b o _ _ hlc =>
      simp only [cut, show (2 * b + 1) % 2 = 1 by omega, if_true] at h
      split at h
      · rename_i hhl
        obtain rfl := Option.some.inj h
        refine ⟨_, ?_, fun w => key _ cap (Nat.le_refl _) w⟩
        have em : (if mx.isNone then cap else m') = m' := by
          cases mx with
          | none => simp [hmn rfl]
          | some _ => simp
        rw [em]
        have hml : hh ≤ m' := by
          rcases mx with _ | mv
          · have := hmn rfl; omega
          · have := hhh
            rcases hi with _ | hv
            · simp at this
            · simp only [Option.isNone_some, Bool.false_and, Bool.false_eq_true, if_false] at this
              rcases bound_run h2 h2n this with ⟨h', _⟩ | ⟨_, _, _, _, _, hk, _⟩
              · cases h'
              · omega
        by_cases hml' : m' = l
        · simp only [hml', if_true]; exact .slOld _ _ _ _ (by omega)
        · simp only [hml', if_false, Option.map_some]
          rw [show (⟨b, o, none⟩ : Addr).add (l * size) = ⟨b, o + l * size, none⟩ by unfold Addr.add; split <;> simp_all]
          exact .slOld _ _ _ _ (by omega)
      · cases h
    | slOldE b o _ a =>
      simp only [cut, show (2 * b + 1) % 2 = 1 by omega, if_true] at h
      split at h
      · rename_i hhl
        have e1 : hh = 0 := by omega
        have e2 : l = 0 := by omega
        subst e1; subst e2
        obtain rfl := Option.some.inj h
        refine ⟨_, ?_, fun w => key _ cap (Nat.le_refl _) w⟩
        have em : (if mx.isNone then cap else m') = m' := by
          cases mx with
          | none => simp [hmn rfl]
          | some _ => simp
        rw [em]
        simp only [Nat.zero_mul, Nat.add_zero, Nat.sub_zero, ite_self, Option.map_some, Addr.add, if_true]
        exact .slOldE _ _ _ _
      · cases h
    | slLoose j o _ _ hj hlc =>
      simp only [cut, show ¬ (2 * j) % 2 = 1 by omega, if_false, reduceCtorEq] at h
      refine ⟨_, ?_, fun w => key _ (cap + (m j).e) (by omega) w⟩
      rcases mx with _ | mv
      · have := hmn rfl
        subst this
        simp only [Option.isSome_none, Bool.false_eq_true, if_false] at h
        obtain rfl := Option.some.inj h
        simp only [Option.isNone_none, if_true]
        have hhc : hh ≤ m' := by omega
        by_cases hml' : m' + (m j).e = l
        · simp only [hml', if_true]
          have e1 : m' = l := by omega
          have e2 : hh = l := by omega
          subst e1; subst e2
          simp only [Nat.sub_self]
          exact .slE _ _ _ _ hj
        · simp only [hml', if_false, Option.map_some]
          rw [show (⟨(m j).B, o + (m j).s, none⟩ : Addr).add (l * size) = ⟨(m j).B, o + l * size + (m j).s, none⟩ by unfold Addr.add; split <;> simp_all <;> omega]
          rw [show m' + (m j).e - l = m' - l + (m j).e by omega]
          exact .slLoose _ _ _ _ hj (by omega)
      · simp only [Option.isSome_some, if_true] at h
        obtain rfl := Option.some.inj h
        simp only [Option.isNone_some, Bool.false_eq_true, if_false]
        have hml : hh ≤ m' := by
          have := hhh
          rcases hi with _ | hv
          · simp at this
          · simp only [Option.isNone_some, Bool.false_and, Bool.false_eq_true, if_false] at this
            rcases bound_run h2 h2n this with ⟨h', _⟩ | ⟨_, _, _, _, _, hk, _⟩
            · cases h'
            · omega
        by_cases hml' : m' = l
        · simp only [hml', if_true]; exact .slNew _ _ _ _ hj (by omega)
        · simp only [hml', if_false, Option.map_some]
          rw [show (⟨(m j).B, o + (m j).s, none⟩ : Addr).add (l * size) = ⟨(m j).B, o + l * size + (m j).s, none⟩ by unfold Addr.add; split <;> simp_all <;> omega]
          exact .slNew _ _ _ _ hj (by omega)
    | slE j o sp a hj =>
      have e0 : m' = 0 := by omega
      have e1 : hh = 0 := by
        rcases hhm with h' | h' <;> omega
      have e2 : l = 0 := by omega
      subst e0; subst e1; subst e2
      refine ⟨_, ?_, fun w => key _ 0 (Nat.le_refl _) w⟩
      have em : (if mx.isNone then 0 else 0) = 0 := by split <;> rfl
      rw [em]
      simp only [if_true]
      simp only [cut, show ¬ (2 * j) % 2 = 1 by omega, if_false, if_true, Nat.zero_mul, Nat.add_zero] at h
      split at h
      · obtain rfl := Option.some.inj h; exact .slE _ _ _ _ hj
      · split at h <;> (obtain rfl := Option.some.inj h; exact .slE _ _ _ _ hj)
  · rename_i k e a hu
    replace h := Option.bind_eq_some_iff.1 h; obtain ⟨m', hm', h⟩ := h
    replace h := Option.bind_eq_some_iff.1 h; obtain ⟨hh, hhh, h⟩ := h
    replace h := Option.bind_eq_some_iff.1 h; obtain ⟨l, hl, h⟩ := h
    replace h := Option.bind_eq_some_iff.1 h; obtain ⟨size, hs, h⟩ := h
    obtain ⟨b, rfl, hab, hsp⟩ := ptr_inv hx
    obtain ⟨hle, hhm, hmc, hmn, hr⟩ := bounds_run (P := P) (isS := false) h1 h1n h2 h2n h3 h3n (Nat.le_refl k) hm' hhh hl
    split at h
    · cases h
    · rename_i hnew
      obtain rfl := Option.some.inj h
      have em : (if mx.isNone then k else m') = m' := by
        cases mx with
        | none => simp [hmn rfl]
        | some _ => simp
      simp only [em] at hr
      refine ⟨.slice (some (if m' = l then b else b.add (l * size))) (hh - l) (m' - l), ?_, fun w => ?_⟩
      · obtain ⟨blk, o, sp⟩ := a
        simp only at hsp; subst hsp
        simp only at hab hnew
        have hml : hh ≤ m' := by
          rcases hhm with rfl | h'
          · rcases mx with _ | mv
            · rw [hmn rfl]; exact Nat.le_refl _
            · have := hhh
              rcases hi with _ | hv
              · simp at this
              · simp only [Option.isNone_some, Bool.false_and, Bool.false_eq_true, if_false] at this
                rcases bound_run h2 h2n this with ⟨h', _⟩ | ⟨_, _, _, _, _, hk, _⟩
                · cases h'
                · omega
          · exact h'
        cases hab with
        | old b' => exact absurd (show (2 * b' + 1) % 2 = 1 ∨ _ from .inl (by omega)) hnew
        | new j _ hj =>
          by_cases hml' : m' = l
          · simp only [hml', if_true]; exact .slNew _ _ _ _ hj (by omega)
          · simp only [hml', if_false]
            rw [show (⟨(m j).B, o + (m j).s, none⟩ : Addr).add (l * size) = ⟨(m j).B, o + l * size + (m j).s, none⟩ by unfold Addr.add; split <;> simp_all <;> omega]
            exact .slNew _ _ _ _ hj (by omega)
      · simp [Instr.sliceAt, run_underlying hu, Instr.sureAddr, hr w, sizeP_run hs, Result.andThen]
  · cases h

end
end Go.Sim
