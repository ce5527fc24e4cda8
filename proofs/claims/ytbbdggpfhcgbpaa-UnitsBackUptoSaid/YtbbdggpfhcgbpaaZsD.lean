/- The abstract machine 'Sim': one pure operation. -/
import Derived.Test.YtbbdggpfhcgbpaaZsC
set_option linter.unusedSimpArgs false
set_option linter.unusedVariables false
namespace Go.Sim
open Go

section
variable {P : Program} {n : Nat} {m : Nat → Loc}

theorem fill_fold {acc acc' : Array Value} (off : Nat) : ∀ (xs ys : List Value) (k : Nat), VRl n m xs ys → VRs n m acc acc' →
    VRs n m ((xs.zipIdx k).foldl (fun cs (x : Value × Nat) => cs.setIfInBounds (off + x.2) x.1) acc) ((ys.zipIdx k).foldl (fun cs (x : Value × Nat) => cs.setIfInBounds (off + x.2) x.1) acc') := by
  intro xs
  induction xs generalizing acc acc' with
  | nil =>
    intro ys k h ha
    cases ys with
    | nil => simpa using ha
    | cons y ys => simp [VRl] at h
  | cons x xs ih =>
    intro ys k h ha
    obtain ⟨v, ys', rfl, hv, ht⟩ := h.tail
    simp only [List.zipIdx_cons, List.foldl_cons]
    exact ih ys' (k + 1) ht (ha.set _ hv)

def Parts (n : Nat) (m : Nat → Loc) (ps qs : List (Nat × Value)) : Prop := ps.length = qs.length ∧ ∀ i (h1 : i < ps.length) (h2 : i < qs.length), ps[i].1 = qs[i].1 ∧ VR n m ps[i].2 qs[i].2
theorem Parts.tail {p : Nat × Value} {ps qs : List (Nat × Value)} (h : Parts n m (p :: ps) qs) : ∃ v qs', qs = (p.1, v) :: qs' ∧ VR n m p.2 v ∧ Parts n m ps qs' := by
  cases qs with
  | nil => simp [Parts] at h
  | cons q qs =>
    have h0 := h.2 0 (by simp) (by simp)
    simp only [List.getElem_cons_zero] at h0
    refine ⟨q.2, qs, ?_, h0.2, by simpa using h.1, fun i h1 h2 => h.2 (i + 1) (by simpa using h1) (by simpa using h2)⟩
    rw [h0.1]
theorem fill_sim (place : Nat → Option (Nat × Nat)) : ∀ (ps qs : List (Nat × Value)) {cs cs' r : Array Value}, Parts n m ps qs → VRs n m cs cs' → Instr.fill place cs ps = some r →
    ∃ r', Instr.fill place cs' qs = some r' ∧ VRs n m r r' := by
  intro ps
  induction ps with
  | nil =>
    intro qs cs cs' r h hc hr
    cases qs with
    | nil => simp only [Instr.fill, Option.some.injEq] at hr; subst hr; exact ⟨cs', rfl, hc⟩
    | cons q qs => simp [Parts] at h
  | cons p ps ih =>
    intro qs cs cs' r h hc hr
    obtain ⟨v, qs', rfl, hv, ht⟩ := h.tail
    obtain ⟨i, x⟩ := p
    simp only at hv ⊢
    simp only [Instr.fill] at hr ⊢
    cases hp : place i with
    | none => simp [hp] at hr
    | some os =>
      obtain ⟨off, size⟩ := os
      simp only [hp] at hr ⊢
      have hcl := hv.cells
      have e1 := hcl.1
      have e2 := hc.1
      split at hr
      · cases hr
      · rename_i hcond
        rw [if_neg (by rw [← e1, ← e2]; exact hcond)]
        refine ih qs' ht ?_ hr
        have := fill_fold (n := n) (m := m) (acc := cs) (acc' := cs') off x.cells.toList v.cells.toList 0 hcl.toList hc
        rw [← Array.foldl_toList, ← Array.foldl_toList]
        simpa [Array.toList_zipIdx] using this

theorem setAll_fold : ∀ (xs : List Value) (off k : Nat) (acc : Array Value), setAll xs (off + k) acc.toList = ((xs.zipIdx k).foldl (fun cs (x : Value × Nat) => cs.setIfInBounds (off + x.2) x.1) acc).toList
  | [], off, k, acc => by simp [setAll]
  | x :: xs, off, k, acc => by
    simp only [setAll, List.zipIdx_cons, List.foldl_cons]
    have := setAll_fold xs off (k + 1) (acc.setIfInBounds (off + k) x)
    rw [← this]
    simp [Nat.add_assoc]
theorem fillL_eq (place : Nat → Option (Nat × Nat)) : ∀ (ps : List (Nat × Value)) (cs : Array Value) {l : List Value}, fillL place ps cs.toList = some l → Instr.fill place cs ps = some l.toArray
  | [], cs, l, h => by simp only [fillL, Option.some.injEq] at h; subst h; simp [Instr.fill]
  | (i, v) :: ps, cs, l, h => by
    simp only [fillL] at h
    simp only [Instr.fill]
    cases hp : place i with
    | none => rw [hp] at h; cases h
    | some os =>
      obtain ⟨off, size⟩ := os
      rw [hp] at h
      simp only [Array.length_toList] at h ⊢
      split at h
      · cases h
      · rename_i hc
        rw [if_neg hc]
        have e : setAll v.cells.toList off cs.toList = (v.cells.zipIdx.foldl (fun cs (x : Value × Nat) => cs.setIfInBounds (off + x.2) x.1) cs).toList := by
          have := setAll_fold v.cells.toList off 0 cs
          rw [← Array.foldl_toList]
          simpa [Array.toList_zipIdx] using this
        rw [e] at h
        exact fillL_eq place ps _ h
theorem zeroRow_eq (z : Array Value) (k : Nat) : zeroRow z k = (Array.range k).map (z[· % z.size]!) := by
  apply Array.ext
  · simp [zeroRow]
  · intro i h1 h2
    simp only [zeroRow, List.getElem_toArray, List.getElem_map, List.getElem_range, Array.getElem_map, Array.getElem_range]
    by_cases h : i % z.size < z.size
    · rw [getElem!_pos z _ h]; simp [List.getD, h]
    · rw [getElem!_neg z _ h]; simp [List.getD, Array.getElem?_eq_none (Nat.le_of_not_lt h)]
theorem placesP_run : ∀ {fs : List Field} {ps : List (Nat × Nat)}, placesP P fs = some ps → ∀ w, (fs.mapM fun f => do pure (f.offset, ← sizeOf f.type) : Sem (List (Nat × Nat))).run P w = .ok ps w
  | [], ps, h, w => by simp only [placesP, Option.some.injEq] at h; subst h; simp
  | f :: fs, ps, h, w => by
    simp only [placesP] at h
    obtain ⟨k, hk, h⟩ := Option.bind_eq_some_iff.1 h
    obtain ⟨l, hl, h⟩ := Option.bind_eq_some_iff.1 h
    obtain rfl := Option.some.inj h
    rw [List.mapM_cons]
    simp only [Sem.run_bind, sizeP_run hk, Result.andThen, Sem.run_pure, placesP_run hl w]

theorem equal_ptr {t e : TypeId} (hu : P.underlying t = some (.pointer e)) (a : Addr) (w : World) :
    (Op.equal t (.pointer (some a)) (.pointer none)).run P w = .ok false w ∧ (Op.equal t (.pointer none) (.pointer (some a))).run P w = .ok false w := by
  constructor <;> (unfold Op.equal Op.maxDepth; rw [show (10000 : Nat) = 9999 + 1 from rfl, Op.equalIn]; simp only [Sem.run_bind, run_underlying hu, Result.andThen]; rfl)
theorem equal_sl {t e : TypeId} (hu : P.underlying t = some (.slice e)) (a : Addr) (l c l' c' : Nat) (w : World) :
    (Op.equal t (.slice (some a) l c) (.slice none l' c')).run P w = .ok false w ∧ (Op.equal t (.slice none l' c') (.slice (some a) l c)).run P w = .ok false w := by
  constructor <;> (unfold Op.equal Op.maxDepth; rw [show (10000 : Nat) = 9999 + 1 from rfl, Op.equalIn]; simp only [Sem.run_bind, run_underlying hu, Result.andThen]; rfl)
theorem equal_fn {t : TypeId} {ps rs : Array TypeId} {vr : Bool} (hu : P.underlying t = some (.func ps rs vr)) (f : Fn) (x y : Array Value) (w : World) :
    (Op.equal t (.func f x y) .nilFunc).run P w = .ok false w ∧ (Op.equal t .nilFunc (.func f x y)).run P w = .ok false w := by
  constructor <;> (unfold Op.equal Op.maxDepth; rw [show (10000 : Nat) = 9999 + 1 from rfl, Op.equalIn]; simp only [Sem.run_bind, run_underlying hu, Result.andThen]; rfl)

theorem equal_nils {t e : TypeId} {ps rs : Array TypeId} {vr : Bool} (w : World) :
    (P.underlying t = some (.pointer e) → (Op.equal t (.pointer none) (.pointer none)).run P w = .ok true w) ∧ (P.underlying t = some (.slice e) → ∀ l c l' c', (Op.equal t (.slice none l c) (.slice none l' c')).run P w = .ok true w) ∧
    (P.underlying t = some (.func ps rs vr) → (Op.equal t .nilFunc .nilFunc).run P w = .ok true w) := by
  refine ⟨fun hu => ?_, fun hu l c l' c' => ?_, fun hu => ?_⟩ <;> (unfold Op.equal Op.maxDepth; rw [show (10000 : Nat) = 9999 + 1 from rfl, Op.equalIn]; simp only [Sem.run_bind, run_underlying hu, Result.andThen]; rfl)
theorem guard_nil (op : BinOp) (t : TypeId) (ox oy : Operand) : eqGuard op t ox oy .nilFunc .nilFunc = pure () := by cases op <;> rfl

def EqRuns (P : Program) (t : TypeId) (x' y' : Value) (b : Bool) : Prop :=
  ∀ (ox oy : Operand) (w : World), (do eqGuard .eql t ox oy x' y'; binOp .eql t x' y' : Sem Value).run P w = .ok (.bool b) w ∧ (do eqGuard .neq t ox oy x' y'; binOp .neq t x' y' : Sem Value).run P w = .ok (.bool !b) w
theorem EqRuns.mk {t : TypeId} {x' y' : Value} {b : Bool} (h : ∀ w, (Op.equal t x' y').run P w = .ok b w)
    (hg : ∀ op ox oy, eqGuard op t ox oy x' y' = pure ()) (h1 : binOp .eql t x' y' = (do pure (.bool (← Op.equal t x' y')))) (h2 : binOp .neq t x' y' = (do pure (.bool (!(← Op.equal t x' y'))))) : EqRuns P t x' y' b := by
  intro ox oy w
  rw [hg, hg, h1, h2]
  simp [h w, Result.andThen]
theorem guard_ptr (op : BinOp) (t : TypeId) (ox oy : Operand) (a b : Option Addr) : eqGuard op t ox oy (.pointer a) (.pointer b) = pure () := by cases op <;> rfl
theorem guard_sl (op : BinOp) (t : TypeId) (ox oy : Operand) (a b : Option Addr) (l c l' c' : Nat) : eqGuard op t ox oy (.slice a l c) (.slice b l' c') = pure () := by cases op <;> rfl
theorem guard_fn (op : BinOp) (t : TypeId) (ox oy : Operand) (f : Fn) (x y : Array Value) : eqGuard op t ox oy (.func f x y) .nilFunc = pure () ∧ eqGuard op t ox oy .nilFunc (.func f x y) = pure () := by cases op <;> exact ⟨rfl, rfl⟩

theorem eqNil_sim {t : TypeId} {x y x' y' : Value} {b : Bool} (hx : VR n m x x') (hy : VR n m y y') (h : eqNil P t x y = some b) : EqRuns P t x' y' b := by
  unfold eqNil at h
  split at h
  · rename_i e hu
    obtain rfl := Option.some.inj h
    cases hx
    cases hy
    exact .mk (fun w => (equal_nils (e := e) (ps := #[]) (rs := #[]) (vr := false) w).1 hu) (fun op _ _ => guard_ptr op ..) rfl rfl
  · rename_i e _ _ _ _ hu
    obtain rfl := Option.some.inj h
    cases hx
    cases hy
    exact .mk (fun w => (equal_nils (e := e) (ps := #[]) (rs := #[]) (vr := false) w).2.1 hu _ _ _ _) (fun op _ _ => guard_sl op ..) rfl rfl
  · rename_i ps rs vr hu
    obtain rfl := Option.some.inj h
    cases hx
    cases hy
    exact .mk (fun w => (equal_nils (e := 0) w).2.2 hu) (fun op _ _ => guard_nil op ..) rfl rfl
  · rename_i e a hu
    obtain rfl := Option.some.inj h
    obtain ⟨a', rfl, _⟩ := ptr_inv hx
    cases hy
    exact .mk (fun w => (equal_ptr hu _ w).1) (fun op _ _ => guard_ptr op ..) rfl rfl
  · rename_i e a hu
    obtain rfl := Option.some.inj h
    obtain ⟨a', rfl, _⟩ := ptr_inv hy
    cases hx
    exact .mk (fun w => (equal_ptr hu _ w).2) (fun op _ _ => guard_ptr op ..) rfl rfl
  · rename_i e a l c l' c' hu
    obtain rfl := Option.some.inj h
    have : ∃ a' c'', x' = .slice (some a') l c'' := by cases hx <;> exact ⟨_, _, rfl⟩
    obtain ⟨a', c'', rfl⟩ := this
    cases hy
    exact .mk (fun w => (equal_sl hu _ _ _ _ _ w).1) (fun op _ _ => guard_sl op ..) rfl rfl
  · rename_i e l' c' a l c hu
    obtain rfl := Option.some.inj h
    have : ∃ a' c'', y' = .slice (some a') l c'' := by cases hy <;> exact ⟨_, _, rfl⟩
    obtain ⟨a', c'', rfl⟩ := this
    cases hx
    exact .mk (fun w => (equal_sl hu _ _ _ _ _ w).2) (fun op _ _ => guard_sl op ..) rfl rfl
  · rename_i ps rs vr f x1 y1 hu
    obtain rfl := Option.some.inj h
    cases hx
    cases hy
    exact .mk (fun w => (equal_fn hu _ _ _ w).1) (fun op _ _ => (guard_fn op ..).1) rfl rfl
  · rename_i ps rs vr f x1 y1 hu
    obtain rfl := Option.some.inj h
    cases hx
    cases hy
    exact .mk (fun w => (equal_fn hu _ _ _ w).2) (fun op _ _ => (guard_fn op ..).2) rfl rfl
  · cases h

theorem map_opt {α : Type} {f g : α → Value} {x : Option α} (h : ∀ y, x = some y → VR n m (f y) (g y)) : ∀ v, x.map f = some v → ∃ v', x.map g = some v' ∧ VR n m v v' := by
  intro v hv
  obtain ⟨y, hy, rfl⟩ := Option.map_eq_some_iff.1 hv
  exact ⟨g y, by simp [hy], h y hy⟩

theorem parts_sim {ρ0 ρ : Operand → Value} {ps : Array (Nat × Operand)} (h : ∀ p ∈ ps.toList, VR n m (ρ0 p.2) (ρ p.2)) :
    Parts n m (ps.toList.map fun p => (p.1, ρ0 p.2)) (ps.toList.map fun p => (p.1, ρ p.2)) := by
  refine ⟨by simp, fun i h1 h2 => ?_⟩
  simp only [List.getElem_map]
  exact ⟨trivial, h _ (List.getElem_mem _)⟩

theorem openOp_sim (o : Oper) {ρ0 ρ : Operand → Value} (hρ : ∀ x ∈ o.op.operands.toList, VR n m (ρ0 x) (ρ x)) {u : Value} (h : openOp P ρ0 o.op = some u) :
    ∃ v, VR n m u v ∧ ∀ w, (execOp ρ o).run P w = .ok (.value v) w := by
  obtain ⟨dst, op, type, pos, after, guard⟩ := o
  simp only at hρ h
  unfold openOp at h
  split at h
  · -- pick
    rename_i c a b
    have hc := hρ c (by simp [Op.operands])
    split at h
    · rename_i t ht
      rw [ht] at hc
      have := bool_inv hc
      obtain rfl := Option.some.inj h
      refine ⟨if t then ρ a else ρ b, ?_, fun w => by simp [execOp, this, asBool, Result.andThen]⟩
      cases t
      · exact hρ b (by simp [Op.operands])
      · exact hρ a (by simp [Op.operands])
    · cases h
  · -- build
    rename_i t parts
    have hp := parts_sim (n := n) (m := m) (ρ0 := ρ0) (ρ := ρ) (ps := parts) (fun p hp => hρ p.2 (by simpa [Op.operands] using ⟨p.1, by simpa using hp⟩))
    unfold buildP at h
    replace h := Option.bind_eq_some_iff.1 h; obtain ⟨z, hz, h⟩ := h
    have hzc : VRs n m z.cells z.cells := (VR.refl_of_closed (zeroP_run hz default).2).cells
    split at h
    · rename_i fs hu
      replace h := Option.bind_eq_some_iff.1 h; obtain ⟨ps, hps, h⟩ := h
      replace h := Option.bind_eq_some_iff.1 h; obtain ⟨r, hr, h⟩ := h
      obtain rfl := Option.some.inj h
      obtain ⟨r', hr', hrr⟩ := fill_sim _ _ _ hp hzc (fillL_eq _ _ _ hr)
      have hrun : ∀ w, (fs.mapM fun f => do pure (f.offset, ← sizeOf f.type) : Sem (Array (Nat × Nat))).run P w = .ok ps.toArray w := fun w => by
        rw [Array.mapM_eq_mapM_toList]
        simp only [Sem.run_map, placesP_run hps w, Result.andThen]
      refine ⟨.agg r', .agg _ _ hrr.1 hrr.2, fun w => ?_⟩
      simp only [execOp, Instr.build, Sem.run_bind, (zeroP_run hz w).1, Result.andThen, run_underlying hu]
      have hr2 : Instr.fill (fun x => ps[x]?) z.cells (List.map (fun p => (p.1, ρ p.2)) parts.toList) = some r' := hr'
      rw [show (fs.mapM fun f => do pure (f.offset, ← sizeOf f.type) : Sem (Array (Nat × Nat))).run P w = .ok ps.toArray w from hrun w]
      simp [hr2, Result.andThen]
    · rename_i k e hu
      replace h := Option.bind_eq_some_iff.1 h; obtain ⟨sz, hsz, h⟩ := h
      replace h := Option.bind_eq_some_iff.1 h; obtain ⟨r, hr, h⟩ := h
      obtain rfl := Option.some.inj h
      obtain ⟨r', hr', hrr⟩ := fill_sim _ _ _ hp hzc (fillL_eq _ _ _ hr)
      refine ⟨.agg r', .agg _ _ hrr.1 hrr.2, fun w => ?_⟩
      simp only [execOp, Instr.build, Sem.run_bind, (zeroP_run hz w).1, Result.andThen, run_underlying hu, sizeP_run hsz]
      simp [hr', Result.andThen]
    · cases h
  · -- nilCheck
    rename_i x
    have hx := hρ x (by simp [Op.operands])
    unfold nilV at h
    split at h
    · rename_i a ha
      rw [ha] at hx
      obtain rfl := Option.some.inj h
      obtain ⟨b, hb, hab, _⟩ := ptr_inv hx
      exact ⟨.pointer (some b), by rw [← hb]; exact hx, fun w => by simp [execOp, hb]⟩
    · rename_i f first captured ha
      rw [ha] at hx
      obtain rfl := Option.some.inj h
      generalize hv : ρ x = v at hx
      cases hx with
      | func f xs xs' ys ys' h1 h2 h3 h4 => exact ⟨_, .func f _ _ _ _ h1 h2 h3 h4, fun w => by simp [execOp, hv]⟩
    · cases h
  · -- eql
    rename_i t x y yT
    obtain ⟨b, hb, rfl⟩ := Option.map_eq_some_iff.1 h
    have hx := hρ x (by simp [Op.operands])
    have hy := hρ y (by simp [Op.operands])
    refine ⟨.bool b, .bool b, fun w => ?_⟩
    have := (eqNil_sim hx hy hb x y w).1
    simp only [execOp, Sem.run_bind] at this ⊢
    rw [this]
    simp [Result.andThen]
  · -- neq
    rename_i t x y yT
    obtain ⟨b, hb, rfl⟩ := Option.map_eq_some_iff.1 h
    have hx := hρ x (by simp [Op.operands])
    have hy := hρ y (by simp [Op.operands])
    refine ⟨.bool !b, .bool _, fun w => ?_⟩
    have := (eqNil_sim hx hy hb x y w).2
    simp only [execOp, Sem.run_bind] at this ⊢
    rw [this]
    simp [Result.andThen]
  · -- makeFunc
    rename_i f first captured
    obtain rfl := Option.some.inj h
    have h1 : VRs n m (first.map ρ0) (first.map ρ) := VRs.map fun x hx => hρ x (by simp [Op.operands]; exact .inl hx)
    have h2 : VRs n m (captured.map ρ0) (captured.map ρ) := VRs.map fun x hx => hρ x (by simp [Op.operands]; exact .inr hx)
    exact ⟨_, .func f _ _ _ _ h1.1 h1.2 h2.1 h2.2, fun w => by simp [execOp, Instr.makeFunc, Result.andThen]⟩
  · -- slice
    rename_i t x lo hi mx
    have hx := hρ x (by simp [Op.operands])
    obtain ⟨v, hv, hr⟩ := sliceP_sim (P := P) hx (map_opt (g := ρ) fun y hy => hρ y (by simp [Op.operands, hy])) (by simp) (map_opt (g := ρ) fun y hy => hρ y (by simp [Op.operands, hy])) (by simp)
      (map_opt (g := ρ) fun y hy => hρ y (by simp [Op.operands, hy])) (by simp) h
    exact ⟨v, hv, fun w => by simp [execOp, hr, Result.andThen]⟩
  · rename_i t x f
    obtain ⟨v, hv, hr⟩ := fieldAddrP_sim (P := P) (hρ x (by simp [Op.operands])) h
    exact ⟨v, hv, fun w => by simp [execOp, hr, Result.andThen]⟩
  · rename_i t x f
    obtain ⟨v, hv, hr⟩ := fieldP_sim (P := P) (hρ x (by simp [Op.operands])) h
    exact ⟨v, hv, fun w => by simp [execOp, hr, Result.andThen]⟩
  · rename_i t x i
    obtain ⟨v, hv, hr⟩ := indexAddrP_sim (P := P) (hρ x (by simp [Op.operands])) (hρ i (by simp [Op.operands])) h
    exact ⟨v, hv, fun w => by simp [execOp, hr, Result.andThen]⟩
  · rename_i t x i
    obtain ⟨v, hv, hr⟩ := indexP_sim (P := P) (hρ x (by simp [Op.operands])) (hρ i (by simp [Op.operands])) h
    exact ⟨v, hv, fun w => by simp [execOp, hr, Result.andThen]⟩
  · -- extract
    rename_i x i
    have hx := hρ x (by simp [Op.operands])
    split at h
    · rename_i vs hvs
      rw [hvs] at hx
      obtain ⟨vs', hv', hr⟩ := tuple_inv hx
      obtain ⟨v, hv, hvr⟩ := hr.get? h
      exact ⟨v, hvr, fun w => by simp [execOp, hv', Instr.extract, hv, Result.andThen]⟩
    · cases h
  · -- len
    rename_i args argTypes
    split at h
    · rename_i e A k c ht hx
      obtain ⟨t, ht0, hu⟩ := Option.bind_eq_some_iff.1 ht
      obtain ⟨x, hx0, hx1⟩ := Option.map_eq_some_iff.1 hx
      obtain rfl := Option.some.inj h
      have hxr := hρ x (by simp [Op.operands, Call.operands]; exact Array.mem_of_getElem? hx0)
      rw [hx1] at hxr
      refine ⟨_, .int _ _, fun w => ?_⟩
      generalize hv : ρ x = v at hxr
      cases hxr <;> simp [execOp, resolve, invoke, builtin, Builtin.len_, ht0, hx0, hv, run_underlying hu, goInt, Result.andThen]
    · rename_i k e v ht hx
      obtain ⟨t, ht0, hu⟩ := Option.bind_eq_some_iff.1 ht
      obtain ⟨x, hx0, hx1⟩ := Option.map_eq_some_iff.1 hx
      obtain rfl := Option.some.inj h
      exact ⟨_, .int _ _, fun w => by simp [execOp, resolve, invoke, builtin, Builtin.len_, ht0, hx0, run_underlying hu, goInt, Result.andThen]⟩
    · cases h
  · cases h

theorem map_closed_eq {ρ0 ρ : Operand → Value} {o : Oper} (hsel : ∀ cs b, o.op ≠ .select cs b) (hρ : ∀ x ∈ o.op.operands.toList, VR n m (ρ0 x) (ρ x)) (hc : (o.op.operands.toList.all fun x => plain (ρ0 x)) = true) :
    execOp ρ o = execOp ρ0 o :=
  execOp_congr o hsel fun x hx => (VR.eq_of_closed (closed_of_plain (List.all_eq_true.1 hc x (by simpa using hx))) (hρ x (by simpa using hx))).symm

def notSelect : Op → Bool
  | .select .. => false
  | _ => true

theorem pureOp_sim (o : Oper) (hsel : notSelect o.op = true) {ρ0 ρ : Operand → Value} (hρ : ∀ x ∈ o.op.operands.toList, VR n m (ρ0 x) (ρ x)) {u : Value} (h : pureOp P ρ0 o = some u) :
    ∃ v, VR n m u v ∧ ∀ w, (execOp ρ o).run P w = .ok (.value v) w := by
  unfold pureOp at h
  split at h
  · rename_i hc
    have he := map_closed_eq (fun cs b e => by rw [e] at hsel; simp [notSelect] at hsel) hρ hc
    split at h
    · rename_i v hv
      split at h
      · rename_i hcv
        obtain rfl := Option.some.inj h
        exact ⟨v, VR.refl_of_closed hcv, fun w => by rw [he]; exact nw_run P _ _ hv w⟩
      · cases h
    · cases h
  · exact openOp_sim o hρ h
end
end Go.Sim
