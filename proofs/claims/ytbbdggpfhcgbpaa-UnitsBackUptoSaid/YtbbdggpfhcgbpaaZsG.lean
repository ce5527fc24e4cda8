/- The abstract machine 'Sim': one operation on the memory, and one operation. -/
import Derived.Test.YtbbdggpfhcgbpaaZsF
set_option linter.unusedSimpArgs false
set_option linter.unusedVariables false
namespace Go.Sim
open Go Go.RowKit

section
variable {P : Program} {m : Nat → Loc}

/-- What a memory operation leaves. -/
def Leaves (P : Program) (M M' : Mem) (m : Nat → Loc) (w : World) (u : Value) (s : Sem Next) : Prop :=
  ∃ m' w' v, (s.run P w = .ok (.value v) w' ∨ (s.run P w = .ok .skip w' ∧ v = Go.undef)) ∧ VR M'.nb.size m' u v ∧ HR P M' m' w' ∧ Ext M M' m m' ∧ Below M.base.size w w'

theorem loadP_sim {M : Mem} {w : World} (h : HR P M m w) {t : TypeId} {blk off : Nat} {a : Addr} (ha : AR M.nb.size m blk off a) {u : Value} (hl : loadP P t M blk off = some u) :
    ∃ v, (loadVar t a).run P w = .ok v w ∧ VR M.nb.size m u v := by
  unfold loadP at hl
  obtain ⟨g, hg, hl⟩ := Option.bind_eq_some_iff.1 hl
  cases g with
  | true =>
    simp only [if_true] at hl
    obtain ⟨k, hk, hl⟩ := Option.bind_eq_some_iff.1 hl
    obtain ⟨l, hl', rfl⟩ := Option.map_eq_some_iff.1 hl
    obtain ⟨L, hL, hr, _⟩ := run_cellsN h ha hl'
    have := hL.toArray
    exact ⟨.agg L.toArray, by simp [loadVar, isAggP_run hg, sizeP_run hk, hr, Result.andThen], .agg _ _ this.1 this.2⟩
  | false =>
    simp only [Bool.false_eq_true, if_false] at hl
    obtain ⟨v, hv, hvr⟩ := h.cell ha hl
    exact ⟨v, by simp [loadVar, isAggP_run hg, hv, Result.andThen], hvr⟩

theorem new_leaves {M : Mem} {w : World} (h : HR P M m w) {c C : Array Value} {t : TypeId} (hc : VRs M.nb.size m c C) :
    HR P (M.new (.cells c t)) (upd m M.nb.size ⟨w.heap.size, 0, 0⟩) (w.alloc (.cells C t)) ∧ Ext M (M.new (.cells c t)) m (upd m M.nb.size ⟨w.heap.size, 0, 0⟩) ∧ Below M.base.size w (w.alloc (.cells C t)) :=
  h.new (by simp [hc.1]) fun i h1 h2 => hc.2 i h1 h2

theorem memOp_sim {M M' : Mem} {w : World} (h : HR P M m w) (o : Oper) {ρ0 ρ : Operand → Value} (hρ : ∀ x ∈ o.op.operands.toList, VR M.nb.size m (ρ0 x) (ρ x)) {u : Value} (ho : memOp P ρ0 M o.op = some (u, M')) :
    Leaves P M M' m w u (execOp ρ o) := by
  obtain ⟨dst, op, type, pos, after, guard⟩ := o
  simp only at hρ ho
  unfold memOp at ho
  split at ho
  · -- alloc
    rename_i t
    obtain ⟨z, hz, ho⟩ := Option.map_eq_some_iff.1 ho
    simp only [Prod.mk.injEq] at ho
    obtain ⟨rfl, rfl⟩ := ho
    obtain ⟨hzr, hzc⟩ := zeroP_run hz w
    obtain ⟨g1, g2, g3⟩ := new_leaves h (t := t) (VR.refl_of_closed (n := M.nb.size) (m := m) hzc).cells
    refine ⟨_, _, _, .inl ?_, VR.newPtr (M := M) (w := w) (b := .cells z.cells t) (e := 0), g1, g2, g3⟩
    simp only [execOp, Instr.alloc, Sem.run_bind, hzr, Result.andThen, newVar, newRow, run_newObj, Sem.run_pure]
    rfl
  · -- box
    rename_i t x
    simp only [Option.some.injEq, Prod.mk.injEq] at ho
    obtain ⟨rfl, rfl⟩ := ho
    obtain ⟨g1, g2, g3⟩ := new_leaves h (t := t) (hρ x (by simp [Op.operands])).cells
    refine ⟨_, _, _, .inl ?_, VR.newPtr (M := M) (w := w) (b := .cells (ρ0 x).cells t) (e := 0), g1, g2, g3⟩
    simp only [execOp, Instr.box, Sem.run_bind, Result.andThen, newVar, newRow, run_newObj, Sem.run_pure]
    rfl
  · -- buildSlice
    rename_i t len parts
    split at ho
    case h_2 => cases ho
    rename_i e hu
    obtain ⟨size, hsize, ho⟩ := Option.bind_eq_some_iff.1 ho
    obtain ⟨z, hz, ho⟩ := Option.bind_eq_some_iff.1 ho
    split at ho
    case isFalse => cases ho
    rename_i hcond
    obtain ⟨cl, hcl, ho⟩ := Option.bind_eq_some_iff.1 ho
    have hcs := fillL_eq _ _ _ hcl
    rw [zeroRow_eq] at hcs
    obtain ⟨cs, rfl⟩ : ∃ cs, cs = cl.toArray := ⟨_, rfl⟩
    simp only [Option.some.injEq, Prod.mk.injEq] at ho
    obtain ⟨rfl, rfl⟩ := ho
    obtain ⟨hzr, hzc⟩ := zeroP_run hz w
    have hzz : VRs M.nb.size m z.cells z.cells := (VR.refl_of_closed hzc).cells
    have hp := parts_sim (n := M.nb.size) (m := m) (ρ0 := ρ0) (ρ := ρ) (ps := parts) (fun p hp => hρ p.2 (by simpa [Op.operands] using ⟨p.1, by simpa using hp⟩))
    have hbase : VRs M.nb.size m ((Array.range (len * size)).map (z.cells[· % z.cells.size]!)) ((Array.range (len * size)).map (z.cells[· % z.cells.size]!)) := by
      by_cases h0 : 0 < z.cells.size
      · exact hzz.made h0 _
      · refine VRs.map fun i _ => ?_
        rw [getElem!_neg z.cells _ (by omega)]
        exact VR.refl_of_closed rfl
    obtain ⟨r', hr', hrr⟩ := fill_sim _ _ _ hp hbase hcs
    obtain ⟨g1, g2, g3⟩ := new_leaves h (t := e) hrr
    refine ⟨_, _, _, .inl ?_, VR.newSl (M := M) (w := w) (b := .cells cl.toArray e) (e := 0) (Nat.le_refl len), g1, g2, g3⟩
    have h1 : ¬ len * size > 2 ^ 24 := by have : (2 : Nat) ^ 24 = 16777216 := by decide
                                          omega
    by_cases h2 : len * size = 0
    · rw [h2] at hr'
      have hr2 : Instr.fill (fun i => some (i * size, size)) ((Array.range 0).map ((#[] : Array Value)[· % (#[] : Array Value).size]!)) (parts.toList.map fun p => (p.1, ρ p.2)) = some r' := by
        have e : (Array.range 0).map ((#[] : Array Value)[· % (#[] : Array Value).size]!) = (Array.range 0).map (z.cells[· % z.cells.size]!) := by simp
        rw [e]; exact hr'
      simp only [execOp, Instr.buildSlice, Sem.run_bind, run_underlying hu, Result.andThen, sizeP_run hsize, show ¬ (0 : Nat) > 2 ^ 24 from Nat.not_lt_zero _, if_false, if_true, Sem.run_pure, h2, Array.toList_map, hr2, newRow, run_newObj]
      rfl
    · simp only [execOp, Instr.buildSlice, Sem.run_bind, run_underlying hu, Result.andThen, sizeP_run hsize, h1, if_false, Sem.run_pure, h2, hzr, Array.toList_map, hr', newRow, run_newObj]
      rfl
  · -- load
    rename_i t a
    have ha := hρ a (by simp [Op.operands])
    split at ho
    case h_2 => cases ho
    rename_i ad had
    rw [had] at ha
    obtain ⟨b, hb, hab, _⟩ := ptr_inv ha
    obtain ⟨v, hv, ho⟩ := Option.map_eq_some_iff.1 ho
    simp only [Prod.mk.injEq] at ho
    obtain ⟨rfl, rfl⟩ := ho
    obtain ⟨v', hr, hvr⟩ := loadP_sim h hab hv
    exact ⟨m, w, v', .inl (by simp [execOp, Instr.loadAt, hb, Instr.sureAddr, hr, Result.andThen]), hvr, h, Ext.refl _ _, Below.refl _ _⟩
  · -- store
    rename_i t a x
    have ha := hρ a (by simp [Op.operands])
    have hx := hρ x (by simp [Op.operands])
    split at ho
    case h_2 => cases ho
    rename_i ad had
    rw [had] at ha
    obtain ⟨b, hb, hab, _⟩ := ptr_inv ha
    obtain ⟨k, hk, ho⟩ := Option.bind_eq_some_iff.1 ho
    split at ho
    case isFalse => cases ho
    rename_i hsz
    obtain ⟨M1, hput, ho⟩ := Option.map_eq_some_iff.1 ho
    simp only [Prod.mk.injEq] at ho
    obtain ⟨rfl, rfl⟩ := ho
    obtain ⟨e1', e2', e3'⟩ := Mem.putN_same hput
    have hcx := hx.cells
    obtain ⟨w', hr, hH, hB⟩ := h.putN hab hcx.toList 0 hput
    refine ⟨m, w', Go.undef, .inr ⟨?_, rfl⟩, VR.undef, hH, ⟨e1', e2', by omega, fun _ _ => rfl⟩, hB⟩
    have hsz' : (ρ x).cells.size = k := by rw [← hcx.1, hsz]
    simp [execOp, Instr.storeAt, hb, Instr.sureAddr, storeVar, sizeP_run hk, hsz', hr, Result.andThen]
  · -- makeSlice
    rename_i t l c
    obtain ⟨m', w', v, hr, hv, hH, hE, hB⟩ := makeP_sim h (hρ l (by simp [Op.operands])) (hρ c (by simp [Op.operands])) ho
    exact ⟨m', w', v, .inl (by simp [execOp, hr, Result.andThen]), hv, hH, hE, hB⟩
  · -- append
    rename_i args argTypes
    split at ho
    case h_2 => cases ho
    rename_i s x hs hx
    obtain ⟨so, hso, rfl⟩ := Option.map_eq_some_iff.1 hs
    obtain ⟨xo, hxo, rfl⟩ := Option.map_eq_some_iff.1 hx
    obtain ⟨m', w', v, hr, hv, hH, hE, hB⟩ := appendP_sim (ty := type) (args := args.map ρ) h (hρ so (by simp [Op.operands, Call.operands]; exact Array.mem_of_getElem? hso)) (hρ xo (by simp [Op.operands, Call.operands]; exact Array.mem_of_getElem? hxo)) (by simp [hso]) (by simp [hxo]) ho
    exact ⟨m', w', v, .inl (by simp [execOp, resolve, invoke, builtin, hr, Result.andThen]), hv, hH, hE, hB⟩
  · -- copy
    rename_i args argTypes
    split at ho
    case h_2 => cases ho
    rename_i s x hs hx
    obtain ⟨so, hso, rfl⟩ := Option.map_eq_some_iff.1 hs
    obtain ⟨xo, hxo, rfl⟩ := Option.map_eq_some_iff.1 hx
    obtain ⟨m', w', v, hr, hv, hH, hE, hB⟩ := copyP_sim (ty := type) (args := args.map ρ) h (hρ so (by simp [Op.operands, Call.operands]; exact Array.mem_of_getElem? hso)) (hρ xo (by simp [Op.operands, Call.operands]; exact Array.mem_of_getElem? hxo)) (by simp [hso]) (by simp [hxo]) ho
    exact ⟨m', w', v, .inl (by simp [execOp, resolve, invoke, builtin, hr, Result.andThen]), hv, hH, hE, hB⟩
  · cases ho

theorem callOp_sim (hN : Named P) {n : Nat} (o : Oper) {ρ0 ρ : Operand → Value} (hρ : ∀ x ∈ o.op.operands.toList, VR n m (ρ0 x) (ρ x)) {f : FuncId} {args : Array Value} (ho : callOp P ρ0 o.op = some (f, args)) :
    ∃ args', VRs n m args args' ∧ ∀ w, (execOp ρ o).run P w = .ok (.enter f args') w := by
  obtain ⟨dst, op, type, pos, after, guard⟩ := o
  simp only at hρ ho
  unfold callOp at ho
  split at ho
  case h_2 => cases ho
  rename_i fo as ats
  have hf := hρ fo (by simp [Op.operands, Call.operands])
  split at ho
  case h_2 => cases ho
  rename_i g first captured hg
  rw [hg] at hf
  split at ho
  case h_2 => cases ho
  rename_i fn hfn
  split at ho
  case isFalse => cases ho
  rename_i hbody
  simp only [Option.some.injEq, Prod.mk.injEq] at ho
  obtain ⟨rfl, rfl⟩ := ho
  generalize hv : ρ fo = v at hf
  cases hf with
  | func _ xs xs' ys ys' h1 h2 h3 h4 =>
    have has : VRs n m (as.map ρ0) (as.map ρ) := VRs.map fun x hx => hρ x (by simp [Op.operands, Call.operands]; exact .inr hx)
    refine ⟨xs' ++ as.map ρ ++ ys', (VRs.append (VRs.append ⟨h1, h2⟩ has) ⟨h3, h4⟩), fun w => ?_⟩
    obtain ⟨bd, hbd⟩ := Option.isSome_iff_exists.1 hbody
    have hname : ¬ fn.name = "runtime.NumGoroutine" := hN _ _ hfn
    simp [execOp, resolve, hv, Deferred.ofValue, invoke, callFunc, hfn, hname, hbd, Result.andThen]

end
end Go.Sim
