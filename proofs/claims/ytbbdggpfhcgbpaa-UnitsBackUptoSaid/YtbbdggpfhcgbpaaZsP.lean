/- The abstract machine 'Sim': from a run of the machine to the row's statement. -/
import Derived.Test.YtbbdggpfhcgbpaaZsO
import Derived.ChangeSame
namespace Go.Sim
open Go Go.RowKit Go.WideShapes Go.ChangeShapes

/-- The memory as a call finds it. -/
def mem0 (W : World) : Mem := ⟨W.heap, #[], 0⟩

theorem hr0 (P : Program) (m : Nat → Loc) (W : World) : HR P (mem0 W) m W where
  size := Nat.le_refl _
  base := fun _ _ => rfl
  blk := fun j b h => by simp [mem0] at h
  inj := fun i j a b h => by simp [mem0] at h

theorem named_of {P : Program} (h : (P.funcs.toList.all fun fn => fn.name != "runtime.NumGoroutine") = true) : Named P := by
  intro i fn hi e
  have hm : fn ∈ P.funcs.toList := by
    have := Array.mem_of_getElem? hi
    exact this.val
  have := List.all_eq_true.1 h fn hm
  rw [e] at this
  simp at this
theorem vrs_nil {n : Nat} {m : Nat → Loc} : VRs n m #[] #[] := ⟨rfl, fun i h => by simp at h⟩
theorem vrs_cons {n : Nat} {m : Nat → Loc} {x y : Value} {xs ys : List Value} (h : VR n m x y) (k : VRs n m xs.toArray ys.toArray) : VRs n m (x :: xs).toArray (y :: ys).toArray := by
  refine ⟨by have := k.1; simp at this ⊢; exact this, fun i h1 h2 => ?_⟩
  cases i with
  | zero => exact h
  | succ i => exact k.2 i (by simpa using h1) (by simpa using h2)
/-- What the machine comes to, the program comes to. -/
theorem calls_of {P : Program} [Orc P] (hN : Named P) (hmix : P.follows .mixedOrders = true) (hO : Known P (Orc.tab P)) {f : FuncId} {args0 args : Array Value} {W : World} {Q : Value → Mem → Prop}
    (h : Cn P f args0 (mem0 W) Q) (ha : VRs 0 (fun _ => ⟨0, 0, 0⟩) args0 args) :
    Calls P f args W fun e W' => ∃ v0 v m' M', e = .returned v ∧ Q v0 M' ∧ VR M'.nb.size m' v0 v ∧ HR P M' m' W' ∧ Below W.heap.size W W' := by
  obtain ⟨v0, M', hQ, N, hN'⟩ := h
  refine (zcall_sim hN hmix hO N f args0 (mem0 W) v0 M' (hN' N (Nat.le_refl _)) (fun _ => ⟨0, 0, 0⟩) args W (hr0 P _ W) ha).mono ?_
  rintro e W' ⟨v, m', h1, h2, h3, h4, h5⟩
  exact ⟨v0, v, m', M', h1, hQ, h2, h3, h5⟩
theorem calls_true {P : Program} [Orc P] (hN : Named P) (hmix : P.follows .mixedOrders = true) (hO : Known P (Orc.tab P)) {f : FuncId} {args0 args : Array Value} {W : World}
    (h : Cn P f args0 (mem0 W) fun v _ => v = .bool true) (ha : VRs 0 (fun _ => ⟨0, 0, 0⟩) args0 args) :
    Calls P f args W fun e W' => e = .returned (.bool true) ∧ Below W.heap.size W W' := by
  refine (calls_of hN hmix hO h ha).mono ?_
  rintro e W' ⟨v0, v, m', M', rfl, rfl, hv, _, hb⟩
  cases hv
  exact ⟨rfl, hb⟩

/-- A closed call that the machine has run to its end, with nothing known ahead. -/
theorem known_of {P : Program} (hN : Named P) (hmix : P.follows .mixedOrders = true) {n : Nat} {f : FuncId} {v : Value} (hv : closed v = true)
    (h : ∀ b, ((@zcall P ⟨[]⟩ n f #[] ⟨b, #[], 0⟩).map (·.1)) = some v) (w : World) : Calls P f #[] w fun e w' => e = .returned v ∧ Below w.heap.size w w' := by
  obtain ⟨⟨v0, M'⟩, h1, h2⟩ := Option.map_eq_some_iff.1 (h w.heap)
  simp only at h2
  subst h2
  have hO : Known P (@Orc.tab P ⟨[]⟩) := fun f v h => by simp at h
  refine (@zcall_sim P ⟨[]⟩ hN hmix hO n f #[] (mem0 w) v0 M' h1 (fun _ => ⟨0, 0, 0⟩) #[] w (hr0 P _ w) vrs_nil).mono ?_
  rintro e w' ⟨v, m', rfl, hv', _, _, hb⟩
  exact ⟨by rw [VR.eq_of_closed hv hv'], hb⟩

section
variable {H : Type} {enc : TypeId × Value → H} {P : Program}
/-- The row's last step, of a call that left all old memory alone. -/
theorem post_old {f : Func} {s : ChangeSpec} {apart fresh handsOn again : Bool} {W W' : World} {args : Array Value} {v : Value} {ds gs : List (DataW H)} {before pa pv : List MemPlace}
    (hW : DataW.Whole enc P f.params.toList s.vars apart W args.toList ds gs before)
    (hr : ∀ (b : Nat) (sp : Nat → Bool) (hd : Bool), DataW.TrodAll enc P W' b sp hd f.resultTypes.toList (v.resultList f.resultTypes.size) (s.fn H (ds ++ gs)).results [])
    (ha : ∀ sp : Nat → Bool, (∀ p ∈ before, sp p.block = true) → DataW.TrodAll enc P W' 0 sp true f.params.toList args.toList (s.fn H (ds ++ gs)).args pa)
    (hv : ∀ sp : Nat → Bool, (∀ p ∈ before, sp p.block = true) → DataW.TrodVars enc P W' sp s.vars (s.fn H (ds ++ gs)).vars pv)
    (hp : before = pa ++ pv) (hb : Below W.heap.size W W')
    (hok : ∀ (j : Nat) (t : TypeId) (r : Value), f.resultTypes[j]? = some t → (v.resultList f.resultTypes.size)[j]? = some r → Value.okWide P W' .any 0 t r) :
    s.post enc P f apart fresh handsOn again W args v W' := by
  subst hp
  have lt : ∀ p ∈ pa ++ pv, p.block < W.heap.size := hW.lt
  have sp0 : ∀ p ∈ pa ++ pv, (fun b => decide (b < W.heap.size)) p.block = true := fun p h => decide_eq_true (lt p h)
  have all1 : ∀ p ∈ pa ++ pv, (fun _ : Nat => true) p.block = true := fun _ _ => rfl
  refine ⟨ds, gs, pa ++ pv, [], pa, pv, hW, hr _ _ _, ha _ sp0, hv _ sp0, World.keptBut_mono (fun p h => ⟨h, .inr (List.mem_append.1 h)⟩) (hb.frame (· ∈ pa ++ pv)), fun _ => ?_⟩
  obtain ⟨_, _, _, _, _, hz, hn⟩ := hW
  refine ⟨hok, _, _, ([] ++ pa) ++ pv, ⟨[] ++ pa, pv, trodAll_append (ha _ all1) (hr _ _ _), hv _ all1, rfl, fun b off h => ?_, fun h => ?_⟩, fun p h _ => ?_⟩
  · have h' : MemPlace.cell b off ∈ pa ++ pv := by simpa using h
    exact (hb.frozen (lt _ h')).trans (hz b off h')
  · simpa using hn h
  · simpa using h
end
end Go.Sim
