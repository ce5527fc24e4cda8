/- The abstract machine 'Sim': what is seen of arguments, by their types. -/
import Derived.Test.YtbbdggpfhcgbpaaZsS
set_option linter.unusedSimpArgs false
set_option linter.unusedVariables false
namespace Go.Sim
open Go Go.RowKit Go.WideShapes Go.ChangeShapes

section
variable {P : Program} {M : Mem} {B k : Nat}
theorem sees_bool {t : TypeId} (hu : P.underlying t = some .bool) {r : List Value} (h : Sees P M B (k + 1) t r) : ∃ b, r = [.bool b] := by
  unfold Sees at h; rw [hu] at h; exact h
theorem sees_int {t : TypeId} {q : IntKind} (hu : P.underlying t = some (.int q)) {r : List Value} (h : Sees P M B (k + 1) t r) : ∃ x, r = [.int q x] ∧ (Lit.int q x).wf = true := by
  unfold Sees at h; rw [hu] at h; exact h
theorem rows_map {α : Type} {f : α → List Value} {good : α → Prop} : ∀ {L : List (List Value)}, (∀ r ∈ L, ∃ x, r = f x ∧ good x) → ∃ l : List α, L = l.map f ∧ ∀ x ∈ l, good x
  | [], _ => ⟨[], rfl, fun x h => (by cases h)⟩
  | r :: L, h => by
    obtain ⟨x, rfl, hx⟩ := h r (List.mem_cons_self ..)
    obtain ⟨l, rfl, hl⟩ := rows_map (L := L) fun r hr => h r (List.mem_cons_of_mem _ hr)
    exact ⟨x :: l, rfl, fun y hy => (List.mem_cons.1 hy).elim (fun e => e ▸ hx) (hl y)⟩
theorem sees_slice {α : Type} {f : α → List Value} {good : α → Prop} {t e : TypeId} (hu : P.underlying t = some (.slice e)) {r : List Value} (h : Sees P M B (k + 1) t r) (hr : ∀ r, Sees P M B k e r → ∃ x, r = f x ∧ good x) :
    ∃ A n c, ∃ l : List α, r = [.slice A n c] ∧ n = l.length ∧ n ≤ c ∧ n ≤ B ∧ (A = none → c = 0) ∧ Old A ∧ Row M A (l.flatMap f) ∧ ∀ x ∈ l, good x := by
  unfold Sees at h; rw [hu] at h
  obtain ⟨A, n, c, rfl, h1, h2, h3, h4, L, h5, h6, h7⟩ := h
  obtain ⟨l, rfl, hl⟩ := rows_map fun r hr' => hr r (h7 r hr')
  rw [← List.flatMap_def] at h6
  exact ⟨A, n, c, l, rfl, by rw [← h5, List.length_map], h1, h2, h3, h4, h6, hl⟩
/-- The fields of a struct: their places and types. -/
def fieldsP (P : Program) (t : TypeId) : Option (List (Nat × TypeId)) :=
  match P.underlying t with
  | some (.struct fs) => some (fs.toList.map fun f => (f.offset, f.type))
  | _ => none
theorem sees_struct {t : TypeId} {l : List (Nat × TypeId)} {n : Nat} (hu : fieldsP P t = some l) (hc : P.cellsOf t = n) {r : List Value} (h : Sees P M B (k + 1) t r) : r.length = n ∧ ∀ p ∈ l, Sees P M B k p.2 ((r.drop p.1).take (P.cellsOf p.2)) := by
  unfold fieldsP at hu
  split at hu
  case h_2 => cases hu
  rename_i fs hfs
  obtain rfl := Option.some.inj hu
  unfold Sees at h; rw [hfs] at h
  refine ⟨by rw [h.1, hc], fun p hp => ?_⟩
  obtain ⟨f, hf, rfl⟩ := List.mem_map.1 hp
  exact h.2 f hf
theorem sees_array {t e : TypeId} {m n : Nat} (hu : P.underlying t = some (.array m e)) (hc : P.cellsOf t = n) {r : List Value} (h : Sees P M B (k + 1) t r) : r.length = n ∧ ∀ i, i < m → Sees P M B k e ((r.drop (i * P.cellsOf e)).take (P.cellsOf e)) := by
  unfold Sees at h; rw [hu] at h
  exact ⟨by rw [h.1, hc], h.2⟩
end
theorem flatMap_one {α : Type} (f : α → Value) : ∀ l : List α, (l.flatMap fun x => [f x]) = l.map f
  | [] => rfl
  | x :: l => by rw [List.flatMap_cons, flatMap_one f l]; rfl
/-- A value of a type of one cell. -/
def oneTy (P : Program) (t : TypeId) : Bool := match P.underlying t with | some .bool | some (.int _) | some (.slice _) => true | _ => false
theorem one_of_ok {P : Program} {W : World} {r : Go.Reach} {b0 : Nat} {t : TypeId} {v : Value} (ht : oneTy P t = true) (h : Value.okWide P W r b0 t v) : oneCell v = true := by
  unfold oneTy at ht
  unfold Value.okWide at h
  split at ht
  · rename_i hu; rw [hu] at h; simp only [Cell.okWide, Cell.ok, hu] at h; cases v <;> simp_all [oneCell]
  · rename_i hu; rw [hu] at h; simp only [Cell.okWide, Cell.ok, hu] at h; cases v <;> simp_all [oneCell]
  · rename_i hu; rw [hu] at h; simp only [Cell.okWide, Cell.ok, hu] at h; cases v <;> simp_all [oneCell]
  · cases ht
def aggTy (P : Program) (t : TypeId) : Bool := match P.underlying t with | some (.struct _) | some (.array ..) => true | _ => false
theorem agg_of_ok {P : Program} {W : World} {r : Go.Reach} {b0 : Nat} {t : TypeId} {v : Value} (ht : aggTy P t = true) (h : Value.okWide P W r b0 t v) : ∃ cs, v = .agg cs := by
  unfold aggTy at ht
  unfold Value.okWide at h
  split at ht
  · rename_i hu; rw [hu] at h; obtain ⟨cs, h1, _⟩ := h; exact ⟨cs, h1⟩
  · rename_i hu; rw [hu] at h; obtain ⟨cs, h1, _⟩ := h; exact ⟨cs, h1⟩
  · cases ht
end Go.Sim
