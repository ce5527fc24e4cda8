/- The abstract machine 'Sim': what an argument of integers is to it. -/
import Derived.Test.YtbbdggpfhcgbpaaZsP
import Derived.ChangeSlices
import Derived.OpenShut
set_option linter.unusedSimpArgs false
set_option linter.unusedVariables false
namespace Go.Sim
open Go Go.RowKit Go.WideShapes Go.ChangeShapes

/-- No block of the machine's own. -/
def Old (A : Option Addr) : Prop := ∀ a, A = some a → a.block % 2 = 1
theorem Row.old {S : Nat → Prop} {M M' : Mem} {A : Option Addr} {L : List Value} (h : Row M A L) (hA : Old A) (k : Chg S M M') : Row M' A L := h.chg k fun a ha => .inl (hA a ha)

section
variable {H : Type} {enc : TypeId × Value → H} {P : Program} {W : World}
/-- A slice of integers, as the machine has it; and that it reads so behind the call. -/
theorem open_row {r : Go.Reach} {b0 : Nat} {t e : TypeId} {k : IntKind} {v : Value} {d : DataW H} {ps : List MemPlace} (ht : P.underlying t = some (.slice e)) (he : P.underlying e = some (.int k)) (hc : P.cellsOf e = 1)
    (hval : Value.okWide P W r b0 t v) (h : DataW.Trod enc P W 0 (fun _ => true) true t v d ps) :
    ∃ (A : Option Addr) (n c : Nat) (l : List Int), VR 0 (fun _ => ⟨0, 0, 0⟩) (.slice A n c) v ∧ Row (mem0 W) A (l.map (.int k)) ∧ Old A ∧ n = l.length ∧ n ≤ c ∧ (∀ x ∈ l, (Lit.int k x).wf = true) ∧
      ((d = .nil ∧ l = []) ∨ ∃ rest, d = .slice (lits k l) rest) ∧
      ∀ (W' : World) (sp : Nat → Bool), Below W.heap.size W W' → (∀ p ∈ ps, sp p.block = true) → (∀ p ∈ ps, p.block < W.heap.size) → DataW.Trod enc P W' 0 sp true t v d ps := by
  obtain ⟨sa, sn, sc, rfl⟩ : ∃ A n c, v = .slice A n c := by
    unfold Value.okWide at hval
    rw [ht] at hval
    simp only [Cell.okWide, Cell.ok, ht] at hval
    cases v <;> simp_all
  obtain ⟨fuel, hf⟩ := h
  have e1 : (Value.slice sa sn sc).cells.toList = [Value.slice sa sn sc] := rfl
  rcases open_ints ht he hc hf with ⟨hcs, hx⟩ | ⟨a, len, cap, zs, hcs, hb, hl, hm, hz, hx, hcell, hw⟩
  · simp only [Prod.mk.injEq] at hx
    obtain ⟨rfl, rfl⟩ := hx
    rw [e1] at hcs
    obtain ⟨rfl, rfl, rfl⟩ : sa = none ∧ sn = 0 ∧ sc = 0 := by simpa using hcs
    refine ⟨none, 0, 0, [], .slNil, fun i h => (by simp at h), fun a h => (by cases h), rfl, Nat.le_refl _, fun x h => (by cases h), .inl ⟨rfl, rfl⟩, fun W' sp hB hsp hlt => ⟨1, ?_⟩⟩
    rw [e1, DataW.trod_step]
    unfold DataW.trodStep
    simp only [ht]
  · simp only [Prod.mk.injEq] at hx
    obtain ⟨rfl, rfl⟩ := hx
    rw [e1] at hcs
    obtain ⟨rfl, rfl, rfl⟩ : sa = some a ∧ sn = len ∧ sc = cap := by simpa using hcs
    simp only [if_true] at hz
    have back : ∀ (W' : World) (sp : Nat → Bool), Below W.heap.size W W' → (∀ p ∈ MemPlace.row a zs.length, sp p.block = true) → (∀ p ∈ MemPlace.row a zs.length, p.block < W.heap.size) → DataW.Trod enc P W' 0 sp true t (.slice (some a) sn sc) (.slice (lits k (zs.take sn)) (lits k (zs.drop sn))) (MemPlace.row a zs.length) := by
      intro W' sp hB hsp hlt
      have hin : 0 < zs.length → MemPlace.cell a.block a.off ∈ MemPlace.row a zs.length := fun hp => List.mem_map.2 ⟨0, by simpa using hp, by simp⟩
      refine ⟨0 + 2, ?_⟩
      rw [e1]
      refine shut_ints 0 ht he hc (Nat.zero_le _) hl hm ?_ (fun i hi => ?_) hw
      · by_cases hp : 0 < zs.length
        · have h1 : sp a.block = true := hsp _ (hin hp)
          rw [h1]; simpa using hz
        · have h0 : sc = 0 := by omega
          have h1 : sn = 0 := by omega
          split <;> omega
      · have h1 : a.block < W.heap.size := hlt _ (hin (by omega))
        have h2 : (a.add i).block = a.block := by unfold Addr.add; split <;> rfl
        rw [hB.cell (by rw [h2]; exact h1)]
        exact hcell i hi
    have hlen : (zs.take sn).length = sn := by simp; omega
    by_cases h0 : sn = 0
    · subst h0
      exact ⟨some ⟨2 * 0 + 1, 0, none⟩, 0, sc, [], .slOldE 0 0 sc a, fun i h => (by simp at h), fun b hb => (by obtain rfl := Option.some.inj hb; rfl), rfl, Nat.zero_le _, fun x h => (by cases h), .inr ⟨lits k (zs.drop 0), (by simp [lits])⟩, back⟩
    · have hsp0 := World.cell?_spot (hcell 0 (by omega))
      obtain ⟨bk, off, spot⟩ := a
      have hspot : spot = none := by simpa [Addr.add] using hsp0
      subst hspot
      refine ⟨some ⟨2 * bk + 1, off, none⟩, sn, sc, zs.take sn, .slOld bk off sn sc hl, fun i hi => ⟨_, rfl, ?_⟩, fun b hb => (by obtain rfl := Option.some.inj hb; show (2 * bk + 1) % 2 = 1; omega), hlen.symm, hl, fun x hx => hw x (List.mem_of_mem_take hx), .inr ⟨_, rfl⟩, back⟩
      have hi2 : i < sn := by rw [List.length_map, hlen] at hi; exact hi
      have hcl := hcell i (by omega)
      rw [add_plain] at hcl
      have hD : zs.getD i 0 = zs[i]'(by omega) := by simp [List.getD, show i < zs.length by omega]
      rw [hD] at hcl
      unfold World.cell? at hcl
      unfold Mem.cell
      simp only [mem0]
      rw [if_pos (by omega), show (2 * bk + 1) / 2 = bk by omega]
      have hg : ((zs.take sn).map (Value.int k))[i] = .int k (zs[i]'(by omega)) := by simp
      rw [hg]
      split at hcl
      · rename_i c _ _ hb
        rw [hb]
        simp at hcl
        simp only [hcl]
        rfl
      · cases hcl
end
end Go.Sim
