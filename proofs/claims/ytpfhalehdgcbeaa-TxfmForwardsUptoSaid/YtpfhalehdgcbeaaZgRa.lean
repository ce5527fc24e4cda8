/- Layer 7: the program's and the reference's cosines. -/
import Derived.Test.YtpfhalehdgcbeaaZgIa
set_option linter.unusedSimpArgs false
set_option linter.unusedVariables false
set_option maxRecDepth 100000
namespace Go.Zt
open Go Go.Sim Go.Proofs Go.RowKit

theorem cosR (x : Int) (m : Nat) (hm : (x % 256).toNat = m) : cosT x = (if (if m > 128 then 256 - m else m) > 64 then - tabL.getD (128 - (if m > 128 then 256 - m else m)) 0 else tabL.getD (if m > 128 then 256 - m else m) 0) := by
  subst hm; rfl
theorem c74 {M : Mem} (hf : M.floor ≤ M.nb.size) {x : Int} : Cn Try.prog 74 #[.int .i64 x] M fun v N => v = .int .i64 (cosT x) ∧ Keep M N := by
  have a0 := Mem.new_at M (.cells (List.replicate 65 (Value.int .i64 0)).toArray 70)
  obtain ⟨R, g1, g2, g3⟩ := fill_new (l := Ints tabL) (o := 0) a0 hf (by decide) (by decide)
  have a1 : R.nb[M.nb.size]? = some (.cells (Ints tabL).toArray 70) := g3
  have K : Keep M R := Keep.step (Chg.new (S := fun _ => False) M _) g2 fun i hi => by omega
  refine w74_0 (puts_of (l := Ints tabL) g1 ?_ : putsEx (M.new (.cells (List.replicate 65 (Value.int .i64 0)).toArray 70)) (2 * M.nb.size) 0 (Ints tabL) _)
  have rd : ∀ {z : Int} {i : Nat}, z = (i : Int) → i < 65 → ∃ a, idxA (some ⟨2 * M.nb.size, 0, none⟩) 65 1 z = some a ∧ R.intAt .i64 a.block a.off = some (tabL.getD i 0) := by
    intro z i hz hi
    refine ⟨⟨2 * M.nb.size, 0 + i * 1, none⟩, ?_, ?_⟩
    · unfold idxA
      rw [if_pos ⟨by omega, by omega⟩, hz]; rfl
    · refine int_of a1 ?_
      rw [Nat.zero_add, Nat.mul_one]
      show (Ints tabL).toArray[i]? = _
      rw [List.getElem?_toArray, List.getElem?_map, tabL_at hi]; rfl
  have hm : 0 ≤ x % 256 ∧ x % 256 < 256 := by omega
  have ht : -256 < x.tmod 256 ∧ x.tmod 256 < 256 := ⟨Int.lt_tmod_of_pos _ (by decide), Int.tmod_lt_of_pos _ (by decide)⟩
  have he : x.tmod 256 < 0 ∧ x % 256 = x.tmod 256 + 256 ∨ 0 ≤ x.tmod 256 ∧ x % 256 = x.tmod 256 := by
    have h1 := Int.tmod_add_mul_tdiv x 256
    generalize x.tdiv 256 = q at h1
    omega
  have hc := cosR x _ rfl
  generalize hy : (x % 256).toNat = m at hc
  have hb : ∀ i, 0 ≤ tabL.getD i 0 ∧ tabL.getD i 0 ≤ 4096 := tabL_d
  have last : ∀ {z : Int}, z = (m : Int) → 
     ((z > 128 →
      (((IntKind.i64.wrap (256 - z)) > 64 →
       ∃ a74', idxA (some ⟨2 * M.nb.size, 0, none⟩) 65 1 (IntKind.i64.wrap (128 - (IntKind.i64.wrap (256 - z)))) = some a74' ∧
       ∃ x75', R.intAt .i64 a74'.block a74'.off = some x75' ∧
       (Value.int .i64 (IntKind.i64.wrap (0 - x75')) = .int .i64 (cosT x) ∧ Keep M R)) ∧
       (¬ ((IntKind.i64.wrap (256 - z)) > 64) →
       ∃ a76', idxA (some ⟨2 * M.nb.size, 0, none⟩) 65 1 (IntKind.i64.wrap (256 - z)) = some a76' ∧
       ∃ x77', R.intAt .i64 a76'.block a76'.off = some x77' ∧
       (Value.int .i64 (x77') = .int .i64 (cosT x) ∧ Keep M R)))) ∧
      (¬ (z > 128) →
      ((z > 64 →
       ∃ a78', idxA (some ⟨2 * M.nb.size, 0, none⟩) 65 1 (IntKind.i64.wrap (128 - z)) = some a78' ∧
       ∃ x79', R.intAt .i64 a78'.block a78'.off = some x79' ∧
       (Value.int .i64 (IntKind.i64.wrap (0 - x79')) = .int .i64 (cosT x) ∧ Keep M R)) ∧
       (¬ (z > 64) →
       ∃ a80', idxA (some ⟨2 * M.nb.size, 0, none⟩) 65 1 z = some a80' ∧
       ∃ x81', R.intAt .i64 a80'.block a80'.off = some x81' ∧
       (Value.int .i64 (x81') = .int .i64 (cosT x) ∧ Keep M R))))) := by
    intro z hz
    subst hz
    refine ⟨fun h1 => ?_, fun h1 => ?_⟩
    · rw [show (if m > 128 then 256 - m else m) = 256 - m from if_pos (by omega)] at hc
      have e1 : IntKind.i64.wrap (256 - (m : Int)) = ((256 - m : Nat) : Int) := by rw [i64w (by omega)]; omega
      rw [e1]
      refine ⟨fun h2 => ?_, fun h2 => ?_⟩
      · rw [if_pos (by omega)] at hc
        have e2 : IntKind.i64.wrap (128 - ((256 - m : Nat) : Int)) = ((128 - (256 - m) : Nat) : Int) := by rw [i64w (by omega)]; omega
        obtain ⟨a, i1, i2⟩ := rd e2 (by omega)
        have hb := hb (128 - (256 - m))
        exact ⟨_, i1, _, i2, by rw [i64w (by omega), hc, Int.zero_sub], K⟩
      · rw [if_neg (by omega)] at hc
        obtain ⟨a, i1, i2⟩ := rd (z := ((256 - m : Nat) : Int)) rfl (by omega)
        exact ⟨_, i1, _, i2, by rw [hc], K⟩
    · rw [show (if m > 128 then 256 - m else m) = m from if_neg (by omega)] at hc
      refine ⟨fun h2 => ?_, fun h2 => ?_⟩
      · rw [if_pos (by omega)] at hc
        have e2 : IntKind.i64.wrap (128 - (m : Int)) = ((128 - m : Nat) : Int) := by rw [i64w (by omega)]; omega
        obtain ⟨a, i1, i2⟩ := rd e2 (by omega)
        have hb := hb (128 - m)
        exact ⟨_, i1, _, i2, by rw [i64w (by omega), hc, Int.zero_sub], K⟩
      · rw [if_neg (by omega)] at hc
        obtain ⟨a, i1, i2⟩ := rd (z := (m : Int)) rfl (by omega)
        exact ⟨_, i1, _, i2, by rw [hc], K⟩
  refine ⟨fun h1 => ?_, fun h1 => ?_⟩
  · have e0 : IntKind.i64.wrap (x.tmod 256 + 256) = (m : Int) := by rw [i64w (by omega)]; omega
    have := last (z := IntKind.i64.wrap (x.tmod 256 + 256)) e0
    exact this
  · exact last (z := x.tmod 256) (by omega)
end Go.Zt

