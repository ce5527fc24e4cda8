/- Layer 7: the table of cosines, the weights of the kinds. -/
import Derived.Test.YtpfhalehdgcbeaaZgB
import Derived.Test.YtpfhalehdgcbeaaZsT
set_option linter.unusedSimpArgs false
set_option linter.unusedVariables false
set_option maxRecDepth 100000
namespace Go.Zt
open Go Go.Sim Go.Proofs Go.RowKit

def tabL : List Int := [4096, 4095, 4091, 4085, 4076, 4065, 4052, 4036, 4017, 3996, 3973, 3948, 3920, 3889, 3857, 3822, 3784, 3745, 3703, 3659, 3612, 3564, 3513, 3461, 3406, 3349, 3290, 3229, 3166, 3102, 3035, 2967, 2896, 2824, 2751, 2675, 2598, 2520, 2440, 2359, 2276, 2191, 2106, 2019, 1931, 1842, 1751, 1660, 1567, 1474, 1380, 1285, 1189, 1092, 995, 897, 799, 700, 601, 501, 401, 301, 201, 101, 0]
abbrev tabV : List Value := tabL.map (.int .i16)
def cosT (j : Int) : Int :=
  let m := (j % 256).toNat
  let m := if m > 128 then 256 - m else m
  if m > 64 then - tabL.getD (128 - m) 0 else tabL.getD m 0
theorem tabL_b : ∀ x ∈ tabL, 0 ≤ x ∧ x ≤ 4096 := by decide
theorem tabL_at {i : Nat} (h : i < 65) : tabL[i]? = some (tabL.getD i 0) := by
  rw [List.getD_eq_getElem?_getD, List.getElem?_eq_getElem (show i < tabL.length from h)]; rfl
theorem tabL_d (i : Nat) : 0 ≤ tabL.getD i 0 ∧ tabL.getD i 0 ≤ 4096 := by
  rcases Nat.lt_or_ge i 65 with h | h
  · exact tabL_b _ (List.mem_of_getElem? (tabL_at h))
  · rw [List.getD_eq_getElem?_getD, List.getElem?_eq_none (show tabL.length ≤ i from h)]; decide
theorem cosT_b (j : Int) : -4096 ≤ cosT j ∧ cosT j ≤ 4096 := by
  unfold cosT
  dsimp only
  split <;> split
  · have := tabL_d (128 - (256 - (j % 256).toNat)); omega
  · have := tabL_d (256 - (j % 256).toNat); omega
  · have := tabL_d (128 - (j % 256).toNat); omega
  · have := tabL_d (j % 256).toNat; omega
/-- The blocks from b0 on that were there are there. -/
def Kp (b0 : Nat) (M N : Mem) : Prop := ∀ (j : Nat) (b : Blk), b0 ≤ j → M.nb[j]? = some b → N.nb[j]? = some b
theorem Kp.refl {b0 : Nat} (M : Mem) : Kp b0 M M := fun _ _ _ h => h
theorem Kp.trans {b0 : Nat} {M N R : Mem} (h : Kp b0 M N) (k : Kp b0 N R) : Kp b0 M R := fun j b hj hb => k j b hj (h j b hj hb)
theorem Kp.of {b0 : Nat} {M N : Mem} (h : Keep M N) : Kp b0 M N := fun j b _ hb => at_keep hb h
theorem Kp.fl {b0 : Nat} {M N : Mem} {f : Nat} (h : Kp b0 M N) : Kp b0 M { N with floor := f } := h
/-- The table lies there. -/
def Tb (M : Mem) (j : Nat) : Prop := M.nb[j]? = some (.cells tabV.toArray 65)
theorem and255 (x : Int) : IntKind.i64.wrap (((BitVec.ofInt (IntKind.bits .i64) x &&& BitVec.ofInt (IntKind.bits .i64) 255).toNat : Nat) : Int) = x % 256 := by
  have e : ((BitVec.ofInt (IntKind.bits .i64) x &&& BitVec.ofInt (IntKind.bits .i64) 255).toNat : Nat) = (x % 256).toNat := by
    rw [BitVec.toNat_and]
    have h1 : (BitVec.ofInt (IntKind.bits .i64) (255 : Int)).toNat = 2 ^ 8 - 1 := by decide
    rw [h1, Nat.and_two_pow_sub_one_eq_mod, BitVec.toNat_ofInt]
    show (x % ((18446744073709551616 : Nat) : Int)).toNat % 256 = (x % 256).toNat
    omega
  rw [e, i64w (by omega)]
  omega
theorem c70 {M : Mem} {j : Nat} (h : Tb M j) {x : Int} : Cn Try.prog 70 #[.pointer (some ⟨2 * j, 0, none⟩), .int .i64 x] M fun v N => v = .int .i64 (cosT x) ∧ N = M := by
  have hm : 0 ≤ x % 256 ∧ x % 256 < 256 := by omega
  have rd : ∀ {z : Int} {i : Nat}, z = (i : Int) → i < 65 → ∃ a, idxA (some ⟨2 * j, 0, none⟩) 65 1 z = some a ∧ M.intAt .i16 a.block a.off = some (tabL.getD i 0) := by
    intro z i hz hi
    refine ⟨⟨2 * j, 0 + i * 1, none⟩, ?_, ?_⟩
    · unfold idxA
      rw [if_pos ⟨by omega, by omega⟩, hz]; rfl
    · refine int_of h ?_
      rw [Nat.zero_add, Nat.mul_one]
      show tabV.toArray[i]? = _
      rw [List.getElem?_toArray, List.getElem?_map, tabL_at hi]; rfl
  refine w70_0 ?_
  rw [and255]
  have hc : cosT x = (let m := (x % 256).toNat; let m := if m > 128 then 256 - m else m; if m > 64 then - tabL.getD (128 - m) 0 else tabL.getD m 0) := rfl
  dsimp only at hc
  generalize hy : (x % 256).toNat = m at hc
  have hym : x % 256 = (m : Int) := by omega
  rw [hym]
  refine ⟨fun h1 => ?_, fun h1 => ?_⟩
  · rw [show (if m > 128 then 256 - m else m) = 256 - m from if_pos (by omega)] at hc
    have e1 : IntKind.i64.wrap (256 - (m : Int)) = ((256 - m : Nat) : Int) := by rw [i64w (by omega)]; omega
    rw [e1]
    refine ⟨fun h2 => ?_, fun h2 => ?_⟩
    · rw [if_pos (by omega)] at hc
      have e2 : IntKind.i64.wrap (128 - ((256 - m : Nat) : Int)) = ((128 - (256 - m) : Nat) : Int) := by rw [i64w (by omega)]; omega
      obtain ⟨a, i1, i2⟩ := rd e2 (by omega)
      have hb := tabL_d (128 - (256 - m))
      exact ⟨_, rfl, _, i1, _, i2, by rw [i64w (x := tabL.getD (128 - (256 - m)) 0) (by omega), i64w (by omega), hc, Int.zero_sub], rfl⟩
    · rw [if_neg (by omega)] at hc
      obtain ⟨a, i1, i2⟩ := rd (z := ((256 - m : Nat) : Int)) rfl (by omega)
      have hb := tabL_d (256 - m)
      exact ⟨_, rfl, _, i1, _, i2, by rw [i64w (x := tabL.getD (256 - m) 0) (by omega), hc], rfl⟩
  · rw [show (if m > 128 then 256 - m else m) = m from if_neg (by omega)] at hc
    refine ⟨fun h2 => ?_, fun h2 => ?_⟩
    · rw [if_pos (by omega)] at hc
      have e2 : IntKind.i64.wrap (128 - (m : Int)) = ((128 - m : Nat) : Int) := by rw [i64w (by omega)]; omega
      obtain ⟨a, i1, i2⟩ := rd e2 (by omega)
      have hb := tabL_d (128 - m)
      exact ⟨_, rfl, _, i1, _, i2, by rw [i64w (x := tabL.getD (128 - m) 0) (by omega), i64w (by omega), hc, Int.zero_sub], rfl⟩
    · rw [if_neg (by omega)] at hc
      obtain ⟨a, i1, i2⟩ := rd (z := (m : Int)) rfl (by omega)
      have hb := tabL_d m
      exact ⟨_, rfl, _, i1, _, i2, by rw [i64w (x := tabL.getD m 0) (by omega), hc], rfl⟩
/-- The table is made, and told. -/
theorem c68 {M : Mem} (hf : M.floor ≤ M.nb.size) : Cn Try.prog 68 #[] M fun v N => v = .agg tabV.toArray ∧ Keep M N := by
  refine w68_0 ?_
  have a0 := Mem.new_at M (.cells (List.replicate 65 (Value.int .i16 0)).toArray 65)
  obtain ⟨N, g1, g2, g3⟩ := fill_new (l := tabV) (o := 0) a0 hf (by decide) (by decide)
  have a1 : N.nb[M.nb.size]? = some (.cells tabV.toArray 65) := g3
  have K : Keep M N := Keep.step (Chg.new (S := fun _ => False) M _) g2 fun i hi => by omega
  refine (puts_of (l := tabV) g1 ?_ : putsEx (M.new (.cells (List.replicate 65 (Value.int .i16 0)).toArray 65)) (2 * M.nb.size) 0 tabV _)
  exact ⟨_, int_of a1 rfl, _, int_of a1 rfl, _, int_of a1 rfl, _, int_of a1 rfl, _, int_of a1 rfl, _, int_of a1 rfl, _, int_of a1 rfl, _, int_of a1 rfl, _, int_of a1 rfl, _, int_of a1 rfl, _, int_of a1 rfl, _, int_of a1 rfl, _, int_of a1 rfl, _, int_of a1 rfl, _, int_of a1 rfl, _, int_of a1 rfl, _, int_of a1 rfl, _, int_of a1 rfl, _, int_of a1 rfl, _, int_of a1 rfl, _, int_of a1 rfl, _, int_of a1 rfl, _, int_of a1 rfl, _, int_of a1 rfl, _, int_of a1 rfl, _, int_of a1 rfl, _, int_of a1 rfl, _, int_of a1 rfl, _, int_of a1 rfl, _, int_of a1 rfl, _, int_of a1 rfl, _, int_of a1 rfl, _, int_of a1 rfl, _, int_of a1 rfl, _, int_of a1 rfl, _, int_of a1 rfl, _, int_of a1 rfl, _, int_of a1 rfl, _, int_of a1 rfl, _, int_of a1 rfl, _, int_of a1 rfl, _, int_of a1 rfl, _, int_of a1 rfl, _, int_of a1 rfl, _, int_of a1 rfl, _, int_of a1 rfl, _, int_of a1 rfl, _, int_of a1 rfl, _, int_of a1 rfl, _, int_of a1 rfl, _, int_of a1 rfl, _, int_of a1 rfl, _, int_of a1 rfl, _, int_of a1 rfl, _, int_of a1 rfl, _, int_of a1 rfl, _, int_of a1 rfl, _, int_of a1 rfl, _, int_of a1 rfl, _, int_of a1 rfl, _, int_of a1 rfl, _, int_of a1 rfl, _, int_of a1 rfl, _, int_of a1 rfl, _, int_of a1 rfl, rfl, K⟩
end Go.Zt

