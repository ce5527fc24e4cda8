/- Layer 8: clipping, rounding, scaling. -/
import Derived.Test.YtpfhalehdgcbeaaZgW
set_option linter.unusedSimpArgs false
set_option linter.unusedVariables false
namespace Go.Zt
open Go Go.Sim Go.Proofs Go.RowKit

def clipS (v : Int) : Int := if v < -32768 then -32768 else if v > 32767 then 32767 else v
theorem clipS_b (v : Int) : -32768 ≤ clipS v ∧ clipS v ≤ 32767 := by unfold clipS; split <;> (try split) <;> omega
theorem c28 {v : Int} {M : Mem} : Cn Try.prog 28 #[.int .i64 v] M fun u N => u = .int .i64 (clipS v) ∧ N = M := by
  refine w28_0 ⟨?_, rfl⟩
  congr 1
  unfold clipS
  repeat' split
  all_goals omega
def kindsS (typ : Int) : Int × Int := if typ = 9 then (3, 3) else (typ.tmod 3, IntKind.i64.wrap (typ.tdiv 3))
theorem c29 {typ : Int} {M : Mem} : Cn Try.prog 29 #[.int .i64 typ] M fun v N => v = .tuple #[.int .i64 (kindsS typ).1, .int .i64 (kindsS typ).2] ∧ N = M := by
  refine w29_0 ⟨fun h => ⟨?_, rfl⟩, fun h => ⟨?_, rfl⟩⟩
  · rw [show kindsS typ = (3, 3) from if_pos h]
  · rw [show kindsS typ = _ from if_neg h]
/-- A number rounded by some bits. -/
def roundS (b : Nat) (v : Int) : Int := if b = 0 then v else (v + 2 ^ (b - 1)) / 2 ^ b
def Far (v : Int) : Prop := -1099511627776 ≤ v ∧ v ≤ 1099511627776
theorem pow_b {b : Nat} (h : b ≤ 8) : (1 : Int) ≤ 2 ^ b ∧ (2 : Int) ^ b ≤ 256 := by
  have : ∀ b : Fin 9, (1 : Int) ≤ 2 ^ b.val ∧ (2 : Int) ^ b.val ≤ 256 := by decide
  exact this ⟨b, by omega⟩
theorem round_steps {P : Program} {b : Nat} (hb : b ≤ 8) (h0 : b ≠ 0) {v : Int} (hv : Far v) :
    binV P .shl 3 3 (.int .i64 1) (.int .i64 (IntKind.i64.wrap ((b : Int) - 1))) = some (.int .i64 (2 ^ (b - 1))) ∧
    binV P .shr 3 3 (.int .i64 (IntKind.i64.wrap (v + 2 ^ (b - 1)))) (.int .i64 (b : Nat)) = some (.int .i64 (roundS b v)) := by
  have h1 := pow_b (b := b - 1) (by omega)
  have h2 := pow_b hb
  unfold Far at hv
  refine ⟨?_, ?_⟩
  · rw [i64w (by omega), shl_i64 (q := b - 1) (by omega) (by rw [Int.one_mul]; omega) (by omega), Int.one_mul]
  · rw [i64w (by omega), shr_i64 (q := b) rfl (by omega)]
    unfold roundS
    rw [if_neg h0, Int.fdiv_eq_ediv_of_nonneg _ (by omega)]
/-- What a function value does, as long as all but one block stand. -/
def FnOk (jc : Nat) (M : Mem) (gv : Value) (gs : Int → Int) : Prop := ∀ N, N.floor ≤ N.nb.size → (∀ j b, j ≠ jc → M.nb[j]? = some b → N.nb[j]? = some b) → ∀ v, Far v → ∃ q, callVal Try.prog gv #[.int .i64 v] = some q ∧ Cn Try.prog q.1 q.2 N (fun u N' => u = .int .i64 (gs v) ∧ Keep N N')
theorem FnOk.pass {jc : Nat} {M N : Mem} {gv : Value} {gs : Int → Int} (h : FnOk jc M gv gs) (hk : ∀ j b, j ≠ jc → M.nb[j]? = some b → N.nb[j]? = some b) : FnOk jc N gv gs :=
  fun R hf hR v hv => h R hf (fun j b hj hb => hR j b hj (hk j b hj hb)) v hv
theorem c50 {v : Int} {M : Mem} : Cn Try.prog 50 #[.int .i64 v] M fun u N => u = .int .i64 v ∧ N = M := w50_0 ⟨rfl, rfl⟩
theorem c51 {b : Nat} (hb : b ≤ 8) (h0 : b ≠ 0) {v : Int} (hv : Far v) {M : Mem} {j : Nat} (hj : M.nb[j]? = some (.cells #[.int .i64 (b : Nat)] 3)) :
    Cn Try.prog 51 #[.int .i64 v, .pointer (some ⟨2 * j, 0, none⟩)] M fun u N => u = .int .i64 (roundS b v) ∧ N = M := by
  obtain ⟨h1, h2⟩ := round_steps (P := Try.prog) hb h0 hv
  exact w51_0 ⟨_, rfl, _, int_of hj rfl, _, h1, _, rfl, _, rfl, _, int_of hj rfl, _, h2, _, rfl, rfl, rfl⟩
/-- The rounding that is told. -/
def rdS (b : Nat) (typ : Int) (v : Int) : Int := if typ = 9 then v else roundS b v
theorem c30 {b : Nat} (hb : b ≤ 8) {typ : Int} {M : Mem} (hf : M.floor ≤ M.nb.size) {jc : Nat} (hjc : jc < M.nb.size) : Cn Try.prog 30 #[.int .i64 (b : Nat), .int .i64 typ] M fun gv N => oneCell gv = true ∧ Keep M N ∧ FnOk jc N gv (rdS b typ) := by
  have a0 := Mem.new_at M (.cells #[.int .i64 (b : Nat)] 3)
  have K0 : Keep M (M.new (.cells #[.int .i64 (b : Nat)] 3)) := .new _ _
  refine w30_0 ?_
  generalize M.new (.cells #[.int .i64 (b : Nat)] 3) = N at a0 K0 ⊢
  have idOk : (∀ v, rdS b typ v = v) → FnOk jc N (.func (.func 50) #[] #[]) (rdS b typ) := fun h R hR hk v hv => ⟨(50, #[.int .i64 v]), by kernel_rfl, Cn.eq c50 ⟨by rw [h v], .refl _⟩⟩
  have key : ∀ x : Bool, x = decide (b = 0 ∨ typ = 9) → A30_1 (some ⟨2 * M.nb.size, 0, none⟩) x N fun gv N => oneCell gv = true ∧ Keep M N ∧ FnOk jc N gv (rdS b typ) := by
    intro x hx
    refine w30_1 ⟨fun h => ⟨rfl, K0, idOk fun v => ?_⟩, fun h => ⟨rfl, K0, ?_⟩⟩
    · rw [h] at hx
      have := of_decide_eq_true hx.symm
      unfold rdS roundS
      split
      · rfl
      · rw [if_pos (by omega)]
    · rw [h] at hx
      have h9 := of_decide_eq_false hx.symm
      intro R hR hk v hv
      refine ⟨(51, #[.int .i64 v, .pointer (some ⟨2 * M.nb.size, 0, none⟩)]), by kernel_rfl, Cn.eq (c51 hb (by omega) hv (hk _ _ (by omega) a0)) ⟨?_, .refl _⟩⟩
      unfold rdS; rw [if_neg (by omega)]
  refine ⟨_, int_of a0 rfl, fun h => key _ ?_, fun h => key _ ?_⟩
  · symm; exact decide_eq_true (.inl (by omega))
  · rw [Bool.eq_iff_iff]; simp; omega
theorem c35 {v typ : Int} {M : Mem} : Cn Try.prog 35 #[.int .i64 v, .int .i64 typ] M fun u N => u = .int .i64 (if typ = 9 then v else clipS v) ∧ N = M :=
  w35_0 ⟨fun h => ⟨by rw [if_pos h], rfl⟩, fun h => Cn.eq c28 ⟨_, rfl, by rw [if_neg h], rfl⟩⟩
/-- What is made of a row's number behind the transform ahead. -/
def scS (n typ : Int) (v : Int) : Int := if typ = 9 then v else clipS (if n = 4 then 4 * v else if n = 8 then 2 * v else if n = 32 then roundS 2 v else if n = 64 then roundS 4 v else v)
theorem c46 {n typ : Int} {M : Mem} (hf : M.floor ≤ M.nb.size) {jc : Nat} (hjc : jc < M.nb.size) : Cn Try.prog 46 #[.int .i64 n, .int .i64 typ] M fun gv N => oneCell gv = true ∧ Keep M N ∧ FnOk jc N gv (scS n typ) := by
  have a0 := Mem.new_at M (.cells #[.int .i64 typ] 3)
  have K0 : Keep M (M.new (.cells #[.int .i64 typ] 3)) := .new _ _
  have hs := Mem.new_size M (.cells #[.int .i64 typ] 3)
  refine w46_0 ?_
  generalize M.new (.cells #[.int .i64 typ] 3) = N at a0 K0 hs ⊢
  refine ⟨_, int_of a0 rfl, fun h => ⟨rfl, K0, ?_⟩, fun h9 => ⟨fun h => ⟨rfl, K0, ?_⟩, fun h4 => ⟨fun h => ⟨rfl, K0, ?_⟩, fun h8 => ⟨fun h => ⟨rfl, K0, ?_⟩, fun h32 => ⟨fun h => ⟨rfl, K0, ?_⟩, fun h64 => ⟨rfl, K0, ?_⟩⟩⟩⟩⟩⟩
  · intro R hR hk v hv
    exact ⟨(58, #[.int .i64 v]), by kernel_rfl, w58_0 ⟨by unfold scS; rw [if_pos h], .refl _⟩⟩
  · intro R hR hk v hv
    have hv' := hv; unfold Far at hv'
    exact ⟨(59, #[.int .i64 v]), by kernel_rfl, w59_0 (Cn.eq c28 ⟨_, rfl, by unfold scS; rw [i64w (by omega), if_neg h9, if_pos h], .refl _⟩)⟩
  · intro R hR hk v hv
    have hv' := hv; unfold Far at hv'
    exact ⟨(60, #[.int .i64 v]), by kernel_rfl, w60_0 (Cn.eq c28 ⟨_, rfl, by unfold scS; rw [i64w (by omega), if_neg h9, if_neg h4, if_pos h], .refl _⟩)⟩
  · intro R hR hk v hv
    have hv' := hv; unfold Far at hv'
    refine ⟨(61, #[.int .i64 v, .pointer (some ⟨2 * M.nb.size, 0, none⟩)]), by kernel_rfl, w61_0 ⟨_, rfl, _, int_of (hk _ _ (by omega) a0) rfl, Cn.mono (c30 (b := 2) (by decide) hR (jc := M.nb.size) (lt_of_at (hk _ _ (by omega) a0))) ?_⟩⟩
    rintro gv R2 ⟨_, K2, hF⟩
    obtain ⟨q, q1, q2⟩ := hF R2 (fb hR K2) (fun _ _ _ h => h) v hv
    refine ⟨q, q1, Cn.mono q2 ?_⟩
    rintro _ R3 ⟨rfl, K3⟩
    refine ⟨_, rfl, Cn.eq c28 ⟨_, rfl, ?_, K2.trans K3⟩⟩
    unfold scS rdS; rw [if_neg h9, if_neg h9, if_neg h4, if_neg h8, if_pos h]
  · intro R hR hk v hv
    have hv' := hv; unfold Far at hv'
    refine ⟨(62, #[.int .i64 v, .pointer (some ⟨2 * M.nb.size, 0, none⟩)]), by kernel_rfl, w62_0 ⟨_, rfl, _, int_of (hk _ _ (by omega) a0) rfl, Cn.mono (c30 (b := 4) (by decide) hR (jc := M.nb.size) (lt_of_at (hk _ _ (by omega) a0))) ?_⟩⟩
    rintro gv R2 ⟨_, K2, hF⟩
    obtain ⟨q, q1, q2⟩ := hF R2 (fb hR K2) (fun _ _ _ h => h) v hv
    refine ⟨q, q1, Cn.mono q2 ?_⟩
    rintro _ R3 ⟨rfl, K3⟩
    refine ⟨_, rfl, Cn.eq c28 ⟨_, rfl, ?_, K2.trans K3⟩⟩
    unfold scS rdS; rw [if_neg h9, if_neg h9, if_neg h4, if_neg h8, if_neg h32, if_pos h]
  · intro R hR hk v hv
    exact ⟨(28, #[.int .i64 v]), by kernel_rfl, Cn.eq c28 ⟨by unfold scS; rw [if_neg h9, if_neg h4, if_neg h8, if_neg h32, if_neg h64], .refl _⟩⟩
end Go.Zt

