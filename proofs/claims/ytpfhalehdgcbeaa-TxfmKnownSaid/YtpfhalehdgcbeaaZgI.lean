/- Layer 7: what BasisLossless comes to. -/
import Derived.Test.YtpfhalehdgcbeaaZgIa
set_option linter.unusedSimpArgs false
set_option linter.unusedVariables false
namespace Go.Zt
open Go Go.Sim Go.Proofs Go.RowKit

/-! ### BasisLossless -/
theorem forth_e {a b c d e : Int} (h : (a + b - (d - c)) / 2 = e) : forthS a b c d = [a + b - (e - c), e - c, d - c + (e - b), e - b] := by
  subst h; rfl
theorem back_e {a c d b e : Int} (h : (a + c - (d - b)) / 2 = e) : backS a c d b = [a + c - (e - b), e - b, e - c, d - b + (e - c)] := by
  subst h; rfl
theorem wht_back {a b c d : Int} : backS (gx (forthS a b c d) 0) (gx (forthS a b c d) 1) (gx (forthS a b c d) 2) (gx (forthS a b c d) 3) = [a, b, c, d] := by
  rw [forth_e rfl]
  generalize he : (a + b - (d - c)) / 2 = e
  show backS (a + b - (e - c)) (e - c) (d - c + (e - b)) (e - b) = _
  rw [back_e (e := e) (by rw [← he]; congr 1; omega)]
  congr 1
  · omega
  congr 1
  · omega
  congr 1
  · omega
  congr 1
  · omega
theorem wht_forth {a b c d : Int} : forthS (gx (backS a b c d) 0) (gx (backS a b c d) 1) (gx (backS a b c d) 2) (gx (backS a b c d) 3) = [a, b, c, d] := by
  rw [back_e rfl]
  generalize he : (a + b - (c - d)) / 2 = e
  show forthS (a + b - (e - d)) (e - d) (e - b) (c - d + (e - b)) = _
  rw [forth_e (e := e) (by rw [← he]; congr 1; omega)]
  congr 1
  · omega
  congr 1
  · omega
  congr 1
  · omega
  congr 1
  · omega
theorem near4 {a b c d : Int} (h : ∀ v ∈ [a, b, c, d], -(1048576 : Int) ≤ v ∧ v ≤ 1048576) : mayB 3 [a, b, c, d] = true := by
  unfold mayB
  rw [show lenB 3 [a, b, c, d].length = true from rfl, Bool.true_and, List.all_eq_true]
  exact fun v hv => decide_eq_true (h v hv)
theorem both {x : List Int} (hl : x.length = 4) (hx : Within 262144 x) :
    mayB 3 x = true ∧ (∃ a b c d, fwdQ 3 x = ([a, b, c, d], 0) ∧ invQ 3 [a, b, c, d] = (x, 0)) ∧ (∃ a b c d, invQ 3 x = ([a, b, c, d], 0) ∧ fwdQ 3 [a, b, c, d] = (x, 0)) := by
  match x, hl with
  | [a, b, c, d], _ =>
    have ha := hx a (by simp)
    have hb := hx b (by simp)
    have hc := hx c (by simp)
    have hd := hx d (by simp)
    have hm : mayB 3 [a, b, c, d] = true := mayB_of rfl (by decide) hx
    refine ⟨hm, ?_, ?_⟩
    · have hw := wht_back (a := a) (b := b) (c := c) (d := d)
      rw [forth_e rfl] at hw
      have hf : fwdQ 3 [a, b, c, d] = (forthS a b c d, 0) := by unfold fwdQ; rw [hm]; rfl
      rw [forth_e rfl] at hf
      refine ⟨_, _, _, _, hf, ?_⟩
      unfold invQ
      rw [near4 (fun v hv => ?_)]
      · exact congrArg (fun z => (z, 0)) hw
      · have h2 : 2 * ((a + b - (d - c)) / 2) ≤ a + b - (d - c) ∧ a + b - (d - c) ≤ 2 * ((a + b - (d - c)) / 2) + 1 := by omega
        generalize (a + b - (d - c)) / 2 = e at hv h2
        simp only [List.mem_cons, List.not_mem_nil, or_false] at hv
        rcases hv with rfl | rfl | rfl | rfl <;> omega
    · have hw := wht_forth (a := a) (b := b) (c := c) (d := d)
      rw [back_e rfl] at hw
      have hf : invQ 3 [a, b, c, d] = (backS a b c d, 0) := by unfold invQ; rw [hm]; rfl
      rw [back_e rfl] at hf
      refine ⟨_, _, _, _, hf, ?_⟩
      unfold fwdQ
      rw [near4 (fun v hv => ?_)]
      · exact congrArg (fun z => (z, 0)) hw
      · have h2 : 2 * ((a + b - (c - d)) / 2) ≤ a + b - (c - d) ∧ a + b - (c - d) ≤ 2 * ((a + b - (c - d)) / 2) + 1 := by omega
        generalize (a + b - (c - d)) / 2 = e at hv h2
        simp only [List.mem_cons, List.not_mem_nil, or_false] at hv
        rcases hv with rfl | rfl | rfl | rfl <;> omega
end Go.Zt

