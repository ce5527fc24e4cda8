/- Layer 1: the program's readers, further. -/
import Derived.Test.YtgepgbblmodagaaZkE
set_option linter.unusedSimpArgs false
set_option linter.unusedVariables false
namespace Go.Zt
open Go Go.Sim Go.Proofs Go.RowKit
section
variable {S : Nat → Prop} {M : Mem} {j : Nat} {b : List Nat} {p : Nat}
theorem c40 (h : Rdr S M j b p) (hf : M.floor ≤ j) : Cn Try.prog 40 #[PtrB j] M (RdR S M j b (.int .i64 ((rAlign b p).1 : Nat)) (rAlign b p).2) := by
  obtain ⟨A, c, g1, g2, g3, g0, g4⟩ := h.ex
  have hp := h.pos
  have hl := h.len
  have e1 : IntKind.i64.wrap (((BitVec.ofInt (IntKind.bits .i64) (IntKind.i64.wrap (0 - (p : Int))) &&& BitVec.ofInt (IntKind.bits .i64) 7).toNat : Nat) : Int) = (((8 - p % 8) % 8 : Nat) : Int) := by
    rw [i64w (x := 0 - (p : Int)) (by omega), and7_i64]; omega
  refine w40_0 (Cn.eq (c64 h) ⟨_, rfl, fun h => absurd h (by simp), fun _ => ⟨_, rfl, _, int_of g1 rfl, _, rfl, _, int_of g1 rfl, ?_⟩⟩)
  rw [e1]
  refine Cn.eq (c66 h (a := p) (n := (8 - p % 8) % 8) rfl rfl (by omega) (by omega)) ⟨_, rfl, fun h1 => ?_, fun h1 => ?_⟩
  · have e : rAlign b p = (4, p) := by unfold rAlign; simp only; rw [if_pos (by omega)]
    rw [e]; exact .same h
  · have e : rAlign b p = (0, p + (8 - p % 8) % 8) := by unfold rAlign; simp only; rw [if_neg (by omega)]
    rw [e]
    obtain ⟨M', m1, m2, m3, m4⟩ := h.set hf (p' := p + (8 - p % 8) % 8) (z := IntKind.i64.wrap ((p : Int) + (((8 - p % 8) % 8 : Nat) : Int))) (by omega) (by rw [i64w (by omega)]; omega)
    exact ⟨_, rfl, _, int_of g1 rfl, _, rfl, _, m1, rfl, m2, m3, m4⟩
end
theorem u8_one (b : List Nat) : (U8 b).all oneCell = true := by rw [List.all_eq_true]; intro v hv; obtain ⟨x, _, rfl⟩ := List.mem_map.1 hv; rfl
theorem c61' {M : Mem} (hf : M.floor ≤ M.nb.size) {A : Option Addr} {n c : Nat} {b : List Nat} (hR : Row M A (U8 b)) (hn : b.length = n) (hb : n ≤ 100000000000) :
    Cn Try.prog 61 #[.slice A n c] M fun v N => ∃ A' c', v = .slice A' n c' ∧ Keep M N ∧ Own (fun j => M.nb.size ≤ j) N 5 A' c' (U8 b) ∧ n ≤ c' := by
  refine w61_0 ⟨fun h => ?_, fun h => ?_⟩
  · have hA : A = none := by cases A with | none => rfl | some a => simp at h
    subst hA
    have hb0 : b = [] := by have := hR.none_nil; simpa using this
    subst hb0
    subst hn
    exact ⟨none, 0, rfl, .refl _, .inl ⟨rfl, rfl, rfl⟩, Nat.le_refl _⟩
  · obtain ⟨A', c', M', g1, g2, g3, g4⟩ := clone_own el5 hR (n := n) (c := c) (by simpa using hn) (u8_one b) hf (by omega)
    exact ⟨_, g1, _, rfl, A', c', rfl, g2, by simpa using g3, g4⟩
theorem c61 {M : Mem} (hf : M.floor ≤ M.nb.size) {A : Option Addr} {n c : Nat} {b : List Nat} (hR : Row M A (U8 b)) (hn : b.length = n) (hb : n ≤ 4294967296) :
    Cn Try.prog 61 #[.slice A n c] M fun v N => ∃ A' c', v = .slice A' n c' ∧ Keep M N ∧ Own (fun j => M.nb.size ≤ j) N 5 A' c' (U8 b) ∧ n ≤ c' := c61' hf hR hn (by omega)
theorem c31 {M : Mem} (hf : M.floor ≤ M.nb.size) {A : Option Addr} {n c : Nat} {b : List Nat} (hR : Row M A (U8 b)) (hn : b.length = n) (hb : n ≤ 4294967296) (hB : Byt b) :
    Cn Try.prog 31 #[.slice A n c] M fun v N => ∃ j, v = PtrB j ∧ Keep M N ∧ M.nb.size ≤ j ∧ j < N.nb.size ∧ Rdr (fun i => M.nb.size ≤ i ∧ i < j) N j b 0 := by
  refine w31_0 (Cn.mono (c61 hf hR hn hb) ?_)
  rintro v N ⟨A', c', rfl, hK, hO, hc⟩
  have hN : Chg (fun j => M.nb.size ≤ j) N (N.new (.cells #[.slice A' n c', .int .i64 0, .bool true] 101)) := .new _ _
  refine ⟨_, rfl, N.nb.size, rfl, Keep.step hK hN fun j hj => hj, hK.size, by rw [Mem.new_size]; omega, ⟨fun h => by omega, hB, by omega, Nat.zero_le _, A', c', ?_, ?_, by omega, hO.none_zero, fun a ha => ?_⟩⟩
  · rw [hn]; exact Mem.new_at _ _
  · exact hO.row.keep (.new _ _)
  · have h1 := hO.in_ a ha
    have h2 : a.block / 2 < N.nb.size := by
      rcases hO with ⟨h, _⟩ | ⟨j, cs, sp, h, _, _, h4, _⟩
      · rw [h] at ha; cases ha
      · rw [h] at ha; obtain rfl := Option.some.inj ha
        show 2 * j / 2 < _
        have := lt_of_at h4; omega
    exact .inr ⟨h1.2, h2⟩
end Go.Zt
