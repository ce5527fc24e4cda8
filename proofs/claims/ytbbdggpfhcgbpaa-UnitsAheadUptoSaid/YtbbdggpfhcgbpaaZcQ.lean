/- Layer 19: what UnitsSplits comes to; arguments of bytes. -/
import Derived.Test.YtbbdggpfhcgbpaaZcP
import Derived.Test.YtbbdggpfhcgbpaaZcDc
import Derived.Test.YtbbdggpfhcgbpaaZsT
set_option linter.unusedSimpArgs false
set_option linter.unusedVariables false
namespace Go.Zt
open Go Go.Sim Go.Proofs Go.RowKit

theorem pcS_b (b : List Nat) : (pcS b).2.1.length ≤ b.length := by
  match b with
  | [] => exact Nat.le_refl _
  | x :: r =>
    rw [pcS_cons]
    repeat (split; exact Nat.zero_le _)
    simp only [List.length_take, List.length_drop, List.length_cons]; omega
theorem splitS_b : ∀ (f : Nat) (b : List Nat), ∀ x ∈ (splitS f b).1, x.2.length ≤ b.length
  | 0, b, x, h => by simp [splitS] at h
  | f + 1, [], x, h => by simp [splitS] at h
  | f + 1, y :: r, x, h => by
    rw [splitS] at h
    split at h
    · simp at h
    · rcases List.mem_cons.1 h with rfl | h
      · exact pcS_b (y :: r)
      · have := splitS_b f _ x h
        rw [List.length_drop] at this; omega
theorem splitS_len : ∀ (f : Nat) (b : List Nat), (splitS f b).1.length ≤ f
  | 0, b => by simp [splitS]
  | f + 1, [] => by simp [splitS]
  | f + 1, y :: r => by
    rw [splitS]
    split
    · simp
    · have := splitS_len f ((y :: r).drop (pcS (y :: r)).2.2.1)
      simp only [List.length_cons]; omega
theorem c3 {M : Mem} (hf : M.floor ≤ M.nb.size) {A : Option Addr} {n c : Nat} {b : List Nat} (hA : Row M A (U8 b)) (hAo : Old A) (hn : n = b.length) (hb : n ≤ 1073741824) (hc : n ≤ c) (hA0 : A = none → c = 0) (hB : Byt b) :
    Cn Try.prog 3 #[.slice A n c] M fun v _ => v = .bool true := by
  refine w3_0 (Cn.mono (c10 hf hA hn (by omega)) ?_)
  rintro v N ⟨A1, c1, rfl, K1, O1, hc1⟩
  have hf1 : N.floor ≤ N.nb.size := by rw [K1.floor]; exact Nat.le_trans hf K1.size
  refine ⟨_, rfl, Cn.mono (c11 (n := n) hf1 O1.row hn (by omega) hc1 O1.none_zero hB) ?_⟩
  rintro v2 N2 ⟨A2, c2, l2, rfl, hp2, K2, O2⟩
  have hf2 : N2.floor ≤ N2.nb.size := by rw [K2.floor]; exact Nat.le_trans hf1 K2.size
  have K12 := K1.trans K2
  refine ⟨_, rfl, _, rfl, _, rfl, _, rfl, Cn.mono (c12 hf2 (hA.old hAo K12) hn (by omega) hc hA0 hB) ?_⟩
  rintro v3 N3 ⟨A3, c3, l3, rfl, hp3, K3, O3⟩
  have hbb : ∀ o ∈ l2, o.b.length ≤ 4611686018427387904 := fun o ho => by
    have h1 : o.pc ∈ l2.map Ob.pc := List.mem_map_of_mem ho
    rw [hp2] at h1
    have := splitS_b _ _ _ (by simpa using h1)
    have : o.b.length ≤ b.length := this
    omega
  have hl2 : l2.length ≤ b.length := by
    have := congrArg List.length hp2
    have h3 := splitS_len b.length b
    simp at this; omega
  have O2' := O2.keep K3
  refine ⟨_, rfl, _, rfl, _, rfl, _, rfl, Cn.eq (c13 O2'.rd O3.rd rfl rfl (show l2.length ≤ _ by omega) hbb) ⟨_, rfl, fun _ => ⟨fun _ => ?_, fun h => absurd rfl h⟩, fun h => absurd h (by rw [hp2, hp3]; simp)⟩⟩
  rw [show ((((splitS b.length b).2.2 : Nat) : Int) == (((splitS b.length b).2.2 : Nat) : Int)) = true by simp]
  have O1' : Own (fun i => M.nb.size ≤ i ∧ i < N.nb.size) N3 5 A1 c1 (U8 b) := ((O1.mono fun i hi h => ⟨h, hi⟩).chg K2 fun _ _ _ x => x).chg K3 fun _ _ _ x => x
  refine w3_1 (Cn.mono (c14 (S := fun i => N.nb.size ≤ i) (fun i hi => ?_) rfl (show l2.length ≤ _ by omega) hbb O2'.ow) ?_)
  · rw [K3.floor, K2.floor]; exact Nat.le_trans hf1 hi
  intro v4 N4 C4
  have O1'' := O1'.chg C4 fun i _ hs ht => by omega
  refine ⟨fun _ => Cn.eq (c15 O1''.row ((((hA.old hAo K12)).old hAo K3).old hAo C4) hn hn (show n ≤ _ by omega)) ⟨_, rfl, fun _ => Cn.known (by rfl) ⟨_, rfl, rfl⟩, fun h => absurd h (by simp)⟩, fun h => (by cases h)⟩
theorem wf_u8 {x : Int} (h : (Lit.int .u8 x).wf = true) : 0 ≤ x ∧ x < 256 := by
  simp [Lit.wf, IntKind.min, IntKind.max, IntKind.signed, IntKind.bits] at h
  omega
theorem wf_i64 {x : Int} (h : (Lit.int .i64 x).wf = true) : -9223372036854775808 ≤ x ∧ x ≤ 9223372036854775807 := by
  simp [Lit.wf, IntKind.min, IntKind.max, IntKind.signed, IntKind.bits] at h
  omega
theorem sees_bytes {M : Mem} {B k : Nat} {r : List Value} (h : Sees Try.prog M B (k + 2) 22 r) : ∃ A n c, ∃ b : List Nat, r = [.slice A n c] ∧ n = b.length ∧ n ≤ c ∧ n ≤ B ∧ Old A ∧ Row M A (U8 b) ∧ Byt b ∧ (A = none → c = 0) := by
  obtain ⟨A, n, c, l, rfl, h1, h2, h3, h4, h5, h6, h7⟩ := sees_slice (f := fun x : Nat => [Value.int .u8 (x : Int)]) (good := fun x => x < 256) (e := 5) (by kernel_rfl) h fun r hr => by
    obtain ⟨x, rfl, hw⟩ := sees_int (q := .u8) (by kernel_rfl) hr
    have := wf_u8 hw
    exact ⟨x.toNat, by congr 2; omega, by omega⟩
  rw [flatMap_one fun x : Nat => Value.int .u8 (x : Int)] at h6
  exact ⟨A, n, c, l, rfl, h1, h2, h3, h5, h6, h7, h4⟩
theorem law3 {W : World} {u0 : Value} (s0 : Sees Try.prog (mem0 W) 1048576 8 22 [u0]) : Cn Try.prog 3 #[u0] (mem0 W) fun v _ => v = .bool true := by
  obtain ⟨A, n, c, b, e, h1, h2, h3, h4, h5, h6, h7⟩ := sees_bytes s0
  simp at e
  subst e
  exact c3 (Nat.le_refl _) h5 h4 h1 (by omega) h2 h7 h6
end Go.Zt
