/- Layer 21: tiles of the program and of the document, squares. -/
import Derived.Test.YtnhfoiijkadajaaZeC
set_option linter.unusedSimpArgs false
set_option linter.unusedVariables false
namespace Go.Zt
open Go Go.Sim Go.Proofs Go.RowKit

section
variable {M0 : Mem}
theorem c16 (hf : M0.floor ≤ M0.nb.size) {w h c r : Int} : Cn Try.prog 16 #[.agg #[.int .i64 w, .int .i64 h], .int .i64 c, .int .i64 r] M0 (LyR M0 w h c r) := by
  have a0 := Mem.new_at M0 (.cells #[.int .i64 w, .int .i64 h] 32)
  have K0 : Keep M0 (M0.new (.cells #[.int .i64 w, .int .i64 h] 32)) := .new _ _
  have bad : ∀ {A B : Option Addr} {la lb ca cb : Nat} {N : Mem}, (sideB w c && sideB h r) = false → Keep M0 N → A16_1 A la ca B lb cb true N (LyR M0 w h c r) := fun hb K => w16_1 ⟨fun _ => .inl ⟨hb, rfl, K⟩, fun h => (by cases h)⟩
  refine w16_0 ⟨_, int_of a0 rfl, Cn.mono (c31 (by rw [K0.floor]; exact Nat.le_trans hf K0.size)) ?_⟩
  rintro v N (⟨h1, rfl, rfl⟩ | ⟨w', c', rfl, rfl, h1, h2, h3, h4, h5, A, ca, rfl, K1, O1⟩)
  · refine ⟨_, rfl, _, rfl, _, rfl, _, int_of a0 rfl, Cn.mono (c31 (by rw [K0.floor]; exact Nat.le_trans hf K0.size)) ?_⟩
    have hbad : (sideB w c && sideB h r) = false := by rw [h1]; rfl
    rintro v N (⟨h2, rfl, rfl⟩ | ⟨w', c', rfl, rfl, _, _, _, _, h5, A, ca, rfl, K2, O2⟩)
    · exact ⟨_, rfl, _, rfl, _, rfl, fun _ => bad hbad K0, fun h => (by cases h)⟩
    · exact ⟨_, rfl, _, rfl, _, rfl, fun _ => bad hbad (K0.trans K2), fun h => (by cases h)⟩
  have a1 := at_keep a0 K1
  have hf1 : N.floor ≤ N.nb.size := by rw [K1.floor, K0.floor]; exact Nat.le_trans hf (Nat.le_trans K0.size K1.size)
  refine ⟨_, rfl, _, rfl, _, rfl, _, int_of a1 rfl, Cn.mono (c31 hf1) ?_⟩
  rintro v N2 (⟨g1, rfl, rfl⟩ | ⟨h', r', rfl, rfl, g1, g2, g3, g4, g5, B, cb, rfl, K2, O2⟩)
  · exact ⟨_, rfl, _, rfl, _, rfl, fun h => (by cases h), fun _ => bad (by rw [g1, Bool.and_false]) (K0.trans K1)⟩
  refine ⟨_, rfl, _, rfl, _, rfl, fun h => (by cases h), fun _ => w16_1 ⟨fun h => (by cases h), fun _ => ?_⟩⟩
  have hq := pow2c g3
  have er : IntKind.i64.wrap (((2 ^ r' + 1 : Nat) : Int) - 1) = ((2 ^ r' : Nat) : Int) := by rw [i64w (by omega)]; omega
  show A16_2 A (2 ^ c' + 1) ca B (2 ^ r' + 1) cb none 0 0 (IntKind.i64.wrap (((2 ^ r' + 1 : Nat) : Int) - 1)) 0 N2 _
  rw [er]
  have hf2 : N2.floor ≤ N2.nb.size := by rw [K2.floor]; exact Nat.le_trans hf1 K2.size
  have K02 := (K0.trans K1).trans K2
  exact c16_out (M0 := N2) hf2 h2 g2 h3 g3 (fun K => (O1.row.keep K2).keep K) (fun K => O2.row.keep K) (fun A' cap N K hO => .inr ⟨w', h', c', r', rfl, rfl, rfl, rfl, h1, h2, g1, g2, h3, g3, h4, g4, by rw [h5, g5]; rfl, A', cap, rfl, K02.trans K, hO.mono fun i _ hi => Nat.le_trans K02.size hi, by
    have := hO.cap
    rw [Rcs_len] at this; omega⟩) (2 ^ r') 0 none 0 (M := N2) (Nat.zero_add _) (.refl _) Own.empty
end
end Go.Zt

