/- Layer 1: the program's readers, further. -/
import Derived.Test.YtnhfoiijkadajaaZiE
set_option linter.unusedSimpArgs false
set_option linter.unusedVariables false
namespace Go.Zu
open Go Go.Sim Go.Proofs Go.RowKit
section
variable {S : Nat → Prop} {M : Mem} {j : Nat} {b : List Nat} {p : Nat}
theorem c43_loop (h : Rdr S M j b p) (hf : M.floor ≤ j) (h8 : p % 8 = 0) {A : Option Addr} {n c : Nat} (hR : Row M A (U8 (b.drop (p / 8)))) (hn : n = b.length - p / 8) {r0 : Nat × Nat × Nat} :
    ∀ (l : List Nat) (i v : Nat), b.drop (p / 8 + i) = l → i ≤ 4 → v < 128 ^ i → r0 = lebL l i v →
    A43_1 (some ⟨2 * j, 0, none⟩) v A n c n i M (RdR S M j b (.tuple #[.int .u32 (r0.1 : Nat), .int .i64 (r0.2.1 : Nat)]) (p + 8 * r0.2.2))
  | [], i, v, hl, hi, hv, hr => by
    have hlen : b.length ≤ p / 8 + i := List.drop_eq_nil_iff.1 hl
    refine w43_1 ⟨fun h => by omega, fun _ => ?_⟩
    rw [hr, lebL]; exact .same h
  | x :: l, i, v, hl, hi, hv, hr => by
    have hlen : p / 8 + i < b.length := by
      have : (b.drop (p / 8 + i)).length = (x :: l).length := by rw [hl]
      simp at this; omega
    have hbl := h.len
    have hx0 : b[p / 8 + i]? = some x := by
      have : (b.drop (p / 8 + i))[0]? = some x := by rw [hl]; rfl
      simpa using this
    have hl' : b.drop (p / 8 + (i + 1)) = l := by
      rw [← Nat.add_assoc, ← List.drop_drop, hl]; rfl
    have hx : x < 256 := h.byt _ (List.mem_of_getElem? hx0)
    obtain ⟨a, i1, i2⟩ := hR.int1 (n := n) (i := i) (z := (i : Int)) (k := .u8) (x := (x : Nat)) rfl (by omega) (by simp [hx0])
    refine w43_1 ⟨fun _ => ⟨_, i1, _, i2, ?_⟩, fun h => by omega⟩
    have key : ∀ bb : Bool, (bb = true ↔ (i = 4 ∧ x > 15 ∨ i > 0 ∧ x = 0)) → A43_2 (some ⟨2 * j, 0, none⟩) v i x A n c n i bb M (RdR S M j b (.tuple #[.int .u32 (r0.1 : Nat), .int .i64 (r0.2.1 : Nat)]) (p + 8 * r0.2.2)) := by
      intro bb hbb
      refine w43_2 ⟨fun hb => ?_, fun hb => ?_⟩
      · rw [hr, lebL, if_pos (hbb.1 hb)]; exact .same h
      · have hno : ¬ (i = 4 ∧ x > 15 ∨ i > 0 ∧ x = 0) := fun hh => by rw [hbb.2 hh] at hb; cases hb
        have ep : 2 ^ (7 * i) = 128 ^ i := Nat.pow_mul 2 7 i
        have hw : x % 128 * 128 ^ i < 4294967296 ∧ v + x % 128 * 128 ^ i < 128 ^ (i + 1) ∧ v + x % 128 * 128 ^ i < 4294967296 := by
          have : i = 0 ∨ i = 1 ∨ i = 2 ∨ i = 3 ∨ i = 4 := by omega
          rcases this with rfl | rfl | rfl | rfl | rfl <;> simp only [Nat.pow_zero, Nat.reducePow, Nat.reduceAdd] at hv ⊢ <;> omega
        have e1 : IntKind.u8.wrap (((BitVec.ofInt (IntKind.bits .u8) (x : Int) &&& BitVec.ofInt (IntKind.bits .u8) 127).toNat : Nat) : Int) = ((x % 128 : Nat) : Int) := and_mask (k := .u8) rfl (m := 7) (c := 127) rfl (by decide) hx
        have e2 : IntKind.u32.wrap ((x % 128 : Nat) : Int) = (x % 128 : Nat) := u32w (by omega)
        rw [e1, e2]
        have e3 : v ||| x % 128 * 2 ^ (7 * i) = v + x % 128 * 128 ^ i := by
          rw [Nat.or_comm, or_add (k := 7 * i) ⟨x % 128, Nat.mul_comm _ _⟩ (by rw [ep]; exact hv), ep, Nat.add_comm]
        have e4 : IntKind.u32.wrap (((BitVec.ofInt (IntKind.bits .u32) ((v : Nat) : Int) ||| BitVec.ofInt (IntKind.bits .u32) ((x % 128 * 2 ^ (7 * i) : Nat) : Int)).toNat : Nat) : Int) = ((v + x % 128 * 128 ^ i : Nat) : Int) := by
          rw [or_nat (k := .u32) rfl (show v < 2 ^ 32 by have := hw.2.2; omega) (show _ < 2 ^ 32 by rw [ep]; exact hw.1), e3]
        refine ⟨_, shl_nat (k := .u32) (q := 7 * i) rfl (by rw [i64w (by omega)]; omega) (show _ < 2 ^ 32 by rw [ep]; exact hw.1) (show 7 * i ≤ 32 by omega), _, rfl, ?_⟩
        rw [e4]
        refine ⟨fun h1 => ?_, fun h1 => ?_⟩
        · obtain ⟨A', c', g1, g2, g3, _, g4⟩ := h.ex
          have hp := h.pos
          obtain ⟨M', m1, m2, m3, m4⟩ := h.set hf (p' := p + 8 * (i + 1)) (z := IntKind.i64.wrap ((p : Int) + IntKind.i64.wrap (8 * IntKind.i64.wrap ((i : Int) + 1)))) (by omega) (by rw [i64w (x := (i : Int) + 1) (by omega), i64w (x := 8 * ((i : Int) + 1)) (by omega), i64w (by omega)]; omega)
          refine ⟨_, rfl, _, int_of g1 rfl, _, rfl, _, m1, ?_⟩
          rw [hr, lebL, if_neg hno, if_pos (by omega)]
          exact ⟨rfl, m2, m3, m4⟩
        · rw [i64w (by omega), show ((i : Int) + 1) = ((i + 1 : Nat) : Int) by omega]
          rw [lebL, if_neg hno, if_neg (by omega)] at hr
          exact c43_loop h hf h8 hR hn l (i + 1) _ hl' (by omega) hw.2.1 hr
    refine ⟨fun h4 => ⟨fun h15 => key true (by simp; omega), fun h15 => ⟨fun h0 => key _ (by simp; omega), fun h0 => by omega⟩⟩, fun h4 => ⟨fun h0 => key _ (by simp; omega), fun h0 => key false (by simp; omega)⟩⟩
theorem c43 (h : Rdr S M j b p) (hf : M.floor ≤ j) : Cn Try.prog 43 #[PtrB j] M (RdR S M j b (.tuple #[.int .u32 ((rLeb b p).1 : Nat), .int .i64 ((rLeb b p).2.1 : Nat)]) (rLeb b p).2.2) := by
  obtain ⟨A, c, g1, g2, g3, g0, g4⟩ := h.ex
  have hp := h.pos
  have hl := h.len
  refine w43_0 (Cn.eq (c55 h) ⟨_, rfl, fun h => absurd h (by simp), fun _ => ⟨_, rfl, _, int_of g1 rfl, fun h8 => ?_, fun h8 => ?_⟩⟩)
  · rw [show ((p : Int).tmod 8) = ((p % 8 : Nat) : Int) from tmodN p 8] at h8
    have e : rLeb b p = (0, 2, p) := by unfold rLeb; rw [if_pos (by omega)]
    rw [e]; exact .same h
  · rw [show ((p : Int).tmod 8) = ((p % 8 : Nat) : Int) from tmodN p 8] at h8
    have h8' : p % 8 = 0 := by omega
    obtain ⟨A', s1, s2, s3, s4⟩ := slice_row el5 g2 (n := b.length) (c := c) (l := p / 8) (h := b.length) (by simp) g3 g0 (lo := some (.int .i64 (IntKind.i64.wrap ((p : Int).tdiv 8)))) (hi := none)
      (bound_lo (by rw [show ((p : Int).tdiv 8) = ((p / 8 : Nat) : Int) from tdivN p 8, i64w (by omega)]) (by omega)) rfl (by omega) (Nat.le_refl _)
    refine ⟨_, rfl, _, sl_of g1 rfl, _, rfl, _, int_of g1 rfl, _, s1, _, rfl, ?_⟩
    have e : rLeb b p = ((lebL (b.drop (p / 8)) 0 0).1, (lebL (b.drop (p / 8)) 0 0).2.1, p + 8 * (lebL (b.drop (p / 8)) 0 0).2.2) := by unfold rLeb; rw [if_neg (by omega)]
    rw [e]
    have hR : Row M A' (U8 (b.drop (p / 8))) := by
      have e2 : ((U8 b).drop (p / 8 * 1)).take ((b.length - p / 8) * 1) = U8 (b.drop (p / 8)) := by
        rw [Nat.mul_one, Nat.mul_one, List.take_of_length_le (by simp)]; exact (List.map_drop ..).symm
      rw [e2] at s2; exact s2
    exact c43_loop h hf h8' hR rfl (b.drop (p / 8)) 0 0 (by simp) (by decide) (by decide) rfl
end
theorem u8_one (b : List Nat) : (U8 b).all oneCell = true := by rw [List.all_eq_true]; intro v hv; obtain ⟨x, _, rfl⟩ := List.mem_map.1 hv; rfl
theorem c46' {M : Mem} (hf : M.floor ≤ M.nb.size) {A : Option Addr} {n c : Nat} {b : List Nat} (hR : Row M A (U8 b)) (hn : b.length = n) (hb : n ≤ 100000000000) :
    Cn Try.prog 46 #[.slice A n c] M fun v N => ∃ A' c', v = .slice A' n c' ∧ Keep M N ∧ Own (fun j => M.nb.size ≤ j) N 5 A' c' (U8 b) ∧ n ≤ c' := by
  refine w46_0 ⟨fun h => ?_, fun h => ?_⟩
  · have hA : A = none := by cases A with | none => rfl | some a => simp at h
    subst hA
    have hb0 : b = [] := by have := hR.none_nil; simpa using this
    subst hb0
    subst hn
    exact ⟨none, 0, rfl, .refl _, .inl ⟨rfl, rfl, rfl⟩, Nat.le_refl _⟩
  · obtain ⟨A', c', M', g1, g2, g3, g4⟩ := clone_own el5 hR (n := n) (c := c) (by simpa using hn) (u8_one b) hf (by omega)
    exact ⟨_, g1, _, rfl, A', c', rfl, g2, by simpa using g3, g4⟩
theorem c46 {M : Mem} (hf : M.floor ≤ M.nb.size) {A : Option Addr} {n c : Nat} {b : List Nat} (hR : Row M A (U8 b)) (hn : b.length = n) (hb : n ≤ 4294967296) :
    Cn Try.prog 46 #[.slice A n c] M fun v N => ∃ A' c', v = .slice A' n c' ∧ Keep M N ∧ Own (fun j => M.nb.size ≤ j) N 5 A' c' (U8 b) ∧ n ≤ c' := c46' hf hR hn (by omega)
theorem c42 {M : Mem} (hf : M.floor ≤ M.nb.size) {A : Option Addr} {n c : Nat} {b : List Nat} (hR : Row M A (U8 b)) (hn : b.length = n) (hb : n ≤ 4294967296) (hB : Byt b) :
    Cn Try.prog 42 #[.slice A n c] M fun v N => ∃ j, v = PtrB j ∧ Keep M N ∧ M.nb.size ≤ j ∧ j < N.nb.size ∧ Rdr (fun i => M.nb.size ≤ i ∧ i < j) N j b 0 := by
  refine w42_0 (Cn.mono (c46 hf hR hn hb) ?_)
  rintro v N ⟨A', c', rfl, hK, hO, hc⟩
  have hN : Chg (fun j => M.nb.size ≤ j) N (N.new (.cells #[.slice A' n c', .int .i64 0, .bool true] 89)) := .new _ _
  refine ⟨_, rfl, N.nb.size, rfl, Keep.step hK hN fun j hj => hj, hK.size, by rw [Mem.new_size]; omega, ⟨fun h => by omega, hB, by omega, Nat.zero_le _, A', c', ?_, ?_, by omega, hO.none_zero, fun a ha => ?_⟩⟩
  · rw [hn]; exact Mem.new_at _ _
  · exact hO.row.keep (.new _ _)
  · have h1 := hO.in_ a ha
    have h2 : a.block / 2 < N.nb.size := by
      rcases hO with ⟨h, _⟩ | ⟨j, cs, sp, h, _, _, h4, _⟩
      · rw [h] at ha; cases ha
      · rw [h] at ha; obtain rfl := Option.some.inj ha
        show 2 * j / 2 < _
        have := lt_of_at h4; omega
    exact .inr ⟨h1.2, h2⟩
theorem c44 {S : Nat → Prop} {M : Mem} {j : Nat} {b : List Nat} {p : Nat} (h : Rdr S M j b p) (hf : M.floor ≤ M.nb.size) :
    Cn Try.prog 44 #[PtrB j] M fun v N => ∃ A' c', v = .slice A' (b.drop ((p + 7) / 8)).length c' ∧ Keep M N ∧ Own (fun j => M.nb.size ≤ j) N 5 A' c' (U8 (b.drop ((p + 7) / 8))) ∧ (b.drop ((p + 7) / 8)).length ≤ c' := by
  obtain ⟨A, c, g1, g2, g3, g0, g4⟩ := h.ex
  have hp := h.pos
  have hl := h.len
  obtain ⟨A', s1, s2, s3, s4⟩ := slice_row el5 g2 (n := b.length) (c := c) (l := (p + 7) / 8) (h := b.length) (by simp) g3 g0 (lo := some (.int .i64 (IntKind.i64.wrap ((IntKind.i64.wrap ((p : Int) + 7)).tdiv 8)))) (hi := none)
    (bound_lo (by rw [i64w (x := (p : Int) + 7) (by omega), show (((p : Int) + 7).tdiv 8) = (((p + 7) / 8 : Nat) : Int) from tdivN (p + 7) 8, i64w (by omega)]) (by omega)) rfl (by omega) (Nat.le_refl _)
  refine w44_0 (Cn.eq (c55 h) ⟨_, rfl, fun h => absurd h (by simp), fun _ => ⟨_, rfl, _, sl_of g1 rfl, _, rfl, _, int_of g1 rfl, _, s1, _, rfl, ?_⟩⟩)
  have hR : Row M A' (U8 (b.drop ((p + 7) / 8))) := by
    have e2 : ((U8 b).drop ((p + 7) / 8 * 1)).take ((b.length - (p + 7) / 8) * 1) = U8 (b.drop ((p + 7) / 8)) := by
      rw [Nat.mul_one, Nat.mul_one, List.take_of_length_le (by simp)]; exact (List.map_drop ..).symm
    rw [e2] at s2; exact s2
  refine Cn.mono (c46 hf hR (n := b.length - (p + 7) / 8) (by simp) (by omega)) ?_
  rintro v N ⟨A2, c2, rfl, hK, hO, hc⟩
  refine ⟨_, rfl, A2, c2, ?_, hK, hO, by simpa using hc⟩
  simp
end Go.Zu
