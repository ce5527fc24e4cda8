/- What ScanOrders comes to. -/
import Derived.Test.YtfhlpnpghaombaaZtC
set_option linter.unusedSimpArgs false
set_option linter.unusedVariables false
namespace Go.Zt
open Go Go.Sim Go.Proofs Go.RowKit

theorem c14 (M : Mem) (hf : M.floor ≤ M.nb.size) : Cn Try.prog 14 #[] M fun v N => v = .bool true ∧ Keep M N := by
  refine w14_0 (Cn.mono (c9 4 M hf) ?_)
  rintro v N ⟨A, c, rfl, hK, hO⟩
  refine ⟨_, rfl, _, rfl, _, rfl, Cn.mono (c12 1024 N) ?_⟩
  rintro v N' ⟨rfl, rfl⟩
  have hE : ordE 4 = 0 := by decide
  have hC : clsV 1024 = .tuple #[.int .i64 10, .int .i64 9, .int .i64 511, .int .i64 0] := by
    have : cls 1024 = (10, 9, 511, 0) := by decide
    rw [clsV, this]
  rw [hC]
  refine ⟨_, rfl, _, rfl, _, rfl, _, rfl, _, rfl, fun _ => ⟨fun _ => ?_, fun h => absurd rfl h⟩, fun h => absurd hE h⟩
  have hL : ordL 4 = [0, 1, 4, 2, 5, 8, 3, 6, 9, 12, 7, 10, 13, 11, 14, 15] := by decide
  have hK2 : Keep N' (N'.new (.cells (I64 [0, 1, 4, 2, 5, 8, 3, 6, 9, 12, 7, 10, 13, 11, 14, 15]).toArray 3)) := .new _ _
  refine Cn.mono (c11 (l := ordL 4) (l' := [0, 1, 4, 2, 5, 8, 3, 6, 9, 12, 7, 10, 13, 11, 14, 15]) (hO.row.keep hK2) (Row.new N' 3 (I64 _)) rfl rfl (by show (ordL 4).length ≤ _; rw [hL]; decide)) ?_
  rintro v N2 ⟨rfl, rfl⟩
  rw [hL]
  refine ⟨_, rfl, fun _ => ⟨fun _ => ⟨fun _ => ⟨rfl, hK.trans hK2⟩, fun h => absurd rfl h⟩, fun h => absurd rfl h⟩, fun h => by cases h⟩

/-- Numbers are written over. -/
theorem c3_loop {x1 : Int} {A5 A7 A9 : Option Addr} {c5 n7 c7 n9 c9 : Nat} {S : Nat → Prop} {Q : Value → Mem → Prop} {M0 : Mem} (hS : ∀ j, S j → M0.floor ≤ j) (hb : ∀ M', Chg S M0 M' → ∀ i : Int, ∀ n5 : Nat, (n5 : Int) ≤ i → A3_2 x1 A5 n5 c5 A7 n7 c7 A9 n9 c9 i M' Q) :
    ∀ (k i : Nat) {M : Mem} {L : List Value}, i + k = L.length → L.length ≤ 1000000 → Chg S M0 M → Own S M 3 A5 c5 L → A3_2 x1 A5 L.length c5 A7 n7 c7 A9 n9 c9 i M Q
  | 0, i, M, L, hi, hl, hC, hO => hb M hC i L.length (by omega)
  | k + 1, i, M, L, hi, hl, hC, hO => by
    refine w3_2 ⟨fun _ => ?_, fun h => by omega⟩
    refine Own.wr elem hO (by rw [hC.floor]; exact hS) rfl (by omega) (by omega) rfl fun M' hC' _ hO' => ?_
    rw [wr _ (by omega), show ((i : Int) + 1) = ((i + 1 : Nat) : Int) by omega]
    have := c3_loop hS hb k (i + 1) (L := L.set (i : Int).toNat (.int .i64 (-1))) (by simp; omega) (by simpa using hl) (hC.trans hC') hO'
    simpa using this
theorem c3 (x y : Int) (M : Mem) (hf : M.floor ≤ M.nb.size) : Cn Try.prog 3 #[.int .i64 x, .int .i64 y] M fun v N => v = .bool true ∧ Keep M N := by
  refine w3_0 (Cn.mono (c9 x M hf) ?_)
  rintro v M1 ⟨A, c, rfl, hK1, hO1⟩
  have hf1 : M1.floor ≤ M1.nb.size := by rw [hK1.floor]; exact Nat.le_trans hf hK1.size
  refine ⟨_, rfl, _, rfl, _, rfl, Cn.mono (c9 x M1 hf1) ?_⟩
  rintro v M2 ⟨B, d, rfl, hK2, hO2⟩
  have hf2 : M2.floor ≤ M2.nb.size := by rw [hK2.floor]; exact Nat.le_trans hf1 hK2.size
  refine ⟨_, rfl, _, rfl, _, rfl, Cn.mono (c10 x M2 hf2) ?_⟩
  rintro v M3 ⟨W, g, rfl, hK3, hO3⟩
  refine ⟨_, rfl, _, rfl, _, rfl, fun h => absurd rfl h, fun _ => ?_⟩
  -- the first row lies below the second one
  have hA : Own (fun j => M.nb.size ≤ j ∧ j < M1.nb.size) M3 3 A c (I64 (ordL x)) := by
    have a1 : Own (fun j => M.nb.size ≤ j ∧ j < M1.nb.size) M1 3 A c (I64 (ordL x)) := hO1.mono fun j hj h => ⟨h, hj⟩
    exact (a1.chg hK2 fun _ _ _ h => h).chg hK3 fun _ _ _ h => h
  have hB : Own (fun j => M1.nb.size ≤ j) M3 3 B d (I64 (ordL x)) := hO2.chg hK3 fun _ _ _ h => h
  have hW : Own (fun j => M1.nb.size ≤ j) M3 3 W g (I64 (ordL x)) := hO3.mono fun j _ h => Nat.le_trans hK2.size h
  have hlen : (ordL x).length ≤ 100000 := by
    have key : ∀ n k s, (outer n s k).length ≤ k * n := by
      intro n k
      induction k with
      | zero => intro s; simp [outer]
      | succ k ih =>
        intro s
        have h1 := ih (s + 1)
        have h2 := inner_len n s n 0
        simp only [outer, List.length_append, Nat.succ_mul]; omega
    have hn : (side x).toNat ≤ 32 := by have := side_cases x; omega
    have h1 := key (side x).toNat (2 * (side x).toNat - 1) 0
    have h2 : (2 * (side x).toNat - 1) * (side x).toNat ≤ 64 * 32 := Nat.mul_le_mul (by omega) hn
    simp only [ordL, ord]; omega
  refine Cn.mono (c11 hA.row hW.row rfl rfl (by show (ordL x).length ≤ _; omega)) ?_
  rintro v N ⟨rfl, rfl⟩
  refine ⟨_, rfl, w3_1 ⟨fun h => by simp at h, fun _ => ?_⟩⟩
  have hK : Keep M N := (hK1.trans hK2).trans hK3
  have := c3_loop (x1 := y) (A5 := A) (A7 := B) (A9 := W) (c5 := c) (n7 := (ordL x).length) (c7 := d) (n9 := (ordL x).length) (c9 := g) (S := fun j => M.nb.size ≤ j ∧ j < M1.nb.size) (M0 := N) (Q := fun v N => v = .bool true ∧ Keep M N)
    (fun j hj => by rw [hK.floor]; exact Nat.le_trans hf hj.1) (fun M' hC i n5 hi => ?_) (ordL x).length 0 (L := I64 (ordL x)) (by simp) (by simp; omega) (.refl _) hA
  · simpa using this
  · refine w3_2 ⟨fun h => by omega, fun _ => Cn.mono (c12 y M') ?_⟩
    rintro v N' ⟨rfl, rfl⟩
    refine ⟨_, rfl, _, rfl, _, rfl, _, rfl, _, rfl, Cn.mono (c13 y N') ?_⟩
    rintro v N2 ⟨rfl, rfl⟩
    refine ⟨_, rfl, _, rfl, _, rfl, _, rfl, _, rfl, ?_⟩
    have hB' := hB.chg hC fun j _ h1 h2 => by omega
    have hW' := hW.chg hC fun j _ h1 h2 => by omega
    have hKM : Keep M N2 := Keep.step hK hC fun j hj => hj.1
    refine Cn.mono (c11 hB'.row hW'.row rfl rfl (by show (ordL x).length ≤ _; omega)) ?_
    rintro v N3 ⟨rfl, rfl⟩
    refine ⟨_, rfl, fun _ => ⟨fun _ => ⟨fun _ => ⟨fun _ => ⟨fun _ => Cn.mono (c14 N3 (by rw [hKM.floor]; exact Nat.le_trans hf hKM.size)) ?_, fun h => absurd rfl h⟩, fun h => absurd rfl h⟩, fun h => absurd rfl h⟩, fun h => absurd rfl h⟩, fun h => by simp at h⟩
    rintro v N4 ⟨rfl, hK4⟩
    exact ⟨_, rfl, rfl, hKM.trans hK4⟩
end Go.Zt
