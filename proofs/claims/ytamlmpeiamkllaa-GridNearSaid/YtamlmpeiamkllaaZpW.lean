/- Layer 17: law3, GridNear. -/
import Derived.Test.YtamlmpeiamkllaaZpV
set_option linter.unusedSimpArgs false
set_option linter.unusedVariables false
set_option maxRecDepth 100000
namespace Go.Zt
open Go Go.Sim Go.Proofs Go.RowKit

theorem ne24 (a b c d : Int) : binV Try.prog .neq 24 24 (.agg #[.int .i64 a, .int .i64 b]) (.agg #[.int .i64 c, .int .i64 d]) = some (.bool !(decide ((a, b) = (c, d)))) := by
  obtain ⟨z, h1, h2, h3⟩ := binV_eqA (P := Try.prog) (k := 3) (t := 24) (tb := 24) (xs := [.int .i64 a, .int .i64 b]) (ys := [.int .i64 c, .int .i64 d]) (by decide) (by kernel_rfl) (by kernel_rfl) (by kernel_rfl) (by kernel_rfl) (by kernel_rfl) rfl rfl
  have : z = decide ((a, b) = (c, d)) := by
    rw [Bool.eq_iff_iff, h3, decide_eq_true_eq]
    simp
  rw [h2, this]
theorem ne25 (a b c d : Int) : binV Try.prog .neq 25 25 (.agg #[.int .i64 a, .int .i64 b, .int .i64 c, .int .i64 d]) (.agg #[.int .i64 a, .int .i64 b, .int .i64 c, .int .i64 d]) = some (.bool false) := by
  obtain ⟨z, h1, h2, h3⟩ := binV_eqA (P := Try.prog) (k := 4) (t := 25) (tb := 25) (xs := [.int .i64 a, .int .i64 b, .int .i64 c, .int .i64 d]) (ys := [.int .i64 a, .int .i64 b, .int .i64 c, .int .i64 d]) (by decide) (by kernel_rfl) (by kernel_rfl) (by kernel_rfl) (by kernel_rfl) (by kernel_rfl) rfl rfl
  rw [h2, h3.2 rfl]
  rfl
/-- What is told of vectors has shape. -/
def Shp (W : List (Int × Int)) : Prop := W = [] ∨ (∃ a, W = [a]) ∨ ∃ a b, a ≠ b ∧ W = [a, b]
theorem vstep_shp {r : Int} {out : List (Int × Int)} {o : Option Bk} (h : Shp out) : Shp (vstep r out o) := by
  unfold vstep
  split
  · rename_i v _
    split
    · rename_i hc
      rcases h with rfl | ⟨a, rfl⟩ | ⟨a, b, _, rfl⟩
      · exact .inr (.inl ⟨v, rfl⟩)
      · exact .inr (.inr ⟨a, v, fun e => hc.2 (by simp [e]), rfl⟩)
      · exact absurd hc.1 (by simp)
    · exact h
  · exact h
theorem vecsS_shp {L : List Bk} {x y w r : Int} : Shp (vecsS L x y w r) := vstep_shp (vstep_shp (vstep_shp (vstep_shp (.inl rfl))))
theorem Shp.cells {W : List (Int × Int)} (h : Shp W) : ∃ p q u s : Int, outC W = #[.int .i64 p, .int .i64 q, .int .i64 u, .int .i64 s] := by
  rcases h with rfl | ⟨a, rfl⟩ | ⟨a, b, _, rfl⟩
  · exact ⟨0, 0, 0, 0, rfl⟩
  · exact ⟨a.1, a.2, 0, 0, rfl⟩
  · exact ⟨a.1, a.2, b.1, b.2, rfl⟩
section
variable {M : Mem} {Q : Value → Mem → Prop} {g h n0 jw jv : Nat} {nr : List Bk} {sk it r : Int}
set_option maxHeartbeats 2000000 in
theorem e3_8 {i : Nat} {b : Bk} {out : List (Int × Int)} (hi : i < 4) (hb : nr[i]? = some b) (hf : M.floor ≤ M.nb.size) (a0 : M.nb[n0]? = some (.cells (Bks nr).toArray 28)) (aw : M.nb[jw]? = some (.cells (outC out) 25)) (fo : M.floor ≤ jw) (ho : out.length ≤ 2)
    (next : ∀ N, Chg (· = jw) M N → N.nb[jw]? = some (.cells (outC (vstep r out (some b))) 25) → A3_8 (PA n0) (PA g) (PA h) sk it r (PA jw) ((vstep r out (some b)).length : Nat) ((i + 1 : Nat) : Int) N Q) :
    A3_8 (PA n0) (PA g) (PA h) sk it r (PA jw) (out.length : Nat) (i : Int) M Q := by
  have lw := lt_of_at aw
  have vst : vstep r out (some b) = match vecB b r with | some v => if out.length < 2 ∧ v ∉ out then out ++ [v] else out | none => out := rfl
  have k17 : ∀ {N : Mem}, Chg (· = jw) M N → N.nb[jw]? = some (.cells (outC (vstep r out (some b))) 25) → A3_17 (PA n0) (PA g) (PA h) sk it r (PA jw) ((vstep r out (some b)).length : Nat) (i : Int) N Q := by
    intro N C a
    refine w3_17 ?_
    rw [i64w (x := (i : Int) + 1) (by omega)]
    exact next N C a
  have k14 : ∀ (ju : Nat) (u : Int × Int) (z : Bool) (N : Mem), Keep M N → N.nb[ju]? = some (.cells #[.int .i64 u.1, .int .i64 u.2] 24) → vstep r out (some b) = (if z then out ++ [u] else out) → (z = true → out.length < 2) → A3_14 (PA n0) (PA g) (PA h) sk it r (PA jw) (out.length : Nat) (i : Int) (PA ju) z N Q := by
    intro ju u z N K au hv hz
    refine w3_14 ?_
    have a := at_keep aw K
    cases z with
    | false =>
      have := k17 (N := N) (K.mono fun _ _ h => h.elim) (by rw [hv]; exact a)
      rw [hv] at this
      exact cF rfl this
    | true =>
      have h2 := hz rfl
      have f6 : N.floor ≤ jw := by rw [K.floor]; exact fo
      obtain ⟨M7, p7, C7, z7, a7⟩ := put1 (2 * out.length) (.int .i64 u.1) a f6 (by rw [outC_size]; omega) rfl
      obtain ⟨M8, p8, C8, z8, a8⟩ := put1 (2 * out.length + 1) (.int .i64 u.2) a7 (by rw [C7.floor]; exact f6) (by rw [Array.size_setIfInBounds, outC_size]; omega) rfl
      rw [outC_set h2] at a8
      have hix : idxA (PA jw) 2 2 ((out.length : Nat) : Int) = some ⟨2 * jw, 2 * out.length, none⟩ := by
        unfold idxA
        rw [if_pos (by omega)]
        simp
        try omega
      have := k17 (N := M8) (((K.mono fun _ _ h => h.elim).trans C7).trans C8) (by rw [hv]; exact a8)
      rw [hv] at this
      refine cT rfl (ad rfl (on (int_of (i := 0) au rfl) (on (int_of (i := 0 + 1) au rfl) (ix hix ⟨rfl, pt p7 (pt p8 ?_)⟩))))
      rw [i64w (x := ((out.length : Nat) : Int) + 1) (by omega)]
      have h9 : A3_17 (PA n0) (PA g) (PA h) sk it r (PA jw) (((out.length : Nat) : Int) + 1) (i : Int) M8 Q := by simpa using this
      exact h9
  have k11 : ∀ (ju : Nat) (u : Int × Int) (z : Bool) (N : Mem), Keep M N → N.nb[ju]? = some (.cells #[.int .i64 u.1, .int .i64 u.2] 24) → vecB b r = (if z then some u else none) → A3_11 (PA n0) (PA g) (PA h) sk it r (PA jw) (out.length : Nat) (i : Int) (PA ju) z N Q := by
    intro ju u z N K au hv
    refine w3_11 ?_
    cases z with
    | false => exact cF rfl (k14 ju u false N K au (by rw [vst, hv]; rfl) (by intro h; cases h))
    | true =>
      have hs : vstep r out (some b) = if out.length < 2 ∧ u ∉ out then out ++ [u] else out := by rw [vst, hv]; rfl
      refine cT rfl ?_
      by_cases h2 : out.length < 2
      · refine cT (decide_eq_true (by omega)) ?_
        match out, h2, aw, hs, k14 with
        | [], _, _, hs, k14 => exact cT rfl (k14 ju u true N K au (by rw [hs, if_pos ⟨by decide, by simp⟩]; rfl) (by simp))
        | [w], _, aw, hs, k14 =>
          have a := at_keep aw K
          refine cF rfl (ad rfl (on (int_of (i := 0) au rfl) (on (int_of (i := 0 + 1) au rfl) (ix (x := ⟨2 * jw, 0, none⟩) (by kernel_rfl) (on (int_of (i := 0) a rfl) (on (int_of (i := 0 + 1) a rfl) (pu (ne24 ..) (ty rfl (k14 ju u _ N K au ?_ (by simp))))))))))
          rw [hs]
          by_cases e : u = w
          · rw [if_neg (by simp [e]), if_neg (by simp [e])]
          · rw [if_pos ⟨by simp, by simp [e]⟩, if_pos (by simp only [Bool.not_eq_true', decide_eq_false_iff_not]; exact e)]
      · exact cF (decide_eq_false (by omega)) (k14 ju u false N K au (by rw [hs, if_neg fun q => h2 q.1]; rfl) (by intro h; cases h))
  refine w3_8 (cT (decide_eq_true (by omega)) (ixld (row_at a0) rfl hi hb rfl (stN (cs := b.cs) hf rfl rfl rfl fun M1 K1 z1 b1 => ?_)))
  refine ix (x := ⟨2 * M.nb.size, 17, none⟩) (by kernel_rfl) (on (int_of (i := 17) b1 rfl) (on (int_of (i := 17 + 1) b1 rfl) (stN (cs := #[.int .i64 b.v0, .int .i64 b.v1]) (fb hf K1) rfl rfl rfl fun M2 K2 z2 u2 => ?_)))
  have b2 := at_keep b1 K2
  have T2 := K1.trans K2
  have hvb : vecB b r = if b.it = false then none else if b.r0 = r then some (b.v0, b.v1) else if b.cp = true ∧ b.r1 = r then some (b.v2, b.v3) else none := rfl
  refine ix (x := ⟨2 * M.nb.size, 14, none⟩) (by kernel_rfl) (on (int_of (i := 14) b2 rfl) ?_)
  by_cases h0 : b.r0 = r
  · have e0 : (b.r0 != r) = false := by simp [h0]
    have e1 : (b.r0 == r) = true := by simp [h0]
    refine cF e0 (on (bool_of (i := 0 + 5) b2 rfl) ?_)
    cases hit : b.it with
    | false => exact cF rfl (k11 _ (b.v0, b.v1) false _ T2 u2 (by rw [hvb, if_pos hit]; rfl))
    | true => exact cT rfl (ix (x := ⟨2 * M.nb.size, 14, none⟩) (by kernel_rfl) (on (int_of (i := 14) b2 rfl) (cT e1 (k11 _ (b.v0, b.v1) true _ T2 u2 (by rw [hvb, if_neg (by simp [hit]), if_pos h0]; rfl)))))
  · have e0 : (b.r0 != r) = true := by simp [h0]
    have e1 : (b.r0 == r) = false := by simp [h0]
    refine cT e0 (ix (x := ⟨2 * M.nb.size, 19, none⟩) (by kernel_rfl) (on (int_of (i := 19) b2 rfl) (on (int_of (i := 19 + 1) b2 rfl) (stA (cs := #[.int .i64 b.v2, .int .i64 b.v3]) u2 (by rw [T2.floor]; have := K1.size; omega) rfl rfl rfl fun M3 C3 z3 u3 => ?_))))
    have b3 := at_chg b2 C3 (by omega)
    have T3 : Keep M M3 := Keep.step T2 C3 fun i hi => by omega
    refine on (bool_of (i := 0 + 5) b3 rfl) ?_
    cases hit : b.it with
    | false => exact cF rfl (k11 _ (b.v2, b.v3) false _ T3 u3 (by rw [hvb, if_pos hit]; rfl))
    | true =>
      refine cT rfl (ix (x := ⟨2 * M.nb.size, 14, none⟩) (by kernel_rfl) (on (int_of (i := 14) b3 rfl) (cF e1 (on (bool_of (i := 0 + 13) b3 rfl) ?_))))
      cases hcp : b.cp with
      | false => exact cF rfl (k11 _ (b.v2, b.v3) false _ T3 u3 (by rw [hvb, if_neg (by simp [hit]), if_neg h0, if_neg (by simp [hcp])]; rfl))
      | true =>
        refine cT rfl (ix (x := ⟨2 * M.nb.size, 15, none⟩) (by kernel_rfl) (on (int_of (i := 15) b3 rfl) (k11 _ (b.v2, b.v3) _ _ T3 u3 ?_)))
        rw [hvb, if_neg (by simp [hit]), if_neg h0]
        by_cases h1 : b.r1 = r
        · rw [if_pos ⟨hcp, h1⟩, if_pos (by simp [h1])]
        · rw [if_neg (fun q => h1 q.2), if_neg (by simp [h1])]
theorem e3_24 {W : List (Int × Int)} (hw : Shp W) (hr : 0 ≤ r ∧ r < 3) (a : M.nb[jv]? = some (.cells (outC W) 25)) (next : A3_6 (PA n0) (PA g) (PA h) sk it (r + 1) M Q) :
    A3_24 (PA n0) (PA g) (PA h) sk it r (PA jv) (W.length : Nat) false M Q := by
  have k27 : A3_27 (PA n0) (PA g) (PA h) sk it r false M Q := by
    refine w3_27 (cF rfl ?_)
    rw [i64w (x := r + 1) (by omega)]
    exact next
  have k2 : ∀ x : Int × Int, x = (0, 0) → (!decide (x = ((0 : Int), (0 : Int)))) = false := fun x e => by rw [e]; rfl
  rcases hw with rfl | ⟨v, rfl⟩ | ⟨v, w, hne, rfl⟩
  · exact w3_24 (cF rfl (cF rfl (w3_25 (cF rfl (cT rfl (ix (x := ⟨2 * jv, 2, none⟩) (by kernel_rfl) (on (int_of (i := 2) a rfl) (on (int_of (i := 2 + 1) a rfl) (pu (ne24 ..) (ty rfl (w3_26 (cF rfl (cT rfl (ix (x := ⟨2 * jv, 0, none⟩) (by kernel_rfl) (on (int_of (i := 0) a rfl) (on (int_of (i := 0 + 1) a rfl) (pu (ne24 ..) (ty rfl k27))))))))))))))))))
  · exact w3_24 (cF rfl (cF rfl (w3_25 (cF rfl (cT rfl (ix (x := ⟨2 * jv, 2, none⟩) (by kernel_rfl) (on (int_of (i := 2) a rfl) (on (int_of (i := 2 + 1) a rfl) (pu (ne24 ..) (ty rfl (w3_26 (cF rfl (cF rfl k27)))))))))))))
  · refine w3_24 (cF rfl (cT rfl (ix (x := ⟨2 * jv, 0, none⟩) (by kernel_rfl) (on (int_of (i := 0) a rfl) (on (int_of (i := 0 + 1) a rfl) (ix (x := ⟨2 * jv, 2, none⟩) (by kernel_rfl) (on (int_of (i := 2) a rfl) (on (int_of (i := 2 + 1) a rfl) (pu (eq24 ..) (ty rfl ?_))))))))))
    rw [show decide ((v.1, v.2) = (w.1, w.2)) = false from decide_eq_false hne]
    exact w3_25 (cF rfl (cF rfl (w3_26 (cF rfl (cF rfl k27)))))
end
end Go.Zt
