/- Layer 17: law3, GridNear. -/
import Derived.Test.YtamlmpeiamkllaaZpW
import Derived.Test.YtamlmpeiamkllaaZpT
import Derived.Test.YtamlmpeiamkllaaZpO
set_option linter.unusedSimpArgs false
set_option linter.unusedVariables false
set_option maxRecDepth 100000
namespace Go.Zt
open Go Go.Sim Go.Proofs Go.RowKit

theorem w24 {L : List Bk} {r : Int} (hr : 0 ≤ r ∧ r < 3) : vecsV L t64 24 24 8 r = .tuple #[.agg (outC (vecsS L 24 24 8 r)), .int .i64 ((vecsS L 24 24 8 r).length : Nat), .int .i64 0] := by
  have : vecsOk t64 24 24 8 r = true := by
    unfold vecsOk
    rw [decide_eq_true (show (8 : Int) ≤ 8 ∧ (8 : Int) ≤ 64 ∧ (8 : Int) % 8 = 0 ∧ 0 ≤ r ∧ r ≤ 2 by omega)]
    rfl
  unfold vecsV
  rw [this]
  rfl
theorem bne_same (x : Int) : (x != x) = false := by simp
section
variable {M : Mem} {Q : Value → Mem → Prop} {j1 m1 j2 m2 n0 : Nat} {nr L1 L2 : List Bk} {sk it : Nat} {r : Int} {V1 V2 : Nat → Prop}
def wants (nr : List Bk) (r : Int) : List (Int × Int) := nr.foldl (fun out b => vstep r out (some b)) []
set_option maxHeartbeats 2000000 in
/-- One frame is asked of. -/
theorem e3_6 {b0 b1 b2 b3 : Bk} (hn : nr = [b0, b1, b2, b3]) (hr : 0 ≤ r ∧ r < 3) (hf : M.floor ≤ M.nb.size) (G1 : Gr V1 M j1 m1 t64 L1) (G2 : Gr V2 M j2 m2 t64 L2) (a0 : M.nb[n0]? = some (.cells (Bks nr).toArray 28))
    (h1 : vecsS L1 24 24 8 r = wants nr r) (h2 : vecsS L2 24 24 8 r = wants nr r)
    (next : ∀ N, Keep M N → A3_6 (PA n0) (PA j1) (PA j2) (sk : Int) (it : Int) (r + 1) N Q) :
    A3_6 (PA n0) (PA j1) (PA j2) (sk : Int) (it : Int) r M Q := by
  refine w3_6 (cT (decide_eq_true hr.2) ?_)
  have aw := Mem.new_at M (.cells #[.int .i64 0, .int .i64 0, .int .i64 0, .int .i64 0] 25)
  have K0 : Keep M (M.new (.cells #[.int .i64 0, .int .i64 0, .int .i64 0, .int .i64 0] 25)) := .new _ _
  generalize M.new (.cells #[.int .i64 0, .int .i64 0, .int .i64 0, .int .i64 0] 25) = M0 at aw K0 ⊢
  have f0 := fb hf K0
  have l0 := lt_of_at a0
  have flw : M0.floor ≤ M.nb.size := by rw [K0.floor]; exact hf
  have st : ∀ {N : Mem}, Chg (· = M.nb.size) M0 N → Keep M N ∧ N.floor ≤ N.nb.size ∧ N.floor ≤ M.nb.size ∧ N.nb[n0]? = some (.cells (Bks nr).toArray 28) := fun C => by
    have K := Keep.step K0 C fun i hi => by omega
    exact ⟨K, fb hf K, by rw [K.floor]; exact hf, at_keep a0 K⟩
  have sh : ∀ k, Shp ((nr.take k).foldl (fun out b => vstep r out (some b)) []) := fun k => by
    generalize nr.take k = l
    have : ∀ (l : List Bk) (o : List (Int × Int)), Shp o → Shp (l.foldl (fun out b => vstep r out (some b)) o) := by
      intro l
      induction l with
      | nil => exact fun o h => h
      | cons x l ih => exact fun o h => ih _ (vstep_shp h)
    exact this l [] (.inl rfl)
  have le2 : ∀ {o : List (Int × Int)}, Shp o → o.length ≤ 2 := fun h => by
    rcases h with rfl | ⟨a, rfl⟩ | ⟨a, b, _, rfl⟩ <;> simp
  have s0 : Shp ([] : List (Int × Int)) := .inl rfl
  have s1 := vstep_shp (r := r) (o := some b0) s0
  have s2 := vstep_shp (r := r) (o := some b1) s1
  have s3 := vstep_shp (r := r) (o := some b2) s2
  have s4 := vstep_shp (r := r) (o := some b3) s3
  refine e3_8 (i := 0) (out := []) (b := b0) (by decide) (by rw [hn]; rfl) f0 (at_keep a0 K0) aw flw (by decide) fun N1 C1 a1 => ?_
  obtain ⟨T1, f1, g1, o1⟩ := st C1
  refine e3_8 (i := 1) (b := b1) (by decide) (by rw [hn]; rfl) f1 o1 a1 g1 (le2 s1) fun N2 C2 a2 => ?_
  have C2 := C1.trans C2
  obtain ⟨T2, f2, g2, o2⟩ := st C2
  refine e3_8 (i := 2) (b := b2) (by decide) (by rw [hn]; rfl) f2 o2 a2 g2 (le2 s2) fun N3 C3 a3 => ?_
  have C3 := C2.trans C3
  obtain ⟨T3, f3, g3, o3⟩ := st C3
  refine e3_8 (i := 3) (b := b3) (by decide) (by rw [hn]; rfl) f3 o3 a3 g3 (le2 s3) fun N4 C4 a4 => ?_
  have C4 := C3.trans C4
  obtain ⟨T4, f4, g4, o4⟩ := st C4
  have hw : vstep r (vstep r (vstep r (vstep r [] (some b0)) (some b1)) (some b2)) (some b3) = wants nr r := by rw [hn]; rfl
  rw [hw] at a4 s4 ⊢
  generalize wants nr r = W at *
  obtain ⟨p, q, u, s, hc⟩ := s4.cells
  have hV1 : vecsV L1 t64 24 24 8 r = .tuple #[.agg #[.int .i64 p, .int .i64 q, .int .i64 u, .int .i64 s], .int .i64 (W.length : Nat), .int .i64 0] := by rw [w24 hr, h1, hc]
  have hV2 : vecsV L2 t64 24 24 8 r = .tuple #[.agg #[.int .i64 p, .int .i64 q, .int .i64 u, .int .i64 s], .int .i64 (W.length : Nat), .int .i64 0] := by rw [w24 hr, h2, hc]
  have R : i64R 24 ∧ i64R 24 ∧ i64R 8 ∧ i64R r := by unfold i64R; omega
  have a4' := a4
  rw [hc] at a4'
  refine w3_8 (cF rfl (Cn.mono (c10 f4 (G1.keep T4) R) ?_))
  rw [hV1]
  rintro _ N5 ⟨rfl, K5⟩
  have T5 := T4.trans K5
  refine ty rfl (ty rfl (ty rfl (ty rfl (ty rfl (ty rfl (ty rfl (ty rfl (stN (cs := #[.int .i64 p, .int .i64 q, .int .i64 u, .int .i64 s]) (fb hf T5) rfl rfl rfl fun M6 K6 z6 b6 => ?_))))))))
  have T6 := T5.trans K6
  have a6 := at_keep (at_keep a4' K5) K6
  refine on (int_of (i := 0) b6 rfl) (on (int_of (i := 0 + 1) b6 rfl) (on (int_of (i := 0 + 2) b6 rfl) (on (int_of (i := 0 + 3) b6 rfl) (ad rfl (on (int_of (i := 0) a6 rfl) (on (int_of (i := 0 + 1) a6 rfl) (on (int_of (i := 0 + 2) a6 rfl) (on (int_of (i := 0 + 3) a6 rfl) (pu (ne25 ..) (ty rfl (cF rfl ?_)))))))))))
  rw [bne_same]
  refine w3_12 (cF rfl (Cn.mono (c10 (fb hf T6) (G1.keep T6) R) ?_))
  rw [hV1]
  rintro _ N7 ⟨rfl, K7⟩
  have T7 := T6.trans K7
  refine ty rfl (ty rfl (ty rfl (ty rfl (ty rfl (ty rfl (ty rfl (ty rfl (stN (cs := #[.int .i64 p, .int .i64 q, .int .i64 u, .int .i64 s]) (fb hf T7) rfl rfl rfl fun M8 K8 z8 b8 => ?_))))))))
  have T8 := T7.trans K8
  refine Cn.mono (c10 (fb hf T8) (G2.keep T8) R) ?_
  rw [hV2]
  rintro _ N9 ⟨rfl, K9⟩
  have T9 := T8.trans K9
  refine ty rfl (ty rfl (ty rfl (ty rfl (ty rfl (ty rfl (ty rfl (ty rfl (stN (cs := #[.int .i64 p, .int .i64 q, .int .i64 u, .int .i64 s]) (fb hf T9) rfl rfl rfl fun M10 K10 z10 b10 => ?_))))))))
  have T10 := T9.trans K10
  have b8' := at_keep (at_keep b8 K9) K10
  refine on (int_of (i := 0) b8' rfl) (on (int_of (i := 0 + 1) b8' rfl) (on (int_of (i := 0 + 2) b8' rfl) (on (int_of (i := 0 + 3) b8' rfl) (on (int_of (i := 0) b10 rfl) (on (int_of (i := 0 + 1) b10 rfl) (on (int_of (i := 0 + 2) b10 rfl) (on (int_of (i := 0 + 3) b10 rfl) (pu (ne25 ..) (ty rfl (cF rfl ?_))))))))))
  rw [bne_same]
  have l2 := le2 s4
  refine w3_15 (cF rfl (w3_18 (cF rfl (w3_20 (cF rfl ?_)))))
  rw [decide_eq_false (show ¬ ((W.length : Nat) : Int) < 0 by omega)]
  refine w3_22 (cF rfl ?_)
  rw [decide_eq_false (show ¬ ((W.length : Nat) : Int) > 2 by omega)]
  rw [← hc] at b8'
  exact e3_24 s4 hr b8' (next _ T10)
/-- All frames were asked of. -/
theorem e3_6' (hf : M.floor ≤ M.nb.size) (G1 : Gr V1 M j1 m1 t64 L1) (G2 : Gr V2 M j2 m2 t64 L2)
    (h1 : cntS Bk.sk L1 24 24 = sk) (h2 : cntS Bk.sk L2 24 24 = sk) (h3 : cntS Bk.it L1 24 24 = it) (h4 : cntS Bk.it L2 24 24 = it) :
    A3_6 (PA n0) (PA j1) (PA j2) (sk : Int) (it : Int) 3 M fun v _ => v = .bool true := by
  have R : i64R 24 := by unfold i64R; omega
  have c : ∀ (f : Bk → Bool) (L : List Bk), cntV f L t64 24 24 = .tuple #[.int .i64 (cntS f L 24 24 : Nat), .int .i64 0] := fun f L => by
    unfold cntV
    rw [show cntOk t64 24 24 = true from rfl]
    rfl
  refine w3_6 (cF rfl (Cn.mono (c11 hf G1 R R) ?_))
  rw [c, h1]
  rintro _ N1 ⟨rfl, K1⟩
  refine ty rfl (ty rfl (ty rfl (Cn.mono (c11 (fb hf K1) (G2.keep K1) R R) ?_)))
  rw [c, h2]
  rintro _ N2 ⟨rfl, K2⟩
  have T2 := K1.trans K2
  refine ty rfl (ty rfl (ty rfl (Cn.mono (c12 (fb hf T2) (G1.keep T2) R R) ?_)))
  rw [c, h3]
  rintro _ N3 ⟨rfl, K3⟩
  have T3 := T2.trans K3
  refine ty rfl (ty rfl (ty rfl (Cn.mono (c12 (fb hf T3) (G2.keep T3) R R) ?_)))
  rw [c, h4]
  rintro _ N4 ⟨rfl, K4⟩
  refine ty rfl (ty rfl (ty rfl (cT (by simp) ?_)))
  have e : ∀ x : Int, (x == x) = true := fun x => by simp
  rw [e]
  refine w3_9 (cT rfl ?_)
  rw [e]
  refine w3_13 (cT rfl ?_)
  rw [e]
  exact w3_16 (cT rfl (w3_19 (cT rfl (w3_21 (cT rfl (w3_23 (cT rfl rfl)))))))
end
section
variable {M : Mem} {x2 : Bool}
theorem Gr.none {N : Mem} {j jm : Nat} (g : GrAt N j t64 none 0 0 jm) (gm : N.nb[jm]? = some (.map #[] 0)) (h : jm ≠ j) : Gr (fun _ => False) N j jm t64 [] :=
  ⟨by kernel_rfl, ⟨id, id, h.symm⟩, fun b hb => by simp at hb, by simp, Option.none, 0, #[], 0, g, .inl ⟨rfl, rfl, rfl⟩, Nat.le_refl _, gm, by first | exact trivial | simp [entL, EntR]⟩
set_option maxHeartbeats 4000000 in
theorem c3 {b0 b1 b2 b3 bf : Bk} (hf : M.floor ≤ M.nb.size) : Cn Try.prog 3 #[.agg (Bks [b0, b1, b2, b3]).toArray, .agg bf.cs, .bool x2] M fun v _ => v = .bool true := by
  have a0 := Mem.new_at M (.cells (Bks [b0, b1, b2, b3]).toArray 28)
  have K0 : Keep M (M.new (.cells (Bks [b0, b1, b2, b3]).toArray 28)) := .new _ _
  have z0 := Mem.new_size M (.cells (Bks [b0, b1, b2, b3]).toArray 28)
  refine w3_0 ?_
  generalize M.new (.cells (Bks [b0, b1, b2, b3]).toArray 28) = M0 at a0 K0 z0 ⊢
  have a1 := Mem.new_at M0 (.cells bf.cs 27)
  have K1 : Keep M0 (M0.new (.cells bf.cs 27)) := .new _ _
  have z1 := Mem.new_size M0 (.cells bf.cs 27)
  generalize M0.new (.cells bf.cs 27) = M1 at a1 K1 z1 ⊢
  have T1 := K0.trans K1
  refine Cn.known rfl (ty rfl (cF rfl ?_))
  have R : i64R t64.x ∧ i64R t64.y ∧ i64R t64.w ∧ i64R t64.h := by refine ⟨?_, ?_, ?_, ?_⟩ <;> · show i64R _; unfold i64R; decide
  refine Cn.mono (c8 (t := t64) (fb hf T1) R) ?_
  rintro v N1 ⟨KA, h⟩
  rw [if_pos (show t64.may = true by kernel_rfl)] at h
  obtain ⟨j1, m1, q1, q2, q3, rfl, g1, gm1⟩ := h
  refine ty rfl (ty rfl (ty rfl ?_))
  have TA := T1.trans KA
  refine Cn.mono (c8 (t := t64) (fb hf TA) R) ?_
  rintro v N2 ⟨KB, h⟩
  rw [if_pos (show t64.may = true by kernel_rfl)] at h
  obtain ⟨j2, m2, q4, q5, q6, rfl, g2, gm2⟩ := h
  have TB := TA.trans KB
  refine ty rfl (ty rfl (ty rfl (cF rfl (w3_1 (cF rfl ?_)))))
  have g1 := at_keep g1 KB
  have gm1 := at_keep gm1 KB
  refine stN (cs := #[.int .i64 16, .int .i64 24, .int .i64 32, .int .i64 16]) (fb hf TB) rfl rfl rfl fun M3 K3 z3 ax => ?_
  have T3 := TB.trans K3
  refine stN (cs := #[.int .i64 24, .int .i64 16, .int .i64 16, .int .i64 16]) (fb hf T3) rfl rfl rfl fun M4 K4 z4 ay => ?_
  have T4 := T3.trans K4
  have ax := at_keep ax K4
  have a04 := at_keep a0 (((KA.trans KB).trans K3).trans K4 |> K1.trans)
  have a14 := at_keep a1 (((KA.trans KB).trans K3).trans K4)
  have sA := KA.size
  have sB := KB.size
  have s0 := K0.size
  have f4 : M4.floor = M.floor := T4.floor
  have h4 : Two (Wn M.nb.size M0.nb.size N2.nb.size M3.nb.size) M4 j1 m1 [] j2 m2 [] := by
    refine ⟨fb hf T4, fun i hi => ?_, fun _ => False, fun _ => False, Gr.none (at_keep (at_keep g1 K3) K4) (at_keep (at_keep gm1 K3) K4) (by omega), Gr.none (at_keep (at_keep g2 K3) K4) (at_keep (at_keep gm2 K3) K4) (by omega), fun i hi => ?_, fun i hi => ?_⟩
    · rw [f4]; rcases hi with rfl | rfl | rfl | rfl <;> omega
    · rw [f4]
      rcases hi with q | q | q
      · exact q.elim
      all_goals exact ⟨by omega, by omega, fun w => by rcases w with w | w | w | w <;> omega, fun w => by rcases w with w | w | w; exact w; all_goals omega⟩
    · rw [f4]
      rcases hi with q | q | q
      · exact q.elim
      all_goals exact ⟨by omega, by omega, fun w => by rcases w with w | w | w | w <;> omega, fun w => by rcases w with w | w | w; exact w; all_goals omega⟩
  generalize M.nb.size = n0 at *
  generalize M0.nb.size = n1 at *
  generalize N2.nb.size = nx at *
  generalize M3.nb.size = ny at *
  have W0 : Wn n0 n1 nx ny n0 := .inl rfl
  have W1 : Wn n0 n1 nx ny n1 := .inr (.inl rfl)
  have Wx : Wn n0 n1 nx ny nx := .inr (.inr (.inl rfl))
  have Wy : Wn n0 n1 nx ny ny := .inr (.inr (.inr rfl))
  have R8 : ∀ x : Int, 0 ≤ x → x ≤ 100 → i64R x := fun x h k => by unfold i64R; omega
  refine e3_2 (i := 0) (sk := 0) (it := 0) (b := b0) (L := []) (px := 16) (py := 24) (by decide) rfl (fun n => by kernel_rfl) rfl rfl (by simp) (by kernel_rfl) ⟨R8 _ (by decide) (by decide), R8 _ (by decide) (by decide)⟩ h4 a04 ax ay (by decide) (by decide) fun N5 h5 F5 => ?_
  refine e3_2 (i := 1) (b := b1) (px := 24) (py := 16) (by decide) rfl (fun n => by kernel_rfl) rfl rfl (by simp) (by kernel_rfl) ⟨R8 _ (by decide) (by decide), R8 _ (by decide) (by decide)⟩ h5 (F5 _ _ W0 a04) (F5 _ _ Wx ax) (F5 _ _ Wy ay) (by have := Bool.toNat_le (decide (((0 : Nat) : Int) < 2) && b0.sk); omega) (by have := Bool.toNat_le (decide (((0 : Nat) : Int) < 2) && b0.it); omega) fun N6 h6 F6 => ?_
  have F6 := F5.trans F6
  refine e3_2 (i := 2) (b := b2) (px := 32) (py := 16) (by decide) rfl (fun n => by kernel_rfl) rfl rfl (by simp) (by kernel_rfl) ⟨R8 _ (by decide) (by decide), R8 _ (by decide) (by decide)⟩ h6 (F6 _ _ W0 a04) (F6 _ _ Wx ax) (F6 _ _ Wy ay) (by have := Bool.toNat_le (decide (((0 : Nat) : Int) < 2) && b0.sk); have := Bool.toNat_le (decide (((1 : Nat) : Int) < 2) && b1.sk); omega) (by have := Bool.toNat_le (decide (((0 : Nat) : Int) < 2) && b0.it); have := Bool.toNat_le (decide (((1 : Nat) : Int) < 2) && b1.it); omega) fun N7 h7 F7 => ?_
  have F7 := F6.trans F7
  refine e3_2 (i := 3) (b := b3) (px := 16) (py := 16) (by decide) rfl (fun n => by kernel_rfl) rfl rfl (by simp) (by kernel_rfl) ⟨R8 _ (by decide) (by decide), R8 _ (by decide) (by decide)⟩ h7 (F7 _ _ W0 a04) (F7 _ _ Wx ax) (F7 _ _ Wy ay) (by have := Bool.toNat_le (decide (((0 : Nat) : Int) < 2) && b0.sk); have := Bool.toNat_le (decide (((1 : Nat) : Int) < 2) && b1.sk); have := Bool.toNat_le (decide (((2 : Nat) : Int) < 2) && b2.sk); omega) (by have := Bool.toNat_le (decide (((0 : Nat) : Int) < 2) && b0.it); have := Bool.toNat_le (decide (((1 : Nat) : Int) < 2) && b1.it); have := Bool.toNat_le (decide (((2 : Nat) : Int) < 2) && b2.it); omega) fun N8 h8 F8 => ?_
  have F8 := F7.trans F8
  have a8 := F8 _ _ W0 a04
  have af := F8 _ _ W1 a14
  have hs : ((((0 + (decide (((0 : Nat) : Int) < 2) && b0.sk).toNat) + (decide (((1 : Nat) : Int) < 2) && b1.sk).toNat) + (decide (((2 : Nat) : Int) < 2) && b2.sk).toNat) + (decide (((3 : Nat) : Int) < 2) && b3.sk).toNat) = b0.sk.toNat + b1.sk.toNat := by
    cases b0.sk <;> cases b1.sk <;> rfl
  have ht : ((((0 + (decide (((0 : Nat) : Int) < 2) && b0.it).toNat) + (decide (((1 : Nat) : Int) < 2) && b1.it).toNat) + (decide (((2 : Nat) : Int) < 2) && b2.it).toNat) + (decide (((3 : Nat) : Int) < 2) && b3.it).toNat) = b0.it.toNat + b1.it.toNat := by
    cases b0.it <;> cases b1.it <;> rfl
  rw [hs, ht]
  have l1 := h8.w n1 W1
  obtain ⟨M9, p9, C9, z9, b9⟩ := put1 0 (.int .i64 48) af l1.1 (show 0 < 23 by decide) rfl
  obtain ⟨M10, p10, C10, z10, b10⟩ := put1 (0 + 1) (.int .i64 40) b9 (by rw [C9.floor]; exact l1.1) (show 1 < 23 by decide) rfl
  obtain ⟨M11, p11, C11, z11, b11⟩ := put1 (0 + 2) (.int .i64 8) b10 (by rw [C10.floor, C9.floor]; exact l1.1) (show 2 < 23 by decide) rfl
  obtain ⟨M12, p12, C12, z12, b12⟩ := put1 (0 + 3) (.int .i64 8) b11 (by rw [C11.floor, C10.floor, C9.floor]; exact l1.1) (show 3 < 23 by decide) rfl
  have b12 : M12.nb[n1]? = some (.cells (bf.mv 48 40).cs 27) := b12
  have CC := ((C9.trans C10).trans C11).trans C12
  have h12 := h8.chg CC fun i hi => .inl (by rw [hi]; exact W1)
  have n01 : n0 ≠ n1 := by omega
  have a12 := at_chg a8 CC n01
  refine w3_2 (cF rfl (ad rfl (pt p9 (ad rfl (pt p10 (ad rfl (pt p11 (ad rfl (pt p12 ?_)))))))))
  -- the end
  have fin : ∀ (L2 : List Bk) (N : Mem), (L2 = [b0.mv 16 24, b1.mv 24 16, b2.mv 32 16, b3.mv 16 16] ∨ L2 = [b0.mv 16 24, b1.mv 24 16, b2.mv 32 16, b3.mv 16 16, bf.mv 48 40]) → Two (Wn n0 n1 nx ny) N j1 m1 [b0.mv 16 24, b1.mv 24 16, b2.mv 32 16, b3.mv 16 16] j2 m2 L2 → N.nb[n0]? = some (.cells (Bks [b0, b1, b2, b3]).toArray 28) →
      A3_4 (PA n0) (PA j1) (PA j2) ((b0.sk.toNat + b1.sk.toNat : Nat) : Int) ((b0.it.toNat + b1.it.toNat : Nat) : Int) false N fun v _ => v = .bool true := by
    intro L2 N hL T a
    obtain ⟨V1, V2, G1, G2, _, _⟩ := T.ex
    have hfN := T.hf
    refine w3_4 (cF rfl ?_)
    have v1 : ∀ r : Int, vecsS [b0.mv 16 24, b1.mv 24 16, b2.mv 32 16, b3.mv 16 16] 24 24 8 r = wants [b0, b1, b2, b3] r := fun r => rfl
    have v2 : ∀ r : Int, vecsS L2 24 24 8 r = wants [b0, b1, b2, b3] r := fun r => by rcases hL with rfl | rfl <;> rfl
    have cc : ∀ (f : Bk → Bool), (f (b0.mv 16 24) = f b0) → (f (b1.mv 24 16) = f b1) → cntS f [b0.mv 16 24, b1.mv 24 16, b2.mv 32 16, b3.mv 16 16] 24 24 = (f b0).toNat + (f b1).toNat ∧ cntS f L2 24 24 = (f b0).toNat + (f b1).toNat := by
      intro f e0 e1
      have o : ∀ b : Bk, one f (some b) = (f b).toNat := fun b => by unfold one; cases h : f b <;> simp [h]
      have x : ∀ L : List Bk, atS (24 - 1) 24 L = some (b0.mv 16 24) → atS 24 (24 - 1) L = some (b1.mv 24 16) → cntS f L 24 24 = (f b0).toNat + (f b1).toNat := fun L p q => by unfold cntS; rw [p, q, o, o, e0, e1]
      exact ⟨x _ rfl rfl, by rcases hL with rfl | rfl <;> exact x _ rfl rfl⟩
    have cs := cc Bk.sk rfl rfl
    have ci := cc Bk.it rfl rfl
    refine e3_6 rfl (by decide) hfN G1 G2 a (v1 0) (v2 0) fun N1 K1 => ?_
    refine e3_6 rfl (by decide) (fb hfN K1) (G1.keep K1) (G2.keep K1) (at_keep a K1) (v1 _) (v2 _) fun N2 K2 => ?_
    have K2 := K1.trans K2
    refine e3_6 rfl (by decide) (fb hfN K2) (G1.keep K2) (G2.keep K2) (at_keep a K2) (v1 _) (v2 _) fun N3 K3 => ?_
    have K3 := K2.trans K3
    exact e3_6' (fb hfN K3) (G1.keep K3) (G2.keep K3) cs.1 cs.2 ci.1 ci.2
  cases x2 with
  | false => exact cF rfl (fin _ _ (.inl rfl) h12 a12)
  | true =>
    refine cT rfl (ad rfl (ldA b12 rfl (Cn.mono (h12.put2 (L' := [b0.mv 16 24, b1.mv 24 16, b2.mv 32 16, b3.mv 16 16, bf.mv 48 40]) ⟨R8 48 (by decide) (by decide), R8 40 (by decide) (by decide), R8 8 (by decide) (by decide), R8 8 (by decide) (by decide)⟩ (by simp) (by kernel_rfl)) ?_)))
    rintro _ N ⟨rfl, h13, F13⟩
    exact ty rfl (fin _ _ (.inr rfl) h13 (F13 _ _ W0 a12))
end
end Go.Zt
