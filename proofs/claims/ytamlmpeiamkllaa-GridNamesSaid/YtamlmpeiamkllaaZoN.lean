/- Layer 17: GridNames: grids that are none. -/
import Derived.Test.YtamlmpeiamkllaaZoM
import Derived.Test.YtamlmpeiamkllaaZpN
set_option linter.unusedSimpArgs false
set_option linter.unusedVariables false
set_option maxRecDepth 100000
namespace Go.Zt
open Go Go.Sim Go.Proofs Go.RowKit

/-- A grid that is none. -/
def No (p : Option Addr) (M : Mem) : Prop := p = none ∨ ∃ j cs t, p = some ⟨2 * j, 0, none⟩ ∧ M.nb[j]? = some (.cells cs t) ∧ cs[0]? = some (.bool false)
theorem No.keep {p : Option Addr} {M N : Mem} (h : No p M) (K : Keep M N) : No p N := by
  rcases h with h | ⟨j, cs, t, h1, h2, h3⟩
  · exact .inl h
  · exact .inr ⟨j, cs, t, h1, at_keep h2 K, h3⟩
section
variable {M : Mem} {p : Option Addr} {x y s w h r : Int}
theorem c24n (H : No p M) : Cn Try.prog 24 #[.pointer p] M fun v N => v = .bool true ∧ N = M := by
  rcases H with rfl | ⟨j, cs, t, rfl, h2, h3⟩
  · exact w24_0 (cT rfl ⟨rfl, rfl⟩)
  · exact w24_0 (cF rfl (ad rfl (on (bool_of (i := 0) h2 h3) ⟨rfl, rfl⟩)))
theorem c14n (hf : M.floor ≤ M.nb.size) (H : No p M) : Cn Try.prog 14 #[.pointer p, .int .i64 x, .int .i64 y] M fun v N => v = .tuple #[.agg zB.cs, .bool false] ∧ Keep M N := by
  have a := Mem.new_at M (.cells zB.cs 27)
  have K1 : Keep M (M.new (.cells zB.cs 27)) := .new _ _
  refine w14_0 ?_
  show Cn Try.prog 24 _ (M.new (.cells zB.cs 27)) _
  generalize M.new (.cells zB.cs 27) = M1 at a K1 ⊢
  refine Cn.eq (c24n (H.keep K1)) (ty rfl (cT rfl (w14_1 (cT rfl (ad rfl (stA (cs := zB.cs) a (by rw [K1.floor]; exact hf) rfl rfl rfl fun M6 C6 z6 b6 => ad rfl (ldA b6 rfl ⟨rfl, Keep.step K1 C6 fun i hi => by omega⟩)))))))
theorem c21n (H : No p M) : Cn Try.prog 21 #[.pointer p, .int .i64 x, .int .i64 y, .int .i64 s] M fun v N => v = .tuple #[.int .i64 0, .int .i64 1] ∧ Keep M N :=
  w21_0 (Cn.eq (c24n H) (ty rfl (cT rfl ⟨rfl, .refl _⟩)))
theorem c11n (H : No p M) : Cn Try.prog 11 #[.pointer p, .int .i64 x, .int .i64 y] M fun v N => v = .tuple #[.int .i64 0, .int .i64 1] ∧ Keep M N :=
  w11_0 (w30_0 (Cn.eq (c24n H) (ty rfl (cT rfl (ty rfl (ty rfl (ty rfl ⟨rfl, .refl _⟩)))))))
theorem c12n (H : No p M) : Cn Try.prog 12 #[.pointer p, .int .i64 x, .int .i64 y] M fun v N => v = .tuple #[.int .i64 0, .int .i64 1] ∧ Keep M N :=
  w12_0 (w30_0 (Cn.eq (c24n H) (ty rfl (cT rfl (ty rfl (ty rfl (ty rfl ⟨rfl, .refl _⟩)))))))
theorem c9n (H : No p M) : Cn Try.prog 9 #[.pointer p, .agg zB.cs] M fun v N => v = .int .i64 1 ∧ Keep M N := by
  have K1 : Keep M (M.new (.cells zB.cs 27)) := .new _ _
  refine w9_0 ?_
  show Cn Try.prog 24 _ (M.new (.cells zB.cs 27)) _
  exact Cn.eq (c24n (H.keep K1)) (ty rfl (cT rfl ⟨rfl, K1⟩))
theorem c15n (H : No p M) : Cn Try.prog 15 #[.pointer p] M fun v N => v = .slice none 0 0 ∧ Keep M N :=
  w15_0 (Cn.eq (c24n H) (ty rfl (cT rfl ⟨rfl, .refl _⟩)))
theorem c10n (hf : M.floor ≤ M.nb.size) (H : No p M) : Cn Try.prog 10 #[.pointer p, .agg #[.int .i64 x, .int .i64 y, .int .i64 w, .int .i64 h], .int .i64 r] M fun v N => v = .tuple #[.agg #[.int .i64 0, .int .i64 0, .int .i64 0, .int .i64 0], .int .i64 0, .int .i64 1] ∧ Keep M N := by
  have K1 : Keep M (M.new (.cells #[.int .i64 x, .int .i64 y, .int .i64 w, .int .i64 h] 35)) := .new _ _
  have z1 := Mem.new_size M (.cells #[.int .i64 x, .int .i64 y, .int .i64 w, .int .i64 h] 35)
  refine w10_0 ?_
  generalize M.new (.cells #[.int .i64 x, .int .i64 y, .int .i64 w, .int .i64 h] 35) = M1 at K1 z1 ⊢
  have ar := Mem.new_at M1 (.cells #[.int .i64 0, .int .i64 0, .int .i64 0, .int .i64 0] 25)
  have K2 : Keep M1 (M1.new (.cells #[.int .i64 0, .int .i64 0, .int .i64 0, .int .i64 0] 25)) := .new _ _
  generalize M1.new (.cells #[.int .i64 0, .int .i64 0, .int .i64 0, .int .i64 0] 25) = M2 at ar K2 ⊢
  have ao := Mem.new_at M2 (.cells #[.int .i64 0, .int .i64 0, .int .i64 0, .int .i64 0] 25)
  have K3 : Keep M2 (M2.new (.cells #[.int .i64 0, .int .i64 0, .int .i64 0, .int .i64 0] 25)) := .new _ _
  generalize M2.new (.cells #[.int .i64 0, .int .i64 0, .int .i64 0, .int .i64 0] 25) = M3 at ao K3 ⊢
  have T3 := (K1.trans K2).trans K3
  refine Cn.eq (c24n (H.keep T3)) (ty rfl (cT rfl (on (int_of (x := 0) (i := 0) ao rfl) (on (int_of (x := 0) (i := 0 + 1) ao rfl) (on (int_of (x := 0) (i := 0 + 2) ao rfl) (on (int_of (x := 0) (i := 0 + 3) ao rfl) ?_))))))
  refine stA (cs := #[.int .i64 0, .int .i64 0, .int .i64 0, .int .i64 0]) (at_keep ar K3) (by rw [T3.floor]; omega) rfl rfl rfl fun M4 C4 z4 a4 => ?_
  exact on (int_of (x := 0) (i := 0) a4 rfl) (on (int_of (x := 0) (i := 0 + 1) a4 rfl) (on (int_of (x := 0) (i := 0 + 2) a4 rfl) (on (int_of (x := 0) (i := 0 + 3) a4 rfl) ⟨rfl, Keep.step T3 C4 fun i hi => by omega⟩)))
theorem nw25 : binV Try.prog .neq 25 25 (.agg #[.int .i64 0, .int .i64 0, .int .i64 0, .int .i64 0]) (.agg #[.int .i64 0, .int .i64 0, .int .i64 0, .int .i64 0]) = some (.bool false) := by
  obtain ⟨z, h1, h2, h3⟩ := binV_eqA (P := Try.prog) (k := 4) (t := 25) (tb := 25) (xs := [.int .i64 0, .int .i64 0, .int .i64 0, .int .i64 0]) (ys := [.int .i64 0, .int .i64 0, .int .i64 0, .int .i64 0]) (by decide) (by kernel_rfl) (by kernel_rfl) (by kernel_rfl) (by kernel_rfl) (by kernel_rfl) rfl rfl
  rw [h2, h3.2 rfl]
  rfl
set_option maxHeartbeats 2000000 in
/-- One of the two grids that are none. -/
theorem e6_1 {Q : Value → Mem → Prop} {z : Int} (hz : 0 ≤ z ∧ z < 2) (hf : M.floor ≤ M.nb.size) (H : No p M) (next : ∀ N, Keep M N → A6_1 (some ⟨2 * N.nb.size, 0, none⟩) (z + 1) (N.new (.cells #[.bool false, .int .i64 0, .int .i64 0, .int .i64 0, .int .i64 0, .slice none 0 0, .map none] 63)) Q) : A6_1 p z M Q := by
  refine w6_1 (cT (decide_eq_true hz.2) (Cn.mono (c14n hf H) ?_))
  rintro _ N1 ⟨rfl, K1⟩
  refine ty rfl (ty rfl (ac0 rfl (ty rfl (ty rfl (ac0 rfl (stN (cs := zB.cs) (fb hf K1) rfl rfl rfl fun M2 K2 z2 b2 => ?_))))))
  have T := K1.trans K2
  refine Cn.mono (c21n (H.keep T)) ?_
  rintro _ N3 ⟨rfl, K3⟩
  have T := T.trans K3
  refine ty rfl (ty rfl (ty rfl (Cn.mono (c11n (H.keep T)) ?_)))
  rintro _ N4 ⟨rfl, K4⟩
  have T := T.trans K4
  refine ty rfl (ty rfl (ty rfl (Cn.mono (c12n (H.keep T)) ?_)))
  rintro _ N5 ⟨rfl, K5⟩
  have T := T.trans K5
  refine ty rfl (ty rfl (ty rfl (Cn.mono (c10n (fb hf T) (H.keep T)) ?_)))
  rintro _ N6 ⟨rfl, K6⟩
  have T := T.trans K6
  refine ty rfl (ty rfl (ty rfl (ty rfl (ty rfl (ty rfl (ty rfl (ty rfl (stN (cs := #[.int .i64 0, .int .i64 0, .int .i64 0, .int .i64 0]) (fb hf T) rfl rfl rfl fun M7 K7 z7 b7 => ?_))))))))
  have T := T.trans K7
  have b2' := at_keep (at_keep (at_keep (at_keep (at_keep b2 K3) K4) K5) K6) K7
  refine ldA b2' rfl (pu (nq27 zB zB) (ty rfl ?_))
  refine cF rfl (w6_2 (cF rfl (w6_4 (cF rfl (w6_6 (cF rfl (w6_7 (cF rfl (w6_8 (cF rfl (ad rfl (on (int_of (x := 0) (i := 0) b7 rfl) (on (int_of (x := 0) (i := 0 + 1) b7 rfl) (on (int_of (x := 0) (i := 0 + 2) b7 rfl) (on (int_of (x := 0) (i := 0 + 3) b7 rfl) (pu nw25 (ty rfl ?_)))))))))))))))))
  refine w6_9 (cF rfl (w6_10 (cF rfl (w6_11 (cF rfl (w6_12 (cF rfl (w6_13 (cF rfl (Cn.mono (c9n (H.keep T)) ?_))))))))))
  rintro _ N8 ⟨rfl, K8⟩
  have T := T.trans K8
  refine ty rfl (w6_14 (cF rfl (Cn.mono (c15n (H.keep T)) ?_)))
  rintro _ N9 ⟨rfl, K9⟩
  have T := T.trans K9
  refine ty rfl (w6_15 (cF rfl ?_))
  rw [i64w (x := z + 1) (by omega)]
  exact next N9 T
end
end Go.Zt
