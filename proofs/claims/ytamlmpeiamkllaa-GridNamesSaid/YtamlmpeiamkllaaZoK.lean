/- Layer 17: told: the program's grid and the document's tell alike. Printed by genK.py. -/
import Derived.Test.YtamlmpeiamkllaaZoH
import Derived.Test.YtamlmpeiamkllaaZoI
import Derived.Test.YtamlmpeiamkllaaZoJ
import Derived.Test.YtamlmpeiamkllaaZpJ
set_option linter.unusedSimpArgs false
set_option linter.unusedVariables false
set_option maxRecDepth 100000
namespace Go.Zt
open Go Go.Sim Go.Proofs Go.RowKit

theorem ev25 (a b c d : Int) : binV Try.prog .eql 25 25 (.agg #[.int .i64 a, .int .i64 b, .int .i64 c, .int .i64 d]) (.agg #[.int .i64 a, .int .i64 b, .int .i64 c, .int .i64 d]) = some (.bool true) := by
  obtain ⟨z, h1, h2, h3⟩ := binV_eqA (P := Try.prog) (k := 4) (t := 25) (tb := 25) (xs := [.int .i64 a, .int .i64 b, .int .i64 c, .int .i64 d]) (ys := [.int .i64 a, .int .i64 b, .int .i64 c, .int .i64 d]) (by decide) (by kernel_rfl) (by kernel_rfl) (by kernel_rfl) (by kernel_rfl) (by kernel_rfl) rfl rfl
  rw [h1, h3.2 rfl]
theorem nn (x : Int) : (x != x) = false := by simp
theorem tup_cnt {f : Bk → Bool} {L : List Bk} {t : Tl} {x y : Int} : ∃ a e : Int, cntV f L t x y = .tuple #[.int .i64 a, .int .i64 e] := ⟨_, _, cn_nbr⟩
theorem tup_part {L : List Bk} {t : Tl} {x y s : Int} : ∃ a e : Int, partV L t x y s = .tuple #[.int .i64 a, .int .i64 e] := by
  unfold partV
  split
  · exact ⟨_, _, rfl⟩
  · exact ⟨_, _, rfl⟩
theorem tup_vecs {L : List Bk} {t : Tl} {x y w r : Int} : ∃ p q u s k e : Int, vecsV L t x y w r = .tuple #[.agg #[.int .i64 p, .int .i64 q, .int .i64 u, .int .i64 s], .int .i64 k, .int .i64 e] := by
  have oc4 : ∀ W : List (Int × Int), ∃ p q u s : Int, outC W = #[.int .i64 p, .int .i64 q, .int .i64 u, .int .i64 s] := fun W => by
    match W with
    | [] => exact ⟨0, 0, 0, 0, rfl⟩
    | [a] => exact ⟨a.1, a.2, 0, 0, rfl⟩
    | a :: b :: _ => exact ⟨a.1, a.2, b.1, b.2, rfl⟩
  unfold vecsV
  split
  · obtain ⟨p, q, u, s, h⟩ := oc4 (vecsS L x y w r)
    exact ⟨p, q, u, s, _, _, by rw [h]⟩
  · exact ⟨0, 0, 0, 0, 0, 2, rfl⟩
section
variable {V U : Nat → Prop} {M : Mem} {jg jm jr : Nat} {t : Tl} {L : List Bk} {a0 a1 a2 a3 a4 : Int}
set_option maxHeartbeats 4000000 in
theorem c18 (hf : M.floor ≤ M.nb.size) (G : Gr V M jg jm t L) (R : Rf U M jr t L) (h0 : i64R a0) (h1 : i64R a1) (h3 : i64R a3) (h4 : i64R a4) :
    Cn Try.prog 18 #[PtrB jg, PtrB jr, .agg #[.int .i64 a0, .int .i64 a1, .int .i64 a2, .int .i64 a3, .int .i64 a4]] M fun v N => v = .bool true ∧ Keep M N := by
  have s := Mem.new_at M (.cells #[.int .i64 a0, .int .i64 a1, .int .i64 a2, .int .i64 a3, .int .i64 a4] 56)
  have K1 : Keep M (M.new (.cells #[.int .i64 a0, .int .i64 a1, .int .i64 a2, .int .i64 a3, .int .i64 a4] 56)) := .new _ _
  refine w18_0 ?_
  generalize M.new (.cells #[.int .i64 a0, .int .i64 a1, .int .i64 a2, .int .i64 a3, .int .i64 a4] 56) = M1 at s K1 ⊢
  refine on (int_of (i := 0) s rfl) (on (int_of (i := 0 + 1) s rfl) (Cn.mono (c14 (fb hf K1) (G.keep K1) h0 h1) ?_))
  rintro _ N1 ⟨rfl, K2⟩
  have T2 := K1.trans K2
  have k1 : ∀ {N : Mem}, Keep M1 N → A18_1 (some ⟨2 * jg, 0, none⟩) (some ⟨2 * jr, 0, none⟩) (some ⟨2 * M.nb.size, 0, none⟩) false N fun v N => v = .bool true ∧ Keep M N := by
    intro N KN
    have T := K1.trans KN
    have s' := at_keep s KN
    refine w18_1 (cF rfl (ad rfl (on (int_of (i := 0) s' rfl) (ad rfl (on (int_of (i := 0 + 1) s' rfl) (ad rfl (on (int_of (i := 0 + 2) s' rfl) (Cn.mono (c21 (s := a2) (fb hf T) (G.keep T) h0 h1) ?_))))))))
    obtain ⟨u1, e1, hu1⟩ := tup_part (L := L) (t := t) (x := a0) (y := a1) (s := a2)
    rw [hu1]
    rintro _ P1 ⟨rfl, KP⟩
    have T := T.trans KP
    have s' := at_keep s' KP
    refine ty rfl (ty rfl (ty rfl (ad rfl (on (int_of (i := 0) s' rfl) (ad rfl (on (int_of (i := 0 + 1) s' rfl) (ad rfl (on (int_of (i := 0 + 2) s' rfl) (Cn.mono (c37 (s := a2) (fb hf T) (R.keep T) h0 h1) ?_)))))))))
    rw [hu1]
    rintro _ R1 ⟨rfl, KP⟩
    have T := T.trans KP
    have s' := at_keep s' KP
    refine ty rfl (ty rfl (ty rfl (cF (nn _) ?_)))
    rw [nn]
    refine w18_2 (cF rfl (ad rfl (on (int_of (i := 0) s' rfl) (ad rfl (on (int_of (i := 0 + 1) s' rfl) (Cn.mono (c11 (fb hf T) (G.keep T) h0 h1) ?_))))))
    obtain ⟨u2, e2, hu2⟩ := tup_cnt (f := Bk.sk) (L := L) (t := t) (x := a0) (y := a1)
    rw [hu2]
    rintro _ P2 ⟨rfl, KP⟩
    have T := T.trans KP
    have s' := at_keep s' KP
    refine ty rfl (ty rfl (ty rfl (ad rfl (on (int_of (i := 0) s' rfl) (ad rfl (on (int_of (i := 0 + 1) s' rfl) (Cn.mono (c38 (fb hf T) (R.keep T)) ?_)))))))
    rw [hu2]
    rintro _ R2 ⟨rfl, KP⟩
    have T := T.trans KP
    have s' := at_keep s' KP
    refine ty rfl (ty rfl (ty rfl (cF (nn _) ?_)))
    rw [nn]
    refine w18_3 (cF rfl (ad rfl (on (int_of (i := 0) s' rfl) (ad rfl (on (int_of (i := 0 + 1) s' rfl) (Cn.mono (c12 (fb hf T) (G.keep T) h0 h1) ?_))))))
    obtain ⟨u3, e3, hu3⟩ := tup_cnt (f := Bk.it) (L := L) (t := t) (x := a0) (y := a1)
    rw [hu3]
    rintro _ P3 ⟨rfl, KP⟩
    have T := T.trans KP
    have s' := at_keep s' KP
    refine ty rfl (ty rfl (ty rfl (ad rfl (on (int_of (i := 0) s' rfl) (ad rfl (on (int_of (i := 0 + 1) s' rfl) (Cn.mono (c39 (fb hf T) (R.keep T)) ?_)))))))
    rw [hu3]
    rintro _ R3 ⟨rfl, KP⟩
    have T := T.trans KP
    have s' := at_keep s' KP
    refine ty rfl (ty rfl (ty rfl (cF (nn _) ?_)))
    rw [nn]
    refine w18_4 (cF rfl (ad rfl (on (int_of (i := 0) s' rfl) (ad rfl (on (int_of (i := 0 + 1) s' rfl) (ad rfl (on (int_of (i := 0 + 3) s' rfl) (ad rfl (on (int_of (i := 0 + 2) s' rfl) (stN (cs := #[.int .i64 a0, .int .i64 a1, .int .i64 a3, .int .i64 a2]) (fb hf T) rfl rfl rfl fun M5 K5 z5 b5 => ?_))))))))))
    have T := T.trans K5
    have s' := at_keep s' K5
    have hr : i64R a0 ∧ i64R a1 ∧ i64R a3 ∧ i64R a4 := ⟨h0, h1, h3, h4⟩
    obtain ⟨p, q, u, v, k, e, hv⟩ := tup_vecs (L := L) (t := t) (x := a0) (y := a1) (w := a3) (r := a4)
    refine on (int_of (i := 0) b5 rfl) (on (int_of (i := 0 + 1) b5 rfl) (on (int_of (i := 0 + 2) b5 rfl) (on (int_of (i := 0 + 3) b5 rfl) (ad rfl (on (int_of (i := 0 + 4) s' rfl) (Cn.mono (c10 (fb hf T) (G.keep T) hr) ?_))))))
    rw [hv]
    rintro _ N6 ⟨rfl, K6⟩
    have T := T.trans K6
    refine ty rfl (ty rfl (ty rfl (ty rfl (ty rfl (ty rfl (ty rfl (ty rfl (stN (cs := #[.int .i64 p, .int .i64 q, .int .i64 u, .int .i64 v]) (fb hf T) rfl rfl rfl fun M7 K7 z7 b7 => ?_))))))))
    have T := T.trans K7
    have b5 := at_keep (at_keep b5 K6) K7
    have s' := at_keep (at_keep s' K6) K7
    refine on (int_of (i := 0) b5 rfl) (on (int_of (i := 0 + 1) b5 rfl) (on (int_of (i := 0 + 2) b5 rfl) (on (int_of (i := 0 + 3) b5 rfl) (ad rfl (on (int_of (i := 0 + 4) s' rfl) (Cn.mono (c40 (fb hf T) (R.keep T)) ?_))))))
    rw [hv]
    rintro _ N8 ⟨rfl, K8⟩
    have T := T.trans K8
    refine ty rfl (ty rfl (ty rfl (ty rfl (ty rfl (ty rfl (ty rfl (ty rfl (stN (cs := #[.int .i64 p, .int .i64 q, .int .i64 u, .int .i64 v]) (fb hf T) rfl rfl rfl fun M9 K9 z9 b9 => ?_))))))))
    have T := T.trans K9
    have b7 := at_keep (at_keep b7 K8) K9
    refine on (int_of (i := 0) b7 rfl) (on (int_of (i := 0 + 1) b7 rfl) (on (int_of (i := 0 + 2) b7 rfl) (on (int_of (i := 0 + 3) b7 rfl) (on (int_of (i := 0) b9 rfl) (on (int_of (i := 0 + 1) b9 rfl) (on (int_of (i := 0 + 2) b9 rfl) (on (int_of (i := 0 + 3) b9 rfl) (pu (ev25 ..) (ty rfl (cT rfl (cT (by simp) ⟨by simp, T⟩)))))))))))
  obtain ⟨b, f, hv⟩ : ∃ b f, atV (atS a0 a1 L) = .tuple #[.agg (Bk.cs b), .bool f] := by
    cases atS a0 a1 L with
    | none => exact ⟨zB, false, rfl⟩
    | some b => exact ⟨b, true, rfl⟩
  rw [hv]
  refine ty rfl (ty rfl (ac0 rfl (ty rfl (ty rfl (ac0 rfl (stN (cs := b.cs) (fb hf T2) rfl rfl rfl fun M3 K3 z3 b3 => ?_))))))
  have T3 := T2.trans K3
  have s3 := at_keep (at_keep s K2) K3
  refine on (int_of (i := 0) s3 rfl) (on (int_of (i := 0 + 1) s3 rfl) (Cn.mono (c36 (fb hf T3) (R.keep T3)) ?_))
  rw [hv]
  rintro _ N4 ⟨rfl, K4⟩
  have T4 := T3.trans K4
  refine ty rfl (ty rfl (ac0 rfl (ty rfl (ty rfl (ac0 rfl (stN (cs := b.cs) (fb hf T4) rfl rfl rfl fun M5 K5 z5 b5 => ?_))))))
  have b3' := at_keep (at_keep b3 K4) K5
  refine ldA b3' rfl (ldA b5 rfl (pu (nq27 _ _) (ty rfl ?_)))
  rw [decide_eq_true rfl]
  refine cF rfl ?_
  have e : (!(f == f)) = false := by cases f <;> rfl
  rw [e]
  exact k1 (((K2.trans K3).trans K4).trans K5)
end
end Go.Zt
