/- Layer 17: Put: the walk. -/
import Derived.Test.YtamlmpeiamkllaaZpQ
set_option linter.unusedSimpArgs false
set_option linter.unusedVariables false
set_option maxRecDepth 100000
namespace Go.Zt
open Go Go.Sim Go.Proofs Go.RowKit

section
variable {V : Nat → Prop} {M M0 N : Mem} {j jm jb : Nat} {t : Tl} {L : List Bk} {b : Bk}
theorem PutP.no (G : Gr V M j jm t L) (K : Keep M N) (hS : putS t L b = (2, L)) : PutP V M j jm t L b (.int .i64 2) N :=
  ⟨by rw [hS]; rfl, V, fun i h => .inl h, K.mono fun _ _ h => h.elim, by rw [hS]; exact G.keep K⟩
/-- The cells are looked at. -/
theorem e9_7 (hf : M.floor ≤ M.nb.size) (fl : ∀ i, V i ∨ i = j ∨ i = jm → M.floor ≤ i ∧ i < M.nb.size) (hb : b.ok t = true) (hL : L.length < 1000) (G0 : Gr V M j jm t L) (hjb : M.nb.size ≤ jb) {yi : Nat} (hy : yi < b.h.toNat / 8)
    (next : ∀ {M1 : Mem} {Ax : Option Addr} {cx : Nat}, Keep M M1 → M1.nb[jb]? = some (.cells b.cs 27) → Own (fun i => M.nb.size ≤ i ∧ i ≠ jb) M1 72 Ax (cx * 2) (Pls (preE b (yi + 1) 0)) → (∀ p ∈ preE b (yi + 1) 0, findE p (entL 0 L) 0 = none) →
      A9_6 (some ⟨2 * j, 0, none⟩) (some ⟨2 * jb, 0, none⟩) Ax (preE b (yi + 1) 0).length cx (b.y + 8 * ((yi + 1 : Nat) : Int)) M1 (PutP V M j jm t L b)) :
    ∀ (q xi : Nat) {M1 : Mem} {Ax : Option Addr} {cx : Nat}, xi + q = b.w.toNat / 8 → Keep M M1 → M1.nb[jb]? = some (.cells b.cs 27) → Own (fun i => M.nb.size ≤ i ∧ i ≠ jb) M1 72 Ax (cx * 2) (Pls (preE b yi xi)) → (∀ p ∈ preE b yi xi, findE p (entL 0 L) 0 = none) →
      A9_7 (some ⟨2 * j, 0, none⟩) (some ⟨2 * jb, 0, none⟩) Ax (preE b yi xi).length cx (b.y + 8 * (yi : Int)) (b.x + 8 * (xi : Int)) M1 (PutP V M j jm t L b)
  | 0, xi, M1, Ax, cx, hx, K, ab, O, hno => by
    obtain ⟨g1, g2, g3, g4⟩ := Bk.ok_iff.1 hb
    have hm := G0.may
    unfold Tl.may spanB at hm
    simp only [Bool.and_eq_true, decide_eq_true_eq] at hm
    have hxw : xi = b.w.toNat / 8 := by omega
    refine w9_7 (ad rfl (on (int_of (i := 0) ab rfl) (ad rfl (on (int_of (i := 0 + 2) ab rfl) ?_))))
    rw [i64w (x := b.x + b.w) (by omega)]
    refine cF (decide_eq_false (by omega)) ?_
    rw [i64w (by omega), show b.y + 8 * (yi : Int) + 8 = b.y + 8 * ((yi + 1 : Nat) : Int) by omega]
    rw [hxw, preE_y] at O hno ⊢
    exact next K ab O hno
  | q + 1, xi, M1, Ax, cx, hx, K, ab, O, hno => by
    obtain ⟨g1, g2, g3, g4⟩ := Bk.ok_iff.1 hb
    have hm := G0.may
    unfold Tl.may spanB at hm
    simp only [Bool.and_eq_true, decide_eq_true_eq] at hm
    have G1 := G0.keep K
    obtain ⟨A, c, es, k, q1, q2, q3, q4, q5⟩ := G1.ex
    have f1 := fb hf K
    refine w9_7 (ad rfl (on (int_of (i := 0) ab rfl) (ad rfl (on (int_of (i := 0 + 2) ab rfl) ?_))))
    rw [i64w (x := b.x + b.w) (by omega)]
    have rX : i64R (b.x + 8 * (xi : Int)) := by unfold i64R; omega
    have rY : i64R (b.y + 8 * (yi : Int)) := by unfold i64R; omega
    refine cT (decide_eq_true (by omega)) (ad rfl (on (x := .map (some (2 * jm))) (by rw [cell_of q1]; rfl) (cT (decide_eq_true f1) (Cn.mono (c27 f1 ⟨by omega, rX⟩ ⟨by omega, rY⟩) ?_))))
    rintro _ N ⟨rfl, K2⟩
    refine cT (gr_same q1 K2) (ty rfl (ty rfl (ty rfl ?_)))
    have hl := lookup_pl und61 key72 (a := (b.x + 8 * (xi : Int)) / 8) (b := (b.y + 8 * (yi : Int)) / 8) (at_keep q4 K2) q5 (by kernel_rfl)
    refine me hl (ty rfl (ty rfl (ty rfl ?_)))
    have e1 : (b.x + 8 * (xi : Int)) / 8 = b.x / 8 + (xi : Int) := by omega
    have e2 : (b.y + 8 * (yi : Int)) / 8 = b.y / 8 + (yi : Int) := by omega
    have hmem : (b.x / 8 + (xi : Int), b.y / 8 + (yi : Int)) ∈ ents b := mem_ents.2 ⟨yi, xi, hy, by omega, rfl, rfl⟩
    cases hfi : findE ((b.x + 8 * (xi : Int)) / 8, (b.y + 8 * (yi : Int)) / 8) (entL 0 L) 0 with
    | some r =>
      refine cT rfl (PutP.no G0 (K.trans K2) ?_)
      unfold putS
      have : (L.all fun a => !a.ovl b) = false := by
        cases ha : L.all fun a => !a.ovl b with
        | false => rfl
        | true =>
          have := (ovl_cells G0.ok hb).1 ha _ hmem
          rw [e1, e2] at hfi
          rw [this] at hfi
          cases hfi
      rw [this, Bool.and_false]
      rfl
    | none =>
      have f2 := fb hf (K.trans K2)
      refine cF rfl (Cn.mono (c27 f2 ⟨by omega, rX⟩ ⟨by omega, rY⟩) ?_)
      rintro _ N2 ⟨rfl, K3'⟩
      have K3 : Keep N N2 := K3'
      refine ty rfl (ty rfl (ty rfl ?_))
      have T3 := (K.trans K2).trans K3
      have lb := lt_of_at ab
      have X := Row.new N2 72 [.int .i64 ((b.x + 8 * (xi : Int)) / 8), .int .i64 ((b.y + 8 * (yi : Int)) / 8)]
      have K4 : Keep N2 (N2.new (.cells [Value.int .i64 ((b.x + 8 * (xi : Int)) / 8), Value.int .i64 ((b.y + 8 * (yi : Int)) / 8)].toArray 72)) := .new _ _
      have z4 := Mem.new_size N2 (.cells [Value.int .i64 ((b.x + 8 * (xi : Int)) / 8), Value.int .i64 ((b.y + 8 * (yi : Int)) / 8)].toArray 72)
      have z2 := K2.size
      have z3 := K3.size
      have zK := K.size
      have le := len_ents hb
      have ln : (preE b yi xi).length ≤ 64 := by
        have h8 : b.w.toNat / 8 ≤ 8 := by omega
        have h9 : b.h.toNat / 8 ≤ 8 := by omega
        have hyi : yi * (b.w.toNat / 8) + (b.w.toNat / 8) ≤ (b.h.toNat / 8) * (b.w.toNat / 8) := by
          rw [← Nat.succ_mul]; exact Nat.mul_le_mul_right _ hy
        have hh : (b.h.toNat / 8) * (b.w.toNat / 8) ≤ 8 * 8 := Nat.mul_le_mul h9 h8
        unfold preE rowE
        simp only [List.length_append, List.length_flatMap, List.length_map, List.length_range, List.map_const', List.sum_replicate_nat]
        omega
      obtain ⟨A', c', M2, p, C2, O2, h2⟩ := append_own elem69 (S := fun i => M.nb.size ≤ i ∧ i ≠ jb) (O.chg ((K2.trans K3).trans K4) fun _ _ _ h => h) (n := (preE b yi xi).length) (by rw [Pls_len]) X (k := 1) (cx := 1) rfl rfl (fun i hi => by
        rw [(T3.trans K4).floor]; have := hi.1; omega) ⟨by omega, by omega⟩ (by omega)
      refine me p (ty rfl ?_)
      have K5 : Keep M M2 := Keep.step (T3.trans K4) C2 fun i hi => hi.1
      have ab2 : M2.nb[jb]? = some (.cells b.cs 27) := at_chg (at_keep ab ((K2.trans K3).trans K4)) C2 fun h => h.2 rfl
      have ep : Pls (preE b yi (xi + 1)) = Pls (preE b yi xi) ++ [.int .i64 ((b.x + 8 * (xi : Int)) / 8), .int .i64 ((b.y + 8 * (yi : Int)) / 8)] := by
        rw [preE_x, e1, e2]; simp [Pls, List.flatMap_append]
      have el : (preE b yi (xi + 1)).length = (preE b yi xi).length + 1 := by rw [preE_x]; simp
      rw [i64w (by omega), show b.x + 8 * (xi : Int) + 8 = b.x + 8 * ((xi + 1 : Nat) : Int) by omega]
      have := e9_7 hf fl hb hL G0 hjb hy next q (xi + 1) (Ax := A') (cx := c') (by omega) K5 ab2 (by rw [ep]; exact O2) (fun p hp => by
        rw [preE_x] at hp
        rcases List.mem_append.1 hp with h | h
        · exact hno p h
        · rw [List.mem_singleton.1 h, ← e1, ← e2]; exact hfi)
      rw [el] at this
      exact this
theorem e9_6 (hf : M.floor ≤ M.nb.size) (fl : ∀ i, V i ∨ i = j ∨ i = jm → M.floor ≤ i ∧ i < M.nb.size) (hb : b.ok t = true) (hL : L.length < 1000) (G0 : Gr V M j jm t L) (hjb : M.nb.size ≤ jb) :
    ∀ (q yi : Nat) {M1 : Mem} {Ax : Option Addr} {cx : Nat}, yi + q = b.h.toNat / 8 → Keep M M1 → M1.nb[jb]? = some (.cells b.cs 27) → Own (fun i => M.nb.size ≤ i ∧ i ≠ jb) M1 72 Ax (cx * 2) (Pls (preE b yi 0)) → (∀ p ∈ preE b yi 0, findE p (entL 0 L) 0 = none) →
      A9_6 (some ⟨2 * j, 0, none⟩) (some ⟨2 * jb, 0, none⟩) Ax (preE b yi 0).length cx (b.y + 8 * (yi : Int)) M1 (PutP V M j jm t L b)
  | 0, yi, M1, Ax, cx, hy, K, ab, O, hno => by
    obtain ⟨g1, g2, g3, g4⟩ := Bk.ok_iff.1 hb
    have hm := G0.may
    unfold Tl.may spanB at hm
    simp only [Bool.and_eq_true, decide_eq_true_eq] at hm
    have hyh : yi = b.h.toNat / 8 := by omega
    refine w9_6 (ad rfl (on (int_of (i := 0 + 1) ab rfl) (ad rfl (on (int_of (i := 0 + 3) ab rfl) ?_))))
    rw [i64w (x := b.y + b.h) (by omega)]
    refine cF (decide_eq_false (by omega)) ?_
    rw [hyh, preE_end] at O hno ⊢
    have hall := (ovl_cells G0.ok hb).2 hno
    obtain ⟨A, c, es, k, q1, q2, q3, q4, q5⟩ := (G0.keep K).ex
    exact e9_8 (jb := jb) hf fl hb hL G0 hall (ents b).length 0 (by omega) (K.mono fun _ _ h => h.elim) ab hjb O.row (fun a ha => (O.in_ a ha).2.1) ⟨es, k, q4, by simpa using q5⟩
  | q + 1, yi, M1, Ax, cx, hy, K, ab, O, hno => by
    obtain ⟨g1, g2, g3, g4⟩ := Bk.ok_iff.1 hb
    have hm := G0.may
    unfold Tl.may spanB at hm
    simp only [Bool.and_eq_true, decide_eq_true_eq] at hm
    refine w9_6 (ad rfl (on (int_of (i := 0 + 1) ab rfl) (ad rfl (on (int_of (i := 0 + 3) ab rfl) ?_))))
    rw [i64w (x := b.y + b.h) (by omega)]
    refine cT (decide_eq_true (by omega)) (ad rfl (on (int_of (i := 0) ab rfl) ?_))
    have := e9_7 hf fl hb hL G0 hjb (yi := yi) (by omega) (fun {M2 Ax2 cx2} K2 ab2 O2 hno2 => e9_6 hf fl hb hL G0 hjb q (yi + 1) (by omega) K2 ab2 O2 hno2) (b.w.toNat / 8) 0 (by omega) K ab O hno
    rw [show b.x + 8 * ((0 : Nat) : Int) = b.x by omega] at this
    exact this
set_option maxHeartbeats 1000000 in
theorem c9 (hf : M.floor ≤ M.nb.size) (fl : ∀ i, V i ∨ i = j ∨ i = jm → M.floor ≤ i ∧ i < M.nb.size) (hL : L.length < 1000) (G : Gr V M j jm t L) (hr : i64R b.x ∧ i64R b.y ∧ i64R b.w ∧ i64R b.h) :
    Cn Try.prog 9 #[PtrB j, .agg b.cs] M (PutP V M j jm t L b) := by
  have a := Mem.new_at M (.cells b.cs 27)
  have K1 : Keep M (M.new (.cells b.cs 27)) := .new _ _
  have z1 := Mem.new_size M (.cells b.cs 27)
  refine w9_0 ?_
  show Cn Try.prog 24 _ (M.new (.cells b.cs 27)) _
  generalize M.new (.cells b.cs 27) = M1 at a K1 z1 ⊢
  have f1 := fb hf K1
  have hm := G.may
  unfold Tl.may spanB at hm
  simp only [Bool.and_eq_true, decide_eq_true_eq] at hm
  obtain ⟨A, c, es, k, g1, g2, g3, g4, g5⟩ := (G.keep K1).ex
  have no_ : b.ok t = false → putS t L b = (2, L) := fun h => by unfold putS; rw [h]; rfl
  have b5 : ∀ {N : Mem}, Keep M N → b.ok t = false → A9_5 (some ⟨2 * j, 0, none⟩) (some ⟨2 * M.nb.size, 0, none⟩) true N (PutP V M j jm t L b) := fun K h => w9_5 (cT rfl (PutP.no G K (no_ h)))
  have b4 : ∀ {N : Mem}, Keep M N → b.ok t = false → A9_4 (some ⟨2 * j, 0, none⟩) (some ⟨2 * M.nb.size, 0, none⟩) true N (PutP V M j jm t L b) := fun K h => w9_4 (cT rfl (b5 K h))
  have b3 : ∀ {N : Mem}, Keep M N → b.ok t = false → A9_3 (some ⟨2 * j, 0, none⟩) (some ⟨2 * M.nb.size, 0, none⟩) true N (PutP V M j jm t L b) := fun K h => w9_3 (cT rfl (b4 K h))
  have b2 : ∀ {N : Mem}, Keep M N → b.ok t = false → A9_2 (some ⟨2 * j, 0, none⟩) (some ⟨2 * M.nb.size, 0, none⟩) true N (PutP V M j jm t L b) := fun K h => w9_2 (cT rfl (b3 K h))
  have b1 : ∀ {N : Mem}, Keep M N → b.ok t = false → A9_1 (some ⟨2 * j, 0, none⟩) (some ⟨2 * M.nb.size, 0, none⟩) true N (PutP V M j jm t L b) := fun K h => w9_1 (cT rfl (b2 K h))
  have nok : (¬ (b.x % 8 = 0 ∧ b.y % 8 = 0) ∨ sideB b.w = false ∨ sideB b.h = false ∨ t.in b.x b.y = false ∨ t.in (b.x + b.w - 1) (b.y + b.h - 1) = false) → b.ok t = false := by
    intro h
    unfold Bk.ok
    rcases h with h | h | h | h | h
    · rw [decide_eq_false h]; rfl
    · rw [h]; simp
    · rw [h]; simp
    · rw [h]; simp
    · rw [h]; simp
  have t8 : ∀ z : Int, z.tmod 8 = 0 ↔ z % 8 = 0 := fun z => tmod_eq (a := z) 8 (by decide)
  refine Cn.eq (c24 g1) (ty rfl (cF rfl (on (int_of (i := 0) a rfl) (cne (fun h => b1 K1 (nok (.inl fun q => h ((t8 _).2 q.1)))) fun hx => on (int_of (i := 0 + 1) a rfl) ?_))))
  have hx8 := (t8 _).1 hx
  by_cases hy : b.y % 8 = 0
  · rw [show ((b.y.tmod 8) != 0) = false by rw [(t8 _).2 hy]; rfl]
    refine w9_1 (cF rfl (ad rfl (on (int_of (i := 0 + 2) a rfl) (Cn.mono (c25 f1) ?_))))
    rintro _ N1 ⟨rfl, K2⟩
    have T2 := K1.trans K2
    refine ty rfl ?_
    cases hw : sideB b.w with
    | false => exact b2 T2 (nok (.inr (.inl hw)))
    | true =>
      have a2 := at_keep a K2
      refine w9_2 (cF rfl (ad rfl (on (int_of (i := 0 + 3) a2 rfl) (Cn.mono (c25 (fb hf T2)) ?_))))
      rintro _ N2 ⟨rfl, K3⟩
      have T3 := T2.trans K3
      refine ty rfl ?_
      cases hh : sideB b.h with
      | false => exact b3 T3 (nok (.inr (.inr (.inl hh))))
      | true =>
        have a3 := at_keep a2 K3
        have g3' := at_keep (at_keep g1 K2) K3
        refine w9_3 (cF rfl (ad rfl (on (int_of (i := 0) a3 rfl) (ad rfl (on (int_of (i := 0 + 1) a3 rfl) (Cn.eq (c26 g3' G.may hr.1 hr.2.1) (ty rfl ?_)))))))
        cases hi : t.in b.x b.y with
        | false => exact b4 T3 (nok (.inr (.inr (.inr (.inl hi)))))
        | true =>
          have hi' := of_decide_eq_true hi
          have hw' := of_decide_eq_true hw
          have hh' := of_decide_eq_true hh
          have e1 : IntKind.i64.wrap (IntKind.i64.wrap (b.x + b.w) - 1) = b.x + b.w - 1 := by rw [i64w (x := b.x + b.w) (by omega), i64w (by omega)]
          have e2 : IntKind.i64.wrap (IntKind.i64.wrap (b.y + b.h) - 1) = b.y + b.h - 1 := by rw [i64w (x := b.y + b.h) (by omega), i64w (by omega)]
          refine w9_4 (cF rfl (ad rfl (on (int_of (i := 0) a3 rfl) (ad rfl (on (int_of (i := 0 + 2) a3 rfl) (ad rfl (on (int_of (i := 0 + 1) a3 rfl) (ad rfl (on (int_of (i := 0 + 3) a3 rfl) ?_)))))))))
          rw [e1, e2]
          refine Cn.eq (c26 g3' G.may (by unfold i64R; omega) (by unfold i64R; omega)) (ty rfl ?_)
          cases hi2 : t.in (b.x + b.w - 1) (b.y + b.h - 1) with
          | false => exact b5 T3 (nok (.inr (.inr (.inr (.inr hi2)))))
          | true =>
            have hb : b.ok t = true := by unfold Bk.ok; rw [decide_eq_true ⟨hx8, hy⟩, hw, hh, hi, hi2]; rfl
            refine w9_5 (cF rfl (ad rfl (on (int_of (i := 0 + 1) a3 rfl) ?_)))
            have := e9_6 (jb := M.nb.size) (b := b) hf fl hb hL G (Nat.le_refl _) (b.h.toNat / 8) 0 (Ax := none) (cx := 0) (by omega) T3 a3 (.inl ⟨rfl, by simp [preE, rowE], by simp⟩) (fun p hp => by simp [preE, rowE] at hp)
            rw [show b.y + 8 * ((0 : Nat) : Int) = b.y by omega] at this
            exact this
  · rw [show ((b.y.tmod 8) != 0) = true from bne_iff_ne.2 fun h => hy ((t8 b.y).1 h)]
    exact b1 K1 (nok (.inl fun q => hy q.2))
end
end Go.Zt
