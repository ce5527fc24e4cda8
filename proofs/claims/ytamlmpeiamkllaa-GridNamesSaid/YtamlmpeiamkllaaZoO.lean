/- Layer 17: law6, GridNames. -/
import Derived.Test.YtamlmpeiamkllaaZoN
set_option linter.unusedSimpArgs false
set_option linter.unusedVariables false
set_option maxRecDepth 100000
namespace Go.Zt
open Go Go.Sim Go.Proofs Go.RowKit

abbrev tlv (t : Tl) : Array Value := #[.int .i64 t.x, .int .i64 t.y, .int .i64 t.w, .int .i64 t.h]
abbrev Tls (L : List Tl) : List Value := L.flatMap fun t => (tlv t).toList
theorem Tls_len (L : List Tl) : (Tls L).length = 4 * L.length := by
  induction L with
  | nil => rfl
  | cons x L ih => simp only [Tls, List.flatMap_cons, List.length_append, List.length_cons] at ih ⊢; rw [ih]; show 4 + _ = _; omega
theorem Tls_at {L : List Tl} {i : Nat} (hi : i < L.length) : ((Tls L).drop (i * 4)).take 4 = (tlv L[i]).toList := by
  induction L generalizing i with
  | nil => simp at hi
  | cons b L ih =>
    have lb : (tlv b).toList.length = 4 := rfl
    cases i with
    | zero =>
      simp only [Tls, List.flatMap_cons, Nat.zero_mul, List.drop_zero, List.getElem_cons_zero]
      rw [List.take_append_of_le_length (by rw [lb]; exact Nat.le_refl _), List.take_of_length_le (by rw [lb]; exact Nat.le_refl _)]
    | succ i =>
      simp only [Tls, List.flatMap_cons, List.getElem_cons_succ]
      rw [List.drop_append, lb, List.drop_of_length_le (by rw [lb]; omega), List.nil_append, show (i + 1) * 4 - 4 = i * 4 by omega]
      exact ih (by simpa using hi)
theorem ixT {M : Mem} {A : Option Addr} {q : List Tl} (hR : Row M A (Tls q)) {n i : Nat} (hn : i < n) (hi : i < q.length) {P : Int → Int → Int → Int → Prop} (k : P q[i].x q[i].y q[i].w q[i].h) :
    ixS (idxA A n 4 (i : Int)) fun a => onS (M.intAt .i64 a.block a.off) fun x => onS (M.intAt .i64 a.block (a.off + 1)) fun y => onS (M.intAt .i64 a.block (a.off + 2)) fun w => onS (M.intAt .i64 a.block (a.off + 3)) fun h => P x y w h := by
  have hl := Tls_len q
  obtain ⟨a, h1, h2⟩ := hR.elt (s := 4) (n := n) (i := i) (z := (i : Int)) rfl hn (by decide) (by omega)
  have g : ∀ o, o < 4 → M.cell a.block (a.off + o) = (tlv q[i])[o]? := fun o ho => by
    rw [h2 o ho]
    have h3 := Tls_at hi
    have : (Tls q)[i * 4 + o]? = (((Tls q).drop (i * 4)).take 4)[o]? := by rw [List.getElem?_take_of_lt ho, List.getElem?_drop]
    rw [this, h3]
    simp
  exact ix h1 (on (cell_int (g 0 (by decide))) (on (cell_int (g 1 (by decide))) (on (cell_int (g 2 (by decide))) (on (cell_int (g 3 (by decide))) k))))
theorem rowN {M : Mem} {j : Nat} {l : List Value} {t : TypeId} (a : M.nb[j]? = some (.cells l.toArray t)) : Row M (some ⟨2 * j, 0, none⟩) l :=
  (show Own (fun _ => True) M t (some ⟨2 * j, 0, none⟩) l.length l from .inr ⟨j, _, none, rfl, .inl rfl, trivial, a, by simp, Nat.le_refl _, by simp⟩).row
theorem eqVs_refl : ∀ {l : List Value}, (∀ v ∈ l, eqV v v = true) → eqVs l l = true
  | [], _ => by simp [eqVs]
  | v :: l, h => by
    simp only [eqVs, Bool.and_eq_true]
    exact ⟨h v (List.mem_cons_self ..), eqVs_refl fun u hu => h u (List.mem_cons_of_mem _ hu)⟩
theorem eqVs_Bks (L : List Bk) : eqVs (Bks L) (Bks L) = true := eqVs_refl fun v hv => by
  obtain ⟨b, _, h⟩ := List.mem_flatMap.1 hv
  simp only [List.mem_cons, List.not_mem_nil, or_false] at h
  rcases h with h | h | h | h | h | h | h | h | h | h | h | h | h | h | h | h | h | h | h | h | h | h | h <;> rw [h] <;> first | exact eqV_int | exact eqV_bool
theorem fix_Bks {M : Mem} {j : Nat} {L : List Bk} {t : TypeId} (a : M.nb[j]? = some (.cells (Bks L).toArray t)) : Fix M (some ⟨2 * j, 0, none⟩) := fun b hb => by
  obtain rfl := Option.some.inj hb
  exact .inr ⟨j, _, t, rfl, a, by simpa using eqVs_Bks L⟩
def uA : Bk := { zB with w := 16, h := 16, sk := true }
def uB : Bk := { zB with x := 16, w := 8, h := 8, it := true, r0 := 1, v0 := 3, v1 := -4 }
abbrev bk4 (x y w h : Int) : Bk := { zB with x := x, y := y, w := w, h := h }
def lB : List Bk := [uA, uB, uA, bk4 60 0 8 8, bk4 56 0 16 8, bk4 0 32 24 8, bk4 (-8) 0 8 8, bk4 4 40 8 8, bk4 0 56 64 8, bk4 4611686018427387904 0 8 8]
def aS : List Ak := [⟨0, 16, 16, 0, 0⟩, ⟨16, 16, 16, 64, 0⟩, ⟨0, 32, 32, 8, 0⟩, ⟨0, 16, 32, 72, 0⟩, ⟨24, 0, 0, 8, 1⟩, ⟨16, 8, 0, 8, 1⟩, ⟨24, 0, 0, 8, 3⟩, ⟨4, 0, 0, 8, 0⟩, ⟨-8, -8, 16, 8, 0⟩, ⟨64, 0, 64, 8, 0⟩, ⟨-16, 0, 16, 8, 0⟩]
def tS : List Tl := [⟨0, 0, 60, 64⟩, ⟨32, 0, 8, 8⟩, ⟨192, 0, 72, 8⟩, ⟨0, 0, 0, 0⟩, ⟨-64, 0, 64, 64⟩, ⟨0, 256, 8, 8⟩, ⟨0, 0, 264, 8⟩, ⟨192, 192, 64, 64⟩]
theorem aS_in : ∀ a ∈ aS, a.in := by
  intro a ha
  simp only [aS, List.mem_cons, List.not_mem_nil, or_false] at ha
  rcases ha with h | h | h | h | h | h | h | h | h | h | h <;> subst h <;> (unfold Ak.in i64R; decide)
theorem lB_in : ∀ b ∈ lB, b.in := by
  intro a ha
  simp only [lB, List.mem_cons, List.not_mem_nil, or_false] at ha
  rcases ha with h | h | h | h | h | h | h | h | h | h <;> subst h <;> (unfold Bk.in i64R; decide)
theorem l3_in : ∀ b ∈ [uA, uB, uA], b.in := fun b hb => lB_in b (by simp only [List.mem_cons, List.not_mem_nil, or_false] at hb; rcases hb with h | h | h <;> subst h <;> simp [lB])
theorem tS_in : ∀ t ∈ tS, i64R t.x ∧ i64R t.y ∧ i64R t.w ∧ i64R t.h := by
  intro a ha
  simp only [tS, List.mem_cons, List.not_mem_nil, or_false] at ha
  rcases ha with h | h | h | h | h | h | h | h <;> subst h <;> (unfold i64R; decide)
section
variable {M : Mem} {jt ja jb jq : Nat}
abbrev QR : Value → Mem → Prop := fun v _ => v = .bool true
abbrev PN (j : Nat) : Option Addr := some ⟨2 * j, 0, none⟩
set_option maxHeartbeats 4000000 in
theorem e6_3 : ∀ (k i : Nat) {M : Mem}, i + k = 8 → M.floor ≤ M.nb.size → M.nb[jt]? = some (.cells (Tls tS).toArray 35) → M.nb[ja]? = some (.cells uA.cs 27) → M.nb[jb]? = some (.cells uB.cs 27) → M.nb[jq]? = some (.cells (Aks aS).toArray 56) →
      A6_3 (PN jt) 8 8 (PN ja) (PN jb) (PN jq) 11 11 (i : Int) M QR
  | k + 1, i, M, hk, hf, at_, aa, ab, aq => by
    have hi : i < tS.length := by show i < 8; omega
    have a3 := Mem.new_at M (.cells (Bks [uA, uB, uA]).toArray 27)
    have K3 : Keep M (M.new (.cells (Bks [uA, uB, uA]).toArray 27)) := .new _ _
    refine w6_3 (cT (decide_eq_true (by omega)) (ixT (rowN at_) (by omega) hi (ad rfl (on23 (bkAt aa) (ad rfl (on23 (bkAt ab) (ad rfl (on23 (bkAt aa) ?_))))))))
    refine Cn.mono (c5 (t := tS[i]) (l := [uA, uB, uA]) (q := aS) (fb hf K3) (tS_in _ (List.getElem_mem hi)) rfl rfl (rowN a3) (fix_Bks a3) l3_in (rowN (at_keep aq K3)) aS_in) ?_
    rintro _ N ⟨rfl, K⟩
    have T := K3.trans K
    refine ty rfl (cF rfl ?_)
    rw [i64w (x := (i : Int) + 1) (by omega)]
    exact e6_3 k (i + 1) (by omega) (fb hf T) (at_keep at_ T) (at_keep aa T) (at_keep ab T) (at_keep aq T)
  | 0, i, M, hk, hf, at_, aa, ab, aq => by
    have a3 := Mem.new_at M (.cells (Bks lB).toArray 27)
    have K3 : Keep M (M.new (.cells (Bks lB).toArray 27)) := .new _ _
    refine w6_3 (cF (decide_eq_false (by omega)) (ad rfl (on23 (bkAt aa) (ad rfl (on23 (bkAt ab) (ad rfl (on23 (bkAt aa) ?_)))))))
    show Cn Try.prog 7 #[] (M.new (.cells (Bks lB).toArray 27)) _
    refine Cn.known rfl (ty rfl (cT rfl ?_))
    generalize M.new (.cells (Bks lB).toArray 27) = M1 at a3 K3 ⊢
    have r64 : i64R 0 ∧ i64R 0 ∧ i64R 64 ∧ i64R 64 := by unfold i64R; decide
    have r642 : i64R 64 ∧ i64R 64 ∧ i64R 64 ∧ i64R 64 := by unfold i64R; decide
    have aq1 := at_keep aq K3
    refine Cn.mono (c5 (t := ⟨0, 0, 64, 64⟩) (l := lB) (q := aS) (fb hf K3) r64 rfl rfl (rowN a3) (fix_Bks a3) lB_in (rowN aq1) aS_in) ?_
    rintro _ N ⟨rfl, K⟩
    have T := K3.trans K
    have a3' := at_keep a3 K
    refine ty rfl (w6_5 (cT rfl (Cn.mono (c5 (t := ⟨64, 64, 64, 64⟩) (l := lB) (q := aS) (fb hf T) r642 rfl rfl (rowN a3') (fix_Bks a3') lB_in (rowN (at_keep aq T)) aS_in) ?_)))
    rintro _ N2 ⟨rfl, K2⟩
    exact ty rfl rfl
theorem c22 (hf : M.floor ≤ M.nb.size) : Cn Try.prog 22 #[] M fun v N => v = .tuple #[.agg uA.cs, .agg uB.cs] ∧ Keep M N := by
  have a := Mem.new_at M (.cells zB.cs 27)
  have K1 : Keep M (M.new (.cells zB.cs 27)) := .new _ _
  have z1 := Mem.new_size M (.cells zB.cs 27)
  refine w22_0 ?_
  show stP (some 23) uA.cs ((M.new (.cells zB.cs 27)).new (.cells zB.cs 27)) (2 * M.nb.size) 0 fun M1' => stP (some 23) uB.cs M1' (2 * (M.new (.cells zB.cs 27)).nb.size) 0 _
  generalize M.new (.cells zB.cs 27) = M1 at a K1 z1 ⊢
  have b := Mem.new_at M1 (.cells zB.cs 27)
  have K2 : Keep M1 (M1.new (.cells zB.cs 27)) := .new _ _
  generalize M1.new (.cells zB.cs 27) = M2 at b K2 ⊢
  have T2 := K1.trans K2
  refine stA (cs := uA.cs) (at_keep a K2) (by rw [T2.floor]; exact hf) rfl rfl rfl fun M3 C3 z3 a3 => ?_
  refine stA (cs := uB.cs) (at_chg b C3 (by omega)) (by rw [C3.floor, T2.floor]; omega) rfl rfl rfl fun M4 C4 z4 b4 => ?_
  exact ldA (at_chg a3 C4 (by omega)) rfl (ldA b4 rfl ⟨rfl, Keep.step (Keep.step T2 C3 fun i hi => by omega) C4 fun i hi => by omega⟩)
set_option maxHeartbeats 4000000 in
theorem c6 (hf : M.floor ≤ M.nb.size) : Cn Try.prog 6 #[] M QR := by
  refine w6_0 (e6_1 (by decide) hf (.inl rfl) fun N1 K1 => ?_)
  have a1 := Mem.new_at N1 (.cells #[.bool false, .int .i64 0, .int .i64 0, .int .i64 0, .int .i64 0, .slice none 0 0, .map none] 63)
  have KA : Keep N1 (N1.new (.cells #[.bool false, .int .i64 0, .int .i64 0, .int .i64 0, .int .i64 0, .slice none 0 0, .map none] 63)) := .new _ _
  have f1 := fb (fb hf K1) KA
  refine e6_1 (by decide) f1 (.inr ⟨_, _, _, rfl, a1, rfl⟩) fun N2 K2 => ?_
  have f2 := fb f1 K2
  have KB : Keep N2 (N2.new (.cells #[.bool false, .int .i64 0, .int .i64 0, .int .i64 0, .int .i64 0, .slice none 0 0, .map none] 63)) := .new _ _
  have f3 := fb f2 KB
  generalize N2.new (.cells #[.bool false, .int .i64 0, .int .i64 0, .int .i64 0, .int .i64 0, .slice none 0 0, .map none] 63) = M3 at f3 ⊢
  refine w6_1 (cF rfl ?_)
  have at_ := Mem.new_at M3 (.cells (Tls tS).toArray 35)
  have KC : Keep M3 (M3.new (.cells (Tls tS).toArray 35)) := .new _ _
  show Cn Try.prog 22 #[] (M3.new (.cells (Tls tS).toArray 35)) _
  generalize M3.new (.cells (Tls tS).toArray 35) = M4 at at_ KC ⊢
  have f4 := fb f3 KC
  refine Cn.mono (c22 f4) ?_
  rintro _ N5 ⟨rfl, K5⟩
  have f5 := fb f4 K5
  refine ty rfl (ty rfl (ac0 rfl (ty rfl (ac0 rfl (ty rfl (ac0 rfl (ty rfl (ac0 rfl ?_))))))))
  have aa := Mem.new_at N5 (.cells zB.cs 27)
  have K6 : Keep N5 (N5.new (.cells zB.cs 27)) := .new _ _
  have z6 := Mem.new_size N5 (.cells zB.cs 27)
  show stP (some 23) uA.cs ((N5.new (.cells zB.cs 27)).new (.cells zB.cs 27)) (2 * N5.nb.size) 0 fun M1' => stP (some 23) uB.cs M1' (2 * (N5.new (.cells zB.cs 27)).nb.size) 0 _
  generalize N5.new (.cells zB.cs 27) = M6 at aa K6 z6 ⊢
  have ab := Mem.new_at M6 (.cells zB.cs 27)
  have K7 : Keep M6 (M6.new (.cells zB.cs 27)) := .new _ _
  generalize M6.new (.cells zB.cs 27) = M7 at ab K7 ⊢
  have T7 := K6.trans K7
  refine stA (cs := uA.cs) (at_keep aa K7) (by rw [T7.floor]; exact f5) rfl rfl rfl fun M8 C8 z8 a8 => ?_
  refine stA (cs := uB.cs) (at_chg ab C8 (by omega)) (by rw [C8.floor, T7.floor]; omega) rfl rfl rfl fun M9 C9 z9 b9 => ?_
  have a9 := at_chg a8 C9 (by omega)
  have T9 : Keep N5 M9 := Keep.step (Keep.step T7 C8 fun i hi => by omega) C9 fun i hi => by omega
  have aq := Mem.new_at M9 (.cells (Aks aS).toArray 56)
  have K10 : Keep M9 (M9.new (.cells (Aks aS).toArray 56)) := .new _ _
  show A6_3 _ _ _ _ _ _ _ _ _ (M9.new (.cells (Aks aS).toArray 56)) _
  generalize M9.new (.cells (Aks aS).toArray 56) = M10 at aq K10 ⊢
  exact e6_3 8 0 (by decide) (fb (fb f5 T9) K10) (at_keep (at_keep (at_keep at_ K5) T9) K10) (at_keep a9 K10) (at_keep b9 K10) aq
end
theorem law6 {W : World} : Cn Try.prog 6 #[] (mem0 W) fun v _ => v = .bool true := c6 (Nat.le_refl _)
end Go.Zt
