/- Layer 17: the document's grid: New, side, in, At, Same, Blocks. -/
import Derived.Test.YtamlmpeiamkllaaZpU
import Derived.Test.YtamlmpeiamkllaaZpR
import Derived.Test.YtamlmpeiamkllaaZpF
set_option linter.unusedSimpArgs false
set_option linter.unusedVariables false
set_option maxRecDepth 100000
namespace Go.Zt
open Go Go.Sim Go.Proofs Go.RowKit

def RfAt (M : Mem) (j : Nat) (t : Tl) (A : Option Addr) (n c : Nat) : Prop := M.nb[j]? = some (.cells #[.int .i64 t.x, .int .i64 t.y, .int .i64 t.w, .int .i64 t.h, .slice A n c] 83)
structure Rf (V : Nat → Prop) (M : Mem) (j : Nat) (t : Tl) (L : List Bk) : Prop where
  may : t.may = true
  out : ¬ V j
  ok : ∀ b ∈ L, b.ok t = true
  len : L.length ≤ 1000
  ex : ∃ A c, RfAt M j t A L.length c ∧ Own V M 27 A (c * 23) (Bks L) ∧ L.length ≤ c
theorem Rf.chg {V T : Nat → Prop} {M N : Mem} {j : Nat} {t : Tl} {L : List Bk} (G : Rf V M j t L) (C : Chg T M N) (hT : ∀ i, i < M.nb.size → V i ∨ i = j → ¬ T i) : Rf V N j t L := by
  obtain ⟨A, c, h1, h2, h3⟩ := G.ex
  exact ⟨G.may, G.out, G.ok, G.len, A, c, at_chg h1 C (hT j (lt_of_at h1) (.inr rfl)), h2.chg C fun i hi hv => hT i hi (.inl hv), h3⟩
theorem Rf.keep {V : Nat → Prop} {M N : Mem} {j : Nat} {t : Tl} {L : List Bk} (G : Rf V M j t L) (K : Keep M N) : Rf V N j t L := G.chg K fun _ _ _ h => h
theorem cA4 {c : Bool} {X : Prop} (F : Bool → Prop) (b : Bool) (h : F (c && b)) (k : F b → X) : cnd c X (F false) := by
  cases c
  · exact h
  · exact k h
theorem ixldF {M : Mem} {A : Option Addr} {L : List Bk} (hR : Row M A (Bks L)) {n i : Nat} {z : Int} {b : Bk} (hz : z = (i : Int)) (hn : i < n) (hb : L[i]? = some b) {tys : List Sc} {p : List Value → Prop} (hf : fitL tys b.cs.toList = true) (k : p b.cs.toList) :
    ixS (idxA A n 23 z) fun a => ldP tys M a.block a.off p := by
  obtain ⟨hi, rfl⟩ := List.getElem?_eq_some_iff.1 hb
  obtain ⟨a, e1, e2⟩ := Bks.elt hR hz hn hi hf k
  exact ix e1 e2
theorem nq27 (a b : Bk) : binV Try.prog .neq 27 27 (.agg a.cs) (.agg b.cs) = some (.bool !(decide (a = b))) := by
  obtain ⟨z, h1, h2, h3⟩ := binV_eqA (P := Try.prog) (k := 5) (t := 27) (tb := 27) (xs := a.cs.toList) (ys := b.cs.toList) (by decide) (by kernel_rfl) (by kernel_rfl) (by kernel_rfl) (by kernel_rfl) (by kernel_rfl) rfl rfl
  have h2' : binV Try.prog .neq 27 27 (.agg a.cs) (.agg b.cs) = some (.bool !z) := h2
  have : z = decide (a = b) := by
    rw [Bool.eq_iff_iff, h3, decide_eq_true_eq]
    cases a
    cases b
    simp
  rw [h2', this]
section
variable {V : Nat → Prop} {M : Mem} {j : Nat} {t : Tl} {L : List Bk} {x y : Int}
set_option maxHeartbeats 1000000 in
theorem c16 (hf : M.floor ≤ M.nb.size) (hr : i64R t.x ∧ i64R t.y ∧ i64R t.w ∧ i64R t.h) : Cn Try.prog 16 #[.agg #[.int .i64 t.x, .int .i64 t.y, .int .i64 t.w, .int .i64 t.h]] M fun v N => Keep M N ∧ if t.may = true then ∃ j, M.nb.size ≤ j ∧ j < N.nb.size ∧ v = .tuple #[PtrB j, .int .i64 0] ∧ RfAt N j t none 0 0 else v = .tuple #[.pointer none, .int .i64 2] := by
  have s := Mem.new_at M (.cells #[.int .i64 t.x, .int .i64 t.y, .int .i64 t.w, .int .i64 t.h] 35)
  have K1 : Keep M (M.new (.cells #[.int .i64 t.x, .int .i64 t.y, .int .i64 t.w, .int .i64 t.h] 35)) := .new _ _
  have z1 := Mem.new_size M (.cells #[.int .i64 t.x, .int .i64 t.y, .int .i64 t.w, .int .i64 t.h] 35)
  refine w16_0 ?_
  generalize M.new (.cells #[.int .i64 t.x, .int .i64 t.y, .int .i64 t.w, .int .i64 t.h] 35) = M1 at s K1 z1 ⊢
  generalize hQ : (fun v N => Keep M N ∧ if t.may = true then ∃ j, M.nb.size ≤ j ∧ j < N.nb.size ∧ v = .tuple #[PtrB j, .int .i64 0] ∧ RfAt N j t none 0 0 else v = .tuple #[.pointer none, .int .i64 2] : Value → Mem → Prop) = Q
  have hm : t.may = true ↔ (0 ≤ t.x ∧ t.x ≤ 192 ∧ t.x % 64 = 0 ∧ 8 ≤ t.w ∧ t.w ≤ 256 ∧ t.w % 8 = 0 ∧ t.x + t.w ≤ 256) ∧ (0 ≤ t.y ∧ t.y ≤ 192 ∧ t.y % 64 = 0 ∧ 8 ≤ t.h ∧ t.h ≤ 256 ∧ t.h % 8 = 0 ∧ t.y + t.h ≤ 256) := by
    unfold Tl.may spanB
    rw [Bool.and_eq_true, decide_eq_true_eq, decide_eq_true_eq]
  have t1 : t.x.tmod 64 = 0 ↔ t.x % 64 = 0 := tmod_eq 64 (by decide)
  have t2 : t.y.tmod 64 = 0 ↔ t.y % 64 = 0 := tmod_eq 64 (by decide)
  have t3 : t.w.tmod 8 = 0 ↔ t.w % 8 = 0 := tmod_eq 8 (by decide)
  have t4 : t.h.tmod 8 = 0 ↔ t.h % 8 = 0 := tmod_eq 8 (by decide)
  unfold i64R at hr
  have bad : ¬ (t.may = true) → Q (.tuple #[.pointer none, .int .i64 2]) M1 := fun h => by
    subst hQ
    refine ⟨K1, ?_⟩
    rw [if_neg h]
  have k12 : ∀ z : Bool, (z = true ↔ ¬ (t.may = true)) → A16_12 (some ⟨2 * M.nb.size, 0, none⟩) z M1 Q := by
    intro z hz
    cases z with
    | true => exact w16_12 (cT rfl (bad (hz.1 rfl)))
    | false =>
      have hy : t.may = true := by
        cases h : t.may with
        | true => rfl
        | false => exact absurd (hz.2 (by rw [h]; simp)) (by simp)
      refine w16_12 (cF rfl (ad rfl (on (int_of (i := 0) s rfl) (on (int_of (i := 0 + 1) s rfl) (on (int_of (i := 0 + 2) s rfl) (on (int_of (i := 0 + 3) s rfl) ?_))))))
      subst hQ
      refine ⟨K1.trans (.new _ _), ?_⟩
      rw [if_pos hy]
      exact ⟨M1.nb.size, by omega, by rw [Mem.new_size]; omega, rfl, Mem.new_at _ _⟩
  have k5 : ∀ z : Bool, (z = true ↔ ¬ (0 ≤ t.x ∧ t.x ≤ 192 ∧ t.x % 64 = 0 ∧ 0 ≤ t.y ∧ t.y ≤ 192 ∧ t.y % 64 = 0)) → A16_5 (some ⟨2 * M.nb.size, 0, none⟩) z M1 Q := by
    intro z hz
    cases z with
    | true => exact w16_5 (cT rfl (bad (by rw [hm]; have := hz.1 rfl; omega)))
    | false =>
      have hp : 0 ≤ t.x ∧ t.x ≤ 192 ∧ t.x % 64 = 0 ∧ 0 ≤ t.y ∧ t.y ≤ 192 ∧ t.y % 64 = 0 := Classical.byContradiction fun h => absurd (hz.2 h) (by simp)
      refine w16_5 (cF rfl (ad rfl (on (int_of (i := 0 + 2) s rfl) ?_)))
      refine cO2 (c := decide (t.w > 256)) (fun z => A16_6 (some ⟨2 * M.nb.size, 0, none⟩) z M1 Q) (w16_6 ?_) fun h => ad rfl (on (int_of (i := 0 + 2) s rfl) h)
      refine cO2 (c := (t.w.tmod 8) != 0) (fun z => A16_7 (some ⟨2 * M.nb.size, 0, none⟩) z M1 Q) (w16_7 ?_) fun h => ad rfl (on (int_of (i := 0 + 2) s rfl) h)
      refine cO2 (c := decide (t.h < 8)) (fun z => A16_8 (some ⟨2 * M.nb.size, 0, none⟩) z M1 Q) (w16_8 ?_) fun h => ad rfl (on (int_of (i := 0 + 3) s rfl) h)
      refine cO2 (c := decide (t.h > 256)) (fun z => A16_9 (some ⟨2 * M.nb.size, 0, none⟩) z M1 Q) (w16_9 ?_) fun h => ad rfl (on (int_of (i := 0 + 3) s rfl) h)
      refine cO2 (c := (t.h.tmod 8) != 0) (fun z => A16_10 (some ⟨2 * M.nb.size, 0, none⟩) z M1 Q) (w16_10 ?_) fun h => ad rfl (on (int_of (i := 0 + 3) s rfl) h)
      refine cO2 (c := decide ((IntKind.i64.wrap (t.x + t.w)) > 256)) (fun z => A16_11 (some ⟨2 * M.nb.size, 0, none⟩) z M1 Q) (w16_11 ?_) fun h => ad rfl (on (int_of (i := 0) s rfl) (ad rfl (on (int_of (i := 0 + 2) s rfl) h)))
      refine cO2 (c := decide ((IntKind.i64.wrap (t.y + t.h)) > 256)) (fun z => A16_12 (some ⟨2 * M.nb.size, 0, none⟩) z M1 Q) (k12 _ ?_) fun h => ad rfl (on (int_of (i := 0 + 1) s rfl) (ad rfl (on (int_of (i := 0 + 3) s rfl) h)))
      simp only [Bool.or_eq_true, decide_eq_true_eq, bne_iff_ne, ne_eq]
      rw [hm, IntKind.wrap_i64, IntKind.wrap_i64, t3, t4]
      omega
  refine on (int_of (i := 0) s rfl) ?_
  refine cO2 (c := decide (t.x > 192)) (fun z => A16_1 (some ⟨2 * M.nb.size, 0, none⟩) z M1 Q) (w16_1 ?_) fun h => on (int_of (i := 0) s rfl) h
  refine cO2 (c := (t.x.tmod 64) != 0) (fun z => A16_2 (some ⟨2 * M.nb.size, 0, none⟩) z M1 Q) (w16_2 ?_) fun h => ad rfl (on (int_of (i := 0) s rfl) h)
  refine cO2 (c := decide (t.y < 0)) (fun z => A16_3 (some ⟨2 * M.nb.size, 0, none⟩) z M1 Q) (w16_3 ?_) fun h => ad rfl (on (int_of (i := 0 + 1) s rfl) h)
  refine cO2 (c := decide (t.y > 192)) (fun z => A16_4 (some ⟨2 * M.nb.size, 0, none⟩) z M1 Q) (w16_4 ?_) fun h => ad rfl (on (int_of (i := 0 + 1) s rfl) h)
  refine cO2 (c := (t.y.tmod 64) != 0) (fun z => A16_5 (some ⟨2 * M.nb.size, 0, none⟩) z M1 Q) (k5 _ ?_) fun h => ad rfl (on (int_of (i := 0 + 1) s rfl) h)
  simp only [Bool.or_eq_true, decide_eq_true_eq, bne_iff_ne, ne_eq]
  rw [t1, t2]
  omega
theorem c34 : Cn Try.prog 34 #[.int .i64 x] M fun v N => v = .bool (sideB x) ∧ N = M := by
  refine w34_0 (cO (fun z => A34_1 x z M _) (w34_1 (cO (fun z => A34_2 x z M _) (w34_2 ?_))))
  refine cO (fun z => (fun v N => v = Value.bool (sideB x) ∧ N = M) (.bool z) M) ⟨?_, rfl⟩
  congr 1
  unfold sideB
  rw [Bool.eq_iff_iff]
  simp only [Bool.or_eq_true, beq_iff_eq, decide_eq_true_eq]
  omega
theorem c35 {A : Option Addr} {n c : Nat} (g : RfAt M j t A n c) (hm : t.may = true) : Cn Try.prog 35 #[PtrB j, .int .i64 x, .int .i64 y] M fun v N => v = .bool (t.in x y) ∧ N = M := by
  unfold Tl.may spanB at hm
  simp only [Bool.and_eq_true, decide_eq_true_eq] at hm
  refine w35_0 (ad rfl (on (int_of (i := 0) g rfl) ?_))
  refine cA4 (fun z => A35_1 (some ⟨2 * j, 0, none⟩) x y z M _) (decide (y ≥ t.y)) (w35_1 ?_) fun h => ad rfl (on (int_of (i := 0 + 1) g rfl) h)
  refine cA4 (fun z => A35_2 (some ⟨2 * j, 0, none⟩) y z M _) (decide (x < IntKind.i64.wrap (t.x + t.w))) (w35_2 ?_) fun h => ad rfl (on (int_of (i := 0) g rfl) (ad rfl (on (int_of (i := 0 + 2) g rfl) h)))
  refine cA4 (fun z => (fun v N => v = Value.bool (t.in x y) ∧ N = M) (.bool z) M) (decide (y < IntKind.i64.wrap (t.y + t.h))) ⟨?_, rfl⟩ fun h => ad rfl (on (int_of (i := 0 + 1) g rfl) (ad rfl (on (int_of (i := 0 + 3) g rfl) h)))
  rw [i64w (x := t.x + t.w) (by omega), i64w (x := t.y + t.h) (by omega)]
  congr 1
  unfold Tl.in
  rw [Bool.eq_iff_iff]
  simp only [Bool.and_eq_true, decide_eq_true_eq]
  omega
theorem e36 {M0 : Mem} {jr : Nat} (hf : M0.floor ≤ M0.nb.size) (hj : M0.nb.size ≤ jr) :
    ∀ (q i : Nat) {M : Mem}, i + q = L.length → Keep M0 M → Rf V M j t L → M.nb[jr]? = some (.cells zB.cs 27) → atS x y L = atS x y (L.drop i) →
      A36_1 (some ⟨2 * j, 0, none⟩) x y (some ⟨2 * jr, 0, none⟩) (i : Int) M fun v N => v = atV (atS x y L) ∧ Keep M0 N
  | 0, i, M, hq, K, G, a, hd => by
    obtain ⟨A, c, g, o, _⟩ := G.ex
    have fj : M.floor ≤ jr := by rw [K.floor]; omega
    refine w36_1 (ad rfl (on (sl_of (i := 0 + 4) g rfl) (cF (decide_eq_false (show ¬ ((i : Int) < (L.length : Int)) by omega)) (ad rfl ?_))))
    refine stA (cs := zB.cs) a fj rfl rfl rfl fun M2 C2 z2 a2 => ad rfl (ldA a2 rfl ⟨?_, Keep.step K C2 fun i hi => by omega⟩)
    rw [hd, List.drop_of_length_le (by omega)]
    rfl
  | q + 1, i, M, hq, K, G, a, hd => by
    obtain ⟨A, c, g, o, _⟩ := G.ex
    have hm := G.may
    unfold Tl.may spanB at hm
    simp only [Bool.and_eq_true, decide_eq_true_eq] at hm
    have fj : M.floor ≤ jr := by rw [K.floor]; omega
    have hi : i < L.length := by omega
    have hL := G.len
    have f0 := fb hf K
    have lj := lt_of_at a
    have hb := Bk.ok_iff.1 (G.ok _ (List.getElem_mem hi))
    rw [List.drop_eq_getElem_cons hi] at hd
    refine w36_1 (ad rfl (on (sl_of (i := 0 + 4) g rfl) (cT (decide_eq_true (show (i : Int) < (L.length : Int) by omega)) (ad rfl (on (sl_of (i := 0 + 4) g rfl) (ixldF o.row rfl hi (List.getElem?_eq_getElem hi) rfl (stN (cs := L[i].cs) f0 rfl rfl rfl fun M1 K1 z1 b1 => ?_)))))))
    have K' := K.trans K1
    have e : ((((decide (x ≥ L[i].x)) && decide (x < IntKind.i64.wrap (L[i].x + L[i].w))) && decide (y ≥ L[i].y)) && decide (y < IntKind.i64.wrap (L[i].y + L[i].h))) = L[i].cov x y := by
      rw [i64w (x := L[i].x + L[i].w) (by omega), i64w (x := L[i].y + L[i].h) (by omega)]
      unfold Bk.cov
      rw [Bool.eq_iff_iff]
      simp only [Bool.and_eq_true, decide_eq_true_eq]
      omega
    have k4 : ∀ z : Bool, z = L[i].cov x y → A36_4 (some ⟨2 * j, 0, none⟩) x y (some ⟨2 * jr, 0, none⟩) (i : Int) (some ⟨2 * M.nb.size, 0, none⟩) z M1 fun v N => v = atV (atS x y L) ∧ Keep M0 N := by
      intro z hz
      cases z with
      | true =>
        refine w36_4 (cT rfl (ad rfl (ldA b1 rfl (ad rfl (stA (cs := L[i].cs) (at_keep a K1) (by rw [K1.floor]; exact fj) rfl rfl rfl fun M2 C2 z2 a2 => ad rfl (ldA a2 rfl ⟨?_, Keep.step K' C2 fun i hi => by omega⟩))))))
        rw [hd]
        unfold atS
        rw [if_pos hz.symm]
        rfl
      | false =>
        refine w36_4 (cF rfl ?_)
        rw [i64w (x := (i : Int) + 1) (by omega)]
        refine e36 hf hj q (i + 1) (by omega) K' (G.keep K1) (at_keep a K1) ?_
        rw [hd]
        conv => lhs; unfold atS
        rw [if_neg (by rw [← hz]; simp)]
    refine on (int_of (i := 0) b1 rfl) ?_
    refine cA4 (fun z => A36_2 (some ⟨2 * j, 0, none⟩) x y (some ⟨2 * jr, 0, none⟩) (i : Int) (some ⟨2 * M.nb.size, 0, none⟩) z M1 _) (decide (x < IntKind.i64.wrap (L[i].x + L[i].w))) (w36_2 ?_) fun h => on (int_of (i := 0) b1 rfl) (on (int_of (i := 0 + 2) b1 rfl) h)
    refine cA4 (fun z => A36_3 (some ⟨2 * j, 0, none⟩) x y (some ⟨2 * jr, 0, none⟩) (i : Int) (some ⟨2 * M.nb.size, 0, none⟩) z M1 _) (decide (y ≥ L[i].y)) (w36_3 ?_) fun h => ad rfl (on (int_of (i := 0 + 1) b1 rfl) h)
    exact cA4 (fun z => A36_4 (some ⟨2 * j, 0, none⟩) x y (some ⟨2 * jr, 0, none⟩) (i : Int) (some ⟨2 * M.nb.size, 0, none⟩) z M1 _) (decide (y < IntKind.i64.wrap (L[i].y + L[i].h))) (k4 _ e) fun h => ad rfl (on (int_of (i := 0 + 1) b1 rfl) (ad rfl (on (int_of (i := 0 + 3) b1 rfl) h)))
theorem c36 (hf : M.floor ≤ M.nb.size) (G : Rf V M j t L) : Cn Try.prog 36 #[PtrB j, .int .i64 x, .int .i64 y] M fun v N => v = atV (atS x y L) ∧ Keep M N :=
  w36_0 (e36 hf (Nat.le_refl _) L.length 0 (by omega) (.new _ _) (G.keep (.new _ _)) (Mem.new_at _ _) rfl)
theorem c20 (hf : M.floor ≤ M.nb.size) (G : Rf V M j t L) : Cn Try.prog 20 #[PtrB j] M fun v N => ∃ A' c', v = .slice A' L.length c' ∧ Keep M N ∧ Own (fun i => M.nb.size ≤ i) N 27 A' (c' * 23) (Bks L) ∧ L.length ≤ c' := by
  obtain ⟨A, c, g, o, _⟩ := G.ex
  have hL := G.len
  obtain ⟨A', c', M2, p, C2, O2, h2⟩ := append_own elem43 (S := fun i => M.nb.size ≤ i) (M := M) (A := none) (c := 0) (L := []) (.inl ⟨rfl, rfl, rfl⟩) (n := 0) rfl o.row (k := L.length) (cx := c) (by rw [Bks_len, Nat.mul_comm]) (Bks_one L) (fun i hi => by omega) (Nat.le_refl _) (by omega)
  rw [Nat.zero_add] at p h2
  exact w20_0 (ad rfl (on (sl_of (i := 0 + 4) g rfl) (me p (ty rfl ⟨A', c', rfl, Keep.step (.refl _) C2 fun i hi => hi, O2, h2⟩))))
theorem c19 {A B : Option Addr} {n c n' c' : Nat} (R : Row M A (Bks L)) (R' : Row M B (Bks L)) (hn : n = L.length) (hn' : n' = L.length) (hb : L.length ≤ 1000) : Cn Try.prog 19 #[.slice A n c, .slice B n' c'] M fun v N => v = .bool true ∧ N = M := by
  subst hn
  subst hn'
  have loop : ∀ (q i : Nat), i + q = L.length → A19_1 A L.length c B L.length c' (i : Int) M fun v N => v = .bool true ∧ N = M := by
    intro q
    induction q with
    | zero => exact fun i hi => w19_1 (cF (decide_eq_false (by omega)) ⟨rfl, rfl⟩)
    | succ q ih =>
      intro i hi
      have h : i < L.length := by omega
      refine w19_1 (cT (decide_eq_true (by omega)) (ixldF R rfl h (List.getElem?_eq_getElem h) rfl (ixldF R' rfl h (List.getElem?_eq_getElem h) rfl (pu (nq27 _ _) (ty rfl ?_)))))
      rw [decide_eq_true rfl]
      refine cF rfl ?_
      rw [i64w (x := (i : Int) + 1) (by omega)]
      exact ih (i + 1) (by omega)
  exact w19_0 (cF (by simp) (loop L.length 0 (by omega)))
end
end Go.Zt
