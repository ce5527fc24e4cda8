/- Layer 17: told: the program's grid and the document's tell alike. Printed by genK.py. -/
import Derived.Test.YtamlmpeiamkllaaZpF
import Derived.Test.YtamlmpeiamkllaaZpH
import Derived.Test.YtamlmpeiamkllaaZpQ
import Derived.Test.YtamlmpeiamkllaaProg
import Derived.Test.YtamlmpeiamkllaaZpA
import Derived.Test.YtamlmpeiamkllaaZrT
set_option linter.unusedSimpArgs false
set_option linter.unusedVariables false
set_option maxRecDepth 100000
namespace Go.Zt
open Go Go.Sim Go.Proofs Go.RowKit

theorem ev25 (a b c d : Int) : binV Try.prog .eql 25 25 (.agg #[.int .i64 a, .int .i64 b, .int .i64 c, .int .i64 d]) (.agg #[.int .i64 a, .int .i64 b, .int .i64 c, .int .i64 d]) = some (.bool true) := by
  obtain ⟨z, h1, h2, h3⟩ := binV_eqA (P := Try.prog) (k := 4) (t := 25) (tb := 25) (xs := [.int .i64 a, .int .i64 b, .int .i64 c, .int .i64 d]) (ys := [.int .i64 a, .int .i64 b, .int .i64 c, .int .i64 d]) (by decide) (by kernel_rfl) (by kernel_rfl) (by kernel_rfl) (by kernel_rfl) (by kernel_rfl) rfl rfl
  rw [h1, h3.2 rfl]
theorem nn (x : Int) : (x != x) = false := by simp
theorem tup_cnt {f : Bk → Bool} {L : List Bk} {t : Tl} {x y : Int} : ∃ a e : Int, cntV f L t x y = .tuple #[.int .i64 a, .int .i64 e] := ⟨_, _, cn_nbr⟩
theorem tup_part {L : List Bk} {t : Tl} {x y s : Int} : ∃ a e : Int, partV L t x y s = .tuple #[.int .i64 a, .int .i64 e] := by
  unfold partV
  split
  · exact ⟨_, _, rfl⟩
  · exact ⟨_, _, rfl⟩
theorem tup_vecs {L : List Bk} {t : Tl} {x y w r : Int} : ∃ p q u s k e : Int, vecsV L t x y w r = .tuple #[.agg #[.int .i64 p, .int .i64 q, .int .i64 u, .int .i64 s], .int .i64 k, .int .i64 e] := by
  have oc4 : ∀ W : List (Int × Int), ∃ p q u s : Int, outC W = #[.int .i64 p, .int .i64 q, .int .i64 u, .int .i64 s] := fun W => by
    match W with
    | [] => exact ⟨0, 0, 0, 0, rfl⟩
    | [a] => exact ⟨a.1, a.2, 0, 0, rfl⟩
    | a :: b :: _ => exact ⟨a.1, a.2, b.1, b.2, rfl⟩
  unfold vecsV
  split
  · obtain ⟨p, q, u, s, h⟩ := oc4 (vecsS L x y w r)
    exact ⟨p, q, u, s, _, _, by rw [h]⟩
  · exact ⟨0, 0, 0, 0, 0, 2, rfl⟩
section
variable {V U : Nat → Prop} {M : Mem} {jg jm jr : Nat} {t : Tl} {L : List Bk} {a0 a1 a2 a3 a4 : Int}
set_option maxHeartbeats 4000000 in
theorem c18 (hf : M.floor ≤ M.nb.size) (G : Gr V M jg jm t L) (R : Rf U M jr t L) (h0 : i64R a0) (h1 : i64R a1) (h3 : i64R a3) (h4 : i64R a4) :
    Cn Try.prog 18 #[PtrB jg, PtrB jr, .agg #[.int .i64 a0, .int .i64 a1, .int .i64 a2, .int .i64 a3, .int .i64 a4]] M fun v N => v = .bool true ∧ Keep M N := by
  have s := Mem.new_at M (.cells #[.int .i64 a0, .int .i64 a1, .int .i64 a2, .int .i64 a3, .int .i64 a4] 56)
  have K1 : Keep M (M.new (.cells #[.int .i64 a0, .int .i64 a1, .int .i64 a2, .int .i64 a3, .int .i64 a4] 56)) := .new _ _
  refine w18_0 ?_
  generalize M.new (.cells #[.int .i64 a0, .int .i64 a1, .int .i64 a2, .int .i64 a3, .int .i64 a4] 56) = M1 at s K1 ⊢
  refine on (int_of (i := 0) s rfl) (on (int_of (i := 0 + 1) s rfl) (Cn.mono (c14 (fb hf K1) (G.keep K1) h0 h1) ?_))
  rintro _ N1 ⟨rfl, K2⟩
  have T2 := K1.trans K2
  have k1 : ∀ {N : Mem}, Keep M1 N → A18_1 (some ⟨2 * jg, 0, none⟩) (some ⟨2 * jr, 0, none⟩) (some ⟨2 * M.nb.size, 0, none⟩) false N fun v N => v = .bool true ∧ Keep M N := by
    intro N KN
    have T := K1.trans KN
    have s' := at_keep s KN
    refine w18_1 (cF rfl (ad rfl (on (int_of (i := 0) s' rfl) (ad rfl (on (int_of (i := 0 + 1) s' rfl) (ad rfl (on (int_of (i := 0 + 2) s' rfl) (Cn.mono (c21 (s := a2) (fb hf T) (G.keep T) h0 h1) ?_))))))))
    obtain ⟨u1, e1, hu1⟩ := tup_part (L := L) (t := t) (x := a0) (y := a1) (s := a2)
    rw [hu1]
    rintro _ P1 ⟨rfl, KP⟩
    have T := T.trans KP
    have s' := at_keep s' KP
    refine ty rfl (ty rfl (ty rfl (ad rfl (on (int_of (i := 0) s' rfl) (ad rfl (on (int_of (i := 0 + 1) s' rfl) (ad rfl (on (int_of (i := 0 + 2) s' rfl) (Cn.mono (c37 (s := a2) (fb hf T) (R.keep T) h0 h1) ?_)))))))))
    rw [hu1]
    rintro _ R1 ⟨rfl, KP⟩
    have T := T.trans KP
    have s' := at_keep s' KP
    refine ty rfl (ty rfl (ty rfl (cF (nn _) ?_)))
    rw [nn]
    refine w18_2 (cF rfl (ad rfl (on (int_of (i := 0) s' rfl) (ad rfl (on (int_of (i := 0 + 1) s' rfl) (Cn.mono (c11 (fb hf T) (G.keep T) h0 h1) ?_))))))
    obtain ⟨u2, e2, hu2⟩ := tup_cnt (f := Bk.sk) (L := L) (t := t) (x := a0) (y := a1)
    rw [hu2]
    rintro _ P2 ⟨rfl, KP⟩
    have T := T.trans KP
    have s' := at_keep s' KP
    refine ty rfl (ty rfl (ty rfl (ad rfl (on (int_of (i := 0) s' rfl) (ad rfl (on (int_of (i := 0 + 1) s' rfl) (Cn.mono (c38 (fb hf T) (R.keep T)) ?_)))))))
    rw [hu2]
    rintro _ R2 ⟨rfl, KP⟩
    have T := T.trans KP
    have s' := at_keep s' KP
    refine ty rfl (ty rfl (ty rfl (cF (nn _) ?_)))
    rw [nn]
    refine w18_3 (cF rfl (ad rfl (on (int_of (i := 0) s' rfl) (ad rfl (on (int_of (i := 0 + 1) s' rfl) (Cn.mono (c12 (fb hf T) (G.keep T) h0 h1) ?_))))))
    obtain ⟨u3, e3, hu3⟩ := tup_cnt (f := Bk.it) (L := L) (t := t) (x := a0) (y := a1)
    rw [hu3]
    rintro _ P3 ⟨rfl, KP⟩
    have T := T.trans KP
    have s' := at_keep s' KP
    refine ty rfl (ty rfl (ty rfl (ad rfl (on (int_of (i := 0) s' rfl) (ad rfl (on (int_of (i := 0 + 1) s' rfl) (Cn.mono (c39 (fb hf T) (R.keep T)) ?_)))))))
    rw [hu3]
    rintro _ R3 ⟨rfl, KP⟩
    have T := T.trans KP
    have s' := at_keep s' KP
    refine ty rfl (ty rfl (ty rfl (cF (nn _) ?_)))
    rw [nn]
    refine w18_4 (cF rfl (ad rfl (on (int_of (i := 0) s' rfl) (ad rfl (on (int_of (i := 0 + 1) s' rfl) (ad rfl (on (int_of (i := 0 + 3) s' rfl) (ad rfl (on (int_of (i := 0 + 2) s' rfl) (stN (cs := #[.int .i64 a0, .int .i64 a1, .int .i64 a3, .int .i64 a2]) (fb hf T) rfl rfl rfl fun M5 K5 z5 b5 => ?_))))))))))
    have T := T.trans K5
    have s' := at_keep s' K5
    have hr : i64R a0 ∧ i64R a1 ∧ i64R a3 ∧ i64R a4 := ⟨h0, h1, h3, h4⟩
    obtain ⟨p, q, u, v, k, e, hv⟩ := tup_vecs (L := L) (t := t) (x := a0) (y := a1) (w := a3) (r := a4)
    refine on (int_of (i := 0) b5 rfl) (on (int_of (i := 0 + 1) b5 rfl) (on (int_of (i := 0 + 2) b5 rfl) (on (int_of (i := 0 + 3) b5 rfl) (ad rfl (on (int_of (i := 0 + 4) s' rfl) (Cn.mono (c10 (fb hf T) (G.keep T) hr) ?_))))))
    rw [hv]
    rintro _ N6 ⟨rfl, K6⟩
    have T := T.trans K6
    refine ty rfl (ty rfl (ty rfl (ty rfl (ty rfl (ty rfl (ty rfl (ty rfl (stN (cs := #[.int .i64 p, .int .i64 q, .int .i64 u, .int .i64 v]) (fb hf T) rfl rfl rfl fun M7 K7 z7 b7 => ?_))))))))
    have T := T.trans K7
    have b5 := at_keep (at_keep b5 K6) K7
    have s' := at_keep (at_keep s' K6) K7
    refine on (int_of (i := 0) b5 rfl) (on (int_of (i := 0 + 1) b5 rfl) (on (int_of (i := 0 + 2) b5 rfl) (on (int_of (i := 0 + 3) b5 rfl) (ad rfl (on (int_of (i := 0 + 4) s' rfl) (Cn.mono (c40 (fb hf T) (R.keep T)) ?_))))))
    rw [hv]
    rintro _ N8 ⟨rfl, K8⟩
    have T := T.trans K8
    refine ty rfl (ty rfl (ty rfl (ty rfl (ty rfl (ty rfl (ty rfl (ty rfl (stN (cs := #[.int .i64 p, .int .i64 q, .int .i64 u, .int .i64 v]) (fb hf T) rfl rfl rfl fun M9 K9 z9 b9 => ?_))))))))
    have T := T.trans K9
    have b7 := at_keep (at_keep b7 K8) K9
    refine on (int_of (i := 0) b7 rfl) (on (int_of (i := 0 + 1) b7 rfl) (on (int_of (i := 0 + 2) b7 rfl) (on (int_of (i := 0 + 3) b7 rfl) (on (int_of (i := 0) b9 rfl) (on (int_of (i := 0 + 1) b9 rfl) (on (int_of (i := 0 + 2) b9 rfl) (on (int_of (i := 0 + 3) b9 rfl) (pu (ev25 ..) (ty rfl (cT rfl (cT (by simp) ⟨by simp, T⟩)))))))))))
  obtain ⟨b, f, hv⟩ : ∃ b f, atV (atS a0 a1 L) = .tuple #[.agg (Bk.cs b), .bool f] := by
    cases atS a0 a1 L with
    | none => exact ⟨zB, false, rfl⟩
    | some b => exact ⟨b, true, rfl⟩
  rw [hv]
  refine ty rfl (ty rfl (ac0 rfl (ty rfl (ty rfl (ac0 rfl (stN (cs := b.cs) (fb hf T2) rfl rfl rfl fun M3 K3 z3 b3 => ?_))))))
  have T3 := T2.trans K3
  have s3 := at_keep (at_keep s K2) K3
  refine on (int_of (i := 0) s3 rfl) (on (int_of (i := 0 + 1) s3 rfl) (Cn.mono (c36 (fb hf T3) (R.keep T3)) ?_))
  rw [hv]
  rintro _ N4 ⟨rfl, K4⟩
  have T4 := T3.trans K4
  refine ty rfl (ty rfl (ac0 rfl (ty rfl (ty rfl (ac0 rfl (stN (cs := b.cs) (fb hf T4) rfl rfl rfl fun M5 K5 z5 b5 => ?_))))))
  have b3' := at_keep (at_keep b3 K4) K5
  refine ldA b3' rfl (ldA b5 rfl (pu (nq27 _ _) (ty rfl ?_)))
  rw [decide_eq_true rfl]
  refine cF rfl ?_
  have e : (!(f == f)) = false := by cases f <;> rfl
  rw [e]
  exact k1 (((K2.trans K3).trans K4).trans K5)
end
end Go.Zt

/- Layer 17: Bring, Blocks; the owners' plain law. -/
set_option linter.unusedSimpArgs false
set_option linter.unusedVariables false
set_option maxRecDepth 100000
namespace Go.Zt
open Go Go.Sim Go.Proofs Go.RowKit

def bring (x n : Int) : Int := if x.tmod n < 0 then x.tmod n + n else x.tmod n
theorem bring_lt (x : Int) {n : Int} (h : 0 < n) : 0 ≤ bring x n ∧ bring x n < n := by
  have h1 := Int.tmod_lt_of_pos x h
  have h2 := Int.lt_tmod_of_pos x h
  unfold bring
  split <;> omega
section
variable {V : Nat → Prop} {M : Mem} {j jm : Nat} {t : Tl} {L : List Bk}
theorem c13 {x n : Int} (h : 0 < n) (hn : n ≤ 1000) : Cn Try.prog 13 #[.int .i64 x, .int .i64 n] M fun v N => v = .int .i64 (bring x n) ∧ N = M := by
  have h1 := Int.tmod_lt_of_pos x h
  have h2 := Int.lt_tmod_of_pos x h
  refine w13_0 (cF (decide_eq_false (by omega)) (pu (binV_rem (by omega)) (ty rfl ?_)))
  unfold bring
  by_cases h3 : x.tmod n < 0
  · rw [if_pos h3]
    exact cT (decide_eq_true h3) ⟨by rw [i64w (by omega)], rfl⟩
  · rw [if_neg h3]
    exact cF (decide_eq_false h3) ⟨rfl, rfl⟩
/-- A row of blocks is copied. -/
theorem c33 {A : Option Addr} {n c : Nat} (hf : M.floor ≤ M.nb.size) (R : Row M A (Bks L)) (hA : A = none → L = []) (hn : n = L.length) (hb : n ≤ 10000) :
    Cn Try.prog 33 #[.slice A n c] M fun v N => ∃ A' c', v = .slice A' n c' ∧ Keep M N ∧ Own (fun i => M.nb.size ≤ i) N 27 A' (c' * 23) (Bks L) ∧ n ≤ c' := by
  refine w33_0 ?_
  cases A with
  | none =>
    have := hA rfl
    subst this
    subst hn
    exact cT rfl ⟨none, 0, rfl, .refl _, .inl ⟨rfl, rfl, rfl⟩, Nat.le_refl _⟩
  | some a =>
    have K : Keep M (M.new (.cells #[] 27)) := .new _ _
    have O : Own (fun i => M.nb.size ≤ i) (M.new (.cells #[] 27)) 27 (some ⟨2 * M.nb.size, 0, none⟩) (0 * 23) [] := .inr ⟨_, _, none, rfl, .inl rfl, Nat.le_refl _, Mem.new_at _ _, rfl, Nat.le_refl _, Nat.le_refl _⟩
    obtain ⟨A', c', M2, p, C2, O2, h2⟩ := append_own elem43 O (n := 0) rfl (R.keep K) (k := n) (cx := c) (by rw [Bks_len, hn, Nat.mul_comm]) (Bks_one L) (fun i hi => by rw [K.floor]; omega) (by rw [Mem.new_size]; omega) (by omega)
    rw [Nat.zero_add] at p h2
    exact cF rfl (me p (ty rfl ⟨A', c', rfl, Keep.step K C2 fun i hi => hi, O2, h2⟩))
theorem c15 (hf : M.floor ≤ M.nb.size) (G : Gr V M j jm t L) : Cn Try.prog 15 #[PtrB j] M fun v N => ∃ A' c', v = .slice A' L.length c' ∧ Keep M N ∧ Own (fun i => M.nb.size ≤ i) N 27 A' (c' * 23) (Bks L) ∧ L.length ≤ c' := by
  obtain ⟨A, c, es, k, g1, g2, g3, g4, g5⟩ := G.ex
  refine w15_0 (Cn.eq (c24 g1) (ty rfl (cF rfl (ad rfl (on (sl_of (i := 0 + 5) g1 rfl) (Cn.mono (c33 hf g2.row (fun h => ?_) rfl (show L.length ≤ 10000 by have := G.len; omega)) ?_))))))
  · subst h
    have := g2.row.none_nil
    cases L with
    | nil => rfl
    | cons b L => simp [Bks] at this
  · rintro _ N ⟨A', c', rfl, h⟩
    exact ty rfl ⟨A', c', rfl, h⟩
end
/-! ### Owners -/
section
variable {t : Tl} {L : List Bk} {b : Bk} {x y : Int}
def own (t : Tl) (L : List Bk) (y x : Nat) : Nat := match idxS (t.x + 8 * (x : Int)) (t.y + 8 * (y : Int)) L with | none => 0 | some m => m + 1
theorem own_le {y x : Nat} : own t L y x ≤ L.length := by
  unfold own
  split
  · omega
  · rename_i m h
    obtain ⟨h1, _⟩ := idx_some h
    omega
theorem idx_app {x y : Int} : ∀ {L : List Bk}, idxS x y (L ++ [b]) = (idxS x y L).or (if b.cov x y then some L.length else none)
  | [] => by simp only [List.nil_append, idxS, Option.none_or, List.length_nil, Option.map_none]
  | a :: L => by
    simp only [List.cons_append, idxS]
    split
    · rfl
    · rw [idx_app, or_map]
      congr 1
      split <;> simp
/-- The cells of a block in a tile: from its corner. -/
def cx0 (t : Tl) (b : Bk) : Nat := ((b.x - t.x) / 8).toNat
def cy0 (t : Tl) (b : Bk) : Nat := ((b.y - t.y) / 8).toNat
def hits (t : Tl) (b : Bk) (y x : Nat) : Bool := decide (cy0 t b ≤ y ∧ y < cy0 t b + b.h.toNat / 8 ∧ cx0 t b ≤ x ∧ x < cx0 t b + b.w.toNat / 8)
theorem hits_cov (hm : t.may = true) (hb : b.ok t = true) {y x : Nat} : b.cov (t.x + 8 * (x : Int)) (t.y + 8 * (y : Int)) = hits t b y x := by
  obtain ⟨h1, h2, h3, h4⟩ := Bk.ok_iff.1 hb
  unfold Tl.may spanB at hm
  simp only [Bool.and_eq_true, decide_eq_true_eq] at hm
  unfold Bk.cov hits cx0 cy0
  rw [Bool.eq_iff_iff, decide_eq_true_eq, decide_eq_true_eq]
  omega
theorem own_app (hm : t.may = true) (hb : b.ok t = true) {y x : Nat} (h : hits t b y x = true → own t L y x = 0) : own t (L ++ [b]) y x = if hits t b y x then L.length + 1 else own t L y x := by
  unfold own at h ⊢
  rw [idx_app, hits_cov hm hb]
  cases hh : hits t b y x with
  | false =>
    rw [if_neg (by simp), if_neg (by simp), Option.or_none]
  | true =>
    have h := h hh
    rw [if_pos rfl, if_pos rfl]
    split at h
    · rename_i h1; rw [h1]; rfl
    · omega
/-- What may be put, told by owners. -/
theorem putS_own (hm : t.may = true) (hL : ∀ b ∈ L, b.ok t = true) (hb : b.ok t = true) : (L.all fun a => !a.ovl b) = true ↔ ∀ yi xi : Nat, yi < b.h.toNat / 8 → xi < b.w.toNat / 8 → own t L (cy0 t b + yi) (cx0 t b + xi) = 0 := by
  rw [ovl_cells hL hb]
  obtain ⟨h1, h2, h3, h4⟩ := Bk.ok_iff.1 hb
  have hm' := hm
  unfold Tl.may spanB at hm'
  simp only [Bool.and_eq_true, decide_eq_true_eq] at hm'
  have key : ∀ yi xi : Nat, findE (b.x / 8 + (xi : Int), b.y / 8 + (yi : Int)) (entL 0 L) 0 = none ↔ own t L (cy0 t b + yi) (cx0 t b + xi) = 0 := by
    intro yi xi
    have e1 : (t.x + 8 * ((cx0 t b + xi : Nat) : Int)) = b.x + 8 * (xi : Int) := by unfold cx0; omega
    have e2 : (t.y + 8 * ((cy0 t b + yi : Nat) : Int)) = b.y + 8 * (yi : Int) := by unfold cy0; omega
    have f := findE_entL (t := t) (x := b.x + 8 * (xi : Int)) (y := b.y + 8 * (yi : Int)) L 0 0 hL
    rw [show (b.x + 8 * (xi : Int)) / 8 = b.x / 8 + (xi : Int) by omega, show (b.y + 8 * (yi : Int)) / 8 = b.y / 8 + (yi : Int) by omega] at f
    unfold own
    rw [e1, e2]
    cases hi : idxS (b.x + 8 * (xi : Int)) (b.y + 8 * (yi : Int)) L with
    | none =>
      rw [hi] at f
      simp only [Option.map_none, Option.map_eq_none_iff] at f
      simp [f]
    | some m =>
      rw [hi] at f
      constructor
      · intro g; rw [g] at f; cases f
      · intro g; simp at g
  constructor
  · intro h yi xi hy hx
    exact (key yi xi).1 (h _ (mem_ents.2 ⟨yi, xi, hy, hx, rfl, rfl⟩))
  · rintro h ⟨p, q⟩ hp
    obtain ⟨yi, xi, hy, hx, rfl, rfl⟩ := mem_ents.1 hp
    exact (key yi xi).2 (h yi xi hy hx)
/-- A place within a cell. -/
theorem at_cell (hm : t.may = true) (hL : ∀ b ∈ L, b.ok t = true) {y x : Nat} {u v : Int} (hu : 0 ≤ u ∧ u < 8) (hv : 0 ≤ v ∧ v < 8) : idxS (t.x + 8 * (x : Int) + u) (t.y + 8 * (y : Int) + v) L = idxS (t.x + 8 * (x : Int)) (t.y + 8 * (y : Int)) L := by
  have hm' := hm
  unfold Tl.may spanB at hm'
  simp only [Bool.and_eq_true, decide_eq_true_eq] at hm'
  induction L with
  | nil => rfl
  | cons b L ih =>
    have hb := hL b (List.mem_cons_self ..)
    obtain ⟨h1, h2, h3, h4⟩ := Bk.ok_iff.1 hb
    have e : b.cov (t.x + 8 * (x : Int) + u) (t.y + 8 * (y : Int) + v) = b.cov (t.x + 8 * (x : Int)) (t.y + 8 * (y : Int)) := by
      unfold Bk.cov
      rw [Bool.eq_iff_iff, decide_eq_true_eq, decide_eq_true_eq]
      omega
    simp only [idxS, e, ih fun c hc => hL c (List.mem_cons_of_mem _ hc)]
end
end Go.Zt

/- The functions' walks: for each function and each loop a rule of what it comes to. Printed by zw2.py. -/
set_option linter.unusedVariables false
set_option maxRecDepth 100000
namespace Go.Zt
open Go Go.Sim Go.Proofs

def tyZpM0 : List Sc := [.int .i64, .int .i64, .int .i64, .int .i64, .bool, .bool, .int .i64, .int .i64, .int .i64, .int .i64, .int .i64, .int .i64, .int .i64, .bool, .int .i64, .int .i64, .int .i64, .int .i64, .int .i64, .int .i64, .int .i64, .int .i64, .bool]
/-! ### zoetrope/zoetropelaw17.GridPlays: function 5 -/
def K5 : List (List It × List Nat) := [([.code [1,1,1,0,1], .code [1,1,1,1]], [1, 2, 7, 9, 10, 36]), ([.code [1,1,1,1,1,0,1,0,0], .lp [1,1,1,1,1,0,1,0,0], .blk 0, .code [1,1,1,1,1,1]], [1, 2, 7, 9, 11]), ([.code [1,1,1,1,1,0,1,0,0,0,1], .code [1,1,1,1,1,0,1,0,0,1], .lp [1,1,1,1,1,0,1,0,0], .blk 0, .code [1,1,1,1,1,1]], [1, 2, 7, 9, 11, 47]), ([.code [1,1,1,1,1,1,0,1,0,0], .lp [1,1,1,1,1,1,0,1,0,0], .blk 2, .code [1,1,1,1,1,1,1]], [2, 7, 9, 13]), ([.code [1,1,1,1,1,1,0,1,0,0,0,1], .code [1,1,1,1,1,1,0,1,0,0,1], .lp [1,1,1,1,1,1,0,1,0,0], .blk 2, .code [1,1,1,1,1,1,1]], [2, 7, 9, 13, 100]), ([.code [1,1,1,1,1,1,1,1,0,1,0,0], .lp [1,1,1,1,1,1,1,1,0,1,0,0], .blk 4, .code [1,1,1,1,1,1,1,1,1]], [7, 9, 14, 15, 16])]
def Z5 : List (List Nat × List Nat) := []
theorem b5 : Try.prog.funcs[5]? = some Try.f5 ∧ (Orc.tab Try.prog).lookup 5 = none ∧ Try.f5.body = some (codeOf Try.f5) := ⟨by kernel_rfl, by kernel_rfl, by kernel_rfl⟩
def A5_1 (Ax1 : Option Addr) (lx1 cx1 : Nat) (Ax2 : Option Addr) (lx2 cx2 : Nat) (x7 x9 : Option Addr) (x10 : Int) (x36 : Bool) (M : Mem) (Q : Value → Mem → Prop) : Prop := LvP Try.prog Try.f5 [(1, .slice Ax1 lx1 cx1), (2, .slice Ax2 lx2 cx2), (7, .pointer x7), (9, .pointer x9), (10, .int .i64 x10), (36, .bool x36)] [.code [1,1,1,0,1], .code [1,1,1,1]] M Q
def A5_2 (Ax1 : Option Addr) (lx1 cx1 : Nat) (Ax2 : Option Addr) (lx2 cx2 : Nat) (x7 x9 : Option Addr) (x11 : Int) (M : Mem) (Q : Value → Mem → Prop) : Prop := LvP Try.prog Try.f5 [(1, .slice Ax1 lx1 cx1), (2, .slice Ax2 lx2 cx2), (7, .pointer x7), (9, .pointer x9), (11, .int .i64 x11)] [.code [1,1,1,1,1,0,1,0,0], .lp [1,1,1,1,1,0,1,0,0], .blk 0, .code [1,1,1,1,1,1]] M Q
def A5_3 (Ax1 : Option Addr) (lx1 cx1 : Nat) (Ax2 : Option Addr) (lx2 cx2 : Nat) (x7 x9 : Option Addr) (x11 : Int) (x47 : Bool) (M : Mem) (Q : Value → Mem → Prop) : Prop := LvP Try.prog Try.f5 [(1, .slice Ax1 lx1 cx1), (2, .slice Ax2 lx2 cx2), (7, .pointer x7), (9, .pointer x9), (11, .int .i64 x11), (47, .bool x47)] [.code [1,1,1,1,1,0,1,0,0,0,1], .code [1,1,1,1,1,0,1,0,0,1], .lp [1,1,1,1,1,0,1,0,0], .blk 0, .code [1,1,1,1,1,1]] M Q
def A5_4 (Ax2 : Option Addr) (lx2 cx2 : Nat) (x7 x9 : Option Addr) (x13 : Int) (M : Mem) (Q : Value → Mem → Prop) : Prop := LvP Try.prog Try.f5 [(2, .slice Ax2 lx2 cx2), (7, .pointer x7), (9, .pointer x9), (13, .int .i64 x13)] [.code [1,1,1,1,1,1,0,1,0,0], .lp [1,1,1,1,1,1,0,1,0,0], .blk 2, .code [1,1,1,1,1,1,1]] M Q
def A5_5 (Ax2 : Option Addr) (lx2 cx2 : Nat) (x7 x9 : Option Addr) (x13 : Int) (x100 : Bool) (M : Mem) (Q : Value → Mem → Prop) : Prop := LvP Try.prog Try.f5 [(2, .slice Ax2 lx2 cx2), (7, .pointer x7), (9, .pointer x9), (13, .int .i64 x13), (100, .bool x100)] [.code [1,1,1,1,1,1,0,1,0,0,0,1], .code [1,1,1,1,1,1,0,1,0,0,1], .lp [1,1,1,1,1,1,0,1,0,0], .blk 2, .code [1,1,1,1,1,1,1]] M Q
def A5_6 (x7 x9 Ax14 : Option Addr) (lx14 cx14 : Nat) (Ax15 : Option Addr) (lx15 cx15 : Nat) (x16 : Int) (M : Mem) (Q : Value → Mem → Prop) : Prop := LvP Try.prog Try.f5 [(7, .pointer x7), (9, .pointer x9), (14, .slice Ax14 lx14 cx14), (15, .slice Ax15 lx15 cx15), (16, .int .i64 x16)] [.code [1,1,1,1,1,1,1,1,0,1,0,0], .lp [1,1,1,1,1,1,1,1,0,1,0,0], .blk 4, .code [1,1,1,1,1,1,1,1,1]] M Q
theorem w5_0 {x0_0 x0_1 x0_2 x0_3 : Int} {Ax1 : Option Addr} {lx1 cx1 : Nat} {Ax2 : Option Addr} {lx2 cx2 : Nat} {M : Mem} {Q : Value → Mem → Prop} (H :
    onS ((M.new (.cells #[.int .i64 x0_0, .int .i64 x0_1, .int .i64 x0_2, .int .i64 x0_3] 35)).intAt .i64 (2 * M.nb.size) 0) fun x1' =>
    onS ((M.new (.cells #[.int .i64 x0_0, .int .i64 x0_1, .int .i64 x0_2, .int .i64 x0_3] 35)).intAt .i64 (2 * M.nb.size) (0 + 1)) fun x2' =>
    onS ((M.new (.cells #[.int .i64 x0_0, .int .i64 x0_1, .int .i64 x0_2, .int .i64 x0_3] 35)).intAt .i64 (2 * M.nb.size) (0 + 2)) fun x3' =>
    onS ((M.new (.cells #[.int .i64 x0_0, .int .i64 x0_1, .int .i64 x0_2, .int .i64 x0_3] 35)).intAt .i64 (2 * M.nb.size) (0 + 3)) fun x4' =>
    Cn Try.prog 8 #[.agg #[.int .i64 x1', .int .i64 x2', .int .i64 x3', .int .i64 x4']] (M.new (.cells #[.int .i64 x0_0, .int .i64 x0_1, .int .i64 x0_2, .int .i64 x0_3] 35)) fun v5' N5' =>
     tyS (asU 2 v5') fun cs6' =>
     tyS (asP (cs6'.getD 0 undef)) fun p7' =>
     tyS (asI .i64 (cs6'.getD 1 undef)) fun x8' =>
     onS (N5'.intAt .i64 (2 * M.nb.size) 0) fun x9' =>
     onS (N5'.intAt .i64 (2 * M.nb.size) (0 + 1)) fun x10' =>
     onS (N5'.intAt .i64 (2 * M.nb.size) (0 + 2)) fun x11' =>
     onS (N5'.intAt .i64 (2 * M.nb.size) (0 + 3)) fun x12' =>
     Cn Try.prog 16 #[.agg #[.int .i64 x9', .int .i64 x10', .int .i64 x11', .int .i64 x12']] N5' fun v13' N13' =>
      tyS (asU 2 v13') fun cs14' =>
      tyS (asP (cs14'.getD 0 undef)) fun p15' =>
      tyS (asI .i64 (cs14'.getD 1 undef)) fun x16' =>
      cnd (x8' != x16') (
       A5_1 Ax1 lx1 cx1 Ax2 lx2 cx2 p7' p15' x16' true N13' Q) (
       A5_1 Ax1 lx1 cx1 Ax2 lx2 cx2 p7' p15' x16' (!(p7'.isNone == (x16' != 0))) N13' Q)) :
    Cn Try.prog 5 #[.agg #[.int .i64 x0_0, .int .i64 x0_1, .int .i64 x0_2, .int .i64 x0_3], .slice Ax1 lx1 cx1, .slice Ax2 lx2 cx2] M Q :=
  Cn.mk (cuts := K5) (sp := Z5) 900 b5 rfl rfl H fun G => by kernel_rfl

theorem w5_1 {Ax1 : Option Addr} {lx1 cx1 : Nat} {Ax2 : Option Addr} {lx2 cx2 : Nat} {x7 x9 : Option Addr} {x10 : Int} {x36 : Bool} {M : Mem} {Q : Value → Mem → Prop} (H :
    cnd x36 (
     Q (.bool false) M) (
     cnd (x10 != 0) (
      Cn Try.prog 7 #[] M fun v17' N17' =>
       tyS (asB v17') fun b18' =>
       Q (.bool b18') N17') (
      A5_2 Ax1 lx1 cx1 Ax2 lx2 cx2 x7 x9 0 M Q))) :
    A5_1 Ax1 lx1 cx1 Ax2 lx2 cx2 x7 x9 x10 x36 M Q :=
  LvP.mk (cuts := K5) (sp := Z5) 900 H fun G => by kernel_rfl

theorem w5_2 {Ax1 : Option Addr} {lx1 cx1 : Nat} {Ax2 : Option Addr} {lx2 cx2 : Nat} {x7 x9 : Option Addr} {x11 : Int} {M : Mem} {Q : Value → Mem → Prop} (H :
    cnd (decide (x11 < ((lx1 : Int)))) (
     A5_3 Ax1 lx1 cx1 Ax2 lx2 cx2 x7 x9 x11 (decide (x11 < 100)) M Q) (
     A5_3 Ax1 lx1 cx1 Ax2 lx2 cx2 x7 x9 x11 false M Q)) :
    A5_2 Ax1 lx1 cx1 Ax2 lx2 cx2 x7 x9 x11 M Q :=
  LvP.mk (cuts := K5) (sp := Z5) 900 H fun G => by kernel_rfl

theorem w5_3 {Ax1 : Option Addr} {lx1 cx1 : Nat} {Ax2 : Option Addr} {lx2 cx2 : Nat} {x7 x9 : Option Addr} {x11 : Int} {x47 : Bool} {M : Mem} {Q : Value → Mem → Prop} (H :
    cnd x47 (
     ixS (idxA Ax1 lx1 23 x11) fun a19' =>
     ldP tyZpM0 M a19'.block a19'.off fun vs20' =>
     ixS (idxA Ax1 lx1 23 x11) fun a21' =>
     ldP tyZpM0 M a21'.block a21'.off fun vs22' =>
     cnd (decide (M.floor ≤ M.nb.size)) (
     Cn Try.prog 9 #[.pointer x7, .agg vs20'.toArray] M fun v23' N23' =>
      cnd (sameB M N23' a21'.block) (
      tyS (asI .i64 v23') fun x24' =>
      Cn Try.prog 17 #[.pointer x9, .agg vs22'.toArray] N23' fun v25' N25' =>
       tyS (asI .i64 v25') fun x26' =>
       cnd (x24' != x26') (
        Q (.bool false) N25') (
        ixS (idxA Ax1 lx1 23 x11) fun a27' =>
        onS (N25'.intAt .i64 a27'.block a27'.off) fun x28' =>
        ixS (idxA Ax1 lx1 23 x11) fun a29' =>
        onS (N25'.intAt .i64 a29'.block (a29'.off + 2)) fun x30' =>
        ixS (idxA Ax1 lx1 23 x11) fun a31' =>
        onS (N25'.intAt .i64 a31'.block (a31'.off + 1)) fun x32' =>
        stP (some 5) #[.int .i64 (IntKind.i64.wrap (x28' + x30')), .int .i64 x32', .int .i64 16, .int .i64 8, .int .i64 0] (N25'.new (.cells #[.int .i64 0, .int .i64 0, .int .i64 0, .int .i64 0, .int .i64 0] 56)) (2 * N25'.nb.size) 0 fun M33' =>
        cnd (decide (x11 < ((lx2 : Int)))) (
         ixS (idxA Ax2 lx2 5 x11) fun a34' =>
         onS (M33'.intAt .i64 a34'.block a34'.off) fun x35' =>
         onS (M33'.intAt .i64 a34'.block (a34'.off + 1)) fun x36' =>
         onS (M33'.intAt .i64 a34'.block (a34'.off + 2)) fun x37' =>
         onS (M33'.intAt .i64 a34'.block (a34'.off + 3)) fun x38' =>
         onS (M33'.intAt .i64 a34'.block (a34'.off + 4)) fun x39' =>
         stP (some 5) #[.int .i64 x35', .int .i64 x36', .int .i64 x37', .int .i64 x38', .int .i64 x39'] M33' (2 * N25'.nb.size) 0 fun M40' =>
         onS (M40'.intAt .i64 (2 * N25'.nb.size) 0) fun x41' =>
         onS (M40'.intAt .i64 (2 * N25'.nb.size) (0 + 1)) fun x42' =>
         onS (M40'.intAt .i64 (2 * N25'.nb.size) (0 + 2)) fun x43' =>
         onS (M40'.intAt .i64 (2 * N25'.nb.size) (0 + 3)) fun x44' =>
         onS (M40'.intAt .i64 (2 * N25'.nb.size) (0 + 4)) fun x45' =>
         Cn Try.prog 18 #[.pointer x7, .pointer x9, .agg #[.int .i64 x41', .int .i64 x42', .int .i64 x43', .int .i64 x44', .int .i64 x45']] M40' fun v46' N46' =>
          tyS (asB v46') fun b47' =>
          cnd (!b47') (
           Q (.bool false) N46') (
           A5_2 Ax1 lx1 cx1 Ax2 lx2 cx2 x7 x9 (IntKind.i64.wrap (x11 + 1)) N46' Q)) (
         onS (M33'.intAt .i64 (2 * N25'.nb.size) 0) fun x48' =>
         onS (M33'.intAt .i64 (2 * N25'.nb.size) (0 + 1)) fun x49' =>
         onS (M33'.intAt .i64 (2 * N25'.nb.size) (0 + 2)) fun x50' =>
         onS (M33'.intAt .i64 (2 * N25'.nb.size) (0 + 3)) fun x51' =>
         onS (M33'.intAt .i64 (2 * N25'.nb.size) (0 + 4)) fun x52' =>
         Cn Try.prog 18 #[.pointer x7, .pointer x9, .agg #[.int .i64 x48', .int .i64 x49', .int .i64 x50', .int .i64 x51', .int .i64 x52']] M33' fun v53' N53' =>
          tyS (asB v53') fun b54' =>
          cnd (!b54') (
           Q (.bool false) N53') (
           A5_2 Ax1 lx1 cx1 Ax2 lx2 cx2 x7 x9 (IntKind.i64.wrap (x11 + 1)) N53' Q)))) (
      False)) (
     False)) (
     A5_4 Ax2 lx2 cx2 x7 x9 0 M Q)) :
    A5_3 Ax1 lx1 cx1 Ax2 lx2 cx2 x7 x9 x11 x47 M Q :=
  LvP.mk (cuts := K5) (sp := Z5) 900 H fun G => by kernel_rfl

theorem w5_4 {Ax2 : Option Addr} {lx2 cx2 : Nat} {x7 x9 : Option Addr} {x13 : Int} {M : Mem} {Q : Value → Mem → Prop} (H :
    cnd (decide (x13 < ((lx2 : Int)))) (
     A5_5 Ax2 lx2 cx2 x7 x9 x13 (decide (x13 < 100)) M Q) (
     A5_5 Ax2 lx2 cx2 x7 x9 x13 false M Q)) :
    A5_4 Ax2 lx2 cx2 x7 x9 x13 M Q :=
  LvP.mk (cuts := K5) (sp := Z5) 900 H fun G => by kernel_rfl

theorem w5_5 {Ax2 : Option Addr} {lx2 cx2 : Nat} {x7 x9 : Option Addr} {x13 : Int} {x100 : Bool} {M : Mem} {Q : Value → Mem → Prop} (H :
    cnd x100 (
     ixS (idxA Ax2 lx2 5 x13) fun a55' =>
     onS (M.intAt .i64 a55'.block a55'.off) fun x56' =>
     onS (M.intAt .i64 a55'.block (a55'.off + 1)) fun x57' =>
     onS (M.intAt .i64 a55'.block (a55'.off + 2)) fun x58' =>
     onS (M.intAt .i64 a55'.block (a55'.off + 3)) fun x59' =>
     onS (M.intAt .i64 a55'.block (a55'.off + 4)) fun x60' =>
     Cn Try.prog 18 #[.pointer x7, .pointer x9, .agg #[.int .i64 x56', .int .i64 x57', .int .i64 x58', .int .i64 x59', .int .i64 x60']] M fun v61' N61' =>
      tyS (asB v61') fun b62' =>
      cnd (!b62') (
       Q (.bool false) N61') (
       A5_4 Ax2 lx2 cx2 x7 x9 (IntKind.i64.wrap (x13 + 1)) N61' Q)) (
     Cn Try.prog 15 #[.pointer x7] M fun v63' N63' =>
      tyS (asS v63') fun s64' =>
      Cn Try.prog 15 #[.pointer x7] N63' fun v65' N65' =>
       tyS (asS v65') fun s66' =>
       A5_6 x7 x9 s64'.1 s64'.2.1 s64'.2.2 s66'.1 s66'.2.1 s66'.2.2 0 N65' Q)) :
    A5_5 Ax2 lx2 cx2 x7 x9 x13 x100 M Q :=
  LvP.mk (cuts := K5) (sp := Z5) 900 H fun G => by kernel_rfl

theorem w5_6 {x7 x9 Ax14 : Option Addr} {lx14 cx14 : Nat} {Ax15 : Option Addr} {lx15 cx15 : Nat} {x16 : Int} {M : Mem} {Q : Value → Mem → Prop} (H :
    cnd (decide (x16 < ((lx14 : Int)))) (
     ixS (idxA Ax14 lx14 23 x16) fun a67' =>
     ptS (M.put a67'.block a67'.off (.int .i64 (-9))) fun M68' =>
     A5_6 x7 x9 Ax14 lx14 cx14 Ax15 lx15 cx15 (IntKind.i64.wrap (x16 + 1)) M68' Q) (
     Cn Try.prog 20 #[.pointer x9] M fun v69' N69' =>
      tyS (asS v69') fun s70' =>
      Cn Try.prog 19 #[.slice Ax15 lx15 cx15, .slice s70'.1 (s70'.2.1) (s70'.2.2)] N69' fun v71' N71' =>
       tyS (asB v71') fun b72' =>
       cnd b72' (
        Cn Try.prog 15 #[.pointer x7] N71' fun v73' N73' =>
         tyS (asS v73') fun s74' =>
         Cn Try.prog 20 #[.pointer x9] N73' fun v75' N75' =>
          tyS (asS v75') fun s76' =>
          Cn Try.prog 19 #[.slice s74'.1 (s74'.2.1) (s74'.2.2), .slice s76'.1 (s76'.2.1) (s76'.2.2)] N75' fun v77' N77' =>
           tyS (asB v77') fun b78' =>
           cnd b78' (
            Cn Try.prog 7 #[] N77' fun v79' N79' =>
             tyS (asB v79') fun b80' =>
             Q (.bool b80') N79') (
            Q (.bool false) N77')) (
        Q (.bool false) N71'))) :
    A5_6 x7 x9 Ax14 lx14 cx14 Ax15 lx15 cx15 x16 M Q :=
  LvP.mk (cuts := K5) (sp := Z5) 900 H fun G => by kernel_rfl


end Go.Zt

/- Layer 17: law5, GridPlays. -/
set_option linter.unusedSimpArgs false
set_option linter.unusedVariables false
set_option maxRecDepth 100000
namespace Go.Zt
open Go Go.Sim Go.Proofs Go.RowKit

theorem idxA_blk {A : Option Addr} {n s : Nat} {z : Int} {a : Addr} (h : idxA A n s z = some a) : ∃ b, A = some b ∧ a.block = b.block := by
  unfold idxA at h
  split at h
  · cases A with
    | none => simp at h
    | some b =>
      refine ⟨b, rfl, ?_⟩
      simp only [Option.map_some, Option.some.injEq] at h
      rw [← h]
  · cases h
theorem idxA_get {j s n i : Nat} {sp : Option Nat} (h : i < n) : ∃ a, idxA (some ⟨2 * j, 0, sp⟩) n s (i : Int) = some a ∧ a.block = 2 * j ∧ a.off = i * s := by
  unfold idxA
  rw [if_pos (by omega)]
  exact ⟨_, rfl, rfl, by simp⟩
theorem bkRow {M : Mem} {A : Option Addr} {L : List Bk} (hR : Row M A (Bks L)) {n i : Nat} {b : Bk} {a : Addr} (hn : i < n) (hb : L[i]? = some b) (h : idxA A n 23 (i : Int) = some a) : BkAt M a.block a.off b := by
  obtain ⟨hi, rfl⟩ := List.getElem?_eq_some_iff.1 hb
  have hl := Bks_len L
  obtain ⟨a', h1, h2⟩ := hR.elt (s := 23) (n := n) (i := i) (z := (i : Int)) rfl hn (by decide) (by omega)
  rw [h] at h1
  obtain rfl := Option.some.inj h1
  intro o ho
  rw [h2 o ho]
  have h3 := Bks_at hi
  have : (Bks L)[i * 23 + o]? = (((Bks L).drop (i * 23)).take 23)[o]? := by rw [List.getElem?_take_of_lt ho, List.getElem?_drop]
  rw [this, h3]
  simp
theorem ixEx {M : Mem} {A : Option Addr} {L : List Bk} (hR : Row M A (Bks L)) {n i : Nat} (hn : i < n) (hi : i < L.length) : ∃ a, idxA A n 23 (i : Int) = some a := by
  have hl := Bks_len L
  obtain ⟨a', h1, h2⟩ := hR.elt (s := 23) (n := n) (i := i) (z := (i : Int)) rfl hn (by decide) (by omega)
  exact ⟨a', h1⟩
theorem ldB {M : Mem} {blk off : Nat} {b : Bk} {tys : List Sc} {p : List Value → Prop} (h : BkAt M blk off b) (hf : fitL tys b.cs.toList = true) (k : p b.cs.toList) : ldP tys M blk off p :=
  ld (p := p) (fun i hi => by
    have hi' : i < 23 := hi
    rw [h i hi']
    simp) hf k
structure Ak where
  x : Int
  y : Int
  s : Int
  w : Int
  r : Int
abbrev Ak.cs (a : Ak) : Array Value := #[.int .i64 a.x, .int .i64 a.y, .int .i64 a.s, .int .i64 a.w, .int .i64 a.r]
abbrev Aks (L : List Ak) : List Value := L.flatMap fun a => a.cs.toList
theorem Aks_len (L : List Ak) : (Aks L).length = 5 * L.length := by
  induction L with
  | nil => rfl
  | cons x L ih => simp only [Aks, List.flatMap_cons, List.length_append, List.length_cons] at ih ⊢; rw [ih]; show 5 + _ = _; omega
theorem Aks_at {L : List Ak} {i : Nat} (hi : i < L.length) : ((Aks L).drop (i * 5)).take 5 = L[i].cs.toList := by
  induction L generalizing i with
  | nil => simp at hi
  | cons b L ih =>
    have lb : b.cs.toList.length = 5 := rfl
    cases i with
    | zero =>
      simp only [Aks, List.flatMap_cons, Nat.zero_mul, List.drop_zero, List.getElem_cons_zero]
      rw [List.take_append_of_le_length (by rw [lb]; exact Nat.le_refl _), List.take_of_length_le (by rw [lb]; exact Nat.le_refl _)]
    | succ i =>
      simp only [Aks, List.flatMap_cons, List.getElem_cons_succ]
      rw [List.drop_append, lb, List.drop_of_length_le (by rw [lb]; omega), List.nil_append, show (i + 1) * 5 - 5 = i * 5 by omega]
      exact ih (by simpa using hi)
theorem ixA {M : Mem} {A : Option Addr} {q : List Ak} (hR : Row M A (Aks q)) {n i : Nat} (hn : i < n) (hi : i < q.length) {P : Int → Int → Int → Int → Int → Prop} (k : P q[i].x q[i].y q[i].s q[i].w q[i].r) :
    ixS (idxA A n 5 (i : Int)) fun a => onS (M.intAt .i64 a.block a.off) fun x => onS (M.intAt .i64 a.block (a.off + 1)) fun y => onS (M.intAt .i64 a.block (a.off + 2)) fun s => onS (M.intAt .i64 a.block (a.off + 3)) fun w => onS (M.intAt .i64 a.block (a.off + 4)) fun r => P x y s w r := by
  have hl := Aks_len q
  obtain ⟨a, h1, h2⟩ := hR.elt (s := 5) (n := n) (i := i) (z := (i : Int)) rfl hn (by decide) (by omega)
  have g : ∀ o, o < 5 → M.cell a.block (a.off + o) = q[i].cs[o]? := fun o ho => by
    rw [h2 o ho]
    have h3 := Aks_at hi
    have : (Aks q)[i * 5 + o]? = (((Aks q).drop (i * 5)).take 5)[o]? := by rw [List.getElem?_take_of_lt ho, List.getElem?_drop]
    rw [this, h3]
    simp
  exact ix h1 (on (cell_int (g 0 (by decide))) (on (cell_int (g 1 (by decide))) (on (cell_int (g 2 (by decide))) (on (cell_int (g 3 (by decide))) (on (cell_int (g 4 (by decide))) k)))))
def Ak.in (a : Ak) : Prop := i64R a.x ∧ i64R a.y ∧ i64R a.w ∧ i64R a.r
/-- A row whose block does not change here. -/
def Fix (M : Mem) (A : Option Addr) : Prop := ∀ a, A = some a → a.block % 2 = 1 ∨ ∃ j cs t, a.block = 2 * j ∧ M.nb[j]? = some (.cells cs t) ∧ eqVs cs.toList cs.toList = true
structure Pl (M0 M : Mem) (jg jm jr : Nat) (t : Tl) (L : List Bk) : Prop where
  K : Keep M0 M
  ex : ∃ V U, Gr V M jg jm t L ∧ Rf U M jr t L ∧ (∀ i, V i ∨ i = jg ∨ i = jm → M0.nb.size ≤ i ∧ i < M.nb.size ∧ ¬ (U i ∨ i = jr)) ∧ ∀ i, U i ∨ i = jr → M0.nb.size ≤ i ∧ i < M.nb.size
section
variable {M0 M N : Mem} {jg jm jr : Nat} {t : Tl} {L l : List Bk} {q : List Ak} {b : Bk} {Ax1 Ax2 : Option Addr} {lx1 cx1 lx2 cx2 : Nat}
theorem Pl.keep (P : Pl M0 M jg jm jr t L) (K : Keep M N) : Pl M0 N jg jm jr t L := by
  obtain ⟨V, U, g, r, h1, h2⟩ := P.ex
  have s := K.size
  exact ⟨P.K.trans K, V, U, g.keep K, r.keep K, fun i hi => by obtain ⟨a, b, c⟩ := h1 i hi; exact ⟨a, by omega, c⟩, fun i hi => by obtain ⟨a, b⟩ := h2 i hi; exact ⟨a, by omega⟩⟩
abbrev QK (M0 : Mem) : Value → Mem → Prop := fun v N => v = .bool true ∧ Keep M0 N
/-- Blocks are compared after one was spoilt. -/
theorem e5_6 (hf : M0.floor ≤ M0.nb.size) {jx n cx n2 c2 : Nat} {sp : Option Nat} {A2 : Option Addr} (hn : n ≤ 1000) (hjx : M0.nb.size ≤ jx) (hn2 : n2 = L.length) :
    ∀ (q i : Nat) {M : Mem} {cs : Array Value}, i + q = n → (∃ V U, Gr V M jg jm t L ∧ Rf U M jr t L ∧ (∀ i, V i ∨ i = jg ∨ i = jm → i ≠ jx) ∧ ∀ i, U i ∨ i = jr → i ≠ jx) → Keep M0 M → M.nb[jx]? = some (.cells cs 27) → n * 23 ≤ cs.size → Row M A2 (Bks L) → (∀ a, A2 = some a → a.block % 2 = 1 ∨ a.block / 2 ≠ jx) →
      A5_6 (some ⟨2 * jg, 0, none⟩) (some ⟨2 * jr, 0, none⟩) (some ⟨2 * jx, 0, sp⟩) n cx A2 n2 c2 (i : Int) M (QK M0)
  | q + 1, i, M, cs, hq, ⟨V, U, g, r, h1, h2⟩, K, a, hs, R, hA => by
    obtain ⟨a', e1, e2, e3⟩ := idxA_get (j := jx) (s := 23) (n := n) (i := i) (sp := sp) (by omega)
    have fj : M.floor ≤ jx := by rw [K.floor]; omega
    obtain ⟨M2, p, C, z, a2⟩ := put1 (i * 23) (.int .i64 (-9)) a fj (by omega) rfl
    refine w5_6 (cT (decide_eq_true (by omega)) (ix e1 (pt (by rw [e2, e3]; exact p) ?_)))
    rw [i64w (x := (i : Int) + 1) (by omega)]
    exact e5_6 hf hn hjx hn2 q (i + 1) (by omega) ⟨V, U, g.chg C fun i _ h q => h1 i h q, r.chg C fun i _ h q => h2 i h q, h1, h2⟩ (Keep.step K C fun i hi => by omega) a2 (by rw [Array.size_setIfInBounds]; exact hs) (R.chg C fun a ha => (hA a ha)) hA
  | 0, i, M, cs, hq, ⟨V, U, g, r, h1, h2⟩, K, a, hs, R, hA => by
    have hf1 := fb hf K
    have hL := g.len
    refine w5_6 (cF (decide_eq_false (by omega)) (Cn.mono (c20 hf1 r) ?_))
    rintro _ N1 ⟨A3, c3, rfl, K1, O3, _⟩
    have T1 := K.trans K1
    refine ty rfl (Cn.eq (c19 (R.keep K1) O3.row hn2 rfl hL) (ty rfl (cT rfl (Cn.mono (c15 (fb hf T1) (g.keep K1)) ?_))))
    rintro _ N2 ⟨A4, c4, rfl, K2, O4, _⟩
    have T2 := T1.trans K2
    refine ty rfl (Cn.mono (c20 (fb hf T2) ((r.keep K1).keep K2)) ?_)
    rintro _ N3 ⟨A5, c5, rfl, K3, O5, _⟩
    have T3 := T2.trans K3
    exact ty rfl (Cn.eq (c19 (O4.row.keep K3) O5.row rfl rfl hL) (ty rfl (cT rfl (Cn.known rfl (ty rfl ⟨rfl, T3⟩)))))
/-- The asks at the end. -/
theorem e5_4 (hf : M0.floor ≤ M0.nb.size) (hl2 : lx2 = q.length) (R2 : Row M0 Ax2 (Aks q)) (hq : ∀ a ∈ q, a.in) :
    ∀ (k i : Nat) {M : Mem}, i + k = min q.length 100 → Pl M0 M jg jm jr t L → A5_4 Ax2 lx2 cx2 (some ⟨2 * jg, 0, none⟩) (some ⟨2 * jr, 0, none⟩) (i : Int) M (QK M0)
  | k + 1, i, M, hk, P => by
    obtain ⟨V, U, g, r, h1, h2⟩ := P.ex
    have hi : i < q.length := by omega
    have hin := hq _ (List.getElem_mem hi)
    refine w5_4 (cA (fun z => A5_5 Ax2 lx2 cx2 (some ⟨2 * jg, 0, none⟩) (some ⟨2 * jr, 0, none⟩) (i : Int) z M (QK M0)) ?_)
    rw [show (decide ((i : Int) < (lx2 : Int)) && decide ((i : Int) < 100)) = true by
      rw [Bool.and_eq_true, decide_eq_true_eq, decide_eq_true_eq]; omega]
    refine w5_5 (cT rfl (ixA (R2.keep P.K) (by omega) hi (Cn.mono (c18 (fb hf P.K) g r hin.1 hin.2.1 hin.2.2.1 hin.2.2.2) ?_)))
    rintro _ N ⟨rfl, K⟩
    refine ty rfl (cF rfl ?_)
    rw [i64w (x := (i : Int) + 1) (by omega)]
    exact e5_4 hf hl2 R2 hq k (i + 1) (by omega) (P.keep K)
  | 0, i, M, hk, P => by
    obtain ⟨V, U, g, r, h1, h2⟩ := P.ex
    refine w5_4 (cA (fun z => A5_5 Ax2 lx2 cx2 (some ⟨2 * jg, 0, none⟩) (some ⟨2 * jr, 0, none⟩) (i : Int) z M (QK M0)) ?_)
    rw [show (decide ((i : Int) < (lx2 : Int)) && decide ((i : Int) < 100)) = false by
      rw [Bool.and_eq_false_iff, decide_eq_false_iff_not, decide_eq_false_iff_not]; omega]
    have hf1 := fb hf P.K
    have hL := g.len
    have s0 := P.K.size
    refine w5_5 (cF rfl (Cn.mono (c15 hf1 g) ?_))
    rintro _ N1 ⟨A3, c3, rfl, K1, O3, hc3⟩
    have T1 := P.K.trans K1
    have s1 := K1.size
    refine ty rfl (Cn.mono (c15 (fb hf T1) (g.keep K1)) ?_)
    rintro _ N2 ⟨A4, c4, rfl, K2, O4, hc4⟩
    have T2 := T1.trans K2
    have s2 := K2.size
    refine ty rfl ?_
    rcases O3.chg K2 fun _ _ _ h => h with ⟨rfl, hb, hc⟩ | ⟨jx, cs, sp, rfl, _, hj, a, _, hle, hsz⟩
    · have : L = [] := by
        cases L with
        | nil => rfl
        | cons b L => simp [Bks] at hb
      subst this
      refine w5_6 (cF (decide_eq_false (by simp)) (Cn.mono (c20 (fb hf T2) ((r.keep K1).keep K2)) ?_))
      rintro _ N3 ⟨A5, c5, rfl, K3, O5, _⟩
      have T3 := T2.trans K3
      refine ty rfl (Cn.eq (c19 (O4.row.keep K3) O5.row rfl rfl hL) (ty rfl (cT rfl (Cn.mono (c15 (fb hf T3) (((g.keep K1).keep K2).keep K3)) ?_))))
      rintro _ N4 ⟨A6, c6, rfl, K4, O6, _⟩
      have T4 := T3.trans K4
      refine ty rfl (Cn.mono (c20 (fb hf T4) ((((r.keep K1).keep K2).keep K3).keep K4)) ?_)
      rintro _ N5 ⟨A7, c7, rfl, K5, O7, _⟩
      have T5 := T4.trans K5
      exact ty rfl (Cn.eq (c19 (O6.row.keep K5) O7.row rfl rfl hL) (ty rfl (cT rfl (Cn.known rfl (ty rfl ⟨rfl, T5⟩)))))
    · have hlt : jx < N1.nb.size := by
        rcases O3 with ⟨h, _⟩ | ⟨jx', cs', sp', h, _, _, a', _⟩
        · cases h
        · have e : (⟨2 * jx, 0, sp⟩ : Addr) = ⟨2 * jx', 0, sp'⟩ := Option.some.inj h
          have : jx = jx' := by have := congrArg Addr.block e; simp at this; omega
          rw [this]
          exact lt_of_at a'
      have hn : 23 * L.length = (Bks L).length := (Bks_len L).symm
      refine e5_6 hf hL (by omega) rfl L.length 0 (by omega) ⟨V, U, (g.keep K1).keep K2, (r.keep K1).keep K2, fun i hi => by have := (h1 i hi).2.1; omega, fun i hi => by have := (h2 i hi).2; omega⟩ T2 a (by omega) O4.row fun a' ha' => ?_
      obtain ⟨e1, e2⟩ := O4.in_ a' ha'
      exact .inr (by omega)
end
end Go.Zt

/- Layer 17: what is seen of blocks. Printed by genS.py. -/
set_option linter.unusedSimpArgs false
set_option linter.unusedVariables false
set_option maxRecDepth 100000
namespace Go.Zt
open Go Go.Sim Go.Proofs Go.RowKit

theorem wf_r {x : Int} (h : (Lit.int .i64 x).wf = true) : i64R x := by
  simp [Lit.wf, IntKind.min, IntKind.max, IntKind.signed, IntKind.bits] at h
  unfold i64R
  omega
theorem sees_blk {M : Mem} {B k : Nat} {cs : List Value} (h : Sees Try.prog M B (k + 4) 27 cs) : ∃ b : Bk, cs = b.cs.toList ∧ i64R b.x ∧ i64R b.y ∧ i64R b.w ∧ i64R b.h := by
  obtain ⟨h1, h2⟩ := sees_struct (l := [(0, 3), (1, 3), (2, 3), (3, 3), (4, 4), (5, 4), (6, 3), (7, 3), (8, 3), (9, 3), (10, 3), (11, 3), (12, 3), (13, 4), (14, 22), (16, 3), (17, 25), (21, 3), (22, 4)]) (n := 23) (by kernel_rfl) (by kernel_rfl) h
  match cs, h1 with
  | [u0, u1, u2, u3, u4, u5, u6, u7, u8, u9, u10, u11, u12, u13, u14, u15, u16, u17, u18, u19, u20, u21, u22], _ =>
    have c3 : Try.prog.cellsOf 3 = 1 := by kernel_rfl
    have c4 : Try.prog.cellsOf 4 = 1 := by kernel_rfl
    have c22 : Try.prog.cellsOf 22 = 2 := by kernel_rfl
    have c24 : Try.prog.cellsOf 24 = 2 := by kernel_rfl
    have c25 : Try.prog.cellsOf 25 = 4 := by kernel_rfl
    obtain ⟨n_x, e0, f0⟩ := sees_int (q := .i64) (by kernel_rfl) (h2 (0, 3) (by simp))
    replace e0 : u0 = .int .i64 n_x := by simp [c3] at e0; exact e0
    obtain ⟨n_y, e1, f1⟩ := sees_int (q := .i64) (by kernel_rfl) (h2 (1, 3) (by simp))
    replace e1 : u1 = .int .i64 n_y := by simp [c3] at e1; exact e1
    obtain ⟨n_w, e2, f2⟩ := sees_int (q := .i64) (by kernel_rfl) (h2 (2, 3) (by simp))
    replace e2 : u2 = .int .i64 n_w := by simp [c3] at e2; exact e2
    obtain ⟨n_h, e3, f3⟩ := sees_int (q := .i64) (by kernel_rfl) (h2 (3, 3) (by simp))
    replace e3 : u3 = .int .i64 n_h := by simp [c3] at e3; exact e3
    obtain ⟨n_sk, e4⟩ := sees_bool (by kernel_rfl) (h2 (4, 4) (by simp))
    replace e4 : u4 = .bool n_sk := by simp [c4] at e4; exact e4
    obtain ⟨n_it, e5⟩ := sees_bool (by kernel_rfl) (h2 (5, 4) (by simp))
    replace e5 : u5 = .bool n_it := by simp [c4] at e5; exact e5
    obtain ⟨n_q6, e6, f6⟩ := sees_int (q := .i64) (by kernel_rfl) (h2 (6, 3) (by simp))
    replace e6 : u6 = .int .i64 n_q6 := by simp [c3] at e6; exact e6
    obtain ⟨n_q7, e7, f7⟩ := sees_int (q := .i64) (by kernel_rfl) (h2 (7, 3) (by simp))
    replace e7 : u7 = .int .i64 n_q7 := by simp [c3] at e7; exact e7
    obtain ⟨n_q8, e8, f8⟩ := sees_int (q := .i64) (by kernel_rfl) (h2 (8, 3) (by simp))
    replace e8 : u8 = .int .i64 n_q8 := by simp [c3] at e8; exact e8
    obtain ⟨n_q9, e9, f9⟩ := sees_int (q := .i64) (by kernel_rfl) (h2 (9, 3) (by simp))
    replace e9 : u9 = .int .i64 n_q9 := by simp [c3] at e9; exact e9
    obtain ⟨n_q10, e10, f10⟩ := sees_int (q := .i64) (by kernel_rfl) (h2 (10, 3) (by simp))
    replace e10 : u10 = .int .i64 n_q10 := by simp [c3] at e10; exact e10
    obtain ⟨n_q11, e11, f11⟩ := sees_int (q := .i64) (by kernel_rfl) (h2 (11, 3) (by simp))
    replace e11 : u11 = .int .i64 n_q11 := by simp [c3] at e11; exact e11
    obtain ⟨n_q12, e12, f12⟩ := sees_int (q := .i64) (by kernel_rfl) (h2 (12, 3) (by simp))
    replace e12 : u12 = .int .i64 n_q12 := by simp [c3] at e12; exact e12
    obtain ⟨n_cp, e13⟩ := sees_bool (by kernel_rfl) (h2 (13, 4) (by simp))
    replace e13 : u13 = .bool n_cp := by simp [c4] at e13; exact e13
    have q := (sees_array (m := 2) (e := 3) (n := 2) (by kernel_rfl) c22 (h2 (14, 22) (by simp))).2
    simp only [c22, c3] at q
    obtain ⟨n_r0, e14, f14⟩ := sees_int (q := .i64) (by kernel_rfl) (q 0 (by decide))
    replace e14 : u14 = .int .i64 n_r0 := by simp [c3] at e14; exact e14
    obtain ⟨n_r1, e15, f15⟩ := sees_int (q := .i64) (by kernel_rfl) (q 1 (by decide))
    replace e15 : u15 = .int .i64 n_r1 := by simp [c3] at e15; exact e15
    obtain ⟨n_q16, e16, f16⟩ := sees_int (q := .i64) (by kernel_rfl) (h2 (16, 3) (by simp))
    replace e16 : u16 = .int .i64 n_q16 := by simp [c3] at e16; exact e16
    have qq := (sees_array (m := 2) (e := 24) (n := 4) (by kernel_rfl) c25 (h2 (17, 25) (by simp))).2
    simp only [c25, c24] at qq
    have s0 := (sees_struct (l := [(0, 3), (1, 3)]) (n := 2) (by kernel_rfl) c24 (qq 0 (by decide))).2
    obtain ⟨n_v0, e17, f17⟩ := sees_int (q := .i64) (by kernel_rfl) (s0 (0, 3) (by simp))
    replace e17 : u17 = .int .i64 n_v0 := by simp [c3] at e17; exact e17
    obtain ⟨n_v1, e18, f18⟩ := sees_int (q := .i64) (by kernel_rfl) (s0 (1, 3) (by simp))
    replace e18 : u18 = .int .i64 n_v1 := by simp [c3] at e18; exact e18
    have s1 := (sees_struct (l := [(0, 3), (1, 3)]) (n := 2) (by kernel_rfl) c24 (qq 1 (by decide))).2
    obtain ⟨n_v2, e19, f19⟩ := sees_int (q := .i64) (by kernel_rfl) (s1 (0, 3) (by simp))
    replace e19 : u19 = .int .i64 n_v2 := by simp [c3] at e19; exact e19
    obtain ⟨n_v3, e20, f20⟩ := sees_int (q := .i64) (by kernel_rfl) (s1 (1, 3) (by simp))
    replace e20 : u20 = .int .i64 n_v3 := by simp [c3] at e20; exact e20
    obtain ⟨n_q21, e21, f21⟩ := sees_int (q := .i64) (by kernel_rfl) (h2 (21, 3) (by simp))
    replace e21 : u21 = .int .i64 n_q21 := by simp [c3] at e21; exact e21
    obtain ⟨n_ob, e22⟩ := sees_bool (by kernel_rfl) (h2 (22, 4) (by simp))
    replace e22 : u22 = .bool n_ob := by simp [c4] at e22; exact e22
    subst e0 e1 e2 e3 e4 e5 e6 e7 e8 e9 e10 e11 e12 e13 e14 e15 e16 e17 e18 e19 e20 e21 e22
    exact ⟨⟨n_x, n_y, n_w, n_h, n_sk, n_it, n_q6, n_q7, n_q8, n_q9, n_q10, n_q11, n_q12, n_cp, n_r0, n_r1, n_q16, n_v0, n_v1, n_v2, n_v3, n_q21, n_ob⟩, rfl, wf_r f0, wf_r f1, wf_r f2, wf_r f3⟩
end Go.Zt

/- Layer 17: law5, GridPlays. -/
set_option linter.unusedSimpArgs false
set_option linter.unusedVariables false
set_option maxRecDepth 100000
namespace Go.Zt
open Go Go.Sim Go.Proofs Go.RowKit

theorem wrap_r (x : Int) : i64R (IntKind.i64.wrap x) := by
  rw [IntKind.wrap_i64]
  unfold i64R
  omega
def Bk.in (b : Bk) : Prop := i64R b.x ∧ i64R b.y ∧ i64R b.w ∧ i64R b.h
section
variable {M0 M N : Mem} {jg jm jr : Nat} {t : Tl} {L l : List Bk} {q : List Ak} {b : Bk} {Ax1 Ax2 : Option Addr} {lx1 cx1 lx2 cx2 : Nat}
theorem fix_same {K1 K2 : Mem} {A : Option Addr} (F : Fix M0 A) (h1 : Keep M0 K1) (h2 : Keep M0 K2) {a : Addr} (ha : ∃ b, A = some b ∧ a.block = b.block) : sameB K1 K2 a.block = true := by
  obtain ⟨b, rfl, e⟩ := ha
  rcases F b rfl with h | ⟨j, cs, t, h, hj, he⟩
  · exact sameB_odd (by rw [e]; exact h)
  · rw [e, h]
    exact sameB_at (at_keep hj h1) (at_keep hj h2) he
set_option maxHeartbeats 2000000 in
theorem e5_2 (hf : M0.floor ≤ M0.nb.size) (hl1 : lx1 = l.length) (hl2 : lx2 = q.length) (R1 : Row M0 Ax1 (Bks l)) (F1 : Fix M0 Ax1) (hl : ∀ b ∈ l, b.in) (R2 : Row M0 Ax2 (Aks q)) (hq : ∀ a ∈ q, a.in) :
    ∀ (k i : Nat) {M : Mem} {L : List Bk}, i + k = min l.length 100 → L.length ≤ i → Pl M0 M jg jm jr t L → A5_2 Ax1 lx1 cx1 Ax2 lx2 cx2 (some ⟨2 * jg, 0, none⟩) (some ⟨2 * jr, 0, none⟩) (i : Int) M (QK M0)
  | 0, i, M, L, hk, hL, P => by
    refine w5_2 (cA (fun z => A5_3 Ax1 lx1 cx1 Ax2 lx2 cx2 (some ⟨2 * jg, 0, none⟩) (some ⟨2 * jr, 0, none⟩) (i : Int) z M (QK M0)) ?_)
    rw [show (decide ((i : Int) < (lx1 : Int)) && decide ((i : Int) < 100)) = false by
      rw [Bool.and_eq_false_iff, decide_eq_false_iff_not, decide_eq_false_iff_not]; omega]
    exact w5_3 (cF rfl (e5_4 hf hl2 R2 hq (min q.length 100) 0 (by omega) P))
  | k + 1, i, M, L, hk, hL, P => by
    obtain ⟨V, U, g, r, h1, h2⟩ := P.ex
    have hi : i < l.length := by omega
    have hin := hl _ (List.getElem_mem hi)
    have hf1 := fb hf P.K
    have s0 := P.K.size
    have fl : M.floor ≤ M0.nb.size := by rw [P.K.floor]; exact hf
    refine w5_2 (cA (fun z => A5_3 Ax1 lx1 cx1 Ax2 lx2 cx2 (some ⟨2 * jg, 0, none⟩) (some ⟨2 * jr, 0, none⟩) (i : Int) z M (QK M0)) ?_)
    rw [show (decide ((i : Int) < (lx1 : Int)) && decide ((i : Int) < 100)) = true by
      rw [Bool.and_eq_true, decide_eq_true_eq, decide_eq_true_eq]; omega]
    have R1M := R1.keep P.K
    obtain ⟨a, ea⟩ := ixEx (n := lx1) R1M (by omega) hi
    have ba := bkRow R1M (by omega) (List.getElem?_eq_getElem hi) ea
    refine w5_3 (cT rfl (ix ea (ldB ba rfl (ix ea (ldB ba rfl (cT (decide_eq_true hf1) (Cn.mono (c9 hf1 (fun i hi => by obtain ⟨x, y, _⟩ := h1 i hi; exact ⟨by omega, y⟩) (by omega) g hin) ?_)))))))
    rintro v N ⟨rfl, V', hV, C, g'⟩
    have sN := C.size
    have KN : Keep M0 N := Keep.step P.K C fun i hi => (h1 i hi).1
    have rN : Rf U N jr t L := r.chg C fun i _ ho q => (h1 i q).2.2 ho
    refine cT (fix_same F1 P.K KN (idxA_blk ea)) (ty rfl (Cn.mono (c17 (b := l[i]) (fb hf KN) (fun i hi => by obtain ⟨x, y⟩ := h2 i hi; exact ⟨by rw [KN.floor]; omega, by omega⟩) (by omega) rN hin) ?_))
    rintro v N2 ⟨rfl, U', hU, C2, r'⟩
    have sN2 := C2.size
    have hV' : ∀ i, V' i ∨ i = jg ∨ i = jm → (V i ∨ i = jg ∨ i = jm) ∨ (M.nb.size ≤ i ∧ i < N.nb.size) := by
      rintro i (q | q)
      · rcases hV i q with q | q
        · exact .inl (.inl q)
        · exact .inr q
      · exact .inl (.inr q)
    have hU' : ∀ i, U' i ∨ i = jr → (U i ∨ i = jr) ∨ (N.nb.size ≤ i ∧ i < N2.nb.size) := by
      rintro i (q | q)
      · rcases hU i q with q | q
        · exact .inl (.inl q)
        · exact .inr q
      · exact .inl (.inr q)
    have KN2 : Keep M0 N2 := Keep.step KN C2 fun i hi => (h2 i hi).1
    have g2 : Gr V' N2 jg jm t (putS t L l[i]).2 := g'.chg C2 fun i _ ho q => by
      rcases hV' i ho with w | w
      · exact (h1 i w).2.2 q
      · have := (h2 i q).2; omega
    have P2 : Pl M0 N2 jg jm jr t (putS t L l[i]).2 := by
      refine ⟨KN2, V', U', g2, r', fun i hi => ?_, fun i hi => ?_⟩
      · rcases hV' i hi with w | w
        · obtain ⟨x, y, z⟩ := h1 i w
          exact ⟨x, by omega, fun o => by rcases hU' i o with o | o; exact z o; omega⟩
        · exact ⟨by omega, by omega, fun o => by
            rcases hU' i o with o | o
            · have := (h2 i o).2; omega
            · omega⟩
      · rcases hU' i hi with w | w
        · obtain ⟨x, y⟩ := h2 i w; exact ⟨x, by omega⟩
        · exact ⟨by omega, w.2⟩
    have hL2 : (putS t L l[i]).2.length ≤ i + 1 := by
      unfold putS
      split
      · simp; omega
      · show L.length ≤ i + 1; omega
    generalize (putS t L l[i]).1 = e
    generalize (putS t L l[i]).2 = L2 at P2 g2 r' hL2
    have b2 := bkRow (R1.keep KN2) (by omega) (List.getElem?_eq_getElem hi) ea
    have f2 := fb hf KN2
    refine ty rfl (cF (nn _) (ix ea (on (cell_int (x := l[i].x) (b2 0 (by decide))) (ix ea (on (cell_int (x := l[i].w) (b2 2 (by decide))) (ix ea (on (cell_int (x := l[i].y) (b2 1 (by decide))) (stN (cs := #[.int .i64 (IntKind.i64.wrap (l[i].x + l[i].w)), .int .i64 l[i].y, .int .i64 16, .int .i64 8, .int .i64 0]) f2 rfl rfl rfl fun M3 K3 z3 b3 => ?_))))))))
    have P3 := P2.keep K3
    have T3 := P3.K
    have go : ∀ {N : Mem}, Keep M3 N → A5_2 Ax1 lx1 cx1 Ax2 lx2 cx2 (some ⟨2 * jg, 0, none⟩) (some ⟨2 * jr, 0, none⟩) (IntKind.i64.wrap ((i : Int) + 1)) N (QK M0) := by
      intro N K
      rw [i64w (x := (i : Int) + 1) (by omega)]
      exact e5_2 hf hl1 hl2 R1 F1 hl R2 hq k (i + 1) (by omega) (by omega) (P3.keep K)
    by_cases h2x : i < q.length
    · have hqi := hq _ (List.getElem_mem h2x)
      refine cT (decide_eq_true (by omega)) (ixA (R2.keep T3) (by omega) h2x ?_)
      refine stA (cs := q[i].cs) b3 (by rw [K3.floor]; omega) rfl rfl rfl fun M4 C4 z4 b4 => ?_
      have s2 := P2.K.size
      have K4 : Keep N2 M4 := Keep.step K3 C4 fun i hi => by omega
      have P4 := P2.keep K4
      obtain ⟨V4, U4, g4, r4, _⟩ := P4.ex
      refine on (int_of (x := q[i].x) (i := 0) b4 rfl) (on (int_of (x := q[i].y) (i := 0 + 1) b4 rfl) (on (int_of (x := q[i].s) (i := 0 + 2) b4 rfl) (on (int_of (x := q[i].w) (i := 0 + 3) b4 rfl) (on (int_of (x := q[i].r) (i := 0 + 4) b4 rfl) (Cn.mono (c18 (fb hf P4.K) g4 r4 hqi.1 hqi.2.1 hqi.2.2.1 hqi.2.2.2) ?_)))))
      rintro _ N5 ⟨rfl, K5⟩
      refine ty rfl (cF rfl ?_)
      rw [i64w (x := (i : Int) + 1) (by omega)]
      exact e5_2 hf hl1 hl2 R1 F1 hl R2 hq k (i + 1) (by omega) (by omega) (P4.keep K5)
    · obtain ⟨V4, U4, g4, r4, _⟩ := P3.ex
      refine cF (decide_eq_false (by omega)) (on (int_of (x := IntKind.i64.wrap (l[i].x + l[i].w)) (i := 0) b3 rfl) (on (int_of (x := l[i].y) (i := 0 + 1) b3 rfl) (on (int_of (x := 16) (i := 0 + 2) b3 rfl) (on (int_of (x := 8) (i := 0 + 3) b3 rfl) (on (int_of (x := 0) (i := 0 + 4) b3 rfl) (Cn.mono (c18 (fb hf T3) g4 r4 (wrap_r _) hin.2.1 (by unfold i64R; omega) (by unfold i64R; omega)) ?_))))))
      rintro _ N5 ⟨rfl, K5⟩
      exact ty rfl (cF rfl (go K5))
set_option maxHeartbeats 1000000 in
theorem c5 (hf : M.floor ≤ M.nb.size) (hr : i64R t.x ∧ i64R t.y ∧ i64R t.w ∧ i64R t.h) (hl1 : lx1 = l.length) (hl2 : lx2 = q.length) (R1 : Row M Ax1 (Bks l)) (F1 : Fix M Ax1) (hl : ∀ b ∈ l, b.in) (R2 : Row M Ax2 (Aks q)) (hq : ∀ a ∈ q, a.in) :
    Cn Try.prog 5 #[.agg #[.int .i64 t.x, .int .i64 t.y, .int .i64 t.w, .int .i64 t.h], .slice Ax1 lx1 cx1, .slice Ax2 lx2 cx2] M fun v N => v = .bool true ∧ Keep M N := by
  have s := Mem.new_at M (.cells #[.int .i64 t.x, .int .i64 t.y, .int .i64 t.w, .int .i64 t.h] 35)
  have K1 : Keep M (M.new (.cells #[.int .i64 t.x, .int .i64 t.y, .int .i64 t.w, .int .i64 t.h] 35)) := .new _ _
  refine w5_0 ?_
  generalize M.new (.cells #[.int .i64 t.x, .int .i64 t.y, .int .i64 t.w, .int .i64 t.h] 35) = M1 at s K1 ⊢
  have z1 := K1.size
  refine on (int_of (i := 0) s rfl) (on (int_of (i := 0 + 1) s rfl) (on (int_of (i := 0 + 2) s rfl) (on (int_of (i := 0 + 3) s rfl) (Cn.mono (c8 (t := t) (fb hf K1) hr) ?_))))
  rintro v N1 ⟨K2, h⟩
  have T2 := K1.trans K2
  have s2 := at_keep s K2
  have z2 := K2.size
  cases hm : t.may with
  | false =>
    rw [hm, if_neg (by simp)] at h
    subst h
    refine ty rfl (ty rfl (ty rfl (on (int_of (i := 0) s2 rfl) (on (int_of (i := 0 + 1) s2 rfl) (on (int_of (i := 0 + 2) s2 rfl) (on (int_of (i := 0 + 3) s2 rfl) (Cn.mono (c16 (t := t) (fb hf T2) hr) ?_)))))))
    rintro v N2 ⟨K3, h⟩
    rw [hm, if_neg (by simp)] at h
    subst h
    exact ty rfl (ty rfl (ty rfl (cF rfl (w5_1 (cF rfl (cT rfl (Cn.known rfl (ty rfl ⟨rfl, T2.trans K3⟩))))))))
  | true =>
    rw [hm, if_pos rfl] at h
    obtain ⟨jg, jm, q1, q2, q3, rfl, g, gm⟩ := h
    refine ty rfl (ty rfl (ty rfl (on (int_of (i := 0) s2 rfl) (on (int_of (i := 0 + 1) s2 rfl) (on (int_of (i := 0 + 2) s2 rfl) (on (int_of (i := 0 + 3) s2 rfl) (Cn.mono (c16 (t := t) (fb hf T2) hr) ?_)))))))
    rintro v N2 ⟨K3, h⟩
    rw [hm, if_pos rfl] at h
    obtain ⟨jr, q4, q5, rfl, r⟩ := h
    have z3 := K3.size
    have T3 := T2.trans K3
    refine ty rfl (ty rfl (ty rfl (cF rfl (w5_1 (cF rfl (cF rfl ?_))))))
    refine e5_2 (t := t) (jm := jm) hf hl1 hl2 R1 F1 hl R2 hq (min l.length 100) 0 (L := []) (by omega) (by simp) ⟨T3, fun _ => False, fun _ => False, ?_, ?_, fun i hi => ?_, fun i hi => ?_⟩
    · exact ⟨hm, ⟨id, id, by omega⟩, fun b hb => by simp at hb, by simp, Option.none, 0, #[], 0, at_keep g K3, .inl ⟨rfl, rfl, rfl⟩, Nat.le_refl _, at_keep gm K3, by first | exact trivial | simp [entL, EntR]⟩
    · exact ⟨hm, id, fun b hb => by simp at hb, by simp, Option.none, 0, r, .inl ⟨rfl, rfl, rfl⟩, Nat.le_refl _⟩
    · rcases hi with w | w | w
      · exact w.elim
      all_goals exact ⟨by omega, by omega, fun o => by rcases o with o | o; exact o; omega⟩
    · rcases hi with w | w
      · exact w.elim
      · exact ⟨by omega, by omega⟩
end
theorem sees_blks5 {M : Mem} {B k : Nat} {r : List Value} (h : Sees Try.prog M B (k + 5) 43 r) : ∃ A n c, ∃ X : List Bk, r = [.slice A n c] ∧ n = X.length ∧ n ≤ c ∧ n ≤ B ∧ (A = none → c = 0) ∧ Old A ∧ Row M A (Bks X) ∧ ∀ b ∈ X, b.in :=
  sees_slice (f := fun b : Bk => b.cs.toList) (good := Bk.in) (e := 27) (by kernel_rfl) h fun r hr => sees_blk hr
theorem sees_asks {M : Mem} {B k : Nat} {r : List Value} (h : Sees Try.prog M B (k + 3) 51 r) : ∃ A n c, ∃ X : List Ak, r = [.slice A n c] ∧ n = X.length ∧ n ≤ c ∧ n ≤ B ∧ (A = none → c = 0) ∧ Old A ∧ Row M A (Aks X) ∧ ∀ b ∈ X, b.in :=
  sees_slice (f := fun b : Ak => b.cs.toList) (good := Ak.in) (e := 56) (by kernel_rfl) h fun r hr => by
    obtain ⟨h1, h2⟩ := sees_struct (l := [(0, 3), (1, 3), (2, 3), (3, 3), (4, 3)]) (n := 5) (by kernel_rfl) (by kernel_rfl) hr
    match r, h1 with
    | [a, b, c, d, e], _ =>
      have c3 : Try.prog.cellsOf 3 = 1 := by kernel_rfl
      obtain ⟨x, e1, f1⟩ := sees_int (q := .i64) (by kernel_rfl) (h2 (0, 3) (by simp))
      obtain ⟨y, e2, f2⟩ := sees_int (q := .i64) (by kernel_rfl) (h2 (1, 3) (by simp))
      obtain ⟨z, e3, f3⟩ := sees_int (q := .i64) (by kernel_rfl) (h2 (2, 3) (by simp))
      obtain ⟨w, e4, f4⟩ := sees_int (q := .i64) (by kernel_rfl) (h2 (3, 3) (by simp))
      obtain ⟨v, e5, f5⟩ := sees_int (q := .i64) (by kernel_rfl) (h2 (4, 3) (by simp))
      simp [c3] at e1 e2 e3 e4 e5
      exact ⟨⟨x, y, z, w, v⟩, by rw [e1, e2, e3, e4, e5], wf_r f1, wf_r f2, wf_r f4, wf_r f5⟩
theorem sees_rect5 {M : Mem} {B k : Nat} {r : List Value} (h : Sees Try.prog M B (k + 2) 35 r) : ∃ t : Tl, r = [.int .i64 t.x, .int .i64 t.y, .int .i64 t.w, .int .i64 t.h] ∧ i64R t.x ∧ i64R t.y ∧ i64R t.w ∧ i64R t.h := by
  obtain ⟨h1, h2⟩ := sees_struct (l := [(0, 3), (1, 3), (2, 3), (3, 3)]) (n := 4) (by kernel_rfl) (by kernel_rfl) h
  match r, h1 with
  | [a, b, c, d], _ =>
    have c3 : Try.prog.cellsOf 3 = 1 := by kernel_rfl
    obtain ⟨x, e1, f1⟩ := sees_int (q := .i64) (by kernel_rfl) (h2 (0, 3) (by simp))
    obtain ⟨y, e2, f2⟩ := sees_int (q := .i64) (by kernel_rfl) (h2 (1, 3) (by simp))
    obtain ⟨z, e3, f3⟩ := sees_int (q := .i64) (by kernel_rfl) (h2 (2, 3) (by simp))
    obtain ⟨w, e4, f4⟩ := sees_int (q := .i64) (by kernel_rfl) (h2 (3, 3) (by simp))
    simp [c3] at e1 e2 e3 e4
    exact ⟨⟨x, y, z, w⟩, by rw [e1, e2, e3, e4], wf_r f1, wf_r f2, wf_r f3, wf_r f4⟩
theorem law5 {W : World} {cs : List Value} {B B1 B2 : Nat} {u v : Value} (s0 : Sees Try.prog (mem0 W) B 8 35 cs) (s1 : Sees Try.prog (mem0 W) B1 8 43 [u]) (s2 : Sees Try.prog (mem0 W) B2 8 51 [v]) : Cn Try.prog 5 #[.agg cs.toArray, u, v] (mem0 W) fun v _ => v = .bool true := by
  obtain ⟨t, rfl, hr⟩ := sees_rect5 s0
  obtain ⟨A, n, c, X, e, h1, h2, h3, h4, h5, h6, h7⟩ := sees_blks5 s1
  simp only [List.cons.injEq, and_true] at e
  subst e
  obtain ⟨A', n', c', Y, e, g1, g2, g3, g4, g5, g6, g7⟩ := sees_asks s2
  simp only [List.cons.injEq, and_true] at e
  subst e
  exact Cn.mono (c5 (t := t) (Nat.le_refl _) hr h1 g1 h6 (fun a ha => .inl (h5 a ha)) h7 g6 g7) fun v N h => h.1
end Go.Zt
