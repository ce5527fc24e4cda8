/- Layer 17: Bring, Blocks; the owners' plain law. -/
import Derived.Test.YtamlmpeiamkllaaZpU
import Derived.Test.YtamlmpeiamkllaaZpR
set_option linter.unusedSimpArgs false
set_option linter.unusedVariables false
set_option maxRecDepth 100000
namespace Go.Zt
open Go Go.Sim Go.Proofs Go.RowKit

def bring (x n : Int) : Int := if x.tmod n < 0 then x.tmod n + n else x.tmod n
theorem bring_lt (x : Int) {n : Int} (h : 0 < n) : 0 ≤ bring x n ∧ bring x n < n := by
  have h1 := Int.tmod_lt_of_pos x h
  have h2 := Int.lt_tmod_of_pos x h
  unfold bring
  split <;> omega
section
variable {V : Nat → Prop} {M : Mem} {j jm : Nat} {t : Tl} {L : List Bk}
theorem c13 {x n : Int} (h : 0 < n) (hn : n ≤ 1000) : Cn Try.prog 13 #[.int .i64 x, .int .i64 n] M fun v N => v = .int .i64 (bring x n) ∧ N = M := by
  have h1 := Int.tmod_lt_of_pos x h
  have h2 := Int.lt_tmod_of_pos x h
  refine w13_0 (cF (decide_eq_false (by omega)) (pu (binV_rem (by omega)) (ty rfl ?_)))
  unfold bring
  by_cases h3 : x.tmod n < 0
  · rw [if_pos h3]
    exact cT (decide_eq_true h3) ⟨by rw [i64w (by omega)], rfl⟩
  · rw [if_neg h3]
    exact cF (decide_eq_false h3) ⟨rfl, rfl⟩
/-- A row of blocks is copied. -/
theorem c33 {A : Option Addr} {n c : Nat} (hf : M.floor ≤ M.nb.size) (R : Row M A (Bks L)) (hA : A = none → L = []) (hn : n = L.length) (hb : n ≤ 10000) :
    Cn Try.prog 33 #[.slice A n c] M fun v N => ∃ A' c', v = .slice A' n c' ∧ Keep M N ∧ Own (fun i => M.nb.size ≤ i) N 27 A' (c' * 23) (Bks L) ∧ n ≤ c' := by
  refine w33_0 ?_
  cases A with
  | none =>
    have := hA rfl
    subst this
    subst hn
    exact cT rfl ⟨none, 0, rfl, .refl _, .inl ⟨rfl, rfl, rfl⟩, Nat.le_refl _⟩
  | some a =>
    have K : Keep M (M.new (.cells #[] 27)) := .new _ _
    have O : Own (fun i => M.nb.size ≤ i) (M.new (.cells #[] 27)) 27 (some ⟨2 * M.nb.size, 0, none⟩) (0 * 23) [] := .inr ⟨_, _, none, rfl, .inl rfl, Nat.le_refl _, Mem.new_at _ _, rfl, Nat.le_refl _, Nat.le_refl _⟩
    obtain ⟨A', c', M2, p, C2, O2, h2⟩ := append_own elem43 O (n := 0) rfl (R.keep K) (k := n) (cx := c) (by rw [Bks_len, hn, Nat.mul_comm]) (Bks_one L) (fun i hi => by rw [K.floor]; omega) (by rw [Mem.new_size]; omega) (by omega)
    rw [Nat.zero_add] at p h2
    exact cF rfl (me p (ty rfl ⟨A', c', rfl, Keep.step K C2 fun i hi => hi, O2, h2⟩))
theorem c15 (hf : M.floor ≤ M.nb.size) (G : Gr V M j jm t L) : Cn Try.prog 15 #[PtrB j] M fun v N => ∃ A' c', v = .slice A' L.length c' ∧ Keep M N ∧ Own (fun i => M.nb.size ≤ i) N 27 A' (c' * 23) (Bks L) ∧ L.length ≤ c' := by
  obtain ⟨A, c, es, k, g1, g2, g3, g4, g5⟩ := G.ex
  refine w15_0 (Cn.eq (c24 g1) (ty rfl (cF rfl (ad rfl (on (sl_of (i := 0 + 5) g1 rfl) (Cn.mono (c33 hf g2.row (fun h => ?_) rfl (show L.length ≤ 10000 by have := G.len; omega)) ?_))))))
  · subst h
    have := g2.row.none_nil
    cases L with
    | nil => rfl
    | cons b L => simp [Bks] at this
  · rintro _ N ⟨A', c', rfl, h⟩
    exact ty rfl ⟨A', c', rfl, h⟩
end
/-! ### Owners -/
section
variable {t : Tl} {L : List Bk} {b : Bk} {x y : Int}
def own (t : Tl) (L : List Bk) (y x : Nat) : Nat := match idxS (t.x + 8 * (x : Int)) (t.y + 8 * (y : Int)) L with | none => 0 | some m => m + 1
theorem own_le {y x : Nat} : own t L y x ≤ L.length := by
  unfold own
  split
  · omega
  · rename_i m h
    obtain ⟨h1, _⟩ := idx_some h
    omega
theorem idx_app {x y : Int} : ∀ {L : List Bk}, idxS x y (L ++ [b]) = (idxS x y L).or (if b.cov x y then some L.length else none)
  | [] => by simp only [List.nil_append, idxS, Option.none_or, List.length_nil, Option.map_none]
  | a :: L => by
    simp only [List.cons_append, idxS]
    split
    · rfl
    · rw [idx_app, or_map]
      congr 1
      split <;> simp
/-- The cells of a block in a tile: from its corner. -/
def cx0 (t : Tl) (b : Bk) : Nat := ((b.x - t.x) / 8).toNat
def cy0 (t : Tl) (b : Bk) : Nat := ((b.y - t.y) / 8).toNat
def hits (t : Tl) (b : Bk) (y x : Nat) : Bool := decide (cy0 t b ≤ y ∧ y < cy0 t b + b.h.toNat / 8 ∧ cx0 t b ≤ x ∧ x < cx0 t b + b.w.toNat / 8)
theorem hits_cov (hm : t.may = true) (hb : b.ok t = true) {y x : Nat} : b.cov (t.x + 8 * (x : Int)) (t.y + 8 * (y : Int)) = hits t b y x := by
  obtain ⟨h1, h2, h3, h4⟩ := Bk.ok_iff.1 hb
  unfold Tl.may spanB at hm
  simp only [Bool.and_eq_true, decide_eq_true_eq] at hm
  unfold Bk.cov hits cx0 cy0
  rw [Bool.eq_iff_iff, decide_eq_true_eq, decide_eq_true_eq]
  omega
theorem own_app (hm : t.may = true) (hb : b.ok t = true) {y x : Nat} (h : hits t b y x = true → own t L y x = 0) : own t (L ++ [b]) y x = if hits t b y x then L.length + 1 else own t L y x := by
  unfold own at h ⊢
  rw [idx_app, hits_cov hm hb]
  cases hh : hits t b y x with
  | false =>
    rw [if_neg (by simp), if_neg (by simp), Option.or_none]
  | true =>
    have h := h hh
    rw [if_pos rfl, if_pos rfl]
    split at h
    · rename_i h1; rw [h1]; rfl
    · omega
/-- What may be put, told by owners. -/
theorem putS_own (hm : t.may = true) (hL : ∀ b ∈ L, b.ok t = true) (hb : b.ok t = true) : (L.all fun a => !a.ovl b) = true ↔ ∀ yi xi : Nat, yi < b.h.toNat / 8 → xi < b.w.toNat / 8 → own t L (cy0 t b + yi) (cx0 t b + xi) = 0 := by
  rw [ovl_cells hL hb]
  obtain ⟨h1, h2, h3, h4⟩ := Bk.ok_iff.1 hb
  have hm' := hm
  unfold Tl.may spanB at hm'
  simp only [Bool.and_eq_true, decide_eq_true_eq] at hm'
  have key : ∀ yi xi : Nat, findE (b.x / 8 + (xi : Int), b.y / 8 + (yi : Int)) (entL 0 L) 0 = none ↔ own t L (cy0 t b + yi) (cx0 t b + xi) = 0 := by
    intro yi xi
    have e1 : (t.x + 8 * ((cx0 t b + xi : Nat) : Int)) = b.x + 8 * (xi : Int) := by unfold cx0; omega
    have e2 : (t.y + 8 * ((cy0 t b + yi : Nat) : Int)) = b.y + 8 * (yi : Int) := by unfold cy0; omega
    have f := findE_entL (t := t) (x := b.x + 8 * (xi : Int)) (y := b.y + 8 * (yi : Int)) L 0 0 hL
    rw [show (b.x + 8 * (xi : Int)) / 8 = b.x / 8 + (xi : Int) by omega, show (b.y + 8 * (yi : Int)) / 8 = b.y / 8 + (yi : Int) by omega] at f
    unfold own
    rw [e1, e2]
    cases hi : idxS (b.x + 8 * (xi : Int)) (b.y + 8 * (yi : Int)) L with
    | none =>
      rw [hi] at f
      simp only [Option.map_none, Option.map_eq_none_iff] at f
      simp [f]
    | some m =>
      rw [hi] at f
      constructor
      · intro g; rw [g] at f; cases f
      · intro g; simp at g
  constructor
  · intro h yi xi hy hx
    exact (key yi xi).1 (h _ (mem_ents.2 ⟨yi, xi, hy, hx, rfl, rfl⟩))
  · rintro h ⟨p, q⟩ hp
    obtain ⟨yi, xi, hy, hx, rfl, rfl⟩ := mem_ents.1 hp
    exact (key yi xi).2 (h yi xi hy hx)
/-- A place within a cell. -/
theorem at_cell (hm : t.may = true) (hL : ∀ b ∈ L, b.ok t = true) {y x : Nat} {u v : Int} (hu : 0 ≤ u ∧ u < 8) (hv : 0 ≤ v ∧ v < 8) : idxS (t.x + 8 * (x : Int) + u) (t.y + 8 * (y : Int) + v) L = idxS (t.x + 8 * (x : Int)) (t.y + 8 * (y : Int)) L := by
  have hm' := hm
  unfold Tl.may spanB at hm'
  simp only [Bool.and_eq_true, decide_eq_true_eq] at hm'
  induction L with
  | nil => rfl
  | cons b L ih =>
    have hb := hL b (List.mem_cons_self ..)
    obtain ⟨h1, h2, h3, h4⟩ := Bk.ok_iff.1 hb
    have e : b.cov (t.x + 8 * (x : Int) + u) (t.y + 8 * (y : Int) + v) = b.cov (t.x + 8 * (x : Int)) (t.y + 8 * (y : Int)) := by
      unfold Bk.cov
      rw [Bool.eq_iff_iff, decide_eq_true_eq, decide_eq_true_eq]
      omega
    simp only [idxS, e, ih fun c hc => hL c (List.mem_cons_of_mem _ hc)]
end
end Go.Zt
