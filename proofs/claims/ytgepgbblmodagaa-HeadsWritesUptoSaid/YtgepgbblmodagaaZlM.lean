/- Layer 20: which frame headers may be: heads, their cells, what is asked of them. -/
import Derived.Test.YtgepgbblmodagaaZkO
import Derived.Test.YtgepgbblmodagaaZqT
import Derived.Test.YtgepgbblmodagaaZlB
import Derived.Test.YtgepgbblmodagaaZlA
set_option linter.unusedSimpArgs false
set_option linter.unusedVariables false
set_option maxRecDepth 100000
namespace Go.Zt
open Go Go.Sim Go.Proofs Go.RowKit
structure Hd where
  ex : Bool
  sl : Int
  sh : Bool
  ke : Bool
  rf : Int
  r0 : Int
  r1 : Int
  r2 : Int
  pr : Int
  ba : Int
  d0 : Int
  d1 : Int
  d2 : Int
  d3 : Int
  d4 : Int
  co : Int
  ro : Int
  na : Bool
  l0 : Int
  l1 : Int
  l2 : Int
  l3 : Int
  sp : Int
  cd : Bool
  da : Int
  cb : Int
  A : Option Addr
  n : Nat
  c : Nat
  x0 : Bool
  x1 : Bool
  x2 : Bool
abbrev Hd.cs (h : Hd) : Array Value := #[.bool h.ex, .int .i64 h.sl, .bool h.sh, .bool h.ke, .int .i64 h.rf, .int .i64 h.r0, .int .i64 h.r1, .int .i64 h.r2, .int .i64 h.pr, .int .i64 h.ba, .int .i64 h.d0, .int .i64 h.d1, .int .i64 h.d2, .int .i64 h.d3, .int .i64 h.d4, .int .i64 h.co, .int .i64 h.ro, .bool h.na, .int .i64 h.l0, .int .i64 h.l1, .int .i64 h.l2, .int .i64 h.l3, .int .i64 h.sp, .bool h.cd, .int .i64 h.da, .int .i64 h.cb, .slice h.A h.n h.c, .bool h.x0, .bool h.x1, .bool h.x2]
structure Sg where
  a : Int
  b : Int
  c : Int
  d : Int
  deriving DecidableEq
abbrev Sg.cells (x : Sg) : List Value := [.int .i64 x.a, .int .i64 x.b, .int .i64 x.c, .int .i64 x.d]
abbrev Sgs (X : List Sg) : List Value := X.flatMap Sg.cells
theorem Sgs_len (X : List Sg) : (Sgs X).length = 4 * X.length := by
  induction X with
  | nil => rfl
  | cons x X ih => simp only [Sgs, List.flatMap_cons, List.length_append, List.length_cons, List.length_nil] at ih ⊢; omega
theorem Sgs_at {X : List Sg} {i : Nat} (h : i < X.length) : ∀ o, o < 4 → (Sgs X)[i * 4 + o]? = (X[i]).cells[o]? := by
  induction X generalizing i with
  | nil => simp at h
  | cons x X ih =>
    intro o ho
    cases i with
    | zero => simp only [Sgs, List.flatMap_cons, Nat.zero_mul, Nat.zero_add]; rw [List.getElem?_append_left (by simpa using ho)]; rfl
    | succ i =>
      simp only [Sgs, List.flatMap_cons]
      rw [List.getElem?_append_right (by simp; omega), show (i + 1) * 4 + o - (x.cells).length = i * 4 + o by simp; omega]
      exact ih (by simpa using h) o ho
theorem Sgs.elt {M : Mem} {A : Option Addr} {X : List Sg} (hR : Row M A (Sgs X)) {n i : Nat} {z : Int} (hz : z = (i : Int)) (hn : i < n) (hi : i < X.length) :
    ∃ a, idxA A n 4 z = some a ∧ M.intAt .i64 a.block a.off = some X[i].a ∧ M.intAt .i64 a.block (a.off + 1) = some X[i].b ∧ M.intAt .i64 a.block (a.off + 2) = some X[i].c ∧ M.intAt .i64 a.block (a.off + 3) = some X[i].d := by
  have hl := Sgs_len X
  obtain ⟨a, h1, h2⟩ := hR.elt (s := 4) hz hn (by decide) (by omega)
  refine ⟨a, h1, cell_int ?_, cell_int ?_, cell_int ?_, cell_int ?_⟩
  · have := h2 0 (by decide); rw [Nat.add_zero] at this; rw [this, Sgs_at hi 0 (by decide)]; rfl
  · rw [h2 1 (by decide), Sgs_at hi 1 (by decide)]; rfl
  · rw [h2 2 (by decide), Sgs_at hi 2 (by decide)]; rfl
  · rw [h2 3 (by decide), Sgs_at hi 3 (by decide)]; rfl
def Hd.less (h : Hd) : Bool := decide (h.ba = 0 ∧ h.d0 = 0 ∧ h.d1 = 0 ∧ h.d2 = 0 ∧ h.d3 = 0 ∧ h.d4 = 0)
def Sg.may (x : Sg) : Bool := decide ((0 ≤ x.a ∧ x.a ≤ 15) ∧ (0 ≤ x.c ∧ x.c ≤ 15) ∧ (0 ≤ x.b ∧ x.b ≤ 3) ∧ (0 ≤ x.d ∧ x.d ≤ 3))
def Hd.mayF (h : Hd) (X : List Sg) : Bool :=
  if h.less then decide ((h.l0 = 0 ∧ h.l1 = 0 ∧ h.l2 = 0 ∧ h.l3 = 0) ∧ h.sp = 0 ∧ h.cd = false ∧ h.da = 0 ∧ h.cb = 0 ∧ X.length = 0 ∧ (h.x0 = false ∧ h.x1 = false ∧ h.x2 = false))
  else decide ((0 ≤ h.sp ∧ h.sp ≤ 7) ∧ (if h.cd then (3 ≤ h.da ∧ h.da ≤ 6) ∧ (0 ≤ h.cb ∧ h.cb ≤ 3) ∧ X.length = 2 ^ h.cb.toNat else h.da = 0 ∧ h.cb = 0 ∧ X.length = 0) ∧
    (0 ≤ h.l0 ∧ h.l0 ≤ 63) ∧ (0 ≤ h.l1 ∧ h.l1 ≤ 63) ∧ (0 ≤ h.l2 ∧ h.l2 ≤ 63) ∧ (0 ≤ h.l3 ∧ h.l3 ≤ 63)) && X.all Sg.may
def Hd.mt (h : Hd) (X : List Sg) : Bool := decide (h.sh = false ∧ h.ke = false ∧ h.rf = 0 ∧ (h.r0 = 0 ∧ h.r1 = 0 ∧ h.r2 = 0) ∧ h.pr = 0 ∧ h.less = true ∧ h.co = 0 ∧ h.ro = 0 ∧ h.na = false ∧ h.mayF X = true)
def logM (n s : Int) : Bool := decide (0 ≤ n ∧ n ≤ 2 ∧ 2 ^ n.toNat ≤ (s + 63) / 64)
def Hd.may (h : Hd) (X : List Sg) (w e : Int) : Bool :=
  mayS w e && (if h.ex then decide (0 ≤ h.sl ∧ h.sl ≤ 7) && h.mt X
    else decide (h.sl = 0 ∧ (0 ≤ h.rf ∧ h.rf ≤ 255) ∧ (-1 ≤ h.pr ∧ h.pr ≤ 7) ∧ (0 ≤ h.ba ∧ h.ba ≤ 255)) && logM h.co w && logM h.ro e && h.mayF X && (!h.ke || decide ((h.r0 = 0 ∧ h.r1 = 0 ∧ h.r2 = 0) ∧ h.pr = -1))) &&
  decide ((0 ≤ h.r0 ∧ h.r0 ≤ 7) ∧ (0 ≤ h.r1 ∧ h.r1 ≤ 7) ∧ (0 ≤ h.r2 ∧ h.r2 ≤ 7)) &&
  decide ((-31 ≤ h.d0 ∧ h.d0 ≤ 31) ∧ (-31 ≤ h.d1 ∧ h.d1 ≤ 31) ∧ (-31 ≤ h.d2 ∧ h.d2 ≤ 31) ∧ (-31 ≤ h.d3 ∧ h.d3 ≤ 31) ∧ (-31 ≤ h.d4 ∧ h.d4 ≤ 31))
theorem eqv {t : TypeId} {xs ys : List Value} (hg : isAggP Try.prog t = some true) (hf : flatTy Try.prog 3 t = true) (hx : fits Try.prog 3 t xs = true) (hy : fits Try.prog 3 t ys = true) (hG : Try.prog.eqGuardType Try.prog.depth t = false) (hp : plain (.agg xs.toArray) = true) (hq : plain (.agg ys.toArray) = true) {p : Prop} [Decidable p] (he : xs = ys ↔ p) :
    binV Try.prog .eql t t (.agg xs.toArray) (.agg ys.toArray) = some (.bool (decide p)) ∧ binV Try.prog .neq t t (.agg xs.toArray) (.agg ys.toArray) = some (.bool (!decide p)) := by
  obtain ⟨b, h1, h2, h3⟩ := binV_eqA (P := Try.prog) (k := 3) (t := t) (tb := t) (xs := xs) (ys := ys) (by decide) hg hf hx hy hG hp hq
  have : b = decide p := by
    rw [Bool.eq_iff_iff, h3, he, decide_eq_true_eq]
  rw [h1, h2, this]; exact ⟨rfl, rfl⟩
theorem eq35 (a b c a' b' c' : Int) : binV Try.prog .eql 35 35 (.agg #[.int .i64 a, .int .i64 b, .int .i64 c]) (.agg #[.int .i64 a', .int .i64 b', .int .i64 c']) = some (.bool (decide (a = a' ∧ b = b' ∧ c = c'))) ∧ binV Try.prog .neq 35 35 (.agg #[.int .i64 a, .int .i64 b, .int .i64 c]) (.agg #[.int .i64 a', .int .i64 b', .int .i64 c']) = some (.bool (!decide (a = a' ∧ b = b' ∧ c = c'))) :=
  eqv (xs := [.int .i64 a, .int .i64 b, .int .i64 c]) (ys := [.int .i64 a', .int .i64 b', .int .i64 c']) (by kernel_rfl) (by kernel_rfl) (by kernel_rfl) (by kernel_rfl) (by kernel_rfl) rfl rfl (by simp)
theorem eq37 (a b c d a' b' c' d' : Int) : binV Try.prog .eql 37 37 (.agg #[.int .i64 a, .int .i64 b, .int .i64 c, .int .i64 d]) (.agg #[.int .i64 a', .int .i64 b', .int .i64 c', .int .i64 d']) = some (.bool (decide (a = a' ∧ b = b' ∧ c = c' ∧ d = d'))) ∧ binV Try.prog .neq 37 37 (.agg #[.int .i64 a, .int .i64 b, .int .i64 c, .int .i64 d]) (.agg #[.int .i64 a', .int .i64 b', .int .i64 c', .int .i64 d']) = some (.bool (!decide (a = a' ∧ b = b' ∧ c = c' ∧ d = d'))) :=
  eqv (xs := [.int .i64 a, .int .i64 b, .int .i64 c, .int .i64 d]) (ys := [.int .i64 a', .int .i64 b', .int .i64 c', .int .i64 d']) (by kernel_rfl) (by kernel_rfl) (by kernel_rfl) (by kernel_rfl) (by kernel_rfl) rfl rfl (by simp)
theorem eq96 (a b c d a' b' c' d' : Int) : binV Try.prog .eql 96 96 (.agg #[.int .i64 a, .int .i64 b, .int .i64 c, .int .i64 d]) (.agg #[.int .i64 a', .int .i64 b', .int .i64 c', .int .i64 d']) = some (.bool (decide (a = a' ∧ b = b' ∧ c = c' ∧ d = d'))) ∧ binV Try.prog .neq 96 96 (.agg #[.int .i64 a, .int .i64 b, .int .i64 c, .int .i64 d]) (.agg #[.int .i64 a', .int .i64 b', .int .i64 c', .int .i64 d']) = some (.bool (!decide (a = a' ∧ b = b' ∧ c = c' ∧ d = d'))) :=
  eqv (xs := [.int .i64 a, .int .i64 b, .int .i64 c, .int .i64 d]) (ys := [.int .i64 a', .int .i64 b', .int .i64 c', .int .i64 d']) (by kernel_rfl) (by kernel_rfl) (by kernel_rfl) (by kernel_rfl) (by kernel_rfl) rfl rfl (by simp)
theorem eq36 (a b c d e a' b' c' d' e' : Int) : binV Try.prog .eql 36 36 (.agg #[.int .i64 a, .int .i64 b, .int .i64 c, .int .i64 d, .int .i64 e]) (.agg #[.int .i64 a', .int .i64 b', .int .i64 c', .int .i64 d', .int .i64 e']) = some (.bool (decide (a = a' ∧ b = b' ∧ c = c' ∧ d = d' ∧ e = e'))) ∧ binV Try.prog .neq 36 36 (.agg #[.int .i64 a, .int .i64 b, .int .i64 c, .int .i64 d, .int .i64 e]) (.agg #[.int .i64 a', .int .i64 b', .int .i64 c', .int .i64 d', .int .i64 e']) = some (.bool (!decide (a = a' ∧ b = b' ∧ c = c' ∧ d = d' ∧ e = e'))) :=
  eqv (xs := [.int .i64 a, .int .i64 b, .int .i64 c, .int .i64 d, .int .i64 e]) (ys := [.int .i64 a', .int .i64 b', .int .i64 c', .int .i64 d', .int .i64 e']) (by kernel_rfl) (by kernel_rfl) (by kernel_rfl) (by kernel_rfl) (by kernel_rfl) rfl rfl (by simp)
theorem eq39 (a b c a' b' c' : Bool) : binV Try.prog .eql 39 39 (.agg #[.bool a, .bool b, .bool c]) (.agg #[.bool a', .bool b', .bool c']) = some (.bool (decide (a = a' ∧ b = b' ∧ c = c'))) ∧ binV Try.prog .neq 39 39 (.agg #[.bool a, .bool b, .bool c]) (.agg #[.bool a', .bool b', .bool c']) = some (.bool (!decide (a = a' ∧ b = b' ∧ c = c'))) :=
  eqv (xs := [.bool a, .bool b, .bool c]) (ys := [.bool a', .bool b', .bool c']) (by kernel_rfl) (by kernel_rfl) (by kernel_rfl) (by kernel_rfl) (by kernel_rfl) rfl rfl (by simp)
theorem dT {p : Prop} [Decidable p] (h : decide p = true) : p := of_decide_eq_true h
theorem dF {p : Prop} [Decidable p] (h : decide p = false) : ¬ p := of_decide_eq_false h
theorem bF {p : Prop} [Decidable p] (h : ¬ p) : (Value.bool false) = .bool (decide p) := by rw [decide_eq_false h]
theorem pow2 {n : Int} (h : 0 ≤ n ∧ n ≤ 3) : (2 : Int) ^ n.toNat ≤ 8 ∧ 1 ≤ (2 : Int) ^ n.toNat := by
  have : n.toNat = 0 ∨ n.toNat = 1 ∨ n.toNat = 2 ∨ n.toNat = 3 := by omega
  rcases this with h | h | h | h <;> rw [h] <;> decide
theorem c57 {n s : Int} {M : Mem} (hs : 16 ≤ s ∧ s ≤ 256) : Cn Try.prog 57 #[.int .i64 n, .int .i64 s] M fun v N => v = .bool (logM n s) ∧ N = M := by
  refine w57_0 (Cn.eq c55 (ty rfl (cd (fun h => ?_) fun h => ⟨bF (by omega), rfl⟩)))
  obtain ⟨p1, p2⟩ := pow2 (n := n) (by omega)
  refine pu (shl_i64 (q := n.toNat) (by omega) (by omega) (by omega)) (ty rfl ⟨?_, rfl⟩)
  rw [i64w (x := s + 64) (by omega), i64w (x := s + 64 - 1) (by omega), Int.tdiv_eq_ediv_of_nonneg (by omega), i64w (by omega), show s + 64 - 1 = s + 63 by omega, Int.one_mul]
  unfold logM
  congr 1
  rw [decide_eq_decide]
  exact ⟨fun h' => ⟨h.1, h.2, h'⟩, fun h' => h'.2.2⟩
theorem c77 {h : Hd} {M : Mem} : Cn Try.prog 77 #[.agg h.cs] M (BK M h.less) := by
  have a := Mem.new_at M (.cells h.cs 41)
  have K : Keep M (M.new (.cells h.cs 41)) := .new _ _
  refine w77_0 ?_
  generalize M.new (.cells h.cs 41) = N at a K ⊢
  refine on (int_of a rfl) (ce (fun e => on (int_of a rfl) (on (int_of a rfl) (on (int_of a rfl) (on (int_of a rfl) (on (int_of a rfl) (pu (eq36 ..).1 (ty rfl ⟨?_, K⟩))))))) fun e => ⟨bF fun hh => e hh.1, K⟩)
  unfold Hd.less; congr 1; rw [decide_eq_decide]; exact ⟨fun hh => ⟨e, hh⟩, fun hh => hh.2⟩
theorem c79 {x : Sg} {M : Mem} : Cn Try.prog 79 #[.agg #[.int .i64 x.a, .int .i64 x.b, .int .i64 x.c, .int .i64 x.d]] M (BK M x.may) := by
  have a := Mem.new_at M (.cells #[.int .i64 x.a, .int .i64 x.b, .int .i64 x.c, .int .i64 x.d] 96)
  have K : Keep M (M.new (.cells #[.int .i64 x.a, .int .i64 x.b, .int .i64 x.c, .int .i64 x.d] 96)) := .new _ _
  refine w79_0 ?_
  generalize M.new (.cells #[.int .i64 x.a, .int .i64 x.b, .int .i64 x.c, .int .i64 x.d] 96) = N at a K ⊢
  have e2 : ∀ b, (b = false → x.may = false) → (b = true → x.may = decide (0 ≤ x.d ∧ x.d ≤ 3)) → A79_2 (some ⟨2 * M.nb.size, 0, none⟩) b N (BK M x.may) := fun b h0 h1 =>
    w79_2 (cn (fun hb => ad rfl (on (int_of a rfl) (Cn.eq c55 (ty rfl ⟨by rw [h1 hb], K⟩)))) fun hb => ⟨by rw [h0 hb], K⟩)
  have e1 : ∀ b, (b = false → x.may = false) → (b = true → x.may = decide ((0 ≤ x.b ∧ x.b ≤ 3) ∧ (0 ≤ x.d ∧ x.d ≤ 3))) → A79_1 (some ⟨2 * M.nb.size, 0, none⟩) b N (BK M x.may) := fun b h0 h1 =>
    w79_1 (cn (fun hb => ad rfl (on (int_of a rfl) (Cn.eq c55 (ty rfl (e2 _ (fun h => by rw [h1 hb]; have := dF h; exact decide_eq_false (by omega)) fun h => by rw [h1 hb]; have := dT h; rw [decide_eq_decide]; omega))))) fun hb => e2 _ (fun _ => h0 hb) fun h => (by cases h))
  refine on (int_of (i := 0) a rfl) (Cn.eq c55 (ty rfl (cd (fun h => on (int_of a rfl) (Cn.eq c55 (ty rfl (e1 _ (fun h2 => ?_) fun h2 => ?_)))) fun h => e1 _ (fun _ => decide_eq_false (by omega)) fun h => (by cases h))))
  · have := dF h2; exact decide_eq_false (by omega)
  · have := dT h2; unfold Sg.may; rw [decide_eq_decide]; omega
end Go.Zt
