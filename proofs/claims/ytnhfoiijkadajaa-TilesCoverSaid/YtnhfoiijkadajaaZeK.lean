/- Layer 21: what tiles and squares cover (plain). -/
import Derived.Test.YtnhfoiijkadajaaZeE
set_option linter.unusedSimpArgs false
set_option linter.unusedVariables false
namespace Go.Zt
open Go Go.Sim Go.Proofs Go.RowKit

def gridL (n : Nat) (G : Nat → Nat → Int) : List Int := (List.range (n * n)).map fun t => G (t / n) (t % n)
theorem gridL_len (n : Nat) (G : Nat → Nat → Int) : (gridL n G).length = n * n := by simp [gridL]
theorem ix_lt {n r c : Nat} (hr : r < n) (hc : c < n) : r * n + c < n * n := by
  have : (r + 1) * n ≤ n * n := Nat.mul_le_mul_right _ hr
  rw [Nat.add_mul, Nat.one_mul] at this; omega
theorem ix_div {n r c : Nat} (hc : c < n) : (r * n + c) / n = r ∧ (r * n + c) % n = c := by
  have hn : 0 < n := by omega
  constructor
  · rw [Nat.mul_comm, Nat.mul_add_div hn, Nat.div_eq_of_lt hc]; rfl
  · rw [Nat.mul_comm, Nat.mul_add_mod, Nat.mod_eq_of_lt hc]
theorem gridL_at {n r c : Nat} {G : Nat → Nat → Int} (hr : r < n) (hc : c < n) : (gridL n G)[r * n + c]? = some (G r c) := by
  unfold gridL
  rw [List.getElem?_map, List.getElem?_range (ix_lt hr hc)]
  show some (G ((r * n + c) / n) ((r * n + c) % n)) = _
  rw [(ix_div hc).1, (ix_div hc).2]
def setG (G : Nat → Nat → Int) (r c : Nat) (v : Int) : Nat → Nat → Int := fun r' c' => if r' = r ∧ c' = c then v else G r' c'
theorem gridL_set {n r c : Nat} {G : Nat → Nat → Int} {v : Int} (hr : r < n) (hc : c < n) : (gridL n G).set (r * n + c) v = gridL n (setG G r c v) := by
  refine List.ext_getElem? fun t => ?_
  rw [List.getElem?_set]
  by_cases ht : t < n * n
  · have hn : 0 < n := by omega
    unfold gridL
    rw [List.getElem?_map, List.getElem?_map, List.getElem?_range ht]
    show (if r * n + c = t then _ else some (G (t / n) (t % n))) = some (setG G r c v (t / n) (t % n))
    unfold setG
    by_cases h : r * n + c = t
    · subst h
      rw [if_pos rfl, if_pos (by simpa using ht), if_pos ⟨(ix_div hc).1, (ix_div hc).2⟩]
    · rw [if_neg h, if_neg]
      rintro ⟨h1, h2⟩
      apply h
      have := Nat.div_add_mod t n
      rw [h1, h2, Nat.mul_comm] at this; exact this
  · rw [List.getElem?_eq_none (l := gridL n (setG G r c v)) (by rw [gridL_len]; omega)]
    split
    · rw [if_neg (by rw [gridL_len]; omega)]
    · rw [List.getElem?_eq_none (by rw [gridL_len]; omega)]
/-! ### Counting -/
theorem countP_map' {α β : Type} (f : α → β) (p : β → Bool) (l : List α) : (l.map f).countP p = l.countP fun a => p (f a) := by rw [List.countP_map]; rfl
theorem count_and (b : Bool) (p : Nat → Bool) (l : List Nat) : (l.countP fun i => b && p i) = if b then l.countP p else 0 := by
  cases b
  · simp
  · simp
theorem count_grid {α : Type} (f : Nat → Nat → α) (p : α → Bool) (A B : Nat → Bool) (n : Nat) : ∀ m, (∀ j i, j < m → i < n → p (f j i) = (A j && B i)) → ((List.range m).flatMap fun j => (List.range n).map (f j)).countP p = (List.range m).countP A * (List.range n).countP B := by
  intro m
  induction m with
  | zero => intro _; simp
  | succ m ih =>
    intro h
    rw [List.range_succ, List.flatMap_append, List.countP_append, List.countP_append, ih fun j i hj hi => h j i (by omega) hi, Nat.add_mul]
    congr 1
    rw [List.flatMap_cons, List.flatMap_nil, List.append_nil, countP_map']
    have e : (List.range n).countP (fun a => p (f m a)) = (List.range n).countP fun i => A m && B i := List.countP_congr fun i hi => by rw [h m i (by omega) (List.mem_range.1 hi)]
    rw [e, count_and]
    cases hA : A m <;> simp [hA]
theorem count_one {p : Nat → Bool} {i0 : Nat} : ∀ n, (∀ i, i < n → p i = decide (i = i0)) → (List.range n).countP p = if i0 < n then 1 else 0
  | 0, _ => by simp
  | n + 1, h => by
    rw [List.range_succ, List.countP_append, count_one n fun i hi => h i (by omega)]
    have := h n (by omega)
    by_cases e : n = i0
    · subst e; simp [this]
    · by_cases h2 : i0 < n
      · rw [if_pos h2, if_pos (by omega)]; simp [this, e]
      · rw [if_neg h2, if_neg (by omega)]; simp [this, e]
/-! ### A tile's cells, a square's cells -/
def inT (t : Rc) (r c : Nat) : Bool := decide (t.1 / 8 ≤ c ∧ (c : Int) < (t.1 + t.2.2.1) / 8 ∧ t.2.1 / 8 ≤ r ∧ (r : Int) < (t.2.1 + t.2.2.2) / 8)
def inQ (s : Rc) (r c : Nat) : Bool := decide (s.1 / 8 ≤ c ∧ (c : Int) < s.1 / 8 + 8 ∧ s.2.1 / 8 ≤ r ∧ (r : Int) < s.2.1 / 8 + 8)
def owL (l : List Rc) (r c : Nat) : Int := (l.countP fun t => inT t r c : Nat)
def sqL (l : List Rc) (r c : Nat) : Int := (l.countP fun s => inQ s r c : Nat)
structure Good (t : Rc) (x y w h : Nat) : Prop where
  e : t = ((x : Int), (y : Int), (w : Int), (h : Int))
  x64 : x % 64 = 0
  y64 : y % 64 = 0
  w1 : 1 ≤ w
  h1 : 1 ≤ h
  w8 : w % 8 = 0
  h8 : h % 8 = 0
  xw : x + w ≤ 256
  yh : y + h ≤ 256
theorem edges : ∀ n ∈ List.range 257, ∀ c ∈ [0, 1, 2], 16 ≤ n → 2 ^ c ≤ sqN n → ∀ i ∈ List.range (2 ^ c), edgeN n c i % 64 = 0 ∧ edgeN n c i < edgeN n c (i + 1) ∧ (edgeN n c (i + 1) - edgeN n c i) % 8 = 0 ∧ edgeN n c (i + 1) ≤ 256 := by decide +kernel
theorem axis : ∀ n ∈ List.range 257, ∀ c ∈ [0, 1, 2], 16 ≤ n → 2 ^ c ≤ sqN n → ∀ k ∈ List.range 32, (List.range (2 ^ c)).countP (fun i => decide (edgeN n c i / 8 ≤ k ∧ k < edgeN n c (i + 1) / 8)) = if 8 * k < n then 1 else 0 := by decide +kernel
section
variable {w h c r : Nat}
theorem edge_of (hn : 16 ≤ w ∧ w ≤ 256) (hc : c ≤ 2) (hs : 2 ^ c ≤ sqN w) {i : Nat} (hi : i < 2 ^ c) : edgeN w c i % 64 = 0 ∧ edgeN w c i < edgeN w c (i + 1) ∧ (edgeN w c (i + 1) - edgeN w c i) % 8 = 0 ∧ edgeN w c (i + 1) ≤ 256 :=
  edges w (List.mem_range.2 (by omega)) c (by simp; omega) hn.1 hs i (List.mem_range.2 hi)
theorem lay_good (hw : 16 ≤ w ∧ w ≤ 256) (hh : 16 ≤ h ∧ h ≤ 256) (hc : c ≤ 2) (hr : r ≤ 2) (hcs : 2 ^ c ≤ sqN w) (hrs : 2 ^ r ≤ sqN h) : ∀ t ∈ layS w h c r (2 ^ r), ∃ x y u v, Good t x y u v := by
  intro t ht
  obtain ⟨j, hj, ht⟩ := List.mem_flatMap.1 ht
  obtain ⟨i, hi, rfl⟩ := List.mem_map.1 ht
  obtain ⟨a1, a2, a3, a4⟩ := edge_of hw hc hcs (List.mem_range.1 hi)
  obtain ⟨b1, b2, b3, b4⟩ := edge_of hh hr hrs (List.mem_range.1 hj)
  refine ⟨edgeN w c i, edgeN h r j, edgeN w c (i + 1) - edgeN w c i, edgeN h r (j + 1) - edgeN h r j, ?_, a1, b1, by omega, by omega, a3, b3, by omega, by omega⟩
  unfold layI
  rw [Int.natCast_sub (by omega), Int.natCast_sub (by omega)]
theorem lay_cover (hw : 16 ≤ w ∧ w ≤ 256) (hh : 16 ≤ h ∧ h ≤ 256) (hc : c ≤ 2) (hr : r ≤ 2) (hcs : 2 ^ c ≤ sqN w) (hrs : 2 ^ r ≤ sqN h) {y x : Nat} (hy : y < 32) (hx : x < 32) : owL (layS w h c r (2 ^ r)) y x = if 8 * x < w ∧ 8 * y < h then 1 else 0 := by
  have key := count_grid (layI w h c · r ·) (fun t => inT t y x) (fun j => decide (edgeN h r j / 8 ≤ y ∧ y < edgeN h r (j + 1) / 8)) (fun i => decide (edgeN w c i / 8 ≤ x ∧ x < edgeN w c (i + 1) / 8)) (2 ^ c) (2 ^ r) (fun j i hj hi => by
    obtain ⟨a1, a2, a3, a4⟩ := edge_of hw hc hcs hi
    obtain ⟨b1, b2, b3, b4⟩ := edge_of hh hr hrs hj
    unfold inT layI
    rw [← Bool.decide_and, decide_eq_decide]
    dsimp only
    omega)
  unfold owL
  show ((List.countP _ ((List.range (2 ^ r)).flatMap fun j => (List.range (2 ^ c)).map (layI w h c j r)) : Nat) : Int) = _
  rw [key, axis h (List.mem_range.2 (by omega)) r (by simp; omega) hh.1 hrs y (List.mem_range.2 hy), axis w (List.mem_range.2 (by omega)) c (by simp; omega) hw.1 hcs x (List.mem_range.2 hx)]
  by_cases h1 : 8 * y < h <;> by_cases h2 : 8 * x < w <;> simp [h1, h2]
end
theorem sup_in {t : Rc} {x y w h : Nat} (g : Good t x y w h) : supL t.1 t.2.1 t.2.2.1 t.2.2.2 = supS x y w (sqN h) ∧ ∀ s ∈ supS x y w (sqN h), ∃ u v : Nat, s = ((u : Int), (v : Int), 64, 64) ∧ u % 64 = 0 ∧ v % 64 = 0 ∧ x ≤ u ∧ u < x + w ∧ y ≤ v ∧ v < y + h := by
  obtain ⟨rfl, h1, h2, h3, h4, h5, h6, h7, h8⟩ := g
  constructor
  · unfold supL supB
    rw [if_pos (by rw [decide_eq_true_eq]; dsimp only; omega)]
    simp
  · intro s hs
    obtain ⟨j, hj, hs⟩ := List.mem_flatMap.1 hs
    obtain ⟨i, hi, rfl⟩ := List.mem_map.1 hs
    have hj := List.mem_range.1 hj
    have hi := List.mem_range.1 hi
    unfold sqN at hj hi
    exact ⟨x + 64 * i, y + 64 * j, rfl, by omega, by omega, by omega, by omega, by omega, by omega⟩
theorem sup_cover {x y w h : Nat} (hx : x % 64 = 0) (hy : y % 64 = 0) {r c : Nat} (hc : x / 8 ≤ c ∧ c < (x + w) / 8) (hr : y / 8 ≤ r ∧ r < (y + h) / 8) : sqL (supS x y w (sqN h)) r c = 1 := by
  have key := count_grid (supI x y) (fun s => inQ s r c) (fun j => decide (j = (r - y / 8) / 8)) (fun i => decide (i = (c - x / 8) / 8)) (sqN w) (sqN h) (fun j i hj hi => by
    unfold inQ supI
    rw [← Bool.decide_and, decide_eq_decide]
    dsimp only
    omega)
  unfold sqL
  show ((List.countP _ ((List.range (sqN h)).flatMap fun j => (List.range (sqN w)).map (supI x y j)) : Nat) : Int) = _
  rw [key, count_one (sqN h) (fun _ _ => rfl), count_one (sqN w) (fun _ _ => rfl), if_pos (by unfold sqN; omega), if_pos (by unfold sqN; omega)]
  rfl
/-! ### Grids that grow -/
def incR (G : Nat → Nat → Int) (y0 y a b : Nat) : Nat → Nat → Int := fun r c => if y0 ≤ r ∧ r < y ∧ a ≤ c ∧ c < b then G r c + 1 else G r c
theorem incR_0 {G : Nat → Nat → Int} {y0 a b : Nat} : incR G y0 y0 a b = G := by
  funext r c; unfold incR; rw [if_neg (by omega)]
theorem incR_z {G : Nat → Nat → Int} {y0 y a : Nat} : incR G y0 y a a = G := by
  funext r c; unfold incR; rw [if_neg (by omega)]
theorem incR_set {G : Nat → Nat → Int} {y0 y a b i : Nat} (h0 : y0 ≤ y) (h : a ≤ i ∧ i < b) :
    setG (incR (incR G y0 y a b) y (y + 1) a i) y i (incR (incR G y0 y a b) y (y + 1) a i y i + 1) = incR (incR G y0 y a b) y (y + 1) a (i + 1) := by
  funext r c
  unfold setG
  by_cases e : r = y ∧ c = i
  · rw [if_pos e]
    obtain ⟨rfl, rfl⟩ := e
    unfold incR
    rw [if_neg (show ¬ (r ≤ r ∧ r < r + 1 ∧ a ≤ c ∧ c < c) by omega), if_neg (show ¬ (y0 ≤ r ∧ r < r ∧ a ≤ c ∧ c < b) by omega), if_pos (show r ≤ r ∧ r < r + 1 ∧ a ≤ c ∧ c < c + 1 by omega)]
  · rw [if_neg e]
    unfold incR
    by_cases h1 : y ≤ r ∧ r < y + 1 ∧ a ≤ c ∧ c < i
    · rw [if_pos h1, if_pos (show y ≤ r ∧ r < y + 1 ∧ a ≤ c ∧ c < i + 1 by omega)]
    · rw [if_neg h1, if_neg (show ¬ (y ≤ r ∧ r < y + 1 ∧ a ≤ c ∧ c < i + 1) by omega)]
theorem incR_next {G : Nat → Nat → Int} {y0 y a b : Nat} (h0 : y0 ≤ y) : incR (incR G y0 y a b) y (y + 1) a b = incR G y0 (y + 1) a b := by
  funext r c
  unfold incR
  by_cases h1 : y ≤ r ∧ r < y + 1 ∧ a ≤ c ∧ c < b
  · rw [if_pos h1, if_neg (show ¬ (y0 ≤ r ∧ r < y ∧ a ≤ c ∧ c < b) by omega), if_pos (show y0 ≤ r ∧ r < y + 1 ∧ a ≤ c ∧ c < b by omega)]
  · rw [if_neg h1]
    by_cases h2 : y0 ≤ r ∧ r < y ∧ a ≤ c ∧ c < b
    · rw [if_pos h2, if_pos (by omega)]
    · rw [if_neg h2, if_neg (by omega)]
theorem owL_snoc (l : List Rc) (t : Rc) {x y w h : Nat} (g : Good t x y w h) : owL (l ++ [t]) = incR (owL l) (y / 8) ((y + h) / 8) (x / 8) ((x + w) / 8) := by
  funext r c
  have e := g.e
  subst e
  unfold owL incR
  rw [List.countP_append, List.countP_singleton]
  have e : inT ((x : Int), (y : Int), (w : Int), (h : Int)) r c = decide (y / 8 ≤ r ∧ r < (y + h) / 8 ∧ x / 8 ≤ c ∧ c < (x + w) / 8) := by
    unfold inT; rw [decide_eq_decide]; dsimp only; omega
  rw [e]
  by_cases h1 : y / 8 ≤ r ∧ r < (y + h) / 8 ∧ x / 8 ≤ c ∧ c < (x + w) / 8
  · simp [h1]
  · rw [if_neg h1]; simp [h1]
theorem sqL_snoc (l : List Rc) {u v : Nat} : sqL (l ++ [((u : Int), (v : Int), 64, 64)]) = incR (sqL l) (v / 8) (v / 8 + 8) (u / 8) (u / 8 + 8) := by
  funext r c
  unfold sqL incR
  rw [List.countP_append, List.countP_singleton]
  have e : inQ ((u : Int), (v : Int), 64, 64) r c = decide (v / 8 ≤ r ∧ r < v / 8 + 8 ∧ u / 8 ≤ c ∧ c < u / 8 + 8) := by
    unfold inQ; rw [decide_eq_decide]; dsimp only; omega
  rw [e]
  by_cases h1 : v / 8 ≤ r ∧ r < v / 8 + 8 ∧ u / 8 ≤ c ∧ c < u / 8 + 8
  · simp [h1]
  · rw [if_neg h1]; simp [h1]
end Go.Zt

