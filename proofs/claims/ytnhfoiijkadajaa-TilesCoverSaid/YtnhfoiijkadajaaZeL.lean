/- Layer 21: TilesCover, walked. -/
import Derived.Test.YtnhfoiijkadajaaZeK
import Derived.Test.YtnhfoiijkadajaaZeF
import Derived.Test.YtnhfoiijkadajaaZeBb
import Derived.Test.YtnhfoiijkadajaaZsT
set_option linter.unusedSimpArgs false
set_option linter.unusedVariables false
namespace Go.Zt
open Go Go.Sim Go.Proofs Go.RowKit

abbrev Tr6 : Value → Mem → Prop := fun v _ => v = .bool true
/-- A block that holds a grid. -/
def Gd (M : Mem) (j : Nat) (G : Nat → Nat → Int) : Prop := M.nb[j]? = some (.cells (Ints (gridL 32 G)).toArray 43)
theorem rowA {j r : Nat} (hr : r < 32) : idxA (some ⟨2 * j, 0, none⟩) 32 32 (r : Nat) = some ⟨2 * j, r * 32, none⟩ := by
  unfold idxA; rw [if_pos (by omega)]; simp
theorem colA {j o c : Nat} (hc : c < 32) : idxA (some ⟨2 * j, o, none⟩) 32 1 (c : Nat) = some ⟨2 * j, o + c, none⟩ := by
  unfold idxA; rw [if_pos (by omega)]; simp
section
variable {M : Mem} {j : Nat} {G : Nat → Nat → Int}
theorem Gd.rd (h : Gd M j G) {r c : Nat} (hr : r < 32) (hc : c < 32) : M.intAt .i64 (2 * j) (r * 32 + c) = some (G r c) :=
  int_of h (by rw [List.getElem?_toArray, List.getElem?_map, gridL_at hr hc]; rfl)
theorem Gd.put (h : Gd M j G) (hf : M.floor ≤ j) {r c : Nat} (hr : r < 32) (hc : c < 32) (v : Int) : ∃ M', M.put (2 * j) (r * 32 + c) (.int .i64 v) = some M' ∧ Chg (· = j) M M' ∧ Gd M' j (setG G r c v) := by
  have hlt : r * 32 + c < (Ints (gridL 32 G)).toArray.size := by
    rw [List.size_toArray, List.length_map, gridL_len]; exact ix_lt hr hc
  refine ⟨_, put_of (v := .int .i64 v) h hf hlt rfl, upd_chg rfl, ?_⟩
  unfold Gd
  rw [upd_at (lt_of_at h), List.setIfInBounds_toArray, ← gridL_set hr hc]
  unfold Ints
  rw [List.map_set]
theorem Gd.chg (h : Gd M j G) {S : Nat → Prop} {N : Mem} (C : Chg S M N) (hS : ¬ S j) : Gd N j G := at_chg h C hS
theorem grid_congr {n : Nat} {G H : Nat → Nat → Int} (h : ∀ r c, r < n → c < n → G r c = H r c) : gridL n G = gridL n H := by
  unfold gridL
  refine List.map_congr_left fun t ht => ?_
  have ht := List.mem_range.1 ht
  have hn : 0 < n := by
    rcases Nat.eq_zero_or_pos n with rfl | h
    · omega
    · exact h
  exact h _ _ (Nat.div_lt_of_lt_mul ht) (Nat.mod_lt _ hn)
theorem Gd.congr (h : Gd M j G) {H : Nat → Nat → Int} (e : ∀ r c, r < 32 → c < 32 → G r c = H r c) : Gd M j H := by
  unfold Gd; rw [← grid_congr e]; exact h
theorem Gd.zero (M : Mem) : Gd (M.new (.cells zc1024 43)) M.nb.size (fun _ _ => 0) := by
  have := Mem.new_at M (.cells zc1024 43)
  unfold Gd
  rw [this]
  have e : gridL 32 (fun _ _ => 0) = List.replicate (32 * 32) 0 := by
    unfold gridL
    refine List.ext_getElem? fun i => ?_
    by_cases hi : i < 32 * 32
    · rw [List.getElem?_map, List.getElem?_range hi, List.getElem?_replicate, if_pos hi]; rfl
    · rw [List.getElem?_eq_none (by rw [List.length_map, List.length_range]; omega), List.getElem?_eq_none (by rw [List.length_replicate]; omega)]
  rw [e]
  unfold Ints
  rw [List.map_replicate]
end
theorem incR_b {G : Nat → Nat → Int} {B : Int} (h : ∀ r c, 0 ≤ G r c ∧ G r c ≤ B) {y0 y a b : Nat} (r c : Nat) : 0 ≤ incR G y0 y a b r c ∧ incR G y0 y a b r c ≤ B + 1 := by
  have := h r c
  unfold incR; split <;> omega
theorem set4 {M : Mem} {j : Nat} {a b c d : Value} {e : TypeId} (h : M.nb[j]? = some (.cells #[a, b, c, d] e)) (hf : M.floor ≤ j) (x y w z : Int) :
    ∃ M1, M.put (2 * j) 0 (.int .i64 x) = some M1 ∧ ∃ M2, M1.put (2 * j) 1 (.int .i64 y) = some M2 ∧ ∃ M3, M2.put (2 * j) 2 (.int .i64 w) = some M3 ∧ ∃ M4, M3.put (2 * j) 3 (.int .i64 z) = some M4 ∧ Chg (· = j) M M4 ∧ M4.nb[j]? = some (.cells #[.int .i64 x, .int .i64 y, .int .i64 w, .int .i64 z] e) := by
  have p1 := put_of (i := 0) (v := .int .i64 x) h hf (by simp) rfl
  have C1 := upd_chg (M := M) (S := (· = j)) (b := .cells ((#[a, b, c, d] : Array Value).setIfInBounds 0 (.int .i64 x)) e) (j := j) rfl
  have u1 := upd_at (M := M) (b := .cells ((#[a, b, c, d] : Array Value).setIfInBounds 0 (.int .i64 x)) e) (lt_of_at h)
  generalize M.upd j _ = M1 at p1 C1 u1
  have p2 := put_of (i := 1) (v := .int .i64 y) u1 (by rw [C1.floor]; exact hf) (by simp) rfl
  have C2 := C1.trans (upd_chg (M := M1) (S := (· = j)) (b := .cells (((#[a, b, c, d] : Array Value).setIfInBounds 0 (.int .i64 x)).setIfInBounds 1 (.int .i64 y)) e) (j := j) rfl)
  have u2 := upd_at (M := M1) (b := .cells (((#[a, b, c, d] : Array Value).setIfInBounds 0 (.int .i64 x)).setIfInBounds 1 (.int .i64 y)) e) (lt_of_at u1)
  generalize M1.upd j _ = M2 at p2 C2 u2
  have p3 := put_of (i := 2) (v := .int .i64 w) u2 (by rw [C2.floor]; exact hf) (by simp) rfl
  have C3 := C2.trans (upd_chg (M := M2) (S := (· = j)) (b := .cells ((((#[a, b, c, d] : Array Value).setIfInBounds 0 (.int .i64 x)).setIfInBounds 1 (.int .i64 y)).setIfInBounds 2 (.int .i64 w)) e) (j := j) rfl)
  have u3 := upd_at (M := M2) (b := .cells ((((#[a, b, c, d] : Array Value).setIfInBounds 0 (.int .i64 x)).setIfInBounds 1 (.int .i64 y)).setIfInBounds 2 (.int .i64 w)) e) (lt_of_at u2)
  generalize M2.upd j _ = M3 at p3 C3 u3
  have p4 := put_of (i := 3) (v := .int .i64 z) u3 (by rw [C3.floor]; exact hf) (by simp) rfl
  have C4 := C3.trans (upd_chg (M := M3) (S := (· = j)) (b := .cells (((((#[a, b, c, d] : Array Value).setIfInBounds 0 (.int .i64 x)).setIfInBounds 1 (.int .i64 y)).setIfInBounds 2 (.int .i64 w)).setIfInBounds 3 (.int .i64 z)) e) (j := j) rfl)
  have u4 := upd_at (M := M3) (b := .cells (((((#[a, b, c, d] : Array Value).setIfInBounds 0 (.int .i64 x)).setIfInBounds 1 (.int .i64 y)).setIfInBounds 2 (.int .i64 w)).setIfInBounds 3 (.int .i64 z)) e) (lt_of_at u3)
  generalize M3.upd j _ = M4 at p4 C4 u4
  exact ⟨M1, p1, M2, p2, M3, p3, M4, p4, C4, u4⟩
theorem t8 (u : Nat) (h : u ≤ 1024) : IntKind.i64.wrap (((u : Nat) : Int).tdiv 8) = ((u / 8 : Nat) : Int) := by
  rw [show ((8 : Int)) = ((8 : Nat) : Int) from rfl, tdivN, i64w (by omega)]
theorem bnd (u : Nat) (h : u ≤ 1024) : (if 32 < IntKind.i64.wrap (IntKind.i64.wrap (((u : Nat) : Int).tdiv 8) + 8) then 32 else IntKind.i64.wrap (IntKind.i64.wrap (((u : Nat) : Int).tdiv 8) + 8)) = ((min (u / 8 + 8) 32 : Nat) : Int) := by
  rw [t8 u h, i64w (by omega)]
  split <;> omega
theorem m64 (u : Nat) (h : u % 64 = 0) : ((u : Nat) : Int).tmod 64 = 0 := by
  rw [show ((64 : Int)) = ((64 : Nat) : Int) from rfl, tmodN]; omega
theorem m8 (u : Nat) (h : u % 8 = 0) : ((u : Nat) : Int).tmod 8 = 0 := by
  rw [show ((8 : Int)) = ((8 : Nat) : Int) from rfl, tmodN]; omega
section
variable {x7 A8 x12 A16 : Option Addr} {l8 c8 c16 : Nat} {x13 : Int} {jt jq jo : Nat} {M2 : Mem} {q : List Rc} {x y w h : Nat}
/-- While the squares are counted. -/
structure Sq (M2 : Mem) (jq : Nat) (M : Mem) (G : Nat → Nat → Int) : Prop where
  chg : Chg (· = jq) M2 M
  g : Gd M jq G
abbrev PT (j : Nat) : Option Addr := some ⟨2 * j, 0, none⟩
theorem c6_23 (hf : M2.floor ≤ jq) (hO : Own (fun j => jq < j) M2 35 A16 (c16 * 4) (Rcs q)) {k : Nat} (hk : k < q.length) {u v : Nat} (hq : q[k] = ((u : Int), (v : Int), 64, 64)) (hu : u ≤ 255) {yy : Nat} (hy : v / 8 ≤ yy) (hy2 : yy < 32) {G : Nat → Nat → Int} (hG : ∀ r c, 0 ≤ G r c ∧ G r c ≤ 100)
    (hE : ∀ M, Sq M2 jq M (incR G (v / 8) (yy + 1) (u / 8) (min (u / 8 + 8) 32)) → A6_22 x7 A8 l8 c8 x12 x13 (PT jt) (PT jq) A16 q.length c16 (k : Nat) ((yy + 1 : Nat) : Int) M Tr6) :
    ∀ (m i : Nat) {M : Mem}, i + m = min (u / 8 + 8) 32 → u / 8 ≤ i → Sq M2 jq M (incR (incR G (v / 8) yy (u / 8) (min (u / 8 + 8) 32)) yy (yy + 1) (u / 8) i) → A6_23 x7 A8 l8 c8 x12 x13 (PT jt) (PT jq) A16 q.length c16 (k : Nat) (yy : Nat) (i : Nat) M Tr6 := by
  intro m
  induction m with
  | zero =>
    intro i M hi hui s
    have hr := (hO.chg s.chg fun j _ h1 h2 => by omega).row
    obtain ⟨a, i1, i2, _⟩ := Rcs_at hr (n := q.length) (z := (k : Nat)) rfl hk hk
    rw [hq] at i2
    refine w6_23 ⟨_, i1, _, i2, ?_⟩
    rw [bnd u (by omega)]
    refine ⟨fun h => by omega, fun _ => ?_⟩
    rw [i64w (by omega), show ((yy : Int) + 1) = ((yy + 1 : Nat) : Int) by omega]
    refine hE M ⟨s.chg, ?_⟩
    have := s.g
    rw [show i = min (u / 8 + 8) 32 by omega, incR_next hy] at this
    exact this
  | succ m ih =>
    intro i M hi hui s
    have hr := (hO.chg s.chg fun j _ h1 h2 => by omega).row
    obtain ⟨a, i1, i2, _⟩ := Rcs_at hr (n := q.length) (z := (k : Nat)) rfl hk hk
    rw [hq] at i2
    have hi32 : i < 32 := by omega
    obtain ⟨M', p1, p2, p3⟩ := s.g.put (by rw [s.chg.floor]; exact hf) hy2 hi32 (incR (incR G (v / 8) yy (u / 8) (min (u / 8 + 8) 32)) yy (yy + 1) (u / 8) i yy i + 1)
    rw [incR_set hy ⟨hui, by omega⟩] at p3
    refine w6_23 ⟨_, i1, _, i2, ?_⟩
    rw [bnd u (by omega)]
    refine ⟨fun _ => ⟨_, rowA hy2, _, colA hi32, _, s.g.rd hy2 hi32, _, rowA hy2, _, colA hi32, M', ?_, ?_⟩, fun h => by omega⟩
    · have hb := incR_b (incR_b hG (y0 := v / 8) (y := yy) (a := u / 8) (b := min (u / 8 + 8) 32)) (y0 := yy) (y := yy + 1) (a := u / 8) (b := i) yy i
      rw [i64w (by omega)]; exact p1
    · rw [i64w (by omega), show ((i : Int) + 1) = ((i + 1 : Nat) : Int) by omega]
      exact ih (i + 1) (by omega) (by omega) ⟨s.chg.trans p2, p3⟩
theorem c6_22 (hf : M2.floor ≤ jq) (hO : Own (fun j => jq < j) M2 35 A16 (c16 * 4) (Rcs q)) {k : Nat} (hk : k < q.length) {u v : Nat} (hq : q[k] = ((u : Int), (v : Int), 64, 64)) (hu : u ≤ 255) (hv : v ≤ 255) {G : Nat → Nat → Int} (hG : ∀ r c, 0 ≤ G r c ∧ G r c ≤ 100)
    (hE : ∀ M, Sq M2 jq M (incR G (v / 8) (min (v / 8 + 8) 32) (u / 8) (min (u / 8 + 8) 32)) → A6_12 x7 A8 l8 c8 x12 x13 (PT jt) (PT jq) A16 q.length c16 (IntKind.i64.wrap ((k : Int) + 1)) M Tr6) :
    ∀ (m yy : Nat) {M : Mem}, yy + m = min (v / 8 + 8) 32 → v / 8 ≤ yy → Sq M2 jq M (incR G (v / 8) yy (u / 8) (min (u / 8 + 8) 32)) → A6_22 x7 A8 l8 c8 x12 x13 (PT jt) (PT jq) A16 q.length c16 (k : Nat) (yy : Nat) M Tr6 := by
  intro m
  induction m with
  | zero =>
    intro yy M hi hvy s
    have hr := (hO.chg s.chg fun j _ h1 h2 => by omega).row
    obtain ⟨a, i1, i2, i3, _⟩ := Rcs_at hr (n := q.length) (z := (k : Nat)) rfl hk hk
    rw [hq] at i3
    refine w6_22 ⟨_, i1, _, i3, ?_⟩
    rw [bnd v (by omega)]
    refine ⟨fun h => by omega, fun _ => hE M ?_⟩
    rw [show yy = min (v / 8 + 8) 32 by omega] at s
    exact s
  | succ m ih =>
    intro yy M hi hvy s
    have hr := (hO.chg s.chg fun j _ h1 h2 => by omega).row
    obtain ⟨a, i1, i2, i3, _⟩ := Rcs_at hr (n := q.length) (z := (k : Nat)) rfl hk hk
    rw [hq] at i2 i3
    refine w6_22 ⟨_, i1, _, i3, ?_⟩
    rw [bnd v (by omega)]
    refine ⟨fun _ => ⟨_, i1, _, i2, ?_⟩, fun h => by omega⟩
    rw [t8 u (by omega)]
    exact c6_23 hf hO hk hq hu hvy (by omega) hG (fun M s => ih (yy + 1) (by omega) (by omega) s) (min (u / 8 + 8) 32 - u / 8) (u / 8) (by omega) (Nat.le_refl _) ⟨s.chg, by rw [incR_z]; exact s.g⟩
theorem sqL_b (l : List Rc) (h : l.length ≤ 100) (r c : Nat) : 0 ≤ sqL l r c ∧ sqL l r c ≤ 100 := by
  unfold sqL
  have := List.countP_le_length (p := fun s => inQ s r c) (l := l)
  omega
/-- The tile's block. -/
def Tl (M : Mem) (jt x y w h : Nat) : Prop := M.nb[jt]? = some (.cells #[.int .i64 (x : Nat), .int .i64 (y : Nat), .int .i64 (w : Nat), .int .i64 (h : Nat)] 35)
theorem c6_12 (hf : M2.floor ≤ jq) (hne : jt ≠ jq) (hO : Own (fun j => jq < j) M2 35 A16 (c16 * 4) (Rcs q)) (hT : Tl M2 jt x y w h) (hxw : x + w ≤ 256) (hyh : y + h ≤ 256) (hl : q.length ≤ 16)
    (hq : ∀ s ∈ q, ∃ u v : Nat, s = ((u : Int), (v : Int), 64, 64) ∧ u % 64 = 0 ∧ v % 64 = 0 ∧ x ≤ u ∧ u < x + w ∧ y ≤ v ∧ v < y + h)
    (hE : ∀ M, Sq M2 jq M (sqL q) → A6_14 x7 A8 l8 c8 x12 x13 (PT jt) (PT jq) ((y / 8 : Nat) : Int) M Tr6) :
    ∀ (m k : Nat) {M : Mem}, k + m = q.length → Sq M2 jq M (sqL (q.take k)) → A6_12 x7 A8 l8 c8 x12 x13 (PT jt) (PT jq) A16 q.length c16 (k : Nat) M Tr6 := by
  intro m
  induction m with
  | zero =>
    intro k M hk s
    have t := at_chg hT s.chg hne
    rw [show k = q.length by omega, List.take_length] at s
    refine w6_12 ⟨fun h => by omega, fun _ => ⟨_, rfl, _, int_of (i := 0 + 1) t rfl, ?_⟩⟩
    rw [t8 y (by omega)]
    exact hE M s
  | succ m ih =>
    intro k M hk s
    have hk' : k < q.length := by omega
    have t := at_chg hT s.chg hne
    obtain ⟨u, v, eq, e1, e2, e3, e4, e5, e6⟩ := hq _ (List.getElem_mem hk')
    have hr := (hO.chg s.chg fun j _ h1 h2 => by omega).row
    obtain ⟨a, i1, i2, i3, i4, i5⟩ := Rcs_at hr (n := q.length) (z := (k : Nat)) rfl hk' hk'
    rw [eq] at i2 i3 i4 i5
    dsimp only at i2 i3 i4 i5
    have wx : IntKind.i64.wrap (((x : Nat) : Int) + ((w : Nat) : Int)) = ((x + w : Nat) : Int) := by rw [i64w (by omega)]; omega
    have wy : IntKind.i64.wrap (((y : Nat) : Int) + ((h : Nat) : Int)) = ((y + h : Nat) : Int) := by rw [i64w (by omega)]; omega
    refine w6_12 ⟨fun _ => ⟨_, i1, _, i4, fun hh => absurd rfl hh, fun _ => ⟨_, i1, _, i5, w6_13 ⟨fun hh => (by simp at hh), fun _ => ⟨_, i1, _, i2, w6_15 ⟨fun hh => ?_, fun _ => ⟨_, i1, _, i3, w6_17 ⟨fun hh => ?_, fun _ => ⟨_, i1, _, i2, _, rfl, _, int_of (i := 0) t rfl, _, rfl, _, int_of (i := 0 + 2) t rfl, w6_18 ⟨fun hh => ?_, fun _ => ⟨_, i1, _, i3, _, rfl, _, int_of (i := 0 + 1) t rfl, _, rfl, _, int_of (i := 0 + 3) t rfl, w6_19 ⟨fun hh => ?_, fun _ => ⟨_, i1, _, i2, _, rfl, _, int_of (i := 0) t rfl, w6_20 ⟨fun hh => ?_, fun _ => ⟨_, i1, _, i3, _, rfl, _, int_of (i := 0 + 1) t rfl, w6_21 ⟨fun hh => ?_, fun _ => ⟨_, i1, _, i3, ?_⟩⟩⟩⟩⟩⟩⟩⟩⟩⟩⟩⟩⟩⟩⟩⟩, fun hh => by omega⟩
    · rw [m64 u e1] at hh; simp at hh
    · rw [m64 v e2] at hh; simp at hh
    · have := of_decide_eq_true hh
      rw [wx] at this; omega
    · have := of_decide_eq_true hh
      rw [wy] at this; omega
    · have := of_decide_eq_true hh; omega
    · have := of_decide_eq_true hh; omega
    · rw [t8 v (by omega)]
      have hb : (q.take k).length ≤ 100 := by rw [List.length_take]; omega
      refine c6_22 hf hO hk' eq (by omega) (by omega) (sqL_b _ hb) (fun M s => ?_) (min (v / 8 + 8) 32 - v / 8) (v / 8) (by omega) (Nat.le_refl _) ⟨s.chg, by rw [incR_0]; exact s.g⟩
      rw [i64w (by omega), show ((k : Int) + 1) = ((k + 1 : Nat) : Int) by omega]
      refine ih (k + 1) (by omega) ⟨s.chg, s.g.congr fun r c hr hc => ?_⟩
      rw [List.take_succ_eq_append_getElem hk', eq, sqL_snoc]
      unfold incR
      by_cases h1 : v / 8 ≤ r ∧ r < v / 8 + 8 ∧ u / 8 ≤ c ∧ c < u / 8 + 8
      · rw [if_pos h1, if_pos (by omega)]
      · rw [if_neg h1, if_neg (by omega)]
/-- While the owners are counted. -/
structure Ot (M2 : Mem) (jo : Nat) (M : Mem) (G : Nat → Nat → Int) : Prop where
  chg : Chg (· = jo) M2 M
  g : Gd M jo G
theorem c6_16 (hf : M2.floor ≤ jo) (hne : jt ≠ jo) (hnq : jq ≠ jo) (hT : Tl M2 jt x y w h) (hxw : x + w ≤ 256) (hyh : y + h ≤ 256) {GQ : Nat → Nat → Int} (hQ : Gd M2 jq GQ) (h1 : ∀ r c, y / 8 ≤ r → r < (y + h) / 8 → x / 8 ≤ c → c < (x + w) / 8 → GQ r c = 1) {G : Nat → Nat → Int} (hG : ∀ r c, 0 ≤ G r c ∧ G r c ≤ 100)
    {yy : Nat} (hy : y / 8 ≤ yy) (hy2 : yy < (y + h) / 8) (hwx : x / 8 ≤ (x + w) / 8)
    (hE : ∀ M, Ot M2 jo M (incR G (y / 8) (yy + 1) (x / 8) ((x + w) / 8)) → A6_14 x7 A8 l8 c8 (PT jo) x13 (PT jt) (PT jq) ((yy + 1 : Nat) : Int) M Tr6) :
    ∀ (m i : Nat) {M : Mem}, i + m = (x + w) / 8 → x / 8 ≤ i → Ot M2 jo M (incR (incR G (y / 8) yy (x / 8) ((x + w) / 8)) yy (yy + 1) (x / 8) i) → A6_16 x7 A8 l8 c8 (PT jo) x13 (PT jt) (PT jq) (yy : Nat) (i : Nat) M Tr6 := by
  have wx : IntKind.i64.wrap (IntKind.i64.wrap (((x : Nat) : Int) + ((w : Nat) : Int)) |>.tdiv 8) = (((x + w) / 8 : Nat) : Int) := by
    rw [i64w (x := ((x : Nat) : Int) + ((w : Nat) : Int)) (by omega), show ((x : Int) + (w : Int)) = ((x + w : Nat) : Int) by omega, t8 (x + w) (by omega)]
  intro m
  induction m with
  | zero =>
    intro i M hi hxi s
    have t := at_chg hT s.chg hne
    refine w6_16 ⟨_, rfl, _, int_of (i := 0) t rfl, _, rfl, _, int_of (i := 0 + 2) t rfl, ?_⟩
    rw [wx]
    refine ⟨fun h => by omega, fun _ => ?_⟩
    rw [i64w (by omega), show ((yy : Int) + 1) = ((yy + 1 : Nat) : Int) by omega]
    refine hE M ⟨s.chg, ?_⟩
    have := s.g
    rw [show i = (x + w) / 8 by omega, incR_next hy] at this
    exact this
  | succ m ih =>
    intro i M hi hxi s
    have t := at_chg hT s.chg hne
    have hi32 : i < 32 := by omega
    have hy32 : yy < 32 := by omega
    obtain ⟨M', p1, p2, p3⟩ := s.g.put (by rw [s.chg.floor]; exact hf) hy32 hi32 (incR (incR G (y / 8) yy (x / 8) ((x + w) / 8)) yy (yy + 1) (x / 8) i yy i + 1)
    rw [incR_set hy ⟨hxi, by omega⟩] at p3
    have C' := s.chg.trans p2
    have hq := (hQ.chg C' hnq).rd hy32 hi32
    rw [h1 yy i hy hy2 hxi (by omega)] at hq
    refine w6_16 ⟨_, rfl, _, int_of (i := 0) t rfl, _, rfl, _, int_of (i := 0 + 2) t rfl, ?_⟩
    rw [wx]
    refine ⟨fun _ => ⟨_, rowA hy32, _, colA hi32, _, s.g.rd hy32 hi32, _, rowA hy32, _, colA hi32, M', ?_, _, rowA hy32, _, colA hi32, _, hq, fun hh => absurd rfl hh, fun _ => ?_⟩, fun h => by omega⟩
    · have hb := incR_b (incR_b hG (y0 := y / 8) (y := yy) (a := x / 8) (b := (x + w) / 8)) (y0 := yy) (y := yy + 1) (a := x / 8) (b := i) yy i
      rw [i64w (by omega)]; exact p1
    · rw [i64w (by omega), show ((i : Int) + 1) = ((i + 1 : Nat) : Int) by omega]
      exact ih (i + 1) (by omega) (by omega) ⟨C', p3⟩
theorem c6_14 (hf : M2.floor ≤ jo) (hne : jt ≠ jo) (hnq : jq ≠ jo) (hT : Tl M2 jt x y w h) (hxw : x + w ≤ 256) (hyh : y + h ≤ 256) {GQ : Nat → Nat → Int} (hQ : Gd M2 jq GQ) (h1 : ∀ r c, y / 8 ≤ r → r < (y + h) / 8 → x / 8 ≤ c → c < (x + w) / 8 → GQ r c = 1) {G : Nat → Nat → Int} (hG : ∀ r c, 0 ≤ G r c ∧ G r c ≤ 100)
    (hE : ∀ M, Ot M2 jo M (incR G (y / 8) ((y + h) / 8) (x / 8) ((x + w) / 8)) → A6_1 x7 A8 l8 c8 (PT jo) (IntKind.i64.wrap (x13 + 1)) M Tr6) :
    ∀ (m yy : Nat) {M : Mem}, yy + m = (y + h) / 8 → y / 8 ≤ yy → Ot M2 jo M (incR G (y / 8) yy (x / 8) ((x + w) / 8)) → A6_14 x7 A8 l8 c8 (PT jo) x13 (PT jt) (PT jq) (yy : Nat) M Tr6 := by
  have wy : IntKind.i64.wrap (IntKind.i64.wrap (((y : Nat) : Int) + ((h : Nat) : Int)) |>.tdiv 8) = (((y + h) / 8 : Nat) : Int) := by
    rw [i64w (x := ((y : Nat) : Int) + ((h : Nat) : Int)) (by omega), show ((y : Int) + (h : Int)) = ((y + h : Nat) : Int) by omega, t8 (y + h) (by omega)]
  intro m
  induction m with
  | zero =>
    intro yy M hi hyy s
    have t := at_chg hT s.chg hne
    refine w6_14 ⟨_, rfl, _, int_of (i := 0 + 1) t rfl, _, rfl, _, int_of (i := 0 + 3) t rfl, ?_⟩
    rw [wy]
    refine ⟨fun h => by omega, fun _ => hE M ?_⟩
    rw [show yy = (y + h) / 8 by omega] at s
    exact s
  | succ m ih =>
    intro yy M hi hyy s
    have t := at_chg hT s.chg hne
    refine w6_14 ⟨_, rfl, _, int_of (i := 0 + 1) t rfl, _, rfl, _, int_of (i := 0 + 3) t rfl, ?_⟩
    rw [wy]
    refine ⟨fun _ => ⟨_, rfl, _, int_of (i := 0) t rfl, ?_⟩, fun h => by omega⟩
    rw [t8 x (by omega)]
    exact c6_16 hf hne hnq hT hxw hyh hQ h1 hG hyy (by omega) (by omega) (fun M s => ih (yy + 1) (by omega) (by omega) s) ((x + w) / 8 - x / 8) (x / 8) (by omega) (Nat.le_refl _) ⟨s.chg, by rw [incR_z]; exact s.g⟩
theorem owL_b (l : List Rc) (h : l.length ≤ 100) (r c : Nat) : 0 ≤ owL l r c ∧ owL l r c ≤ 100 := by
  unfold owL
  have := List.countP_le_length (p := fun s => inT s r c) (l := l)
  omega
/-- Between two tiles. -/
structure Ti (M0 : Mem) (jo : Nat) (M : Mem) (G : Nat → Nat → Int) : Prop where
  keep : Keep M0 M
  g : Gd M jo G
theorem c6_3 {M0 M : Mem} {js W H : Nat} (hW : W ≤ 1000) (hH : H ≤ 1000) (hs : M.nb[js]? = some (.cells #[.int .i64 (W : Nat), .int .i64 (H : Nat)] 32)) {G : Nat → Nat → Int} (hG : Gd M jo G) (hC : ∀ yy xx, yy < 32 → xx < 32 → G yy xx = if 8 * xx < W ∧ 8 * yy < H then 1 else 0) :
    ∀ (m yy : Nat), yy + m = 32 → A6_3 (PT js) (PT jo) (yy : Nat) M Tr6 := by
  intro m
  induction m with
  | zero => intro yy hi; exact w6_3 ⟨fun h => by omega, fun _ => rfl⟩
  | succ m ih =>
    intro yy hi
    have inner : ∀ (n i : Nat), i + n = 32 → A6_5 (PT js) (PT jo) (yy : Nat) (i : Nat) M Tr6 := by
      intro n
      induction n with
      | zero =>
        intro i hi'
        refine w6_5 ⟨fun h => by omega, fun _ => ?_⟩
        rw [i64w (by omega), show ((yy : Int) + 1) = ((yy + 1 : Nat) : Int) by omega]
        exact ih (yy + 1) (by omega)
      | succ n ihn =>
        intro i hi'
        have hi32 : i < 32 := by omega
        have hy32 : yy < 32 := by omega
        have rd := hG.rd hy32 hi32
        have hc := hC yy i hy32 hi32
        have nx : A6_5 (PT js) (PT jo) (yy : Nat) (IntKind.i64.wrap ((i : Int) + 1)) M Tr6 := by
          rw [i64w (by omega), show ((i : Int) + 1) = ((i + 1 : Nat) : Int) by omega]
          exact ihn (i + 1) (by omega)
        have key : ∀ b, b = decide (8 * i < W ∧ 8 * yy < H) → A6_7 (PT js) (PT jo) (yy : Nat) (i : Nat) 0 b M Tr6 := by
          rintro b rfl
          refine w6_7 ⟨fun hb => ⟨_, rowA hy32, _, colA hi32, _, rd, fun hn => ?_, fun _ => nx⟩, fun hb => ⟨_, rowA hy32, _, colA hi32, _, rd, fun hn => ?_, fun _ => nx⟩⟩
          · rw [if_pos (of_decide_eq_true hb)] at hc; exact absurd hc hn
          · rw [if_neg (of_decide_eq_false hb)] at hc; exact absurd hc hn
        have w1 : IntKind.i64.wrap (8 * ((i : Nat) : Int)) = ((8 * i : Nat) : Int) := by rw [i64w (by omega)]; omega
        have w2 : IntKind.i64.wrap (8 * ((yy : Nat) : Int)) = ((8 * yy : Nat) : Int) := by rw [i64w (by omega)]; omega
        refine w6_5 ⟨fun _ => ⟨_, rfl, _, int_of (i := 0) hs rfl, ?_⟩, fun h => by omega⟩
        rw [w1, w2]
        refine ⟨fun h => ⟨_, rfl, _, int_of (i := 0 + 1) hs rfl, key _ ?_⟩, fun h => key _ ?_⟩
        · rw [decide_eq_decide]; omega
        · rw [eq_comm]; exact decide_eq_false (by omega)
    refine w6_3 ⟨fun _ => inner 32 0 (by decide), fun h => by omega⟩
theorem c6_1 {M0 : Mem} (hf : M0.floor ≤ M0.nb.size) {js W H : Nat} (hjs : M0.nb[js]? = some (.cells #[.int .i64 (W : Nat), .int .i64 (H : Nat)] 32)) (hW : W ≤ 1000) (hH : H ≤ 1000) (hjo : M0.nb.size ≤ jo) {L : List Rc} (hL : Row M0 A8 (Rcs L)) (hl : L.length ≤ 16) (hgood : ∀ t ∈ L, ∃ x y w h, Good t x y w h)
    (hC : ∀ yy xx, yy < 32 → xx < 32 → owL L yy xx = if 8 * xx < W ∧ 8 * yy < H then 1 else 0) :
    ∀ (m k : Nat) {M : Mem}, k + m = L.length → Ti M0 jo M (owL (L.take k)) → A6_1 (PT js) A8 L.length c8 (PT jo) (k : Nat) M Tr6 := by
  intro m
  induction m with
  | zero =>
    intro k M hk s
    rw [show k = L.length by omega, List.take_length] at s
    exact w6_1 ⟨fun h => by omega, fun _ => c6_3 (M0 := M0) hW hH (at_keep hjs s.keep) s.g hC 32 0 (by decide)⟩
  | succ m ih =>
    intro k M hk s
    have hk' : k < L.length := by omega
    obtain ⟨x, y, w, h, g⟩ := hgood _ (List.getElem_mem hk')
    obtain ⟨a, i1, i2, i3, i4, i5⟩ := Rcs_at (hL.keep s.keep) (n := L.length) (z := (k : Nat)) rfl hk' hk'
    have eg := g.e
    rw [eg] at i2 i3 i4 i5
    dsimp only at i2 i3 i4 i5
    have hms := s.keep.size
    have hfM : M.floor ≤ M.nb.size := fb hf s.keep
    have hjoM : jo < M.nb.size := lt_of_at s.g
    have n0 := Mem.new_at M (.cells #[.int .i64 0, .int .i64 0, .int .i64 0, .int .i64 0] 35)
    have s0 := Mem.new_size M (.cells #[.int .i64 0, .int .i64 0, .int .i64 0, .int .i64 0] 35)
    have K0 : Keep M (M.new (.cells #[.int .i64 0, .int .i64 0, .int .i64 0, .int .i64 0] 35)) := .new _ _
    obtain ⟨P1, p1, P2, p2, P3, p3, P4, p4, C4, t4⟩ := set4 n0 hfM (x : Nat) (y : Nat) (w : Nat) (h : Nat)
    have K4 : Keep M P4 := Keep.step K0 C4 fun j hj => by omega
    have s4 := K4.size
    have hlt4 := lt_of_at t4
    have hxw := g.xw
    have hyh := g.yh
    have wx : IntKind.i64.wrap (((x : Nat) : Int) + ((w : Nat) : Int)) = ((x + w : Nat) : Int) := by rw [i64w (by omega)]; omega
    have wy : IntKind.i64.wrap (((y : Nat) : Int) + ((h : Nat) : Int)) = ((y + h : Nat) : Int) := by rw [i64w (by omega)]; omega
    have hw1 := g.w1
    have hh1 := g.h1
    refine w6_1 ⟨fun _ => ⟨_, i1, _, i2, _, i3, _, i4, _, i5, P1, p1, P2, p2, P3, p3, P4, p4, _, int_of (i := 0) t4 rfl, fun hh => absurd (m64 x g.x64) hh, fun _ => ⟨_, int_of (i := 0 + 1) t4 rfl, w6_2 ⟨fun hh => ?_, fun _ => ⟨_, rfl, _, int_of (i := 0 + 2) t4 rfl, w6_4 ⟨fun hh => ?_, fun _ => ⟨_, rfl, _, int_of (i := 0 + 3) t4 rfl, w6_6 ⟨fun hh => ?_, fun _ => ⟨_, rfl, _, int_of (i := 0 + 2) t4 rfl, w6_8 ⟨fun hh => ?_, fun _ => ⟨_, rfl, _, int_of (i := 0 + 3) t4 rfl, w6_9 ⟨fun hh => ?_, fun _ => ⟨_, rfl, _, int_of (i := 0) t4 rfl, _, rfl, _, int_of (i := 0 + 2) t4 rfl, w6_10 ⟨fun hh => ?_, fun _ => ⟨_, rfl, _, int_of (i := 0 + 1) t4 rfl, _, rfl, _, int_of (i := 0 + 3) t4 rfl, w6_11 ⟨fun hh => ?_, fun _ => ⟨_, rfl, ?_⟩⟩⟩⟩⟩⟩⟩⟩⟩⟩⟩⟩⟩⟩⟩⟩, fun hh => by omega⟩
    · rw [m64 y g.y64] at hh; simp at hh
    · have := of_decide_eq_true hh; omega
    · have := of_decide_eq_true hh; omega
    · rw [m8 w g.w8] at hh; simp at hh
    · rw [m8 h g.h8] at hh; simp at hh
    · have := of_decide_eq_true hh; rw [wx] at this; omega
    · have := of_decide_eq_true hh; rw [wy] at this; omega
    -- the squares
    have z5 := Gd.zero P4
    have K5 : Keep P4 (P4.new (.cells zc1024 43)) := .new _ _
    have s5 := Mem.new_size P4 (.cells zc1024 43)
    generalize P4.new (.cells zc1024 43) = M5 at z5 K5 s5
    have t5 := at_keep t4 K5
    have KM5 := (s.keep.trans K4).trans K5
    refine ⟨_, int_of (i := 0) t5 rfl, _, int_of (i := 0 + 1) t5 rfl, _, int_of (i := 0 + 2) t5 rfl, _, int_of (i := 0 + 3) t5 rfl, Cn.mono (c19 (fb hf KM5)) ?_⟩
    obtain ⟨es, hin⟩ := sup_in g
    have es' : supL ((x : Nat) : Int) ((y : Nat) : Int) ((w : Nat) : Int) ((h : Nat) : Int) = supS x y w (sqN h) := by
      rw [eg] at es; exact es
    rw [es']
    have hcov := fun r c (hc : x / 8 ≤ c ∧ c < (x + w) / 8) (hr : y / 8 ≤ r ∧ r < (y + h) / 8) => sup_cover (w := w) (h := h) g.x64 g.y64 hc hr
    have hql : (supS x y w (sqN h)).length ≤ 16 := by
      have := supL_len x y w h
      rw [es'] at this; exact this
    generalize supS x y w (sqN h) = q at hin hcov hql ⊢
    rintro _ N ⟨A, cap, rfl, K6, O6⟩
    have K06 := KM5.trans K6
    have t6 := at_keep t5 K6
    have g6 : Gd N P4.nb.size (fun _ _ => 0) := at_keep z5 K6
    have o6 : Gd N jo (owL (L.take k)) := at_keep (at_keep (at_keep s.g K4) K5) K6
    have hb : (L.take k).length ≤ 100 := by rw [List.length_take]; omega
    have fl := K06.floor
    refine ⟨_, rfl, ?_⟩
    have z0 : Gd N P4.nb.size (sqL (q.take 0)) := g6
    refine c6_12 (M2 := N) (jt := M.nb.size) (jq := P4.nb.size) (q := q) (x := x) (y := y) (w := w) (h := h) (c16 := cap) (by rw [fl]; omega) (by omega) (O6.mono fun j _ hj => by omega) t6 hxw hyh hql hin (fun M7 s7 => ?_) q.length 0 (Nat.zero_add _) ⟨.refl _, z0⟩
    have t7 := at_chg t6 s7.chg (by omega)
    have o7 : Gd M7 jo (owL (L.take k)) := o6.chg s7.chg (by omega)
    have K07 : Keep M0 M7 := Keep.step K06 s7.chg fun j hj => by omega
    refine c6_14 (M2 := M7) (jo := jo) (jt := M.nb.size) (jq := P4.nb.size) (by rw [K07.floor]; omega) (by omega) (by omega) t7 hxw hyh s7.g (fun r c h1 h2 h3 h4 => hcov r c ⟨h3, h4⟩ ⟨h1, h2⟩) (owL_b _ hb) (fun M8 s8 => ?_) ((y + h) / 8 - y / 8) (y / 8) (by omega) (Nat.le_refl _) ⟨.refl _, by rw [incR_0]; exact o7⟩
    rw [i64w (by omega), show ((k : Int) + 1) = ((k + 1 : Nat) : Int) by omega]
    refine ih (k + 1) (by omega) ⟨Keep.step K07 s8.chg fun j hj => by omega, ?_⟩
    rw [List.take_succ_eq_append_getElem hk', owL_snoc _ _ g]
    exact s8.g
end
end Go.Zt

