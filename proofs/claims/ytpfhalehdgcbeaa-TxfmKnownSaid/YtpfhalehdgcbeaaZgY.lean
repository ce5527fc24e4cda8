/- Layer 8: a block's rows and columns, turned. -/
import Derived.Test.YtpfhalehdgcbeaaZgX
import Derived.Test.YtpfhalehdgcbeaaZgH
set_option linter.unusedSimpArgs false
set_option linter.unusedVariables false
namespace Go.Zt
open Go Go.Sim Go.Proofs Go.RowKit

/-! ### Blocks as functions of row and column -/
def gridL (n : Nat) (G : Nat → Nat → Int) : List Int := (List.range (n * n)).map fun t => G (t / n) (t % n)
theorem gridL_len (n : Nat) (G : Nat → Nat → Int) : (gridL n G).length = n * n := by simp [gridL]
theorem ix_lt {n r c : Nat} (hr : r < n) (hc : c < n) : r * n + c < n * n := by
  have : (r + 1) * n ≤ n * n := Nat.mul_le_mul_right _ hr
  rw [Nat.add_mul, Nat.one_mul] at this; omega
theorem ix_div {n r c : Nat} (hc : c < n) : (r * n + c) / n = r ∧ (r * n + c) % n = c := by
  have hn : 0 < n := by omega
  constructor
  · rw [Nat.mul_comm, Nat.mul_add_div hn, Nat.div_eq_of_lt hc]; rfl
  · rw [Nat.mul_comm, Nat.mul_add_mod, Nat.mod_eq_of_lt hc]
theorem gridL_at {n r c : Nat} {G : Nat → Nat → Int} (hr : r < n) (hc : c < n) : (gridL n G)[r * n + c]? = some (G r c) := by
  unfold gridL
  rw [List.getElem?_map, List.getElem?_range (ix_lt hr hc)]
  show some (G ((r * n + c) / n) ((r * n + c) % n)) = _
  rw [(ix_div hc).1, (ix_div hc).2]
def setG (G : Nat → Nat → Int) (r c : Nat) (v : Int) : Nat → Nat → Int := fun r' c' => if r' = r ∧ c' = c then v else G r' c'
theorem gridL_set {n r c : Nat} {G : Nat → Nat → Int} {v : Int} (hr : r < n) (hc : c < n) : (gridL n G).set (r * n + c) v = gridL n (setG G r c v) := by
  refine List.ext_getElem? fun t => ?_
  rw [List.getElem?_set]
  by_cases ht : t < n * n
  · have hn : 0 < n := by omega
    unfold gridL
    rw [List.getElem?_map, List.getElem?_map, List.getElem?_range ht]
    show (if r * n + c = t then _ else some (G (t / n) (t % n))) = some (setG G r c v (t / n) (t % n))
    unfold setG
    by_cases h : r * n + c = t
    · subst h
      rw [if_pos rfl, if_pos (by simpa using ht), if_pos ⟨(ix_div hc).1, (ix_div hc).2⟩]
    · rw [if_neg h, if_neg]
      rintro ⟨h1, h2⟩
      apply h
      have := Nat.div_add_mod t n
      rw [h1, h2, Nat.mul_comm] at this; exact this
  · rw [List.getElem?_eq_none (l := gridL n (setG G r c v)) (by rw [gridL_len]; omega)]
    split
    · rw [if_neg (by rw [gridL_len]; omega)]
    · rw [List.getElem?_eq_none (by rw [gridL_len]; omega)]
/-- The k-th line's i-th number: of a row, or of a column. -/
def lnG (b : Bool) (G : Nat → Nat → Int) (k i : Nat) : Int := if b then G k i else G i k
def ix (b : Bool) (n k i : Nat) : Nat := if b then k * n + i else i * n + k
def ixS (b : Bool) (n k : Nat) : Nat := if b then k * n else k
def ixT (b : Bool) (n : Nat) : Nat := if b then 1 else n
theorem ix_eq (b : Bool) (n k i : Nat) : ixS b n k + i * ixT b n = ix b n k i := by
  unfold ixS ixT ix; cases b
  · simp only [Bool.false_eq_true, if_false]; omega
  · simp only [if_true]; omega
def setL (b : Bool) (G : Nat → Nat → Int) (k i : Nat) (v : Int) : Nat → Nat → Int := if b then setG G k i v else setG G i k v
theorem line_at {b : Bool} {n k i : Nat} {G : Nat → Nat → Int} (hk : k < n) (hi : i < n) : (gridL n G)[ix b n k i]? = some (lnG b G k i) := by
  unfold ix lnG; cases b
  · exact gridL_at hi hk
  · exact gridL_at hk hi
theorem line_set {b : Bool} {n k i : Nat} {G : Nat → Nat → Int} {v : Int} (hk : k < n) (hi : i < n) : (gridL n G).set (ix b n k i) v = gridL n (setL b G k i v) := by
  unfold ix setL; cases b
  · exact gridL_set hi hk
  · exact gridL_set hk hi
theorem ix_b {b : Bool} {n k i : Nat} (hk : k < n) (hi : i < n) : ix b n k i < n * n := by
  unfold ix; cases b
  · exact ix_lt hi hk
  · exact ix_lt hk hi
/-- Lines that are done, and a part of the next one. -/
def updG (b : Bool) (f : Nat → Nat → Int) (k i : Nat) (G : Nat → Nat → Int) : Nat → Nat → Int := fun r c =>
  if (if b then r else c) < k ∨ ((if b then r else c) = k ∧ (if b then c else r) < i) then f (if b then r else c) (if b then c else r) else G r c
theorem updG_set {b : Bool} {f : Nat → Nat → Int} {k i : Nat} {G : Nat → Nat → Int} : setL b (updG b f k i G) k i (f k i) = updG b f k (i + 1) G := by
  funext r c
  unfold setL setG updG
  cases b
  · simp only [Bool.false_eq_true, if_false]
    by_cases h : r = i ∧ c = k
    · obtain ⟨rfl, rfl⟩ := h
      rw [if_pos ⟨rfl, rfl⟩, if_pos (by omega)]
    · rw [if_neg h]
      by_cases h2 : c < k ∨ (c = k ∧ r < i)
      · rw [if_pos h2, if_pos (by omega)]
      · rw [if_neg h2, if_neg (by omega)]
  · simp only [if_true]
    by_cases h : r = k ∧ c = i
    · obtain ⟨rfl, rfl⟩ := h
      rw [if_pos ⟨rfl, rfl⟩, if_pos (by omega)]
    · rw [if_neg h]
      by_cases h2 : r < k ∨ (r = k ∧ c < i)
      · rw [if_pos h2, if_pos (by omega)]
      · rw [if_neg h2, if_neg (by omega)]
theorem updG_next {b : Bool} {f : Nat → Nat → Int} {k n : Nat} {G : Nat → Nat → Int} : gridL n (updG b f k n G) = gridL n (updG b f (k + 1) 0 G) := by
  unfold gridL
  refine List.map_congr_left fun t ht => ?_
  have ht := List.mem_range.1 ht
  have hn : 0 < n := by
    rcases Nat.eq_zero_or_pos n with h | h
    · subst h; simp at ht
    · exact h
  have h1 : t / n < n := Nat.div_lt_of_lt_mul ht
  have h2 : t % n < n := Nat.mod_lt _ hn
  generalize t / n = p at h1 ⊢
  generalize t % n = q at h2 ⊢
  unfold updG
  cases b
  · simp only [Bool.false_eq_true, if_false]
    by_cases h : q < k ∨ (q = k ∧ p < n)
    · rw [if_pos h, if_pos (by omega)]
    · rw [if_neg h, if_neg (by omega)]
  · simp only [if_true]
    by_cases h : p < k ∨ (p = k ∧ q < n)
    · rw [if_pos h, if_pos (by omega)]
    · rw [if_neg h, if_neg (by omega)]
theorem updG_0 {b : Bool} {f : Nat → Nat → Int} {G : Nat → Nat → Int} : updG b f 0 0 G = G := by
  funext r c; unfold updG; rw [if_neg (by omega)]
theorem updG_line {b : Bool} {f : Nat → Nat → Int} {k i : Nat} {G : Nat → Nat → Int} : lnG b (updG b f k 0 G) k i = lnG b G k i := by
  unfold lnG updG
  cases b
  · simp only [Bool.false_eq_true, if_false]; rw [if_neg (by omega)]
  · simp only [if_true]; rw [if_neg (by omega)]
def lineL (b : Bool) (n : Nat) (G : Nat → Nat → Int) (k : Nat) : List Int := (List.range n).map (lnG b G k)
theorem lineL_len {b : Bool} {n k : Nat} {G : Nat → Nat → Int} : (lineL b n G k).length = n := by simp [lineL]
/-! ### The walk -/
theorem _root_.Go.Sim.Chg.step {S T : Nat → Prop} {M0 M M' : Mem} (h : Chg T M0 M) (k : Chg S M M') (hS : ∀ j, S j → T j ∨ M0.nb.size ≤ j) : Chg T M0 M' :=
  ⟨k.base.trans h.base, k.floor.trans h.floor, Nat.le_trans h.size k.size, fun j hj ht => (k.same j (Nat.lt_of_lt_of_le hj h.size) fun hs => (hS j hs).elim ht (fun h => by omega)).trans (h.same j hj ht)⟩
def LineFn (lv : Value) (b : Bool) (n : Nat) : Prop := ∀ (k : Nat) (M : Mem), k ≤ 1024 → M.floor ≤ M.nb.size → ∃ q, callVal Try.prog lv #[.int .i64 (k : Nat)] = some q ∧ Cn Try.prog q.1 q.2 M (fun v N => v = .tuple #[.int .i64 (ixS b n k : Nat), .int .i64 (ixT b n : Nat)] ∧ Keep M N)
def TrFn (fv : Value) (kind : Int) (Q : List Int → List Int × Nat) : Prop := ∀ (M : Mem) (A : Option Addr) (n c : Nat) (x : List Int), M.floor ≤ M.nb.size → Row M A (Ints x) → n = x.length → n ≤ 1048576 →
  ∃ q, callVal Try.prog fv #[.int .i64 kind, .slice A n c] = some q ∧ Cn Try.prog q.1 q.2 M (TfR M (Q x))
section
variable {M0 : Mem} {A : Option Addr} {cap n jc j6 jb1 : Nat} {b : Bool} {lv fv gv : Value} {kind : Int} {Q : List Int → List Int × Nat} {gs : Int → Int} {G : Nat → Nat → Int} {count : Nat} {ys : Nat → List Int}
/-- What stands while lines are turned. -/
structure Tn (M0 : Mem) (A : Option Addr) (cap n jc : Nat) (Ax : Option Addr) (b1 : Nat) (M : Mem) (L : List Int) : Prop where
  chg : Chg (· = jc) M0 M
  st : M.nb[M0.nb.size]? = some (.cells #[.int .i64 (n : Nat), .slice A (n * n) cap] 43)
  scr : ∃ z : List Int, z.length = n ∧ Own (fun j => M0.nb.size < j ∧ j < b1) M 3 Ax n (Ints z)
  own : Own (· = jc) M 3 A cap (Ints L)
  le : b1 ≤ M.nb.size
theorem Tn.next {Ax : Option Addr} {b1 : Nat} {M N : Mem} {L : List Int} (h : Tn M0 A cap n jc Ax b1 M L) (hjc : jc < M0.nb.size) (K : Keep M N) : Tn M0 A cap n jc Ax b1 N L := by
  obtain ⟨z, h1, h2⟩ := h.scr
  exact ⟨h.chg.step K fun j hj => hj.elim, at_keep h.st K, ⟨z, h1, h2.chg K fun _ _ _ h => h⟩, h.own.chg K fun _ _ _ h => h, Nat.le_trans h.le K.size⟩
theorem Tn.fl {Ax : Option Addr} {b1 : Nat} {M : Mem} {L : List Int} (h : Tn M0 A cap n jc Ax b1 M L) (hf : M0.floor ≤ M0.nb.size) : M.floor ≤ M.nb.size := by
  rw [h.chg.floor]; exact Nat.le_trans hf h.chg.size
theorem Tn.old {Ax : Option Addr} {b1 : Nat} {M : Mem} {L : List Int} (h : Tn M0 A cap n jc Ax b1 M L) : ∀ j b, j ≠ jc → M0.nb[j]? = some b → M.nb[j]? = some b := fun j b hj hb => at_chg hb h.chg hj
theorem c31_3 (hf : M0.floor ≤ M0.nb.size) (hfj : M0.floor ≤ jc) (hjc : jc < M0.nb.size) (hn : n ≤ 64) {Ax : Option Addr} {b1 : Nat} (hg : FnOk jc M0 gv gs) {k : Nat} (hk : k < n) {y : List Int} (hy : y.length = n) (hfar : ∀ v ∈ y, Far v) (hys : ys k = y) {Y : Option Addr} {cy by1 : Nat} (hb1 : M0.nb.size < b1)
    {R : Value → Mem → Prop} (hE : ∀ M, Tn M0 A cap n jc Ax b1 M (gridL n (updG b (fun k i => gs (gx (ys k) i)) (k + 1) 0 G)) → A31_1 lv kind fv gv (some ⟨2 * M0.nb.size, 0, none⟩) Ax n n (count : Nat) ((k + 1 : Nat) : Int) M R) :
    ∀ (m i : Nat) {M : Mem}, i + m = n → Tn M0 A cap n jc Ax b1 M (gridL n (updG b (fun k i => gs (gx (ys k) i)) k i G)) → Own (fun j => b1 ≤ j) M 3 Y cy (Ints y) →
      A31_3 lv kind fv gv (some ⟨2 * M0.nb.size, 0, none⟩) Ax n n (ixS b n k : Nat) (ixT b n : Nat) (count : Nat) (k : Nat) Y n cy (n : Nat) (i : Nat) M R := by
  intro m
  induction m with
  | zero =>
    intro i M hi hT hY
    obtain rfl : n = i := by omega
    refine w31_3 ⟨fun h => by omega, fun _ => ?_⟩
    rw [i64w (by omega), show ((k : Int) + 1) = ((k + 1 : Nat) : Int) by omega]
    rw [updG_next] at hT
    exact hE M hT
  | succ m ih =>
    intro i M hi hT hY
    have hiy : i < y.length := by omega
    obtain ⟨a, i1, i2⟩ := hY.row.int1 (n := n) (i := i) (z := i) (k := .i64) (x := gx y i) rfl (by omega) (gx_at hiy)
    have hfl := hT.fl hf
    have hv : Far (gx y i) := by
      have : y[i]? = some (gx y i) := by
        unfold gx; rw [List.getD_eq_getElem?_getD, List.getElem?_eq_getElem hiy]; rfl
      exact hfar _ (List.mem_of_getElem? this)
    obtain ⟨q, q1, q2⟩ := hg { M with floor := M.nb.size } (Nat.le_refl _) hT.old (gx y i) hv
    refine w31_3 ⟨fun _ => ⟨_, i1, _, i2, _, rfl, _, sl_of hT.st rfl, q, q1, Cn.mono q2 ?_⟩, fun h => by omega⟩
    rintro _ N' ⟨rfl, KN⟩
    have KM : Keep M { N' with floor := M.floor } := KN.unfl
    generalize { N' with floor := M.floor } = N at KM
    have hT2 := hT.next hjc KM
    have hY2 : Own (fun j => b1 ≤ j) N 3 Y cy (Ints y) := hY.chg KM fun _ _ _ h => h
    have hix := ix_b (b := b) hk (show i < n by omega)
    have hnn : n * n ≤ 64 * 64 := Nat.mul_le_mul hn hn
    have hie := ix_eq b n k i
    have hw : IntKind.i64.wrap ((ixS b n k : Int) + IntKind.i64.wrap ((i : Int) * (ixT b n : Nat))) = ((ix b n k i : Nat) : Int) := by
      rw [← Int.natCast_mul]
      generalize i * ixT b n = p at hie
      rw [i64w (x := (p : Int)) (by omega), i64w (by omega)]; omega
    obtain ⟨c, p1, N2, p2, p3, p4, p5⟩ := hT2.own.put1 (fun j hj => by rw [hT2.chg.floor, hj]; exact hfj) (n := n * n) (i := ix b n k i) (z := ((ix b n k i : Nat) : Int)) (v := .int .i64 (gs (gx y i))) rfl hix (by rw [List.length_map, gridL_len]; exact hix) rfl
    rw [show (Ints (gridL n (updG b (fun k i => gs (gx (ys k) i)) k i G))).set (ix b n k i) (.int .i64 (gs (gx y i))) = Ints (gridL n (updG b (fun k i => gs (gx (ys k) i)) k (i + 1) G)) by
      rw [Ints, Ints, ← List.map_set, line_set hk (by omega), ← hys, updG_set (f := fun k i => gs (gx (ys k) i))]] at p5
    dsimp only
    rw [hw]
    refine ⟨_, rfl, _, p1, _, p2, ?_⟩
    rw [i64w (by omega), show ((i : Int) + 1) = ((i + 1 : Nat) : Int) by omega]
    obtain ⟨z, z1, z2⟩ := hT2.scr
    exact ih (i + 1) (by omega) ⟨hT2.chg.step p3 fun j hj => .inl hj, at_chg hT2.st p3 (by omega), ⟨z, z1, z2.chg p3 fun j _ h1 h2 => by omega⟩, p5, Nat.le_trans hT2.le (Nat.le_of_eq p4.symm)⟩ (hY2.chg p3 fun j _ h1 h2 => by omega)
theorem c31_2 (hf : M0.floor ≤ M0.nb.size) (hfj : M0.floor ≤ jc) (hjc : jc < M0.nb.size) (hn : n ≤ 64) {Ax : Option Addr} {b1 : Nat} (hg : FnOk jc M0 gv gs) (hfn : TrFn fv kind Q) {k : Nat} (hk : k < n) (hq : Q (lineL b n G k) = (ys k, 0)) (hy : (ys k).length = n) (hfar : ∀ v ∈ ys k, Far v) (hb1 : M0.nb.size < b1)
    {R : Value → Mem → Prop} (hE : ∀ M, Tn M0 A cap n jc Ax b1 M (gridL n (updG b (fun k i => gs (gx (ys k) i)) (k + 1) 0 G)) → A31_1 lv kind fv gv (some ⟨2 * M0.nb.size, 0, none⟩) Ax n n (count : Nat) ((k + 1 : Nat) : Int) M R) :
    ∀ (m i : Nat) {M : Mem} (z : List Int), i + m = n → Tn M0 A cap n jc Ax b1 M (gridL n (updG b (fun k i => gs (gx (ys k) i)) k 0 G)) → z.length = n → Own (fun j => M0.nb.size < j ∧ j < b1) M 3 Ax n (Ints z) → z.take i = (lineL b n G k).take i →
      A31_2 lv kind fv gv (some ⟨2 * M0.nb.size, 0, none⟩) Ax n n (ixS b n k : Nat) (ixT b n : Nat) (count : Nat) (k : Nat) (n : Nat) (i : Nat) M R := by
  intro m
  induction m with
  | zero =>
    intro i M z hi hT hz hO he
    obtain rfl : n = i := by omega
    rw [List.take_of_length_le (by omega), List.take_of_length_le (by rw [lineL_len]; exact Nat.le_refl _)] at he
    subst he
    have hfl := hT.fl hf
    obtain ⟨q, q1, q2⟩ := hfn M Ax n n (lineL b n G k) hfl hO.row hz.symm (by omega)
    refine w31_2 ⟨fun h => by omega, fun _ => ⟨q, q1, Cn.mono q2 ?_⟩⟩
    rw [hq]
    rintro _ N ⟨Y, cy, rfl, KN, hY, _⟩
    have hT2 := hT.next hjc KN
    refine ⟨_, rfl, _, rfl, _, rfl, fun h => absurd rfl h, fun _ => ?_⟩
    dsimp only
    rw [hy]
    exact c31_3 hf hfj hjc hn hg hk hy hfar rfl (by1 := 0) hb1 hE n 0 (Nat.zero_add _) hT2 (hY.mono fun j _ hj => Nat.le_trans hT.le hj)
  | succ m ih =>
    intro i M z hi hT hz hO he
    have hix := ix_b (b := b) hk (show i < n by omega)
    have hnn : n * n ≤ 64 * 64 := Nat.mul_le_mul hn hn
    have hie := ix_eq b n k i
    have hw : IntKind.i64.wrap ((ixS b n k : Int) + IntKind.i64.wrap ((i : Int) * (ixT b n : Nat))) = ((ix b n k i : Nat) : Int) := by
      rw [← Int.natCast_mul]
      generalize i * ixT b n = p at hie
      rw [i64w (x := (p : Int)) (by omega), i64w (by omega)]; omega
    obtain ⟨a, i1, i2⟩ := hT.own.row.int1 (n := n * n) (i := ix b n k i) (z := ((ix b n k i : Nat) : Int)) (k := .i64) (x := lnG b G k i) rfl hix (by rw [List.getElem?_map, line_at hk (by omega), updG_line]; rfl)
    obtain ⟨c, p1, N, p2, p3, p4, p5⟩ := hO.put1 (fun j hj => by rw [hT.chg.floor]; omega) (n := n) (i := i) (z := (i : Nat)) (v := .int .i64 (lnG b G k i)) rfl (by omega) (by rw [List.length_map]; omega) rfl
    refine w31_2 ⟨fun _ => ⟨_, rfl, _, sl_of hT.st rfl, ?_⟩, fun h => by omega⟩
    dsimp only
    rw [hw]
    refine ⟨_, i1, _, i2, _, p1, _, p2, ?_⟩
    rw [i64w (by omega), show ((i : Int) + 1) = ((i + 1 : Nat) : Int) by omega]
    rw [Ints, ← List.map_set] at p5
    refine ih (i + 1) (z.set i (lnG b G k i)) (by omega) ⟨hT.chg.step p3 fun j hj => .inr (by omega), at_chg hT.st p3 (by omega), ⟨_, by rw [List.length_set]; exact hz, p5⟩, hT.own.chg p3 fun j _ h1 h2 => by omega, Nat.le_trans hT.le (Nat.le_of_eq p4.symm)⟩ (by rw [List.length_set]; exact hz) p5 ?_
    have e1 : (z.set i (lnG b G k i)).take (i + 1) = z.take i ++ [lnG b G k i] := by
      rw [List.take_succ_eq_append_getElem (by rw [List.length_set]; omega), List.getElem_set_self]
      congr 1
      rw [List.take_set, List.set_eq_of_length_le (by rw [List.length_take]; omega)]
    have e2 : (lineL b n G k).take (i + 1) = (lineL b n G k).take i ++ [lnG b G k i] := by
      rw [List.take_succ_eq_append_getElem (by rw [lineL_len]; omega)]
      simp [lineL]
    rw [e1, e2, he]
theorem c31 (hf : M0.floor ≤ M0.nb.size) (hfj : M0.floor ≤ jc) (hjc : jc < M0.nb.size) (hn : n ≤ 64) (hc : count ≤ n) (hl : LineFn lv b n) (hg : FnOk jc M0 gv gs) (hfn : TrFn fv kind Q)
    (hO : Own (· = jc) M0 3 A cap (Ints (gridL n G))) (hq : ∀ k, k < count → Q (lineL b n G k) = (ys k, 0) ∧ (ys k).length = n ∧ ∀ v ∈ ys k, Far v) :
    Cn Try.prog 31 #[.agg #[.int .i64 (n : Nat), .slice A (n * n) cap], lv, .int .i64 (count : Nat), .int .i64 kind, fv, gv] M0 fun v N => v = .int .i64 0 ∧ Chg (· = jc) M0 N ∧ Own (· = jc) N 3 A cap (Ints (gridL n (updG b (fun k i => gs (gx (ys k) i)) count 0 G))) := by
  have a0 := Mem.new_at M0 (.cells #[.int .i64 (n : Nat), .slice A (n * n) cap] 43)
  have K0 : Keep M0 (M0.new (.cells #[.int .i64 (n : Nat), .slice A (n * n) cap] 43)) := .new _ _
  have hs0 := Mem.new_size M0 (.cells #[.int .i64 (n : Nat), .slice A (n * n) cap] 43)
  refine w31_0 ?_
  generalize M0.new (.cells #[.int .i64 (n : Nat), .slice A (n * n) cap] 43) = M1 at a0 K0 hs0 ⊢
  obtain ⟨Ax, M2, g1, g2, g3⟩ := made (M1 := M1) (n := n) hn
  refine ⟨_, int_of a0 rfl, _, g1, _, rfl, ?_⟩
  have hT0 : Tn M0 A cap n jc Ax M2.nb.size M2 (gridL n (updG b (fun k i => gs (gx (ys k) i)) 0 0 G)) := by
    rw [updG_0]
    have K2 := K0.trans g2
    exact ⟨K2.mono fun _ _ h => h.elim, at_keep a0 g2, ⟨_, by simp, g3.mono fun j hj h => ⟨by omega, hj⟩⟩, hO.chg K2 fun _ _ _ h => h, Nat.le_refl _⟩
  have hb1 : M0.nb.size < M2.nb.size := by have := g2.size; omega
  have loop : ∀ (m k : Nat) {M : Mem}, k + m = count → Tn M0 A cap n jc Ax M2.nb.size M (gridL n (updG b (fun k i => gs (gx (ys k) i)) k 0 G)) → A31_1 lv kind fv gv (some ⟨2 * M0.nb.size, 0, none⟩) Ax n n (count : Nat) (k : Nat) M fun v N => v = .int .i64 0 ∧ Chg (· = jc) M0 N ∧ Own (· = jc) N 3 A cap (Ints (gridL n (updG b (fun k i => gs (gx (ys k) i)) count 0 G))) := by
    intro m
    induction m with
    | zero =>
      intro k M hk hT
      obtain rfl : count = k := by omega
      exact w31_1 ⟨fun h => by omega, fun _ => ⟨rfl, hT.chg, hT.own⟩⟩
    | succ m ih =>
      intro k M hk hT
      obtain ⟨q, q1, q2⟩ := hl k M (by omega) (hT.fl hf)
      obtain ⟨e1, e2, e3⟩ := hq k (by omega)
      refine w31_1 ⟨fun _ => ⟨q, q1, Cn.mono q2 ?_⟩, fun h => by omega⟩
      rintro _ N ⟨rfl, KN⟩
      have hT2 := hT.next hjc KN
      obtain ⟨z, z1, z2⟩ := hT2.scr
      exact ⟨_, rfl, _, rfl, _, rfl, c31_2 hf hfj hjc hn hg hfn (by omega) e1 e2 e3 hb1 (fun M hT => ih (k + 1) (by omega) hT) n 0 z (Nat.zero_add _) hT2 z1 z2 rfl⟩
  exact loop count 0 (Nat.zero_add _) hT0
end
/-! ### The lines and the transforms that are told -/
theorem lineRow {n : Nat} {A : Option Addr} {k c : Nat} (hn : n ≤ 64) : LineFn (.func (.func 32) #[.agg #[.int .i64 (n : Nat), .slice A k c]] #[]) true n := by
  intro i M hi hf
  refine ⟨(32, #[.agg #[.int .i64 (n : Nat), .slice A k c], .int .i64 (i : Nat)]), by kernel_rfl, ?_⟩
  have a0 := Mem.new_at M (.cells #[.int .i64 (n : Nat), .slice A k c] 43)
  refine w32_0 ⟨_, int_of a0 rfl, ?_, .new _ _⟩
  have h1 : i * n ≤ 1024 * 64 := Nat.mul_le_mul hi hn
  rw [← Int.natCast_mul, i64w (by omega)]; rfl
theorem lineCol {n : Nat} {A : Option Addr} {k c : Nat} : LineFn (.func (.func 36) #[.agg #[.int .i64 (n : Nat), .slice A k c]] #[]) false n := by
  intro i M hi hf
  refine ⟨(36, #[.agg #[.int .i64 (n : Nat), .slice A k c], .int .i64 (i : Nat)]), by kernel_rfl, ?_⟩
  have a0 := Mem.new_at M (.cells #[.int .i64 (n : Nat), .slice A k c] 43)
  exact w36_0 ⟨_, int_of a0 rfl, rfl, .new _ _⟩
theorem trInv {kind : Int} : TrFn (.func (.func 33) #[] #[]) kind (invQ kind) := fun M A n c x hf hA hn hb => ⟨(33, #[.int .i64 kind, .slice A n c]), by kernel_rfl, c33 hf hA hn hb⟩
theorem trFwd {kind : Int} : TrFn (.func (.func 45) #[] #[]) kind (fwdQ kind) := fun M A n c x hf hA hn hb => ⟨(45, #[.int .i64 kind, .slice A n c]), by kernel_rfl, c45 hf hA hn hb⟩
end Go.Zt

