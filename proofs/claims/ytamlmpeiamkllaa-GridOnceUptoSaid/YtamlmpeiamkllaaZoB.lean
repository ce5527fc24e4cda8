/- Layer 17: GridOnce: the grid, what was put and the owners, in memory; the loops over owners. -/
import Derived.Test.YtamlmpeiamkllaaZoA
import Derived.Test.YtamlmpeiamkllaaZpL
set_option linter.unusedSimpArgs false
set_option linter.unusedVariables false
set_option maxRecDepth 100000
namespace Go.Zt
open Go Go.Sim Go.Proofs Go.RowKit

abbrev PO (j : Nat) : Option Addr := some ⟨2 * j, 0, none⟩
def FrW (W : Nat → Prop) (M N : Mem) : Prop := ∀ k c, W k → M.nb[k]? = some c → N.nb[k]? = some c
structure St (W : Nat → Prop) (M : Mem) (jg jm : Nat) (t : Tl) (Lg Lp : List Bk) (A8 : Option Addr) (c8 : Nat) (Ax : Option Addr) (l : List Bk) : Prop where
  hf : M.floor ≤ M.nb.size
  w : ∀ i, W i → M.floor ≤ i ∧ i < M.nb.size
  cap : Lp.length ≤ c8
  row : Row M Ax (Bks l)
  old : Old Ax
  ex : ∃ V U, Gr V M jg jm t Lg ∧ Own U M 27 A8 (c8 * 23) (Bks Lp) ∧ (∀ i, V i ∨ i = jg ∨ i = jm → M.floor ≤ i ∧ i < M.nb.size ∧ ¬ W i ∧ ¬ U i) ∧ ∀ i, U i → M.floor ≤ i ∧ i < M.nb.size ∧ ¬ W i
section
variable {W W' T : Nat → Prop} {M N : Mem} {jg jm : Nat} {t : Tl} {Lg Lp : List Bk} {A8 Ax : Option Addr} {c8 : Nat} {l : List Bk} {b : Bk}
theorem St.less (h : St W M jg jm t Lg Lp A8 c8 Ax l) (hW : ∀ i, W' i → W i) : St W' M jg jm t Lg Lp A8 c8 Ax l := by
  obtain ⟨V, U, g, o, h1, h2⟩ := h.ex
  exact ⟨h.hf, fun i hi => h.w i (hW i hi), h.cap, h.row, h.old, V, U, g, o, fun i hi => ⟨(h1 i hi).1, (h1 i hi).2.1, fun q => (h1 i hi).2.2.1 (hW i q), (h1 i hi).2.2.2⟩, fun i hi => ⟨(h2 i hi).1, (h2 i hi).2.1, fun q => (h2 i hi).2.2 (hW i q)⟩⟩
theorem St.chg (h : St W M jg jm t Lg Lp A8 c8 Ax l) (C : Chg T M N) (hT : ∀ i, T i → W i ∨ M.nb.size ≤ i) : St W N jg jm t Lg Lp A8 c8 Ax l := by
  obtain ⟨V, U, g, o, h1, h2⟩ := h.ex
  have s := C.size
  refine ⟨by rw [C.floor]; have := h.hf; omega, fun i hi => ⟨by rw [C.floor]; exact (h.w i hi).1, by have := (h.w i hi).2; omega⟩, h.cap, h.row.old h.old C, h.old, V, U, g.chg C fun i hi ho q => ?_, o.chg C fun i hi ho q => ?_, fun i hi => ?_, fun i hi => ?_⟩
  · rcases hT i q with q | q
    · exact (h1 i ho).2.2.1 q
    · omega
  · rcases hT i q with q | q
    · exact (h2 i ho).2.2 q
    · omega
  · obtain ⟨a, b, c⟩ := h1 i hi; exact ⟨by rw [C.floor]; exact a, by omega, c⟩
  · obtain ⟨a, b, c⟩ := h2 i hi; exact ⟨by rw [C.floor]; exact a, by omega, c⟩
theorem St.grow (h : St W M jg jm t Lg Lp A8 c8 Ax l) (K : Keep M N) : St (fun i => W i ∨ (M.nb.size ≤ i ∧ i < N.nb.size)) N jg jm t Lg Lp A8 c8 Ax l := by
  have h' := h.chg K fun i q => q.elim
  obtain ⟨V, U, g, o, h1, h2⟩ := h.ex
  have hf := h.hf
  have s := K.size
  refine ⟨h'.hf, fun i hi => ?_, h.cap, h'.row, h.old, V, U, g.keep K, o.chg K fun _ _ _ q => q, fun i hi => ?_, fun i hi => ?_⟩
  · rcases hi with q | q
    · exact h'.w i q
    · exact ⟨by rw [K.floor]; omega, q.2⟩
  · obtain ⟨a, b, c, d⟩ := h1 i hi; exact ⟨by rw [K.floor]; exact a, by omega, fun q => q.elim c (by omega), d⟩
  · obtain ⟨a, b, c⟩ := h2 i hi; exact ⟨by rw [K.floor]; exact a, by omega, fun q => q.elim c (by omega)⟩
theorem St.put (h : St W M jg jm t Lg Lp A8 c8 Ax l) (hr : i64R b.x ∧ i64R b.y ∧ i64R b.w ∧ i64R b.h) (hL : Lg.length < 1000) :
    Cn Try.prog 9 #[PtrB jg, .agg b.cs] M fun v N => v = .int .i64 ((putS t Lg b).1 : Nat) ∧ St W N jg jm t (putS t Lg b).2 Lp A8 c8 Ax l ∧ FrW W M N := by
  obtain ⟨V, U, g, o, h1, h2⟩ := h.ex
  refine Cn.mono (c9 h.hf (fun i hi => ⟨(h1 i hi).1, (h1 i hi).2.1⟩) hL g hr) ?_
  rintro v N ⟨rfl, V', hV, C, G⟩
  have s := C.size
  have hf := h.hf
  have hV' : ∀ i, V' i ∨ i = jg ∨ i = jm → (V i ∨ i = jg ∨ i = jm) ∨ (M.nb.size ≤ i ∧ i < N.nb.size) := by
    rintro i (q | q)
    · rcases hV i q with q | q
      · exact .inl (.inl q)
      · exact .inr q
    · exact .inl (.inr q)
  refine ⟨rfl, ⟨by rw [C.floor]; omega, fun i hi => ⟨by rw [C.floor]; exact (h.w i hi).1, by have := (h.w i hi).2; omega⟩, h.cap, h.row.old h.old C, h.old, V', U, G, o.chg C fun i hi ho q => (h1 i q).2.2.2 ho, fun i hi => ?_, fun i hi => ?_⟩, fun k c w a => at_chg a C fun q => (h1 k q).2.2.1 w⟩
  · rcases hV' i hi with q | q
    · obtain ⟨a, b, c⟩ := h1 i q; exact ⟨by rw [C.floor]; exact a, by omega, c⟩
    · exact ⟨by rw [C.floor]; omega, q.2, fun w => by have := (h.w i w).2; omega, fun u => by have := (h2 i u).2.1; omega⟩
  · obtain ⟨a, b, c⟩ := h2 i hi; exact ⟨by rw [C.floor]; exact a, by omega, c⟩
theorem St.app (h : St W M jg jm t Lg Lp A8 c8 Ax l) (hL : Lp.length < 1000) :
    ∃ A' c' M', appendP Try.prog #[43, 43] (.slice A8 Lp.length c8) (.slice (some ⟨2 * M.nb.size, 0, none⟩) 1 1) (M.new (.cells b.cs 27)) = some (.slice A' (Lp.length + 1) c', M') ∧ St W M' jg jm t Lg (Lp ++ [b]) A' c' Ax l ∧ FrW W M M' := by
  obtain ⟨V, U, g, o, h1, h2⟩ := h.ex
  have hf := h.hf
  have X := Row.new M 27 b.cs.toList
  have K2 : Keep M (M.new (.cells b.cs.toList.toArray 27)) := .new _ _
  have z2 := Mem.new_size M (.cells b.cs.toList.toArray 27)
  have lb : b.cs.toList.length = 1 * 23 := rfl
  obtain ⟨A', c', M2, p, C2, O2, h3⟩ := append_own elem43 (S := fun i => U i ∨ M.nb.size ≤ i) ((o.chg K2 fun _ _ _ h => h).mono fun i _ h => .inl h) (n := Lp.length) (by rw [Bks_len]; omega) X (k := 1) (cx := 1) lb rfl (fun i hi => by
    rw [K2.floor]
    rcases hi with q | q
    · exact (h2 i q).1
    · omega) (.inr (by rw [z2]; omega)) (by omega)
  have C : Chg (fun i => U i ∨ M.nb.size ≤ i) M M2 := (K2.mono fun _ _ h => h.elim).trans C2
  have s := C.size
  refine ⟨A', c', M2, p, ⟨by rw [C.floor]; omega, fun i hi => ⟨by rw [C.floor]; exact (h.w i hi).1, by have := (h.w i hi).2; omega⟩, by simpa using h3, h.row.old h.old C, h.old, V, fun i => U i ∨ (M.nb.size ≤ i ∧ i < M2.nb.size), g.chg C fun i hi ho q => ?_, ?_, fun i hi => ?_, fun i hi => ?_⟩, fun k c w a => at_chg a C fun q => ?_⟩
  · rcases q with q | q
    · exact (h1 i ho).2.2.2 q
    · omega
  · have e : Bks (Lp ++ [b]) = Bks Lp ++ b.cs.toList := by simp [Bks, List.flatMap_append]
    rw [e]
    exact O2.mono fun i hi h => h.imp id fun q => ⟨q, hi⟩
  · obtain ⟨a, b, c, d⟩ := h1 i hi; exact ⟨by rw [C.floor]; exact a, by omega, c, fun q => q.elim d (by omega)⟩
  · rcases hi with q | q
    · obtain ⟨a, b, c⟩ := h2 i q; exact ⟨by rw [C.floor]; exact a, by omega, c⟩
    · exact ⟨by rw [C.floor]; omega, q.2, fun w => by have := (h.w i w).2; omega⟩
  · rcases q with q | q
    · exact (h2 k q).2.2 w
    · have := (h.w k w).2; omega
end
/-! ### Owners -/
abbrev tlc (t : Tl) : Array Value := #[.int .i64 t.x, .int .i64 t.y, .int .i64 t.w, .int .i64 t.h]
def oc (o : Nat → Nat) : Array Value := ((List.range 256).map fun k => Value.int .i64 ((o k : Nat) : Int)).toArray
theorem oc_size (o : Nat → Nat) : (oc o).size = 256 := by unfold oc; simp
theorem oc_at {o : Nat → Nat} {k : Nat} (h : k < 256) : (oc o)[k]? = some (.int .i64 ((o k : Nat) : Int)) := by unfold oc; simp [h]
def set1 (o : Nat → Nat) (k v : Nat) : Nat → Nat := fun i => if i = k then v else o i
theorem oc_set {o : Nat → Nat} {k v : Nat} : (oc o).setIfInBounds k (.int .i64 ((v : Nat) : Int)) = oc (set1 o k v) := by
  apply Array.ext_getElem?
  intro i
  rw [Array.getElem?_setIfInBounds]
  by_cases hi : i < 256
  · rw [oc_at hi, oc_at hi]
    unfold set1
    by_cases e : k = i
    · rw [if_pos e, if_pos (by rw [oc_size]; omega), if_pos e.symm]
    · rw [if_neg e, if_neg fun q => e q.symm]
  · have n : ∀ o : Nat → Nat, (oc o)[i]? = none := fun o => Array.getElem?_eq_none (by rw [oc_size]; omega)
    rw [n, n]
    split
    · rw [if_neg (by rw [oc_size]; omega)]
    · rfl
def chX (o : Nat → Nat) : Nat → Nat → Bool → Bool
  | _, 0, m => m
  | k, q + 1, m => chX o (k + 1) q (m && o k == 0)
def chY (o : Nat → Nat) (w : Nat) : Nat → Nat → Bool → Bool
  | _, 0, m => m
  | k, q + 1, m => if m then chY o w (k + 16) q (chX o k w m) else m
def flX (v : Nat) : (Nat → Nat) → Nat → Nat → Nat → Nat
  | o, _, 0 => o
  | o, k, q + 1 => flX v (set1 o k v) (k + 1) q
def flY (v w : Nat) : (Nat → Nat) → Nat → Nat → Nat → Nat
  | o, _, 0 => o
  | o, k, q + 1 => flY v w (flX v o k w) (k + 16) q
theorem chX_iff {o : Nat → Nat} : ∀ {q k : Nat} {m : Bool}, chX o k q m = true ↔ m = true ∧ ∀ i, i < q → o (k + i) = 0
  | 0, k, m => by simp [chX]
  | q + 1, k, m => by
    unfold chX
    rw [chX_iff, Bool.and_eq_true, beq_iff_eq]
    constructor
    · rintro ⟨⟨h1, h2⟩, h3⟩
      refine ⟨h1, fun i hi => ?_⟩
      cases i with
      | zero => exact h2
      | succ i => have := h3 i (by omega); rwa [show k + 1 + i = k + (i + 1) by omega] at this
    · rintro ⟨h1, h2⟩
      exact ⟨⟨h1, h2 0 (by omega)⟩, fun i hi => by rw [show k + 1 + i = k + (i + 1) by omega]; exact h2 _ (by omega)⟩
theorem chY_iff {o : Nat → Nat} {w : Nat} : ∀ {q k : Nat} {m : Bool}, chY o w k q m = true ↔ m = true ∧ ∀ y x, y < q → x < w → o (k + 16 * y + x) = 0
  | 0, k, m => by simp [chY]
  | q + 1, k, m => by
    unfold chY
    cases m with
    | false => simp
    | true =>
      rw [if_pos rfl, chY_iff, chX_iff]
      constructor
      · rintro ⟨⟨h1, h2⟩, h3⟩
        refine ⟨h1, fun y x hy hx => ?_⟩
        cases y with
        | zero => exact h2 x hx
        | succ y => have := h3 y x (by omega) hx; rwa [show k + 16 + 16 * y + x = k + 16 * (y + 1) + x by omega] at this
      · rintro ⟨h1, h2⟩
        exact ⟨⟨h1, fun i hi => by have := h2 0 i (by omega) hi; simpa using this⟩, fun y x hy hx => by rw [show k + 16 + 16 * y + x = k + 16 * (y + 1) + x by omega]; exact h2 _ _ (by omega) hx⟩
theorem flX_at {v : Nat} : ∀ {q k : Nat} {o : Nat → Nat} {i : Nat}, flX v o k q i = if k ≤ i ∧ i < k + q then v else o i
  | 0, k, o, i => by rw [if_neg (by omega)]; rfl
  | q + 1, k, o, i => by
    unfold flX
    rw [flX_at]
    unfold set1
    by_cases h1 : k + 1 ≤ i ∧ i < k + 1 + q
    · rw [if_pos h1, if_pos (by omega)]
    · rw [if_neg h1]
      by_cases h2 : i = k
      · rw [if_pos h2, if_pos (by omega)]
      · rw [if_neg h2, if_neg (by omega)]
theorem flY_at {v w : Nat} : ∀ {q k : Nat} {o : Nat → Nat} {y x cy cx : Nat}, k = 16 * cy + cx → x < 16 → cx + w ≤ 16 → flY v w o k q (16 * y + x) = if cy ≤ y ∧ y < cy + q ∧ cx ≤ x ∧ x < cx + w then v else o (16 * y + x)
  | 0, k, o, y, x, cy, cx, hk, hx, hw => by rw [if_neg (by omega)]; rfl
  | q + 1, k, o, y, x, cy, cx, hk, hx, hw => by
    unfold flY
    rw [flY_at (cy := cy + 1) (cx := cx) (by omega) hx hw, flX_at]
    by_cases h1 : cy + 1 ≤ y ∧ y < cy + 1 + q ∧ cx ≤ x ∧ x < cx + w
    · rw [if_pos h1, if_pos (by omega)]
    · rw [if_neg h1]
      by_cases h2 : k ≤ 16 * y + x ∧ 16 * y + x < k + w
      · rw [if_pos h2, if_pos (by omega)]
      · rw [if_neg h2, if_neg (by omega)]
/-- A block in cells of a tile. -/
structure Bx (t : Tl) (b : Bk) (cx cy w h : Nat) : Prop where
  ex : b.x = t.x + 8 * (cx : Int)
  ey : b.y = t.y + 8 * (cy : Int)
  ew : b.w = 8 * (w : Int)
  eh : b.h = 8 * (h : Int)
  eb : 0 ≤ t.x ∧ t.x ≤ 192 ∧ 0 ≤ t.y ∧ t.y ≤ 192 ∧ cx < 18 ∧ cy < 18 ∧ w ≤ 8 ∧ h ≤ 8
theorem td8 {z : Int} (n : Nat) (e : z = 8 * (n : Int)) (h : n ≤ 1000) : IntKind.i64.wrap (z.tdiv 8) = (n : Int) := by
  rw [e, Int.mul_tdiv_cancel_left _ (by decide), i64w (by omega)]
theorem ix16 {j o s i : Nat} {z : Int} (hz : z = (i : Int)) (hi : i < 16) : idxA (some ⟨2 * j, o, none⟩) 16 s z = some ⟨2 * j, o + i * s, none⟩ := by
  subst hz
  unfold idxA
  rw [if_pos (by omega)]
  simp
section
variable {M : Mem} {Q : Value → Mem → Prop} {Ax A8 : Option Addr} {lx cx1 l8 c8 jt jg jo jb : Nat} {x9 : Int} {t : Tl} {b : Bk} {cx cy w h tw th : Nat} {o : Nat → Nat}
theorem e4_9 (B : Bx t b cx cy w h) (fit : cx + w ≤ 16 ∧ cy + h ≤ 16) (bb : M.nb[jb]? = some (.cells b.cs 27)) (tl : M.nb[jt]? = some (.cells (tlc t) 35)) (oa : M.nb[jo]? = some (.cells (oc o) 46)) {yi : Nat} (hy : yi < h) :
    ∀ (q xi : Nat) {m : Bool}, xi + q = w → A4_5 Ax lx cx1 (PO jt) (PO jg) (PO jo) A8 l8 c8 x9 (PO jb) (chX o (16 * (cy + yi) + (cx + xi)) q m) ((yi + 1 : Nat) : Int) M Q →
      A4_9 Ax lx cx1 (PO jt) (PO jg) (PO jo) A8 l8 c8 x9 (PO jb) m (yi : Int) (xi : Int) M Q
  | 0, xi, m, hq, next => by
    have hb := B.eb
    refine w4_9 (ad rfl (on (int_of (i := 0 + 2) bb rfl) ?_))
    rw [td8 w B.ew (by omega)]
    refine cF (decide_eq_false (by omega)) ?_
    rw [i64w (x := (yi : Int) + 1) (by omega)]
    exact next
  | q + 1, xi, m, hq, next => by
    have hb := B.eb
    have step : ∀ m' : Bool, m' = (m && o (16 * (cy + yi) + (cx + xi)) == 0) → A4_11 Ax lx cx1 (PO jt) (PO jg) (PO jo) A8 l8 c8 x9 (PO jb) m' (yi : Int) (xi : Int) M Q := by
      intro m' hm
      refine w4_11 (w4_14 ?_)
      rw [i64w (x := (xi : Int) + 1) (by omega)]
      refine e4_9 B fit bb tl oa hy q (xi + 1) (by omega) ?_
      unfold chX at next
      rw [hm]
      exact next
    refine w4_9 (ad rfl (on (int_of (i := 0 + 2) bb rfl) ?_))
    rw [td8 w B.ew (by omega)]
    refine cT (decide_eq_true (by omega)) ?_
    cases m with
    | false => exact cF rfl (step false rfl)
    | true =>
      refine cT rfl (ad rfl (on (int_of (i := 0 + 1) bb rfl) (ad rfl (on (int_of (i := 0 + 1) tl rfl) (ad rfl (on (int_of (i := 0) bb rfl) (ad rfl (on (int_of (i := 0) tl rfl) ?_))))))))
      have ey : IntKind.i64.wrap (b.y - t.y) = 8 * (cy : Int) := by rw [B.ey, i64w (by omega)]; omega
      have ex : IntKind.i64.wrap (b.x - t.x) = 8 * (cx : Int) := by rw [B.ex, i64w (by omega)]; omega
      rw [ey, ex, td8 cy rfl (by omega), td8 cx rfl (by omega), i64w (x := (cy : Int) + (yi : Int)) (by omega), i64w (x := (cx : Int) + (xi : Int)) (by omega)]
      refine ix (ix16 (i := cy + yi) (by omega) (by omega)) (ix (ix16 (i := cx + xi) (by omega) (by omega)) (on (int_of (i := 0 + (cy + yi) * 16 + (cx + xi) * 1) oa (oc_at (by omega))) (step _ ?_)))
      rw [show 0 + (cy + yi) * 16 + (cx + xi) * 1 = 16 * (cy + yi) + (cx + xi) by omega, Bool.true_and, Bool.eq_iff_iff, beq_iff_eq, beq_iff_eq]
      omega
theorem e4_5 (B : Bx t b cx cy w h) (bb : M.nb[jb]? = some (.cells b.cs 27)) (tl : M.nb[jt]? = some (.cells (tlc t) 35)) (oa : M.nb[jo]? = some (.cells (oc o) 46)) :
    ∀ (q yi : Nat) {m : Bool}, yi + q = h → (m = true → cx + w ≤ 16 ∧ cy + h ≤ 16) → (∀ z : Int, A4_7 Ax lx cx1 (PO jt) (PO jg) (PO jo) A8 l8 c8 x9 (PO jb) (chY o w (16 * (cy + yi) + cx) q m) z false M Q) →
      A4_5 Ax lx cx1 (PO jt) (PO jg) (PO jo) A8 l8 c8 x9 (PO jb) m (yi : Int) M Q
  | 0, yi, m, hq, fit, next => by
    have hb := B.eb
    refine w4_5 (ad rfl (on (int_of (i := 0 + 3) bb rfl) ?_))
    rw [td8 h B.eh (by omega)]
    exact cF (decide_eq_false (by omega)) (next _)
  | q + 1, yi, m, hq, fit, next => by
    have hb := B.eb
    refine w4_5 (ad rfl (on (int_of (i := 0 + 3) bb rfl) ?_))
    rw [td8 h B.eh (by omega)]
    refine cT (decide_eq_true (by omega)) ?_
    unfold chY at next
    cases m with
    | false => exact next _
    | true =>
      have f := fit rfl
      refine w4_7 (cT rfl (e4_9 B f bb tl oa (by omega) w 0 (by omega) ?_))
      refine e4_5 B bb tl oa q (yi + 1) (by omega) (fun _ => f) fun z => ?_
      have := next z
      rw [if_pos rfl] at this
      rw [show 16 * (cy + (yi + 1)) + cx = 16 * (cy + yi) + cx + 16 by omega]
      exact this
theorem e4_15 (B : Bx t b cx cy w h) (fit : cx + w ≤ 16 ∧ cy + h ≤ 16) (ne : jo ≠ jb ∧ jo ≠ jt) {yi v : Nat} (hy : yi < h) :
    ∀ (q xi : Nat) {M : Mem} {o : Nat → Nat}, xi + q = w → M.floor ≤ jo → M.nb[jb]? = some (.cells b.cs 27) → M.nb[jt]? = some (.cells (tlc t) 35) → M.nb[jo]? = some (.cells (oc o) 46) →
      (∀ N, Chg (· = jo) M N → N.nb[jo]? = some (.cells (oc (flX v o (16 * (cy + yi) + (cx + xi)) q)) 46) → A4_13 Ax lx cx1 (PO jt) (PO jg) (PO jo) A8 v c8 x9 (PO jb) ((yi + 1 : Nat) : Int) N Q) →
      A4_15 Ax lx cx1 (PO jt) (PO jg) (PO jo) A8 v c8 x9 (PO jb) (yi : Int) (xi : Int) M Q
  | 0, xi, M, o, hq, fo, bb, tl, oa, next => by
    have hb := B.eb
    refine w4_15 (ad rfl (on (int_of (i := 0 + 2) bb rfl) ?_))
    rw [td8 w B.ew (by omega)]
    refine cF (decide_eq_false (by omega)) ?_
    rw [i64w (x := (yi : Int) + 1) (by omega)]
    exact next M (.refl _) oa
  | q + 1, xi, M, o, hq, fo, bb, tl, oa, next => by
    have hb := B.eb
    refine w4_15 (ad rfl (on (int_of (i := 0 + 2) bb rfl) ?_))
    rw [td8 w B.ew (by omega)]
    refine cT (decide_eq_true (by omega)) (ad rfl (on (int_of (i := 0 + 1) bb rfl) (ad rfl (on (int_of (i := 0 + 1) tl rfl) (ad rfl (on (int_of (i := 0) bb rfl) (ad rfl (on (int_of (i := 0) tl rfl) ?_))))))))
    have ey : IntKind.i64.wrap (b.y - t.y) = 8 * (cy : Int) := by rw [B.ey, i64w (by omega)]; omega
    have ex : IntKind.i64.wrap (b.x - t.x) = 8 * (cx : Int) := by rw [B.ex, i64w (by omega)]; omega
    rw [ey, ex, td8 cy rfl (by omega), td8 cx rfl (by omega), i64w (x := (cy : Int) + (yi : Int)) (by omega), i64w (x := (cx : Int) + (xi : Int)) (by omega)]
    obtain ⟨N, p, C, z, a⟩ := put1 (0 + (cy + yi) * 16 + (cx + xi) * 1) (.int .i64 ((v : Nat) : Int)) oa fo (by rw [oc_size]; omega) rfl
    rw [oc_set] at a
    refine ix (ix16 (i := cy + yi) (by omega) (by omega)) (ix (ix16 (i := cx + xi) (by omega) (by omega)) (pt p ?_))
    rw [i64w (x := (xi : Int) + 1) (by omega)]
    refine e4_15 B fit ne hy q (xi + 1) (by omega) (by rw [C.floor]; exact fo) (at_chg bb C ne.1.symm) (at_chg tl C ne.2.symm) a fun N' C' a' => next N' (C.trans C') ?_
    unfold flX
    rw [show 0 + (cy + yi) * 16 + (cx + xi) * 1 = 16 * (cy + yi) + (cx + xi) by omega] at a'
    exact a'
theorem e4_13 (B : Bx t b cx cy w h) (fit : cx + w ≤ 16 ∧ cy + h ≤ 16) (ne : jo ≠ jb ∧ jo ≠ jt) {v : Nat} :
    ∀ (q yi : Nat) {M : Mem} {o : Nat → Nat}, yi + q = h → M.floor ≤ jo → M.nb[jb]? = some (.cells b.cs 27) → M.nb[jt]? = some (.cells (tlc t) 35) → M.nb[jo]? = some (.cells (oc o) 46) →
      (∀ N, Chg (· = jo) M N → N.nb[jo]? = some (.cells (oc (flY v w o (16 * (cy + yi) + cx) q)) 46) → A4_12 Ax lx cx1 (PO jt) (PO jg) (PO jo) A8 v c8 x9 N Q) →
      A4_13 Ax lx cx1 (PO jt) (PO jg) (PO jo) A8 v c8 x9 (PO jb) (yi : Int) M Q
  | 0, yi, M, o, hq, fo, bb, tl, oa, next => by
    have hb := B.eb
    refine w4_13 (ad rfl (on (int_of (i := 0 + 3) bb rfl) ?_))
    rw [td8 h B.eh (by omega)]
    exact cF (decide_eq_false (by omega)) (next M (.refl _) oa)
  | q + 1, yi, M, o, hq, fo, bb, tl, oa, next => by
    have hb := B.eb
    refine w4_13 (ad rfl (on (int_of (i := 0 + 3) bb rfl) ?_))
    rw [td8 h B.eh (by omega)]
    refine cT (decide_eq_true (by omega)) (e4_15 B fit ne (by omega) w 0 (by omega) fo bb tl oa fun N C a => ?_)
    refine e4_13 B fit ne q (yi + 1) (by omega) (by rw [C.floor]; exact fo) (at_chg bb C ne.1.symm) (at_chg tl C ne.2.symm) a fun N' C' a' => next N' (C.trans C') ?_
    unfold flY
    rw [show 16 * (cy + (yi + 1)) + cx = 16 * (cy + yi) + cx + 16 by omega] at a'
    exact a'
end
end Go.Zt
