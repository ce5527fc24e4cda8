/- Layer 17: law4, GridOnce. -/
import Derived.Test.YtamlmpeiamkllaaZoB
set_option linter.unusedSimpArgs false
set_option linter.unusedVariables false
set_option maxRecDepth 100000
namespace Go.Zt
open Go Go.Sim Go.Proofs Go.RowKit

theorem cA3 {c : Bool} {X : Prop} (F : Bool → Prop) (b : Bool) (h : F (c && b)) (k : F b → X) : cnd c X (F false) := by
  cases c
  · exact h
  · exact k h
theorem ixldR {M : Mem} {A : Option Addr} {L : List Bk} (hR : Row M A (Bks L)) {n i : Nat} {z : Int} {b : Bk} (hz : z = (i : Int)) (hn : i < n) (hb : L[i]? = some b) {tys : List Sc} {p : List Value → Prop} (hf : fitL tys b.cs.toList = true) (k : p b.cs.toList) :
    ixS (idxA A n 23 z) fun a => ldP tys M a.block a.off p := by
  obtain ⟨hi, rfl⟩ := List.getElem?_eq_some_iff.1 hb
  obtain ⟨a, e1, e2⟩ := Bks.elt hR hz hn hi hf k
  exact ix e1 e2
theorem ne27 (b : Bk) : binV Try.prog .neq 27 27 (.agg b.cs) (.agg b.cs) = some (.bool false) := by
  obtain ⟨z, h1, h2, h3⟩ := binV_eqA (P := Try.prog) (k := 5) (t := 27) (tb := 27) (xs := b.cs.toList) (ys := b.cs.toList) (by decide) (by kernel_rfl) (by kernel_rfl) (by kernel_rfl) (by kernel_rfl) (by kernel_rfl) rfl rfl
  have h2' : binV Try.prog .neq 27 27 (.agg b.cs) (.agg b.cs) = some (.bool !z) := h2
  rw [h2', h3.2 rfl]
  rfl
/-- A tile in cells. -/
structure Tb (t : Tl) (tw th : Nat) : Prop where
  w : t.w = 8 * (tw : Int)
  h : t.h = 8 * (th : Int)
  b : 0 ≤ t.x ∧ t.x ≤ 64 ∧ 0 ≤ t.y ∧ t.y ≤ 64 ∧ 1 ≤ tw ∧ tw ≤ 16 ∧ 1 ≤ th ∧ th ≤ 16 ∧ t.x % 64 = 0 ∧ t.y % 64 = 0
theorem Tb.may {t : Tl} {tw th : Nat} (T : Tb t tw th) : t.may = true := by
  have h1 := T.w
  have h2 := T.h
  have h3 := T.b
  unfold Tl.may spanB
  rw [Bool.and_eq_true, decide_eq_true_eq, decide_eq_true_eq]
  omega
def side8 (w : Nat) : Prop := w = 1 ∨ w = 2 ∨ w = 4 ∨ w = 8
def Ow (t : Tl) (L : List Bk) (o : Nat → Nat) : Prop := ∀ y x, y < 16 → x < 16 → o (16 * y + x) = own t L y x
section
variable {t : Tl} {L : List Bk} {b : Bk} {o : Nat → Nat} {cx cy w h tw th : Nat}
def fits (t : Tl) (b : Bk) : Bool := decide (b.x + b.w ≤ t.x + t.w) && decide (b.y + b.h ≤ t.y + t.h)
theorem fits_iff (T : Tb t tw th) (B : Bx t b cx cy w h) : fits t b = true ↔ cx + w ≤ tw ∧ cy + h ≤ th := by
  have h1 := T.w
  have h2 := T.h
  have h3 := B.ex
  have h4 := B.ey
  have h5 := B.ew
  have h6 := B.eh
  unfold fits
  rw [Bool.and_eq_true, decide_eq_true_eq, decide_eq_true_eq]
  omega
theorem ok_fits (T : Tb t tw th) (B : Bx t b cx cy w h) (hw : side8 w) (hh : side8 h) : b.ok t = true ↔ fits t b = true := by
  rw [fits_iff T B, Bk.ok_iff]
  have h1 := T.w
  have h2 := T.h
  have h3 := B.ex
  have h4 := B.ey
  have h5 := B.ew
  have h6 := B.eh
  have h7 := T.b
  unfold side8 at hw hh
  omega
theorem cxy (B : Bx t b cx cy w h) : cx0 t b = cx ∧ cy0 t b = cy ∧ b.w.toNat / 8 = w ∧ b.h.toNat / 8 = h := by
  have h3 := B.ex
  have h4 := B.ey
  have h5 := B.ew
  have h6 := B.eh
  unfold cx0 cy0
  omega
theorem may_put (T : Tb t tw th) (B : Bx t b cx cy w h) (hw : side8 w) (hh : side8 h) (hL : ∀ b ∈ L, b.ok t = true) (O : Ow t L o) :
    chY o w (16 * cy + cx) h (fits t b) = (b.ok t && L.all fun a => !a.ovl b) := by
  obtain ⟨e1, e2, e3, e4⟩ := cxy B
  have hb := T.b
  rw [Bool.eq_iff_iff, chY_iff, Bool.and_eq_true, ok_fits T B hw hh]
  refine and_congr_right fun hf => ?_
  have f := (fits_iff T B).1 hf
  rw [putS_own T.may hL ((ok_fits T B hw hh).2 hf), e1, e2, e3, e4]
  constructor
  · intro g y x hy hx
    rw [← O _ _ (by omega) (by omega), show 16 * (cy + y) + (cx + x) = 16 * cy + cx + 16 * y + x by omega]
    exact g y x hy hx
  · intro g y x hy hx
    rw [← show 16 * (cy + y) + (cx + x) = 16 * cy + cx + 16 * y + x by omega, O _ _ (by omega) (by omega)]
    exact g y x hy hx
theorem Ow.put (T : Tb t tw th) (B : Bx t b cx cy w h) (hw : side8 w) (hh : side8 h) (hL : ∀ b ∈ L, b.ok t = true) (O : Ow t L o) (hp : (b.ok t && L.all fun a => !a.ovl b) = true) : Ow t (L ++ [b]) (flY (L.length + 1) w o (16 * cy + cx) h) := by
  obtain ⟨e1, e2, e3, e4⟩ := cxy B
  have hb := T.b
  rw [Bool.and_eq_true] at hp
  have f := (fits_iff T B).1 ((ok_fits T B hw hh).1 hp.1)
  have g := (putS_own T.may hL hp.1).1 hp.2
  intro y x hy hx
  have hit : hits t b y x = decide (cy ≤ y ∧ y < cy + h ∧ cx ≤ x ∧ x < cx + w) := by unfold hits; rw [e1, e2, e3, e4]
  rw [flY_at rfl hx (by omega), own_app T.may hp.1 fun hc => ?_, hit, O y x hy hx]
  · by_cases c : cy ≤ y ∧ y < cy + h ∧ cx ≤ x ∧ x < cx + w
    · rw [if_pos c, if_pos (decide_eq_true c)]
    · rw [if_neg c, if_neg (by simpa using c)]
  · rw [hit] at hc
    have hc := of_decide_eq_true hc
    have := g (y - cy) (x - cx) (by omega) (by omega)
    rwa [e1, e2, show cy + (y - cy) = y by omega, show cx + (x - cx) = x by omega] at this
end
section
variable {M : Mem} {Q : Value → Mem → Prop} {Ax A8 : Option Addr} {lx cx1 c8 jt jg jm jo jb : Nat} {t : Tl} {b : Bk} {cx cy w h tw th : Nat} {o : Nat → Nat} {L l : List Bk}
def W3 (jt jo jb : Nat) : Nat → Prop := fun i => i = jt ∨ i = jo ∨ i = jb
/-- A block is put. -/
theorem e4_7 {i : Nat} {z : Int} (T : Tb t tw th) (B : Bx t b cx cy w h) (hw : side8 w) (hh : side8 h) (hi : i < 60) (hL : L.length ≤ i) (S : St (W3 jt jo jb) M jg jm t L L A8 c8 Ax l) (ne : jo ≠ jb ∧ jo ≠ jt)
    (bb : M.nb[jb]? = some (.cells b.cs 27)) (tl : M.nb[jt]? = some (.cells (tlc t) 35)) (oa : M.nb[jo]? = some (.cells (oc o) 46)) (O : Ow t L o)
    (next : ∀ N L' A' c' o', L'.length ≤ i + 1 → St (W3 jt jo jb) N jg jm t L' L' A' c' Ax l → N.nb[jt]? = some (.cells (tlc t) 35) → N.nb[jo]? = some (.cells (oc o') 46) → Ow t L' o' → A4_1 Ax lx cx1 (PO jt) (PO jg) (PO jo) A' L'.length c' ((i + 1 : Nat) : Int) N Q) :
    A4_7 Ax lx cx1 (PO jt) (PO jg) (PO jo) A8 L.length c8 (i : Int) (PO jb) (chY o w (16 * cy + cx) h (fits t b)) z false M Q := by
  have hb := B.eb
  have Wt : W3 jt jo jb jt := .inl rfl
  have Wo : W3 jt jo jb jo := .inr (.inl rfl)
  have Wb : W3 jt jo jb jb := .inr (.inr rfl)
  have hok : ∀ b ∈ L, b.ok t = true := by obtain ⟨V, U, g, _⟩ := S.ex; exact g.ok
  have hr : i64R b.x ∧ i64R b.y ∧ i64R b.w ∧ i64R b.h := by
    rw [B.ex, B.ey, B.ew, B.eh]
    unfold i64R
    omega
  rw [may_put T B hw hh hok O]
  refine w4_7 (cF rfl (ad rfl (ldA bb rfl (Cn.mono (S.put hr (by omega)) ?_))))
  rintro _ N ⟨rfl, S2, F⟩
  have w12 : ∀ {N : Mem} {A' : Option Addr} {n c' : Nat}, A4_1 Ax lx cx1 (PO jt) (PO jg) (PO jo) A' n c' ((i + 1 : Nat) : Int) N Q → A4_12 Ax lx cx1 (PO jt) (PO jg) (PO jo) A' n c' (i : Int) N Q := fun h => by
    refine w4_12 ?_
    rw [i64w (x := (i : Int) + 1) (by omega)]
    exact h
  cases hp : (b.ok t && L.all fun a => !a.ovl b) with
  | false =>
    have e : putS t L b = (2, L) := by unfold putS; rw [hp]; rfl
    rw [e] at S2 ⊢
    exact ty rfl (cF rfl (cT rfl (w4_10 (cF rfl (cT rfl (w12 (next N L A8 c8 o (by omega) S2 (F _ _ Wt tl) (F _ _ Wo oa) O)))))))
  | true =>
    have e : putS t L b = (0, L ++ [b]) := by unfold putS; rw [hp]; rfl
    rw [e] at S2 ⊢
    have f := (fits_iff T B).1 ((ok_fits T B hw hh).1 (Bool.and_eq_true _ _ ▸ hp : b.ok t = true ∧ _).1)
    have hT := T.b
    obtain ⟨A', c', M2, p, S3, F2⟩ := S2.app (b := b) (by omega)
    refine ty rfl (cF rfl (cF rfl (w4_10 (cF rfl (cF rfl (ad rfl (on23 (bkAt (F _ _ Wb bb)) (me p (ty rfl ?_)))))))))
    have bb2 := F2 _ _ Wb (F _ _ Wb bb)
    have tl2 := F2 _ _ Wt (F _ _ Wt tl)
    have oa2 := F2 _ _ Wo (F _ _ Wo oa)
    refine e4_13 B (by omega) ne h 0 (by omega) (S3.w _ Wo).1 bb2 tl2 oa2 fun N' C a' => w12 ?_
    have S4 := S3.chg C fun i q => .inl (by rw [q]; exact Wo)
    have O' := O.put T B hw hh hok hp
    have ll : (L ++ [b]).length = L.length + 1 := by simp
    rw [← ll]
    exact next N' (L ++ [b]) A' c' _ (by omega) S4 (at_chg tl2 C ne.2.symm) a' O'
end
end Go.Zt
