/- Layer 17: two grids side by side; GridNear's loops. -/
import Derived.Test.YtamlmpeiamkllaaZpU
import Derived.Test.YtamlmpeiamkllaaZpR
import Derived.Test.YtamlmpeiamkllaaZpK
set_option linter.unusedSimpArgs false
set_option linter.unusedVariables false
set_option maxRecDepth 100000
namespace Go.Zt
open Go Go.Sim Go.Proofs Go.RowKit

def Bk.mv (b : Bk) (x y : Int) : Bk := { b with x := x, y := y, w := 8, h := 8 }
abbrev t64 : Tl := ⟨0, 0, 64, 64⟩
def ow (V : Nat → Prop) (j m : Nat) : Nat → Prop := fun i => V i ∨ i = j ∨ i = m
/-- Two grids apart. -/
structure Two (W : Nat → Prop) (M : Mem) (j1 m1 : Nat) (L1 : List Bk) (j2 m2 : Nat) (L2 : List Bk) : Prop where
  hf : M.floor ≤ M.nb.size
  w : ∀ i, W i → M.floor ≤ i ∧ i < M.nb.size
  ex : ∃ V1 V2, Gr V1 M j1 m1 t64 L1 ∧ Gr V2 M j2 m2 t64 L2 ∧ (∀ i, ow V1 j1 m1 i → M.floor ≤ i ∧ i < M.nb.size ∧ ¬ W i ∧ ¬ ow V2 j2 m2 i) ∧ (∀ i, ow V2 j2 m2 i → M.floor ≤ i ∧ i < M.nb.size ∧ ¬ W i ∧ ¬ ow V1 j1 m1 i)
def Fr (W : Nat → Prop) (M N : Mem) : Prop := ∀ k c, W k → M.nb[k]? = some c → N.nb[k]? = some c
theorem Fr.trans {W : Nat → Prop} {A B C : Mem} (h : Fr W A B) (k : Fr W B C) : Fr W A C := fun i c w a => k i c w (h i c w a)
theorem Fr.keep {W : Nat → Prop} {A B : Mem} (K : Keep A B) : Fr W A B := fun _ _ _ a => at_keep a K
section
variable {W W' T : Nat → Prop} {M N : Mem} {j1 m1 j2 m2 : Nat} {L1 L2 L' : List Bk} {b : Bk}
theorem Two.symm (h : Two W M j1 m1 L1 j2 m2 L2) : Two W M j2 m2 L2 j1 m1 L1 := by
  obtain ⟨V1, V2, g1, g2, h1, h2⟩ := h.ex
  exact ⟨h.hf, h.w, V2, V1, g2, g1, h2, h1⟩
theorem Two.less (h : Two W M j1 m1 L1 j2 m2 L2) (hW : ∀ i, W' i → W i) : Two W' M j1 m1 L1 j2 m2 L2 := by
  obtain ⟨V1, V2, g1, g2, h1, h2⟩ := h.ex
  exact ⟨h.hf, fun i hi => h.w i (hW i hi), V1, V2, g1, g2, fun i hi => ⟨(h1 i hi).1, (h1 i hi).2.1, fun q => (h1 i hi).2.2.1 (hW i q), (h1 i hi).2.2.2⟩, fun i hi => ⟨(h2 i hi).1, (h2 i hi).2.1, fun q => (h2 i hi).2.2.1 (hW i q), (h2 i hi).2.2.2⟩⟩
theorem Two.chg (h : Two W M j1 m1 L1 j2 m2 L2) (C : Chg T M N) (hT : ∀ i, T i → W i ∨ M.nb.size ≤ i) : Two W N j1 m1 L1 j2 m2 L2 := by
  obtain ⟨V1, V2, g1, g2, h1, h2⟩ := h.ex
  have s := C.size
  refine ⟨by rw [C.floor]; have := h.hf; omega, fun i hi => ⟨by rw [C.floor]; exact (h.w i hi).1, by have := (h.w i hi).2; omega⟩, V1, V2, g1.chg C fun i hi ho t => ?_, g2.chg C fun i hi ho t => ?_, fun i hi => ?_, fun i hi => ?_⟩
  · rcases hT i t with q | q
    · exact (h1 i ho).2.2.1 q
    · omega
  · rcases hT i t with q | q
    · exact (h2 i ho).2.2.1 q
    · omega
  · obtain ⟨a, b, c⟩ := h1 i hi; exact ⟨by rw [C.floor]; exact a, by omega, c⟩
  · obtain ⟨a, b, c⟩ := h2 i hi; exact ⟨by rw [C.floor]; exact a, by omega, c⟩
theorem Two.grow (h : Two W M j1 m1 L1 j2 m2 L2) (K : Keep M N) : Two (fun i => W i ∨ (M.nb.size ≤ i ∧ i < N.nb.size)) N j1 m1 L1 j2 m2 L2 := by
  have h' := h.chg K fun i q => q.elim
  obtain ⟨V1, V2, g1, g2, h1, h2⟩ := h.ex
  have hf := h.hf
  have s := K.size
  refine ⟨h'.hf, fun i hi => ?_, V1, V2, g1.keep K, g2.keep K, fun i hi => ?_, fun i hi => ?_⟩
  · rcases hi with q | q
    · exact h'.w i q
    · exact ⟨by rw [K.floor]; omega, q.2⟩
  · obtain ⟨a, b, c, d⟩ := h1 i hi; exact ⟨by rw [K.floor]; exact a, by omega, fun q => q.elim c (by omega), d⟩
  · obtain ⟨a, b, c, d⟩ := h2 i hi; exact ⟨by rw [K.floor]; exact a, by omega, fun q => q.elim c (by omega), d⟩
theorem Two.put1 (h : Two W M j1 m1 L1 j2 m2 L2) (hr : i64R b.x ∧ i64R b.y ∧ i64R b.w ∧ i64R b.h) (hL : L1.length < 1000) (hp : putS t64 L1 b = (0, L')) :
    Cn Try.prog 9 #[PtrB j1, .agg b.cs] M fun v N => v = .int .i64 0 ∧ Two W N j1 m1 L' j2 m2 L2 ∧ Fr W M N := by
  obtain ⟨V1, V2, g1, g2, h1, h2⟩ := h.ex
  refine Cn.mono (c9 h.hf (fun i hi => ⟨(h1 i hi).1, (h1 i hi).2.1⟩) hL g1 hr) ?_
  rintro v N ⟨rfl, V', hV, C, G⟩
  rw [hp] at G ⊢
  have s := C.size
  have hf := h.hf
  have hV' : ∀ i, ow V' j1 m1 i → ow V1 j1 m1 i ∨ (M.nb.size ≤ i ∧ i < N.nb.size) := by
    rintro i (q | q)
    · rcases hV i q with q | q
      · exact .inl (.inl q)
      · exact .inr q
    · exact .inl (.inr q)
  refine ⟨rfl, ⟨by rw [C.floor]; omega, fun i hi => ⟨by rw [C.floor]; exact (h.w i hi).1, by have := (h.w i hi).2; omega⟩, V', V2, G, g2.chg C fun i hi ho t => (h2 i ho).2.2.2 t, fun i hi => ?_, fun i hi => ?_⟩, fun k c w a => at_chg a C fun t => (h1 k t).2.2.1 w⟩
  · rcases hV' i hi with q | q
    · obtain ⟨a, b, c⟩ := h1 i q; exact ⟨by rw [C.floor]; exact a, by omega, c⟩
    · exact ⟨by rw [C.floor]; omega, q.2, fun w => by have := (h.w i w).2; omega, fun o => by have := (h2 i o).2.1; omega⟩
  · obtain ⟨a, b, c, d⟩ := h2 i hi
    refine ⟨by rw [C.floor]; exact a, by omega, c, fun o => ?_⟩
    rcases hV' i o with q | q
    · exact d q
    · omega
theorem Two.put2 (h : Two W M j1 m1 L1 j2 m2 L2) (hr : i64R b.x ∧ i64R b.y ∧ i64R b.w ∧ i64R b.h) (hL : L2.length < 1000) (hp : putS t64 L2 b = (0, L')) :
    Cn Try.prog 9 #[PtrB j2, .agg b.cs] M fun v N => v = .int .i64 0 ∧ Two W N j1 m1 L1 j2 m2 L' ∧ Fr W M N :=
  Cn.mono (h.symm.put1 hr hL hp) fun v N ⟨a, b, c⟩ => ⟨a, b.symm, c⟩
end
theorem row_at {M : Mem} {j : Nat} {l : List Value} {t : TypeId} (a : M.nb[j]? = some (.cells l.toArray t)) : Row M (some ⟨2 * j, 0, none⟩) l :=
  (show Own (fun _ => True) M t (some ⟨2 * j, 0, none⟩) l.length l from .inr ⟨j, _, none, rfl, .inl rfl, trivial, a, by simp, Nat.le_refl _, by simp⟩).row
theorem ixld {M : Mem} {A : Option Addr} {L : List Bk} (hR : Row M A (Bks L)) {n i : Nat} {z : Int} {b : Bk} (hz : z = (i : Int)) (hn : i < n) (hb : L[i]? = some b) {tys : List Sc} {p : List Value → Prop} (hf : fitL tys b.cs.toList = true) (k : p b.cs.toList) :
    ixS (idxA A n 23 z) fun a => ldP tys M a.block a.off p := by
  obtain ⟨hi, rfl⟩ := List.getElem?_eq_some_iff.1 hb
  obtain ⟨a, e1, e2⟩ := Bks.elt hR hz hn hi hf k
  exact ix e1 e2
theorem cA2 {c z : Bool} {X : Prop} (F : Bool → Prop) (b : Bool) (h : F (c && b)) (k : F b → X) : cnd c X (F false) := by
  cases c
  · exact h
  · exact k h
def Wn (n0 n1 nx ny : Nat) : Nat → Prop := fun i => i = n0 ∨ i = n1 ∨ i = nx ∨ i = ny
section
variable {M : Mem} {Q : Value → Mem → Prop} {j1 m1 j2 m2 n0 n1 nx ny : Nat} {L : List Bk} {nr : List Bk} {x2 : Bool}
abbrev PA (j : Nat) : Option Addr := some ⟨2 * j, 0, none⟩
set_option maxHeartbeats 1000000 in
theorem e3_2 {i sk it : Nat} {b : Bk} {px py : Int} (hi : i < 4) (hb : nr[i]? = some b) (hx : ∀ n, idxA (PA n) 4 1 (i : Int) = some ⟨2 * n, i, none⟩)
    (cx : (#[.int .i64 16, .int .i64 24, .int .i64 32, .int .i64 16] : Array Value)[i]? = some (.int .i64 px)) (cy : (#[.int .i64 24, .int .i64 16, .int .i64 16, .int .i64 16] : Array Value)[i]? = some (.int .i64 py))
    (hL : L.length < 1000) (hput : putS t64 L (b.mv px py) = (0, L ++ [b.mv px py])) (hr : i64R px ∧ i64R py) (h : Two (Wn n0 n1 nx ny) M j1 m1 L j2 m2 L)
    (a0 : M.nb[n0]? = some (.cells (Bks nr).toArray 28)) (ax : M.nb[nx]? = some (.cells #[.int .i64 16, .int .i64 24, .int .i64 32, .int .i64 16] 36)) (ay : M.nb[ny]? = some (.cells #[.int .i64 24, .int .i64 16, .int .i64 16, .int .i64 16] 36))
    (hs : sk ≤ i) (ht : it ≤ i)
    (next : ∀ N, Two (Wn n0 n1 nx ny) N j1 m1 (L ++ [b.mv px py]) j2 m2 (L ++ [b.mv px py]) → Fr (Wn n0 n1 nx ny) M N →
      A3_2 x2 (PA n0) (PA n1) (PA j1) (PA j2) (PA nx) (PA ny) ((sk + (decide ((i : Int) < 2) && b.sk).toNat : Nat) : Int) ((it + (decide ((i : Int) < 2) && b.it).toNat : Nat) : Int) ((i + 1 : Nat) : Int) N Q) :
    A3_2 x2 (PA n0) (PA n1) (PA j1) (PA j2) (PA nx) (PA ny) (sk : Int) (it : Int) (i : Int) M Q := by
  have lx := lt_of_at ax
  have ly := lt_of_at ay
  refine w3_2 (cT (decide_eq_true (by omega)) (ixld (row_at a0) rfl hi hb rfl (stN (cs := b.cs) h.hf rfl rfl rfl fun M1 K1 z1 b1 => ?_)))
  refine ix (hx nx) (on (int_of (i := i) (at_keep ax K1) cx) ?_)
  have hf := h.hf
  have f1 : M1.floor ≤ M.nb.size := by rw [K1.floor]; exact hf
  obtain ⟨M2, p2, C2, z2, b2⟩ := put1 0 (.int .i64 px) b1 f1 (show 0 < 23 by decide) rfl
  refine pt p2 (ix (hx ny) (on (int_of (i := i) (at_chg (at_keep ay K1) C2 (by omega)) cy) ?_))
  obtain ⟨M3, p3, C3, z3, b3⟩ := put1 (0 + 1) (.int .i64 py) b2 (by rw [C2.floor]; exact f1) (show 1 < 23 by decide) rfl
  refine pt p3 ?_
  obtain ⟨M4, p4, C4, z4, b4⟩ := put1 (0 + 2) (.int .i64 8) b3 (by rw [C3.floor, C2.floor]; exact f1) (show 2 < 23 by decide) rfl
  refine pt p4 ?_
  obtain ⟨M5, p5, C5, z5, b5⟩ := put1 (0 + 3) (.int .i64 8) b4 (by rw [C4.floor, C3.floor, C2.floor]; exact f1) (show 3 < 23 by decide) rfl
  refine pt p5 ?_
  have b5 : M5.nb[M.nb.size]? = some (.cells (b.mv px py).cs 27) := b5
  have K5 : Keep M M5 := Keep.step K1 (((C2.trans C3).trans C4).trans C5) fun i hi => by omega
  have h5 := h.grow K5
  have hr' : i64R (b.mv px py).x ∧ i64R (b.mv px py).y ∧ i64R (b.mv px py).w ∧ i64R (b.mv px py).h := ⟨hr.1, hr.2, by show i64R 8; unfold i64R; omega, by show i64R 8; unfold i64R; omega⟩
  have w8 : (fun i => Wn n0 n1 nx ny i ∨ (M.nb.size ≤ i ∧ i < M5.nb.size)) M.nb.size := .inr ⟨Nat.le_refl _, lt_of_at b5⟩
  refine ldA b5 rfl (Cn.mono (h5.put1 hr' hL hput) ?_)
  rintro _ N1 ⟨rfl, h6, f6⟩
  have b6 := f6 _ _ w8 b5
  refine ty rfl (cF rfl (ldA b6 rfl (Cn.mono (h6.put2 hr' hL hput) ?_)))
  rintro _ N2 ⟨rfl, h7, f7⟩
  have b7 := f7 _ _ w8 b6
  have hn := next N2 (h7.less fun i hi => .inl hi) fun k c w a => f7 k c (.inl w) (f6 k c (.inl w) (at_keep a K5))
  refine ty rfl (w3_3 (cF rfl ?_))
  refine cA2 (z := true) (fun z => A3_5 x2 (PA n0) (PA n1) (PA j1) (PA j2) (PA nx) (PA ny) (sk : Int) (it : Int) (i : Int) (PA M.nb.size) z N2 Q) b.sk ?_ (fun h => ad rfl (on (bool_of (i := 0 + 4) b7 rfl) h))
  generalize (decide ((i : Int) < 2) && b.sk) = z1 at hn ⊢
  have e7 : ∀ (s : Int) (z2 : Bool), A3_2 x2 (PA n0) (PA n1) (PA j1) (PA j2) (PA nx) (PA ny) s ((it + z2.toNat : Nat) : Int) ((i + 1 : Nat) : Int) N2 Q → A3_7 x2 (PA n0) (PA n1) (PA j1) (PA j2) (PA nx) (PA ny) s (it : Int) (i : Int) z2 N2 Q := by
    intro s z2 h
    refine w3_7 ?_
    cases z2 with
    | true =>
      refine cT rfl (w3_10 ?_)
      rw [i64w (x := (it : Int) + 1) (by omega), i64w (x := (i : Int) + 1) (by omega)]
      exact h
    | false =>
      refine cF rfl (w3_10 ?_)
      rw [i64w (x := (i : Int) + 1) (by omega)]
      exact h
  refine w3_5 ?_
  cases z1 with
  | true =>
    refine cT rfl (cA2 (z := true) (fun z => A3_7 x2 (PA n0) (PA n1) (PA j1) (PA j2) (PA nx) (PA ny) (IntKind.i64.wrap ((sk : Int) + 1)) (it : Int) (i : Int) z N2 Q) b.it (e7 _ _ ?_) (fun h => ad rfl (on (bool_of (i := 0 + 5) b7 rfl) h)))
    rw [i64w (x := (sk : Int) + 1) (by omega)]
    exact hn
  | false =>
    exact cF rfl (cA2 (z := true) (fun z => A3_7 x2 (PA n0) (PA n1) (PA j1) (PA j2) (PA nx) (PA ny) (sk : Int) (it : Int) (i : Int) z N2 Q) b.it (e7 _ _ hn) (fun h => ad rfl (on (bool_of (i := 0 + 5) b7 rfl) h)))
end
end Go.Zt
