/- Layer 20: the program's coding of strengths that are read; of fields. -/
import Derived.Test.YtgepgbblmodagaaZlU
set_option linter.unusedSimpArgs false
set_option linter.unusedVariables false
set_option maxRecDepth 100000
namespace Go.Zt
open Go Go.Sim Go.Proofs Go.RowKit
theorem Sgs_set : ∀ (X : List Sg) (i : Nat) (h : i < X.length) (o : Nat) (ho : o < 4) (x' : Sg) (v : Value), x'.cells = (X[i]).cells.set o v → (Sgs X).set (i * 4 + o) v = Sgs (X.set i x')
  | [], i, h, _, _, _, _, _ => by simp at h
  | x :: X, 0, h, o, ho, x', v, e => by
    simp only [Sgs, List.flatMap_cons, Nat.zero_mul, Nat.zero_add, List.set_cons_zero]
    rw [List.set_append_left _ _ (by simpa using ho), e]; rfl
  | x :: X, i + 1, h, o, ho, x', v, e => by
    simp only [Sgs, List.flatMap_cons, List.set_cons_succ]
    rw [List.set_append_right _ _ (by simp; omega)]
    congr 1
    rw [show (i + 1) * 4 + o - (x.cells).length = i * 4 + o by simp; omega]
    exact Sgs_set X i (by simpa using h) o ho x' v e
section
variable {U : Nat → Prop} {M N : Mem} {jc jd jh jx k e : Nat} {d : Dv} {h : Hd} {X : List Sg}
theorem Sgs_arr {i o : Nat} (hi : i < X.length) (ho : o < 4) : (Sgs X).toArray[i * 4 + o]? = (X[i]).cells[o]? := by
  rw [List.getElem?_toArray]; exact Sgs_at hi o ho
theorem Sgs_aset {i o : Nat} (hi : i < X.length) (ho : o < 4) {x' : Sg} {v : Value} (e : x'.cells = (X[i]).cells.set o v) : (Sgs X).toArray.setIfInBounds (i * 4 + o) v = (Sgs (X.set i x')).toArray := by
  rw [List.setIfInBounds_toArray, Sgs_set X i hi o ho x' v e]
theorem one4 {Q : Mem → Prop} {i : Nat} (hi : i < X.length) (S : St U M jc jd d e (k + 4)) (a : M.nb[jx]? = some (.cells (Sgs X).toArray 96)) (hf : M.floor ≤ jx) (n1 : jx ≠ jd) (n2 : jx ≠ jc) (n3 : ¬ U jx)
    (K : ∀ U' N, Ext (fun i => i = jc ∨ i = jd ∨ i = jx) U M U' N → St U' N jc jd (sg1 d e X[i]).1 (sg1 d e X[i]).2.1 k → N.nb[jx]? = some (.cells (Sgs (X.set i (sg1 d e X[i]).2.2)).toArray 96) → ¬ U' jx → Q N) :
    Cn Try.prog 74 #[PtrB jc, .pointer (some ⟨2 * jx, i * 4 + 0, none⟩), .int .i64 4, .int .i64 0] M fun _ N1 => Cn Try.prog 74 #[PtrB jc, .pointer (some ⟨2 * jx, i * 4 + 1, none⟩), .int .i64 2, .int .i64 0] N1 fun _ N2 =>
      Cn Try.prog 74 #[PtrB jc, .pointer (some ⟨2 * jx, i * 4 + 2, none⟩), .int .i64 4, .int .i64 0] N2 fun _ N3 => Cn Try.prog 74 #[PtrB jc, .pointer (some ⟨2 * jx, i * 4 + 3, none⟩), .int .i64 2, .int .i64 0] N3 fun _ N4 => Q N4 := by
  have hl : ∀ (Y : List Sg) (x : Sg), Y.length = X.length → i < (Y.set i x).length := fun Y x hY => by simp [hY]; exact hi
  have get : ∀ (Y : List Sg) (x : Sg) (hY : i < (Y.set i x).length), (Y.set i x)[i] = x := fun Y x hY => by simp
  refine Cn.mono (c74 S a hf n1 n2 n3 (o := i * 4 + 0) (v := X[i].a) (by rw [Sgs_arr hi (by decide)]; rfl) (by decide) (by decide)) ?_
  rintro _ N1 ⟨_, U1, E1, S1, a1, nu1⟩
  rw [Sgs_aset (x' := ⟨(numD d e X[i].a 4 0).2.2, X[i].b, X[i].c, X[i].d⟩) hi (by decide) rfl] at a1
  generalize hx1 : (⟨(numD d e X[i].a 4 0).2.2, X[i].b, X[i].c, X[i].d⟩ : Sg) = x1 at a1
  have f1 : N1.floor ≤ jx := by rw [E1.chg.floor]; exact hf
  have i1 := hl X x1 rfl
  refine Cn.mono (c74 S1 a1 f1 n1 n2 nu1 (o := i * 4 + 1) (v := X[i].b) (by rw [Sgs_arr i1 (by decide), get, ← hx1]; rfl) (by decide) (by decide)) ?_
  rintro _ N2 ⟨_, U2, E2, S2, a2, nu2⟩
  rw [Sgs_aset (x' := ⟨x1.a, (numD (numD d e X[i].a 4 0).1 (numD d e X[i].a 4 0).2.1 X[i].b 2 0).2.2, X[i].c, X[i].d⟩) i1 (by decide) (by rw [get, ← hx1]; rfl), List.set_set] at a2
  generalize hx2 : (⟨x1.a, (numD (numD d e X[i].a 4 0).1 (numD d e X[i].a 4 0).2.1 X[i].b 2 0).2.2, X[i].c, X[i].d⟩ : Sg) = x2 at a2
  have f2 : N2.floor ≤ jx := by rw [E2.chg.floor]; exact f1
  have i2 := hl X x2 rfl
  refine Cn.mono (c74 S2 a2 f2 n1 n2 nu2 (o := i * 4 + 2) (v := X[i].c) (by rw [Sgs_arr i2 (by decide), get, ← hx2]; rfl) (by decide) (by decide)) ?_
  rintro _ N3 ⟨_, U3, E3, S3, a3, nu3⟩
  generalize hr2 : numD (numD d e X[i].a 4 0).1 (numD d e X[i].a 4 0).2.1 X[i].b 2 0 = r2 at *
  rw [Sgs_aset (x' := ⟨x1.a, x2.b, (numD r2.1 r2.2.1 X[i].c 4 0).2.2, X[i].d⟩) i2 (by decide) (by rw [get, ← hx2]; rfl), List.set_set] at a3
  generalize hx3 : (⟨x1.a, x2.b, (numD r2.1 r2.2.1 X[i].c 4 0).2.2, X[i].d⟩ : Sg) = x3 at a3
  have f3 : N3.floor ≤ jx := by rw [E3.chg.floor]; exact f2
  have i3 := hl X x3 rfl
  refine Cn.mono (c74 S3 a3 f3 n1 n2 nu3 (o := i * 4 + 3) (v := X[i].d) (by rw [Sgs_arr i3 (by decide), get, ← hx3]; rfl) (by decide) (by decide)) ?_
  rintro _ N4 ⟨_, U4, E4, S4, a4, nu4⟩
  generalize hr3 : numD r2.1 r2.2.1 X[i].c 4 0 = r3 at *
  rw [Sgs_aset (x' := ⟨x1.a, x2.b, x3.c, (numD r3.1 r3.2.1 X[i].d 2 0).2.2⟩) i3 (by decide) (by rw [get, ← hx3]; rfl), List.set_set] at a4
  have e1 : sg1 d e X[i] = ((numD r3.1 r3.2.1 X[i].d 2 0).1, (numD r3.1 r3.2.1 X[i].d 2 0).2.1, ⟨x1.a, x2.b, x3.c, (numD r3.1 r3.2.1 X[i].d 2 0).2.2⟩) := by
    subst hx3 hx2 hx1
    unfold sg1
    simp only [hr2, hr3]
  refine K U4 N4 (((E1.trans E2).trans E3).trans E4) ?_ ?_ nu4
  · rw [e1]; exact S4
  · rw [e1]; exact a4
theorem e78_5r {Q : Value → Mem → Prop} (nh : jh ≠ jc ∧ jh ≠ jd) (nx : jx ≠ jd ∧ jx ≠ jc ∧ jx ≠ jh) (hA : h.A = some ⟨2 * jx, 0, none⟩) (hb : h.n ≤ 1048576) : ∀ (q i : Nat) {U : Nat → Prop} {M : Mem} {d : Dv} {e : Nat} {X : List Sg} (k : Nat), i + q = h.n → h.n = X.length → St U M jc jd d e (k + 4 * q) → ¬ U jh → ¬ U jx →
    M.nb[jh]? = some (.cells h.cs 41) → M.nb[jx]? = some (.cells (Sgs X).toArray 96) → M.floor ≤ jx →
    (∀ U' N X', X' = X.take i ++ (sgsD d e (X.drop i)).2.2 → Ext (fun i => i = jc ∨ i = jd ∨ i = jx) U M U' N → St U' N jc jd (sgsD d e (X.drop i)).1 (sgsD d e (X.drop i)).2.1 k → ¬ U' jh → ¬ U' jx → N.nb[jh]? = some (.cells h.cs 41) → N.nb[jx]? = some (.cells (Sgs X').toArray 96) → h.n = X'.length →
      A78_4 (some ⟨2 * jc, 0, none⟩) (some ⟨2 * jh, 0, none⟩) 0 N Q) →
    A78_5 (some ⟨2 * jc, 0, none⟩) (some ⟨2 * jh, 0, none⟩) (h.n : Int) (i : Int) M Q
  | 0, i, U, M, d, e, X, k, hi, hn, S, nU, nX, a, ax, hf, hQ => by
    have e1 : X.drop i = [] := List.drop_of_length_le (by omega)
    rw [e1] at hQ
    exact w78_5 (cF (decide_eq_false (by omega)) (hQ U M X (by rw [List.take_of_length_le (by omega)]; simp [sgsD]) .refl S nU nX a ax hn))
  | q + 1, i, U, M, d, e, X, k, hi, hn, S, nU, nX, a, ax, hf, hQ => by
    have hlt : i < X.length := by omega
    have g0 : idxA h.A h.n 4 (i : Int) = some ⟨2 * jx, 0 + i * 4, none⟩ := by
      unfold idxA; rw [if_pos ⟨by omega, by omega⟩, hA]; rfl
    refine w78_5 (cT (decide_eq_true (by omega)) (ad rfl (on (sl_of a rfl) (ix g0 ?_))))
    have key := one4 (Q := fun N => A78_5 (some ⟨2 * jc, 0, none⟩) (some ⟨2 * jh, 0, none⟩) (h.n : Int) (IntKind.i64.wrap ((i : Int) + 1)) N Q) (k := k + 4 * q) hlt (by rw [show k + 4 * q + 4 = k + 4 * (q + 1) by omega]; exact S) ax hf nx.1 nx.2.1 nX fun U' N E S' ax' nX' => by
      have ah := E.at a nU fun hh => by omega
      rw [i64w (by omega)]
      refine e78_5r (X := X.set i (sg1 d e X[i]).2.2) nh nx hA hb q (i + 1) k (by omega) (by simp; exact hn) S' ah.2 nX' ah.1 ax' (by rw [E.chg.floor]; exact hf) fun U2 N2 X2 hX2 E2 S2 nU2 nX2 ah2 ax2 hn2 => ?_
      have e1 : (X.set i (sg1 d e X[i]).2.2).drop (i + 1) = X.drop (i + 1) := List.drop_set_of_lt (by omega)
      rw [e1] at hX2 S2
      have e2 : X.drop i = X[i] :: X.drop (i + 1) := List.drop_eq_getElem_cons hlt
      rw [e2] at hQ
      refine hQ U2 N2 X2 ?_ (E.trans E2) S2 nU2 nX2 ah2 ax2 hn2
      rw [hX2, List.take_succ_eq_append_getElem (by simp; exact hlt)]
      simp [sgsD, List.take_set_of_le]
    rw [Nat.zero_add]
    exact key
abbrev Cd := Dv × Nat × Hd
def nF (c : Cd) (v : Int) (s : Int → Hd) (n f : Int) : Cd := ((numD c.1 c.2.1 v n f).1, (numD c.1 c.2.1 v n f).2.1, s (numD c.1 c.2.1 v n f).2.2)
def fF (c : Cd) (v : Bool) (s : Bool → Hd) : Cd := ((flagD c.1 c.2.1 v).1, (flagD c.1 c.2.1 v).2.1, s (flagD c.1 c.2.1 v).2.2)
def dF' (c : Cd) (v : Int) (s : Int → Hd) : Cd := ((deltaD c.1 c.2.1 v).1, (deltaD c.1 c.2.1 v).2.1, s (deltaD c.1 c.2.1 v).2.2)
def gF (c : Cd) (v : Int) (s : Int → Hd) (z : Int) : Cd := ((logD c.1 c.2.1 v z).1, (logD c.1 c.2.1 v z).2.1, s (logD c.1 c.2.1 v z).2.2)
structure Hm (U : Nat → Prop) (M : Mem) (jc jd jh : Nat) (c : Cd) (k : Nat) : Prop where
  st : St U M jc jd c.1 c.2.1 k
  hd : M.nb[jh]? = some (.cells c.2.2.cs 41)
  nu : ¬ U jh
  n1 : jh ≠ jd
  n2 : jh ≠ jc
  fl : M.floor ≤ jh
abbrev Pj (jc jd jh : Nat) : Nat → Prop := fun i => i = jc ∨ i = jd ∨ i = jh
section
variable {U0 : Nat → Prop} {M0 : Mem} {c : Cd} {o : Nat} {Q : Mem → Prop}
theorem nK (E : Ext (Pj jc jd jh) U0 M0 U M) (H : Hm U M jc jd jh c (k + 1)) {v n f : Int} (hv : c.2.2.cs[o]? = some (.int .i64 v)) (hn : n ≤ 32) (hf : 0 ≤ f ∧ f ≤ 3) (s : Int → Hd) (hs : ∀ x, (s x).cs = c.2.2.cs.setIfInBounds o (.int .i64 x))
    (K : ∀ U' N c', c' = nF c v s n f → Ext (Pj jc jd jh) U0 M0 U' N → Hm U' N jc jd jh c' k → Q N) : Cn Try.prog 74 #[PtrB jc, .pointer (some ⟨2 * jh, o, none⟩), .int .i64 n, .int .i64 f] M fun _ N => Q N := by
  refine Cn.mono (c74 H.st H.hd H.fl H.n1 H.n2 H.nu hv hn hf) ?_
  rintro _ N ⟨_, U', E', S', a', nu'⟩
  refine K U' N _ rfl (E.trans E') ⟨S', ?_, nu', H.n1, H.n2, by rw [E'.chg.floor]; exact H.fl⟩
  rw [a']; exact congrArg (fun x => some (Blk.cells x 41)) (hs _).symm
theorem fK (E : Ext (Pj jc jd jh) U0 M0 U M) (H : Hm U M jc jd jh c (k + 1)) {v : Bool} (hv : c.2.2.cs[o]? = some (.bool v)) (s : Bool → Hd) (hs : ∀ x, (s x).cs = c.2.2.cs.setIfInBounds o (.bool x))
    (K : ∀ U' N c', c' = fF c v s → Ext (Pj jc jd jh) U0 M0 U' N → Hm U' N jc jd jh c' k → Q N) : Cn Try.prog 73 #[PtrB jc, .pointer (some ⟨2 * jh, o, none⟩)] M fun _ N => Q N := by
  refine Cn.mono (c73 H.st H.hd H.fl H.n1 H.n2 H.nu hv) ?_
  rintro _ N ⟨_, U', E', S', a', nu'⟩
  refine K U' N _ rfl (E.trans E') ⟨S', ?_, nu', H.n1, H.n2, by rw [E'.chg.floor]; exact H.fl⟩
  rw [a']; exact congrArg (fun x => some (Blk.cells x 41)) (hs _).symm
theorem dK (E : Ext (Pj jc jd jh) U0 M0 U M) (H : Hm U M jc jd jh c (k + 2)) {v : Int} (hv : c.2.2.cs[o]? = some (.int .i64 v)) (s : Int → Hd) (hs : ∀ x, (s x).cs = c.2.2.cs.setIfInBounds o (.int .i64 x))
    (K : ∀ U' N c', c' = dF' c v s → Ext (Pj jc jd jh) U0 M0 U' N → Hm U' N jc jd jh c' k → Q N) : Cn Try.prog 75 #[PtrB jc, .pointer (some ⟨2 * jh, o, none⟩)] M fun _ N => Q N := by
  refine Cn.mono (c75 H.st H.hd H.fl H.n1 H.n2 H.nu hv) ?_
  rintro _ N ⟨_, U', E', S', a', nu'⟩
  refine K U' N _ rfl (E.trans E') ⟨S', ?_, nu', H.n1, H.n2, by rw [E'.chg.floor]; exact H.fl⟩
  rw [a']; exact congrArg (fun x => some (Blk.cells x 41)) (hs _).symm
theorem gK (E : Ext (Pj jc jd jh) U0 M0 U M) (H : Hm U M jc jd jh c (k + 1)) {v z : Int} (hz : 16 ≤ z ∧ z ≤ 256) (hv : c.2.2.cs[o]? = some (.int .i64 v)) (s : Int → Hd) (hs : ∀ x, (s x).cs = c.2.2.cs.setIfInBounds o (.int .i64 x))
    (K : ∀ U' N c', c' = gF c v s z → Ext (Pj jc jd jh) U0 M0 U' N → Hm U' N jc jd jh c' k → Q N) : Cn Try.prog 76 #[PtrB jc, .pointer (some ⟨2 * jh, o, none⟩), .int .i64 z] M fun _ N => Q N := by
  refine Cn.mono (c76 hz H.st H.hd H.fl H.n1 H.n2 H.nu hv) ?_
  rintro _ N ⟨_, U', E', S', a', nu'⟩
  refine K U' N _ rfl (E.trans E') ⟨S', ?_, nu', H.n1, H.n2, by rw [E'.chg.floor]; exact H.fl⟩
  rw [a']; exact congrArg (fun x => some (Blk.cells x 41)) (hs _).symm
end
end
end Go.Zt
