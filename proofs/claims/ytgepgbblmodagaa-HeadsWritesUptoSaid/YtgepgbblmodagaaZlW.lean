/- Layer 20: the program's coding of filters, whole. -/
import Derived.Test.YtgepgbblmodagaaZlV
set_option linter.unusedSimpArgs false
set_option linter.unusedVariables false
set_option maxRecDepth 100000
namespace Go.Zt
open Go Go.Sim Go.Proofs Go.RowKit
theorem sgsD_w : ∀ (X : List Sg) (l : List Nat) (e : Nat), (sgsD (.w l) e X).2.2 = X ∧ ∃ l', (sgsD (.w l) e X).1 = .w l'
  | [], l, e => ⟨rfl, l, rfl⟩
  | x :: X, l, e => by
    have nv : ∀ {l : List Nat} {e : Nat} {v n f : Int}, (numD (.w l) e v n f).2.2 = v := by
      intro l e v n f; unfold numD; split <;> rfl
    have s1 : (sg1 (.w l) e x).2.2 = x ∧ ∃ l', (sg1 (.w l) e x).1 = .w l' := by
      unfold sg1
      obtain ⟨l1, h1⟩ := (numD_kind (d := .w l) (e := e) (v := x.a) (n := 4) (f := 0)).1 _ rfl
      simp only [h1]
      obtain ⟨l2, h2⟩ := (numD_kind (d := .w l1) (e := (numD (.w l) e x.a 4 0).2.1) (v := x.b) (n := 2) (f := 0)).1 _ rfl
      simp only [h2]
      obtain ⟨l3, h3⟩ := (numD_kind (d := .w l2) (e := (numD (.w l1) (numD (.w l) e x.a 4 0).2.1 x.b 2 0).2.1) (v := x.c) (n := 4) (f := 0)).1 _ rfl
      simp only [h3, nv, true_and]
      exact numD_kind.1 _ rfl
    obtain ⟨g1, l1, g2⟩ := s1
    obtain ⟨q1, q2⟩ := sgsD_w X l1 (sg1 (.w l) e x).2.1
    simp only [sgsD, g2, g1, q1, true_and]
    exact q2
theorem numD_val {b : List Nat} {p e : Nat} {v n f : Int} (h0 : 0 ≤ n) (h : (numD (.r b p) e v n f).2.1 = 0) : ∃ x : Nat, x < 2 ^ n.toNat ∧ (numD (.r b p) e v n f).2.2 = (x : Int) + f := by
  by_cases he : e ≠ 0
  · unfold numD at h; rw [if_pos he] at h; exact absurd h he
  · obtain rfl : e = 0 := by omega
    have h1 : (rFixed b p n).2.1 = 0 := h
    refine ⟨(rFixed b p n).1, ?_, ?_⟩
    · have hp := Nat.two_pow_pos n.toNat
      unfold rFixed
      split
      · exact hp
      · split
        · exact hp
        · exact numb_lt (bitOf_lt b) p n.toNat
    · show (if (rFixed b p n).2.1 = 0 then _ else _) = _
      rw [if_pos h1]
theorem mk38_0 {M : Mem} : makeP Try.prog 38 (.int .i64 (1 * 2 ^ 0)) (.int .i64 (1 * 2 ^ 0)) M = some (.slice (some ⟨2 * M.nb.size, 0, none⟩) (2 ^ 0) (2 ^ 0), M.new (.cells (Sgs (List.replicate (2 ^ 0) ⟨0, 0, 0, 0⟩)).toArray 96)) := by kernel_rfl
theorem mk38_1 {M : Mem} : makeP Try.prog 38 (.int .i64 (1 * 2 ^ 1)) (.int .i64 (1 * 2 ^ 1)) M = some (.slice (some ⟨2 * M.nb.size, 0, none⟩) (2 ^ 1) (2 ^ 1), M.new (.cells (Sgs (List.replicate (2 ^ 1) ⟨0, 0, 0, 0⟩)).toArray 96)) := by kernel_rfl
theorem mk38_2 {M : Mem} : makeP Try.prog 38 (.int .i64 (1 * 2 ^ 2)) (.int .i64 (1 * 2 ^ 2)) M = some (.slice (some ⟨2 * M.nb.size, 0, none⟩) (2 ^ 2) (2 ^ 2), M.new (.cells (Sgs (List.replicate (2 ^ 2) ⟨0, 0, 0, 0⟩)).toArray 96)) := by kernel_rfl
theorem mk38_3 {M : Mem} : makeP Try.prog 38 (.int .i64 (1 * 2 ^ 3)) (.int .i64 (1 * 2 ^ 3)) M = some (.slice (some ⟨2 * M.nb.size, 0, none⟩) (2 ^ 3) (2 ^ 3), M.new (.cells (Sgs (List.replicate (2 ^ 3) ⟨0, 0, 0, 0⟩)).toArray 96)) := by kernel_rfl
theorem mk38 {M : Mem} (q : Nat) (hq : q ≤ 3) : makeP Try.prog 38 (.int .i64 (1 * 2 ^ q)) (.int .i64 (1 * 2 ^ q)) M = some (.slice (some ⟨2 * M.nb.size, 0, none⟩) (2 ^ q) (2 ^ q), M.new (.cells (Sgs (List.replicate (2 ^ q) ⟨0, 0, 0, 0⟩)).toArray 96)) := by
  have : q = 0 ∨ q = 1 ∨ q = 2 ∨ q = 3 := by omega
  rcases this with rfl | rfl | rfl | rfl
  · exact mk38_0
  · exact mk38_1
  · exact mk38_2
  · exact mk38_3
def StrT (c0 : Cd) (X0 : List Sg) (c : Cd) (X : List Sg) : Prop :=
  ∃ c1, c1 = nF c0 c0.2.2.da (fun x => { c0.2.2 with da := x }) 2 3 ∧ ∃ c2, c2 = nF c1 c1.2.2.cb (fun x => { c1.2.2 with cb := x }) 2 0 ∧
  ∃ c3 X3, (match c2.1 with
    | .w _ => c3 = c2 ∧ X3 = X0
    | .r _ _ => if c2.2.1 = 0 then (∃ A m, c3 = (c2.1, c2.2.1, { c2.2.2 with A := A, n := 2 ^ c2.2.2.cb.toNat, c := m })) ∧ X3 = List.replicate (2 ^ c2.2.2.cb.toNat) ⟨0, 0, 0, 0⟩ else c3 = c2 ∧ X3 = X0) ∧
  c = ((sgsD c3.1 c3.2.1 X3).1, (sgsD c3.1 c3.2.1 X3).2.1, c3.2.2) ∧ X = (sgsD c3.1 c3.2.1 X3).2.2
def FiltT (c0 : Cd) (X0 : List Sg) (c : Cd) (X : List Sg) : Prop :=
  ∃ c1, c1 = nF c0 c0.2.2.l0 (fun x => { c0.2.2 with l0 := x }) 6 0 ∧ ∃ c2, c2 = nF c1 c1.2.2.l1 (fun x => { c1.2.2 with l1 := x }) 6 0 ∧
  ∃ c3, c3 = nF c2 c2.2.2.l2 (fun x => { c2.2.2 with l2 := x }) 6 0 ∧ ∃ c4, c4 = nF c3 c3.2.2.l3 (fun x => { c3.2.2 with l3 := x }) 6 0 ∧
  ∃ c5, c5 = nF c4 c4.2.2.sp (fun x => { c4.2.2 with sp := x }) 3 0 ∧ ∃ c6, c6 = fF c5 c5.2.2.cd (fun x => { c5.2.2 with cd := x }) ∧
  ∃ c7, (if c6.2.2.cd = true ∧ c6.2.1 = 0 then StrT c6 X0 c7 X else c7 = c6 ∧ X = X0) ∧
  ∃ c8, c8 = fF c7 c7.2.2.x0 (fun x => { c7.2.2 with x0 := x }) ∧ ∃ c9, c9 = fF c8 c8.2.2.x1 (fun x => { c8.2.2 with x1 := x }) ∧ c = fF c9 c9.2.2.x2 (fun x => { c9.2.2 with x2 := x })
section
variable {U : Nat → Prop} {M N : Mem} {jc jd jh k : Nat} {c : Cd} {X : List Sg}
theorem dkind {d : Dv} : (∃ l, d = .w l) ∨ ∃ b p, d = .r b p := by cases d <;> simp
structure Xm (U : Nat → Prop) (M : Mem) (jc jd jh : Nat) (c : Cd) (X : List Sg) : Prop where
  n : c.2.2.n = X.length
  row : Row M c.2.2.A (Sgs X)
  far : Far U jc jd jh M c.2.2.A
theorem Xm.ext {U' : Nat → Prop} {c' : Cd} (h : Xm U M jc jd jh c X) (E : Ext (Pj jc jd jh) U M U' N) (e1 : c'.2.2.n = c.2.2.n) (e2 : c'.2.2.A = c.2.2.A) : Xm U' N jc jd jh c' X :=
  ⟨by rw [e1]; exact h.n, by rw [e2]; exact h.far.row h.row E fun _ h => h, by rw [e2]; exact h.far.ext E fun _ h => h⟩
theorem e78_4 {Q : Value → Mem → Prop} (H : Hm U M jc jd jh c (k + 3))
    (K : ∀ U' N c8 c9 c', c8 = fF c c.2.2.x0 (fun x => { c.2.2 with x0 := x }) → c9 = fF c8 c8.2.2.x1 (fun x => { c8.2.2 with x1 := x }) → c' = fF c9 c9.2.2.x2 (fun x => { c9.2.2 with x2 := x }) → Ext (Pj jc jd jh) U M U' N → Hm U' N jc jd jh c' k → Q (.tuple #[]) N) :
    A78_4 (some ⟨2 * jc, 0, none⟩) (some ⟨2 * jh, 0, none⟩) 0 M Q := by
  refine w78_4 (cT (by decide) (ad rfl (ix (x := ⟨2 * jh, 27, none⟩) (by kernel_rfl) (fK .refl H rfl (fun x => { c.2.2 with x0 := x }) (fun _ => rfl) fun U1 N1 c8 h8 E1 H1 => ?_))))
  refine w78_4 (cT (by decide) (ad rfl (ix (x := ⟨2 * jh, 28, none⟩) (by kernel_rfl) (fK E1 H1 rfl (fun x => { c8.2.2 with x1 := x }) (fun _ => rfl) fun U2 N2 c9 h9 E2 H2 => ?_))))
  refine w78_4 (cT (by decide) (ad rfl (ix (x := ⟨2 * jh, 29, none⟩) (by kernel_rfl) (fK E2 H2 rfl (fun x => { c9.2.2 with x2 := x }) (fun _ => rfl) fun U3 N3 c' h' E3 H3 => ?_))))
  exact w78_4 (cF (by decide) (K U3 N3 c8 c9 c' h8 h9 h' E3 H3))
set_option maxHeartbeats 1000000 in
theorem c78 (H : Hm U M jc jd jh c (k + 50)) (hX : Xm U M jc jd jh c X) (hb : X.length ≤ 8) (hr : ∀ b p, c.1 = .r b p → X = []) :
    Cn Try.prog 78 #[PtrB jc, PtrB jh] M fun u N => u = .tuple #[] ∧ ∃ U' c' X', FiltT c X c' X' ∧ Ext (Pj jc jd jh) U M U' N ∧ Hm U' N jc jd jh c' k ∧ Xm U' N jc jd jh c' X' ∧ ∀ a, c'.2.2.A = some a → c.2.2.A = some a ∨ M.nb.size ≤ a.block / 2 := by
  have hjd := H.st.dev.lt
  have hjc := lt_of_at H.st.cod
  have hjh := lt_of_at H.hd
  refine w78_0 ?_
  refine w78_1 (cT (by decide) (ad rfl (ix (x := ⟨2 * jh, 18, none⟩) (by kernel_rfl) (nK .refl H rfl (by decide) (by decide) (fun x => { c.2.2 with l0 := x }) (fun _ => rfl) fun U1 N1 c1 h1 E1 H1 => ?_))))
  refine w78_1 (cT (by decide) (ad rfl (ix (x := ⟨2 * jh, 19, none⟩) (by kernel_rfl) (nK E1 H1 rfl (by decide) (by decide) (fun x => { c1.2.2 with l1 := x }) (fun _ => rfl) fun U2 N2 c2 h2 E2 H2 => ?_))))
  refine w78_1 (cT (by decide) (ad rfl (ix (x := ⟨2 * jh, 20, none⟩) (by kernel_rfl) (nK E2 H2 rfl (by decide) (by decide) (fun x => { c2.2.2 with l2 := x }) (fun _ => rfl) fun U3 N3 c3 h3 E3 H3 => ?_))))
  refine w78_1 (cT (by decide) (ad rfl (ix (x := ⟨2 * jh, 21, none⟩) (by kernel_rfl) (nK E3 H3 rfl (by decide) (by decide) (fun x => { c3.2.2 with l3 := x }) (fun _ => rfl) fun U4 N4 c4 h4 E4 H4 => ?_))))
  refine w78_1 (cF (by decide) (ad rfl (nK E4 H4 rfl (by decide) (by decide) (fun x => { c4.2.2 with sp := x }) (fun _ => rfl) fun U5 N5 c5 h5 E5 H5 => ad rfl (fK E5 H5 rfl (fun x => { c5.2.2 with cd := x }) (fun _ => rfl) fun U6 N6 c6 h6 E6 H6 => ad rfl (on (bool_of H6.hd rfl) ?_)))))
  have g1 : c1.2.2.n = c.2.2.n ∧ c1.2.2.A = c.2.2.A := by rw [h1]; exact ⟨rfl, rfl⟩
  have g2 : c2.2.2.n = c1.2.2.n ∧ c2.2.2.A = c1.2.2.A := by rw [h2]; exact ⟨rfl, rfl⟩
  have g3 : c3.2.2.n = c2.2.2.n ∧ c3.2.2.A = c2.2.2.A := by rw [h3]; exact ⟨rfl, rfl⟩
  have g4 : c4.2.2.n = c3.2.2.n ∧ c4.2.2.A = c3.2.2.A := by rw [h4]; exact ⟨rfl, rfl⟩
  have g5 : c5.2.2.n = c4.2.2.n ∧ c5.2.2.A = c4.2.2.A := by rw [h5]; exact ⟨rfl, rfl⟩
  have g6 : c6.2.2.n = c5.2.2.n ∧ c6.2.2.A = c5.2.2.A := by rw [h6]; exact ⟨rfl, rfl⟩
  have n6 : c6.2.2.n = c.2.2.n := by rw [g6.1, g5.1, g4.1, g3.1, g2.1, g1.1]
  have A6 : c6.2.2.A = c.2.2.A := by rw [g6.2, g5.2, g4.2, g3.2, g2.2, g1.2]
  clear g1 g2 g3 g4 g5 g6
  have X6 := hX.ext E6 n6 A6
  have r6 : ∀ b p, c6.1 = .r b p → X = [] := by
    intro b p hc
    rcases dkind (d := c.1) with ⟨l, hl⟩ | ⟨b0, p0, hl⟩
    · exfalso
      obtain ⟨l1, k1⟩ := (numD_kind (e := c.2.1) (v := c.2.2.l0) (n := 6) (f := 0)).1 _ hl
      have g1 : c1.1 = .w l1 := by rw [h1]; exact k1
      obtain ⟨l2, k2⟩ := (numD_kind (e := c1.2.1) (v := c1.2.2.l1) (n := 6) (f := 0)).1 _ g1
      have g2 : c2.1 = .w l2 := by rw [h2]; exact k2
      obtain ⟨l3, k3⟩ := (numD_kind (e := c2.2.1) (v := c2.2.2.l2) (n := 6) (f := 0)).1 _ g2
      have g3 : c3.1 = .w l3 := by rw [h3]; exact k3
      obtain ⟨l4, k4⟩ := (numD_kind (e := c3.2.1) (v := c3.2.2.l3) (n := 6) (f := 0)).1 _ g3
      have g4 : c4.1 = .w l4 := by rw [h4]; exact k4
      obtain ⟨l5, k5⟩ := (numD_kind (e := c4.2.1) (v := c4.2.2.sp) (n := 3) (f := 0)).1 _ g4
      have g5 : c5.1 = .w l5 := by rw [h5]; exact k5
      obtain ⟨l6, k6⟩ := (numD_kind (e := c5.2.1) (v := if c5.2.2.cd then 1 else 0) (n := 1) (f := 0)).1 _ g5
      have g6 : c6.1 = .w l6 := by rw [h6]; exact k6
      rw [g6] at hc; cases hc
    · exact hr _ _ hl
  have fin : ∀ {U7 : Nat → Prop} {M7 : Mem} {c7 : Cd} {X7 : List Sg}, (if c6.2.2.cd = true ∧ c6.2.1 = 0 then StrT c6 X c7 X7 else c7 = c6 ∧ X7 = X) → Ext (Pj jc jd jh) U M U7 M7 → Hm U7 M7 jc jd jh c7 (k + 3) → Xm U7 M7 jc jd jh c7 X7 → (∀ a, c7.2.2.A = some a → c.2.2.A = some a ∨ M.nb.size ≤ a.block / 2) →
      A78_4 (some ⟨2 * jc, 0, none⟩) (some ⟨2 * jh, 0, none⟩) 0 M7 fun u N => u = .tuple #[] ∧ ∃ U' c' X', FiltT c X c' X' ∧ Ext (Pj jc jd jh) U M U' N ∧ Hm U' N jc jd jh c' k ∧ Xm U' N jc jd jh c' X' ∧ ∀ a, c'.2.2.A = some a → c.2.2.A = some a ∨ M.nb.size ≤ a.block / 2 := by
    intro U7 M7 c7 X7 hT E7 H7 hX7 hA
    refine e78_4 H7 fun U' N c8 c9 c' h8 h9 h' E' H' => ⟨rfl, U', c', X7, ⟨c1, h1, c2, h2, c3, h3, c4, h4, c5, h5, c6, h6, c7, hT, c8, h8, c9, h9, h'⟩, E7.trans E', H', hX7.ext E' ?_ ?_, ?_⟩
    · have q8 : c8.2.2.n = c7.2.2.n := by rw [h8]; rfl
      have q9 : c9.2.2.n = c8.2.2.n := by rw [h9]; rfl
      have q : c'.2.2.n = c9.2.2.n := by rw [h']; rfl
      rw [q, q9, q8]
    · have q8 : c8.2.2.A = c7.2.2.A := by rw [h8]; rfl
      have q9 : c9.2.2.A = c8.2.2.A := by rw [h9]; rfl
      have q : c'.2.2.A = c9.2.2.A := by rw [h']; rfl
      rw [q, q9, q8]
    · have q8 : c8.2.2.A = c7.2.2.A := by rw [h8]; rfl
      have q9 : c9.2.2.A = c8.2.2.A := by rw [h9]; rfl
      have q : c'.2.2.A = c9.2.2.A := by rw [h']; rfl
      rw [q, q9, q8]; exact hA
  have no : ¬ (c6.2.2.cd = true ∧ c6.2.1 = 0) → A78_2 (some ⟨2 * jc, 0, none⟩) (some ⟨2 * jh, 0, none⟩) false N6 fun u N => u = .tuple #[] ∧ ∃ U' c' X', FiltT c X c' X' ∧ Ext (Pj jc jd jh) U M U' N ∧ Hm U' N jc jd jh c' k ∧ Xm U' N jc jd jh c' X' ∧ ∀ a, c'.2.2.A = some a → c.2.2.A = some a ∨ M.nb.size ≤ a.block / 2 := fun hh =>
    w78_2 (cF rfl (fin (by rw [if_neg hh]; exact ⟨rfl, rfl⟩) E6 ⟨H6.st.mono (by omega), H6.hd, H6.nu, H6.n1, H6.n2, H6.fl⟩ X6 fun a ha => .inl (A6 ▸ ha)))
  refine cn (fun hcd => ad rfl (on (int_of H6.st.cod rfl) ?_)) fun hcd => no fun hh => by rw [hcd] at hh; cases hh.1
  by_cases he : ¬ c6.2.1 = 0
  · rw [show (((c6.2.1 : Nat) : Int) == 0) = false by simpa using he]
    exact no fun hh => he hh.2
  have he : c6.2.1 = 0 := by omega
  rw [show (((c6.2.1 : Nat) : Int) == 0) = true by rw [he]; rfl]
  have hT : ∀ {c7 : Cd} {X7 : List Sg}, StrT c6 X c7 X7 → (if c6.2.2.cd = true ∧ c6.2.1 = 0 then StrT c6 X c7 X7 else c7 = c6 ∧ X7 = X) := fun h => by rw [if_pos ⟨hcd, he⟩]; exact h
  refine w78_2 (cT rfl (ad rfl (nK E6 H6 rfl (by decide) (by decide) (fun x => { c6.2.2 with da := x }) (fun _ => rfl) fun Ua Na ca ha Ea Ha => ad rfl (nK Ea Ha rfl (by decide) (by decide) (fun x => { ca.2.2 with cb := x }) (fun _ => rfl) fun Ub Nb cb hcb Eb Hb => ?_))))
  have ga : ca.2.2.n = c6.2.2.n ∧ ca.2.2.A = c6.2.2.A := by rw [ha]; exact ⟨rfl, rfl⟩
  have gb : cb.2.2.n = ca.2.2.n ∧ cb.2.2.A = ca.2.2.A := by rw [hcb]; exact ⟨rfl, rfl⟩
  have nb6 : cb.2.2.n = c6.2.2.n := gb.1.trans ga.1
  have Ab6 : cb.2.2.A = c6.2.2.A := gb.2.trans ga.2
  have Xb : Xm Ub Nb jc jd jh cb X := hX.ext Eb (nb6.trans n6) (Ab6.trans A6)
  have hn8 : cb.2.2.n ≤ 8 := by rw [Xb.n]; exact hb
  have nh : jh ≠ jc ∧ jh ≠ jd := ⟨Hb.n2, Hb.n1⟩
  rcases dkind (d := cb.1) with ⟨l, hd⟩ | ⟨b, p, hd⟩
  · -- a writer
    have S := Hb.st
    rw [hd] at S
    refine ad rfl (on (ptr_of S.cod rfl) (cF rfl (w78_3 (cF rfl (ad rfl (on (sl_of Hb.hd rfl) ?_))))))
    refine e78_5w (X := X) (l := l) nh (by omega) Xb.n cb.2.2.n 0 (k + 3) (by omega) (S.mono (by omega)) Hb.nu Hb.hd Xb.row Xb.far fun U' N l' hl' ⟨E', S', nU', a', hn', R', F'⟩ => ?_
    obtain ⟨q1, _⟩ := sgsD_w X l cb.2.1
    simp only [List.drop_zero] at hl' S'
    refine fin (c7 := (.w l', (sgsD (.w l) cb.2.1 X).2.1, cb.2.2)) (X7 := X) (hT ⟨ca, ha, cb, hcb, cb, X, ?_, ?_, ?_⟩) (Eb.trans E') ⟨S', a', nU', Hb.n1, Hb.n2, by rw [E'.chg.floor]; exact Hb.fl⟩ ⟨hn', R', F'⟩ fun a haa => .inl (by rw [← A6, ← Ab6]; exact haa)
    · rw [hd]; exact ⟨rfl, rfl⟩
    · rw [hd, ← hl']
    · rw [hd, q1]
  · -- a reader
    have hX0 : X = [] := by
      refine r6 b ?_ ?_
      · exact (match c6.1 with | .r _ p => p | _ => 0)
      · rcases dkind (d := c6.1) with ⟨l, hl⟩ | ⟨b0, p0, hl⟩
        · exfalso
          obtain ⟨l1, k1⟩ := (numD_kind (e := c6.2.1) (v := c6.2.2.da) (n := 2) (f := 3)).1 _ hl
          have g1 : ca.1 = .w l1 := by rw [ha]; exact k1
          obtain ⟨l2, k2⟩ := (numD_kind (e := ca.2.1) (v := ca.2.2.cb) (n := 2) (f := 0)).1 _ g1
          have g2 : cb.1 = .w l2 := by rw [hcb]; exact k2
          rw [g2] at hd; cases hd
        · obtain ⟨p1, k1⟩ := (numD_kind (e := c6.2.1) (v := c6.2.2.da) (n := 2) (f := 3)).2 _ _ hl
          have g1 : ca.1 = .r b0 p1 := by rw [ha]; exact k1
          obtain ⟨p2, k2⟩ := (numD_kind (e := ca.2.1) (v := ca.2.2.cb) (n := 2) (f := 0)).2 _ _ g1
          have g2 : cb.1 = .r b0 p2 := by rw [hcb]; exact k2
          rw [g2] at hd; cases hd
          rw [hl]
    have S := Hb.st
    rw [hd] at S
    refine ad rfl (on (ptr_of S.cod rfl) (cT rfl (ad rfl (on (int_of S.cod rfl) ?_))))
    by_cases h0 : ¬ cb.2.1 = 0
    · rw [show (((cb.2.1 : Nat) : Int) == 0) = false by simpa using h0]
      have hn0 : cb.2.2.n = 0 := by rw [Xb.n, hX0]; rfl
      refine w78_3 (cF rfl (ad rfl (on (sl_of Hb.hd rfl) (w78_5 (cF (decide_eq_false (by show ¬ (0 : Int) < (cb.2.2.n : Int); omega)) ?_)))))
      subst hX0
      refine fin (c7 := cb) (X7 := []) (hT ⟨ca, ha, cb, hcb, cb, [], ?_, ?_, rfl⟩) Eb ⟨Hb.st.mono (by omega), Hb.hd, Hb.nu, Hb.n1, Hb.n2, Hb.fl⟩ Xb fun a haa => .inl (by rw [← A6, ← Ab6]; exact haa)
      · rw [hd]; simp only [if_neg h0]; exact ⟨trivial, trivial⟩
      · simp only [sgsD]
    have h0 : cb.2.1 = 0 := by omega
    rw [show (((cb.2.1 : Nat) : Int) == 0) = true by rw [h0]; rfl]
    have hq : 0 ≤ cb.2.2.cb ∧ cb.2.2.cb ≤ 3 := by
      rcases dkind (d := ca.1) with ⟨l, hl⟩ | ⟨b0, p0, hl⟩
      · exfalso
        obtain ⟨l2, k2⟩ := (numD_kind (e := ca.2.1) (v := ca.2.2.cb) (n := 2) (f := 0)).1 _ hl
        have g2 : cb.1 = .w l2 := by rw [hcb]; exact k2
        rw [g2] at hd; cases hd
      · have : (numD ca.1 ca.2.1 ca.2.2.cb 2 0).2.1 = 0 := by rw [hcb] at h0; exact h0
        rw [hl] at this
        obtain ⟨x, x1, x2⟩ := numD_val (by decide) this
        have e : cb.2.2.cb = (numD ca.1 ca.2.1 ca.2.2.cb 2 0).2.2 := by rw [hcb]; rfl
        rw [e, hl, x2]
        have : x < 4 := x1
        omega
    obtain ⟨p1, p2⟩ := pow2 hq
    have q3 : cb.2.2.cb.toNat ≤ 3 := by omega
    refine w78_3 (cT rfl (ad rfl (on (int_of Hb.hd rfl) (pu (shl_i64 (q := cb.2.2.cb.toNat) (by omega) (by omega) (by omega)) (ty rfl (me (mk38 cb.2.2.cb.toNat q3) (ty rfl (ad rfl ?_))))))))
    have ax := Mem.new_at Nb (.cells (Sgs (List.replicate (2 ^ cb.2.2.cb.toNat) ⟨0, 0, 0, 0⟩)).toArray 96)
    have Kx : Keep Nb (Nb.new (.cells (Sgs (List.replicate (2 ^ cb.2.2.cb.toNat) ⟨0, 0, 0, 0⟩)).toArray 96)) := .new _ _
    dsimp only
    generalize Nb.new (.cells (Sgs (List.replicate (2 ^ cb.2.2.cb.toNat) ⟨0, 0, 0, 0⟩)).toArray 96) = Nx at ax Kx ⊢
    have lb1 := lt_of_at Hb.hd
    have lb2 := lt_of_at Hb.st.cod
    have lb3 := Hb.st.dev.lt
    obtain ⟨Ny, py, Cy, sy, ay⟩ := put1 26 (.slice (some ⟨2 * Nb.nb.size, 0, none⟩) (2 ^ cb.2.2.cb.toNat) (2 ^ cb.2.2.cb.toNat)) (at_keep Hb.hd Kx) (by rw [Kx.floor]; exact Hb.fl) (show 26 < 30 by decide) rfl
    have axy := at_chg ax Cy (by omega)
    have Sy : St Ub Ny jc jd cb.1 cb.2.1 (k + 42) := ((Hb.st.keep Kx).chg Cy fun i _ hu hh => by
      subst hh
      rcases hu with hu | hu | hu
      · exact Hb.nu hu
      · exact Hb.n1 hu
      · exact Hb.n2 hu).mono (by omega)
    have h8 : 2 ^ cb.2.2.cb.toNat ≤ 8 := Nat.pow_le_pow_right (n := 2) (by decide) q3
    generalize hcy : ({ cb.2.2 with A := some ⟨2 * Nb.nb.size, 0, none⟩, n := 2 ^ cb.2.2.cb.toNat, c := 2 ^ cb.2.2.cb.toNat } : Hd) = hy at *
    have ay' : Ny.nb[jh]? = some (.cells hy.cs 41) := by rw [ay, ← hcy]; rfl
    have hyA : hy.A = some ⟨2 * Nb.nb.size, 0, none⟩ := by rw [← hcy]
    have hyn : hy.n = 2 ^ cb.2.2.cb.toNat := by rw [← hcy]
    have nUx : ¬ Ub Nb.nb.size := fun hu => by have := Hb.st.ub _ hu; omega
    refine pt py (ad rfl (on (sl_of ay' rfl) ?_))
    refine e78_5r (jx := Nb.nb.size) (X := List.replicate (2 ^ cb.2.2.cb.toNat) ⟨0, 0, 0, 0⟩) nh ⟨by omega, by omega, by omega⟩ hyA (by omega) hy.n 0 (k + 3) (by omega) (by rw [hyn]; simp) (Sy.mono (by omega)) Hb.nu nUx ay' axy (by rw [Cy.floor, Kx.floor]; exact Hb.st.fs) fun U' N X' hX' E' S' nU' nX' a' ax' hn' => ?_
    simp only [List.take_zero, List.nil_append, List.drop_zero] at hX' S'
    have Ex : Ext (Pj jc jd jh) U M U' N := by
      have E2 : Ext (Pj jc jd jh) Ub Nb U' N := by
        have z1 := Kx.size
        have z2 := Cy.size
        refine ⟨fun i hi => (E'.sub i hi).imp id fun q => by omega, ⟨(E'.chg.base.trans Cy.base).trans Kx.base, (E'.chg.floor.trans Cy.floor).trans Kx.floor, Nat.le_trans z1 (Nat.le_trans z2 E'.chg.size), fun j hj hs => ?_⟩⟩
        refine ((E'.chg.same j (by omega) fun hh => ?_).trans (Cy.same j (by omega) fun hh => hs (.inr (.inr (.inr hh))))).trans (Kx.same j hj fun x => x)
        rcases hh with hh | hh | hh | hh
        · exact hs (.inl hh)
        · exact hs (.inr (.inl hh))
        · exact hs (.inr (.inr (.inl hh)))
        · omega
      exact Eb.trans E2
    refine fin (c7 := ((sgsD cb.1 cb.2.1 (List.replicate (2 ^ cb.2.2.cb.toNat) ⟨0, 0, 0, 0⟩)).1, (sgsD cb.1 cb.2.1 (List.replicate (2 ^ cb.2.2.cb.toNat) ⟨0, 0, 0, 0⟩)).2.1, hy)) (X7 := X') (hT ⟨ca, ha, cb, hcb, (cb.1, cb.2.1, hy), List.replicate (2 ^ cb.2.2.cb.toNat) ⟨0, 0, 0, 0⟩, ?_, rfl, hX'⟩) Ex ⟨S', a', nU', Hb.n1, Hb.n2, by rw [Ex.chg.floor]; exact H.fl⟩ ⟨hn', ?_, ?_⟩ ?_
    · rw [hd]; simp only [if_pos h0]; exact ⟨⟨some ⟨2 * Nb.nb.size, 0, none⟩, 2 ^ cb.2.2.cb.toNat, by rw [← hcy, ← hd]⟩, trivial⟩
    · show Row N hy.A (Sgs X')
      rw [hyA]
      intro i hi
      refine ⟨_, rfl, ?_⟩
      rw [cell_of ax', Nat.zero_add]; simp [hi]
    · show Far U' jc jd jh N hy.A
      rw [hyA]
      intro a haa
      obtain rfl := Option.some.inj haa
      have := lt_of_at ax'
      refine .inr ⟨by show 2 * Nb.nb.size / 2 < _; omega, ?_, ?_, ?_, ?_⟩ <;> show _ <;> (try (rw [show 2 * Nb.nb.size / 2 = Nb.nb.size by omega])) <;> first | exact nX' | omega
    · intro a haa
      have : a = ⟨2 * Nb.nb.size, 0, none⟩ := by
        have h2 : hy.A = some a := haa
        rw [hyA] at h2; exact (Option.some.inj h2).symm
      subst this
      refine .inr ?_
      show M.nb.size ≤ 2 * Nb.nb.size / 2
      have := Eb.chg.size; omega
end
end Go.Zt
