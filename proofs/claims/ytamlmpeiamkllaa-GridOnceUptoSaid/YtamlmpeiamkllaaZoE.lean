/- Layer 17: law4, GridOnce: from its start; over what is seen. -/
import Derived.Test.YtamlmpeiamkllaaZoD
import Derived.Test.YtamlmpeiamkllaaZoS
set_option linter.unusedSimpArgs false
set_option linter.unusedVariables false
set_option maxRecDepth 100000
namespace Go.Zt
open Go Go.Sim Go.Proofs Go.RowKit

section
variable {M : Mem} {Ax : Option Addr} {lx cx1 : Nat} {l : List Bk} {x0 x1 x2 x3 : Int}
theorem Gr.nil {N : Mem} {j jm : Nat} {t : Tl} (hm : t.may = true) (g : GrAt N j t none 0 0 jm) (gm : N.nb[jm]? = some (.map #[] 0)) (h : jm ≠ j) : Gr (fun _ => False) N j jm t [] :=
  ⟨hm, ⟨id, id, h.symm⟩, fun b hb => by simp at hb, by simp, Option.none, 0, #[], 0, g, .inl ⟨rfl, rfl, rfl⟩, Nat.le_refl _, gm, by first | exact trivial | simp [entL, EntR]⟩
set_option maxHeartbeats 1000000 in
theorem c4 (hf : M.floor ≤ M.nb.size) (hl : lx = l.length) (R : Row M Ax (Bks l)) (hA : Old Ax) : Cn Try.prog 4 #[.agg #[.int .i64 x0, .int .i64 x1, .int .i64 x2, .int .i64 x3], .slice Ax lx cx1] M fun v _ => v = .bool true := by
  have a0 := Mem.new_at M (.cells (tlc ⟨x0, x1, x2, x3⟩) 35)
  have K0 : Keep M (M.new (.cells (tlc ⟨x0, x1, x2, x3⟩) 35)) := .new _ _
  have z0 := Mem.new_size M (.cells (tlc ⟨x0, x1, x2, x3⟩) 35)
  refine w4_0 ?_
  show Cn Try.prog 7 #[] (M.new (.cells (tlc ⟨x0, x1, x2, x3⟩) 35)) _
  generalize M.new (.cells (tlc ⟨x0, x1, x2, x3⟩) 35) = M1 at a0 K0 z0 ⊢
  have f1 := fb hf K0
  have sb := tl_same a0
  have g1 : decide (M1.floor ≤ M1.nb.size) = true := decide_eq_true f1
  obtain ⟨bx0, bx1⟩ := bring_lt x0 (show (0 : Int) < 2 by decide)
  obtain ⟨by0, by1⟩ := bring_lt x1 (show (0 : Int) < 2 by decide)
  obtain ⟨bw0, bw1⟩ := bring_lt x2 (show (0 : Int) < 16 by decide)
  obtain ⟨bh0, bh1⟩ := bring_lt x3 (show (0 : Int) < 16 by decide)
  refine Cn.known rfl (ty rfl (cF rfl (on (int_of (i := 0) a0 rfl) (on (int_of (i := 0 + 1) a0 rfl) (on (int_of (i := 0 + 2) a0 rfl) (on (int_of (i := 0 + 3) a0 rfl) ?_))))))
  refine cT g1 (Cn.eq (c13 (by decide) (by decide)) (cT sb (cT sb (cT sb (ty rfl (cT g1 (Cn.eq (c13 (by decide) (by decide)) (cT sb (cT sb (ty rfl (cT g1 (Cn.eq (c13 (by decide) (by decide)) (cT sb (ty rfl (Cn.eq (c13 (by decide) (by decide)) (ty rfl ?_))))))))))))))))
  rw [i64w (x := 64 * bring x0 2) (by omega), i64w (x := 64 * bring x1 2) (by omega), i64w (x := 1 + bring x2 16) (by omega), i64w (x := 1 + bring x3 16) (by omega), i64w (x := 8 * (1 + bring x2 16)) (by omega), i64w (x := 8 * (1 + bring x3 16)) (by omega)]
  obtain ⟨t, ht⟩ : ∃ t : Tl, t = ⟨64 * bring x0 2, 64 * bring x1 2, 8 * (1 + bring x2 16), 8 * (1 + bring x3 16)⟩ := ⟨_, rfl⟩
  have T : Tb t (1 + bring x2 16).toNat (1 + bring x3 16).toNat := by
    rw [ht]
    exact ⟨by show 8 * (1 + bring x2 16) = _; omega, by show 8 * (1 + bring x3 16) = _; omega, by show 0 ≤ 64 * bring x0 2 ∧ 64 * bring x0 2 ≤ 64 ∧ 0 ≤ 64 * bring x1 2 ∧ 64 * bring x1 2 ≤ 64 ∧ _ ∧ _ ∧ _ ∧ _ ∧ 64 * bring x0 2 % 64 = 0 ∧ 64 * bring x1 2 % 64 = 0; omega⟩
  show stP (some 4) (tlc ⟨64 * bring x0 2, 64 * bring x1 2, 8 * (1 + bring x2 16), 8 * (1 + bring x3 16)⟩) M1 (2 * M.nb.size) 0 _
  rw [← ht]
  have hT := T.b
  have hw := T.w
  have hh := T.h
  generalize (1 + bring x2 16).toNat = tw at T hT hw hh
  generalize (1 + bring x3 16).toNat = th at T hT hw hh
  have fj : M1.floor ≤ M.nb.size := by rw [K0.floor]; exact hf
  refine stA (cs := tlc t) a0 fj rfl rfl rfl fun M2 C2 z2 a2 => ?_
  have K2 : Keep M M2 := Keep.step K0 C2 fun i hi => by omega
  refine on (int_of (x := t.x) (i := 0) a2 rfl) (on (int_of (x := t.y) (i := 0 + 1) a2 rfl) (on (int_of (x := t.w) (i := 0 + 2) a2 rfl) (on (int_of (x := t.h) (i := 0 + 3) a2 rfl) ?_)))
  refine Cn.mono (c8 (t := t) (fb hf K2) (by unfold i64R; omega)) ?_
  rintro v N ⟨K3, h⟩
  rw [if_pos T.may] at h
  obtain ⟨jg, jm, q1, q2, q3, rfl, g, gm⟩ := h
  refine ty rfl (ty rfl (ty rfl (cF rfl ?_)))
  have K4 : Keep N (N.new (.cells (oc fun _ => 0) 46)) := .new _ _
  have o4 := Mem.new_at N (.cells (oc fun _ => 0) 46)
  have z4 := Mem.new_size N (.cells (oc fun _ => 0) 46)
  show A4_1 Ax lx cx1 (PO M.nb.size) (PO jg) (PO N.nb.size) none 0 0 0 (N.new (.cells (oc fun _ => 0) 46)) _
  generalize N.new (.cells (oc fun _ => 0) 46) = M5 at K4 o4 z4 ⊢
  have K := (K2.trans K3).trans K4
  have s0 := K0.size
  have s3 := K3.size
  have f5 : M5.floor = M.floor := K.floor
  refine e4_1 (jm := jm) (L := []) (o := fun _ => 0) T hl (by omega) (min l.length 60) 0 (by omega) (by simp) ?_ (at_keep (at_keep a2 K3) K4) o4 (fun y x _ _ => rfl)
  refine ⟨fb hf K, fun i hi => ?_, Nat.le_refl _, R.keep K, hA, fun _ => False, fun _ => False, Gr.nil T.may (at_keep g K4) (at_keep gm K4) (by omega), .inl ⟨rfl, rfl, rfl⟩, fun i hi => ?_, fun i hi => hi.elim⟩
  · rw [f5]; rcases hi with rfl | rfl <;> omega
  · rw [f5]
    rcases hi with q | q | q
    · exact q.elim
    all_goals exact ⟨by omega, by omega, fun w => by rcases w with w | w <;> omega, fun w => w⟩
end
theorem sees_blks {M : Mem} {B k : Nat} {r : List Value} (h : Sees Try.prog M B (k + 5) 43 r) : ∃ A n c, ∃ X : List Bk, r = [.slice A n c] ∧ n = X.length ∧ n ≤ c ∧ n ≤ B ∧ (A = none → c = 0) ∧ Old A ∧ Row M A (Bks X) ∧ ∀ b ∈ X, i64R b.x ∧ i64R b.y ∧ i64R b.w ∧ i64R b.h :=
  sees_slice (f := fun b : Bk => b.cs.toList) (good := fun b => i64R b.x ∧ i64R b.y ∧ i64R b.w ∧ i64R b.h) (e := 27) (by kernel_rfl) h fun r hr => sees_blk hr
theorem sees_rect {M : Mem} {B k : Nat} {r : List Value} (h : Sees Try.prog M B (k + 2) 35 r) : ∃ t : Tl, r = (tlc t).toList ∧ i64R t.x ∧ i64R t.y ∧ i64R t.w ∧ i64R t.h := by
  obtain ⟨h1, h2⟩ := sees_struct (l := [(0, 3), (1, 3), (2, 3), (3, 3)]) (n := 4) (by kernel_rfl) (by kernel_rfl) h
  match r, h1 with
  | [a, b, c, d], _ =>
    have c3 : Try.prog.cellsOf 3 = 1 := by kernel_rfl
    obtain ⟨x, e1, f1⟩ := sees_int (q := .i64) (by kernel_rfl) (h2 (0, 3) (by simp))
    obtain ⟨y, e2, f2⟩ := sees_int (q := .i64) (by kernel_rfl) (h2 (1, 3) (by simp))
    obtain ⟨z, e3, f3⟩ := sees_int (q := .i64) (by kernel_rfl) (h2 (2, 3) (by simp))
    obtain ⟨w, e4, f4⟩ := sees_int (q := .i64) (by kernel_rfl) (h2 (3, 3) (by simp))
    simp [c3] at e1 e2 e3 e4
    exact ⟨⟨x, y, z, w⟩, by rw [e1, e2, e3, e4], wf_r f1, wf_r f2, wf_r f3, wf_r f4⟩
theorem law4 {W : World} {cs : List Value} {B B1 : Nat} {u : Value} (s0 : Sees Try.prog (mem0 W) B 8 35 cs) (s1 : Sees Try.prog (mem0 W) B1 8 43 [u]) : Cn Try.prog 4 #[.agg cs.toArray, u] (mem0 W) fun v _ => v = .bool true := by
  obtain ⟨t, rfl, _⟩ := sees_rect s0
  obtain ⟨A, n, c, X, e, h1, h2, h3, h4, h5, h6, h7⟩ := sees_blks s1
  simp only [List.cons.injEq, and_true] at e
  subst e
  exact c4 (Nat.le_refl _) h1 h6 h5
end Go.Zt
