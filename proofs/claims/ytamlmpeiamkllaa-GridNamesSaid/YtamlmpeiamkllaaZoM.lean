/- Layer 17: law5, GridPlays. -/
import Derived.Test.YtamlmpeiamkllaaZoL
import Derived.Test.YtamlmpeiamkllaaZoS
set_option linter.unusedSimpArgs false
set_option linter.unusedVariables false
set_option maxRecDepth 100000
namespace Go.Zt
open Go Go.Sim Go.Proofs Go.RowKit

theorem wrap_r (x : Int) : i64R (IntKind.i64.wrap x) := by
  rw [IntKind.wrap_i64]
  unfold i64R
  omega
def Bk.in (b : Bk) : Prop := i64R b.x ∧ i64R b.y ∧ i64R b.w ∧ i64R b.h
section
variable {M0 M N : Mem} {jg jm jr : Nat} {t : Tl} {L l : List Bk} {q : List Ak} {b : Bk} {Ax1 Ax2 : Option Addr} {lx1 cx1 lx2 cx2 : Nat}
theorem fix_same {K1 K2 : Mem} {A : Option Addr} (F : Fix M0 A) (h1 : Keep M0 K1) (h2 : Keep M0 K2) {a : Addr} (ha : ∃ b, A = some b ∧ a.block = b.block) : sameB K1 K2 a.block = true := by
  obtain ⟨b, rfl, e⟩ := ha
  rcases F b rfl with h | ⟨j, cs, t, h, hj, he⟩
  · exact sameB_odd (by rw [e]; exact h)
  · rw [e, h]
    exact sameB_at (at_keep hj h1) (at_keep hj h2) he
set_option maxHeartbeats 2000000 in
theorem e5_2 (hf : M0.floor ≤ M0.nb.size) (hl1 : lx1 = l.length) (hl2 : lx2 = q.length) (R1 : Row M0 Ax1 (Bks l)) (F1 : Fix M0 Ax1) (hl : ∀ b ∈ l, b.in) (R2 : Row M0 Ax2 (Aks q)) (hq : ∀ a ∈ q, a.in) :
    ∀ (k i : Nat) {M : Mem} {L : List Bk}, i + k = min l.length 100 → L.length ≤ i → Pl M0 M jg jm jr t L → A5_2 Ax1 lx1 cx1 Ax2 lx2 cx2 (some ⟨2 * jg, 0, none⟩) (some ⟨2 * jr, 0, none⟩) (i : Int) M (QK M0)
  | 0, i, M, L, hk, hL, P => by
    refine w5_2 (cA (fun z => A5_3 Ax1 lx1 cx1 Ax2 lx2 cx2 (some ⟨2 * jg, 0, none⟩) (some ⟨2 * jr, 0, none⟩) (i : Int) z M (QK M0)) ?_)
    rw [show (decide ((i : Int) < (lx1 : Int)) && decide ((i : Int) < 100)) = false by
      rw [Bool.and_eq_false_iff, decide_eq_false_iff_not, decide_eq_false_iff_not]; omega]
    exact w5_3 (cF rfl (e5_4 hf hl2 R2 hq (min q.length 100) 0 (by omega) P))
  | k + 1, i, M, L, hk, hL, P => by
    obtain ⟨V, U, g, r, h1, h2⟩ := P.ex
    have hi : i < l.length := by omega
    have hin := hl _ (List.getElem_mem hi)
    have hf1 := fb hf P.K
    have s0 := P.K.size
    have fl : M.floor ≤ M0.nb.size := by rw [P.K.floor]; exact hf
    refine w5_2 (cA (fun z => A5_3 Ax1 lx1 cx1 Ax2 lx2 cx2 (some ⟨2 * jg, 0, none⟩) (some ⟨2 * jr, 0, none⟩) (i : Int) z M (QK M0)) ?_)
    rw [show (decide ((i : Int) < (lx1 : Int)) && decide ((i : Int) < 100)) = true by
      rw [Bool.and_eq_true, decide_eq_true_eq, decide_eq_true_eq]; omega]
    have R1M := R1.keep P.K
    obtain ⟨a, ea⟩ := ixEx (n := lx1) R1M (by omega) hi
    have ba := bkRow R1M (by omega) (List.getElem?_eq_getElem hi) ea
    refine w5_3 (cT rfl (ix ea (ldB ba rfl (ix ea (ldB ba rfl (cT (decide_eq_true hf1) (Cn.mono (c9 hf1 (fun i hi => by obtain ⟨x, y, _⟩ := h1 i hi; exact ⟨by omega, y⟩) (by omega) g hin) ?_)))))))
    rintro v N ⟨rfl, V', hV, C, g'⟩
    have sN := C.size
    have KN : Keep M0 N := Keep.step P.K C fun i hi => (h1 i hi).1
    have rN : Rf U N jr t L := r.chg C fun i _ ho q => (h1 i q).2.2 ho
    refine cT (fix_same F1 P.K KN (idxA_blk ea)) (ty rfl (Cn.mono (c17 (b := l[i]) (fb hf KN) (fun i hi => by obtain ⟨x, y⟩ := h2 i hi; exact ⟨by rw [KN.floor]; omega, by omega⟩) (by omega) rN hin) ?_))
    rintro v N2 ⟨rfl, U', hU, C2, r'⟩
    have sN2 := C2.size
    have hV' : ∀ i, V' i ∨ i = jg ∨ i = jm → (V i ∨ i = jg ∨ i = jm) ∨ (M.nb.size ≤ i ∧ i < N.nb.size) := by
      rintro i (q | q)
      · rcases hV i q with q | q
        · exact .inl (.inl q)
        · exact .inr q
      · exact .inl (.inr q)
    have hU' : ∀ i, U' i ∨ i = jr → (U i ∨ i = jr) ∨ (N.nb.size ≤ i ∧ i < N2.nb.size) := by
      rintro i (q | q)
      · rcases hU i q with q | q
        · exact .inl (.inl q)
        · exact .inr q
      · exact .inl (.inr q)
    have KN2 : Keep M0 N2 := Keep.step KN C2 fun i hi => (h2 i hi).1
    have g2 : Gr V' N2 jg jm t (putS t L l[i]).2 := g'.chg C2 fun i _ ho q => by
      rcases hV' i ho with w | w
      · exact (h1 i w).2.2 q
      · have := (h2 i q).2; omega
    have P2 : Pl M0 N2 jg jm jr t (putS t L l[i]).2 := by
      refine ⟨KN2, V', U', g2, r', fun i hi => ?_, fun i hi => ?_⟩
      · rcases hV' i hi with w | w
        · obtain ⟨x, y, z⟩ := h1 i w
          exact ⟨x, by omega, fun o => by rcases hU' i o with o | o; exact z o; omega⟩
        · exact ⟨by omega, by omega, fun o => by
            rcases hU' i o with o | o
            · have := (h2 i o).2; omega
            · omega⟩
      · rcases hU' i hi with w | w
        · obtain ⟨x, y⟩ := h2 i w; exact ⟨x, by omega⟩
        · exact ⟨by omega, w.2⟩
    have hL2 : (putS t L l[i]).2.length ≤ i + 1 := by
      unfold putS
      split
      · simp; omega
      · show L.length ≤ i + 1; omega
    generalize (putS t L l[i]).1 = e
    generalize (putS t L l[i]).2 = L2 at P2 g2 r' hL2
    have b2 := bkRow (R1.keep KN2) (by omega) (List.getElem?_eq_getElem hi) ea
    have f2 := fb hf KN2
    refine ty rfl (cF (nn _) (ix ea (on (cell_int (x := l[i].x) (b2 0 (by decide))) (ix ea (on (cell_int (x := l[i].w) (b2 2 (by decide))) (ix ea (on (cell_int (x := l[i].y) (b2 1 (by decide))) (stN (cs := #[.int .i64 (IntKind.i64.wrap (l[i].x + l[i].w)), .int .i64 l[i].y, .int .i64 16, .int .i64 8, .int .i64 0]) f2 rfl rfl rfl fun M3 K3 z3 b3 => ?_))))))))
    have P3 := P2.keep K3
    have T3 := P3.K
    have go : ∀ {N : Mem}, Keep M3 N → A5_2 Ax1 lx1 cx1 Ax2 lx2 cx2 (some ⟨2 * jg, 0, none⟩) (some ⟨2 * jr, 0, none⟩) (IntKind.i64.wrap ((i : Int) + 1)) N (QK M0) := by
      intro N K
      rw [i64w (x := (i : Int) + 1) (by omega)]
      exact e5_2 hf hl1 hl2 R1 F1 hl R2 hq k (i + 1) (by omega) (by omega) (P3.keep K)
    by_cases h2x : i < q.length
    · have hqi := hq _ (List.getElem_mem h2x)
      refine cT (decide_eq_true (by omega)) (ixA (R2.keep T3) (by omega) h2x ?_)
      refine stA (cs := q[i].cs) b3 (by rw [K3.floor]; omega) rfl rfl rfl fun M4 C4 z4 b4 => ?_
      have s2 := P2.K.size
      have K4 : Keep N2 M4 := Keep.step K3 C4 fun i hi => by omega
      have P4 := P2.keep K4
      obtain ⟨V4, U4, g4, r4, _⟩ := P4.ex
      refine on (int_of (x := q[i].x) (i := 0) b4 rfl) (on (int_of (x := q[i].y) (i := 0 + 1) b4 rfl) (on (int_of (x := q[i].s) (i := 0 + 2) b4 rfl) (on (int_of (x := q[i].w) (i := 0 + 3) b4 rfl) (on (int_of (x := q[i].r) (i := 0 + 4) b4 rfl) (Cn.mono (c18 (fb hf P4.K) g4 r4 hqi.1 hqi.2.1 hqi.2.2.1 hqi.2.2.2) ?_)))))
      rintro _ N5 ⟨rfl, K5⟩
      refine ty rfl (cF rfl ?_)
      rw [i64w (x := (i : Int) + 1) (by omega)]
      exact e5_2 hf hl1 hl2 R1 F1 hl R2 hq k (i + 1) (by omega) (by omega) (P4.keep K5)
    · obtain ⟨V4, U4, g4, r4, _⟩ := P3.ex
      refine cF (decide_eq_false (by omega)) (on (int_of (x := IntKind.i64.wrap (l[i].x + l[i].w)) (i := 0) b3 rfl) (on (int_of (x := l[i].y) (i := 0 + 1) b3 rfl) (on (int_of (x := 16) (i := 0 + 2) b3 rfl) (on (int_of (x := 8) (i := 0 + 3) b3 rfl) (on (int_of (x := 0) (i := 0 + 4) b3 rfl) (Cn.mono (c18 (fb hf T3) g4 r4 (wrap_r _) hin.2.1 (by unfold i64R; omega) (by unfold i64R; omega)) ?_))))))
      rintro _ N5 ⟨rfl, K5⟩
      exact ty rfl (cF rfl (go K5))
set_option maxHeartbeats 1000000 in
theorem c5 (hf : M.floor ≤ M.nb.size) (hr : i64R t.x ∧ i64R t.y ∧ i64R t.w ∧ i64R t.h) (hl1 : lx1 = l.length) (hl2 : lx2 = q.length) (R1 : Row M Ax1 (Bks l)) (F1 : Fix M Ax1) (hl : ∀ b ∈ l, b.in) (R2 : Row M Ax2 (Aks q)) (hq : ∀ a ∈ q, a.in) :
    Cn Try.prog 5 #[.agg #[.int .i64 t.x, .int .i64 t.y, .int .i64 t.w, .int .i64 t.h], .slice Ax1 lx1 cx1, .slice Ax2 lx2 cx2] M fun v N => v = .bool true ∧ Keep M N := by
  have s := Mem.new_at M (.cells #[.int .i64 t.x, .int .i64 t.y, .int .i64 t.w, .int .i64 t.h] 35)
  have K1 : Keep M (M.new (.cells #[.int .i64 t.x, .int .i64 t.y, .int .i64 t.w, .int .i64 t.h] 35)) := .new _ _
  refine w5_0 ?_
  generalize M.new (.cells #[.int .i64 t.x, .int .i64 t.y, .int .i64 t.w, .int .i64 t.h] 35) = M1 at s K1 ⊢
  have z1 := K1.size
  refine on (int_of (i := 0) s rfl) (on (int_of (i := 0 + 1) s rfl) (on (int_of (i := 0 + 2) s rfl) (on (int_of (i := 0 + 3) s rfl) (Cn.mono (c8 (t := t) (fb hf K1) hr) ?_))))
  rintro v N1 ⟨K2, h⟩
  have T2 := K1.trans K2
  have s2 := at_keep s K2
  have z2 := K2.size
  cases hm : t.may with
  | false =>
    rw [hm, if_neg (by simp)] at h
    subst h
    refine ty rfl (ty rfl (ty rfl (on (int_of (i := 0) s2 rfl) (on (int_of (i := 0 + 1) s2 rfl) (on (int_of (i := 0 + 2) s2 rfl) (on (int_of (i := 0 + 3) s2 rfl) (Cn.mono (c16 (t := t) (fb hf T2) hr) ?_)))))))
    rintro v N2 ⟨K3, h⟩
    rw [hm, if_neg (by simp)] at h
    subst h
    exact ty rfl (ty rfl (ty rfl (cF rfl (w5_1 (cF rfl (cT rfl (Cn.known rfl (ty rfl ⟨rfl, T2.trans K3⟩))))))))
  | true =>
    rw [hm, if_pos rfl] at h
    obtain ⟨jg, jm, q1, q2, q3, rfl, g, gm⟩ := h
    refine ty rfl (ty rfl (ty rfl (on (int_of (i := 0) s2 rfl) (on (int_of (i := 0 + 1) s2 rfl) (on (int_of (i := 0 + 2) s2 rfl) (on (int_of (i := 0 + 3) s2 rfl) (Cn.mono (c16 (t := t) (fb hf T2) hr) ?_)))))))
    rintro v N2 ⟨K3, h⟩
    rw [hm, if_pos rfl] at h
    obtain ⟨jr, q4, q5, rfl, r⟩ := h
    have z3 := K3.size
    have T3 := T2.trans K3
    refine ty rfl (ty rfl (ty rfl (cF rfl (w5_1 (cF rfl (cF rfl ?_))))))
    refine e5_2 (t := t) (jm := jm) hf hl1 hl2 R1 F1 hl R2 hq (min l.length 100) 0 (L := []) (by omega) (by simp) ⟨T3, fun _ => False, fun _ => False, ?_, ?_, fun i hi => ?_, fun i hi => ?_⟩
    · exact ⟨hm, ⟨id, id, by omega⟩, fun b hb => by simp at hb, by simp, Option.none, 0, #[], 0, at_keep g K3, .inl ⟨rfl, rfl, rfl⟩, Nat.le_refl _, at_keep gm K3, by first | exact trivial | simp [entL, EntR]⟩
    · exact ⟨hm, id, fun b hb => by simp at hb, by simp, Option.none, 0, r, .inl ⟨rfl, rfl, rfl⟩, Nat.le_refl _⟩
    · rcases hi with w | w | w
      · exact w.elim
      all_goals exact ⟨by omega, by omega, fun o => by rcases o with o | o; exact o; omega⟩
    · rcases hi with w | w
      · exact w.elim
      · exact ⟨by omega, by omega⟩
end
theorem sees_blks5 {M : Mem} {B k : Nat} {r : List Value} (h : Sees Try.prog M B (k + 5) 43 r) : ∃ A n c, ∃ X : List Bk, r = [.slice A n c] ∧ n = X.length ∧ n ≤ c ∧ n ≤ B ∧ (A = none → c = 0) ∧ Old A ∧ Row M A (Bks X) ∧ ∀ b ∈ X, b.in :=
  sees_slice (f := fun b : Bk => b.cs.toList) (good := Bk.in) (e := 27) (by kernel_rfl) h fun r hr => sees_blk hr
theorem sees_asks {M : Mem} {B k : Nat} {r : List Value} (h : Sees Try.prog M B (k + 3) 51 r) : ∃ A n c, ∃ X : List Ak, r = [.slice A n c] ∧ n = X.length ∧ n ≤ c ∧ n ≤ B ∧ (A = none → c = 0) ∧ Old A ∧ Row M A (Aks X) ∧ ∀ b ∈ X, b.in :=
  sees_slice (f := fun b : Ak => b.cs.toList) (good := Ak.in) (e := 56) (by kernel_rfl) h fun r hr => by
    obtain ⟨h1, h2⟩ := sees_struct (l := [(0, 3), (1, 3), (2, 3), (3, 3), (4, 3)]) (n := 5) (by kernel_rfl) (by kernel_rfl) hr
    match r, h1 with
    | [a, b, c, d, e], _ =>
      have c3 : Try.prog.cellsOf 3 = 1 := by kernel_rfl
      obtain ⟨x, e1, f1⟩ := sees_int (q := .i64) (by kernel_rfl) (h2 (0, 3) (by simp))
      obtain ⟨y, e2, f2⟩ := sees_int (q := .i64) (by kernel_rfl) (h2 (1, 3) (by simp))
      obtain ⟨z, e3, f3⟩ := sees_int (q := .i64) (by kernel_rfl) (h2 (2, 3) (by simp))
      obtain ⟨w, e4, f4⟩ := sees_int (q := .i64) (by kernel_rfl) (h2 (3, 3) (by simp))
      obtain ⟨v, e5, f5⟩ := sees_int (q := .i64) (by kernel_rfl) (h2 (4, 3) (by simp))
      simp [c3] at e1 e2 e3 e4 e5
      exact ⟨⟨x, y, z, w, v⟩, by rw [e1, e2, e3, e4, e5], wf_r f1, wf_r f2, wf_r f4, wf_r f5⟩
theorem sees_rect5 {M : Mem} {B k : Nat} {r : List Value} (h : Sees Try.prog M B (k + 2) 35 r) : ∃ t : Tl, r = [.int .i64 t.x, .int .i64 t.y, .int .i64 t.w, .int .i64 t.h] ∧ i64R t.x ∧ i64R t.y ∧ i64R t.w ∧ i64R t.h := by
  obtain ⟨h1, h2⟩ := sees_struct (l := [(0, 3), (1, 3), (2, 3), (3, 3)]) (n := 4) (by kernel_rfl) (by kernel_rfl) h
  match r, h1 with
  | [a, b, c, d], _ =>
    have c3 : Try.prog.cellsOf 3 = 1 := by kernel_rfl
    obtain ⟨x, e1, f1⟩ := sees_int (q := .i64) (by kernel_rfl) (h2 (0, 3) (by simp))
    obtain ⟨y, e2, f2⟩ := sees_int (q := .i64) (by kernel_rfl) (h2 (1, 3) (by simp))
    obtain ⟨z, e3, f3⟩ := sees_int (q := .i64) (by kernel_rfl) (h2 (2, 3) (by simp))
    obtain ⟨w, e4, f4⟩ := sees_int (q := .i64) (by kernel_rfl) (h2 (3, 3) (by simp))
    simp [c3] at e1 e2 e3 e4
    exact ⟨⟨x, y, z, w⟩, by rw [e1, e2, e3, e4], wf_r f1, wf_r f2, wf_r f3, wf_r f4⟩
theorem law5 {W : World} {cs : List Value} {B B1 B2 : Nat} {u v : Value} (s0 : Sees Try.prog (mem0 W) B 8 35 cs) (s1 : Sees Try.prog (mem0 W) B1 8 43 [u]) (s2 : Sees Try.prog (mem0 W) B2 8 51 [v]) : Cn Try.prog 5 #[.agg cs.toArray, u, v] (mem0 W) fun v _ => v = .bool true := by
  obtain ⟨t, rfl, hr⟩ := sees_rect5 s0
  obtain ⟨A, n, c, X, e, h1, h2, h3, h4, h5, h6, h7⟩ := sees_blks5 s1
  simp only [List.cons.injEq, and_true] at e
  subst e
  obtain ⟨A', n', c', Y, e, g1, g2, g3, g4, g5, g6, g7⟩ := sees_asks s2
  simp only [List.cons.injEq, and_true] at e
  subst e
  exact Cn.mono (c5 (t := t) (Nat.le_refl _) hr h1 g1 h6 (fun a ha => .inl (h5 a ha)) h7 g6 g7) fun v N h => h.1
end Go.Zt
