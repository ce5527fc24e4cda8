/- Layer 8: TxfmBounded, walked. -/
import Derived.Test.YtpfhalehdgcbeaaZgl
import Derived.Test.YtpfhalehdgcbeaaZgDk
set_option linter.unusedSimpArgs false
set_option linter.unusedVariables false
namespace Go.Zt
open Go Go.Sim Go.Proofs Go.RowKit

abbrev Tr10 : Value → Mem → Prop := fun v _ => v = .bool true
theorem clip_e (x : Int) : (if 32767 < (if -32768 > x then -32768 else x) then 32767 else if -32768 > x then -32768 else x) = clipS x := by
  unfold clipS
  by_cases h : -32768 > x
  · rw [if_pos h, if_pos (show x < -32768 by omega)]; rfl
  · rw [if_neg h, if_neg (show ¬ x < -32768 by omega)]
theorem get_of {l : List Int} {i : Nat} (h : i < l.length) : (Ints l)[i]? = some (.int .i64 (gx l i)) ∧ gx l i ∈ l := by
  refine ⟨gx_at h, ?_⟩
  unfold gx; rw [List.getD_eq_getElem?_getD, List.getElem?_eq_getElem h]; exact List.getElem_mem h
section
variable {M0 : Mem} {Y T G C : Option Addr} {ny cy ct cg cc n s : Nat} {y g : List Int}
structure Bt (M0 : Mem) (Y T G C : Option Addr) (n s : Nat) (y g : List Int) (M : Mem) : Prop where
  yr : Row M Y (Ints y)
  tr : Row M T (Ints (typesS n))
  gr : Row M G (Ints g)
  cr : Row M C (Ints (g.map clipS))
  f : M.floor ≤ M.nb.size
theorem Bt.next {M N : Mem} (h : Bt M0 Y T G C n s y g M) (K : Keep M N) : Bt M0 Y T G C n s y g N :=
  ⟨h.yr.keep K, h.tr.keep K, h.gr.keep K, h.cr.keep K, fb h.f K⟩
theorem c10_13 {D : Option Addr} {cd lt : Nat} {k : Nat} (hk : k ≤ 16) {lg lc : Nat} {d : List Int} (hd : ∀ v ∈ d, -32768 ≤ v ∧ v ≤ 32767) (hdl : d.length ≤ 8192) {M : Mem} (hD : Row M D (Ints d))
    (hE : A10_3 Y ny cy (n : Nat) (s : Nat) T lt ct G lg cg C lc cc ((k + 1 : Nat) : Int) M Tr10) :
    ∀ (m i : Nat), i + m = d.length → A10_13 Y ny cy (n : Nat) (s : Nat) T lt ct G lg cg C lc cc (k : Nat) D d.length cd (i : Nat) M Tr10 := by
  intro m
  induction m with
  | zero =>
    intro i hi
    refine w10_13 ⟨fun h => by omega, fun _ => ?_⟩
    rw [i64w (by omega), show ((k : Int) + 1) = ((k + 1 : Nat) : Int) by omega]; exact hE
  | succ m ih =>
    intro i hi
    obtain ⟨e1, e2⟩ := get_of (l := d) (i := i) (by omega)
    have hb := hd _ e2
    obtain ⟨a, i1, i2⟩ := hD.int1 (n := d.length) (i := i) (z := (i : Nat)) (k := .i64) (x := gx d i) rfl (by omega) e1
    refine w10_13 ⟨fun _ => ⟨_, i1, _, i2, fun h => by omega, fun _ => ⟨_, i1, _, i2, w10_14 ⟨fun h => ?_, fun _ => ?_⟩⟩⟩, fun h => by omega⟩
    · have := of_decide_eq_true h; omega
    · rw [i64w (by omega), show ((i : Int) + 1) = ((i + 1 : Nat) : Int) by omega]
      exact ih (i + 1) (by omega)
theorem c10_12 {A D : Option Addr} {ca cd lt : Nat} {k : Nat} {lg lc : Nat} {a d : List Int} (ha : ∀ v ∈ a, -131072 ≤ v ∧ v ≤ 131072) (hal : a.length ≤ 8192) {M : Mem} (hA : Row M A (Ints a))
    (hE : A10_13 Y ny cy (n : Nat) (s : Nat) T lt ct G lg cg C lc cc (k : Nat) D d.length cd 0 M Tr10) :
    ∀ (m i : Nat), i + m = a.length → A10_12 Y ny cy (n : Nat) (s : Nat) T lt ct G lg cg C lc cc (k : Nat) A a.length ca D d.length cd (i : Nat) M Tr10 := by
  intro m
  induction m with
  | zero => intro i hi; exact w10_12 ⟨fun h => by omega, fun _ => hE⟩
  | succ m ih =>
    intro i hi
    obtain ⟨e1, e2⟩ := get_of (l := a) (i := i) (by omega)
    have hb := ha _ e2
    obtain ⟨q, i1, i2⟩ := hA.int1 (n := a.length) (i := i) (z := (i : Nat)) (k := .i64) (x := gx a i) rfl (by omega) e1
    refine w10_12 ⟨fun _ => ⟨_, i1, _, i2, Cn.eq (c22 (by omega)) ⟨_, rfl, fun h => by omega, fun _ => ?_⟩⟩, fun h => by omega⟩
    rw [i64w (by omega), show ((i : Int) + 1) = ((i + 1 : Nat) : Int) by omega]
    exact ih (i + 1) (by omega)
theorem c10_3 (hn : n = 4 ∨ n = 8 ∨ n = 16 ∨ n = 32 ∨ n = 64) (hs : s = sideN n) (hy : ny = y.length) (hyb : ny ≤ 1048576) (hg : g.length = s * s) (hgb : inB 1048576 g = true) :
    ∀ (m k : Nat) {M : Mem}, k + m = (typesS n).length → Bt M0 Y T G C n s y g M → A10_3 Y ny cy (n : Nat) (s : Nat) T (typesS n).length ct G g.length cg C g.length cc (k : Nat) M Tr10 := by
  have tl := typesS_le n
  intro m
  induction m with
  | zero => intro k M hk h; exact w10_3 ⟨fun h => by omega, fun _ => w10_4 ⟨fun h => (by cases h), fun _ => rfl⟩⟩
  | succ m ih =>
    intro k M hk h
    obtain ⟨e1, e2⟩ := get_of (l := typesS n) (i := k) (by omega)
    have n64 : n ≤ 64 := by omega
    obtain ⟨s1, s2, s3, s4, _, _⟩ := side_n hn
    rw [← hs] at s1 s2 s3 s4
    have hnn : n * n ≤ 64 * 64 := Nat.mul_le_mul n64 n64
    have hss : s * s ≤ 32 * 32 := Nat.mul_le_mul s4 s4
    have wn : IntKind.i64.wrap ((n : Int) * (n : Nat)) = ((n * n : Nat) : Int) := by rw [← Int.natCast_mul, i64w (by omega)]
    have ws : IntKind.i64.wrap ((s : Int) * (s : Nat)) = ((s * s : Nat) : Int) := by rw [← Int.natCast_mul, i64w (by omega)]
    obtain ⟨⟨a, b1, b2, b3, b4⟩, b5, d, b6, b7, b8⟩ := bounded8 hn e2 (by rw [← hs]; exact hg) hgb (blkL_len n 255 y) (blkL_in n 255 y)
    rw [← hs] at b5 b7
    generalize gx (typesS n) k = t at *
    have rd : ∀ {N : Mem}, Row N T (Ints (typesS n)) → ∃ a, idxA T (typesS n).length 1 (k : Nat) = some a ∧ N.intAt .i64 a.block a.off = some t := fun hR => hR.int1 rfl (by omega) e1
    have main : A10_4 Y ny cy (n : Nat) (s : Nat) T (typesS n).length ct G g.length cg C g.length cc (k : Nat) true M Tr10 := by
      obtain ⟨q1, i1, j1⟩ := rd h.tr
      refine w10_4 ⟨fun _ => ⟨_, i1, _, j1, Cn.mono (c12 (sz := n) (typ := t) (x := g) h.f h.gr rfl (by omega)) ?_⟩, fun h => (by cases h)⟩
      rw [b1]
      rintro _ N1 ⟨A1, c1, rfl, K1, O1, _⟩
      have h1 := h.next K1
      obtain ⟨q2, i2, j2⟩ := rd h1.tr
      refine ⟨_, rfl, _, rfl, _, rfl, _, i2, _, j2, Cn.mono (c12 (sz := n) (typ := t) (x := g.map clipS) h1.f h1.cr (by simp) (by omega)) ?_⟩
      rw [b2]
      rintro _ N2 ⟨A2, c2, rfl, K2, O2, _⟩
      have h2 := h1.next K2
      obtain ⟨q3, i3, j3⟩ := rd h2.tr
      obtain ⟨Z, N3, g1, g2, g3⟩ := madeG (M1 := N2) (k := s * s) (by omega)
      have h3 := h2.next g2
      refine ⟨_, rfl, _, rfl, _, rfl, _, i3, _, j3, ?_⟩
      rw [ws]
      refine ⟨_, g1, _, rfl, Cn.mono (c12 (sz := n) (typ := t) (x := List.replicate (s * s) 0) h3.f g3.row (by simp) (by dsimp only; omega)) ?_⟩
      rw [b5]
      rintro _ N4 ⟨A4, c4, rfl, K4, O4, _⟩
      have h4 := h3.next K4
      obtain ⟨q4, i4, j4⟩ := rd h4.tr
      refine ⟨_, rfl, _, rfl, _, rfl, _, i4, _, j4, Cn.mono (c18 (M0 := { N4 with floor := N4.nb.size }) (n := n) (m := 255) (y := y) (Nat.le_refl _) h4.yr hy hyb n64 (by decide)) ?_⟩
      rintro _ N5 ⟨A5, c5, rfl, K5, O5⟩
      have K5' : Keep N4 { N5 with floor := N4.floor } := K5.unfl
      have O5' : Own (fun j => N4.nb.size ≤ j) { N5 with floor := N4.floor } 3 A5 c5 (Ints (blkL n 255 y)) := O5
      refine ⟨_, rfl, ?_⟩
      generalize { N5 with floor := N4.floor } = N6 at K5' O5'
      have h6 := h4.next K5'
      refine Cn.mono (c16 (sz := n) (typ := t) (x := blkL n 255 y) h6.f O5'.row rfl (by rw [blkL_len]; omega)) ?_
      rw [b6]
      rintro _ N7 ⟨A7, c7, rfl, K7, O7, _⟩
      have h7 := h6.next K7
      have K27 := (g2.trans K4).trans (K5'.trans K7)
      refine ⟨_, rfl, _, rfl, _, rfl, fun h => absurd rfl h, fun _ => w10_5 ⟨fun h => (by cases h), fun _ => w10_6 ⟨fun h => (by cases h), fun _ => w10_7 ⟨fun h => (by cases h), fun _ => ?_⟩⟩⟩⟩
      refine Cn.eq (c19 (l := a) (l' := a) ((O1.row.keep K2).keep K27) (O2.row.keep K27) rfl rfl (by dsimp only; omega)) ⟨_, rfl, w10_8 ⟨fun h => (by simp at h), fun _ => w10_9 ⟨fun h => ?_, fun _ => w10_10 ⟨fun h => ?_, fun _ => ?_⟩⟩⟩⟩
      · rw [wn] at h
        dsimp only at h
        rw [b3] at h; simp at h
      · rw [ws] at h
        dsimp only at h
        rw [b7] at h; simp at h
      obtain ⟨Z8, N8, f1, f2, f3⟩ := madeG (M1 := N7) (k := n * n) (by omega)
      have h8 := h7.next f2
      rw [wn]
      refine ⟨_, f1, _, rfl, Cn.eq (c19 (l := List.replicate (n * n) 0) (l' := List.replicate (n * n) 0) ((O4.row.keep (K5'.trans K7)).keep f2) f3.row rfl (by simp) (by dsimp only; rw [List.length_replicate]; omega)) ⟨_, rfl, w10_11 ⟨fun h => (by simp at h), fun _ => ?_⟩⟩⟩
      refine c10_12 (a := a) (d := d) b4 (by omega) (((O1.row.keep K2).keep K27).keep f2) ?_ a.length 0 (Nat.zero_add _)
      exact c10_13 (by omega) b8 (by omega) (O7.row.keep f2) (ih (k + 1) (by omega) h8) d.length 0 (Nat.zero_add _)
    refine w10_3 ⟨fun _ => ⟨fun _ => main, fun h32 => ?_⟩, fun h => by omega⟩
    by_cases k0 : k = 0
    · subst k0; exact main
    · have e : (((k : Nat) : Int) == 0) = false := by simp; omega
      rw [e]
      exact w10_4 ⟨fun h => (by cases h), fun _ => rfl⟩
theorem c10_2 (hn : n = 4 ∨ n = 8 ∨ n = 16 ∨ n = 32 ∨ n = 64) (hs : s = sideN n) (hy : ny = y.length) (hyb : ny ≤ 1048576) (hg : g.length = s * s) (hgb : inB 1048576 g = true) (hf : M0.floor ≤ M0.nb.size) (hY : Row M0 Y (Ints y)) (hT : Row M0 T (Ints (typesS n))) (hG : Row M0 G (Ints g)) :
    ∀ (m i : Nat) {M : Mem}, i + m = g.length → Keep M0 M → Own (fun j => M0.nb.size ≤ j) M 3 C g.length (Ints (twoF (fun i => clipS (gx g i)) (fun _ => 0) g.length i)) → A10_2 Y ny cy (n : Nat) (s : Nat) T (typesS n).length ct G g.length cg C g.length g.length (i : Nat) M Tr10 := by
  obtain ⟨s1, s2, s3, s4, _, _⟩ := side_n hn
  have hss : s * s ≤ 32 * 32 := Nat.mul_le_mul (by omega) (by omega)
  intro m
  induction m with
  | zero =>
    intro i M hi K hO
    obtain rfl : g.length = i := by omega
    rw [twoF_n] at hO
    refine w10_2 ⟨fun h => by omega, fun _ => c10_3 (M0 := M0) hn hs hy hyb hg hgb _ 0 (Nat.zero_add _) ⟨hY.keep K, hT.keep K, hG.keep K, ?_, fb hf K⟩⟩
    have e : (List.range g.length).map (fun i => clipS (gx g i)) = g.map clipS := by
      refine List.ext_getElem? fun i => ?_
      by_cases hi : i < g.length
      · rw [List.getElem?_map, List.getElem?_range hi, List.getElem?_map, List.getElem?_eq_getElem hi]
        unfold gx; simp [hi]
      · rw [List.getElem?_eq_none (by simp; omega), List.getElem?_eq_none (by simp; omega)]
    rw [← e]; exact hO.row
  | succ m ih =>
    intro i M hi K hO
    obtain ⟨q, i1, i2⟩ := (hG.keep K).int1 (n := g.length) (i := i) (z := (i : Nat)) (k := .i64) (x := gx g i) rfl (by omega) (gx_at (by omega))
    obtain ⟨q2, p1, M', p2, p3, p4, p5⟩ := hO.put1 (fun j hj => by rw [K.floor]; exact Nat.le_trans hf hj) (n := g.length) (i := i) (z := (i : Nat)) (v := .int .i64 (clipS (gx g i))) rfl (by omega) (by rw [List.length_map, twoF_len]; omega) rfl
    have e := twoF_set (f := fun i => clipS (gx g i)) (g := fun _ => 0) (n := g.length) (i := i)
    rw [e] at p5
    refine w10_2 ⟨fun _ => ⟨_, i1, _, i2, _, p1, M', by rw [clip_e]; exact p2, ?_⟩, fun h => by omega⟩
    rw [i64w (by omega), show ((i : Int) + 1) = ((i + 1 : Nat) : Int) by omega]
    exact ih (i + 1) (by omega) (Keep.step K p3 fun j hj => hj) p5
end
theorem sizes5 {i : Nat} (h : i < 5) : ∃ n : Nat, (n = 4 ∨ n = 8 ∨ n = 16 ∨ n = 32 ∨ n = 64) ∧ (Ints [4, 8, 16, 32, 64])[i]? = some (.int .i64 (n : Nat)) := by
  match i, h with
  | 0, _ => exact ⟨4, by decide, rfl⟩
  | 1, _ => exact ⟨8, by decide, rfl⟩
  | 2, _ => exact ⟨16, by decide, rfl⟩
  | 3, _ => exact ⟨32, by decide, rfl⟩
  | 4, _ => exact ⟨64, by decide, rfl⟩
theorem c10 {M : Mem} (hf : M.floor ≤ M.nb.size) {A : Option Addr} {ny cy : Nat} {y : List Int} (hA : Row M A (Ints y)) (hy : ny = y.length) (hb : ny ≤ 1048576) {z : Int} (hz : -9223372036854775808 ≤ z ∧ z ≤ 9223372036854775807) : Cn Try.prog 10 #[.slice A ny cy, .int .i64 z] M Tr10 := by
  refine w10_0 (Cn.mono (c15 hf) ?_)
  rintro _ N1 ⟨rfl, K1⟩
  refine ⟨_, rfl, fun h => (by cases h), fun _ => ?_⟩
  obtain ⟨P, e1, E1, F1⟩ := fr N1 [4, 8, 16, 32, 64] (cs := #[.int .i64 4, .int .i64 8, .int .i64 16, .int .i64 32, .int .i64 64]) rfl
  rw [e1]
  refine Cn.eq (c20 hz (by decide)) ⟨_, rfl, ?_⟩
  have hbr : 0 ≤ brg z 5 ∧ brg z 5 < 5 := by
    unfold brg; rw [if_neg (by decide)]
    exact ⟨Int.emod_nonneg _ (by decide), Int.emod_lt_of_pos _ (by decide)⟩
  generalize brg z 5 = b at hbr ⊢
  obtain ⟨w, rfl⟩ := Int.eq_ofNat_of_zero_le hbr.1
  obtain ⟨n, hn, hat⟩ := sizes5 (i := w) (by omega)
  obtain ⟨q, i1, i2⟩ := F1.int1 (n := 5) (i := w) (z := (w : Nat)) (k := .i64) (x := (n : Nat)) rfl (by omega) hat
  have K2 := K1.trans E1
  refine ⟨_, i1, _, i2, Cn.mono (c24 (fb hf K2)) ?_⟩
  rintro _ N3 ⟨rfl, K3⟩
  have K03 := K2.trans K3
  obtain ⟨s1, s2, s3, s4, s5, s6⟩ := side_n hn
  rw [s5, s6]
  have hss : sideN n * sideN n ≤ 32 * 32 := Nat.mul_le_mul s4 s4
  refine ⟨_, rfl, _, rfl, _, rfl, fun h => absurd rfl h, fun _ => ⟨fun h => by omega, fun _ => w10_1 ⟨fun h => ?_, fun _ => ?_⟩⟩⟩
  · have := of_decide_eq_true h; omega
  refine Cn.mono (c23 (fb hf K03)) ?_
  rintro _ N4 ⟨T, ct, rfl, K4, O4⟩
  have K04 := K03.trans K4
  refine ⟨_, rfl, Cn.mono (c18 (n := sideN n) (m := 1048576) (y := y) (fb hf K04) (hA.keep K04) hy hb (by omega) (by decide)) ?_⟩
  rintro _ N5 ⟨G, cg, rfl, K5, O5⟩
  have K05 := K04.trans K5
  have gl := blkL_len (sideN n) 1048576 y
  have gi := blkL_in (sideN n) 1048576 y
  generalize blkL (sideN n) 1048576 y = g at *
  obtain ⟨C, N6, g1, g2, g3⟩ := madeG (M1 := N5) (k := g.length) (by omega)
  refine ⟨_, rfl, _, g1, _, rfl, ?_⟩
  rw [zeros, ← twoF_0 (f := fun i => clipS (gx g i))] at g3
  exact c10_2 (M0 := N5) hn rfl hy hb gl gi (fb hf K05) (hA.keep K05) (O4.row.keep K5) O5.row g.length 0 (Nat.zero_add _) g2 g3
theorem law10 {W : World} {u0 u1 : Value} (s0 : Sees Try.prog (mem0 W) 1048576 8 22 [u0]) (s1 : Sees Try.prog (mem0 W) 1048576 8 3 [u1]) : Cn Try.prog 10 #[u0, u1] (mem0 W) fun v _ => v = .bool true := by
  obtain ⟨A, n, c, l, e, h1, h2, h3, h4, _⟩ := sees_ints (e := 3) (by kernel_rfl) (by kernel_rfl) s0
  obtain ⟨z, e1, hz⟩ := sees_int (q := .i64) (by kernel_rfl) s1
  obtain rfl : u0 = _ := by simpa using e
  obtain rfl : u1 = _ := by simpa using e1
  exact c10 (Nat.zero_le _) h4 h1 h3 (wf_i64 hz)
end Go.Zt

