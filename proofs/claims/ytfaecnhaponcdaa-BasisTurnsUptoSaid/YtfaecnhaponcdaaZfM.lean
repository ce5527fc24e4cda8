/- Layer 7: BasisAdds. -/
import Derived.Test.YtfaecnhaponcdaaZfK
import Derived.Test.YtfaecnhaponcdaaZfDd
set_option linter.unusedSimpArgs false
set_option linter.unusedVariables false
namespace Go.Zt
open Go Go.Sim Go.Proofs Go.RowKit

def sumS (x y : List Int) : List Int := (List.range x.length).map fun i => gx x i + gx y i
theorem sumS_len (x y : List Int) : (sumS x y).length = x.length := by simp [sumS]
theorem gx_map {f : Nat → Int} {n i : Nat} (h : i < n) : gx ((List.range n).map f) i = f i := by
  unfold gx; rw [List.getD_eq_getElem?_getD, List.getElem?_map, List.getElem?_range h]; rfl
theorem gx_sum {x y : List Int} {i : Nat} (h : i < x.length) : gx (sumS x y) i = gx x i + gx y i := gx_map h
theorem dot_congr {f g : Nat → Int} : ∀ {n : Nat}, (∀ i, i < n → f i = g i) → dot f n = dot g n
  | 0, _ => rfl
  | n + 1, h => by simp only [dot]; rw [dot_congr fun i hi => h i (by omega), h n (by omega)]
theorem dot_add {f g : Nat → Int} : ∀ {n : Nat}, dot (fun i => f i + g i) n = dot f n + dot g n
  | 0 => rfl
  | n + 1 => by simp only [dot]; rw [dot_add (f := f)]; omega
theorem rnd_add {a b : Int} : -1 ≤ rnd (a + b) - (rnd a + rnd b) ∧ rnd (a + b) - (rnd a + rnd b) ≤ 1 := by unfold rnd; omega
theorem within_sum {m : Nat} {x y : List Int} (hx : Within m x) (hy : Within m y) : Within (2 * m) (sumS x y) := by
  intro v hv
  obtain ⟨i, _, rfl⟩ := List.mem_map.1 hv
  have := gx_within hx i
  have := gx_within hy i
  omega
/-- Alike up to one. -/
def Near1 (x y : List Int) : Prop := x.length = y.length ∧ ∀ i, i < x.length → -1 ≤ gx x i - gx y i ∧ gx x i - gx y i ≤ 1
theorem adds {k : Nat} (hk : k < 3) {x y : List Int} (hl : lenB (k : Nat) x.length = true) (hxy : y.length = x.length) (hx : Within 524288 x) (hy : Within 524288 y) :
    ∃ f g h, fwdQ (k : Nat) x = (f, 0) ∧ fwdQ (k : Nat) y = (g, 0) ∧ fwdQ (k : Nat) (sumS x y) = (h, 0) ∧ f.length = x.length ∧ g.length = x.length ∧ Near1 h (sumS f g) ∧ Within 17179869184 f ∧ Within 17179869184 g ∧ Within 17179869184 h := by
  have h64 := lenB_le hl
  have hm := mayB_of hl (by decide) hx
  have hm2 := mayB_of (kind := (k : Nat)) (x := y) (by rw [hxy]; exact hl) (by decide) hy
  have hm3 := mayB_of (kind := (k : Nat)) (x := sumS x y) (by rw [sumS_len]; exact hl) (by decide) (within_sum hx hy)
  unfold fwdQ
  rw [hm, hm2, hm3, Int.toNat_natCast]
  have big : ∀ {z : List Int}, Within 1048576 z → z.length ≤ 64 → Within 17179869184 ((List.range z.length).map (fwdK k z)) := by
    intro z hz hzl v hv
    obtain ⟨i, _, rfl⟩ := List.mem_map.1 hv
    have h1 := dot_b (m := z.length) (B := 1048576 * 16384) (f := fun j => gx z j * wS k z.length i j) fun j _ => mulb (gx_within hz j) (wS_b ..)
    unfold fwdK rnd
    have h2 : z.length * (1048576 * 16384) ≤ 1099511627776 := by omega
    generalize z.length * (1048576 * 16384) = q at h1 h2
    omega
  have wide : ∀ {z : List Int}, Within 524288 z → Within 1048576 z := fun h v hv => by have := h v hv; omega
  have e : ∀ z, fwdS k z = (List.range z.length).map (fwdK k z) := fun z => by unfold fwdS; rw [if_neg (by omega)]
  rw [e, e, e]
  refine ⟨_, _, _, rfl, rfl, rfl, by simp, by simp [hxy], ⟨by simp [sumS], fun i hi => ?_⟩, big (wide hx) h64.2, big (wide hy) (by omega), big (within_sum hx hy) (by rw [sumS_len]; exact h64.2)⟩
  simp only [List.length_map, List.length_range, sumS_len] at hi
  rw [gx_map (by rw [sumS_len]; exact hi), gx_sum (by simpa using hi), gx_map hi, gx_map (by omega)]
  unfold fwdK
  rw [sumS_len, hxy, dot_congr (g := fun j => gx x j * wS k x.length i j + gx y j * wS k x.length i j) (fun j hj => by rw [gx_sum hj, Int.add_mul]), dot_add]
  exact rnd_add
theorem addsI {k : Nat} (hk : k < 3) {x y : List Int} (hl : lenB (k : Nat) x.length = true) (hxy : y.length = x.length) (hx : Within 524288 x) (hy : Within 524288 y) :
    ∃ f g h, invQ (k : Nat) x = (f, 0) ∧ invQ (k : Nat) y = (g, 0) ∧ invQ (k : Nat) (sumS x y) = (h, 0) ∧ f.length = x.length ∧ g.length = x.length ∧ Near1 h (sumS f g) ∧ Within 17179869184 f ∧ Within 17179869184 g ∧ Within 17179869184 h := by
  have h64 := lenB_le hl
  have hm := mayB_of hl (by decide) hx
  have hm2 := mayB_of (kind := (k : Nat)) (x := y) (by rw [hxy]; exact hl) (by decide) hy
  have hm3 := mayB_of (kind := (k : Nat)) (x := sumS x y) (by rw [sumS_len]; exact hl) (by decide) (within_sum hx hy)
  unfold invQ
  rw [hm, hm2, hm3, Int.toNat_natCast]
  have big : ∀ {z : List Int}, Within 1048576 z → z.length ≤ 64 → Within 17179869184 ((List.range z.length).map (invK k z)) := by
    intro z hz hzl v hv
    obtain ⟨i, _, rfl⟩ := List.mem_map.1 hv
    have h1 := dot_b (m := z.length) (B := 1048576 * 16384) (f := fun j => gx z j * wS k z.length j i) fun j _ => mulb (gx_within hz j) (wS_b ..)
    unfold invK rnd
    have h2 : z.length * (1048576 * 16384) ≤ 1099511627776 := by omega
    generalize z.length * (1048576 * 16384) = q at h1 h2
    omega
  have wide : ∀ {z : List Int}, Within 524288 z → Within 1048576 z := fun h v hv => by have := h v hv; omega
  have e : ∀ z, invS k z = (List.range z.length).map (invK k z) := fun z => by unfold invS; rw [if_neg (by omega)]
  rw [e, e, e]
  refine ⟨_, _, _, rfl, rfl, rfl, by simp, by simp [hxy], ⟨by simp [sumS], fun i hi => ?_⟩, big (wide hx) h64.2, big (wide hy) (by omega), big (within_sum hx hy) (by rw [sumS_len]; exact h64.2)⟩
  simp only [List.length_map, List.length_range, sumS_len] at hi
  rw [gx_map (by rw [sumS_len]; exact hi), gx_sum (by simpa using hi), gx_map hi, gx_map (by omega)]
  unfold invK
  rw [sumS_len, hxy, dot_congr (g := fun j => gx x j * wS k x.length j i + gx y j * wS k x.length j i) (fun j hj => by rw [gx_sum hj, Int.add_mul]), dot_add]
  exact rnd_add
theorem c19 {M0 : Mem} (hf : M0.floor ≤ M0.nb.size) {A B : Option Addr} {n c d : Nat} {x y : List Int} (hA : Row M0 A (Ints x)) (hB : Row M0 B (Ints y)) (hn : n = x.length) (hn2 : n = y.length) (hb : n ≤ 1024) (hx : Within 17179869184 x) (hy : Within 17179869184 y) :
    Cn Try.prog 19 #[.slice A n c, .slice B n d] M0 fun v N => ∃ A' c', v = .slice A' n c' ∧ Keep M0 N ∧ Own (fun j => M0.nb.size ≤ j) N 3 A' c' (Ints (sumS x y)) := by
  have loop : ∀ (m i : Nat) (Ao : Option Addr) (co : Nat) {M : Mem}, i + m = n → Keep M0 M → Own (fun j => M0.nb.size ≤ j) M 3 Ao co (Ints ((List.range i).map fun i => gx x i + gx y i)) →
      A19_1 A n c B n d Ao i co (i : Nat) M fun v N => ∃ A' c', v = .slice A' n c' ∧ Keep M0 N ∧ Own (fun j => M0.nb.size ≤ j) N 3 A' c' (Ints (sumS x y)) := by
    intro m
    induction m with
    | zero =>
      intro i Ao co M hi K hO
      obtain rfl : n = i := by omega
      refine w19_1 ⟨fun h => by omega, fun _ => w19_2 ⟨fun h => (by cases h), fun _ => ⟨Ao, co, rfl, K, ?_⟩⟩⟩
      unfold sumS; rw [← hn]; exact hO
    | succ m ih =>
      intro i Ao co M hi K hO
      obtain ⟨a, i1, i2⟩ := (hA.keep K).int1 (n := n) (i := i) (z := i) (k := .i64) (x := gx x i) rfl (by omega) (gx_at (by omega))
      obtain ⟨b, j1, j2⟩ := (hB.keep K).int1 (n := n) (i := i) (z := i) (k := .i64) (x := gx y i) rfl (by omega) (gx_at (by omega))
      have bx := gx_within hx i
      have by' := gx_within hy i
      obtain ⟨A', c', N, g1, g2, g3, g4⟩ := app1 el22 hf K hO (n := i) (by simp) (v := .int .i64 (gx x i + gx y i)) rfl (by omega)
      refine w19_1 ⟨fun _ => ?_, fun h => by omega⟩
      rw [decide_eq_true (by omega)]
      refine w19_2 ⟨fun _ => ⟨_, i1, _, i2, _, j1, _, j2, ?_⟩, fun h => (by cases h)⟩
      rw [i64w (x := gx x i + gx y i) (by omega)]
      refine ⟨_, g1, _, rfl, ?_⟩
      rw [i64w (by omega), show ((i : Int) + 1) = ((i + 1 : Nat) : Int) by omega]
      refine ih (i + 1) A' c' (by omega) g2 ?_
      rw [List.range_succ, List.map_append, Ints, List.map_append]; exact g3
  exact w19_0 (loop n 0 none 0 (Nat.zero_add _) (.refl _) Own.empty)
theorem c20 {M : Mem} {A B : Option Addr} {n c d : Nat} {x y : List Int} (hA : Row M A (Ints x)) (hB : Row M B (Ints y)) (hn : n = x.length) (hb : n ≤ 1024) (h : Near1 x y) :
    Cn Try.prog 20 #[.slice A n c, .slice B n d] M fun v N => v = .bool true ∧ N = M := by
  have loop : ∀ (m i : Nat), i + m = n → A20_1 A n c B n d (i : Nat) M fun v N => v = .bool true ∧ N = M := by
    intro m
    induction m with
    | zero => exact fun i hi => w20_1 ⟨fun h => by omega, fun _ => ⟨rfl, rfl⟩⟩
    | succ m ih =>
      intro i hi
      have := h.1
      obtain ⟨a, i1, i2⟩ := hA.int1 (n := n) (i := i) (z := i) (k := .i64) (x := gx x i) rfl (by omega) (gx_at (by omega))
      obtain ⟨b, j1, j2⟩ := hB.int1 (n := n) (i := i) (z := i) (k := .i64) (x := gx y i) rfl (by omega) (gx_at (by omega))
      have hd := h.2 i (by omega)
      refine w20_1 ⟨fun _ => ⟨_, i1, _, i2, _, j1, _, j2, ?_⟩, fun h => by omega⟩
      rw [i64w (x := gx x i - gx y i) (by omega)]
      refine Cn.eq (c17 (by omega)) ⟨_, rfl, fun h => by omega, fun _ => ?_⟩
      rw [i64w (by omega), show ((i : Int) + 1) = ((i + 1 : Nat) : Int) by omega]
      exact ih (i + 1) (by omega)
  exact w20_0 ⟨fun h => absurd rfl h, fun _ => loop n 0 (Nat.zero_add _)⟩
section
variable {M0 : Mem} {A B : Option Addr} {n0 c0 n1 c1 : Nat} {y0 y1 : List Int} {t : Int}
theorem c6_loop (hf : M0.floor ≤ M0.nb.size) (hA : Row M0 A (Ints y0)) (hn : n0 = y0.length) (hb0 : n0 ≤ 1048576) (hB : Row M0 B (Ints y1)) (hn1 : n1 = y1.length) (hb1 : n1 ≤ 1048576) (ht : -9223372036854775808 ≤ t ∧ t ≤ 9223372036854775807) :
    ∀ (m k : Nat) {M : Mem}, k + m = 3 → Keep M0 M → A6_1 A n0 c0 B n1 c1 t (k : Nat) M Tr := by
  intro m
  induction m with
  | zero =>
    intro k M hk K
    exact w6_1 ⟨fun h => by omega, fun _ => rfl⟩
  | succ m ih =>
    intro k M hk K
    refine w6_1 ⟨fun _ => Cn.mono (c16 (fb hf K)) ?_, fun h => by omega⟩
    rintro _ N ⟨L, rfl, K1, hL⟩
    have K01 := K.trans K1
    have hb := lens_b k
    refine ⟨_, rfl, Cn.eq (c18 ht (by show ((lensN k).length : Int) ≤ _; omega)) ⟨_, rfl, ?_⟩⟩
    have hbr : 0 ≤ brg t ((lensN k).length : Int) ∧ brg t ((lensN k).length : Int) < ((lensN k).length : Int) := by
      unfold brg; rw [if_neg (by omega)]
      exact ⟨Int.emod_nonneg _ (by omega), Int.emod_lt_of_pos _ (by omega)⟩
    obtain ⟨j, hj⟩ := Int.eq_ofNat_of_zero_le hbr.1
    show ∃ a7', idxA L (lensN k).length 1 (brg t ((lensN k).length : Int)) = some a7' ∧ _
    rw [hj] at hbr ⊢
    have hjl : j < (lensN k).length := by omega
    have hjn : (lensN k)[j]? = some (lensN k)[j] := by simp [hjl]
    have lj : (Ints (lensI k))[j]? = some (.int .i64 ((lensN k)[j] : Nat)) := by rw [List.getElem?_map, lensI, List.getElem?_map, hjn]; rfl
    generalize (lensN k)[j] = n at hjn lj
    have hl := lens_ok (Or.inl (by omega)) hjn
    have h64 := lenB_le hl
    obtain ⟨a, i1, i2⟩ := hL.int1 (n := (lensN k).length) (i := j) (z := j) (k := .i64) (x := (n : Nat)) rfl (by omega) lj
    refine ⟨_, i1, _, i2, Cn.mono (c12 (n := n) (m := 524288) (fb hf K01) (hA.keep K01) hn hb0 (by omega) (by decide)) ?_⟩
    rintro _ N2 ⟨A2, c2, x, rfl, hxl, hx, K2, O2⟩
    have K02 := K01.trans K2
    refine ⟨_, rfl, Cn.mono (c12 (n := n) (m := 524288) (fb hf K02) (hB.keep K02) hn1 hb1 (by omega) (by decide)) ?_⟩
    rintro _ N3 ⟨A3, c3, y, rfl, hyl, hy, K3, O3⟩
    have K03 := K02.trans K3
    subst hxl
    obtain ⟨f, g, h, e1, e2, e3, f1, f2, f3, f4, f5, f6⟩ := adds (by omega) hl hyl hx hy
    obtain ⟨f', g', h', e1', e2', e3', f1', f2', f3', f4', f5', f6'⟩ := addsI (by omega) hl hyl hx hy
    have wx : Within 17179869184 x := fun v hv => by have := hx v hv; omega
    have wy : Within 17179869184 y := fun v hv => by have := hy v hv; omega
    have Rx := O2.row.keep K3
    refine ⟨_, rfl, Cn.mono (c14 (n := x.length) (kind := (k : Nat)) (x := x) (fb hf K03) Rx rfl (by omega)) ?_⟩
    rw [e1']
    rintro _ N4 ⟨A4, c4, rfl, K4, O4, _⟩
    have K04 := K03.trans K4
    have Rx4 := Rx.keep K4
    have Ry4 := O3.row.keep K4
    refine ⟨_, rfl, _, rfl, _, rfl, Cn.mono (c14 (n := x.length) (kind := (k : Nat)) (x := y) (fb hf K04) Ry4 hyl.symm (by omega)) ?_⟩
    rw [e2']
    rintro _ N5 ⟨A5, c5, rfl, K5, O5, _⟩
    have K05 := K04.trans K5
    have Rx5 := Rx4.keep K5
    have Ry5 := Ry4.keep K5
    refine ⟨_, rfl, _, rfl, _, rfl, Cn.mono (c19 (n := x.length) (fb hf K05) Rx5 Ry5 rfl hyl.symm (by omega) wx wy) ?_⟩
    rintro _ N6 ⟨A6, c6, rfl, K6, O6⟩
    have K06 := K05.trans K6
    refine ⟨_, rfl, Cn.mono (c14 (n := x.length) (kind := (k : Nat)) (x := sumS x y) (fb hf K06) O6.row (sumS_len x y).symm (by omega)) ?_⟩
    rw [e3']
    rintro _ N7 ⟨A7, c7, rfl, K7, O7, _⟩
    have K07 := K06.trans K7
    have Rf7 := ((O4.row.keep K5).keep K6).keep K7
    have Rg7 := (O5.row.keep K6).keep K7
    have Rx7 := (Rx5.keep K6).keep K7
    have Ry7 := (Ry5.keep K6).keep K7
    dsimp only at Rf7 Rg7
    refine ⟨_, rfl, _, rfl, _, rfl, fun h => absurd rfl h, fun _ => w6_2 ⟨fun h => (by cases h), fun _ => w6_3 ⟨fun h => (by cases h), fun _ => ?_⟩⟩⟩
    dsimp only
    rw [f1', f2', show h'.length = x.length by rw [f3'.1, sumS_len, f1']]
    refine Cn.mono (c19 (n := x.length) (fb hf K07) Rf7 Rg7 f1'.symm f2'.symm (by omega) f4' f5') ?_
    rintro _ N8 ⟨A8, c8, rfl, K8, O8⟩
    have K08 := K07.trans K8
    refine ⟨_, rfl, Cn.eq (c20 (n := x.length) (O7.row.keep K8) O8.row (by show _ = h'.length; rw [f3'.1, sumS_len, f1']) (by omega) f3') ⟨_, rfl, w6_4 ⟨fun h => (by cases h), fun _ => ?_⟩⟩⟩
    have Rx8 := Rx7.keep K8
    have Ry8 := Ry7.keep K8
    refine Cn.mono (c13 (n := x.length) (kind := (k : Nat)) (x := x) (fb hf K08) Rx8 rfl (by omega)) ?_
    rw [e1]
    rintro _ N9 ⟨A9, c9, rfl, K9, O9, _⟩
    have K09 := K08.trans K9
    have Rx9 := Rx8.keep K9
    have Ry9 := Ry8.keep K9
    refine ⟨_, rfl, _, rfl, _, rfl, Cn.mono (c13 (n := x.length) (kind := (k : Nat)) (x := y) (fb hf K09) Ry9 hyl.symm (by omega)) ?_⟩
    rw [e2]
    rintro _ Na ⟨Aa, ca, rfl, Ka, Oa, _⟩
    have K0a := K09.trans Ka
    refine ⟨_, rfl, _, rfl, _, rfl, Cn.mono (c19 (n := x.length) (fb hf K0a) (Rx9.keep Ka) (Ry9.keep Ka) rfl hyl.symm (by omega) wx wy) ?_⟩
    rintro _ Nb ⟨Ab, cb, rfl, Kb, Ob⟩
    have K0b := K0a.trans Kb
    refine ⟨_, rfl, Cn.mono (c13 (n := x.length) (kind := (k : Nat)) (x := sumS x y) (fb hf K0b) Ob.row (sumS_len x y).symm (by omega)) ?_⟩
    rw [e3]
    rintro _ Nc ⟨Ac, cc, rfl, Kc, Oc, _⟩
    have K0c := K0b.trans Kc
    have Rf := ((O9.row.keep Ka).keep Kb).keep Kc
    have Rg := (Oa.row.keep Kb).keep Kc
    dsimp only at Rf Rg
    refine ⟨_, rfl, _, rfl, _, rfl, fun h => absurd rfl h, fun _ => w6_5 ⟨fun h => (by cases h), fun _ => w6_6 ⟨fun h => (by cases h), fun _ => ?_⟩⟩⟩
    dsimp only
    rw [f1, f2, show h.length = x.length by rw [f3.1, sumS_len, f1]]
    refine Cn.mono (c19 (n := x.length) (fb hf K0c) Rf Rg f1.symm f2.symm (by omega) f4 f5) ?_
    rintro _ Nd ⟨Ad, cd, rfl, Kd, Od⟩
    have K0d := K0c.trans Kd
    refine ⟨_, rfl, Cn.eq (c20 (n := x.length) (Oc.row.keep Kd) Od.row (by show _ = h.length; rw [f3.1, sumS_len, f1]) (by omega) f3) ⟨_, rfl, w6_7 ⟨fun h => (by cases h), fun _ => ?_⟩⟩⟩
    rw [i64w (by omega), show ((k : Int) + 1) = ((k + 1 : Nat) : Int) by omega]
    exact ih (k + 1) (by omega) K0d
end
theorem wf_i64 {x : Int} (h : (Lit.int .i64 x).wf = true) : -9223372036854775808 ≤ x ∧ x ≤ 9223372036854775807 := by
  simp [Lit.wf, IntKind.min, IntKind.max, IntKind.signed, IntKind.bits] at h
  omega
theorem law6 {W : World} {u0 u1 u2 : Value} (s0 : Sees Try.prog (mem0 W) 1048576 8 22 [u0]) (s1 : Sees Try.prog (mem0 W) 1048576 8 22 [u1]) (s2 : Sees Try.prog (mem0 W) 1048576 8 3 [u2]) : Cn Try.prog 6 #[u0, u1, u2] (mem0 W) fun v _ => v = .bool true := by
  obtain ⟨A, n, c, l, e, h1, h2, h3, h4, _⟩ := sees_ints (e := 3) (by kernel_rfl) (by kernel_rfl) s0
  obtain rfl : u0 = _ := by simpa using e
  obtain ⟨A1, n1, c1, l1, e, g1, g2, g3, g4, _⟩ := sees_ints (e := 3) (by kernel_rfl) (by kernel_rfl) s1
  obtain rfl : u1 = _ := by simpa using e
  obtain ⟨t, e, ht⟩ := sees_int (q := .i64) (by kernel_rfl) s2
  obtain rfl : u2 = _ := by simpa using e
  refine w6_0 (Cn.mono (c11 (Nat.zero_le _)) ?_)
  rintro _ N1 ⟨rfl, K1⟩
  exact ⟨_, rfl, fun h => (by cases h), fun _ => c6_loop (M0 := mem0 W) (Nat.zero_le _) h4 h1 h3 g4 g1 g3 (wf_i64 ht) 3 0 rfl K1⟩
end Go.Zt
