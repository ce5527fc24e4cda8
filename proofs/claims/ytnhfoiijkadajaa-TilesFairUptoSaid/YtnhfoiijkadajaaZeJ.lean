/- Layer 21: TilesFair. -/
import Derived.Test.YtnhfoiijkadajaaZeI
import Derived.Test.YtnhfoiijkadajaaZeBe
set_option linter.unusedSimpArgs false
set_option linter.unusedVariables false
namespace Go.Zt
open Go Go.Sim Go.Proofs Go.RowKit

def undP (l0 l : List Int) (k : Nat) : Bool := decide (0 < gx l k ∧ gx l k < gx l0 k)
def cntU (l0 l : List Int) (i : Nat) : Nat := ((List.range i).filter (undP l0 l)).length
theorem cntU_succ (l0 l : List Int) (i : Nat) : cntU l0 l (i + 1) = cntU l0 l i + if undP l0 l i then 1 else 0 := by
  unfold cntU
  rw [List.range_succ, List.filter_append, List.length_append]
  cases h : undP l0 l i <;> simp [h]
theorem cnt_le {l0 l : List Int} {nx : Nat} (h : ∀ i, nx ≤ i → gx l i = gx l0 i) : ∀ i, cntU l0 l i ≤ (U l (min i nx)).length
  | 0 => by simp [cntU]
  | i + 1 => by
    have ih := cnt_le h i
    rw [cntU_succ]
    by_cases hi : i < nx
    · rw [show min (i + 1) nx = min i nx + 1 by omega, U_succ, show min i nx = i by omega] at *
      by_cases hp : undP l0 l i = true
      · rw [if_pos hp]
        have := (of_decide_eq_true hp).1
        rw [if_pos this, List.length_append]
        simp at *; omega
      · rw [if_neg hp]; split
        · rw [List.length_append]; omega
        · omega
    · rw [show min (i + 1) nx = min i nx by omega]
      have hp : undP l0 l i = false := by
        unfold undP; refine decide_eq_false ?_
        rw [h i (by omega)]; omega
      rw [hp]; simpa using ih
section
variable {M0 : Mem} {A O B : Option Addr} {cA cO cB w : Nat} {picks l0 : List Int}
abbrev Tr4 : Value → Mem → Prop := fun v _ => v = .bool true
theorem c4_7 {l : List Int} {lO : Nat} (hw : w ≤ 64) (hl : l.length = l0.length) (hb : l0.length ≤ 30) {M : Mem} (hA : Row M A (Ints l0)) (hB : Row M B (Ints l)) {x13 : Int} (hc : cntU l0 l l.length ≤ w)
    (hE : A4_4 (w : Nat) A l0.length cA O lO cO B l.length cB (IntKind.i64.wrap (x13 + 1)) M Tr4) :
    ∀ (m i : Nat), i + m = l.length → A4_7 (w : Nat) A l0.length cA O lO cO B l.length cB x13 (cntU l0 l i : Nat) (i : Nat) M Tr4 := by
  intro m
  induction m with
  | zero =>
    intro i hi
    obtain rfl : l.length = i := by omega
    exact w4_7 ⟨fun h => by omega, fun _ => ⟨fun h => by omega, fun _ => hE⟩⟩
  | succ m ih =>
    intro i hi
    have hle : cntU l0 l i ≤ i := by
      have := List.length_filter_le (undP l0 l) (List.range i)
      rw [List.length_range] at this; exact this
    obtain ⟨a, i1, i2⟩ := hB.int1 (n := l.length) (i := i) (z := (i : Nat)) (k := .i64) (x := gx l i) rfl (by omega) (gx_at (by omega))
    obtain ⟨b, j1, j2⟩ := hA.int1 (n := l0.length) (i := i) (z := (i : Nat)) (k := .i64) (x := gx l0 i) rfl (by omega) (gx_at (by omega))
    have key : ∀ b, b = undP l0 l i → A4_8 (w : Nat) A l0.length cA O lO cO B l.length cB x13 (cntU l0 l i : Nat) (i : Nat) b M Tr4 := by
      rintro b rfl
      have ih' := ih (i + 1) (by omega)
      rw [cntU_succ] at ih'
      refine w4_8 ⟨fun h => w4_9 ?_, fun h => w4_9 ?_⟩
      · rw [if_pos h] at ih'
        rw [i64w (by omega), i64w (by omega), show ((i : Int) + 1) = ((i + 1 : Nat) : Int) by omega, show ((cntU l0 l i : Nat) : Int) + 1 = ((cntU l0 l i + 1 : Nat) : Int) by omega]
        exact ih'
      · rw [if_neg (by rw [h]; decide)] at ih'
        rw [i64w (by omega), show ((i : Int) + 1) = ((i + 1 : Nat) : Int) by omega]
        exact ih'
    refine w4_7 ⟨fun _ => ⟨_, i1, _, i2, fun hp => ⟨_, i1, _, i2, _, j1, _, j2, key _ ?_⟩, fun hp => key _ ?_⟩, fun h => by omega⟩
    · unfold undP; rw [decide_eq_decide]; omega
    · unfold undP; rw [eq_comm]; exact decide_eq_false (by omega)
theorem c4_6 {l : List Int} (hb : l.length ≤ 30) {M : Mem} (hB : Row M B (Ints l)) (hz : ∀ i, i < l.length → gx l i = 0) : ∀ (m i : Nat), i + m = l.length → A4_6 B l.length cB (i : Nat) M Tr4 := by
  intro m
  induction m with
  | zero => intro i hi; exact w4_6 ⟨fun h => by omega, fun _ => rfl⟩
  | succ m ih =>
    intro i hi
    obtain ⟨a, i1, i2⟩ := hB.int1 (n := l.length) (i := i) (z := (i : Nat)) (k := .i64) (x := gx l i) rfl (by omega) (gx_at (by omega))
    refine w4_6 ⟨fun _ => ⟨_, i1, _, i2, fun h => absurd (hz i (by omega)) h, fun _ => ?_⟩, fun h => by omega⟩
    rw [i64w (by omega), show ((i : Int) + 1) = ((i + 1 : Nat) : Int) by omega]
    exact ih (i + 1) (by omega)
theorem c4_4 (hf : M0.floor ≤ M0.nb.size) (hw : 1 ≤ w ∧ w ≤ 64) (hb : l0.length ≤ 30) (hA : Row M0 A (Ints l0)) {os : List Int} (hO : Row M0 O (Ints os)) (hob : os.length ≤ 65536) :
    ∀ (m : Nat) (pre l : List Int) (k nx : Nat) {M : Mem}, os = pre ++ runP w picks m l k nx → pre.length = k → l.length = l0.length → Ts w l m nx → (∀ i, nx ≤ i → gx l i = gx l0 i) → Keep M0 M → Own (fun j => M0.nb.size ≤ j) M 3 B cB (Ints l) →
    A4_4 (w : Nat) A l0.length cA O os.length cO B l.length cB (k : Nat) M Tr4 := by
  intro m
  induction m with
  | zero =>
    intro pre l k nx M ho hk hl hT hbg K h
    have hol : os.length = k := by rw [ho, List.length_append, runP_len]; omega
    refine w4_4 ⟨fun hh => by omega, fun _ => c4_6 (by omega) h.row (fun i hi => ?_) l.length 0 (Nat.zero_add _)⟩
    have h1 := hT.nn i
    have h2 := hT.le_sum i
    omega
  | succ m ih =>
    intro pre l k nx M ho hk hl hT hbg K h
    obtain ⟨a1, a2, a3, a4⟩ := hT.fill
    have hne : (U l (nxT w l nx)).length ≠ 0 := fun hh => by have := (hT.none (by omega)).1 hh; omega
    have hu : 0 < (U l (nxT w l nx)).length := by omega
    have hpl := pick_lt (picks := picks) (k := k) hu
    rw [runP_succ] at ho
    generalize hpp : pickT picks k (U l (nxT w l nx)).length = p at *
    have et : (U l (nxT w l nx)).getD p 0 = (U l (nxT w l nx))[p] := by rw [List.getD_eq_getElem?_getD, List.getElem?_eq_getElem hpl]; rfl
    rw [et] at ho
    have hm := U_mem.1 (List.getElem_mem hpl)
    have hT' := hT.next hpl
    generalize ht : (U l (nxT w l nx))[p] = t at *
    have htl : t < l.length := by omega
    have hsum := hT.le_sum t
    have hol : os.length = k + (m + 1) := by rw [ho, List.length_append, List.length_cons, runP_len]; omega
    have hat : (Ints os)[k]? = some (.int .i64 (t : Nat)) := by
      rw [ho, List.getElem?_map, List.getElem?_append_right (by omega), hk, Nat.sub_self]; rfl
    obtain ⟨a, i1, i2⟩ := (hO.keep K).int1 (n := os.length) (i := k) (z := (k : Nat)) (k := .i64) (x := (t : Nat)) rfl (by omega) hat
    obtain ⟨b, j1, j2⟩ := h.row.int1 (n := l.length) (i := t) (z := (t : Nat)) (k := .i64) (x := gx l t) rfl htl (gx_at htl)
    obtain ⟨q, q1, M', q2, q3, q4, q5⟩ := h.put1 (fun j hj => by rw [K.floor]; exact Nat.le_trans hf hj) (n := l.length) (i := t) (z := (t : Nat)) (v := .int .i64 (gx l t - 1)) rfl htl (by rw [List.length_map]; exact htl) rfl
    have q5 : Own (fun j => M0.nb.size ≤ j) M' 3 B cB (Ints (decT l t)) := by unfold decT; rw [Ints, List.map_set]; exact q5
    have K' : Keep M0 M' := Keep.step K q3 fun j hj => hj
    have hbg' : ∀ i, nxT w l nx ≤ i → gx (decT l t) i = gx l0 i := fun i hi => by
      rw [dec_at htl, if_neg (by omega)]; exact hbg i (by omega)
    have hcnt : cntU l0 (decT l t) (decT l t).length ≤ w := by
      have := cnt_le hbg' (decT l t).length
      rw [dec_len, Nat.min_eq_right a2] at this
      rw [dec_len]
      exact Nat.le_trans this hT'.u
    have nx' := ih (pre ++ [(t : Int)]) (decT l t) (k + 1) (nxT w l nx) (M := M') (by rw [ho]; simp) (by simp [hk]) (by rw [dec_len]; exact hl) hT' hbg' K' q5
    have c7 := c4_7 (w := w) (cA := cA) (cO := cO) (cB := cB) (O := O) (lO := os.length) (x13 := (k : Nat)) hw.2 (show (decT l t).length = l0.length by rw [dec_len]; exact hl) hb (hA.keep K') q5.row hcnt (by
      rw [i64w (by omega), show ((k : Int) + 1) = ((k + 1 : Nat) : Int) by omega]; exact nx') (decT l t).length 0 (Nat.zero_add _)
    rw [dec_len] at c7
    refine w4_4 ⟨fun _ => ⟨_, i1, _, i2, fun hh => by omega, fun _ => ⟨_, i1, _, i2, fun hh => by omega, fun _ => ⟨_, i1, _, i2, _, j1, _, j2, w4_5 ⟨fun hh => ?_, fun _ => ?_⟩⟩⟩⟩, fun hh => by omega⟩
    · simp at hh; omega
    · exact ⟨_, i1, _, i2, _, j1, _, j2, _, q1, M', by rw [i64w (by omega)]; exact q2, c7⟩
end
def smL (y : List Int) (i : Nat) : List Int := (y.take i).map fun v => brg v 21
theorem smL_len {y : List Int} {i : Nat} (h : i ≤ y.length) : (smL y i).length = i := by unfold smL; simp; omega
theorem smL_at {y : List Int} {i k : Nat} (h : i ≤ y.length) (hk : k < i) : gx (smL y i) k = brg (gx y k) 21 := by
  unfold gx smL
  rw [List.getD_eq_getElem?_getD, List.getD_eq_getElem?_getD, List.getElem?_map, List.getElem?_take, if_pos hk, List.getElem?_eq_getElem (show k < y.length by omega)]; rfl
theorem smL_succ {y : List Int} {i : Nat} (h : i < y.length) : smL y (i + 1) = smL y i ++ [brg (gx y i) 21] := by
  unfold smL
  rw [List.take_add_one, List.map_append, List.getElem?_eq_getElem h]
  simp [gx, h]
theorem brg_b (v : Int) (n : Int) (h : 0 < n) : 0 ≤ brg v n ∧ brg v n < n := by
  unfold brg; rw [if_neg (by omega)]
  exact ⟨Int.emod_nonneg _ (by omega), Int.emod_lt_of_pos _ h⟩
theorem sum_congr {f g : Nat → Int} : ∀ {n : Nat}, (∀ i, i < n → f i = g i) → sumN f n = sumN g n
  | 0, _ => rfl
  | n + 1, h => by simp only [sumN]; rw [sum_congr fun i hi => h i (by omega), h n (by omega)]
theorem sum_ub {f : Nat → Int} : ∀ {n : Nat}, (∀ i, i < n → 0 ≤ f i ∧ f i ≤ 20) → 0 ≤ sumN f n ∧ sumN f n ≤ 20 * n
  | 0, _ => by simp [sumN]
  | n + 1, h => by
    have h1 := sum_ub (f := f) (n := n) fun i hi => h i (by omega)
    have h2 := h n (by omega)
    simp only [sumN]; omega
section
variable {M0 : Mem} {A P : Option Addr} {n c lp cp : Nat} {y picks : List Int}
theorem c4_2 (hf : M0.floor ≤ M0.nb.size) (hP : Row M0 P (Ints picks)) (hlp : lp = picks.length) {x1 x9 : Int} {i : Nat} (hi : i ≤ y.length) (hi30 : i ≤ 30) {X : Option Addr} {cx : Nat} {M : Mem} (K : Keep M0 M) (hO : Own (fun j => M0.nb.size ≤ j) M 3 X cx (Ints (smL y i))) :
    A4_2 A n c x1 P lp cp X i cx (sumN (gx (smL y i)) i) x9 false M Tr4 := by
  have hlen := smL_len hi
  have hbd : ∀ k, k < i → 0 ≤ gx (smL y i) k ∧ gx (smL y i) k ≤ 20 := fun k hk => by
    rw [smL_at hi hk]; have := brg_b (gx y k) 21 (by decide); omega
  have hs := sum_ub hbd
  have hw := brg_b x1 64 (by decide)
  obtain ⟨w, hwe⟩ := Int.eq_ofNat_of_zero_le (show 0 ≤ 1 + brg x1 64 by omega)
  refine w4_2 ⟨fun h => (by cases h), fun _ => Cn.eq (c15 (by decide)) ⟨_, rfl, ?_⟩⟩
  rw [i64w (x := 1 + brg x1 64) (by omega), hwe]
  have hE : ordE (smL y i) (w : Nat) = 0 := by
    unfold ordE
    rw [if_neg (by omega), if_neg (by rw [pos_all fun k hk => (hbd k (by omega)).1]; decide), if_neg (by rw [hlen]; omega), if_pos (by omega)]
  refine Cn.mono (c11 (w := (w : Nat)) (l := smL y i) (picks := picks) (fb hf K) hO.row hlen.symm (hP.keep K) hlp) ?_
  have eo : ordS (smL y i) (w : Nat) picks = (runP w picks (sumN (gx (smL y i)) i).toNat (smL y i) 0 0, 0) := by
    unfold ordS; rw [if_pos hE, hlen]; simp
  rw [eo]
  obtain ⟨m, hm⟩ := Int.eq_ofNat_of_zero_le hs.1
  rw [hm, Int.toNat_natCast]
  have hrl := runP_len w picks m (smL y i) 0 0
  have ts : Ts w (smL y i) m 0 := ⟨fun k => by
    by_cases hk : k < i
    · exact (hbd k hk).1
    · unfold gx; rw [List.getD_eq_getElem?_getD, List.getElem?_eq_none (by omega)]; exact Int.le_refl 0, by rw [hlen]; exact hm, Nat.zero_le _, Nat.zero_le _⟩
  generalize hos : runP w picks m (smL y i) 0 0 = os at *
  rintro _ N ⟨Y, d, rfl, K1, O1⟩
  have K01 := K.trans K1
  refine ⟨_, rfl, _, rfl, _, rfl, fun h => absurd rfl h, fun _ => w4_3 ⟨fun h => ?_, fun _ => ?_⟩⟩
  · dsimp only at h; rw [hrl] at h; simp at h
  refine Cn.mono (c10 (fb hf K01) (hO.row.keep K1) hlen.symm (by omega)) ?_
  rintro _ N2 ⟨B, cB, rfl, K2, O2⟩
  refine ⟨_, rfl, ?_⟩
  have := c4_4 (M0 := N) (A := X) (O := Y) (B := B) (cA := cx) (cO := d) (cB := cB) (picks := picks) (fb hf K01) (w := w) (by omega) (by omega) (hO.row.keep K1) O1.row (by dsimp only; omega) m [] (smL y i) 0 0 (M := N2) hos.symm rfl rfl ts (fun _ _ => rfl) K2 O2
  rw [hlen] at this
  dsimp only
  rw [hlen]
  exact this
theorem c4_1 (hf : M0.floor ≤ M0.nb.size) (hA : Row M0 A (Ints y)) (hn : n = y.length) (hb : n ≤ 1048576) (hP : Row M0 P (Ints picks)) (hlp : lp = picks.length) {x1 : Int} :
    ∀ (m i : Nat) (X : Option Addr) (cx : Nat) {M : Mem}, i + m = 30 → i ≤ y.length → Keep M0 M → Own (fun j => M0.nb.size ≤ j) M 3 X cx (Ints (smL y i)) → A4_1 A n c x1 P lp cp X i cx (sumN (gx (smL y i)) i) (i : Nat) M Tr4 := by
  intro m
  induction m with
  | zero =>
    intro i X cx M hm hi K hO
    refine w4_1 ⟨fun _ => ?_, fun _ => c4_2 hf hP hlp hi (by omega) K hO⟩
    rw [decide_eq_false (show ¬ ((i : Nat) : Int) < 30 by omega)]
    exact c4_2 hf hP hlp hi (by omega) K hO
  | succ m ih =>
    intro i X cx M hm hi K hO
    refine w4_1 ⟨fun hlt => ?_, fun _ => c4_2 hf hP hlp hi (by omega) K hO⟩
    rw [decide_eq_true (show ((i : Nat) : Int) < 30 by omega)]
    have hlt' : i < y.length := by omega
    obtain ⟨a, i1, i2⟩ := (hA.keep K).int1 (n := n) (i := i) (z := (i : Nat)) (k := .i64) (x := gx y i) rfl (by omega) (gx_at hlt')
    have hbr := brg_b (gx y i) 21 (by decide)
    have hlen := smL_len hi
    have hlen' := smL_len (y := y) (i := i + 1) hlt'
    have hbd : ∀ k, k < i → 0 ≤ gx (smL y i) k ∧ gx (smL y i) k ≤ 20 := fun k hk => by
      rw [smL_at hi hk]; have := brg_b (gx y k) 21 (by decide); omega
    have hs := sum_ub hbd
    obtain ⟨X', cx', N, g1, g2, g3, g4⟩ := app1 el22 hf K hO (n := i) (by rw [List.length_map, hlen]) (v := .int .i64 (brg (gx y i) 21)) rfl (by omega)
    have g3' : Own (fun j => M0.nb.size ≤ j) N 3 X' cx' (Ints (smL y (i + 1))) := by rw [smL_succ hlt', Ints, List.map_append]; exact g3
    have e21 : gx (smL y (i + 1)) i = brg (gx y i) 21 := smL_at hlt' (by omega)
    obtain ⟨b, j1, j2⟩ := g3'.row.int1 (n := i + 1) (i := i) (z := (i : Nat)) (k := .i64) (x := brg (gx y i) 21) rfl (by omega) (by rw [← e21]; exact gx_at (by omega))
    refine w4_2 ⟨fun _ => ⟨_, i1, _, i2, Cn.eq (c15 (by decide)) ⟨_, rfl, _, g1, _, rfl, _, j1, _, j2, ?_⟩⟩, fun h => (by cases h)⟩
    have es : sumN (gx (smL y (i + 1))) (i + 1) = sumN (gx (smL y i)) i + brg (gx y i) 21 := by
      simp only [sumN]; rw [e21]; congr 1
      exact sum_congr fun k hk => by rw [smL_at hlt' (by omega), smL_at hi hk]
    rw [i64w (by omega), ← es, i64w (by omega), show ((i : Int) + 1) = ((i + 1 : Nat) : Int) by omega]
    exact ih (i + 1) X' cx' (by omega) hlt' g2 g3'
end
theorem law4 {W : World} {u0 u1 u2 : Value} (s0 : Sees Try.prog (mem0 W) 1048576 8 22 [u0]) (s1 : Sees Try.prog (mem0 W) 1048576 8 3 [u1]) (s2 : Sees Try.prog (mem0 W) 1048576 8 22 [u2]) : Cn Try.prog 4 #[u0, u1, u2] (mem0 W) fun v _ => v = .bool true := by
  obtain ⟨A, n, c, l, e, h1, h2, h3, h4, _⟩ := sees_ints (e := 3) (by kernel_rfl) (by kernel_rfl) s0
  obtain ⟨z, e1, hz⟩ := sees_int (q := .i64) (by kernel_rfl) s1
  obtain ⟨P, lp, cp, pk, e2, k1, k2, k3, k4, _⟩ := sees_ints (e := 3) (by kernel_rfl) (by kernel_rfl) s2
  obtain rfl : u0 = _ := by simpa using e
  obtain rfl : u1 = _ := by simpa using e1
  obtain rfl : u2 = _ := by simpa using e2
  refine w4_0 (Cn.eq c14 ⟨_, rfl, fun h => (by cases h), fun _ => ?_⟩)
  exact c4_1 (y := l) (Nat.zero_le _) h4 h1 h3 k4 k1 30 0 none 0 (by decide) (Nat.zero_le _) (.refl _) Own.empty
end Go.Zt
