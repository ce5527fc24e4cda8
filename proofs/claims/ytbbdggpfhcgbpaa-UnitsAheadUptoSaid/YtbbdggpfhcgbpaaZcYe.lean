/- Layer 19: what UnitsBack comes to. -/
import Derived.Test.YtbbdggpfhcgbpaaZcYd
import Derived.Test.YtbbdggpfhcgbpaaZcDf
set_option linter.unusedSimpArgs false
set_option linter.unusedVariables false
namespace Go.Zt
open Go Go.Sim Go.Proofs Go.RowKit

def mayP (x : Int × List Nat) : Int × List Nat := (1 + brg x.1 3, x.2.take 1048576)
theorem brg3 (x : Int) : 0 ≤ brg x 3 ∧ brg x 3 < 3 := by unfold brg; rw [if_neg (by decide)]; omega
theorem mayP_good (x : Int × List Nat) : goodP (mayP x) ∧ (mayP x).2.length ≤ 1048576 := by
  have := brg3 x.1
  have h2 : (mayP x).2.length ≤ 1048576 := by unfold mayP; rw [List.length_take]; exact Nat.min_le_left _ _
  exact ⟨⟨by unfold mayP; dsimp only; omega, by unfold mayP; dsimp only; omega, by omega⟩, h2⟩
theorem encP_byt {x : Int × List Nat} (h : goodP x) (hB : Byt x.2) : Byt (encP x) := by
  intro y hy
  unfold encP at hy
  rcases List.mem_cons.1 hy with rfl | hy
  · have := h.1; have := h.2.1; omega
  · rcases List.mem_append.1 hy with hy | hy
    · exact lb_byt _ _ y hy
    · exact hB y hy
theorem flat_byt {l : List (Int × List Nat)} (h : ∀ x ∈ l, goodP x ∧ Byt x.2) : Byt (l.flatMap encP) := by
  intro y hy
  obtain ⟨x, hx, hy⟩ := List.mem_flatMap.1 hy
  exact encP_byt (h x hx).1 (h x hx).2 y hy
theorem flat_bound : ∀ {l : List (Int × List Nat)}, (∀ x ∈ l, x.2.length ≤ 1048576) → (l.flatMap encP).length ≤ l.length * 1048582
  | [], _ => by simp
  | x :: l, h => by
    have h1 := flat_bound (l := l) fun y hy => h y (List.mem_cons_of_mem _ hy)
    have h2 := h x (List.mem_cons_self ..)
    have h3 := (encP_len x).2
    rw [List.flatMap_cons, List.length_append, List.length_cons]; omega
/-- A piece of the list that may be: its bytes lie where they lay. -/
structure MyG (M : Mem) (o : Ob) : Prop where
  row : Row M o.A (U8 o.b)
  old : Old o.A
  byt : Byt o.b
  len : o.b.length ≤ 1048576
  good : goodP o.pc
section
variable {A : Option Addr} {n c : Nat} {l : List Ob}
theorem c22_loop {M0 : Mem} (hf : M0.floor ≤ M0.nb.size) (hA : Row M0 A (Obs l)) (hAo : Old A) (hn : n = l.length) (hb : n ≤ 1048576) (hg : ∀ o ∈ l, ObG M0 1048576 o) :
    ∀ (k i : Nat) (l' : List Ob) (A' : Option Addr) (c' : Nat) {M : Mem}, i + k = l.length → Keep M0 M → Own (fun i => M0.nb.size ≤ i) M 44 A' (c' * 2) (Obs l') → l'.length ≤ c' → (∀ o ∈ l', MyG M0 o) → l'.map Ob.pc = ((l.take i).map Ob.pc).map mayP →
      A22_1 A n c A' l'.length c' i M fun v N => ∃ A2 c2 l2, v = .slice A2 l2.length c2 ∧ l2.map Ob.pc = (l.map Ob.pc).map mayP ∧ Keep M0 N ∧ Own (fun i => M0.nb.size ≤ i) N 44 A2 (c2 * 2) (Obs l2) ∧ l2.length ≤ c2 ∧ ∀ o ∈ l2, MyG M0 o
  | 0, i, l', A', c', M, hi, K, hO, hc', hB, he => by
    rw [List.take_of_length_le (by omega)] at he
    exact w22_1 ⟨fun h => by omega, fun _ => ⟨A', c', l', rfl, he, K, hO, hc', hB⟩⟩
  | k + 1, i, l', A', c', M, hi, K, hO, hc', hB, he => by
    have hil : i < l.length := by omega
    have hG := hg _ (List.getElem_mem hil)
    obtain ⟨a, i1, i2, i3⟩ := (obr_old hA hAo hg K).at (n := n) (z := i) rfl (by omega) hil
    have hS : ∀ j, M0.nb.size ≤ j → M.floor ≤ j := fun j hj => by rw [K.floor]; exact Nat.le_trans hf hj
    have em : (if (1048576 : Int) < ((l[i].b.length : Nat) : Int) then (1048576 : Int) else ((l[i].b.length : Nat) : Int)) = ((min 1048576 l[i].b.length : Nat) : Int) := by split <;> omega
    have hll : l'.length = i := by
      have := congrArg List.length he
      simp at this; omega
    obtain ⟨A1, s1, s2, s3, s4⟩ := slice_row el5 (hG.row.old hG.old K) (n := l[i].b.length) (c := l[i].c) (l := 0) (h := min 1048576 l[i].b.length) (by simp) hG.cap hG.nil (lo := none) (hi := some (.int .i64 (min 1048576 l[i].b.length : Nat))) rfl
      (bound_lo rfl (by have := hG.cap; omega)) (Nat.zero_le _) (by omega)
    have s1' : ∀ z : Int, z = ((min 1048576 l[i].b.length : Nat) : Int) → sliceP Try.prog 22 (.slice l[i].A l[i].b.length l[i].c) none (some (.int .i64 z)) none = some (.slice A1 (min 1048576 l[i].b.length - 0) (l[i].c - 0)) := fun z hz => by rw [hz]; exact s1
    have hm : min 1048576 l[i].b.length = (l[i].b.take 1048576).length := by rw [List.length_take]
    have e1 : (List.drop (0 * 1) (U8 l[i].b)).take ((min 1048576 l[i].b.length - 0) * 1) = U8 (l[i].b.take 1048576) := by
      rw [Nat.zero_mul, List.drop_zero, Nat.sub_zero, Nat.mul_one, ← List.map_take]
      congr 1
      rcases Nat.lt_or_ge l[i].b.length 1048576 with h | h
      · rw [List.take_of_length_le (by omega), List.take_of_length_le (by omega)]
      · rw [Nat.min_eq_left h]
    have hOld1 : Old A1 := fun a ha => by
      obtain ⟨b, h1, h2⟩ := s3 a ha
      rw [← h2]; exact hG.old b h1
    have hrow1 : Row M0 A1 (U8 (l[i].b.take 1048576)) := by
      have hA1 := slice_row el5 hG.row (n := l[i].b.length) (c := l[i].c) (l := 0) (h := min 1048576 l[i].b.length) (by simp) hG.cap hG.nil (lo := none) (hi := some (.int .i64 (min 1048576 l[i].b.length : Nat))) rfl
        (bound_lo rfl (by have := hG.cap; omega)) (Nat.zero_le _) (by omega)
      obtain ⟨A1', t1, t2, _⟩ := hA1
      have : A1' = A1 := by rw [s1] at t1; simp at t1; exact t1.symm
      rw [this, e1] at t2
      exact t2
    have hwf := hG.wf
    have h3 := brg3 l[i].k
    refine w22_1 ⟨fun _ => ⟨_, i1, _, i2, _, i1, _, i3, _, i1, _, i3, _, s1' _ em, _, rfl, Cn.eq (c23 hwf (by decide)) ⟨_, rfl, ?_⟩⟩, fun h => by omega⟩
    have ew : IntKind.i64.wrap (1 + brg l[i].k 3) = 1 + brg l[i].k 3 := i64w (by omega)
    rw [ew]
    show ∃ r11', appendP Try.prog #[24, 24] (.slice A' l'.length c') (.slice (some ⟨2 * M.nb.size, 0, none⟩) 1 1) (M.new (.cells #[.int .i64 (1 + brg l[i].k 3), .slice A1 (min 1048576 l[i].b.length - 0) (l[i].c - 0)] 44)) = some r11' ∧ _
    have hO' : Own (fun i => M0.nb.size ≤ i) (M.new (.cells #[.int .i64 (1 + brg l[i].k 3), .slice A1 (min 1048576 l[i].b.length - 0) (l[i].c - 0)] 44)) 44 A' (c' * 2) (Obs l') := hO.chg (T := fun _ => False) (.new _ _) fun _ _ _ x => x
    have e2 : (Obs [⟨1 + brg l[i].k 3, l[i].b.take 1048576, A1, l[i].c - 0⟩]) = [.int .i64 (1 + brg l[i].k 3), .slice A1 (min 1048576 l[i].b.length - 0) (l[i].c - 0)] := by
      simp
    have hrn := Row.new M 44 (Obs [⟨1 + brg l[i].k 3, l[i].b.take 1048576, A1, l[i].c - 0⟩])
    rw [e2] at hrn
    obtain ⟨A6, c6, N, g1, g2, g3, g4⟩ := append_own el24 hO' (n := l'.length) (Obs_len l') hrn (k := 1) (cx := 1) (by simp) (by rfl) hS (by rw [Mem.new_size]; exact Nat.le_succ_of_le K.size) (by omega)
    rw [← e2] at g3
    have e3 : Obs l' ++ Obs [⟨1 + brg l[i].k 3, l[i].b.take 1048576, A1, l[i].c - 0⟩] = Obs (l' ++ [⟨1 + brg l[i].k 3, l[i].b.take 1048576, A1, l[i].c - 0⟩]) := List.flatMap_append.symm
    rw [e3] at g3
    have KN : Keep M0 N := Keep.step K ((Chg.new M _).trans g2) fun i hi => hi
    refine ⟨_, g1, _, rfl, ?_⟩
    rw [i64w (by omega), show ((i : Int) + 1) = ((i + 1 : Nat) : Int) by omega]
    have hpc : (⟨1 + brg l[i].k 3, l[i].b.take 1048576, A1, l[i].c - 0⟩ : Ob).pc = mayP l[i].pc := rfl
    have hr := c22_loop hf hA hAo hn hb hg k (i + 1) (l' ++ [⟨1 + brg l[i].k 3, l[i].b.take 1048576, A1, l[i].c - 0⟩]) A6 c6 (M := N) (by omega) KN g3 (by simpa using g4) (fun o ho => by
      rcases List.mem_append.1 ho with ho | ho
      · exact hB o ho
      · obtain rfl := List.mem_singleton.1 ho
        have hm := mayP_good l[i].pc
        exact ⟨hrow1, hOld1, fun x hx => hG.byt x (List.mem_of_mem_take hx), hm.2, hm.1⟩) (by
      rw [List.map_append, he, List.take_succ_eq_append_getElem hil, List.map_append, List.map_append]; rfl)
    simpa using hr
theorem c22 {M0 : Mem} (hf : M0.floor ≤ M0.nb.size) (hA : Row M0 A (Obs l)) (hAo : Old A) (hn : n = l.length) (hb : n ≤ 1048576) (hg : ∀ o ∈ l, ObG M0 1048576 o) :
    Cn Try.prog 22 #[.slice A n c] M0 fun v N => ∃ A2 c2 l2, v = .slice A2 l2.length c2 ∧ l2.map Ob.pc = (l.map Ob.pc).map mayP ∧ Keep M0 N ∧ Own (fun i => M0.nb.size ≤ i) N 44 A2 (c2 * 2) (Obs l2) ∧ l2.length ≤ c2 ∧ ∀ o ∈ l2, MyG M0 o :=
  w22_0 (c22_loop hf hA hAo hn hb hg _ 0 [] none 0 (Nat.zero_add _) (.refl _) Own.empty (Nat.le_refl _) (fun o ho => by cases ho) rfl)
theorem c6 {M : Mem} (hf : M.floor ≤ M.nb.size) (hA : Row M A (Obs l)) (hAo : Old A) (hn : n = l.length) (hb : n ≤ 1048576) (hg : ∀ o ∈ l, ObG M 1048576 o)
    {B : Option Addr} {nb cb : Nat} {b : List Nat} (hBR : Row M B (U8 b)) (hBo : Old B) (hnb : nb = b.length) (hbb : nb ≤ 1048576) (hcb : nb ≤ cb) (hB0 : B = none → cb = 0) (hBy : Byt b) :
    Cn Try.prog 6 #[.slice A n c, .slice B nb cb] M fun v _ => v = .bool true := by
  refine w6_0 (Cn.known (by rfl) ⟨_, rfl, fun h => (by cases h), fun _ => Cn.mono (c22 hf hA hAo hn hb hg) ?_⟩)
  rintro v N ⟨A2, c2, l2, rfl, hp, K1, O2, hc2, hG2⟩
  have hl2 : l2.length = n := by
    have := congrArg List.length hp
    simp at this; omega
  have hf1 : N.floor ≤ N.nb.size := by rw [K1.floor]; exact Nat.le_trans hf K1.size
  have hR : ∀ {N' : Mem}, Keep N N' → ObR N' A2 l2 := fun K => ⟨O2.row.keep K, fun o ho => (hG2 o ho).row.keep (K1.trans K)⟩
  have hgood : ∀ x ∈ l2.map Ob.pc, goodP x ∧ Byt x.2 := fun x hx => by
    obtain ⟨o, ho, rfl⟩ := List.mem_map.1 hx
    exact ⟨(hG2 o ho).good, (hG2 o ho).byt⟩
  have hfl : ((l2.map Ob.pc).flatMap encP).length ≤ 1099517919232 := by
    have := flat_bound (l := l2.map Ob.pc) fun x hx => by
      obtain ⟨o, ho, rfl⟩ := List.mem_map.1 hx
      exact (hG2 o ho).len
    rw [List.length_map] at this
    have h9 : l2.length * 1048582 ≤ 1048576 * 1048582 := Nat.mul_le_mul_right _ (by omega)
    exact Nat.le_trans this (Nat.le_trans h9 (by decide))
  refine ⟨_, rfl, Cn.mono (c18 hf1 (hR (.refl _)) rfl (show l2.length ≤ _ by omega)) ?_⟩
  rw [joinS_good _ _ fun x hx => (hgood x hx).1, List.nil_append]
  rintro v2 N2 ⟨A3, c3, rfl, K2, O3⟩
  have hf2 : N2.floor ≤ N2.nb.size := by rw [K2.floor]; exact Nat.le_trans hf1 K2.size
  refine ⟨_, rfl, _, rfl, _, rfl, Cn.mono (c11 hf2 O3.row rfl (show ((l2.map Ob.pc).flatMap encP).length ≤ _ by omega) (by simpa using O3.cap) O3.none_zero (flat_byt hgood)) ?_⟩
  have es := spl_all (l2.map Ob.pc) [] fun x hx => (hgood x hx).1
  rw [List.append_nil, spl_nil] at es
  show ∀ v N, SpR N2 [] 0 (spl ((l2.map Ob.pc).flatMap encP)) v N → _
  rw [es]
  dsimp only
  rintro v3 N3 ⟨A4, c4, l4, rfl, hp4, K3, O4⟩
  have hf3 : N3.floor ≤ N3.nb.size := by rw [K3.floor]; exact Nat.le_trans hf2 K3.size
  have hp4' : l4.map Ob.pc = l2.map Ob.pc := by simpa using hp4
  have hl4 : l4.length = n := by
    have := congrArg List.length hp4'
    simp at this; omega
  have hlen4 : ∀ o ∈ l4, o.b.length ≤ 4611686018427387904 := fun o ho => by
    have h1 : o.pc ∈ l4.map Ob.pc := List.mem_map_of_mem ho
    rw [hp4'] at h1
    obtain ⟨o', h2, h3⟩ := List.mem_map.1 h1
    have h4 : o'.b = o.b := congrArg Prod.snd h3
    rw [← h4]; exact Nat.le_trans (hG2 o' h2).len (by decide)
  refine ⟨_, rfl, _, rfl, _, rfl, _, rfl, fun h => absurd rfl h, fun _ => ?_⟩
  refine w6_1 ⟨fun h => (by cases h), fun _ => w6_2 ⟨fun h => ?_, fun _ => Cn.eq (c13 O4.rd (hR (K2.trans K3)) rfl rfl (show l4.length ≤ _ by omega) hlen4) ⟨_, rfl, w6_3 ⟨fun h => ?_, fun _ => ?_⟩⟩⟩⟩
  · exact absurd h (by simp)
  · simp [hp4'] at h
  have K13 := (K1.trans K2).trans K3
  refine Cn.mono (c11 hf3 (hBR.old hBo K13) hnb (by omega) hcb hB0 hBy) ?_
  obtain ⟨b1, b2, b3, b4⟩ := spl_back b.length b (Nat.le_refl _) hBy
  show ∀ v N, SpR N3 [] 0 (spl b) v N → _
  have hpl : (spl b).1.length ≤ b.length := splitS_len _ _
  generalize spl b = S at b1 b2 b3 b4 hpl
  rintro v4 N4 ⟨A5, c5, l5, rfl, hp5, K4, O5⟩
  have hf4 : N4.floor ≤ N4.nb.size := by rw [K4.floor]; exact Nat.le_trans hf3 K4.size
  have hp5' : l5.map Ob.pc = S.1 := by simpa using hp5
  have hl5 : l5.length ≤ b.length := by
    have := congrArg List.length hp5'
    simp at this; omega
  refine ⟨_, rfl, _, rfl, _, rfl, _, rfl, Cn.mono (c18 hf4 O5.rd rfl (show l5.length ≤ _ by omega)) ?_⟩
  rw [hp5', joinS_good _ _ b1, List.nil_append, b2]
  rintro v5 N5 ⟨A6, c6, rfl, K5, O6⟩
  refine ⟨_, rfl, _, rfl, _, rfl, fun _ => ?_, fun h => absurd rfl h⟩
  have hN := hBR.old hBo (K13.trans (K4.trans K5))
  obtain ⟨A7, s1, s2, s3, s4⟩ := slice_row el5 hN (n := nb) (c := cb) (l := 0) (h := 0 + S.2.1) (by simp [hnb]) hcb hB0 (lo := none) (hi := some (.int .i64 ((0 + S.2.1 : Nat) : Int))) rfl
    (bound_lo rfl (by omega)) (Nat.zero_le _) (by omega)
  have e1 : (List.drop (0 * 1) (U8 b)).take ((0 + S.2.1 - 0) * 1) = U8 (b.take S.2.1) := by
    rw [Nat.zero_mul, List.drop_zero, Nat.sub_zero, Nat.zero_add, Nat.mul_one, ← List.map_take]
  rw [e1] at s2
  refine w6_4 ⟨fun _ => w6_5 ⟨fun _ => w6_6 ⟨fun _ => ⟨_, s1, _, rfl, Cn.eq (c15 O6.row s2 rfl ?_ (show (b.take S.2.1).length ≤ _ by rw [List.length_take]; omega)) ⟨_, rfl, by rw [decide_eq_true rfl]⟩⟩, fun h => ?_⟩, fun h => ?_⟩, fun h => ?_⟩
  · show 0 + S.2.1 - 0 = _
    rw [List.length_take]; omega
  · exfalso
    have h : ((((S.2.2 : Nat) : Int) == 0) == (((0 + S.2.1 : Nat) : Int) == (nb : Int))) = false := h
    have e2 : (((S.2.2 : Nat) : Int) == 0) = (((0 + S.2.1 : Nat) : Int) == (nb : Int)) := by
      rw [Bool.eq_iff_iff, beq_iff_eq, beq_iff_eq]; omega
    rw [e2] at h
    simp at h
  · have := of_decide_eq_false h
    exact absurd (show ((0 + S.2.1 : Nat) : Int) ≤ (nb : Int) by omega) this
  · have := of_decide_eq_false h
    exact absurd (show ((0 + S.2.1 : Nat) : Int) ≥ 0 by omega) this
end
theorem law6 {W : World} {u0 u1 : Value} (s0 : Sees Try.prog (mem0 W) 1048576 8 24 [u0]) (s1 : Sees Try.prog (mem0 W) 1048576 8 22 [u1]) : Cn Try.prog 6 #[u0, u1] (mem0 W) fun v _ => v = .bool true := by
  obtain ⟨A, n, c, l, e, h1, h2, h3, h4, h5, h6, h7⟩ := sees_obs s0
  obtain ⟨B, nb, cb, b, e', k1, k2, k3, k4, k5, k6, k7⟩ := sees_bytes s1
  simp at e e'
  subst e
  subst e'
  exact c6 (Nat.le_refl _) h5 h4 h1 h3 h7 k5 k4 k1 k3 k2 k7 k6
end Go.Zt
