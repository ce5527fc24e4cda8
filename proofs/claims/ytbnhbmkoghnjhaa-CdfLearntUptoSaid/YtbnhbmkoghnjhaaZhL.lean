/- Layer 3: CdfLearnt. -/
import Derived.Test.YtbnhbmkoghnjhaaZhK
import Derived.Test.YtbnhbmkoghnjhaaZhDd
set_option linter.unusedSimpArgs false
set_option linter.unusedVariables false
set_option maxRecDepth 100000
namespace Go.Zt
open Go Go.Sim Go.Proofs Go.RowKit

theorem c22 {x n : Int} {M : Mem} (hn : 0 < n) (hb : n ≤ 1099511627776) : Cn Try.prog 22 #[.int .i64 x, .int .i64 n] M fun v N => v = .int .i64 (x % n) ∧ N = M := by
  have hb' := brg_tmod (x := x) (n := n) (by omega)
  have e : brg x n = x % n := by unfold brg; rw [if_neg (by omega)]
  have h1 : 0 ≤ x % n := Int.emod_nonneg _ (by omega)
  have h2 : x % n < n := Int.emod_lt_of_pos _ hn
  refine w22_0 ⟨fun h => by omega, fun _ => ⟨_, binV_rem (by omega), _, rfl, fun h => ⟨?_, rfl⟩, fun h => ⟨?_, rfl⟩⟩⟩
  · have := hb'.1 h
    rw [this, e, i64w (by omega)]
  · rw [hb'.2 h, e]
/-! ### What is learnt -/
section
variable {l : List Nat} {k s : Int} {r : Nat}
theorem sub_mono {x y m : Nat} (h : x ≤ y) (hm : 0 < m) : x - x / m ≤ y - y / m := by
  have h1 : y / m ≤ x / m + (y - x) := by
    have : y ≤ x + (y - x) * m := by
      have : (y - x) * 1 ≤ (y - x) * m := Nat.mul_le_mul_left _ hm
      omega
    calc y / m ≤ (x + (y - x) * m) / m := Nat.div_le_div_right this
      _ = x / m + (y - x) := Nat.add_mul_div_right _ _ hm
  have h2 : x / m ≤ x := Nat.div_le_self ..
  have h3 : y / m ≤ y := Nat.div_le_self ..
  omega
theorem gn_ad {q : Nat} (hq : q < l.length) : gn (adL l r s) q = if q + 1 = l.length then gn l q else adV l r s q := by unfold adL; exact gn_map hq
theorem adL_len : (adL l r s).length = l.length := by simp [adL]
theorem ad_ge (ho : Okt l k) {q : Nat} (h : ¬ (q : Int) < s) : adV l r s q = 32768 - ((32768 - gn l q) - (32768 - gn l q) / 2 ^ r) := by
  have h1 := ho.le q
  have h2 : (32768 - gn l q) / 2 ^ r ≤ 32768 - gn l q := Nat.div_le_self ..
  unfold adV; rw [if_neg h]
  generalize (32768 - gn l q) / 2 ^ r = z at h2 ⊢
  omega
theorem ad_okt (ho : Okt l k) : Okt (adL l r s) (upK k) := by
  have hp : 0 < 2 ^ r := Nat.pow_pos (by decide)
  have h1 := ho.lo
  refine ⟨by rw [adL_len]; exact ho.lo, by rw [adL_len]; exact ho.hi, ?_, ?_, ?_, ?_⟩
  · have := ho.k0; unfold upK; split <;> omega
  · unfold upK; split <;> omega
  · rw [adL_len, gn_ad (by omega), if_pos (by omega), ho.last]
  · intro q _ hq
    rw [adL_len] at hq
    have hs := ho.srt q (Nat.zero_le _) hq
    have hl1 := ho.le q
    have hl2 := ho.le (q + 1)
    rw [gn_ad (by omega), gn_ad hq, if_neg (by omega)]
    by_cases e : q + 1 + 1 = l.length
    · rw [if_pos e]
      have : gn l (q + 1) = 32768 := by rw [← ho.last]; congr 1; omega
      rw [this]; exact adV_b ho q
    · rw [if_neg e]
      by_cases c1 : ((q + 1 : Nat) : Int) < s
      · have c2 : (q : Int) < s := by omega
        unfold adV; rw [if_pos c2, if_pos c1]; exact sub_mono hs hp
      · by_cases c2 : (q : Int) < s
        · have e1 : adV l r s q ≤ gn l q := by unfold adV; rw [if_pos c2]; exact Nat.sub_le ..
          have e2 : gn l (q + 1) ≤ adV l r s (q + 1) := by unfold adV; rw [if_neg c1]; exact Nat.le_add_right ..
          omega
        · rw [ad_ge ho c1, ad_ge ho c2]
          have := sub_mono (x := 32768 - gn l (q + 1)) (y := 32768 - gn l q) (m := 2 ^ r) (by omega) hp
          omega
theorem ad_up (ho : Okt l k) {q : Nat} (hq : q < l.length) (h : ¬ (q : Int) < s) : gn l q ≤ gn (adL l r s) q := by
  rw [gn_ad hq]; split
  · exact Nat.le_refl _
  · unfold adV; rw [if_neg h]; exact Nat.le_add_right ..
theorem ad_dn (ho : Okt l k) {q : Nat} (hq : q < l.length) (h : (q : Int) < s) : gn (adL l r s) q ≤ gn l q := by
  rw [gn_ad hq]; split
  · exact Nat.le_refl _
  · unfold adV; rw [if_pos h]; exact Nat.sub_le ..
theorem share_le (ho : Okt l k) (hs0 : 0 ≤ s) (hs : s < l.length) {q : Nat} (hq : q < l.length) (hne : (q : Int) ≠ s) : shareS (adL l r s) q ≤ shareS l q := by
  have hp : 0 < 2 ^ r := Nat.pow_pos (by decide)
  unfold shareS
  by_cases h0 : q = 0
  · rw [if_pos h0, if_pos h0]
    subst h0
    have := ad_dn (r := r) (s := s) ho hq (by omega)
    omega
  · rw [if_neg h0, if_neg h0]
    have hsrt := ho.srt (q - 1) (Nat.zero_le _) (by omega)
    rw [show q - 1 + 1 = q by omega] at hsrt
    have hl1 := ho.le q
    by_cases c : (q : Int) < s
    · rw [gn_ad hq, gn_ad (by omega), if_neg (by omega), if_neg (by omega)]
      unfold adV; rw [if_pos c, if_pos (by omega)]
      have h1 : gn l (q - 1) / 2 ^ r ≤ gn l q / 2 ^ r := Nat.div_le_div_right hsrt
      have h2 : gn l q / 2 ^ r ≤ gn l q := Nat.div_le_self ..
      have h3 : gn l (q - 1) / 2 ^ r ≤ gn l (q - 1) := Nat.div_le_self ..
      generalize gn l (q - 1) / 2 ^ r = z1 at h1 h3 ⊢
      generalize gn l q / 2 ^ r = z2 at h1 h2 ⊢
      omega
    · rw [gn_ad (q := q - 1) (by omega), if_neg (by omega)]
      have e1 : adV l r s (q - 1) = gn l (q - 1) + (32768 - gn l (q - 1)) / 2 ^ r := by unfold adV; rw [if_neg (by omega)]
      by_cases e : q + 1 = l.length
      · rw [gn_ad hq, if_pos e, e1]
        generalize (32768 - gn l (q - 1)) / 2 ^ r = z
        omega
      · have e2 : adV l r s q = gn l q + (32768 - gn l q) / 2 ^ r := by unfold adV; rw [if_neg c]
        rw [gn_ad hq, if_neg e, e1, e2]
        have h1 : (32768 - gn l q) / 2 ^ r ≤ (32768 - gn l (q - 1)) / 2 ^ r := Nat.div_le_div_right (by omega)
        generalize (32768 - gn l q) / 2 ^ r = z1 at h1 ⊢
        generalize (32768 - gn l (q - 1)) / 2 ^ r = z2 at h1 ⊢
        omega
theorem end_le_of {l m : List Nat} (hl : l.length = m.length) {s : Int} (h : gn l s.toNat ≤ gn m s.toNat) : endS l s ≤ endS m s := by
  unfold endS
  split
  · exact Nat.le_refl _
  · rw [hl]
    have := Nat.div_le_div_right (c := 32768) (Nat.mul_le_mul_right (32768 - 4 * m.length) h)
    omega
theorem part_ge (ho : Okt l k) (hs0 : 0 ≤ s) (hs : s < l.length) : endS l s ≤ endS (adL l r s) s ∧ endS (adL l r s) (s - 1) ≤ endS l (s - 1) := by
  refine ⟨end_le_of adL_len.symm (ad_up ho (by omega) (by omega)), ?_⟩
  by_cases h0 : s = 0
  · subst h0; exact Nat.le_refl _
  · exact end_le_of adL_len (ad_dn ho (by omega) (by omega))
end
section
variable {M0 : Mem} {B : Option Addr} {m d : Nat} {x : List Int}
/-- The table in a variable that is written over. -/
structure TIn (M0 : Mem) (j : Nat) (M : Mem) (A : Option Addr) (c : Nat) (l : List Nat) (k : Int) : Prop where
  keep : Keep M0 M
  var : M.nb[j]? = some (tcells A l.length c k)
  row : Row M A (uL l)
  off : ∀ a, A = some a → a.block % 2 = 1 ∨ a.block / 2 ≠ j
theorem TIn.next {M0 M N : Mem} {j : Nat} {A : Option Addr} {c : Nat} {l : List Nat} {k : Int} (h : TIn M0 j M A c l k) (K : Keep M N) : TIn M0 j N A c l k := ⟨h.keep.trans K, at_keep h.var K, h.row.keep K, h.off⟩
theorem c6_loop (hf : M0.floor ≤ M0.nb.size) (hB : Row M0 B (x.map (.int .i64))) (hm : m = x.length) (hm2 : m ≤ 1048576) {j : Nat} (hj : M0.nb.size ≤ j) :
    ∀ (t i : Nat) {M : Mem} {A : Option Addr} {c : Nat} {l : List Nat} {k : Int}, i + t = m → Okt l k → (∀ y ∈ l, y ≤ 65535) → TIn M0 j M A c l k → A6_1 B m d (some ⟨2 * j, 0, none⟩) (i : Nat) M fun v _ => v = .bool true := by
  intro t
  induction t with
  | zero =>
    intro i M A c l k hi ho hl h
    exact w6_1 ⟨fun h => by omega, fun _ => w6_2 ⟨fun h => (by cases h), fun _ => rfl⟩⟩
  | succ t ih =>
    intro i M A c l k hi ho hl h
    have hlo := ho.lo
    have hhi := ho.hi
    have hb : l.length ≤ 1099511627776 := by omega
    refine w6_1 ⟨fun _ => w6_2 ⟨fun _ => ?_, fun _ => rfl⟩, fun h => by omega⟩
    obtain ⟨a, b1, b2⟩ := (hB.keep h.keep).int1 (n := m) (i := i) (z := ((i : Nat) : Int)) (k := .i64) (x := x[i]'(by omega)) rfl (by omega) (by simp [List.getElem?_eq_getElem (show i < x.length by omega)])
    generalize x[i]'(by omega) = xi at b2
    refine ⟨_, b1, _, b2, _, rfl, _, sl_of h.var rfl, Cn.eq (c22 (by dsimp only; omega) (by dsimp only; omega)) ⟨_, rfl, _, rfl, _, sl_of h.var rfl, _, int_of h.var rfl, ?_⟩⟩
    dsimp only
    have hs0 : 0 ≤ xi % (l.length : Nat) := Int.emod_nonneg _ (by omega)
    have hs1 : xi % (l.length : Nat) < (l.length : Nat) := Int.emod_lt_of_pos _ (by omega)
    generalize xi % ((l.length : Nat) : Int) = s at hs0 hs1 ⊢
    refine Cn.mono (c11 (s := s) (fb hf h.keep) h.row rfl hb) ?_
    intro v N hv
    have ead : adaptS l k s = (adL l (rateS l.length k) s, upK k, 0) := by unfold adaptS; rw [if_pos ⟨check_0.2 ho, hs0, hs1⟩]
    rw [ead] at hv
    have hK := hv
    obtain ⟨_, _, _, KN, _, _⟩ := hK
    have hjM := lt_of_at h.var
    have hsz := KN.size
    have hfN : N.floor ≤ N.nb.size := fb (fb hf h.keep) KN
    refine TbR.var hv (j := N.nb.size) hfN (newC N _) (newI none 0 0 0) (fun p hp _ => by omega) ?_
    intro A' c' M2 _ C2 s2 u2 O2 hc2
    have KM2 : Keep M M2 := Keep.step KN C2 fun p hp => by rw [hp]; exact hsz
    have h2 := h.next KM2
    generalize hr : rateS l.length k = r at *
    have ho2 : Okt (adL l r s) (upK k) := ad_okt ho
    have hl2 : ∀ y ∈ adL l r s, y ≤ 65535 := by
      intro y hy
      obtain ⟨q, hq, rfl⟩ := List.getElem_of_mem hy
      have := ho2.le q
      unfold gn at this
      rw [List.getD_eq_getElem?_getD, List.getElem?_eq_getElem hq] at this
      simp at this; omega
    have hlen : (adL l r s).length = l.length := adL_len
    have hb2 : (adL l r s).length ≤ 1099511627776 := by omega
    have R2 := O2.row
    dsimp only at u2 R2
    refine ⟨fun hh => absurd rfl hh, fun _ => ⟨_, sl_of u2 rfl, _, int_of u2 rfl, Cn.mono (c19 R2 rfl hb2) ?_⟩⟩
    rintro _ N3 ⟨rfl, K3⟩
    have h3 := h2.next K3
    have u3 := at_keep u2 K3
    have R3 := R2.keep K3
    have hu : upK k = (if 32 < IntKind.i64.wrap (k + 1) then 32 else IntKind.i64.wrap (k + 1)) := by
      have := ho.k0; have := ho.k1
      rw [i64w (by omega)]; rfl
    refine ⟨_, rfl, ?_⟩
    rw [check_0.2 ho2]
    refine w6_3 ⟨fun hh => (by simp at hh), fun _ => ⟨_, rfl, _, sl_of u3 rfl, _, rfl, _, sl_of h3.var rfl, ?_⟩⟩
    dsimp only
    rw [hlen, show ((((l.length : Nat) : Int)) != (l.length : Nat)) = false by simp]
    refine w6_4 ⟨fun hh => (by cases hh), fun _ => ⟨_, rfl, _, int_of u3 rfl, _, rfl, _, int_of h3.var rfl, ?_⟩⟩
    rw [← hu, show ((upK k) != (upK k)) = false by simp]
    refine w6_5 ⟨fun hh => (by cases hh), fun _ => ?_⟩
    -- the shares
    have shares : ∀ (t2 q : Nat) {R : Mem}, q + t2 = l.length → Keep N3 R → A6_6 B m d (some ⟨2 * j, 0, none⟩) (i : Nat) s (some ⟨2 * N.nb.size, 0, none⟩) (q : Nat) R fun v _ => v = .bool true := by
      intro t2
      induction t2 with
      | zero =>
        intro q R hq K4
        have h4 := h3.next K4
        have u4 := at_keep u3 K4
        have R4 := R3.keep K4
        refine w6_6 ⟨_, rfl, _, sl_of h4.var rfl, fun hh => ?_, fun _ => ⟨_, rfl, _, sl_of h4.var rfl, _, int_of h4.var rfl, Cn.mono (c20 (fb hf h4.keep) h4.row rfl hb) ?_⟩⟩
        · have hh : ((q : Nat) : Int) < (l.length : Nat) := hh
          omega
        rintro _ N5 ⟨rfl, K5⟩
        have h5 := h4.next K5
        have u5 := at_keep u4 K5
        refine ⟨_, rfl, _, rfl, _, rfl, _, rfl, _, rfl, _, sl_of u5 rfl, _, int_of u5 rfl, Cn.mono (c20 (fb hf h5.keep) (R4.keep K5) rfl hb2) ?_⟩
        rintro _ N6 ⟨rfl, K6⟩
        have h6 := h5.next K6
        have u6 := at_keep u5 K6
        rw [ho.bounds hs0 hs1, ho2.bounds hs0 (by rw [hlen]; exact hs1)]
        obtain ⟨p1, p2⟩ := part_ge (r := r) ho hs0 hs1
        have e1 := ho.end_le (s := s) hs1
        have e2 := ho2.end_le (s := s) (by rw [hlen]; exact hs1)
        have n1 := ho.next (s := s - 1) (by omega) (by omega)
        rw [show s - 1 + 1 = s by omega] at n1
        refine ⟨_, rfl, _, rfl, _, rfl, _, rfl, fun hh => absurd rfl hh, fun _ => ⟨fun hh => absurd rfl hh, fun _ => ?_⟩⟩
        dsimp only
        rw [show decide (IntKind.u32.wrap (((endS (adL l r s) s : Nat) : Int) - ((endS (adL l r s) (s - 1) : Nat) : Int)) < IntKind.u32.wrap (((endS l s : Nat) : Int) - ((endS l (s - 1) : Nat) : Int))) = false by
          rw [u32w (by omega), u32w (by omega)]; exact decide_eq_false (by omega)]
        have hjlt := lt_of_at h6.var
        have hjne : j ≠ N.nb.size := by omega
        obtain ⟨Mx, y1, My, y2, C7, s7, u7⟩ := put2 (A := A') (n := (adL l r s).length) (c := c') (k := upK k) h6.var (by rw [h6.keep.floor]; omega)
        refine w6_8 ⟨fun hh => (by cases hh), fun _ => ⟨_, rfl, _, sl_of u6 rfl, _, int_of u6 rfl, _, rfl, _, y1, _, y2, ?_⟩⟩
        rw [i64w (by omega), show ((i : Int) + 1) = ((i + 1 : Nat) : Int) by omega]
        have hoff : ∀ a, A' = some a → a.block % 2 = 1 ∨ a.block / 2 ≠ j := fun a ha => by
          obtain ⟨_, q2⟩ := O2.in_ a ha
          right; omega
        refine ih (i + 1) (by omega) ho2 hl2 ⟨Keep.step h6.keep C7 fun p hp => by rw [hp]; exact hj, u7, ?_, hoff⟩
        exact ((R4.keep K5).keep K6).chg C7 fun a ha => (hoff a ha).imp id fun hh => hh
      | succ t2 ih2 =>
        intro q R hq K4
        have h4 := h3.next K4
        have u4 := at_keep u3 K4
        have R4 := R3.keep K4
        have w : IntKind.i64.wrap ((q : Int) + 1) = ((q + 1 : Nat) : Int) := by rw [i64w (by omega)]; omega
        refine w6_6 ⟨_, rfl, _, sl_of h4.var rfl, fun _ => ⟨fun hne => ⟨_, rfl, _, sl_of u4 rfl, _, int_of u4 rfl, _, rfl, _, sl_of h4.var rfl, _, int_of h4.var rfl, Cn.mono (c23 (M := { R with floor := R.nb.size }) (s := q) (show Row { R with floor := R.nb.size } A' _ from fun i hi => R4 i hi) rfl hb2 hl2 (by omega)) ?_⟩, fun he => w6_7 ⟨fun hh => (by cases hh), fun _ => ?_⟩⟩, fun hh => ?_⟩
        · rintro _ N5 ⟨rfl, K5⟩
          have K5' : Keep R { N5 with floor := R.floor } := K5.unfl
          refine ⟨_, rfl, Cn.mono (c23 (s := q) (h4.row.keep K5') rfl hb hl (by omega)) ?_⟩
          rintro _ N6 ⟨rfl, K6⟩
          have := share_le (r := r) ho hs0 hs1 (q := q) (by omega) hne
          refine ⟨_, rfl, ?_⟩
          rw [decide_eq_false (by omega)]
          refine w6_7 ⟨fun hh => (by cases hh), fun _ => ?_⟩
          rw [w]
          exact ih2 (q + 1) (by omega) ((K4.trans K5').trans K6)
        · rw [w]; exact ih2 (q + 1) (by omega) K4
        · have hh : ¬ ((q : Nat) : Int) < (l.length : Nat) := hh
          omega
    exact shares l.length 0 (Nat.zero_add _) (.refl _)
end
theorem law6 {W : World} {cs : List Value} {u1 : Value} (s0 : Sees Try.prog (mem0 W) 1048576 8 24 cs) (s1 : Sees Try.prog (mem0 W) 1048576 8 25 [u1]) : Cn Try.prog 6 #[.agg cs.toArray, u1] (mem0 W) fun v _ => v = .bool true := by
  obtain ⟨t, rfl, g⟩ := sees_tab s0
  obtain ⟨B, d, x, e, hxl, hBo, hB, _⟩ := sees_ints s1
  simp at e
  subst e
  have hf : (mem0 W).floor ≤ (mem0 W).nb.size := Nat.le_refl _
  generalize mem0 W = M at g hf hB ⊢
  obtain ⟨A, c, l, k⟩ := t
  have hlen := g.len
  dsimp only at hlen
  have hb40 : l.length ≤ 1099511627776 := by omega
  have a0 := newI (M := M) A l.length c k
  have K0 : Keep M (M.new (tcells A l.length c k)) := .new _ _
  show Cn Try.prog 6 #[.agg #[.slice A l.length c, .int .i64 k], .slice B x.length d] M _
  refine w6_0 ?_
  generalize M.new (tcells A l.length c k) = N at a0 K0 ⊢
  have hR := g.row
  dsimp only at hR
  refine Cn.eq c16 ⟨_, rfl, fun h => (by cases h), fun _ => ⟨_, sl_of a0 rfl, _, int_of a0 rfl, Cn.mono (c19 (hR.keep K0) rfl hb40) ?_⟩⟩
  rintro _ R ⟨rfl, KR⟩
  have a1 := at_keep a0 KR
  refine ⟨_, rfl, fun h => rfl, fun h => ?_⟩
  have ho := check_0.1 (show checkS l k = 0 by omega)
  exact c6_loop (M0 := M) hf hB rfl hxl (Nat.le_refl _) x.length 0 (Nat.zero_add _) ho g.small ⟨K0.trans KR, a1, (hR.keep K0).keep KR, fun a ha => .inl (g.old a ha)⟩
end Go.Zt
