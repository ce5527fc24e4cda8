/- Layer 3: arguments; CdfParts. -/
import Derived.Test.YtbnhbmkoghnjhaaZhJ
import Derived.Test.YtbnhbmkoghnjhaaZhDc
set_option linter.unusedSimpArgs false
set_option linter.unusedVariables false
set_option maxRecDepth 100000
namespace Go.Zt
open Go Go.Sim Go.Proofs Go.RowKit

theorem wf_u16 {x : Int} (h : (Lit.int .u16 x).wf = true) : 0 ≤ x ∧ x ≤ 65535 := by
  simp [Lit.wf, IntKind.min, IntKind.max, IntKind.signed, IntKind.bits] at h
  omega
theorem wf_u32 {x : Int} (h : (Lit.int .u32 x).wf = true) : 0 ≤ x ∧ x ≤ 4294967295 := by
  simp [Lit.wf, IntKind.min, IntKind.max, IntKind.signed, IntKind.bits] at h
  omega
theorem wf_i64 {x : Int} (h : (Lit.int .i64 x).wf = true) : -9223372036854775808 ≤ x ∧ x ≤ 9223372036854775807 := by
  simp [Lit.wf, IntKind.min, IntKind.max, IntKind.signed, IntKind.bits] at h
  omega
section
variable {M : Mem} {B k : Nat}
theorem sees_u16s {r : List Value} (h : Sees Try.prog M B (k + 2) 22 r) : ∃ A c, ∃ l : List Nat, r = [.slice A l.length c] ∧ l.length ≤ c ∧ l.length ≤ B ∧ Old A ∧ Row M A (uL l) ∧ ∀ x ∈ l, x ≤ 65535 := by
  obtain ⟨A, n, c, l, rfl, h1, h2, h3, h4, h5, h6, h7⟩ := sees_slice (f := fun x : Nat => [Value.int .u16 (x : Int)]) (good := fun x => x ≤ 65535) (e := 47) (by kernel_rfl) h fun r hr => by
    obtain ⟨x, rfl, hw⟩ := sees_int (q := .u16) (by kernel_rfl) hr
    have := wf_u16 hw
    exact ⟨x.toNat, by congr 2; omega, by omega⟩
  rw [flatMap_one fun x : Nat => Value.int .u16 (x : Int)] at h6
  subst h1
  exact ⟨A, c, l, rfl, h2, h3, h5, h6, h7⟩
/-- An argument's table. -/
structure TG (M : Mem) (B : Nat) (t : Tv) : Prop where
  old : Old t.A
  row : Row M t.A (uL t.l)
  len : t.l.length ≤ B
  cap : t.l.length ≤ t.c
  small : ∀ x ∈ t.l, x ≤ 65535
  kb : -9223372036854775808 ≤ t.k ∧ t.k ≤ 9223372036854775807
theorem sees_tab {r : List Value} (h : Sees Try.prog M B (k + 3) 24 r) : ∃ t : Tv, r = tvC t ∧ TG M B t := by
  obtain ⟨h1, h2⟩ := sees_struct (l := [(0, 22), (1, 3)]) (n := 2) (by kernel_rfl) (by kernel_rfl) h
  match r, h1 with
  | [a, b], _ =>
    have c3 : Try.prog.cellsOf 3 = 1 := by kernel_rfl
    have c22 : Try.prog.cellsOf 22 = 1 := by kernel_rfl
    have s0 := h2 (0, 22) (by simp)
    have s1 := h2 (1, 3) (by simp)
    rw [c22] at s0
    rw [c3] at s1
    obtain ⟨A, c, l, e1, g2, g3, g4, g5, g6⟩ := sees_u16s s0
    obtain ⟨x, e0, w0⟩ := sees_int (q := .i64) (by kernel_rfl) s1
    simp at e0 e1
    subst e0 e1
    exact ⟨⟨A, c, l, x⟩, rfl, g4, g5, g3, g2, g6, wf_i64 w0⟩
theorem sees_tabs {r : List Value} (h : Sees Try.prog M B (k + 4) 34 r) : ∃ A c, ∃ T : List Tv, r = [.slice A T.length c] ∧ T.length ≤ c ∧ T.length ≤ B ∧ Old A ∧ Row M A (T.flatMap tvC) ∧ ∀ t ∈ T, TG M B t := by
  obtain ⟨A, n, c, l, rfl, h1, h2, h3, h4, h5, h6, h7⟩ := sees_slice (f := tvC) (good := TG M B) (e := 24) (by kernel_rfl) h fun r hr => sees_tab hr
  subst h1
  exact ⟨A, c, l, rfl, h2, h3, h5, h6, h7⟩
theorem sees_ints {r : List Value} (h : Sees Try.prog M B (k + 2) 25 r) : ∃ A c, ∃ l : List Int, r = [.slice A l.length c] ∧ l.length ≤ B ∧ Old A ∧ Row M A (l.map (.int .i64)) ∧ ∀ x ∈ l, -9223372036854775808 ≤ x ∧ x ≤ 9223372036854775807 := by
  obtain ⟨A, n, c, l, rfl, h1, h2, h3, h4, h5, h6, h7⟩ := sees_slice (f := fun x : Int => [Value.int .i64 x]) (good := fun x => -9223372036854775808 ≤ x ∧ x ≤ 9223372036854775807) (e := 3) (by kernel_rfl) h fun r hr => by
    obtain ⟨x, rfl, hw⟩ := sees_int (q := .i64) (by kernel_rfl) hr
    exact ⟨x, rfl, wf_i64 hw⟩
  rw [flatMap_one fun x : Int => Value.int .i64 x] at h6
  subst h1
  exact ⟨A, c, l, rfl, h3, h5, h6, h7⟩
end
/-! ### Parts lie one behind the other -/
section
variable {l : List Nat} {k : Int}
theorem Okt.next (h : Okt l k) {s : Int} (h0 : -1 ≤ s) (hs : s + 1 < l.length) : endS l s + 4 ≤ endS l (s + 1) := by
  unfold endS
  by_cases e : s < 0
  · rw [if_pos e, if_neg (by omega)]; omega
  · rw [if_neg e, if_neg (by omega), show (s + 1).toNat = s.toNat + 1 by omega]
    have h1 := h.srt s.toNat (Nat.zero_le _) (by omega)
    have h2 : gn l s.toNat * (32768 - 4 * l.length) / 32768 ≤ gn l (s.toNat + 1) * (32768 - 4 * l.length) / 32768 := Nat.div_le_div_right (Nat.mul_le_mul_right _ h1)
    omega
theorem Okt.end_mono (h : Okt l k) : ∀ (d : Nat) {s : Int}, -1 ≤ s → s + d < l.length → endS l s ≤ endS l (s + d)
  | 0, s, _, _ => by simp
  | d + 1, s, h0, hs => by
    have h1 := h.end_mono d (s := s) h0 (by omega)
    have h2 := h.next (s := s + d) (by omega) (by omega)
    rw [show s + ((d + 1 : Nat) : Int) = s + d + 1 by omega]; omega
theorem Okt.fnd (h : Okt l k) {s : Nat} (hs : s < l.length) {x : Nat} (h1 : endS l ((s : Int) - 1) ≤ x) (h2 : x < endS l s) : Fnd l x s := by
  refine ⟨hs, h2, fun j hj => Nat.le_trans ?_ h1⟩
  have := h.end_mono (s - 1 - j) (s := (j : Nat)) (by omega) (by omega)
  rw [show ((j : Int) + ((s - 1 - j : Nat) : Int)) = (s : Int) - 1 by omega] at this
  exact this
theorem Okt.bounds (h : Okt l k) {s : Int} (h0 : 0 ≤ s) (hs : s < l.length) : boundsS l k s = (endS l (s - 1), endS l s, 0) := by
  unfold boundsS; rw [if_pos ⟨check_0.2 h, h0, hs⟩]
end
section
variable {M0 : Mem} {A : Option Addr} {n c : Nat} {l : List Nat} {k : Int} {x : Nat}
theorem c5_loop (hf : M0.floor ≤ M0.nb.size) (ho : Okt l k) (hR : Row M0 A (uL l)) (hn : n = l.length) (hx : x ≤ 4294967295) {j : Nat} : ∀ (m s : Nat) {M : Mem}, s + m = n → Keep M0 M → M.nb[j]? = some (tcells A n c k) →
    A5_1 (x : Nat) (some ⟨2 * j, 0, none⟩) (endS l ((s : Int) - 1) : Nat) (s : Nat) M fun v _ => v = .bool true := by
  have hlo := ho.lo
  have hhi := ho.hi
  have hb : n ≤ 1099511627776 := by omega
  intro m
  induction m with
  | zero =>
    intro s M hs K ha
    obtain rfl : n = s := by omega
    have hR2 := hR.keep K
    have hmod : ((x : Nat) : Int).tmod 32768 = ((x % 32768 : Nat) : Int) := by rw [show (32768 : Int) = ((32768 : Nat) : Int) from rfl, tmodN]
    refine w5_1 ⟨_, rfl, _, sl_of ha rfl, fun h => by have h : ((n : Nat) : Int) < (n : Nat) := h; omega, fun _ => ⟨_, rfl, _, sl_of ha rfl, _, int_of ha rfl, ?_⟩⟩
    rw [hmod]
    have hx2 : x % 32768 < 32768 := Nat.mod_lt _ (by decide)
    refine Cn.mono (c21 (fb hf K) hR2 hn hb) ?_
    rintro _ N ⟨KN, ⟨_, _, i, hfnd, rfl⟩ | ⟨hh, _⟩⟩
    case inr => exact absurd ⟨check_0.2 ho, hx2⟩ hh
    have ha2 := at_keep ha KN
    refine ⟨_, rfl, _, rfl, _, rfl, _, rfl, _, sl_of ha2 rfl, _, int_of ha2 rfl, Cn.mono (c20 (fb hf (K.trans KN)) (hR2.keep KN) hn hb) ?_⟩
    rintro _ N2 ⟨rfl, KN2⟩
    have hi := hfnd.lt
    rw [ho.bounds (by omega) (by omega)]
    have el := ho.end_last
    rw [← hn] at el
    refine ⟨_, rfl, _, rfl, _, rfl, _, rfl, fun _ => ?_, fun h => ?_⟩
    · dsimp only
      refine w5_3 ⟨fun _ => w5_5 ⟨fun _ => w5_7 ⟨fun _ => ?_, fun h => ?_⟩, fun h => by cases h⟩, fun h => by cases h⟩
      · rw [decide_eq_true (by have := hfnd.up; omega)]
      · have := of_decide_eq_false h
        exfalso
        rcases Nat.eq_zero_or_pos i with h0 | h0
        · subst h0
          have : endS l (((0 : Nat) : Int) - 1) = 0 := rfl
          omega
        · have := hfnd.lo (i - 1) (by omega)
          rw [show ((i - 1 : Nat) : Int) = (i : Int) - 1 by omega] at this
          omega
    · exact absurd (by rw [el]; rfl) h
  | succ m ih =>
    intro s M hs K ha
    have hR2 := hR.keep K
    refine w5_1 ⟨_, rfl, _, sl_of ha rfl, fun _ => ⟨_, rfl, _, sl_of ha rfl, _, int_of ha rfl, Cn.mono (c20 (fb hf K) hR2 hn hb) ?_⟩, fun h => by have h : ¬ ((s : Nat) : Int) < (n : Nat) := h; omega⟩
    rintro _ N ⟨rfl, KN⟩
    rw [ho.bounds (by omega) (by omega)]
    have ha2 := at_keep ha KN
    have hstep := ho.next (s := (s : Int) - 1) (by omega) (by omega)
    rw [show (s : Int) - 1 + 1 = (s : Int) by omega] at hstep
    have e1 := ho.end_le (s := (s : Int)) (by omega)
    have e2 := ho.end_le (s := (s : Int) - 1) (by omega)
    refine ⟨_, rfl, _, rfl, _, rfl, _, rfl, fun h => absurd rfl h, fun _ => ⟨fun h => absurd rfl h, fun _ => ?_⟩⟩
    dsimp only
    rw [show decide (((endS l (s : Nat) : Nat) : Int) < IntKind.u32.wrap (((endS l ((s : Int) - 1) : Nat) : Int) + 4)) = false by rw [u32w (by omega)]; exact decide_eq_false (by omega)]
    refine w5_2 ⟨fun h => (by cases h), fun _ => ⟨_, rfl, _, sl_of ha2 rfl, _, int_of ha2 rfl, Cn.mono (c21 (fb hf (K.trans KN)) (hR2.keep KN) hn hb) ?_⟩⟩
    rintro _ N2 ⟨KN2, ⟨_, _, i, hfnd, rfl⟩ | ⟨hh, _⟩⟩
    case inr => exact absurd ⟨check_0.2 ho, by omega⟩ hh
    obtain rfl : i = s := hfnd.uniq (ho.fnd (by omega) (Nat.le_refl _) (by omega))
    have ha3 := at_keep ha2 KN2
    refine ⟨_, rfl, _, rfl, _, rfl, _, rfl, _, sl_of ha3 rfl, _, int_of ha3 rfl, ?_⟩
    rw [u32w (by omega), show (((endS l (i : Nat) : Nat) : Int) - 1) = ((endS l (i : Nat) - 1 : Nat) : Int) by omega]
    refine Cn.mono (c21 (fb hf ((K.trans KN).trans KN2)) ((hR2.keep KN).keep KN2) hn hb) ?_
    rintro _ N3 ⟨KN3, ⟨_, _, j2, hfnd2, rfl⟩ | ⟨hh, _⟩⟩
    case inr => exact absurd ⟨check_0.2 ho, by omega⟩ hh
    obtain rfl : j2 = i := hfnd2.uniq (ho.fnd (by omega) (by omega) (by omega))
    refine ⟨_, rfl, _, rfl, _, rfl, fun h => absurd rfl h, fun _ => w5_4 ⟨fun h => (by cases h), fun _ => w5_6 ⟨fun h => (by simp at h), fun _ => w5_8 ⟨fun h => (by simp at h), fun _ => ?_⟩⟩⟩⟩
    rw [i64w (by omega), show ((j2 : Int) + 1) = ((j2 + 1 : Nat) : Int) by omega]
    have := ih (j2 + 1) (by omega) (((K.trans KN).trans KN2).trans KN3) (at_keep ha3 KN3)
    rw [show ((j2 + 1 : Nat) : Int) - 1 = (j2 : Int) by omega] at this
    exact this
end
theorem law5 {W : World} {cs : List Value} {u1 : Value} (s0 : Sees Try.prog (mem0 W) 1048576 8 24 cs) (s1 : Sees Try.prog (mem0 W) 1048576 8 37 [u1]) : Cn Try.prog 5 #[.agg cs.toArray, u1] (mem0 W) fun v _ => v = .bool true := by
  obtain ⟨t, rfl, g⟩ := sees_tab s0
  obtain ⟨x, e, hw⟩ := sees_int (q := .u32) (by kernel_rfl) s1
  simp at e
  subst e
  have hx := wf_u32 hw
  obtain ⟨x, rfl⟩ : ∃ y : Nat, x = (y : Nat) := ⟨x.toNat, by omega⟩
  have hf : (mem0 W).floor ≤ (mem0 W).nb.size := Nat.le_refl _
  generalize mem0 W = M at g hf ⊢
  obtain ⟨A, c, l, k⟩ := t
  have hlen := g.len
  dsimp only at hlen
  have hb40 : l.length ≤ 1099511627776 := by omega
  have a0 := newI (M := M) A l.length c k
  have K0 : Keep M (M.new (tcells A l.length c k)) := .new _ _
  show Cn Try.prog 5 #[.agg #[.slice A l.length c, .int .i64 k], .int .u32 (x : Nat)] M _
  refine w5_0 ?_
  generalize M.new (tcells A l.length c k) = N at a0 K0 ⊢
  have hR := g.row
  dsimp only at hR
  refine Cn.eq c16 ⟨_, rfl, fun h => (by cases h), fun _ => ⟨_, sl_of a0 rfl, _, int_of a0 rfl, Cn.mono (c19 (hR.keep K0) rfl hb40) ?_⟩⟩
  rintro _ R ⟨rfl, KR⟩
  have a1 := at_keep a0 KR
  refine ⟨_, rfl, fun h => ⟨_, sl_of a1 rfl, _, int_of a1 rfl, Cn.mono (c20 (fb hf (K0.trans KR)) ((hR.keep K0).keep KR) rfl hb40) ?_⟩, fun h => ?_⟩
  · rintro _ R2 ⟨rfl, KR2⟩
    have a2 := at_keep a1 KR2
    have hb : boundsS l k 0 = (0, 0, 2) := by unfold boundsS; rw [if_neg (fun hh => by rw [hh.1] at h; exact h rfl)]
    rw [hb]
    refine ⟨_, rfl, _, rfl, _, rfl, _, rfl, _, sl_of a2 rfl, _, int_of a2 rfl, Cn.mono (c21 (x := 0) (fb hf ((K0.trans KR).trans KR2)) (((hR.keep K0).keep KR).keep KR2) rfl hb40) ?_⟩
    rintro _ R3 ⟨_, ⟨hh, _⟩ | ⟨_, rfl⟩⟩
    · rw [hh] at h; exact absurd rfl h
    · exact ⟨_, rfl, _, rfl, _, rfl, fun _ => rfl, fun h => absurd rfl h⟩
  · have ho := check_0.1 (show checkS l k = 0 by omega)
    exact c5_loop (M0 := M) hf ho hR rfl (by omega) l.length 0 (Nat.zero_add _) (K0.trans KR) a1
end Go.Zt
