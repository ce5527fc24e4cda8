/- Layer 1: what BitsOnce comes to. -/
import Derived.Test.YtcpaggmhiflhbaaZbQ
import Derived.Test.YtcpaggmhiflhbaaZbDd
set_option linter.unusedSimpArgs false
set_option linter.unusedVariables false
namespace Go.Zt
open Go Go.Sim Go.Proofs Go.RowKit

theorem bitL_seg (f : Nat → Nat) (p i : Nat) : bitL (seg f 0 p) i = if i < p then f i else 0 := by
  by_cases h : i < p
  · rw [if_pos h]
    simp only [bitL, List.getD_eq_getElem?_getD, seg_at h, Option.getD_some, Nat.zero_add]
  · rw [if_neg h]
    exact bitL_out (by rw [seg_len]; omega)
theorem gbyte_full {b : List Nat} (hB : Byt b) {p i : Nat} (h : 8 * i + 8 ≤ p) (hi : i < b.length) : gbyte (seg (bitOf b) 0 p) i = b[i] := by
  rw [← numb8 hB hi]
  unfold gbyte
  refine numb_ext fun k hk => ?_
  rw [bitL_seg, if_pos (by omega)]
theorem gbyte_part {b : List Nat} (hB : Byt b) {p i s : Nat} (h1 : 8 * i < p) (h2 : p + s = 8 * i + 8) (hi : i < b.length) : gbyte (seg (bitOf b) 0 p) i = b[i] / 2 ^ s * 2 ^ s := by
  have e := segN (bitOf_lt b) 8 (8 * i)
  have e8 : (8 : Nat) = (8 - s) + s := by omega
  have ha : gbyte (seg (bitOf b) 0 p) i = 2 ^ s * numb (bitL (seg (bitOf b) 0 p)) (8 * i) (8 - s) := by
    unfold gbyte
    have := numb_pad (f := bitL (seg (bitOf b) 0 p)) (a := 8 * i) (r := 8 - s) (s := s) fun k hk => by rw [bitL_seg, if_neg (by omega)]
    rw [← e8] at this; exact this
  have hb : numb (bitL (seg (bitOf b) 0 p)) (8 * i) (8 - s) = numb (bitOf b) (8 * i) (8 - s) := numb_ext fun k hk => by rw [bitL_seg, if_pos (by omega)]
  have hc : numb (bitOf b) (8 * i) (8 - s) = b[i] / 2 ^ s := by
    have hx : b[i] < 256 := hB _ (List.getElem_mem _)
    refine numb_seg (bitOf_lt b) ?_ ?_
    · refine Nat.div_lt_of_lt_mul ?_
      rw [← Nat.pow_add, Nat.add_comm, ← e8]; exact hx
    · rw [numb8 hB hi] at e
      have e2 := bitsN_split b[i] s (8 - s)
      rw [← e8, e] at e2
      have e3 := seg_app (bitOf b) (8 * i) s (8 - s)
      rw [← e8] at e3
      rw [e3] at e2
      exact (List.append_inj e2 (by rw [seg_len, bitsN_len])).1
  rw [ha, hb, hc, Nat.mul_comm]

section
variable {A B : Option Addr} {n c m d : Nat} {l : List DoV} {m1 j1 j2 : Nat} {b : List Nat}
theorem c4_end {p : Nat} {M : Mem} (hB8 : Byt b) (hA : Row M A (U8 b)) (hn : n = b.length) (hb : b.length ≤ 1048576) (hp : p ≤ 8 * b.length) {A' : Option Addr} {c' : Nat} (hO : Row M A' (U8 (pack (seg (bitOf b) 0 p)))) :
    ∀ (k i : Nat), i + k = (pack (seg (bitOf b) 0 p)).length → A4_5 A n c p A' (pack (seg (bitOf b) 0 p)).length c' i M fun v _ => v = .bool true
  | 0, i, hi => w4_5 ⟨fun h => by omega, fun _ => rfl⟩
  | k + 1, i, hi => by
    have hlen := pack_len (seg (bitOf b) 0 p)
    rw [seg_len] at hlen
    have hib : i < b.length := by omega
    have ho : (pack (seg (bitOf b) 0 p))[i]? = some (gbyte (seg (bitOf b) 0 p) i) := by
      unfold pack
      rw [seg_len, List.getElem?_map, List.getElem?_range (by omega)]; rfl
    obtain ⟨a, i1, i2⟩ := hA.int1 (n := n) (i := i) (z := i) (k := .u8) (x := (b[i] : Nat)) rfl (by omega) (by simp [hib])
    obtain ⟨a', i3, i4⟩ := hO.int1 (n := (pack (seg (bitOf b) 0 p)).length) (i := i) (z := i) (k := .u8) (x := (gbyte (seg (bitOf b) 0 p) i : Nat)) rfl (by omega) (by rw [List.getElem?_map, ho]; rfl)
    have hx : b[i] < 256 := hB8 _ (List.getElem_mem _)
    have nxt := c4_end (c' := c') hB8 hA hn hb hp hO k (i + 1) (by omega)
    refine w4_5 ⟨fun _ => ⟨_, i1, _, i2, ?_⟩, fun h => by omega⟩
    rw [i64w (x := (i : Int) + 1) (by omega), show ((i : Int) + 1) = ((i + 1 : Nat) : Int) by omega]
    have e1 : IntKind.i64.wrap (8 * (i : Int)) = 8 * (i : Int) := i64w (by omega)
    have e2 : IntKind.i64.wrap ((p : Int) - 8 * (i : Int)) = (p : Int) - 8 * (i : Int) := i64w (by omega)
    rw [e1, e2]
    refine ⟨fun h => ?_, fun h => ⟨_, i3, _, i4, ?_, fun _ => nxt⟩⟩
    · have e3 : IntKind.i64.wrap (8 - ((p : Int) - 8 * (i : Int))) = ((8 * i + 8 - p : Nat) : Int) := by rw [i64w (by omega)]; omega
      rw [e3]
      have hle : b[i] / 2 ^ (8 * i + 8 - p) * 2 ^ (8 * i + 8 - p) ≤ b[i] := Nat.div_mul_le_self ..
      refine ⟨_, shr_nat (k := .u8) rfl (show 8 * i + 8 - p ≤ 8 by omega), _, rfl, _, shl_u8 rfl (by omega) (by omega), _, rfl, _, i3, _, i4, ?_, fun _ => nxt⟩
      rw [gbyte_part (s := 8 * i + 8 - p) hB8 (by omega) (by omega) hib]
      exact fun h => absurd rfl h
    · rw [gbyte_full hB8 (by omega) hib]
      exact fun h => absurd rfl h
theorem RW.pos {M : Mem} {p : Nat} {w : List Nat} (h : RW M m1 j1 j2 b p w) : p ≤ 8 * b.length := by
  obtain ⟨S, h⟩ := h
  exact h.r.pos
theorem c4_loop {M0 : Mem} (hB8 : Byt b) (hA : Row M0 A (U8 b)) (hAo : Old A) (hn : n = b.length) (hb : b.length ≤ 1048576) (hD : Row M0 B (Ds l)) (hB : Old B) (hm : m = l.length) (hw : ∀ x ∈ l, x.wf) (hl : l.length ≤ 1048576) :
    ∀ (k i p : Nat) {M : Mem}, i + k = l.length → M.base = M0.base → RW M m1 j1 j2 b p (seg (bitOf b) 0 p) →
    A4_1 A n c B m d (some ⟨2 * j1, 0, none⟩) (some ⟨2 * j2, 0, none⟩) i M fun v _ => v = .bool true
  | k, i, p, M, hi, hM, h => by
    have hp := h.pos
    have fin : A4_2 A n c B m d (some ⟨2 * j1, 0, none⟩) (some ⟨2 * j2, 0, none⟩) i false M fun v _ => v = .bool true := by
      refine w4_2 ⟨fun h => (by cases h), fun _ => Cn.eq h.left ⟨_, rfl, Cn.mono h.out ?_⟩⟩
      rintro v N ⟨A', c', rfl, hK, hO, _⟩
      refine ⟨_, rfl, ?_⟩
      have e1 : IntKind.i64.wrap (8 * (n : Int)) = 8 * (n : Int) := i64w (by omega)
      have e2 : IntKind.i64.wrap (8 * (n : Int) - ((8 * b.length - p : Nat) : Int)) = (p : Int) := by rw [i64w (by omega)]; omega
      have e3 : IntKind.i64.wrap (IntKind.i64.wrap ((p : Int) + 7) |>.tdiv 8) = (((p + 7) / 8 : Nat) : Int) := by
        rw [i64w (x := (p : Int) + 7) (by omega), show ((p : Int) + 7) = ((p + 7 : Nat) : Int) by omega, show ((8 : Int)) = ((8 : Nat) : Int) from rfl, tdivN, i64w (by omega)]
      rw [e1, e2, e3]
      refine ⟨fun h => by omega, fun _ => ⟨fun h => by omega, fun _ => ?_⟩⟩
      have e4 : (pack (seg (bitOf b) 0 p)).length = (p + 7) / 8 := by rw [pack_len, seg_len]
      rw [show ((((pack (seg (bitOf b) 0 p)).length : Int)) != (((p + 7) / 8 : Nat) : Int)) = false by rw [e4]; simp]
      exact w4_4 ⟨fun h => (by cases h), fun _ => c4_end hB8 (old_row hA hAo (by rw [hK.base, hM])) hn hb hp hO.row _ 0 (Nat.zero_add _)⟩
    match k with
    | 0 => exact w4_1 ⟨fun h => by omega, fun _ => fin⟩
    | k + 1 =>
      refine w4_1 ⟨fun _ => ?_, fun h => absurd (show (i : Int) < m by omega) h⟩
      by_cases h200 : (i : Int) < 200
      case neg => rw [decide_eq_false h200]; exact fin
      rw [decide_eq_true h200]
      have hil : i < l.length := by omega
      have hd := hw _ (List.getElem_mem hil)
      have next : ∀ {N : Mem} (p' : Nat), N.base = M0.base → RW N m1 j1 j2 b p' (seg (bitOf b) 0 p') → A4_3 A n c B m d (some ⟨2 * j1, 0, none⟩) (some ⟨2 * j2, 0, none⟩) i false N fun v _ => v = .bool true := by
        intro N p' hbN h'
        refine w4_3 ⟨fun h => (by cases h), fun _ => ?_⟩
        rw [i64w (by omega), show ((i : Int) + 1) = ((i + 1 : Nat) : Int) by omega]
        exact c4_loop hB8 hA hAo hn hb hD hB hm hw hl k (i + 1) p' (by omega) hbN h'
      obtain ⟨a, i1, i2, i3, i4⟩ := Ds.at (old_row hD hB hM) (n := m) (z := i) rfl (by omega) hil
      refine w4_2 ⟨fun _ => ⟨_, i1, _, i2, _, i3, _, i4, Cn.mono (h.read hd) ?_⟩, fun h => (by cases h)⟩
      rintro v N ⟨rfl, hbN, hR⟩
      have hb1 : N.base = M0.base := by rw [hbN, hM]
      refine ⟨_, rfl, _, rfl, _, rfl, fun h0 => ?_, fun hne => ?_⟩
      · obtain ⟨a, i1, i2, i3, i4⟩ := Ds.at (old_row hD hB hb1) (n := m) (z := i) rfl (by omega) hil
        obtain ⟨⟨g1, g2⟩, g3⟩ := once (w := seg (bitOf b) 0 p) hB8 hp (seg_len _ _ _) hd (by have h0 : (((rdD b p l[i]).2.1 : Nat) : Int) = 0 := h0; omega)
        refine ⟨_, i1, _, i2, _, i1, _, i3, Cn.mono (hR.write (.refl _) (by rw [seg_len]; omega) (d := ⟨l[i].k, l[i].n, (rdD b p l[i]).1⟩) ⟨hd.1, g3⟩) ?_⟩
        rintro v2 N2 ⟨rfl, hC, h2⟩
        rw [g2] at h2 ⊢
        refine ⟨_, rfl, next (rdD b p l[i]).2.2 (by rw [hC.base, hb1]) ?_⟩
        have e := seg_app (bitOf b) 0 ((rdD b p l[i]).2.2 - p) p
        rw [Nat.zero_add, Nat.add_sub_cancel' g1] at e
        rw [e]; exact h2
      · have he := rdD_err (b := b) (p := p) (d := l[i]) (fun h => hne (by show (((rdD b p l[i]).2.1 : Nat) : Int) = 0; rw [h]; rfl))
        rw [he] at hR
        exact next p hb1 hR
end
theorem c4 {A B : Option Addr} {n c m d : Nat} {b : List Nat} {l : List DoV} {M : Mem} (hf : M.floor ≤ M.nb.size) (hA : Row M A (U8 b)) (hAo : Old A) (hn : n = b.length) (hb : b.length ≤ 1048576) (hB8 : Byt b) (hD : Row M B (Ds l)) (hB : Old B) (hm : m = l.length) (hl : l.length ≤ 1048576) (hw : ∀ x ∈ l, x.wf) :
    Cn Try.prog 4 #[.slice A n c, .slice B m d] M fun v _ => v = .bool true := by
  refine w4_0 (Cn.known (by rfl) ⟨_, rfl, fun h => (by cases h), fun _ => Cn.mono (RW.make hf hA hn hb hB8) ?_⟩)
  rintro v N ⟨j1, rfl, h⟩
  refine ⟨_, rfl, Cn.mono h ?_⟩
  rintro v2 N2 ⟨m1, j2, rfl, hbs, hR⟩
  exact ⟨_, rfl, c4_loop (M0 := M) hB8 hA hAo hn hb hD hB hm hw hl _ 0 0 (Nat.zero_add _) hbs hR⟩
theorem law4 {W : World} {u0 u1 : Value} (s0 : Sees Try.prog (mem0 W) 1048576 8 37 [u0]) (s1 : Sees Try.prog (mem0 W) 1048576 8 22 [u1]) : Cn Try.prog 4 #[u0, u1] (mem0 W) fun v _ => v = .bool true := by
  obtain ⟨A, n, c, b, e, h1, h2, h3, h4, h5, h6⟩ := sees_bytes s0
  obtain ⟨B, m, d, l, e', g1, g2, g3, g4, g5, g6⟩ := sees_dos s1
  simp at e e'
  subst e e'
  exact c4 (Nat.le_refl _) h5 h4 h1 (by omega) h6 g5 g4 g1 (by omega) g6
end Go.Zt
