/- Layer 1: a reader beside a writer; what BitsStays comes to. -/
import Derived.Test.YtcpaggmhiflhbaaZbO
import Derived.Test.YtcpaggmhiflhbaaZbDe
set_option linter.unusedSimpArgs false
set_option linter.unusedVariables false
namespace Go.Zt
open Go Go.Sim Go.Proofs Go.RowKit

theorem lebL_err : ∀ (l : List Nat) (i v : Nat), (lebL l i v).2.1 ≠ 0 → (lebL l i v).2.2 = 0
  | [], _, _, _ => rfl
  | c :: r, i, v, h => by
    unfold lebL at h ⊢
    split
    · rfl
    · rename_i h1
      rw [if_neg h1] at h
      split
      · rename_i h2
        rw [if_pos h2] at h; exact absurd rfl h
      · rename_i h2
        rw [if_neg h2] at h
        exact lebL_err r _ _ h
/-- A read that fails leaves its place. -/
theorem rdD_err {b : List Nat} {p : Nat} {d : DoV} (h : (rdD b p d).2.1 ≠ 0) : (rdD b p d).2.2 = p := by
  unfold rdD at h ⊢
  split
  · rename_i h0
    rw [if_pos h0] at h
    unfold rFixed at h ⊢
    split
    · rfl
    · rename_i h1
      split
      · rfl
      · rename_i h2
        rw [if_neg h1, if_neg h2] at h; exact absurd rfl h
  rename_i h0
  rw [if_neg h0] at h
  split
  · rename_i h1
    rw [if_pos h1] at h
    show (rSigned b p d.n).2.2 = p
    have h : (rSigned b p d.n).2.1 ≠ 0 := h
    unfold rSigned at h ⊢
    split
    · rfl
    · rename_i h2
      rw [if_neg h2] at h
      split
      · rfl
      · rename_i h3
        rw [if_neg h3] at h
        split
        · rename_i h4
          rw [if_pos h4] at h
          split
          · rfl
          · rename_i h5
            rw [if_neg h5] at h; exact absurd rfl h
        · rename_i h4
          rw [if_neg h4] at h; exact absurd rfl h
  rename_i h1
  rw [if_neg h1] at h
  split
  · rename_i h2
    rw [if_pos h2] at h
    unfold rUvlc at h ⊢
    dsimp only at h ⊢
    split
    · rfl
    · rename_i h3
      rw [if_neg h3] at h
      split
      · rfl
      · rename_i h4
        rw [if_neg h4] at h; exact absurd rfl h
  rename_i h2
  rw [if_neg h2] at h
  split
  · rename_i h3
    rw [if_pos h3] at h
    unfold rLeb at h ⊢
    split
    · rfl
    · rename_i h4
      rw [if_neg h4] at h
      dsimp only at h ⊢
      rw [lebL_err _ _ _ h]; rfl
  · rename_i h3
    rw [if_neg h3] at h
    show (rAlign b p).2 = p
    have h : (rAlign b p).1 ≠ 0 := h
    unfold rAlign at h ⊢
    dsimp only at h ⊢
    split
    · rfl
    · rename_i h4
      rw [if_neg h4] at h; exact absurd rfl h
theorem rdD_ge (b : List Nat) (p : Nat) (d : DoV) : p ≤ (rdD b p d).2.2 := by
  unfold rdD
  split
  · unfold rFixed; repeat (split; exact Nat.le_refl _)
    exact Nat.le_add_right ..
  split
  · show p ≤ (rSigned b p d.n).2.2
    unfold rSigned; repeat (split; exact Nat.le_refl _)
    split
    · split
      · exact Nat.le_refl _
      · exact Nat.le_add_right ..
    · exact Nat.le_add_right ..
  split
  · unfold rUvlc; dsimp only; repeat (split; exact Nat.le_refl _)
    exact Nat.le_add_right ..
  split
  · unfold rLeb; split
    · exact Nat.le_refl _
    · exact Nat.le_add_right ..
  · show p ≤ (rAlign b p).2
    unfold rAlign; dsimp only; split
    · exact Nat.le_refl _
    · exact Nat.le_add_right ..
/-- A write that fails leaves what is written. -/
theorem wrD_err {w : List Nat} {d : DoV} (h : (wrD w d).1 ≠ 0) : wrD w d = (2, w) := by
  unfold wrD at h ⊢
  split
  · rename_i h0
    rw [if_pos h0] at h
    unfold wFixed at h ⊢
    split
    · rfl
    · rename_i h1
      rw [if_neg h1] at h; exact absurd rfl h
  rename_i h0
  rw [if_neg h0] at h
  split
  · rename_i h0
    rw [if_pos h0] at h
    unfold wSigned at h ⊢
    split
    · rfl
    · rename_i h1
      rw [if_neg h1] at h; exact absurd rfl h
  rename_i h0
  rw [if_neg h0] at h
  split
  · rename_i h0
    rw [if_pos h0] at h
    unfold wUvlc at h ⊢
    split
    · rfl
    · rename_i h1
      rw [if_neg h1] at h; exact absurd rfl h
  rename_i h0
  rw [if_neg h0] at h
  split
  · rename_i h0
    rw [if_pos h0] at h
    unfold wLeb at h ⊢
    split
    · rfl
    · rename_i h1
      rw [if_neg h1] at h; exact absurd rfl h
  · rename_i h0
    rw [if_neg h0] at h; exact absurd rfl h

/-- A reader and a writer, apart. -/
structure Rw (S1 : Nat → Prop) (M : Mem) (m1 j1 j2 : Nat) (b : List Nat) (p : Nat) (w : List Nat) : Prop where
  r : Rdr (fun i => m1 ≤ i ∧ i < j1) M j1 b p
  x : Wr S1 M j2 w
  s1 : ∀ i, S1 i → j1 < i ∧ i < M.nb.size
  lt : m1 ≤ j1 ∧ j1 < j2 ∧ j2 < M.nb.size
  fl : M.floor ≤ m1
def RW (M : Mem) (m1 j1 j2 : Nat) (b : List Nat) (p : Nat) (w : List Nat) : Prop := ∃ S1, Rw S1 M m1 j1 j2 b p w
section
variable {M N : Mem} {m1 j1 j2 p : Nat} {b w : List Nat}
theorem RW.keep (h : RW M m1 j1 j2 b p w) (k : Keep M N) : RW N m1 j1 j2 b p w := by
  obtain ⟨S, h⟩ := h
  exact ⟨S, h.r.keep k, h.x.keep k, fun i hi => ⟨(h.s1 i hi).1, Nat.lt_of_lt_of_le (h.s1 i hi).2 k.size⟩, ⟨h.lt.1, h.lt.2.1, Nat.lt_of_lt_of_le h.lt.2.2 k.size⟩, by rw [k.floor]; exact h.fl⟩
theorem RW.read (h : RW M m1 j1 j2 b p w) {d : DoV} (hd : d.wf) :
    Cn Try.prog 23 #[PtrB j1, d.arg] M fun v N => v = .tuple #[.int .u32 ((rdD b p d).1 : Nat), .int .i64 ((rdD b p d).2.1 : Nat)] ∧ N.base = M.base ∧ RW N m1 j1 j2 b (rdD b p d).2.2 w := by
  obtain ⟨S, h⟩ := h
  have hl := h.lt
  refine Cn.mono (c23 h.r (fun q hq => by omega) (Nat.le_trans h.fl hl.1) hd) ?_
  rintro v N ⟨rfl, hC, hR⟩
  exact ⟨rfl, hC.base, S, hR, h.x.chg hC fun i hi hs => by rcases hs with hs | hs; (have := h.s1 i hs; omega); omega, fun i hi => ⟨(h.s1 i hi).1, Nat.lt_of_lt_of_le (h.s1 i hi).2 hC.size⟩, ⟨hl.1, hl.2.1, Nat.lt_of_lt_of_le hl.2.2 hC.size⟩, by rw [hC.floor]; exact h.fl⟩
theorem RW.write {M0 : Mem} (h : RW M0 m1 j1 j2 b p w) (K : Keep M0 M) (hl : w.length ≤ 80000000000) {d : DoV} (hd : d.wf) :
    Cn Try.prog 11 #[PtrB j2, d.arg] M fun v N => v = .int .i64 ((wrD w d).1 : Nat) ∧ Chg (fun i => (j1 < i ∧ i < M0.nb.size) ∨ M.nb.size ≤ i) M N ∧ RW N m1 j1 j2 b p (wrD w d).2 := by
  obtain ⟨S, h⟩ := h
  have hlt0 := h.lt
  have hS : ∀ i, S i → i < M0.nb.size := fun i hi => (h.s1 i hi).2
  replace h : Rw S M m1 j1 j2 b p w := ⟨h.r.keep K, h.x.keep K, fun i hi => ⟨(h.s1 i hi).1, Nat.lt_of_lt_of_le (h.s1 i hi).2 K.size⟩, ⟨h.lt.1, h.lt.2.1, Nat.lt_of_lt_of_le h.lt.2.2 K.size⟩, by rw [K.floor]; exact h.fl⟩
  have hlt := h.lt
  have hW : Wr (fun i => S i ∨ M.nb.size ≤ i) M j2 w := h.x.mono (fun hh => by rcases hh with hh | hh; exact h.x.out hh; omega) fun i _ hi => .inl hi
  refine Cn.mono (c11 hW ⟨fun i hi => ?_, fun i hi => .inr hi⟩ hl hd) ?_
  · have := h.fl
    rcases hi with (hi | hi) | rfl
    · have := h.s1 i hi; omega
    · omega
    · omega
  rintro v N ⟨rfl, hC, hR⟩
  have hC' : Chg (fun i => (j1 < i ∧ i < M0.nb.size) ∨ M.nb.size ≤ i) M N := hC.mono fun i _ hi => by
    rcases hi with (hi | hi) | rfl
    · exact .inl ⟨(h.s1 i hi).1, hS i hi⟩
    · omega
    · omega
  refine ⟨rfl, hC', fun i => (S i ∨ M.nb.size ≤ i) ∧ i < N.nb.size, h.r.chg hC' (by omega) (fun i hi ht => by omega), hR.mono (fun hh => hR.out hh.1) fun i hi hs => ⟨hs, hi⟩, fun i hi => ⟨?_, hi.2⟩, ⟨hlt.1, hlt.2.1, Nat.lt_of_lt_of_le hlt.2.2 hC.size⟩, by rw [hC.floor]; exact h.fl⟩
  rcases hi.1 with hi | hi
  · exact (h.s1 i hi).1
  · omega
theorem RW.left (h : RW M m1 j1 j2 b p w) : Cn Try.prog 24 #[PtrB j1] M fun v N => v = .int .i64 ((8 * b.length - p : Nat) : Int) ∧ N = M := by
  obtain ⟨S, h⟩ := h
  exact c24 h.r
theorem RW.fls (h : RW M m1 j1 j2 b p w) : M.floor ≤ M.nb.size := by
  obtain ⟨S, h⟩ := h
  have := h.lt
  exact Nat.le_trans h.fl (by omega)
theorem RW.out (h : RW M m1 j1 j2 b p w) : Cn Try.prog 18 #[PtrB j2] M fun v N => ∃ A' c', v = .slice A' (pack w).length c' ∧ Keep M N ∧ Own (fun i => M.nb.size ≤ i) N 5 A' c' (U8 (pack w)) ∧ RW N m1 j1 j2 b p w := by
  have hf := h.fls
  obtain ⟨S, h'⟩ := id h
  refine Cn.mono (c18 h'.x hf) ?_
  rintro v N ⟨A, c, rfl, hK, hO, hc⟩
  exact ⟨A, c, rfl, hK, hO, h.keep hK⟩
/-- A reader of bytes and a new writer. -/
theorem RW.make {M : Mem} (hf : M.floor ≤ M.nb.size) {A : Option Addr} {n c : Nat} (hA : Row M A (U8 b)) (hn : n = b.length) (hb : b.length ≤ 1048576) (hB8 : Byt b) :
    Cn Try.prog 22 #[.slice A n c] M fun v N => ∃ j1, v = PtrB j1 ∧ Cn Try.prog 9 #[] N fun v2 N2 => ∃ m1 j2, v2 = PtrB j2 ∧ N2.base = M.base ∧ RW N2 m1 j1 j2 b 0 [] := by
  refine Cn.mono (c22 hf hA hn.symm (by omega) hB8) ?_
  rintro v N ⟨j1, rfl, K, hj1, hj1', hR⟩
  refine ⟨j1, rfl, Cn.mono c9 ?_⟩
  rintro v2 N2 ⟨rfl, K2, hs2, hW⟩
  exact ⟨M.nb.size, N.nb.size, rfl, by rw [K2.base, K.base], _, hR.keep K2, hW, fun i hi => hi.elim, ⟨by omega, by omega, by omega⟩, by rw [K2.floor, K.floor]; exact hf⟩
end

section
variable {B : Option Addr} {m d : Nat} {l : List DoV} {m1 j1 j2 : Nat} {b : List Nat}
theorem c5_loop {M0 : Mem} (hD : Row M0 B (Ds l)) (hB : Old B) (hm : m = l.length) (hw : ∀ x ∈ l, x.wf) (hl : l.length ≤ 1048576) :
    ∀ (k i p : Nat) (w : List Nat) {M : Mem}, i + k = l.length → M.base = M0.base → RW M m1 j1 j2 b p w → w.length ≤ 80 * i → i ≤ 100 →
    A5_1 B m d (some ⟨2 * j1, 0, none⟩) (some ⟨2 * j2, 0, none⟩) i M fun v _ => v = .bool true
  | k, i, p, w, M, hi, hM, h, hwl, hi2 => by
    have fin : A5_2 B m d (some ⟨2 * j1, 0, none⟩) (some ⟨2 * j2, 0, none⟩) i false M fun v _ => v = .bool true :=
      w5_2 ⟨fun h => (by cases h), fun _ => rfl⟩
    match k with
    | 0 => exact w5_1 ⟨fun h => by omega, fun _ => fin⟩
    | k + 1 =>
      refine w5_1 ⟨fun _ => ?_, fun h => absurd (show (i : Int) < m by omega) h⟩
      by_cases h200 : (i : Int) < 100
      case neg => rw [decide_eq_false h200]; exact fin
      rw [decide_eq_true h200]
      have hil : i < l.length := by omega
      have hd := hw _ (List.getElem_mem hil)
      have hwl' := wrD_len (w := w) hd.2
      have hwl2 : w.length ≤ 80000000000 := by omega
      have next : ∀ {N : Mem} (w' : List Nat) (p' : Nat), N.base = M0.base → RW N m1 j1 j2 b p' w' → w'.length ≤ w.length + 80 → A5_5 B m d (some ⟨2 * j1, 0, none⟩) (some ⟨2 * j2, 0, none⟩) i false N fun v _ => v = .bool true := by
        intro N w' p' hb h' hl'
        refine w5_5 ⟨fun h => (by cases h), fun _ => ?_⟩
        rw [i64w (by omega), show ((i : Int) + 1) = ((i + 1 : Nat) : Int) by omega]
        exact c5_loop hD hB hm hw hl k (i + 1) p' w' (by omega) hb h' (by omega) (by omega)
      have wr : ∀ {N : Mem} (p' : Nat), N.base = M0.base → RW N m1 j1 j2 b p' w → A5_4 B m d (some ⟨2 * j1, 0, none⟩) (some ⟨2 * j2, 0, none⟩) i false N fun v _ => v = .bool true := by
        intro N p' hb h'
        refine w5_4 ⟨fun h => (by cases h), fun _ => Cn.mono h'.out ?_⟩
        rintro v N2 ⟨A, c, rfl, hK, hO, h2⟩
        have hb2 : N2.base = M0.base := by rw [hK.base, hb]
        obtain ⟨a, i1, i2, i3, i4⟩ := Ds.at (old_row hD hB hb2) (n := m) (z := i) rfl (by omega) hil
        refine ⟨_, rfl, _, i1, _, i2, _, i3, _, i4, Cn.mono (h'.write hK hwl2 hd) ?_⟩
        rintro v2 N3 ⟨rfl, hC, h3⟩
        have hb3 : N3.base = M0.base := by rw [hC.base, hb2]
        refine ⟨_, rfl, fun hne => ?_, fun h0 => next _ p' hb3 h3 hwl'⟩
        have he := wrD_err (w := w) (d := l[i]) (fun h => hne (by rw [h]; rfl))
        rw [he] at h3 ⊢
        refine ⟨fun h => absurd rfl h, fun _ => Cn.mono h3.out ?_⟩
        rintro v4 N4 ⟨A4, c4, rfl, hK4, hO4, h4⟩
        have hO' : Own (fun i => N.nb.size ≤ i ∧ i < N2.nb.size) N2 5 A c (U8 (pack w)) := hO.mono fun q hq h => ⟨h, hq⟩
        have hO3 := (hO'.chg hC fun q hq hs => by omega).chg hK4 fun _ _ _ x => x
        refine ⟨_, rfl, Cn.eq (c19 hO4.row hO3.row rfl rfl (by rw [pack_len]; show (w.length + 7) / 8 ≤ _; omega)) ⟨_, rfl, ?_⟩⟩
        rw [show (!decide (pack w = pack w)) = false by simp]
        exact next w p' (by rw [hK4.base, hb3]) h4 (by omega)
      refine w5_2 ⟨fun _ => Cn.eq h.left ⟨_, rfl, ?_⟩, fun h => (by cases h)⟩
      obtain ⟨a, i1, i2, i3, i4⟩ := Ds.at (old_row hD hB hM) (n := m) (z := i) rfl (by omega) hil
      refine ⟨_, i1, _, i2, _, i3, _, i4, Cn.mono (h.read hd) ?_⟩
      rintro v N ⟨rfl, hbN, hR⟩
      have hb1 : N.base = M0.base := by rw [hbN, hM]
      refine ⟨_, rfl, _, rfl, _, rfl, fun hne => ?_, fun h0 => ?_⟩
      · have he := rdD_err (b := b) (p := p) (d := l[i]) (fun h => hne (by show (((rdD b p l[i]).2.1 : Nat) : Int) = 0; rw [h]; rfl))
        rw [he] at hR
        obtain ⟨a, i1, i2, i3, i4⟩ := Ds.at (old_row hD hB hb1) (n := m) (z := i) rfl (by omega) hil
        refine ⟨_, i1, _, i2, _, i3, _, i4, Cn.mono (hR.read hd) ?_⟩
        rintro v2 N2 ⟨rfl, hbN2, hR2⟩
        rw [he] at hR2
        have hb2 : N2.base = M0.base := by rw [hbN2, hb1]
        refine ⟨_, rfl, _, rfl, _, rfl, fun h => absurd rfl h, fun _ => Cn.eq hR2.left ⟨_, rfl, ?_⟩⟩
        rw [show ((((8 * b.length - p : Nat) : Int)) != ((8 * b.length - p : Nat) : Int)) = false by simp]
        exact w5_3 ⟨fun h => (by cases h), fun _ => ⟨fun h => absurd h hne, fun _ => wr p hb2 hR2⟩⟩
      · refine ⟨fun _ => Cn.eq hR.left ⟨_, rfl, ?_⟩, fun h => absurd h0 h⟩
        have hge := rdD_ge b p l[i]
        rw [show decide ((((8 * b.length - (rdD b p l[i]).2.2 : Nat) : Int)) > ((8 * b.length - p : Nat) : Int)) = false from decide_eq_false (by omega)]
        exact wr _ hb1 hR
end
theorem c5 {A B : Option Addr} {n c m d : Nat} {b : List Nat} {l : List DoV} {M : Mem} (hf : M.floor ≤ M.nb.size) (hA : Row M A (U8 b)) (hAo : Old A) (hn : n = b.length) (hb : b.length ≤ 1048576) (hB8 : Byt b) (hD : Row M B (Ds l)) (hB : Old B) (hm : m = l.length) (hl : l.length ≤ 1048576) (hw : ∀ x ∈ l, x.wf) :
    Cn Try.prog 5 #[.slice A n c, .slice B m d] M fun v _ => v = .bool true := by
  refine w5_0 (Cn.known (by rfl) ⟨_, rfl, fun h => (by cases h), fun _ => Cn.mono (RW.make hf hA hn hb hB8) ?_⟩)
  rintro v N ⟨j1, rfl, h⟩
  refine ⟨_, rfl, Cn.mono h ?_⟩
  rintro v2 N2 ⟨m1, j2, rfl, hbs, hR⟩
  exact ⟨_, rfl, c5_loop (M0 := M) hD hB hm hw hl _ 0 0 [] (Nat.zero_add _) hbs hR (by simp) (by omega)⟩
theorem law5 {W : World} {u0 u1 : Value} (s0 : Sees Try.prog (mem0 W) 1048576 8 37 [u0]) (s1 : Sees Try.prog (mem0 W) 1048576 8 22 [u1]) : Cn Try.prog 5 #[u0, u1] (mem0 W) fun v _ => v = .bool true := by
  obtain ⟨A, n, c, b, e, h1, h2, h3, h4, h5, h6⟩ := sees_bytes s0
  obtain ⟨B, m, d, l, e', g1, g2, g3, g4, g5, g6⟩ := sees_dos s1
  simp at e e'
  subst e e'
  exact c5 (Nat.le_refl _) h5 h4 h1 (by omega) h6 g5 g4 g1 (by omega) g6
end Go.Zt
