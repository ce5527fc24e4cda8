/- Layer 1: what BitsBack comes to. -/
import Derived.Test.YtcpaggmhiflhbaaZbW
import Derived.Test.YtcpaggmhiflhbaaZbDc
set_option linter.unusedSimpArgs false
set_option linter.unusedVariables false
namespace Go.Zt
open Go Go.Sim Go.Proofs Go.RowKit

theorem el22 : ElemS Try.prog 22 29 3 24 (.agg #[.int .i64 0, .int .i64 0, .int .u32 0]) := ⟨by kernel_rfl, by kernel_rfl, rfl, by decide, by decide⟩
theorem Ds_one (l : List DoV) : (Ds l).all oneCell = true := by
  rw [List.all_eq_true]
  intro v hv
  obtain ⟨d, _, hd⟩ := List.mem_flatMap.1 hv
  simp at hd
  rcases hd with rfl | rfl | rfl <;> rfl
theorem Ds_len (l : List DoV) : (Ds l).length = l.length * 3 := flat_len (f := DoV.cells) (s := 3) (fun _ => rfl) l
/-- A writer beside a list of what has been written. -/
structure Wl (S D : Nat → Prop) (M : Mem) (j b0 : Nat) (w : List Nat) (A : Option Addr) (c : Nat) (l : List DoV) : Prop where
  r : Wr S M j w
  o : Own D M 29 A (c * 3) (Ds l)
  s1 : ∀ i, S i → b0 ≤ i ∧ i < M.nb.size
  s2 : ∀ i, D i → b0 ≤ i ∧ i < M.nb.size ∧ ¬ S i ∧ i ≠ j
  b1 : b0 ≤ j
  fl : M.floor ≤ b0
def WL (M : Mem) (j b0 : Nat) (w : List Nat) (A : Option Addr) (c : Nat) (l : List DoV) : Prop := ∃ S D, Wl S D M j b0 w A c l
section
variable {M N : Mem} {j b0 c : Nat} {w : List Nat} {A : Option Addr} {l : List DoV}
theorem WL.write (h : WL M j b0 w A c l) (hl : w.length ≤ 80000000000) {d : DoV} (hd : d.wf) :
    Cn Try.prog 11 #[PtrB j, d.arg] M fun v N => v = .int .i64 ((wrD w d).1 : Nat) ∧ N.base = M.base ∧ WL N j b0 (wrD w d).2 A c l := by
  obtain ⟨S, D, h⟩ := h
  have hlt := h.r.lt
  have hb1 := h.b1
  have hW : Wr (fun i => S i ∨ M.nb.size ≤ i) M j w := h.r.mono (fun hh => by rcases hh with hh | hh; exact h.r.out hh; omega) fun i _ hi => .inl hi
  refine Cn.mono (c11 hW ⟨fun i hi => ?_, fun i hi => .inr hi⟩ hl hd) ?_
  · have := h.fl
    rcases hi with (hi | hi) | rfl
    · have := h.s1 i hi; omega
    · omega
    · omega
  rintro v N ⟨rfl, hC, hR⟩
  have hsz := hC.size
  refine ⟨rfl, hC.base, fun i => (S i ∨ M.nb.size ≤ i) ∧ i < N.nb.size, D, hR.mono (fun hh => hR.out hh.1) (fun i hi hs => ⟨hs, hi⟩), h.o.chg hC fun i hi hs ht => ?_, fun i hi => ⟨?_, hi.2⟩, fun i hi => ?_, hb1, by rw [hC.floor]; exact h.fl⟩
  · have := h.s2 i hs
    rcases ht with (ht | ht) | ht
    · exact this.2.2.1 ht
    · omega
    · exact this.2.2.2 ht
  · rcases hi.1 with hi | hi
    · exact (h.s1 i hi).1
    · omega
  · have := h.s2 i hi
    exact ⟨this.1, by omega, fun hh => hh.1.elim this.2.2.1 (by omega), this.2.2.2⟩
theorem WL.push (h : WL M j b0 w A c l) (hl : l.length ≤ 1000000) (d : DoV) :
    ∃ A' c' N, appendP Try.prog #[22, 22] (.slice A l.length c) (.slice (some ⟨2 * M.nb.size, 0, none⟩) 1 1) (M.new (.cells #[.int .i64 d.k, .int .i64 d.n, .int .u32 (d.v : Nat)] 29)) = some (.slice A' (l.length + 1) c', N) ∧ N.base = M.base ∧ WL N j b0 w A' c' (l ++ [d]) := by
  obtain ⟨S, D, h⟩ := h
  have hlt := h.r.lt
  have hb1 := h.b1
  have hfl := h.fl
  have hO : Own (fun i => D i ∨ M.nb.size ≤ i) (M.new (.cells #[.int .i64 d.k, .int .i64 d.n, .int .u32 (d.v : Nat)] 29)) 29 A (c * 3) (Ds l) :=
    (h.o.mono fun i _ hi => .inl hi).chg (T := fun _ => False) (.new _ _) fun _ _ _ x => x
  have hS : ∀ i, D i ∨ M.nb.size ≤ i → M.floor ≤ i := by
    intro i hi
    rcases hi with hi | hi
    · have := h.s2 i hi; omega
    · omega
  obtain ⟨A', c', N, g1, g2, g3, g4⟩ := append_own el22 hO (n := l.length) (Ds_len l) (Row.new M 29 (Ds [d])) (k := 1) (cx := 1) (by simp) (Ds_one [d]) hS (.inr (by rw [Mem.new_size]; omega)) (by omega)
  have hC : Chg (fun i => D i ∨ M.nb.size ≤ i) M N := (Chg.new M _).trans g2
  have hsz := hC.size
  refine ⟨A', c', N, g1, hC.base, S, fun i => (D i ∨ M.nb.size ≤ i) ∧ i < N.nb.size, h.r.chg hC fun i hi hs ht => ?_, ?_, fun i hi => ⟨(h.s1 i hi).1, Nat.lt_of_lt_of_le (h.s1 i hi).2 hsz⟩, fun i hi => ?_, hb1, by rw [hC.floor]; exact hfl⟩
  · rcases ht with ht | ht
    · have := h.s2 i ht
      rcases hs with hs | hs
      · exact this.2.2.1 hs
      · exact this.2.2.2 hs
    · omega
  · have e : Ds (l ++ [d]) = Ds l ++ Ds [d] := List.flatMap_append
    rw [e]
    exact g3.mono fun i hi hs => ⟨hs, hi⟩
  · rcases hi.1 with h1 | h1
    · have := h.s2 i h1
      exact ⟨this.1, hi.2, this.2.2⟩
    · exact ⟨by omega, hi.2, fun hs => by have := h.s1 i hs; omega, by omega⟩
end

section
variable {A B : Option Addr} {c m d : Nat} {l dl : List DoV} {j b0 : Nat} {w : List Nat}
theorem c7_back {j1 m1 : Nat} (hdl : dl.length ≤ 1000000) (hw : Bin w) : ∀ (k i : Nat) (w0 : List Nat) {M : Mem}, i + k = dl.length → Row M A (Ds dl) → (∀ a, A = some a → a.block % 2 = 1 ∨ a.block / 2 < j1) → M.floor ≤ j1 → M.floor ≤ M.nb.size →
    Rdr (fun i => m1 ≤ i ∧ i < j1) M j1 (pack w) w0.length → Okd w0 (dl.drop i) w →
    A7_4 A dl.length c (some ⟨2 * j1, 0, none⟩) i M fun v _ => v = .bool true
  | 0, i, w0, M, hi, hR, hA, hf, hf2, h, hk => by
    rw [List.drop_of_length_le (by omega)] at hk
    have hk : w0 = w := hk
    subst hk
    refine w7_4 ⟨fun h => by omega, fun _ => Cn.eq (c24 h) ⟨_, rfl, fun hg => ?_, fun _ => Cn.mono (c31 h hf) ?_⟩⟩
    · rw [pack_len] at hg; omega
    rintro v N ⟨rfl, hC, hfl, hR2⟩
    rw [align_end hw] at hR2 ⊢
    refine ⟨_, rfl, fun _ => Cn.eq (c24 hR2) ⟨_, rfl, fun _ => ?_, fun h => absurd (show (((8 * (pack w0).length - 8 * (pack w0).length : Nat)) : Int) = 0 by omega) h⟩, fun h => absurd rfl h⟩
    refine Cn.mono (c29 hR2 (by rw [hC.floor]; exact Nat.le_trans hf2 hC.size)) ?_
    rintro v2 N2 ⟨A', c', rfl, _, _, _⟩
    refine ⟨_, rfl, ?_⟩
    have e : ((pack w0).drop ((8 * (pack w0).length + 7) / 8)).length = 0 := by rw [List.length_drop]; omega
    show Value.bool ((((pack w0).drop ((8 * (pack w0).length + 7) / 8)).length : Int) == 0) = _
    rw [e]; rfl
  | k + 1, i, w0, M, hi, hR, hA, hf, hf2, h, hk => by
    have hil : i < dl.length := by omega
    rw [List.drop_eq_getElem_cons hil] at hk
    have hd := hk.1
    obtain ⟨x, e1, e2, e3⟩ := hk.read hw
    obtain ⟨a, i1, i2, i3, i4⟩ := Ds.at hR (n := dl.length) (z := i) rfl hil hil
    refine w7_4 ⟨fun _ => ⟨_, i1, _, i2, _, i3, _, i4, Cn.mono (c23 h (fun q hq => by have := lt_of_at h.ex.choose_spec.choose_spec.1; omega) hf hd) ?_⟩, fun h => by omega⟩
    rintro v N ⟨rfl, hC, hR2⟩
    rw [e1] at hR2 ⊢
    have hRN : Row N A (Ds dl) := hR.chg hC fun a ha => (hA a ha).imp id fun h => by omega
    have next : A7_5 A dl.length c (some ⟨2 * j1, 0, none⟩) i false N fun v _ => v = .bool true := by
      refine w7_5 ⟨fun h => (by cases h), fun _ => ?_⟩
      rw [i64w (by omega), show ((i : Int) + 1) = ((i + 1 : Nat) : Int) by omega]
      exact c7_back hdl hw k (i + 1) _ (by omega) hRN hA (by rw [hC.floor]; exact hf) (by rw [hC.floor]; exact Nat.le_trans hf2 hC.size) hR2 e3
    obtain ⟨a, i1, i2, i3, i4⟩ := Ds.at hRN (n := dl.length) (z := i) rfl hil hil
    refine ⟨_, rfl, _, rfl, _, rfl, fun h => absurd rfl h, fun _ => ⟨_, i1, _, i2, Cn.eq (c12 hd.1 (by decide)) ⟨_, rfl, fun h4 => ⟨_, i1, _, i4, ?_⟩, fun _ => next⟩⟩⟩
    rw [e2 h4, show ((((dl[i].v : Nat) : Int)) != ((dl[i].v : Nat) : Int)) = false by simp]
    exact next
theorem c7_loop {M0 : Mem} (hD : Row M0 B (Ds l)) (hB : Old B) (hm : m = l.length) (hw : ∀ x ∈ l, x.wf) (hl : l.length ≤ 1048576) :
    ∀ (k i : Nat) (w : List Nat) (A : Option Addr) (c : Nat) (dl : List DoV) {M : Mem}, i + k = l.length → M.base = M0.base → WL M j b0 w A c dl → Okd [] dl w → w.length ≤ 80 * i → dl.length ≤ i → i ≤ 100 →
    A7_1 B m d (some ⟨2 * j, 0, none⟩) A dl.length c i M fun v _ => v = .bool true
  | k, i, w, A, c, dl, M, hi, hM, h, hk, hwl, hdl, hi2 => by
    have fin : A7_2 B m d (some ⟨2 * j, 0, none⟩) A dl.length c i false M fun v _ => v = .bool true := by
      obtain ⟨S, D, h⟩ := h
      have hlt := h.r.lt
      have hf : M.floor ≤ M.nb.size := Nat.le_trans h.fl (by have := h.b1; omega)
      refine w7_2 ⟨fun h => (by cases h), fun _ => Cn.mono (c18 h.r hf) ?_⟩
      rintro v N ⟨A', c', rfl, hK, hO, hc⟩
      refine ⟨_, rfl, Cn.mono (c22 (n := (pack w).length) (by rw [hK.floor]; exact Nat.le_trans hf hK.size) hO.row rfl (by rw [pack_len]; omega) (pack_byt h.r.bin)) ?_⟩
      rintro v2 N2 ⟨j1, rfl, hK2, hj1, hj1', hR⟩
      have hKK := hK.trans hK2
      have hrow : Row N2 A (Ds dl) := ((h.o.chg hK fun _ _ _ x => x).chg hK2 fun _ _ _ x => x).row
      refine ⟨_, rfl, c7_back (j1 := j1) (m1 := N.nb.size) (by omega) h.r.bin _ 0 [] (Nat.zero_add _) hrow ?_ ?_ ?_ hR hk⟩
      · intro a ha
        rcases h.o with ⟨h1, h2, h3⟩ | ⟨q, cs, sp, h1, h2, h3, h4, h5⟩
        · rw [h1] at ha; cases ha
        · rw [h1] at ha
          obtain rfl := Option.some.inj ha
          have := h.s2 q h3
          have := hK.size
          exact .inr (by show 2 * q / 2 < j1; omega)
      · rw [hKK.floor]; have := hK.size; omega
      · rw [hKK.floor]; exact Nat.le_trans hf hKK.size
    match k with
    | 0 => exact w7_1 ⟨fun h => by omega, fun _ => fin⟩
    | k + 1 =>
      refine w7_1 ⟨fun _ => ?_, fun h => absurd (show (i : Int) < m by omega) h⟩
      by_cases h200 : (i : Int) < 100
      case neg => rw [decide_eq_false h200]; exact fin
      rw [decide_eq_true h200]
      have hil : i < l.length := by omega
      have hd := hw _ (List.getElem_mem hil)
      have hwl' := wrD_len (w := w) hd.2
      have next : ∀ {N : Mem} (w' : List Nat) (A' : Option Addr) (c' : Nat) (dl' : List DoV), N.base = M0.base → WL N j b0 w' A' c' dl' → Okd [] dl' w' → w'.length ≤ w.length + 80 → dl'.length ≤ dl.length + 1 →
          A7_3 B m d (some ⟨2 * j, 0, none⟩) A' dl'.length c' i N fun v _ => v = .bool true := by
        intro N w' A' c' dl' hb h' hk' h1 h2
        refine w7_3 ?_
        rw [i64w (by omega), show ((i : Int) + 1) = ((i + 1 : Nat) : Int) by omega]
        exact c7_loop hD hB hm hw hl k (i + 1) w' A' c' dl' (by omega) hb h' hk' (by omega) (by omega) (by omega)
      obtain ⟨a, i1, i2, i3, i4⟩ := Ds.at (old_row hD hB hM) (n := m) (z := i) rfl (by omega) hil
      refine w7_2 ⟨fun _ => ⟨_, i1, _, i2, _, i3, _, i4, Cn.mono (h.write (by omega) hd) ?_⟩, fun h => (by cases h)⟩
      rintro v N ⟨rfl, hbN, hR⟩
      have hb1 : N.base = M0.base := by rw [hbN, hM]
      refine ⟨_, rfl, fun h0 => ?_, fun hne => ?_⟩
      · have h0 : (wrD w l[i]).1 = 0 := by have h0 : (((wrD w l[i]).1 : Nat) : Int) = 0 := h0; omega
        obtain ⟨a, i1, i2, i3, i4⟩ := Ds.at (old_row hD hB hb1) (n := m) (z := i) rfl (by omega) hil
        obtain ⟨A', c', N2, p1, hb2, hR2⟩ := hR.push (by omega) l[i]
        refine ⟨_, i1, _, i2, _, i3, _, i4, _, p1, _, rfl, ?_⟩
        have e : (dl ++ [l[i]]).length = dl.length + 1 := by simp
        have := next _ A' c' (dl ++ [l[i]]) (by rw [hb2, hb1]) hR2 (hk.snoc hd h0) hwl' (by simp)
        rw [e] at this
        exact this
      · have he := wrD_err (w := w) (d := l[i]) (fun h => hne (by show (((wrD w l[i]).1 : Nat) : Int) = 0; rw [h]; rfl))
        rw [he] at hR
        exact next w A c dl hb1 hR hk (by omega) (by omega)
end
theorem c7 {B : Option Addr} {m d : Nat} {l : List DoV} {M : Mem} (hf : M.floor ≤ M.nb.size) (hD : Row M B (Ds l)) (hB : Old B) (hm : m = l.length) (hl : l.length ≤ 1048576) (hw : ∀ x ∈ l, x.wf) :
    Cn Try.prog 7 #[.slice B m d] M fun v _ => v = .bool true := by
  refine w7_0 (Cn.known (by rfl) ⟨_, rfl, fun h => (by cases h), fun _ => Cn.mono c9 ?_⟩)
  rintro v N ⟨rfl, K, hs, hW⟩
  exact ⟨_, rfl, c7_loop (M0 := M) (b0 := M.nb.size) hD hB hm hw hl _ 0 [] none 0 [] (Nat.zero_add _) K.base ⟨_, fun _ => False, hW, Own.empty, fun i hi => hi.elim, fun i hi => hi.elim, Nat.le_refl _, by rw [K.floor]; exact hf⟩ rfl (by simp) (by simp) (by omega)⟩
theorem law7 {W : World} {u0 : Value} (s0 : Sees Try.prog (mem0 W) 1048576 8 22 [u0]) : Cn Try.prog 7 #[u0] (mem0 W) fun v _ => v = .bool true := by
  obtain ⟨B, m, d, l, e', g1, g2, g3, g4, g5, g6⟩ := sees_dos s0
  simp at e'
  subst e'
  exact c7 (Nat.le_refl _) g5 g4 g1 (by omega) g6
end Go.Zt
