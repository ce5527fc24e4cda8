/- Layer 1: what BitsReads comes to. -/
import Derived.Test.YtcpaggmhiflhbaaZbL
import Derived.Test.YtcpaggmhiflhbaaZbDa
set_option linter.unusedSimpArgs false
set_option linter.unusedVariables false
namespace Go.Zt
open Go Go.Sim Go.Proofs Go.RowKit

abbrev I8 (l : List Int) : List Value := l.map (Value.int .u8)
theorem u8_i8 (b : List Nat) : U8 b = I8 (b.map fun x : Nat => (x : Int)) := by simp
theorem I8_set (l : List Int) (i : Nat) (x : Int) : I8 (l.set i x) = (I8 l).set i (.int .u8 x) := List.map_set ..
section
variable {B : Option Addr} {m d : Nat} {l : List DoV} {b : List Nat} {j1 j2 m1 m2 : Nat}
/-- Both readers stand alike. -/
structure Both (M : Mem) (j1 j2 m1 m2 : Nat) (b : List Nat) (p : Nat) : Prop where
  r : Rdr (fun i => m1 ≤ i ∧ i < j1) M j1 b p
  x : RefR (fun i => m2 ≤ i ∧ i < j2) M j2 b p
  lt : m1 ≤ j1 ∧ j1 < m2 ∧ m2 ≤ j2 ∧ j2 < M.nb.size
  fl : M.floor ≤ m1
theorem Both.chg {M M' : Mem} {p : Nat} (h : Both M j1 j2 m1 m2 b p) {T : Nat → Prop} (k : Chg T M M') (hT : ∀ i, T i → j2 < i ∨ i < m1) : Both M' j1 j2 m1 m2 b p := by
  have := h.lt
  exact ⟨h.r.chg k (fun ht => by have := hT _ ht; omega) (fun i hi ht => by have := hT _ ht; omega), h.x.chg k (fun ht => by have := hT _ ht; omega) (fun i hi ht => by have := hT _ ht; omega),
    ⟨this.1, this.2.1, this.2.2.1, Nat.lt_of_lt_of_le this.2.2.2 k.size⟩, by rw [k.floor]; exact h.fl⟩
theorem c6_spoil {x9 : Nat} {Q : Value → Mem → Prop} {m3 : Nat} {M0 : Mem} (hf : ∀ i, m3 ≤ i → M0.floor ≤ i) {A : Option Addr} {c : Nat}
    (hE : ∀ M', Chg (fun i => m3 ≤ i) M0 M' → A6_6 B m d (some ⟨2 * j1, 0, none⟩) (some ⟨2 * j2, 0, none⟩) x9 M' Q) :
    ∀ (k i : Nat) (l8 : List Int) {M : Mem}, i + k = l8.length → l8.length ≤ 4294967296 → Chg (fun i => m3 ≤ i) M0 M → Own (fun i => m3 ≤ i) M 5 A c (I8 l8) →
      A6_5 B m d (some ⟨2 * j1, 0, none⟩) (some ⟨2 * j2, 0, none⟩) x9 A l8.length c i M Q
  | 0, i, l8, M, hi, hl, hC, hO => w6_5 ⟨fun h => by omega, fun _ => hE M hC⟩
  | k + 1, i, l8, M, hi, hl, hC, hO => by
    have hlt : i < l8.length := by omega
    obtain ⟨a, i1, i2⟩ := hO.row.int1 (n := l8.length) (i := i) (z := i) (k := .u8) (x := l8[i]) rfl hlt (by simp [hlt])
    obtain ⟨a2, i3, M', P1, C1, hs1, O1⟩ := hO.put1 (fun i h => by rw [hC.floor]; exact hf i h) (n := l8.length) (i := i) (z := i) (v := .int .u8 (IntKind.u8.wrap (((BitVec.ofInt (IntKind.bits .u8) l8[i] ^^^ BitVec.ofInt (IntKind.bits .u8) 255).toNat : Nat) : Int))) rfl hlt (by simp [hlt]) rfl
    refine w6_5 ⟨fun _ => ⟨_, i1, _, i2, _, i3, _, P1, ?_⟩, fun h => by omega⟩
    rw [i64w (by omega), show ((i : Int) + 1) = ((i + 1 : Nat) : Int) by omega]
    have := c6_spoil (x9 := x9) (Q := Q) (c := c) hf hE k (i + 1) (l8.set i (IntKind.u8.wrap (((BitVec.ofInt (IntKind.bits .u8) l8[i] ^^^ BitVec.ofInt (IntKind.bits .u8) 255).toNat : Nat) : Int))) (M := M') (by simp; omega) (by simpa using hl) (hC.trans C1) (by rw [I8_set]; exact O1)
    rw [List.length_set] at this
    exact this
/-- What is left is told alike. -/
theorem both_rest {M : Mem} {p : Nat} (h : Both M j1 j2 m1 m2 b p) : Cn Try.prog 29 #[PtrB j1] M fun v35 N35 => ∃ s36, asS v35 = some s36 ∧
    Cn Try.prog 30 #[PtrB j2] N35 fun v37 N37 => ∃ s38, asS v37 = some s38 ∧ Cn Try.prog 19 #[.slice s36.1 s36.2.1 s36.2.2, .slice s38.1 s38.2.1 s38.2.2] N37 fun v39 N39 =>
      v39 = .bool true ∧ Keep M N39 ∧ ∃ (l8 : List Nat), l8.length ≤ 4294967296 ∧ s36.2.1 = l8.length ∧ Own (fun i => M.nb.size ≤ i) N39 5 s36.1 s36.2.2 (U8 l8) := by
  have hlt := h.lt
  have hl := h.r.len
  have hf : M.floor ≤ M.nb.size := Nat.le_trans h.fl (by omega)
  refine Cn.mono (c29 h.r hf) ?_
  rintro v N ⟨A', c', rfl, hK, hO, hc⟩
  have h2 := h.chg hK fun _ x => x.elim
  refine ⟨_, rfl, Cn.mono (c30 h2.x h.r.byt (by rw [hK.floor]; exact Nat.le_trans hf hK.size)) ?_⟩
  rintro v2 N2 ⟨A2, c2, rfl, hK2, hO2⟩
  have hO1 := hO.chg hK2 fun _ _ _ x => x
  have hdl : (b.drop ((p + 7) / 8)).length ≤ 4294967296 := by rw [List.length_drop]; omega
  refine ⟨_, rfl, Cn.mono (c19 (l := b.drop ((p + 7) / 8)) (l' := b.drop ((p + 7) / 8)) hO1.row hO2.row rfl rfl (by show (b.drop ((p + 7) / 8)).length ≤ _; omega)) ?_⟩
  rintro v3 N3 ⟨rfl, rfl⟩
  exact ⟨by simp, hK.trans hK2, b.drop ((p + 7) / 8), hdl, rfl, hO1⟩
theorem c6_loop {M0 : Mem} (hD : Row M0 B (Ds l)) (hB : Old B) (hm : m = l.length) (hw : ∀ x ∈ l, x.wf) (hl : l.length ≤ 4294967296) :
    ∀ (k i p : Nat) {M : Mem}, i + k = l.length → (∀ a o v, (a % 2 = 1 → M0.cell a o = some v → M.cell a o = some v)) → Both M j1 j2 m1 m2 b p →
    A6_2 B m d (some ⟨2 * j1, 0, none⟩) (some ⟨2 * j2, 0, none⟩) i M fun v _ => v = .bool true
  | k, i, p, M, hi, hM, h => by
    have hlt := h.lt
    have fin : A6_3 B m d (some ⟨2 * j1, 0, none⟩) (some ⟨2 * j2, 0, none⟩) i false M fun v _ => v = .bool true := by
      refine w6_3 ⟨fun h => (by cases h), fun _ => Cn.mono (both_rest h) ?_⟩
      rintro v N ⟨s, hs, hc⟩
      refine ⟨s, hs, Cn.mono hc ?_⟩
      rintro v2 N2 ⟨s2, hs2, hc2⟩
      refine ⟨s2, hs2, Cn.mono hc2 ?_⟩
      rintro v3 N3 ⟨rfl, _, _⟩
      refine ⟨_, rfl, fun _ => Cn.known (by rfl) ⟨_, rfl, rfl⟩, fun h => (by cases h)⟩
    match k with
    | 0 => exact w6_2 ⟨fun h => by omega, fun _ => fin⟩
    | k + 1 =>
      refine w6_2 ⟨fun _ => ?_, fun h => absurd (show (i : Int) < m by omega) h⟩
      by_cases h200 : (i : Int) < 200
      case neg => rw [decide_eq_false h200]; exact fin
      rw [decide_eq_true h200]
      have hil : i < l.length := by omega
      have hd := hw _ (List.getElem_mem hil)
      have row : ∀ {N : Mem}, (∀ a o v, (a % 2 = 1 → M0.cell a o = some v → N.cell a o = some v)) → Row N B (Ds l) := fun hN q hq => by
        obtain ⟨a, ha, hc⟩ := hD q hq
        exact ⟨a, ha, hN _ _ _ (hB a ha) hc⟩
      have old : ∀ {N N' : Mem}, N'.base = N.base → (∀ a o v, (a % 2 = 1 → M0.cell a o = some v → N.cell a o = some v)) → (∀ a o v, (a % 2 = 1 → M0.cell a o = some v → N'.cell a o = some v)) := fun hb hN a o v h1 h2 => by
        have := hN a o v h1 h2
        unfold Mem.cell at this ⊢
        rw [if_pos h1] at this ⊢
        rw [hb]; exact this
      obtain ⟨a, i1, i2, i3, i4⟩ := Ds.at (row hM) (n := m) (z := i) rfl (by omega) hil
      refine w6_3 ⟨fun _ => ⟨_, i1, _, i2, _, i3, _, i4, Cn.mono (c23 h.r (fun q hq => by omega) (Nat.le_trans h.fl hlt.1) hd) ?_⟩, fun h => (by cases h)⟩
      rintro v N ⟨rfl, hC, hR⟩
      have hM1 := old (N' := N) hC.base hM
      have hx := h.x.chg hC (by omega) (fun q hq => by omega)
      obtain ⟨a', i1', i2', i3', i4'⟩ := Ds.at (row hM1) (n := m) (z := i) rfl (by omega) hil
      refine ⟨_, rfl, _, rfl, _, rfl, _, i1', _, i2', _, i3', _, i4', Cn.mono (c27 hx h.r.byt (by rw [hC.floor]; exact Nat.le_trans h.fl (by omega)) hd) ?_⟩
      rintro v2 N2 ⟨rfl, hC2, hX⟩
      have hM2 := old (N' := N2) hC2.base hM1
      have h' : Both N2 j1 j2 m1 m2 b (rdD b p l[i]).2.2 := ⟨hR.chg hC2 (by omega) (fun q hq => by omega), hX, ⟨hlt.1, hlt.2.1, hlt.2.2.1, Nat.lt_of_lt_of_le hlt.2.2.2 (Nat.le_trans hC.size hC2.size)⟩, by rw [hC2.floor, hC.floor]; exact h.fl⟩
      refine ⟨_, rfl, _, rfl, _, rfl, fun h => absurd rfl h, fun _ => ⟨fun h => absurd rfl h, fun _ => Cn.eq (c24 h'.r) ⟨_, rfl, Cn.eq (c28 h'.x) ⟨_, rfl, ?_⟩⟩⟩⟩
      rw [show ((((8 * b.length - (rdD b p l[i]).2.2 : Nat) : Int)) != ((8 * b.length - (rdD b p l[i]).2.2 : Nat) : Int)) = false by simp]
      have next : ∀ {N3 : Mem}, (∀ a o v, (a % 2 = 1 → M0.cell a o = some v → N3.cell a o = some v)) → Both N3 j1 j2 m1 m2 b (rdD b p l[i]).2.2 → A6_6 B m d (some ⟨2 * j1, 0, none⟩) (some ⟨2 * j2, 0, none⟩) i N3 fun v _ => v = .bool true := fun hM3 h3 => by
        refine w6_6 ?_
        rw [i64w (by omega), show ((i : Int) + 1) = ((i + 1 : Nat) : Int) by omega]
        exact c6_loop hD hB hm hw hl k (i + 1) _ (by omega) hM3 h3
      refine w6_4 ⟨fun h => (by cases h), fun _ => ⟨fun _ => Cn.mono (both_rest h') ?_, fun _ => next hM2 h'⟩⟩
      rintro v3 N3 ⟨s, hs, hc⟩
      refine ⟨s, hs, Cn.mono hc ?_⟩
      rintro v4 N4 ⟨s2, hs2, hc2⟩
      refine ⟨s2, hs2, Cn.mono hc2 ?_⟩
      rintro v5 N5 ⟨rfl, hK, l8, hl8, hs8, hO⟩
      refine ⟨_, rfl, fun h => absurd h (by simp), fun _ => ?_⟩
      rw [u8_i8] at hO
      have hlen : s.2.1 = (l8.map fun x : Nat => (x : Int)).length := by rw [hs8, List.length_map]
      rw [hlen]
      have h5 := h'.chg hK fun _ x => x.elim
      have hM5 := old (N' := N5) hK.base hM2
      have hlt' := h'.lt
      refine c6_spoil (m3 := N2.nb.size) (fun q hq => by rw [hK.floor]; exact Nat.le_trans h'.fl (by omega)) (fun M' hC' => next (old hC'.base hM5) (h5.chg hC' fun q hq => .inl (by omega))) _ 0 (l8.map fun x : Nat => (x : Int)) (Nat.zero_add _) (by simpa using hl8) (.refl _) hO
theorem c6_in {A5 : Option Addr} {c5 : Nat} {M0 : Mem} {S : Nat → Prop} (hf : ∀ i, S i → M0.floor ≤ i) {Q : Value → Mem → Prop}
    (hE : ∀ M', Chg S M0 M' → A6_2 B m d (some ⟨2 * j1, 0, none⟩) (some ⟨2 * j2, 0, none⟩) 0 M' Q) :
    ∀ (k i : Nat) (l8 : List Int) {M : Mem}, i + k = l8.length → l8.length ≤ 4294967296 → Chg S M0 M → Own S M 5 A5 c5 (I8 l8) →
      A6_1 B m d A5 l8.length c5 (some ⟨2 * j1, 0, none⟩) (some ⟨2 * j2, 0, none⟩) i M Q
  | 0, i, l8, M, hi, hl, hC, hO => w6_1 ⟨fun h => by omega, fun _ => hE M hC⟩
  | k + 1, i, l8, M, hi, hl, hC, hO => by
    have hlt : i < l8.length := by omega
    obtain ⟨a, i1, i2⟩ := hO.row.int1 (n := l8.length) (i := i) (z := i) (k := .u8) (x := l8[i]) rfl hlt (by simp [hlt])
    obtain ⟨a2, i3, M', P1, C1, hs1, O1⟩ := hO.put1 (fun i h => by rw [hC.floor]; exact hf i h) (n := l8.length) (i := i) (z := i) (v := .int .u8 (IntKind.u8.wrap (((BitVec.ofInt (IntKind.bits .u8) l8[i] ^^^ BitVec.ofInt (IntKind.bits .u8) 255).toNat : Nat) : Int))) rfl hlt (by simp [hlt]) rfl
    refine w6_1 ⟨fun _ => ⟨_, i1, _, i2, _, i3, _, P1, ?_⟩, fun h => by omega⟩
    rw [i64w (by omega), show ((i : Int) + 1) = ((i + 1 : Nat) : Int) by omega]
    have := c6_in (Q := Q) (c5 := c5) hf hE k (i + 1) (l8.set i (IntKind.u8.wrap (((BitVec.ofInt (IntKind.bits .u8) l8[i] ^^^ BitVec.ofInt (IntKind.bits .u8) 255).toNat : Nat) : Int))) (M := M') (by simp; omega) (by simpa using hl) (hC.trans C1) (by rw [I8_set]; exact O1)
    rw [List.length_set] at this
    exact this
theorem c6 {M : Mem} (hf : M.floor ≤ M.nb.size) {A : Option Addr} {n c : Nat} (hA : Row M A (U8 b)) (hAo : Old A) (hn : n = b.length) (hb : b.length ≤ 1048576) (hB8 : Byt b) (hD : Row M B (Ds l)) (hB : Old B) (hm : m = l.length) (hl : l.length ≤ 1048576) (hw : ∀ x ∈ l, x.wf) :
    Cn Try.prog 6 #[.slice A n c, .slice B m d] M fun v _ => v = .bool true := by
  refine w6_0 (Cn.mono (c25 hf hA hn (by omega)) ?_)
  rintro v N1 ⟨A1, c1, rfl, K1, O1, hc1⟩
  have hX : Row (N1.new (.cells #[.int .u8 170, .int .u8 170] 5)) (some ⟨2 * N1.nb.size, 0, none⟩) (U8 [170, 170]) := Row.new N1 5 (U8 [170, 170])
  have O1' : Own (fun j => M.nb.size ≤ j) (N1.new (.cells #[.int .u8 170, .int .u8 170] 5)) 5 A1 (c1 * 1) (U8 b) := by rw [Nat.mul_one]; exact O1.chg (T := fun _ => False) (.new _ _) fun _ _ _ h => h
  obtain ⟨A2, c2, M2, p1, p2, p3, p4⟩ := append_own el5 O1' (n := n) (k := 2) (cx := 2) (by simp [hn]) hX (by simp) (u8_one [170, 170]) (fun q hq => by show N1.floor ≤ q; rw [K1.floor]; exact Nat.le_trans hf hq) (by rw [Mem.new_size]; exact Nat.le_succ_of_le K1.size) (by omega)
  obtain ⟨A3, s1, s2⟩ := slice_own el5 p3 (n := n + 2) p4 (hi := some (.int .i64 (n : Int))) (h := n) (bound_lo rfl (by omega)) (by omega) rfl
  have K2 : Keep M M2 := Keep.step K1 ((Chg.new (S := fun j => M.nb.size ≤ j) N1 _).trans p2) fun q hq => hq
  have e3 : (U8 b ++ U8 [170, 170]).take (n * 1) = U8 b := by rw [Nat.mul_one, List.take_append_of_le_length (by simp [hn])]; exact List.take_of_length_le (by simp [hn])
  rw [e3, Nat.mul_one] at s2
  refine ⟨_, rfl, _, p1, _, rfl, _, s1, _, rfl, Cn.mono (c22 (n := n) (by rw [K2.floor]; exact Nat.le_trans hf K2.size) s2.row hn.symm (by omega) hB8) ?_⟩
  rintro v N3 ⟨j1, rfl, K3, hj1, hj1', hR⟩
  have hA3 : Row N3 A (U8 b) := hA.old hAo (K2.trans K3)
  refine ⟨_, rfl, Cn.mono (c26 (by rw [K3.floor, K2.floor]; exact Nat.le_trans hf (K2.trans K3).size) hA3 hn (by omega) hB8) ?_⟩
  rintro v N4 ⟨j2, rfl, K4, hj2, hj2', hX4⟩
  have K := (K2.trans K3).trans K4
  have hBoth : Both N4 j1 j2 M2.nb.size N3.nb.size b 0 := ⟨hR.keep K4, hX4, ⟨hj1, hj1', hj2, hj2'⟩, by rw [K4.floor, K3.floor, K2.floor]; exact Nat.le_trans hf K2.size⟩
  have O4 : Own (fun q => M.nb.size ≤ q ∧ q < M2.nb.size) N4 5 A3 c2 (I8 (b.map fun x : Nat => (x : Int))) := by
    rw [← u8_i8]
    have : Own (fun q => M.nb.size ≤ q ∧ q < M2.nb.size) M2 5 A3 c2 (U8 b) := s2.mono fun q hq h => ⟨h, hq⟩
    exact (this.chg K3 fun _ _ _ h => h).chg K4 fun _ _ _ h => h
  have hl8 : n = (b.map fun x : Nat => (x : Int)).length := by simp [hn]
  refine ⟨_, rfl, ?_⟩
  show A6_1 B m d A3 n c2 _ _ 0 N4 _
  rw [hl8]
  refine c6_in (S := fun q => M.nb.size ≤ q ∧ q < M2.nb.size) (fun q hq => by rw [K.floor]; exact Nat.le_trans hf hq.1) (fun M' hC => ?_) _ 0 (b.map fun x : Nat => (x : Int)) (Nat.zero_add _) (by simp; omega) (.refl _) O4
  refine c6_loop (M0 := M) hD hB hm hw (by omega) _ 0 0 (Nat.zero_add _) (fun a o v h1 h2 => ?_) (hBoth.chg hC fun q hq => .inr hq.2)
  unfold Mem.cell at h2 ⊢
  rw [if_pos h1] at h2 ⊢
  rw [hC.base, K.base]; exact h2
end
end Go.Zt
