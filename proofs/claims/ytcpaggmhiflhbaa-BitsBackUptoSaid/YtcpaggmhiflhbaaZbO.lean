/- Layer 1: two writers beside each other; what BitsWrites comes to. -/
import Derived.Test.YtcpaggmhiflhbaaZbN
import Derived.Test.YtcpaggmhiflhbaaZbDb
set_option linter.unusedSimpArgs false
set_option linter.unusedVariables false
namespace Go.Zt
open Go Go.Sim Go.Proofs Go.RowKit

theorem Wr.mono {S T : Nat → Prop} {M : Mem} {j : Nat} {w : List Nat} (h : Wr S M j w) (hj : ¬ T j) (hT : ∀ i, i < M.nb.size → S i → T i) : Wr T M j w := by
  obtain ⟨A, c, h1, h2, h3⟩ := h.ex
  exact ⟨hj, h.bin, h.len, A, c, h1, h2.mono hT, h3⟩
theorem Wf.mono {S T : Nat → Prop} {M : Mem} {j : Nat} {w : List Nat} (h : Wf S M j w) (hj : ¬ T j) (hT : ∀ i, i < M.nb.size → S i → T i) : Wf T M j w := by
  obtain ⟨A, c, h1, h2, h3⟩ := h.ex
  exact ⟨hj, h.bin, h.len, A, c, h1, h2.mono hT, h3⟩
theorem Wr.lt {S : Nat → Prop} {M : Mem} {j : Nat} {w : List Nat} (h : Wr S M j w) : j < M.nb.size := by
  obtain ⟨A, c, h1, h2, h3⟩ := h.ex
  exact lt_of_at h1
theorem Wf.lt {S : Nat → Prop} {M : Mem} {j : Nat} {w : List Nat} (h : Wf S M j w) : j < M.nb.size := by
  obtain ⟨A, c, h1, h2, h3⟩ := h.ex
  exact lt_of_at h1
theorem lebB_len : ∀ k v, (lebB k v).length ≤ 8 * k
  | 0, _ => by simp [lebB]
  | k + 1, v => by
    have := lebB_len k (v / 128)
    unfold lebB
    split
    · rw [List.length_append, bitsN_len]; omega
    · rw [bitsN_len]; omega
theorem wrD_len {w : List Nat} {d : DoV} (hd : d.v < 4294967296) : (wrD w d).2.length ≤ w.length + 80 := by
  have hb : blen (d.v + 1) ≤ 33 := blen_le.2 (by omega)
  have := lebB_len 5 d.v
  unfold wrD
  split
  · unfold wFixed; split
    · show w.length ≤ _; omega
    · show (w ++ bitsN _ _).length ≤ _; rw [List.length_append, bitsN_len]; omega
  split
  · unfold wSigned; split
    · show w.length ≤ _; omega
    · show (w ++ _ :: bitsN _ _).length ≤ _; rw [List.length_append, List.length_cons, bitsN_len]; omega
  split
  · unfold wUvlc; split
    · show w.length ≤ _; omega
    · show (w ++ bitsN _ _).length ≤ _; rw [List.length_append, bitsN_len]; omega
  split
  · unfold wLeb; split
    · show w.length ≤ _; omega
    · show (w ++ lebB 5 _).length ≤ _; rw [List.length_append]; omega
  · show (pad8 w).length ≤ _; rw [pad8_len]; omega

/-- Both writers stand alike. -/
structure Ww (S1 S2 : Nat → Prop) (M : Mem) (j1 j2 b0 : Nat) (w : List Nat) : Prop where
  r : Wr S1 M j1 w
  x : Wf S2 M j2 w
  s1 : ∀ i, S1 i → b0 ≤ i ∧ i < M.nb.size ∧ ¬ S2 i ∧ i ≠ j2
  s2 : ∀ i, S2 i → b0 ≤ i ∧ i < M.nb.size ∧ i ≠ j1
  ne : j1 ≠ j2
  b1 : b0 ≤ j1
  b2 : b0 ≤ j2
  fl : M.floor ≤ b0
def Two (M : Mem) (j1 j2 b0 : Nat) (w : List Nat) : Prop := ∃ S1 S2, Ww S1 S2 M j1 j2 b0 w
theorem Two.keep {M N : Mem} {j1 j2 b0 : Nat} {w : List Nat} (h : Two M j1 j2 b0 w) {m : Nat} (hm : M.nb.size ≤ m) (k : Chg (fun i => m ≤ i) M N) : Two N j1 j2 b0 w := by
  obtain ⟨S1, S2, h⟩ := h
  have l1 := h.r.lt
  have l2 := h.x.lt
  exact ⟨S1, S2, h.r.chg k fun i hi hs => by omega, h.x.chg k fun i hi hs => by omega, fun i hi => ⟨(h.s1 i hi).1, Nat.lt_of_lt_of_le (h.s1 i hi).2.1 k.size, (h.s1 i hi).2.2⟩, fun i hi => ⟨(h.s2 i hi).1, Nat.lt_of_lt_of_le (h.s2 i hi).2.1 k.size, (h.s2 i hi).2.2⟩, h.ne, h.b1, h.b2, by rw [k.floor]; exact h.fl⟩
/-- The first writer has written; the second is to. -/
structure Mid (S1 S2 : Nat → Prop) (M : Mem) (j1 j2 b0 : Nat) (w w' : List Nat) : Prop where
  r : Wr S1 M j1 w'
  x : Wf S2 M j2 w
  f : Fl S2 M j2
  s1 : ∀ i, S1 i → b0 ≤ i ∧ i < M.nb.size ∧ ¬ S2 i ∧ i ≠ j2
  s2 : ∀ i, S2 i → b0 ≤ i ∧ i ≠ j1
  ne : j1 ≠ j2
  b1 : b0 ≤ j1
  b2 : b0 ≤ j2
  fl : M.floor ≤ b0
theorem Mid.next {S1 S2 : Nat → Prop} {M N : Mem} {j1 j2 b0 : Nat} {w w' : List Nat} (h : Mid S1 S2 M j1 j2 b0 w w') (k : Chg (fun i => S2 i ∨ i = j2) M N) (hx : Wf S2 N j2 w') : Two N j1 j2 b0 w' := by
  have l1 := h.r.lt
  refine ⟨S1, fun i => S2 i ∧ i < N.nb.size, h.r.chg k ?_, hx.mono (fun hh => hx.out hh.1) (fun i hi hs => ⟨hs, hi⟩), ?_, fun i hi => ⟨(h.s2 i hi.1).1, hi.2, (h.s2 i hi.1).2⟩, h.ne, h.b1, h.b2, by rw [k.floor]; exact h.fl⟩
  · intro i hi hs ht
    rcases hs with hs | rfl
    · have := h.s1 i hs
      rcases ht with ht | ht
      · exact this.2.2.1 ht
      · exact this.2.2.2 ht
    · rcases ht with ht | ht
      · exact (h.s2 _ ht).2 rfl
      · exact h.ne ht
  · intro i hi
    have := h.s1 i hi
    exact ⟨this.1, Nat.lt_of_lt_of_le this.2.1 k.size, fun hh => this.2.2.1 hh.1, this.2.2.2⟩
theorem Two.first {M0 M : Mem} {j1 j2 b0 : Nat} {w : List Nat} (h : Two M0 j1 j2 b0 w) (K : Keep M0 M) (hl : w.length ≤ 80000000000) {d : DoV} (hd : d.wf) :
    Cn Try.prog 11 #[PtrB j1, d.arg] M fun v N => v = .int .i64 ((wrD w d).1 : Nat) ∧ Chg (fun i => (b0 ≤ i ∧ i < M0.nb.size) ∨ M.nb.size ≤ i) M N ∧ ∃ S1 S2, Mid S1 S2 N j1 j2 b0 w (wrD w d).2 := by
  obtain ⟨S1, S2, h⟩ := h
  have l10 := h.r.lt
  have hS1 : ∀ i, S1 i → i < M0.nb.size := fun i hi => (h.s1 i hi).2.1
  have hb10 := h.b1
  replace h : Ww S1 S2 M j1 j2 b0 w := ⟨h.r.keep K, h.x.keep K, fun i hi => ⟨(h.s1 i hi).1, Nat.lt_of_lt_of_le (h.s1 i hi).2.1 K.size, (h.s1 i hi).2.2⟩, fun i hi => ⟨(h.s2 i hi).1, Nat.lt_of_lt_of_le (h.s2 i hi).2.1 K.size, (h.s2 i hi).2.2⟩, h.ne, h.b1, h.b2, by rw [K.floor]; exact h.fl⟩
  have l1 := h.r.lt
  have l2 := h.x.lt
  have hb0 : b0 ≤ M.nb.size := by have := h.b1; omega
  have h1 : Wr (fun i => S1 i ∨ M.nb.size ≤ i) M j1 w := h.r.mono (fun hh => by rcases hh with hh | hh; exact h.r.out hh; omega) fun i _ hi => .inl hi
  refine Cn.mono (c11 h1 ⟨fun i hi => ?_, fun i hi => .inr hi⟩ hl hd) ?_
  · have := h.fl
    rcases hi with (hi | hi) | rfl
    · exact Nat.le_trans this (h.s1 i hi).1
    · omega
    · exact Nat.le_trans this h.b1
  rintro v N ⟨rfl, hC, hR⟩
  refine ⟨rfl, hC.mono fun i _ hi => ?_, fun i => (S1 i ∨ M.nb.size ≤ i) ∧ i < N.nb.size, fun i => S2 i ∨ N.nb.size ≤ i, ⟨hR.mono (fun hh => hR.out hh.1) fun i hi hs => ⟨hs, hi⟩, ?_, ⟨fun i hi => ?_, fun i hi => .inr hi⟩, fun i hi => ?_, fun i hi => ?_, h.ne, h.b1, h.b2, by rw [hC.floor]; exact h.fl⟩⟩
  · rcases hi with (hi | hi) | rfl
    · exact .inl ⟨(h.s1 i hi).1, hS1 i hi⟩
    · exact .inr hi
    · exact .inl ⟨h.b1, l10⟩
  · refine (h.x.chg hC fun i hi hs ht => ?_).mono (fun hh => ?_) fun i hi hs => .inl hs
    · rcases hs with hs | rfl
      · have := h.s2 i hs
        rcases ht with (ht | ht) | ht
        · exact (h.s1 i ht).2.2.1 hs
        · omega
        · exact this.2.2 ht
      · rcases ht with (ht | ht) | ht
        · exact (h.s1 _ ht).2.2.2 rfl
        · omega
        · exact h.ne ht.symm
    · have := hC.size
      rcases hh with hh | hh
      · exact h.x.out hh
      · omega
  · have := h.fl
    have := hC.size
    rw [hC.floor]
    rcases hi with (hi | hi) | rfl
    · exact Nat.le_trans h.fl (h.s2 i hi).1
    · omega
    · exact Nat.le_trans h.fl h.b2
  · obtain ⟨hi, hi2⟩ := hi
    rcases hi with hi | hi
    · have := h.s1 i hi
      exact ⟨this.1, hi2, fun hh => hh.elim this.2.2.1 (by omega), this.2.2.2⟩
    · exact ⟨by omega, hi2, fun hh => hh.elim (fun hs => by have := h.s2 i hs; omega) (by omega), by omega⟩
  · have := hC.size
    rcases hi with hi | hi
    · exact ⟨(h.s2 i hi).1, (h.s2 i hi).2.2⟩
    · exact ⟨by omega, by omega⟩
theorem Mid.keep {S1 S2 : Nat → Prop} {M N : Mem} {j1 j2 b0 : Nat} {w w' : List Nat} (h : Mid S1 S2 M j1 j2 b0 w w') (k : Keep M N) : Mid S1 S2 N j1 j2 b0 w w' :=
  ⟨h.r.keep k, h.x.keep k, h.f.chg k, fun i hi => ⟨(h.s1 i hi).1, Nat.lt_of_lt_of_le (h.s1 i hi).2.1 k.size, (h.s1 i hi).2.2⟩, h.s2, h.ne, h.b1, h.b2, by rw [k.floor]; exact h.fl⟩

/-- A new block of three cells is filled. -/
theorem fill3 {M : Mem} {u0 u1 u2 v0 v1 v2 : Value} {t : TypeId} (hf : M.floor ≤ M.nb.size) (h0 : oneCell v0 = true) (h1 : oneCell v1 = true) (h2 : oneCell v2 = true) :
    ∃ M1, (M.new (.cells #[u0, u1, u2] t)).put (2 * M.nb.size) 0 v0 = some M1 ∧ ∃ M2, M1.put (2 * M.nb.size) 1 v1 = some M2 ∧ ∃ M3, M2.put (2 * M.nb.size) 2 v2 = some M3 ∧ Keep M M3 ∧ M3.nb[M.nb.size]? = some (.cells #[v0, v1, v2] t) := by
  have a0 := Mem.new_at M (.cells #[u0, u1, u2] t)
  have q0 := put_of (i := 0) (v := v0) a0 hf (by simp) h0
  have a1 : ((M.new (.cells #[u0, u1, u2] t)).upd M.nb.size (.cells ((#[u0, u1, u2] : Array Value).setIfInBounds 0 v0) t)).nb[M.nb.size]? = some (.cells #[v0, u1, u2] t) := by rw [upd_at (lt_of_at a0)]; rfl
  have q1 := put_of (i := 1) (v := v1) a1 hf (by simp) h1
  have a2 : (((M.new (.cells #[u0, u1, u2] t)).upd M.nb.size (.cells ((#[u0, u1, u2] : Array Value).setIfInBounds 0 v0) t)).upd M.nb.size (.cells ((#[v0, u1, u2] : Array Value).setIfInBounds 1 v1) t)).nb[M.nb.size]? = some (.cells #[v0, v1, u2] t) := by rw [upd_at (lt_of_at a1)]; rfl
  have q2 := put_of (i := 2) (v := v2) a2 hf (by simp) h2
  refine ⟨_, q0, _, q1, _, q2, ?_, by rw [upd_at (lt_of_at a2)]; rfl⟩
  exact (((Keep.step (.refl _) (Chg.new (S := fun i => M.nb.size ≤ i) M _) fun i h => h).step (upd_chg (S := (· = M.nb.size)) rfl) fun i h => by omega).step (upd_chg (S := (· = M.nb.size)) rfl) fun i h => by omega).step (upd_chg (S := (· = M.nb.size)) rfl) fun i h => by omega
theorem old_cell {M N : Mem} (hb : N.base = M.base) {a o : Nat} {v : Value} (h1 : a % 2 = 1) (h : M.cell a o = some v) : N.cell a o = some v := by
  unfold Mem.cell at h ⊢
  rw [if_pos h1] at h ⊢
  rw [hb]; exact h
theorem old_row {M N : Mem} {B : Option Addr} {L : List Value} (hD : Row M B L) (hB : Old B) (hb : N.base = M.base) : Row N B L := fun q hq => by
  obtain ⟨a, ha, hc⟩ := hD q hq
  exact ⟨a, ha, old_cell hb (hB a ha) hc⟩

section
variable {B : Option Addr} {m d : Nat} {l : List DoV} {j1 j2 b0 : Nat}
theorem c3_spoil {Q : Value → Mem → Prop} {z : Int} {m3 : Nat} {M0 : Mem} (hf : ∀ i, m3 ≤ i → M0.floor ≤ i) {A : Option Addr} {c : Nat}
    (hE : ∀ M', Chg (fun i => m3 ≤ i) M0 M' → A3_1 B m d (some ⟨2 * j1, 0, none⟩) (some ⟨2 * j2, 0, none⟩) (IntKind.i64.wrap (z + 1)) M' Q) :
    ∀ (k i : Nat) (l8 : List Int) {M : Mem}, i + k = l8.length → l8.length ≤ 20000000000 → Chg (fun i => m3 ≤ i) M0 M → Own (fun i => m3 ≤ i) M 5 A c (I8 l8) →
      A3_5 B m d (some ⟨2 * j1, 0, none⟩) (some ⟨2 * j2, 0, none⟩) z A l8.length c i M Q
  | 0, i, l8, M, hi, hl, hC, hO => w3_5 ⟨fun h => by omega, fun _ => hE M hC⟩
  | k + 1, i, l8, M, hi, hl, hC, hO => by
    have hlt : i < l8.length := by omega
    obtain ⟨a, i1, i2⟩ := hO.row.int1 (n := l8.length) (i := i) (z := i) (k := .u8) (x := l8[i]) rfl hlt (by simp [hlt])
    obtain ⟨a2, i3, M', P1, C1, hs1, O1⟩ := hO.put1 (fun i h => by rw [hC.floor]; exact hf i h) (n := l8.length) (i := i) (z := i) (v := .int .u8 (IntKind.u8.wrap (((BitVec.ofInt (IntKind.bits .u8) l8[i] ^^^ BitVec.ofInt (IntKind.bits .u8) 255).toNat : Nat) : Int))) rfl hlt (by simp [hlt]) rfl
    refine w3_5 ⟨fun _ => ⟨_, i1, _, i2, _, i3, _, P1, ?_⟩, fun h => by omega⟩
    rw [i64w (x := (i : Int) + 1) (by omega), show ((i : Int) + 1) = ((i + 1 : Nat) : Int) by omega]
    have := c3_spoil (Q := Q) (z := z) (c := c) hf hE k (i + 1) (l8.set i (IntKind.u8.wrap (((BitVec.ofInt (IntKind.bits .u8) l8[i] ^^^ BitVec.ofInt (IntKind.bits .u8) 255).toNat : Nat) : Int))) (M := M') (by simp; omega) (by simpa using hl) (hC.trans C1) (by rw [I8_set]; exact O1)
    rw [List.length_set] at this
    exact this
theorem c3_loop {M0 : Mem} (hD : Row M0 B (Ds l)) (hB : Old B) (hm : m = l.length) (hw : ∀ x ∈ l, x.wf) (hl : l.length ≤ 1048576) :
    ∀ (k i : Nat) (w : List Nat) {M : Mem}, i + k = l.length → M.base = M0.base → Two M j1 j2 b0 w → w.length ≤ 80 * i → i ≤ 200 →
    A3_1 B m d (some ⟨2 * j1, 0, none⟩) (some ⟨2 * j2, 0, none⟩) i M fun v _ => v = .bool true
  | k, i, w, M, hi, hM, h, hwl, hi2 => by
    have fin : A3_2 B m d (some ⟨2 * j1, 0, none⟩) (some ⟨2 * j2, 0, none⟩) i false M fun v _ => v = .bool true := by
      obtain ⟨S1, S2, h⟩ := h
      have l1 := h.r.lt
      have hb1 := h.b1
      have hf : M.floor ≤ M.nb.size := Nat.le_trans h.fl (by omega)
      refine w3_2 ⟨fun h => (by cases h), fun _ => Cn.mono (c18 h.r hf) ?_⟩
      rintro v N ⟨A, c, rfl, hK, hO, hc⟩
      refine ⟨_, rfl, Cn.mono (c20 (h.x.keep hK) (by rw [hK.floor]; exact Nat.le_trans hf hK.size)) ?_⟩
      rintro v2 N2 ⟨A2, c2, rfl, hK2, hO2⟩
      refine ⟨_, rfl, Cn.eq (c19 (hO.chg hK2 fun _ _ _ x => x).row hO2.row rfl rfl (by rw [pack_len]; show (w.length + 7) / 8 ≤ _; omega)) ⟨_, rfl, fun _ => Cn.known (by rfl) ⟨_, rfl, rfl⟩, fun h => absurd h (by simp)⟩⟩
    match k with
    | 0 => exact w3_1 ⟨fun h => by omega, fun _ => fin⟩
    | k + 1 =>
      refine w3_1 ⟨fun _ => ?_, fun h => absurd (show (i : Int) < m by omega) h⟩
      by_cases h200 : (i : Int) < 200
      case neg => rw [decide_eq_false h200]; exact fin
      rw [decide_eq_true h200]
      have hil : i < l.length := by omega
      have hd := hw _ (List.getElem_mem hil)
      have hwl' := wrD_len (w := w) hd.2
      obtain ⟨a, i1, i2, i3, i4⟩ := Ds.at (old_row hD hB hM) (n := m) (z := i) rfl (by omega) hil
      have hf : M.floor ≤ M.nb.size := by
        obtain ⟨S1, S2, h⟩ := h
        have l1 := h.r.lt
        have hb1 := h.b1
        exact Nat.le_trans h.fl (by omega)
      obtain ⟨M1, p1, M2, p2, M3, p3, K3, a3⟩ := fill3 (M := M) (u0 := .int .i64 0) (u1 := .int .i64 0) (u2 := .int .u32 0) (v0 := .int .i64 l[i].k) (v1 := .int .i64 l[i].n) (v2 := .int .u32 (l[i].v : Nat)) (t := 29) hf rfl rfl rfl
      have hwl2 : w.length ≤ 80000000000 := by omega
      have done : ∀ {N2 : Mem}, N2.base = M0.base → Two N2 j1 j2 b0 (wrD w l[i]).2 → ∀ e : Int, A3_3 B m d (some ⟨2 * j1, 0, none⟩) (some ⟨2 * j2, 0, none⟩) i e e N2 fun v _ => v = .bool true := by
        intro N2 hb2 h2 e
        obtain ⟨S1, S2, h'⟩ := id h2
        have l1 := h'.r.lt
        have hb1 := h'.b1
        have hf2 : N2.floor ≤ N2.nb.size := Nat.le_trans h'.fl (by omega)
        refine w3_3 (Cn.mono (c18 h'.r hf2) ?_)
        rintro v N3 ⟨A, c, rfl, hK, hO, hc⟩
        refine ⟨_, rfl, fun h => absurd rfl h, fun _ => Cn.mono (c20 (h'.x.keep hK) (by rw [hK.floor]; exact Nat.le_trans hf2 hK.size)) ?_⟩
        rintro v2 N4 ⟨A2, c2, rfl, hK2, hO2⟩
        have hO' := hO.chg hK2 fun _ _ _ x => x
        refine ⟨_, rfl, Cn.eq (c19 hO'.row hO2.row rfl rfl (by rw [pack_len]; show ((wrD w l[i]).2.length + 7) / 8 ≤ _; omega)) ⟨_, rfl, ?_⟩⟩
        refine w3_4 ⟨fun h => absurd h (by simp), fun _ => ?_⟩
        rw [u8_i8] at hO'
        have hlen : (pack (wrD w l[i]).2).length = ((pack (wrD w l[i]).2).map fun x : Nat => (x : Int)).length := by rw [List.length_map]
        show A3_5 B m d _ _ i A (pack (wrD w l[i]).2).length c 0 N4 _
        rw [hlen]
        have hK' := hK.trans hK2
        refine c3_spoil (m3 := N2.nb.size) (fun q hq => by rw [hK'.floor]; exact Nat.le_trans hf2 hq) (fun M' hC' => ?_) _ 0 ((pack (wrD w l[i]).2).map fun x : Nat => (x : Int)) (Nat.zero_add _) (by rw [List.length_map, pack_len]; omega) (.refl _) hO'
        rw [i64w (by omega), show ((i : Int) + 1) = ((i + 1 : Nat) : Int) by omega]
        refine c3_loop hD hB hm hw hl k (i + 1) (wrD w l[i]).2 (by omega) (by rw [hC'.base, hK'.base, hb2]) (h2.keep (Nat.le_refl _) ((hK'.mono fun _ _ x => x.elim).trans hC')) (by omega) (by omega)
      refine w3_2 ⟨fun _ => ⟨_, i1, _, i2, _, i3, _, i4, _, p1, _, p2, _, p3, _, int_of a3 rfl, _, int_of a3 rfl, _, int_of a3 rfl, Cn.mono (h.first K3 hwl2 hd) ?_⟩, fun h => (by cases h)⟩
      rintro v N ⟨rfl, hC, S1, S2, hMid⟩
      have a4 := at_chg a3 hC (fun hh => by have := lt_of_at a3; omega)
      have hbN : N.base = M0.base := by rw [hC.base, K3.base, hM]
      refine ⟨_, rfl, _, int_of a4 rfl, Cn.eq (c12 hd.1 (by decide)) ⟨_, rfl, fun h0 => ?_, fun h0 => ⟨fun h1 => ?_, fun h1 => ⟨fun h2 => ?_, fun h2 => ⟨fun h3 => ?_, fun h3 => ?_⟩⟩⟩⟩⟩
      · have e : wrD w l[i] = wFixed w l[i].v l[i].n := by unfold wrD; rw [if_pos h0]
        refine ⟨_, int_of a4 rfl, _, int_of a4 rfl, Cn.mono (c13 hMid.f hMid.x (v := l[i].v) rfl hd.2 l[i].n hwl2) ?_⟩
        rintro v2 N2 ⟨rfl, hC2, hX⟩
        rw [e] at hMid done ⊢
        exact ⟨_, rfl, done (by rw [hC2.base, hbN]) (hMid.next hC2 hX) _⟩
      · have e : wrD w l[i] = wSigned w (toI l[i].v) l[i].n := by unfold wrD; rw [if_neg h0, if_pos h1]
        refine ⟨_, int_of a4 rfl, _, int_of a4 rfl, ?_⟩
        rw [toI_wrap hd.2]
        refine Cn.mono (c14 hMid.f hMid.x (toI_b l[i].v hd.2) l[i].n hwl2) ?_
        rintro v2 N2 ⟨rfl, hC2, hX⟩
        rw [e] at hMid done ⊢
        exact ⟨_, rfl, done (by rw [hC2.base, hbN]) (hMid.next hC2 hX) _⟩
      · have e : wrD w l[i] = wUvlc w l[i].v := by unfold wrD; rw [if_neg h0, if_neg h1, if_pos h2]
        refine ⟨_, int_of a4 rfl, Cn.mono (c15 hMid.f hMid.x (v := l[i].v) rfl hd.2 hwl2) ?_⟩
        rintro v2 N2 ⟨rfl, hC2, hX⟩
        rw [e] at hMid done ⊢
        exact ⟨_, rfl, done (by rw [hC2.base, hbN]) (hMid.next hC2 hX) _⟩
      · have e : wrD w l[i] = wLeb w l[i].v := by unfold wrD; rw [if_neg h0, if_neg h1, if_neg h2, if_pos h3]
        refine ⟨_, int_of a4 rfl, Cn.mono (c16 hMid.f hMid.x (v := l[i].v) rfl hd.2 hwl2) ?_⟩
        rintro v2 N2 ⟨rfl, hC2, hX⟩
        rw [e] at hMid done ⊢
        exact ⟨_, rfl, done (by rw [hC2.base, hbN]) (hMid.next hC2 hX) _⟩
      · have e : wrD w l[i] = (0, pad8 w) := by unfold wrD; rw [if_neg h0, if_neg h1, if_neg h2, if_neg h3]
        refine Cn.mono (c17 hMid.f hMid.x hwl2) ?_
        rintro v2 N2 ⟨rfl, hC2, hX⟩
        rw [e] at hMid done ⊢
        exact ⟨_, rfl, done (by rw [hC2.base, hbN]) (hMid.next hC2 hX) _⟩
end
section
variable {B : Option Addr} {m d : Nat} {l : List DoV}
theorem c3 {M : Mem} (hf : M.floor ≤ M.nb.size) (hD : Row M B (Ds l)) (hB : Old B) (hm : m = l.length) (hl : l.length ≤ 1048576) (hw : ∀ x ∈ l, x.wf) :
    Cn Try.prog 3 #[.slice B m d] M fun v _ => v = .bool true := by
  refine w3_0 (Cn.mono c9 ?_)
  rintro v N ⟨rfl, K, hs, hW⟩
  refine ⟨_, rfl, Cn.mono c10 ?_⟩
  rintro v2 N2 ⟨rfl, K2, hs2, hF⟩
  refine ⟨_, rfl, c3_loop (M0 := M) (b0 := M.nb.size) hD hB hm hw hl _ 0 [] (Nat.zero_add _) (by rw [K2.base, K.base]) ⟨_, _, hW.keep K2, hF, fun i hi => hi.elim, fun i hi => hi.elim, by omega, Nat.le_refl _, by omega, by rw [K2.floor, K.floor]; exact hf⟩ (by simp) (by omega)⟩
end
theorem law3 {W : World} {u0 : Value} (s0 : Sees Try.prog (mem0 W) 1048576 8 22 [u0]) : Cn Try.prog 3 #[u0] (mem0 W) fun v _ => v = .bool true := by
  obtain ⟨B, m, d, l, e', g1, g2, g3, g4, g5, g6⟩ := sees_dos s0
  simp at e'
  subst e'
  exact c3 (Nat.le_refl _) g5 g4 g1 (by omega) g6
end Go.Zt
