/- Layer 21: TilesBodies. -/
import Derived.Test.YtnhfoiijkadajaaZiN
import Derived.Test.YtnhfoiijkadajaaZiDa
import Derived.Test.YtnhfoiijkadajaaZsT
set_option linter.unusedSimpArgs false
set_option linter.unusedVariables false
namespace Go.Zu
open Go Go.Sim Go.Proofs Go.RowKit
theorem c14 {M : Mem} : Cn Try.prog 14 #[] M fun v N => v = .bool true ∧ N = M := Cn.known rfl ⟨rfl, rfl⟩
def TrK (M0 : Mem) : Value → Mem → Prop := fun v N => v = .bool true ∧ Keep M0 N
theorem body_len {l : List (List Nat)} (h : ∀ b ∈ l, b.length ≤ 1048576) : (bodyS l).1.length ≤ 1073741824 := by
  unfold bodyS
  split
  · simp
  · have := joinB_len l [] 1048576 h
    have h2 : l.length * (1048576 + 5) ≤ 16 * (1048576 + 5) := Nat.mul_le_mul_right _ (by omega)
    simp at this
    show (joinB [] l).length ≤ _
    omega
section
variable {M0 : Mem} {A B : Option Addr} {n c nb' cb : Nat} {l : List Bs} {b : List Nat} {x : Int}
theorem c7_4 (hf : M0.floor ≤ M0.nb.size) {m1 m2 : Nat} (h1 : M0.nb.size ≤ m1) {P Q : Option Addr} {cp cq : Nat} {lp lq : List Bs} (he : lp.map Bs.b = lq.map Bs.b) (hlp : lp.length ≤ 1048576) (hbb : ∀ o ∈ lp, o.b.length ≤ 4611686018427387904) {C : Option Addr} {cc : Nat} :
    ∀ (m i : Nat) (l8 : List Int) {M : Mem}, i + m = l8.length → l8.length ≤ 1048576 → Keep M0 M → Own (fun i => m1 ≤ i ∧ i < m2) M 5 C cc (l8.map (Value.int .u8)) → Bl m2 M P cp lp → Bl m2 M Q cq lq →
      A7_4 C l8.length cc P lp.length cp Q lq.length cq (i : Nat) M (TrK M0) := by
  intro m
  induction m with
  | zero =>
    intro i l8 M hi hl8 K hO hP hQ
    have hll : lp.length = lq.length := by have := congrArg List.length he; simpa using this
    refine w7_4 ⟨fun h => by omega, fun _ => Cn.eq (c25 hP.rd hQ.rd rfl rfl he (by omega) hbb) ⟨_, rfl, fun _ => Cn.eq c14 ⟨_, rfl, rfl, K⟩, fun h => (by cases h)⟩⟩
  | succ m ih =>
    intro i l8 M hi hl8 K hO hP hQ
    have hil : i < l8.length := by omega
    obtain ⟨a, i1, i2⟩ := hO.row.int1 (n := l8.length) (i := i) (z := (i : Nat)) (k := .u8) (x := l8[i]) rfl hil (by simp [hil])
    refine w7_4 ⟨fun _ => ⟨_, i1, _, i2, ?_⟩, fun h => by omega⟩
    generalize IntKind.u8.wrap _ = y
    obtain ⟨q, p1, M', p2, p3, p4, p5⟩ := hO.put1 (fun j hj => by rw [K.floor]; exact Nat.le_trans hf (Nat.le_trans h1 hj.1)) (n := l8.length) (i := i) (z := (i : Nat)) (v := .int .u8 y) rfl hil (by simp; exact hil) rfl
    refine ⟨_, p1, M', p2, ?_⟩
    rw [i64w (by omega), show ((i : Int) + 1) = ((i + 1 : Nat) : Int) by omega]
    have := ih (i + 1) (l8.set i y) (M := M') (by rw [List.length_set]; omega) (by rw [List.length_set]; omega) (Keep.step K p3 fun j hj => Nat.le_trans h1 hj.1) (by rw [List.map_set]; exact p5) (hP.chg p3 fun i h3 _ h5 => by omega) (hQ.chg p3 fun i h3 _ h5 => by omega)
    rw [List.length_set] at this
    exact this
theorem c7_2 (hf : M0.floor ≤ M0.nb.size) (hB : Row M0 B (U8 b)) (hn : nb' = b.length) (hb : nb' ≤ 1048576) (hby : Byt b) {M : Mem} (K : Keep M0 M) : A7_2 B nb' cb x false M (TrK M0) := by
  refine w7_2 ⟨fun h => (by cases h), fun _ => Cn.mono (c21 (fb hf K) (hB.keep K) hn (by omega)) ?_⟩
  rintro _ N1 ⟨C, cc, rfl, K1, O1, _⟩
  have K01 := K.trans K1
  refine ⟨_, rfl, Cn.mono (c26 (x := x) (b := b) (fb hf K01) O1.row hn (Nat.le_trans hb (by decide)) hby) ?_⟩
  rintro _ N2 ⟨P, cp, lp, rfl, e1, K2, hP⟩
  have K02 := K01.trans K2
  refine ⟨_, rfl, _, rfl, _, rfl, Cn.mono (c27 (x := x) (b := b) (fb hf K02) (hB.keep K02) hn (Nat.le_trans hb (by decide)) hby) ?_⟩
  rintro _ N3 ⟨Q, cq, lq, rfl, e2, K3, hQ⟩
  have K03 := K02.trans K3
  have pl : lp.map Bs.b = lq.map Bs.b := e1.trans e2.symm
  have bounds : lp.length ≤ 1048576 ∧ ∀ o ∈ lp, o.b.length ≤ 4611686018427387904 := by
    have key : ∀ (m : Nat) (acc : List (List Nat)) (r : List Nat), r.length ≤ 1048576 → (∀ b ∈ acc, b.length ≤ 1048576) → (partsA acc m r).1.length ≤ acc.length + m ∧ ∀ b ∈ (partsA acc m r).1, b.length ≤ 1048576 := by
      intro m
      induction m with
      | zero =>
        intro acc r hr ha
        unfold partsA; split
        · exact ⟨Nat.zero_le _, fun b h => (by cases h)⟩
        · exact ⟨Nat.le_refl _, ha⟩
      | succ m ih =>
        intro acc r hr ha
        unfold partsA; split
        · exact ⟨Nat.zero_le _, fun b h => (by cases h)⟩
        · split
          · exact ⟨Nat.zero_le _, fun b h => (by cases h)⟩
          · have := ih (acc ++ [(r.drop (lebL r 0 0).2.2).take (lebL r 0 0).1]) ((r.drop (lebL r 0 0).2.2).drop (lebL r 0 0).1) (by simp; omega) (fun b hb => by
              rcases List.mem_append.1 hb with h | h
              · exact ha b h
              · rw [List.mem_singleton.1 h]; simp; omega)
            rw [List.length_append, List.length_singleton] at this
            exact ⟨by omega, this.2⟩
    have all : (partsS b x).1.length ≤ 16 ∧ ∀ y ∈ (partsS b x).1, y.length ≤ 1048576 := by
      unfold partsS; split
      · have := key x.toNat [] b (by omega) (fun b h => (by cases h))
        refine ⟨?_, this.2⟩
        have h1 := this.1
        simp at h1; omega
      · exact ⟨Nat.zero_le _, fun b h => (by cases h)⟩
    rw [← e1] at all
    refine ⟨by have := all.1; simp at this; omega, fun o ho => ?_⟩
    have := all.2 o.b (List.mem_map.2 ⟨o, ho, rfl⟩)
    omega
  have hll : lp.length = lq.length := by have := congrArg List.length pl; simpa using this
  refine ⟨_, rfl, _, rfl, _, rfl, fun h => absurd rfl h, fun _ => ?_⟩
  refine Cn.eq (c25 (n := lp.length) (m := lq.length) (hP.rd.chg K3) hQ.rd rfl rfl pl (by omega) bounds.2) ⟨_, rfl, w7_3 ⟨fun h => (by simp at h), fun _ => ?_⟩⟩
  have e8 : U8 b = (b.map fun x => ((x : Nat) : Int)).map (Value.int .u8) := by rw [List.map_map]; rfl
  have hl8 : (b.map fun x => ((x : Nat) : Int)).length = b.length := by simp
  have O1' : Own (fun i => M.nb.size ≤ i ∧ i < N1.nb.size) N3 5 C cc ((b.map fun x => ((x : Nat) : Int)).map (Value.int .u8)) := by
    rw [← e8]; exact (O1.mono fun i hl h => ⟨h, hl⟩).chg (K2.trans K3) fun _ _ _ x => x
  have hQ' : Bl N1.nb.size N3 Q cq lq := by
    obtain ⟨D, d1, d2, d3⟩ := hQ
    have := K2.size
    exact ⟨D, fun i hi => ⟨Nat.le_trans this (d1 i hi).1, (d1 i hi).2⟩, d2, fun o ho => (d3 o ho).mono fun i _ h => ⟨Nat.le_trans this h.1, h.2⟩⟩
  have := c7_4 (M0 := M0) (m1 := M.nb.size) (m2 := N1.nb.size) (P := P) (Q := Q) (cp := cp) (cq := cq) (cc := cc) (C := C) hf K.size pl bounds.1 bounds.2 (b.map fun x => ((x : Nat) : Int)).length 0 _ (M := N3) (Nat.zero_add _) (by omega) K03 O1' (hP.keep K3) hQ'
  rw [hl8] at this
  dsimp only
  rw [hn]
  exact this
theorem c7_1 (hf : M0.floor ≤ M0.nb.size) (hA : BsR M0 A l) (hn : n = l.length) (hb : n ≤ 1048576) (hbb : ∀ o ∈ l, o.b.length ≤ 1048576) (hB : Row M0 B (U8 b)) (hnb : nb' = b.length) (hbb' : nb' ≤ 1048576) (hby : Byt b) :
    ∀ (k i : Nat) (l' : List Bs) (A' : Option Addr) (c' : Nat) {M : Mem}, i + k = l.length → Keep M0 M → Bl M0.nb.size M A' c' l' → l'.map Bs.b = (l.take i).map Bs.b → A7_1 A n c B nb' cb x A' l'.length c' (i : Nat) M (TrK M0) := by
  intro k
  induction k with
  | zero =>
    intro i l' A' c' M hi K hO he
    rw [List.take_of_length_le (by omega)] at he
    have hll : l'.length = l.length := by have := congrArg List.length he; simpa using this
    have hbb2 : ∀ o ∈ l', o.b.length ≤ 1048576 := by
      intro o ho
      have : o.b ∈ l.map Bs.b := by rw [← he]; exact List.mem_map.2 ⟨o, ho, rfl⟩
      obtain ⟨o2, h2, e2⟩ := List.mem_map.1 this
      rw [← e2]; exact hbb o2 h2
    refine w7_1 ⟨fun h => by omega, fun _ => Cn.mono (c22 (fb hf K) hO.rd rfl hbb2) ?_⟩
    rw [he]
    have hbl := body_len (l := l.map Bs.b) (fun y hy => by obtain ⟨o, ho, rfl⟩ := List.mem_map.1 hy; exact hbb o ho)
    have t23 := fun (M : Mem) (hf : M.floor ≤ M.nb.size) (hA : BsR M A l) => c23 (c := c) hf hA hn hbb
    generalize bodyS (l.map Bs.b) = q at *
    obtain ⟨a, e⟩ := q
    rintro _ N1 ⟨A1, c1, rfl, K1, O1⟩
    have K01 := K.trans K1
    refine ⟨_, rfl, _, rfl, _, rfl, Cn.mono (t23 _ (fb hf K01) (hA.chg K01)) ?_⟩
    rintro _ N2 ⟨A2, c2, rfl, K2, O2⟩
    have K02 := K01.trans K2
    refine ⟨_, rfl, _, rfl, _, rfl, fun h => absurd rfl h, fun _ => ?_⟩
    refine Cn.eq (c24 (l := a) (l' := a) (n := a.length) (m := a.length) (O1.row.keep K2) O2.row rfl rfl (by dsimp only at hbl; omega)) ⟨_, rfl, fun h => (by simp at h), fun _ => ?_⟩
    refine Cn.eq (c25 (n := l'.length) (hO.rd.chg (K1.trans K2)) (hA.chg K02) rfl hn he (by omega) (fun o ho => by have := hbb2 o ho; omega)) ⟨_, rfl, ?_⟩
    exact c7_2 hf hB hnb hbb' hby K02
  | succ k ih =>
    intro i l' A' c' M hi K hO he
    have hil : i < l.length := by omega
    obtain ⟨a, i1, i2⟩ := (hA.chg K).at (n := n) (z := i) rfl (by omega) hil
    have hRb := (hA.chg K).2 _ (List.getElem_mem hil)
    have hlen := hbb _ (List.getElem_mem hil)
    refine w7_1 ⟨fun _ => ⟨_, i1, _, i2, Cn.mono (c21 (M := M) (n := l[i].b.length) (fb hf K) hRb rfl (by omega)) ?_⟩, fun h => by omega⟩
    rintro v N ⟨A2, c2, rfl, K1, hOb, hc2⟩
    have hll : l'.length = i := by
      have := congrArg List.length he
      simp at this; omega
    obtain ⟨A3, c3, N3, q1, q2, q3, _⟩ := hO.push K1 (by rw [K.floor]; exact hf) K.size (o := ⟨l[i].b, A2, c2⟩) hOb (by omega)
    refine ⟨_, rfl, _, q1, _, rfl, ?_⟩
    rw [i64w (by omega), show ((i : Int) + 1) = ((i + 1 : Nat) : Int) by omega]
    have hr := ih (i + 1) (l' ++ [⟨l[i].b, A2, c2⟩]) A3 c3 (M := N3) (by omega) (Keep.step K q2 fun i hi => hi) q3 (by
      rw [List.map_append, he, List.take_succ_eq_append_getElem hil, List.map_append]; rfl)
    rw [List.length_append] at hr
    exact hr
theorem c7 (hf : M0.floor ≤ M0.nb.size) (hA : BsR M0 A l) (hn : n = l.length) (hb : n ≤ 1048576) (hbb : ∀ o ∈ l, o.b.length ≤ 1048576) (hB : Row M0 B (U8 b)) (hnb : nb' = b.length) (hbb' : nb' ≤ 1048576) (hby : Byt b) :
    Cn Try.prog 7 #[.slice A n c, .slice B nb' cb, .int .i64 x] M0 (TrK M0) :=
  w7_0 (c7_1 hf hA hn hb hbb hB hnb hbb' hby l.length 0 [] none 0 (Nat.zero_add _) (.refl _) Bl.nil rfl)
end
end Go.Zu
