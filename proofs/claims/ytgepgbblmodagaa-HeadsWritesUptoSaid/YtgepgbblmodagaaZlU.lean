/- Layer 20: the program's coding of filters. -/
import Derived.Test.YtgepgbblmodagaaZlT
set_option linter.unusedSimpArgs false
set_option linter.unusedVariables false
set_option maxRecDepth 100000
namespace Go.Zt
open Go Go.Sim Go.Proofs Go.RowKit
section
variable {U : Nat → Prop} {M N : Mem} {jc jd jh jx k e : Nat} {d : Dv} {h : Hd} {X : List Sg}
theorem c74o {l : List Nat} (hh : St U M jc jd (.w l) e (k + 1)) {a : Addr} {v n f : Int} (hv : M.intAt .i64 a.block a.off = some v) (hn : n ≤ 32) :
    Cn Try.prog 74 #[PtrB jc, .pointer (some a), .int .i64 n, .int .i64 f] M fun u N => u = .tuple #[] ∧ ∃ U', Ext (fun i => i = jc ∨ i = jd) U M U' N ∧ St U' N jc jd (numD (.w l) e v n f).1 (numD (.w l) e v n f).2.1 k := by
  by_cases he : e ≠ 0
  · have q : numD (.w l) e v n f = (.w l, e, v) := by unfold numD; rw [if_pos he]
    rw [q]
    refine Cn.mono (c74e hh he) ?_
    rintro _ N ⟨rfl, rfl⟩
    exact ⟨rfl, U, .refl, hh.mono (by omega)⟩
  · obtain rfl : e = 0 := by omega
    exact c74w hh hv hn
def sg1 (d : Dv) (e : Nat) (x : Sg) : Dv × Nat × Sg :=
  let r1 := numD d e x.a 4 0
  let r2 := numD r1.1 r1.2.1 x.b 2 0
  let r3 := numD r2.1 r2.2.1 x.c 4 0
  let r4 := numD r3.1 r3.2.1 x.d 2 0
  (r4.1, r4.2.1, ⟨r1.2.2, r2.2.2, r3.2.2, r4.2.2⟩)
def sgsD (d : Dv) (e : Nat) : List Sg → Dv × Nat × List Sg
  | [] => (d, e, [])
  | x :: X => ((sgsD (sg1 d e x).1 (sg1 d e x).2.1 X).1, (sgsD (sg1 d e x).1 (sg1 d e x).2.1 X).2.1, (sg1 d e x).2.2 :: (sgsD (sg1 d e x).1 (sg1 d e x).2.1 X).2.2)
def Far (U : Nat → Prop) (jc jd jh : Nat) (M : Mem) (A : Option Addr) : Prop := ∀ a, A = some a → a.block % 2 = 1 ∨ (a.block / 2 < M.nb.size ∧ ¬ U (a.block / 2) ∧ a.block / 2 ≠ jc ∧ a.block / 2 ≠ jd ∧ a.block / 2 ≠ jh)
theorem Far.ext {A : Option Addr} {U' : Nat → Prop} {P : Nat → Prop} (hF : Far U jc jd jh M A) (E : Ext P U M U' N) (hP : ∀ i, P i → i = jc ∨ i = jd ∨ i = jh) : Far U' jc jd jh N A := fun a ha =>
  (hF a ha).imp id fun ⟨q1, q2, q3, q4, q5⟩ => ⟨Nat.lt_of_lt_of_le q1 E.chg.size, fun hu => (E.sub _ hu).elim q2 fun q => by omega, q3, q4, q5⟩
theorem Far.row {A : Option Addr} {U' : Nat → Prop} {P : Nat → Prop} {L : List Value} (hF : Far U jc jd jh M A) (hR : Row M A L) (E : Ext P U M U' N) (hP : ∀ i, P i → i = jc ∨ i = jd ∨ i = jh) : Row N A L :=
  hR.chg E.chg fun a ha => (hF a ha).imp id fun ⟨q1, q2, q3, q4, q5⟩ => fun hs => hs.elim q2 fun hp => by rcases hP _ hp with hp | hp | hp <;> omega
def Aft (U : Nat → Prop) (M : Mem) (jc jd jh : Nat) (h : Hd) (X : List Sg) (d : Dv) (e k : Nat) (U' : Nat → Prop) (N : Mem) : Prop :=
  Ext (fun i => i = jc ∨ i = jd ∨ i = jh) U M U' N ∧ St U' N jc jd d e k ∧ ¬ U' jh ∧ N.nb[jh]? = some (.cells h.cs 41) ∧ h.n = X.length ∧ Row N h.A (Sgs X) ∧ Far U' jc jd jh N h.A
theorem e78_5w {Q : Value → Mem → Prop} {l : List Nat} (nh : jh ≠ jc ∧ jh ≠ jd) (hb : h.n ≤ 1048576) (hn : h.n = X.length) : ∀ (q i : Nat) {U : Nat → Prop} {M : Mem} {l : List Nat} {e : Nat} (k : Nat), i + q = h.n → St U M jc jd (.w l) e (k + 4 * q) → ¬ U jh →
    M.nb[jh]? = some (.cells h.cs 41) → Row M h.A (Sgs X) → Far U jc jd jh M h.A →
    (∀ U' N l', (sgsD (.w l) e (X.drop i)).1 = .w l' → Aft U M jc jd jh h X (.w l') (sgsD (.w l) e (X.drop i)).2.1 k U' N → A78_4 (some ⟨2 * jc, 0, none⟩) (some ⟨2 * jh, 0, none⟩) 0 N Q) →
    A78_5 (some ⟨2 * jc, 0, none⟩) (some ⟨2 * jh, 0, none⟩) (h.n : Int) (i : Int) M Q
  | 0, i, U, M, l, e, k, hi, S, nU, a, hR, hF, hQ => by
    refine w78_5 (cF (decide_eq_false (by omega)) (hQ U M l ?_ ⟨.refl, ?_, nU, a, hn, hR, hF⟩))
    · rw [List.drop_of_length_le (by omega)]; rfl
    · rw [List.drop_of_length_le (by omega)]; exact S
  | q + 1, i, U, M, l, e, k, hi, S, nU, a, hR, hF, hQ => by
    have hlt : i < X.length := by omega
    have P2 : ∀ i, (i = jc ∨ i = jd) → i = jc ∨ i = jd ∨ i = jh := fun i hi => hi.imp id .inl
    have nP : ¬ (jh = jc ∨ jh = jd) := fun hh => hh.elim nh.1 nh.2
    have kind : ∀ {l : List Nat} {e : Nat} {v n f : Int}, ∃ l', (numD (.w l) e v n f).1 = .w l' := numD_kind.1 _ rfl
    have one : ∀ {U1 : Nat → Prop} {M1 : Mem} {l1 : List Nat} {e1 k1 : Nat} {v : Int} {p : Addr} {n : Int} {K : Mem → Prop}, n ≤ 32 → Ext (fun i => i = jc ∨ i = jd) U M U1 M1 → St U1 M1 jc jd (.w l1) e1 (k1 + 1) → M1.intAt .i64 p.block p.off = some v →
        (∀ U2 N l2, Ext (fun i => i = jc ∨ i = jd) U M U2 N → (numD (.w l1) e1 v n 0).1 = .w l2 → St U2 N jc jd (.w l2) (numD (.w l1) e1 v n 0).2.1 k1 → K N) →
        Cn Try.prog 74 #[PtrB jc, .pointer (some p), .int .i64 n, .int .i64 0] M1 fun _ N => K N := by
      intro U1 M1 l1 e1 k1 v p n K hn E1 S1 hv hK
      refine Cn.mono (c74o S1 hv hn) ?_
      rintro _ N ⟨_, U2, E2, S2⟩
      obtain ⟨l2, hl2⟩ := kind (l := l1) (e := e1) (v := v) (n := n) (f := 0)
      rw [hl2] at S2
      exact hK U2 N l2 (E1.trans E2) hl2 S2
    obtain ⟨p, g0, _, _, _, _⟩ := Sgs.elt hR (n := h.n) (i := i) (z := (i : Int)) rfl (by omega) hlt
    have cells : ∀ {U1 : Nat → Prop} {M1 : Mem}, Ext (fun i => i = jc ∨ i = jd) U M U1 M1 → M1.intAt .i64 p.block p.off = some X[i].a ∧ M1.intAt .i64 p.block (p.off + 1) = some X[i].b ∧ M1.intAt .i64 p.block (p.off + 2) = some X[i].c ∧ M1.intAt .i64 p.block (p.off + 3) = some X[i].d := by
      intro U1 M1 E
      obtain ⟨p', g0', g⟩ := Sgs.elt (hF.row hR E P2) (n := h.n) (i := i) (z := (i : Int)) rfl (by omega) hlt
      rw [g0] at g0'
      obtain rfl := Option.some.inj g0'
      exact g
    have ed : sgsD (.w l) e (X.drop i) = sgsD (.w l) e (X[i] :: X.drop (i + 1)) := by rw [List.drop_eq_getElem_cons hlt]
    rw [ed] at hQ
    refine w78_5 (cT (decide_eq_true (by omega)) (ad rfl (on (sl_of a rfl) (ix g0 ?_))))
    refine one (by decide) .refl (k1 := k + 4 * q + 3) (by rw [show k + 4 * q + 3 + 1 = k + 4 * (q + 1) by omega]; exact S) (cells .refl).1 fun U2 N2 l2 E2 h2 S2 => ?_
    refine one (by decide) E2 (k1 := k + 4 * q + 2) S2 (cells E2).2.1 fun U3 N3 l3 E3 h3 S3 => ?_
    refine one (by decide) E3 (k1 := k + 4 * q + 1) S3 (cells E3).2.2.1 fun U4 N4 l4 E4 h4 S4 => ?_
    refine one (by decide) E4 (k1 := k + 4 * q) S4 (cells E4).2.2.2 fun U5 N5 l5 E5 h5 S5 => ?_
    have s1 : sg1 (.w l) e X[i] = (.w l5, (numD (.w l4) (numD (.w l3) (numD (.w l2) (numD (.w l) e X[i].a 4 0).2.1 X[i].b 2 0).2.1 X[i].c 4 0).2.1 X[i].d 2 0).2.1, (sg1 (.w l) e X[i]).2.2) := by
      unfold sg1
      simp only [h2, h3, h4, h5]
    have t1 : (sg1 (.w l) e X[i]).1 = .w l5 := by rw [s1]
    have t2 : (sg1 (.w l) e X[i]).2.1 = (numD (.w l4) (numD (.w l3) (numD (.w l2) (numD (.w l) e X[i].a 4 0).2.1 X[i].b 2 0).2.1 X[i].c 4 0).2.1 X[i].d 2 0).2.1 := by rw [s1]
    rw [i64w (by omega)]
    have a5 := E5.at a nU nP
    refine e78_5w (l := l5) nh hb hn q (i + 1) k (by omega) S5 a5.2 a5.1 (hF.row hR E5 P2) (hF.ext E5 P2) fun U' N l' hl' H => ?_
    simp only [sgsD, t1, t2] at hQ
    exact hQ U' N l' hl' ⟨(E5.mono fun i _ hi => P2 i hi).trans H.1, H.2⟩
end
end Go.Zt
