/- Layer 20: Write: the program's and the document's. -/
import Derived.Test.YtgepgbblmodagaaZlY
import Derived.Test.YtgepgbblmodagaaZlD
import Derived.Test.YtgepgbblmodagaaZlE
set_option linter.unusedSimpArgs false
set_option linter.unusedVariables false
set_option maxRecDepth 100000
namespace Go.Zt
open Go Go.Sim Go.Proofs Go.RowKit
structure Ws (U : Nat → Prop) (M : Mem) (j : Nat) (l : List Nat) : Prop where
  dev : Wr (fun i => U i ∨ M.nb.size ≤ i) M j l
  fl : ∀ i, U i ∨ i = j → M.floor ≤ i
  fs : M.floor ≤ M.nb.size
  ub : ∀ i, U i → i < M.nb.size
structure Wt (U : Nat → Prop) (M : Mem) (j : Nat) (l : List Nat) : Prop where
  dev : Wf (fun i => U i ∨ M.nb.size ≤ i) M j l
  fl : ∀ i, U i ∨ i = j → M.floor ≤ i
  fs : M.floor ≤ M.nb.size
  ub : ∀ i, U i → i < M.nb.size
theorem Wf.shrink {S T : Nat → Prop} {M : Mem} {j : Nat} {l : List Nat} (h : Wf S M j l) (hS : ∀ i, i < M.nb.size → S i → T i) (hj : ¬ T j) : Wf T M j l := by
  obtain ⟨A, c, g1, g2, g3⟩ := h.ex
  exact ⟨hj, h.bin, h.len, A, c, g1, g2.mono hS, g3⟩
section
variable {U : Nat → Prop} {M N : Mem} {j k : Nat} {l l' : List Nat}
theorem Ws.lt (h : Ws U M j l) : j < M.nb.size := by obtain ⟨A, c, g1, _⟩ := h.dev.ex; exact lt_of_at g1
theorem Wt.lt (h : Wt U M j l) : j < M.nb.size := by obtain ⟨A, c, g1, _⟩ := h.dev.ex; exact lt_of_at g1
theorem Ws.out (h : Ws U M j l) : ¬ U j := fun hu => h.dev.out (.inl hu)
theorem Wt.out (h : Wt U M j l) : ¬ U j := fun hu => h.dev.out (.inl hu)
theorem Ws.chg {T : Nat → Prop} (h : Ws U M j l) (k : Chg T M N) (hT : ∀ i, i < M.nb.size → U i ∨ i = j → ¬ T i) : Ws U N j l := by
  have z := k.size
  have hl := h.lt
  refine ⟨((h.dev.shrink (T := U) (fun i hi hs => hs.resolve_right (by omega)) h.out).chg k fun i hi hs => hT i hi hs).shrink (fun i _ hs => .inl hs) fun hs => hs.elim h.out fun q => by omega, fun i hi => by rw [k.floor]; exact h.fl i hi, by rw [k.floor]; exact Nat.le_trans h.fs z, fun i hi => Nat.lt_of_lt_of_le (h.ub i hi) z⟩
theorem Wt.chg {T : Nat → Prop} (h : Wt U M j l) (k : Chg T M N) (hT : ∀ i, i < M.nb.size → U i ∨ i = j → ¬ T i) : Wt U N j l := by
  have z := k.size
  have hl := h.lt
  refine ⟨((h.dev.shrink (T := U) (fun i hi hs => hs.resolve_right (by omega)) h.out).chg k fun i hi hs => hT i hi hs).shrink (fun i _ hs => .inl hs) fun hs => hs.elim h.out fun q => by omega, fun i hi => by rw [k.floor]; exact h.fl i hi, by rw [k.floor]; exact Nat.le_trans h.fs z, fun i hi => Nat.lt_of_lt_of_le (h.ub i hi) z⟩
theorem Ws.keep (h : Ws U M j l) (k : Keep M N) : Ws U N j l := h.chg k fun _ _ _ x => x
theorem Wt.keep (h : Wt U M j l) (k : Keep M N) : Wt U N j l := h.chg k fun _ _ _ x => x
theorem Ws.flw (h : Ws U M j l) : Fl (fun i => U i ∨ M.nb.size ≤ i) M j :=
  ⟨fun i hi => by
    rcases hi with (hi | hi) | hi
    · exact h.fl i (.inl hi)
    · exact Nat.le_trans h.fs hi
    · exact h.fl i (.inr hi), fun i hi => .inr hi⟩
theorem Wt.flw (h : Wt U M j l) : Fl (fun i => U i ∨ M.nb.size ≤ i) M j :=
  ⟨fun i hi => by
    rcases hi with (hi | hi) | hi
    · exact h.fl i (.inl hi)
    · exact Nat.le_trans h.fs hi
    · exact h.fl i (.inr hi), fun i hi => .inr hi⟩
theorem Ws.of (h : Ws U M j l) (C : Chg (fun i => (U i ∨ M.nb.size ≤ i) ∨ i = j) M N) (W : Wr (fun i => U i ∨ M.nb.size ≤ i) N j l') : ∃ U', Ext (· = j) U M U' N ∧ Ws U' N j l' := by
  have z := C.size
  have hl := h.lt
  refine ⟨fun i => U i ∨ (M.nb.size ≤ i ∧ i < N.nb.size), ⟨fun i hi => hi.imp id fun q => q.1, C.mono fun i hi hs => hs.imp (fun q => q.resolve_right (by omega)) id⟩, W.shrink (fun i hi hs => .inl (hs.imp id fun q => ⟨q, hi⟩)) ?_, ?_, by rw [C.floor]; exact Nat.le_trans h.fs z, ?_⟩
  · rintro ((hu | hu) | hu)
    · exact h.out hu
    · omega
    · omega
  · intro i hi
    rw [C.floor]
    rcases hi with (hi | hi) | hi
    · exact h.fl i (.inl hi)
    · exact Nat.le_trans h.fs hi.1
    · exact h.fl i (.inr hi)
  · rintro i (hi | hi)
    · have := h.ub i hi; omega
    · exact hi.2
theorem Wt.of (h : Wt U M j l) (C : Chg (fun i => (U i ∨ M.nb.size ≤ i) ∨ i = j) M N) (W : Wf (fun i => U i ∨ M.nb.size ≤ i) N j l') : ∃ U', Ext (· = j) U M U' N ∧ Wt U' N j l' := by
  have z := C.size
  have hl := h.lt
  refine ⟨fun i => U i ∨ (M.nb.size ≤ i ∧ i < N.nb.size), ⟨fun i hi => hi.imp id fun q => q.1, C.mono fun i hi hs => hs.imp (fun q => q.resolve_right (by omega)) id⟩, W.shrink (fun i hi hs => .inl (hs.imp id fun q => ⟨q, hi⟩)) ?_, ?_, by rw [C.floor]; exact Nat.le_trans h.fs z, ?_⟩
  · rintro ((hu | hu) | hu)
    · exact h.out hu
    · omega
    · omega
  · intro i hi
    rw [C.floor]
    rcases hi with (hi | hi) | hi
    · exact h.fl i (.inl hi)
    · exact Nat.le_trans h.fs hi.1
    · exact h.fl i (.inr hi)
  · rintro i (hi | hi)
    · have := h.ub i hi; omega
    · exact hi.2
def FarW (U : Nat → Prop) (j : Nat) (M : Mem) (A : Option Addr) : Prop := ∀ a, A = some a → a.block % 2 = 1 ∨ (a.block / 2 < M.nb.size ∧ ¬ U (a.block / 2) ∧ a.block / 2 ≠ j)
theorem FarW.ext {A : Option Addr} {U' : Nat → Prop} (hF : FarW U j M A) (E : Ext (· = j) U M U' N) : FarW U' j N A := fun a ha =>
  (hF a ha).imp id fun ⟨q1, q2, q3⟩ => ⟨Nat.lt_of_lt_of_le q1 E.chg.size, fun hu => (E.sub _ hu).elim q2 fun q => by omega, q3⟩
theorem FarW.row {A : Option Addr} {U' : Nat → Prop} {L : List Value} (hF : FarW U j M A) (hR : Row M A L) (E : Ext (· = j) U M U' N) : Row N A L :=
  hR.chg E.chg fun a ha => (hF a ha).imp id fun ⟨q1, q2, q3⟩ => fun hs => hs.elim q2 q3
theorem FarW.keep {A : Option Addr} (hF : FarW U j M A) (K : Keep M N) : FarW U j N A := fun a ha => (hF a ha).imp id fun ⟨q1, q2, q3⟩ => ⟨Nat.lt_of_lt_of_le q1 K.size, q2, q3⟩
end
section
variable {U : Nat → Prop} {M N : Mem} {jd : Nat} {l : List Nat} {h : Hd} {X : List Sg} {w e : Int}
theorem may_len (hm : h.may X w e = true) : X.length ≤ 8 := by
  have mS : mayS w e = true := by unfold Hd.may at hm; simp only [Bool.and_eq_true] at hm; exact hm.1.1.1
  have mF : h.mayF X = true := by
    cases hx : h.ex with
    | true =>
      unfold Hd.may at hm
      simp only [hx, if_true, Bool.and_eq_true] at hm
      exact (of_decide_eq_true hm.1.1.2.2).2.2.2.2.2.2.2.2.2
    | false => exact ((may_iff hx mS).1 hm).2.2.2.2.2.2
  unfold Hd.mayF at mF
  split at mF
  · have := of_decide_eq_true mF; omega
  · simp only [Bool.and_eq_true, decide_eq_true_eq] at mF
    have hc := mF.1.2.1
    split at hc
    · rw [hc.2.2]; exact Nat.pow_le_pow_right (n := 2) (by decide) (show h.cb.toNat ≤ 3 by omega)
    · omega
def wB (h : Hd) (X : List Sg) (w e : Int) : List Nat := if h.may X w e then hBits h X else []
set_option maxHeartbeats 1000000 in
theorem c24 (hW : Ws U M jd l) (hl : l.length ≤ 70000000000) (hn : h.n = X.length) (hb : h.n ≤ 1048576) (hR : Row M h.A (Sgs X)) (hF : FarW U jd M h.A) :
    Cn Try.prog 24 #[PtrB jd, .agg h.cs, .agg #[.int .i64 w, .int .i64 e]] M fun u N => u = .int .i64 (er (h.may X w e) : Nat) ∧ ∃ U', Ext (· = jd) U M U' N ∧ Ws U' N jd (l ++ wB h X w e) := by
  have ld := hW.lt
  have a := Mem.new_at M (.cells h.cs 41)
  have K1 : Keep M (M.new (.cells h.cs 41)) := .new _ _
  have z1 := Mem.new_size M (.cells h.cs 41)
  refine w24_0 ?_
  generalize M.new (.cells h.cs 41) = M1 at a K1 z1 ⊢
  have s := Mem.new_at M1 (.cells #[.int .i64 w, .int .i64 e] 23)
  have K2 : Keep M1 (M1.new (.cells #[.int .i64 w, .int .i64 e] 23)) := .new _ _
  have a2 := at_keep a K2
  generalize M1.new (.cells #[.int .i64 w, .int .i64 e] 23) = M2 at s K2 a2 ⊢
  have KK := K1.trans K2
  have W2 := hW.keep KK
  refine Cn.mono (c22 W2.flw W2.dev (v := 0) (y := 0) rfl (by decide) 0 (by omega)) ?_
  have e0 : wFixed l 0 0 = (0, l) := by unfold wFixed; rw [if_neg (by decide)]; simp [bitsN]
  rw [e0]
  rintro _ N1 ⟨rfl, C, W⟩
  obtain ⟨U3, E3, W3⟩ := W2.of C W
  have ub : ∀ i, M.nb.size ≤ i → ¬ U i := fun i hi hu => by have := hW.ub i hu; omega
  have a3 := E3.at a2 (ub _ (Nat.le_refl _)) (by omega)
  have s3 := E3.at s (ub _ (by omega)) (by omega)
  have hR3 := (hF.keep KK).row (hR.keep KK) E3
  have hF3 := (hF.keep KK).ext E3
  refine ty rfl (cF rfl (ldA a3.1 rfl (on (int_of s3.1 rfl) (on (int_of s3.1 rfl) (Cn.mono (c26 W3.fs hn hb hR3) ?_)))))
  rintro _ N6 ⟨rfl, K6⟩
  have E6 : Ext (· = jd) U M U3 N6 := ((Ext.of (P := (· = jd)) (U := U) KK fun i _ h => h.elim).trans E3).trans (Ext.of K6 fun i _ h => h.elim)
  have W6 := W3.keep K6
  have z3 := E3.chg.size
  have z6 := K6.size
  have z2 := K2.size
  refine ty rfl (cne (fun hm => ⟨rfl, U3, E6, ?_⟩) fun hm => ?_)
  · have : wB h X w e = [] := by
      unfold wB
      cases hmm : h.may X w e
      · rfl
      · rw [hmm] at hm; exact absurd rfl hm
    rw [this, List.append_nil]; exact W6
  have hm : h.may X w e = true := by
    cases hmm : h.may X w e
    · rw [hmm] at hm; cases hm
    · rfl
  have mS : mayS w e = true := by unfold Hd.may at hm; simp only [Bool.and_eq_true] at hm; exact hm.1.1.1
  have sz := mayS_of mS
  have a6 := at_keep a3.1 K6
  have s6 := at_keep s3.1 K6
  have cc := Mem.new_at N6 (.cells #[PtrB jd, .pointer none, .int .i64 0] 89)
  have K7 : Keep N6 (N6.new (.cells #[PtrB jd, .pointer none, .int .i64 0] 89)) := .new _ _
  generalize N6.new (.cells #[PtrB jd, .pointer none, .int .i64 0] 89) = N7 at cc K7 ⊢
  have W7 := W6.keep K7
  have a7 := at_keep a6 K7
  have s7 := at_keep s6 K7
  have n3 : ¬ U3 N6.nb.size := fun hu => by have := W6.ub _ hu; omega
  have hR7 := (hR3.keep K6).keep K7
  have hF7 := (hF3.keep K6).keep K7
  have z7 := K7.size
  have fl6 : N7.floor = M.floor := by rw [K7.floor, K6.floor, E3.chg.floor, KK.floor]
  have H : Hm U3 N7 N6.nb.size jd M.nb.size (.w l, 0, h) (90 + 90) :=
    ⟨⟨W7.dev, fun i hi => by
      rcases hi with hi | hi | hi
      · exact W7.fl i (.inl hi)
      · exact W7.fl i (.inr hi)
      · have := W6.fs; rw [K7.floor]; omega, W7.fs, cc, n3, by omega, by simp only [Dv.len]; omega, W7.ub⟩, a7, a3.2, by omega, by omega, by rw [fl6]; exact hW.fs⟩
  have hX : Xm U3 N7 N6.nb.size jd M.nb.size (.w l, 0, h) X := ⟨hn, hR7, fun a ha => (hF a ha).elim .inl fun ⟨q1, q2, q3⟩ => (hF7 a ha).imp id fun ⟨p1, p2, p3⟩ => ⟨p1, p2, by omega, p3, by omega⟩⟩
  refine on (int_of s7 rfl) (on (int_of s7 rfl) (Cn.mono (c50 (k := 90) (by omega) (by omega) H hX (may_len hm) fun b p hc => by cases hc) ?_))
  rintro _ N10 ⟨_, U', c', X', hT, E, HH, _, _⟩
  obtain ⟨rfl, rfl⟩ := HeadT_w hm hT
  have hw : wB h X' w e = hBits h X' := by unfold wB; rw [hm]; rfl
  have er0 : (er (h.may X' w e) : Nat) = 0 := by rw [hm]; rfl
  refine on (int_of HH.st.cod rfl) ⟨by rw [er0], U', E6.step K7 E fun i hi => ?_, HH.st.dev |> fun q => ?_⟩
  · rcases hi with hi | hi | hi
    · exact .inr (by omega)
    · exact .inl hi
    · exact .inr (by omega)
  · rw [hw]
    exact ⟨q, fun i hi => HH.st.fl i (hi.imp id .inl), HH.st.fs, HH.st.ub⟩
end
end Go.Zt
