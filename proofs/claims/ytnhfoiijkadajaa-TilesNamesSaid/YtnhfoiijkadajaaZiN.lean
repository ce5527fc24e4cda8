/- Layer 21: Parts c26 c27. -/
import Derived.Test.YtnhfoiijkadajaaZiM
set_option linter.unusedSimpArgs false
set_option linter.unusedVariables false
namespace Go.Zu
open Go Go.Sim Go.Proofs Go.RowKit
theorem rLeb0 (h : List Nat) : rLeb h 0 = ((lebL h 0 0).1, (lebL h 0 0).2.1, 8 * (lebL h 0 0).2.2) := by
  unfold rLeb
  rw [if_neg (by decide)]
  simp
theorem lebL_lt : ∀ (r : List Nat) (i v : Nat), i ≤ 4 → v < 128 ^ i → (lebL r i v).1 < 4294967296
  | [], _, _, _, _ => by simp [lebL]
  | c :: r, i, v, hi, hv => by
    unfold lebL
    split
    · simp
    · rename_i h
      have h4 : i = 4 → c ≤ 15 := fun e => by
        rcases Nat.lt_or_ge 15 c with hc | hc
        · exact absurd (.inl ⟨e, hc⟩) h
        · exact hc
      split
      · rename_i hc
        show v + c % 128 * 128 ^ i < 4294967296
        obtain rfl | rfl | rfl | rfl | rfl : i = 0 ∨ i = 1 ∨ i = 2 ∨ i = 3 ∨ i = 4 := by omega
        all_goals omega
      · rename_i hc
        refine lebL_lt r (i + 1) _ (by omega) ?_
        obtain rfl | rfl | rfl | rfl | rfl : i = 0 ∨ i = 1 ∨ i = 2 ∨ i = 3 ∨ i = 4 := by omega
        all_goals omega
def partsA : List (List Nat) → Nat → List Nat → List (List Nat) × Nat
  | acc, 0, r => if 0 < r.length then ([], 4) else (acc, 0)
  | acc, n + 1, r =>
    if (lebL r 0 0).2.1 ≠ 0 then ([], (lebL r 0 0).2.1)
    else if (r.drop (lebL r 0 0).2.2).length < (lebL r 0 0).1 then ([], 3)
    else partsA (acc ++ [(r.drop (lebL r 0 0).2.2).take (lebL r 0 0).1]) n ((r.drop (lebL r 0 0).2.2).drop (lebL r 0 0).1)
def partsS (b : List Nat) (n : Int) : List (List Nat) × Nat := if 1 ≤ n ∧ n ≤ 16 then partsA [] n.toNat b else ([], 2)
def PtR (M0 : Mem) (q : List (List Nat) × Nat) : Value → Mem → Prop := fun v N =>
  ∃ A c l, v = .tuple #[.slice A l.length c, .int .i64 (q.2 : Nat)] ∧ l.map Bs.b = q.1 ∧ Keep M0 N ∧ Bl M0.nb.size N A c l
theorem PtR.bad {M0 N : Mem} {q : List (List Nat) × Nat} {e : Nat} (h : q = ([], e)) (K : Keep M0 N) {z : Int} (hz : z = (e : Int)) : PtR M0 q (.tuple #[.slice none 0 0, .int .i64 z]) N := by
  subst h hz
  exact ⟨none, 0, [], rfl, rfl, K, Bl.nil⟩
theorem c45 {x a b : Int} {M : Mem} : Cn Try.prog 45 #[.int .i64 x, .int .i64 a, .int .i64 b] M fun v N => v = .bool (decide (a ≤ x ∧ x ≤ b)) ∧ N = M :=
  w45_0 ⟨fun h => ⟨by congr 1; rw [decide_eq_decide]; omega, rfl⟩, fun h => ⟨by rw [decide_eq_false]; omega, rfl⟩⟩
theorem c35 {x a b : Int} {M : Mem} : Cn Try.prog 35 #[.int .i64 x, .int .i64 a, .int .i64 b] M fun v N => v = .bool (decide (a ≤ x ∧ x ≤ b)) ∧ N = M :=
  w35_0 ⟨fun h => ⟨by congr 1; rw [decide_eq_decide]; omega, rfl⟩, fun h => ⟨by rw [decide_eq_false]; omega, rfl⟩⟩
theorem nb {b : Bool} (h : (!b) = true) : b = false := by cases b <;> simp_all
theorem nb' {b : Bool} (h : (!b) = false) : b = true := by cases b <;> simp_all
theorem fb {M N : Mem} (hf : M.floor ≤ M.nb.size) (K : Keep M N) : N.floor ≤ N.nb.size := by rw [K.floor]; exact Nat.le_trans hf K.size
theorem byt_drop {b : List Nat} (h : Byt b) (n : Nat) : Byt (b.drop n) := fun x hx => h x (List.mem_of_mem_drop hx)
section
variable {M0 : Mem}
theorem cut_rest {M : Mem} {S : Nat → Prop} {A : Option Addr} {c : Nat} {r : List Nat} {q : Nat} (hO : Own S M 5 A c (U8 r)) (hc : r.length ≤ c) (hq : q ≤ r.length) :
    ∃ A1, sliceP Try.prog 46 (.slice A r.length c) none (some (.int .u32 (q : Nat))) none = some (.slice A1 q c) ∧ Row M A1 (U8 (r.take q)) ∧
    ∃ A2, sliceP Try.prog 46 (.slice A r.length c) (some (.int .u32 (q : Nat))) none none = some (.slice A2 (r.length - q) (c - q)) ∧ Row M A2 (U8 (r.drop q)) ∧ (∀ a', A2 = some a' → a'.block % 2 = 0 ∧ S (a'.block / 2)) := by
  have b0 : ∀ (x y d : Nat), x ≤ y → bound (some (.int .u32 (x : Nat))) y d = some x := fun x y d h => by
    simp only [bound]; rw [if_pos (by omega)]; simp
  obtain ⟨A1, s2, O1⟩ := slice_own el5 (s := 1) (n := r.length) (c := c) (h := q) (hi := some (.int .u32 (q : Nat))) (by rw [Nat.mul_one]; exact hO) hc (b0 q c r.length (by omega)) hq rfl
  obtain ⟨A2, s3, R3, hin, _⟩ := slice_row el5 (n := r.length) (c := c) (l := q) (h := r.length) (lo := some (.int .u32 (q : Nat))) (hi := none) hO.row (by simp) hc hO.none_zero (b0 q r.length 0 hq) rfl hq (Nat.le_refl _)
  refine ⟨A1, s2, ?_, A2, s3, ?_, fun a' ha => ?_⟩
  · have := O1.row
    rw [Nat.mul_one, ← List.map_take] at this; exact this
  · rw [Nat.mul_one, Nat.mul_one, ← List.map_drop, List.take_of_length_le (by simp)] at R3; exact R3
  · obtain ⟨a, h1, h2⟩ := hin a' ha
    have := hO.in_ a h1
    rw [← h2]; exact this
theorem c26_1 (hf : M0.floor ≤ M0.nb.size) {n : Nat} (hn : n ≤ 16) : ∀ (m i : Nat) (r : List Nat) (A : Option Addr) (c : Nat) (l : List Bs) (Al : Option Addr) (cl : Nat) {M : Mem}, i + m = n → Keep M0 M → Row M A (U8 r) → Byt r → r.length ≤ 1073741824 → Bl M0.nb.size M Al cl l → l.length = i →
    A26_1 A r.length c Al l.length cl (n : Nat) (i : Nat) M (PtR M0 (partsA (l.map Bs.b) m r)) := by
  intro m
  induction m with
  | zero =>
    intro i r A c l Al cl M hi K hA hB hr hl hli
    refine w26_1 ⟨fun h => by omega, fun _ => ⟨fun h => ?_, fun h => ?_⟩⟩
    · exact PtR.bad (by unfold partsA; rw [if_pos (by omega)]) K rfl
    · unfold partsA; rw [if_neg (by omega)]
      exact ⟨Al, cl, l, rfl, rfl, K, hl⟩
  | succ m ih =>
    intro i r A c l Al cl M hi K hA hB hr hl hli
    have ep : partsA (l.map Bs.b) (m + 1) r = if (lebL r 0 0).2.1 ≠ 0 then ([], (lebL r 0 0).2.1) else if (r.drop (lebL r 0 0).2.2).length < (lebL r 0 0).1 then ([], 3) else partsA (l.map Bs.b ++ [(r.drop (lebL r 0 0).2.2).take (lebL r 0 0).1]) m ((r.drop (lebL r 0 0).2.2).drop (lebL r 0 0).1) := rfl
    have hms := K.size
    refine w26_1 ⟨fun _ => Cn.mono (c42 (fb hf K) hA rfl (by omega) hB) ?_, fun h => by omega⟩
    rintro v N3 ⟨j, rfl, K3, hj1, hj2, hR⟩
    have K03 := K.trans K3
    refine ⟨_, rfl, Cn.mono (c43 hR (by rw [K03.floor]; exact Nat.le_trans hf (Nat.le_trans hms hj1))) ?_⟩
    rintro v N5 ⟨rfl, C5, hsz5, hR5⟩
    rw [rLeb0] at hR5 ⊢
    have K5 : Keep M N5 := Keep.step K3 C5 fun i hi => by omega
    have K05 := K.trans K5
    have s5 := K5.size
    have hpos := hR5.pos
    have hlt := lebL_lt r 0 0 (by decide) (by decide)
    generalize lebL r 0 0 = q at *
    obtain ⟨q1, q2, q3⟩ := q
    dsimp only at hR5 hpos ep hlt ⊢
    refine ⟨_, rfl, _, rfl, _, rfl, fun hne => ?_, fun h0 => ?_⟩
    · have hne' : q2 ≠ 0 := fun e => hne (by show ((q2 : Nat) : Int) = 0; omega)
      exact PtR.bad (by rw [ep, if_pos hne']) K05 rfl
    have h0' : q2 = 0 := by have h0 : ((q2 : Nat) : Int) = 0 := h0; omega
    rw [if_neg (by omega)] at ep
    refine Cn.mono (c44 hR5 (fb hf K05)) ?_
    have e8 : (8 * q3 + 7) / 8 = q3 := by omega
    rw [e8]
    rintro v N9 ⟨A9, c9, rfl, K9, O9, hc9⟩
    have K59 := K5.trans K9
    have K09 := K.trans K59
    have s9 := K9.size
    generalize hrr : r.drop q3 = r' at *
    have hB' : Byt r' := by rw [← hrr]; exact byt_drop hB q3
    have hr' : r'.length ≤ 1073741824 := by rw [← hrr, List.length_drop]; omega
    refine ⟨_, rfl, ?_⟩
    have hbb : decide ((0 : Int) ≤ IntKind.i64.wrap ((q1 : Nat) : Int) ∧ IntKind.i64.wrap ((q1 : Nat) : Int) ≤ ((r'.length : Nat) : Int)) = decide (q1 ≤ r'.length) := by
      rw [decide_eq_decide, i64w (by omega)]
      omega
    refine Cn.eq c45 ⟨_, rfl, fun hb => ?_, fun hb => ?_⟩
    · have hb1 := hbb.symm.trans (nb hb)
      have := of_decide_eq_false hb1
      exact PtR.bad (by rw [ep, if_pos (by omega)]) K09 rfl
    have hb1 := hbb.symm.trans (nb' hb)
    have hq := of_decide_eq_true hb1
    rw [if_neg (by omega)] at ep
    obtain ⟨A1, s1, R1, A2, s2, R2, in2⟩ := cut_rest (O9.mono (T := fun i => N5.nb.size ≤ i ∧ i < N9.nb.size) fun i hl h => ⟨h, hl⟩) hc9 hq
    have hbl : (r'.take q1).length = q1 := by rw [List.length_take]; omega
    refine ⟨_, s1, _, rfl, Cn.mono (c46 (b := r'.take q1) (A := A1) (n := q1) (c := c9) (fb hf K09) R1 hbl (by omega)) ?_⟩
    rintro v N15 ⟨A15, c15, rfl, K15, O15, _⟩
    have s15 := K15.size
    obtain ⟨Al', cl', N, g1, g2, g3, g4⟩ := hl.push (K59.trans K15) (by rw [K.floor]; exact hf) hms (o := ⟨r'.take q1, A15, c15⟩) (O15.mono fun i _ hi => by omega) (by omega)
    have g1' := g1
    rw [show ({ b := r'.take q1, A := A15, c := c15 } : Bs).b.length = q1 from hbl] at g1'
    refine ⟨_, rfl, _, g1', _, rfl, _, s2, _, rfl, ?_⟩
    rw [i64w (by omega), show ((i : Int) + 1) = ((i + 1 : Nat) : Int) by omega]
    have R2' : Row N A2 (U8 (r'.drop q1)) := (R2.keep K15).chg g4 fun a ha => .inr (by
      have h2 : N5.nb.size ≤ a.block / 2 ∧ a.block / 2 < N9.nb.size := (in2 a ha).2
      rintro (h | h) <;> omega)
    have := ih (i + 1) (r'.drop q1) A2 (c9 - q1) (l ++ [⟨r'.take q1, A15, c15⟩]) Al' cl' (M := N) (by omega) (Keep.step K g2 fun i hi => hi) R2' (byt_drop hB' q1) (by rw [List.length_drop]; omega) g3 (by simp [hli])
    rw [List.map_append, List.length_append, List.length_drop] at this
    rw [ep]
    exact this
theorem c26 (hf : M0.floor ≤ M0.nb.size) {A : Option Addr} {n c : Nat} {b : List Nat} {x : Int} (hA : Row M0 A (U8 b)) (hn : n = b.length) (hb : n ≤ 1073741824) (hB : Byt b) : Cn Try.prog 26 #[.slice A n c, .int .i64 x] M0 (PtR M0 (partsS b x)) := by
  subst hn
  unfold partsS
  refine w26_0 (Cn.eq c35 ⟨_, rfl, fun h => ?_, fun h => ?_⟩)
  · have := of_decide_eq_false (nb h)
    exact PtR.bad (by rw [if_neg this]) (.refl _) rfl
  · have hx := of_decide_eq_true (nb' h)
    rw [if_pos hx]
    obtain ⟨n, rfl⟩ := Int.eq_ofNat_of_zero_le (show 0 ≤ x by omega)
    exact c26_1 hf (n := n) (by omega) n 0 b A c [] none 0 (Nat.zero_add _) (.refl _) hA hB hb Bl.nil rfl
theorem c27_2 (hf : M0.floor ≤ M0.nb.size) {n : Nat} (hn : n ≤ 16) : ∀ (m i : Nat) (r : List Nat) (A : Option Addr) (c : Nat) (l : List Bs) (Al : Option Addr) (cl : Nat) {M : Mem}, i + m = n → Keep M0 M → Row M A (U8 r) → Byt r → r.length ≤ 1073741824 → Bl M0.nb.size M Al cl l → l.length = i →
    A27_2 (n : Nat) Al l.length cl A r.length c (i : Nat) M (PtR M0 (partsA (l.map Bs.b) m r)) := by
  intro m
  induction m with
  | zero =>
    intro i r A c l Al cl M hi K hA hB hr hl hli
    refine w27_2 ⟨fun h => by omega, fun _ => ⟨fun h => ?_, fun h => ?_⟩⟩
    · exact PtR.bad (by unfold partsA; rw [if_pos (by omega)]) K rfl
    · unfold partsA; rw [if_neg (by omega)]
      exact ⟨Al, cl, l, rfl, rfl, K, hl⟩
  | succ m ih =>
    intro i r A c l Al cl M hi K hA hB hr hl hli
    have ep : partsA (l.map Bs.b) (m + 1) r = if (lebL r 0 0).2.1 ≠ 0 then ([], (lebL r 0 0).2.1) else if (r.drop (lebL r 0 0).2.2).length < (lebL r 0 0).1 then ([], 3) else partsA (l.map Bs.b ++ [(r.drop (lebL r 0 0).2.2).take (lebL r 0 0).1]) m ((r.drop (lebL r 0 0).2.2).drop (lebL r 0 0).1) := rfl
    have hms := K.size
    refine w27_2 ⟨fun _ => Cn.mono (c47 (fb hf K) hA rfl (by omega) hB) ?_, fun h => by omega⟩
    rintro v N3 ⟨j, rfl, K3, hj1, hj2, hR⟩
    have K03 := K.trans K3
    refine ⟨_, rfl, Cn.mono (c48 hR hB (by rw [K03.floor]; exact Nat.le_trans hf (Nat.le_trans hms hj1))) ?_⟩
    rintro v N5 ⟨rfl, C5, hsz5, hR5⟩
    rw [rLeb0] at hR5 ⊢
    have K5 : Keep M N5 := Keep.step K3 C5 fun i hi => by omega
    have K05 := K.trans K5
    have s5 := K5.size
    have hpos := hR5.pos
    have hlt := lebL_lt r 0 0 (by decide) (by decide)
    generalize lebL r 0 0 = q at *
    obtain ⟨q1, q2, q3⟩ := q
    dsimp only at hR5 hpos ep hlt ⊢
    refine ⟨_, rfl, _, rfl, _, rfl, fun hne => ?_, fun h0 => ?_⟩
    · have hne' : q2 ≠ 0 := fun e => hne (by show ((q2 : Nat) : Int) = 0; omega)
      exact PtR.bad (by rw [ep, if_pos hne']) K05 rfl
    have h0' : q2 = 0 := by have h0 : ((q2 : Nat) : Int) = 0 := h0; omega
    rw [if_neg (by omega)] at ep
    refine Cn.mono (c49 hR5 hB (fb hf K05)) ?_
    have e8 : (8 * q3 + 7) / 8 = q3 := by omega
    rw [e8]
    rintro v N9 ⟨A9, c9, rfl, K9, O9⟩
    have hc9 := O9.cap
    rw [List.length_map] at hc9
    have K59 := K5.trans K9
    have K09 := K.trans K59
    have s9 := K9.size
    generalize hrr : r.drop q3 = r' at *
    have hB' : Byt r' := by rw [← hrr]; exact byt_drop hB q3
    have hr' : r'.length ≤ 1073741824 := by rw [← hrr, List.length_drop]; omega
    refine ⟨_, rfl, ?_⟩
    have w1 : IntKind.u64.wrap ((q1 : Nat) : Int) = ((q1 : Nat) : Int) := u64w (by omega)
    have w2 : IntKind.u64.wrap ((r'.length : Nat) : Int) = ((r'.length : Nat) : Int) := u64w (by omega)
    show (IntKind.u64.wrap ((q1 : Nat) : Int) > IntKind.u64.wrap ((r'.length : Nat) : Int) → _) ∧ (¬ (IntKind.u64.wrap ((q1 : Nat) : Int) > IntKind.u64.wrap ((r'.length : Nat) : Int)) → _)
    rw [w1, w2]
    refine ⟨fun hb => ?_, fun hb => ?_⟩
    · exact PtR.bad (by rw [ep, if_pos (by omega)]) K09 rfl
    have hq : q1 ≤ r'.length := by omega
    rw [if_neg (by omega)] at ep
    obtain ⟨A1, s1, R1, A2, s2, R2, in2⟩ := cut_rest (O9.mono (T := fun i => N5.nb.size ≤ i ∧ i < N9.nb.size) fun i hl h => ⟨h, hl⟩) hc9 hq
    have hbl : (r'.take q1).length = q1 := by rw [List.length_take]; omega
    refine ⟨_, s1, _, rfl, Cn.mono (c21 (b := r'.take q1) (A := A1) (n := q1) (c := c9) (fb hf K09) R1 hbl.symm (by omega)) ?_⟩
    rintro v N15 ⟨A15, c15, rfl, K15, O15, _⟩
    have s15 := K15.size
    obtain ⟨Al', cl', N, g1, g2, g3, g4⟩ := hl.push (K59.trans K15) (by rw [K.floor]; exact hf) hms (o := ⟨r'.take q1, A15, c15⟩) (O15.mono fun i _ hi => by omega) (by omega)
    have g1' := g1
    rw [show ({ b := r'.take q1, A := A15, c := c15 } : Bs).b.length = q1 from hbl] at g1'
    refine ⟨_, rfl, _, g1', _, rfl, _, s2, _, rfl, ?_⟩
    rw [i64w (by omega), show ((i : Int) + 1) = ((i + 1 : Nat) : Int) by omega]
    have R2' : Row N A2 (U8 (r'.drop q1)) := (R2.keep K15).chg g4 fun a ha => .inr (by
      have h2 : N5.nb.size ≤ a.block / 2 ∧ a.block / 2 < N9.nb.size := (in2 a ha).2
      rintro (h | h) <;> omega)
    have := ih (i + 1) (r'.drop q1) A2 (c9 - q1) (l ++ [⟨r'.take q1, A15, c15⟩]) Al' cl' (M := N) (by omega) (Keep.step K g2 fun i hi => hi) R2' (byt_drop hB' q1) (by rw [List.length_drop]; omega) g3 (by simp [hli])
    rw [List.map_append, List.length_append, List.length_drop] at this
    rw [ep]
    exact this
theorem c27 (hf : M0.floor ≤ M0.nb.size) {A : Option Addr} {n c : Nat} {b : List Nat} {x : Int} (hA : Row M0 A (U8 b)) (hn : n = b.length) (hb : n ≤ 1073741824) (hB : Byt b) : Cn Try.prog 27 #[.slice A n c, .int .i64 x] M0 (PtR M0 (partsS b x)) := by
  subst hn
  unfold partsS
  have bad : ¬ (1 ≤ x ∧ x ≤ 16) → A27_1 A b.length c x true M0 (PtR M0 (if 1 ≤ x ∧ x ≤ 16 then partsA [] x.toNat b else ([], 2))) := fun h =>
    w27_1 ⟨fun _ => PtR.bad (by rw [if_neg h]) (.refl _) rfl, fun h => (by cases h)⟩
  refine w27_0 ⟨fun h => bad (by omega), fun h => ?_⟩
  by_cases h16 : x > 16
  · rw [decide_eq_true h16]; exact bad (by omega)
  · rw [decide_eq_false h16, if_pos (by omega)]
    obtain ⟨n, rfl⟩ := Int.eq_ofNat_of_zero_le (show 0 ≤ x by omega)
    refine w27_1 ⟨fun h => (by cases h), fun _ => Cn.mono (c21 hf hA rfl (by omega)) ?_⟩
    rintro _ N1 ⟨B, d, rfl, K1, O1, _⟩
    exact ⟨_, rfl, c27_2 hf (n := n) (by omega) n 0 b B d [] none 0 (Nat.zero_add _) K1 O1.row hB hb Bl.nil rfl⟩
end
end Go.Zu
