/- Layer 8: TxfmKnown. -/
import Derived.Test.YtpfhalehdgcbeaaZge
import Derived.Test.YtpfhalehdgcbeaaZgDl
set_option linter.unusedSimpArgs false
set_option linter.unusedVariables false
namespace Go.Zt
open Go Go.Sim Go.Proofs Go.RowKit

abbrev Tr8 : Value → Mem → Prop := fun v _ => v = .bool true
def CodeR (M : Mem) (e : Nat) : Value → Mem → Prop := fun v N => ∃ A n c, v = .tuple #[.slice A n c, .int .i64 (e : Nat)] ∧ Keep M N
section
variable {M0 : Mem} {X : Option Addr} {lx cx : Nat} {typ sz : Int} {x : List Int} {e : Nat}
theorem c12e (he : (invB sz typ x).2 = e) (hf : M0.floor ≤ M0.nb.size) (hX : Row M0 X (Ints x)) (hlx : lx = x.length) (hb0 : lx ≤ 1048576) : Cn Try.prog 12 #[.int .i64 sz, .int .i64 typ, .slice X lx cx] M0 (CodeR M0 e) := by
  refine Cn.mono (c12 hf hX hlx hb0) ?_
  rintro v N ⟨A, c, h1, h2, _⟩
  rw [he] at h1
  exact ⟨A, _, c, h1, h2⟩
theorem c16e (he : (fwdB sz typ x).2 = e) (hf : M0.floor ≤ M0.nb.size) (hX : Row M0 X (Ints x)) (hlx : lx = x.length) (hb0 : lx ≤ 1048576) : Cn Try.prog 16 #[.int .i64 sz, .int .i64 typ, .slice X lx cx] M0 (CodeR M0 e) := by
  refine Cn.mono (c16 hf hX hlx hb0) ?_
  rintro v N ⟨A, c, h1, h2, _⟩
  rw [he] at h1
  exact ⟨A, _, c, h1, h2⟩
end
theorem inv_code {sz typ : Int} {x : List Int} : (invB sz typ x).2 = askS sz typ x (min32 sz) 1048576 := by
  unfold invB; split
  · rename_i h; exact h.symm
  · rfl
theorem fwd_code {sz typ : Int} {x : List Int} : (fwdB sz typ x).2 = askS sz typ x sz 255 := by
  unfold fwdB; split
  · rename_i h; exact h.symm
  · rfl
theorem inB_zeros {b : Int} (hb : 0 ≤ b) (k : Nat) : inB b (List.replicate k 0) = true := by
  unfold inB; rw [List.all_eq_true]; intro v hv
  rw [(List.mem_replicate.1 hv).2]; exact decide_eq_true (by omega)
theorem madeH {M1 : Mem} {k : Nat} (hk : k ≤ 100000) : ∃ A' M2, makeP Try.prog 22 (.int .i64 (k : Nat)) (.int .i64 (k : Nat)) M1 = some (.slice A' k k, M2) ∧ Keep M1 M2 ∧ Own (fun j => M1.nb.size ≤ j) M2 3 A' k (Ints (List.replicate k 0)) := by
  obtain ⟨A', M2, g1, g2, g3, g4⟩ := make_own em22 (S := fun j => M1.nb.size ≤ j) (M := M1) (k := .i64) (k' := .i64) (l := (k : Nat)) (c := (k : Nat)) (by omega) (Int.le_refl _) (by omega) (Nat.le_refl _)
  refine ⟨A', M2, g1, Keep.step (.refl _) g2 fun j hj => hj, ?_⟩
  rw [Ints, List.map_replicate]; exact g4
def sz9 : List Int := [4, 8, 16, 32, 64, 5, 0, -4, 128]
def may8 (n k : Int) : Bool := decide (0 ≤ k ∧ (n = 4 ∧ k < 10 ∨ (n = 8 ∨ n = 16) ∧ k < 9 ∨ n = 32 ∧ (k = 0 ∨ k = 8) ∨ n = 64 ∧ k = 0))
def known8 (n : Int) : Bool := decide (n = 4 ∨ n = 8 ∨ n = 16 ∨ n = 32 ∨ n = 64)
def want8 (n k : Int) : Nat := if !known8 n then 2 else if !may8 n k then 80 else 0
theorem want_all : ∀ n ∈ sz9, ∀ k ∈ (List.range 13).map (fun (i : Nat) => (i : Int) - 1), (if (typesS n).length = 0 then 2 else if !(typesS n).contains k then 80 else 0) = want8 n k := by decide +kernel
theorem want_ask {n k : Int} (hn : n ∈ sz9) (hk : -1 ≤ k ∧ k < 12) {x : List Int} {side b : Int} (hl : (x.length : Int) = IntKind.i64.wrap (side * side)) (hb : inB b x = true) : askS n k x side b = want8 n k := by
  rw [← want_all n hn k (List.mem_map.2 ⟨(k + 1).toNat, List.mem_range.2 (by omega), by omega⟩)]
  unfold askS
  rw [if_neg (show ¬ ((x.length : Int) ≠ IntKind.i64.wrap (side * side)) by omega), if_pos hb]
theorem side9 : ∀ n ∈ sz9, (min32 n) * (min32 n) ≤ 1024 ∧ 0 ≤ (min32 n) * (min32 n) ∧ n * n ≤ 16384 ∧ 0 ≤ n * n := by decide +kernel
section
variable {C : Option Addr} {cc : Nat}
theorem c8_12 {n k : Int} (hn : n ∈ sz9) (hk : -1 ≤ k ∧ k < 12) {x33 x34 : Int} {M : Mem} (hf : M.floor ≤ M.nb.size) (hE : ∀ N, Keep M N → A8_2 n (min32 n) (IntKind.i64.wrap (k + 1)) C cc cc x33 x34 N Tr8) :
    A8_12 n (min32 n) k (may8 n k) (known8 n) C cc cc x33 x34 M Tr8 := by
  obtain ⟨s1, s2, s3, s4⟩ := side9 n hn
  obtain ⟨p, hp⟩ := Int.eq_ofNat_of_zero_le s2
  obtain ⟨q, hq⟩ := Int.eq_ofNat_of_zero_le s4
  have wp : IntKind.i64.wrap (min32 n * min32 n) = (p : Nat) := by rw [hp, i64w (by omega)]
  have wq : IntKind.i64.wrap (n * n) = (q : Nat) := by rw [hq, i64w (by omega)]
  have mx : (if 0 > IntKind.i64.wrap (min32 n * min32 n) then 0 else IntKind.i64.wrap (min32 n * min32 n)) = ((p : Nat) : Int) := by rw [wp, if_neg (by omega)]
  obtain ⟨A, N1, g1, g2, g3⟩ := madeH (M1 := M) (k := p) (by omega)
  have i12 := c12e (M0 := N1) (X := A) (lx := p) (cx := p) (typ := k) (sz := n) (x := List.replicate p 0) (e := want8 n k) (by rw [inv_code]; exact want_ask hn hk (by rw [wp, List.length_replicate]) (inB_zeros (by decide) _)) (fb hf g2) g3.row (by simp) (by omega)
  have nx : ∀ N, Keep M N → A8_14 n (min32 n) k C cc cc x33 x34 false N Tr8 := fun N K => w8_14 ⟨fun h => (by cases h), fun _ => hE N K⟩
  have i16 : ∀ N2, Keep N1 N2 → ∃ B N3, makeP Try.prog 22 (.int .i64 (IntKind.i64.wrap (n * n))) (.int .i64 (IntKind.i64.wrap (n * n))) N2 = some (.slice B q q, N3) ∧ Cn Try.prog 16 #[.int .i64 n, .int .i64 k, .slice B q q] N3 (CodeR M (want8 n k)) := by
    intro N2 K2
    have K := g2.trans K2
    obtain ⟨B, N3, f1, f2, f3⟩ := madeH (M1 := N2) (k := q) (by omega)
    rw [wq]
    refine ⟨B, N3, f1, Cn.mono (c16e (x := List.replicate q 0) (e := want8 n k) (by rw [fwd_code]; exact want_ask hn hk (by rw [wq, List.length_replicate]) (inB_zeros (by decide) _)) (fb hf (K.trans f2)) f3.row (by simp) (by omega)) ?_⟩
    rintro v N4 ⟨D, a, b, h1, h2⟩
    exact ⟨D, a, b, h1, (K.trans f2).trans h2⟩
  refine w8_12 ⟨fun h => ?_, fun h => ⟨fun h2 => ?_, fun h2 => ?_⟩⟩
  · have ew : want8 n k = 2 := by unfold want8; rw [if_pos h]
    rw [ew] at i12 i16
    rw [mx]
    refine ⟨_, g1, _, rfl, Cn.mono i12 ?_⟩
    rintro _ N2 ⟨_, _, _, rfl, K2⟩
    obtain ⟨B, N3, f1, f2⟩ := i16 N2 K2
    refine ⟨_, rfl, _, rfl, _, rfl, _, f1, _, rfl, Cn.mono f2 ?_⟩
    rintro _ N4 ⟨_, _, _, rfl, K4⟩
    exact ⟨_, rfl, _, rfl, _, rfl, fun h => absurd rfl h, fun _ => nx N4 K4⟩
  · have ew : want8 n k = 80 := by unfold want8; rw [if_neg (by rw [h]; decide), if_pos h2]
    rw [ew] at i12 i16
    rw [mx]
    refine ⟨_, g1, _, rfl, Cn.mono i12 ?_⟩
    rintro _ N2 ⟨_, _, _, rfl, K2⟩
    obtain ⟨B, N3, f1, f2⟩ := i16 N2 K2
    refine ⟨_, rfl, _, rfl, _, rfl, _, f1, _, rfl, Cn.mono f2 ?_⟩
    rintro _ N4 ⟨_, _, _, rfl, K4⟩
    exact ⟨_, rfl, _, rfl, _, rfl, fun h => absurd rfl h, fun _ => nx N4 K4⟩
  · have ew : want8 n k = 0 := by unfold want8; rw [if_neg (by rw [h]; decide), if_neg (by rw [h2]; decide)]
    rw [ew] at i12 i16
    rw [mx]
    refine ⟨_, g1, _, rfl, Cn.mono i12 ?_⟩
    rintro _ N2 ⟨_, _, _, rfl, K2⟩
    obtain ⟨B, N3, f1, f2⟩ := i16 N2 K2
    refine ⟨_, rfl, _, rfl, _, rfl, _, f1, _, rfl, Cn.mono f2 ?_⟩
    rintro _ N4 ⟨_, _, _, rfl, K4⟩
    exact ⟨_, rfl, _, rfl, _, rfl, fun h => absurd rfl h, fun _ => nx N4 K4⟩
theorem c8_4 {n k : Int} (hn : n ∈ sz9) (hk : -1 ≤ k ∧ k < 12) {x33 x34 : Int} {M : Mem} (hf : M.floor ≤ M.nb.size) (hE : ∀ N, Keep M N → A8_2 n (min32 n) (IntKind.i64.wrap (k + 1)) C cc cc x33 x34 N Tr8) :
    ∀ b, b = may8 n k → A8_4 n (min32 n) k b C cc cc x33 x34 M Tr8 := by
  rintro b rfl
  have key : ∀ b, b = known8 n → A8_12 n (min32 n) k (may8 n k) b C cc cc x33 x34 M Tr8 := by
    rintro b rfl; exact c8_12 hn hk hf hE
  refine w8_4 ⟨fun h4 => w8_6 ⟨fun _ => w8_8 ⟨fun _ => w8_10 ⟨fun _ => key _ ?_, fun h => (by cases h)⟩, fun h => (by cases h)⟩, fun h => (by cases h)⟩, fun n4 => w8_6 ⟨fun h8 => w8_8 ⟨fun _ => w8_10 ⟨fun _ => key _ ?_, fun h => (by cases h)⟩, fun h => (by cases h)⟩, fun n8 => w8_8 ⟨fun h16 => w8_10 ⟨fun _ => key _ ?_, fun h => (by cases h)⟩, fun n16 => w8_10 ⟨fun h32 => key _ ?_, fun n32 => key _ ?_⟩⟩⟩⟩
  all_goals
    unfold known8
    simp only [beq_iff_eq, beq_eq_false_iff_ne, ne_eq] at *
    rw [Bool.eq_iff_iff]
    simp
    omega
theorem c8_2 {n : Int} (hn : n ∈ sz9) {x33 x34 : Int} {M0 : Mem} (hf : M0.floor ≤ M0.nb.size) (hE : ∀ N, Keep M0 N → A8_1 C cc cc x33 (IntKind.i64.wrap (x34 + 1)) N Tr8) :
    ∀ (m : Nat) (k : Int) {M : Mem}, k + m = 12 → -1 ≤ k → Keep M0 M → A8_2 n (min32 n) k C cc cc x33 x34 M Tr8 := by
  intro m
  induction m with
  | zero => intro k M hk h1 K; exact w8_2 ⟨fun h => by omega, fun _ => hE M K⟩
  | succ m ih =>
    intro k M hk h1 K
    have key := c8_4 (C := C) (cc := cc) (x33 := x33) (x34 := x34) (M := M) hn (k := k) ⟨h1, by omega⟩ (fb hf K) fun N K2 => by
      rw [i64w (by omega)]
      exact ih (k + 1) (by omega) (by omega) (K.trans K2)
    refine w8_2 ⟨fun _ => ?_, fun h => by omega⟩
    repeat' (first | (refine ⟨fun h => ?_, fun h => ?_⟩) | (refine key _ ?_))
    all_goals
      unfold may8
      rw [Bool.eq_iff_iff]
      simp
      omega
end
theorem kn1 : invB 4 0 (firstL 16 160 0) = (firstL 16 5 5, 0) := by decide +kernel
theorem kn2 : fwdB 4 9 (firstL 16 1 0) = (firstL 16 1 0, 0) := by decide +kernel
theorem kn3 : (invB 4 0 (List.replicate 15 0)).2 = 2 := by rw [inv_code]; decide +kernel
theorem kn4 : (fwdB 4 0 (firstL 16 256 0)).2 = 2 := by rw [fwd_code]; decide +kernel
theorem kn5 : (fwdB 4 0 (firstL 16 (-256) 0)).2 = 2 := by rw [fwd_code]; decide +kernel
theorem kn6 : (invB 4 0 (firstL 16 1048577 0)).2 = 2 := by rw [inv_code]; decide +kernel
theorem kn7 : (invB 4 9 (firstL 16 (-1048576) 0)).2 = 0 := by rw [inv_code]; decide +kernel
theorem kn8 : (invB 64 0 (List.replicate 4096 0)).2 = 2 := by
  rw [inv_code]; unfold askS
  rw [List.length_replicate]
  decide +kernel
theorem kn9 : (invB 4 10 []).2 = 80 := by rw [inv_code]; decide +kernel
theorem kn10 : (invB 5 99 []).2 = 2 := by rw [inv_code]; decide +kernel
theorem nil_row {M : Mem} : Row M none (Ints []) := fun i h => by cases h
theorem c8_end {C : Option Addr} {cc : Nat} {x33 x34 : Int} {M : Mem} (hf : M.floor ≤ M.nb.size) (hx : ¬ x34 < x33) : A8_1 C cc cc x33 x34 M Tr8 := by
  refine w8_1 ⟨fun h => absurd h hx, fun _ => Cn.mono (c21 (n := 16) (v := 160) (w := 0) hf (by decide) (by decide)) ?_⟩
  rintro _ N1 ⟨A1, d1, rfl, K1, O1⟩
  refine ⟨_, rfl, Cn.mono (c12 (sz := 4) (typ := 0) (x := firstL 16 160 0) (fb hf K1) O1.row rfl (by decide)) ?_⟩
  rw [kn1]
  rintro _ N2 ⟨A2, d2, rfl, K2, O2, _⟩
  have K02 := K1.trans K2
  refine ⟨_, rfl, _, rfl, _, rfl, Cn.mono (c21 (n := 16) (v := 1) (w := 0) (fb hf K02) (by decide) (by decide)) ?_⟩
  rintro _ N3 ⟨A3, d3, rfl, K3, O3⟩
  have K03 := K02.trans K3
  refine ⟨_, rfl, Cn.mono (c16 (sz := 4) (typ := 9) (x := firstL 16 1 0) (fb hf K03) O3.row rfl (by decide)) ?_⟩
  rw [kn2]
  rintro _ N4 ⟨A4, d4, rfl, K4, O4, _⟩
  have K04 := K03.trans K4
  obtain ⟨Z5, N5, g1, g2, g3⟩ := madeH (M1 := N4) (k := 15) (by decide)
  have K05 := K04.trans g2
  refine ⟨_, rfl, _, rfl, _, rfl, _, g1, _, rfl, Cn.mono (c12e kn3 (fb hf K05) g3.row (List.length_replicate).symm (by dsimp only; omega)) ?_⟩
  rintro _ N6 ⟨_, _, _, rfl, K6⟩
  have K06 := K05.trans K6
  refine ⟨_, rfl, _, rfl, _, rfl, Cn.mono (c21 (n := 16) (v := 256) (w := 0) (fb hf K06) (by decide) (by decide)) ?_⟩
  rintro _ N7 ⟨A7, d7, rfl, K7, O7⟩
  have K07 := K06.trans K7
  refine ⟨_, rfl, Cn.mono (c16e kn4 (fb hf K07) O7.row rfl (by dsimp only; rw [firstL_len]; decide)) ?_⟩
  rintro _ N8 ⟨_, _, _, rfl, K8⟩
  have K08 := K07.trans K8
  refine ⟨_, rfl, _, rfl, _, rfl, Cn.mono (c21 (n := 16) (v := -256) (w := 0) (fb hf K08) (by decide) (by decide)) ?_⟩
  rintro _ N9 ⟨A9, d9, rfl, K9, O9⟩
  have K09 := K08.trans K9
  refine ⟨_, rfl, Cn.mono (c16e kn5 (fb hf K09) O9.row rfl (by dsimp only; rw [firstL_len]; decide)) ?_⟩
  rintro _ Na ⟨_, _, _, rfl, Ka⟩
  have K0a := K09.trans Ka
  refine ⟨_, rfl, _, rfl, _, rfl, Cn.mono (c21 (n := 16) (v := 1048577) (w := 0) (fb hf K0a) (by decide) (by decide)) ?_⟩
  rintro _ Nb ⟨Ab, db, rfl, Kb, Ob⟩
  have K0b := K0a.trans Kb
  refine ⟨_, rfl, Cn.mono (c12e kn6 (fb hf K0b) Ob.row rfl (by dsimp only; rw [firstL_len]; decide)) ?_⟩
  rintro _ Nc ⟨_, _, _, rfl, Kc⟩
  have K0c := K0b.trans Kc
  refine ⟨_, rfl, _, rfl, _, rfl, Cn.mono (c21 (n := 16) (v := -1048576) (w := 0) (fb hf K0c) (by decide) (by decide)) ?_⟩
  rintro _ Nd ⟨Ad, dd, rfl, Kd, Od⟩
  have K0d := K0c.trans Kd
  refine ⟨_, rfl, Cn.mono (c12e kn7 (fb hf K0d) Od.row rfl (by dsimp only; rw [firstL_len]; decide)) ?_⟩
  rintro _ Ne ⟨_, _, _, rfl, Ke⟩
  have K0e := K0d.trans Ke
  obtain ⟨Zf, Nf, f1, f2, f3⟩ := madeH (M1 := Ne) (k := 4096) (by decide)
  have K0f := K0e.trans f2
  refine ⟨_, rfl, _, rfl, _, rfl, _, f1, _, rfl, Cn.mono (c12e kn8 (fb hf K0f) f3.row (List.length_replicate).symm (by dsimp only; omega)) ?_⟩
  rintro _ Ng ⟨_, _, _, rfl, Kg⟩
  have K0g := K0f.trans Kg
  refine ⟨_, rfl, _, rfl, _, rfl, Cn.mono (c12e kn9 (fb hf K0g) nil_row rfl (by decide)) ?_⟩
  rintro _ Nh ⟨_, _, _, rfl, Kh⟩
  have K0h := K0g.trans Kh
  refine ⟨_, rfl, _, rfl, _, rfl, Cn.mono (c12e kn10 (fb hf K0h) nil_row rfl (by decide)) ?_⟩
  rintro _ Ni ⟨_, _, _, rfl, Ki⟩
  have K0i := K0h.trans Ki
  refine ⟨_, rfl, _, rfl, _, rfl, Cn.mono (c15 (fb hf K0i)) ?_⟩
  rintro _ Nj ⟨rfl, Kj⟩
  have K0j := K0i.trans Kj
  have K5j : Keep N4 Nj := ((((g2.trans K6).trans (K7.trans K8)).trans ((K9.trans Ka).trans (Kb.trans Kc))).trans ((Kd.trans Ke).trans (f2.trans Kg))).trans ((Kh.trans Ki).trans Kj)
  have R2 := ((O2.row.keep K3).keep K4).keep K5j
  have R4 := O4.row.keep K5j
  refine ⟨_, rfl, fun _ => w8_3 ⟨fun _ => w8_5 ⟨fun _ => ?_, fun h => (by cases h)⟩, fun h => (by cases h)⟩, fun h => (by cases h)⟩
  refine Cn.mono (c21 (n := 16) (v := 5) (w := 5) (fb hf K0j) (by decide) (by decide)) ?_
  rintro _ P1 ⟨B1, e1, rfl, E1, F1⟩
  refine ⟨_, rfl, Cn.eq (c19 (l := firstL 16 5 5) (l' := firstL 16 5 5) (R2.keep E1) F1.row rfl rfl (by dsimp only; rw [firstL_len]; decide)) ⟨_, rfl, w8_7 ⟨fun _ => ?_, fun h => (by simp at h)⟩⟩⟩
  have K1' := K0j.trans E1
  refine Cn.mono (c21 (n := 16) (v := 1) (w := 0) (fb hf K1') (by decide) (by decide)) ?_
  rintro _ P2 ⟨B2, e2, rfl, E2, F2⟩
  refine ⟨_, rfl, Cn.eq (c19 (l := firstL 16 1 0) (l' := firstL 16 1 0) ((R4.keep E1).keep E2) F2.row rfl rfl (by dsimp only; rw [firstL_len]; decide)) ⟨_, rfl, ?_⟩⟩
  exact w8_9 ⟨fun _ => w8_11 ⟨fun _ => w8_13 ⟨fun _ => w8_15 ⟨fun _ => w8_16 ⟨fun _ => w8_17 ⟨fun _ => w8_18 ⟨fun _ => w8_19 ⟨fun _ => rfl, fun h => (by cases h)⟩, fun h => (by cases h)⟩, fun h => (by cases h)⟩, fun h => (by cases h)⟩, fun h => (by cases h)⟩, fun h => (by cases h)⟩, fun h => (by cases h)⟩, fun h => (by simp at h)⟩
theorem c8_1 {C : Option Addr} {M0 : Mem} (hf : M0.floor ≤ M0.nb.size) (hC : Row M0 C (Ints sz9)) : ∀ (m i : Nat) {M : Mem}, i + m = 9 → Keep M0 M → A8_1 C 9 9 9 (i : Nat) M Tr8 := by
  intro m
  induction m with
  | zero => intro i M hi K; exact c8_end (fb hf K) (by omega)
  | succ m ih =>
    intro i M hi K
    have hl : sz9.length = 9 := rfl
    obtain ⟨a, i1, i2⟩ := (hC.keep K).int1 (n := 9) (i := i) (z := (i : Nat)) (k := .i64) (x := gx sz9 i) rfl (by omega) (gx_at (by omega))
    have hm : gx sz9 i ∈ sz9 := by
      unfold gx; rw [List.getD_eq_getElem?_getD, List.getElem?_eq_getElem (by omega)]; exact List.getElem_mem _
    refine w8_1 ⟨fun _ => ⟨_, i1, _, i2, ?_⟩, fun h => by omega⟩
    refine c8_2 hm (fb hf K) (fun N K2 => ?_) 13 (-1) (by decide) (by decide) (.refl _)
    rw [i64w (by omega), show ((i : Int) + 1) = ((i + 1 : Nat) : Int) by omega]
    exact ih (i + 1) (by omega) (K.trans K2)
theorem law8 {W : World} : Cn Try.prog 8 #[] (mem0 W) fun v _ => v = .bool true := by
  refine w8_0 ?_
  obtain ⟨P, e1, E1, F1⟩ := fr (mem0 W) sz9 (cs := #[.int .i64 4, .int .i64 8, .int .i64 16, .int .i64 32, .int .i64 64, .int .i64 5, .int .i64 0, .int .i64 (-4), .int .i64 128]) rfl
  rw [e1]
  exact c8_1 (fb (Nat.zero_le _) E1) F1 9 0 (by decide) (.refl _)
end Go.Zt

