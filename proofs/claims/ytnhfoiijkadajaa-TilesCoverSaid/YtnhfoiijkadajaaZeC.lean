/- Layer 21: tiles and squares of the program and of the document. -/
import Derived.Test.YtnhfoiijkadajaaZeB
import Derived.Test.YtnhfoiijkadajaaZsT
set_option linter.unusedSimpArgs false
set_option linter.unusedVariables false
namespace Go.Zt
open Go Go.Sim Go.Proofs Go.RowKit

def sqN (n : Nat) : Nat := (n + 63) / 64
def codN (n : Nat) : Nat := (n + 7) / 8 * 8
def edgeN (n c i : Nat) : Nat := min (i * sqN n / 2 ^ c * 64) (codN n)
def sideB (n c : Int) : Bool := decide (16 ≤ n ∧ n ≤ 256 ∧ n % 2 = 0 ∧ 0 ≤ c ∧ c ≤ 2 ∧ 2 ^ c.toNat ≤ sqN n.toNat)
abbrev Ints (l : List Int) : List Value := l.map fun x => .int .i64 x
theorem el22 : ElemS Try.prog 22 3 1 8 (.int .i64 0) := ⟨by kernel_rfl, by kernel_rfl, rfl, by decide, by decide⟩
theorem el36 : ElemS Try.prog 36 35 4 32 (.agg #[.int .i64 0, .int .i64 0, .int .i64 0, .int .i64 0]) := ⟨by kernel_rfl, by kernel_rfl, rfl, by decide, by decide⟩
theorem nb {b : Bool} (h : (!b) = true) : b = false := by cases b <;> simp_all
theorem nb' {b : Bool} (h : (!b) = false) : b = true := by cases b <;> simp_all
theorem pow2c {c : Nat} (h : c ≤ 2) : 1 ≤ 2 ^ c ∧ 2 ^ c ≤ 4 := by
  have h1 : c = 0 ∨ c = 1 ∨ c = 2 := by omega
  rcases h1 with rfl | rfl | rfl <;> decide
theorem sqN_b {n : Nat} (h : n ≤ 256) : sqN n ≤ 4 := by unfold sqN; omega

theorem c35 {x a b : Int} {M : Mem} : Cn Try.prog 35 #[.int .i64 x, .int .i64 a, .int .i64 b] M fun v N => v = .bool (decide (a ≤ x ∧ x ≤ b)) ∧ N = M :=
  w35_0 ⟨fun h => ⟨by congr 1; exact decide_eq_decide.2 ⟨fun h2 => ⟨h, h2⟩, fun h2 => h2.2⟩, rfl⟩, fun h => ⟨by congr 1; exact (decide_eq_false fun h2 => h h2.1).symm, rfl⟩⟩
theorem c50 {n : Nat} (hn : n ≤ 256) {M : Mem} : Cn Try.prog 50 #[.int .i64 (n : Nat)] M fun v N => v = .int .i64 (sqN n : Nat) ∧ N = M := by
  refine w50_0 ⟨?_, rfl⟩
  rw [i64w (x := (n : Int) + 64) (by omega), i64w (x := (n : Int) + 64 - 1) (by omega), show (n : Int) + 64 - 1 = ((n + 63 : Nat) : Int) by omega, show ((64 : Int)) = ((64 : Nat) : Int) from rfl, tdivN, i64w (by omega)]; rfl
section
variable {M0 : Mem}
abbrev EdL (n c k : Nat) : List Value := Ints ((List.range k).map fun i => (edgeN n c i : Int))
theorem EdL_succ (n c i : Nat) : EdL n c (i + 1) = EdL n c i ++ [.int .i64 (edgeN n c i : Nat)] := by
  unfold EdL Ints; rw [range_map_succ, List.map_append]; rfl
theorem c31_loop (hf : M0.floor ≤ M0.nb.size) {n c : Nat} (hn : 16 ≤ n ∧ n ≤ 256) (hc : c ≤ 2) {Q : Value → Mem → Prop}
    (hQ : ∀ A cap N, Keep M0 N → Own (fun j => M0.nb.size ≤ j) N 3 A cap (EdL n c (2 ^ c + 1)) → Q (.tuple #[.slice A (2 ^ c + 1) cap, .bool true]) N) :
    ∀ (k i : Nat) (A : Option Addr) (cap : Nat) {M : Mem}, i + k = 2 ^ c + 1 → Keep M0 M → Own (fun j => M0.nb.size ≤ j) M 3 A cap (EdL n c i) → A31_4 (n : Nat) (c : Nat) (codN n : Nat) A i cap ((2 ^ c + 1 : Nat) : Int) (i : Nat) M Q
  | 0, i, A, cap, M, hi, K, hO => by
    obtain rfl : i = 2 ^ c + 1 := by omega
    exact w31_4 ⟨fun h => by omega, fun _ => hQ _ _ _ K hO⟩
  | k + 1, i, A, cap, M, hi, K, hO => by
    have hp := pow2c hc
    have hs := sqN_b hn.2
    have hm : i * sqN n ≤ 16 := Nat.le_trans (Nat.mul_le_mul (show i ≤ 4 by omega) hs) (by decide)
    have hd : i * sqN n / 2 ^ c ≤ 16 := Nat.le_trans (Nat.div_le_self ..) hm
    refine w31_4 ⟨fun _ => Cn.eq (c50 hn.2) ⟨_, rfl, ?_⟩, fun h => by omega⟩
    have ew : IntKind.i64.wrap ((i : Int) * ((sqN n : Nat) : Int)) = ((i * sqN n : Nat) : Int) := by
      rw [← Int.natCast_mul, i64w (by omega)]
    rw [ew]
    have ed : (((i * sqN n : Nat) : Int)).fdiv (2 ^ c) = ((i * sqN n / 2 ^ c : Nat) : Int) := by
      rw [show ((2 : Int) ^ c) = ((2 ^ c : Nat) : Int) by simp, fdivN]
    refine ⟨_, shr_i64 rfl (by omega), _, rfl, ?_⟩
    rw [ed]
    have ee : edgeN n c i = min (i * sqN n / 2 ^ c * 64) (codN n) := rfl
    clear ed ew
    generalize i * sqN n / 2 ^ c = d at hd ee ⊢
    rw [i64w (x := ((d : Nat) : Int) * 64) (by omega)]
    have em : (if ((codN n : Nat) : Int) < ((d : Nat) : Int) * 64 then ((codN n : Nat) : Int) else ((d : Nat) : Int) * 64) = ((edgeN n c i : Nat) : Int) := by
      rw [ee]; split <;> omega
    rw [em]
    obtain ⟨A', c', N, g1, g2, g3, g4⟩ := app1 el22 hf K hO (n := i) (by simp) (v := .int .i64 (edgeN n c i : Nat)) rfl (by omega)
    refine ⟨_, g1, _, rfl, ?_⟩
    rw [i64w (by omega), show ((i : Int) + 1) = ((i + 1 : Nat) : Int) by omega]
    refine c31_loop hf hn hc hQ k (i + 1) A' c' (M := N) (by omega) g2 ?_
    rw [EdL_succ]
    exact g3
def SdR (M0 : Mem) (n c : Int) : Value → Mem → Prop := fun v N =>
    (sideB n c = false ∧ v = .tuple #[.slice none 0 0, .bool false] ∧ N = M0) ∨
    (∃ n' c' : Nat, n = n' ∧ c = c' ∧ 16 ≤ n' ∧ n' ≤ 256 ∧ c' ≤ 2 ∧ 2 ^ c' ≤ sqN n' ∧ sideB n c = true ∧ ∃ A cap, v = .tuple #[.slice A (2 ^ c' + 1) cap, .bool true] ∧ Keep M0 N ∧ Own (fun j => M0.nb.size ≤ j) N 3 A cap (EdL n' c' (2 ^ c' + 1)))
theorem c31 (hf : M0.floor ≤ M0.nb.size) {n c : Int} : Cn Try.prog 31 #[.int .i64 n, .int .i64 c] M0 (SdR M0 n c) := by
  have t3 : sideB n c = false → A31_3 n c true M0 (SdR M0 n c) := fun h => w31_3 ⟨fun _ => .inl ⟨h, rfl, rfl⟩, fun h => (by cases h)⟩
  have t2 : sideB n c = false → A31_2 n c true M0 (SdR M0 n c) := fun h => w31_2 ⟨fun _ => t3 h, fun h => (by cases h)⟩
  have t1 : sideB n c = false → A31_1 n c true M0 (SdR M0 n c) := fun h => w31_1 ⟨fun _ => t2 h, fun h => (by cases h)⟩
  have no : ∀ {p : Prop}, (16 ≤ n ∧ n ≤ 256 ∧ n % 2 = 0 ∧ 0 ≤ c ∧ c ≤ 2 ∧ 2 ^ c.toNat ≤ sqN n.toNat → False) → sideB n c = false := fun h => decide_eq_false h
  refine w31_0 (Cn.eq c35 ⟨_, rfl, fun h => t1 ?_, fun h => ?_⟩)
  · have h : ¬ (16 ≤ n ∧ n ≤ 256) := of_decide_eq_false (nb h)
    exact no (p := True) fun hh => h ⟨hh.1, hh.2.1⟩
  have h1 : 16 ≤ n ∧ n ≤ 256 := by simpa using h
  refine w31_1 ⟨fun h => t2 ?_, fun h => Cn.eq c35 ⟨_, rfl, ?_⟩⟩
  · have h : n.tmod 2 ≠ 0 := by simpa using h
    rw [Int.tmod_eq_emod_of_nonneg (by omega)] at h
    exact no (p := True) fun hh => h hh.2.2.1
  have h2 : n.tmod 2 = 0 := by simpa using h
  rw [Int.tmod_eq_emod_of_nonneg (by omega)] at h2
  refine w31_2 ⟨fun h => t3 ?_, fun h => ?_⟩
  · have h : ¬ (0 ≤ c ∧ c ≤ 2) := of_decide_eq_false (nb h)
    exact no (p := True) fun hh => h ⟨hh.2.2.2.1, hh.2.2.2.2.1⟩
  have h3 : 0 ≤ c ∧ c ≤ 2 := by simpa using h
  obtain ⟨n, rfl⟩ : ∃ n' : Nat, n = n' := ⟨n.toNat, by omega⟩
  obtain ⟨c, rfl⟩ : ∃ n' : Nat, c = n' := ⟨c.toNat, by omega⟩
  have hp := pow2c (c := c) (by omega)
  have e2 : (1 : Int) * 2 ^ c = ((2 ^ c : Nat) : Int) := by simp
  refine ⟨_, shl_i64 rfl (by rw [e2]; omega) (by omega), _, rfl, Cn.eq (c50 (by omega)) ⟨_, rfl, ?_⟩⟩
  rw [e2]
  refine w31_3 ⟨fun h => .inl ⟨?_, rfl, rfl⟩, fun h => ?_⟩
  · have h := of_decide_eq_true h
    exact no (p := True) fun hh => by have := hh.2.2.2.2.2; simp only [Int.toNat_natCast] at this; omega
  have h := of_decide_eq_false h
  refine ⟨_, shl_i64 rfl (by rw [e2]; omega) (by omega), _, rfl, ?_⟩
  have ec : IntKind.i64.wrap (IntKind.i64.wrap ((IntKind.i64.wrap (IntKind.i64.wrap ((n : Int) + 8) - 1)).tdiv 8) * 8) = ((codN n : Nat) : Int) := by
    rw [i64w (x := ((n : Nat) : Int) + 8) (by omega), i64w (x := ((n : Nat) : Int) + 8 - 1) (by omega), show ((n : Nat) : Int) + 8 - 1 = ((n + 7 : Nat) : Int) by omega, show ((8 : Int)) = ((8 : Nat) : Int) from rfl, tdivN,
      i64w (x := (((n + 7) / 8 : Nat) : Int)) (by omega), i64w (x := (((n + 7) / 8 : Nat) : Int) * ((8 : Nat) : Int)) (by omega)]
    unfold codN; rfl
  rw [ec, e2, i64w (x := (((2 ^ c : Nat) : Int)) + 1) (by omega)]
  have hs : 2 ^ c ≤ sqN n := by omega
  exact c31_loop hf (by omega) (by omega) (fun A cap N K hO => .inr ⟨n, c, rfl, rfl, by omega, by omega, by omega, hs, decide_eq_true ⟨by omega, by omega, by omega, by omega, by omega, by simpa using hs⟩, A, cap, rfl, K, hO⟩) (2 ^ c + 1) 0 none 0 (M := M0) (Nat.zero_add _) (.refl _) Own.empty
/-! ### Rectangles -/
abbrev Rc := Int × Int × Int × Int
abbrev Rc.cells (r : Rc) : List Value := [.int .i64 r.1, .int .i64 r.2.1, .int .i64 r.2.2.1, .int .i64 r.2.2.2]
abbrev Rcs (l : List Rc) : List Value := l.flatMap Rc.cells
theorem Rcs_len (l : List Rc) : (Rcs l).length = l.length * 4 := flat_len (f := Rc.cells) (s := 4) (fun _ => rfl) l
theorem Rcs_snoc (l : List Rc) (r : Rc) : Rcs (l ++ [r]) = Rcs l ++ Rc.cells r := by simp [Rcs, List.flatMap_append]
theorem appR (hf : M0.floor ≤ M0.nb.size) {M : Mem} (K : Keep M0 M) {A : Option Addr} {n c : Nat} {l : List Rc} (hO : Own (fun j => M0.nb.size ≤ j) M 35 A (c * 4) (Rcs l)) (hn : n = l.length) (hb : n ≤ 1099511627776) (r : Rc) :
    ∃ A' c' N, appendP Try.prog #[36, 36] (.slice A n c) (.slice (some ⟨2 * M.nb.size, 0, none⟩) 1 1) (M.new (.cells #[.int .i64 r.1, .int .i64 r.2.1, .int .i64 r.2.2.1, .int .i64 r.2.2.2] 35)) = some (.slice A' (n + 1) c', N) ∧ Keep M0 N ∧ Own (fun j => M0.nb.size ≤ j) N 35 A' (c' * 4) (Rcs (l ++ [r])) ∧ n + 1 ≤ c' := by
  obtain ⟨A', c', N, g1, g2, g3, g4⟩ := appE el36 hf K hO (n := n) (by rw [Rcs_len, hn]) (vs := Rc.cells r) rfl rfl (by omega)
  exact ⟨A', c', N, g1, g2, by rw [Rcs_snoc]; exact g3, g4⟩
/-- A row's rectangles; all. -/
def layI (w h c j : Nat) (r : Nat) (i : Nat) : Rc := (edgeN w c i, edgeN h r j, (edgeN w c (i + 1) : Int) - edgeN w c i, (edgeN h r (j + 1) : Int) - edgeN h r j)
def layR (w h c r k j : Nat) : List Rc := (List.range k).map (layI w h c j r)
def layS (w h c r k : Nat) : List Rc := (List.range k).flatMap (layR w h c r (2 ^ c))
theorem layS_len (w h c r k : Nat) : (layS w h c r k).length = k * 2 ^ c := by
  unfold layS
  induction k with
  | zero => simp
  | succ k ih => rw [range_flat_succ, List.length_append, ih, layR, List.length_map, List.length_range, Nat.add_mul, Nat.one_mul]
theorem edge_le {n c i : Nat} (hn : n ≤ 256) : edgeN n c i ≤ 256 := by
  have : codN n ≤ 256 := by unfold codN; omega
  unfold edgeN; omega
theorem EdL_at {n c k i : Nat} (h : i < k) : (EdL n c k)[i]? = some (.int .i64 (edgeN n c i : Nat)) := by simp [EdL, Ints, h]
theorem c16_in (hf : M0.floor ≤ M0.nb.size) {w h c r : Nat} (hw : w ≤ 256) (hh : h ≤ 256) (hc : c ≤ 2) (hr : r ≤ 2) {A B : Option Addr} {ca cb : Nat} {j : Nat} (hj : j < 2 ^ r) {l : List Rc} (hl : l.length ≤ 16) {Q : Value → Mem → Prop}
    (hA : ∀ {N}, Keep M0 N → Row N A (EdL w c (2 ^ c + 1))) (hB : ∀ {N}, Keep M0 N → Row N B (EdL h r (2 ^ r + 1)))
    (hE : ∀ A' c' N, Keep M0 N → Own (fun j => M0.nb.size ≤ j) N 35 A' (c' * 4) (Rcs (l ++ layR w h c r (2 ^ c) j)) → A16_2 A (2 ^ c + 1) ca B (2 ^ r + 1) cb A' (l ++ layR w h c r (2 ^ c) j).length c' (2 ^ r : Nat) ((j + 1 : Nat) : Int) N Q) :
    ∀ (k i : Nat) (A' : Option Addr) (c' : Nat) {M : Mem}, i + k = 2 ^ c → Keep M0 M → Own (fun j => M0.nb.size ≤ j) M 35 A' (c' * 4) (Rcs (l ++ layR w h c r i j)) →
      A16_3 A (2 ^ c + 1) ca B (2 ^ r + 1) cb A' (l ++ layR w h c r i j).length c' (j : Nat) (2 ^ r : Nat) (j : Nat) ((2 ^ c : Nat) : Int) (i : Nat) M Q
  | 0, i, A', c', M, hi, K, hO => by
    obtain rfl : i = 2 ^ c := by omega
    have hp := pow2c hr
    refine w16_3 ⟨fun h => by omega, fun _ => ?_⟩
    rw [i64w (by omega), show ((j : Int) + 1) = ((j + 1 : Nat) : Int) by omega]
    exact hE A' c' M K hO
  | k + 1, i, A', c', M, hi, K, hO => by
    have hp := pow2c hc
    have hq := pow2c hr
    have hll : (layR w h c r i j).length = i := by simp [layR]
    obtain ⟨a1, i1, j1⟩ := (hA K).int1 (n := 2 ^ c + 1) (i := i) (z := (i : Nat)) (k := .i64) (x := (edgeN w c i : Nat)) rfl (by omega) (EdL_at (by omega))
    obtain ⟨a2, i2, j2⟩ := (hB K).int1 (n := 2 ^ r + 1) (i := j) (z := (j : Nat)) (k := .i64) (x := (edgeN h r j : Nat)) rfl (by omega) (EdL_at (by omega))
    have ei : IntKind.i64.wrap ((i : Int) + 1) = ((i + 1 : Nat) : Int) := by rw [i64w (by omega)]; omega
    have ej : IntKind.i64.wrap ((j : Int) + 1) = ((j + 1 : Nat) : Int) := by rw [i64w (by omega)]; omega
    obtain ⟨a3, i3, j3⟩ := (hA K).int1 (n := 2 ^ c + 1) (i := i + 1) (z := IntKind.i64.wrap ((i : Int) + 1)) (k := .i64) (x := (edgeN w c (i + 1) : Nat)) ei (by omega) (EdL_at (by omega))
    obtain ⟨a4, i4, j4⟩ := (hB K).int1 (n := 2 ^ r + 1) (i := j + 1) (z := IntKind.i64.wrap ((j : Int) + 1)) (k := .i64) (x := (edgeN h r (j + 1) : Nat)) ej (by omega) (EdL_at (by omega))
    have b1 := edge_le (c := c) (i := i) hw
    have b2 := edge_le (c := c) (i := i + 1) hw
    have b3 := edge_le (c := r) (i := j) hh
    have b4 := edge_le (c := r) (i := j + 1) hh
    obtain ⟨A2, c2, N, g1, g2, g3, g4⟩ := appR hf K hO rfl (by rw [List.length_append, hll]; omega) (layI w h c j r i)
    refine w16_3 ⟨fun _ => ⟨_, i1, _, j1, _, i2, _, j2, _, i3, _, j3, _, i1, _, j1, _, i4, _, j4, _, i2, _, j2, ?_⟩, fun h => by omega⟩
    rw [i64w (x := ((edgeN w c (i + 1) : Nat) : Int) - ((edgeN w c i : Nat) : Int)) (by omega), i64w (x := ((edgeN h r (j + 1) : Nat) : Int) - ((edgeN h r j : Nat) : Int)) (by omega)]
    refine ⟨_, g1, _, rfl, ?_⟩
    rw [ei]
    have es : layR w h c r (i + 1) j = layR w h c r i j ++ [layI w h c j r i] := range_map_succ _ _
    have := c16_in hf hw hh hc hr hj hl hA hB hE k (i + 1) A2 c2 (M := N) (by omega) g2 (by rw [es, ← List.append_assoc]; exact g3)
    rw [es, ← List.append_assoc, List.length_append] at this
    exact this
theorem c16_out (hf : M0.floor ≤ M0.nb.size) {w h c r : Nat} (hw : w ≤ 256) (hh : h ≤ 256) (hc : c ≤ 2) (hr : r ≤ 2) {A B : Option Addr} {ca cb : Nat} {Q : Value → Mem → Prop}
    (hA : ∀ {N}, Keep M0 N → Row N A (EdL w c (2 ^ c + 1))) (hB : ∀ {N}, Keep M0 N → Row N B (EdL h r (2 ^ r + 1)))
    (hQ : ∀ A' c' N, Keep M0 N → Own (fun j => M0.nb.size ≤ j) N 35 A' (c' * 4) (Rcs (layS w h c r (2 ^ r))) → Q (.tuple #[.slice A' (layS w h c r (2 ^ r)).length c', .int .i64 0]) N) :
    ∀ (k j : Nat) (A' : Option Addr) (c' : Nat) {M : Mem}, j + k = 2 ^ r → Keep M0 M → Own (fun j => M0.nb.size ≤ j) M 35 A' (c' * 4) (Rcs (layS w h c r j)) →
      A16_2 A (2 ^ c + 1) ca B (2 ^ r + 1) cb A' (layS w h c r j).length c' (2 ^ r : Nat) (j : Nat) M Q
  | 0, j, A', c', M, hj, K, hO => by
    obtain rfl : j = 2 ^ r := by omega
    exact w16_2 ⟨fun h => by omega, fun _ => hQ _ _ _ K hO⟩
  | k + 1, j, A', c', M, hj, K, hO => by
    have hp := pow2c hc
    have hq := pow2c hr
    have hl : (layS w h c r j).length ≤ 16 := by
      rw [layS_len]; exact Nat.le_trans (Nat.mul_le_mul (show j ≤ 4 by omega) hp.2) (by decide)
    refine w16_2 ⟨fun _ => ?_, fun h => by omega⟩
    have ec : IntKind.i64.wrap (((2 ^ c + 1 : Nat) : Int) - 1) = ((2 ^ c : Nat) : Int) := by rw [i64w (by omega)]; omega
    rw [ec]
    have e0 : layS w h c r j ++ layR w h c r 0 j = layS w h c r j := by simp [layR]
    have es : layS w h c r (j + 1) = layS w h c r j ++ layR w h c r (2 ^ c) j := range_flat_succ _ _
    have := c16_in hf hw hh hc hr (ca := ca) (cb := cb) (A := A) (B := B) (j := j) (by omega) hl hA hB (Q := Q) (fun A2 c2 N K2 O2 => by
      rw [← es] at O2 ⊢
      exact c16_out hf hw hh hc hr hA hB hQ k (j + 1) A2 c2 (by omega) K2 O2) (2 ^ c) 0 A' c' (M := M) (Nat.zero_add _) K (by rw [e0]; exact hO)
    rw [e0] at this
    exact this
/-- What a call of Layout comes to. -/
def LyR (M0 : Mem) (w h c r : Int) : Value → Mem → Prop := fun v N =>
  ((sideB w c && sideB h r) = false ∧ v = .tuple #[.slice none 0 0, .int .i64 2] ∧ Keep M0 N) ∨
  (∃ w' h' c' r' : Nat, w = w' ∧ h = h' ∧ c = c' ∧ r = r' ∧ 16 ≤ w' ∧ w' ≤ 256 ∧ 16 ≤ h' ∧ h' ≤ 256 ∧ c' ≤ 2 ∧ r' ≤ 2 ∧ 2 ^ c' ≤ sqN w' ∧ 2 ^ r' ≤ sqN h' ∧ (sideB w c && sideB h r) = true ∧
    ∃ A cap, v = .tuple #[.slice A (layS w' h' c' r' (2 ^ r')).length cap, .int .i64 0] ∧ Keep M0 N ∧ Own (fun j => M0.nb.size ≤ j) N 35 A (cap * 4) (Rcs (layS w' h' c' r' (2 ^ r'))) ∧ (layS w' h' c' r' (2 ^ r')).length ≤ cap)
end
end Go.Zt

