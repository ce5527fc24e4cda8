/- Layer 8: TxfmNear. -/
import Derived.Test.YtpfhalehdgcbeaaZgn
import Derived.Test.YtpfhalehdgcbeaaZgDi
set_option linter.unusedSimpArgs false
set_option linter.unusedVariables false
namespace Go.Zt
open Go Go.Sim Go.Proofs Go.RowKit

theorem lineF {k n r c : Nat} {b : Bool} {G : Nat → Nat → Int} (hk : k < 3) (hr : r < n) : gx (fwdS k (lineL b n G c)) r = fwdF k n (lnG b G c) r := by
  unfold fwdS
  rw [if_neg (by omega), lineL_len, gx_map hr]
  unfold fwdK fwdF
  rw [lineL_len]
  exact congrArg rnd (dot_congr fun i hi => by rw [gx_line' hi])
theorem lineI {k n r c : Nat} {b : Bool} {G : Nat → Nat → Int} (hk : k < 3) (hr : r < n) : gx (invS k (lineL b n G c)) r = invF k n (lnG b G c) r := by
  unfold invS
  rw [if_neg (by omega), lineL_len, gx_map hr]
  unfold invK invF
  rw [lineL_len]
  exact congrArg rnd (dot_congr fun i hi => by rw [gx_line' hi])
theorem invF_congr {k n i : Nat} {f g : Nat → Int} (h : ∀ q, q < n → f q = g q) : invF k n f i = invF k n g i := by
  unfold invF; exact congrArg rnd (dot_congr fun q hq => by rw [h q hq])
theorem sc_e {n : Nat} (hn : n = 4 ∨ n = 8 ∨ n = 16) {typ v : Int} (h9 : typ ≠ 9) : scS n typ v = clipS (sN n * v) := by
  unfold scS
  rw [if_neg h9]
  rcases hn with rfl | rfl | rfl
  · rfl
  · rfl
  · show clipS v = clipS (((1 : Nat) : Int) * v); congr 1; omega
theorem near8 {n : Nat} (hn : n = 4 ∨ n = 8 ∨ n = 16) {typ : Int} (ht : typ ∈ typesS n) (h9 : typ ≠ 9) {x : List Int} (hl : x.length = n * n) (hx : inB 255 x = true) :
    ∃ a b, fwdB n typ x = (a, 0) ∧ a.length = n * n ∧ invB n typ a = (b, 0) ∧ b.length = n * n ∧ ∀ t, t < n * n → -((8 * n : Nat) : Int) ≤ gx b t - gx x t ∧ gx b t - gx x t ≤ ((8 * n : Nat) : Int) := by
  have hn5 : n = 4 ∨ n = 8 ∨ n = 16 ∨ n = 32 ∨ n = 64 := by omega
  have hNi : (n : Int) = 4 ∨ (n : Int) = 8 ∨ (n : Int) = 16 ∨ (n : Int) = 32 ∨ (n : Int) = 64 := by omega
  obtain ⟨hz, _⟩ := szt_of hNi ht
  rw [Int.toNat_natCast] at hz
  have tb := typ_b hn5 ht
  obtain ⟨hk1, hk2⟩ := kinds_lt hz h9 (by omega)
  have n64 : n ≤ 64 := by omega
  have m32 : min32 n = n := by unfold min32; rw [if_neg (by omega)]
  have tn : (n : Int).toNat = n := Int.toNat_natCast n
  have hb := fw_b hx
  generalize hq1 : (kindsS typ).1.toNat = k1 at *
  generalize hq2 : (kindsS typ).2.toNat = k2 at *
  have h1 : ∀ r c, r < n → c < n → fwH1 n typ x r c = fwdF k2 n (fun j => gx x (j * n + c)) r := by
    intro r c hr hc
    have e : fwH1 n typ x r c = if c < n ∨ (c = n ∧ r < 0) then rdS 0 typ (gx (fwY1 n typ x c) r) else fwG0 n x r c := rfl
    rw [e, if_pos (.inl hc), rdS_0]
    unfold fwY1
    rw [hq2, lineF hk2 hr]; rfl
  have h1b : ∀ r c, r < n → c < n → -(hN n : Int) ≤ fwH1 n typ x r c ∧ fwH1 n typ x r c ≤ hN n := by
    intro r c hr hc
    rw [h1 r c hr hc]
    have a1 := fwdF_b hn hk2 (x := fun j => gx x (j * n + c)) (B := 255) (fun j _ => hb _) hr
    have a2 := (okN_all hn hk2 hr).2.2.1
    generalize (255 * vA (fun j => wS k2 n r j) n + 2048) / 4096 + 1 = v at *
    omega
  have st := fun r (hr : r < n) => step1 hn hk1 (h := fun j => fwH1 n typ x r j) fun j hj => h1b r j hr hj
  have h2 : ∀ r c, r < n → c < n → fwH2 n n typ x r c = (sN n : Int) * fwdF k1 n (fun j => fwH1 n typ x r j) c := by
    intro r c hr hc
    have e : fwH2 n n typ x r c = if r < n ∨ (r = n ∧ c < 0) then scS n typ (gx (fwY2 n typ x r) c) else fwH1 n typ x r c := rfl
    rw [e, if_pos (.inl hr)]
    unfold fwY2
    rw [hq1, lineF hk1 hc, sc_e hn h9]
    have := (st r hr).1 c hc
    exact clipS_in (by
      show -32768 ≤ (sN n : Int) * fwdF k1 n (fun j => fwH1 n typ x r j) c ∧ (sN n : Int) * fwdF k1 n (fun j => fwH1 n typ x r j) c ≤ 32767
      omega)
  have h2b : ∀ r c, r < n → c < n → -32768 ≤ fwH2 n n typ x r c ∧ fwH2 n n typ x r c ≤ 32767 := by
    intro r c hr hc
    rw [h2 r c hr hc]
    have := (st r hr).1 c hc
    omega
  refine ⟨gridL n (fwH2 n n typ x), gridL n (invH2 n n typ (gridL n (fwH2 n n typ x))), ?_, gridL_len _ _, ?_, gridL_len _ _, ?_⟩
  · unfold fwdB; rw [ask_all hn5 ht n64 hl hx, if_pos rfl, m32, tn, subL_grid]
  · have hain : inB 1048576 (gridL n (fwH2 n n typ x)) = true := by
      unfold inB gridL
      rw [List.all_eq_true]
      intro v hv
      obtain ⟨t, ht, rfl⟩ := List.mem_map.1 hv
      have ht := List.mem_range.1 ht
      have := h2b (t / n) (t % n) (Nat.div_lt_of_lt_mul ht) (Nat.mod_lt _ (by omega))
      exact decide_eq_true (by omega)
    unfold invB; rw [m32, ask_all hn5 ht n64 (gridL_len _ _) hain, if_pos rfl, tn]
  generalize ha : gridL n (fwH2 n n typ x) = a
  intro t htn
  have hr : t / n < n := Nat.div_lt_of_lt_mul htn
  have hc : t % n < n := Nat.mod_lt _ (by omega)
  have hm : t / n * n + t % n = t := by have := Nat.div_add_mod t n; rw [Nat.mul_comm] at this; exact this
  generalize t / n = r at *
  generalize t % n = c at *
  subst hm
  rw [gx_grid hr hc]
  have g0 : ∀ r c, r < n → c < n → inG0 n a (n * n) r c = fwH2 n n typ x r c := by
    intro r c hr hc
    unfold inG0
    rw [if_pos ⟨hr, hc, ix_lt hr hc⟩, ← ha, gx_grid hr hc]
    exact clipS_in (h2b r c hr hc)
  have i1 : ∀ r i, r < n → i < n → -((64 : Nat) : Int) ≤ invH1 n n typ a r i - mN n * fwH1 n typ x r i ∧ invH1 n n typ a r i - mN n * fwH1 n typ x r i ≤ (64 : Nat) := by
    intro r i hr hi
    have e : invH1 n n typ a r i = if r < n ∨ (r = n ∧ i < 0) then fI n typ (gx (invY1 n n typ a r) i) else inG0 n a (n * n) r i := rfl
    rw [e, if_pos (.inl hr)]
    unfold invY1
    rw [hq1, lineI hk1 hi]
    rw [invF_congr (g := fun q => (sN n : Int) * fwdF k1 n (fun j => fwH1 n typ x r j) q) fun q hq => by
      show inG0 n a (n * n) r q = _
      rw [g0 r q hr hq, h2 r q hr hq]]
    have s2 := (st r hr).2 i hi
    have hb1 := h1b r i hr hi
    unfold fI rdS
    rw [if_neg h9, if_neg h9]
    generalize roundS (bitsN n) (invF k1 n (fun q => (sN n : Int) * fwdF k1 n (fun j => fwH1 n typ x r j) q) i) = v at *
    generalize fwH1 n typ x r i = h at *
    have hmh : -6100 ≤ (mN n : Int) * h ∧ (mN n : Int) * h ≤ 6100 := by
      rcases hn with rfl | rfl | rfl
      · have hb1 : -((760 : Nat) : Int) ≤ h ∧ h ≤ (760 : Nat) := hb1
        show -6100 ≤ ((8 : Nat) : Int) * h ∧ ((8 : Nat) : Int) * h ≤ 6100
        omega
      · have hb1 : -((1480 : Nat) : Int) ≤ h ∧ h ≤ (1480 : Nat) := hb1
        show -6100 ≤ ((4 : Nat) : Int) * h ∧ ((4 : Nat) : Int) * h ≤ 6100
        omega
      · have hb1 : -((2886 : Nat) : Int) ≤ h ∧ h ≤ (2886 : Nat) := hb1
        show -6100 ≤ ((2 : Nat) : Int) * h ∧ ((2 : Nat) : Int) * h ≤ 6100
        omega
    rw [clipS_in (by omega)]
    omega
  have e : invH2 n n typ a r c = if c < n ∨ (c = n ∧ r < 0) then rdS 4 typ (gx (invY2 n n typ a c) r) else invH1 n n typ a r c := rfl
  rw [e, if_pos (.inl hc)]
  unfold invY2
  rw [hq2, lineI hk2 hr]
  unfold rdS
  rw [if_neg h9]
  exact step2 hn hk2 (x := fun j => gx x (j * n + c)) (z := lnG false (invH1 n n typ a) c) (fun j _ => hb _) (fun j hj => by
    have := i1 j c hj hc
    rw [h1 j c hj hc] at this
    exact this) hr
/-! ### The walk -/
abbrev Tr7 : Value → Mem → Prop := fun v _ => v = .bool true
theorem typ9 {n : Nat} (hn : n = 4 ∨ n = 8 ∨ n = 16) {k : Nat} (hk : k < 9) : ((k : Nat) : Int) ∈ typesS n := by
  have key : ∀ n ∈ [4, 8, 16], ∀ k ∈ List.range 9, ((k : Nat) : Int) ∈ typesS ((n : Nat) : Int) := by decide +kernel
  exact key n (by simp; omega) k (List.mem_range.2 hk)
theorem c7_3 {n : Nat} (hn : n ≤ 16) {X B : Option Addr} {cx cb k : Nat} (hk : k < 9) {x b : List Int} (hl : x.length = n * n) (hbl : b.length = n * n) {M : Mem} (hX : Row M X (Ints x)) (hB : Row M B (Ints b)) (hx : inB 255 x = true)
    (hb : ∀ t, t < n * n → -((8 * n : Nat) : Int) ≤ gx b t - gx x t ∧ gx b t - gx x t ≤ ((8 * n : Nat) : Int))
    (hE : A7_1 (n : Nat) X x.length cx ((k + 1 : Nat) : Int) M Tr7) :
    ∀ (m i : Nat), i + m = x.length → A7_3 (n : Nat) X x.length cx (k : Nat) B b.length cb (i : Nat) M Tr7 := by
  have hnn : n * n ≤ 16 * 16 := Nat.mul_le_mul hn hn
  intro m
  induction m with
  | zero =>
    intro i hi
    refine w7_3 ⟨fun h => by omega, fun _ => ?_⟩
    rw [i64w (by omega), show ((k : Int) + 1) = ((k + 1 : Nat) : Int) by omega]; exact hE
  | succ m ih =>
    intro i hi
    obtain ⟨p, p1, p2⟩ := hB.int1 (n := b.length) (i := i) (z := (i : Nat)) (k := .i64) (x := gx b i) rfl (by omega) (gx_at (by omega))
    obtain ⟨q, q1, q2⟩ := hX.int1 (n := x.length) (i := i) (z := (i : Nat)) (k := .i64) (x := gx x i) rfl (by omega) (gx_at (by omega))
    have hh := hb i (by omega)
    refine w7_3 ⟨fun _ => ⟨_, p1, _, p2, _, q1, _, q2, ?_⟩, fun h => by omega⟩
    generalize gx b i - gx x i = d at hh ⊢
    have e8 : IntKind.i64.wrap (8 * (n : Int)) = ((8 * n : Nat) : Int) := by rw [i64w (by omega)]; omega
    rw [i64w (x := d) (by omega), e8]
    refine Cn.eq (c22 (by omega)) ⟨_, rfl, fun h => by omega, fun _ => ?_⟩
    rw [i64w (by omega), show ((i : Int) + 1) = ((i + 1 : Nat) : Int) by omega]
    exact ih (i + 1) (by omega)
theorem c7_1 {n : Nat} (hn : n = 4 ∨ n = 8 ∨ n = 16) {X : Option Addr} {cx : Nat} {x : List Int} (hl : x.length = n * n) (hx : inB 255 x = true) {M0 : Mem} (hf : M0.floor ≤ M0.nb.size) (hX : Row M0 X (Ints x)) :
    ∀ (m k : Nat) {M : Mem}, k + m = 9 → Keep M0 M → A7_1 (n : Nat) X x.length cx (k : Nat) M Tr7 := by
  have hnn : n * n ≤ 16 * 16 := Nat.mul_le_mul (by omega) (by omega)
  intro m
  induction m with
  | zero => intro k M hk K; exact w7_1 ⟨fun h => by omega, fun _ => rfl⟩
  | succ m ih =>
    intro k M hk K
    obtain ⟨a, b, e1, e2, e3, e4, e5⟩ := near8 hn (typ9 hn (k := k) (by omega)) (by omega) hl hx
    refine w7_1 ⟨fun _ => Cn.mono (c16 (sz := n) (typ := (k : Nat)) (x := x) (fb hf K) (hX.keep K) rfl (by omega)) ?_, fun h => by omega⟩
    rw [e1]
    rintro _ N1 ⟨A1, c1, rfl, K1, O1, _⟩
    have K01 := K.trans K1
    refine ⟨_, rfl, _, rfl, _, rfl, Cn.mono (c12 (sz := n) (typ := (k : Nat)) (x := a) (fb hf K01) O1.row rfl (by omega)) ?_⟩
    rw [e3]
    rintro _ N2 ⟨A2, c2, rfl, K2, O2, _⟩
    have K02 := K01.trans K2
    refine ⟨_, rfl, _, rfl, _, rfl, fun h => absurd rfl h, fun _ => ⟨fun h => absurd rfl h, fun _ => w7_2 ⟨fun h => ?_, fun _ => ?_⟩⟩⟩
    · dsimp only at h
      rw [e4, hl] at h; simp at h
    · exact c7_3 (by omega) (by omega) hl e4 (hX.keep K02) O2.row hx e5 (ih (k + 1) (by omega) K02) x.length 0 (Nat.zero_add _)
theorem sizes3 {i : Nat} (h : i < 3) : ∃ n : Nat, (n = 4 ∨ n = 8 ∨ n = 16) ∧ (Ints [4, 8, 16])[i]? = some (.int .i64 (n : Nat)) := by
  match i, h with
  | 0, _ => exact ⟨4, by decide, rfl⟩
  | 1, _ => exact ⟨8, by decide, rfl⟩
  | 2, _ => exact ⟨16, by decide, rfl⟩
theorem c7 {M : Mem} (hf : M.floor ≤ M.nb.size) {A : Option Addr} {ny cy : Nat} {y : List Int} (hA : Row M A (Ints y)) (hy : ny = y.length) (hb : ny ≤ 1048576) {z : Int} (hz : -9223372036854775808 ≤ z ∧ z ≤ 9223372036854775807) : Cn Try.prog 7 #[.slice A ny cy, .int .i64 z] M Tr7 := by
  refine w7_0 (Cn.mono (c15 hf) ?_)
  rintro _ N1 ⟨rfl, K1⟩
  refine ⟨_, rfl, fun h => (by cases h), fun _ => ?_⟩
  obtain ⟨P, e1, E1, F1⟩ := fr N1 [4, 8, 16] (cs := #[.int .i64 4, .int .i64 8, .int .i64 16]) rfl
  rw [e1]
  refine Cn.eq (c20 hz (by decide)) ⟨_, rfl, ?_⟩
  have hbr : 0 ≤ brg z 3 ∧ brg z 3 < 3 := by
    unfold brg; rw [if_neg (by decide)]
    exact ⟨Int.emod_nonneg _ (by decide), Int.emod_lt_of_pos _ (by decide)⟩
  generalize brg z 3 = b at hbr ⊢
  obtain ⟨w, rfl⟩ := Int.eq_ofNat_of_zero_le hbr.1
  obtain ⟨n, hn, hat⟩ := sizes3 (i := w) (by omega)
  obtain ⟨q, i1, i2⟩ := F1.int1 (n := 3) (i := w) (z := (w : Nat)) (k := .i64) (x := (n : Nat)) rfl (by omega) hat
  have K2 := K1.trans E1
  refine ⟨_, i1, _, i2, Cn.mono (c18 (n := n) (m := 255) (y := y) (fb hf K2) (hA.keep K2) hy hb (by omega) (by decide)) ?_⟩
  rintro _ N3 ⟨X, cx, rfl, K3, O3⟩
  have gl := blkL_len n 255 y
  have gi := blkL_in n 255 y
  generalize blkL n 255 y = x at *
  exact ⟨_, rfl, c7_1 hn gl gi (fb hf (K2.trans K3)) O3.row 9 0 (by decide) (.refl _)⟩
theorem law7 {W : World} {u0 u1 : Value} (s0 : Sees Try.prog (mem0 W) 1048576 8 22 [u0]) (s1 : Sees Try.prog (mem0 W) 1048576 8 3 [u1]) : Cn Try.prog 7 #[u0, u1] (mem0 W) fun v _ => v = .bool true := by
  obtain ⟨A, n, c, l, e, h1, h2, h3, h4, _⟩ := sees_ints (e := 3) (by kernel_rfl) (by kernel_rfl) s0
  obtain ⟨z, e1, hz⟩ := sees_int (q := .i64) (by kernel_rfl) s1
  obtain rfl : u0 = _ := by simpa using e
  obtain rfl : u1 = _ := by simpa using e1
  exact c7 (Nat.zero_le _) h4 h1 h3 (wf_i64 hz)
end Go.Zt

