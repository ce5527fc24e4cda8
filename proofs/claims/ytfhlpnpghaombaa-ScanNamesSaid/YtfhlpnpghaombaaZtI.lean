/- What ScanOnce comes to. -/
import Derived.Test.YtfhlpnpghaombaaZtH
import Derived.Test.YtfhlpnpghaombaaZtG
set_option linter.unusedSimpArgs false
set_option linter.unusedVariables false
namespace Go.Zt
open Go Go.Sim Go.Proofs Go.RowKit

theorem quo_pos (x : Int) (n : Nat) : binV Try.prog .quo 3 3 (.int .i64 x) (.int .i64 (Int.ofNat (n + 1))) = some (.int .i64 (IntKind.i64.wrap (x.tdiv (Int.ofNat (n + 1))))) := by kernel_rfl
theorem quo_of {x y : Nat} (h : 0 < y) (hx : x ≤ 4611686018427387904) {C : Int → Prop} (hC : C ((x / y : Nat) : Int)) : ∃ v, binV Try.prog .quo 3 3 (.int .i64 x) (.int .i64 y) = some v ∧ ∃ z, asI .i64 v = some z ∧ C z := by
  obtain ⟨n, rfl⟩ : ∃ n : Nat, y = n + 1 := ⟨y - 1, by omega⟩
  refine ⟨_, quo_pos x n, _, rfl, ?_⟩
  have e : (x : Int).tdiv (Int.ofNat (n + 1)) = ((x / (n + 1) : Nat) : Int) := by
    rw [Int.tdiv_eq_ediv_of_nonneg (by omega)]; rfl
  have : x / (n + 1) ≤ x := Nat.div_le_self _ _
  have h0 : (0 : Int) ≤ ((x / (n + 1) : Nat) : Int) := Int.natCast_nonneg _
  rw [e, wr _ (by omega)]; exact hC
theorem remN_of {x y : Nat} (h : 0 < y) {C : Int → Prop} (hC : C ((x % y : Nat) : Int)) : ∃ v, binV Try.prog .rem 3 3 (.int .i64 x) (.int .i64 y) = some v ∧ ∃ z, asI .i64 v = some z ∧ C z := by
  refine rem_of (by omega) ?_
  have e : (x : Int).tmod y = ((x % y : Nat) : Int) := by rw [Int.tmod_eq_emod_of_nonneg (by omega)]; rfl
  rw [e]; exact hC
theorem shl4 : (List.range 5).all (fun j => decide ((binV Try.prog .shl 3 3 (.int .i64 4) (.int .i64 j)).bind (asI .i64) = some (4 * (2 : Int) ^ j))) = true := by kernel_rfl
/-- A size, by its number. -/
theorem size_of {x : Int} (h : 0 ≤ x ∧ x < 5) {C : Int → Prop} (hC : ∀ s : Int, (s = 4 ∨ s = 8 ∨ s = 16 ∨ s = 32 ∨ s = 64) → C s) :
    ∃ v, binV Try.prog .shl 3 3 (.int .i64 4) (.int .i64 x) = some v ∧ ∃ y, asI .i64 v = some y ∧ C y := by
  obtain ⟨j, rfl⟩ : ∃ j : Nat, x = j := ⟨x.toNat, by omega⟩
  have := of_decide_eq_true (List.all_eq_true.1 shl4 j (by simp; omega))
  obtain ⟨v, h1, h2⟩ := Option.bind_eq_some_iff.1 this
  refine ⟨v, h1, _, h2, hC _ ?_⟩
  have : j = 0 ∨ j = 1 ∨ j = 2 ∨ j = 3 ∨ j = 4 := by omega
  rcases this with rfl | rfl | rfl | rfl | rfl <;> simp

/-- When each place came, i places on. -/
def wl (n i : Nat) : List Int := (List.range (n * n)).map fun v => if num n v < i then ((num n v + 1 : Nat) : Int) else 0
theorem wl_zero (n : Nat) : wl n 0 = List.replicate (n * n) 0 := by
  refine List.ext_getElem? fun v => ?_
  simp only [wl, List.getElem?_map, List.getElem?_replicate, List.getElem?_range]
  by_cases h : v < n * n <;> simp [h]
theorem wl_set {n : Nat} (hO : Orderly n) {i : Nat} (hi : i < n * n) : (wl n i).set (place n i) ((i + 1 : Nat) : Int) = wl n (i + 1) := by
  obtain ⟨h1, h2⟩ := hO.pl i hi
  refine List.ext_getElem? fun v => ?_
  simp only [List.getElem?_set, wl, List.getElem?_map, List.length_map, List.length_range]
  by_cases hv : v < n * n
  · by_cases e : place n i = v
    · subst e; simp [h1, h2, List.getElem?_range]
    · have hne : num n v ≠ i := fun x => e (by rw [← x]; exact (hO.nm v hv).2.1)
      have : num n v < i + 1 ↔ num n v < i := by omega
      simp [e, hv, List.getElem?_range, this]
  · have e : place n i ≠ v := by omega
    simp [e, hv, List.getElem?_range]

theorem c4_first {n : Nat} (hO : Orderly n) (hn : n ≤ 32) (hn0 : 0 < n) {S1 S2 : Nat → Prop} (hd : ∀ j, S1 j → ¬ S2 j) {A W : Option Addr} {c d : Nat} {Q : Value → Mem → Prop} {M0 : Mem} (hS : ∀ j, S2 j → M0.floor ≤ j)
    (h : ∀ M, Row M W (I64 (wl n (n * n))) → A4_4 n W (n * n) d 0 M Q) :
    ∀ (k i : Nat) {M : Mem}, i + k = n * n → M.floor = M0.floor → Own S1 M 3 A c (I64 (ord n)) → Own S2 M 3 W d (I64 (wl n i)) → A4_2 n A (ord n).length c W (n * n) d i M Q
  | 0, i, M, hi, hf, hA, hW => by
    have hlen : (ord n).length = n * n := by rw [hO.list]; simp
    rw [Nat.add_zero] at hi; subst hi
    exact w4_2 ⟨fun h => by omega, fun _ => h M hW.row⟩
  | k + 1, i, M, hi, hf, hA, hW => by
    have hlen : (ord n).length = n * n := by rw [hO.list]; simp
    have hi2 : i < n * n := by omega
    have hnn : n * n ≤ 32 * 32 := Nat.mul_le_mul hn hn
    obtain ⟨h1, h2⟩ := hO.pl i hi2
    have g1 : (ord n)[i]? = some ((place n i : Nat) : Int) := by rw [hO.list]; simp [hi2, List.getElem?_range]
    have gx : (I64 (ord n))[(i : Int).toNat]? = some (.int .i64 ((place n i : Nat) : Int)) := by simp [g1]
    have g2 : (wl n i)[place n i]? = some 0 := by simp [wl, h1, h2, List.getElem?_range]
    have wlen : (wl n i).length = n * n := by simp [wl]
    have enn : (n : Int) * n = ((n * n : Nat) : Int) := by norm_cast
    refine w4_2 ⟨fun _ => ?_, fun h => by omega⟩
    refine Row.rd elem hA.row (by simp) (by omega) (by omega) gx ⟨fun h => by omega, fun _ => ?_⟩
    refine Row.rd elem hA.row (by simp) (by omega) (by omega) gx ⟨fun h => ?_, fun _ => ?_⟩
    · rw [enn, wr _ (by omega)] at h; omega
    · refine Row.rd elem hA.row (by simp) (by omega) (by omega) gx ?_
      refine Row.rd elem hW.row (x := 0) (by simp [wlen]) (by omega) (by omega) (by simp [g2]) ?_
      refine w4_3 ⟨fun h => by simp at h, fun _ => ?_⟩
      refine Row.rd elem hA.row (by simp) (by omega) (by omega) gx ?_
      rw [wr _ (by omega), show ((i : Int) + 1) = ((i + 1 : Nat) : Int) by omega]
      refine Own.wr elem hW (by rw [hf]; exact hS) (by simp [wlen]) (by omega) (by omega) rfl fun M' hC _ hW' => ?_
      refine c4_first hO hn hn0 hd hS h k (i + 1) (by omega) (by rw [hC.floor]; exact hf) (hA.chg hC fun j _ h => hd j h) ?_
      rw [← wl_set hO hi2]
      simpa using hW'

theorem c4_second {n : Nat} (hO : Orderly n) (hn : n ≤ 32) (hn0 : 0 < n) {W : Option Addr} {d : Nat} {M : Mem} (hW : Row M W (I64 (wl n (n * n)))) :
    ∀ (k v : Nat), v + k = n * n → A4_4 n W (n * n) d v M fun r _ => r = .bool true
  | 0, v, hv => by
    have hnn : n * n ≤ 32 * 32 := Nat.mul_le_mul hn hn
    have enn : (n : Int) * n = ((n * n : Nat) : Int) := by norm_cast
    refine w4_4 ⟨fun h => ?_, fun _ => rfl⟩
    rw [enn, wr _ (by omega)] at h; omega
  | k + 1, v, hv => by
    have hnn : n * n ≤ 32 * 32 := Nat.mul_le_mul hn hn
    have enn : (n : Int) * n = ((n * n : Nat) : Int) := by norm_cast
    have hv2 : v < n * n := by omega
    obtain ⟨p0, p1, p2, p3, p4, p5, p6⟩ := hO.nm v hv2
    have next := c4_second hO hn hn0 hW (d := d) k (v + 1) (by omega)
    have wlen : (wl n (n * n)).length = n * n := by simp [wl]
    have at_ : ∀ u, u < n * n → (I64 (wl n (n * n)))[u]? = some (.int .i64 ((num n u + 1 : Nat) : Int)) := by
      intro u hu
      have := (hO.nm u hu).1
      simp [wl, hu, List.getElem?_range, this]
    have atv := at_ v hv2
    have hdm := Nat.div_add_mod v n
    have hr : v / n < n := Nat.div_lt_of_lt_mul hv2
    have hc : v % n < n := Nat.mod_lt v hn0
    have h0 : (0 : Int) ≤ ((v / n : Nat) : Int) := Int.natCast_nonneg _
    have h00 : (0 : Int) ≤ ((v % n : Nat) : Int) := Int.natCast_nonneg _
    have rd : ∀ (u : Nat) {C : Int → Prop}, u < n * n → C ((num n u + 1 : Nat) : Int) → ∃ v, indexAddrP Try.prog 22 (.slice W (n * n) d) (.int .i64 (u : Int)) = some v ∧ ∃ p, asP v = some p ∧ ∃ a, p = some a ∧ ∃ x, M.intAt .i64 a.block a.off = some x ∧ C x :=
      fun u C hu hC => Row.rd elem hW (by simp [wlen]) (by omega) (by omega) (by simpa using at_ u hu) hC
    -- places of the row below lie in the square
    have below : ∀ e a, v / n + e < n → v % n + a < n → v + e * n + a < n * n := by
      intro e a he ha
      have h1 : (v / n + e + 1) * n ≤ n * n := Nat.mul_le_mul_right n he
      have h2 : (v / n + e + 1) * n = n * (v / n) + e * n + n := by rw [Nat.add_mul, Nat.add_mul, Nat.mul_comm (v / n) n]; omega
      omega
    have fin : A4_9 n W (n * n) d v false M fun r _ => r = .bool true := by
      refine w4_9 ⟨fun h => (by cases h), fun _ => ?_⟩
      rw [wr _ (by omega), show ((v : Int) + 1) = ((v + 1 : Nat) : Int) by omega]; exact next
    have dec : ∀ u, num n v < num n u → decide (((num n u + 1 : Nat) : Int) < ((num n v + 1 : Nat) : Int)) = false := fun u h => decide_eq_false (by omega)
    have s8 : A4_8 n W (n * n) d v ((v / n : Nat) : Int) ((v % n : Nat) : Int) false M fun r _ => r = .bool true := by
      refine w4_8 ⟨fun h => (by cases h), fun _ => ⟨fun h => ⟨fun h2 => ?_, fun _ => fin⟩, fun _ => fin⟩⟩
      rw [wr _ (by omega)] at h h2
      have hb := below 1 1 (by omega) (by omega)
      rw [wr ((v : Int) + n) (by omega), wr _ (by omega), show ((v : Int) + n + 1) = ((v + n + 1 : Nat) : Int) by omega]
      refine rd _ (by omega) (rd v hv2 ?_)
      rw [dec _ (p6 (by omega) (by omega))]; exact fin
    have s7 : A4_7 n W (n * n) d v ((v / n : Nat) : Int) ((v % n : Nat) : Int) false M fun r _ => r = .bool true := by
      refine w4_7 ⟨fun h => (by cases h), fun _ => ⟨fun h => ?_, fun _ => s8⟩⟩
      rw [wr _ (by omega)] at h
      have hb := below 2 0 (by omega) (by omega)
      rw [wr (2 * (n : Int)) (by omega), wr _ (by omega), show ((v : Int) + 2 * n) = ((v + 2 * n : Nat) : Int) by omega]
      refine rd _ (by omega) (rd v hv2 ?_)
      rw [dec _ (p5 (by omega))]; exact s8
    have s6 : A4_6 n W (n * n) d v ((v / n : Nat) : Int) ((v % n : Nat) : Int) false M fun r _ => r = .bool true := by
      refine w4_6 ⟨fun h => (by cases h), fun _ => ⟨fun h => ?_, fun _ => s7⟩⟩
      rw [wr _ (by omega)] at h
      have hb := below 0 2 (by omega) (by omega)
      rw [wr _ (by omega), show ((v : Int) + 2) = ((v + 2 : Nat) : Int) by omega]
      refine rd _ (by omega) (rd v hv2 ?_)
      rw [dec _ (p4 (by omega))]; exact s7
    have s5 : A4_5 n W (n * n) d v ((v / n : Nat) : Int) ((v % n : Nat) : Int) false M fun r _ => r = .bool true := by
      refine w4_5 ⟨fun h => (by cases h), fun _ => ⟨fun h => ?_, fun _ => s6⟩⟩
      rw [wr _ (by omega)] at h
      have hb := below 1 0 (by omega) (by omega)
      rw [wr _ (by omega), show ((v : Int) + n) = ((v + n : Nat) : Int) by omega]
      refine rd _ (by omega) (rd v hv2 ?_)
      rw [dec _ (p3 (by omega))]; exact s6
    refine w4_4 ⟨fun _ => quo_of hn0 (by omega) (remN_of hn0 ⟨fun h => ?_, fun _ => s5⟩), fun h => ?_⟩
    · rw [wr _ (by omega)] at h
      have hb := below 0 1 (by omega) (by omega)
      rw [wr _ (by omega), show ((v : Int) + 1) = ((v + 1 : Nat) : Int) by omega]
      refine rd _ (by omega) (rd v hv2 ?_)
      rw [dec _ (p2 (by omega))]; exact s5
    · rw [enn, wr _ (by omega)] at h

theorem c4 (x : Int) (M : Mem) (hf : M.floor ≤ M.nb.size) : Cn Try.prog 4 #[.int .i64 x] M fun v N => v = .bool true := by
  refine w4_0 (Cn.mono (c14 M hf) ?_)
  rintro v N ⟨rfl, hK⟩
  have hfN : N.floor ≤ N.nb.size := by rw [hK.floor]; exact Nat.le_trans hf hK.size
  refine ⟨_, rfl, fun h => (by cases h), fun _ => Cn.mono (c15 x 5 (by omega) N) ?_⟩
  rintro v N' ⟨rfl, rfl⟩
  refine ⟨_, rfl, size_of (bring_lt x 5 (by omega)) fun s hs => Cn.mono (c9 s N' hfN) ?_⟩
  rintro v M1 ⟨A, c, rfl, hK1, hO1⟩
  obtain ⟨n, hn, hn4⟩ : ∃ n : Nat, side s = n ∧ (n = 4 ∨ n = 8 ∨ n = 16 ∨ n = 32) := by
    rcases hs with rfl | rfl | rfl | rfl | rfl
    · exact ⟨4, rfl, by omega⟩
    · exact ⟨8, rfl, by omega⟩
    · exact ⟨16, rfl, by omega⟩
    · exact ⟨32, rfl, by omega⟩
    · exact ⟨32, rfl, by omega⟩
  have hmin : (if 32 < s then 32 else s) = (n : Int) := by
    rw [← hn]
    rcases hs with rfl | rfl | rfl | rfl | rfl <;> rfl
  have hOr := orderly hn4
  have eL : ordL s = ord n := by rw [ordL, hn]; simp
  have eE : ordE s = 0 := by rw [ordE, if_neg (by omega)]
  have hlen : (ord n).length = n * n := by rw [hOr.list]; simp
  have hnn : n * n ≤ 32 * 32 := Nat.mul_le_mul (by omega) (by omega)
  have enn : (n : Int) * n = ((n * n : Nat) : Int) := by norm_cast
  rw [eL] at hO1 ⊢
  rw [eE, hmin]
  refine ⟨_, rfl, _, rfl, _, rfl, fun h => absurd rfl h, fun _ => ?_⟩
  rw [enn, wr ((n * n : Nat) : Int) (by omega)]
  have eB : (((ord n).length : Int) != ((n * n : Nat) : Int)) = false := by rw [hlen]; simp
  show A4_1 n A (ord n).length c (((ord n).length : Int) != ((n * n : Nat) : Int)) M1 _
  rw [eB]
  refine w4_1 ⟨fun h => (by cases h), fun _ => ?_⟩
  rw [enn, wr ((n * n : Nat) : Int) (by omega)]
  have hf1 : M1.floor ≤ M1.nb.size := by rw [hK1.floor]; exact Nat.le_trans hfN hK1.size
  obtain ⟨W, M2, q1, q2, q3, q4⟩ := make_own (k := .i64) (k' := .i64) (l := ((n * n : Nat) : Int)) (c := ((n * n : Nat) : Int)) elem (S := fun j => M1.nb.size ≤ j) (M := M1) (by omega) (by omega) (by omega) (Nat.le_refl _)
  rw [Int.toNat_natCast] at q1
  refine ⟨_, q1, _, rfl, ?_⟩
  have hA : Own (fun j => j < M1.nb.size) M2 3 A c (I64 (ord n)) := by
    have a1 : Own (fun j => j < M1.nb.size) M1 3 A c (I64 (ord n)) := hO1.mono fun j hj _ => hj
    exact a1.chg q2 fun j _ h h2 => by omega
  have hW : Own (fun j => M1.nb.size ≤ j) M2 3 W (n * n) (I64 (wl n 0)) := by
    rw [Int.toNat_natCast] at q4
    rw [wl_zero, show I64 (List.replicate (n * n) 0) = List.replicate (n * n) (.int .i64 0) from List.map_replicate]; exact q4
  exact c4_first hOr (by omega) (by omega) (S1 := fun j => j < M1.nb.size) (S2 := fun j => M1.nb.size ≤ j) (fun j h h2 => by omega) (M0 := M2) (fun j hj => by rw [q2.floor]; exact Nat.le_trans hf1 hj)
    (fun M hW => c4_second hOr (by omega) (by omega) hW (n * n) 0 (by omega)) (n * n) 0 (by omega) rfl hA hW
end Go.Zt
