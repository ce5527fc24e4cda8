/- Layer 3: Flat, Steep, Adapt. -/
import Derived.Test.YtbnhbmkoghnjhaaZhF
import Derived.Test.YtbnhbmkoghnjhaaZhD
set_option linter.unusedSimpArgs false
set_option linter.unusedVariables false
set_option maxRecDepth 100000
namespace Go.Zt
open Go Go.Sim Go.Proofs Go.RowKit

theorem keep_res (M : Mem) (k : Nat) : Keep M (M.res k) := ⟨(res_same M k).1, (res_same M k).2, by rw [res_size]; omega, fun j hj _ => by rw [res_at, if_pos hj]⟩
/-- A list done up to a place. -/
def mixL (f g : Nat → Nat) (n i : Nat) : List Nat := (List.range n).map fun q => if q < i then f q else g q
theorem mixL_len (f g : Nat → Nat) (n i : Nat) : (mixL f g n i).length = n := by simp [mixL]
theorem mixL_set {f g : Nat → Nat} {n i : Nat} : (mixL f g n i).set i (f i) = mixL f g n (i + 1) := by
  refine List.ext_getElem? fun q => ?_
  rw [List.getElem?_set]
  rcases Nat.lt_or_ge q n with hq | hq
  · unfold mixL
    rw [List.getElem?_map, List.getElem?_map, List.getElem?_range hq]
    by_cases e : i = q
    · subst e; rw [if_pos rfl, if_pos (by simpa using hq)]; simp
    · rw [if_neg e]; simp only [Option.map_some]
      congr 1
      by_cases h : q < i
      · rw [if_pos h, if_pos (by omega)]
      · rw [if_neg h, if_neg (by omega)]
  · rw [List.getElem?_eq_none (l := mixL f g n (i + 1)) (by rw [mixL_len]; omega)]
    split
    · rw [if_neg (by rw [mixL_len]; omega)]
    · rw [List.getElem?_eq_none (by rw [mixL_len]; omega)]
theorem mixL_0 {f g : Nat → Nat} {n : Nat} : mixL f g n 0 = (List.range n).map g := by unfold mixL; simp
theorem mixL_n {f g : Nat → Nat} {n : Nat} : mixL f g n n = (List.range n).map f := by
  unfold mixL; exact List.map_congr_left fun q hq => if_pos (List.mem_range.1 hq)
theorem gn_map {f : Nat → Nat} {n i : Nat} (h : i < n) : gn ((List.range n).map f) i = f i := by
  unfold gn; rw [List.getD_eq_getElem?_getD, List.getElem?_map, List.getElem?_range h]; rfl
theorem gn_mix {f g : Nat → Nat} {n i q : Nat} (h : q < n) : gn (mixL f g n i) q = if q < i then f q else g q := gn_map h
theorem map_gn (l : List Nat) : (List.range l.length).map (gn l) = l := by
  refine ext_gn (by simp) fun i hi => ?_
  rw [gn_map (by simpa using hi)]
theorem uL_set {l : List Nat} {i v : Nat} : (uL l).set i (.int .u16 ((v : Nat) : Int)) = uL (l.set i v) := by rw [uL, ← List.map_set]
/-- A table is answered, in new memory. -/
def TbR (M0 : Mem) (q : List Nat × Int × Nat) : Value → Mem → Prop := fun v N => ∃ A c, v = .tuple #[.agg #[.slice A q.1.length c, .int .i64 q.2.1], .int .i64 (q.2.2 : Nat)] ∧ Keep M0 N ∧ Own (fun j => M0.nb.size ≤ j) N 47 A c (uL q.1) ∧ q.1.length ≤ c
def NewT (M0 : Mem) (l : List Nat) : Value → Mem → Prop := fun v N => ∃ A c, v = .slice A l.length c ∧ Keep M0 N ∧ Own (fun j => M0.nb.size ≤ j) N 47 A c (uL l) ∧ l.length ≤ c
theorem uL_one (l : List Nat) : (uL l).all oneCell = true := by simp [List.all_eq_true, oneCell]
theorem c34 {M : Mem} (hf : M.floor ≤ M.nb.size) {A : Option Addr} {n c : Nat} {l : List Nat} (hR : Row M A (uL l)) (hn : n = l.length) (hb : n ≤ 1099511627776) : Cn Try.prog 34 #[.slice A n c] M (NewT M l) := by
  refine w34_0 ⟨fun h => ?_, fun h => ?_⟩
  · cases A with
    | none =>
      have : l = [] := List.map_eq_nil_iff.1 hR.none_nil
      subst this
      exact ⟨none, 0, rfl, .refl _, Own.empty, Nat.le_refl _⟩
    | some a => cases h
  · obtain ⟨B, d, N, g1, g2, g3, g4⟩ := clone_own el16 (n := n) (c := c) hR (by rw [List.length_map, hn, Nat.mul_one]) (uL_one l) hf (by omega)
    rw [Nat.mul_one] at g3
    subst hn
    exact ⟨_, g1, _, rfl, B, d, rfl, g2, g3, g4⟩
/-- A number is appended to the table in a variable. -/
theorem appT {M0 M : Mem} (hf : M0.floor ≤ M0.nb.size) (K : Keep M0 M) {j : Nat} {A : Option Addr} {n c : Nat} {k : Int} {l : List Nat} {v : Nat} {S : Nat → Prop} (hS : ∀ q, M0.nb.size ≤ q → q ≠ j → S q → True) (ha : M.nb[j]? = some (tcells A n c k)) (hj : M0.nb.size ≤ j)
    {T : Nat → Prop} (hT : ∀ q, M.nb.size ≤ q → T q) (hT0 : ∀ q, T q → M0.nb.size ≤ q ∧ q ≠ j) (hO : Own T M 47 A c (uL l)) (hn : n = l.length) (hb : n ≤ 1099511627776) :
    ∃ A' c' M', appendP Try.prog #[22, 22] (.slice A n c) (.slice (some ⟨2 * M.nb.size, 0, none⟩) 1 1) (M.new (.cells #[.int .u16 ((v : Nat) : Int)] 47)) = some (.slice A' (n + 1) c', M') ∧
      ∃ M2, M'.put (2 * j) 0 (.slice A' (n + 1) c') = some M2 ∧ Keep M0 M2 ∧ Chg (fun q => T q ∨ q = j) M M2 ∧ M2.nb[j]? = some (tcells A' (n + 1) c' k) ∧ Own T M2 47 A' c' (uL (l ++ [v])) ∧ n + 1 ≤ c' := by
  obtain ⟨A', c', M', g1, g2, g3, g4⟩ := app1S el16 (S := T) (n := n) (v := .int .u16 ((v : Nat) : Int)) hO (by rw [List.length_map, hn]) (fun q hq => by rw [K.floor]; exact Nat.le_trans hf (hT0 q hq).1) (hT _ (Nat.le_refl _)) (hT _ (Nat.le_succ _)) rfl (by omega)
  have ha' := at_chg ha g2 (fun hh => (hT0 j hh).2 rfl)
  have hfj : M'.floor ≤ j := by rw [g2.floor, K.floor]; exact Nat.le_trans hf hj
  have p1 := put_of (i := 0) (v := .slice A' (n + 1) c') ha' hfj (by simp) rfl
  have C1 := upd_chg (M := M') (S := (· = j)) (b := .cells ((#[Value.slice A n c, .int .i64 k] : Array Value).setIfInBounds 0 (.slice A' (n + 1) c')) 24) rfl
  have u1 := upd_at (M := M') (b := .cells ((#[Value.slice A n c, .int .i64 k] : Array Value).setIfInBounds 0 (.slice A' (n + 1) c')) 24) (lt_of_at ha')
  refine ⟨A', c', M', g1, _, p1, ?_, (g2.mono fun q _ h => .inl h).trans (C1.mono fun q _ h => .inr h), u1, ?_, g4⟩
  · exact Keep.step (Keep.step K g2 fun q hq => (hT0 q hq).1) C1 fun q hq => by rw [hq]; exact hj
  · have := g3.chg C1 fun q _ h1 h2 => (hT0 q h1).2 h2
    rw [uL, List.map_append]; exact this
section
variable {M : Mem}
def flatV (n q : Nat) : Nat := 32768 * (q + 1) / n
def flatS (x : Int) : List Nat × Int × Nat := if 2 ≤ x ∧ x ≤ 16 then ((List.range x.toNat).map (flatV x.toNat), 0, 0) else ([], 0, 2)
theorem flatV_b {n q : Nat} (h : q < n) : flatV n q ≤ 32768 := by
  unfold flatV
  refine Nat.div_le_of_le_mul ?_
  rw [Nat.mul_comm n]; exact Nat.mul_le_mul_left _ h
theorem flat_step {n i : Nat} (hi : i < n) (hn : n ≤ 16) : binV Try.prog .quo 3 3 (.int .i64 (IntKind.i64.wrap (32768 * IntKind.i64.wrap ((i : Int) + 1)))) (.int .i64 (n : Nat)) = some (.int .i64 (flatV n i : Nat)) := by
  rw [binV_quo (by omega), i64w (x := (i : Int) + 1) (by omega), i64w (x := 32768 * ((i : Int) + 1)) (by omega), show 32768 * ((i : Int) + 1) = ((32768 * (i + 1) : Nat) : Int) by omega, tdivN]
  have := flatV_b hi
  show some (Value.int .i64 (IntKind.i64.wrap ((flatV n i : Nat) : Int))) = _
  rw [i64w (by omega)]
/-- The answer is written into its variable, and read. -/
theorem packT {M0 M : Mem} {j2 j4 : Nat} {x y : Value} {t : TypeId} {A : Option Addr} {n c : Nat} {k : Int} {q : List Nat × Int × Nat} {e : Int} (hf : M0.floor ≤ M0.nb.size) (K : Keep M0 M) (h2 : M.nb[j2]? = some (.cells #[x, y] t)) (h4 : M.nb[j4]? = some (tcells A n c k)) (hj : M0.nb.size ≤ j2)
    (hO : Own (fun p => M0.nb.size ≤ p ∧ p ≠ j2) M 47 A c (uL q.1)) (hn : n = q.1.length) (hk : k = q.2.1) (he : e = (q.2.2 : Nat)) (hc : n ≤ c) :
    ∃ a18, some (⟨2 * j4, 0, none⟩ : Addr) = some a18 ∧ ∃ s19, M.slAt a18.block a18.off = some s19 ∧ ∃ x20, M.intAt .i64 a18.block (a18.off + 1) = some x20 ∧
    ∃ a21, some (⟨2 * j2, 0, none⟩ : Addr) = some a21 ∧ ∃ M22, M.put a21.block a21.off (.slice s19.1 s19.2.1 s19.2.2) = some M22 ∧ ∃ M23, M22.put a21.block (a21.off + 1) (.int .i64 x20) = some M23 ∧
    ∃ a24, some (⟨2 * j2, 0, none⟩ : Addr) = some a24 ∧ ∃ s25, M23.slAt a24.block a24.off = some s25 ∧ ∃ x26, M23.intAt .i64 a24.block (a24.off + 1) = some x26 ∧
    TbR M0 q (.tuple #[.agg #[.slice s25.1 s25.2.1 s25.2.2, .int .i64 x26], .int .i64 e]) M23 := by
  obtain ⟨M1, p1, M2, p2, C, _, u⟩ := put2 (A := A) (n := n) (c := c) (k := k) h2 (by rw [K.floor]; exact Nat.le_trans hf hj)
  refine ⟨_, rfl, _, sl_of h4 rfl, _, int_of h4 rfl, _, rfl, M1, p1, M2, p2, _, rfl, _, sl_of u rfl, _, int_of u rfl, A, c, ?_, Keep.step K C fun p hp => by rw [hp]; exact hj, (hO.chg C fun p _ h1 h2 => h1.2 h2).mono fun p _ h => h.1, by rw [← hn]; exact hc⟩
  rw [hn, hk, he]
/-- Nothing is answered, and what is wrong. -/
theorem packE {M0 M : Mem} {j : Nat} {x y : Value} {t : TypeId} (hf : M0.floor ≤ M0.nb.size) (K : Keep M0 M) (h2 : M.nb[j]? = some (.cells #[x, y] t)) (hj : M0.nb.size ≤ j) :
    ∃ M22, M.put (2 * j) 0 (.slice none 0 0) = some M22 ∧ ∃ M23, M22.put (2 * j) 1 (.int .i64 0) = some M23 ∧ ∃ s25, M23.slAt (2 * j) 0 = some s25 ∧ ∃ x26, M23.intAt .i64 (2 * j) 1 = some x26 ∧
    TbR M0 ([], 0, 2) (.tuple #[.agg #[.slice s25.1 s25.2.1 s25.2.2, .int .i64 x26], .int .i64 2]) M23 := by
  obtain ⟨M1, p1, M2, p2, C, _, u⟩ := put2 (A := none) (n := 0) (c := 0) (k := 0) h2 (by rw [K.floor]; exact Nat.le_trans hf hj)
  exact ⟨M1, p1, M2, p2, _, sl_of u rfl, _, int_of u rfl, none, 0, rfl, Keep.step K C fun p hp => by rw [hp]; exact hj, Own.empty, Nat.le_refl _⟩
theorem newI {M : Mem} (A : Option Addr) (n c : Nat) (k : Int) : (M.new (tcells A n c k)).nb[M.nb.size]? = some (tcells A n c k) := Mem.new_at M _
/-- A table of noughts and its variable. -/
theorem mkT {M0 M : Mem} (hf : M0.floor ≤ M0.nb.size) (K : Keep M0 M) {n : Nat} (hn : n ≤ 1099511627776) {j : Nat} (hj : M0.nb.size ≤ j) (hjM : j < M.nb.size) :
    ∃ A M2, makeP Try.prog 22 (.int .i64 (n : Nat)) (.int .i64 (n : Nat)) M = some (.slice A n n, M2) ∧
      ∃ M3, (M2.new (tcells none 0 0 0)).put (2 * M2.nb.size) 0 (.slice A n n) = some M3 ∧ ∃ M4, M3.put (2 * M2.nb.size) 1 (.int .i64 0) = some M4 ∧ Keep M0 M4 ∧ Keep M M4 ∧ M4.nb[M2.nb.size]? = some (tcells A n n 0) ∧ M0.nb.size ≤ M2.nb.size ∧ j ≠ M2.nb.size ∧
        Own (fun p => M0.nb.size ≤ p ∧ p ≠ j ∧ p ≠ M2.nb.size) M4 47 A n (uL ((List.range n).map fun _ => 0)) := by
  obtain ⟨A, M2, g1, g2, g3, g4⟩ := make_own em16 (S := fun p => p = M.nb.size) (M := M) (k := .i64) (k' := .i64) (l := (n : Nat)) (c := (n : Nat)) (by omega) (Int.le_refl _) (by omega) rfl
  have hf2 : M2.floor ≤ M2.nb.size := by rw [g2.floor, K.floor, g3]; have := K.size; omega
  obtain ⟨M3, p1, M4, p2, C, hs, u⟩ := put2 (A := A) (n := n) (c := n) (k := 0) (Mem.new_at M2 (tcells none 0 0 0)) hf2
  have KM : Keep M M4 := Keep.step (Keep.step (.refl _) g2 fun p hp => by omega) ((Chg.new (S := (· = M2.nb.size)) M2 _).trans C) fun p hp => by rw [hp, g3]; omega
  have hKs := K.size
  refine ⟨A, M2, g1, M3, p1, M4, p2, K.trans KM, KM, u, by omega, by omega, ?_⟩
  have e : uL ((List.range n).map fun _ => 0) = List.replicate ((n : Int).toNat) (.int .u16 0) := by
    refine List.ext_getElem? fun i => ?_
    rw [List.getElem?_map, List.getElem?_map, List.getElem?_replicate]
    by_cases h : i < n
    · rw [List.getElem?_range h, if_pos (by omega)]; rfl
    · rw [List.getElem?_eq_none (by simpa using h), if_neg (by omega)]; rfl
  rw [e]
  exact (g4.chg ((Chg.new (S := (· = M2.nb.size)) M2 _).trans C) fun p _ h1 h2 => by omega).mono fun p _ h => by omega
theorem c25 (hf : M.floor ≤ M.nb.size) {x : Int} : Cn Try.prog 25 #[.int .i64 x] M (TbR M (flatS x)) := by
  have a0 := newI (M := M) none 0 0 0
  have K0 : Keep M (M.new (tcells none 0 0 0)) := .new _ _
  refine w25_0 ?_
  generalize M.new (tcells none 0 0 0) = N at a0 K0 ⊢
  refine Cn.eq c36 ⟨_, rfl, fun h => ?_, fun h => ?_⟩
  · have hx : ¬ (2 ≤ x ∧ x ≤ 16) := by intro hh; rw [decide_eq_true hh] at h; cases h
    unfold flatS; rw [if_neg hx]
    exact packE hf K0 a0 (Nat.le_refl _)
  · have hx : 2 ≤ x ∧ x ≤ 16 := by simpa using h
    obtain ⟨n, rfl⟩ : ∃ n : Nat, x = (n : Nat) := ⟨x.toNat, by omega⟩
    unfold flatS; rw [if_pos hx, Int.toNat_natCast]
    obtain ⟨A, M2, g1, M3, p1, M4, p2, KM, KN, u, hj4, hne, hO⟩ := mkT hf K0 (n := n) (by omega) (Nat.le_refl _) (lt_of_at a0)
    have a2 := at_keep a0 KN
    refine ⟨_, g1, _, rfl, _, p1, _, p2, _, sl_of u rfl, ?_⟩
    dsimp only
    have loop : ∀ (t i : Nat) {N : Mem}, i + t = n → Keep M N → N.nb[M.nb.size]? = some (tcells none 0 0 0) → N.nb[M2.nb.size]? = some (tcells A n n 0) → Own (fun p => M.nb.size ≤ p ∧ p ≠ M.nb.size ∧ p ≠ M2.nb.size) N 47 A n (uL (mixL (flatV n) (fun _ => 0) n i)) →
        A25_1 (n : Nat) (some ⟨2 * M.nb.size, 0, none⟩) (some ⟨2 * M2.nb.size, 0, none⟩) (n : Nat) (i : Nat) N (TbR M ((List.range n).map (flatV n), 0, 0)) := by
      intro t
      induction t with
      | zero =>
        intro i N hi K h2 h4 hO
        obtain rfl : n = i := by omega
        rw [mixL_n] at hO
        exact w25_1 ⟨fun h => by omega, fun _ => packT hf K h2 h4 (Nat.le_refl _) (hO.mono fun p _ h => ⟨h.1, h.2.1⟩) (by simp) rfl rfl (Nat.le_refl _)⟩
      | succ t ih =>
        intro i N hi K h2 h4 hO
        have hb := flatV_b (n := n) (q := i) (by omega)
        obtain ⟨a, b1, M', b2, b3, b4, b5⟩ := hO.put1 (fun p hp => by rw [K.floor]; omega) (n := n) (i := i) (z := ((i : Nat) : Int)) (v := .int .u16 ((flatV n i : Nat) : Int)) rfl (by omega) (by rw [List.length_map, mixL_len]; omega) rfl
        refine w25_1 ⟨fun _ => ⟨_, rfl, _, sl_of h4 rfl, _, flat_step (by omega) (by omega), _, rfl, _, b1, ?_⟩, fun h => by omega⟩
        rw [u16w (by omega)]
        refine ⟨_, b2, ?_⟩
        rw [i64w (by omega), show ((i : Int) + 1) = ((i + 1 : Nat) : Int) by omega]
        rw [uL_set, mixL_set] at b5
        exact ih (i + 1) (by omega) (Keep.step K b3 fun p hp => hp.1) (at_chg h2 b3 (by omega)) (at_chg h4 b3 (by omega)) b5
    exact loop n 0 (Nat.zero_add _) KM a2 u (by rw [mixL_0]; exact hO)
theorem c26 (hf : M.floor ≤ M.nb.size) {x : Int} : Cn Try.prog 26 #[.int .i64 x] M (TbR M (flatS x)) := by
  have a0 := newI (M := M) none 0 0 0
  have K0 : Keep M (M.new (tcells none 0 0 0)) := .new _ _
  refine w26_0 ?_
  generalize M.new (tcells none 0 0 0) = N at a0 K0 ⊢
  have key : ∀ b : Bool, b = decide (¬ (2 ≤ x ∧ x ≤ 16)) → A26_1 x (some ⟨2 * M.nb.size, 0, none⟩) b N (TbR M (flatS x)) := by
    intro b hb
    refine w26_1 ⟨fun h => ?_, fun h => ?_⟩
    · rw [h] at hb
      unfold flatS; rw [if_neg (of_decide_eq_true hb.symm)]
      obtain ⟨M1, p1, M2, p2, s, e1, x, e2, hh⟩ := packE hf K0 a0 (Nat.le_refl _)
      exact ⟨_, rfl, _, p1, _, p2, _, rfl, _, e1, _, e2, hh⟩
    · rw [h] at hb
      have hx : 2 ≤ x ∧ x ≤ 16 := Decidable.not_not.1 (of_decide_eq_false hb.symm)
      obtain ⟨n, rfl⟩ : ∃ n : Nat, x = (n : Nat) := ⟨x.toNat, by omega⟩
      unfold flatS; rw [if_pos hx, Int.toNat_natCast]
      have b0 := newI (M := N) none 0 0 0
      have K1 : Keep N (N.new (tcells none 0 0 0)) := .new _ _
      generalize N.new (tcells none 0 0 0) = N1 at b0 K1 ⊢
      have hj : M.nb.size < N.nb.size := lt_of_at a0
      have loop : ∀ (t i : Nat) (A : Option Addr) (c : Nat) {R : Mem}, i + t = n → i ≤ c → Keep M R → R.nb[M.nb.size]? = some (tcells none 0 0 0) → R.nb[N.nb.size]? = some (tcells A i c 0) → Own (fun p => M.nb.size ≤ p ∧ p ≠ M.nb.size ∧ p ≠ N.nb.size) R 47 A c (uL ((List.range i).map (flatV n))) →
          A26_2 (n : Nat) (some ⟨2 * M.nb.size, 0, none⟩) (some ⟨2 * N.nb.size, 0, none⟩) (i : Nat) R (TbR M ((List.range n).map (flatV n), 0, 0)) := by
        intro t
        induction t with
        | zero =>
          intro i A c R hi hc K h2 h4 hO
          obtain rfl : n = i := by omega
          exact w26_2 ⟨fun h => by omega, fun _ => packT hf K h2 h4 (Nat.le_refl _) (hO.mono fun p _ h => ⟨h.1, h.2.1⟩) (by simp) rfl rfl hc⟩
        | succ t ih =>
          intro i A c R hi hc K h2 h4 hO
          have hb := flatV_b (n := n) (q := i) (by omega)
          have hR1 := lt_of_at h4
          have hR2 := lt_of_at h2
          obtain ⟨A', c', M', g1, M2, g2, g3, g4, g5, g6, g7⟩ := appT (S := fun _ => True) hf K (j := N.nb.size) (v := flatV n i) (fun _ _ _ _ => trivial) h4 (by omega) (T := fun p => M.nb.size ≤ p ∧ p ≠ M.nb.size ∧ p ≠ N.nb.size) (fun q hq => by omega) (fun q hq => ⟨hq.1, hq.2.2⟩) hO (by simp) (by omega)
          refine w26_2 ⟨fun _ => ⟨_, rfl, _, sl_of h4 rfl, _, flat_step (by omega) (by omega), _, rfl, ?_⟩, fun h => by omega⟩
          rw [u16w (by omega)]
          refine ⟨_, g1, _, rfl, _, rfl, _, g2, ?_⟩
          rw [i64w (by omega), show ((i : Int) + 1) = ((i + 1 : Nat) : Int) by omega]
          refine ih (i + 1) A' c' (by omega) g7 g3 (at_chg h2 g4 (by omega)) g5 ?_
          rw [range_map_succ]; exact g6
      exact loop n 0 none 0 (Nat.zero_add _) (Nat.le_refl _) (K0.trans K1) (at_keep a0 K1) b0 Own.empty
  refine ⟨fun h => key _ ?_, fun h => key _ ?_⟩
  · rw [Bool.eq_iff_iff]; simp; omega
  · rw [Bool.eq_iff_iff]; simp; omega
def steepV (n q : Nat) : Nat := if q + 1 = n then 32768 else 32768 - 32768 / 2 ^ (q + 1)
def steepS (x : Int) : List Nat × Int × Nat := if 2 ≤ x ∧ x ≤ 16 then ((List.range x.toNat).map (steepV x.toNat), 0, 0) else ([], 0, 2)
theorem steepV_b (n q : Nat) : steepV n q ≤ 32768 := by
  unfold steepV; split
  · exact Nat.le_refl _
  · exact Nat.sub_le ..
theorem c27 (hf : M.floor ≤ M.nb.size) {x : Int} : Cn Try.prog 27 #[.int .i64 x] M (TbR M (steepS x)) := by
  have a0 := newI (M := M) none 0 0 0
  have K0 : Keep M (M.new (tcells none 0 0 0)) := .new _ _
  refine w27_0 ?_
  generalize M.new (tcells none 0 0 0) = N at a0 K0 ⊢
  refine Cn.eq c36 ⟨_, rfl, fun h => ?_, fun h => ?_⟩
  · have hx : ¬ (2 ≤ x ∧ x ≤ 16) := by intro hh; rw [decide_eq_true hh] at h; cases h
    unfold steepS; rw [if_neg hx]
    exact packE hf K0 a0 (Nat.le_refl _)
  · have hx : 2 ≤ x ∧ x ≤ 16 := by simpa using h
    obtain ⟨n, rfl⟩ : ∃ n : Nat, x = (n : Nat) := ⟨x.toNat, by omega⟩
    unfold steepS; rw [if_pos hx, Int.toNat_natCast]
    obtain ⟨A, M2, g1, M3, p1, M4, p2, KM, KN, u, hj4, hne, hO⟩ := mkT hf K0 (n := n) (by omega) (Nat.le_refl _) (lt_of_at a0)
    have a2 := at_keep a0 KN
    refine ⟨_, g1, _, rfl, _, p1, _, p2, _, sl_of u rfl, ?_⟩
    dsimp only
    have loop : ∀ (t i : Nat) {N : Mem}, i + t = n → Keep M N → N.nb[M.nb.size]? = some (tcells none 0 0 0) → N.nb[M2.nb.size]? = some (tcells A n n 0) → Own (fun p => M.nb.size ≤ p ∧ p ≠ M.nb.size ∧ p ≠ M2.nb.size) N 47 A n (uL (mixL (fun q => 32768 - 32768 / 2 ^ (q + 1)) (fun _ => 0) n i)) →
        A27_1 (n : Nat) (some ⟨2 * M.nb.size, 0, none⟩) (some ⟨2 * M2.nb.size, 0, none⟩) (n : Nat) (i : Nat) N (TbR M ((List.range n).map (steepV n), 0, 0)) := by
      intro t
      induction t with
      | zero =>
        intro i N hi K h2 h4 hO
        obtain rfl : n = i := by omega
        rw [mixL_n] at hO
        obtain ⟨a, b1, M', b2, b3, b4, b5⟩ := hO.put1 (fun p hp => by rw [K.floor]; omega) (n := n) (i := n - 1) (z := ((n - 1 : Nat) : Int)) (v := .int .u16 ((32768 : Nat) : Int)) rfl (by omega) (by simp; omega) rfl
        refine w27_1 ⟨fun h => by omega, fun _ => ⟨_, rfl, _, sl_of h4 rfl, ?_⟩⟩
        rw [i64w (by omega), show ((n : Int) - 1) = ((n - 1 : Nat) : Int) by omega]
        refine ⟨_, b1, _, b2, packT hf (Keep.step K b3 fun p hp => hp.1) (at_chg h2 b3 (by omega)) (at_chg h4 b3 (by omega)) (Nat.le_refl _) ?_ (by simp) rfl rfl (Nat.le_refl _)⟩
        rw [uL_set] at b5
        have e : ((List.range n).map (fun q => 32768 - 32768 / 2 ^ (q + 1))).set (n - 1) 32768 = (List.range n).map (steepV n) := by
          refine ext_gn (by simp) fun q hq => ?_
          have hq' : q < n := by simpa using hq
          rw [gn_map hq']
          unfold gn steepV
          rw [List.getD_eq_getElem?_getD, List.getElem?_set]
          by_cases h : n - 1 = q
          · rw [if_pos h, if_pos (by simp; omega), if_pos (by omega)]; rfl
          · rw [if_neg h, List.getElem?_map, List.getElem?_range hq', if_neg (by omega)]; rfl
        rw [e] at b5
        exact b5.mono fun p _ h => ⟨h.1, h.2.1⟩
      | succ t ih =>
        intro i N hi K h2 h4 hO
        obtain ⟨a, b1, M', b2, b3, b4, b5⟩ := hO.put1 (fun p hp => by rw [K.floor]; omega) (n := n) (i := i) (z := ((i : Nat) : Int)) (v := .int .u16 ((32768 - 32768 / 2 ^ (i + 1) : Nat) : Int)) rfl (by omega) (by rw [List.length_map, mixL_len]; omega) rfl
        have hs := shr_nat (P := Try.prog) (t := 47) (tb := 3) (k := .u16) (k2 := .i64) (x := 32768) (q := i + 1) (z := IntKind.i64.wrap ((i : Int) + 1)) (by rw [i64w (by omega)]; omega) (show i + 1 ≤ 16 by omega)
        refine w27_1 ⟨fun _ => ⟨_, rfl, _, sl_of h4 rfl, _, hs, _, rfl, _, b1, ?_⟩, fun h => by omega⟩
        have hle : 32768 / 2 ^ (i + 1) ≤ 32768 := Nat.div_le_self ..
        rw [u16w (by generalize 32768 / 2 ^ (i + 1) = z at hle; omega), show (32768 : Int) - ((32768 / 2 ^ (i + 1) : Nat) : Int) = ((32768 - 32768 / 2 ^ (i + 1) : Nat) : Int) by generalize 32768 / 2 ^ (i + 1) = z at hle; omega]
        refine ⟨_, b2, ?_⟩
        rw [i64w (by omega), show ((i : Int) + 1) = ((i + 1 : Nat) : Int) by omega]
        rw [uL_set, mixL_set (f := fun q => 32768 - 32768 / 2 ^ (q + 1))] at b5
        exact ih (i + 1) (by omega) (Keep.step K b3 fun p hp => hp.1) (at_chg h2 b3 (by omega)) (at_chg h4 b3 (by omega)) b5
    exact loop n 0 (Nat.zero_add _) KM a2 u (by rw [mixL_0]; exact hO)
theorem c28 (hf : M.floor ≤ M.nb.size) {x : Int} : Cn Try.prog 28 #[.int .i64 x] M (TbR M (steepS x)) := by
  have a0 := newI (M := M) none 0 0 0
  have K0 : Keep M (M.new (tcells none 0 0 0)) := .new _ _
  refine w28_0 ?_
  generalize M.new (tcells none 0 0 0) = N at a0 K0 ⊢
  have key : ∀ b : Bool, b = decide (¬ (2 ≤ x ∧ x ≤ 16)) → A28_1 x (some ⟨2 * M.nb.size, 0, none⟩) b N (TbR M (steepS x)) := by
    intro b hb
    refine w28_1 ⟨fun h => ?_, fun h => ?_⟩
    · rw [h] at hb
      unfold steepS; rw [if_neg (of_decide_eq_true hb.symm)]
      obtain ⟨M1, p1, M2, p2, s, e1, x, e2, hh⟩ := packE hf K0 a0 (Nat.le_refl _)
      exact ⟨_, rfl, _, p1, _, p2, _, rfl, _, e1, _, e2, hh⟩
    · rw [h] at hb
      have hx : 2 ≤ x ∧ x ≤ 16 := Decidable.not_not.1 (of_decide_eq_false hb.symm)
      obtain ⟨n, rfl⟩ : ∃ n : Nat, x = (n : Nat) := ⟨x.toNat, by omega⟩
      unfold steepS; rw [if_pos hx, Int.toNat_natCast]
      have b0 := newI (M := N) none 0 0 0
      have K1 : Keep N (N.new (tcells none 0 0 0)) := .new _ _
      generalize N.new (tcells none 0 0 0) = N1 at b0 K1 ⊢
      have hj : M.nb.size < N.nb.size := lt_of_at a0
      have loop : ∀ (t i : Nat) (A : Option Addr) (c : Nat) {R : Mem}, i + t + 1 = n → i ≤ c → Keep M R → R.nb[M.nb.size]? = some (tcells none 0 0 0) → R.nb[N.nb.size]? = some (tcells A i c 0) → Own (fun p => M.nb.size ≤ p ∧ p ≠ M.nb.size ∧ p ≠ N.nb.size) R 47 A c (uL ((List.range i).map (steepV n))) →
          A28_2 (n : Nat) (some ⟨2 * M.nb.size, 0, none⟩) (some ⟨2 * N.nb.size, 0, none⟩) ((32768 / 2 ^ i : Nat) : Int) (i : Nat) R (TbR M ((List.range n).map (steepV n), 0, 0)) := by
        intro t
        induction t with
        | zero =>
          intro i A c R hi hc K h2 h4 hO
          have hR1 := lt_of_at h4
          have hR2 := lt_of_at h2
          obtain ⟨A', c', M', g1, M2, g2, g3, g4, g5, g6, g7⟩ := appT (S := fun _ => True) hf K (j := N.nb.size) (v := 32768) (fun _ _ _ _ => trivial) h4 (by omega) (T := fun p => M.nb.size ≤ p ∧ p ≠ M.nb.size ∧ p ≠ N.nb.size) (fun q hq => by omega) (fun q hq => ⟨hq.1, hq.2.2⟩) hO (by simp) (by omega)
          refine w28_2 ⟨fun h => by rw [i64w (by omega)] at h; omega, fun _ => ⟨_, rfl, _, sl_of h4 rfl, _, g1, _, rfl, _, rfl, _, g2, packT hf g3 (at_chg h2 g4 (by omega)) g5 (Nat.le_refl _) ?_ (by simp; omega) rfl rfl g7⟩⟩
          refine Own.mono (S := fun p => M.nb.size ≤ p ∧ p ≠ M.nb.size ∧ p ≠ N.nb.size) ?_ fun p _ h => ⟨h.1, h.2.1⟩
          have e : (List.range n).map (steepV n) = (List.range i).map (steepV n) ++ [32768] := by
            rw [show n = i + 1 by omega, range_map_succ]
            congr 2
            unfold steepV; rw [if_pos rfl]
          show Own _ _ _ _ _ (uL ((List.range n).map (steepV n)))
          rw [e]; exact g6
        | succ t ih =>
          intro i A c R hi hc K h2 h4 hO
          have hR1 := lt_of_at h4
          have hR2 := lt_of_at h2
          have hv : steepV n i = 32768 - 32768 / 2 ^ (i + 1) := by unfold steepV; rw [if_neg (by omega)]
          obtain ⟨A', c', M', g1, M2, g2, g3, g4, g5, g6, g7⟩ := appT (S := fun _ => True) hf K (j := N.nb.size) (v := steepV n i) (fun _ _ _ _ => trivial) h4 (by omega) (T := fun p => M.nb.size ≤ p ∧ p ≠ M.nb.size ∧ p ≠ N.nb.size) (fun q hq => by omega) (fun q hq => ⟨hq.1, hq.2.2⟩) hO (by simp) (by omega)
          have e1 : ((32768 / 2 ^ i : Nat) : Int).tdiv 2 = ((32768 / 2 ^ (i + 1) : Nat) : Int) := by
            rw [show (2 : Int) = ((2 : Nat) : Int) from rfl, tdivN, Nat.div_div_eq_div_mul, ← Nat.pow_succ]
          have hle : 32768 / 2 ^ (i + 1) ≤ 32768 := Nat.div_le_self ..
          refine w28_2 ⟨fun _ => ⟨_, rfl, _, sl_of h4 rfl, ?_⟩, fun h => by rw [i64w (by omega)] at h; omega⟩
          rw [e1]
          have e2 : IntKind.u16.wrap (IntKind.i64.wrap (32768 - IntKind.i64.wrap ((32768 / 2 ^ (i + 1) : Nat) : Int))) = ((steepV n i : Nat) : Int) := by
            rw [hv]
            generalize 32768 / 2 ^ (i + 1) = z at hle ⊢
            rw [i64w (x := ((z : Nat) : Int)) (by omega), i64w (by omega), u16w (by omega)]; omega
          rw [e2]
          refine ⟨_, g1, _, rfl, _, rfl, _, g2, ?_⟩
          rw [i64w (x := ((32768 / 2 ^ (i + 1) : Nat) : Int)) (by generalize 32768 / 2 ^ (i + 1) = z at hle; omega), i64w (by omega), show ((i : Int) + 1) = ((i + 1 : Nat) : Int) by omega]
          refine ih (i + 1) A' c' (by omega) g7 g3 (at_chg h2 g4 (by omega)) g5 ?_
          rw [range_map_succ]; exact g6
      have := loop (n - 1) 0 none 0 (R := N1) (by omega) (Nat.le_refl _) (K0.trans K1) (at_keep a0 K1) b0 Own.empty
      exact this
  refine ⟨fun h => key _ ?_, fun h => key _ ?_⟩
  · rw [Bool.eq_iff_iff]; simp; omega
  · rw [Bool.eq_iff_iff]; simp; omega
end
end Go.Zt
