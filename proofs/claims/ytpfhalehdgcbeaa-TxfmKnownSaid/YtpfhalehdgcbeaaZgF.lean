/- Layer 7: the kinds' rows, and what is asked of them. -/
import Derived.Test.YtpfhalehdgcbeaaZgE
set_option linter.unusedSimpArgs false
set_option linter.unusedVariables false
set_option maxRecDepth 100000
namespace Go.Zt
open Go Go.Sim Go.Proofs Go.RowKit

def idW (n : Nat) : Int := if n = 4 then 5793 else if n = 8 then 8192 else if n = 16 then 11586 else if n = 32 then 16384 else 0
/-- How much of the i-th sample the k-th coefficient is. -/
def wS (kind n k i : Nat) : Int :=
  if kind = 0 then (if k = 0 then cosT 32 else cosT (((2 * i + 1) * k * 64 / n : Nat) : Int))
  else if kind = 1 then cosT (64 - (((2 * i + 1) * (2 * k + 1) * 32 / n : Nat) : Int))
  else if k = i then idW n else 0
theorem idW_b (n : Nat) : 0 ≤ idW n ∧ idW n ≤ 16384 := by
  unfold idW
  constructor <;> (repeat' split) <;> decide
theorem wS_b (kind n k i : Nat) : -16384 ≤ wS kind n k i ∧ wS kind n k i ≤ 16384 := by
  unfold wS
  split
  · split
    · have := cosT_b 32; omega
    · have := cosT_b (((2 * i + 1) * k * 64 / n : Nat) : Int); omega
  · split
    · have := cosT_b (64 - (((2 * i + 1) * (2 * k + 1) * 32 / n : Nat) : Int)); omega
    · split
      · have := idW_b n; omega
      · omega
def isFn (v : Value) : Prop := ∃ f a b, v = .func f a b
/-- A function value that tells weights. -/
def Wt (b0 : Nat) (M : Mem) (wv : Value) (n : Nat) (w : Nat → Nat → Int) : Prop :=
  isFn wv ∧ ∀ k i, k < n → i < n → ∃ c, callVal Try.prog wv #[.int .i64 (k : Nat), .int .i64 (i : Nat)] = some c ∧ ∀ N, Kp b0 M N → Cn Try.prog c.1 c.2 N fun v N' => v = .int .i64 (w k i) ∧ N' = N
theorem Wt.kp {b0 : Nat} {M N : Mem} {wv : Value} {n : Nat} {w : Nat → Nat → Int} (h : Wt b0 M wv n w) (K : Kp b0 M N) : Wt b0 N wv n w :=
  ⟨h.1, fun k i hk hi => by
    obtain ⟨c, h1, h2⟩ := h.2 k i hk hi
    exact ⟨c, h1, fun R hR => h2 R (K.trans hR)⟩⟩
theorem c69 {M : Mem} {jt jn n k i : Nat} (ht : Tb M jt) (hn : M.nb[jn]? = some (.cells #[.int .i64 (n : Nat)] 3)) (h1 : 1 ≤ n) (h64 : n ≤ 64) (hk : k < n) (hi : i < n) :
    Cn Try.prog 69 #[.int .i64 (k : Nat), .int .i64 (i : Nat), .pointer (some ⟨2 * jt, 0, none⟩), .pointer (some ⟨2 * jn, 0, none⟩)] M fun v N => v = .int .i64 (wS 0 n k i) ∧ N = M := by
  refine w69_0 ⟨fun h0 => Cn.eq (c70 ht) ⟨_, rfl, ?_, rfl⟩, fun h0 => ⟨_, rfl, _, int_of hn rfl, ?_⟩⟩
  · have h0 : k = 0 := by omega
    simp [wS, h0]
  have hk0 : k ≠ 0 := fun e => h0 (by rw [e]; rfl)
  have m1 : (2 * i + 1) * k ≤ 129 * 64 := Nat.mul_le_mul (by omega) (by omega)
  have e1 : IntKind.i64.wrap (IntKind.i64.wrap (IntKind.i64.wrap (IntKind.i64.wrap (2 * (i : Int)) + 1) * (k : Int)) * 64) = (((2 * i + 1) * k * 64 : Nat) : Int) := by
    rw [i64w (x := 2 * (i : Int)) (by omega), i64w (x := 2 * (i : Int) + 1) (by omega), show (2 * (i : Int) + 1) * (k : Int) = (((2 * i + 1) * k : Nat) : Int) by simp]
    generalize (2 * i + 1) * k = q at m1 ⊢
    rw [i64w (x := (q : Int)) (by omega), i64w (by omega)]; omega
  rw [e1]
  have hd : (2 * i + 1) * k * 64 / n ≤ 129 * 64 * 64 := Nat.le_trans (Nat.div_le_self ..) (Nat.mul_le_mul m1 (Nat.le_refl _))
  have ew : wS 0 n k i = cosT (((2 * i + 1) * k * 64 / n : Nat) : Int) := by simp [wS, hk0]
  refine ⟨_, binV_quo (by omega), _, rfl, ?_⟩
  rw [tdivN, ew]
  generalize (2 * i + 1) * k * 64 / n = d at hd ⊢
  rw [i64w (by omega)]
  exact Cn.eq (c70 ht) ⟨_, rfl, rfl, rfl⟩
theorem c71 {M : Mem} {jt jn n k i : Nat} (ht : Tb M jt) (hn : M.nb[jn]? = some (.cells #[.int .i64 (n : Nat)] 3)) (h1 : 1 ≤ n) (h64 : n ≤ 64) (hk : k < n) (hi : i < n) :
    Cn Try.prog 71 #[.int .i64 (k : Nat), .int .i64 (i : Nat), .pointer (some ⟨2 * jt, 0, none⟩), .pointer (some ⟨2 * jn, 0, none⟩)] M fun v N => v = .int .i64 (wS 1 n k i) ∧ N = M := by
  refine w71_0 ⟨_, rfl, _, int_of hn rfl, ?_⟩
  have m1 : (2 * i + 1) * (2 * k + 1) ≤ 129 * 129 := Nat.mul_le_mul (by omega) (by omega)
  have e1 : IntKind.i64.wrap (IntKind.i64.wrap (IntKind.i64.wrap (IntKind.i64.wrap (2 * (i : Int)) + 1) * IntKind.i64.wrap (IntKind.i64.wrap (2 * (k : Int)) + 1)) * 32) = (((2 * i + 1) * (2 * k + 1) * 32 : Nat) : Int) := by
    rw [i64w (x := 2 * (i : Int)) (by omega), i64w (x := 2 * (i : Int) + 1) (by omega), i64w (x := 2 * (k : Int)) (by omega), i64w (x := 2 * (k : Int) + 1) (by omega), show (2 * (i : Int) + 1) * (2 * (k : Int) + 1) = (((2 * i + 1) * (2 * k + 1) : Nat) : Int) by simp]
    generalize (2 * i + 1) * (2 * k + 1) = q at m1 ⊢
    rw [i64w (x := (q : Int)) (by omega), i64w (by omega)]; omega
  rw [e1]
  have hd : (2 * i + 1) * (2 * k + 1) * 32 / n ≤ 129 * 129 * 32 := Nat.le_trans (Nat.div_le_self ..) (Nat.mul_le_mul m1 (Nat.le_refl _))
  have ew : wS 1 n k i = cosT (64 - (((2 * i + 1) * (2 * k + 1) * 32 / n : Nat) : Int)) := by simp [wS]
  refine ⟨_, binV_quo (by omega), _, rfl, ?_⟩
  rw [tdivN, ew]
  generalize (2 * i + 1) * (2 * k + 1) * 32 / n = d at hd ⊢
  rw [i64w (x := (d : Int)) (by omega), i64w (by omega)]
  exact Cn.eq (c70 ht) ⟨_, rfl, rfl, rfl⟩
theorem c72 {M : Mem} {jf n k i : Nat} (hn : M.nb[jf]? = some (.cells #[.int .i64 (idW n)] 3)) :
    Cn Try.prog 72 #[.int .i64 (k : Nat), .int .i64 (i : Nat), .pointer (some ⟨2 * jf, 0, none⟩)] M fun v N => v = .int .i64 (wS 2 n k i) ∧ N = M := by
  refine w72_0 ⟨fun h => ⟨?_, rfl⟩, fun h => ⟨_, rfl, _, int_of hn rfl, ?_, rfl⟩⟩
  · have : k ≠ i := fun e => h (by rw [e])
    simp [wS, this]
  · have : k = i := by omega
    simp [wS, this]
theorem set2c {M : Mem} {j : Nat} {a b x y : Value} {t : TypeId} (h : M.nb[j]? = some (.cells #[a, b] t)) (hf : M.floor ≤ j) (hx : oneCell x = true) (hy : oneCell y = true) :
    ∃ N, M.put (2 * j) 0 x = some N ∧ ∃ N2, N.put (2 * j) (0 + 1) y = some N2 ∧ Chg (· = j) M N2 ∧ N2.nb[j]? = some (.cells #[x, y] t) := by
  have p1 := put_of (i := 0) (v := x) h hf (by simp) hx
  have a1 := upd_at (M := M) (b := .cells ((#[a, b] : Array Value).setIfInBounds 0 x) t) (lt_of_at h)
  have C1 := upd_chg (M := M) (S := (· = j)) (b := .cells ((#[a, b] : Array Value).setIfInBounds 0 x) t) (j := j) rfl
  have p2 := put_of (i := 0 + 1) (v := y) a1 (by rw [C1.floor]; exact hf) (by simp) hy
  exact ⟨_, p1, _, p2, C1.trans (upd_chg rfl), by rw [upd_at (lt_of_at a1)]; rfl⟩
/-- A kind's rows: how long at most, the weights. -/
def KdR (b0 : Nat) (kind : Int) (n : Nat) (most : Nat) (N : Mem) (wv : Value) : Prop :=
  (kind = 0 ∧ most = 64 ∧ (n ≤ 64 → Wt b0 N wv n (wS 0 n))) ∨ (kind = 1 ∧ most = 16 ∧ (n ≤ 64 → Wt b0 N wv n (wS 1 n))) ∨ (kind = 2 ∧ most = 32 ∧ (n ≤ 64 → Wt b0 N wv n (wS 2 n))) ∨ (kind = 3 ∧ most = 4 ∧ wv = .nilFunc) ∨ (kind ≠ 0 ∧ kind ≠ 1 ∧ kind ≠ 2 ∧ kind ≠ 3 ∧ most = 0 ∧ wv = .nilFunc)
theorem KdR.kp {b0 : Nat} {kind : Int} {n most : Nat} {M N : Mem} {wv : Value} (h : KdR b0 kind n most M wv) (K : Kp b0 M N) : KdR b0 kind n most N wv := by
  rcases h with ⟨a, b, c⟩ | ⟨a, b, c⟩ | ⟨a, b, c⟩ | h | h
  · exact .inl ⟨a, b, fun h => (c h).kp K⟩
  · exact .inr (.inl ⟨a, b, fun h => (c h).kp K⟩)
  · exact .inr (.inr (.inl ⟨a, b, fun h => (c h).kp K⟩))
  · exact .inr (.inr (.inr (.inl h)))
  · exact .inr (.inr (.inr (.inr h)))
theorem KdR.one {b0 : Nat} {kind : Int} {n most : Nat} {M : Mem} {wv : Value} (h : KdR b0 kind n most M wv) (hn : n ≤ 64) : oneCell wv = true := by
  have f : isFn wv → oneCell wv = true := by rintro ⟨f, a, b, rfl⟩; rfl
  rcases h with ⟨a, b, c⟩ | ⟨a, b, c⟩ | ⟨a, b, c⟩ | ⟨_, _, rfl⟩ | ⟨_, _, _, _, _, rfl⟩
  · exact f (c hn).1
  · exact f (c hn).1
  · exact f (c hn).1
  · rfl
  · rfl
theorem c64 {M : Mem} (hf : M.floor ≤ M.nb.size) {kind : Int} {n : Nat} (hn : 1 ≤ n) (hn2 : n ≤ 1048576) :
    Cn Try.prog 64 #[.int .i64 kind, .int .i64 (n : Nat)] M fun v N => ∃ most wv, v = .agg #[.int .i64 (most : Nat), wv] ∧ oneCell wv = true ∧ Keep M N ∧ KdR M.nb.size kind n most N wv := by
  refine w64_0 ?_
  have a1 := Mem.new_at M (.cells #[.int .i64 (n : Nat)] 3)
  have K1 : Keep M (M.new (.cells #[.int .i64 (n : Nat)] 3)) := .new _ _
  have hs1 : (M.new (.cells #[.int .i64 (n : Nat)] 3)).nb.size = M.nb.size + 1 := Mem.new_size _ _
  generalize M.new (.cells #[.int .i64 (n : Nat)] 3) = M1 at a1 K1 hs1 ⊢
  have a2 := Mem.new_at M1 (.cells #[.int .i64 0, .nilFunc] 54)
  have K2 : Keep M1 (M1.new (.cells #[.int .i64 0, .nilFunc] 54)) := .new _ _
  generalize M1.new (.cells #[.int .i64 0, .nilFunc] 54) = M2 at a2 K2 ⊢
  have K02 := K1.trans K2
  refine Cn.mono (c68 (by rw [K02.floor]; exact Nat.le_trans hf K02.size)) ?_
  rintro v N1 ⟨rfl, K3⟩
  have K03 := K02.trans K3
  have b1 := at_keep (at_keep a1 K2) K3
  have b2 := at_keep a2 K3
  have hfN : N1.floor ≤ N1.nb.size := by rw [K03.floor]; exact Nat.le_trans hf K03.size
  have z0 := Mem.new_at N1 (.cells (List.replicate 65 (Value.int .i16 0)).toArray 65)
  obtain ⟨N, g1, g2, g3⟩ := fill_new (l := tabV) (o := 0) z0 hfN (by decide) (by decide)
  have bt : Tb N N1.nb.size := g3
  have K4 : Keep N1 N := Keep.step (Chg.new (S := fun _ => False) N1 _) g2 fun i hi => by omega
  have b1 := at_keep b1 K4
  have b2 := at_keep b2 K4
  have K04 := K03.trans K4
  have hf1 : N.floor ≤ M1.nb.size := by rw [K04.floor]; omega
  have hlt1 := lt_of_at b2
  have hltt := lt_of_at bt
  have hne : N1.nb.size ≠ M1.nb.size := by have := lt_of_at (at_keep a2 K3); omega
  refine ⟨_, rfl, _, rfl, _, rfl, _, rfl, _, rfl, _, rfl, _, rfl, _, rfl, _, rfl, _, rfl, _, rfl, _, rfl, _, rfl, _, rfl, _, rfl, _, rfl, _, rfl, _, rfl, _, rfl, _, rfl, _, rfl, _, rfl, _, rfl, _, rfl, _, rfl, _, rfl, _, rfl, _, rfl, _, rfl, _, rfl, _, rfl, _, rfl, _, rfl, _, rfl, _, rfl, _, rfl, _, rfl, _, rfl, _, rfl, _, rfl, _, rfl, _, rfl, _, rfl, _, rfl, _, rfl, _, rfl, _, rfl, _, rfl, _, rfl, _, rfl, _, rfl, _, rfl, _, rfl, _, rfl, _, rfl, _, rfl, _, rfl, _, rfl, _, rfl, _, rfl, _, rfl, _, rfl, _, rfl, _, rfl, _, rfl, _, rfl, ?_⟩
  refine (puts_of (l := tabV) g1 ?_ : putsEx (N1.new (.cells (List.replicate 65 (Value.int .i16 0)).toArray 65)) (2 * N1.nb.size) 0 tabV _)
  have fin : ∀ (R : Mem), Keep N R → ∀ (x y : Value), oneCell x = true → oneCell y = true → ∃ R1, R.put (2 * M1.nb.size) 0 x = some R1 ∧ ∃ R2, R1.put (2 * M1.nb.size) (0 + 1) y = some R2 ∧ Keep M R2 ∧ R2.nb[M1.nb.size]? = some (.cells #[x, y] 54) ∧ (∀ j b, R.nb[j]? = some b → j ≠ M1.nb.size → R2.nb[j]? = some b) := by
    intro R KR x y hx hy
    obtain ⟨R1, p1, R2, p2, C, a⟩ := set2c (at_keep b2 KR) (by rw [KR.floor]; exact hf1) hx hy
    exact ⟨R1, p1, R2, p2, Keep.step (K04.trans KR) C fun i hi => by omega, a, fun j b hb hj => at_chg hb C hj⟩
  refine ⟨fun h0 => ?_, fun h0 => ⟨fun h1 => ?_, fun h1 => ⟨fun h2 => ?_, fun h2 => ⟨fun h3 => ?_, fun h3 => ?_⟩⟩⟩⟩
  · obtain ⟨R1, p1, R2, p2, K, a, hold⟩ := fin N (.refl _) (.int .i64 64) (.func (.func 69) #[] #[.pointer (some ⟨2 * N1.nb.size, 0, none⟩), .pointer (some ⟨2 * M.nb.size, 0, none⟩)]) rfl rfl
    refine ⟨_, p1, _, p2, _, int_of a rfl, _, cell_of a, 64, _, rfl, rfl, K, .inl ⟨h0, rfl, fun h64 => ⟨⟨_, _, _, rfl⟩, fun k i hk hi => ⟨(69, #[.int .i64 (k : Nat), .int .i64 (i : Nat), .pointer (some ⟨2 * N1.nb.size, 0, none⟩), .pointer (some ⟨2 * M.nb.size, 0, none⟩)]), by kernel_rfl, fun R hR => ?_⟩⟩⟩⟩
    exact c69 (hR _ _ (by have := K03.size; omega) (hold _ _ bt hne)) (hR _ _ (Nat.le_refl _) (hold _ _ b1 (by omega))) hn h64 hk hi
  · obtain ⟨R1, p1, R2, p2, K, a, hold⟩ := fin N (.refl _) (.int .i64 16) (.func (.func 71) #[] #[.pointer (some ⟨2 * N1.nb.size, 0, none⟩), .pointer (some ⟨2 * M.nb.size, 0, none⟩)]) rfl rfl
    refine ⟨_, p1, _, p2, _, int_of a rfl, _, cell_of a, 16, _, rfl, rfl, K, .inr (.inl ⟨h1, rfl, fun h64 => ⟨⟨_, _, _, rfl⟩, fun k i hk hi => ⟨(71, #[.int .i64 (k : Nat), .int .i64 (i : Nat), .pointer (some ⟨2 * N1.nb.size, 0, none⟩), .pointer (some ⟨2 * M.nb.size, 0, none⟩)]), by kernel_rfl, fun R hR => ?_⟩⟩⟩)⟩
    exact c71 (hR _ _ (by have := K03.size; omega) (hold _ _ bt hne)) (hR _ _ (Nat.le_refl _) (hold _ _ b1 (by omega))) hn h64 hk hi
  · have u : Try.prog.underlying 46 = some (.map 3 3) := by kernel_rfl
    have uk : Try.prog.underlying 3 = some (.int .i64) := by kernel_rfl
    have m0 := Mem.new_at N (.map #[] 0)
    have Km : Keep N (N.new (.map #[] 0)) := .new _ _
    have hfm : (N.new (.map #[] 0)).floor ≤ N.nb.size := by show N.floor ≤ _; omega
    have sz : ∀ {R : Mem} {b : Blk}, (R.upd N.nb.size b).nb.size = R.nb.size := fun {R b} => upd_size b
    have q1 := mapPut_int (k := 4) (x := .int .i64 5793) u uk m0 hfm rfl (fun e he => by simp at he) rfl
    have m1 := upd_at (b := .map ((#[] : Array MapEntry).push { key := .int .i64 4, val := .int .i64 5793, born := 0 }) (0 + 1)) (lt_of_at m0)
    have C1 := upd_chg (M := N.new (.map #[] 0)) (S := (· = N.nb.size)) (b := .map ((#[] : Array MapEntry).push { key := .int .i64 4, val := .int .i64 5793, born := 0 }) (0 + 1)) (j := N.nb.size) rfl
    have q2 := mapPut_int (k := 8) (x := .int .i64 8192) u uk m1 (by rw [C1.floor]; exact hfm) rfl (fun e he => by simp at he; subst he; rfl) rfl
    have m2 := upd_at (b := .map (((#[] : Array MapEntry).push { key := .int .i64 4, val := .int .i64 5793, born := 0 }).push { key := .int .i64 8, val := .int .i64 8192, born := 0 + 1 }) (0 + 1 + 1)) (lt_of_at m1)
    have C2 := C1.trans (upd_chg (S := (· = N.nb.size)) (b := .map (((#[] : Array MapEntry).push { key := .int .i64 4, val := .int .i64 5793, born := 0 }).push { key := .int .i64 8, val := .int .i64 8192, born := 0 + 1 }) (0 + 1 + 1)) (j := N.nb.size) rfl)
    have q3 := mapPut_int (k := 16) (x := .int .i64 11586) u uk m2 (by rw [C2.floor]; exact hfm) rfl (fun e he => by simp at he; rcases he with rfl | rfl <;> rfl) rfl
    have m3 := upd_at (b := .map ((((#[] : Array MapEntry).push { key := .int .i64 4, val := .int .i64 5793, born := 0 }).push { key := .int .i64 8, val := .int .i64 8192, born := 0 + 1 }).push { key := .int .i64 16, val := .int .i64 11586, born := 0 + 1 + 1 }) (0 + 1 + 1 + 1)) (lt_of_at m2)
    have C3 := C2.trans (upd_chg (S := (· = N.nb.size)) (b := .map ((((#[] : Array MapEntry).push { key := .int .i64 4, val := .int .i64 5793, born := 0 }).push { key := .int .i64 8, val := .int .i64 8192, born := 0 + 1 }).push { key := .int .i64 16, val := .int .i64 11586, born := 0 + 1 + 1 }) (0 + 1 + 1 + 1)) (j := N.nb.size) rfl)
    have q4 := mapPut_int (k := 32) (x := .int .i64 16384) u uk m3 (by rw [C3.floor]; exact hfm) rfl (fun e he => by simp at he; rcases he with rfl | rfl | rfl <;> rfl) rfl
    have m4 := upd_at (b := .map (((((#[] : Array MapEntry).push { key := .int .i64 4, val := .int .i64 5793, born := 0 }).push { key := .int .i64 8, val := .int .i64 8192, born := 0 + 1 }).push { key := .int .i64 16, val := .int .i64 11586, born := 0 + 1 + 1 }).push { key := .int .i64 32, val := .int .i64 16384, born := 0 + 1 + 1 + 1 }) (0 + 1 + 1 + 1 + 1)) (lt_of_at m3)
    have C4 := C3.trans (upd_chg (S := (· = N.nb.size)) (b := .map (((((#[] : Array MapEntry).push { key := .int .i64 4, val := .int .i64 5793, born := 0 }).push { key := .int .i64 8, val := .int .i64 8192, born := 0 + 1 }).push { key := .int .i64 16, val := .int .i64 11586, born := 0 + 1 + 1 }).push { key := .int .i64 32, val := .int .i64 16384, born := 0 + 1 + 1 + 1 }) (0 + 1 + 1 + 1 + 1)) (j := N.nb.size) rfl)
    have l1 := lookup_int (k := (n : Int)) (z := .int .i64 0) (ok := false) u uk m4 (fun e he => by simp at he; rcases he with rfl | rfl | rfl | rfl <;> rfl) (by kernel_rfl) (fun e he => by simp at he; rcases he with rfl | rfl | rfl | rfl <;> rfl)
    generalize hP : Mem.upd _ N.nb.size (.map (((((#[] : Array MapEntry).push { key := .int .i64 4, val := .int .i64 5793, born := 0 }).push { key := .int .i64 8, val := .int .i64 8192, born := 0 + 1 }).push { key := .int .i64 16, val := .int .i64 11586, born := 0 + 1 + 1 }).push { key := .int .i64 32, val := .int .i64 16384, born := 0 + 1 + 1 + 1 }) (0 + 1 + 1 + 1 + 1)) = R at q4 m4 C4 l1
    have KR : Keep N R := Keep.step Km C4 fun i hi => by omega
    have ev : (((findI (n : Int) ((((#[] : Array MapEntry).push { key := .int .i64 4, val := .int .i64 5793, born := 0 }).push { key := .int .i64 8, val := .int .i64 8192, born := 0 + 1 }).push { key := .int .i64 16, val := .int .i64 11586, born := 0 + 1 + 1 } |>.push { key := .int .i64 32, val := .int .i64 16384, born := 0 + 1 + 1 + 1 }).toList 0).map (·.2)).getD (Value.int .i64 0)) = .int .i64 (idW n) := by
      simp only [Array.toList_push, List.nil_append, List.cons_append, findI, keyI]
      unfold idW
      by_cases e4 : n = 4
      · subst e4; rfl
      by_cases e8 : n = 8
      · subst e8; rfl
      by_cases e16 : n = 16
      · subst e16; rfl
      by_cases e32 : n = 32
      · subst e32; rfl
      simp only [show ¬ ((n : Int) = 4) by omega, show ¬ ((n : Int) = 8) by omega, show ¬ ((n : Int) = 16) by omega, show ¬ ((n : Int) = 32) by omega, e4, e8, e16, e32, if_false, Option.map_none, Option.getD_none]
    simp only [Bool.false_eq_true, if_false] at l1
    rw [ev] at l1
    have f0 := Mem.new_at R (.cells #[.int .i64 0] 3)
    have hfR : R.floor ≤ R.nb.size := by rw [KR.floor]; have := KR.size; omega
    have pf := put_of (i := 0) (v := .int .i64 (idW n)) f0 hfR (by simp) rfl
    have af := upd_at (M := R.new (.cells #[.int .i64 0] 3)) (b := .cells ((#[.int .i64 0] : Array Value).setIfInBounds 0 (.int .i64 (idW n))) 3) (lt_of_at f0)
    have Kf : Keep R ((R.new (.cells #[.int .i64 0] 3)).upd R.nb.size (.cells ((#[.int .i64 0] : Array Value).setIfInBounds 0 (.int .i64 (idW n))) 3)) := Keep.step (Chg.new (S := fun _ => False) R _) (upd_chg (S := (· = R.nb.size)) rfl) fun i hi => by omega
    generalize (R.new (.cells #[.int .i64 0] 3)).upd R.nb.size (.cells ((#[.int .i64 0] : Array Value).setIfInBounds 0 (.int .i64 (idW n))) 3) = R' at pf af Kf
    obtain ⟨R1, p1, R2, p2, K, a, hold⟩ := fin R' (KR.trans Kf) (.int .i64 32) (.func (.func 72) #[] #[.pointer (some ⟨2 * R.nb.size, 0, none⟩)]) rfl rfl
    have hRs : R.nb.size ≠ M1.nb.size := by have := KR.size; omega
    refine ⟨_, q1, _, q2, _, q3, _, q4, _, int_of (at_keep b1 KR) rfl, _, l1, _, rfl, _, pf, _, p1, _, p2, _, int_of a rfl, _, cell_of a, 32, _, rfl, rfl, K, .inr (.inr (.inl ⟨h2, rfl, fun h64 => ⟨⟨_, _, _, rfl⟩, fun k i hk hi => ⟨(72, #[.int .i64 (k : Nat), .int .i64 (i : Nat), .pointer (some ⟨2 * R.nb.size, 0, none⟩)]), by kernel_rfl, fun S hS => ?_⟩⟩⟩))⟩
    exact c72 (hS _ _ (by have := K04.size; have := KR.size; omega) (hold _ _ af hRs))
  · obtain ⟨R1, p1, R2, p2, K, a, hold⟩ := fin N (.refl _) (.int .i64 4) .nilFunc rfl rfl
    exact ⟨_, p1, _, p2, _, int_of a rfl, _, cell_of a, 4, _, rfl, rfl, K, .inr (.inr (.inr (.inl ⟨h3, rfl, rfl⟩)))⟩
  · obtain ⟨R1, p1, R2, p2, K, a, hold⟩ := fin N (.refl _) (.int .i64 0) .nilFunc rfl rfl
    exact ⟨_, p1, _, p2, _, int_of a rfl, _, cell_of a, 0, _, rfl, rfl, K, .inr (.inr (.inr (.inr ⟨h0, h1, h2, h3, rfl, rfl⟩)))⟩
end Go.Zt

