/- Layer 8: Inverse of the program, walked. -/
import Derived.Test.YtpfhalehdgcbeaaZga
set_option linter.unusedSimpArgs false
set_option linter.unusedVariables false
namespace Go.Zt
open Go Go.Sim Go.Proofs Go.RowKit

section
variable {M0 : Mem} {X A : Option Addr} {lx cx cap n s jc jt jb : Nat} {typ : Int} {x : List Int}
/-- What stands while a block is worked on. -/
structure Bk (M0 : Mem) (A : Option Addr) (cap n jc jt jb : Nat) (typ : Int) (M : Mem) (G : Nat → Nat → Int) : Prop where
  keep : Keep M0 M
  t : M.nb[jt]? = some (.cells #[.int .i64 typ] 3)
  b : M.nb[jb]? = some (.cells #[.int .i64 (n : Nat), .slice A (n * n) cap] 43)
  own : Own (· = jc) M 3 A cap (Ints (gridL n G))
theorem Bk.next {M N : Mem} {G : Nat → Nat → Int} (h : Bk M0 A cap n jc jt jb typ M G) (K : Keep M N) : Bk M0 A cap n jc jt jb typ N G :=
  ⟨h.keep.trans K, at_keep h.t K, at_keep h.b K, h.own.chg K fun _ _ _ h => h⟩
theorem Bk.turn {M N : Mem} {G H : Nat → Nat → Int} (h : Bk M0 A cap n jc jt jb typ M G) (hc : M0.nb.size ≤ jc) (ht : jt ≠ jc) (hb : jb ≠ jc) (C : Chg (· = jc) M N) (hO : Own (· = jc) N 3 A cap (Ints (gridL n H))) : Bk M0 A cap n jc jt jb typ N H :=
  ⟨Keep.step h.keep C fun j hj => by rw [hj]; exact hc, at_chg h.t C ht, at_chg h.b C hb, hO⟩
theorem c12_end (hf : M0.floor ≤ M0.nb.size) (hc : M0.nb.size ≤ jc) (ht : jt ≠ jc) (hb : jb ≠ jc) (hz : Szt n typ) (hs : s ≤ n) {M : Mem} (h : Bk M0 A cap n jc jt jb typ M (inG0 s x (s * s))) {t : Int} (hlx : ¬ t < (lx : Int)) :
    A12_1 (n : Nat) (some ⟨2 * jt, 0, none⟩) (s : Nat) (some ⟨2 * jb, 0, none⟩) X lx cx (lx : Nat) t M (TfR M0 (gridL n (invH2 n s typ x), 0)) := by
  have hn : n ≤ 64 := by have := hz.sz; omega
  have hjc : jc < M.nb.size := by
    rcases h.own with ⟨_, h0, _⟩ | ⟨j, cs, sp, _, _, rfl, h4, _⟩
    · have := congrArg List.length h0
      rw [List.length_map, gridL_len] at this
      have h1 := hz.sz
      have : 0 < n * n := Nat.mul_pos (by omega) (by omega)
      simp at *; omega
    · exact lt_of_at h4
  refine w12_1 ⟨fun hh => absurd hh hlx, fun _ => ⟨_, rfl, _, int_of h.t rfl, Cn.eq c29 ⟨_, rfl, _, rfl, _, rfl, ?_⟩⟩⟩
  -- the map of bits
  have u : Try.prog.underlying 46 = some (.map 3 3) := by kernel_rfl
  have uk : Try.prog.underlying 3 = some (.int .i64) := by kernel_rfl
  have m0 := Mem.new_at M (.map (esOf []).toArray ([] : List (Int × Value)).length)
  have Km : Keep M (M.new (.map #[] 0)) := .new _ _
  have hfM : M.floor ≤ M.nb.size := fb hf h.keep
  obtain ⟨R1, p1, C1, m1⟩ := mput u uk (k := 4) (x := .int .i64 0) m0 hfM rfl rfl
  obtain ⟨R2, p2, C2, m2⟩ := mput u uk (k := 8) (x := .int .i64 1) m1 (by rw [C1.floor]; exact hfM) rfl rfl
  have C12 := C1.trans C2
  obtain ⟨R3, p3, C3, m3⟩ := mput u uk (k := 16) (x := .int .i64 2) m2 (by rw [C12.floor]; exact hfM) rfl rfl
  have C13 := C12.trans C3
  obtain ⟨R4, p4, C4, m4⟩ := mput u uk (k := 32) (x := .int .i64 2) m3 (by rw [C13.floor]; exact hfM) rfl rfl
  have C14 := C13.trans C4
  obtain ⟨R5, p5, C5, m5⟩ := mput u uk (k := 64) (x := .int .i64 2) m4 (by rw [C14.floor]; exact hfM) rfl rfl
  have C15 := C14.trans C5
  have KR : Keep M R5 := Keep.step Km C15 fun j hj => Nat.le_of_eq hj.symm
  have l1 := lookup_int (k := (n : Nat)) (z := .int .i64 0) (ok := false) u uk m5 (by simpa using esOf_keys _) (by kernel_rfl) (fun e he => by
    simp [esOf, List.zipIdx] at he
    rcases he with rfl | rfl | rfl | rfl | rfl <;> rfl)
  have ev : ((findI (n : Nat) (esOf ([] ++ [((4 : Int), Value.int .i64 0)] ++ [((8 : Int), Value.int .i64 1)] ++ [((16 : Int), Value.int .i64 2)] ++ [((32 : Int), Value.int .i64 2)] ++ [((64 : Int), Value.int .i64 2)])) 0).map (·.2)).getD (.int .i64 0) = .int .i64 (bitsN n : Nat) := by
    rcases hz.sz with rfl | rfl | rfl | rfl | rfl <;> rfl
  have h5 := h.next KR
  have l2 : lookupV Try.prog 46 (.map (some (2 * M.nb.size))) (.int .i64 (n : Nat)) false R5 = some (.int .i64 (bitsN n : Nat), R5) := by
    rw [l1]; simp only [Bool.false_eq_true, if_false]
    rw [ev]
  refine ⟨_, p1, _, p2, _, p3, _, p4, _, p5, _, l2, _, rfl, _, rfl, _, int_of h5.t rfl, ?_⟩
  have hf5 := fb hf h5.keep
  have hjc5 : jc < R5.nb.size := Nat.lt_of_lt_of_le hjc KR.size
  refine Cn.mono (c30 (b := bitsN n) (bitsN_le n) hf5 hjc5) ?_
  rintro gv R6 ⟨hone, K6, hF⟩
  have h6 := h5.next K6
  have hf6 := fb hf h6.keep
  have hjc6 : jc < R6.nb.size := Nat.lt_of_lt_of_le hjc5 K6.size
  -- the cell of the rounding
  have g0 := Mem.new_at R6 (.cells #[.nilFunc] 36)
  have pg := put_of (i := 0) (v := gv) g0 hf6 (by decide) hone
  have Kg : Keep R6 ((R6.new (.cells #[.nilFunc] 36)).upd R6.nb.size (.cells ((#[Value.nilFunc] : Array Value).setIfInBounds 0 gv) 36)) :=
    Keep.step (.new _ _) (upd_chg (S := (· = R6.nb.size)) rfl) fun j hj => Nat.le_of_eq hj.symm
  have ag := upd_at (M := R6.new (.cells #[.nilFunc] 36)) (b := .cells ((#[Value.nilFunc] : Array Value).setIfInBounds 0 gv) 36) (j := R6.nb.size) (by rw [Mem.new_size]; omega)
  generalize (R6.new (.cells #[.nilFunc] 36)).upd R6.nb.size (.cells ((#[Value.nilFunc] : Array Value).setIfInBounds 0 gv) 36) = R7 at pg Kg ag
  have h7 := h6.next Kg
  have hf7 := fb hf h7.keep
  have hjc7 : jc < R7.nb.size := Nat.lt_of_lt_of_le hjc6 Kg.size
  have hF7 : FnOk jc R7 gv (rdS (bitsN n) typ) := hF.pass fun j b _ hb => at_keep hb Kg
  have f34 := fn34 (jg := R6.nb.size) (bitsN_le n) hF7 (by omega) ht ag h7.t
  refine ⟨_, pg, _, rfl, _, int_of h7.b rfl, _, sl_of h7.b rfl, _, rfl, _, int_of h7.b rfl, _, sl_of h7.b rfl, ?_⟩
  have hfj : R7.floor ≤ jc := by rw [h7.keep.floor]; exact Nat.le_trans hf hc
  refine Cn.mono (c31 (count := s) (ys := invY1 n s typ x) hf7 hfj hjc7 hn hs (lineRow hn) f34 trInv h7.own (fun k hk => inv_far (may_y1 hz k) |> fun q => ⟨q.1, q.2.1.trans lineL_len, q.2.2⟩)) ?_
  rintro _ R8 ⟨rfl, C8, O8⟩
  have h8 := h7.turn hc ht hb C8 O8
  have hf8 := fb hf h8.keep
  have hjc8 : jc < R8.nb.size := Nat.lt_of_lt_of_le hjc7 C8.size
  refine ⟨_, rfl, fun hh => absurd rfl hh, fun _ => ⟨_, rfl, _, int_of h8.b rfl, _, sl_of h8.b rfl, _, rfl, _, int_of h8.b rfl, _, sl_of h8.b rfl, _, rfl, _, int_of h8.t rfl, ?_⟩⟩
  refine Cn.mono (c30 (b := 4) (by decide) (M := { R8 with floor := R8.nb.size }) (Nat.le_refl _) hjc8) ?_
  rintro gv2 N9 ⟨_, K9, hF9⟩
  have K9' : Keep R8 { N9 with floor := R8.floor } := K9.unfl
  have hF9' : FnOk jc { N9 with floor := R8.floor } gv2 (rdS 4 typ) := hF9
  generalize { N9 with floor := R8.floor } = R9 at K9' hF9'
  have h9 := h8.next K9'
  have hjc9 : jc < R9.nb.size := Nat.lt_of_lt_of_le hjc8 K9'.size
  refine Cn.mono (c31 (count := n) (ys := invY2 n s typ x) (fb hf h9.keep) (by rw [h9.keep.floor]; exact Nat.le_trans hf hc) hjc9 hn (Nat.le_refl n) lineCol hF9' trInv h9.own (fun k hk => inv_far (may_y2 hz k) |> fun q => ⟨q.1, q.2.1.trans lineL_len, q.2.2⟩)) ?_
  rintro _ Ra ⟨rfl, Ca, Oa⟩
  have ha := h9.turn hc ht hb Ca Oa
  refine ⟨_, rfl, fun hh => absurd rfl hh, fun _ => ⟨_, rfl, _, sl_of ha.b rfl, A, cap, ?_, ha.keep, ha.own.mono fun j _ hj => by rw [hj]; exact hc, own_len ha.own |> fun q => by simpa [gridL_len] using q⟩⟩
  show Value.tuple #[.slice A (n * n) cap, .int .i64 0] = .tuple #[.slice A (gridL n (invH2 n s typ x)).length cap, .int .i64 0]
  rw [gridL_len]
theorem c12_load (hf : M0.floor ≤ M0.nb.size) (hc : M0.nb.size ≤ jc) (ht : jt ≠ jc) (hb : jb ≠ jc) (hz : Szt n typ) (hs : s ≤ n) (hs0 : 0 < s) (hX : Row M0 X (Ints x)) (hlx : lx = x.length) (hss : lx = s * s) :
    ∀ (m t : Nat) {M : Mem}, t + m = lx → Bk M0 A cap n jc jt jb typ M (inG0 s x t) → A12_1 (n : Nat) (some ⟨2 * jt, 0, none⟩) (s : Nat) (some ⟨2 * jb, 0, none⟩) X lx cx (lx : Nat) (t : Nat) M (TfR M0 (gridL n (invH2 n s typ x), 0)) := by
  have hn : n ≤ 64 := by have := hz.sz; omega
  have hss2 : s * s ≤ 64 * 64 := Nat.mul_le_mul (by omega) (by omega)
  intro m
  induction m with
  | zero =>
    intro t M hm h
    obtain rfl : t = lx := by omega
    rw [hss] at h
    exact c12_end hf hc ht hb hz hs h (by omega)
  | succ m ih =>
    intro t M hm h
    have h1 : t / s < s := Nat.div_lt_of_lt_mul (by omega)
    have h2 : t % s < s := Nat.mod_lt _ hs0
    have hix := ix_lt (n := n) (r := t / s) (c := t % s) (by omega) (by omega)
    have hnn : n * n ≤ 64 * 64 := Nat.mul_le_mul hn hn
    obtain ⟨a, i1, i2⟩ := (hX.keep h.keep).int1 (n := lx) (i := t) (z := t) (k := .i64) (x := gx x t) rfl (by omega) (gx_at (by omega))
    refine w12_1 ⟨fun _ => ⟨_, i1, _, i2, _, rfl, _, sl_of h.b rfl, _, binV_quo (by omega), _, rfl, _, binV_rem (by omega), _, rfl, ?_⟩, fun hh => by omega⟩
    refine Cn.eq c28 ⟨_, rfl, ?_⟩
    rw [tdivN, tmodN]
    have key : ∀ p q : Nat, p ≤ 64 → q ≤ 64 → IntKind.i64.wrap (IntKind.i64.wrap (IntKind.i64.wrap ((p : Nat) : Int) * (n : Nat)) + ((q : Nat) : Int)) = ((p * n + q : Nat) : Int) := by
      intro p q hp hq
      have h3 : p * n ≤ 64 * 64 := Nat.mul_le_mul hp hn
      rw [i64w (x := ((p : Nat) : Int)) (by omega), ← Int.natCast_mul, i64w (x := ((p * n : Nat) : Int)) (by omega), i64w (by omega)]; omega
    have hw := key (t / s) (t % s) (by omega) (by omega)
    obtain ⟨c, p1, N, p2, p3, p4, p5⟩ := h.own.put1 (fun j hj => by rw [h.keep.floor, hj]; exact Nat.le_trans hf hc) (n := n * n) (i := t / s * n + t % s) (z := ((t / s * n + t % s : Nat) : Int)) (v := .int .i64 (clipS (gx x t))) rfl hix (by rw [List.length_map, gridL_len]; exact hix) rfl
    rw [show (Ints (gridL n (inG0 s x t))).set (t / s * n + t % s) (.int .i64 (clipS (gx x t))) = Ints (gridL n (inG0 s x (t + 1))) by
      rw [Ints, Ints, ← List.map_set, gridL_set (by omega) (by omega), inG0_set (by omega)]] at p5
    dsimp only
    rw [hw]
    refine ⟨_, p1, N, p2, ?_⟩
    rw [i64w (by omega), show ((t : Int) + 1) = ((t + 1 : Nat) : Int) by omega]
    exact ih (t + 1) (by omega) (h.turn hc ht hb p3 p5)
theorem c12 (hf : M0.floor ≤ M0.nb.size) (hX : Row M0 X (Ints x)) (hlx : lx = x.length) (hb0 : lx ≤ 1048576) {sz : Int} :
    Cn Try.prog 12 #[.int .i64 sz, .int .i64 typ, .slice X lx cx] M0 (TfR M0 (invB sz typ x)) := by
  have a0 := Mem.new_at M0 (.cells #[.int .i64 typ] 3)
  have K0 : Keep M0 (M0.new (.cells #[.int .i64 typ] 3)) := .new _ _
  refine w12_0 ?_
  generalize M0.new (.cells #[.int .i64 typ] 3) = M1 at a0 K0 ⊢
  refine ⟨_, int_of a0 rfl, ?_⟩
  have hm : (if 32 < sz then 32 else sz) = min32 sz := rfl
  rw [hm]
  refine Cn.mono (c27 (fb hf K0) (hX.keep K0) hlx hb0 (by decide)) ?_
  rintro _ M2 ⟨rfl, K2⟩
  have K02 := K0.trans K2
  unfold invB
  refine ⟨_, rfl, fun h => ?_, fun h => ?_⟩
  · rw [if_neg (by omega)]
    exact ⟨none, 0, rfl, K02, Own.empty, Nat.le_refl _⟩
  have h0 : askS sz typ x (min32 sz) 1048576 = 0 := by omega
  rw [if_pos h0]
  obtain ⟨hsz, htyp, hlen, _⟩ := ask_0 h0
  obtain ⟨hz, en⟩ := szt_of hsz htyp
  have hms : min32 sz = ((min32 sz).toNat : Nat) := by unfold min32; split <;> omega
  have hms2 : (min32 sz).toNat ≤ sz.toNat ∧ 0 < (min32 sz).toNat ∧ (min32 sz).toNat ≤ 32 := by unfold min32; split <;> omega
  generalize hn : sz.toNat = n at *
  generalize hs : (min32 sz).toNat = s at *
  rw [hms]
  subst en
  have hn64 : n ≤ 64 := by have := hz.sz; omega
  have hnn : n * n ≤ 64 * 64 := Nat.mul_le_mul hn64 hn64
  have hss2 : s * s ≤ 64 * 64 := Nat.mul_le_mul (by omega) (by omega)
  have hss : lx = s * s := by
    rw [hms, ← Int.natCast_mul, i64w (by omega)] at hlen; omega
  rw [← Int.natCast_mul, i64w (by omega)]
  obtain ⟨A, M3, g1, g2, g3⟩ := madeG (M1 := M2) (k := n * n) (by omega)
  have hne : Ints (List.replicate (n * n) 0) ≠ [] := by
    intro h
    have := congrArg List.length h
    have h1 := hz.sz
    have : 0 < n * n := Nat.mul_pos (by omega) (by omega)
    simp at *; omega
  obtain ⟨jc, j1, j2, j3⟩ := own_one g3 hne
  have K03 := K02.trans g2
  refine ⟨_, g1, _, rfl, ?_⟩
  have b0 := Mem.new_at M3 (.cells #[.int .i64 0, .slice none 0 0] 43)
  have Kb : Keep M3 (M3.new (.cells #[.int .i64 0, .slice none 0 0] 43)) := .new _ _
  have sb := Mem.new_size M3 (.cells #[.int .i64 0, .slice none 0 0] 43)
  have hf3 := fb hf K03
  have p1 := put_of (i := 0) (v := .int .i64 (n : Nat)) b0 hf3 (by decide) rfl
  have u1 := upd_at (M := M3.new (.cells #[.int .i64 0, .slice none 0 0] 43)) (b := .cells ((#[Value.int .i64 0, .slice none 0 0] : Array Value).setIfInBounds 0 (.int .i64 (n : Nat))) 43) (j := M3.nb.size) (by omega)
  have C1 := upd_chg (M := M3.new (.cells #[.int .i64 0, .slice none 0 0] 43)) (S := (· = M3.nb.size)) (b := .cells ((#[Value.int .i64 0, .slice none 0 0] : Array Value).setIfInBounds 0 (.int .i64 (n : Nat))) 43) (j := M3.nb.size) rfl
  have p2 := put_of (i := 1) (v := .slice A (n * n) (n * n)) u1 hf3 (by simp) rfl
  have u2 := upd_at (M := (M3.new (.cells #[.int .i64 0, .slice none 0 0] 43)).upd M3.nb.size (.cells ((#[Value.int .i64 0, .slice none 0 0] : Array Value).setIfInBounds 0 (.int .i64 (n : Nat))) 43)) (b := .cells (((#[Value.int .i64 0, .slice none 0 0] : Array Value).setIfInBounds 0 (.int .i64 (n : Nat))).setIfInBounds 1 (.slice A (n * n) (n * n))) 43) (j := M3.nb.size) (by rw [upd_size]; omega)
  have C2 := C1.trans (upd_chg (S := (· = M3.nb.size)) (b := .cells (((#[Value.int .i64 0, .slice none 0 0] : Array Value).setIfInBounds 0 (.int .i64 (n : Nat))).setIfInBounds 1 (.slice A (n * n) (n * n))) 43) (j := M3.nb.size) rfl)
  have K4 : Keep M3 _ := Keep.step Kb C2 fun j hj => Nat.le_of_eq hj.symm
  refine ⟨_, p1, _, p2, ?_⟩
  have e0 : Ints (List.replicate (n * n) 0) = Ints (gridL n (inG0 s x 0)) := by rw [inG0_0, grid_zero]
  have hjt : M0.nb.size ≠ jc := by
    have := K02.size
    have := lt_of_at a0
    have := K2.size
    omega
  refine c12_load (M0 := M0) (jc := jc) (jt := M0.nb.size) (jb := M3.nb.size) hf (Nat.le_trans K02.size j1) hjt (by omega) hz hms2.1 hms2.2.1 hX hlx hss lx 0 (Nat.zero_add _) ⟨K03.trans K4, at_keep (at_keep a0 (K2.trans g2)) K4, u2, ?_⟩
  rw [← e0]
  exact j3.chg K4 fun _ _ _ h => h
end
end Go.Zt

