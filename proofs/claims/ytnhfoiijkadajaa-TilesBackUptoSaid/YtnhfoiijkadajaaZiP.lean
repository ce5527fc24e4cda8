/- Layer 21: TilesBack. -/
import Derived.Test.YtnhfoiijkadajaaZiO
import Derived.Test.YtnhfoiijkadajaaZiDb
set_option linter.unusedSimpArgs false
set_option linter.unusedVariables false
namespace Go.Zu
open Go Go.Sim Go.Proofs Go.RowKit

theorem bitL_left {a w : List Nat} {i : Nat} (h : i < a.length) : bitL (a ++ w) i = bitL a i := by
  simp only [bitL, List.getD_eq_getElem?_getD, List.getElem?_append_left h]
theorem bitL_right {a w : List Nat} {i : Nat} : bitL (a ++ w) (a.length + i) = bitL w i := by
  simp only [bitL, List.getD_eq_getElem?_getD, List.getElem?_append_right (Nat.le_add_right ..), Nat.add_sub_cancel_left]
theorem bitsN_at : ∀ (n v i : Nat), i < n → bitL (bitsN v n) i = v / 2 ^ (n - 1 - i) % 2
  | 0, v, i, h => by omega
  | n + 1, v, 0, h => by simp [bitsN, bitL]
  | n + 1, v, i + 1, h => by
    have := bitsN_at n v i (by omega)
    simp only [bitL, List.getD_eq_getElem?_getD] at this ⊢
    rw [bitsN, List.getElem?_cons_succ, this, show n + 1 - 1 - (i + 1) = n - 1 - i by omega]
theorem numb_bitsN (v : Nat) : ∀ n k, k ≤ n → numb (bitL (bitsN v n)) 0 k = v % 2 ^ n / 2 ^ (n - k)
  | n, 0, h => by rw [numb, Nat.sub_zero, Nat.div_eq_of_lt (Nat.mod_lt _ (Nat.two_pow_pos n))]
  | n, k + 1, h => by
    rw [numb, numb_bitsN v n k (by omega), Nat.zero_add, bitsN_at n v k (by omega), show n - 1 - k = n - (k + 1) by omega]
    have e1 : n - k = (n - (k + 1)) + 1 := by omega
    have e2 : v / 2 ^ (n - (k + 1)) % 2 = v % 2 ^ n / 2 ^ (n - (k + 1)) % 2 := by
      rw [show n = (n - (k + 1)) + (k + 1) by omega, Nat.pow_add, show n - (k + 1) + (k + 1) - (k + 1) = n - (k + 1) by omega, Nat.mod_mul_right_div_self, Nat.pow_succ, Nat.mul_comm (2 ^ k) 2, Nat.mod_mul_right_mod]
    rw [e2, e1, Nat.pow_succ, ← Nat.div_div_eq_div_mul]
    generalize v % 2 ^ n / 2 ^ (n - (k + 1)) = y
    omega
theorem pack_cons {x : Nat} (hx : x < 256) (w : List Nat) : pack (bitsN x 8 ++ w) = x :: pack w := by
  have hl : (bitsN x 8).length = 8 := bitsN_len x 8
  unfold pack
  rw [List.length_append, hl, show (8 + w.length + 7) / 8 = (w.length + 7) / 8 + 1 by omega, List.range_succ_eq_map, List.map_cons, List.map_map]
  congr 1
  · have h1 : gbyte (bitsN x 8 ++ w) 0 = numb (bitL (bitsN x 8)) 0 8 := by
      unfold gbyte
      exact numb_ext fun i hi => by rw [Nat.mul_zero, Nat.zero_add, bitL_left (by omega)]
    rw [h1, numb_bitsN x 8 8 (Nat.le_refl _)]
    omega
/-- The bytes of a length. -/
def lb : Nat → Nat → List Nat
  | 0, _ => []
  | k + 1, v => if v ≥ 128 then (128 + v % 128) :: lb k (v / 128) else [v]
theorem pack_lebB : ∀ k v, pack (lebB k v) = lb k v
  | 0, v => by simp [lebB, lb, pack]
  | k + 1, v => by
    unfold lebB lb
    split
    · rw [pack_cons (by omega), pack_lebB k]
    · have := pack_cons (x := v) (by omega) []
      rw [List.append_nil] at this
      rw [this]; simp [pack]
theorem lb_len : ∀ k v, (lb k v).length ≤ k
  | 0, v => Nat.le_refl _
  | k + 1, v => by
    unfold lb
    split
    · have := lb_len k (v / 128); simp only [List.length_cons]; omega
    · simp
theorem lb_byt : ∀ k v, Byt (lb k v)
  | 0, v, x, h => by cases h
  | k + 1, v, x, h => by
    unfold lb at h
    split at h
    · rcases List.mem_cons.1 h with rfl | h
      · omega
      · exact lb_byt k _ x h
    · rw [List.mem_singleton.1 h]; omega
theorem lebL_lb : ∀ (k i x acc : Nat) (r : List Nat), i + k = 4 → x < 16 * 128 ^ k → (i > 0 → x > 0) → lebL (lb (k + 1) x ++ r) i acc = (acc + x * 128 ^ i, 0, i + (lb (k + 1) x).length)
  | k, i, x, acc, r, hk, hx, h0 => by
    unfold lb
    split
    · rename_i h1
      match k with
      | 0 => omega
      | k + 1 =>
        have ih := lebL_lb k (i + 1) (x / 128) (acc + (128 + x % 128) % 128 * 128 ^ i) r (by omega) (Nat.div_lt_of_lt_mul (by rw [Nat.pow_succ] at hx; omega)) (fun _ => by omega)
        rw [List.cons_append, lebL, if_neg (by omega), if_neg (by omega), ih]
        have e3 : acc + (128 + x % 128) % 128 * 128 ^ i + x / 128 * 128 ^ (i + 1) = acc + x * 128 ^ i := by
          rw [Nat.pow_succ, Nat.add_assoc, show x / 128 * (128 ^ i * 128) = (128 * (x / 128)) * 128 ^ i by rw [Nat.mul_comm 128 (x / 128), Nat.mul_assoc, Nat.mul_comm 128 (128 ^ i)], ← Nat.add_mul, show (128 + x % 128) % 128 + 128 * (x / 128) = x by omega]
        rw [e3, List.length_cons, show i + 1 + (lb (k + 1) (x / 128)).length = i + ((lb (k + 1) (x / 128)).length + 1) by omega]
    · rename_i h1
      have h4 : i = 4 → x ≤ 15 := fun h => by
        rw [show k = 0 by omega] at hx; omega
      rw [List.cons_append, lebL, if_neg (by omega), if_pos (by omega), Nat.mod_eq_of_lt (by omega)]
      rfl
theorem lebL_cut : ∀ (k i x acc : Nat) (t s : List Nat), i + k = 4 → x < 16 * 128 ^ k → (i > 0 → x > 0) → lb (k + 1) x = t ++ s → s ≠ [] → lebL t i acc = (0, 3, 0)
  | k, i, x, acc, [], s, hk, hx, h0, h, hs => rfl
  | k, i, x, acc, c :: t, s, hk, hx, h0, h, hs => by
    unfold lb at h
    split at h
    · rename_i h1
      match k with
      | 0 => omega
      | k + 1 =>
        rw [List.cons_append] at h
        obtain ⟨hc, h'⟩ := List.cons.inj h
        rw [← hc, lebL, if_neg (by omega), if_neg (by omega)]
        exact lebL_cut k (i + 1) (x / 128) _ t s (by omega) (Nat.div_lt_of_lt_mul (by rw [Nat.pow_succ] at hx; omega)) (fun _ => by omega) h' hs
    · rw [List.cons_append] at h
      obtain ⟨_, h⟩ := List.cons.inj h
      exact absurd (List.append_eq_nil_iff.1 h.symm).2 hs
theorem lebL_lb5 {x : Nat} (h : x ≤ 16777216) (r : List Nat) : lebL (lb 5 x ++ r) 0 0 = (x, 0, (lb 5 x).length) := by
  have := lebL_lb 4 0 x 0 r rfl (by omega) (by omega)
  simpa using this
theorem lebL_cut5 {x : Nat} (h : x ≤ 16777216) {t s : List Nat} (he : lb 5 x = t ++ s) (hs : s ≠ []) : lebL t 0 0 = (0, 3, 0) :=
  lebL_cut 4 0 x 0 t s rfl (by omega) (by omega) he hs
/-! ### There and back -/
def enc (b : List Nat) : List Nat := lb 5 b.length ++ b
theorem joinB_e : ∀ (l : List (List Nat)) (acc : List Nat), joinB acc l = acc ++ l.flatMap enc
  | [], acc => by simp [joinB]
  | b :: r, acc => by
    rw [joinB, joinB_e r, List.flatMap_cons]
    unfold lbs enc
    rw [pack_lebB]
    simp [List.append_assoc]
theorem enc_pos (b : List Nat) : 1 ≤ (enc b).length := by
  have : (lb 5 b.length) ≠ [] := by unfold lb; split <;> simp
  have := List.length_pos_iff.2 this
  unfold enc; rw [List.length_append]; omega
theorem parts_more : ∀ (l : List (List Nat)) (acc : List (List Nat)) (r : List Nat), (∀ b ∈ l, b.length ≤ 16777216) → partsA acc l.length (l.flatMap enc ++ r) = if 0 < r.length then ([], 4) else (acc ++ l, 0)
  | [], acc, r, _ => by simp [partsA]
  | b :: l, acc, r, h => by
    have hb := h b (List.mem_cons_self ..)
    have e : (b :: l).flatMap enc ++ r = lb 5 b.length ++ (b ++ (l.flatMap enc ++ r)) := by rw [List.flatMap_cons]; unfold enc; simp [List.append_assoc]
    rw [e]
    show (if (lebL (lb 5 b.length ++ (b ++ (l.flatMap enc ++ r))) 0 0).2.1 ≠ 0 then _ else if ((lb 5 b.length ++ (b ++ (l.flatMap enc ++ r))).drop (lebL (lb 5 b.length ++ (b ++ (l.flatMap enc ++ r))) 0 0).2.2).length < (lebL (lb 5 b.length ++ (b ++ (l.flatMap enc ++ r))) 0 0).1 then _ else partsA _ l.length _) = _
    rw [lebL_lb5 hb]
    dsimp only
    rw [if_neg (by decide), List.drop_left, if_neg (by rw [List.length_append]; omega), List.take_left, List.drop_left, parts_more l _ r fun x hx => h x (List.mem_cons_of_mem _ hx)]
    simp [List.append_assoc]
theorem parts_cut : ∀ (l : List (List Nat)) (acc : List (List Nat)) (t s : List Nat), (∀ b ∈ l, b.length ≤ 16777216) → l.flatMap enc = t ++ s → s ≠ [] → partsA acc l.length t = ([], 3)
  | [], acc, t, s, _, he, hs => by
    have := (List.append_eq_nil_iff.1 he.symm).2
    exact absurd this hs
  | b :: l, acc, t, s, h, he, hs => by
    have hb := h b (List.mem_cons_self ..)
    have e : (b :: l).flatMap enc = lb 5 b.length ++ (b ++ l.flatMap enc) := by rw [List.flatMap_cons]; unfold enc; simp [List.append_assoc]
    rw [e] at he
    show (if (lebL t 0 0).2.1 ≠ 0 then ([], (lebL t 0 0).2.1) else if (t.drop (lebL t 0 0).2.2).length < (lebL t 0 0).1 then ([], 3) else partsA _ l.length _) = _
    rcases Nat.lt_or_ge t.length (lb 5 b.length).length with hlt | hge
    · have e1 : lb 5 b.length = t ++ (lb 5 b.length).drop t.length := by
        have := congrArg (List.take t.length) he
        rw [List.take_left, List.take_append_of_le_length (by omega)] at this
        have h2 := List.take_append_drop t.length (lb 5 b.length)
        rw [this] at h2; exact h2.symm
      rw [lebL_cut5 hb e1 (by intro h0; have := congrArg List.length h0; simp at this; omega)]
      rfl
    · have e1 : t = lb 5 b.length ++ t.drop (lb 5 b.length).length := by
        have := congrArg (List.take (lb 5 b.length).length) he
        rw [List.take_left, List.take_append_of_le_length hge] at this
        have h2 := List.take_append_drop (lb 5 b.length).length t
        rw [← this] at h2; exact h2.symm
      generalize t.drop (lb 5 b.length).length = t' at e1
      subst e1
      rw [List.append_assoc] at he
      have he' := List.append_cancel_left he
      rw [lebL_lb5 hb]
      dsimp only
      rw [if_neg (by decide), List.drop_left]
      rcases Nat.lt_or_ge t'.length b.length with hlt2 | hge2
      · rw [if_pos hlt2]
      · rw [if_neg (by omega)]
        have e2 : t' = b ++ t'.drop b.length := by
          have := congrArg (List.take b.length) he'
          rw [List.take_left, List.take_append_of_le_length hge2] at this
          have h2 := List.take_append_drop b.length t'
          rw [← this] at h2; exact h2.symm
        generalize t'.drop b.length = t'' at e2
        subst e2
        rw [List.append_assoc] at he'
        exact parts_cut l _ t'' s (fun x hx => h x (List.mem_cons_of_mem _ hx)) (List.append_cancel_left he') hs
theorem enc_byt {l : List (List Nat)} (h : ∀ b ∈ l, Byt b) : Byt (l.flatMap enc) := fun x hx => by
  obtain ⟨b, hb, hx⟩ := List.mem_flatMap.1 hx
  unfold enc at hx
  rcases List.mem_append.1 hx with h1 | h1
  · exact lb_byt _ _ x h1
  · exact h b hb x h1
theorem flat_len16 {l : List (List Nat)} (h : ∀ b ∈ l, b.length ≤ 1048576) (h16 : l.length ≤ 16) : (l.flatMap enc).length ≤ 17000000 := by
  have := joinB_len l [] 1048576 h
  rw [joinB_e] at this
  have h2 : l.length * (1048576 + 5) ≤ 16 * (1048576 + 5) := Nat.mul_le_mul_right _ h16
  simp at this ⊢
  omega
/-! ### The walk -/
abbrev Tr8 : Value → Mem → Prop := fun v _ => v = .bool true
theorem c8_2 {M0 : Mem} (hf : M0.floor ≤ M0.nb.size) {A P Bo : Option Addr} {c cp cb : Nat} {l lp : List Bs} {x : Int} {y : Nat} (hy : y < 256) (hx : -9223372036854775808 ≤ x ∧ x ≤ 9223372036854775807) (hA : BsR M0 A l) (hP : BsR M0 P lp) (he : lp.map Bs.b = l.map Bs.b) (h1 : 1 ≤ l.length) (h16 : l.length ≤ 16) (hbb : ∀ o ∈ l, o.b.length ≤ 1048576 ∧ Byt o.b)
    {S : Nat → Prop} (hO : Own S M0 5 Bo cb (U8 ((l.map Bs.b).flatMap enc))) :
    ∀ (m i : Nat), i + m = l.length → A8_2 A l.length c x (y : Nat) Bo ((l.map Bs.b).flatMap enc).length cb P lp.length cp (i : Nat) M0 Tr8 := by
  have hll : lp.length = l.length := by have := congrArg List.length he; simpa using this
  have lens : ∀ b ∈ l.map Bs.b, b.length ≤ 1048576 := fun b hb => by obtain ⟨o, ho, rfl⟩ := List.mem_map.1 hb; exact (hbb o ho).1
  have byts : ∀ b ∈ l.map Bs.b, Byt b := fun b hb => by obtain ⟨o, ho, rfl⟩ := List.mem_map.1 hb; exact (hbb o ho).2
  have lens2 : ∀ b ∈ l.map Bs.b, b.length ≤ 16777216 := fun b hb => by have := lens b hb; omega
  have hfl := flat_len16 lens (by simpa using h16)
  have hby := enc_byt byts
  have hpos : 1 ≤ ((l.map Bs.b).flatMap enc).length := by
    rcases l with _ | ⟨o, r⟩
    · simp at h1
    · have := enc_pos o.b
      rw [List.map_cons, List.flatMap_cons, List.length_append]; omega
  have cut := fun t s => parts_cut (l.map Bs.b) [] t s lens2
  have more := fun r => parts_more (l.map Bs.b) [] r lens2
  rw [List.length_map] at cut more
  intro m
  induction m with
  | zero =>
    intro i hi
    generalize (l.map Bs.b).flatMap enc = E at *
    refine w8_2 ⟨fun h => by omega, fun _ => Cn.eq (c15 hx (by omega)) ⟨_, rfl, ?_⟩⟩
    have hbr : 0 ≤ brg x (E.length : Nat) ∧ brg x (E.length : Nat) < (E.length : Nat) := by
      unfold brg; rw [if_neg (by omega)]
      exact ⟨Int.emod_nonneg _ (by omega), Int.emod_lt_of_pos _ (by omega)⟩
    generalize brg x (E.length : Nat) = z at hbr ⊢
    obtain ⟨q, rfl⟩ := Int.eq_ofNat_of_zero_le hbr.1
    have hq : q < E.length := by omega
    have hcap : E.length ≤ cb := by have := hO.cap; simpa using this
    obtain ⟨A1, s2, O1⟩ := slice_own el5 (s := 1) (n := E.length) (c := cb) (h := q) (hi := some (.int .i64 (q : Nat))) (by rw [Nat.mul_one]; exact hO) hcap (bound_lo rfl (by omega)) (by omega) rfl
    have R1 : Row M0 A1 (U8 (E.take q)) := by have := O1.row; rw [Nat.mul_one, ← List.map_take] at this; exact this
    have htl : (E.take q).length = q := by rw [List.length_take]; omega
    have e3 : partsS (E.take q) (l.length : Nat) = ([], 3) := by
      unfold partsS; rw [if_pos (by omega), Int.toNat_natCast]
      exact cut (E.take q) (E.drop q) (List.take_append_drop q E).symm (by intro h; have := congrArg List.length h; simp at this; omega)
    refine ⟨_, s2, _, rfl, Cn.mono (c26 (b := E.take q) (n := q) (c := cb) (x := (l.length : Nat)) hf R1 htl.symm (by omega) fun v hv => hby v (List.mem_of_mem_take hv)) ?_⟩
    rw [e3]
    rintro _ N1 ⟨P1, p1, l1, rfl, _, K1, _⟩
    refine ⟨_, rfl, _, rfl, _, rfl, Cn.mono (c21 (b := E) (n := E.length) (c := cb) (fb hf K1) (hO.row.keep K1) rfl (by omega)) ?_⟩
    rintro _ N2 ⟨B2, d2, rfl, K2, O2, _⟩
    have K02 := K1.trans K2
    obtain ⟨A', c', N3, g1, g2, g3, g4⟩ := app1 el5 (fb hf K1) K2 O2 (n := E.length) (by simp) (v := .int .u8 (y : Nat)) rfl (by omega)
    refine ⟨_, rfl, _, g1, _, rfl, ?_⟩
    have e4 : partsS (E ++ [y]) (l.length : Nat) = ([], 4) := by
      unfold partsS; rw [if_pos (by omega), Int.toNat_natCast, more [y]]; rfl
    have g3' : Row N3 A' (U8 (E ++ [y])) := by have := g3.row; rw [show U8 (E ++ [y]) = U8 E ++ [Value.int .u8 (y : Nat)] from List.map_append ..]; exact this
    refine Cn.mono (c26 (b := E ++ [y]) (n := E.length + 1) (c := c') (x := (l.length : Nat)) (fb hf (K1.trans g2)) g3' (by simp) (by omega) fun v hv => by
      rcases List.mem_append.1 hv with h | h
      · exact hby v h
      · rw [List.mem_singleton.1 h]; exact hy) ?_
    rw [e4]
    rintro _ N4 ⟨P4, p4, l4, rfl, _, K4, _⟩
    exact ⟨_, rfl, _, rfl, _, rfl, fun _ => rfl, fun h => absurd rfl h⟩
  | succ m ih =>
    intro i hi
    have h1' : i < l.length := by omega
    have h2' : i < lp.length := by omega
    obtain ⟨a, i1, i2⟩ := hP.at (n := lp.length) (i := i) (z := i) rfl (by omega) h2'
    obtain ⟨b, j1, j2⟩ := hA.at (n := l.length) (i := i) (z := i) rfl (by omega) h1'
    have eb : lp[i].b = l[i].b := by
      have e1 : (lp.map Bs.b)[i]? = (l.map Bs.b)[i]? := by rw [he]
      simpa [h1', h2'] using e1
    have hbl := (hbb _ (List.getElem_mem h1')).1
    refine w8_2 ⟨fun _ => ⟨_, i1, _, i2, _, j1, _, j2, Cn.eq (c24 (hP.2 _ (List.getElem_mem h2')) (hA.2 _ (List.getElem_mem h1')) rfl rfl (by rw [eb]; dsimp only; omega)) ⟨_, rfl, fun h => ?_, fun _ => ?_⟩⟩, fun h => by omega⟩
    · simp [eb] at h
    · rw [i64w (by omega), show ((i : Int) + 1) = ((i + 1 : Nat) : Int) by omega]
      exact ih (i + 1) (by omega)
theorem c8_go {M0 : Mem} (hf : M0.floor ≤ M0.nb.size) {A : Option Addr} {c n : Nat} {l : List Bs} {x : Int} {y : Nat} (hy : y < 256) (hx : -9223372036854775808 ≤ x ∧ x ≤ 9223372036854775807) (hA : BsR M0 A l) (hn : n = l.length) (h1 : 1 ≤ l.length) (h16 : l.length ≤ 16) (hbb : ∀ o ∈ l, o.b.length ≤ 1048576 ∧ Byt o.b) :
    Cn Try.prog 22 #[.slice A n c] M0 fun v13' N13' =>
         ∃ cs14', asU 2 v13' = some cs14' ∧
         ∃ s15', asS (cs14'.getD 0 undef) = some s15' ∧
         ∃ x16', asI .i64 (cs14'.getD 1 undef) = some x16' ∧
         Cn Try.prog 26 #[.slice s15'.1 s15'.2.1 s15'.2.2, .int .i64 ((n : Int))] N13' fun v17' N17' =>
          ∃ cs18', asU 2 v17' = some cs18' ∧
          ∃ s19', asS (cs18'.getD 0 undef) = some s19' ∧
          ∃ x20', asI .i64 (cs18'.getD 1 undef) = some x20' ∧
          ((x16' ≠ 0 →
           A8_1 A n c x (y : Nat) s15'.1 s15'.2.1 s15'.2.2 s19'.1 s19'.2.1 s19'.2.2 true N17' Tr8) ∧
           (x16' = 0 →
           ((x20' ≠ 0 →
            A8_1 A n c x (y : Nat) s15'.1 s15'.2.1 s15'.2.2 s19'.1 s19'.2.1 s19'.2.2 true N17' Tr8) ∧
            (x20' = 0 →
            A8_1 A n c x (y : Nat) s15'.1 s15'.2.1 s15'.2.2 s19'.1 s19'.2.1 s19'.2.2 (((s19'.2.1 : Int)) != ((n : Int))) N17' Tr8)))) := by
  subst hn
  have lens : ∀ b ∈ l.map Bs.b, b.length ≤ 1048576 := fun b hb => by obtain ⟨o, ho, rfl⟩ := List.mem_map.1 hb; exact (hbb o ho).1
  have byts : ∀ b ∈ l.map Bs.b, Byt b := fun b hb => by obtain ⟨o, ho, rfl⟩ := List.mem_map.1 hb; exact (hbb o ho).2
  have hfl := flat_len16 lens (by simpa using h16)
  have hby := enc_byt byts
  have eB : bodyS (l.map Bs.b) = ((l.map Bs.b).flatMap enc, 0) := by
    unfold bodyS; rw [if_neg (by simpa using h16), joinB_e, List.nil_append]
  have eP : partsS ((l.map Bs.b).flatMap enc) (l.length : Nat) = (l.map Bs.b, 0) := by
    unfold partsS; rw [if_pos (by omega), Int.toNat_natCast]
    have := parts_more (l.map Bs.b) [] [] (fun b hb => by have := lens b hb; omega)
    rw [List.length_map, List.append_nil] at this
    rw [this]; rfl
  refine Cn.mono (c22 hf hA rfl fun o ho => (hbb o ho).1) ?_
  rw [eB]
  rintro _ N1 ⟨Bo, cb, rfl, K1, O1⟩
  refine ⟨_, rfl, _, rfl, _, rfl, Cn.mono (c26 (x := (l.length : Nat)) (b := (l.map Bs.b).flatMap enc) (n := ((l.map Bs.b).flatMap enc).length) (c := cb) (fb hf K1) O1.row rfl (by omega) hby) ?_⟩
  rw [eP]
  rintro _ N2 ⟨P, cp, lp, rfl, e2, K2, hP⟩
  have hll : lp.length = l.length := by have := congrArg List.length e2; simpa using this
  refine ⟨_, rfl, _, rfl, _, rfl, fun h => absurd rfl h, fun _ => ⟨fun h => absurd rfl h, fun _ => w8_1 ⟨fun h => ?_, fun _ => ?_⟩⟩⟩
  · dsimp only at h; rw [hll] at h; simp at h
  · exact c8_2 (M0 := N2) (A := A) (P := P) (Bo := Bo) (c := c) (cp := cp) (cb := cb) (fb hf (K1.trans K2)) hy hx (hA.chg (K1.trans K2)) hP.rd e2 h1 h16 hbb (O1.chg K2 fun _ _ _ h => h) l.length 0 (Nat.zero_add _)
theorem c8 {M : Mem} (hf : M.floor ≤ M.nb.size) {A : Option Addr} {n c : Nat} {l : List Bs} {x : Int} {y : Nat} (hy : y < 256) (hx : -9223372036854775808 ≤ x ∧ x ≤ 9223372036854775807) (hA : BsR M A l) (hn : n = l.length) (hnc : n ≤ c) (hA0 : A = none → c = 0) (hbb : ∀ o ∈ l, o.b.length ≤ 1048576 ∧ Byt o.b) :
    Cn Try.prog 8 #[.slice A n c, .int .i64 x, .int .u8 (y : Nat)] M Tr8 := by
  refine w8_0 (Cn.eq c14 ⟨_, rfl, fun h => (by cases h), fun _ => ⟨fun h => ?_, fun h => ⟨fun _ => rfl, fun h0 => ?_⟩⟩⟩)
  · obtain ⟨A2, s3, R3, _, _⟩ := slice_row el45 (n := n) (c := c) (l := 0) (h := 16) (lo := none) (hi := some (.int .i64 16)) hA.1 (by rw [Bss_len, hn]) hnc hA0 rfl (bound_lo (l := 16) rfl (by omega)) (by omega) (by omega)
    have hlen : (l.take 16).length = 16 := by rw [List.length_take]; omega
    have eT : List.take ((16 - 0) * 1) (List.drop (0 * 1) (Bss l)) = Bss (l.take 16) := by
      rw [Nat.zero_mul, List.drop_zero, Nat.sub_zero, Nat.mul_one]
      unfold Bss
      have e : ∀ (k : Nat) (l : List Bs), List.take k (l.flatMap Bs.cells) = (l.take k).flatMap Bs.cells := by
        intro k l
        have e1 : ∀ l : List Bs, l.flatMap Bs.cells = l.map fun o => .slice o.A o.b.length o.c := fun l => by rw [List.map_eq_flatMap]
        rw [e1, e1, List.map_take]
      exact e 16 l
    rw [eT] at R3
    refine ⟨_, s3, _, rfl, fun h0 => absurd (show (16 : Int) = 0 from h0) (by decide), fun _ => ?_⟩
    exact c8_go hf hy hx ⟨R3, fun o ho => hA.2 o (List.mem_of_mem_take ho)⟩ hlen.symm (by omega) (by omega) fun o ho => hbb o (List.mem_of_mem_take ho)
  · exact c8_go hf hy hx hA hn (by omega) (by omega) hbb
theorem wf_i64 {x : Int} (h : (Lit.int .i64 x).wf = true) : -9223372036854775808 ≤ x ∧ x ≤ 9223372036854775807 := by
  simp [Lit.wf, IntKind.min, IntKind.max, IntKind.signed, IntKind.bits] at h
  omega
theorem law8 {W : World} {u0 u1 u2 : Value} (s0 : Sees Try.prog (mem0 W) 1048576 8 45 [u0]) (s1 : Sees Try.prog (mem0 W) 1048576 8 3 [u1]) (s2 : Sees Try.prog (mem0 W) 1048576 8 5 [u2]) : Cn Try.prog 8 #[u0, u1, u2] (mem0 W) fun v _ => v = .bool true := by
  obtain ⟨A, n, c, l, e0, h1, h2, h3, h4, h5, h6⟩ := sees_bs s0
  obtain ⟨x, e1, hx⟩ := sees_int (q := .i64) (by kernel_rfl) s1
  obtain ⟨z, e2, hz⟩ := sees_int (q := .u8) (by kernel_rfl) s2
  obtain rfl : u0 = _ := by simpa using e0
  obtain rfl : u1 = _ := by simpa using e1
  obtain rfl : u2 = _ := by simpa using e2
  have hz := wf_u8 hz
  obtain ⟨y, rfl⟩ := Int.eq_ofNat_of_zero_le hz.1
  exact c8 (Nat.zero_le _) (by omega) (wf_i64 hx) h4 h1 h2 h6 h5
end Go.Zu
