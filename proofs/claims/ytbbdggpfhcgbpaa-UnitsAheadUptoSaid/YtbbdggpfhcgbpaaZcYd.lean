/- Layer 19: pieces there and back (plain). -/
import Derived.Test.YtbbdggpfhcgbpaaZcYc
set_option linter.unusedSimpArgs false
set_option linter.unusedVariables false
namespace Go.Zt
open Go Go.Sim Go.Proofs Go.RowKit

/-- The bytes of a length. -/
def lb : Nat → Nat → List Nat
  | 0, _ => []
  | k + 1, v => if v ≥ 128 then (128 + v % 128) :: lb k (v / 128) else [v]
theorem pack_lebB : ∀ k v, pack (lebB k v) = lb k v
  | 0, v => by simp [lebB, lb, pack]
  | k + 1, v => by
    unfold lebB lb
    split
    · rw [pack_cons (by omega), pack_lebB k]
    · have := pack_cons (x := v) (by omega) []
      rw [List.append_nil] at this
      rw [this]; simp [pack]
theorem lb_len : ∀ k v, (lb k v).length ≤ k
  | 0, v => Nat.le_refl _
  | k + 1, v => by
    unfold lb
    split
    · have := lb_len k (v / 128); simp only [List.length_cons]; omega
    · simp
theorem lb_byt : ∀ k v, Byt (lb k v)
  | 0, v, x, h => by cases h
  | k + 1, v, x, h => by
    unfold lb at h
    split at h
    · rcases List.mem_cons.1 h with rfl | h
      · omega
      · exact lb_byt k _ x h
    · rw [List.mem_singleton.1 h]; omega
theorem lebL_lb : ∀ (k i x acc : Nat) (r : List Nat), i + k = 4 → x < 16 * 128 ^ k → (i > 0 → x > 0) → lebL (lb (k + 1) x ++ r) i acc = (acc + x * 128 ^ i, 0, i + (lb (k + 1) x).length)
  | k, i, x, acc, r, hk, hx, h0 => by
    unfold lb
    split
    · rename_i h1
      match k with
      | 0 => omega
      | k + 1 =>
        have ih := lebL_lb k (i + 1) (x / 128) (acc + (128 + x % 128) % 128 * 128 ^ i) r (by omega) (Nat.div_lt_of_lt_mul (by rw [Nat.pow_succ] at hx; omega)) (fun _ => by omega)
        rw [List.cons_append, lebL, if_neg (by omega), if_neg (by omega), ih]
        have e3 : acc + (128 + x % 128) % 128 * 128 ^ i + x / 128 * 128 ^ (i + 1) = acc + x * 128 ^ i := by
          rw [Nat.pow_succ, Nat.add_assoc, show x / 128 * (128 ^ i * 128) = (128 * (x / 128)) * 128 ^ i by rw [Nat.mul_comm 128 (x / 128), Nat.mul_assoc, Nat.mul_comm 128 (128 ^ i)], ← Nat.add_mul, show (128 + x % 128) % 128 + 128 * (x / 128) = x by omega]
        rw [e3, List.length_cons, show i + 1 + (lb (k + 1) (x / 128)).length = i + ((lb (k + 1) (x / 128)).length + 1) by omega]
    · rename_i h1
      have h4 : i = 4 → x ≤ 15 := fun h => by
        rw [show k = 0 by omega] at hx; omega
      rw [List.cons_append, lebL, if_neg (by omega), if_pos (by omega), Nat.mod_eq_of_lt (by omega)]
      rfl
theorem lebL_cut : ∀ (k i x acc : Nat) (t s : List Nat), i + k = 4 → x < 16 * 128 ^ k → (i > 0 → x > 0) → lb (k + 1) x = t ++ s → s ≠ [] → lebL t i acc = (0, 3, 0)
  | k, i, x, acc, [], s, hk, hx, h0, h, hs => rfl
  | k, i, x, acc, c :: t, s, hk, hx, h0, h, hs => by
    unfold lb at h
    split at h
    · rename_i h1
      match k with
      | 0 => omega
      | k + 1 =>
        rw [List.cons_append] at h
        obtain ⟨hc, h'⟩ := List.cons.inj h
        rw [← hc, lebL, if_neg (by omega), if_neg (by omega)]
        exact lebL_cut k (i + 1) (x / 128) _ t s (by omega) (Nat.div_lt_of_lt_mul (by rw [Nat.pow_succ] at hx; omega)) (fun _ => by omega) h' hs
    · rw [List.cons_append] at h
      obtain ⟨_, h⟩ := List.cons.inj h
      exact absurd (List.append_eq_nil_iff.1 h.symm).2 hs
theorem lebL_lb5 {x : Nat} (h : x ≤ 16777216) (r : List Nat) : lebL (lb 5 x ++ r) 0 0 = (x, 0, (lb 5 x).length) := by
  have := lebL_lb 4 0 x 0 r rfl (by omega) (by omega)
  simpa using this
theorem lebL_cut5 {x : Nat} (h : x ≤ 16777216) {t s : List Nat} (he : lb 5 x = t ++ s) (hs : s ≠ []) : lebL t 0 0 = (0, 3, 0) :=
  lebL_cut 4 0 x 0 t s rfl (by omega) (by omega) he hs
theorem lebL_canon : ∀ (r : List Nat) (i acc y cnt : Nat), lebL r i acc = (y, 0, cnt) → i ≤ 4 → (∀ c ∈ r, c < 256) →
    ∃ x m, cnt = i + m ∧ y = acc + x * 128 ^ i ∧ m ≤ r.length ∧ lb (5 - i) x = r.take m ∧ (i > 0 → x > 0)
  | [], i, acc, y, cnt, h, _, _ => by simp [lebL] at h
  | c :: r, i, acc, y, cnt, h, hi, hr => by
    have hc := hr c (List.mem_cons_self ..)
    unfold lebL at h
    split at h
    · simp at h
    rename_i h1
    split at h
    · rename_i h2
      simp at h
      obtain ⟨h3, h4⟩ := h
      refine ⟨c, 1, h4.symm, by rw [← h3, Nat.mod_eq_of_lt h2], by simp, ?_, fun h0 => by omega⟩
      rw [show 5 - i = (4 - i) + 1 by omega, lb, if_neg (by omega)]; simp
    · rename_i h2
      have hi4 : i < 4 := by omega
      obtain ⟨x, m, e1, e2, e3, e4, e5⟩ := lebL_canon r (i + 1) _ y cnt h (by omega) fun c hc => hr c (List.mem_cons_of_mem _ hc)
      have hx := e5 (Nat.succ_pos _)
      refine ⟨c % 128 + 128 * x, m + 1, by omega, ?_, by simp; omega, ?_, fun _ => by omega⟩
      · rw [e2, Nat.pow_succ, Nat.add_mul, Nat.mul_comm 128 x, Nat.mul_assoc x, Nat.mul_comm 128 (128 ^ i), Nat.add_assoc]
      · rw [show 5 - i = (5 - (i + 1)) + 1 by omega, lb, if_pos (by omega), show 128 + (c % 128 + 128 * x) % 128 = c by omega, show (c % 128 + 128 * x) / 128 = x by omega, e4]
        simp

/-- A piece's bytes. -/
def encP (x : Int × List Nat) : List Nat := (16 * x.1).toNat :: (lb 5 x.2.length ++ x.2)
def goodP (x : Int × List Nat) : Prop := 1 ≤ x.1 ∧ x.1 ≤ 3 ∧ x.2.length ≤ 16777216
theorem encP_len (x : Int × List Nat) : 1 ≤ (encP x).length ∧ (encP x).length ≤ 6 + x.2.length := by
  have := lb_len 5 x.2.length
  simp only [encP, List.length_cons, List.length_append]; omega
theorem joinS_good : ∀ (l : List (Int × List Nat)) (acc : List Nat), (∀ x ∈ l, goodP x) → joinS acc l = (acc ++ l.flatMap encP, 0)
  | [], acc, _ => by simp [joinS]
  | x :: r, acc, h => by
    obtain ⟨h1, h2, h3⟩ := h x (List.mem_cons_self ..)
    rw [joinS, if_neg (by omega), if_neg (by omega), joinS_good r _ fun y hy => h y (List.mem_cons_of_mem _ hy), pack_lebB]
    simp [encP]
theorem pcS_enc {x : Int × List Nat} (h : goodP x) (rest : List Nat) : pcS (encP x ++ rest) = (x.1.toNat, x.2, (encP x).length, 0) := by
  obtain ⟨h1, h2, h3⟩ := h
  obtain ⟨k, b⟩ := x
  dsimp only at h1 h2 h3
  have hl := lb_len 5 b.length
  unfold encP
  dsimp only
  rw [List.cons_append, pcS_cons]
  have e : ((lb 5 b.length ++ b ++ rest).take 5) = lb 5 b.length ++ (b ++ rest).take (5 - (lb 5 b.length).length) := by
    rw [List.append_assoc, List.take_append, List.take_of_length_le hl]
  rw [if_neg (by omega), e, lebL_lb5 h3]
  dsimp only
  rw [if_neg (by omega), if_neg (by omega), List.append_assoc, List.drop_left, List.length_append, if_neg (by omega), List.take_left]
  have : (16 * k).toNat / 16 = k.toNat := by omega
  rw [this]
  simp only [List.length_cons, List.length_append]
  congr 3
  omega
theorem pcS_cut {x : Int × List Nat} (h : goodP x) {t s : List Nat} (he : encP x = t ++ s) (hs : s ≠ []) : pcS t = (0, [], 0, 3) := by
  obtain ⟨h1, h2, h3⟩ := h
  obtain ⟨k, b⟩ := x
  dsimp only at h1 h2 h3
  match t with
  | [] => rfl
  | c :: t =>
    unfold encP at he
    dsimp only at he
    rw [List.cons_append] at he
    obtain ⟨hc, he⟩ := List.cons.inj he
    rw [pcS_cons, if_neg (by omega)]
    rcases Nat.lt_or_ge t.length (lb 5 b.length).length with hlt | hge
    · -- cut within the length
      have e1 : lb 5 b.length = t ++ (lb 5 b.length).drop t.length := by
        have := congrArg (List.take t.length) he
        rw [List.take_left, List.take_append_of_le_length (by omega)] at this
        conv => lhs; rw [← List.take_append_drop t.length (lb 5 b.length), this]
      have hl := lb_len 5 b.length
      rw [List.take_of_length_le (by omega), lebL_cut5 h3 e1 (fun h => by
        have h9 := congrArg List.length h
        rw [List.length_drop, List.length_nil] at h9; omega)]
      simp
    · have e1 : t = lb 5 b.length ++ t.drop (lb 5 b.length).length := by
        have := congrArg (List.take (lb 5 b.length).length) he
        rw [List.take_left, List.take_append_of_le_length (by omega)] at this
        conv => lhs; rw [← List.take_append_drop (lb 5 b.length).length t, ← this]
      generalize hr : t.drop (lb 5 b.length).length = r at e1
      subst e1
      rw [List.append_assoc, List.append_cancel_left_eq] at he
      have hl := lb_len 5 b.length
      have e : ((lb 5 b.length ++ r).take 5) = lb 5 b.length ++ r.take (5 - (lb 5 b.length).length) := by
        rw [List.take_append, List.take_of_length_le hl]
      have hsl : 0 < s.length := List.length_pos_iff.2 hs
      rw [e, lebL_lb5 h3]
      dsimp only
      rw [if_neg (by omega), if_neg (by omega), List.drop_left, if_pos (by rw [he, List.length_append]; omega)]
theorem pcS_canon {b : List Nat} (hB : Byt b) (h : (pcS b).2.2.2 = 0) : goodP (((pcS b).1 : Nat), (pcS b).2.1) ∧ b.take (pcS b).2.2.1 = encP (((pcS b).1 : Nat), (pcS b).2.1) ∧ (pcS b).2.2.1 ≤ b.length := by
  match b with
  | [] => simp [pcS] at h
  | x :: r =>
    have hn := pcS_n h
    rw [pcS_cons] at h hn ⊢
    split at h
    · simp at h
    rename_i h1
    rw [if_neg h1] at hn ⊢
    split at h
    · rename_i h2; exact absurd h h2
    rename_i h2
    rw [if_neg h2] at hn ⊢
    split at h
    · simp at h
    rename_i h3
    rw [if_neg h3] at hn ⊢
    split at h
    · simp at h
    rename_i h4
    rw [if_neg h4] at hn ⊢
    have h2' : (lebL (r.take 5) 0 0).2.1 = 0 := by omega
    obtain ⟨y, m, e1, e2, e3, e4, e5⟩ := lebL_canon (r.take 5) 0 0 (lebL (r.take 5) 0 0).1 (lebL (r.take 5) 0 0).2.2 (by
      conv => lhs; rw [show lebL (r.take 5) 0 0 = ((lebL (r.take 5) 0 0).1, (lebL (r.take 5) 0 0).2.1, (lebL (r.take 5) 0 0).2.2) from rfl, h2']) (by decide) fun c hc => hB c (List.mem_cons_of_mem _ (List.mem_of_mem_take hc))
    rw [Nat.zero_add, Nat.pow_zero, Nat.mul_one] at e2
    rw [Nat.zero_add] at e1
    rw [e1, e2] at hn h4 ⊢
    rw [e2] at h3
    rw [List.length_take] at e3
    rw [List.length_drop] at h4
    rw [List.take_take, Nat.min_eq_left (by omega)] at e4
    dsimp only at hn ⊢
    have hyl : ((r.drop m).take y).length = y := by rw [List.length_take, List.length_drop]; omega
    refine ⟨⟨by omega, by omega, by rw [hyl]; omega⟩, ?_, hn.2⟩
    unfold encP
    dsimp only
    rw [hyl, show 1 + m + y = (m + y) + 1 by omega, List.take_succ_cons, show (16 * ((x / 16 : Nat) : Int)).toNat = x by omega]
    congr 1
    have e4' : lb 5 y = r.take m := e4
    rw [e4', List.take_add]
theorem splitS_fuel : ∀ (f g : Nat) (b : List Nat), b.length ≤ f → b.length ≤ g → splitS f b = splitS g b
  | 0, 0, b, _, _ => rfl
  | 0, g + 1, b, h, _ => by
    obtain rfl := List.length_eq_zero_iff.1 (Nat.le_zero.1 h)
    rfl
  | f + 1, 0, b, _, h => by
    obtain rfl := List.length_eq_zero_iff.1 (Nat.le_zero.1 h)
    rfl
  | f + 1, g + 1, [], _, _ => rfl
  | f + 1, g + 1, x :: r, h1, h2 => by
    rw [splitS, splitS]
    split
    · rfl
    · rename_i h
      have hn := pcS_n (Decidable.not_not.1 h)
      have e := splitS_fuel f g ((x :: r).drop (pcS (x :: r)).2.2.1) (by rw [List.length_drop]; simp only [List.length_cons] at *; omega) (by rw [List.length_drop]; simp only [List.length_cons] at *; omega)
      rw [e]
/-- All of a list of bytes. -/
abbrev spl (b : List Nat) : List (Int × List Nat) × Nat × Nat := splitS b.length b
theorem spl_nil : spl [] = ([], 0, 0) := rfl
theorem spl_bad {b : List Nat} (h0 : b ≠ []) (h : (pcS b).2.2.2 ≠ 0) : spl b = ([], 0, (pcS b).2.2.2) := by
  match b with
  | [] => exact absurd rfl h0
  | x :: r =>
    show splitS (r.length + 1) (x :: r) = _
    rw [splitS, if_pos h]
theorem spl_ok {b : List Nat} (h0 : b ≠ []) (h : (pcS b).2.2.2 = 0) : spl b = (((((pcS b).1 : Nat) : Int), (pcS b).2.1) :: (spl (b.drop (pcS b).2.2.1)).1, (pcS b).2.2.1 + (spl (b.drop (pcS b).2.2.1)).2.1, (spl (b.drop (pcS b).2.2.1)).2.2) := by
  match b with
  | [] => exact absurd rfl h0
  | x :: r =>
    have hn := pcS_n h
    show splitS (r.length + 1) (x :: r) = _
    rw [splitS, if_neg (by omega), splitS_fuel r.length ((x :: r).drop (pcS (x :: r)).2.2.1).length _ (by rw [List.length_drop]; simp only [List.length_cons] at *; omega) (Nat.le_refl _)]
theorem encP_ne (x : Int × List Nat) (r : List Nat) : encP x ++ r ≠ [] := by simp [encP]
theorem spl_enc {x : Int × List Nat} (h : goodP x) (rest : List Nat) : spl (encP x ++ rest) = (x :: (spl rest).1, (encP x).length + (spl rest).2.1, (spl rest).2.2) := by
  have e := pcS_enc h rest
  rw [spl_ok (encP_ne x rest) (by rw [e]), e]
  dsimp only
  rw [List.drop_left]
  have : ((x.1.toNat : Nat) : Int) = x.1 := by have := h.1; omega
  rw [this]
theorem spl_all : ∀ (l : List (Int × List Nat)) (rest : List Nat), (∀ x ∈ l, goodP x) → spl (l.flatMap encP ++ rest) = (l ++ (spl rest).1, (l.flatMap encP).length + (spl rest).2.1, (spl rest).2.2)
  | [], rest, _ => by simp
  | x :: l, rest, h => by
    rw [List.flatMap_cons, List.append_assoc, spl_enc (h x (List.mem_cons_self ..)), spl_all l rest fun y hy => h y (List.mem_cons_of_mem _ hy)]
    simp only [List.cons_append, List.length_append, Nat.add_assoc]
theorem spl_back : ∀ (n : Nat) (b : List Nat), b.length ≤ n → Byt b → (∀ x ∈ (spl b).1, goodP x) ∧ (spl b).1.flatMap encP = b.take (spl b).2.1 ∧ (spl b).2.1 ≤ b.length ∧ ((spl b).2.2 = 0 ↔ (spl b).2.1 = b.length)
  | 0, b, hn, hB => by
    obtain rfl := List.length_eq_zero_iff.1 (Nat.le_zero.1 hn)
    simp [spl_nil]
  | n + 1, b, hn, hB => by
    by_cases h0 : b = []
    · subst h0; simp [spl_nil]
    have hpos : 0 < b.length := List.length_pos_iff.2 h0
    by_cases h : (pcS b).2.2.2 = 0
    · obtain ⟨c1, c2, c3⟩ := pcS_canon hB h
      have hn1 : 1 ≤ (pcS b).2.2.1 := by
        match b with
        | [] => exact absurd rfl h0
        | x :: r => exact (pcS_n h).1
      obtain ⟨i1, i2, i3, i4⟩ := spl_back n (b.drop (pcS b).2.2.1) (by rw [List.length_drop]; omega) fun x hx => hB x (List.mem_of_mem_drop hx)
      rw [spl_ok h0 h]
      dsimp only
      rw [List.length_drop] at i3 i4
      refine ⟨fun x hx => ?_, ?_, by omega, ?_⟩
      · rcases List.mem_cons.1 hx with rfl | hx
        · exact c1
        · exact i1 x hx
      · rw [List.flatMap_cons, i2, ← c2, List.take_add]
      · rw [i4]; omega
    · rw [spl_bad h0 h]
      refine ⟨fun x hx => (by cases hx), rfl, Nat.zero_le _, ?_⟩
      show (pcS b).2.2.2 = 0 ↔ 0 = b.length
      omega
/-- Bytes put together and cut anywhere. -/
theorem spl_cut : ∀ (l : List (Int × List Nat)) (cut : Nat), (∀ x ∈ l, goodP x) → cut ≤ (l.flatMap encP).length →
    ∃ j, j ≤ l.length ∧ (spl ((l.flatMap encP).take cut)).1 = l.take j ∧ (spl ((l.flatMap encP).take cut)).2.1 = ((l.take j).flatMap encP).length ∧ (spl ((l.flatMap encP).take cut)).2.1 ≤ cut ∧
      ((spl ((l.flatMap encP).take cut)).2.2 = 0 ↔ (spl ((l.flatMap encP).take cut)).2.1 = cut) ∧ ((spl ((l.flatMap encP).take cut)).2.2 = 0 ∨ (spl ((l.flatMap encP).take cut)).2.2 = 3) ∧ (j = l.length ∨ cut < ((l.take (j + 1)).flatMap encP).length)
  | [], cut, _, hc => by
    have : cut = 0 := by simpa using hc
    subst this
    exact ⟨0, Nat.le_refl _, rfl, rfl, Nat.le_refl _, Iff.rfl.trans (by simp [spl_nil]), .inl rfl, .inl rfl⟩
  | x :: l, cut, h, hc => by
    have hg := h x (List.mem_cons_self ..)
    have hl := (encP_len x).1
    by_cases h0 : cut = 0
    · subst h0
      refine ⟨0, Nat.zero_le _, rfl, rfl, Nat.le_refl _, Iff.rfl.trans (by simp [spl_nil]), .inl rfl, .inr ?_⟩
      simp only [Nat.zero_add, List.take_succ_cons, List.take_zero, List.flatMap_cons, List.flatMap_nil, List.append_nil]; omega
    rw [List.flatMap_cons] at hc ⊢
    rw [List.length_append] at hc
    rcases Nat.lt_or_ge cut (encP x).length with hlt | hge
    · have e1 : encP x = (encP x).take cut ++ (encP x).drop cut := (List.take_append_drop ..).symm
      have e2 := pcS_cut hg e1 (fun hd => by have h9 := congrArg List.length hd; rw [List.length_drop, List.length_nil] at h9; omega)
      rw [List.take_append_of_le_length (by omega)]
      have hne : (encP x).take cut ≠ [] := fun hd => by have h9 := congrArg List.length hd; rw [List.length_take, List.length_nil] at h9; omega
      rw [spl_bad hne (by rw [e2]; decide), e2]
      refine ⟨0, Nat.zero_le _, rfl, rfl, Nat.zero_le _, ?_, .inr rfl, .inr ?_⟩
      · show (3 : Nat) = 0 ↔ 0 = cut
        omega
      · simp only [Nat.zero_add, List.take_succ_cons, List.take_zero, List.flatMap_cons, List.flatMap_nil, List.append_nil]; omega
    · have e1 : (encP x ++ l.flatMap encP).take cut = encP x ++ (l.flatMap encP).take (cut - (encP x).length) := by
        rw [List.take_append, List.take_of_length_le hge]
      rw [e1, spl_enc hg]
      obtain ⟨j, j1, j2, j3, j4, j5, j6, j7⟩ := spl_cut l (cut - (encP x).length) (fun y hy => h y (List.mem_cons_of_mem _ hy)) (by omega)
      refine ⟨j + 1, by simpa using j1, by dsimp only; rw [j2, List.take_succ_cons], by dsimp only; rw [j3, List.take_succ_cons, List.flatMap_cons, List.length_append], by dsimp only; omega, ?_, j6, ?_⟩
      · dsimp only
        rw [j5]; omega
      · rcases j7 with j7 | j7
        · exact .inl (by simp [j7])
        · refine .inr ?_
          rw [List.take_succ_cons, List.flatMap_cons, List.length_append]; omega
end Go.Zt
