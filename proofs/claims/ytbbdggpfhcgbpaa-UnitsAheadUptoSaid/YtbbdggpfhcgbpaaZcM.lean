/- Layer 19: one piece, read by the program and by the document. -/
import Derived.Test.YtbbdggpfhcgbpaaZcL
import Derived.Test.YtbbdggpfhcgbpaaZcDa
set_option linter.unusedSimpArgs false
set_option linter.unusedVariables false
namespace Go.Zt
open Go Go.Sim Go.Proofs Go.RowKit

/-- A piece: kind, body, how many bytes, the error. -/
def pcS : List Nat → Nat × List Nat × Nat × Nat
  | [] => (0, [], 0, 3)
  | x :: r => if x ≠ 16 ∧ x ≠ 32 ∧ x ≠ 48 then (0, [], 0, 4) else
    let q := lebL (r.take 5) 0 0
    if q.2.1 ≠ 0 then (0, [], 0, q.2.1) else if q.1 > 16777216 then (0, [], 0, 5)
    else if q.1 > (r.drop q.2.2).length then (0, [], 0, 3) else (x / 16, (r.drop q.2.2).take q.1, 1 + q.2.2 + q.1, 0)
theorem pcS_cons (x : Nat) (r : List Nat) : pcS (x :: r) = if x ≠ 16 ∧ x ≠ 32 ∧ x ≠ 48 then (0, [], 0, 4) else
    if (lebL (r.take 5) 0 0).2.1 ≠ 0 then (0, [], 0, (lebL (r.take 5) 0 0).2.1) else if (lebL (r.take 5) 0 0).1 > 16777216 then (0, [], 0, 5)
    else if (lebL (r.take 5) 0 0).1 > (r.drop (lebL (r.take 5) 0 0).2.2).length then (0, [], 0, 3)
    else (x / 16, (r.drop (lebL (r.take 5) 0 0).2.2).take (lebL (r.take 5) 0 0).1, 1 + (lebL (r.take 5) 0 0).2.2 + (lebL (r.take 5) 0 0).1, 0) := rfl
theorem rLeb0 (h : List Nat) : rLeb h 0 = ((lebL h 0 0).1, (lebL h 0 0).2.1, 8 * (lebL h 0 0).2.2) := by
  unfold rLeb
  rw [if_neg (by decide)]
  simp
abbrev ObB (k : Int) (A : Option Addr) (n c : Nat) : Blk := .cells #[.int .i64 k, .slice A n c] 44
theorem setk {M : Mem} {j : Nat} {k : Int} {A : Option Addr} {n c : Nat} (h : M.nb[j]? = some (ObB k A n c)) (hf : M.floor ≤ j) (k' : Int) :
    ∃ N, M.put (2 * j) 0 (.int .i64 k') = some N ∧ Chg (· = j) M N ∧ N.nb[j]? = some (ObB k' A n c) :=
  ⟨_, put_of (i := 0) h hf (by simp) rfl, upd_chg rfl, by rw [upd_at (lt_of_at h)]; rfl⟩
theorem sets {M : Mem} {j : Nat} {k : Int} {A : Option Addr} {n c : Nat} (h : M.nb[j]? = some (ObB k A n c)) (hf : M.floor ≤ j) (A' : Option Addr) (n' c' : Nat) :
    ∃ N, M.put (2 * j) 1 (.slice A' n' c') = some N ∧ Chg (· = j) M N ∧ N.nb[j]? = some (ObB k A' n' c') :=
  ⟨_, put_of (i := 1) h hf (by simp) rfl, upd_chg rfl, by rw [upd_at (lt_of_at h)]; rfl⟩
/-- A piece's cells are written one after the other. -/
theorem set2 {M : Mem} {j : Nat} {k : Int} {A : Option Addr} {n c : Nat} (h : M.nb[j]? = some (ObB k A n c)) (hf : M.floor ≤ j) (k' : Int) (A' : Option Addr) (n' c' : Nat) :
    ∃ N, M.put (2 * j) 0 (.int .i64 k') = some N ∧ ∃ N2, N.put (2 * j) 1 (.slice A' n' c') = some N2 ∧ Chg (· = j) M N2 ∧ N2.nb[j]? = some (ObB k' A' n' c') := by
  obtain ⟨N, p, C, a⟩ := setk h hf k'
  obtain ⟨N2, p2, C2, a2⟩ := sets a (by rw [C.floor]; exact hf) A' n' c'
  exact ⟨N, p, N2, p2, C.trans C2, a2⟩
theorem c29 {x : Int} {M : Mem} : Cn Try.prog 29 #[.int .i64 x] M fun v N => v = .bool (decide (1 ≤ x ∧ x ≤ 3)) ∧ N = M :=
  w29_0 ⟨fun h => ⟨by simp [h], rfl⟩, fun h => ⟨by simp [h], rfl⟩⟩
/-- What a call for a piece comes to. -/
def PcR (M : Mem) (b : List Nat) (at_ : Nat) : Value → Mem → Prop := fun v N =>
  ∃ A c n, v = .tuple #[.agg #[.int .i64 ((pcS b).1 : Nat), .slice A (pcS b).2.1.length c], .int .i64 (n : Nat), .int .i64 ((pcS b).2.2.2 : Nat)] ∧ (n = if (pcS b).2.2.2 = 0 then at_ + (pcS b).2.2.1 else 0) ∧ Keep M N ∧ Own (fun i => M.nb.size ≤ i) N 5 A c (U8 (pcS b).2.1)
theorem PcR.bad {M N : Mem} {b : List Nat} {at_ e : Nat} (h : pcS b = (0, [], 0, e)) (he : e ≠ 0) (hK : Keep M N) {z : Int} (hz : z = (e : Int)) : PcR M b at_ (.tuple #[.agg #[.int .i64 0, .slice none 0 0], .int .i64 0, .int .i64 z]) N := by
  subst hz
  unfold PcR
  rw [h]
  exact ⟨none, 0, 0, rfl, by rw [if_neg he], hK, Own.empty⟩
section
variable {M0 : Mem} {A : Option Addr} {n c : Nat} {b : List Nat}
theorem c27_in (hf : M0.floor ≤ M0.nb.size) {x : Nat} {r : List Nat} (hA : Row M0 A (U8 (x :: r))) (hn : n = (x :: r).length) (hb : n ≤ 4398046511104) (hc : n ≤ c) (hA0 : A = none → c = 0) (hB : Byt (x :: r)) {M : Mem} (K : Keep M0 M) (a0 : M.nb[M0.nb.size]? = some (ObB ((x / 16 : Nat) : Int) none 0 0)) {fl : Bool}
    (hfl : fl = true ↔ (x ≠ 16 ∧ x ≠ 32 ∧ x ≠ 48)) :
    A27_1 A n c (some ⟨2 * M0.nb.size, 0, none⟩) fl M (PcR M0 (x :: r) 0) := by
  have out : ∀ {N : Mem} {A' : Option Addr} {n' c' : Nat} {k : Int}, Keep M0 N → N.nb[M0.nb.size]? = some (ObB k A' n' c') → ∀ {e : Nat} {z : Int}, z = (e : Int) → e ≠ 0 → pcS (x :: r) = (0, [], 0, e) →
      ∃ N1, N.put (2 * M0.nb.size) 0 (.int .i64 0) = some N1 ∧ ∃ N2, N1.put (2 * M0.nb.size) 1 (.slice none 0 0) = some N2 ∧ N2.intAt .i64 (2 * M0.nb.size) 0 = some 0 ∧ N2.slAt (2 * M0.nb.size) 1 = some (none, 0, 0) ∧
        PcR M0 (x :: r) 0 (.tuple #[.agg #[.int .i64 0, .slice none 0 0], .int .i64 0, .int .i64 z]) N2 := by
    intro N A' n' c' k hK ha e z hz he hp
    obtain ⟨N1, p1, N2, p2, C, a2⟩ := set2 ha (by rw [hK.floor]; exact hf) 0 none 0 0
    exact ⟨N1, p1, N2, p2, int_of a2 rfl, sl_of a2 rfl, PcR.bad hp he (Keep.step hK C fun i hi => by omega) hz⟩
  refine w27_1 ⟨fun h => ?_, fun h => ?_⟩
  · obtain ⟨N1, p1, N2, p2, g1, g2, hQ⟩ := out K a0 (e := 4) (z := 4) rfl (by decide) (by rw [pcS_cons, if_pos (hfl.1 h)])
    exact ⟨_, rfl, _, p1, _, p2, _, rfl, _, g1, _, g2, hQ⟩
  have hx : ¬ (x ≠ 16 ∧ x ≠ 32 ∧ x ≠ 48) := fun hh => by rw [hfl.2 hh] at h; cases h
  have hl : r.length + 1 = n := hn.symm
  have hRow := hA.keep K
  have hh6 : (if 6 < (n : Int) then 6 else (n : Int)) = ((min n 6 : Nat) : Int) := by split <;> omega
  rw [hh6]
  obtain ⟨A1, s1, s2, s3, s4⟩ := slice_row el5 hRow (n := n) (c := c) (l := 1) (h := min n 6) (by simp [hl]) hc hA0 (lo := some (.int .i64 1)) (hi := some (.int .i64 (min n 6 : Nat)))
    (bound_lo rfl (show (1 : Nat) ≤ min n 6 by omega)) (bound_lo rfl (show min n 6 ≤ c by omega)) (by omega) (by omega)
  have e1 : ((U8 (x :: r)).drop (1 * 1)).take ((min n 6 - 1) * 1) = U8 (r.take 5) := by
    rw [Nat.mul_one, Nat.mul_one]
    show ((U8 r).take (min n 6 - 1)) = _
    rw [← List.map_take]
    congr 1
    rcases Nat.lt_or_ge r.length 5 with h5 | h5
    · rw [List.take_of_length_le (by omega), List.take_of_length_le (by omega)]
    · rw [show min n 6 - 1 = 5 by omega]
  rw [e1] at s2
  have h5len : (r.take 5).length = min n 6 - 1 := by rw [List.length_take]; omega
  refine ⟨_, s1, _, rfl, Cn.mono (c39 (n := min n 6 - 1) (by rw [K.floor]; exact Nat.le_trans hf K.size) s2 h5len (by omega) fun y hy => hB y (List.mem_cons_of_mem _ (List.mem_of_mem_take hy))) ?_⟩
  rintro v N ⟨j1, rfl, K1, hj, hj', hR⟩
  have K1' := K.trans K1
  refine ⟨_, rfl, Cn.mono (c40 hR (by rw [K1'.floor]; exact Nat.le_trans hf (Nat.le_trans K.size hj))) ?_⟩
  rintro v2 N2 ⟨rfl, C2, hsz, hR2⟩
  have hpos := hR2.pos
  rw [rLeb0] at hR2 hpos ⊢
  have hlt := lt_of_at a0
  have K2 : Keep M0 N2 := Keep.step K1' C2 fun i hi => by have := K.size; omega
  have a2 : N2.nb[M0.nb.size]? = some (ObB ((x / 16 : Nat) : Int) none 0 0) := at_chg (at_keep a0 K1) C2 (by omega)
  have hp := pcS_cons x r
  rw [if_neg hx] at hp
  generalize lebL (r.take 5) 0 0 = q at hR2 hpos hp ⊢
  obtain ⟨q1, q2, q3⟩ := q
  dsimp only at hR2 hpos hp ⊢
  have hq1 : (q1 : Int) = q1 := rfl
  refine ⟨_, rfl, _, rfl, _, rfl, fun hne => ?_, fun h0 => ?_⟩
  · have hne' : q2 ≠ 0 := fun e => hne (by show ((q2 : Nat) : Int) = 0; omega)
    obtain ⟨N3, p1, N4, p2, g1, g2, hQ⟩ := out K2 a2 (e := q2) (z := (q2 : Nat)) rfl hne' (by rw [hp, if_pos hne'])
    exact ⟨_, rfl, _, p1, _, p2, _, rfl, _, g1, _, g2, hQ⟩
  have h0' : q2 = 0 := by have h0 : ((q2 : Nat) : Int) = 0 := h0; omega
  rw [if_neg (by omega)] at hp
  refine ⟨fun hgt => ?_, fun hle => ?_⟩
  · have hgt : ((q1 : Nat) : Int) > 16777216 := hgt
    obtain ⟨N3, p1, N4, p2, g1, g2, hQ⟩ := out K2 a2 (e := 5) (z := 5) rfl (by decide) (by rw [hp, if_pos (by omega)])
    exact ⟨_, rfl, _, p1, _, p2, _, rfl, _, g1, _, g2, hQ⟩
  have hle : ¬ ((q1 : Nat) : Int) > 16777216 := hle
  rw [if_neg (by omega)] at hp
  have hRow2 := hA.keep K2
  have ed : IntKind.i64.wrap (IntKind.i64.wrap (1 + ((min n 6 - 1 : Nat) : Int)) - IntKind.i64.wrap (((8 * (r.take 5).length - 8 * q3 : Nat) : Int).tdiv 8)) = ((1 + q3 : Nat) : Int) := by
    rw [i64w (x := 1 + ((min n 6 - 1 : Nat) : Int)) (by omega), show ((8 : Int)) = ((8 : Nat) : Int) from rfl, tdivN, i64w (x := (((8 * (r.take 5).length - 8 * q3) / 8 : Nat) : Int)) (by omega), i64w (by omega)]
    omega
  obtain ⟨A2, t1, t2, t3, t4⟩ := slice_row el5 hRow2 (n := n) (c := c) (l := 1 + q3) (h := n) (by simp [hl]) hc hA0 (lo := some (.int .i64 ((1 + q3 : Nat) : Int))) (hi := none) (bound_lo rfl (by omega)) rfl (by omega) (Nat.le_refl _)
  have e2 : ((U8 (x :: r)).drop ((1 + q3) * 1)).take ((n - (1 + q3)) * 1) = U8 (r.drop q3) := by
    rw [Nat.mul_one, Nat.mul_one, Nat.add_comm 1 q3]
    show ((U8 r).drop q3).take (n - (q3 + 1)) = _
    rw [← List.map_drop, List.take_of_length_le (by simp; omega)]
  rw [e2] at t2
  have hlen2 : (r.drop q3).length = n - (1 + q3) := by rw [List.length_drop]; omega
  refine Cn.eq (c41 hR2) ⟨_, rfl, ?_⟩
  show ∃ v43', sliceP _ _ _ (some (.int .i64 (IntKind.i64.wrap (IntKind.i64.wrap (1 + ((min n 6 - 1 : Nat) : Int)) - IntKind.i64.wrap (((8 * (r.take 5).length - 8 * q3 : Nat) : Int).tdiv 8))))) _ _ = _ ∧ _
  rw [ed]
  have ez : IntKind.i64.wrap ((q1 : Nat) : Int) = ((q1 : Nat) : Int) := i64w (by omega)
  refine ⟨_, t1, _, rfl, ?_⟩
  show (IntKind.i64.wrap ((q1 : Nat) : Int) > ((n - (1 + q3) : Nat) : Int) → _) ∧ (¬ IntKind.i64.wrap ((q1 : Nat) : Int) > ((n - (1 + q3) : Nat) : Int) → _)
  rw [ez]
  refine ⟨fun hgt => ?_, fun hle2 => ?_⟩
  · obtain ⟨N3, p1, N4, p2, g1, g2, hQ⟩ := out K2 a2 (e := 3) (z := 3) rfl (by decide) (by rw [hp, if_pos (by omega)])
    exact ⟨_, rfl, _, p1, _, p2, _, rfl, _, g1, _, g2, hQ⟩
  rw [if_neg (by omega)] at hp
  obtain ⟨A3, u1, u2, u3, u4⟩ := slice_row el5 t2 (n := n - (1 + q3)) (c := c - (1 + q3)) (l := 0) (h := q1) (by simp; omega) (by omega) t4 (lo := none) (hi := some (.int .u32 (q1 : Nat))) rfl (bound_lo rfl (by omega)) (by omega) (by omega)
  have e3 : ((U8 (r.drop q3)).drop (0 * 1)).take ((q1 - 0) * 1) = U8 ((r.drop q3).take q1) := by
    rw [Nat.zero_mul, Nat.mul_one, Nat.sub_zero]
    show (U8 (r.drop q3)).take q1 = _
    rw [← List.map_take]
  rw [e3] at u2
  have hlen3 : ((r.drop q3).take q1).length = q1 := by rw [List.length_take]; omega
  refine ⟨_, u1, _, rfl, Cn.mono (c38 (n := q1 - 0) (by rw [K2.floor]; exact Nat.le_trans hf K2.size) u2 (by omega) (by omega)) ?_⟩
  rintro v3 N3 ⟨A4, c4, rfl, K3, hO, hc4⟩
  have K3' := K2.trans K3
  have a3 := at_keep a2 K3
  obtain ⟨N4, p4, C4, a4⟩ := sets a3 (by rw [K3'.floor]; exact hf) A4 (q1 - 0) c4
  obtain ⟨N5, p5, N6, p6, C6, a6⟩ := set2 a4 (by rw [C4.floor, K3'.floor]; exact hf) ((x / 16 : Nat) : Int) A4 (q1 - 0) c4
  have C46 := C4.trans C6
  refine ⟨_, rfl, _, rfl, _, p4, _, rfl, _, int_of a4 rfl, _, sl_of a4 rfl, _, rfl, _, p5, _, p6, _, rfl, _, int_of a6 rfl, _, sl_of a6 rfl, ?_⟩
  unfold PcR
  rw [hp]
  have ex : IntKind.i64.wrap (IntKind.i64.wrap ((n : Int) - ((n - (1 + q3) : Nat) : Int)) + ((q1 : Nat) : Int)) = ((1 + q3 + q1 : Nat) : Int) := by
    rw [i64w (x := (n : Int) - ((n - (1 + q3) : Nat) : Int)) (by omega), i64w (by omega)]; omega
  refine ⟨A4, c4, 1 + q3 + q1, ?_, by simp, Keep.step K3' C46 fun i hi => by omega, ?_⟩
  · show Value.tuple #[.agg #[.int .i64 ((x / 16 : Nat) : Int), .slice A4 (q1 - 0) c4], .int .i64 (IntKind.i64.wrap (IntKind.i64.wrap ((n : Int) - ((n - (1 + q3) : Nat) : Int)) + ((q1 : Nat) : Int))), .int .i64 0] = _
    rw [ex]; simp only [hlen3]; rfl
  · exact (hO.chg C46 fun i hi hs => by have := lt_of_at a2; omega).mono fun i _ hi => Nat.le_trans K2.size hi
theorem c27 {M : Mem} (hf : M.floor ≤ M.nb.size) (hA : Row M A (U8 b)) (hn : n = b.length) (hb : n ≤ 4398046511104) (hc : n ≤ c) (hA0 : A = none → c = 0) (hB : Byt b) :
    Cn Try.prog 27 #[.slice A n c] M (PcR M b 0) := by
  have K : Keep M (M.new (ObB 0 none 0 0)) := .new _ _
  have a0 := Mem.new_at M (ObB 0 none 0 0)
  match b, hA, hn, hB with
  | [], hA, hn, hB =>
    obtain ⟨N1, p1, N2, p2, C, a2⟩ := set2 a0 hf 0 none 0 0
    exact w27_0 ⟨fun _ => ⟨_, int_of a0 rfl, _, sl_of a0 rfl, _, p1, _, p2, _, int_of a2 rfl, _, sl_of a2 rfl, PcR.bad (e := 3) rfl (by decide) (Keep.step K C fun i hi => by omega) rfl⟩, fun h => absurd (show (n : Int) = 0 by rw [hn]; rfl) h⟩
  | x :: r, hA, hn, hB =>
    have hx : x < 256 := hB x (List.mem_cons_self ..)
    have hl : r.length + 1 = n := hn.symm
    obtain ⟨a, i1, i2⟩ := (hA.keep K).int1 (n := n) (i := 0) (z := 0) (k := .u8) (x := (x : Nat)) rfl (by omega) (by simp)
    have ew : IntKind.i64.wrap (IntKind.u8.wrap ((x : Int).tdiv 16)) = ((x / 16 : Nat) : Int) := by
      rw [show ((16 : Int)) = ((16 : Nat) : Int) from rfl, tdivN, u8w (by omega), i64w (by omega)]
    obtain ⟨N1, p1, C1, a1⟩ := setk a0 hf ((x / 16 : Nat) : Int)
    have K1 : Keep M N1 := Keep.step K C1 fun i hi => by omega
    obtain ⟨a', i1', i2'⟩ := (hA.keep K1).int1 (n := n) (i := 0) (z := 0) (k := .u8) (x := (x : Nat)) rfl (by omega) (by simp)
    have fin : ∀ fl : Bool, (fl = true ↔ (x ≠ 16 ∧ x ≠ 32 ∧ x ≠ 48)) → A27_1 A n c (some ⟨2 * M.nb.size, 0, none⟩) fl N1 (PcR M (x :: r) 0) := fun fl h => c27_in hf hA hn hb hc hA0 hB K1 a1 h
    refine w27_0 ⟨fun h => by omega, fun _ => ⟨_, i1, _, i2, ?_⟩⟩
    rw [ew]
    refine ⟨_, p1, _, i1', _, i2', ?_⟩
    rw [show (((x : Nat) : Int)).tmod 16 = ((x % 16 : Nat) : Int) from tmodN x 16]
    refine ⟨fun h => fin true (by simp; omega), fun h => ⟨_, int_of a1 rfl, Cn.eq c29 ⟨_, rfl, fin _ ?_⟩⟩⟩
    simp
    omega
end
end Go.Zt
