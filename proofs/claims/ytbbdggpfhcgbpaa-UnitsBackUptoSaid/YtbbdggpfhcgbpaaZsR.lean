/- The abstract machine 'Sim': numbers, objects in its memory, rows of elements of several cells. -/
import Derived.Test.YtbbdggpfhcgbpaaZsQ
import Derived.Laws.Bits64
import Derived.Laws.BitsAllLaws
set_option linter.unusedSimpArgs false
set_option linter.unusedVariables false
namespace Go.Sim
open Go Go.RowKit

/-! ### Numbers -/
theorem i64w {x : Int} (h : -9223372036854775808 ≤ x ∧ x ≤ 9223372036854775807) : IntKind.i64.wrap x = x := by rw [IntKind.wrap_i64]; omega
theorem i32w {x : Int} (h : -2147483648 ≤ x ∧ x ≤ 2147483647) : IntKind.i32.wrap x = x := by rw [IntKind.wrap_i32]; omega
theorem u64w {x : Int} (h : 0 ≤ x ∧ x ≤ 18446744073709551615) : IntKind.u64.wrap x = x := by rw [IntKind.wrap_u64]; omega
theorem u32w {x : Int} (h : 0 ≤ x ∧ x ≤ 4294967295) : IntKind.u32.wrap x = x := by rw [IntKind.wrap_u32]; omega
theorem u16w {x : Int} (h : 0 ≤ x ∧ x ≤ 65535) : IntKind.u16.wrap x = x := by rw [IntKind.wrap_u16]; omega
theorem u8w {x : Int} (h : 0 ≤ x ∧ x ≤ 255) : IntKind.u8.wrap x = x := by rw [IntKind.wrap_u8]; omega
theorem tdivN (x n : Nat) : ((x : Int)).tdiv (n : Int) = ((x / n : Nat) : Int) := rfl
theorem tmodN (x n : Nat) : ((x : Int)).tmod (n : Int) = ((x % n : Nat) : Int) := rfl
theorem fdivN (x n : Nat) : ((x : Int)).fdiv (n : Int) = ((x / n : Nat) : Int) := (Int.ofNat_fdiv x n).symm
theorem wrapU {k : IntKind} (hk : k.signed = false) {n : Nat} (h : n < 2 ^ k.bits) : k.wrap (n : Int) = n := by
  unfold IntKind.wrap
  simp only [hk, Bool.false_and, Bool.false_eq_true, if_false]
  rw [Int.emod_eq_of_lt (by omega)]
  exact_mod_cast h
theorem toNat_ofInt_nat (w x : Nat) : (BitVec.ofInt w (x : Int)).toNat = x % 2 ^ w := by
  rw [BitVec.ofInt_natCast, BitVec.toNat_ofNat]
theorem and_mask {k : IntKind} (hk : k.signed = false) {x m : Nat} {c : Int} (hc : c = ((2 ^ m - 1 : Nat) : Int)) (hm : m ≤ k.bits) (hx : x < 2 ^ k.bits) :
    k.wrap (((BitVec.ofInt k.bits (x : Int) &&& BitVec.ofInt k.bits c).toNat : Nat) : Int) = ((x % 2 ^ m : Nat) : Int) := by
  subst hc
  have h2 : (2 : Nat) ^ m ≤ 2 ^ k.bits := Nat.pow_le_pow_right (by decide) hm
  have h3 := Nat.two_pow_pos m
  rw [BitVec.toNat_and, toNat_ofInt_nat, toNat_ofInt_nat, Nat.mod_eq_of_lt hx, Nat.mod_eq_of_lt (by omega), Nat.and_two_pow_sub_one_eq_mod]
  exact wrapU hk (Nat.lt_of_lt_of_le (Nat.mod_lt _ h3) h2)
theorem or_nat {k : IntKind} (hk : k.signed = false) {x y : Nat} (hx : x < 2 ^ k.bits) (hy : y < 2 ^ k.bits) :
    k.wrap (((BitVec.ofInt k.bits (x : Int) ||| BitVec.ofInt k.bits (y : Int)).toNat : Nat) : Int) = ((x ||| y : Nat) : Int) := by
  rw [BitVec.toNat_or, toNat_ofInt_nat, toNat_ofInt_nat, Nat.mod_eq_of_lt hx, Nat.mod_eq_of_lt hy]
  exact wrapU hk (Nat.or_lt_two_pow hx hy)
theorem or_add {x y k : Nat} (h : 2 ^ k ∣ x) (hy : y < 2 ^ k) : x ||| y = x + y := by
  obtain ⟨q, rfl⟩ := h
  exact (Nat.two_pow_add_eq_or_of_lt hy q).symm
theorem and7_i64 (x : Int) : IntKind.i64.wrap (((BitVec.ofInt (IntKind.bits .i64) x &&& BitVec.ofInt (IntKind.bits .i64) 7).toNat : Nat) : Int) = x % 8 := by
  have e : ((BitVec.ofInt (IntKind.bits .i64) x &&& BitVec.ofInt (IntKind.bits .i64) 7).toNat : Nat) = (x % 8).toNat := by
    rw [BitVec.toNat_and]
    have h1 : (BitVec.ofInt (IntKind.bits .i64) (7 : Int)).toNat = 2 ^ 3 - 1 := by decide
    rw [h1, Nat.and_two_pow_sub_one_eq_mod, BitVec.toNat_ofInt]
    show (x % ((18446744073709551616 : Nat) : Int)).toNat % 8 = (x % 8).toNat
    omega
  rw [e, i64w (by omega)]
  omega
theorem binV_shl {P : Program} {t tb : TypeId} {k k2 : IntKind} {x : Int} {q : Nat} : binV P .shl t tb (.int k x) (.int k2 q) = some (.int k (k.wrap (x * 2 ^ min q k.bits))) := by
  have h0 : ¬ ((q : Int) < 0) := by omega
  have e : ∀ ρ : Operand → Value, ρ (.tmp 0) = .int k x → ρ (.tmp 1) = .int k2 q → nw P (execOp ρ ⟨none, .binOp .shl t (.tmp 0) (.tmp 1) tb, 0, "", #[], none⟩) = some (.value (.int k (k.wrap (x * 2 ^ min q k.bits)))) := by
    intro ρ h1 h2
    simp [execOp, eqGuard, binOp, Op.shift, h0, nw, h1, h2]
    rfl
  unfold binV pureOp
  split
  · rw [e _ rfl rfl]; rfl
  · rename_i h; exact absurd rfl h
theorem binV_shr {P : Program} {t tb : TypeId} {k k2 : IntKind} {x : Int} {q : Nat} : binV P .shr t tb (.int k x) (.int k2 q) = some (.int k (x.fdiv (2 ^ min q k.bits))) := by
  have h0 : ¬ ((q : Int) < 0) := by omega
  have e : ∀ ρ : Operand → Value, ρ (.tmp 0) = .int k x → ρ (.tmp 1) = .int k2 q → nw P (execOp ρ ⟨none, .binOp .shr t (.tmp 0) (.tmp 1) tb, 0, "", #[], none⟩) = some (.value (.int k (x.fdiv (2 ^ min q k.bits)))) := by
    intro ρ h1 h2
    simp [execOp, eqGuard, binOp, Op.shift, h0, nw, h1, h2]
    rfl
  unfold binV pureOp
  split
  · rw [e _ rfl rfl]; rfl
  · rename_i h; exact absurd rfl h
/-- Shifts of numbers that stay in their kind. -/
theorem shl_nat {P : Program} {t tb : TypeId} {k k2 : IntKind} (hk : k.signed = false) {x q : Nat} {z : Int} (hz : z = (q : Int)) (h : x * 2 ^ q < 2 ^ k.bits) (hq : q ≤ k.bits) : binV P .shl t tb (.int k (x : Int)) (.int k2 z) = some (.int k ((x * 2 ^ q : Nat) : Int)) := by
  subst hz
  rw [binV_shl, Nat.min_eq_left hq]
  have e : (x : Int) * 2 ^ q = ((x * 2 ^ q : Nat) : Int) := by push_cast; rfl
  rw [e, wrapU hk h]
theorem shr_nat {P : Program} {t tb : TypeId} {k k2 : IntKind} {x q : Nat} {z : Int} (hz : z = (q : Int)) (hq : q ≤ k.bits) : binV P .shr t tb (.int k (x : Int)) (.int k2 z) = some (.int k ((x / 2 ^ q : Nat) : Int)) := by
  subst hz
  rw [binV_shr, Nat.min_eq_left hq]
  have e : (2 : Int) ^ q = ((2 ^ q : Nat) : Int) := by push_cast; rfl
  rw [e, fdivN]

/-- A call that leaves the memory as it was. -/
theorem Cn.eq {P : Program} [Orc P] {f : FuncId} {args : Array Value} {M : Mem} {u : Value} {Q : Value → Mem → Prop} (h : Cn P f args M fun v N => v = u ∧ N = M) (hQ : Q u M) : Cn P f args M Q :=
  Cn.mono h fun v N hv => by rw [hv.1, hv.2]; exact hQ

/-! ### Objects: blocks of cells of several kinds -/
section
variable {M : Mem} {j i : Nat} {cs : Array Value} {t : TypeId}
theorem cell_of (h : M.nb[j]? = some (.cells cs t)) : M.cell (2 * j) i = cs[i]? := by rw [cell_new, h]
theorem int_of {k : IntKind} {x : Int} (h : M.nb[j]? = some (.cells cs t)) (hi : cs[i]? = some (.int k x)) : M.intAt k (2 * j) i = some x := by
  simp only [Mem.intAt, cell_of h, hi, Option.bind_some, asI, if_true]
theorem bool_of {x : Bool} (h : M.nb[j]? = some (.cells cs t)) (hi : cs[i]? = some (.bool x)) : M.boolAt (2 * j) i = some x := by
  simp only [Mem.boolAt, cell_of h, hi, Option.bind_some, asB]
theorem ptr_of {x : Option Addr} (h : M.nb[j]? = some (.cells cs t)) (hi : cs[i]? = some (.pointer x)) : M.ptrAt (2 * j) i = some x := by
  simp only [Mem.ptrAt, cell_of h, hi, Option.bind_some, asP]
theorem sl_of {A : Option Addr} {l c : Nat} (h : M.nb[j]? = some (.cells cs t)) (hi : cs[i]? = some (.slice A l c)) : M.slAt (2 * j) i = some (A, l, c) := by
  simp only [Mem.slAt, cell_of h, hi, Option.bind_some, asS]
def Mem.upd (M : Mem) (j : Nat) (b : Blk) : Mem := { M with nb := M.nb.setIfInBounds j b }
theorem put_of {v : Value} (h : M.nb[j]? = some (.cells cs t)) (hf : M.floor ≤ j) (hi : i < cs.size) (hv : oneCell v = true) : M.put (2 * j) i v = some (M.upd j (.cells (cs.setIfInBounds i v) t)) := by
  unfold Mem.put
  rw [if_neg (by omega), show 2 * j / 2 = j by omega, if_neg (by omega), if_pos hv, h]
  simp only [hi, if_true]
  rfl
theorem upd_at {b : Blk} (h : j < M.nb.size) : (M.upd j b).nb[j]? = some b := by simp [Mem.upd, Array.getElem?_setIfInBounds, h]
theorem upd_ne {b : Blk} {i : Nat} (h : i ≠ j) : (M.upd j b).nb[i]? = M.nb[i]? := by simp [Mem.upd, Array.getElem?_setIfInBounds, Ne.symm h]
theorem upd_size (b : Blk) : (M.upd j b).nb.size = M.nb.size := by simp [Mem.upd]
theorem upd_chg {S : Nat → Prop} {b : Blk} (h : S j) : Chg S M (M.upd j b) := ⟨rfl, rfl, by rw [upd_size]; exact Nat.le_refl _, fun i _ hs => upd_ne fun e => hs (e ▸ h)⟩
theorem lt_of_at {b : Blk} (h : M.nb[j]? = some b) : j < M.nb.size := (Array.getElem?_eq_some_iff.1 h).1
theorem at_chg {S : Nat → Prop} {M' : Mem} {b : Blk} (h : M.nb[j]? = some b) (k : Chg S M M') (hs : ¬ S j) : M'.nb[j]? = some b := by rw [k.same j (lt_of_at h) hs]; exact h
theorem at_keep {M' : Mem} {b : Blk} (h : M.nb[j]? = some b) (k : Keep M M') : M'.nb[j]? = some b := at_chg h k fun x => x
theorem new_ne {b : Blk} {b' : Blk} (h : M.nb[j]? = some b') : (M.new b).nb[j]? = some b' := by
  have := lt_of_at h
  simp only [Mem.new, Array.getElem?_push]; rw [if_neg (by omega)]; exact h
end
theorem cell_int {M : Mem} {b o : Nat} {k : IntKind} {x : Int} (h : M.cell b o = some (.int k x)) : M.intAt k b o = some x := by simp only [Mem.intAt, h, Option.bind_some, asI, if_true]
theorem cell_bool {M : Mem} {b o : Nat} {x : Bool} (h : M.cell b o = some (.bool x)) : M.boolAt b o = some x := by simp only [Mem.boolAt, h, Option.bind_some, asB]
theorem cell_sl {M : Mem} {b o : Nat} {A : Option Addr} {l c : Nat} (h : M.cell b o = some (.slice A l c)) : M.slAt b o = some (A, l, c) := by simp only [Mem.slAt, h, Option.bind_some, asS]

/-! ### Rows -/
theorem Row.none_nil {M : Mem} {L : List Value} (h : Row M none L) : L = [] := by
  cases L with
  | nil => rfl
  | cons v L => obtain ⟨a, ha, _⟩ := h 0 (by simp); cases ha
theorem Row.nil {M : Mem} {A : Option Addr} : Row M A [] := fun i h => by simp at h
/-- An element of s cells. -/
theorem Row.elt {M : Mem} {A : Option Addr} {L : List Value} (hR : Row M A L) {n s i : Nat} {z : Int} (hz : z = (i : Int)) (hn : i < n) (hs : 0 < s) (hi : i * s + s ≤ L.length) :
    ∃ a, idxA A n s z = some a ∧ ∀ o, o < s → M.cell a.block (a.off + o) = L[i * s + o]? := by
  obtain ⟨a, rfl, _⟩ := hR (i * s) (by omega)
  refine ⟨⟨a.block, a.off + i * s, none⟩, ?_, fun o ho => ?_⟩
  · unfold idxA
    rw [if_pos ⟨by omega, by omega⟩, hz]; rfl
  · obtain ⟨b, hb, hc⟩ := hR (i * s + o) (by omega)
    obtain rfl := Option.some.inj hb
    rw [show a.off + i * s + o = a.off + (i * s + o) by omega, hc, List.getElem?_eq_getElem (by omega)]
theorem Row.elt1 {M : Mem} {A : Option Addr} {L : List Value} (hR : Row M A L) {n i : Nat} {z : Int} (hz : z = (i : Int)) (hn : i < n) (hi : i < L.length) :
    ∃ a, idxA A n 1 z = some a ∧ M.cell a.block a.off = L[i]? := by
  obtain ⟨a, h1, h2⟩ := hR.elt (s := 1) hz hn (by decide) (by omega)
  exact ⟨a, h1, by simpa using h2 0 (by decide)⟩
theorem Row.int1 {M : Mem} {A : Option Addr} {L : List Value} (hR : Row M A L) {n i : Nat} {z : Int} {k : IntKind} {x : Int} (hz : z = (i : Int)) (hn : i < n) (hx : L[i]? = some (.int k x)) :
    ∃ a, idxA A n 1 z = some a ∧ M.intAt k a.block a.off = some x := by
  obtain ⟨a, h1, h2⟩ := hR.elt1 hz hn (List.getElem?_eq_some_iff.1 hx).1
  exact ⟨a, h1, cell_int (h2.trans hx)⟩

/-- A slice type of elements of s cells. -/
structure ElemS (P : Program) (t e : TypeId) (s b : Nat) (z : Value) : Prop where
  slice : P.underlying t = some (.slice e)
  look : ((P.info? e).map fun i => (i.zero, i.size, i.bytes)) = some (some z, s, b)
  cells : z.cells.size = s
  closed : closed z = true
  pos : 0 < s ∧ 0 < b ∧ b ≤ 1048576
theorem ElemS.info {P : Program} {t e : TypeId} {s b : Nat} {z : Value} (h : ElemS P t e s b z) : ∃ i, P.info? e = some i ∧ i.zero = some z ∧ i.size = s ∧ i.bytes = b := by
  obtain ⟨i, h1, h2⟩ := Option.map_eq_some_iff.1 h.look
  simp only [Prod.mk.injEq] at h2
  exact ⟨i, h1, h2⟩
theorem ElemS.size {P : Program} {t e : TypeId} {s b : Nat} {z : Value} (h : ElemS P t e s b z) : sizeP P e = some s := by
  obtain ⟨i, h1, h2, h4, h5⟩ := h.info
  simp only [sizeP, h1, Option.map_some, h4]

theorem putN_own {S : Nat → Prop} {e : TypeId} : ∀ (L' : List Value) {M : Mem} {j o : Nat} {cs : Array Value}, S j → M.floor ≤ j → M.nb[j]? = some (.cells cs e) → o + L'.length ≤ cs.size → L'.all oneCell = true →
    ∃ M' cs', M.putN (2 * j) o L' = some M' ∧ Chg S M M' ∧ M'.nb.size = M.nb.size ∧ M'.nb[j]? = some (.cells cs' e) ∧ cs'.size = cs.size ∧ cs'.toList.take (o + L'.length) = cs.toList.take o ++ L'
  | [], M, j, o, cs, hS, hf, hc, ho, hv => ⟨M, cs, rfl, .refl _, rfl, hc, rfl, by simp⟩
  | v :: L', M, j, o, cs, hS, hf, hc, ho, hv => by
    simp only [List.all_cons, Bool.and_eq_true] at hv
    simp only [List.length_cons] at ho
    have h1 := put_of (i := o) (v := v) hc hf (by omega) hv.1
    have hlt := lt_of_at hc
    obtain ⟨M', cs', g1, g2, g3, g4, g5, g6⟩ := putN_own (S := S) (e := e) L' (M := M.upd j (.cells (cs.setIfInBounds o v) e)) (o := o + 1) hS hf (upd_at hlt) (by simp; omega) hv.2
    refine ⟨M', cs', by simp only [Mem.putN, h1, Option.bind_some, g1], (upd_chg hS).trans g2, g3.trans (upd_size _), g4, by simpa using g5, ?_⟩
    have e1 : (cs.setIfInBounds o v).toList.take (o + 1) = cs.toList.take o ++ [v] := by
      rw [Array.toList_setIfInBounds]
      have := take_append_set (L := cs.toList.take o) (cs := cs.toList) (v := v) (by simp [List.length_take, Nat.min_eq_left (show o ≤ cs.size by omega)]) (by simp; omega)
      simpa [List.length_take, Nat.min_eq_left (show o ≤ cs.size by omega)] using this
    rw [show o + (v :: L').length = o + 1 + L'.length by simp; omega, g6, e1]
    simp
/-- A row is appended to a new one. -/
theorem append_own {P : Program} {t e : TypeId} {s b : Nat} {z : Value} (hE : ElemS P t e s b z) {S : Nat → Prop} {M : Mem} {A X : Option Addr} {n c k cx : Nat} {L L' : List Value}
    (hO : Own S M e A (c * s) L) (hn : L.length = n * s) (hX : Row M X L') (hk : L'.length = k * s) (hone : L'.all oneCell = true) (hS : ∀ j, S j → M.floor ≤ j) (hS2 : S M.nb.size) (hb : (n + k) * b ≤ 140737488355328) :
    ∃ A' c' M', appendP P #[t, t] (.slice A n c) (.slice X k cx) M = some (.slice A' (n + k) c', M') ∧ Chg S M M' ∧ Own S M' e A' (c' * s) (L ++ L') ∧ n + k ≤ c' := by
  obtain ⟨i, h1, h2, h4, h5⟩ := hE.info
  have hsl := hE.slice
  obtain ⟨hp0, hp1, hp2⟩ := hE.pos
  have hsrc : M.src X (k * s) = some L' := by rw [← hk]; exact hX.src
  have hcap := hO.cap
  have hnc : n ≤ c := by rw [hn] at hcap; exact Nat.le_of_mul_le_mul_right hcap hp0
  unfold appendP
  simp only [Array.getElem?_eq_getElem, List.size_toArray, List.length_cons, List.length_nil, Nat.zero_add, Nat.reduceLT, Nat.reduceAdd, List.getElem_toArray, List.getElem_cons_zero, List.getElem_cons_succ, Option.bind_some, hsl, h1, h2, hE.cells, h4, h5]
  rw [if_pos ⟨trivial, hp0, hp1, hp2⟩, hsrc]
  simp only [Option.bind_some]
  by_cases hc : n + k ≤ c
  · rw [if_pos hc]
    rcases hO with ⟨rfl, rfl, hc0⟩ | ⟨j, cs, sp, rfl, g2, g3, g4, g5, g6, g7⟩
    · have hc1 : c = 0 := by
        rcases Nat.mul_eq_zero.1 hc0 with h | h
        · exact h
        · omega
      subst hc1
      have hk0 : k = 0 := by omega
      have hn0 : n = 0 := by omega
      subst hk0 hn0
      have hL : L' = [] := List.length_eq_zero_iff.1 (by rw [hk]; omega)
      subst hL
      exact ⟨none, 0, M, by simp, .refl _, .inl ⟨rfl, rfl, by omega⟩, by omega⟩
    · have hle : n * s + k * s ≤ cs.size := by
        rw [← Nat.add_mul]; exact Nat.le_trans (Nat.mul_le_mul_right s hc) g7
      obtain ⟨M', cs', p1, p2, p3, p4, p5, p6⟩ := putN_own (S := S) (e := e) L' (o := 0 + n * s) g3 (hS j g3) g4 (by rw [hk]; omega) hone
      refine ⟨some ⟨2 * j, 0, sp⟩, c, M', by simp only [p1, Option.map_some], p2, .inr ⟨j, cs', sp, rfl, g2, g3, p4, ?_, ?_, by rw [p5]; exact g7⟩, hc⟩
      · have e1 : (L ++ L').length = 0 + n * s + L'.length := by simp [hn]
        rw [e1, p6, Nat.zero_add, ← hn, g5]
      · simp only [List.length_append, hn, hk]; rw [← Nat.add_mul]; exact Nat.mul_le_mul_right s hc
  · rw [if_neg hc, if_pos hb]
    have hsrc2 : M.src A (n * s) = some L := by rw [← hn]; exact hO.row.src
    rw [hsrc2]; simp only [Option.bind_some]
    have key : ∃ M', M.leave A e (c * s) L' = some M' ∧ Chg S M M' ∧ M'.nb.size = M.nb.size := by
      rcases hO with ⟨rfl, _, _⟩ | ⟨j, cs, sp, rfl, g2, g3, g4, g5, g6, g7⟩
      · exact ⟨_, rfl, .refl _, rfl⟩
      · unfold Mem.leave
        by_cases hsp : sp = none
        · simp only [hsp, or_true, if_true]; exact ⟨_, rfl, .refl _, rfl⟩
        · simp only [hsp, or_false]
          rw [if_neg (by omega), show 2 * j / 2 = j by omega, g4]
          simp only [Nat.zero_add, g7, hone, and_self, if_true]
          obtain ⟨M', k1, k2, k3⟩ := Mem.kill_chg (S := S) (M := M) (hS j g3) g3
          exact ⟨M', k1, k2, k3⟩
    obtain ⟨M', k1, k2, k3⟩ := key
    rw [k1]; simp only [Option.bind_some]
    refine ⟨_, _, _, rfl, k2.trans (.new _ _), .inr ⟨M.nb.size, (L ++ L').toArray, some 0, rfl, .inr rfl, hS2, ?_, ?_, ?_, ?_⟩, Nat.le_refl _⟩
    · rw [← k3]; exact Mem.new_at _ _
    · rw [List.take_length]
    · simp only [List.length_append, hn, hk]; rw [Nat.add_mul]; exact Nat.le_refl _
    · simp only [List.size_toArray, List.length_append, hn, hk]; rw [Nat.add_mul]; exact Nat.le_refl _
theorem bound_lo {h l : Nat} {k : IntKind} {z : Int} (hz : z = (l : Int)) (hl : l ≤ h) {d : Nat} : bound (some (.int k z)) h d = some l := by
  unfold bound; simp only; rw [if_pos ⟨by omega, by omega⟩, hz]; rfl
/-- A part of a row. -/
theorem slice_row {P : Program} {t e : TypeId} {s b : Nat} {z : Value} (hE : ElemS P t e s b z) {M : Mem} {A : Option Addr} {L : List Value} (hR : Row M A L) {n c l h : Nat} (hn : L.length = n * s) (hnc : n ≤ c) (hA : A = none → c = 0)
    {lo hi : Option Value} (hl : bound lo h 0 = some l) (hh : bound hi c n = some h) (hlh : l ≤ h) (hle : h ≤ n) :
    ∃ A', sliceP P t (.slice A n c) lo hi none = some (.slice A' (h - l) (c - l)) ∧ Row M A' ((L.drop (l * s)).take ((h - l) * s)) ∧ (∀ a', A' = some a' → ∃ a, A = some a ∧ a.block = a'.block) ∧ (A' = none → c - l = 0) := by
  have e0 : ∀ A : Option Addr, sliceP P t (.slice A n c) lo hi none = match A with
      | none => if n = 0 ∧ c = 0 then some (.slice none 0 0) else none
      | some a => cut s a n false l h c := by
    intro A
    have e2 : ∀ y d, bound none y d = some d := fun _ _ => rfl
    simp only [sliceP, hE.slice, e2, Option.bind_some, Option.isSome_none, Bool.and_false, Bool.false_eq_true, if_false, hh, hl, hE.size]
    cases A <;> rfl
  rw [e0]
  cases A with
  | none =>
    have hc := hA rfl
    have hL := hR.none_nil
    subst hL
    refine ⟨none, ?_, ?_, fun a' h => (by cases h), fun _ => by omega⟩
    · simp only; rw [if_pos ⟨by omega, hc⟩, show h - l = 0 by omega, show c - l = 0 by omega]
    · simpa using Row.nil
  | some a =>
    simp only
    have hls : l * s ≤ h * s := Nat.mul_le_mul_right s hlh
    have hhs : h * s ≤ n * s := Nat.mul_le_mul_right s hle
    have esub : (h - l) * s = h * s - l * s := Nat.sub_mul ..
    have key : ∀ a' : Addr, a'.block = a.block → (h - l = 0 ∨ a'.off = a.off + l * s) → Row M (some a') ((L.drop (l * s)).take ((h - l) * s)) := by
      intro a' e1 e2 i hi
      have hi' : i < min ((h - l) * s) (L.length - l * s) := by simpa using hi
      have e2 := e2.resolve_left fun h0 => by rw [h0] at hi'; simp at hi'
      obtain ⟨b, hb, hc⟩ := hR (l * s + i) (by omega)
      obtain rfl := Option.some.inj hb
      exact ⟨a', rfl, by rw [e1, e2, Nat.add_assoc, hc]; simp⟩
    unfold cut
    by_cases ho : a.block % 2 = 1
    · rw [if_pos ho, if_pos hle]
      by_cases hcl : c = l
      · rw [if_pos hcl]; exact ⟨_, rfl, key a rfl (.inl (by omega)), fun a' h => ⟨a, rfl, by obtain rfl := Option.some.inj h; rfl⟩, fun h => (by cases h)⟩
      · rw [if_neg hcl]; exact ⟨_, rfl, key _ rfl (.inr rfl), fun a' h => ⟨a, rfl, by obtain rfl := Option.some.inj h; rfl⟩, fun h => (by cases h)⟩
    · rw [if_neg ho]
      by_cases hs : a.spot = none
      · rw [if_pos hs]
        by_cases hcl : c = l
        · rw [if_pos hcl]; exact ⟨_, rfl, key a rfl (.inl (by omega)), fun a' h => ⟨a, rfl, by obtain rfl := Option.some.inj h; rfl⟩, fun h => (by cases h)⟩
        · rw [if_neg hcl]; exact ⟨_, rfl, key _ rfl (.inr rfl), fun a' h => ⟨a, rfl, by obtain rfl := Option.some.inj h; rfl⟩, fun h => (by cases h)⟩
      · rw [if_neg hs]
        simp only [Bool.false_eq_true, if_false]
        exact ⟨_, rfl, key _ rfl (.inr rfl), fun a' h => ⟨a, rfl, by obtain rfl := Option.some.inj h; rfl⟩, fun h => (by cases h)⟩
theorem Own.none_zero {S : Nat → Prop} {M : Mem} {e : TypeId} {A : Option Addr} {c : Nat} {L : List Value} (h : Own S M e A c L) : A = none → c = 0 := by
  rintro rfl
  rcases h with ⟨_, _, h⟩ | ⟨j, cs, sp, h, _⟩
  · exact h
  · cases h
theorem Own.in_ {S : Nat → Prop} {M : Mem} {e : TypeId} {A : Option Addr} {c : Nat} {L : List Value} (h : Own S M e A c L) : ∀ a, A = some a → a.block % 2 = 0 ∧ S (a.block / 2) := by
  intro a ha
  rcases h with ⟨h, _⟩ | ⟨j, cs, sp, h, _, h3, _⟩
  · rw [h] at ha; cases ha
  · rw [h] at ha; obtain rfl := Option.some.inj ha
    exact ⟨by show 2 * j % 2 = 0; omega, by show S (2 * j / 2); rw [show 2 * j / 2 = j by omega]; exact h3⟩
theorem Own.size {S : Nat → Prop} {M : Mem} {e : TypeId} {A : Option Addr} {c : Nat} {L : List Value} (h : Own S M e A c L) : c = 0 ∨ ∃ a, A = some a := by
  rcases h with ⟨_, _, h⟩ | ⟨j, cs, sp, h, _⟩
  · exact .inl h
  · exact .inr ⟨_, h⟩
theorem Own.empty {S : Nat → Prop} {M : Mem} {e : TypeId} : Own S M e none 0 [] := .inl ⟨rfl, rfl, rfl⟩
/-- A new block as a row. -/
theorem Own.fresh {S : Nat → Prop} {M : Mem} {e : TypeId} {L : List Value} (hS : S M.nb.size) : Own S (M.new (.cells L.toArray e)) e (some ⟨2 * M.nb.size, 0, none⟩) L.length L :=
  .inr ⟨M.nb.size, L.toArray, none, rfl, .inl rfl, hS, Mem.new_at _ _, by simp, Nat.le_refl _, by simp⟩
/-- A row is copied into new memory, behind an empty literal. -/
theorem clone_own {P : Program} {t e : TypeId} {s b : Nat} {z : Value} (hE : ElemS P t e s b z) {M : Mem} {A : Option Addr} {n c : Nat} {L : List Value} (hR : Row M A L) (hn : L.length = n * s) (h1 : L.all oneCell = true) (hf : M.floor ≤ M.nb.size) (hb : n * b ≤ 140737488355328) :
    ∃ A' c' M', appendP P #[t, t] (.slice (some ⟨2 * M.nb.size, 0, none⟩) 0 0) (.slice A n c) (M.new (.cells #[] e)) = some (.slice A' n c', M') ∧ Keep M M' ∧ Own (fun j => M.nb.size ≤ j) M' e A' (c' * s) L ∧ n ≤ c' := by
  have hO : Own (fun j => M.nb.size ≤ j) (M.new (.cells #[] e)) e (some ⟨2 * M.nb.size, 0, none⟩) (0 * s) [] := by
    rw [Nat.zero_mul]; exact Own.fresh (L := []) (Nat.le_refl _)
  obtain ⟨A', c', M', g1, g2, g3, g4⟩ := append_own hE hO (n := 0) (k := n) (by simp) (hR.keep (.new _ _)) hn h1 (fun j hj => Nat.le_trans hf hj) (by simp [Mem.new_size]) (by simpa using hb)
  refine ⟨A', c', M', by simpa using g1, Keep.step (.refl _) ((Chg.new (S := fun j => M.nb.size ≤ j) M _).trans g2) fun j hj => hj, by simpa using g3, by simpa using g4⟩
/-- A cell of a new row is written. -/
theorem Own.put {S : Nat → Prop} {M : Mem} {e : TypeId} {A : Option Addr} {c : Nat} {L : List Value} (hO : Own S M e A c L) (hS : ∀ j, S j → M.floor ≤ j) {n i s o : Nat} {z : Int} {v : Value} (hz : z = (i : Int)) (hn : i < n) (ho : o < s)
    (hi : i * s + o < L.length) (hv : oneCell v = true) :
    ∃ a, idxA A n s z = some a ∧ ∃ M', M.put a.block (a.off + o) v = some M' ∧ Chg S M M' ∧ M'.nb.size = M.nb.size ∧ Own S M' e A c (L.set (i * s + o) v) := by
  rcases hO with ⟨rfl, rfl, rfl⟩ | ⟨j, cs, sp, rfl, g2, g3, g4, g5, g6, g7⟩
  · simp at hi
  · have hlt := lt_of_at g4
    have h1 := put_of (i := 0 + i * s + o) (v := v) g4 (hS j g3) (by omega) hv
    refine ⟨⟨2 * j, 0 + i * s, none⟩, ?_, _, h1, upd_chg g3, upd_size _, .inr ⟨j, _, sp, rfl, g2, g3, upd_at hlt, ?_, ?_, ?_⟩⟩
    · unfold idxA; rw [if_pos ⟨by omega, by omega⟩, hz]; rfl
    · rw [Array.toList_setIfInBounds, List.length_set, List.take_set, g5, Nat.zero_add]
    · simpa using g6
    · simpa using g7
theorem Own.put1 {S : Nat → Prop} {M : Mem} {e : TypeId} {A : Option Addr} {c : Nat} {L : List Value} (hO : Own S M e A c L) (hS : ∀ j, S j → M.floor ≤ j) {n i : Nat} {z : Int} {v : Value} (hz : z = (i : Int)) (hn : i < n)
    (hi : i < L.length) (hv : oneCell v = true) :
    ∃ a, idxA A n 1 z = some a ∧ ∃ M', M.put a.block a.off v = some M' ∧ Chg S M M' ∧ M'.nb.size = M.nb.size ∧ Own S M' e A c (L.set i v) := by
  obtain ⟨a, h1, M', h2⟩ := hO.put hS (s := 1) (o := 0) hz hn (by decide) (by omega) hv
  exact ⟨a, h1, M', by simpa using h2⟩
theorem app1S {P : Program} {t e : TypeId} {b : Nat} {z : Value} (hE : ElemS P t e 1 b z) {S : Nat → Prop} {M : Mem} {A : Option Addr} {n c : Nat} {L : List Value} {v : Value}
    (hO : Own S M e A c L) (hn : n = L.length) (hS : ∀ j, S j → M.floor ≤ j) (hS1 : S M.nb.size) (hS2 : S (M.nb.size + 1)) (hv : oneCell v = true) (hb : (n + 1) * b ≤ 140737488355328) :
    ∃ A' c' M', appendP P #[t, t] (.slice A n c) (.slice (some ⟨2 * M.nb.size, 0, none⟩) 1 1) (M.new (.cells #[v] e)) = some (.slice A' (n + 1) c', M') ∧ Chg S M M' ∧ Own S M' e A' c' (L ++ [v]) ∧ n + 1 ≤ c' := by
  have hO' : Own S (M.new (.cells #[v] e)) e A (c * 1) L := by rw [Nat.mul_one]; exact hO.chg (T := fun _ => False) (.new _ _) fun _ _ _ h => h
  obtain ⟨A', c', M', g1, g2, g3, g4⟩ := append_own hE hO' (n := n) (by simp [hn]) (Row.new M e [v]) (k := 1) rfl (by simp [hv]) (fun j hj => hS j hj) (by rw [Mem.new_size]; exact hS2) (by simpa using hb)
  exact ⟨A', c', M', g1, (Chg.new M _).trans g2, by simpa using g3, g4⟩
/-- An element is appended to a row made since M0. -/
theorem app1 {P : Program} {t e : TypeId} {b : Nat} {z : Value} (hE : ElemS P t e 1 b z) {M0 M : Mem} (hf : M0.floor ≤ M0.nb.size) (K : Keep M0 M) {A : Option Addr} {n c : Nat} {L : List Value} {v : Value}
    (hO : Own (fun j => M0.nb.size ≤ j) M e A c L) (hn : n = L.length) (hv : oneCell v = true) (hb : (n + 1) * b ≤ 140737488355328) :
    ∃ A' c' M', appendP P #[t, t] (.slice A n c) (.slice (some ⟨2 * M.nb.size, 0, none⟩) 1 1) (M.new (.cells #[v] e)) = some (.slice A' (n + 1) c', M') ∧ Keep M0 M' ∧ Own (fun j => M0.nb.size ≤ j) M' e A' c' (L ++ [v]) ∧ n + 1 ≤ c' := by
  obtain ⟨A', c', M', g1, g2, g3, g4⟩ := app1S hE hO hn (fun j hj => by rw [K.floor]; exact Nat.le_trans hf hj) K.size (Nat.le_succ_of_le K.size) hv hb
  exact ⟨A', c', M', g1, K.step g2 fun j hj => hj, g3, g4⟩
/-- Rows of elements of s cells. -/
theorem flat_at {α : Type} {f : α → List Value} {s : Nat} (hf : ∀ x, (f x).length = s) : ∀ (l : List α) (i o : Nat), o < s → (l.flatMap f)[i * s + o]? = (l[i]?).bind fun x => (f x)[o]?
  | [], i, o, ho => by simp
  | x :: l, 0, o, ho => by
    rw [List.flatMap_cons, List.getElem?_append_left (by rw [hf]; omega)]; simp
  | x :: l, i + 1, o, ho => by
    rw [List.flatMap_cons, List.getElem?_append_right (by rw [hf, Nat.add_mul]; omega), hf, show (i + 1) * s + o - s = i * s + o by rw [Nat.add_mul]; omega, flat_at hf l i o ho]
    simp
theorem flat_len {α : Type} {f : α → List Value} {s : Nat} (hf : ∀ x, (f x).length = s) : ∀ l : List α, (l.flatMap f).length = l.length * s
  | [] => by simp
  | x :: l => by rw [List.flatMap_cons, List.length_append, hf, flat_len hf l, List.length_cons, Nat.add_mul]; omega
theorem Row.flat {M : Mem} {A : Option Addr} {α : Type} {f : α → List Value} {s : Nat} (hf : ∀ x, (f x).length = s) {l : List α} (hR : Row M A (l.flatMap f)) (hs : 0 < s) {n i : Nat} {z : Int} (hz : z = (i : Int)) (hn : i < n) (hi : i < l.length) :
    ∃ a, idxA A n s z = some a ∧ ∀ o, o < s → M.cell a.block (a.off + o) = (f l[i])[o]? := by
  obtain ⟨a, h1, h2⟩ := hR.elt (s := s) hz hn hs (by rw [flat_len hf]; have := Nat.mul_le_mul_right s (show i + 1 ≤ l.length by omega); rw [Nat.add_mul] at this; omega)
  exact ⟨a, h1, fun o ho => by rw [h2 o ho, flat_at hf l i o ho, List.getElem?_eq_getElem hi]; rfl⟩
theorem binV_rem {P : Program} {t tb : TypeId} {k : IntKind} {x y : Int} (hy : y ≠ 0) : binV P .rem t tb (.int k x) (.int k y) = some (.int k (x.tmod y)) := by
  have e : ∀ ρ : Operand → Value, ρ (.tmp 0) = .int k x → ρ (.tmp 1) = .int k y → nw P (execOp ρ ⟨none, .binOp .rem t (.tmp 0) (.tmp 1) tb, 0, "", #[], none⟩) = some (.value (.int k (x.tmod y))) := by
    intro ρ h1 h2
    simp [execOp, eqGuard, binOp, Op.intDiv, hy, nw, h1, h2]
    rfl
  unfold binV pureOp
  split
  · rw [e _ rfl rfl]; rfl
  · rename_i h; exact absurd rfl h
/-- Brought to 0 .. n - 1. -/
def brg (x n : Int) : Int := if n ≤ 0 then 0 else x % n
theorem brg_tmod {x n : Int} (hn : ¬ n ≤ 0) : (x.tmod n < 0 → x.tmod n + n = brg x n) ∧ (¬ x.tmod n < 0 → x.tmod n = brg x n) := by
  unfold brg
  rw [if_neg hn]
  have h1 := Int.tmod_eq_emod (a := x) (b := n)
  have h2 := Int.emod_nonneg x (show n ≠ 0 by omega)
  have h3 := Int.emod_lt_of_pos x (show 0 < n by omega)
  by_cases hc : 0 ≤ x ∨ n ∣ x
  · rw [if_pos hc] at h1
    exact ⟨fun h => by omega, fun h => by omega⟩
  · rw [if_neg hc] at h1
    have h4 : (n.natAbs : Int) = n := by omega
    exact ⟨fun h => by omega, fun h => by omega⟩
/-- The first elements of a new row, as a slice. -/
theorem slice_own {P : Program} {t e : TypeId} {s b : Nat} {z : Value} (hE : ElemS P t e s b z) {S : Nat → Prop} {M : Mem} {A : Option Addr} {L : List Value} {n c h : Nat} (hO : Own S M e A (c * s) L) (hnc : n ≤ c)
    {hi : Option Value} (hh : bound hi c n = some h) (hle : h ≤ n) (hs : hi.isSome = true) :
    ∃ A', sliceP P t (.slice A n c) none hi none = some (.slice A' h c) ∧ Own S M e A' (c * s) (L.take (h * s)) := by
  have e2 : ∀ y d, bound none y d = some d := fun _ _ => rfl
  have hp := hE.pos
  rcases hO with ⟨rfl, rfl, hc0⟩ | ⟨j, cs, sp, rfl, g2, g3, g4, g5, g6, g7⟩
  · have hc1 : c = 0 := by
      rcases Nat.mul_eq_zero.1 hc0 with h | h
      · exact h
      · omega
    subst hc1
    refine ⟨none, ?_, .inl ⟨rfl, by simp, by simp⟩⟩
    simp only [sliceP, hE.slice, e2, Option.bind_some, Option.isSome_none, Bool.and_false, Bool.false_eq_true, if_false, hh, hE.size]
    rw [if_pos ⟨by omega, trivial⟩, show h = 0 by omega]
  · have htake : cs.toList.take (L.take (h * s)).length = L.take (h * s) := by
      rw [List.length_take]
      have : (cs.toList.take L.length).take (min (h * s) L.length) = L.take (min (h * s) L.length) := by rw [g5]
      rw [List.take_take, Nat.min_eq_left (Nat.min_le_right _ _)] at this
      rw [this]
      by_cases hh' : h * s ≤ L.length
      · rw [Nat.min_eq_left hh']
      · rw [Nat.min_eq_right (by omega), List.take_length, List.take_of_length_le (by omega)]
    have hlen : (L.take (h * s)).length ≤ c * s := by rw [List.length_take]; exact Nat.le_trans (Nat.min_le_right _ _) g6
    have out : ∀ sp', (sp' = none ∨ sp' = some 0) → Own S M e (some ⟨2 * j, 0, sp'⟩) (c * s) (L.take (h * s)) := fun sp' hsp => .inr ⟨j, cs, sp', rfl, hsp, g3, g4, htake, hlen, g7⟩
    have e0 : sliceP P t (.slice (some ⟨2 * j, 0, sp⟩) n c) none hi none = cut s ⟨2 * j, 0, sp⟩ n false 0 h c := by
      simp only [sliceP, hE.slice, e2, Option.bind_some, Option.isSome_none, Bool.and_false, Bool.false_eq_true, if_false, hh, hE.size]
    rw [e0]
    unfold cut
    rw [if_neg (show ¬ (2 * j) % 2 = 1 by omega)]
    rcases g2 with rfl | rfl
    · rw [if_pos rfl]
      by_cases hcl : c = 0
      · rw [if_pos hcl]; exact ⟨_, rfl, out none (.inl rfl)⟩
      · rw [if_neg hcl]
        refine ⟨_, rfl, ?_⟩
        have := out none (.inl rfl)
        simpa using this
    · rw [if_neg (by simp)]
      simp only [Bool.false_eq_true, if_false]
      refine ⟨_, rfl, ?_⟩
      have := out (some 0) (.inr rfl)
      simpa using this
end Go.Sim
